/- FormatInt: an int's decimal numeral. -/
import Derived.Deep.RegionWith
import Derived.Deep.DeepCutAuto
import Derived.Test.YtjklefkkdaelnaaDoorStrOps
import Derived.Test.YtjklefkkdaelnaaDoorK2
import Derived.Test.YtjklefkkdaelnaaDoorShelf
import Derived.Lib.ItoaNum
import Derived.Lib.AppendIntMem
namespace Go.Proofs.YtjklefkkdaelnaaDoor
set_option linter.unusedVariables false
set_option linter.unusedSimpArgs false
open Go.RowKit
def itoaB (n : Int) : ByteArray := ⟨(Lib.itoa n).toArray⟩
theorem itoaB_nat (m : Nat) : itoaB (m : Int) = ⟨(Lib.decDigits m).toArray⟩ := by
  unfold itoaB Lib.itoa
  rw [if_neg (by omega), Int.toNat_natCast]
theorem itoaB_neg (m : Nat) (h : 0 < m) : itoaB (-(m : Int)) = ⟨(45 :: Lib.decDigits m).toArray⟩ := by
  unfold itoaB Lib.itoa
  rw [if_pos (by omega), Int.natAbs_neg, Int.natAbs_natCast]
theorem decDigits_small {m : Nat} (h : m < 10) : Lib.decDigits m = [dg m] := by
  rw [Lib.decDigits, dif_pos h, dg, Nat.mod_eq_of_lt h]
theorem decDigits_big {m : Nat} (h : ¬ m < 10) : Lib.decDigits m = Lib.decDigits (m / 10) ++ [dg m] := by
  rw [Lib.decDigits, dif_neg h, dg]
theorem decDigits_len (m : Nat) : (Lib.decDigits m).length ≤ m + 1 := by
  induction m using Nat.strongRecOn with
  | _ m ih =>
    by_cases h : m < 10
    · rw [decDigits_small h]; simp
    · rw [decDigits_big h, List.length_append]
      have := ih (m / 10) (by omega)
      simp; omega
abbrev Tab (w : World) : Prop := Lib.TabIs Tryd.prog w "internal/strconv.uint64pow10" .u64 Lib.pow10Tab
theorem tabB {w w' : World} {n : String} {k : IntKind} {zs : List Int} (h : Lib.TabIs Tryd.prog w n k zs) (b : Below w.heap.size w w') : Lib.TabIs Tryd.prog w' n k zs := Lib.tabBelow_of_tabIs h w' b
/-- string([]byte{b}), the byte told as a number -/
theorem conv_num (w : World) (m : Nat) (z : Int) (hz : z = 48 + (m : Int) % 10) : Sem.run Tryd.prog (convert 48 9 (.slice (some ⟨w.heap.size, 0, none⟩) 1 1)) (w.alloc (.cells #[.int .u8 z] 5)) =
    .ok (.string ⟨[dg m].toArray⟩) (w.alloc (.cells #[.int .u8 z] 5)) := by
  subst hz
  exact conv_one w m
theorem conv_at (w : World) (b : Nat) (m : Nat) (z : Int) (hz : z = 48 + (m : Int) % 10) (hc : w.cell? ⟨b, 0, none⟩ = some (.int .u8 z)) : Sem.run Tryd.prog (convert 48 9 (.slice (some ⟨b, 0, none⟩) 1 1)) w = .ok (.string ⟨[dg m].toArray⟩) w := by
  subst hz
  refine run_convert_bytes_back (P := Tryd.prog) _ 48 9 5 ⟨b, 0, none⟩ 1 [dg m] Tryd.underlying48 Tryd.underlying5 Tryd.underlying9 ?_
  intro j hj
  have hj0 : j = 0 := by simp at hj; exact hj
  subst hj0
  have e := dg_toNat m
  rw [Go.WideShapes.add_plain]
  show w.cell? ⟨b, 0, none⟩ = _
  rw [hc]
  simp [e]
theorem below_grow (w : World) (q : Nat) (os : Array Obj) : Below w.heap.size w (Sort.grow (w.drewN q) os) :=
  ⟨rfl, rfl, rfl, by first | (simp [Sort.grow]; done) | (simp [Sort.grow]; omega), fun i hi => by
    show ((w.drewN q).heap ++ os)[i]? = _
    rw [Array.getElem?_append_left (by show i < w.heap.size; omega)]
    rfl⟩
theorem implFormatInt_any (n : Int) (w : World) (hn : In64 n) (htab : Lib.TabIs Tryd.prog w "internal/strconv.uint64pow10" .u64 Lib.pow10Tab) : Calls Tryd.prog 49 #[.int .i64 n] w fun e w' => e = .returned (.string (itoaB n)) ∧ Below w.heap.size w w' := by
  go_enter Tryd.func49, Tryd.ntmps49
  go_wp2_with fail
  refine (Tryd.strconv_Itoa n hn.1 hn.2 _ htab).mono ?_
  rintro e W1 ⟨rfl, q, os, rfl⟩
  go_wp2
  go_ret
  exact ⟨rfl, below_grow _ _ _⟩
set_option maxRecDepth 100000 in
set_option maxHeartbeats 2000000 in
theorem specFormatInt_nat (n : Nat) (w : World) (hn : (n : Int) ≤ 9223372036854775807) : Calls Tryd.prog 63 #[.int .i64 n] w fun e w' => e = .returned (.string (itoaB n)) ∧ Below w.heap.size w w' := by
  go_enter Tryd.func63, Tryd.ntmps63
  go_wp2
  go_loopw [0, 3] (fun i o wr => ∃ (m : Nat) (l : List UInt8), i = .int .i64 m ∧ o = .string ⟨l.toArray⟩ ∧ 9 * l.length + m ≤ n ∧ Hid (Lib.decDigits m ++ l = Lib.decDigits n) ∧ Below w.heap.size w wr) (fun i _ _ => (intOf i).toNat)
  case atStart => exact ⟨n, [], rfl, rfl, by simp, by simp [Hid], Below.refl _ _⟩
  case round =>
    obtain ⟨m, l, rfl, rfl, hm, HD, hb⟩ := hrel
    have HBL := Lib.hid hb
    clear hb
    have hno : ¬ 9223372036854775807 < 1 + l.length := by omega
    have hconv := conv_num wr m
    by_cases h0 : 9 < m
    · have HR : Hid (Lib.decDigits (m / 10) ++ (dg m :: l) = Lib.decDigits n) := by
        have := HD.out
        rw [decDigits_big (by omega)] at this
        simpa [Hid] using this
      have hc1 := hconv _ rfl
      go_wp2
      go_roundw
      case rel => exact ⟨m / 10, dg m :: l, by simp, by rw [bytes_app]; rfl, by simp; omega, HR.out, HBL.out.alloc (by exact HBL.out.size) _⟩
      case measure => simp [intOf]; omega
    · have hc1 := hconv (48 + m) (by omega)
      go_wp2
      go_ret
      refine ⟨?_, HBL.out.alloc (by exact HBL.out.size) _⟩
      have hd := HD.out
      rw [decDigits_small (by omega)] at hd
      show Ending.returned (.string _) = _
      rw [itoaB_nat, ← hd, bytes_app]
theorem tdiv_neg10 (m : Nat) : (-(m : Int)).tdiv 10 = -((m / 10 : Nat) : Int) := by
  rw [Int.neg_tdiv, Int.tdiv_eq_ediv_of_nonneg (by omega)]; omega
theorem tmod_neg10 (m : Nat) : (-(m : Int)).tmod 10 = -((m % 10 : Nat) : Int) := by
  rw [Int.neg_tmod, Int.tmod_eq_emod_of_nonneg (by omega)]; omega
set_option maxRecDepth 100000 in
set_option maxHeartbeats 2000000 in
theorem specFormatInt_neg (m : Nat) (w : World) (hp : 0 < m) (hm : (m : Int) ≤ 9223372036854775808) : Calls Tryd.prog 63 #[.int .i64 (-(m : Int))] w fun e w' => e = .returned (.string (itoaB (-(m : Int)))) ∧ Below w.heap.size w w' := by
  induction m using Nat.strongRecOn generalizing w with
  | _ m ih =>
    rw [itoaB_neg m hp]
    by_cases h : m < 10
    · rw [decDigits_small h]
      have hq : (-(m : Int)).tdiv 10 = 0 := by rw [tdiv_neg10]; omega
      have hc1 := conv_num w m (48 - -(m : Int)) (by omega)
      have hc2 := conv_num w m (48 + (m : Int)) (by omega)
      go_enter Tryd.func63, Tryd.ntmps63
      go_wp2
      go_ret
      refine ⟨?_, (Below.refl _ _).alloc (Nat.le_refl _) _⟩
      show Ending.returned (.string _) = _
      rw [show (⟨#[45]⟩ : ByteArray) = ⟨[45].toArray⟩ from rfl, bytes_app]; rfl
    · rw [decDigits_big h]
      have IH : ∀ w, Calls Tryd.prog 63 #[.int .i64 (IntKind.i64.wrap (-((m : Int) / 10)))] w fun e w' => e = .returned (.string ⟨(45 :: Lib.decDigits (m / 10)).toArray⟩) ∧ Below w.heap.size w w' := fun w => by
        have := ih (m / 10) (by omega) w (by omega) (by omega)
        rw [itoaB_neg _ (by omega)] at this
        rw [show IntKind.i64.wrap (-((m : Int) / 10)) = -((m / 10 : Nat) : Int) by simp [IntKind.wrap, IntKind.bits, IntKind.signed]; omega]
        exact this
      have hlen := decDigits_len (m / 10)
      have hno : ¬ 9223372036854775807 < (Lib.decDigits (m / 10)).length + 1 + 1 := by omega
      have hz : IntKind.u8.wrap (IntKind.i64.wrap (48 + (m : Int).tmod 10)) = 48 + (m : Int) % 10 := by
        rw [Int.tmod_eq_emod_of_nonneg (by omega)]
        simp [IntKind.wrap, IntKind.bits, IntKind.signed]; omega
      have HZ := Lib.hid hz
      clear hz
      have hA1 : Sem.run Tryd.prog (convert 48 9 (.slice (some ⟨w.heap.size, 0, none⟩) 1 1)) (w.alloc (.cells #[.int .u8 (IntKind.u8.wrap (IntKind.i64.wrap (48 + (m : Int).tmod 10)))] 5)).drew = .ok (.string ⟨[dg m].toArray⟩) (w.alloc (.cells #[.int .u8 (IntKind.u8.wrap (IntKind.i64.wrap (48 + (m : Int).tmod 10)))] 5)).drew := conv_num w.drew m _ HZ.out
      clear hlen ih
      have HI := Lib.hid IH
      clear IH
      go_enter Tryd.func63, Tryd.ntmps63
      go_upto_region 4 with fail
      go_region_with ((go_at_call 63; refine (HI.out _).mono ?_; rintro e W1 ⟨rfl, b1⟩; have hB1 := conv_num W1 m _ HZ.out; try (have hB3 := conv_at W1 w.heap.size m _ HZ.out ((bx1_0 (w := w.drew) b1).cell 0 rfl))))
      all_goals (go_wp2; go_ret)
      all_goals (refine ⟨?_, by first | exact (bstep (Below.refl _ _).drew b1).alloc (bstep (Below.refl _ _).drew b1).size _ | exact bstep ((Below.refl _ _).alloc (Nat.le_refl _) _).drew b1⟩; show Ending.returned (.string ((⟨(45 :: Lib.decDigits (m / 10)).toArray⟩ : ByteArray) ++ ⟨[dg m].toArray⟩)) = _; rw [bytes_app]; rfl)
theorem specFormatInt_any (n : Int) (w : World) (hn : In64 n) : Calls Tryd.prog 63 #[.int .i64 n] w fun e w' => e = .returned (.string (itoaB n)) ∧ Below w.heap.size w w' := by
  unfold In64 at hn
  by_cases h : 0 ≤ n
  · obtain ⟨m, rfl⟩ : ∃ m : Nat, n = m := ⟨n.toNat, by omega⟩
    exact specFormatInt_nat m w (by omega)
  · obtain ⟨m, rfl⟩ : ∃ m : Nat, n = -(m : Int) := ⟨n.natAbs, by omega⟩
    exact specFormatInt_neg m w (by omega) (by omega)
end Go.Proofs.YtjklefkkdaelnaaDoor
