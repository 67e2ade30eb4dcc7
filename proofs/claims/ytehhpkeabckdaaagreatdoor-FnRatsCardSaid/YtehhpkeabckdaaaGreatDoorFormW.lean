/- FormatInt: an int's decimal numeral. -/
import Derived.Deep.RegionWith
import Derived.Deep.DeepCutAuto
import Derived.Test.YtehhpkeabckdaaaGreatDoorStrOps
import Derived.Test.YtehhpkeabckdaaaGreatDoorK2
import Derived.Test.YtehhpkeabckdaaaGreatDoorShelf
import Derived.Lib.ItoaNum
import Derived.Lib.AppendIntMem
namespace Go.Proofs.YtehhpkeabckdaaaGreatDoor
set_option linter.unusedVariables false
set_option linter.unusedSimpArgs false
open Go.RowKit
def itoaB (n : Int) : ByteArray := ⟨(Lib.itoa n).toArray⟩
theorem itoaB_nat (m : Nat) : itoaB (m : Int) = ⟨(Lib.decDigits m).toArray⟩ := by
  unfold itoaB Lib.itoa
  rw [if_neg (by omega), Int.toNat_natCast]
theorem itoaB_neg (m : Nat) (h : 0 < m) : itoaB (-(m : Int)) = ⟨(45 :: Lib.decDigits m).toArray⟩ := by
  unfold itoaB Lib.itoa
  rw [if_pos (by omega), Int.natAbs_neg, Int.natAbs_natCast]
theorem decDigits_small {m : Nat} (h : m < 10) : Lib.decDigits m = [dg m] := by
  rw [Lib.decDigits, dif_pos h, dg, Nat.mod_eq_of_lt h]
theorem decDigits_big {m : Nat} (h : ¬ m < 10) : Lib.decDigits m = Lib.decDigits (m / 10) ++ [dg m] := by
  rw [Lib.decDigits, dif_neg h, dg]
theorem decDigits_len (m : Nat) : (Lib.decDigits m).length ≤ m + 1 := by
  induction m using Nat.strongRecOn with
  | _ m ih =>
    by_cases h : m < 10
    · rw [decDigits_small h]; simp
    · rw [decDigits_big h, List.length_append]
      have := ih (m / 10) (by omega)
      simp; omega
abbrev Tab (w : World) : Prop := Lib.TabIs Tryz.prog w "internal/strconv.uint64pow10" .u64 Lib.pow10Tab
theorem tabB {w w' : World} {n : String} {k : IntKind} {zs : List Int} (h : Lib.TabIs Tryz.prog w n k zs) (b : Below w.heap.size w w') : Lib.TabIs Tryz.prog w' n k zs := Lib.tabBelow_of_tabIs h w' b
/-- string([]byte{b}), the byte told as a number -/
theorem conv_num (w : World) (m : Nat) (z : Int) (hz : z = 48 + (m : Int) % 10) : Sem.run Tryz.prog (convert 22 9 (.slice (some ⟨w.heap.size, 0, none⟩) 1 1)) (w.alloc (.cells #[.int .u8 z] 5)) =
    .ok (.string ⟨[dg m].toArray⟩) (w.alloc (.cells #[.int .u8 z] 5)) := by
  subst hz
  exact conv_one w m
theorem conv_at (w : World) (b : Nat) (m : Nat) (z : Int) (hz : z = 48 + (m : Int) % 10) (hc : w.cell? ⟨b, 0, none⟩ = some (.int .u8 z)) : Sem.run Tryz.prog (convert 22 9 (.slice (some ⟨b, 0, none⟩) 1 1)) w = .ok (.string ⟨[dg m].toArray⟩) w := by
  subst hz
  refine run_convert_bytes_back (P := Tryz.prog) _ 22 9 5 ⟨b, 0, none⟩ 1 [dg m] Tryz.underlying22 Tryz.underlying5 Tryz.underlying9 ?_
  intro j hj
  have hj0 : j = 0 := by simp at hj; exact hj
  subst hj0
  have e := dg_toNat m
  rw [Go.WideShapes.add_plain]
  show w.cell? ⟨b, 0, none⟩ = _
  rw [hc]
  simp [e]
theorem below_grow (w : World) (q : Nat) (os : Array Obj) : Below w.heap.size w (Sort.grow (w.drewN q) os) :=
  ⟨rfl, rfl, rfl, by first | (simp [Sort.grow]; done) | (simp [Sort.grow]; omega), fun i hi => by
    show ((w.drewN q).heap ++ os)[i]? = _
    rw [Array.getElem?_append_left (by show i < w.heap.size; omega)]
    rfl⟩
theorem implFormatInt_any (n : Int) (w : World) (hn : In64 n) (htab : Lib.TabIs Tryz.prog w "internal/strconv.uint64pow10" .u64 Lib.pow10Tab) : Calls Tryz.prog 51 #[.int .i64 n] w fun e w' => e = .returned (.string (itoaB n)) ∧ Below w.heap.size w w' := by
  go_enter Tryz.func51, Tryz.ntmps51
  go_wp2_with fail
  refine (Tryz.strconv_Itoa n hn.1 hn.2 _ htab).mono ?_
  rintro e W1 ⟨rfl, q, os, rfl⟩
  go_wp2
  go_ret
  exact ⟨rfl, below_grow _ _ _⟩
theorem tdiv_neg10 (m : Nat) : (-(m : Int)).tdiv 10 = -((m / 10 : Nat) : Int) := by
  rw [Int.neg_tdiv, Int.tdiv_eq_ediv_of_nonneg (by omega)]; omega
theorem tmod_neg10 (m : Nat) : (-(m : Int)).tmod 10 = -((m % 10 : Nat) : Int) := by
  rw [Int.neg_tmod, Int.tmod_eq_emod_of_nonneg (by omega)]; omega
end Go.Proofs.YtehhpkeabckdaaaGreatDoor
