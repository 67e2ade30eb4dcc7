/- Slices of strings in a law: holding against, marking. -/
import Derived.Test.YtjklefkkdaelnaaDoorStrs
import Derived.Laws.IdiomStrings
import Derived.Deep.RegionHeld3
namespace Go.Proofs.YtjklefkkdaelnaaDoor
set_option linter.unusedVariables false
set_option linter.unusedSimpArgs false
open Go.RowKit
set_option maxHeartbeats 1000000 in
theorem eqStringS_same (a : Option Addr) (ca : Nat) (b : Option Addr) (cb : Nat) (xs : List ByteArray) (w : World) (ha : StrsAt w a ca xs) (hb : StrsAt w b cb xs) (hn : xs.length ≤ 2000000) :
    Calls Tryd.prog 15 #[.slice a xs.length ca, .slice b xs.length cb] w fun e w' => e = .returned (.bool true) ∧ Below w.heap.size w w' := by
  have HA := Lib.hid ha
  have HB := Lib.hid hb
  clear ha hb
  go_enter Tryd.func15, Tryd.ntmps15
  go_wp2
  go_loopw [5] (fun i wr => ∃ k : Nat, k ≤ xs.length ∧ i = .int .i64 k ∧ Below w.heap.size w wr) (fun i _ => xs.length - (intOf i).toNat)
  case atStart => exact ⟨0, Nat.zero_le _, rfl, Below.refl _ _⟩
  case round =>
    obtain ⟨k, hk, rfl, hbl⟩ := hrel
    have HBL := Lib.hid hbl
    clear hbl
    by_cases hlt : k < xs.length
    · obtain ⟨b1, off1, rfl, hc1⟩ := (HA.out.below HBL.out).get hlt
      obtain ⟨b2, off2, rfl, hc2⟩ := (HB.out.below HBL.out).get hlt
      go_wp2
      go_quiet (fail)
      go_wp2
      go_roundw
      case rel => exact ⟨k + 1, by omega, by go_num, HBL.out.trans (below_drewN (Below.refl _ _) _)⟩
      case measure => simp [intOf]; omega
    · go_wp2
      go_ret
      exact ⟨rfl, HBL.out⟩

def dg (n : Nat) : UInt8 := UInt8.ofNat (48 + n % 10)
theorem dg_toNat (n : Nat) : (dg n).toNat = 48 + n % 10 := by unfold dg; simp; omega
/-- the decimal digits of a number; none for 0 -/
def dec (n : Nat) : List UInt8 := if h : n = 0 then [] else dec (n / 10) ++ [dg n]
decreasing_by exact Nat.div_lt_self (by omega) (by omega)
theorem dec_zero : dec 0 = [] := by rw [dec]; simp
theorem dec_pos {n : Nat} (h : 0 < n) : dec n = dec (n / 10) ++ [dg n] := by rw [dec]; simp [show n ≠ 0 by omega]
def mtext (k : Nat) : ByteArray := ⟨(109 :: dec k).toArray⟩
theorem conv_one (w : World) (m : Nat) : Sem.run Tryd.prog (convert 48 9 (.slice (some ⟨w.heap.size, 0, none⟩) 1 1)) (w.alloc (.cells #[.int .u8 (48 + (m : Int) % 10)] 5)) =
    .ok (.string ⟨[dg m].toArray⟩) (w.alloc (.cells #[.int .u8 (48 + (m : Int) % 10)] 5)) := by
  refine run_convert_bytes_back (P := Tryd.prog) _ 48 9 5 ⟨w.heap.size, 0, none⟩ 1 [dg m] Tryd.underlying48 Tryd.underlying5 Tryd.underlying9 ?_
  intro j hj
  have hj0 : j = 0 := by simp at hj; exact hj
  subst hj0
  have e := dg_toNat m
  rw [Go.WideShapes.add_plain, World.cell?_alloc_at _ _ _ _ rfl]
  simp [e]
theorem bytes_app (l r : List UInt8) : ((⟨l.toArray⟩ : ByteArray) ++ ⟨r.toArray⟩) = ⟨(l ++ r).toArray⟩ := by
  apply ByteArray.ext
  simp [ByteArray.data_append]
set_option maxHeartbeats 2000000 in
theorem markText_any (k : Nat) (w : World) (hk : 0 < k) (hk1 : k ≤ 2000000000) : Calls Tryd.prog 61 #[.int .i64 k] w fun e w' => e = .returned (.string (mtext k)) ∧ Below w.heap.size w w' := by
  have hkz : decide (k = 0) = false := decide_eq_false (by omega)
  go_enter Tryd.func61, Tryd.ntmps61
  go_wp2
  go_loopw [0, 3] (fun i o wr => ∃ (m : Nat) (l : List UInt8), m + l.length ≤ k ∧ i = .int .i64 m ∧ o = .string ⟨l.toArray⟩ ∧ dec m ++ l = dec k ∧ Below w.heap.size w wr) (fun i _ _ => (intOf i).toNat)
  case atStart => exact ⟨k, [], by simp, rfl, rfl, by simp, Below.refl _ _⟩
  case round =>
    obtain ⟨m, l, hm, rfl, rfl, hd, hb⟩ := hrel
    have HD := Lib.hid hd
    have HBL := Lib.hid hb
    clear hd hb
    have hno : ¬ 9223372036854775807 < 1 + l.length := by omega
    by_cases h0 : 0 < m
    · have hconv := conv_one wr m
      have HR : Hid (dec (m / 10) ++ (dg m :: l) = dec k) := by
        have := HD.out
        rw [dec_pos h0] at this
        simpa [Hid] using this
      go_wp2
      go_roundw
      case rel => exact ⟨m / 10, dg m :: l, by simp; omega, by simp, by rw [bytes_app]; rfl, HR.out, HBL.out.alloc (by exact HBL.out.size) _⟩
      case measure => simp [intOf]; omega
    · have hm0 : m = 0 := by omega
      subst hm0
      go_wp2
      go_ret
      refine ⟨?_, HBL.out⟩
      have := HD.out
      rw [dec_zero, List.nil_append] at this
      subst this
      rw [mtext]
      congr 1

theorem markText_i (z : Int) (w : World) (hk : 0 < z) (hk1 : z ≤ 2000000000) : Calls Tryd.prog 61 #[.int .i64 z] w fun e w' => e = .returned (.string (mtext z.toNat)) ∧ Below w.heap.size w w' := by
  have h := markText_any z.toNat w (by omega) (by omega)
  rw [Int.toNat_of_nonneg (by omega)] at h
  exact h
theorem cellD {W W' : World} {B j : Nat} {v : Value} (h : W.cell? ⟨B, j, none⟩ = some v) (b : Below W.drew.heap.size W.drew W') : W'.cell? ⟨B, j, none⟩ = some v := by
  rw [b.cell (p := ⟨B, j, none⟩) (World.block_lt_of_cell? W _ h)]; exact h
def smarks (k : Int) (n : Nat) : List Value := (List.range n).map fun (i : Nat) => Value.string (mtext (k + i).toNat)
def smarked (k : Int) (xs : List Value) (j : Nat) : List Value := smarks k j ++ xs.drop j
theorem smarked_zero (k : Int) (xs : List Value) : smarked k xs 0 = xs := by simp [smarked, smarks]
theorem smarked_all (k : Int) (xs : List Value) : smarked k xs xs.length = smarks k xs.length := by simp [smarked]
theorem smarked_set (k : Int) (xs : List Value) (j : Nat) (hj : j < xs.length) : (smarked k xs j).set j (.string (mtext (k + j).toNat)) = smarked k xs (j + 1) := by
  unfold smarked
  rw [List.set_append_right _ _ (by simp [smarks])]
  simp only [smarks, List.length_map, List.length_range, Nat.sub_self]
  rw [List.drop_eq_getElem_cons hj, List.set_cons_zero, List.range_succ, List.map_append, List.append_assoc]; rfl
def OwnS (w : World) (lo hi : Nat) (v : Value) (xs : List ByteArray) : Prop := OwnStr w lo v xs ∧ InR hi v
def MarkS (w : World) (lo hi : Nat) (v : Value) (n : Nat) (k : Int) : Prop := w.ownsRow lo 9 1 v n (smarks k n) ∧ InR hi v
section
variable {w w' : World} {lo hi lo2 hi2 : Nat} {u v : Value} {xs : List ByteArray} {n : Nat} {k : Int} {a : Option Addr} {c : Nat}
theorem srow_span {vs : List Value} (h : w.ownsRow lo 9 1 v n vs) (hh : InR hi v) (s : Span lo2 hi2 w w') (ho : hi ≤ lo2 ∨ hi2 ≤ lo) : w'.ownsRow lo 9 1 v n vs := by
  refine ⟨h.1, ?_⟩
  rcases h.2 with hn | ⟨g, cap, cur, rfl, hbg, hg, rest⟩
  · exact .inl hn
  · have hl := hh g (by simp [Value.ownBlock])
    exact .inr ⟨g, cap, cur, rfl, hbg, by rw [s.block g (Array.getElem?_eq_some_iff.1 hg).1 (by omega)]; exact hg, rest⟩
theorem OwnStr.toS (h : OwnStr w lo v xs) : OwnS w lo w.heap.size v xs := by
  have h' : w.ownsRow lo 9 1 v xs.length (xs.map Value.string) := h
  exact ⟨h, fun k hk => (h'.lt k hk).2⟩
theorem OwnS.below (h : OwnS w lo hi v xs) (b : Below w.heap.size w w') : OwnS w' lo hi v xs := ⟨h.1.below b, h.2⟩
theorem MarkS.below (h : MarkS w lo hi v n k) (b : Below w.heap.size w w') : MarkS w' lo hi v n k := ⟨ownsRow_below (e := 9) h.1 b, h.2⟩
theorem OwnS.mono (h : OwnS w lo hi v xs) (h1 : lo2 ≤ lo) (h2 : hi ≤ hi2) : OwnS w lo2 hi2 v xs := ⟨h.1.base h1, fun k hk => Nat.lt_of_lt_of_le (h.2 k hk) h2⟩
theorem OwnS.span (h : OwnS w lo hi v xs) (s : Span lo2 hi2 w w') (ho : hi ≤ lo2 ∨ hi2 ≤ lo) : OwnS w' lo hi v xs := ⟨srow_span h.1 h.2 s ho, h.2⟩
theorem MarkS.span (h : MarkS w lo hi v n k) (s : Span lo2 hi2 w w') (ho : hi ≤ lo2 ∨ hi2 ≤ lo) : MarkS w' lo hi v n k := ⟨srow_span h.1 h.2 s ho, h.2⟩
theorem OwnS.i1 (h : OwnS w lo hi (.slice a xs.length c) xs) : StrsAt w a c xs := by
  obtain ⟨a', c', e, h1⟩ := h.1.form
  simp only [Value.slice.injEq, true_and] at e
  obtain ⟨rfl, rfl⟩ := e
  exact h1
end
set_option maxHeartbeats 2000000 in
theorem markStringS_own {lo hi : Nat} (a : Option Addr) (cap : Nat) (xs : List ByteArray) (k : Int) (w : World) (ha : OwnS w lo hi (.slice a xs.length cap) xs) (hn : xs.length ≤ 2000000) (hk0 : 1 ≤ k) (hk1 : k ≤ 1000000000) :
    Calls Tryd.prog 16 #[.slice a xs.length cap, .int .i64 k] w fun e w' => e = .returned (.int .i64 (k + xs.length)) ∧ MarkS w' lo hi (.slice a xs.length cap) xs.length k ∧ Span lo hi w w' := by
  obtain ⟨h1, h2⟩ := ha
  have h1' : w.ownsRow lo 9 1 (.slice a xs.length cap) xs.length (xs.map Value.string) := h1
  have HO := Lib.hid h1'
  have HI := Lib.hid h2
  have HL : Hid ((xs.map Value.string).length = xs.length) := by unfold Hid; simp
  clear h1 h1' h2
  go_enter Tryd.func16, Tryd.ntmps16
  go_wp2
  go_loopw [1, 5] (fun q i wr => ∃ j : Nat, j ≤ xs.length ∧ i = .int .i64 j ∧ q = .int .i64 (k + j) ∧ Hid (wr.ownsRow lo 9 1 (.slice a xs.length cap) xs.length (smarked k (xs.map Value.string) j)) ∧ Hid (Span lo hi w wr)) (fun _ i _ => xs.length - (intOf i).toNat)
  case atStart => exact ⟨0, Nat.zero_le _, rfl, by simp, by rw [smarked_zero]; exact HO.out, Span.refl _ _ _⟩
  case round =>
    obtain ⟨j, hj, rfl, rfl, R, S⟩ := hrel
    by_cases hlt : j < xs.length
    · obtain ⟨g, rfl⟩ : ∃ g, a = some ⟨g, 0, none⟩ := by
        rcases HO.out.2 with ⟨_, h⟩ | ⟨g, _, _, h, _⟩
        · omega
        · simp only [Value.slice.injEq] at h; exact ⟨g, h.1⟩
      have hg1 := (HO.out.lt g (by simp [Value.ownBlock])).1
      have hg2 := HI.out g (by simp [Value.ownBlock])
      go_wp2_with fail
      refine (markText_i (k + j) _ (by omega) (by omega)).mono ?_
      rintro e W1 ⟨rfl, b1⟩
      have R1 := Lib.hid (ownsRow_below (e := 9) R.out b1)
      have S1 := Lib.hid (S.out.trans (Span.of_below b1))
      have hc : W1.cell? ⟨g, j, none⟩ = (smarked k (xs.map Value.string) j)[j]? := R1.out.cellAt j (by omega)
      obtain ⟨u, hu⟩ : ∃ u, (smarked k (xs.map Value.string) j)[j]? = some u := by
        have hlen : (smarked k (xs.map Value.string) j).length = xs.length := by have := R1.out.1; simpa using this
        exact ⟨_, List.getElem?_eq_getElem (by rw [hlen]; exact hlt)⟩
      have hc2 : W1.cell? ⟨g, j, none⟩ = some u := by rw [hc, hu]
      have hfz := R1.out.frozenAt j
      clear hc hu b1
      go_wp2
      go_roundw
      case rel =>
        have h := R1.out.stored j (.string (mtext (k + j).toNat))
        rw [smarked_set k _ j (by rw [HL.out]; exact hlt)] at h
        refine ⟨j + 1, by omega, by go_num, by congr 1; omega, h.1, S1.out.trans ⟨rfl, rfl, rfl, by simp, fun q hq ho => Below.heap_setCell _ _ _ _ (by simp; omega)⟩⟩
      case measure => simp [intOf]; omega
    · go_wp2
      go_ret
      obtain rfl : j = xs.length := by omega
      have h := R.out
      have h2 := smarked_all k (xs.map Value.string)
      rw [HL.out] at h2
      rw [h2] at h
      exact ⟨rfl, ⟨h, HI.out⟩, S.out⟩
set_option maxHeartbeats 2000000 in
theorem heldStringS_own2 {lo hi : Nat} (a : Option Addr) (cap n : Nat) (k : Int) (w : World) (ha : MarkS w lo hi (.slice a n cap) n k) (hn : n ≤ 2000000) (hk0 : 1 ≤ k) (hk1 : k ≤ 1000000000) :
    Calls Tryd.prog 17 #[.slice a n cap, .int .i64 k] w fun e w' => e = .returned (.int .i64 (k + n)) ∧ Below w.heap.size w w' := by
  have HA := Lib.hid ha.1
  clear ha
  go_enter Tryd.func17, Tryd.ntmps17
  go_wp2
  go_loopw [1, 5] (fun q i wr => ∃ j : Nat, j ≤ n ∧ i = .int .i64 j ∧ q = .int .i64 (k + j) ∧ Hid (Below w.heap.size w wr)) (fun _ i _ => n - (intOf i).toNat)
  case atStart => exact ⟨0, Nat.zero_le _, rfl, by simp, Below.refl _ _⟩
  case round =>
    obtain ⟨j, hj, rfl, rfl, BL⟩ := hrel
    by_cases hlt : j < n
    · obtain ⟨g, rfl⟩ : ∃ g, a = some ⟨g, 0, none⟩ := by
        rcases HA.out.2 with ⟨_, h⟩ | ⟨g, _, _, h, _⟩
        · omega
        · simp only [Value.slice.injEq] at h; exact ⟨g, h.1⟩
      have R1 := ownsRow_below (e := 9) HA.out BL.out
      have hc : wr.cell? ⟨g, j, none⟩ = some (.string (mtext (k + j).toNat)) := by rw [R1.cellAt j (by omega)]; simp [smarks, hlt]
      clear R1
      go_wp2_with fail
      go_region_held3 (fun w' => w'.cell? ⟨g, j, none⟩ = some (.string (mtext (k + j).toNat)))
        ((first | exact hc | exact cellD hc b1))
        (first | (go_at_call 61; refine (markText_i (k + j) _ (by omega) (by omega)).mono ?_; rintro e W1 ⟨rfl, b1⟩))
      all_goals go_wp2
      go_roundw
      case rel => exact ⟨j + 1, by omega, by go_num, by congr 1; omega, bstep BL.out.drew b1⟩
      case measure => simp [intOf]; omega
    · go_wp2
      go_ret
      obtain rfl : j = n := by omega
      exact ⟨rfl, BL.out⟩
end Go.Proofs.YtjklefkkdaelnaaDoor
