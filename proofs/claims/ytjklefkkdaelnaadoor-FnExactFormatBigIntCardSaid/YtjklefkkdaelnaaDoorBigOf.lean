/- BigIntOf. -/
import Derived.Test.YtjklefkkdaelnaaDoorBigNeg
import Derived.Test.YtjklefkkdaelnaaDoorNatOf
namespace Go.Proofs.YtjklefkkdaelnaaDoor
set_option linter.unusedVariables false
set_option linter.unusedSimpArgs false
open Go.RowKit

def bigOf (n : Int) : BI := mkBI (decide (n < 0)) (digs n.natAbs)
theorem digs3 {n : Int} (h : In64 n) : (digs n.natAbs).length ≤ 3 := digs_len_le (by unfold In64 at h; unfold pw; omega)
theorem bigOf_len (n : Int) (h : In64 n) : (bigOf n).mag.length ≤ 1048576 := by have := digs3 h; show (digs n.natAbs).length ≤ _; omega
theorem capD_digs {m : Nat} (h : (digs m).length ≤ 60) : capD m = digs m := by unfold capD; rw [if_pos h]

theorem ints_lit (w : World) (xs : List Int) (h : ∀ x ∈ xs, In64 x) (hm : xs.length ≤ maxLen) : IntsAt (w.alloc (.cells (xs.map (Value.int .i64)).toArray 3)) (some ⟨w.heap.size, 0, none⟩) xs.length xs := by
  refine ⟨h, Nat.le_refl _, hm, (fun h => by cases h), .inr ⟨w.heap.size, 0, rfl, by simp, fun j hj => ?_⟩⟩
  rw [World.cell?_alloc_at _ _ _ _ rfl]
  simp [hj]

/-- the result's box behind a call: a value of two cells is stored into it -/
theorem big_end {w w1 w2 : World} {n : Bool} {p : Option Addr} {c lo : Nat} {xs : List Int} (hlo : w.heap.size < lo) (ho : OwnI w2 lo w2.heap.size (.slice p xs.length c) xs) (b : Below w.heap.size w w2) (u1 u2 : Value) :
    OwnI ((w2.setCell ⟨w.heap.size, 0, none⟩ u1).setCell ⟨w.heap.size, 1, none⟩ u2) w.heap.size ((w2.setCell ⟨w.heap.size, 0, none⟩ u1).setCell ⟨w.heap.size, 1, none⟩ u2).heap.size (.slice p xs.length c) xs ∧
      Below w.heap.size w ((w2.setCell ⟨w.heap.size, 0, none⟩ u1).setCell ⟨w.heap.size, 1, none⟩ u2) :=
  ⟨((ho.low hlo _).low hlo _).mono (by omega) (by simp), (b.setCell (by simp) _).setCell (by simp) _⟩

section
variable (n : Int) (w : World) (hn : In64 n)
include hn
set_option maxHeartbeats 1000000 in
theorem specBigIntOf_own : Calls Tryd.prog 123 #[.int .i64 n] w fun e w' => ∃ p c', e = .returned (.agg #[.bool (bigOf n).neg, .slice p (bigOf n).mag.length c']) ∧
    OwnI w' w.heap.size w'.heap.size (.slice p (bigOf n).mag.length c') (bigOf n).mag ∧ Below w.heap.size w w' := by
  have hn' := hn
  unfold In64 at hn
  by_cases h0 : n = -9223372036854775808
  · have hv : val [854775808, 223372036, 9] = n.natAbs := by simp [val]; omega
    have HM : Hid (bigOf n = mkBI true (capD (val [854775808, 223372036, 9]))) := by
      have := digs3 hn'
      rw [Hid, bigOf, hv, capD_digs (by omega), decide_eq_true (by omega : n < 0)]
    have HR : Hid (Rng [854775808, 223372036, 9]) := by unfold Hid; intro x hx; simp at hx; omega
    have hne : (n == -9223372036854775808) = true := by simp [h0]
    clear hv h0
    go_enter Tryd.func123, Tryd.ntmps123
    go_wp2_with fail
    have HI := ints_lit (w.alloc (Obj.cells #[Value.bool false, Value.slice none 0 0] 39)) [854775808, 223372036, 9] (fun x hx => by simp at hx; unfold In64; omega) (by simp [maxLen])
    simp only [List.map_cons, List.map_nil, List.length_cons, List.length_nil, World.size_alloc] at HI
    refine (l03Make_any true _ _ _ _ HI (by simp) HR.out).mono ?_
    rintro e w2 ⟨p2, c2, rfl, ho, b2⟩
    have R2 := box_new1 b2
    have Y0 := R2.cell 0 rfl
    have Y1 := R2.cell 1 rfl
    have F0 := R2.frozen 0
    have F1 := R2.frozen 1
    have hz := R2.lt
    have HO := Lib.hid (big_end (w1 := w) (n := true) (by simp; omega) ho (bstep (ba2 _ _ _) b2))
    clear ho b2 HI
    go_wp2
    refine bodyPost_ret (v := .agg #[.bool (mkBI true (capD (val [854775808, 223372036, 9]))).neg, .slice p2 (capD (val [854775808, 223372036, 9])).length c2]) (by simp [results, Tryd.results123, go_sem, Y0, Y1, hz]) rfl ⟨p2, c2, by rw [HM.out]; rfl, ?_, (HO.out _ _).2⟩
    rw [HM.out]
    exact (HO.out _ _).1
  · by_cases h1 : n < 0
    · have HM : Hid (bigOf n = mkBI true (capD (val (digs (-n).toNat)))) := by
        have := digs3 hn'
        rw [Hid, bigOf, val_digs, show (-n).toNat = n.natAbs by omega, capD_digs (by omega), decide_eq_true h1]
      have hne : (n == -9223372036854775808) = false := by simp [h0]
      have HL := Lib.hid (digs3 hn')
      have HW : Hid (wrap64 (-n) = -n) := by unfold Hid wrap64; omega
      have HEq : Hid ((-n).toNat = n.natAbs) := by unfold Hid; omega
      have HU : Hid (-n ≤ 9223372036854775807) := by unfold Hid; omega
      clear h0
      go_enter Tryd.func123, Tryd.ntmps123
      go_wp2_with fail
      rw [HW.out]
      refine (specNatOf_own (-n) _ HU.out).mono ?_
      rintro e w1 ⟨v, rfl, ho, b1⟩
      obtain ⟨p, c, rfl, hi⟩ := ho.form
      have HI := Lib.hid hi
      have R1 := box_new0 b1
      have B1 := Lib.hid (bstep (ba1 _ _) b1)
      clear ho b1 hi
      go_wp2_with fail
      refine (l03Make_any true p c _ _ HI.out (by rw [HEq.out]; have := HL.out; omega) (digs_rng _)).mono ?_
      rintro e w2 ⟨p2, c2, rfl, ho, b2⟩
      have R2 := box_step R1 b2
      have Y0 := R2.cell 0 rfl
      have Y1 := R2.cell 1 rfl
      have F0 := R2.frozen 0
      have F1 := R2.frozen 1
      have hz := R2.lt
      have HB := Lib.hid (bstep B1.out b2)
      have HO := Lib.hid (big_end (w1 := w) (n := true) R1.lt ho (bstep B1.out b2))
      clear ho b2
      go_wp2
      refine bodyPost_ret (v := .agg #[.bool (mkBI true (capD (val (digs (-n).toNat)))).neg, .slice p2 (capD (val (digs (-n).toNat))).length c2]) (by simp [results, Tryd.results123, go_sem, Y0, Y1, hz]) rfl ⟨p2, c2, by rw [HM.out]; rfl, ?_, (HO.out _ _).2⟩
      rw [HM.out]
      exact (HO.out _ _).1
    · have HM : Hid (bigOf n = mkBI false (capD (val (digs n.toNat)))) := by
        have := digs3 hn'
        rw [Hid, bigOf, val_digs, show n.toNat = n.natAbs by omega, capD_digs (by omega), decide_eq_false h1]
      have hne : (n == -9223372036854775808) = false := by simp [h0]
      have HL := Lib.hid (digs3 hn')
      have HEq : Hid (n.toNat = n.natAbs) := by unfold Hid; omega
      clear h0
      go_enter Tryd.func123, Tryd.ntmps123
      go_wp2_with fail
      refine (specNatOf_own n _ (by omega)).mono ?_
      rintro e w1 ⟨v, rfl, ho, b1⟩
      obtain ⟨p, c, rfl, hi⟩ := ho.form
      have HI := Lib.hid hi
      have R1 := box_new0 b1
      have B1 := Lib.hid (bstep (ba1 _ _) b1)
      clear ho b1 hi
      go_wp2_with fail
      refine (l03Make_any false p c _ _ HI.out (by rw [HEq.out]; have := HL.out; omega) (digs_rng _)).mono ?_
      rintro e w2 ⟨p2, c2, rfl, ho, b2⟩
      have R2 := box_step R1 b2
      have Y0 := R2.cell 0 rfl
      have Y1 := R2.cell 1 rfl
      have F0 := R2.frozen 0
      have F1 := R2.frozen 1
      have hz := R2.lt
      have HO := Lib.hid (big_end (w1 := w) (n := true) R1.lt ho (bstep B1.out b2))
      clear ho b2
      go_wp2
      refine bodyPost_ret (v := .agg #[.bool (mkBI false (capD (val (digs n.toNat)))).neg, .slice p2 (capD (val (digs n.toNat))).length c2]) (by simp [results, Tryd.results123, go_sem, Y0, Y1, hz]) rfl ⟨p2, c2, by rw [HM.out]; rfl, ?_, (HO.out _ _).2⟩
      rw [HM.out]
      exact (HO.out _ _).1

theorem specBigIntOf_any : Calls Tryd.prog 123 #[.int .i64 n] w fun e w' => ∃ p c', e = .returned (.agg #[.bool (bigOf n).neg, .slice p (bigOf n).mag.length c']) ∧
    IntsAt w' p c' (bigOf n).mag ∧ Below w.heap.size w w' :=
  (specBigIntOf_own n w hn).mono fun _ _ ⟨p, c', h1, h2, h3⟩ => ⟨p, c', h1, h2.ints, h3⟩
end
end Go.Proofs.YtjklefkkdaelnaaDoor
