/- ParseBigInt: the reference. -/
import Derived.Test.YtjklefkkdaelnaaDoorParS
import Derived.Test.YtjklefkkdaelnaaDoorK4
namespace Go.Proofs.YtjklefkkdaelnaaDoor
set_option linter.unusedVariables false
set_option linter.unusedSimpArgs false
open Go.RowKit
def pbNeg (s : ByteArray) : Bool := decide (s.data.toList.head? = some 45)
def pbDig (s : ByteArray) : ByteArray := if pbNeg s then s.extract 1 s.size else s
def pbOk (s : ByteArray) : Bool := pnOk (pbDig s) && (!pbNeg s || decide (0 < (pnD (pbDig s)).length))
def pbV (s : ByteArray) : BI := if pbOk s then ⟨pbNeg s, pnD (pbDig s)⟩ else ⟨false, []⟩
theorem pb_no {s : ByteArray} (h : pbOk s = false) : pbV s = ⟨false, []⟩ := if_neg (by rw [h]; exact Bool.false_ne_true)
theorem pb_yes {s : ByteArray} (h : pbOk s = true) : pbV s = ⟨pbNeg s, pnD (pbDig s)⟩ := if_pos h
theorem pbV_len (s : ByteArray) : (pbV s).mag.length ≤ 60 := by
  cases h : pbOk s with
  | true => rw [pb_yes h]; exact pnD_len _
  | false => rw [pb_no h]; exact Nat.zero_le _
theorem pbNeg_nil : pbNeg ⟨#[]⟩ = false := rfl
theorem pnOk_nil : pnOk ⟨#[]⟩ = false := rfl
theorem pbNeg_yes {s : ByteArray} (h : 0 < s.size) (h0 : s[0] = 45) : pbNeg s = true ∧ pbDig s = s.extract 1 s.size := by
  have h1 : pbNeg s = true := by unfold pbNeg; rw [head_byte h, h0]; rfl
  exact ⟨h1, by unfold pbDig; rw [h1]; rfl⟩
theorem pbNeg_no {s : ByteArray} (h : 0 < s.size) (h0 : ¬ s[0] = 45) : pbNeg s = false ∧ pbDig s = s := by
  have h1 : pbNeg s = false := by unfold pbNeg; rw [head_byte h]; exact decide_eq_false (by simpa using h0)
  exact ⟨h1, by unfold pbDig; rw [h1]; rfl⟩
theorem tail_size (s : ByteArray) : (s.extract 1 s.size).size = s.size - 1 := by simp
theorem empty_of {s : ByteArray} (h : ¬ 0 < s.size) : s = ⟨#[]⟩ := by
  apply ByteArray.ext
  exact Array.eq_empty_of_size_eq_zero (by have : s.data.size = s.size := rfl; omega)
theorem not_empty {s : ByteArray} (h : 0 < s.size) : s.toList.isEmpty = false := by
  rw [ByteArray.toList_eq, List.isEmpty_eq_false_iff]
  intro e
  have h2 := congrArg List.length e
  rw [Array.length_toList] at h2
  have h3 : s.data.size = s.size := rfl
  rw [h3, List.length_nil] at h2; omega
theorem big_of_pn (n : Bool) (s : ByteArray) : bigOkB n (pnD s) = (!n || decide (0 < (pnD s).length)) := by unfold bigOkB; rw [pnD_ok]; rfl
set_option maxRecDepth 100000 in
set_option maxHeartbeats 1000000 in
theorem specParseBigInt_own (s : ByteArray) (w : World) (hs : s.size ≤ 1048576) : Calls Tryd.prog 33 #[.string s] w fun e w' => ∃ p c, e = .returned (.tuple #[.agg #[.bool (pbV s).neg, .slice p (pbV s).mag.length c], .bool (pbOk s)]) ∧ OwnI w' w.heap.size w'.heap.size (.slice p (pbV s).mag.length c) (pbV s).mag ∧ Below w.heap.size w w' := by
  by_cases hp : 0 < s.size
  case neg =>
    have := empty_of hp
    subst this
    have hk := pnOk_nil
    have HOK : pbOk ⟨#[]⟩ = false := rfl
    rw [pb_no HOK, HOK]
    clear HOK hp
    dsimp only [List.length_nil]
    go_enter Tryd.func33, Tryd.ntmps33
    go_wp2_with fail
    refine (specParseNat_own ⟨#[]⟩ _ hs).mono ?_
    rintro e W1 ⟨p, c, rfl, hO, b1⟩
    have Rr := bx1_0 b1
    have B := Lib.hid (bstep (ba1 _ _) b1)
    have sb1 := b1.size
    try simp at sb1
    have O := Lib.hid hO
    clear hO
    have Yr0 := Rr.cell 0 rfl
    have Yr1 := Rr.cell 1 rfl
    have Lr := Rr.lt
    have Fr0 := Rr.frozen 0
    have Fr1 := Rr.frozen 1
    clear b1
    go_wp2
    refine bodyPost_ret (v := .tuple #[.agg #[.bool false, .slice none 0 0], .bool false]) (by simp [results, Tryd.results33, go_sem, Yr0, Yr1, Lr]) rfl ⟨none, 0, rfl, zero_endR (by first | omega | (simp; done) | (simp; omega)) B.out _ _⟩
  have hpos : decide ((0 : Int) < (s.size : Int)) = true := decide_eq_true (by omega)
  have hse : s.toList.isEmpty = false := not_empty hp
  have hst : (s.extract 1 s.size).size ≤ 1048576 := by rw [tail_size]; omega
  by_cases h0 : s[0] = 45
  case pos =>
    obtain ⟨hneg, hdig⟩ := pbNeg_yes hp h0
    have h0' : ((s[0].toNat : Int) == 45) = true := by rw [h0]; rfl
    clear h0
    by_cases hk : pnOk (s.extract 1 s.size) = true
    case neg =>
      have hk' := Bool.eq_false_iff.2 hk
      have HOK : pbOk s = false := by unfold pbOk; rw [hdig, hk']; rfl
      rw [pb_no HOK, HOK]
      clear HOK hk hneg hdig
      dsimp only [List.length_nil]
      go_enter Tryd.func33, Tryd.ntmps33
      go_wp2_with fail
      refine (specParseNat_own (s.extract 1 s.size) _ hst).mono ?_
      rintro e W2 ⟨p, c, rfl, hO, b2⟩
      have Rr := bx1_0 b2
      have B := Lib.hid (bstep (ba1 _ _) b2)
      have sb2 := b2.size
      try simp at sb2
      have O := Lib.hid hO
      clear hO
      have Yr0 := Rr.cell 0 rfl
      have Yr1 := Rr.cell 1 rfl
      have Lr := Rr.lt
      have Fr0 := Rr.frozen 0
      have Fr1 := Rr.frozen 1
      clear b2
      go_wp2
      refine bodyPost_ret (v := .tuple #[.agg #[.bool false, .slice none 0 0], .bool false]) (by simp [results, Tryd.results33, go_sem, Yr0, Yr1, Lr]) rfl ⟨none, 0, rfl, zero_endR (by first | omega | (simp; done) | (simp; omega)) B.out _ _⟩
    by_cases hl : 0 < (pnD (s.extract 1 s.size)).length
    case neg =>
      have HOK : pbOk s = false := by unfold pbOk; rw [hdig, hk, hneg, decide_eq_false hl]; rfl
      have hbo : bigOkB true (pnD (s.extract 1 s.size)) = false := by rw [big_of_pn, decide_eq_false hl]; rfl
      have hz : (((pnD (s.extract 1 s.size)).length : Int) == 0) = true := beq_iff_eq.2 (by omega)
      rw [pb_no HOK, HOK]
      clear HOK hneg hdig hl
      dsimp only [List.length_nil]
      go_enter Tryd.func33, Tryd.ntmps33
      go_wp2_with fail
      refine (specParseNat_own (s.extract 1 s.size) _ hst).mono ?_
      rintro e W3 ⟨p, c, rfl, hO, b3⟩
      have Rr := bx1_0 b3
      have B := Lib.hid (bstep (ba1 _ _) b3)
      have sb3 := b3.size
      try simp at sb3
      have O := Lib.hid hO
      clear hO
      have Yr0 := Rr.cell 0 rfl
      have Yr1 := Rr.cell 1 rfl
      have Lr := Rr.lt
      have Fr0 := Rr.frozen 0
      have Fr1 := Rr.frozen 1
      clear b3
      go_wp2
      refine bodyPost_ret (v := .tuple #[.agg #[.bool false, .slice none 0 0], .bool false]) (by simp [results, Tryd.results33, go_sem, Yr0, Yr1, Lr]) rfl ⟨none, 0, rfl, zero_endR (by first | omega | (simp; done) | (simp; omega)) B.out _ _⟩
    have HOK : pbOk s = true := by unfold pbOk; rw [hdig, hk, hneg, decide_eq_true hl]; rfl
    have hbo : bigOkB true (pnD (s.extract 1 s.size)) = true := by rw [big_of_pn, decide_eq_true hl]; rfl
    have hz : (((pnD (s.extract 1 s.size)).length : Int) == 0) = false := beq_eq_false_iff_ne.2 (by omega)
    rw [pb_yes HOK, HOK, hneg, hdig]
    clear HOK hneg hdig hl
    dsimp only
    go_enter Tryd.func33, Tryd.ntmps33
    go_wp2_with fail
    refine (specParseNat_own (s.extract 1 s.size) _ hst).mono ?_
    rintro e W4 ⟨p, c, rfl, hO, b4⟩
    have Rr := bx1_0 b4
    have B := Lib.hid (bstep (ba1 _ _) b4)
    have sb4 := b4.size
    try simp at sb4
    have O := Lib.hid hO
    clear hO
    have Yr0 := Rr.cell 0 rfl
    have Yr1 := Rr.cell 1 rfl
    have Lr := Rr.lt
    have Fr0 := Rr.frozen 0
    have Fr1 := Rr.frozen 1
    clear b4
    go_wp2
    refine bodyPost_ret (v := .tuple #[.agg #[.bool true, .slice p (pnD (s.extract 1 s.size)).length c], .bool true]) (by simp [results, Tryd.results33, go_sem, Yr0, Yr1, Lr]) rfl ⟨p, c, rfl, big_endR (by first | omega | (simp; done) | (simp; omega)) (by first | omega | (simp; done) | (simp; omega)) O.out (by first | omega | (simp; done) | (simp; omega)) B.out _ _⟩
  obtain ⟨hneg, hdig⟩ := pbNeg_no hp h0
  have h0' : ((s[0].toNat : Int) == 45) = false := beq_eq_false_iff_ne.2 (fun e => h0 (UInt8.toNat_inj.1 (by have h45 : (45 : UInt8).toNat = 45 := rfl; omega)))
  clear h0
  by_cases hk : pnOk s = true
  case neg =>
    have hk' := Bool.eq_false_iff.2 hk
    have HOK : pbOk s = false := by unfold pbOk; rw [hdig, hk']; rfl
    rw [pb_no HOK, HOK]
    clear HOK hk hneg hdig
    dsimp only [List.length_nil]
    go_enter Tryd.func33, Tryd.ntmps33
    go_wp2_with fail
    refine (specParseNat_own s _ hs).mono ?_
    rintro e W5 ⟨p, c, rfl, hO, b5⟩
    have Rr := bx1_0 b5
    have B := Lib.hid (bstep (ba1 _ _) b5)
    have sb5 := b5.size
    try simp at sb5
    have O := Lib.hid hO
    clear hO
    have Yr0 := Rr.cell 0 rfl
    have Yr1 := Rr.cell 1 rfl
    have Lr := Rr.lt
    have Fr0 := Rr.frozen 0
    have Fr1 := Rr.frozen 1
    clear b5
    go_wp2
    refine bodyPost_ret (v := .tuple #[.agg #[.bool false, .slice none 0 0], .bool false]) (by simp [results, Tryd.results33, go_sem, Yr0, Yr1, Lr]) rfl ⟨none, 0, rfl, zero_endR (by first | omega | (simp; done) | (simp; omega)) B.out _ _⟩
  have HOK : pbOk s = true := by unfold pbOk; rw [hdig, hk, hneg]; rfl
  have hbo : bigOkB false (pnD s) = true := by rw [big_of_pn]; rfl
  rw [pb_yes HOK, HOK, hneg, hdig]
  clear HOK hneg hdig
  dsimp only
  go_enter Tryd.func33, Tryd.ntmps33
  go_wp2_with fail
  refine (specParseNat_own s _ hs).mono ?_
  rintro e W6 ⟨p, c, rfl, hO, b6⟩
  have Rr := bx1_0 b6
  have B := Lib.hid (bstep (ba1 _ _) b6)
  have sb6 := b6.size
  try simp at sb6
  have O := Lib.hid hO
  clear hO
  have Yr0 := Rr.cell 0 rfl
  have Yr1 := Rr.cell 1 rfl
  have Lr := Rr.lt
  have Fr0 := Rr.frozen 0
  have Fr1 := Rr.frozen 1
  clear b6
  go_wp2
  refine bodyPost_ret (v := .tuple #[.agg #[.bool false, .slice p (pnD s).length c], .bool true]) (by simp [results, Tryd.results33, go_sem, Yr0, Yr1, Lr]) rfl ⟨p, c, rfl, big_endR (by first | omega | (simp; done) | (simp; omega)) (by first | omega | (simp; done) | (simp; omega)) O.out (by first | omega | (simp; done) | (simp; omega)) B.out _ _⟩
theorem specParseBigInt_any (s : ByteArray) (w : World) (hs : s.size ≤ 1048576) : Calls Tryd.prog 33 #[.string s] w fun e w' => ∃ p c, e = .returned (.tuple #[.agg #[.bool (pbV s).neg, .slice p (pbV s).mag.length c], .bool (pbOk s)]) ∧ IntsAt w' p c (pbV s).mag ∧ Below w.heap.size w w' :=
  (specParseBigInt_own s w hs).mono fun _ _ ⟨p, c, h1, h2, h3⟩ => ⟨p, c, h1, h2.ints, h3⟩
end Go.Proofs.YtjklefkkdaelnaaDoor
