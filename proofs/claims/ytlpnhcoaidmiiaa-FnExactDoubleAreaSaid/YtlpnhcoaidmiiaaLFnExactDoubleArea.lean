/- For every input the law FnExactDoubleArea returns true, and its arguments read afterwards as they read before. No condition. -/
import Derived.Deep.RegionHeld3
import Derived.Deep.DeepCutAuto
import Derived.Test.YtlpnhcoaidmiiaaFrameA
import Derived.Test.YtlpnhcoaidmiiaaLaws2
import Derived.Test.YtlpnhcoaidmiiaaPtI
namespace Go.Proofs.Ytlpnhcoaidmiiaa.fnExactDoubleArea
set_option linter.unusedVariables false
set_option linter.unusedSimpArgs false
open Go.ChangeShapes Go.WideShapes Go.ChangeAt Go.RowKit
open Go.ChangeMaps (open_string shut_string)

set_option maxRecDepth 100000 in
set_option maxHeartbeats 8000000 in
theorem walk (n00 : Bool) (a000 : Option Addr) (c000 : Nat) (x000 : List Int) (a001 : Option Addr) (c001 : Nat) (x001 : List Int) (n01 : Bool) (a010 : Option Addr) (c010 : Nat) (x010 : List Int) (a011 : Option Addr) (c011 : Nat) (x011 : List Int) (n10 : Bool) (a100 : Option Addr) (c100 : Nat) (x100 : List Int) (a101 : Option Addr) (c101 : Nat) (x101 : List Int) (n11 : Bool) (a110 : Option Addr) (c110 : Nat) (x110 : List Int) (a111 : Option Addr) (c111 : Nat) (x111 : List Int) (n20 : Bool) (a200 : Option Addr) (c200 : Nat) (x200 : List Int) (a201 : Option Addr) (c201 : Nat) (x201 : List Int) (n21 : Bool) (a210 : Option Addr) (c210 : Nat) (x210 : List Int) (a211 : Option Addr) (c211 : Nat) (x211 : List Int) (w : World) (w000 : IntsAt w a000 c000 x000) (w001 : IntsAt w a001 c001 x001) (w010 : IntsAt w a010 c010 x010) (w011 : IntsAt w a011 c011 x011) (w100 : IntsAt w a100 c100 x100) (w101 : IntsAt w a101 c101 x101) (w110 : IntsAt w a110 c110 x110) (w111 : IntsAt w a111 c111 x111) (w200 : IntsAt w a200 c200 x200) (w201 : IntsAt w a201 c201 x201) (w210 : IntsAt w a210 c210 x210) (w211 : IntsAt w a211 c211 x211) :
    Calls Try.prog 24 #[.agg #[.bool n00, .slice a000 x000.length c000, .slice a001 x001.length c001, .bool n01, .slice a010 x010.length c010, .slice a011 x011.length c011], .agg #[.bool n10, .slice a100 x100.length c100, .slice a101 x101.length c101, .bool n11, .slice a110 x110.length c110, .slice a111 x111.length c111], .agg #[.bool n20, .slice a200 x200.length c200, .slice a201 x201.length c201, .bool n21, .slice a210 x210.length c210, .slice a211 x211.length c211]] w fun e w' => e = .returned (.bool true) ∧ Below w.heap.size w w' := by
  by_cases g0 : x000.length + x001.length + x010.length + x011.length ≤ 1048576
  case neg =>
    go_enter Try.func24, Try.ntmps24
    go_wp2_with fail
    refine (szPoint_any n00 _ _ x000 _ _ x001 n01 _ _ x010 _ _ x011 _ _ (by omega) (by omega) w000.len63 w001.len63 w010.len63 w011.len63).mono ?_
    rintro e W1 ⟨rfl, b1⟩
    rw [if_pos (by omega)]
    have s1 := b1.size
    simp at s1
    have Barg0x1 : Box W1 (w.heap.size) #[.bool n00, .slice a000 x000.length c000, .slice a001 x001.length c001, .bool n01, .slice a010 x010.length c010, .slice a011 x011.length c011] := bx3_0 b1
    have Barg1x1 : Box W1 (w.heap.size + 1) #[.bool n10, .slice a100 x100.length c100, .slice a101 x101.length c101, .bool n11, .slice a110 x110.length c110, .slice a111 x111.length c111] := bx3_1 b1
    have Barg2x1 : Box W1 (w.heap.size + 2) #[.bool n20, .slice a200 x200.length c200, .slice a201 x201.length c201, .bool n21, .slice a210 x210.length c210, .slice a211 x211.length c211] := bx3_2 b1
    replace b1 := bstep (ba3 _ _ _ _ ) b1
    have h1 : Below w.heap.size w W1 := (bstep (Below.refl _ _) b1)
    go_wp2
    go_ret
    exact ⟨rfl, h1⟩
  by_cases g1 : x000.length + x001.length + x010.length + x011.length + x100.length + x101.length + x110.length + x111.length ≤ 1048576
  case neg =>
    go_enter Try.func24, Try.ntmps24
    go_wp2_with fail
    refine (szPoint_any n00 _ _ x000 _ _ x001 n01 _ _ x010 _ _ x011 _ _ (by omega) (by omega) w000.len63 w001.len63 w010.len63 w011.len63).mono ?_
    rintro e W1 ⟨rfl, b1⟩
    rw [if_neg (by omega)]
    have s1 := b1.size
    simp at s1
    have Barg0x1 : Box W1 (w.heap.size) #[.bool n00, .slice a000 x000.length c000, .slice a001 x001.length c001, .bool n01, .slice a010 x010.length c010, .slice a011 x011.length c011] := bx3_0 b1
    have Barg1x1 : Box W1 (w.heap.size + 1) #[.bool n10, .slice a100 x100.length c100, .slice a101 x101.length c101, .bool n11, .slice a110 x110.length c110, .slice a111 x111.length c111] := bx3_1 b1
    have Barg2x1 : Box W1 (w.heap.size + 2) #[.bool n20, .slice a200 x200.length c200, .slice a201 x201.length c201, .bool n21, .slice a210 x210.length c210, .slice a211 x211.length c211] := bx3_2 b1
    replace b1 := bstep (ba3 _ _ _ _ ) b1
    have Carg1q0 : W1.cell? ⟨(w.heap.size + 1), 0, none⟩ = some (.bool n10) := Barg1x1.cell 0 rfl
    have Carg1q1 : W1.cell? ⟨(w.heap.size + 1), 1, none⟩ = some (.slice a100 x100.length c100) := Barg1x1.cell 1 rfl
    have Carg1q2 : W1.cell? ⟨(w.heap.size + 1), 2, none⟩ = some (.slice a101 x101.length c101) := Barg1x1.cell 2 rfl
    have Carg1q3 : W1.cell? ⟨(w.heap.size + 1), 3, none⟩ = some (.bool n11) := Barg1x1.cell 3 rfl
    have Carg1q4 : W1.cell? ⟨(w.heap.size + 1), 4, none⟩ = some (.slice a110 x110.length c110) := Barg1x1.cell 4 rfl
    have Carg1q5 : W1.cell? ⟨(w.heap.size + 1), 5, none⟩ = some (.slice a111 x111.length c111) := Barg1x1.cell 5 rfl
    have Carg1lt : (w.heap.size + 1) < W1.heap.size := Barg1x1.lt
    go_wp2_with fail
    refine (szPoint_any n10 _ _ x100 _ _ x101 n11 _ _ x110 _ _ x111 _ _ (by omega) (by omega) w100.len63 w101.len63 w110.len63 w111.len63).mono ?_
    rintro e W2 ⟨rfl, b2⟩
    rw [if_pos (by omega)]
    clear Carg1q0 Carg1q1 Carg1q2 Carg1q3 Carg1q4 Carg1q5 Carg1lt
    have s2 := b2.size
    have h1 : Below w.heap.size w W2 := (bstep (bstep (Below.refl _ _) b1) b2)
    go_wp2
    go_ret
    exact ⟨rfl, h1⟩
  by_cases g2 : x000.length + x001.length + x010.length + x011.length + x100.length + x101.length + x110.length + x111.length + x200.length + x201.length + x210.length + x211.length ≤ 1048576
  case neg =>
    go_enter Try.func24, Try.ntmps24
    go_wp2_with fail
    refine (szPoint_any n00 _ _ x000 _ _ x001 n01 _ _ x010 _ _ x011 _ _ (by omega) (by omega) w000.len63 w001.len63 w010.len63 w011.len63).mono ?_
    rintro e W1 ⟨rfl, b1⟩
    rw [if_neg (by omega)]
    have s1 := b1.size
    simp at s1
    have Barg0x1 : Box W1 (w.heap.size) #[.bool n00, .slice a000 x000.length c000, .slice a001 x001.length c001, .bool n01, .slice a010 x010.length c010, .slice a011 x011.length c011] := bx3_0 b1
    have Barg1x1 : Box W1 (w.heap.size + 1) #[.bool n10, .slice a100 x100.length c100, .slice a101 x101.length c101, .bool n11, .slice a110 x110.length c110, .slice a111 x111.length c111] := bx3_1 b1
    have Barg2x1 : Box W1 (w.heap.size + 2) #[.bool n20, .slice a200 x200.length c200, .slice a201 x201.length c201, .bool n21, .slice a210 x210.length c210, .slice a211 x211.length c211] := bx3_2 b1
    replace b1 := bstep (ba3 _ _ _ _ ) b1
    have Carg1q0 : W1.cell? ⟨(w.heap.size + 1), 0, none⟩ = some (.bool n10) := Barg1x1.cell 0 rfl
    have Carg1q1 : W1.cell? ⟨(w.heap.size + 1), 1, none⟩ = some (.slice a100 x100.length c100) := Barg1x1.cell 1 rfl
    have Carg1q2 : W1.cell? ⟨(w.heap.size + 1), 2, none⟩ = some (.slice a101 x101.length c101) := Barg1x1.cell 2 rfl
    have Carg1q3 : W1.cell? ⟨(w.heap.size + 1), 3, none⟩ = some (.bool n11) := Barg1x1.cell 3 rfl
    have Carg1q4 : W1.cell? ⟨(w.heap.size + 1), 4, none⟩ = some (.slice a110 x110.length c110) := Barg1x1.cell 4 rfl
    have Carg1q5 : W1.cell? ⟨(w.heap.size + 1), 5, none⟩ = some (.slice a111 x111.length c111) := Barg1x1.cell 5 rfl
    have Carg1lt : (w.heap.size + 1) < W1.heap.size := Barg1x1.lt
    go_wp2_with fail
    refine (szPoint_any n10 _ _ x100 _ _ x101 n11 _ _ x110 _ _ x111 _ _ (by omega) (by omega) w100.len63 w101.len63 w110.len63 w111.len63).mono ?_
    rintro e W2 ⟨rfl, b2⟩
    rw [if_neg (by omega)]
    clear Carg1q0 Carg1q1 Carg1q2 Carg1q3 Carg1q4 Carg1q5 Carg1lt
    have s2 := b2.size
    have x1 := (box_step Barg2x1 b2)
    have Carg2q0 : W2.cell? ⟨(w.heap.size + 2), 0, none⟩ = some (.bool n20) := x1.cell 0 rfl
    have Carg2q1 : W2.cell? ⟨(w.heap.size + 2), 1, none⟩ = some (.slice a200 x200.length c200) := x1.cell 1 rfl
    have Carg2q2 : W2.cell? ⟨(w.heap.size + 2), 2, none⟩ = some (.slice a201 x201.length c201) := x1.cell 2 rfl
    have Carg2q3 : W2.cell? ⟨(w.heap.size + 2), 3, none⟩ = some (.bool n21) := x1.cell 3 rfl
    have Carg2q4 : W2.cell? ⟨(w.heap.size + 2), 4, none⟩ = some (.slice a210 x210.length c210) := x1.cell 4 rfl
    have Carg2q5 : W2.cell? ⟨(w.heap.size + 2), 5, none⟩ = some (.slice a211 x211.length c211) := x1.cell 5 rfl
    have Carg2lt : (w.heap.size + 2) < W2.heap.size := x1.lt
    go_wp2_with fail
    refine (szPoint_any n20 _ _ x200 _ _ x201 n21 _ _ x210 _ _ x211 _ _ (by omega) (by omega) w200.len63 w201.len63 w210.len63 w211.len63).mono ?_
    rintro e W3 ⟨rfl, b3⟩
    rw [if_pos (by omega)]
    clear Carg2q0 Carg2q1 Carg2q2 Carg2q3 Carg2q4 Carg2q5 Carg2lt
    have s3 := b3.size
    have h2 : Below w.heap.size w W3 := (bstep (bstep (bstep (Below.refl _ _) b1) b2) b3)
    go_wp2
    go_ret
    exact ⟨rfl, h2⟩
  have l000 : x000.length ≤ 1048576 := by omega
  have l001 : x001.length ≤ 1048576 := by omega
  have l010 : x010.length ≤ 1048576 := by omega
  have l011 : x011.length ≤ 1048576 := by omega
  have l100 : x100.length ≤ 1048576 := by omega
  have l101 : x101.length ≤ 1048576 := by omega
  have l110 : x110.length ≤ 1048576 := by omega
  have l111 : x111.length ≤ 1048576 := by omega
  have l200 : x200.length ≤ 1048576 := by omega
  have l201 : x201.length ≤ 1048576 := by omega
  have l210 : x210.length ≤ 1048576 := by omega
  have l211 : x211.length ≤ 1048576 := by omega
  obtain ⟨l0, l1⟩ := RaOr.len (raOr_area (pt n00 x000 x001 n01 x010 x011) (pt n10 x100 x101 n11 x110 x111) (pt n20 x200 x201 n21 x210 x211))
  go_enter Try.func24, Try.ntmps24
  go_wp2_with fail
  refine (szPoint_any n00 _ _ x000 _ _ x001 n01 _ _ x010 _ _ x011 _ _ (by omega) (by omega) w000.len63 w001.len63 w010.len63 w011.len63).mono ?_
  rintro e W1 ⟨rfl, b1⟩
  rw [if_neg (by omega)]
  have s1 := b1.size
  simp at s1
  have Barg0x1 : Box W1 (w.heap.size) #[.bool n00, .slice a000 x000.length c000, .slice a001 x001.length c001, .bool n01, .slice a010 x010.length c010, .slice a011 x011.length c011] := bx3_0 b1
  have Barg1x1 : Box W1 (w.heap.size + 1) #[.bool n10, .slice a100 x100.length c100, .slice a101 x101.length c101, .bool n11, .slice a110 x110.length c110, .slice a111 x111.length c111] := bx3_1 b1
  have Barg2x1 : Box W1 (w.heap.size + 2) #[.bool n20, .slice a200 x200.length c200, .slice a201 x201.length c201, .bool n21, .slice a210 x210.length c210, .slice a211 x211.length c211] := bx3_2 b1
  replace b1 := bstep (ba3 _ _ _ _ ) b1
  have Carg1q0 : W1.cell? ⟨(w.heap.size + 1), 0, none⟩ = some (.bool n10) := Barg1x1.cell 0 rfl
  have Carg1q1 : W1.cell? ⟨(w.heap.size + 1), 1, none⟩ = some (.slice a100 x100.length c100) := Barg1x1.cell 1 rfl
  have Carg1q2 : W1.cell? ⟨(w.heap.size + 1), 2, none⟩ = some (.slice a101 x101.length c101) := Barg1x1.cell 2 rfl
  have Carg1q3 : W1.cell? ⟨(w.heap.size + 1), 3, none⟩ = some (.bool n11) := Barg1x1.cell 3 rfl
  have Carg1q4 : W1.cell? ⟨(w.heap.size + 1), 4, none⟩ = some (.slice a110 x110.length c110) := Barg1x1.cell 4 rfl
  have Carg1q5 : W1.cell? ⟨(w.heap.size + 1), 5, none⟩ = some (.slice a111 x111.length c111) := Barg1x1.cell 5 rfl
  have Carg1lt : (w.heap.size + 1) < W1.heap.size := Barg1x1.lt
  go_wp2_with fail
  refine (szPoint_any n10 _ _ x100 _ _ x101 n11 _ _ x110 _ _ x111 _ _ (by omega) (by omega) w100.len63 w101.len63 w110.len63 w111.len63).mono ?_
  rintro e W2 ⟨rfl, b2⟩
  rw [if_neg (by omega)]
  clear Carg1q0 Carg1q1 Carg1q2 Carg1q3 Carg1q4 Carg1q5 Carg1lt
  have s2 := b2.size
  have x1 := (box_step Barg2x1 b2)
  have Carg2q0 : W2.cell? ⟨(w.heap.size + 2), 0, none⟩ = some (.bool n20) := x1.cell 0 rfl
  have Carg2q1 : W2.cell? ⟨(w.heap.size + 2), 1, none⟩ = some (.slice a200 x200.length c200) := x1.cell 1 rfl
  have Carg2q2 : W2.cell? ⟨(w.heap.size + 2), 2, none⟩ = some (.slice a201 x201.length c201) := x1.cell 2 rfl
  have Carg2q3 : W2.cell? ⟨(w.heap.size + 2), 3, none⟩ = some (.bool n21) := x1.cell 3 rfl
  have Carg2q4 : W2.cell? ⟨(w.heap.size + 2), 4, none⟩ = some (.slice a210 x210.length c210) := x1.cell 4 rfl
  have Carg2q5 : W2.cell? ⟨(w.heap.size + 2), 5, none⟩ = some (.slice a211 x211.length c211) := x1.cell 5 rfl
  have Carg2lt : (w.heap.size + 2) < W2.heap.size := x1.lt
  go_wp2_with fail
  refine (szPoint_any n20 _ _ x200 _ _ x201 n21 _ _ x210 _ _ x211 _ _ (by omega) (by omega) w200.len63 w201.len63 w210.len63 w211.len63).mono ?_
  rintro e W3 ⟨rfl, b3⟩
  rw [if_neg (by omega)]
  clear Carg2q0 Carg2q1 Carg2q2 Carg2q3 Carg2q4 Carg2q5 Carg2lt
  have s3 := b3.size
  have x2 := (box_step (box_step Barg0x1 b2) b3)
  have Carg0q0 : W3.cell? ⟨(w.heap.size), 0, none⟩ = some (.bool n00) := x2.cell 0 rfl
  have Carg0q1 : W3.cell? ⟨(w.heap.size), 1, none⟩ = some (.slice a000 x000.length c000) := x2.cell 1 rfl
  have Carg0q2 : W3.cell? ⟨(w.heap.size), 2, none⟩ = some (.slice a001 x001.length c001) := x2.cell 2 rfl
  have Carg0q3 : W3.cell? ⟨(w.heap.size), 3, none⟩ = some (.bool n01) := x2.cell 3 rfl
  have Carg0q4 : W3.cell? ⟨(w.heap.size), 4, none⟩ = some (.slice a010 x010.length c010) := x2.cell 4 rfl
  have Carg0q5 : W3.cell? ⟨(w.heap.size), 5, none⟩ = some (.slice a011 x011.length c011) := x2.cell 5 rfl
  have Carg0lt : (w.heap.size) < W3.heap.size := x2.lt
  have x3 := (box_step (box_step Barg1x1 b2) b3)
  have Carg1q0 : W3.cell? ⟨(w.heap.size + 1), 0, none⟩ = some (.bool n10) := x3.cell 0 rfl
  have Carg1q1 : W3.cell? ⟨(w.heap.size + 1), 1, none⟩ = some (.slice a100 x100.length c100) := x3.cell 1 rfl
  have Carg1q2 : W3.cell? ⟨(w.heap.size + 1), 2, none⟩ = some (.slice a101 x101.length c101) := x3.cell 2 rfl
  have Carg1q3 : W3.cell? ⟨(w.heap.size + 1), 3, none⟩ = some (.bool n11) := x3.cell 3 rfl
  have Carg1q4 : W3.cell? ⟨(w.heap.size + 1), 4, none⟩ = some (.slice a110 x110.length c110) := x3.cell 4 rfl
  have Carg1q5 : W3.cell? ⟨(w.heap.size + 1), 5, none⟩ = some (.slice a111 x111.length c111) := x3.cell 5 rfl
  have Carg1lt : (w.heap.size + 1) < W3.heap.size := x3.lt
  have x4 := (box_step x1 b3)
  have Carg2q0 : W3.cell? ⟨(w.heap.size + 2), 0, none⟩ = some (.bool n20) := x4.cell 0 rfl
  have Carg2q1 : W3.cell? ⟨(w.heap.size + 2), 1, none⟩ = some (.slice a200 x200.length c200) := x4.cell 1 rfl
  have Carg2q2 : W3.cell? ⟨(w.heap.size + 2), 2, none⟩ = some (.slice a201 x201.length c201) := x4.cell 2 rfl
  have Carg2q3 : W3.cell? ⟨(w.heap.size + 2), 3, none⟩ = some (.bool n21) := x4.cell 3 rfl
  have Carg2q4 : W3.cell? ⟨(w.heap.size + 2), 4, none⟩ = some (.slice a210 x210.length c210) := x4.cell 4 rfl
  have Carg2q5 : W3.cell? ⟨(w.heap.size + 2), 5, none⟩ = some (.slice a211 x211.length c211) := x4.cell 5 rfl
  have Carg2lt : (w.heap.size + 2) < W3.heap.size := x4.lt
  have h5 : Below w.heap.size w W3 := (bstep (bstep (bstep (Below.refl _ _) b1) b2) b3)
  go_upto_region 11 with fail
  go_cut [8] (fun s8 wx => ∃ (R : Nat) (at00 : Option Addr) (ct00 : Nat) (at01 : Option Addr) (ct01 : Nat), s8 = .pointer (some ⟨R, 0, none⟩) ∧ W3.heap.size ≤ R ∧ Box wx R #[.bool (areaPT (pt n00 x000 x001 n01 x010 x011) (pt n10 x100 x101 n11 x110 x111) (pt n20 x200 x201 n21 x210 x211)).neg, .slice at00 (areaPT (pt n00 x000 x001 n01 x010 x011) (pt n10 x100 x101 n11 x110 x111) (pt n20 x200 x201 n21 x210 x211)).num.length ct00, .slice at01 (areaPT (pt n00 x000 x001 n01 x010 x011) (pt n10 x100 x101 n11 x110 x111) (pt n20 x200 x201 n21 x210 x211)).den.length ct01] ∧ IntsAt wx at00 ct00 (areaPT (pt n00 x000 x001 n01 x010 x011) (pt n10 x100 x101 n11 x110 x111) (pt n20 x200 x201 n21 x210 x211)).num ∧ IntsAt wx at01 ct01 (areaPT (pt n00 x000 x001 n01 x010 x011) (pt n10 x100 x101 n11 x110 x111) (pt n20 x200 x201 n21 x210 x211)).den ∧ Below W3.heap.size W3 wx)
  case first =>
    have tok4 : True := trivial
    have tok5 : True := trivial
    have tok6 : True := trivial
    go_region_held3 (fun w' => w'.cell? ⟨(w.heap.size), 0, none⟩ = some (.bool n00) ∧ w'.cell? ⟨(w.heap.size), 1, none⟩ = some (.slice a000 x000.length c000) ∧ w'.cell? ⟨(w.heap.size), 2, none⟩ = some (.slice a001 x001.length c001) ∧ w'.cell? ⟨(w.heap.size), 3, none⟩ = some (.bool n01) ∧ w'.cell? ⟨(w.heap.size), 4, none⟩ = some (.slice a010 x010.length c010) ∧ w'.cell? ⟨(w.heap.size), 5, none⟩ = some (.slice a011 x011.length c011) ∧ w'.cell? ⟨(w.heap.size + 1), 0, none⟩ = some (.bool n10) ∧ w'.cell? ⟨(w.heap.size + 1), 1, none⟩ = some (.slice a100 x100.length c100) ∧ w'.cell? ⟨(w.heap.size + 1), 2, none⟩ = some (.slice a101 x101.length c101) ∧ w'.cell? ⟨(w.heap.size + 1), 3, none⟩ = some (.bool n11) ∧ w'.cell? ⟨(w.heap.size + 1), 4, none⟩ = some (.slice a110 x110.length c110) ∧ w'.cell? ⟨(w.heap.size + 1), 5, none⟩ = some (.slice a111 x111.length c111) ∧ w'.cell? ⟨(w.heap.size + 2), 0, none⟩ = some (.bool n20) ∧ w'.cell? ⟨(w.heap.size + 2), 1, none⟩ = some (.slice a200 x200.length c200) ∧ w'.cell? ⟨(w.heap.size + 2), 2, none⟩ = some (.slice a201 x201.length c201) ∧ w'.cell? ⟨(w.heap.size + 2), 3, none⟩ = some (.bool n21) ∧ w'.cell? ⟨(w.heap.size + 2), 4, none⟩ = some (.slice a210 x210.length c210) ∧ w'.cell? ⟨(w.heap.size + 2), 5, none⟩ = some (.slice a211 x211.length c211))
      ((refine ⟨?_, ?_, ?_, ?_, ?_, ?_, ?_, ?_, ?_, ?_, ?_, ?_, ?_, ?_, ?_, ?_, ?_, ?_⟩ <;> (repeat first | with_reducible assumption | with_reducible refine cell_low ?_ (by first | omega | (simp; done) | (simp; omega)) | with_reducible refine cell_step ?_ (ba1 _ _) | with_reducible refine cell_step ?_ (by assumption) | with_reducible refine cell_dr ?_)))
      (first | (go_at_call 44; clear tok4; refine (toPoint_own n00 _ _ x000 _ _ x001 n01 _ _ x010 _ _ x011 _ (w000.below (by (repeat first | with_reducible assumption | with_reducible exact Below.refl _ _ | with_reducible refine bstep ?_ (ba1 _ _) | with_reducible refine bstep ?_ (by assumption) | with_reducible refine Below.drew ?_))) l000 (w001.below (by (repeat first | with_reducible assumption | with_reducible exact Below.refl _ _ | with_reducible refine bstep ?_ (ba1 _ _) | with_reducible refine bstep ?_ (by assumption) | with_reducible refine Below.drew ?_))) l001 (w010.below (by (repeat first | with_reducible assumption | with_reducible exact Below.refl _ _ | with_reducible refine bstep ?_ (ba1 _ _) | with_reducible refine bstep ?_ (by assumption) | with_reducible refine Below.drew ?_))) l010 (w011.below (by (repeat first | with_reducible assumption | with_reducible exact Below.refl _ _ | with_reducible refine bstep ?_ (ba1 _ _) | with_reducible refine bstep ?_ (by assumption) | with_reducible refine Below.drew ?_))) l011).mono ?_; rintro e W4 ⟨as00, cs00, as01, cs01, as02, cs02, as03, cs03, rfl, os0, b4⟩; have s4 := b4.size; (try simp at s4); (first | have RZ := box_step RZ b4 | have RZ : Box W4 W3.heap.size _ := bx1_0 (w := W3.drew) b4 | skip)) | (go_at_call 44; clear tok5; refine (toPoint_own n10 _ _ x100 _ _ x101 n11 _ _ x110 _ _ x111 _ (w100.below (by (repeat first | with_reducible assumption | with_reducible exact Below.refl _ _ | with_reducible refine bstep ?_ (ba1 _ _) | with_reducible refine bstep ?_ (by assumption) | with_reducible refine Below.drew ?_))) l100 (w101.below (by (repeat first | with_reducible assumption | with_reducible exact Below.refl _ _ | with_reducible refine bstep ?_ (ba1 _ _) | with_reducible refine bstep ?_ (by assumption) | with_reducible refine Below.drew ?_))) l101 (w110.below (by (repeat first | with_reducible assumption | with_reducible exact Below.refl _ _ | with_reducible refine bstep ?_ (ba1 _ _) | with_reducible refine bstep ?_ (by assumption) | with_reducible refine Below.drew ?_))) l110 (w111.below (by (repeat first | with_reducible assumption | with_reducible exact Below.refl _ _ | with_reducible refine bstep ?_ (ba1 _ _) | with_reducible refine bstep ?_ (by assumption) | with_reducible refine Below.drew ?_))) l111).mono ?_; rintro e W5 ⟨as10, cs10, as11, cs11, as12, cs12, as13, cs13, rfl, os1, b5⟩; have s5 := b5.size; (try simp at s5); (first | have RZ := box_step RZ b5 | have RZ : Box W5 W4.heap.size _ := bx1_0 b5 | skip)) | (go_at_call 44; clear tok6; refine (toPoint_own n20 _ _ x200 _ _ x201 n21 _ _ x210 _ _ x211 _ (w200.below (by (repeat first | with_reducible assumption | with_reducible exact Below.refl _ _ | with_reducible refine bstep ?_ (ba1 _ _) | with_reducible refine bstep ?_ (by assumption) | with_reducible refine Below.drew ?_))) l200 (w201.below (by (repeat first | with_reducible assumption | with_reducible exact Below.refl _ _ | with_reducible refine bstep ?_ (ba1 _ _) | with_reducible refine bstep ?_ (by assumption) | with_reducible refine Below.drew ?_))) l201 (w210.below (by (repeat first | with_reducible assumption | with_reducible exact Below.refl _ _ | with_reducible refine bstep ?_ (ba1 _ _) | with_reducible refine bstep ?_ (by assumption) | with_reducible refine Below.drew ?_))) l210 (w211.below (by (repeat first | with_reducible assumption | with_reducible exact Below.refl _ _ | with_reducible refine bstep ?_ (ba1 _ _) | with_reducible refine bstep ?_ (by assumption) | with_reducible refine Below.drew ?_))) l211).mono ?_; rintro e W6 ⟨as20, cs20, as21, cs21, as22, cs22, as23, cs23, rfl, os2, b6⟩; have s6 := b6.size; (try simp at s6); (first | have RZ := box_step RZ b6 | have RZ : Box W6 W5.heap.size _ := bx1_0 b6 | skip)) | (go_at_call 82; refine (specDoubleArea_own n00 _ _ x000 _ _ x001 n01 _ _ x010 _ _ x011 n10 _ _ x100 _ _ x101 n11 _ _ x110 _ _ x111 n20 _ _ x200 _ _ x201 n21 _ _ x210 _ _ x211 _ (os0.i1.below (by (repeat first | with_reducible assumption | with_reducible exact Below.refl _ _ | with_reducible refine bstep ?_ (ba1 _ _) | with_reducible refine bstep ?_ (by assumption) | with_reducible refine Below.drew ?_))) l000 (os0.i2.below (by (repeat first | with_reducible assumption | with_reducible exact Below.refl _ _ | with_reducible refine bstep ?_ (ba1 _ _) | with_reducible refine bstep ?_ (by assumption) | with_reducible refine Below.drew ?_))) l001 (os0.i3.below (by (repeat first | with_reducible assumption | with_reducible exact Below.refl _ _ | with_reducible refine bstep ?_ (ba1 _ _) | with_reducible refine bstep ?_ (by assumption) | with_reducible refine Below.drew ?_))) l010 (os0.i4.below (by (repeat first | with_reducible assumption | with_reducible exact Below.refl _ _ | with_reducible refine bstep ?_ (ba1 _ _) | with_reducible refine bstep ?_ (by assumption) | with_reducible refine Below.drew ?_))) l011 (os1.i1.below (by (repeat first | with_reducible assumption | with_reducible exact Below.refl _ _ | with_reducible refine bstep ?_ (ba1 _ _) | with_reducible refine bstep ?_ (by assumption) | with_reducible refine Below.drew ?_))) l100 (os1.i2.below (by (repeat first | with_reducible assumption | with_reducible exact Below.refl _ _ | with_reducible refine bstep ?_ (ba1 _ _) | with_reducible refine bstep ?_ (by assumption) | with_reducible refine Below.drew ?_))) l101 (os1.i3.below (by (repeat first | with_reducible assumption | with_reducible exact Below.refl _ _ | with_reducible refine bstep ?_ (ba1 _ _) | with_reducible refine bstep ?_ (by assumption) | with_reducible refine Below.drew ?_))) l110 (os1.i4.below (by (repeat first | with_reducible assumption | with_reducible exact Below.refl _ _ | with_reducible refine bstep ?_ (ba1 _ _) | with_reducible refine bstep ?_ (by assumption) | with_reducible refine Below.drew ?_))) l111 (os2.i1.below (by (repeat first | with_reducible assumption | with_reducible exact Below.refl _ _ | with_reducible refine bstep ?_ (ba1 _ _) | with_reducible refine bstep ?_ (by assumption) | with_reducible refine Below.drew ?_))) l200 (os2.i2.below (by (repeat first | with_reducible assumption | with_reducible exact Below.refl _ _ | with_reducible refine bstep ?_ (ba1 _ _) | with_reducible refine bstep ?_ (by assumption) | with_reducible refine Below.drew ?_))) l201 (os2.i3.below (by (repeat first | with_reducible assumption | with_reducible exact Below.refl _ _ | with_reducible refine bstep ?_ (ba1 _ _) | with_reducible refine bstep ?_ (by assumption) | with_reducible refine Below.drew ?_))) l210 (os2.i4.below (by (repeat first | with_reducible assumption | with_reducible exact Below.refl _ _ | with_reducible refine bstep ?_ (ba1 _ _) | with_reducible refine bstep ?_ (by assumption) | with_reducible refine Below.drew ?_))) l211).mono ?_; rintro e W7 ⟨at00, ct00, at01, ct01, rfl, ot0, b7⟩; have s7 := b7.size; (try simp at s7); (first | have RZ := box_step RZ b7 | have RZ : Box W7 W6.heap.size _ := bx1_0 b7 | skip); (try (have Z0 : W7.cell? ⟨_, 0, none⟩ = some (.bool false) := RZ.cell 0 rfl; have FZ0 := RZ.frozen 0; have Z1 : W7.cell? ⟨_, 1, none⟩ = some (.slice none 0 0) := RZ.cell 1 rfl; have FZ1 := RZ.frozen 1; have Z2 : W7.cell? ⟨_, 2, none⟩ = some (.slice none 0 0) := RZ.cell 2 rfl; have FZ2 := RZ.frozen 2; have LZ := RZ.lt))))
    all_goals (go_wp2_with fail; go_meet; (first | exact ⟨_, _, _, _, _, rfl, (by first | omega | (simp; done) | (simp; omega)), bx1_0 (Below.refl _ _), (ot0.i1).below (ba1 _ _), (ot0.i2).below (ba1 _ _), (by (repeat first | with_reducible assumption | with_reducible exact Below.refl _ _ | with_reducible refine bstep ?_ (ba1 _ _) | with_reducible refine bstep ?_ (by assumption) | with_reducible refine Below.drew ?_))⟩ | exact ⟨_, _, _, _, _, rfl, (by first | omega | (simp; done) | (simp; omega)), box_as (box_put (k := 2) (box_put (k := 1) (box_put (k := 0) RZ))) rfl, (((ot0.put (k := 0) (by first | omega | (simp; done) | (simp; omega))).put (k := 1) (by first | omega | (simp; done) | (simp; omega))).put (k := 2) (by first | omega | (simp; done) | (simp; omega))).i1, (((ot0.put (k := 0) (by first | omega | (simp; done) | (simp; omega))).put (k := 1) (by first | omega | (simp; done) | (simp; omega))).put (k := 2) (by first | omega | (simp; done) | (simp; omega))).i2, (below_put (k := 2) (below_put (k := 1) (below_put (k := 0) (by (repeat first | with_reducible assumption | with_reducible exact Below.refl _ _ | with_reducible refine bstep ?_ (ba1 _ _) | with_reducible refine bstep ?_ (by assumption) | with_reducible refine Below.drew ?_)) (by first | omega | (simp; done) | (simp; omega))) (by first | omega | (simp; done) | (simp; omega))) (by first | omega | (simp; done) | (simp; omega)))⟩))
  case rest =>
    obtain ⟨Rt, at00, ct00, at01, ct01, rfl, hRt, Bt0x7, it00, it01, b7⟩ := hcut
    obtain ⟨W7, hW7⟩ : ∃ W', W' = wc := ⟨_, rfl⟩
    subst hW7
    have s7 := b7.size
    have hRlt := Bt0x7.lt
    clear Carg0q0 Carg0q1 Carg0q2 Carg0q3 Carg0q4 Carg0q5 Carg0lt
    clear Carg1q0 Carg1q1 Carg1q2 Carg1q3 Carg1q4 Carg1q5 Carg1lt
    clear Carg2q0 Carg2q1 Carg2q2 Carg2q3 Carg2q4 Carg2q5 Carg2lt
    have x6 := (box_step x2 b7)
    have Carg0q0 : W7.cell? ⟨(w.heap.size), 0, none⟩ = some (.bool n00) := x6.cell 0 rfl
    have Carg0q1 : W7.cell? ⟨(w.heap.size), 1, none⟩ = some (.slice a000 x000.length c000) := x6.cell 1 rfl
    have Carg0q2 : W7.cell? ⟨(w.heap.size), 2, none⟩ = some (.slice a001 x001.length c001) := x6.cell 2 rfl
    have Carg0q3 : W7.cell? ⟨(w.heap.size), 3, none⟩ = some (.bool n01) := x6.cell 3 rfl
    have Carg0q4 : W7.cell? ⟨(w.heap.size), 4, none⟩ = some (.slice a010 x010.length c010) := x6.cell 4 rfl
    have Carg0q5 : W7.cell? ⟨(w.heap.size), 5, none⟩ = some (.slice a011 x011.length c011) := x6.cell 5 rfl
    have Carg0lt : (w.heap.size) < W7.heap.size := x6.lt
    go_wp2_with fail
    have h7 : Below w.heap.size w W7 := (bstep h5 b7)
    refine (toPoint_own n00 _ _ x000 _ _ x001 n01 _ _ x010 _ _ x011 _ (w000.below h7) l000 (w001.below h7) l001 (w010.below h7) l010 (w011.below h7) l011).mono ?_
    rintro e W8 ⟨ax00, cx00, ax01, cx01, ax02, cx02, ax03, cx03, rfl, ox0, b8⟩
    clear Carg0q0 Carg0q1 Carg0q2 Carg0q3 Carg0q4 Carg0q5 Carg0lt
    have s8 := b8.size
    have x8 := (box_step (box_step x3 b7) b8)
    have Carg1q0 : W8.cell? ⟨(w.heap.size + 1), 0, none⟩ = some (.bool n10) := x8.cell 0 rfl
    have Carg1q1 : W8.cell? ⟨(w.heap.size + 1), 1, none⟩ = some (.slice a100 x100.length c100) := x8.cell 1 rfl
    have Carg1q2 : W8.cell? ⟨(w.heap.size + 1), 2, none⟩ = some (.slice a101 x101.length c101) := x8.cell 2 rfl
    have Carg1q3 : W8.cell? ⟨(w.heap.size + 1), 3, none⟩ = some (.bool n11) := x8.cell 3 rfl
    have Carg1q4 : W8.cell? ⟨(w.heap.size + 1), 4, none⟩ = some (.slice a110 x110.length c110) := x8.cell 4 rfl
    have Carg1q5 : W8.cell? ⟨(w.heap.size + 1), 5, none⟩ = some (.slice a111 x111.length c111) := x8.cell 5 rfl
    have Carg1lt : (w.heap.size + 1) < W8.heap.size := x8.lt
    go_wp2_with fail
    refine (toPoint_own n10 _ _ x100 _ _ x101 n11 _ _ x110 _ _ x111 _ (w100.below (bstep (bstep h7 b8) (ba1 _ _))) l100 (w101.below (bstep (bstep h7 b8) (ba1 _ _))) l101 (w110.below (bstep (bstep h7 b8) (ba1 _ _))) l110 (w111.below (bstep (bstep h7 b8) (ba1 _ _))) l111).mono ?_
    rintro e W9 ⟨ax10, cx10, ax11, cx11, ax12, cx12, ax13, cx13, rfl, ox1, b9⟩
    clear Carg1q0 Carg1q1 Carg1q2 Carg1q3 Carg1q4 Carg1q5 Carg1lt
    have s9 := b9.size
    simp at s9
    have Bx0x9 : Box W9 (W8.heap.size) #[.bool n00, .slice ax00 x000.length cx00, .slice ax01 x001.length cx01, .bool n01, .slice ax02 x010.length cx02, .slice ax03 x011.length cx03] := bx1_0 b9
    replace b9 := bstep (ba1 _ _ ) b9
    replace ox1 := ox1.mono (lo2 := W8.heap.size + 1) (by simp) (Nat.le_refl _)
    have x9 := (box_step (box_step (box_step x4 b7) b8) b9)
    have Carg2q0 : W9.cell? ⟨(w.heap.size + 2), 0, none⟩ = some (.bool n20) := x9.cell 0 rfl
    have Carg2q1 : W9.cell? ⟨(w.heap.size + 2), 1, none⟩ = some (.slice a200 x200.length c200) := x9.cell 1 rfl
    have Carg2q2 : W9.cell? ⟨(w.heap.size + 2), 2, none⟩ = some (.slice a201 x201.length c201) := x9.cell 2 rfl
    have Carg2q3 : W9.cell? ⟨(w.heap.size + 2), 3, none⟩ = some (.bool n21) := x9.cell 3 rfl
    have Carg2q4 : W9.cell? ⟨(w.heap.size + 2), 4, none⟩ = some (.slice a210 x210.length c210) := x9.cell 4 rfl
    have Carg2q5 : W9.cell? ⟨(w.heap.size + 2), 5, none⟩ = some (.slice a211 x211.length c211) := x9.cell 5 rfl
    have Carg2lt : (w.heap.size + 2) < W9.heap.size := x9.lt
    go_wp2_with fail
    refine (toPoint_own n20 _ _ x200 _ _ x201 n21 _ _ x210 _ _ x211 _ (w200.below (bstep (bstep (bstep h7 b8) b9) (ba1 _ _))) l200 (w201.below (bstep (bstep (bstep h7 b8) b9) (ba1 _ _))) l201 (w210.below (bstep (bstep (bstep h7 b8) b9) (ba1 _ _))) l210 (w211.below (bstep (bstep (bstep h7 b8) b9) (ba1 _ _))) l211).mono ?_
    rintro e W10 ⟨ax20, cx20, ax21, cx21, ax22, cx22, ax23, cx23, rfl, ox2, b10⟩
    clear Carg2q0 Carg2q1 Carg2q2 Carg2q3 Carg2q4 Carg2q5 Carg2lt
    have s10 := b10.size
    simp at s10
    have Bx1x10 : Box W10 (W9.heap.size) #[.bool n10, .slice ax10 x100.length cx10, .slice ax11 x101.length cx11, .bool n11, .slice ax12 x110.length cx12, .slice ax13 x111.length cx13] := bx1_0 b10
    replace b10 := bstep (ba1 _ _ ) b10
    replace ox2 := ox2.mono (lo2 := W9.heap.size + 1) (by simp) (Nat.le_refl _)
    have x10 := (box_step Bx0x9 b10)
    have Cx0q0 : W10.cell? ⟨(W8.heap.size), 0, none⟩ = some (.bool n00) := x10.cell 0 rfl
    have Cx0q1 : W10.cell? ⟨(W8.heap.size), 1, none⟩ = some (.slice ax00 x000.length cx00) := x10.cell 1 rfl
    have Cx0q2 : W10.cell? ⟨(W8.heap.size), 2, none⟩ = some (.slice ax01 x001.length cx01) := x10.cell 2 rfl
    have Cx0q3 : W10.cell? ⟨(W8.heap.size), 3, none⟩ = some (.bool n01) := x10.cell 3 rfl
    have Cx0q4 : W10.cell? ⟨(W8.heap.size), 4, none⟩ = some (.slice ax02 x010.length cx02) := x10.cell 4 rfl
    have Cx0q5 : W10.cell? ⟨(W8.heap.size), 5, none⟩ = some (.slice ax03 x011.length cx03) := x10.cell 5 rfl
    have Cx0lt : (W8.heap.size) < W10.heap.size := x10.lt
    have Cx1q0 : W10.cell? ⟨(W9.heap.size), 0, none⟩ = some (.bool n10) := Bx1x10.cell 0 rfl
    have Cx1q1 : W10.cell? ⟨(W9.heap.size), 1, none⟩ = some (.slice ax10 x100.length cx10) := Bx1x10.cell 1 rfl
    have Cx1q2 : W10.cell? ⟨(W9.heap.size), 2, none⟩ = some (.slice ax11 x101.length cx11) := Bx1x10.cell 2 rfl
    have Cx1q3 : W10.cell? ⟨(W9.heap.size), 3, none⟩ = some (.bool n11) := Bx1x10.cell 3 rfl
    have Cx1q4 : W10.cell? ⟨(W9.heap.size), 4, none⟩ = some (.slice ax12 x110.length cx12) := Bx1x10.cell 4 rfl
    have Cx1q5 : W10.cell? ⟨(W9.heap.size), 5, none⟩ = some (.slice ax13 x111.length cx13) := Bx1x10.cell 5 rfl
    have Cx1lt : (W9.heap.size) < W10.heap.size := Bx1x10.lt
    go_wp2_with fail
    refine (implDoubleArea_any n00 _ _ x000 _ _ x001 n01 _ _ x010 _ _ x011 n10 _ _ x100 _ _ x101 n11 _ _ x110 _ _ x111 n20 _ _ x200 _ _ x201 n21 _ _ x210 _ _ x211 _ (((ox0.below b9).below b10).below (ba1 _ _)).i1 l000 (((ox0.below b9).below b10).below (ba1 _ _)).i2 l001 (((ox0.below b9).below b10).below (ba1 _ _)).i3 l010 (((ox0.below b9).below b10).below (ba1 _ _)).i4 l011 ((ox1.below b10).below (ba1 _ _)).i1 l100 ((ox1.below b10).below (ba1 _ _)).i2 l101 ((ox1.below b10).below (ba1 _ _)).i3 l110 ((ox1.below b10).below (ba1 _ _)).i4 l111 (ox2.below (ba1 _ _)).i1 l200 (ox2.below (ba1 _ _)).i2 l201 (ox2.below (ba1 _ _)).i3 l210 (ox2.below (ba1 _ _)).i4 l211).mono ?_
    rintro e W11 ⟨ag00, cg00, ag01, cg01, rfl, og0, b11⟩
    clear Cx0q0 Cx0q1 Cx0q2 Cx0q3 Cx0q4 Cx0q5 Cx0lt
    clear Cx1q0 Cx1q1 Cx1q2 Cx1q3 Cx1q4 Cx1q5 Cx1lt
    have s11 := b11.size
    simp at s11
    have Bx2x11 : Box W11 (W10.heap.size) #[.bool n20, .slice ax20 x200.length cx20, .slice ax21 x201.length cx21, .bool n21, .slice ax22 x210.length cx22, .slice ax23 x211.length cx23] := bx1_0 b11
    replace b11 := bstep (ba1 _ _ ) b11
    replace og0 := og0.mono (lo2 := W10.heap.size + 1) (by simp) (Nat.le_refl _)
    have x11 := (box_step (box_step (box_step (box_step Bt0x7 b8) b9) b10) b11)
    have Ct0q0 : W11.cell? ⟨Rt, 0, none⟩ = some (.bool (areaPT (pt n00 x000 x001 n01 x010 x011) (pt n10 x100 x101 n11 x110 x111) (pt n20 x200 x201 n21 x210 x211)).neg) := x11.cell 0 rfl
    have Ct0q1 : W11.cell? ⟨Rt, 1, none⟩ = some (.slice at00 (areaPT (pt n00 x000 x001 n01 x010 x011) (pt n10 x100 x101 n11 x110 x111) (pt n20 x200 x201 n21 x210 x211)).num.length ct00) := x11.cell 1 rfl
    have Ct0q2 : W11.cell? ⟨Rt, 2, none⟩ = some (.slice at01 (areaPT (pt n00 x000 x001 n01 x010 x011) (pt n10 x100 x101 n11 x110 x111) (pt n20 x200 x201 n21 x210 x211)).den.length ct01) := x11.cell 2 rfl
    have Ct0lt : Rt < W11.heap.size := x11.lt
    go_wp2_with fail
    refine (eqRat_same ((areaPT (pt n00 x000 x001 n01 x010 x011) (pt n10 x100 x101 n11 x110 x111) (pt n20 x200 x201 n21 x210 x211)).neg) _ _ _ _ ((areaPT (pt n00 x000 x001 n01 x010 x011) (pt n10 x100 x101 n11 x110 x111) (pt n20 x200 x201 n21 x210 x211)).num) _ _ _ _ ((areaPT (pt n00 x000 x001 n01 x010 x011) (pt n10 x100 x101 n11 x110 x111) (pt n20 x200 x201 n21 x210 x211)).den) _ (og0.below (ba1 _ _)).i1 (it00.below (bstep (bstep (bstep (bstep (bstep (Below.refl _ _) b8) b9) b10) b11) (ba1 _ _))) l0 (og0.below (ba1 _ _)).i2 (it01.below (bstep (bstep (bstep (bstep (bstep (Below.refl _ _) b8) b9) b10) b11) (ba1 _ _))) l1).mono ?_
    rintro e W12 ⟨rfl, b12⟩
    clear Ct0q0 Ct0q1 Ct0q2 Ct0lt
    have s12 := b12.size
    simp at s12
    have Bg0x12 : Box W12 (W11.heap.size) #[.bool (areaPT (pt n00 x000 x001 n01 x010 x011) (pt n10 x100 x101 n11 x110 x111) (pt n20 x200 x201 n21 x210 x211)).neg, .slice ag00 (areaPT (pt n00 x000 x001 n01 x010 x011) (pt n10 x100 x101 n11 x110 x111) (pt n20 x200 x201 n21 x210 x211)).num.length cg00, .slice ag01 (areaPT (pt n00 x000 x001 n01 x010 x011) (pt n10 x100 x101 n11 x110 x111) (pt n20 x200 x201 n21 x210 x211)).den.length cg01] := bx1_0 b12
    replace b12 := bstep (ba1 _ _ ) b12
    have x12 := (box_step (box_step x10 b11) b12)
    have Cx0q0 : W12.cell? ⟨(W8.heap.size), 0, none⟩ = some (.bool n00) := x12.cell 0 rfl
    have Cx0q1 : W12.cell? ⟨(W8.heap.size), 1, none⟩ = some (.slice ax00 x000.length cx00) := x12.cell 1 rfl
    have Cx0q2 : W12.cell? ⟨(W8.heap.size), 2, none⟩ = some (.slice ax01 x001.length cx01) := x12.cell 2 rfl
    have Cx0q3 : W12.cell? ⟨(W8.heap.size), 3, none⟩ = some (.bool n01) := x12.cell 3 rfl
    have Cx0q4 : W12.cell? ⟨(W8.heap.size), 4, none⟩ = some (.slice ax02 x010.length cx02) := x12.cell 4 rfl
    have Cx0q5 : W12.cell? ⟨(W8.heap.size), 5, none⟩ = some (.slice ax03 x011.length cx03) := x12.cell 5 rfl
    have Cx0lt : (W8.heap.size) < W12.heap.size := x12.lt
    have x13 := (box_step (box_step (box_step (box_step (box_step x6 b8) b9) b10) b11) b12)
    have Carg0q0 : W12.cell? ⟨(w.heap.size), 0, none⟩ = some (.bool n00) := x13.cell 0 rfl
    have Carg0q1 : W12.cell? ⟨(w.heap.size), 1, none⟩ = some (.slice a000 x000.length c000) := x13.cell 1 rfl
    have Carg0q2 : W12.cell? ⟨(w.heap.size), 2, none⟩ = some (.slice a001 x001.length c001) := x13.cell 2 rfl
    have Carg0q3 : W12.cell? ⟨(w.heap.size), 3, none⟩ = some (.bool n01) := x13.cell 3 rfl
    have Carg0q4 : W12.cell? ⟨(w.heap.size), 4, none⟩ = some (.slice a010 x010.length c010) := x13.cell 4 rfl
    have Carg0q5 : W12.cell? ⟨(w.heap.size), 5, none⟩ = some (.slice a011 x011.length c011) := x13.cell 5 rfl
    have Carg0lt : (w.heap.size) < W12.heap.size := x13.lt
    go_wp2_with fail
    have h14 : Below w.heap.size w W12 := (bstep (bstep (bstep (bstep (bstep h7 b8) b9) b10) b11) b12)
    have f15 := ((((ox0.below b9).below b10).below b11).below b12)
    go_region_held3 (fun w' => w'.cell? ⟨(W8.heap.size), 0, none⟩ = some (.bool n00) ∧ w'.cell? ⟨(W8.heap.size), 1, none⟩ = some (.slice ax00 x000.length cx00) ∧ w'.cell? ⟨(W8.heap.size), 2, none⟩ = some (.slice ax01 x001.length cx01) ∧ w'.cell? ⟨(W8.heap.size), 3, none⟩ = some (.bool n01) ∧ w'.cell? ⟨(W8.heap.size), 4, none⟩ = some (.slice ax02 x010.length cx02) ∧ w'.cell? ⟨(W8.heap.size), 5, none⟩ = some (.slice ax03 x011.length cx03) ∧ w'.cell? ⟨(w.heap.size), 0, none⟩ = some (.bool n00) ∧ w'.cell? ⟨(w.heap.size), 1, none⟩ = some (.slice a000 x000.length c000) ∧ w'.cell? ⟨(w.heap.size), 2, none⟩ = some (.slice a001 x001.length c001) ∧ w'.cell? ⟨(w.heap.size), 3, none⟩ = some (.bool n01) ∧ w'.cell? ⟨(w.heap.size), 4, none⟩ = some (.slice a010 x010.length c010) ∧ w'.cell? ⟨(w.heap.size), 5, none⟩ = some (.slice a011 x011.length c011))
      ((first | exact ⟨Cx0q0, Cx0q1, Cx0q2, Cx0q3, Cx0q4, Cx0q5, Carg0q0, Carg0q1, Carg0q2, Carg0q3, Carg0q4, Carg0q5⟩ | exact ⟨cell_stepD Cx0q0 b13, cell_stepD Cx0q1 b13, cell_stepD Cx0q2 b13, cell_stepD Cx0q3 b13, cell_stepD Cx0q4 b13, cell_stepD Cx0q5 b13, cell_stepD Carg0q0 b13, cell_stepD Carg0q1 b13, cell_stepD Carg0q2 b13, cell_stepD Carg0q3 b13, cell_stepD Carg0q4 b13, cell_stepD Carg0q5 b13⟩ | exact ⟨cell_step (cell_stepD Cx0q0 b13) b14, cell_step (cell_stepD Cx0q1 b13) b14, cell_step (cell_stepD Cx0q2 b13) b14, cell_step (cell_stepD Cx0q3 b13) b14, cell_step (cell_stepD Cx0q4 b13) b14, cell_step (cell_stepD Cx0q5 b13) b14, cell_step (cell_stepD Carg0q0 b13) b14, cell_step (cell_stepD Carg0q1 b13) b14, cell_step (cell_stepD Carg0q2 b13) b14, cell_step (cell_stepD Carg0q3 b13) b14, cell_step (cell_stepD Carg0q4 b13) b14, cell_step (cell_stepD Carg0q5 b13) b14⟩))
      (first | (go_at_call 44; refine (toPoint_own n00 _ _ x000 _ _ x001 n01 _ _ x010 _ _ x011 _ (w000.below h14.drew) l000 (w001.below h14.drew) l001 (w010.below h14.drew) l010 (w011.below h14.drew) l011).mono ?_; rintro e W13 ⟨ay00, cy00, ay01, cy01, ay02, cy02, ay03, cy03, rfl, oy0, b13⟩) | (go_at_call 33; refine (eqPoint_same (n00) (n01) _ _ _ _ (x000) _ _ _ _ (x001) _ _ _ _ (x010) _ _ _ _ (x011) _ (((f15).below (Below.refl _ _).drew).below b13).i1 oy0.i1 l000 (((f15).below (Below.refl _ _).drew).below b13).i2 oy0.i2 l001 (((f15).below (Below.refl _ _).drew).below b13).i3 oy0.i3 l010 (((f15).below (Below.refl _ _).drew).below b13).i4 oy0.i4 l011).mono ?_; rintro e W14 ⟨rfl, b14⟩))
    have s13 := b13.size
    simp at s13
    have s14 := b14.size
    clear Cx0q0 Cx0q1 Cx0q2 Cx0q3 Cx0q4 Cx0q5 Cx0lt
    clear Carg0q0 Carg0q1 Carg0q2 Carg0q3 Carg0q4 Carg0q5 Carg0lt
    have x16 := (box_step (box_step (box_drew (box_step (box_step Bx1x10 b11) b12)) b13) b14)
    have Cx1q0 : W14.cell? ⟨(W9.heap.size), 0, none⟩ = some (.bool n10) := x16.cell 0 rfl
    have Cx1q1 : W14.cell? ⟨(W9.heap.size), 1, none⟩ = some (.slice ax10 x100.length cx10) := x16.cell 1 rfl
    have Cx1q2 : W14.cell? ⟨(W9.heap.size), 2, none⟩ = some (.slice ax11 x101.length cx11) := x16.cell 2 rfl
    have Cx1q3 : W14.cell? ⟨(W9.heap.size), 3, none⟩ = some (.bool n11) := x16.cell 3 rfl
    have Cx1q4 : W14.cell? ⟨(W9.heap.size), 4, none⟩ = some (.slice ax12 x110.length cx12) := x16.cell 4 rfl
    have Cx1q5 : W14.cell? ⟨(W9.heap.size), 5, none⟩ = some (.slice ax13 x111.length cx13) := x16.cell 5 rfl
    have Cx1lt : (W9.heap.size) < W14.heap.size := x16.lt
    have x17 := (box_step (box_step (box_drew (box_step (box_step (box_step (box_step x8 b9) b10) b11) b12)) b13) b14)
    have Carg1q0 : W14.cell? ⟨(w.heap.size + 1), 0, none⟩ = some (.bool n10) := x17.cell 0 rfl
    have Carg1q1 : W14.cell? ⟨(w.heap.size + 1), 1, none⟩ = some (.slice a100 x100.length c100) := x17.cell 1 rfl
    have Carg1q2 : W14.cell? ⟨(w.heap.size + 1), 2, none⟩ = some (.slice a101 x101.length c101) := x17.cell 2 rfl
    have Carg1q3 : W14.cell? ⟨(w.heap.size + 1), 3, none⟩ = some (.bool n11) := x17.cell 3 rfl
    have Carg1q4 : W14.cell? ⟨(w.heap.size + 1), 4, none⟩ = some (.slice a110 x110.length c110) := x17.cell 4 rfl
    have Carg1q5 : W14.cell? ⟨(w.heap.size + 1), 5, none⟩ = some (.slice a111 x111.length c111) := x17.cell 5 rfl
    have Carg1lt : (w.heap.size + 1) < W14.heap.size := x17.lt
    go_wp2_with fail
    have h18 : Below w.heap.size w W14 := (bstep (bstep h14.drew b13) b14)
    have f19 := ((((((ox1.below b10).below b11).below b12).below (Below.refl _ _).drew).below b13).below b14)
    go_region_held3 (fun w' => w'.cell? ⟨(W9.heap.size), 0, none⟩ = some (.bool n10) ∧ w'.cell? ⟨(W9.heap.size), 1, none⟩ = some (.slice ax10 x100.length cx10) ∧ w'.cell? ⟨(W9.heap.size), 2, none⟩ = some (.slice ax11 x101.length cx11) ∧ w'.cell? ⟨(W9.heap.size), 3, none⟩ = some (.bool n11) ∧ w'.cell? ⟨(W9.heap.size), 4, none⟩ = some (.slice ax12 x110.length cx12) ∧ w'.cell? ⟨(W9.heap.size), 5, none⟩ = some (.slice ax13 x111.length cx13) ∧ w'.cell? ⟨(w.heap.size + 1), 0, none⟩ = some (.bool n10) ∧ w'.cell? ⟨(w.heap.size + 1), 1, none⟩ = some (.slice a100 x100.length c100) ∧ w'.cell? ⟨(w.heap.size + 1), 2, none⟩ = some (.slice a101 x101.length c101) ∧ w'.cell? ⟨(w.heap.size + 1), 3, none⟩ = some (.bool n11) ∧ w'.cell? ⟨(w.heap.size + 1), 4, none⟩ = some (.slice a110 x110.length c110) ∧ w'.cell? ⟨(w.heap.size + 1), 5, none⟩ = some (.slice a111 x111.length c111))
      ((first | exact ⟨Cx1q0, Cx1q1, Cx1q2, Cx1q3, Cx1q4, Cx1q5, Carg1q0, Carg1q1, Carg1q2, Carg1q3, Carg1q4, Carg1q5⟩ | exact ⟨cell_stepD Cx1q0 b15, cell_stepD Cx1q1 b15, cell_stepD Cx1q2 b15, cell_stepD Cx1q3 b15, cell_stepD Cx1q4 b15, cell_stepD Cx1q5 b15, cell_stepD Carg1q0 b15, cell_stepD Carg1q1 b15, cell_stepD Carg1q2 b15, cell_stepD Carg1q3 b15, cell_stepD Carg1q4 b15, cell_stepD Carg1q5 b15⟩ | exact ⟨cell_step (cell_stepD Cx1q0 b15) b16, cell_step (cell_stepD Cx1q1 b15) b16, cell_step (cell_stepD Cx1q2 b15) b16, cell_step (cell_stepD Cx1q3 b15) b16, cell_step (cell_stepD Cx1q4 b15) b16, cell_step (cell_stepD Cx1q5 b15) b16, cell_step (cell_stepD Carg1q0 b15) b16, cell_step (cell_stepD Carg1q1 b15) b16, cell_step (cell_stepD Carg1q2 b15) b16, cell_step (cell_stepD Carg1q3 b15) b16, cell_step (cell_stepD Carg1q4 b15) b16, cell_step (cell_stepD Carg1q5 b15) b16⟩))
      (first | (go_at_call 44; refine (toPoint_own n10 _ _ x100 _ _ x101 n11 _ _ x110 _ _ x111 _ (w100.below h18.drew) l100 (w101.below h18.drew) l101 (w110.below h18.drew) l110 (w111.below h18.drew) l111).mono ?_; rintro e W15 ⟨ay10, cy10, ay11, cy11, ay12, cy12, ay13, cy13, rfl, oy1, b15⟩) | (go_at_call 33; refine (eqPoint_same (n10) (n11) _ _ _ _ (x100) _ _ _ _ (x101) _ _ _ _ (x110) _ _ _ _ (x111) _ (((f19).below (Below.refl _ _).drew).below b15).i1 oy1.i1 l100 (((f19).below (Below.refl _ _).drew).below b15).i2 oy1.i2 l101 (((f19).below (Below.refl _ _).drew).below b15).i3 oy1.i3 l110 (((f19).below (Below.refl _ _).drew).below b15).i4 oy1.i4 l111).mono ?_; rintro e W16 ⟨rfl, b16⟩))
    have s15 := b15.size
    simp at s15
    have s16 := b16.size
    clear Cx1q0 Cx1q1 Cx1q2 Cx1q3 Cx1q4 Cx1q5 Cx1lt
    clear Carg1q0 Carg1q1 Carg1q2 Carg1q3 Carg1q4 Carg1q5 Carg1lt
    have x20 := (box_step (box_step (box_drew (box_step (box_step (box_drew (box_step Bx2x11 b12)) b13) b14)) b15) b16)
    have Cx2q0 : W16.cell? ⟨(W10.heap.size), 0, none⟩ = some (.bool n20) := x20.cell 0 rfl
    have Cx2q1 : W16.cell? ⟨(W10.heap.size), 1, none⟩ = some (.slice ax20 x200.length cx20) := x20.cell 1 rfl
    have Cx2q2 : W16.cell? ⟨(W10.heap.size), 2, none⟩ = some (.slice ax21 x201.length cx21) := x20.cell 2 rfl
    have Cx2q3 : W16.cell? ⟨(W10.heap.size), 3, none⟩ = some (.bool n21) := x20.cell 3 rfl
    have Cx2q4 : W16.cell? ⟨(W10.heap.size), 4, none⟩ = some (.slice ax22 x210.length cx22) := x20.cell 4 rfl
    have Cx2q5 : W16.cell? ⟨(W10.heap.size), 5, none⟩ = some (.slice ax23 x211.length cx23) := x20.cell 5 rfl
    have Cx2lt : (W10.heap.size) < W16.heap.size := x20.lt
    have x21 := (box_step (box_step (box_drew (box_step (box_step (box_drew (box_step (box_step (box_step x9 b10) b11) b12)) b13) b14)) b15) b16)
    have Carg2q0 : W16.cell? ⟨(w.heap.size + 2), 0, none⟩ = some (.bool n20) := x21.cell 0 rfl
    have Carg2q1 : W16.cell? ⟨(w.heap.size + 2), 1, none⟩ = some (.slice a200 x200.length c200) := x21.cell 1 rfl
    have Carg2q2 : W16.cell? ⟨(w.heap.size + 2), 2, none⟩ = some (.slice a201 x201.length c201) := x21.cell 2 rfl
    have Carg2q3 : W16.cell? ⟨(w.heap.size + 2), 3, none⟩ = some (.bool n21) := x21.cell 3 rfl
    have Carg2q4 : W16.cell? ⟨(w.heap.size + 2), 4, none⟩ = some (.slice a210 x210.length c210) := x21.cell 4 rfl
    have Carg2q5 : W16.cell? ⟨(w.heap.size + 2), 5, none⟩ = some (.slice a211 x211.length c211) := x21.cell 5 rfl
    have Carg2lt : (w.heap.size + 2) < W16.heap.size := x21.lt
    go_wp2_with fail
    have h22 : Below w.heap.size w W16 := (bstep (bstep h18.drew b15) b16)
    have f23 := ((((((((ox2.below b11).below b12).below (Below.refl _ _).drew).below b13).below b14).below (Below.refl _ _).drew).below b15).below b16)
    go_region_held3 (fun w' => w'.cell? ⟨(W10.heap.size), 0, none⟩ = some (.bool n20) ∧ w'.cell? ⟨(W10.heap.size), 1, none⟩ = some (.slice ax20 x200.length cx20) ∧ w'.cell? ⟨(W10.heap.size), 2, none⟩ = some (.slice ax21 x201.length cx21) ∧ w'.cell? ⟨(W10.heap.size), 3, none⟩ = some (.bool n21) ∧ w'.cell? ⟨(W10.heap.size), 4, none⟩ = some (.slice ax22 x210.length cx22) ∧ w'.cell? ⟨(W10.heap.size), 5, none⟩ = some (.slice ax23 x211.length cx23) ∧ w'.cell? ⟨(w.heap.size + 2), 0, none⟩ = some (.bool n20) ∧ w'.cell? ⟨(w.heap.size + 2), 1, none⟩ = some (.slice a200 x200.length c200) ∧ w'.cell? ⟨(w.heap.size + 2), 2, none⟩ = some (.slice a201 x201.length c201) ∧ w'.cell? ⟨(w.heap.size + 2), 3, none⟩ = some (.bool n21) ∧ w'.cell? ⟨(w.heap.size + 2), 4, none⟩ = some (.slice a210 x210.length c210) ∧ w'.cell? ⟨(w.heap.size + 2), 5, none⟩ = some (.slice a211 x211.length c211))
      ((first | exact ⟨Cx2q0, Cx2q1, Cx2q2, Cx2q3, Cx2q4, Cx2q5, Carg2q0, Carg2q1, Carg2q2, Carg2q3, Carg2q4, Carg2q5⟩ | exact ⟨cell_stepD Cx2q0 b17, cell_stepD Cx2q1 b17, cell_stepD Cx2q2 b17, cell_stepD Cx2q3 b17, cell_stepD Cx2q4 b17, cell_stepD Cx2q5 b17, cell_stepD Carg2q0 b17, cell_stepD Carg2q1 b17, cell_stepD Carg2q2 b17, cell_stepD Carg2q3 b17, cell_stepD Carg2q4 b17, cell_stepD Carg2q5 b17⟩ | exact ⟨cell_step (cell_stepD Cx2q0 b17) b18, cell_step (cell_stepD Cx2q1 b17) b18, cell_step (cell_stepD Cx2q2 b17) b18, cell_step (cell_stepD Cx2q3 b17) b18, cell_step (cell_stepD Cx2q4 b17) b18, cell_step (cell_stepD Cx2q5 b17) b18, cell_step (cell_stepD Carg2q0 b17) b18, cell_step (cell_stepD Carg2q1 b17) b18, cell_step (cell_stepD Carg2q2 b17) b18, cell_step (cell_stepD Carg2q3 b17) b18, cell_step (cell_stepD Carg2q4 b17) b18, cell_step (cell_stepD Carg2q5 b17) b18⟩))
      (first | (go_at_call 44; refine (toPoint_own n20 _ _ x200 _ _ x201 n21 _ _ x210 _ _ x211 _ (w200.below h22.drew) l200 (w201.below h22.drew) l201 (w210.below h22.drew) l210 (w211.below h22.drew) l211).mono ?_; rintro e W17 ⟨ay20, cy20, ay21, cy21, ay22, cy22, ay23, cy23, rfl, oy2, b17⟩) | (go_at_call 33; refine (eqPoint_same (n20) (n21) _ _ _ _ (x200) _ _ _ _ (x201) _ _ _ _ (x210) _ _ _ _ (x211) _ (((f23).below (Below.refl _ _).drew).below b17).i1 oy2.i1 l200 (((f23).below (Below.refl _ _).drew).below b17).i2 oy2.i2 l201 (((f23).below (Below.refl _ _).drew).below b17).i3 oy2.i3 l210 (((f23).below (Below.refl _ _).drew).below b17).i4 oy2.i4 l211).mono ?_; rintro e W18 ⟨rfl, b18⟩))
    have s17 := b17.size
    simp at s17
    have s18 := b18.size
    clear Cx2q0 Cx2q1 Cx2q2 Cx2q3 Cx2q4 Cx2q5 Cx2lt
    clear Carg2q0 Carg2q1 Carg2q2 Carg2q3 Carg2q4 Carg2q5 Carg2lt
    have x24 := (box_step (box_step (box_drew (box_step (box_step (box_drew (box_step (box_step (box_drew x12) b13) b14)) b15) b16)) b17) b18)
    have Cx0q0 : W18.cell? ⟨(W8.heap.size), 0, none⟩ = some (.bool n00) := x24.cell 0 rfl
    have Cx0q1 : W18.cell? ⟨(W8.heap.size), 1, none⟩ = some (.slice ax00 x000.length cx00) := x24.cell 1 rfl
    have Cx0q2 : W18.cell? ⟨(W8.heap.size), 2, none⟩ = some (.slice ax01 x001.length cx01) := x24.cell 2 rfl
    have Cx0q3 : W18.cell? ⟨(W8.heap.size), 3, none⟩ = some (.bool n01) := x24.cell 3 rfl
    have Cx0q4 : W18.cell? ⟨(W8.heap.size), 4, none⟩ = some (.slice ax02 x010.length cx02) := x24.cell 4 rfl
    have Cx0q5 : W18.cell? ⟨(W8.heap.size), 5, none⟩ = some (.slice ax03 x011.length cx03) := x24.cell 5 rfl
    have Cx0lt : (W8.heap.size) < W18.heap.size := x24.lt
    go_wp2_with fail
    have f25 := (((((((((f15.below (Below.refl _ _).drew).below b13).below b14).below (Below.refl _ _).drew).below b15).below b16).below (Below.refl _ _).drew).below b17).below b18)
    refine (markPoint_own _ _ _ (x000) _ _ (x001) _ _ _ (x010) _ _ (x011) _ _ f25 (by omega) l000 l001 l010 l011 (by omega) (by omega)).mono ?_
    rintro e W19 ⟨rfl, mx0x19, b19⟩
    have s19 := b19.size
    clear Cx0q0 Cx0q1 Cx0q2 Cx0q3 Cx0q4 Cx0q5 Cx0lt
    have x26 := (box_span (box_step (box_step (box_drew (box_step (box_step (box_drew x16) b15) b16)) b17) b18) b19 (by omega))
    have Cx1q0 : W19.cell? ⟨(W9.heap.size), 0, none⟩ = some (.bool n10) := x26.cell 0 rfl
    have Cx1q1 : W19.cell? ⟨(W9.heap.size), 1, none⟩ = some (.slice ax10 x100.length cx10) := x26.cell 1 rfl
    have Cx1q2 : W19.cell? ⟨(W9.heap.size), 2, none⟩ = some (.slice ax11 x101.length cx11) := x26.cell 2 rfl
    have Cx1q3 : W19.cell? ⟨(W9.heap.size), 3, none⟩ = some (.bool n11) := x26.cell 3 rfl
    have Cx1q4 : W19.cell? ⟨(W9.heap.size), 4, none⟩ = some (.slice ax12 x110.length cx12) := x26.cell 4 rfl
    have Cx1q5 : W19.cell? ⟨(W9.heap.size), 5, none⟩ = some (.slice ax13 x111.length cx13) := x26.cell 5 rfl
    have Cx1lt : (W9.heap.size) < W19.heap.size := x26.lt
    go_wp2_with fail
    have f27 := (((((((f19.below (Below.refl _ _).drew).below b15).below b16).below (Below.refl _ _).drew).below b17).below b18).span b19 (by omega))
    refine (markPoint_own _ _ _ (x100) _ _ (x101) _ _ _ (x110) _ _ (x111) _ _ f27 (by omega) l100 l101 l110 l111 (by omega) (by omega)).mono ?_
    rintro e W20 ⟨rfl, mx1x20, b20⟩
    have s20 := b20.size
    clear Cx1q0 Cx1q1 Cx1q2 Cx1q3 Cx1q4 Cx1q5 Cx1lt
    have x28 := (box_span (box_span (box_step (box_step (box_drew x20) b17) b18) b19 (by omega)) b20 (by omega))
    have Cx2q0 : W20.cell? ⟨(W10.heap.size), 0, none⟩ = some (.bool n20) := x28.cell 0 rfl
    have Cx2q1 : W20.cell? ⟨(W10.heap.size), 1, none⟩ = some (.slice ax20 x200.length cx20) := x28.cell 1 rfl
    have Cx2q2 : W20.cell? ⟨(W10.heap.size), 2, none⟩ = some (.slice ax21 x201.length cx21) := x28.cell 2 rfl
    have Cx2q3 : W20.cell? ⟨(W10.heap.size), 3, none⟩ = some (.bool n21) := x28.cell 3 rfl
    have Cx2q4 : W20.cell? ⟨(W10.heap.size), 4, none⟩ = some (.slice ax22 x210.length cx22) := x28.cell 4 rfl
    have Cx2q5 : W20.cell? ⟨(W10.heap.size), 5, none⟩ = some (.slice ax23 x211.length cx23) := x28.cell 5 rfl
    have Cx2lt : (W10.heap.size) < W20.heap.size := x28.lt
    go_wp2_with fail
    have f29 := (((((f23.below (Below.refl _ _).drew).below b17).below b18).span b19 (by omega)).span b20 (by omega))
    refine (markPoint_own _ _ _ (x200) _ _ (x201) _ _ _ (x210) _ _ (x211) _ _ f29 (by omega) l200 l201 l210 l211 (by omega) (by omega)).mono ?_
    rintro e W21 ⟨rfl, mx2x21, b21⟩
    have s21 := b21.size
    clear Cx2q0 Cx2q1 Cx2q2 Cx2q3 Cx2q4 Cx2q5 Cx2lt
    have x30 := (box_span (box_span (box_span (box_step (box_step (box_drew (box_step (box_step (box_drew (box_step (box_step (box_drew Bg0x12) b13) b14)) b15) b16)) b17) b18) b19 (by omega)) b20 (by omega)) b21 (by omega))
    have Cg0q0 : W21.cell? ⟨(W11.heap.size), 0, none⟩ = some (.bool (areaPT (pt n00 x000 x001 n01 x010 x011) (pt n10 x100 x101 n11 x110 x111) (pt n20 x200 x201 n21 x210 x211)).neg) := x30.cell 0 rfl
    have Cg0q1 : W21.cell? ⟨(W11.heap.size), 1, none⟩ = some (.slice ag00 (areaPT (pt n00 x000 x001 n01 x010 x011) (pt n10 x100 x101 n11 x110 x111) (pt n20 x200 x201 n21 x210 x211)).num.length cg00) := x30.cell 1 rfl
    have Cg0q2 : W21.cell? ⟨(W11.heap.size), 2, none⟩ = some (.slice ag01 (areaPT (pt n00 x000 x001 n01 x010 x011) (pt n10 x100 x101 n11 x110 x111) (pt n20 x200 x201 n21 x210 x211)).den.length cg01) := x30.cell 2 rfl
    have Cg0lt : (W11.heap.size) < W21.heap.size := x30.lt
    have x31 := (box_span (box_span (box_span (box_step (box_step (box_drew (box_step (box_step (box_drew (box_step (box_step (box_drew (box_step x11 b12)) b13) b14)) b15) b16)) b17) b18) b19 (by omega)) b20 (by omega)) b21 (by omega))
    have Ct0q0 : W21.cell? ⟨Rt, 0, none⟩ = some (.bool (areaPT (pt n00 x000 x001 n01 x010 x011) (pt n10 x100 x101 n11 x110 x111) (pt n20 x200 x201 n21 x210 x211)).neg) := x31.cell 0 rfl
    have Ct0q1 : W21.cell? ⟨Rt, 1, none⟩ = some (.slice at00 (areaPT (pt n00 x000 x001 n01 x010 x011) (pt n10 x100 x101 n11 x110 x111) (pt n20 x200 x201 n21 x210 x211)).num.length ct00) := x31.cell 1 rfl
    have Ct0q2 : W21.cell? ⟨Rt, 2, none⟩ = some (.slice at01 (areaPT (pt n00 x000 x001 n01 x010 x011) (pt n10 x100 x101 n11 x110 x111) (pt n20 x200 x201 n21 x210 x211)).den.length ct01) := x31.cell 2 rfl
    have Ct0lt : Rt < W21.heap.size := x31.lt
    go_wp2_with fail
    have f32 := (((((((((((((og0.below b12).below (Below.refl _ _).drew).below b13).below b14).below (Below.refl _ _).drew).below b15).below b16).below (Below.refl _ _).drew).below b17).below b18).span b19 (by omega)).span b20 (by omega)).span b21 (by omega))
    have h33 : Below W7.heap.size W7 W21 := (bspan (bspan (bspan (bstep (bstep (bstep (bstep (bstep (bstep (bstep (bstep (bstep (bstep (bstep (Below.refl _ _) b8) b9) b10) b11) b12).drew b13) b14).drew b15) b16).drew b17) b18) b19 (by omega)) b20 (by omega)) b21 (by omega))
    refine (eqRat_same ((areaPT (pt n00 x000 x001 n01 x010 x011) (pt n10 x100 x101 n11 x110 x111) (pt n20 x200 x201 n21 x210 x211)).neg) _ _ _ _ ((areaPT (pt n00 x000 x001 n01 x010 x011) (pt n10 x100 x101 n11 x110 x111) (pt n20 x200 x201 n21 x210 x211)).num) _ _ _ _ ((areaPT (pt n00 x000 x001 n01 x010 x011) (pt n10 x100 x101 n11 x110 x111) (pt n20 x200 x201 n21 x210 x211)).den) _ f32.i1 (it00.below h33) l0 f32.i2 (it01.below h33) l1).mono ?_
    rintro e W22 ⟨rfl, b22⟩
    clear Cg0q0 Cg0q1 Cg0q2 Cg0lt
    clear Ct0q0 Ct0q1 Ct0q2 Ct0lt
    have s22 := b22.size
    have x34 := (box_step x30 b22)
    have Cg0q0 : W22.cell? ⟨(W11.heap.size), 0, none⟩ = some (.bool (areaPT (pt n00 x000 x001 n01 x010 x011) (pt n10 x100 x101 n11 x110 x111) (pt n20 x200 x201 n21 x210 x211)).neg) := x34.cell 0 rfl
    have Cg0q1 : W22.cell? ⟨(W11.heap.size), 1, none⟩ = some (.slice ag00 (areaPT (pt n00 x000 x001 n01 x010 x011) (pt n10 x100 x101 n11 x110 x111) (pt n20 x200 x201 n21 x210 x211)).num.length cg00) := x34.cell 1 rfl
    have Cg0q2 : W22.cell? ⟨(W11.heap.size), 2, none⟩ = some (.slice ag01 (areaPT (pt n00 x000 x001 n01 x010 x011) (pt n10 x100 x101 n11 x110 x111) (pt n20 x200 x201 n21 x210 x211)).den.length cg01) := x34.cell 2 rfl
    have Cg0lt : (W11.heap.size) < W22.heap.size := x34.lt
    go_wp2_with fail
    have f35 := (f32.below b22)
    refine (markRat_own _ _ _ ((areaPT (pt n00 x000 x001 n01 x010 x011) (pt n10 x100 x101 n11 x110 x111) (pt n20 x200 x201 n21 x210 x211)).num) _ _ ((areaPT (pt n00 x000 x001 n01 x010 x011) (pt n10 x100 x101 n11 x110 x111) (pt n20 x200 x201 n21 x210 x211)).den) _ _ f35 (by omega) l0 l1 (by omega) (by omega)).mono ?_
    rintro e W23 ⟨rfl, mg0x23, b23⟩
    have s23 := b23.size
    clear Cg0q0 Cg0q1 Cg0q2 Cg0lt
    have x36 := (box_span x34 b23 (by omega))
    have Cg0q0 : W23.cell? ⟨(W11.heap.size), 0, none⟩ = some (.bool (areaPT (pt n00 x000 x001 n01 x010 x011) (pt n10 x100 x101 n11 x110 x111) (pt n20 x200 x201 n21 x210 x211)).neg) := x36.cell 0 rfl
    have Cg0q1 : W23.cell? ⟨(W11.heap.size), 1, none⟩ = some (.slice ag00 (areaPT (pt n00 x000 x001 n01 x010 x011) (pt n10 x100 x101 n11 x110 x111) (pt n20 x200 x201 n21 x210 x211)).num.length cg00) := x36.cell 1 rfl
    have Cg0q2 : W23.cell? ⟨(W11.heap.size), 2, none⟩ = some (.slice ag01 (areaPT (pt n00 x000 x001 n01 x010 x011) (pt n10 x100 x101 n11 x110 x111) (pt n20 x200 x201 n21 x210 x211)).den.length cg01) := x36.cell 2 rfl
    have Cg0lt : (W11.heap.size) < W23.heap.size := x36.lt
    go_wp2_with fail
    refine (heldRat_own _ _ _ _ _ _ _ _ _ mg0x23 l0 l1 (by omega) (by omega)).mono ?_
    rintro e W24 ⟨rfl, b24⟩
    clear Cg0q0 Cg0q1 Cg0q2 Cg0lt
    have s24 := b24.size
    have x37 := (box_step (box_span (box_step (box_span (box_span (box_span (box_step (box_step (box_drew (box_step (box_step (box_drew (box_step (box_step (box_drew x13) b13) b14)) b15) b16)) b17) b18) b19 (by omega)) b20 (by omega)) b21 (by omega)) b22) b23 (by omega)) b24)
    have Carg0q0 : W24.cell? ⟨(w.heap.size), 0, none⟩ = some (.bool n00) := x37.cell 0 rfl
    have Carg0q1 : W24.cell? ⟨(w.heap.size), 1, none⟩ = some (.slice a000 x000.length c000) := x37.cell 1 rfl
    have Carg0q2 : W24.cell? ⟨(w.heap.size), 2, none⟩ = some (.slice a001 x001.length c001) := x37.cell 2 rfl
    have Carg0q3 : W24.cell? ⟨(w.heap.size), 3, none⟩ = some (.bool n01) := x37.cell 3 rfl
    have Carg0q4 : W24.cell? ⟨(w.heap.size), 4, none⟩ = some (.slice a010 x010.length c010) := x37.cell 4 rfl
    have Carg0q5 : W24.cell? ⟨(w.heap.size), 5, none⟩ = some (.slice a011 x011.length c011) := x37.cell 5 rfl
    have Carg0lt : (w.heap.size) < W24.heap.size := x37.lt
    have x38 := (box_step (box_span (box_step (box_span (box_span (box_span (box_step (box_step (box_drew (box_step (box_step (box_drew x17) b15) b16)) b17) b18) b19 (by omega)) b20 (by omega)) b21 (by omega)) b22) b23 (by omega)) b24)
    have Carg1q0 : W24.cell? ⟨(w.heap.size + 1), 0, none⟩ = some (.bool n10) := x38.cell 0 rfl
    have Carg1q1 : W24.cell? ⟨(w.heap.size + 1), 1, none⟩ = some (.slice a100 x100.length c100) := x38.cell 1 rfl
    have Carg1q2 : W24.cell? ⟨(w.heap.size + 1), 2, none⟩ = some (.slice a101 x101.length c101) := x38.cell 2 rfl
    have Carg1q3 : W24.cell? ⟨(w.heap.size + 1), 3, none⟩ = some (.bool n11) := x38.cell 3 rfl
    have Carg1q4 : W24.cell? ⟨(w.heap.size + 1), 4, none⟩ = some (.slice a110 x110.length c110) := x38.cell 4 rfl
    have Carg1q5 : W24.cell? ⟨(w.heap.size + 1), 5, none⟩ = some (.slice a111 x111.length c111) := x38.cell 5 rfl
    have Carg1lt : (w.heap.size + 1) < W24.heap.size := x38.lt
    have x39 := (box_step (box_span (box_step (box_span (box_span (box_span (box_step (box_step (box_drew x21) b17) b18) b19 (by omega)) b20 (by omega)) b21 (by omega)) b22) b23 (by omega)) b24)
    have Carg2q0 : W24.cell? ⟨(w.heap.size + 2), 0, none⟩ = some (.bool n20) := x39.cell 0 rfl
    have Carg2q1 : W24.cell? ⟨(w.heap.size + 2), 1, none⟩ = some (.slice a200 x200.length c200) := x39.cell 1 rfl
    have Carg2q2 : W24.cell? ⟨(w.heap.size + 2), 2, none⟩ = some (.slice a201 x201.length c201) := x39.cell 2 rfl
    have Carg2q3 : W24.cell? ⟨(w.heap.size + 2), 3, none⟩ = some (.bool n21) := x39.cell 3 rfl
    have Carg2q4 : W24.cell? ⟨(w.heap.size + 2), 4, none⟩ = some (.slice a210 x210.length c210) := x39.cell 4 rfl
    have Carg2q5 : W24.cell? ⟨(w.heap.size + 2), 5, none⟩ = some (.slice a211 x211.length c211) := x39.cell 5 rfl
    have Carg2lt : (w.heap.size + 2) < W24.heap.size := x39.lt
    have h40 : Below w.heap.size w W24 := (bstep (bspan (bstep (bspan (bspan (bspan (bstep (bstep h22.drew b17) b18) b19 (by omega)) b20 (by omega)) b21 (by omega)) b22) b23 (by omega)) b24)
    go_upto_region 38 with fail
    go_cut [16] (fun s16 wx => ∃ (R : Nat) (ah00 : Option Addr) (ch00 : Nat) (ah01 : Option Addr) (ch01 : Nat), s16 = .pointer (some ⟨R, 0, none⟩) ∧ W24.heap.size ≤ R ∧ Box wx R #[.bool (areaPT (pt n00 x000 x001 n01 x010 x011) (pt n10 x100 x101 n11 x110 x111) (pt n20 x200 x201 n21 x210 x211)).neg, .slice ah00 (areaPT (pt n00 x000 x001 n01 x010 x011) (pt n10 x100 x101 n11 x110 x111) (pt n20 x200 x201 n21 x210 x211)).num.length ch00, .slice ah01 (areaPT (pt n00 x000 x001 n01 x010 x011) (pt n10 x100 x101 n11 x110 x111) (pt n20 x200 x201 n21 x210 x211)).den.length ch01] ∧ IntsAt wx ah00 ch00 (areaPT (pt n00 x000 x001 n01 x010 x011) (pt n10 x100 x101 n11 x110 x111) (pt n20 x200 x201 n21 x210 x211)).num ∧ IntsAt wx ah01 ch01 (areaPT (pt n00 x000 x001 n01 x010 x011) (pt n10 x100 x101 n11 x110 x111) (pt n20 x200 x201 n21 x210 x211)).den ∧ Below W24.heap.size W24 wx)
    case first =>
      have tok25 : True := trivial
      have tok26 : True := trivial
      have tok27 : True := trivial
      go_region_held3 (fun w' => w'.cell? ⟨(w.heap.size), 0, none⟩ = some (.bool n00) ∧ w'.cell? ⟨(w.heap.size), 1, none⟩ = some (.slice a000 x000.length c000) ∧ w'.cell? ⟨(w.heap.size), 2, none⟩ = some (.slice a001 x001.length c001) ∧ w'.cell? ⟨(w.heap.size), 3, none⟩ = some (.bool n01) ∧ w'.cell? ⟨(w.heap.size), 4, none⟩ = some (.slice a010 x010.length c010) ∧ w'.cell? ⟨(w.heap.size), 5, none⟩ = some (.slice a011 x011.length c011) ∧ w'.cell? ⟨(w.heap.size + 1), 0, none⟩ = some (.bool n10) ∧ w'.cell? ⟨(w.heap.size + 1), 1, none⟩ = some (.slice a100 x100.length c100) ∧ w'.cell? ⟨(w.heap.size + 1), 2, none⟩ = some (.slice a101 x101.length c101) ∧ w'.cell? ⟨(w.heap.size + 1), 3, none⟩ = some (.bool n11) ∧ w'.cell? ⟨(w.heap.size + 1), 4, none⟩ = some (.slice a110 x110.length c110) ∧ w'.cell? ⟨(w.heap.size + 1), 5, none⟩ = some (.slice a111 x111.length c111) ∧ w'.cell? ⟨(w.heap.size + 2), 0, none⟩ = some (.bool n20) ∧ w'.cell? ⟨(w.heap.size + 2), 1, none⟩ = some (.slice a200 x200.length c200) ∧ w'.cell? ⟨(w.heap.size + 2), 2, none⟩ = some (.slice a201 x201.length c201) ∧ w'.cell? ⟨(w.heap.size + 2), 3, none⟩ = some (.bool n21) ∧ w'.cell? ⟨(w.heap.size + 2), 4, none⟩ = some (.slice a210 x210.length c210) ∧ w'.cell? ⟨(w.heap.size + 2), 5, none⟩ = some (.slice a211 x211.length c211))
        ((refine ⟨?_, ?_, ?_, ?_, ?_, ?_, ?_, ?_, ?_, ?_, ?_, ?_, ?_, ?_, ?_, ?_, ?_, ?_⟩ <;> (repeat first | with_reducible assumption | with_reducible refine cell_low ?_ (by first | omega | (simp; done) | (simp; omega)) | with_reducible refine cell_step ?_ (ba1 _ _) | with_reducible refine cell_step ?_ (by assumption) | with_reducible refine cell_dr ?_)))
        (first | (go_at_call 44; clear tok25; refine (toPoint_own n00 _ _ x000 _ _ x001 n01 _ _ x010 _ _ x011 _ (w000.below (by (repeat first | with_reducible assumption | with_reducible exact Below.refl _ _ | with_reducible refine bstep ?_ (ba1 _ _) | with_reducible refine bstep ?_ (by assumption) | with_reducible refine Below.drew ?_))) l000 (w001.below (by (repeat first | with_reducible assumption | with_reducible exact Below.refl _ _ | with_reducible refine bstep ?_ (ba1 _ _) | with_reducible refine bstep ?_ (by assumption) | with_reducible refine Below.drew ?_))) l001 (w010.below (by (repeat first | with_reducible assumption | with_reducible exact Below.refl _ _ | with_reducible refine bstep ?_ (ba1 _ _) | with_reducible refine bstep ?_ (by assumption) | with_reducible refine Below.drew ?_))) l010 (w011.below (by (repeat first | with_reducible assumption | with_reducible exact Below.refl _ _ | with_reducible refine bstep ?_ (ba1 _ _) | with_reducible refine bstep ?_ (by assumption) | with_reducible refine Below.drew ?_))) l011).mono ?_; rintro e W25 ⟨az00, cz00, az01, cz01, az02, cz02, az03, cz03, rfl, oz0, b25⟩; have s25 := b25.size; (try simp at s25); (first | have RZ := box_step RZ b25 | have RZ : Box W25 W24.heap.size _ := bx1_0 (w := W24.drew) b25 | skip)) | (go_at_call 44; clear tok26; refine (toPoint_own n10 _ _ x100 _ _ x101 n11 _ _ x110 _ _ x111 _ (w100.below (by (repeat first | with_reducible assumption | with_reducible exact Below.refl _ _ | with_reducible refine bstep ?_ (ba1 _ _) | with_reducible refine bstep ?_ (by assumption) | with_reducible refine Below.drew ?_))) l100 (w101.below (by (repeat first | with_reducible assumption | with_reducible exact Below.refl _ _ | with_reducible refine bstep ?_ (ba1 _ _) | with_reducible refine bstep ?_ (by assumption) | with_reducible refine Below.drew ?_))) l101 (w110.below (by (repeat first | with_reducible assumption | with_reducible exact Below.refl _ _ | with_reducible refine bstep ?_ (ba1 _ _) | with_reducible refine bstep ?_ (by assumption) | with_reducible refine Below.drew ?_))) l110 (w111.below (by (repeat first | with_reducible assumption | with_reducible exact Below.refl _ _ | with_reducible refine bstep ?_ (ba1 _ _) | with_reducible refine bstep ?_ (by assumption) | with_reducible refine Below.drew ?_))) l111).mono ?_; rintro e W26 ⟨az10, cz10, az11, cz11, az12, cz12, az13, cz13, rfl, oz1, b26⟩; have s26 := b26.size; (try simp at s26); (first | have RZ := box_step RZ b26 | have RZ : Box W26 W25.heap.size _ := bx1_0 b26 | skip)) | (go_at_call 44; clear tok27; refine (toPoint_own n20 _ _ x200 _ _ x201 n21 _ _ x210 _ _ x211 _ (w200.below (by (repeat first | with_reducible assumption | with_reducible exact Below.refl _ _ | with_reducible refine bstep ?_ (ba1 _ _) | with_reducible refine bstep ?_ (by assumption) | with_reducible refine Below.drew ?_))) l200 (w201.below (by (repeat first | with_reducible assumption | with_reducible exact Below.refl _ _ | with_reducible refine bstep ?_ (ba1 _ _) | with_reducible refine bstep ?_ (by assumption) | with_reducible refine Below.drew ?_))) l201 (w210.below (by (repeat first | with_reducible assumption | with_reducible exact Below.refl _ _ | with_reducible refine bstep ?_ (ba1 _ _) | with_reducible refine bstep ?_ (by assumption) | with_reducible refine Below.drew ?_))) l210 (w211.below (by (repeat first | with_reducible assumption | with_reducible exact Below.refl _ _ | with_reducible refine bstep ?_ (ba1 _ _) | with_reducible refine bstep ?_ (by assumption) | with_reducible refine Below.drew ?_))) l211).mono ?_; rintro e W27 ⟨az20, cz20, az21, cz21, az22, cz22, az23, cz23, rfl, oz2, b27⟩; have s27 := b27.size; (try simp at s27); (first | have RZ := box_step RZ b27 | have RZ : Box W27 W26.heap.size _ := bx1_0 b27 | skip)) | (go_at_call 83; refine (implDoubleArea_any n00 _ _ x000 _ _ x001 n01 _ _ x010 _ _ x011 n10 _ _ x100 _ _ x101 n11 _ _ x110 _ _ x111 n20 _ _ x200 _ _ x201 n21 _ _ x210 _ _ x211 _ (oz0.i1.below (by (repeat first | with_reducible assumption | with_reducible exact Below.refl _ _ | with_reducible refine bstep ?_ (ba1 _ _) | with_reducible refine bstep ?_ (by assumption) | with_reducible refine Below.drew ?_))) l000 (oz0.i2.below (by (repeat first | with_reducible assumption | with_reducible exact Below.refl _ _ | with_reducible refine bstep ?_ (ba1 _ _) | with_reducible refine bstep ?_ (by assumption) | with_reducible refine Below.drew ?_))) l001 (oz0.i3.below (by (repeat first | with_reducible assumption | with_reducible exact Below.refl _ _ | with_reducible refine bstep ?_ (ba1 _ _) | with_reducible refine bstep ?_ (by assumption) | with_reducible refine Below.drew ?_))) l010 (oz0.i4.below (by (repeat first | with_reducible assumption | with_reducible exact Below.refl _ _ | with_reducible refine bstep ?_ (ba1 _ _) | with_reducible refine bstep ?_ (by assumption) | with_reducible refine Below.drew ?_))) l011 (oz1.i1.below (by (repeat first | with_reducible assumption | with_reducible exact Below.refl _ _ | with_reducible refine bstep ?_ (ba1 _ _) | with_reducible refine bstep ?_ (by assumption) | with_reducible refine Below.drew ?_))) l100 (oz1.i2.below (by (repeat first | with_reducible assumption | with_reducible exact Below.refl _ _ | with_reducible refine bstep ?_ (ba1 _ _) | with_reducible refine bstep ?_ (by assumption) | with_reducible refine Below.drew ?_))) l101 (oz1.i3.below (by (repeat first | with_reducible assumption | with_reducible exact Below.refl _ _ | with_reducible refine bstep ?_ (ba1 _ _) | with_reducible refine bstep ?_ (by assumption) | with_reducible refine Below.drew ?_))) l110 (oz1.i4.below (by (repeat first | with_reducible assumption | with_reducible exact Below.refl _ _ | with_reducible refine bstep ?_ (ba1 _ _) | with_reducible refine bstep ?_ (by assumption) | with_reducible refine Below.drew ?_))) l111 (oz2.i1.below (by (repeat first | with_reducible assumption | with_reducible exact Below.refl _ _ | with_reducible refine bstep ?_ (ba1 _ _) | with_reducible refine bstep ?_ (by assumption) | with_reducible refine Below.drew ?_))) l200 (oz2.i2.below (by (repeat first | with_reducible assumption | with_reducible exact Below.refl _ _ | with_reducible refine bstep ?_ (ba1 _ _) | with_reducible refine bstep ?_ (by assumption) | with_reducible refine Below.drew ?_))) l201 (oz2.i3.below (by (repeat first | with_reducible assumption | with_reducible exact Below.refl _ _ | with_reducible refine bstep ?_ (ba1 _ _) | with_reducible refine bstep ?_ (by assumption) | with_reducible refine Below.drew ?_))) l210 (oz2.i4.below (by (repeat first | with_reducible assumption | with_reducible exact Below.refl _ _ | with_reducible refine bstep ?_ (ba1 _ _) | with_reducible refine bstep ?_ (by assumption) | with_reducible refine Below.drew ?_))) l211).mono ?_; rintro e W28 ⟨ah00, ch00, ah01, ch01, rfl, oh0, b28⟩; have s28 := b28.size; (try simp at s28); (first | have RZ := box_step RZ b28 | have RZ : Box W28 W27.heap.size _ := bx1_0 b28 | skip); (try (have Z0 : W28.cell? ⟨_, 0, none⟩ = some (.bool false) := RZ.cell 0 rfl; have FZ0 := RZ.frozen 0; have Z1 : W28.cell? ⟨_, 1, none⟩ = some (.slice none 0 0) := RZ.cell 1 rfl; have FZ1 := RZ.frozen 1; have Z2 : W28.cell? ⟨_, 2, none⟩ = some (.slice none 0 0) := RZ.cell 2 rfl; have FZ2 := RZ.frozen 2; have LZ := RZ.lt))))
      all_goals (go_wp2_with fail; go_meet; (first | exact ⟨_, _, _, _, _, rfl, (by first | omega | (simp; done) | (simp; omega)), bx1_0 (Below.refl _ _), (oh0.i1).below (ba1 _ _), (oh0.i2).below (ba1 _ _), (by (repeat first | with_reducible assumption | with_reducible exact Below.refl _ _ | with_reducible refine bstep ?_ (ba1 _ _) | with_reducible refine bstep ?_ (by assumption) | with_reducible refine Below.drew ?_))⟩ | exact ⟨_, _, _, _, _, rfl, (by first | omega | (simp; done) | (simp; omega)), box_as (box_put (k := 2) (box_put (k := 1) (box_put (k := 0) RZ))) rfl, (((oh0.put (k := 0) (by first | omega | (simp; done) | (simp; omega))).put (k := 1) (by first | omega | (simp; done) | (simp; omega))).put (k := 2) (by first | omega | (simp; done) | (simp; omega))).i1, (((oh0.put (k := 0) (by first | omega | (simp; done) | (simp; omega))).put (k := 1) (by first | omega | (simp; done) | (simp; omega))).put (k := 2) (by first | omega | (simp; done) | (simp; omega))).i2, (below_put (k := 2) (below_put (k := 1) (below_put (k := 0) (by (repeat first | with_reducible assumption | with_reducible exact Below.refl _ _ | with_reducible refine bstep ?_ (ba1 _ _) | with_reducible refine bstep ?_ (by assumption) | with_reducible refine Below.drew ?_)) (by first | omega | (simp; done) | (simp; omega))) (by first | omega | (simp; done) | (simp; omega))) (by first | omega | (simp; done) | (simp; omega)))⟩))
    case rest =>
      obtain ⟨Rh, ah00, ch00, ah01, ch01, rfl, hRh, Bh0x28, ih00, ih01, b28⟩ := hcut
      obtain ⟨W28, hW28⟩ : ∃ W', W' = wc := ⟨_, rfl⟩
      subst hW28
      have s28 := b28.size
      have hRlh := Bh0x28.lt
      clear Carg0q0 Carg0q1 Carg0q2 Carg0q3 Carg0q4 Carg0q5 Carg0lt
      clear Carg1q0 Carg1q1 Carg1q2 Carg1q3 Carg1q4 Carg1q5 Carg1lt
      clear Carg2q0 Carg2q1 Carg2q2 Carg2q3 Carg2q4 Carg2q5 Carg2lt
      have Ch0q0 : W28.cell? ⟨Rh, 0, none⟩ = some (.bool (areaPT (pt n00 x000 x001 n01 x010 x011) (pt n10 x100 x101 n11 x110 x111) (pt n20 x200 x201 n21 x210 x211)).neg) := Bh0x28.cell 0 rfl
      have Ch0q1 : W28.cell? ⟨Rh, 1, none⟩ = some (.slice ah00 (areaPT (pt n00 x000 x001 n01 x010 x011) (pt n10 x100 x101 n11 x110 x111) (pt n20 x200 x201 n21 x210 x211)).num.length ch00) := Bh0x28.cell 1 rfl
      have Ch0q2 : W28.cell? ⟨Rh, 2, none⟩ = some (.slice ah01 (areaPT (pt n00 x000 x001 n01 x010 x011) (pt n10 x100 x101 n11 x110 x111) (pt n20 x200 x201 n21 x210 x211)).den.length ch01) := Bh0x28.cell 2 rfl
      have Ch0lt : Rh < W28.heap.size := Bh0x28.lt
      have x41 := (box_step (box_step (box_span (box_step x31 b22) b23 (by omega)) b24) b28)
      have Ct0q0 : W28.cell? ⟨Rt, 0, none⟩ = some (.bool (areaPT (pt n00 x000 x001 n01 x010 x011) (pt n10 x100 x101 n11 x110 x111) (pt n20 x200 x201 n21 x210 x211)).neg) := x41.cell 0 rfl
      have Ct0q1 : W28.cell? ⟨Rt, 1, none⟩ = some (.slice at00 (areaPT (pt n00 x000 x001 n01 x010 x011) (pt n10 x100 x101 n11 x110 x111) (pt n20 x200 x201 n21 x210 x211)).num.length ct00) := x41.cell 1 rfl
      have Ct0q2 : W28.cell? ⟨Rt, 2, none⟩ = some (.slice at01 (areaPT (pt n00 x000 x001 n01 x010 x011) (pt n10 x100 x101 n11 x110 x111) (pt n20 x200 x201 n21 x210 x211)).den.length ct01) := x41.cell 2 rfl
      have Ct0lt : Rt < W28.heap.size := x41.lt
      go_wp2_with fail
      have h42 : Below W7.heap.size W7 W28 := (bstep (bstep (bspan (bstep h33 b22) b23 (by omega)) b24) b28)
      refine (eqRat_same ((areaPT (pt n00 x000 x001 n01 x010 x011) (pt n10 x100 x101 n11 x110 x111) (pt n20 x200 x201 n21 x210 x211)).neg) _ _ _ _ ((areaPT (pt n00 x000 x001 n01 x010 x011) (pt n10 x100 x101 n11 x110 x111) (pt n20 x200 x201 n21 x210 x211)).num) _ _ _ _ ((areaPT (pt n00 x000 x001 n01 x010 x011) (pt n10 x100 x101 n11 x110 x111) (pt n20 x200 x201 n21 x210 x211)).den) _ ih00 (it00.below h42) l0 ih01 (it01.below h42) l1).mono ?_
      rintro e W29 ⟨rfl, b29⟩
      clear Ch0q0 Ch0q1 Ch0q2 Ch0lt
      clear Ct0q0 Ct0q1 Ct0q2 Ct0lt
      have s29 := b29.size
      have x43 := (box_step (box_step (box_step x36 b24) b28) b29)
      have Cg0q0 : W29.cell? ⟨(W11.heap.size), 0, none⟩ = some (.bool (areaPT (pt n00 x000 x001 n01 x010 x011) (pt n10 x100 x101 n11 x110 x111) (pt n20 x200 x201 n21 x210 x211)).neg) := x43.cell 0 rfl
      have Cg0q1 : W29.cell? ⟨(W11.heap.size), 1, none⟩ = some (.slice ag00 (areaPT (pt n00 x000 x001 n01 x010 x011) (pt n10 x100 x101 n11 x110 x111) (pt n20 x200 x201 n21 x210 x211)).num.length cg00) := x43.cell 1 rfl
      have Cg0q2 : W29.cell? ⟨(W11.heap.size), 2, none⟩ = some (.slice ag01 (areaPT (pt n00 x000 x001 n01 x010 x011) (pt n10 x100 x101 n11 x110 x111) (pt n20 x200 x201 n21 x210 x211)).den.length cg01) := x43.cell 2 rfl
      have Cg0lt : (W11.heap.size) < W29.heap.size := x43.lt
      go_wp2_with fail
      have f44 := (((mg0x23.below b24).below b28).below b29)
      refine (heldRat_own _ _ _ _ _ _ _ _ _ f44 l0 l1 (by omega) (by omega)).mono ?_
      rintro e W30 ⟨rfl, b30⟩
      clear Cg0q0 Cg0q1 Cg0q2 Cg0lt
      have s30 := b30.size
      go_wp2
      go_ret
      have h45 : Below w.heap.size w W30 := (bstep (bstep (bstep h40 b28) b29) b30)
      exact ⟨rfl, h45⟩

set_option maxRecDepth 100000 in
theorem lifted (os : Os) (started : os.Started) (H : Type) (enc : TypeId × Value → H) :
    ReturnsInHanded {} Try.checked os 24 .any (Rows.fnExactDoubleAreaSpec.pre6 enc Try.prog Try.f24 Rows.fnExactDoubleAreaRow.domain false) (Rows.fnExactDoubleAreaSpec.post enc Try.prog Try.f24 false true false false) := by
  refine returnsInHanded_of_change (C := Try.checked) Try.own started (by kernel_rfl) Try.func24
    (ChangeSpec.witness6 (enc := enc) (C := Try.checked) false ⟨#[], #[.agg #[.bool false, .slice none 0 0, .slice none 0 0, .bool false, .slice none 0 0, .slice none 0 0], .agg #[.bool false, .slice none 0 0, .slice none 0 0, .bool false, .slice none 0 0, .slice none 0 0], .agg #[.bool false, .slice none 0 0, .slice none 0 0, .bool false, .slice none 0 0, .slice none 0 0]], []⟩ 8 (by kernel_rfl) (by kernel_rfl) (by kernel_rfl) (by kernel_rfl)) ?_
  intro W base args ds gs before hval0 hW hcnd _
  have hval : ∀ (j : Nat) t v, Try.f24.params[j]? = some t → args[j]? = some v → Value.okWide Try.prog W .any base t v := hval0
  have hW' := hW
  obtain ⟨p, q, hA0, hV, rfl, hfz, hnd⟩ := hW
  have hA : DataW.TrodAll enc Try.prog W 0 (fun _ => true) true Try.f24.params.toList args.toList ds p := hA0
  rw [Try.params24] at hA hval
  obtain ⟨v0, vs0, d0, ds0, p0, q0, hargs, rfl, rfl, h0, r0⟩ := trodAll_cons hA
  obtain ⟨v1, vs1, d1, ds1, p1, q1, rfl, rfl, rfl, h1, r1⟩ := trodAll_cons r0
  obtain ⟨v2, vs2, d2, ds2, p2, q2, rfl, rfl, rfl, h2, r2⟩ := trodAll_cons r1
  obtain ⟨rfl, rfl, rfl⟩ := trodAll_nil r2
  obtain rfl : args = #[v0, v1, v2] := by cases args; simp_all
  obtain ⟨rfl, rfl⟩ := trodVars_none hV
  have k0 := h0
  have lt0 : ∀ x ∈ p0, x.block < W.heap.size := by obtain ⟨m, hm⟩ := k0; exact DataW.trod_lt m _ _ _ hm
  obtain ⟨n00, a000, c000, x000, a001, c001, x001, n01, a010, c010, x010, a011, c011, x011, rfl, w000, w001, w010, w011⟩ := point_of_arg (hval 0 46 v0 rfl rfl) h0
  have k1 := h1
  have lt1 : ∀ x ∈ p1, x.block < W.heap.size := by obtain ⟨m, hm⟩ := k1; exact DataW.trod_lt m _ _ _ hm
  obtain ⟨n10, a100, c100, x100, a101, c101, x101, n11, a110, c110, x110, a111, c111, x111, rfl, w100, w101, w110, w111⟩ := point_of_arg (hval 1 46 v1 rfl rfl) h1
  have k2 := h2
  have lt2 : ∀ x ∈ p2, x.block < W.heap.size := by obtain ⟨m, hm⟩ := k2; exact DataW.trod_lt m _ _ _ hm
  obtain ⟨n20, a200, c200, x200, a201, c201, x201, n21, a210, c210, x210, a211, c211, x211, rfl, w200, w201, w210, w211⟩ := point_of_arg (hval 2 46 v2 rfl rfl) h2
  clear hA0 hval0
  refine (walk n00 a000 c000 x000 a001 c001 x001 n01 a010 c010 x010 a011 c011 x011 n10 a100 c100 x100 a101 c101 x101 n11 a110 c110 x110 a111 c111 x111 n20 a200 c200 x200 a201 c201 x201 n21 a210 c210 x210 a211 c211 x211 W w000 w001 w010 w011 w100 w101 w110 w111 w200 w201 w210 w211).mono fun e W' ⟨he, bel⟩ => ?_
  subst he
  exact ⟨_, rfl, _, _, _, [], _, [], hW', trodAll_mk1 (shut_bool Try.underlying4 _), (trodAll_cons_mk (Below.trod Try.laidOut (by kernel_rfl) (of_decide_eq_true (by kernel_rfl)) k0 bel lt0) (trodAll_cons_mk (Below.trod Try.laidOut (by kernel_rfl) (of_decide_eq_true (by kernel_rfl)) k1 bel lt1) (trodAll_cons_mk (Below.trod Try.laidOut (by kernel_rfl) (of_decide_eq_true (by kernel_rfl)) k2 bel lt2) trodAll_mk0))), rfl, bel.frame _, fun h => by cases h⟩

theorem over : Rows.fnExactDoubleAreaRow.holds Try.pinned (OpenSpec.ofChange Rows.fnExactDoubleAreaSpec) :=
  OpenClaim.holds_of_wide 24 Try.f24 rfl rfl rfl rfl rfl rfl rfl ⟨rfl, rfl, rfl, rfl, rfl⟩ rfl rfl rfl rfl rfl (by kernel_rfl) Try.func24 (closed_ofP may_enter make_cut lifts_final 24 Try.f24 Rows.fnExactDoubleAreaSpec Rows.fnExactDoubleAreaRow prog_facts (by kernel_rfl) rfl rfl)
    (of_decide_eq_true (by kernel_rfl)) (by unfold Func.isWrapper; first | (rw [if_pos (by decide +kernel)]; kernel_rfl) | (rw [if_neg (by decide +kernel)]; exact ⟨rfl, rfl⟩))
    (fun os started H enc _ => lifted os started H enc)

theorem proved : Rows.FnExactDoubleAreaSaid := over
#print axioms proved
end Go.Proofs.Ytlpnhcoaidmiiaa.fnExactDoubleArea
