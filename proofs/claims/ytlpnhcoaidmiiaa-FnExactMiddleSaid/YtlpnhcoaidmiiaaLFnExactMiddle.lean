/- For every input the law FnExactMiddle returns true, and its arguments read afterwards as they read before. No condition. -/
import Derived.Deep.RegionHeld3
import Derived.Deep.DeepCutAuto
import Derived.Test.YtlpnhcoaidmiiaaFrameA
import Derived.Test.YtlpnhcoaidmiiaaLaws2
import Derived.Test.YtlpnhcoaidmiiaaPtI
namespace Go.Proofs.Ytlpnhcoaidmiiaa.fnExactMiddle
set_option linter.unusedVariables false
set_option linter.unusedSimpArgs false
open Go.ChangeShapes Go.WideShapes Go.ChangeAt Go.RowKit
open Go.ChangeMaps (open_string shut_string)

set_option maxRecDepth 100000 in
set_option maxHeartbeats 8000000 in
theorem walk (n00 : Bool) (a000 : Option Addr) (c000 : Nat) (x000 : List Int) (a001 : Option Addr) (c001 : Nat) (x001 : List Int) (n01 : Bool) (a010 : Option Addr) (c010 : Nat) (x010 : List Int) (a011 : Option Addr) (c011 : Nat) (x011 : List Int) (n10 : Bool) (a100 : Option Addr) (c100 : Nat) (x100 : List Int) (a101 : Option Addr) (c101 : Nat) (x101 : List Int) (n11 : Bool) (a110 : Option Addr) (c110 : Nat) (x110 : List Int) (a111 : Option Addr) (c111 : Nat) (x111 : List Int) (w : World) (w000 : IntsAt w a000 c000 x000) (w001 : IntsAt w a001 c001 x001) (w010 : IntsAt w a010 c010 x010) (w011 : IntsAt w a011 c011 x011) (w100 : IntsAt w a100 c100 x100) (w101 : IntsAt w a101 c101 x101) (w110 : IntsAt w a110 c110 x110) (w111 : IntsAt w a111 c111 x111) :
    Calls Try.prog 25 #[.agg #[.bool n00, .slice a000 x000.length c000, .slice a001 x001.length c001, .bool n01, .slice a010 x010.length c010, .slice a011 x011.length c011], .agg #[.bool n10, .slice a100 x100.length c100, .slice a101 x101.length c101, .bool n11, .slice a110 x110.length c110, .slice a111 x111.length c111]] w fun e w' => e = .returned (.bool true) ∧ Below w.heap.size w w' := by
  by_cases g0 : x000.length + x001.length + x010.length + x011.length ≤ 1048576
  case neg =>
    go_enter Try.func25, Try.ntmps25
    go_wp2_with fail
    refine (szPoint_any n00 _ _ x000 _ _ x001 n01 _ _ x010 _ _ x011 _ _ (by omega) (by omega) w000.len63 w001.len63 w010.len63 w011.len63).mono ?_
    rintro e W1 ⟨rfl, b1⟩
    rw [if_pos (by omega)]
    have s1 := b1.size
    simp at s1
    have Barg0x1 : Box W1 (w.heap.size) #[.bool n00, .slice a000 x000.length c000, .slice a001 x001.length c001, .bool n01, .slice a010 x010.length c010, .slice a011 x011.length c011] := bx2_0 b1
    have Barg1x1 : Box W1 (w.heap.size + 1) #[.bool n10, .slice a100 x100.length c100, .slice a101 x101.length c101, .bool n11, .slice a110 x110.length c110, .slice a111 x111.length c111] := bx2_1 b1
    replace b1 := bstep (ba2 _ _ _ ) b1
    have h1 : Below w.heap.size w W1 := (bstep (Below.refl _ _) b1)
    go_wp2
    go_ret
    exact ⟨rfl, h1⟩
  by_cases g1 : x000.length + x001.length + x010.length + x011.length + x100.length + x101.length + x110.length + x111.length ≤ 1048576
  case neg =>
    go_enter Try.func25, Try.ntmps25
    go_wp2_with fail
    refine (szPoint_any n00 _ _ x000 _ _ x001 n01 _ _ x010 _ _ x011 _ _ (by omega) (by omega) w000.len63 w001.len63 w010.len63 w011.len63).mono ?_
    rintro e W1 ⟨rfl, b1⟩
    rw [if_neg (by omega)]
    have s1 := b1.size
    simp at s1
    have Barg0x1 : Box W1 (w.heap.size) #[.bool n00, .slice a000 x000.length c000, .slice a001 x001.length c001, .bool n01, .slice a010 x010.length c010, .slice a011 x011.length c011] := bx2_0 b1
    have Barg1x1 : Box W1 (w.heap.size + 1) #[.bool n10, .slice a100 x100.length c100, .slice a101 x101.length c101, .bool n11, .slice a110 x110.length c110, .slice a111 x111.length c111] := bx2_1 b1
    replace b1 := bstep (ba2 _ _ _ ) b1
    have Carg1q0 : W1.cell? ⟨(w.heap.size + 1), 0, none⟩ = some (.bool n10) := Barg1x1.cell 0 rfl
    have Carg1q1 : W1.cell? ⟨(w.heap.size + 1), 1, none⟩ = some (.slice a100 x100.length c100) := Barg1x1.cell 1 rfl
    have Carg1q2 : W1.cell? ⟨(w.heap.size + 1), 2, none⟩ = some (.slice a101 x101.length c101) := Barg1x1.cell 2 rfl
    have Carg1q3 : W1.cell? ⟨(w.heap.size + 1), 3, none⟩ = some (.bool n11) := Barg1x1.cell 3 rfl
    have Carg1q4 : W1.cell? ⟨(w.heap.size + 1), 4, none⟩ = some (.slice a110 x110.length c110) := Barg1x1.cell 4 rfl
    have Carg1q5 : W1.cell? ⟨(w.heap.size + 1), 5, none⟩ = some (.slice a111 x111.length c111) := Barg1x1.cell 5 rfl
    have Carg1lt : (w.heap.size + 1) < W1.heap.size := Barg1x1.lt
    go_wp2_with fail
    refine (szPoint_any n10 _ _ x100 _ _ x101 n11 _ _ x110 _ _ x111 _ _ (by omega) (by omega) w100.len63 w101.len63 w110.len63 w111.len63).mono ?_
    rintro e W2 ⟨rfl, b2⟩
    rw [if_pos (by omega)]
    clear Carg1q0 Carg1q1 Carg1q2 Carg1q3 Carg1q4 Carg1q5 Carg1lt
    have s2 := b2.size
    have h1 : Below w.heap.size w W2 := (bstep (bstep (Below.refl _ _) b1) b2)
    go_wp2
    go_ret
    exact ⟨rfl, h1⟩
  have l000 : x000.length ≤ 1048576 := by omega
  have l001 : x001.length ≤ 1048576 := by omega
  have l010 : x010.length ≤ 1048576 := by omega
  have l011 : x011.length ≤ 1048576 := by omega
  have l100 : x100.length ≤ 1048576 := by omega
  have l101 : x101.length ≤ 1048576 := by omega
  have l110 : x110.length ≤ 1048576 := by omega
  have l111 : x111.length ≤ 1048576 := by omega
  obtain ⟨l0, l1, l2, l3⟩ := PtOr.len (ptOr_middle (pt n00 x000 x001 n01 x010 x011) (pt n10 x100 x101 n11 x110 x111))
  go_enter Try.func25, Try.ntmps25
  go_wp2_with fail
  refine (szPoint_any n00 _ _ x000 _ _ x001 n01 _ _ x010 _ _ x011 _ _ (by omega) (by omega) w000.len63 w001.len63 w010.len63 w011.len63).mono ?_
  rintro e W1 ⟨rfl, b1⟩
  rw [if_neg (by omega)]
  have s1 := b1.size
  simp at s1
  have Barg0x1 : Box W1 (w.heap.size) #[.bool n00, .slice a000 x000.length c000, .slice a001 x001.length c001, .bool n01, .slice a010 x010.length c010, .slice a011 x011.length c011] := bx2_0 b1
  have Barg1x1 : Box W1 (w.heap.size + 1) #[.bool n10, .slice a100 x100.length c100, .slice a101 x101.length c101, .bool n11, .slice a110 x110.length c110, .slice a111 x111.length c111] := bx2_1 b1
  replace b1 := bstep (ba2 _ _ _ ) b1
  have Carg1q0 : W1.cell? ⟨(w.heap.size + 1), 0, none⟩ = some (.bool n10) := Barg1x1.cell 0 rfl
  have Carg1q1 : W1.cell? ⟨(w.heap.size + 1), 1, none⟩ = some (.slice a100 x100.length c100) := Barg1x1.cell 1 rfl
  have Carg1q2 : W1.cell? ⟨(w.heap.size + 1), 2, none⟩ = some (.slice a101 x101.length c101) := Barg1x1.cell 2 rfl
  have Carg1q3 : W1.cell? ⟨(w.heap.size + 1), 3, none⟩ = some (.bool n11) := Barg1x1.cell 3 rfl
  have Carg1q4 : W1.cell? ⟨(w.heap.size + 1), 4, none⟩ = some (.slice a110 x110.length c110) := Barg1x1.cell 4 rfl
  have Carg1q5 : W1.cell? ⟨(w.heap.size + 1), 5, none⟩ = some (.slice a111 x111.length c111) := Barg1x1.cell 5 rfl
  have Carg1lt : (w.heap.size + 1) < W1.heap.size := Barg1x1.lt
  go_wp2_with fail
  refine (szPoint_any n10 _ _ x100 _ _ x101 n11 _ _ x110 _ _ x111 _ _ (by omega) (by omega) w100.len63 w101.len63 w110.len63 w111.len63).mono ?_
  rintro e W2 ⟨rfl, b2⟩
  rw [if_neg (by omega)]
  clear Carg1q0 Carg1q1 Carg1q2 Carg1q3 Carg1q4 Carg1q5 Carg1lt
  have s2 := b2.size
  have x1 := (box_step Barg0x1 b2)
  have Carg0q0 : W2.cell? ⟨(w.heap.size), 0, none⟩ = some (.bool n00) := x1.cell 0 rfl
  have Carg0q1 : W2.cell? ⟨(w.heap.size), 1, none⟩ = some (.slice a000 x000.length c000) := x1.cell 1 rfl
  have Carg0q2 : W2.cell? ⟨(w.heap.size), 2, none⟩ = some (.slice a001 x001.length c001) := x1.cell 2 rfl
  have Carg0q3 : W2.cell? ⟨(w.heap.size), 3, none⟩ = some (.bool n01) := x1.cell 3 rfl
  have Carg0q4 : W2.cell? ⟨(w.heap.size), 4, none⟩ = some (.slice a010 x010.length c010) := x1.cell 4 rfl
  have Carg0q5 : W2.cell? ⟨(w.heap.size), 5, none⟩ = some (.slice a011 x011.length c011) := x1.cell 5 rfl
  have Carg0lt : (w.heap.size) < W2.heap.size := x1.lt
  have x2 := (box_step Barg1x1 b2)
  have Carg1q0 : W2.cell? ⟨(w.heap.size + 1), 0, none⟩ = some (.bool n10) := x2.cell 0 rfl
  have Carg1q1 : W2.cell? ⟨(w.heap.size + 1), 1, none⟩ = some (.slice a100 x100.length c100) := x2.cell 1 rfl
  have Carg1q2 : W2.cell? ⟨(w.heap.size + 1), 2, none⟩ = some (.slice a101 x101.length c101) := x2.cell 2 rfl
  have Carg1q3 : W2.cell? ⟨(w.heap.size + 1), 3, none⟩ = some (.bool n11) := x2.cell 3 rfl
  have Carg1q4 : W2.cell? ⟨(w.heap.size + 1), 4, none⟩ = some (.slice a110 x110.length c110) := x2.cell 4 rfl
  have Carg1q5 : W2.cell? ⟨(w.heap.size + 1), 5, none⟩ = some (.slice a111 x111.length c111) := x2.cell 5 rfl
  have Carg1lt : (w.heap.size + 1) < W2.heap.size := x2.lt
  have h3 : Below w.heap.size w W2 := (bstep (bstep (Below.refl _ _) b1) b2)
  go_upto_region 8 with fail
  go_cut [6] (fun s6 wx => ∃ (R : Nat) (at00 : Option Addr) (ct00 : Nat) (at01 : Option Addr) (ct01 : Nat) (at02 : Option Addr) (ct02 : Nat) (at03 : Option Addr) (ct03 : Nat), s6 = .pointer (some ⟨R, 0, none⟩) ∧ W2.heap.size ≤ R ∧ Box wx R #[.bool (middlePT (pt n00 x000 x001 n01 x010 x011) (pt n10 x100 x101 n11 x110 x111)).x.neg, .slice at00 (middlePT (pt n00 x000 x001 n01 x010 x011) (pt n10 x100 x101 n11 x110 x111)).x.num.length ct00, .slice at01 (middlePT (pt n00 x000 x001 n01 x010 x011) (pt n10 x100 x101 n11 x110 x111)).x.den.length ct01, .bool (middlePT (pt n00 x000 x001 n01 x010 x011) (pt n10 x100 x101 n11 x110 x111)).y.neg, .slice at02 (middlePT (pt n00 x000 x001 n01 x010 x011) (pt n10 x100 x101 n11 x110 x111)).y.num.length ct02, .slice at03 (middlePT (pt n00 x000 x001 n01 x010 x011) (pt n10 x100 x101 n11 x110 x111)).y.den.length ct03] ∧ IntsAt wx at00 ct00 (middlePT (pt n00 x000 x001 n01 x010 x011) (pt n10 x100 x101 n11 x110 x111)).x.num ∧ IntsAt wx at01 ct01 (middlePT (pt n00 x000 x001 n01 x010 x011) (pt n10 x100 x101 n11 x110 x111)).x.den ∧ IntsAt wx at02 ct02 (middlePT (pt n00 x000 x001 n01 x010 x011) (pt n10 x100 x101 n11 x110 x111)).y.num ∧ IntsAt wx at03 ct03 (middlePT (pt n00 x000 x001 n01 x010 x011) (pt n10 x100 x101 n11 x110 x111)).y.den ∧ Below W2.heap.size W2 wx)
  case first =>
    have tok3 : True := trivial
    have tok4 : True := trivial
    go_region_held3 (fun w' => w'.cell? ⟨(w.heap.size), 0, none⟩ = some (.bool n00) ∧ w'.cell? ⟨(w.heap.size), 1, none⟩ = some (.slice a000 x000.length c000) ∧ w'.cell? ⟨(w.heap.size), 2, none⟩ = some (.slice a001 x001.length c001) ∧ w'.cell? ⟨(w.heap.size), 3, none⟩ = some (.bool n01) ∧ w'.cell? ⟨(w.heap.size), 4, none⟩ = some (.slice a010 x010.length c010) ∧ w'.cell? ⟨(w.heap.size), 5, none⟩ = some (.slice a011 x011.length c011) ∧ w'.cell? ⟨(w.heap.size + 1), 0, none⟩ = some (.bool n10) ∧ w'.cell? ⟨(w.heap.size + 1), 1, none⟩ = some (.slice a100 x100.length c100) ∧ w'.cell? ⟨(w.heap.size + 1), 2, none⟩ = some (.slice a101 x101.length c101) ∧ w'.cell? ⟨(w.heap.size + 1), 3, none⟩ = some (.bool n11) ∧ w'.cell? ⟨(w.heap.size + 1), 4, none⟩ = some (.slice a110 x110.length c110) ∧ w'.cell? ⟨(w.heap.size + 1), 5, none⟩ = some (.slice a111 x111.length c111))
      ((refine ⟨?_, ?_, ?_, ?_, ?_, ?_, ?_, ?_, ?_, ?_, ?_, ?_⟩ <;> (repeat first | with_reducible assumption | with_reducible refine cell_low ?_ (by first | omega | (simp; done) | (simp; omega)) | with_reducible refine cell_step ?_ (ba1 _ _) | with_reducible refine cell_step ?_ (by assumption) | with_reducible refine cell_dr ?_)))
      (first | (go_at_call 44; clear tok3; refine (toPoint_own n00 _ _ x000 _ _ x001 n01 _ _ x010 _ _ x011 _ (w000.below (by (repeat first | with_reducible assumption | with_reducible exact Below.refl _ _ | with_reducible refine bstep ?_ (ba1 _ _) | with_reducible refine bstep ?_ (by assumption) | with_reducible refine Below.drew ?_))) l000 (w001.below (by (repeat first | with_reducible assumption | with_reducible exact Below.refl _ _ | with_reducible refine bstep ?_ (ba1 _ _) | with_reducible refine bstep ?_ (by assumption) | with_reducible refine Below.drew ?_))) l001 (w010.below (by (repeat first | with_reducible assumption | with_reducible exact Below.refl _ _ | with_reducible refine bstep ?_ (ba1 _ _) | with_reducible refine bstep ?_ (by assumption) | with_reducible refine Below.drew ?_))) l010 (w011.below (by (repeat first | with_reducible assumption | with_reducible exact Below.refl _ _ | with_reducible refine bstep ?_ (ba1 _ _) | with_reducible refine bstep ?_ (by assumption) | with_reducible refine Below.drew ?_))) l011).mono ?_; rintro e W3 ⟨as00, cs00, as01, cs01, as02, cs02, as03, cs03, rfl, os0, b3⟩; have s3 := b3.size; (try simp at s3); (first | have RZ := box_step RZ b3 | have RZ : Box W3 W2.heap.size _ := bx1_0 (w := W2.drew) b3 | skip)) | (go_at_call 44; clear tok4; refine (toPoint_own n10 _ _ x100 _ _ x101 n11 _ _ x110 _ _ x111 _ (w100.below (by (repeat first | with_reducible assumption | with_reducible exact Below.refl _ _ | with_reducible refine bstep ?_ (ba1 _ _) | with_reducible refine bstep ?_ (by assumption) | with_reducible refine Below.drew ?_))) l100 (w101.below (by (repeat first | with_reducible assumption | with_reducible exact Below.refl _ _ | with_reducible refine bstep ?_ (ba1 _ _) | with_reducible refine bstep ?_ (by assumption) | with_reducible refine Below.drew ?_))) l101 (w110.below (by (repeat first | with_reducible assumption | with_reducible exact Below.refl _ _ | with_reducible refine bstep ?_ (ba1 _ _) | with_reducible refine bstep ?_ (by assumption) | with_reducible refine Below.drew ?_))) l110 (w111.below (by (repeat first | with_reducible assumption | with_reducible exact Below.refl _ _ | with_reducible refine bstep ?_ (ba1 _ _) | with_reducible refine bstep ?_ (by assumption) | with_reducible refine Below.drew ?_))) l111).mono ?_; rintro e W4 ⟨as10, cs10, as11, cs11, as12, cs12, as13, cs13, rfl, os1, b4⟩; have s4 := b4.size; (try simp at s4); (first | have RZ := box_step RZ b4 | have RZ : Box W4 W3.heap.size _ := bx1_0 b4 | skip)) | (go_at_call 84; refine (specMiddle_own n00 _ _ x000 _ _ x001 n01 _ _ x010 _ _ x011 n10 _ _ x100 _ _ x101 n11 _ _ x110 _ _ x111 _ (os0.i1.below (by (repeat first | with_reducible assumption | with_reducible exact Below.refl _ _ | with_reducible refine bstep ?_ (ba1 _ _) | with_reducible refine bstep ?_ (by assumption) | with_reducible refine Below.drew ?_))) l000 (os0.i2.below (by (repeat first | with_reducible assumption | with_reducible exact Below.refl _ _ | with_reducible refine bstep ?_ (ba1 _ _) | with_reducible refine bstep ?_ (by assumption) | with_reducible refine Below.drew ?_))) l001 (os0.i3.below (by (repeat first | with_reducible assumption | with_reducible exact Below.refl _ _ | with_reducible refine bstep ?_ (ba1 _ _) | with_reducible refine bstep ?_ (by assumption) | with_reducible refine Below.drew ?_))) l010 (os0.i4.below (by (repeat first | with_reducible assumption | with_reducible exact Below.refl _ _ | with_reducible refine bstep ?_ (ba1 _ _) | with_reducible refine bstep ?_ (by assumption) | with_reducible refine Below.drew ?_))) l011 (os1.i1.below (by (repeat first | with_reducible assumption | with_reducible exact Below.refl _ _ | with_reducible refine bstep ?_ (ba1 _ _) | with_reducible refine bstep ?_ (by assumption) | with_reducible refine Below.drew ?_))) l100 (os1.i2.below (by (repeat first | with_reducible assumption | with_reducible exact Below.refl _ _ | with_reducible refine bstep ?_ (ba1 _ _) | with_reducible refine bstep ?_ (by assumption) | with_reducible refine Below.drew ?_))) l101 (os1.i3.below (by (repeat first | with_reducible assumption | with_reducible exact Below.refl _ _ | with_reducible refine bstep ?_ (ba1 _ _) | with_reducible refine bstep ?_ (by assumption) | with_reducible refine Below.drew ?_))) l110 (os1.i4.below (by (repeat first | with_reducible assumption | with_reducible exact Below.refl _ _ | with_reducible refine bstep ?_ (ba1 _ _) | with_reducible refine bstep ?_ (by assumption) | with_reducible refine Below.drew ?_))) l111).mono ?_; rintro e W5 ⟨at00, ct00, at01, ct01, at02, ct02, at03, ct03, rfl, ot0, b5⟩; have s5 := b5.size; (try simp at s5); (first | have RZ := box_step RZ b5 | have RZ : Box W5 W4.heap.size _ := bx1_0 b5 | skip); (try (have Z0 : W5.cell? ⟨_, 0, none⟩ = some (.bool false) := RZ.cell 0 rfl; have FZ0 := RZ.frozen 0; have Z1 : W5.cell? ⟨_, 1, none⟩ = some (.slice none 0 0) := RZ.cell 1 rfl; have FZ1 := RZ.frozen 1; have Z2 : W5.cell? ⟨_, 2, none⟩ = some (.slice none 0 0) := RZ.cell 2 rfl; have FZ2 := RZ.frozen 2; have Z3 : W5.cell? ⟨_, 3, none⟩ = some (.bool false) := RZ.cell 3 rfl; have FZ3 := RZ.frozen 3; have Z4 : W5.cell? ⟨_, 4, none⟩ = some (.slice none 0 0) := RZ.cell 4 rfl; have FZ4 := RZ.frozen 4; have Z5 : W5.cell? ⟨_, 5, none⟩ = some (.slice none 0 0) := RZ.cell 5 rfl; have FZ5 := RZ.frozen 5; have LZ := RZ.lt))))
    all_goals (go_wp2_with fail; go_meet; refine ⟨_, at00, ct00, at01, ct01, at02, ct02, at03, ct03, rfl, (by first | omega | (simp; done) | (simp; omega)), ?_⟩; (first | (refine And.intro (box_as (box_put (k := 5) (box_put (k := 4) (box_put (k := 3) (box_put (k := 2) (box_put (k := 1) (box_put (k := 0) RZ)))))) (by first | (simp; done) | rfl)) ?_; exact ⟨((((((ot0.put (k := 0) (by first | omega | (simp; done) | (simp; omega))).put (k := 1) (by first | omega | (simp; done) | (simp; omega))).put (k := 2) (by first | omega | (simp; done) | (simp; omega))).put (k := 3) (by first | omega | (simp; done) | (simp; omega))).put (k := 4) (by first | omega | (simp; done) | (simp; omega))).put (k := 5) (by first | omega | (simp; done) | (simp; omega))).i1, ((((((ot0.put (k := 0) (by first | omega | (simp; done) | (simp; omega))).put (k := 1) (by first | omega | (simp; done) | (simp; omega))).put (k := 2) (by first | omega | (simp; done) | (simp; omega))).put (k := 3) (by first | omega | (simp; done) | (simp; omega))).put (k := 4) (by first | omega | (simp; done) | (simp; omega))).put (k := 5) (by first | omega | (simp; done) | (simp; omega))).i2, ((((((ot0.put (k := 0) (by first | omega | (simp; done) | (simp; omega))).put (k := 1) (by first | omega | (simp; done) | (simp; omega))).put (k := 2) (by first | omega | (simp; done) | (simp; omega))).put (k := 3) (by first | omega | (simp; done) | (simp; omega))).put (k := 4) (by first | omega | (simp; done) | (simp; omega))).put (k := 5) (by first | omega | (simp; done) | (simp; omega))).i3, ((((((ot0.put (k := 0) (by first | omega | (simp; done) | (simp; omega))).put (k := 1) (by first | omega | (simp; done) | (simp; omega))).put (k := 2) (by first | omega | (simp; done) | (simp; omega))).put (k := 3) (by first | omega | (simp; done) | (simp; omega))).put (k := 4) (by first | omega | (simp; done) | (simp; omega))).put (k := 5) (by first | omega | (simp; done) | (simp; omega))).i4, (below_put (k := 5) (below_put (k := 4) (below_put (k := 3) (below_put (k := 2) (below_put (k := 1) (below_put (k := 0) (by (repeat first | with_reducible assumption | with_reducible exact Below.refl _ _ | with_reducible refine bstep ?_ (ba1 _ _) | with_reducible refine bstep ?_ (by assumption) | with_reducible refine Below.drew ?_)) (by first | omega | (simp; done) | (simp; omega))) (by first | omega | (simp; done) | (simp; omega))) (by first | omega | (simp; done) | (simp; omega))) (by first | omega | (simp; done) | (simp; omega))) (by first | omega | (simp; done) | (simp; omega))) (by first | omega | (simp; done) | (simp; omega)))⟩) | (refine And.intro (bx1_0 (Below.refl _ _)) ?_; exact ⟨(ot0.i1).below (ba1 _ _), (ot0.i2).below (ba1 _ _), (ot0.i3).below (ba1 _ _), (ot0.i4).below (ba1 _ _), (by (repeat first | with_reducible assumption | with_reducible exact Below.refl _ _ | with_reducible refine bstep ?_ (ba1 _ _) | with_reducible refine bstep ?_ (by assumption) | with_reducible refine Below.drew ?_))⟩)))
  case rest =>
    obtain ⟨Rt, at00, ct00, at01, ct01, at02, ct02, at03, ct03, rfl, hRt, Bt0x5, it00, it01, it02, it03, b5⟩ := hcut
    obtain ⟨W5, hW5⟩ : ∃ W', W' = wc := ⟨_, rfl⟩
    subst hW5
    have s5 := b5.size
    have hRlt := Bt0x5.lt
    clear Carg0q0 Carg0q1 Carg0q2 Carg0q3 Carg0q4 Carg0q5 Carg0lt
    clear Carg1q0 Carg1q1 Carg1q2 Carg1q3 Carg1q4 Carg1q5 Carg1lt
    have x4 := (box_step x1 b5)
    have Carg0q0 : W5.cell? ⟨(w.heap.size), 0, none⟩ = some (.bool n00) := x4.cell 0 rfl
    have Carg0q1 : W5.cell? ⟨(w.heap.size), 1, none⟩ = some (.slice a000 x000.length c000) := x4.cell 1 rfl
    have Carg0q2 : W5.cell? ⟨(w.heap.size), 2, none⟩ = some (.slice a001 x001.length c001) := x4.cell 2 rfl
    have Carg0q3 : W5.cell? ⟨(w.heap.size), 3, none⟩ = some (.bool n01) := x4.cell 3 rfl
    have Carg0q4 : W5.cell? ⟨(w.heap.size), 4, none⟩ = some (.slice a010 x010.length c010) := x4.cell 4 rfl
    have Carg0q5 : W5.cell? ⟨(w.heap.size), 5, none⟩ = some (.slice a011 x011.length c011) := x4.cell 5 rfl
    have Carg0lt : (w.heap.size) < W5.heap.size := x4.lt
    go_wp2_with fail
    have h5 : Below w.heap.size w W5 := (bstep h3 b5)
    refine (toPoint_own n00 _ _ x000 _ _ x001 n01 _ _ x010 _ _ x011 _ (w000.below h5) l000 (w001.below h5) l001 (w010.below h5) l010 (w011.below h5) l011).mono ?_
    rintro e W6 ⟨ax00, cx00, ax01, cx01, ax02, cx02, ax03, cx03, rfl, ox0, b6⟩
    clear Carg0q0 Carg0q1 Carg0q2 Carg0q3 Carg0q4 Carg0q5 Carg0lt
    have s6 := b6.size
    have x6 := (box_step (box_step x2 b5) b6)
    have Carg1q0 : W6.cell? ⟨(w.heap.size + 1), 0, none⟩ = some (.bool n10) := x6.cell 0 rfl
    have Carg1q1 : W6.cell? ⟨(w.heap.size + 1), 1, none⟩ = some (.slice a100 x100.length c100) := x6.cell 1 rfl
    have Carg1q2 : W6.cell? ⟨(w.heap.size + 1), 2, none⟩ = some (.slice a101 x101.length c101) := x6.cell 2 rfl
    have Carg1q3 : W6.cell? ⟨(w.heap.size + 1), 3, none⟩ = some (.bool n11) := x6.cell 3 rfl
    have Carg1q4 : W6.cell? ⟨(w.heap.size + 1), 4, none⟩ = some (.slice a110 x110.length c110) := x6.cell 4 rfl
    have Carg1q5 : W6.cell? ⟨(w.heap.size + 1), 5, none⟩ = some (.slice a111 x111.length c111) := x6.cell 5 rfl
    have Carg1lt : (w.heap.size + 1) < W6.heap.size := x6.lt
    go_wp2_with fail
    refine (toPoint_own n10 _ _ x100 _ _ x101 n11 _ _ x110 _ _ x111 _ (w100.below (bstep (bstep h5 b6) (ba1 _ _))) l100 (w101.below (bstep (bstep h5 b6) (ba1 _ _))) l101 (w110.below (bstep (bstep h5 b6) (ba1 _ _))) l110 (w111.below (bstep (bstep h5 b6) (ba1 _ _))) l111).mono ?_
    rintro e W7 ⟨ax10, cx10, ax11, cx11, ax12, cx12, ax13, cx13, rfl, ox1, b7⟩
    clear Carg1q0 Carg1q1 Carg1q2 Carg1q3 Carg1q4 Carg1q5 Carg1lt
    have s7 := b7.size
    simp at s7
    have Bx0x7 : Box W7 (W6.heap.size) #[.bool n00, .slice ax00 x000.length cx00, .slice ax01 x001.length cx01, .bool n01, .slice ax02 x010.length cx02, .slice ax03 x011.length cx03] := bx1_0 b7
    replace b7 := bstep (ba1 _ _ ) b7
    replace ox1 := ox1.mono (lo2 := W6.heap.size + 1) (by simp) (Nat.le_refl _)
    have Cx0q0 : W7.cell? ⟨(W6.heap.size), 0, none⟩ = some (.bool n00) := Bx0x7.cell 0 rfl
    have Cx0q1 : W7.cell? ⟨(W6.heap.size), 1, none⟩ = some (.slice ax00 x000.length cx00) := Bx0x7.cell 1 rfl
    have Cx0q2 : W7.cell? ⟨(W6.heap.size), 2, none⟩ = some (.slice ax01 x001.length cx01) := Bx0x7.cell 2 rfl
    have Cx0q3 : W7.cell? ⟨(W6.heap.size), 3, none⟩ = some (.bool n01) := Bx0x7.cell 3 rfl
    have Cx0q4 : W7.cell? ⟨(W6.heap.size), 4, none⟩ = some (.slice ax02 x010.length cx02) := Bx0x7.cell 4 rfl
    have Cx0q5 : W7.cell? ⟨(W6.heap.size), 5, none⟩ = some (.slice ax03 x011.length cx03) := Bx0x7.cell 5 rfl
    have Cx0lt : (W6.heap.size) < W7.heap.size := Bx0x7.lt
    go_wp2_with fail
    refine (implMiddle_any n00 _ _ x000 _ _ x001 n01 _ _ x010 _ _ x011 n10 _ _ x100 _ _ x101 n11 _ _ x110 _ _ x111 _ ((ox0.below b7).below (ba1 _ _)).i1 l000 ((ox0.below b7).below (ba1 _ _)).i2 l001 ((ox0.below b7).below (ba1 _ _)).i3 l010 ((ox0.below b7).below (ba1 _ _)).i4 l011 (ox1.below (ba1 _ _)).i1 l100 (ox1.below (ba1 _ _)).i2 l101 (ox1.below (ba1 _ _)).i3 l110 (ox1.below (ba1 _ _)).i4 l111).mono ?_
    rintro e W8 ⟨ag00, cg00, ag01, cg01, ag02, cg02, ag03, cg03, rfl, og0, b8⟩
    clear Cx0q0 Cx0q1 Cx0q2 Cx0q3 Cx0q4 Cx0q5 Cx0lt
    have s8 := b8.size
    simp at s8
    have Bx1x8 : Box W8 (W7.heap.size) #[.bool n10, .slice ax10 x100.length cx10, .slice ax11 x101.length cx11, .bool n11, .slice ax12 x110.length cx12, .slice ax13 x111.length cx13] := bx1_0 b8
    replace b8 := bstep (ba1 _ _ ) b8
    replace og0 := og0.mono (lo2 := W7.heap.size + 1) (by simp) (Nat.le_refl _)
    have x7 := (box_step (box_step (box_step Bt0x5 b6) b7) b8)
    have Ct0q0 : W8.cell? ⟨Rt, 0, none⟩ = some (.bool (middlePT (pt n00 x000 x001 n01 x010 x011) (pt n10 x100 x101 n11 x110 x111)).x.neg) := x7.cell 0 rfl
    have Ct0q1 : W8.cell? ⟨Rt, 1, none⟩ = some (.slice at00 (middlePT (pt n00 x000 x001 n01 x010 x011) (pt n10 x100 x101 n11 x110 x111)).x.num.length ct00) := x7.cell 1 rfl
    have Ct0q2 : W8.cell? ⟨Rt, 2, none⟩ = some (.slice at01 (middlePT (pt n00 x000 x001 n01 x010 x011) (pt n10 x100 x101 n11 x110 x111)).x.den.length ct01) := x7.cell 2 rfl
    have Ct0q3 : W8.cell? ⟨Rt, 3, none⟩ = some (.bool (middlePT (pt n00 x000 x001 n01 x010 x011) (pt n10 x100 x101 n11 x110 x111)).y.neg) := x7.cell 3 rfl
    have Ct0q4 : W8.cell? ⟨Rt, 4, none⟩ = some (.slice at02 (middlePT (pt n00 x000 x001 n01 x010 x011) (pt n10 x100 x101 n11 x110 x111)).y.num.length ct02) := x7.cell 4 rfl
    have Ct0q5 : W8.cell? ⟨Rt, 5, none⟩ = some (.slice at03 (middlePT (pt n00 x000 x001 n01 x010 x011) (pt n10 x100 x101 n11 x110 x111)).y.den.length ct03) := x7.cell 5 rfl
    have Ct0lt : Rt < W8.heap.size := x7.lt
    go_wp2_with fail
    refine (eqPoint_same ((middlePT (pt n00 x000 x001 n01 x010 x011) (pt n10 x100 x101 n11 x110 x111)).x.neg) ((middlePT (pt n00 x000 x001 n01 x010 x011) (pt n10 x100 x101 n11 x110 x111)).y.neg) _ _ _ _ ((middlePT (pt n00 x000 x001 n01 x010 x011) (pt n10 x100 x101 n11 x110 x111)).x.num) _ _ _ _ ((middlePT (pt n00 x000 x001 n01 x010 x011) (pt n10 x100 x101 n11 x110 x111)).x.den) _ _ _ _ ((middlePT (pt n00 x000 x001 n01 x010 x011) (pt n10 x100 x101 n11 x110 x111)).y.num) _ _ _ _ ((middlePT (pt n00 x000 x001 n01 x010 x011) (pt n10 x100 x101 n11 x110 x111)).y.den) _ (og0.below (ba1 _ _)).i1 (it00.below (bstep (bstep (bstep (bstep (Below.refl _ _) b6) b7) b8) (ba1 _ _))) l0 (og0.below (ba1 _ _)).i2 (it01.below (bstep (bstep (bstep (bstep (Below.refl _ _) b6) b7) b8) (ba1 _ _))) l1 (og0.below (ba1 _ _)).i3 (it02.below (bstep (bstep (bstep (bstep (Below.refl _ _) b6) b7) b8) (ba1 _ _))) l2 (og0.below (ba1 _ _)).i4 (it03.below (bstep (bstep (bstep (bstep (Below.refl _ _) b6) b7) b8) (ba1 _ _))) l3).mono ?_
    rintro e W9 ⟨rfl, b9⟩
    clear Ct0q0 Ct0q1 Ct0q2 Ct0q3 Ct0q4 Ct0q5 Ct0lt
    have s9 := b9.size
    simp at s9
    have Bg0x9 : Box W9 (W8.heap.size) #[.bool (middlePT (pt n00 x000 x001 n01 x010 x011) (pt n10 x100 x101 n11 x110 x111)).x.neg, .slice ag00 (middlePT (pt n00 x000 x001 n01 x010 x011) (pt n10 x100 x101 n11 x110 x111)).x.num.length cg00, .slice ag01 (middlePT (pt n00 x000 x001 n01 x010 x011) (pt n10 x100 x101 n11 x110 x111)).x.den.length cg01, .bool (middlePT (pt n00 x000 x001 n01 x010 x011) (pt n10 x100 x101 n11 x110 x111)).y.neg, .slice ag02 (middlePT (pt n00 x000 x001 n01 x010 x011) (pt n10 x100 x101 n11 x110 x111)).y.num.length cg02, .slice ag03 (middlePT (pt n00 x000 x001 n01 x010 x011) (pt n10 x100 x101 n11 x110 x111)).y.den.length cg03] := bx1_0 b9
    replace b9 := bstep (ba1 _ _ ) b9
    have x8 := (box_step (box_step Bx0x7 b8) b9)
    have Cx0q0 : W9.cell? ⟨(W6.heap.size), 0, none⟩ = some (.bool n00) := x8.cell 0 rfl
    have Cx0q1 : W9.cell? ⟨(W6.heap.size), 1, none⟩ = some (.slice ax00 x000.length cx00) := x8.cell 1 rfl
    have Cx0q2 : W9.cell? ⟨(W6.heap.size), 2, none⟩ = some (.slice ax01 x001.length cx01) := x8.cell 2 rfl
    have Cx0q3 : W9.cell? ⟨(W6.heap.size), 3, none⟩ = some (.bool n01) := x8.cell 3 rfl
    have Cx0q4 : W9.cell? ⟨(W6.heap.size), 4, none⟩ = some (.slice ax02 x010.length cx02) := x8.cell 4 rfl
    have Cx0q5 : W9.cell? ⟨(W6.heap.size), 5, none⟩ = some (.slice ax03 x011.length cx03) := x8.cell 5 rfl
    have Cx0lt : (W6.heap.size) < W9.heap.size := x8.lt
    have x9 := (box_step (box_step (box_step (box_step x4 b6) b7) b8) b9)
    have Carg0q0 : W9.cell? ⟨(w.heap.size), 0, none⟩ = some (.bool n00) := x9.cell 0 rfl
    have Carg0q1 : W9.cell? ⟨(w.heap.size), 1, none⟩ = some (.slice a000 x000.length c000) := x9.cell 1 rfl
    have Carg0q2 : W9.cell? ⟨(w.heap.size), 2, none⟩ = some (.slice a001 x001.length c001) := x9.cell 2 rfl
    have Carg0q3 : W9.cell? ⟨(w.heap.size), 3, none⟩ = some (.bool n01) := x9.cell 3 rfl
    have Carg0q4 : W9.cell? ⟨(w.heap.size), 4, none⟩ = some (.slice a010 x010.length c010) := x9.cell 4 rfl
    have Carg0q5 : W9.cell? ⟨(w.heap.size), 5, none⟩ = some (.slice a011 x011.length c011) := x9.cell 5 rfl
    have Carg0lt : (w.heap.size) < W9.heap.size := x9.lt
    go_wp2_with fail
    have h10 : Below w.heap.size w W9 := (bstep (bstep (bstep (bstep h5 b6) b7) b8) b9)
    have f11 := (((ox0.below b7).below b8).below b9)
    go_region_held3 (fun w' => w'.cell? ⟨(W6.heap.size), 0, none⟩ = some (.bool n00) ∧ w'.cell? ⟨(W6.heap.size), 1, none⟩ = some (.slice ax00 x000.length cx00) ∧ w'.cell? ⟨(W6.heap.size), 2, none⟩ = some (.slice ax01 x001.length cx01) ∧ w'.cell? ⟨(W6.heap.size), 3, none⟩ = some (.bool n01) ∧ w'.cell? ⟨(W6.heap.size), 4, none⟩ = some (.slice ax02 x010.length cx02) ∧ w'.cell? ⟨(W6.heap.size), 5, none⟩ = some (.slice ax03 x011.length cx03) ∧ w'.cell? ⟨(w.heap.size), 0, none⟩ = some (.bool n00) ∧ w'.cell? ⟨(w.heap.size), 1, none⟩ = some (.slice a000 x000.length c000) ∧ w'.cell? ⟨(w.heap.size), 2, none⟩ = some (.slice a001 x001.length c001) ∧ w'.cell? ⟨(w.heap.size), 3, none⟩ = some (.bool n01) ∧ w'.cell? ⟨(w.heap.size), 4, none⟩ = some (.slice a010 x010.length c010) ∧ w'.cell? ⟨(w.heap.size), 5, none⟩ = some (.slice a011 x011.length c011))
      ((first | exact ⟨Cx0q0, Cx0q1, Cx0q2, Cx0q3, Cx0q4, Cx0q5, Carg0q0, Carg0q1, Carg0q2, Carg0q3, Carg0q4, Carg0q5⟩ | exact ⟨cell_stepD Cx0q0 b10, cell_stepD Cx0q1 b10, cell_stepD Cx0q2 b10, cell_stepD Cx0q3 b10, cell_stepD Cx0q4 b10, cell_stepD Cx0q5 b10, cell_stepD Carg0q0 b10, cell_stepD Carg0q1 b10, cell_stepD Carg0q2 b10, cell_stepD Carg0q3 b10, cell_stepD Carg0q4 b10, cell_stepD Carg0q5 b10⟩ | exact ⟨cell_step (cell_stepD Cx0q0 b10) b11, cell_step (cell_stepD Cx0q1 b10) b11, cell_step (cell_stepD Cx0q2 b10) b11, cell_step (cell_stepD Cx0q3 b10) b11, cell_step (cell_stepD Cx0q4 b10) b11, cell_step (cell_stepD Cx0q5 b10) b11, cell_step (cell_stepD Carg0q0 b10) b11, cell_step (cell_stepD Carg0q1 b10) b11, cell_step (cell_stepD Carg0q2 b10) b11, cell_step (cell_stepD Carg0q3 b10) b11, cell_step (cell_stepD Carg0q4 b10) b11, cell_step (cell_stepD Carg0q5 b10) b11⟩))
      (first | (go_at_call 44; refine (toPoint_own n00 _ _ x000 _ _ x001 n01 _ _ x010 _ _ x011 _ (w000.below h10.drew) l000 (w001.below h10.drew) l001 (w010.below h10.drew) l010 (w011.below h10.drew) l011).mono ?_; rintro e W10 ⟨ay00, cy00, ay01, cy01, ay02, cy02, ay03, cy03, rfl, oy0, b10⟩) | (go_at_call 33; refine (eqPoint_same (n00) (n01) _ _ _ _ (x000) _ _ _ _ (x001) _ _ _ _ (x010) _ _ _ _ (x011) _ (((f11).below (Below.refl _ _).drew).below b10).i1 oy0.i1 l000 (((f11).below (Below.refl _ _).drew).below b10).i2 oy0.i2 l001 (((f11).below (Below.refl _ _).drew).below b10).i3 oy0.i3 l010 (((f11).below (Below.refl _ _).drew).below b10).i4 oy0.i4 l011).mono ?_; rintro e W11 ⟨rfl, b11⟩))
    have s10 := b10.size
    simp at s10
    have s11 := b11.size
    clear Cx0q0 Cx0q1 Cx0q2 Cx0q3 Cx0q4 Cx0q5 Cx0lt
    clear Carg0q0 Carg0q1 Carg0q2 Carg0q3 Carg0q4 Carg0q5 Carg0lt
    have x12 := (box_step (box_step (box_drew (box_step Bx1x8 b9)) b10) b11)
    have Cx1q0 : W11.cell? ⟨(W7.heap.size), 0, none⟩ = some (.bool n10) := x12.cell 0 rfl
    have Cx1q1 : W11.cell? ⟨(W7.heap.size), 1, none⟩ = some (.slice ax10 x100.length cx10) := x12.cell 1 rfl
    have Cx1q2 : W11.cell? ⟨(W7.heap.size), 2, none⟩ = some (.slice ax11 x101.length cx11) := x12.cell 2 rfl
    have Cx1q3 : W11.cell? ⟨(W7.heap.size), 3, none⟩ = some (.bool n11) := x12.cell 3 rfl
    have Cx1q4 : W11.cell? ⟨(W7.heap.size), 4, none⟩ = some (.slice ax12 x110.length cx12) := x12.cell 4 rfl
    have Cx1q5 : W11.cell? ⟨(W7.heap.size), 5, none⟩ = some (.slice ax13 x111.length cx13) := x12.cell 5 rfl
    have Cx1lt : (W7.heap.size) < W11.heap.size := x12.lt
    have x13 := (box_step (box_step (box_drew (box_step (box_step (box_step x6 b7) b8) b9)) b10) b11)
    have Carg1q0 : W11.cell? ⟨(w.heap.size + 1), 0, none⟩ = some (.bool n10) := x13.cell 0 rfl
    have Carg1q1 : W11.cell? ⟨(w.heap.size + 1), 1, none⟩ = some (.slice a100 x100.length c100) := x13.cell 1 rfl
    have Carg1q2 : W11.cell? ⟨(w.heap.size + 1), 2, none⟩ = some (.slice a101 x101.length c101) := x13.cell 2 rfl
    have Carg1q3 : W11.cell? ⟨(w.heap.size + 1), 3, none⟩ = some (.bool n11) := x13.cell 3 rfl
    have Carg1q4 : W11.cell? ⟨(w.heap.size + 1), 4, none⟩ = some (.slice a110 x110.length c110) := x13.cell 4 rfl
    have Carg1q5 : W11.cell? ⟨(w.heap.size + 1), 5, none⟩ = some (.slice a111 x111.length c111) := x13.cell 5 rfl
    have Carg1lt : (w.heap.size + 1) < W11.heap.size := x13.lt
    go_wp2_with fail
    have h14 : Below w.heap.size w W11 := (bstep (bstep h10.drew b10) b11)
    have f15 := (((((ox1.below b8).below b9).below (Below.refl _ _).drew).below b10).below b11)
    go_region_held3 (fun w' => w'.cell? ⟨(W7.heap.size), 0, none⟩ = some (.bool n10) ∧ w'.cell? ⟨(W7.heap.size), 1, none⟩ = some (.slice ax10 x100.length cx10) ∧ w'.cell? ⟨(W7.heap.size), 2, none⟩ = some (.slice ax11 x101.length cx11) ∧ w'.cell? ⟨(W7.heap.size), 3, none⟩ = some (.bool n11) ∧ w'.cell? ⟨(W7.heap.size), 4, none⟩ = some (.slice ax12 x110.length cx12) ∧ w'.cell? ⟨(W7.heap.size), 5, none⟩ = some (.slice ax13 x111.length cx13) ∧ w'.cell? ⟨(w.heap.size + 1), 0, none⟩ = some (.bool n10) ∧ w'.cell? ⟨(w.heap.size + 1), 1, none⟩ = some (.slice a100 x100.length c100) ∧ w'.cell? ⟨(w.heap.size + 1), 2, none⟩ = some (.slice a101 x101.length c101) ∧ w'.cell? ⟨(w.heap.size + 1), 3, none⟩ = some (.bool n11) ∧ w'.cell? ⟨(w.heap.size + 1), 4, none⟩ = some (.slice a110 x110.length c110) ∧ w'.cell? ⟨(w.heap.size + 1), 5, none⟩ = some (.slice a111 x111.length c111))
      ((first | exact ⟨Cx1q0, Cx1q1, Cx1q2, Cx1q3, Cx1q4, Cx1q5, Carg1q0, Carg1q1, Carg1q2, Carg1q3, Carg1q4, Carg1q5⟩ | exact ⟨cell_stepD Cx1q0 b12, cell_stepD Cx1q1 b12, cell_stepD Cx1q2 b12, cell_stepD Cx1q3 b12, cell_stepD Cx1q4 b12, cell_stepD Cx1q5 b12, cell_stepD Carg1q0 b12, cell_stepD Carg1q1 b12, cell_stepD Carg1q2 b12, cell_stepD Carg1q3 b12, cell_stepD Carg1q4 b12, cell_stepD Carg1q5 b12⟩ | exact ⟨cell_step (cell_stepD Cx1q0 b12) b13, cell_step (cell_stepD Cx1q1 b12) b13, cell_step (cell_stepD Cx1q2 b12) b13, cell_step (cell_stepD Cx1q3 b12) b13, cell_step (cell_stepD Cx1q4 b12) b13, cell_step (cell_stepD Cx1q5 b12) b13, cell_step (cell_stepD Carg1q0 b12) b13, cell_step (cell_stepD Carg1q1 b12) b13, cell_step (cell_stepD Carg1q2 b12) b13, cell_step (cell_stepD Carg1q3 b12) b13, cell_step (cell_stepD Carg1q4 b12) b13, cell_step (cell_stepD Carg1q5 b12) b13⟩))
      (first | (go_at_call 44; refine (toPoint_own n10 _ _ x100 _ _ x101 n11 _ _ x110 _ _ x111 _ (w100.below h14.drew) l100 (w101.below h14.drew) l101 (w110.below h14.drew) l110 (w111.below h14.drew) l111).mono ?_; rintro e W12 ⟨ay10, cy10, ay11, cy11, ay12, cy12, ay13, cy13, rfl, oy1, b12⟩) | (go_at_call 33; refine (eqPoint_same (n10) (n11) _ _ _ _ (x100) _ _ _ _ (x101) _ _ _ _ (x110) _ _ _ _ (x111) _ (((f15).below (Below.refl _ _).drew).below b12).i1 oy1.i1 l100 (((f15).below (Below.refl _ _).drew).below b12).i2 oy1.i2 l101 (((f15).below (Below.refl _ _).drew).below b12).i3 oy1.i3 l110 (((f15).below (Below.refl _ _).drew).below b12).i4 oy1.i4 l111).mono ?_; rintro e W13 ⟨rfl, b13⟩))
    have s12 := b12.size
    simp at s12
    have s13 := b13.size
    clear Cx1q0 Cx1q1 Cx1q2 Cx1q3 Cx1q4 Cx1q5 Cx1lt
    clear Carg1q0 Carg1q1 Carg1q2 Carg1q3 Carg1q4 Carg1q5 Carg1lt
    have x16 := (box_step (box_step (box_drew (box_step (box_step (box_drew x8) b10) b11)) b12) b13)
    have Cx0q0 : W13.cell? ⟨(W6.heap.size), 0, none⟩ = some (.bool n00) := x16.cell 0 rfl
    have Cx0q1 : W13.cell? ⟨(W6.heap.size), 1, none⟩ = some (.slice ax00 x000.length cx00) := x16.cell 1 rfl
    have Cx0q2 : W13.cell? ⟨(W6.heap.size), 2, none⟩ = some (.slice ax01 x001.length cx01) := x16.cell 2 rfl
    have Cx0q3 : W13.cell? ⟨(W6.heap.size), 3, none⟩ = some (.bool n01) := x16.cell 3 rfl
    have Cx0q4 : W13.cell? ⟨(W6.heap.size), 4, none⟩ = some (.slice ax02 x010.length cx02) := x16.cell 4 rfl
    have Cx0q5 : W13.cell? ⟨(W6.heap.size), 5, none⟩ = some (.slice ax03 x011.length cx03) := x16.cell 5 rfl
    have Cx0lt : (W6.heap.size) < W13.heap.size := x16.lt
    go_wp2_with fail
    have f17 := ((((((f11.below (Below.refl _ _).drew).below b10).below b11).below (Below.refl _ _).drew).below b12).below b13)
    refine (markPoint_own _ _ _ (x000) _ _ (x001) _ _ _ (x010) _ _ (x011) _ _ f17 (by omega) l000 l001 l010 l011 (by omega) (by omega)).mono ?_
    rintro e W14 ⟨rfl, mx0x14, b14⟩
    have s14 := b14.size
    clear Cx0q0 Cx0q1 Cx0q2 Cx0q3 Cx0q4 Cx0q5 Cx0lt
    have x18 := (box_span (box_step (box_step (box_drew x12) b12) b13) b14 (by omega))
    have Cx1q0 : W14.cell? ⟨(W7.heap.size), 0, none⟩ = some (.bool n10) := x18.cell 0 rfl
    have Cx1q1 : W14.cell? ⟨(W7.heap.size), 1, none⟩ = some (.slice ax10 x100.length cx10) := x18.cell 1 rfl
    have Cx1q2 : W14.cell? ⟨(W7.heap.size), 2, none⟩ = some (.slice ax11 x101.length cx11) := x18.cell 2 rfl
    have Cx1q3 : W14.cell? ⟨(W7.heap.size), 3, none⟩ = some (.bool n11) := x18.cell 3 rfl
    have Cx1q4 : W14.cell? ⟨(W7.heap.size), 4, none⟩ = some (.slice ax12 x110.length cx12) := x18.cell 4 rfl
    have Cx1q5 : W14.cell? ⟨(W7.heap.size), 5, none⟩ = some (.slice ax13 x111.length cx13) := x18.cell 5 rfl
    have Cx1lt : (W7.heap.size) < W14.heap.size := x18.lt
    go_wp2_with fail
    have f19 := ((((f15.below (Below.refl _ _).drew).below b12).below b13).span b14 (by omega))
    refine (markPoint_own _ _ _ (x100) _ _ (x101) _ _ _ (x110) _ _ (x111) _ _ f19 (by omega) l100 l101 l110 l111 (by omega) (by omega)).mono ?_
    rintro e W15 ⟨rfl, mx1x15, b15⟩
    have s15 := b15.size
    clear Cx1q0 Cx1q1 Cx1q2 Cx1q3 Cx1q4 Cx1q5 Cx1lt
    have x20 := (box_span (box_span (box_step (box_step (box_drew (box_step (box_step (box_drew Bg0x9) b10) b11)) b12) b13) b14 (by omega)) b15 (by omega))
    have Cg0q0 : W15.cell? ⟨(W8.heap.size), 0, none⟩ = some (.bool (middlePT (pt n00 x000 x001 n01 x010 x011) (pt n10 x100 x101 n11 x110 x111)).x.neg) := x20.cell 0 rfl
    have Cg0q1 : W15.cell? ⟨(W8.heap.size), 1, none⟩ = some (.slice ag00 (middlePT (pt n00 x000 x001 n01 x010 x011) (pt n10 x100 x101 n11 x110 x111)).x.num.length cg00) := x20.cell 1 rfl
    have Cg0q2 : W15.cell? ⟨(W8.heap.size), 2, none⟩ = some (.slice ag01 (middlePT (pt n00 x000 x001 n01 x010 x011) (pt n10 x100 x101 n11 x110 x111)).x.den.length cg01) := x20.cell 2 rfl
    have Cg0q3 : W15.cell? ⟨(W8.heap.size), 3, none⟩ = some (.bool (middlePT (pt n00 x000 x001 n01 x010 x011) (pt n10 x100 x101 n11 x110 x111)).y.neg) := x20.cell 3 rfl
    have Cg0q4 : W15.cell? ⟨(W8.heap.size), 4, none⟩ = some (.slice ag02 (middlePT (pt n00 x000 x001 n01 x010 x011) (pt n10 x100 x101 n11 x110 x111)).y.num.length cg02) := x20.cell 4 rfl
    have Cg0q5 : W15.cell? ⟨(W8.heap.size), 5, none⟩ = some (.slice ag03 (middlePT (pt n00 x000 x001 n01 x010 x011) (pt n10 x100 x101 n11 x110 x111)).y.den.length cg03) := x20.cell 5 rfl
    have Cg0lt : (W8.heap.size) < W15.heap.size := x20.lt
    have x21 := (box_span (box_span (box_step (box_step (box_drew (box_step (box_step (box_drew (box_step x7 b9)) b10) b11)) b12) b13) b14 (by omega)) b15 (by omega))
    have Ct0q0 : W15.cell? ⟨Rt, 0, none⟩ = some (.bool (middlePT (pt n00 x000 x001 n01 x010 x011) (pt n10 x100 x101 n11 x110 x111)).x.neg) := x21.cell 0 rfl
    have Ct0q1 : W15.cell? ⟨Rt, 1, none⟩ = some (.slice at00 (middlePT (pt n00 x000 x001 n01 x010 x011) (pt n10 x100 x101 n11 x110 x111)).x.num.length ct00) := x21.cell 1 rfl
    have Ct0q2 : W15.cell? ⟨Rt, 2, none⟩ = some (.slice at01 (middlePT (pt n00 x000 x001 n01 x010 x011) (pt n10 x100 x101 n11 x110 x111)).x.den.length ct01) := x21.cell 2 rfl
    have Ct0q3 : W15.cell? ⟨Rt, 3, none⟩ = some (.bool (middlePT (pt n00 x000 x001 n01 x010 x011) (pt n10 x100 x101 n11 x110 x111)).y.neg) := x21.cell 3 rfl
    have Ct0q4 : W15.cell? ⟨Rt, 4, none⟩ = some (.slice at02 (middlePT (pt n00 x000 x001 n01 x010 x011) (pt n10 x100 x101 n11 x110 x111)).y.num.length ct02) := x21.cell 4 rfl
    have Ct0q5 : W15.cell? ⟨Rt, 5, none⟩ = some (.slice at03 (middlePT (pt n00 x000 x001 n01 x010 x011) (pt n10 x100 x101 n11 x110 x111)).y.den.length ct03) := x21.cell 5 rfl
    have Ct0lt : Rt < W15.heap.size := x21.lt
    go_wp2_with fail
    have f22 := (((((((((og0.below b9).below (Below.refl _ _).drew).below b10).below b11).below (Below.refl _ _).drew).below b12).below b13).span b14 (by omega)).span b15 (by omega))
    have h23 : Below W5.heap.size W5 W15 := (bspan (bspan (bstep (bstep (bstep (bstep (bstep (bstep (bstep (bstep (Below.refl _ _) b6) b7) b8) b9).drew b10) b11).drew b12) b13) b14 (by omega)) b15 (by omega))
    refine (eqPoint_same ((middlePT (pt n00 x000 x001 n01 x010 x011) (pt n10 x100 x101 n11 x110 x111)).x.neg) ((middlePT (pt n00 x000 x001 n01 x010 x011) (pt n10 x100 x101 n11 x110 x111)).y.neg) _ _ _ _ ((middlePT (pt n00 x000 x001 n01 x010 x011) (pt n10 x100 x101 n11 x110 x111)).x.num) _ _ _ _ ((middlePT (pt n00 x000 x001 n01 x010 x011) (pt n10 x100 x101 n11 x110 x111)).x.den) _ _ _ _ ((middlePT (pt n00 x000 x001 n01 x010 x011) (pt n10 x100 x101 n11 x110 x111)).y.num) _ _ _ _ ((middlePT (pt n00 x000 x001 n01 x010 x011) (pt n10 x100 x101 n11 x110 x111)).y.den) _ f22.i1 (it00.below h23) l0 f22.i2 (it01.below h23) l1 f22.i3 (it02.below h23) l2 f22.i4 (it03.below h23) l3).mono ?_
    rintro e W16 ⟨rfl, b16⟩
    clear Cg0q0 Cg0q1 Cg0q2 Cg0q3 Cg0q4 Cg0q5 Cg0lt
    clear Ct0q0 Ct0q1 Ct0q2 Ct0q3 Ct0q4 Ct0q5 Ct0lt
    have s16 := b16.size
    have x24 := (box_step x20 b16)
    have Cg0q0 : W16.cell? ⟨(W8.heap.size), 0, none⟩ = some (.bool (middlePT (pt n00 x000 x001 n01 x010 x011) (pt n10 x100 x101 n11 x110 x111)).x.neg) := x24.cell 0 rfl
    have Cg0q1 : W16.cell? ⟨(W8.heap.size), 1, none⟩ = some (.slice ag00 (middlePT (pt n00 x000 x001 n01 x010 x011) (pt n10 x100 x101 n11 x110 x111)).x.num.length cg00) := x24.cell 1 rfl
    have Cg0q2 : W16.cell? ⟨(W8.heap.size), 2, none⟩ = some (.slice ag01 (middlePT (pt n00 x000 x001 n01 x010 x011) (pt n10 x100 x101 n11 x110 x111)).x.den.length cg01) := x24.cell 2 rfl
    have Cg0q3 : W16.cell? ⟨(W8.heap.size), 3, none⟩ = some (.bool (middlePT (pt n00 x000 x001 n01 x010 x011) (pt n10 x100 x101 n11 x110 x111)).y.neg) := x24.cell 3 rfl
    have Cg0q4 : W16.cell? ⟨(W8.heap.size), 4, none⟩ = some (.slice ag02 (middlePT (pt n00 x000 x001 n01 x010 x011) (pt n10 x100 x101 n11 x110 x111)).y.num.length cg02) := x24.cell 4 rfl
    have Cg0q5 : W16.cell? ⟨(W8.heap.size), 5, none⟩ = some (.slice ag03 (middlePT (pt n00 x000 x001 n01 x010 x011) (pt n10 x100 x101 n11 x110 x111)).y.den.length cg03) := x24.cell 5 rfl
    have Cg0lt : (W8.heap.size) < W16.heap.size := x24.lt
    go_wp2_with fail
    have f25 := (f22.below b16)
    refine (markPoint_own _ _ _ ((middlePT (pt n00 x000 x001 n01 x010 x011) (pt n10 x100 x101 n11 x110 x111)).x.num) _ _ ((middlePT (pt n00 x000 x001 n01 x010 x011) (pt n10 x100 x101 n11 x110 x111)).x.den) _ _ _ ((middlePT (pt n00 x000 x001 n01 x010 x011) (pt n10 x100 x101 n11 x110 x111)).y.num) _ _ ((middlePT (pt n00 x000 x001 n01 x010 x011) (pt n10 x100 x101 n11 x110 x111)).y.den) _ _ f25 (by omega) l0 l1 l2 l3 (by omega) (by omega)).mono ?_
    rintro e W17 ⟨rfl, mg0x17, b17⟩
    have s17 := b17.size
    clear Cg0q0 Cg0q1 Cg0q2 Cg0q3 Cg0q4 Cg0q5 Cg0lt
    have x26 := (box_span x24 b17 (by omega))
    have Cg0q0 : W17.cell? ⟨(W8.heap.size), 0, none⟩ = some (.bool (middlePT (pt n00 x000 x001 n01 x010 x011) (pt n10 x100 x101 n11 x110 x111)).x.neg) := x26.cell 0 rfl
    have Cg0q1 : W17.cell? ⟨(W8.heap.size), 1, none⟩ = some (.slice ag00 (middlePT (pt n00 x000 x001 n01 x010 x011) (pt n10 x100 x101 n11 x110 x111)).x.num.length cg00) := x26.cell 1 rfl
    have Cg0q2 : W17.cell? ⟨(W8.heap.size), 2, none⟩ = some (.slice ag01 (middlePT (pt n00 x000 x001 n01 x010 x011) (pt n10 x100 x101 n11 x110 x111)).x.den.length cg01) := x26.cell 2 rfl
    have Cg0q3 : W17.cell? ⟨(W8.heap.size), 3, none⟩ = some (.bool (middlePT (pt n00 x000 x001 n01 x010 x011) (pt n10 x100 x101 n11 x110 x111)).y.neg) := x26.cell 3 rfl
    have Cg0q4 : W17.cell? ⟨(W8.heap.size), 4, none⟩ = some (.slice ag02 (middlePT (pt n00 x000 x001 n01 x010 x011) (pt n10 x100 x101 n11 x110 x111)).y.num.length cg02) := x26.cell 4 rfl
    have Cg0q5 : W17.cell? ⟨(W8.heap.size), 5, none⟩ = some (.slice ag03 (middlePT (pt n00 x000 x001 n01 x010 x011) (pt n10 x100 x101 n11 x110 x111)).y.den.length cg03) := x26.cell 5 rfl
    have Cg0lt : (W8.heap.size) < W17.heap.size := x26.lt
    go_wp2_with fail
    refine (heldPoint_own _ _ _ _ _ _ _ _ _ _ _ _ _ _  _ _ mg0x17 l0 l1 l2 l3 (by omega) (by omega)).mono ?_
    rintro e W18 ⟨rfl, b18⟩
    clear Cg0q0 Cg0q1 Cg0q2 Cg0q3 Cg0q4 Cg0q5 Cg0lt
    have s18 := b18.size
    have x27 := (box_step (box_span (box_step (box_span (box_span (box_step (box_step (box_drew (box_step (box_step (box_drew x9) b10) b11)) b12) b13) b14 (by omega)) b15 (by omega)) b16) b17 (by omega)) b18)
    have Carg0q0 : W18.cell? ⟨(w.heap.size), 0, none⟩ = some (.bool n00) := x27.cell 0 rfl
    have Carg0q1 : W18.cell? ⟨(w.heap.size), 1, none⟩ = some (.slice a000 x000.length c000) := x27.cell 1 rfl
    have Carg0q2 : W18.cell? ⟨(w.heap.size), 2, none⟩ = some (.slice a001 x001.length c001) := x27.cell 2 rfl
    have Carg0q3 : W18.cell? ⟨(w.heap.size), 3, none⟩ = some (.bool n01) := x27.cell 3 rfl
    have Carg0q4 : W18.cell? ⟨(w.heap.size), 4, none⟩ = some (.slice a010 x010.length c010) := x27.cell 4 rfl
    have Carg0q5 : W18.cell? ⟨(w.heap.size), 5, none⟩ = some (.slice a011 x011.length c011) := x27.cell 5 rfl
    have Carg0lt : (w.heap.size) < W18.heap.size := x27.lt
    have x28 := (box_step (box_span (box_step (box_span (box_span (box_step (box_step (box_drew x13) b12) b13) b14 (by omega)) b15 (by omega)) b16) b17 (by omega)) b18)
    have Carg1q0 : W18.cell? ⟨(w.heap.size + 1), 0, none⟩ = some (.bool n10) := x28.cell 0 rfl
    have Carg1q1 : W18.cell? ⟨(w.heap.size + 1), 1, none⟩ = some (.slice a100 x100.length c100) := x28.cell 1 rfl
    have Carg1q2 : W18.cell? ⟨(w.heap.size + 1), 2, none⟩ = some (.slice a101 x101.length c101) := x28.cell 2 rfl
    have Carg1q3 : W18.cell? ⟨(w.heap.size + 1), 3, none⟩ = some (.bool n11) := x28.cell 3 rfl
    have Carg1q4 : W18.cell? ⟨(w.heap.size + 1), 4, none⟩ = some (.slice a110 x110.length c110) := x28.cell 4 rfl
    have Carg1q5 : W18.cell? ⟨(w.heap.size + 1), 5, none⟩ = some (.slice a111 x111.length c111) := x28.cell 5 rfl
    have Carg1lt : (w.heap.size + 1) < W18.heap.size := x28.lt
    have h29 : Below w.heap.size w W18 := (bstep (bspan (bstep (bspan (bspan (bstep (bstep h14.drew b12) b13) b14 (by omega)) b15 (by omega)) b16) b17 (by omega)) b18)
    go_upto_region 31 with fail
    go_cut [13] (fun s13 wx => ∃ (R : Nat) (ah00 : Option Addr) (ch00 : Nat) (ah01 : Option Addr) (ch01 : Nat) (ah02 : Option Addr) (ch02 : Nat) (ah03 : Option Addr) (ch03 : Nat), s13 = .pointer (some ⟨R, 0, none⟩) ∧ W18.heap.size ≤ R ∧ Box wx R #[.bool (middlePT (pt n00 x000 x001 n01 x010 x011) (pt n10 x100 x101 n11 x110 x111)).x.neg, .slice ah00 (middlePT (pt n00 x000 x001 n01 x010 x011) (pt n10 x100 x101 n11 x110 x111)).x.num.length ch00, .slice ah01 (middlePT (pt n00 x000 x001 n01 x010 x011) (pt n10 x100 x101 n11 x110 x111)).x.den.length ch01, .bool (middlePT (pt n00 x000 x001 n01 x010 x011) (pt n10 x100 x101 n11 x110 x111)).y.neg, .slice ah02 (middlePT (pt n00 x000 x001 n01 x010 x011) (pt n10 x100 x101 n11 x110 x111)).y.num.length ch02, .slice ah03 (middlePT (pt n00 x000 x001 n01 x010 x011) (pt n10 x100 x101 n11 x110 x111)).y.den.length ch03] ∧ IntsAt wx ah00 ch00 (middlePT (pt n00 x000 x001 n01 x010 x011) (pt n10 x100 x101 n11 x110 x111)).x.num ∧ IntsAt wx ah01 ch01 (middlePT (pt n00 x000 x001 n01 x010 x011) (pt n10 x100 x101 n11 x110 x111)).x.den ∧ IntsAt wx ah02 ch02 (middlePT (pt n00 x000 x001 n01 x010 x011) (pt n10 x100 x101 n11 x110 x111)).y.num ∧ IntsAt wx ah03 ch03 (middlePT (pt n00 x000 x001 n01 x010 x011) (pt n10 x100 x101 n11 x110 x111)).y.den ∧ Below W18.heap.size W18 wx)
    case first =>
      have tok19 : True := trivial
      have tok20 : True := trivial
      go_region_held3 (fun w' => w'.cell? ⟨(w.heap.size), 0, none⟩ = some (.bool n00) ∧ w'.cell? ⟨(w.heap.size), 1, none⟩ = some (.slice a000 x000.length c000) ∧ w'.cell? ⟨(w.heap.size), 2, none⟩ = some (.slice a001 x001.length c001) ∧ w'.cell? ⟨(w.heap.size), 3, none⟩ = some (.bool n01) ∧ w'.cell? ⟨(w.heap.size), 4, none⟩ = some (.slice a010 x010.length c010) ∧ w'.cell? ⟨(w.heap.size), 5, none⟩ = some (.slice a011 x011.length c011) ∧ w'.cell? ⟨(w.heap.size + 1), 0, none⟩ = some (.bool n10) ∧ w'.cell? ⟨(w.heap.size + 1), 1, none⟩ = some (.slice a100 x100.length c100) ∧ w'.cell? ⟨(w.heap.size + 1), 2, none⟩ = some (.slice a101 x101.length c101) ∧ w'.cell? ⟨(w.heap.size + 1), 3, none⟩ = some (.bool n11) ∧ w'.cell? ⟨(w.heap.size + 1), 4, none⟩ = some (.slice a110 x110.length c110) ∧ w'.cell? ⟨(w.heap.size + 1), 5, none⟩ = some (.slice a111 x111.length c111))
        ((refine ⟨?_, ?_, ?_, ?_, ?_, ?_, ?_, ?_, ?_, ?_, ?_, ?_⟩ <;> (repeat first | with_reducible assumption | with_reducible refine cell_low ?_ (by first | omega | (simp; done) | (simp; omega)) | with_reducible refine cell_step ?_ (ba1 _ _) | with_reducible refine cell_step ?_ (by assumption) | with_reducible refine cell_dr ?_)))
        (first | (go_at_call 44; clear tok19; refine (toPoint_own n00 _ _ x000 _ _ x001 n01 _ _ x010 _ _ x011 _ (w000.below (by (repeat first | with_reducible assumption | with_reducible exact Below.refl _ _ | with_reducible refine bstep ?_ (ba1 _ _) | with_reducible refine bstep ?_ (by assumption) | with_reducible refine Below.drew ?_))) l000 (w001.below (by (repeat first | with_reducible assumption | with_reducible exact Below.refl _ _ | with_reducible refine bstep ?_ (ba1 _ _) | with_reducible refine bstep ?_ (by assumption) | with_reducible refine Below.drew ?_))) l001 (w010.below (by (repeat first | with_reducible assumption | with_reducible exact Below.refl _ _ | with_reducible refine bstep ?_ (ba1 _ _) | with_reducible refine bstep ?_ (by assumption) | with_reducible refine Below.drew ?_))) l010 (w011.below (by (repeat first | with_reducible assumption | with_reducible exact Below.refl _ _ | with_reducible refine bstep ?_ (ba1 _ _) | with_reducible refine bstep ?_ (by assumption) | with_reducible refine Below.drew ?_))) l011).mono ?_; rintro e W19 ⟨az00, cz00, az01, cz01, az02, cz02, az03, cz03, rfl, oz0, b19⟩; have s19 := b19.size; (try simp at s19); (first | have RZ := box_step RZ b19 | have RZ : Box W19 W18.heap.size _ := bx1_0 (w := W18.drew) b19 | skip)) | (go_at_call 44; clear tok20; refine (toPoint_own n10 _ _ x100 _ _ x101 n11 _ _ x110 _ _ x111 _ (w100.below (by (repeat first | with_reducible assumption | with_reducible exact Below.refl _ _ | with_reducible refine bstep ?_ (ba1 _ _) | with_reducible refine bstep ?_ (by assumption) | with_reducible refine Below.drew ?_))) l100 (w101.below (by (repeat first | with_reducible assumption | with_reducible exact Below.refl _ _ | with_reducible refine bstep ?_ (ba1 _ _) | with_reducible refine bstep ?_ (by assumption) | with_reducible refine Below.drew ?_))) l101 (w110.below (by (repeat first | with_reducible assumption | with_reducible exact Below.refl _ _ | with_reducible refine bstep ?_ (ba1 _ _) | with_reducible refine bstep ?_ (by assumption) | with_reducible refine Below.drew ?_))) l110 (w111.below (by (repeat first | with_reducible assumption | with_reducible exact Below.refl _ _ | with_reducible refine bstep ?_ (ba1 _ _) | with_reducible refine bstep ?_ (by assumption) | with_reducible refine Below.drew ?_))) l111).mono ?_; rintro e W20 ⟨az10, cz10, az11, cz11, az12, cz12, az13, cz13, rfl, oz1, b20⟩; have s20 := b20.size; (try simp at s20); (first | have RZ := box_step RZ b20 | have RZ : Box W20 W19.heap.size _ := bx1_0 b20 | skip)) | (go_at_call 85; refine (implMiddle_any n00 _ _ x000 _ _ x001 n01 _ _ x010 _ _ x011 n10 _ _ x100 _ _ x101 n11 _ _ x110 _ _ x111 _ (oz0.i1.below (by (repeat first | with_reducible assumption | with_reducible exact Below.refl _ _ | with_reducible refine bstep ?_ (ba1 _ _) | with_reducible refine bstep ?_ (by assumption) | with_reducible refine Below.drew ?_))) l000 (oz0.i2.below (by (repeat first | with_reducible assumption | with_reducible exact Below.refl _ _ | with_reducible refine bstep ?_ (ba1 _ _) | with_reducible refine bstep ?_ (by assumption) | with_reducible refine Below.drew ?_))) l001 (oz0.i3.below (by (repeat first | with_reducible assumption | with_reducible exact Below.refl _ _ | with_reducible refine bstep ?_ (ba1 _ _) | with_reducible refine bstep ?_ (by assumption) | with_reducible refine Below.drew ?_))) l010 (oz0.i4.below (by (repeat first | with_reducible assumption | with_reducible exact Below.refl _ _ | with_reducible refine bstep ?_ (ba1 _ _) | with_reducible refine bstep ?_ (by assumption) | with_reducible refine Below.drew ?_))) l011 (oz1.i1.below (by (repeat first | with_reducible assumption | with_reducible exact Below.refl _ _ | with_reducible refine bstep ?_ (ba1 _ _) | with_reducible refine bstep ?_ (by assumption) | with_reducible refine Below.drew ?_))) l100 (oz1.i2.below (by (repeat first | with_reducible assumption | with_reducible exact Below.refl _ _ | with_reducible refine bstep ?_ (ba1 _ _) | with_reducible refine bstep ?_ (by assumption) | with_reducible refine Below.drew ?_))) l101 (oz1.i3.below (by (repeat first | with_reducible assumption | with_reducible exact Below.refl _ _ | with_reducible refine bstep ?_ (ba1 _ _) | with_reducible refine bstep ?_ (by assumption) | with_reducible refine Below.drew ?_))) l110 (oz1.i4.below (by (repeat first | with_reducible assumption | with_reducible exact Below.refl _ _ | with_reducible refine bstep ?_ (ba1 _ _) | with_reducible refine bstep ?_ (by assumption) | with_reducible refine Below.drew ?_))) l111).mono ?_; rintro e W21 ⟨ah00, ch00, ah01, ch01, ah02, ch02, ah03, ch03, rfl, oh0, b21⟩; have s21 := b21.size; (try simp at s21); (first | have RZ := box_step RZ b21 | have RZ : Box W21 W20.heap.size _ := bx1_0 b21 | skip); (try (have Z0 : W21.cell? ⟨_, 0, none⟩ = some (.bool false) := RZ.cell 0 rfl; have FZ0 := RZ.frozen 0; have Z1 : W21.cell? ⟨_, 1, none⟩ = some (.slice none 0 0) := RZ.cell 1 rfl; have FZ1 := RZ.frozen 1; have Z2 : W21.cell? ⟨_, 2, none⟩ = some (.slice none 0 0) := RZ.cell 2 rfl; have FZ2 := RZ.frozen 2; have Z3 : W21.cell? ⟨_, 3, none⟩ = some (.bool false) := RZ.cell 3 rfl; have FZ3 := RZ.frozen 3; have Z4 : W21.cell? ⟨_, 4, none⟩ = some (.slice none 0 0) := RZ.cell 4 rfl; have FZ4 := RZ.frozen 4; have Z5 : W21.cell? ⟨_, 5, none⟩ = some (.slice none 0 0) := RZ.cell 5 rfl; have FZ5 := RZ.frozen 5; have LZ := RZ.lt))))
      all_goals (go_wp2_with fail; go_meet; refine ⟨_, ah00, ch00, ah01, ch01, ah02, ch02, ah03, ch03, rfl, (by first | omega | (simp; done) | (simp; omega)), ?_⟩; (first | (refine And.intro (box_as (box_put (k := 5) (box_put (k := 4) (box_put (k := 3) (box_put (k := 2) (box_put (k := 1) (box_put (k := 0) RZ)))))) (by first | (simp; done) | rfl)) ?_; exact ⟨((((((oh0.put (k := 0) (by first | omega | (simp; done) | (simp; omega))).put (k := 1) (by first | omega | (simp; done) | (simp; omega))).put (k := 2) (by first | omega | (simp; done) | (simp; omega))).put (k := 3) (by first | omega | (simp; done) | (simp; omega))).put (k := 4) (by first | omega | (simp; done) | (simp; omega))).put (k := 5) (by first | omega | (simp; done) | (simp; omega))).i1, ((((((oh0.put (k := 0) (by first | omega | (simp; done) | (simp; omega))).put (k := 1) (by first | omega | (simp; done) | (simp; omega))).put (k := 2) (by first | omega | (simp; done) | (simp; omega))).put (k := 3) (by first | omega | (simp; done) | (simp; omega))).put (k := 4) (by first | omega | (simp; done) | (simp; omega))).put (k := 5) (by first | omega | (simp; done) | (simp; omega))).i2, ((((((oh0.put (k := 0) (by first | omega | (simp; done) | (simp; omega))).put (k := 1) (by first | omega | (simp; done) | (simp; omega))).put (k := 2) (by first | omega | (simp; done) | (simp; omega))).put (k := 3) (by first | omega | (simp; done) | (simp; omega))).put (k := 4) (by first | omega | (simp; done) | (simp; omega))).put (k := 5) (by first | omega | (simp; done) | (simp; omega))).i3, ((((((oh0.put (k := 0) (by first | omega | (simp; done) | (simp; omega))).put (k := 1) (by first | omega | (simp; done) | (simp; omega))).put (k := 2) (by first | omega | (simp; done) | (simp; omega))).put (k := 3) (by first | omega | (simp; done) | (simp; omega))).put (k := 4) (by first | omega | (simp; done) | (simp; omega))).put (k := 5) (by first | omega | (simp; done) | (simp; omega))).i4, (below_put (k := 5) (below_put (k := 4) (below_put (k := 3) (below_put (k := 2) (below_put (k := 1) (below_put (k := 0) (by (repeat first | with_reducible assumption | with_reducible exact Below.refl _ _ | with_reducible refine bstep ?_ (ba1 _ _) | with_reducible refine bstep ?_ (by assumption) | with_reducible refine Below.drew ?_)) (by first | omega | (simp; done) | (simp; omega))) (by first | omega | (simp; done) | (simp; omega))) (by first | omega | (simp; done) | (simp; omega))) (by first | omega | (simp; done) | (simp; omega))) (by first | omega | (simp; done) | (simp; omega))) (by first | omega | (simp; done) | (simp; omega)))⟩) | (refine And.intro (bx1_0 (Below.refl _ _)) ?_; exact ⟨(oh0.i1).below (ba1 _ _), (oh0.i2).below (ba1 _ _), (oh0.i3).below (ba1 _ _), (oh0.i4).below (ba1 _ _), (by (repeat first | with_reducible assumption | with_reducible exact Below.refl _ _ | with_reducible refine bstep ?_ (ba1 _ _) | with_reducible refine bstep ?_ (by assumption) | with_reducible refine Below.drew ?_))⟩)))
    case rest =>
      obtain ⟨Rh, ah00, ch00, ah01, ch01, ah02, ch02, ah03, ch03, rfl, hRh, Bh0x21, ih00, ih01, ih02, ih03, b21⟩ := hcut
      obtain ⟨W21, hW21⟩ : ∃ W', W' = wc := ⟨_, rfl⟩
      subst hW21
      have s21 := b21.size
      have hRlh := Bh0x21.lt
      clear Carg0q0 Carg0q1 Carg0q2 Carg0q3 Carg0q4 Carg0q5 Carg0lt
      clear Carg1q0 Carg1q1 Carg1q2 Carg1q3 Carg1q4 Carg1q5 Carg1lt
      have Ch0q0 : W21.cell? ⟨Rh, 0, none⟩ = some (.bool (middlePT (pt n00 x000 x001 n01 x010 x011) (pt n10 x100 x101 n11 x110 x111)).x.neg) := Bh0x21.cell 0 rfl
      have Ch0q1 : W21.cell? ⟨Rh, 1, none⟩ = some (.slice ah00 (middlePT (pt n00 x000 x001 n01 x010 x011) (pt n10 x100 x101 n11 x110 x111)).x.num.length ch00) := Bh0x21.cell 1 rfl
      have Ch0q2 : W21.cell? ⟨Rh, 2, none⟩ = some (.slice ah01 (middlePT (pt n00 x000 x001 n01 x010 x011) (pt n10 x100 x101 n11 x110 x111)).x.den.length ch01) := Bh0x21.cell 2 rfl
      have Ch0q3 : W21.cell? ⟨Rh, 3, none⟩ = some (.bool (middlePT (pt n00 x000 x001 n01 x010 x011) (pt n10 x100 x101 n11 x110 x111)).y.neg) := Bh0x21.cell 3 rfl
      have Ch0q4 : W21.cell? ⟨Rh, 4, none⟩ = some (.slice ah02 (middlePT (pt n00 x000 x001 n01 x010 x011) (pt n10 x100 x101 n11 x110 x111)).y.num.length ch02) := Bh0x21.cell 4 rfl
      have Ch0q5 : W21.cell? ⟨Rh, 5, none⟩ = some (.slice ah03 (middlePT (pt n00 x000 x001 n01 x010 x011) (pt n10 x100 x101 n11 x110 x111)).y.den.length ch03) := Bh0x21.cell 5 rfl
      have Ch0lt : Rh < W21.heap.size := Bh0x21.lt
      have x30 := (box_step (box_step (box_span (box_step x21 b16) b17 (by omega)) b18) b21)
      have Ct0q0 : W21.cell? ⟨Rt, 0, none⟩ = some (.bool (middlePT (pt n00 x000 x001 n01 x010 x011) (pt n10 x100 x101 n11 x110 x111)).x.neg) := x30.cell 0 rfl
      have Ct0q1 : W21.cell? ⟨Rt, 1, none⟩ = some (.slice at00 (middlePT (pt n00 x000 x001 n01 x010 x011) (pt n10 x100 x101 n11 x110 x111)).x.num.length ct00) := x30.cell 1 rfl
      have Ct0q2 : W21.cell? ⟨Rt, 2, none⟩ = some (.slice at01 (middlePT (pt n00 x000 x001 n01 x010 x011) (pt n10 x100 x101 n11 x110 x111)).x.den.length ct01) := x30.cell 2 rfl
      have Ct0q3 : W21.cell? ⟨Rt, 3, none⟩ = some (.bool (middlePT (pt n00 x000 x001 n01 x010 x011) (pt n10 x100 x101 n11 x110 x111)).y.neg) := x30.cell 3 rfl
      have Ct0q4 : W21.cell? ⟨Rt, 4, none⟩ = some (.slice at02 (middlePT (pt n00 x000 x001 n01 x010 x011) (pt n10 x100 x101 n11 x110 x111)).y.num.length ct02) := x30.cell 4 rfl
      have Ct0q5 : W21.cell? ⟨Rt, 5, none⟩ = some (.slice at03 (middlePT (pt n00 x000 x001 n01 x010 x011) (pt n10 x100 x101 n11 x110 x111)).y.den.length ct03) := x30.cell 5 rfl
      have Ct0lt : Rt < W21.heap.size := x30.lt
      go_wp2_with fail
      have h31 : Below W5.heap.size W5 W21 := (bstep (bstep (bspan (bstep h23 b16) b17 (by omega)) b18) b21)
      refine (eqPoint_same ((middlePT (pt n00 x000 x001 n01 x010 x011) (pt n10 x100 x101 n11 x110 x111)).x.neg) ((middlePT (pt n00 x000 x001 n01 x010 x011) (pt n10 x100 x101 n11 x110 x111)).y.neg) _ _ _ _ ((middlePT (pt n00 x000 x001 n01 x010 x011) (pt n10 x100 x101 n11 x110 x111)).x.num) _ _ _ _ ((middlePT (pt n00 x000 x001 n01 x010 x011) (pt n10 x100 x101 n11 x110 x111)).x.den) _ _ _ _ ((middlePT (pt n00 x000 x001 n01 x010 x011) (pt n10 x100 x101 n11 x110 x111)).y.num) _ _ _ _ ((middlePT (pt n00 x000 x001 n01 x010 x011) (pt n10 x100 x101 n11 x110 x111)).y.den) _ ih00 (it00.below h31) l0 ih01 (it01.below h31) l1 ih02 (it02.below h31) l2 ih03 (it03.below h31) l3).mono ?_
      rintro e W22 ⟨rfl, b22⟩
      clear Ch0q0 Ch0q1 Ch0q2 Ch0q3 Ch0q4 Ch0q5 Ch0lt
      clear Ct0q0 Ct0q1 Ct0q2 Ct0q3 Ct0q4 Ct0q5 Ct0lt
      have s22 := b22.size
      have x32 := (box_step (box_step (box_step x26 b18) b21) b22)
      have Cg0q0 : W22.cell? ⟨(W8.heap.size), 0, none⟩ = some (.bool (middlePT (pt n00 x000 x001 n01 x010 x011) (pt n10 x100 x101 n11 x110 x111)).x.neg) := x32.cell 0 rfl
      have Cg0q1 : W22.cell? ⟨(W8.heap.size), 1, none⟩ = some (.slice ag00 (middlePT (pt n00 x000 x001 n01 x010 x011) (pt n10 x100 x101 n11 x110 x111)).x.num.length cg00) := x32.cell 1 rfl
      have Cg0q2 : W22.cell? ⟨(W8.heap.size), 2, none⟩ = some (.slice ag01 (middlePT (pt n00 x000 x001 n01 x010 x011) (pt n10 x100 x101 n11 x110 x111)).x.den.length cg01) := x32.cell 2 rfl
      have Cg0q3 : W22.cell? ⟨(W8.heap.size), 3, none⟩ = some (.bool (middlePT (pt n00 x000 x001 n01 x010 x011) (pt n10 x100 x101 n11 x110 x111)).y.neg) := x32.cell 3 rfl
      have Cg0q4 : W22.cell? ⟨(W8.heap.size), 4, none⟩ = some (.slice ag02 (middlePT (pt n00 x000 x001 n01 x010 x011) (pt n10 x100 x101 n11 x110 x111)).y.num.length cg02) := x32.cell 4 rfl
      have Cg0q5 : W22.cell? ⟨(W8.heap.size), 5, none⟩ = some (.slice ag03 (middlePT (pt n00 x000 x001 n01 x010 x011) (pt n10 x100 x101 n11 x110 x111)).y.den.length cg03) := x32.cell 5 rfl
      have Cg0lt : (W8.heap.size) < W22.heap.size := x32.lt
      go_wp2_with fail
      have f33 := (((mg0x17.below b18).below b21).below b22)
      refine (heldPoint_own _ _ _ _ _ _ _ _ _ _ _ _ _ _  _ _ f33 l0 l1 l2 l3 (by omega) (by omega)).mono ?_
      rintro e W23 ⟨rfl, b23⟩
      clear Cg0q0 Cg0q1 Cg0q2 Cg0q3 Cg0q4 Cg0q5 Cg0lt
      have s23 := b23.size
      go_wp2
      go_ret
      have h34 : Below w.heap.size w W23 := (bstep (bstep (bstep h29 b21) b22) b23)
      exact ⟨rfl, h34⟩

set_option maxRecDepth 100000 in
theorem lifted (os : Os) (started : os.Started) (H : Type) (enc : TypeId × Value → H) :
    ReturnsInHanded {} Try.checked os 25 .any (Rows.fnExactMiddleSpec.pre6 enc Try.prog Try.f25 Rows.fnExactMiddleRow.domain false) (Rows.fnExactMiddleSpec.post enc Try.prog Try.f25 false true false false) := by
  refine returnsInHanded_of_change (C := Try.checked) Try.own started (by kernel_rfl) Try.func25
    (ChangeSpec.witness6 (enc := enc) (C := Try.checked) false ⟨#[], #[.agg #[.bool false, .slice none 0 0, .slice none 0 0, .bool false, .slice none 0 0, .slice none 0 0], .agg #[.bool false, .slice none 0 0, .slice none 0 0, .bool false, .slice none 0 0, .slice none 0 0]], []⟩ 8 (by kernel_rfl) (by kernel_rfl) (by kernel_rfl) (by kernel_rfl)) ?_
  intro W base args ds gs before hval0 hW hcnd _
  have hval : ∀ (j : Nat) t v, Try.f25.params[j]? = some t → args[j]? = some v → Value.okWide Try.prog W .any base t v := hval0
  have hW' := hW
  obtain ⟨p, q, hA0, hV, rfl, hfz, hnd⟩ := hW
  have hA : DataW.TrodAll enc Try.prog W 0 (fun _ => true) true Try.f25.params.toList args.toList ds p := hA0
  rw [Try.params25] at hA hval
  obtain ⟨v0, vs0, d0, ds0, p0, q0, hargs, rfl, rfl, h0, r0⟩ := trodAll_cons hA
  obtain ⟨v1, vs1, d1, ds1, p1, q1, rfl, rfl, rfl, h1, r1⟩ := trodAll_cons r0
  obtain ⟨rfl, rfl, rfl⟩ := trodAll_nil r1
  obtain rfl : args = #[v0, v1] := by cases args; simp_all
  obtain ⟨rfl, rfl⟩ := trodVars_none hV
  have k0 := h0
  have lt0 : ∀ x ∈ p0, x.block < W.heap.size := by obtain ⟨m, hm⟩ := k0; exact DataW.trod_lt m _ _ _ hm
  obtain ⟨n00, a000, c000, x000, a001, c001, x001, n01, a010, c010, x010, a011, c011, x011, rfl, w000, w001, w010, w011⟩ := point_of_arg (hval 0 46 v0 rfl rfl) h0
  have k1 := h1
  have lt1 : ∀ x ∈ p1, x.block < W.heap.size := by obtain ⟨m, hm⟩ := k1; exact DataW.trod_lt m _ _ _ hm
  obtain ⟨n10, a100, c100, x100, a101, c101, x101, n11, a110, c110, x110, a111, c111, x111, rfl, w100, w101, w110, w111⟩ := point_of_arg (hval 1 46 v1 rfl rfl) h1
  clear hA0 hval0
  refine (walk n00 a000 c000 x000 a001 c001 x001 n01 a010 c010 x010 a011 c011 x011 n10 a100 c100 x100 a101 c101 x101 n11 a110 c110 x110 a111 c111 x111 W w000 w001 w010 w011 w100 w101 w110 w111).mono fun e W' ⟨he, bel⟩ => ?_
  subst he
  exact ⟨_, rfl, _, _, _, [], _, [], hW', trodAll_mk1 (shut_bool Try.underlying4 _), (trodAll_cons_mk (Below.trod Try.laidOut (by kernel_rfl) (of_decide_eq_true (by kernel_rfl)) k0 bel lt0) (trodAll_cons_mk (Below.trod Try.laidOut (by kernel_rfl) (of_decide_eq_true (by kernel_rfl)) k1 bel lt1) trodAll_mk0)), rfl, bel.frame _, fun h => by cases h⟩

theorem over : Rows.fnExactMiddleRow.holds Try.pinned (OpenSpec.ofChange Rows.fnExactMiddleSpec) :=
  OpenClaim.holds_of_wide 25 Try.f25 rfl rfl rfl rfl rfl rfl rfl ⟨rfl, rfl, rfl, rfl, rfl⟩ rfl rfl rfl rfl rfl (by kernel_rfl) Try.func25 (closed_ofP may_enter make_cut lifts_final 25 Try.f25 Rows.fnExactMiddleSpec Rows.fnExactMiddleRow prog_facts (by kernel_rfl) rfl rfl)
    (of_decide_eq_true (by kernel_rfl)) (by unfold Func.isWrapper; first | (rw [if_pos (by decide +kernel)]; kernel_rfl) | (rw [if_neg (by decide +kernel)]; exact ⟨rfl, rfl⟩))
    (fun os started H enc _ => lifted os started H enc)

theorem proved : Rows.FnExactMiddleSaid := over
#print axioms proved
end Go.Proofs.Ytlpnhcoaidmiiaa.fnExactMiddle
