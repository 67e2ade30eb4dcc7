/- Fractions: the program's test, copies, making. -/
import Derived.Deep.RegionHeld3
import Derived.Test.YtehhpkeabckdaaaGreatDoorRatI
import Derived.Test.YtehhpkeabckdaaaGreatDoorRatS
namespace Go.Proofs.YtehhpkeabckdaaaGreatDoor
set_option linter.unusedVariables false
set_option linter.unusedSimpArgs false
open Go.RowKit
section
variable (n : Bool) (a : Option Addr) (ca : Nat) (xs : List Int) (b : Option Addr) (cb : Nat) (ds : List Int) (w : World) (ha : IntsAt w a ca xs) (hn : xs.length ≤ 1048576) (hb : IntsAt w b cb ds) (hm : ds.length ≤ 1048576)
set_option maxHeartbeats 4000000 in
include ha hn hb hm in
theorem implRatOk_any : Calls Tryz.prog 21 #[.agg #[.bool n, .slice a xs.length ca, .slice b ds.length cb]] w (fun e w' => e = .returned (.bool (ratOkB n xs ds)) ∧ Below w.heap.size w w') := by
  have HA := Lib.hid ha
  have HB := Lib.hid hb
  clear ha hb
  by_cases h1 : bigOkB n xs = true
  · by_cases h2 : natOkB ds = true
    · by_cases h3 : 0 < ds.length
      · have hz : ((ds.length : Int) == 0) = false := beq_eq_false_iff_ne.2 (by omega)
        by_cases h5 : xs.length ≤ 24
        · have hx : decide ((24 : Int) < (xs.length : Int)) = false := decide_eq_false (by omega)
          by_cases h4 : ds.length ≤ 24
          · have hd : decide ((24 : Int) < (ds.length : Int)) = false := decide_eq_false (by omega)
            have e : ratOkB n xs ds = decide (Nat.gcd (val xs) (val ds) = 1) := by unfold ratOkB; simp [h1, h2, h3, h4, h5]
            have HX := Lib.hid (ok_digs (bigOk_nat h1))
            have HY := Lib.hid (ok_digs h2)
            obtain ⟨g, hg⟩ : ∃ g, Nat.gcd (val xs) (val ds) = g := ⟨_, rfl⟩
            have HG := Lib.hid hg
            have e2 : ratOkB n xs ds = decide (g = 1) := by rw [e]; exact decide_eq_decide.2 (by rw [hg])
            rw [e2]
            clear e2
            by_cases hs : smallB xs ds = true
            · obtain ⟨v, hv⟩ : ∃ v, toI n xs = v := ⟨_, rfl⟩
              obtain ⟨f, hf⟩ : ∃ f, ((val ds : Nat) : Int) = f := ⟨_, rfl⟩
              have hp : 0 < val ds := by have := HY.out; rw [← this, digs_len_pos] at h3; exact h3
              obtain ⟨q1, q2⟩ := small_parts hs
              have a1 := val_le_one (ok_rng (bigOk_nat h1)) q1
              have a2 := val_le_one (ok_rng h2) (by omega)
              have a4 := toI_natAbs n xs
              rw [hv] at a4
              have v1 : -9223372036854775807 ≤ v := by omega
              have v2 : v ≤ 9223372036854775807 := by omega
              have f1 : 0 < f := by omega
              have f2 : f ≤ 9223372036854775807 := by omega
              have HGI : Hid (((Nat.gcd v.natAbs f.toNat : Nat) : Int) = (g : Int)) := by rw [Hid, a4, ← hf, Int.toNat_natCast, hg]
              have HR : Hid (((g : Int) == 1) = decide (g = 1)) := by
                by_cases h : g = 1
                · subst h; rfl
                · rw [Hid, decide_eq_false h]; exact beq_eq_false_iff_ne.2 (by omega)
              have RX := Lib.hid (ok_rng (bigOk_nat h1))
              have RD := Lib.hid (ok_rng h2)
              have HV := Lib.hid hv
              have HF := Lib.hid hf
              clear e hg hv hf a1 a2 a4 hp q1 q2
              go_enter Tryz.func21, Tryz.ntmps21
              go_wp2_with fail
              refine (implBigIntOk_any n a ca xs _ (HA.out.below (ba1 _ _)) hn).mono ?_
              rintro e W1 ⟨rfl, b1⟩
              have Rx := bx1_0 b1
              have B := Lib.hid (bstep (ba1 _ _) b1)
              have sb1 := b1.size
              try simp at sb1
              have Yx0 := Rx.cell 0 rfl
              have Yx1 := Rx.cell 1 rfl
              have Yx2 := Rx.cell 2 rfl
              have Lx := Rx.lt
              clear b1
              go_wp2_with fail
              refine (implNatOk_any b cb ds _ (HB.out.below B.out) hm).mono ?_
              rintro e W2 ⟨rfl, b2⟩
              clear Yx0 Yx1 Yx2 Lx
              have Rx := box_step Rx b2
              have B := Lib.hid (bstep B.out b2)
              have sb2 := b2.size
              have Yx0 := Rx.cell 0 rfl
              have Yx1 := Rx.cell 1 rfl
              have Yx2 := Rx.cell 2 rfl
              have Lx := Rx.lt
              clear b2
              go_wp2_with fail
              refine (isSmall_any n a ca xs b cb ds _).mono ?_
              rintro e W3 ⟨rfl, b3⟩
              clear Yx0 Yx1 Yx2 Lx
              have Rx := box_step Rx b3
              have B := Lib.hid (bstep B.out b3)
              have sb3 := b3.size
              have Yx0 := Rx.cell 0 rfl
              have Yx1 := Rx.cell 1 rfl
              have Yx2 := Rx.cell 2 rfl
              have Lx := Rx.lt
              clear b3
              go_wp2_with fail
              refine (small_any n a ca xs b cb ds v f _ (HA.out.below B.out) (HB.out.below B.out) hs RX.out RD.out HV.out HF.out).mono ?_
              rintro e W4 ⟨rfl, b4⟩
              clear Yx0 Yx1 Yx2 Lx
              have Rx := box_step Rx b4
              have B := Lib.hid (bstep B.out b4)
              have sb4 := b4.size
              have Yx0 := Rx.cell 0 rfl
              have Yx1 := Rx.cell 1 rfl
              have Yx2 := Rx.cell 2 rfl
              have Lx := Rx.lt
              clear b4
              go_wp2_with fail
              all_goals (refine (gcd_abs v _ f g _ (by omega) v1 v2 f1 f2 HGI.out).mono ?_; rintro e W9 ⟨rfl, b9⟩)
              all_goals (go_wp2; go_ret; exact ⟨ret_bool HR.out, bstep B.out b9⟩)
            · have hs' := Bool.eq_false_iff.2 hs
              clear e hg hs
              go_enter Tryz.func21, Tryz.ntmps21
              go_wp2_with fail
              refine (implBigIntOk_any n a ca xs _ (HA.out.below (ba1 _ _)) hn).mono ?_
              rintro e W5 ⟨rfl, b5⟩
              have Rx := bx1_0 b5
              have B := Lib.hid (bstep (ba1 _ _) b5)
              have sb5 := b5.size
              try simp at sb5
              have Yx0 := Rx.cell 0 rfl
              have Yx1 := Rx.cell 1 rfl
              have Yx2 := Rx.cell 2 rfl
              have Lx := Rx.lt
              clear b5
              go_wp2_with fail
              refine (implNatOk_any b cb ds _ (HB.out.below B.out) hm).mono ?_
              rintro e W6 ⟨rfl, b6⟩
              clear Yx0 Yx1 Yx2 Lx
              have Rx := box_step Rx b6
              have B := Lib.hid (bstep B.out b6)
              have sb6 := b6.size
              have Yx0 := Rx.cell 0 rfl
              have Yx1 := Rx.cell 1 rfl
              have Yx2 := Rx.cell 2 rfl
              have Lx := Rx.lt
              clear b6
              go_wp2_with fail
              refine (isSmall_any n a ca xs b cb ds _).mono ?_
              rintro e W7 ⟨rfl, b7⟩
              clear Yx0 Yx1 Yx2 Lx
              have Rx := box_step Rx b7
              have B := Lib.hid (bstep B.out b7)
              have sb7 := b7.size
              have Yx0 := Rx.cell 0 rfl
              have Yx1 := Rx.cell 1 rfl
              have Yx2 := Rx.cell 2 rfl
              have Lx := Rx.lt
              clear b7
              go_wp2_with fail
              refine (natGcd_out a ca xs b cb ds g _ (HA.out.below B.out) (HB.out.below B.out) (by omega) (by omega) HX.out HY.out HG.out).mono ?_
              rintro e W8 ⟨p, c, rfl, hG, b8⟩
              clear Yx0 Yx1 Yx2 Lx
              have Rx := box_step Rx b8
              have B := Lib.hid (bstep B.out b8)
              have sb8 := b8.size
              have G := Lib.hid hG
              clear hG
              have Yx0 := Rx.cell 0 rfl
              have Yx1 := Rx.cell 1 rfl
              have Yx2 := Rx.cell 2 rfl
              have Lx := Rx.lt
              clear b8
              go_wp2_with fail
              refine (isOne_any p c g _ G.out.ints).mono ?_
              rintro e W9 ⟨rfl, b9⟩
              clear Yx0 Yx1 Yx2 Lx
              have Rx := box_step Rx b9
              have B := Lib.hid (bstep B.out b9)
              have G := Lib.hid (G.out.below b9)
              have sb9 := b9.size
              have Yx0 := Rx.cell 0 rfl
              have Yx1 := Rx.cell 1 rfl
              have Yx2 := Rx.cell 2 rfl
              have Lx := Rx.lt
              clear b9
              go_wp2
              go_ret
              exact ⟨rfl, B.out⟩
          · have hd : decide ((24 : Int) < (ds.length : Int)) = true := decide_eq_true (by omega)
            have e : ratOkB n xs ds = false := by unfold ratOkB; simp [h4]
            rw [e]
            clear e
            go_enter Tryz.func21, Tryz.ntmps21
            go_wp2_with fail
            refine (implBigIntOk_any n a ca xs _ (HA.out.below (ba1 _ _)) hn).mono ?_
            rintro e W10 ⟨rfl, b10⟩
            have Rx := bx1_0 b10
            have B := Lib.hid (bstep (ba1 _ _) b10)
            have sb10 := b10.size
            try simp at sb10
            have Yx0 := Rx.cell 0 rfl
            have Yx1 := Rx.cell 1 rfl
            have Yx2 := Rx.cell 2 rfl
            have Lx := Rx.lt
            clear b10
            go_wp2_with fail
            refine (implNatOk_any b cb ds _ (HB.out.below B.out) hm).mono ?_
            rintro e W11 ⟨rfl, b11⟩
            clear Yx0 Yx1 Yx2 Lx
            have Rx := box_step Rx b11
            have B := Lib.hid (bstep B.out b11)
            have sb11 := b11.size
            have Yx0 := Rx.cell 0 rfl
            have Yx1 := Rx.cell 1 rfl
            have Yx2 := Rx.cell 2 rfl
            have Lx := Rx.lt
            clear b11
            go_wp2
            go_ret
            exact ⟨rfl, B.out⟩
        · have hx : decide ((24 : Int) < (xs.length : Int)) = true := decide_eq_true (by omega)
          have e : ratOkB n xs ds = false := by unfold ratOkB; simp [h5]
          rw [e]
          clear e
          go_enter Tryz.func21, Tryz.ntmps21
          go_wp2_with fail
          refine (implBigIntOk_any n a ca xs _ (HA.out.below (ba1 _ _)) hn).mono ?_
          rintro e W12 ⟨rfl, b12⟩
          have Rx := bx1_0 b12
          have B := Lib.hid (bstep (ba1 _ _) b12)
          have sb12 := b12.size
          try simp at sb12
          have Yx0 := Rx.cell 0 rfl
          have Yx1 := Rx.cell 1 rfl
          have Yx2 := Rx.cell 2 rfl
          have Lx := Rx.lt
          clear b12
          go_wp2_with fail
          refine (implNatOk_any b cb ds _ (HB.out.below B.out) hm).mono ?_
          rintro e W13 ⟨rfl, b13⟩
          clear Yx0 Yx1 Yx2 Lx
          have Rx := box_step Rx b13
          have B := Lib.hid (bstep B.out b13)
          have sb13 := b13.size
          have Yx0 := Rx.cell 0 rfl
          have Yx1 := Rx.cell 1 rfl
          have Yx2 := Rx.cell 2 rfl
          have Lx := Rx.lt
          clear b13
          go_wp2
          go_ret
          exact ⟨rfl, B.out⟩
      · have hz : ((ds.length : Int) == 0) = true := beq_iff_eq.2 (by omega)
        have e : ratOkB n xs ds = false := by unfold ratOkB; simp [h3]
        rw [e]
        clear e
        go_enter Tryz.func21, Tryz.ntmps21
        go_wp2_with fail
        refine (implBigIntOk_any n a ca xs _ (HA.out.below (ba1 _ _)) hn).mono ?_
        rintro e W14 ⟨rfl, b14⟩
        have Rx := bx1_0 b14
        have B := Lib.hid (bstep (ba1 _ _) b14)
        have sb14 := b14.size
        try simp at sb14
        have Yx0 := Rx.cell 0 rfl
        have Yx1 := Rx.cell 1 rfl
        have Yx2 := Rx.cell 2 rfl
        have Lx := Rx.lt
        clear b14
        go_wp2_with fail
        refine (implNatOk_any b cb ds _ (HB.out.below B.out) hm).mono ?_
        rintro e W15 ⟨rfl, b15⟩
        clear Yx0 Yx1 Yx2 Lx
        have Rx := box_step Rx b15
        have B := Lib.hid (bstep B.out b15)
        have sb15 := b15.size
        have Yx0 := Rx.cell 0 rfl
        have Yx1 := Rx.cell 1 rfl
        have Yx2 := Rx.cell 2 rfl
        have Lx := Rx.lt
        clear b15
        go_wp2
        go_ret
        exact ⟨rfl, B.out⟩
    · have h2' := Bool.eq_false_iff.2 h2
      have e : ratOkB n xs ds = false := by unfold ratOkB; simp [h2']
      rw [e]
      clear e
      go_enter Tryz.func21, Tryz.ntmps21
      go_wp2_with fail
      refine (implBigIntOk_any n a ca xs _ (HA.out.below (ba1 _ _)) hn).mono ?_
      rintro e W16 ⟨rfl, b16⟩
      have Rx := bx1_0 b16
      have B := Lib.hid (bstep (ba1 _ _) b16)
      have sb16 := b16.size
      try simp at sb16
      have Yx0 := Rx.cell 0 rfl
      have Yx1 := Rx.cell 1 rfl
      have Yx2 := Rx.cell 2 rfl
      have Lx := Rx.lt
      clear b16
      go_wp2_with fail
      refine (implNatOk_any b cb ds _ (HB.out.below B.out) hm).mono ?_
      rintro e W17 ⟨rfl, b17⟩
      clear Yx0 Yx1 Yx2 Lx
      have Rx := box_step Rx b17
      have B := Lib.hid (bstep B.out b17)
      have sb17 := b17.size
      have Yx0 := Rx.cell 0 rfl
      have Yx1 := Rx.cell 1 rfl
      have Yx2 := Rx.cell 2 rfl
      have Lx := Rx.lt
      clear b17
      go_wp2
      go_ret
      exact ⟨rfl, B.out⟩
  · have h1' := Bool.eq_false_iff.2 h1
    have e : ratOkB n xs ds = false := by unfold ratOkB; simp [h1']
    rw [e]
    clear e
    go_enter Tryz.func21, Tryz.ntmps21
    go_wp2_with fail
    refine (implBigIntOk_any n a ca xs _ (HA.out.below (ba1 _ _)) hn).mono ?_
    rintro e W18 ⟨rfl, b18⟩
    have Rx := bx1_0 b18
    have B := Lib.hid (bstep (ba1 _ _) b18)
    have sb18 := b18.size
    try simp at sb18
    have Yx0 := Rx.cell 0 rfl
    have Yx1 := Rx.cell 1 rfl
    have Yx2 := Rx.cell 2 rfl
    have Lx := Rx.lt
    clear b18
    go_wp2
    go_ret
    exact ⟨rfl, B.out⟩

set_option maxHeartbeats 4000000 in
include ha hn hb hm in
theorem areRatsFn_any : Calls Tryz.prog 56 #[.agg #[.bool n, .slice a xs.length ca, .slice b ds.length cb]] w (fun e w' => e = .returned (.bool (!ratOkB n xs ds)) ∧ Below w.heap.size w w') := by
  have HA := Lib.hid ha
  have HB := Lib.hid hb
  clear ha hb
  go_enter Tryz.func56, Tryz.ntmps56
  go_wp2_with fail
  refine (implRatOk_any n a ca xs b cb ds _ (HA.out.below (ba1 _ _)) hn (HB.out.below (ba1 _ _)) hm).mono ?_
  rintro e W19 ⟨rfl, b19⟩
  have Rx := bx1_0 b19
  have B := Lib.hid (bstep (ba1 _ _) b19)
  have sb19 := b19.size
  try simp at sb19
  have Yx0 := Rx.cell 0 rfl
  have Yx1 := Rx.cell 1 rfl
  have Yx2 := Rx.cell 2 rfl
  have Lx := Rx.lt
  clear b19
  go_wp2
  go_ret
  exact ⟨rfl, B.out⟩

set_option maxHeartbeats 1000000 in
theorem sign_any : Calls Tryz.prog 30 #[.agg #[.bool n, .slice a xs.length ca, .slice b ds.length cb]] w fun e w' => e = .returned (.int .i64 (if xs.length = 0 then 0 else if n then -1 else 1)) ∧ Below w.heap.size w w' := by
  by_cases h0 : xs.length = 0
  · have hz : ((xs.length : Int) == 0) = true := beq_iff_eq.2 (by omega)
    rw [if_pos h0]
    clear h0
    go_enter Tryz.func30, Tryz.ntmps30
    go_wp2
    go_ret
    exact ⟨rfl, ba1 _ _⟩
  · have hz : ((xs.length : Int) == 0) = false := beq_eq_false_iff_ne.2 (by omega)
    rw [if_neg h0]
    clear h0
    cases n
    · rw [if_neg (by simp)]
      go_enter Tryz.func30, Tryz.ntmps30
      go_wp2
      go_ret
      exact ⟨rfl, ba1 _ _⟩
    · rw [if_pos rfl]
      go_enter Tryz.func30, Tryz.ntmps30
      go_wp2
      go_ret
      exact ⟨rfl, ba1 _ _⟩

set_option maxHeartbeats 4000000 in
include ha hn hb hm in
theorem implRatSign_any : Calls Tryz.prog 11 #[.agg #[.bool n, .slice a xs.length ca, .slice b ds.length cb]] w (fun e w' => e = .returned (.int .i64 (ratSignP n xs ds)) ∧ Below w.heap.size w w') := by
  have HA := Lib.hid ha
  have HB := Lib.hid hb
  clear ha hb
  by_cases h1 : ratOkB n xs ds = true
  · skip
    obtain ⟨s, hs⟩ : ∃ s, ratSignP n xs ds = s := ⟨_, rfl⟩
    have HS : Hid (∀ W, Calls Tryz.prog 30 #[.agg #[.bool n, .slice a xs.length ca, .slice b ds.length cb]] W fun e w' => e = .returned (.int .i64 s) ∧ Below W.heap.size W w') := by
      intro W
      have h := sign_any n a ca xs b cb ds W
      rw [show (if xs.length = 0 then (0 : Int) else if n then -1 else 1) = s by rw [← hs]; unfold ratSignP; rw [h1, if_pos rfl]] at h
      exact h
    rw [hs]
    clear hs
    go_enter Tryz.func11, Tryz.ntmps11
    go_wp2_with fail
    refine (implRatOk_any n a ca xs b cb ds _ (HA.out.below (ba1 _ _)) hn (HB.out.below (ba1 _ _)) hm).mono ?_
    rintro e W20 ⟨rfl, b20⟩
    have Rx := bx1_0 b20
    have B := Lib.hid (bstep (ba1 _ _) b20)
    have sb20 := b20.size
    try simp at sb20
    have Yx0 := Rx.cell 0 rfl
    have Yx1 := Rx.cell 1 rfl
    have Yx2 := Rx.cell 2 rfl
    have Lx := Rx.lt
    clear b20
    go_wp2_with fail
    refine (HS.out _).mono ?_
    rintro e W21 ⟨rfl, b21⟩
    clear Yx0 Yx1 Yx2 Lx
    have Rx := box_step Rx b21
    have B := Lib.hid (bstep B.out b21)
    have sb21 := b21.size
    have Yx0 := Rx.cell 0 rfl
    have Yx1 := Rx.cell 1 rfl
    have Yx2 := Rx.cell 2 rfl
    have Lx := Rx.lt
    clear b21
    go_wp2
    go_ret
    exact ⟨rfl, B.out⟩
  · have h1' := Bool.eq_false_iff.2 h1
    have e : ratSignP n xs ds = 0 := by unfold ratSignP; rw [h1']; rfl
    rw [e]
    go_enter Tryz.func11, Tryz.ntmps11
    go_wp2_with fail
    refine (implRatOk_any n a ca xs b cb ds _ (HA.out.below (ba1 _ _)) hn (HB.out.below (ba1 _ _)) hm).mono ?_
    rintro e W22 ⟨rfl, b22⟩
    have Rx := bx1_0 b22
    have B := Lib.hid (bstep (ba1 _ _) b22)
    have sb22 := b22.size
    try simp at sb22
    have Yx0 := Rx.cell 0 rfl
    have Yx1 := Rx.cell 1 rfl
    have Yx2 := Rx.cell 2 rfl
    have Lx := Rx.lt
    clear b22
    go_wp2
    go_ret
    exact ⟨rfl, B.out⟩

set_option maxRecDepth 100000 in
set_option maxHeartbeats 2000000 in
theorem negative_any : Calls Tryz.prog 28 #[.agg #[.bool n, .slice a xs.length ca, .slice b ds.length cb]] w fun e w' => e = .returned (.agg #[.bool (mkBI (!n) xs).neg, .slice a xs.length ca, .slice b ds.length cb]) ∧ Below w.heap.size w w' := by
  rw [show (mkBI (!n) xs).neg = ((!n) && decide (0 < xs.length)) from rfl]
  have Rx : Box ((w.alloc (.cells #[.bool n, .slice a xs.length ca, .slice b ds.length cb] 27)).alloc (.cells #[.bool false, .slice none 0 0, .slice none 0 0] 27)) (w.heap.size) #[.bool n, .slice a xs.length ca, .slice b ds.length cb] := bx2_0 (Below.refl _ _)
  have Rr : Box ((w.alloc (.cells #[.bool n, .slice a xs.length ca, .slice b ds.length cb] 27)).alloc (.cells #[.bool false, .slice none 0 0, .slice none 0 0] 27)) (w.heap.size + 1) #[.bool false, .slice none 0 0, .slice none 0 0] := bx2_1 (Below.refl _ _)
  have B : Hid (Below w.heap.size w ((w.alloc (.cells #[.bool n, .slice a xs.length ca, .slice b ds.length cb] 27)).alloc (.cells #[.bool false, .slice none 0 0, .slice none 0 0] 27))) := Lib.hid (ba2 _ _ _)
  have Yx0 : ((w.alloc (.cells #[.bool n, .slice a xs.length ca, .slice b ds.length cb] 27)).alloc (.cells #[.bool false, .slice none 0 0, .slice none 0 0] 27)).cell? ⟨w.heap.size, 0, none⟩ = some (.bool n) := Rx.cell 0 rfl
  have Yx1 : ((w.alloc (.cells #[.bool n, .slice a xs.length ca, .slice b ds.length cb] 27)).alloc (.cells #[.bool false, .slice none 0 0, .slice none 0 0] 27)).cell? ⟨w.heap.size, 1, none⟩ = some (.slice a xs.length ca) := Rx.cell 1 rfl
  have Yx2 : ((w.alloc (.cells #[.bool n, .slice a xs.length ca, .slice b ds.length cb] 27)).alloc (.cells #[.bool false, .slice none 0 0, .slice none 0 0] 27)).cell? ⟨w.heap.size, 2, none⟩ = some (.slice b ds.length cb) := Rx.cell 2 rfl
  have Yr0 : ((w.alloc (.cells #[.bool n, .slice a xs.length ca, .slice b ds.length cb] 27)).alloc (.cells #[.bool false, .slice none 0 0, .slice none 0 0] 27)).cell? ⟨w.heap.size + 1, 0, none⟩ = some (.bool false) := Rr.cell 0 rfl
  have Yr1 : ((w.alloc (.cells #[.bool n, .slice a xs.length ca, .slice b ds.length cb] 27)).alloc (.cells #[.bool false, .slice none 0 0, .slice none 0 0] 27)).cell? ⟨w.heap.size + 1, 1, none⟩ = some (.slice none 0 0) := Rr.cell 1 rfl
  have Yr2 : ((w.alloc (.cells #[.bool n, .slice a xs.length ca, .slice b ds.length cb] 27)).alloc (.cells #[.bool false, .slice none 0 0, .slice none 0 0] 27)).cell? ⟨w.heap.size + 1, 2, none⟩ = some (.slice none 0 0) := Rr.cell 2 rfl
  go_enter Tryz.func28, Tryz.ntmps28
  go_wp2_with fail
  go_region_held3 (fun w' => w'.cell? ⟨w.heap.size, 0, none⟩ = some (.bool n) ∧ w'.cell? ⟨w.heap.size, 1, none⟩ = some (.slice a xs.length ca) ∧ w'.cell? ⟨w.heap.size, 2, none⟩ = some (.slice b ds.length cb))
    ((first | exact ⟨Yx0, Yx1, Yx2⟩ | exact ⟨cell_stepD Yx0 b23, cell_stepD Yx1 b23, cell_stepD Yx2 b23⟩ | exact ⟨cell_low (cell_low (cell_low (cell_stepD Yx0 b23) (by first | (simp; done) | (simp; omega) | omega)) (by first | (simp; done) | (simp; omega) | omega)) (by first | (simp; done) | (simp; omega) | omega), cell_low (cell_low (cell_low (cell_stepD Yx1 b23) (by first | (simp; done) | (simp; omega) | omega)) (by first | (simp; done) | (simp; omega) | omega)) (by first | (simp; done) | (simp; omega) | omega), cell_low (cell_low (cell_low (cell_stepD Yx2 b23) (by first | (simp; done) | (simp; omega) | omega)) (by first | (simp; done) | (simp; omega) | omega)) (by first | (simp; done) | (simp; omega) | omega)⟩))
    (first | (go_at_call 58; refine (signed_any (!n) a xs.length ca _).mono ?_; rintro e W23 ⟨rfl, b23⟩; have s23 := b23.size; (try simp at s23); have Rr := (box_step (box_drew Rr) b23); have Yr0 := Rr.cell 0 rfl; have Fr0 := Rr.frozen 0; have Yr1 := Rr.cell 1 rfl; have Fr1 := Rr.frozen 1; have Yr2 := Rr.cell 2 rfl; have Fr2 := Rr.frozen 2; have Lr := Rr.lt))
  have sb23 := b23.size
  try simp at sb23
  have B := Lib.hid (bstepD B.out b23)
  clear b23
  go_wp2
  refine bodyPost_ret (v := .agg #[.bool ((!n) && decide (0 < xs.length)), .slice a xs.length ca, .slice b ds.length cb]) (by simp [results, Tryz.results28, go_sem, Yr0, Yr1, Yr2, Lr]) rfl ⟨rfl, below_put (below_put (below_put B.out (by first | omega | (simp; done) | (simp; omega))) (by first | omega | (simp; done) | (simp; omega))) (by first | omega | (simp; done) | (simp; omega))⟩

set_option maxHeartbeats 4000000 in
set_option maxRecDepth 100000 in
include ha hn hb hm in
theorem copyRat_any : Calls Tryz.prog 31 #[.agg #[.bool n, .slice a xs.length ca, .slice b ds.length cb]] w (RatRet w ⟨n, xs, ds⟩) := by
  have HA := Lib.hid ha
  have HB := Lib.hid hb
  clear ha hb
  have Rx : Box ((w.alloc (.cells #[.bool n, .slice a xs.length ca, .slice b ds.length cb] 27)).alloc (.cells #[.bool false, .slice none 0 0, .slice none 0 0] 27)) (w.heap.size) #[.bool n, .slice a xs.length ca, .slice b ds.length cb] := bx2_0 (Below.refl _ _)
  have Rr : Box ((w.alloc (.cells #[.bool n, .slice a xs.length ca, .slice b ds.length cb] 27)).alloc (.cells #[.bool false, .slice none 0 0, .slice none 0 0] 27)) (w.heap.size + 1) #[.bool false, .slice none 0 0, .slice none 0 0] := bx2_1 (Below.refl _ _)
  have B : Hid (Below w.heap.size w ((w.alloc (.cells #[.bool n, .slice a xs.length ca, .slice b ds.length cb] 27)).alloc (.cells #[.bool false, .slice none 0 0, .slice none 0 0] 27))) := Lib.hid (ba2 _ _ _)
  have Yx0 : ((w.alloc (.cells #[.bool n, .slice a xs.length ca, .slice b ds.length cb] 27)).alloc (.cells #[.bool false, .slice none 0 0, .slice none 0 0] 27)).cell? ⟨w.heap.size, 0, none⟩ = some (.bool n) := Rx.cell 0 rfl
  have Yx1 : ((w.alloc (.cells #[.bool n, .slice a xs.length ca, .slice b ds.length cb] 27)).alloc (.cells #[.bool false, .slice none 0 0, .slice none 0 0] 27)).cell? ⟨w.heap.size, 1, none⟩ = some (.slice a xs.length ca) := Rx.cell 1 rfl
  have Yx2 : ((w.alloc (.cells #[.bool n, .slice a xs.length ca, .slice b ds.length cb] 27)).alloc (.cells #[.bool false, .slice none 0 0, .slice none 0 0] 27)).cell? ⟨w.heap.size, 2, none⟩ = some (.slice b ds.length cb) := Rx.cell 2 rfl
  have Yr0 : ((w.alloc (.cells #[.bool n, .slice a xs.length ca, .slice b ds.length cb] 27)).alloc (.cells #[.bool false, .slice none 0 0, .slice none 0 0] 27)).cell? ⟨w.heap.size + 1, 0, none⟩ = some (.bool false) := Rr.cell 0 rfl
  have Yr1 : ((w.alloc (.cells #[.bool n, .slice a xs.length ca, .slice b ds.length cb] 27)).alloc (.cells #[.bool false, .slice none 0 0, .slice none 0 0] 27)).cell? ⟨w.heap.size + 1, 1, none⟩ = some (.slice none 0 0) := Rr.cell 1 rfl
  have Yr2 : ((w.alloc (.cells #[.bool n, .slice a xs.length ca, .slice b ds.length cb] 27)).alloc (.cells #[.bool false, .slice none 0 0, .slice none 0 0] 27)).cell? ⟨w.heap.size + 1, 2, none⟩ = some (.slice none 0 0) := Rr.cell 2 rfl
  go_enter Tryz.func31, Tryz.ntmps31
  have tok24 : True := trivial
  have tok25 : True := trivial
  go_wp2_with fail
  go_region_held3 (fun w' => w'.cell? ⟨w.heap.size, 0, none⟩ = some (.bool n) ∧ w'.cell? ⟨w.heap.size, 1, none⟩ = some (.slice a xs.length ca) ∧ w'.cell? ⟨w.heap.size, 2, none⟩ = some (.slice b ds.length cb))
    ((first | exact ⟨Yx0, Yx1, Yx2⟩ | exact ⟨cell_stepD Yx0 b24, cell_stepD Yx1 b24, cell_stepD Yx2 b24⟩ | exact ⟨cell_step (cell_stepD Yx0 b24) b25, cell_step (cell_stepD Yx1 b24) b25, cell_step (cell_stepD Yx2 b24) b25⟩ | exact ⟨cell_low (cell_low (cell_low (cell_step (cell_stepD Yx0 b24) b25) (by first | (simp; done) | (simp; omega) | omega)) (by first | (simp; done) | (simp; omega) | omega)) (by first | (simp; done) | (simp; omega) | omega), cell_low (cell_low (cell_low (cell_step (cell_stepD Yx1 b24) b25) (by first | (simp; done) | (simp; omega) | omega)) (by first | (simp; done) | (simp; omega) | omega)) (by first | (simp; done) | (simp; omega) | omega), cell_low (cell_low (cell_low (cell_step (cell_stepD Yx2 b24) b25) (by first | (simp; done) | (simp; omega) | omega)) (by first | (simp; done) | (simp; omega) | omega)) (by first | (simp; done) | (simp; omega) | omega)⟩))
    (first | (go_at_call 61; clear tok24; refine (own_out (clone_any a ca xs _ (HA.out.below (B.out.drew)) hn)).mono ?_; rintro e W24 ⟨p, c, rfl, hO1, b24⟩; have s24 := b24.size; (try simp at s24)) | (go_at_call 61; clear tok25; refine (own_out (clone_any b cb ds _ (HB.out.below (bstepD B.out b24)) hm)).mono ?_; rintro e W25 ⟨p2, c2, rfl, hO2, b25⟩; have s25 := b25.size; (try simp at s25); have Rr := (box_step (box_step (box_drew Rr) b24) b25); have Yr0 := Rr.cell 0 rfl; have Fr0 := Rr.frozen 0; have Yr1 := Rr.cell 1 rfl; have Fr1 := Rr.frozen 1; have Yr2 := Rr.cell 2 rfl; have Fr2 := Rr.frozen 2; have Lr := Rr.lt))
  have sb24 := b24.size
  try simp at sb24
  have sb25 := b25.size
  have O1 := Lib.hid ((hO1.below b25))
  clear hO1
  have O2 := Lib.hid (hO2)
  clear hO2
  have B := Lib.hid (bstep (bstepD B.out b24) b25)
  clear b24 b25
  go_wp2
  refine bodyPost_ret (v := .agg #[.bool n, .slice p xs.length c, .slice p2 ds.length c2]) (by simp [results, Tryz.results31, go_sem, Yr0, Yr1, Yr2, Lr]) rfl ⟨p, c, p2, c2, rfl, rat_endR (by first | omega | (simp; done) | (simp; omega)) (by first | omega | (simp; done) | (simp; omega)) (Two.of O1.out O2.out (Nat.le_refl _) (Nat.le_refl _) (Nat.le_refl _) (by first | omega | (simp; done) | (simp; omega)) (by first | omega | (simp; done) | (simp; omega))) (by first | omega | (simp; done) | (simp; omega)) B.out _ _ _⟩

end
section
variable (n : Bool) (a : Option Addr) (ca : Nat) (xs : List Int) (m : Bool) (b : Option Addr) (cb : Nat) (ys : List Int) (w : World) (ha : IntsAt w a ca xs) (hn : xs.length ≤ 1048576) (hb : IntsAt w b cb ys) (hm : ys.length ≤ 1048576)
end
section
variable (x y : Int) (w : World) (hx : In64 x) (hy : In64 y)
end
end Go.Proofs.YtehhpkeabckdaaaGreatDoor
