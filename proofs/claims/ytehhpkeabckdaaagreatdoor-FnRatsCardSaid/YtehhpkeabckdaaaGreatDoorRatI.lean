/- Fractions: the program's small helpers. -/
import Derived.Deep.RegionHeld3
import Derived.IntWalk
import Derived.Test.YtehhpkeabckdaaaGreatDoorRatRed
import Derived.Test.YtehhpkeabckdaaaGreatDoorNatDiv
namespace Go.Proofs.YtehhpkeabckdaaaGreatDoor
set_option linter.unusedVariables false
set_option linter.unusedSimpArgs false
open Go.RowKit
theorem drewN_below (w : World) (k n : Nat) : Below n w (w.drewN k) := below_drewN (Below.refl _ _) k
section
variable (n : Bool) (a : Option Addr) (ca : Nat) (b : Option Addr) (cb : Nat) (x d : Int) (w : World)
set_option maxHeartbeats 2000000 in
theorem small_nil (hb : IntsAt w b cb [d]) : Calls Tryz.prog 33 #[.agg #[.bool n, .slice a 0 ca, .slice b 1 cb]] w fun e w' => e = .returned (.tuple #[.int .i64 0, .int .i64 d]) ∧ Below w.heap.size w w' := by
  obtain ⟨b0, off, rfl, hc⟩ := (hb.below (ba1 w (.cells #[.bool n, .slice a 0 ca, .slice b 1 cb] 27))).get (k := 0) (by simp)
  simp only [List.getElem_singleton, Nat.add_zero] at hc
  clear hb
  cases n
  · go_enter Tryz.func33, Tryz.ntmps33
    go_wp2
    go_quiet (fail)
    go_wp2
    exact bodyPost_ret (v := .tuple #[.int .i64 0, .int .i64 d]) (by simp [results, Tryz.results33, go_sem]) rfl ⟨rfl, (ba1 _ _).trans (drewN_below _ _ _)⟩
  · go_enter Tryz.func33, Tryz.ntmps33
    go_wp2
    go_quiet (fail)
    go_wp2
    exact bodyPost_ret (v := .tuple #[.int .i64 0, .int .i64 d]) (by simp [results, Tryz.results33, go_sem]) rfl ⟨rfl, (ba1 _ _).trans (drewN_below _ _ _)⟩
set_option maxHeartbeats 2000000 in
theorem small_pos (ha : IntsAt w a ca [x]) (hb : IntsAt w b cb [d]) : Calls Tryz.prog 33 #[.agg #[.bool false, .slice a 1 ca, .slice b 1 cb]] w fun e w' => e = .returned (.tuple #[.int .i64 x, .int .i64 d]) ∧ Below w.heap.size w w' := by
  obtain ⟨a0, offa, rfl, hca⟩ := (ha.below (ba1 w (.cells #[.bool false, .slice a 1 ca, .slice b 1 cb] 27))).get (k := 0) (by simp)
  obtain ⟨b0, off, rfl, hc⟩ := (hb.below (ba1 w (.cells #[.bool false, .slice (some ⟨a0, offa, none⟩) 1 ca, .slice b 1 cb] 27))).get (k := 0) (by simp)
  simp only [List.getElem_singleton, Nat.add_zero] at hc hca
  clear ha hb
  go_enter Tryz.func33, Tryz.ntmps33
  go_wp2
  go_quiet (fail)
  go_wp2
  exact bodyPost_ret (v := .tuple #[.int .i64 x, .int .i64 d]) (by simp [results, Tryz.results33, go_sem]) rfl ⟨rfl, (ba1 _ _).trans (drewN_below _ _ _)⟩
set_option maxHeartbeats 2000000 in
theorem small_neg (ha : IntsAt w a ca [x]) (hb : IntsAt w b cb [d]) (hx : 0 ≤ x) (hx2 : x ≤ 999999999) : Calls Tryz.prog 33 #[.agg #[.bool true, .slice a 1 ca, .slice b 1 cb]] w fun e w' => e = .returned (.tuple #[.int .i64 (-x), .int .i64 d]) ∧ Below w.heap.size w w' := by
  obtain ⟨a0, offa, rfl, hca⟩ := (ha.below (ba1 w (.cells #[.bool true, .slice a 1 ca, .slice b 1 cb] 27))).get (k := 0) (by simp)
  obtain ⟨b0, off, rfl, hc⟩ := (hb.below (ba1 w (.cells #[.bool true, .slice (some ⟨a0, offa, none⟩) 1 ca, .slice b 1 cb] 27))).get (k := 0) (by simp)
  simp only [List.getElem_singleton, Nat.add_zero] at hc hca
  clear ha hb
  have HW : Hid (wrap64 (-x) = -x) := by unfold Hid wrap64; omega
  go_enter Tryz.func33, Tryz.ntmps33
  go_wp2
  go_quiet (fail)
  go_wp2
  exact bodyPost_ret (v := .tuple #[.int .i64 (-x), .int .i64 d]) (by simp [results, Tryz.results33, go_sem]) rfl ⟨rfl, (ba1 _ _).trans (drewN_below _ _ _)⟩
end
theorem small_any (n : Bool) (a : Option Addr) (ca : Nat) (xs : List Int) (b : Option Addr) (cb : Nat) (ds : List Int) (v e : Int) (w : World) (ha : IntsAt w a ca xs) (hb : IntsAt w b cb ds) (hs : smallB xs ds = true) (hx : Rng xs) (hd : Rng ds) (hv : toI n xs = v) (he : (val ds : Nat) = e) :
    Calls Tryz.prog 33 #[.agg #[.bool n, .slice a xs.length ca, .slice b ds.length cb]] w fun e' w' => e' = .returned (.tuple #[.int .i64 v, .int .i64 e]) ∧ Below w.heap.size w w' := by
  obtain ⟨h1, h2⟩ := small_parts hs
  obtain ⟨d, rfl⟩ := List.length_eq_one_iff.1 h2
  have hd0 := hd d (by simp)
  have hde : d = e := by rw [← he]; simp [val]; omega
  subst hde
  match xs, h1, ha, hx, hv with
  | [], _, _, _, hv =>
    have : v = 0 := by rw [← hv]; unfold toI; cases n <;> simp [val]
    rw [this]
    exact small_nil n a ca b cb d w hb
  | [x], _, ha, hx, hv =>
    have hx0 := hx x (by simp)
    cases n with
    | false =>
      have : v = x := by rw [← hv]; unfold toI; simp [val]; omega
      rw [this]
      exact small_pos a ca b cb x d w ha hb
    | true =>
      have : v = -x := by rw [← hv]; unfold toI; simp [val]; omega
      rw [this]
      exact small_neg a ca b cb x d w ha hb hx0.1 hx0.2
/-- the size of a small fraction's parts -/
theorem small_size {n : Bool} {xs ds : List Int} (h : ratOkB n xs ds = true) (hs : smallB xs ds = true) : -999999999 ≤ toI n xs ∧ toI n xs ≤ 999999999 ∧ 1 ≤ (val ds : Int) ∧ (val ds : Int) ≤ 999999999 := by
  obtain ⟨h1, h2⟩ := small_parts hs
  have a1 := val_le_one (ok_rng (bigOk_nat (ratOk_parts h).1)) h1
  have a2 := val_le_one (ok_rng (ratOk_parts h).2.1) (by omega)
  have a3 := ratOk_pos h
  have a4 := toI_natAbs n xs
  omega
theorem signOf_any (z : Int) (w : World) : Calls Tryz.prog 59 #[.int .i64 z] w fun e w' => e = .returned (.int .i64 (signZ z)) ∧ Below w.heap.size w w' := by
  by_cases h1 : z < 0
  · rw [show signZ z = -1 from if_pos h1]
    go_enter Tryz.func59, Tryz.ntmps59
    go_wp2
    go_ret
    exact ⟨rfl, Below.refl _ _⟩
  · by_cases h2 : 0 < z
    · rw [show signZ z = 1 by unfold signZ; rw [if_neg h1, if_pos h2]]
      go_enter Tryz.func59, Tryz.ntmps59
      go_wp2
      go_ret
      exact ⟨rfl, Below.refl _ _⟩
    · rw [show signZ z = 0 by unfold signZ; rw [if_neg h1, if_neg h2]]
      go_enter Tryz.func59, Tryz.ntmps59
      go_wp2
      go_ret
      exact ⟨rfl, Below.refl _ _⟩
theorem max_abs (v : Int) : max v (-v) = (v.natAbs : Int) := by omega
theorem gcd_abs (z x d g : Int) (w : World) (hx : x = (z.natAbs : Int)) (h0 : -9223372036854775807 ≤ z) (h1 : z ≤ 9223372036854775807) (hd : 0 < d) (hd2 : d ≤ 9223372036854775807) (hg : ((Nat.gcd z.natAbs d.toNat : Nat) : Int) = g) :
    Calls Tryz.prog 48 #[.int .i64 x, .int .i64 d] w fun e w' => e = .returned (.int .i64 g) ∧ Below w.heap.size w w' := by
  subst hx
  have h := gcd_any (z.natAbs : Int) d w (by omega) (by omega) (by omega) hd2
  rw [Int.toNat_natCast, hg] at h
  exact h
theorem implBigIntOf_quo (z g : Int) (w : World) (hz : 0 ≤ z) (h : In64 (z.tdiv g)) : Calls Tryz.prog 62 #[.int .i64 (z / g)] w fun e w' => ∃ p c', e = .returned (.agg #[.bool (bigOf (z.tdiv g)).neg, .slice p (bigOf (z.tdiv g)).mag.length c']) ∧
    OwnI w' w.heap.size w'.heap.size (.slice p (bigOf (z.tdiv g)).mag.length c') (bigOf (z.tdiv g)).mag ∧ Below w.heap.size w w' := by
  have h2 := implBigIntOf_any (z.tdiv g) w h
  rw [Int.tdiv_eq_ediv_of_nonneg hz] at h2 ⊢
  exact h2
section
variable (z d : Int) (w : World) (hz : -9223372036854775807 ≤ z) (hz2 : z ≤ 9223372036854775807) (hd : 0 < d) (hd2 : d ≤ 9223372036854775807)
set_option maxRecDepth 100000 in
set_option maxHeartbeats 4000000 in
include hz hz2 hd hd2 in
theorem ofInts_any : Calls Tryz.prog 34 #[.int .i64 z, .int .i64 d] w (RatRet w (mkRAz z d.toNat)) := by
  obtain ⟨k, hk⟩ : ∃ k : Nat, k = Nat.gcd z.natAbs d.toNat := ⟨_, rfl⟩
  obtain ⟨g, hg⟩ : ∃ g : Int, g = (k : Int) := ⟨_, rfl⟩
  have hL := ofInts_law (n := z) hd (by omega) hd2 hk
  have hk0 : 0 < k := by rw [hk]; exact Nat.gcd_pos_of_pos_right _ (by omega)
  have HG : Hid (((Nat.gcd z.natAbs d.toNat : Nat) : Int) = g) := by rw [hg, hk]; rfl
  have hq : In64 (z.tdiv k) := by
    have e1 : (z.tdiv k).natAbs = z.natAbs / k := by rw [Int.natAbs_tdiv]; rfl
    have := Nat.div_le_self z.natAbs k
    unfold In64; omega
  rw [← hg] at hL hq
  have hg0 : 1 ≤ g := by omega
  have HQ := Lib.hid hq
  have HL := Lib.hid hL
  have hr0 : 0 ≤ d / g := Int.ediv_nonneg (by omega) (by omega)
  have hr1 : d / g ≤ d := Int.ediv_le_self _ (by omega)
  have hgz : (g == 0) = false := beq_eq_false_iff_ne.2 (by omega)
  have hg2 : ¬ g = 0 := by omega
  have HU : Hid (IntKind.u64.wrap (IntKind.i64.wrap (d.tdiv g)) = d / g) := by rw [Hid, IntWalk.i64_quo _ _ ⟨by omega, by omega, hg0⟩, u64_wrap hr0 (by omega)]
  have HU1 := Lib.hid (u64_wrap hr0 (by omega))
  have HW1 : Hid (IntKind.i64.wrap (z.tdiv g) = z.tdiv g) := IntWalk.i64_quo' _ _ ⟨by omega, by omega, hg0⟩
  have hr2 : d / g ≤ 9223372036854775807 := by omega
  rw [hL]
  clear hL hq hg hk hk0
  go_enter Tryz.func34, Tryz.ntmps34
  go_wp2_with fail
  all_goals (refine (gcd_abs z _ d g _ (by omega) (by omega) (by omega) (by omega) hd2 HG.out).mono ?_; rintro e W1 ⟨rfl, b1⟩)
  all_goals (go_wp2_with fail)
  all_goals (have Rr := bx1_0 b1; have B := Lib.hid (bstep (ba1 _ _) b1); have s1 := b1.size; simp at s1)
  all_goals (go_region_held3 (fun _ => True) (trivial) (first | (go_at_call 62; (try rw [HW1.out]); (first | with_reducible refine (implBigIntOf_any (z.tdiv g) _ HQ.out).mono ?_ | with_reducible refine (implBigIntOf_quo z g _ (by omega) HQ.out).mono ?_); rintro e W2 ⟨p, c, rfl, hO, b2⟩; have s2 := b2.size; (try simp at s2)) | (go_at_call 63; (first | rw [HU.out] | rw [HU1.out] | skip); with_reducible refine (own_out (natOf_any (d / g) _ hr0 (by omega))).mono ?_; rintro e W3 ⟨p2, c2, rfl, hQ, b3⟩; have s3 := b3.size; have Rr3 := box_step (box_step (box_drew Rr) b2) b3; have Yr0 := Rr3.cell 0 rfl; have Yr1 := Rr3.cell 1 rfl; have Yr2 := Rr3.cell 2 rfl; have Fr0 := Rr3.frozen 0; have Fr1 := Rr3.frozen 1; have Fr2 := Rr3.frozen 2; have Lr := Rr3.lt)))
  all_goals (go_wp2; refine bodyPost_ret (v := .agg #[.bool (bigOf (z.tdiv g)).neg, .slice p (bigOf (z.tdiv g)).mag.length c, .slice p2 (digs (d / g).toNat).length c2]) (by simp [results, Tryz.results34, go_sem, Yr0, Yr1, Yr2, Lr]) rfl ⟨p, c, p2, c2, rfl, rat_endR (R := w.heap.size) (by omega) (by simp; omega) (Two.of (hO.below b3) hQ (Nat.le_refl _) (Nat.le_refl _) (Nat.le_refl _) (by simp; omega) b3.size) (Nat.le_refl _) (bstep (bstep B.out.drew b2) b3) _ _ _⟩)
end
end Go.Proofs.YtehhpkeabckdaaaGreatDoor
