/- Fractions: the program's small helpers. -/
import Derived.Deep.RegionHeld3
import Derived.IntWalk
import Derived.Test.YtjklefkkdaelnaaDoorRatRed
import Derived.Test.YtjklefkkdaelnaaDoorNatDiv
namespace Go.Proofs.YtjklefkkdaelnaaDoor
set_option linter.unusedVariables false
set_option linter.unusedSimpArgs false
open Go.RowKit
theorem drewN_below (w : World) (k n : Nat) : Below n w (w.drewN k) := below_drewN (Below.refl _ _) k
section
variable (n : Bool) (a : Option Addr) (ca : Nat) (b : Option Addr) (cb : Nat) (x d : Int) (w : World)
set_option maxHeartbeats 2000000 in
theorem small_nil (hb : IntsAt w b cb [d]) : Calls Tryd.prog 132 #[.agg #[.bool n, .slice a 0 ca, .slice b 1 cb]] w fun e w' => e = .returned (.tuple #[.int .i64 0, .int .i64 d]) ∧ Below w.heap.size w w' := by
  obtain ⟨b0, off, rfl, hc⟩ := (hb.below (ba1 w (.cells #[.bool n, .slice a 0 ca, .slice b 1 cb] 68))).get (k := 0) (by simp)
  simp only [List.getElem_singleton, Nat.add_zero] at hc
  clear hb
  cases n
  · go_enter Tryd.func132, Tryd.ntmps132
    go_wp2
    go_quiet (fail)
    go_wp2
    exact bodyPost_ret (v := .tuple #[.int .i64 0, .int .i64 d]) (by simp [results, Tryd.results132, go_sem]) rfl ⟨rfl, (ba1 _ _).trans (drewN_below _ _ _)⟩
  · go_enter Tryd.func132, Tryd.ntmps132
    go_wp2
    go_quiet (fail)
    go_wp2
    exact bodyPost_ret (v := .tuple #[.int .i64 0, .int .i64 d]) (by simp [results, Tryd.results132, go_sem]) rfl ⟨rfl, (ba1 _ _).trans (drewN_below _ _ _)⟩
set_option maxHeartbeats 2000000 in
theorem small_pos (ha : IntsAt w a ca [x]) (hb : IntsAt w b cb [d]) : Calls Tryd.prog 132 #[.agg #[.bool false, .slice a 1 ca, .slice b 1 cb]] w fun e w' => e = .returned (.tuple #[.int .i64 x, .int .i64 d]) ∧ Below w.heap.size w w' := by
  obtain ⟨a0, offa, rfl, hca⟩ := (ha.below (ba1 w (.cells #[.bool false, .slice a 1 ca, .slice b 1 cb] 68))).get (k := 0) (by simp)
  obtain ⟨b0, off, rfl, hc⟩ := (hb.below (ba1 w (.cells #[.bool false, .slice (some ⟨a0, offa, none⟩) 1 ca, .slice b 1 cb] 68))).get (k := 0) (by simp)
  simp only [List.getElem_singleton, Nat.add_zero] at hc hca
  clear ha hb
  go_enter Tryd.func132, Tryd.ntmps132
  go_wp2
  go_quiet (fail)
  go_wp2
  exact bodyPost_ret (v := .tuple #[.int .i64 x, .int .i64 d]) (by simp [results, Tryd.results132, go_sem]) rfl ⟨rfl, (ba1 _ _).trans (drewN_below _ _ _)⟩
set_option maxHeartbeats 2000000 in
theorem small_neg (ha : IntsAt w a ca [x]) (hb : IntsAt w b cb [d]) (hx : 0 ≤ x) (hx2 : x ≤ 999999999) : Calls Tryd.prog 132 #[.agg #[.bool true, .slice a 1 ca, .slice b 1 cb]] w fun e w' => e = .returned (.tuple #[.int .i64 (-x), .int .i64 d]) ∧ Below w.heap.size w w' := by
  obtain ⟨a0, offa, rfl, hca⟩ := (ha.below (ba1 w (.cells #[.bool true, .slice a 1 ca, .slice b 1 cb] 68))).get (k := 0) (by simp)
  obtain ⟨b0, off, rfl, hc⟩ := (hb.below (ba1 w (.cells #[.bool true, .slice (some ⟨a0, offa, none⟩) 1 ca, .slice b 1 cb] 68))).get (k := 0) (by simp)
  simp only [List.getElem_singleton, Nat.add_zero] at hc hca
  clear ha hb
  have HW : Hid (wrap64 (-x) = -x) := by unfold Hid wrap64; omega
  go_enter Tryd.func132, Tryd.ntmps132
  go_wp2
  go_quiet (fail)
  go_wp2
  exact bodyPost_ret (v := .tuple #[.int .i64 (-x), .int .i64 d]) (by simp [results, Tryd.results132, go_sem]) rfl ⟨rfl, (ba1 _ _).trans (drewN_below _ _ _)⟩
end
theorem small_any (n : Bool) (a : Option Addr) (ca : Nat) (xs : List Int) (b : Option Addr) (cb : Nat) (ds : List Int) (v e : Int) (w : World) (ha : IntsAt w a ca xs) (hb : IntsAt w b cb ds) (hs : smallB xs ds = true) (hx : Rng xs) (hd : Rng ds) (hv : toI n xs = v) (he : (val ds : Nat) = e) :
    Calls Tryd.prog 132 #[.agg #[.bool n, .slice a xs.length ca, .slice b ds.length cb]] w fun e' w' => e' = .returned (.tuple #[.int .i64 v, .int .i64 e]) ∧ Below w.heap.size w w' := by
  obtain ⟨h1, h2⟩ := small_parts hs
  obtain ⟨d, rfl⟩ := List.length_eq_one_iff.1 h2
  have hd0 := hd d (by simp)
  have hde : d = e := by rw [← he]; simp [val]; omega
  subst hde
  match xs, h1, ha, hx, hv with
  | [], _, _, _, hv =>
    have : v = 0 := by rw [← hv]; unfold toI; cases n <;> simp [val]
    rw [this]
    exact small_nil n a ca b cb d w hb
  | [x], _, ha, hx, hv =>
    have hx0 := hx x (by simp)
    cases n with
    | false =>
      have : v = x := by rw [← hv]; unfold toI; simp [val]; omega
      rw [this]
      exact small_pos a ca b cb x d w ha hb
    | true =>
      have : v = -x := by rw [← hv]; unfold toI; simp [val]; omega
      rw [this]
      exact small_neg a ca b cb x d w ha hb hx0.1 hx0.2
/-- the size of a small fraction's parts -/
theorem small_size {n : Bool} {xs ds : List Int} (h : ratOkB n xs ds = true) (hs : smallB xs ds = true) : -999999999 ≤ toI n xs ∧ toI n xs ≤ 999999999 ∧ 1 ≤ (val ds : Int) ∧ (val ds : Int) ≤ 999999999 := by
  obtain ⟨h1, h2⟩ := small_parts hs
  have a1 := val_le_one (ok_rng (bigOk_nat (ratOk_parts h).1)) h1
  have a2 := val_le_one (ok_rng (ratOk_parts h).2.1) (by omega)
  have a3 := ratOk_pos h
  have a4 := toI_natAbs n xs
  omega
theorem max_abs (v : Int) : max v (-v) = (v.natAbs : Int) := by omega
theorem gcd_abs (z x d g : Int) (w : World) (hx : x = (z.natAbs : Int)) (h0 : -9223372036854775807 ≤ z) (h1 : z ≤ 9223372036854775807) (hd : 0 < d) (hd2 : d ≤ 9223372036854775807) (hg : ((Nat.gcd z.natAbs d.toNat : Nat) : Int) = g) :
    Calls Tryd.prog 133 #[.int .i64 x, .int .i64 d] w fun e w' => e = .returned (.int .i64 g) ∧ Below w.heap.size w w' := by
  subst hx
  have h := gcd_any (z.natAbs : Int) d w (by omega) (by omega) (by omega) hd2
  rw [Int.toNat_natCast, hg] at h
  exact h
section
variable (z d : Int) (w : World) (hz : -9223372036854775807 ≤ z) (hz2 : z ≤ 9223372036854775807) (hd : 0 < d) (hd2 : d ≤ 9223372036854775807)
set_option maxRecDepth 100000 in
set_option maxHeartbeats 4000000 in
include hz hz2 hd hd2 in
end
end Go.Proofs.YtjklefkkdaelnaaDoor
