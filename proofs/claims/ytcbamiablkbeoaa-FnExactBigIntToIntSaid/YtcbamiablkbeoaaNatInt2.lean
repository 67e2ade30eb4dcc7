/- NatToInt of the program: a range over slices.Backward. -/
import Derived.RangeFuncNested
import Derived.RangeFuncBound
import Derived.RangeFuncCalls
import Derived.RangeFuncLeaves
import Derived.RangeFuncBox
import Derived.Shelf.Abstract
import Derived.Shelf.RegionOpen
import Derived.OwnWalkIn
import Derived.TacticsInMore
import Derived.LoopNIn
import Derived.LoopIn
import Derived.Test.YtcbamiablkbeoaaNatInt
import Derived.Test.YtcbamiablkbeoaaBoxes
namespace Go.Proofs.Ytcbamiablkbeoaa
set_option linter.unusedVariables false
set_option linter.unusedSimpArgs false
open Go.RowKit Go.Shelf
attribute [local go_sem] Oper.semAt_some

/-- what a round keeps: what lay there, and the iterator's own box -/
def KB (n₀ Bs : Nat) (W W' : World) : Prop := Below n₀ W W' ∧ W'.cell? ⟨Bs, 0, none⟩ = W.cell? ⟨Bs, 0, none⟩
theorem KB.trans {n₀ Bs : Nat} {A B C : World} (h : KB n₀ Bs A B) (k : KB n₀ Bs B C) : KB n₀ Bs A C := ⟨h.1.trans k.1, k.2.trans h.2⟩
theorem KB.refl {n₀ Bs : Nat} (A : World) : KB n₀ Bs A A := ⟨Below.refl _ _, rfl⟩
theorem cell_beside {W : World} {B R k : Nat} {u : Value} (h : B ≠ R) : (W.setCell ⟨R, k, none⟩ u).cell? ⟨B, 0, none⟩ = W.cell? ⟨B, 0, none⟩ := World.cell?_of_block (w := W) (Below.heap_setCell _ _ _ _ (by simpa using h))

/-- a digit -/
abbrev Dig := { v : Int // 0 ≤ v ∧ v ≤ 999999999 }
/-- what has come when the places from k on are over, the last first -/
def bwd (zs : List Dig) (k : Nat) : List (Nat × Dig) := ((zs.zipIdx.drop k).map fun p => (p.2, p.1)).reverse
theorem bwd_all (zs : List Dig) : bwd zs zs.length = [] := by unfold bwd; rw [List.drop_of_length_le (by simp)]; rfl
theorem bwd_succ (zs : List Dig) {k : Nat} (h : k < zs.length) : bwd zs k = bwd zs (k + 1) ++ [(k, zs[k])] := by
  unfold bwd
  rw [List.drop_eq_getElem_cons (by simpa using h)]
  simp
theorem bwd_length (zs : List Dig) (k : Nat) : (bwd zs k).length = zs.length - k := by simp [bwd]

/-- the value of what has come -/
def vp (l : List (Nat × Dig)) : Nat := l.foldl (fun n x => n * 1000000000 + x.2.1.toNat) 0
theorem vp_snoc (l : List (Nat × Dig)) (x : Nat × Dig) : vp (l ++ [x]) = vp l * 1000000000 + x.2.1.toNat := by simp [vp]
theorem vp_bwd (zs : List Dig) : ∀ (j k : Nat), zs.length - k = j → k ≤ zs.length → vp (bwd zs k) = val ((zs.map (·.1)).drop k) := by
  intro j
  induction j with
  | zero => intro k h1 h2; obtain rfl : k = zs.length := by omega
            rw [bwd_all, List.drop_of_length_le (by simp)]; rfl
  | succ j ih =>
    intro k h1 h2
    rw [bwd_succ zs (by omega), vp_snoc, ih (k + 1) (by omega) (by omega), val_drop (xs := zs.map (·.1)) (k := k) (by simp; omega)]
    simp
    omega
theorem digs_of_rng {xs : List Int} (h : Rng xs) : ∃ zs : List Dig, zs.map (·.1) = xs := by
  refine ⟨xs.attach.map fun ⟨x, hx⟩ => ⟨x, h x hx⟩, ?_⟩
  simp

set_option maxRecDepth 100000 in
set_option maxHeartbeats 2000000 in
theorem backward1_in (F : Fence) (n : Nat) (h8 : F.fn 87) (hro : F.round = none) (hn : 1 ≤ n) (l Bs n₀ b off cap : Nat) (zs : List Dig) (hlen : zs.length ≤ 1048576) (hb : b < n₀) (J Jx : List (Nat × Dig) → World → Prop)
    (hY : ∀ pre x W, J pre W → pre.length < zs.length → YieldAt F (n - 1) Try.prog l #[.int .i64 (x.1 : Int), .int .i64 x.2.1] W fun e W' =>
      (e = .returned (.bool true) ∧ J (pre ++ [x]) W' ∧ KB n₀ Bs W W') ∨ (e = .returned (.bool false) ∧ Jx (pre ++ [x]) W'))
    (W : World) (hBs : W.cell? ⟨Bs, 0, none⟩ = some (.slice (some ⟨b, off, none⟩) zs.length cap)) (hc : ∀ j (h : j < zs.length), W.cell? ⟨b, off + j, none⟩ = some (.int .i64 zs[j].1)) (h0 : J [] W) :
    CallsIn F n Try.prog 87 #[.func (.yield l) #[] #[], .pointer (some ⟨Bs, 0, none⟩)] W fun e W' => (∃ v, e = .returned v) ∧
      ((∃ ys, ys = bwd zs 0 ∧ J ys W') ∨ (∃ pre, (∃ k, k ≤ zs.length ∧ pre = bwd zs k) ∧ Jx pre W')) := by
  refine callsIn_of_wp Try.func87 rfl h8 ?_ hro
  simp only [Try.ntmps87, List.size_toArray, List.length_cons, List.length_nil, Nat.reduceAdd, Nat.reduceSub, Array.replicate_succ, Array.replicate_zero, List.push_toArray, List.append_toArray, List.nil_append, List.cons_append]
  gi_wp2
  gi_loopw [3] (fun i wr => ∃ k : Nat, k ≤ zs.length ∧ i = .int .i64 ((k : Int) - 1) ∧ J (bwd zs k) wr ∧ KB n₀ Bs W wr)
    (fun i _ => (intOf i + 1).toNat)
  case atStart => exact ⟨zs.length, Nat.le_refl _, rfl, by rw [bwd_all]; exact h0, KB.refl _⟩
  case round =>
    obtain ⟨k, hk, rfl, hJs, hnx⟩ := hrel
    cases k with
    | zero =>
      gi_wp2
      go_end0
      exact ⟨⟨_, rfl⟩, .inl ⟨_, rfl, hJs⟩⟩
    | succ k =>
      have hlt : k < zs.length := by omega
      have hcx := (hnx.1.cell (p := ⟨b, off + k, none⟩) hb).trans (hc k hlt)
      have hBx := hnx.2.trans hBs
      have ek : ((k + 1 : Nat) : Int) - 1 = (k : Int) := by omega
      rw [ek]
      clear ek
      obtain ⟨fn, tmps, assign, body, hy, hR⟩ := hY _ (k, zs[k]) wr hJs (by rw [bwd_length]; omega)
      dsimp only at hy
      gi_wp2
      refine hR.mono ?_
      rintro e W3 (⟨rfl, hJ3, hk3⟩ | ⟨rfl, hJx3⟩)
      · gi_wp2
        go_roundw
        case rel => exact ⟨k, by omega, rfl, by rw [bwd_succ zs hlt]; exact hJ3, hnx.trans hk3⟩
        case measure => simp [intOf] <;> omega
      · gi_wp2
        refine bodyPost_ret (results_none rfl _ _ _) rfl ?_
        exact ⟨⟨_, rfl⟩, .inr ⟨_, ⟨k, by omega, (bwd_succ zs hlt).symm⟩, hJx3⟩⟩

set_option maxRecDepth 100000 in
set_option maxHeartbeats 1000000 in
theorem backward1_nil_in (F : Fence) (n : Nat) (h8 : F.fn 87) (hro : F.round = none) (l Bs : Nat) (c : Nat) (a : Option Addr) (J : List (Nat × Dig) → World → Prop) (W : World) (hBs : W.cell? ⟨Bs, 0, none⟩ = some (.slice a 0 c)) (h0 : J [] W) :
    CallsIn F n Try.prog 87 #[.func (.yield l) #[] #[], .pointer (some ⟨Bs, 0, none⟩)] W fun e W' => (∃ v, e = .returned v) ∧ J [] W' := by
  refine callsIn_of_wp Try.func87 rfl h8 ?_ hro
  simp only [Try.ntmps87, List.size_toArray, List.length_cons, List.length_nil, Nat.reduceAdd, Nat.reduceSub, Array.replicate_succ, Array.replicate_zero, List.push_toArray, List.append_toArray, List.nil_append, List.cons_append]
  gi_wp2
  gi_loopw [3] (fun i wr => i = .int .i64 (-1) ∧ J [] wr) (fun _ _ => 0)
  case atStart => exact ⟨rfl, h0⟩
  case round =>
    obtain ⟨rfl, hJs⟩ := hrel
    gi_wp2
    go_end0
    exact ⟨⟨_, rfl⟩, hJs⟩

set_option maxHeartbeats 1000000 in
theorem backward_in (F : Fence) (n : Nat) (h6 : F.fn 59) (hro : F.round = none) (a : Option Addr) (len cap : Nat) (w : World) :
    CallsIn F n Try.prog 59 #[.slice a len cap] w fun e w' => e = .returned (.func (.func 87) #[] #[.pointer (some ⟨w.heap.size, 0, none⟩)]) ∧ w' = w.alloc (.cells #[.slice a len cap] 27) := by
  refine callsIn_of_wp Try.func59 rfl h6 ?_ hro
  simp only [Try.ntmps59, List.size_toArray, List.length_cons, List.length_nil, Nat.reduceAdd, Nat.reduceSub, Array.replicate_succ, Array.replicate_zero, List.push_toArray, List.append_toArray, List.nil_append, List.cons_append]
  gi_wp2
  go_ret
  exact ⟨rfl, rfl⟩

theorem backward_stops (F : Fence) (n : Nat) (h8 : F.fn 87) (hro : F.round = none) (hn : 1 ≤ n) (Bs n₀ : Nat) (a : Option Addr) (cap : Nat) (zs : List Dig) (hlen : zs.length ≤ 1048576) (w : World) (hBs : Bs < w.heap.size) (hn₀ : n₀ ≤ w.heap.size)
    (hc : w.cell? ⟨Bs, 0, none⟩ = some (.slice a zs.length cap)) (hI : zs = [] ∨ ∃ b off, a = some ⟨b, off, none⟩ ∧ b < n₀ ∧ ∀ j (h : j < zs.length), w.cell? ⟨b, off + j, none⟩ = some (.int .i64 zs[j].1)) :
    SeqStopsK F n Try.prog 87 #[.pointer (some ⟨Bs, 0, none⟩)] (fun x : Nat × Dig => #[Value.int .i64 (x.1 : Int), Value.int .i64 x.2.1]) (KB n₀ Bs) (fun ys => ys = bwd zs 0)
      (fun pre => ∃ k, k ≤ zs.length ∧ pre = bwd zs k) zs.length w := fun l J Jx W hW _ _ hY h0 => by
  have hc' := (hW.cell (p := ⟨Bs, 0, none⟩) (show Bs < _ by omega)).trans hc
  rcases hI with rfl | ⟨b, off, rfl, hb, hcs⟩
  · exact (backward1_nil_in F n h8 hro l Bs cap a J W hc' h0).mono fun e W' ⟨he, hj⟩ => ⟨he, .inl ⟨_, by rw [show bwd [] 0 = [] by rfl], hj⟩⟩
  · exact backward1_in F n h8 hro hn l Bs n₀ b off cap zs hlen hb J Jx hY W hc' (fun j h => (hW.cell (p := ⟨b, off + j, none⟩) (show b < _ by omega)).trans (hcs j h)) h0

section
variable (a : Option Addr) (ca : Nat) (xs : List Int) (w : World) (ha : IntsAt w a ca xs) (hl : xs.length ≤ 1048576)
include ha hl
set_option maxRecDepth 100000 in
set_option maxHeartbeats 8000000 in
theorem natToInt_in (hok : natOkB xs = true) :
    CallsIn Fence.wide 7 Try.prog 21 #[.slice a xs.length ca] w fun e w' => e = .returned (.tuple #[.int .i64 (natToI xs), .bool (natToB xs)]) ∧ Below w.heap.size w w' := by
  obtain ⟨zs, hz⟩ := digs_of_rng (ok_rng hok)
  have hzl : zs.length = xs.length := by rw [← hz]; simp
  have hNok : ∀ W : World, IntsAt W a ca xs → CallsIn Fence.wide (7 - 1) Try.prog 58 #[.slice a xs.length ca] W fun e w' => e = .returned (.bool true) ∧ W = w' := fun W hW => callsIn_wide.2 ((implNatOk_q _ _ _ _ hW hl).mono fun _ _ ⟨h1, h2⟩ => ⟨by rw [h1, hok], h2⟩)
  have hcells : zs = [] ∨ ∃ b off, a = some ⟨b, off, none⟩ ∧ b < w.heap.size ∧ ∀ j (h : j < zs.length), w.cell? ⟨b, off + j, none⟩ = some (.int .i64 zs[j].1) := by
    rcases ha.at_ with h | ⟨b, off, h1, h2, h3⟩
    · left; rw [h] at hzl; exact List.eq_nil_of_length_eq_zero (by simpa using hzl)
    · refine .inr ⟨b, off, h1, h2, fun j h => ?_⟩
      rw [h3 j (by omega)]
      have : xs[j]'(by omega) = zs[j].1 := by simp only [← hz, List.getElem_map]
      simp [this, show j < xs.length by omega]
  have HA := Lib.hid ha
  have HZ := Lib.hid hz
  have HC := Lib.hid hcells
  have HZL := Lib.hid hzl
  have HOK := Lib.hid hok
  have HN := Lib.hid hNok
  clear ha hz hcells hok hNok
  refine callsIn_of_wp_marks Try.func21 rfl trivial ?_ rfl
  simp only [Try.ntmps21, List.size_toArray, List.length_cons, List.length_nil, Nat.reduceAdd, Nat.reduceSub, Array.replicate_succ, Array.replicate_zero, List.push_toArray, List.append_toArray, List.nil_append, List.cons_append]
  clear hzl
  gi_wp2_with (first | (refine ⟨trivial, ?_⟩; gi_at_call 58; refine (HN.out _ (HA.out.below (by first | exact Below.refl _ _ | exact ba1 _ _ | exact ba2 _ _ _ | exact ba3 _ _ _ _))).mono ?_; rintro e w' ⟨rfl, rfl⟩) | (refine ⟨trivial, ?_⟩; gi_at_call 59; refine (backward_in Fence.wide (7 - 1) trivial rfl _ _ _ _).mono ?_; rintro e w' ⟨rfl, rfl⟩))
  obtain ⟨A, hA⟩ : ∃ A, A = ((((w.alloc (.cells #[.int .i64 0] 3)).alloc (.cells #[.bool false] 4)).alloc (.cells #[.int .i64 0] 3)).alloc (.cells #[.slice a xs.length ca] 27)) := ⟨_, rfl⟩
  have hAs : A.heap.size = w.heap.size + 4 := by rw [hA]; simp
  have hB0 : Below w.heap.size w A := by rw [hA]; exact ba4 _ _ _ _ _
  have R0 : Box A w.heap.size #[.int .i64 0] := by rw [hA]; exact bx4_0 (Below.refl _ _)
  have R1 : Box A (w.heap.size + 1) #[.bool false] := by rw [hA]; exact bx4_1 (Below.refl _ _)
  have R2 : Box A (w.heap.size + 2) #[.int .i64 0] := by rw [hA]; exact bx4_2 (Below.refl _ _)
  have R3 : Box A (w.heap.size + 3) #[.slice a xs.length ca] := by rw [hA]; exact bx4_3 (Below.refl _ _)
  have c0 : A.cell? ⟨w.heap.size, 0, none⟩ = some (.int .i64 0) := R0.cell 0 rfl
  have c1 : A.cell? ⟨w.heap.size + 1, 0, none⟩ = some (.bool false) := R1.cell 0 rfl
  have c2 : A.cell? ⟨w.heap.size + 2, 0, none⟩ = some (.int .i64 0) := R2.cell 0 rfl
  have c3 : A.cell? ⟨w.heap.size + 3, 0, none⟩ = some (.slice a zs.length ca) := by rw [HZL.out]; exact R3.cell 0 rfl
  have HAS := Lib.hid hAs
  rw [← hA]
  clear hA
  refine wpIn_rangeFunc_ownG (n := 7) rfl (by omega) (gf := 87) (lb := #[.pointer (some ⟨w.heap.size + 3, 0, none⟩)]) rfl trivial (enters_of Try.func87 (by kernel_rfl) rfl)
    (backward_stops Fence.wide (7 - 1) trivial rfl (by omega) (w.heap.size + 3) w.heap.size a ca zs (by rw [HZL.out]; exact hl) A (by rw [HAS.out]; omega) (by rw [HAS.out]; omega) c3 (HC.out.imp id fun ⟨b, off, h1, h2, h3⟩ => ⟨b, off, h1, h2, fun j h => (hB0.cell (p := ⟨b, off + j, none⟩) h2).trans (h3 j h)⟩))
    (fun h k => KB.trans h k)
    (fun W l o o' hl' h1 h2 h3 => ⟨belowK_b (n₀ := w.heap.size) (w := A) (by rw [HAS.out]; omega) W l o o' hl' h1 h2 h3, (belowK_b (n₀ := A.heap.size) (w := A) (Nat.le_refl _) W l o o' hl' h1 h2 h3).cell (p := ⟨w.heap.size + 3, 0, none⟩) (by show w.heap.size + 3 < _; rw [HAS.out]; omega)⟩)
    (Below.refl _ _) (fun _ => rfl)
    (fun pre W => (vp pre ≤ 9223372036854775807 ∧ (W.cell? ⟨w.heap.size + 2, 0, none⟩ = some (.int .i64 ((vp pre : Nat) : Int)) ∧ W.frozen? ⟨w.heap.size + 2, 0, none⟩ = false) ∧ (W.cell? ⟨w.heap.size, 0, none⟩ = some (.int .i64 0) ∧ W.frozen? ⟨w.heap.size, 0, none⟩ = false) ∧ (W.cell? ⟨w.heap.size + 1, 0, none⟩ = some (.bool false) ∧ W.frozen? ⟨w.heap.size + 1, 0, none⟩ = false)) ∧ Below w.heap.size w W)
    (fun c pre W => (c = .ret ∧ 9223372036854775807 < vp pre ∧ W.cell? ⟨w.heap.size, 0, none⟩ = some (.int .i64 0) ∧ W.cell? ⟨w.heap.size + 1, 0, none⟩ = some (.bool false)) ∧ Below w.heap.size w W)
    (OwnFrom.and (Own.from (fun s A B row hs hg hr => ⟨hs.1, ⟨cell_kept hs.2.1.1 hg hr, (frozen_kept hs.2.1.1 hg hr).trans hs.2.1.2⟩, ⟨cell_kept hs.2.2.1.1 hg hr, (frozen_kept hs.2.2.1.1 hg hr).trans hs.2.2.1.2⟩, ⟨cell_kept hs.2.2.2.1 hg hr, (frozen_kept hs.2.2.2.1 hg hr).trans hs.2.2.2.2⟩⟩) _) (ownFrom_below (Nat.le_refl _) (by rw [HAS.out]; omega)))
    (fun c => OwnFrom.and (Own.from (fun s A B row hs hg hr => ⟨hs.1, hs.2.1, cell_kept hs.2.2.1 hg hr, cell_kept hs.2.2.2 hg hr⟩) _) (ownFrom_below (Nat.le_refl _) (by rw [HAS.out]; omega)))
    ⟨⟨by simp [vp], ⟨by simpa [vp] using c2, R2.frozen 0⟩, ⟨c0, R0.frozen 0⟩, ⟨c1, R1.frozen 0⟩⟩, hB0⟩
    (fun x => { tmps := #[.slice a xs.length ca, undef, .pointer (some ⟨w.heap.size, 0, none⟩), .pointer (some ⟨w.heap.size + 1, 0, none⟩), .pointer (some ⟨w.heap.size + 1 + 1, 0, none⟩), undef, .int .i64 x.2.1, .slice a xs.length ca, .bool true, .bool false, .slice a xs.length ca, .func (.func 87) #[] #[.pointer (some ⟨w.heap.size + 1 + 1 + 1, 0, none⟩)], .int .i64 (x.1 : Int), .int .i64 x.2.1, undef, undef, undef, undef, undef, undef, undef, undef, undef, undef], defers := [] }) ?assign ?body ?done ?stop
  case assign =>
    intro l x W K hK
    gi_wp2
    exact hK
  case body =>
    rintro l pre x W ⟨⟨hv, ⟨hc2, hf2⟩, ⟨hc0, hf0⟩, ⟨hc1, hf1⟩⟩, hB⟩ _
    have hx0 := x.2.2.1
    have hx1 := x.2.2.2
    have HVS := Lib.hid (vp_snoc pre x)
    obtain ⟨q, hq⟩ : ∃ q : Int, q = ((vp pre : Nat) : Int) := ⟨_, rfl⟩
    have hq0 : 0 ≤ q := by omega
    have hq1 : q ≤ 9223372036854775807 := by omega
    rw [← hq] at hc2
    have HQ := Lib.hid hq
    by_cases hov : (9223372036854775807 - x.2.1) / 1000000000 < q
    · have hov2 : 9223372036854775807 < vp pre * 1000000000 + x.2.1.toNat := by omega
      have HOV := Lib.hid hov2
      clear hq hv hov2
      gi_wp2
      exact ⟨((KeepsOthers.setCell _ _ _).trans (KeepsOthers.setCell _ _ _)).from _, ⟨rfl, by rw [HVS.out]; exact HOV.out, (cell_beside (by omega)).trans (World.cell?_setCell_same' _ _ _ (by rw [hc0]; rfl)), World.cell?_setCell_same' _ _ _ (by rw [cell_beside (by omega), hc1]; rfl)⟩, (hB.setCell (p := ⟨w.heap.size, 0, none⟩) (Nat.le_refl _) _).setCell (p := ⟨w.heap.size + 1, 0, none⟩) (by simp) _⟩
    · have hov2 : vp pre * 1000000000 + x.2.1.toNat ≤ 9223372036854775807 := by omega
      have hov3 : q * 1000000000 + x.2.1 ≤ 9223372036854775807 := by omega
      have HOV := Lib.hid hov2
      have hq5 : q * 1000000000 + x.2.1 = ((vp pre * 1000000000 + x.2.1.toNat : Nat) : Int) := by omega
      have HQ5 := Lib.hid hq5
      clear hq hv hov2 hq5
      gi_wp2
      exact ⟨(KeepsOthers.setCell _ _ _).from _, ⟨(Below.refl w.heap.size W).setCell (p := ⟨w.heap.size + 2, 0, none⟩) (by simp) _, cell_beside (by omega)⟩, ⟨by rw [HVS.out]; exact HOV.out, ⟨by rw [HVS.out, ← HQ5.out]; exact World.cell?_setCell_same' _ _ _ (by rw [hc2]; rfl), by rw [World.frozen?_setCell]; exact hf2⟩, ⟨(cell_beside (by omega)).trans hc0, by rw [World.frozen?_setCell]; exact hf0⟩, ⟨(cell_beside (by omega)).trans hc1, by rw [World.frozen?_setCell]; exact hf1⟩⟩, hB.setCell (p := ⟨w.heap.size + 2, 0, none⟩) (by simp) _⟩
  case done =>
    rintro D ys W hD rfl ⟨⟨hv, ⟨hc2, hf2⟩, ⟨hc0, hf0⟩, ⟨hc1, hf1⟩⟩, hB⟩ hK
    have hvv : vp (bwd zs 0) = val xs := by rw [vp_bwd zs _ 0 rfl (Nat.zero_le _), HZ.out, List.drop_zero]
    have HT : Hid (natToB xs = true ∧ natToI xs = ((val xs : Nat) : Int)) := natTo_yes HOK.out (by omega)
    rw [hvv] at hc2
    obtain ⟨q, hq⟩ : ∃ q : Int, q = ((val xs : Nat) : Int) := ⟨_, rfl⟩
    rw [← hq] at hc2
    have HQ := Lib.hid hq
    clear hvv hq hv
    gi_wp2
    have hK' := ((KeepsOthers.setCell W ⟨w.heap.size, 0, none⟩ (.int .i64 q)).trans (KeepsOthers.setCell _ ⟨w.heap.size + 1, 0, none⟩ (.bool true))).same D _ hK rfl
    refine ⟨by simp, .inl ⟨_, _, rfl, run_takeDeferred hK', ?_⟩⟩
    have hc5 := cell_kept ((cell_beside (R := w.heap.size + 1) (k := 0) (u := .bool true) (by omega)).trans (World.cell?_setCell_same' W ⟨w.heap.size, 0, none⟩ (.int .i64 q) (by rw [hc0]; rfl))) (grownBy_putObj' _ D (.deferred none)) (fun r e => by cases e; exact ⟨_, hK', rfl⟩)
    have hc6 := cell_kept (World.cell?_setCell_same' (W.setCell ⟨w.heap.size, 0, none⟩ (.int .i64 q)) ⟨w.heap.size + 1, 0, none⟩ (.bool true) (by rw [cell_beside (by omega), hc1]; rfl)) (grownBy_putObj' _ D (.deferred none)) (fun r e => by cases e; exact ⟨_, hK', rfl⟩)
    refine ⟨.tuple #[.int .i64 q, .bool true], ?_, by rw [HT.out.1, HT.out.2, HQ.out], ((hB.setCell (p := ⟨w.heap.size, 0, none⟩) (Nat.le_refl _) _).setCell (p := ⟨w.heap.size + 1, 0, none⟩) (by simp) _).trans (belowK_b (n₀ := w.heap.size) (w := A) (by rw [HAS.out]; omega) _ D _ _ hD hK' rfl rfl)⟩
    simp [results, Try.results21, go_sem, hc5, hc6]
  case stop =>
    rintro D c pre W hD ⟨k, hk, rfl⟩ ⟨⟨rfl, hv, hc0, hc1⟩, hB⟩ hK
    have hvv : vp (bwd zs k) ≤ val xs := by rw [vp_bwd zs _ k rfl hk, HZ.out]; exact val_drop_le _ _
    have HT : Hid (natToB xs = false ∧ natToI xs = 0) := natTo_no2 (by omega)
    clear hvv hv
    gi_wp2
    refine ⟨by simp, .inl ⟨_, _, rfl, run_takeDeferred hK, ?_⟩⟩
    have hc5 := cell_kept hc0 (grownBy_putObj' _ D (.deferred none)) (fun r e => by cases e; exact ⟨_, hK, rfl⟩)
    have hc6 := cell_kept hc1 (grownBy_putObj' _ D (.deferred none)) (fun r e => by cases e; exact ⟨_, hK, rfl⟩)
    refine ⟨.tuple #[.int .i64 0, .bool false], ?_, by rw [HT.out.1, HT.out.2], hB.trans (belowK_b (n₀ := w.heap.size) (w := A) (by rw [HAS.out]; omega) _ D _ _ hD hK rfl rfl)⟩
    simp [results, Try.results21, go_sem, hc5, hc6]

set_option maxHeartbeats 2000000 in
theorem implNatToInt_any : Calls Try.prog 21 #[.slice a xs.length ca] w fun e w' => e = .returned (.tuple #[.int .i64 (natToI xs), .bool (natToB xs)]) ∧ Below w.heap.size w w' := by
  by_cases h1 : natOkB xs = true
  · exact (callsIn_wide (n := 7)).1 (natToInt_in a ca xs w ha hl h1)
  · have h1' := Bool.eq_false_iff.2 h1
    rw [(natTo_no1 h1').1, (natTo_no1 h1').2]
    have HA := Lib.hid ha
    clear ha
    go_enter Try.func21, Try.ntmps21
    go_wp2_with fail
    refine (implNatOk_q _ _ _ _ (HA.out.below (ba2 _ _ _)) hl).mono ?_
    rintro e w' ⟨rfl, rfl⟩
    go_wp2
    exact bodyPost_ret (v := .tuple #[.int .i64 0, .bool false]) (by simp [results, Try.results21, go_sem]) rfl ⟨rfl, by first | exact ba2 _ _ _ | exact below_put (below_put (ba2 _ _ _) (by omega)) (by omega)⟩
end
end Go.Proofs.Ytcbamiablkbeoaa
