/- NatToInt of the program: a range over slices.Backward. -/
import Derived.RangeFuncNested
import Derived.RangeFuncBound
import Derived.RangeFuncCalls
import Derived.RangeFuncLeaves
import Derived.RangeFuncBox
import Derived.Shelf.Abstract
import Derived.Shelf.RegionOpen
import Derived.OwnWalkIn
import Derived.TacticsInMore
import Derived.LoopNIn
import Derived.LoopIn
import Derived.Test.YtehhpkeabckdaaaGreatDoorNatInt
import Derived.Test.YtehhpkeabckdaaaGreatDoorK2
namespace Go.Proofs.YtehhpkeabckdaaaGreatDoor
set_option linter.unusedVariables false
set_option linter.unusedSimpArgs false
open Go.RowKit Go.Shelf
attribute [local go_sem] Oper.semAt_some

/-- what a round keeps: what lay there, and the iterator's own box -/
def KB (n₀ Bs : Nat) (W W' : World) : Prop := Below n₀ W W' ∧ W'.cell? ⟨Bs, 0, none⟩ = W.cell? ⟨Bs, 0, none⟩
theorem KB.trans {n₀ Bs : Nat} {A B C : World} (h : KB n₀ Bs A B) (k : KB n₀ Bs B C) : KB n₀ Bs A C := ⟨h.1.trans k.1, k.2.trans h.2⟩
theorem KB.refl {n₀ Bs : Nat} (A : World) : KB n₀ Bs A A := ⟨Below.refl _ _, rfl⟩
theorem cell_beside {W : World} {B R k : Nat} {u : Value} (h : B ≠ R) : (W.setCell ⟨R, k, none⟩ u).cell? ⟨B, 0, none⟩ = W.cell? ⟨B, 0, none⟩ := World.cell?_of_block (w := W) (Below.heap_setCell _ _ _ _ (by simpa using h))

/-- a digit -/
abbrev Dig := { v : Int // 0 ≤ v ∧ v ≤ 999999999 }
/-- what has come when the places from k on are over, the last first -/
def bwd (zs : List Dig) (k : Nat) : List (Nat × Dig) := ((zs.zipIdx.drop k).map fun p => (p.2, p.1)).reverse
theorem bwd_all (zs : List Dig) : bwd zs zs.length = [] := by unfold bwd; rw [List.drop_of_length_le (by simp)]; rfl
theorem bwd_succ (zs : List Dig) {k : Nat} (h : k < zs.length) : bwd zs k = bwd zs (k + 1) ++ [(k, zs[k])] := by
  unfold bwd
  rw [List.drop_eq_getElem_cons (by simpa using h)]
  simp
theorem bwd_length (zs : List Dig) (k : Nat) : (bwd zs k).length = zs.length - k := by simp [bwd]

/-- the value of what has come -/
def vp (l : List (Nat × Dig)) : Nat := l.foldl (fun n x => n * 1000000000 + x.2.1.toNat) 0
theorem vp_snoc (l : List (Nat × Dig)) (x : Nat × Dig) : vp (l ++ [x]) = vp l * 1000000000 + x.2.1.toNat := by simp [vp]
theorem vp_bwd (zs : List Dig) : ∀ (j k : Nat), zs.length - k = j → k ≤ zs.length → vp (bwd zs k) = val ((zs.map (·.1)).drop k) := by
  intro j
  induction j with
  | zero => intro k h1 h2; obtain rfl : k = zs.length := by omega
            rw [bwd_all, List.drop_of_length_le (by simp)]; rfl
  | succ j ih =>
    intro k h1 h2
    rw [bwd_succ zs (by omega), vp_snoc, ih (k + 1) (by omega) (by omega), val_drop (xs := zs.map (·.1)) (k := k) (by simp; omega)]
    simp
    omega
theorem digs_of_rng {xs : List Int} (h : Rng xs) : ∃ zs : List Dig, zs.map (·.1) = xs := by
  refine ⟨xs.attach.map fun ⟨x, hx⟩ => ⟨x, h x hx⟩, ?_⟩
  simp

set_option maxRecDepth 100000 in
set_option maxHeartbeats 2000000 in
theorem backward1_in (F : Fence) (n : Nat) (h8 : F.fn 74) (hro : F.round = none) (hn : 1 ≤ n) (l Bs n₀ b off cap : Nat) (zs : List Dig) (hlen : zs.length ≤ 1048576) (hb : b < n₀) (J Jx : List (Nat × Dig) → World → Prop)
    (hY : ∀ pre x W, J pre W → pre.length < zs.length → YieldAt F (n - 1) Tryz.prog l #[.int .i64 (x.1 : Int), .int .i64 x.2.1] W fun e W' =>
      (e = .returned (.bool true) ∧ J (pre ++ [x]) W' ∧ KB n₀ Bs W W') ∨ (e = .returned (.bool false) ∧ Jx (pre ++ [x]) W'))
    (W : World) (hBs : W.cell? ⟨Bs, 0, none⟩ = some (.slice (some ⟨b, off, none⟩) zs.length cap)) (hc : ∀ j (h : j < zs.length), W.cell? ⟨b, off + j, none⟩ = some (.int .i64 zs[j].1)) (h0 : J [] W) :
    CallsIn F n Tryz.prog 74 #[.func (.yield l) #[] #[], .pointer (some ⟨Bs, 0, none⟩)] W fun e W' => (∃ v, e = .returned v) ∧
      ((∃ ys, ys = bwd zs 0 ∧ J ys W') ∨ (∃ pre, (∃ k, k ≤ zs.length ∧ pre = bwd zs k) ∧ Jx pre W')) := by
  refine callsIn_of_wp Tryz.func74 rfl h8 ?_ hro
  simp only [Tryz.ntmps74, List.size_toArray, List.length_cons, List.length_nil, Nat.reduceAdd, Nat.reduceSub, Array.replicate_succ, Array.replicate_zero, List.push_toArray, List.append_toArray, List.nil_append, List.cons_append]
  gi_wp2
  gi_loopw [3] (fun i wr => ∃ k : Nat, k ≤ zs.length ∧ i = .int .i64 ((k : Int) - 1) ∧ J (bwd zs k) wr ∧ KB n₀ Bs W wr)
    (fun i _ => (intOf i + 1).toNat)
  case atStart => exact ⟨zs.length, Nat.le_refl _, rfl, by rw [bwd_all]; exact h0, KB.refl _⟩
  case round =>
    obtain ⟨k, hk, rfl, hJs, hnx⟩ := hrel
    cases k with
    | zero =>
      gi_wp2
      go_end0
      exact ⟨⟨_, rfl⟩, .inl ⟨_, rfl, hJs⟩⟩
    | succ k =>
      have hlt : k < zs.length := by omega
      have hcx := (hnx.1.cell (p := ⟨b, off + k, none⟩) hb).trans (hc k hlt)
      have hBx := hnx.2.trans hBs
      have ek : ((k + 1 : Nat) : Int) - 1 = (k : Int) := by omega
      rw [ek]
      clear ek
      obtain ⟨fn, tmps, assign, body, hy, hR⟩ := hY _ (k, zs[k]) wr hJs (by rw [bwd_length]; omega)
      dsimp only at hy
      gi_wp2
      refine hR.mono ?_
      rintro e W3 (⟨rfl, hJ3, hk3⟩ | ⟨rfl, hJx3⟩)
      · gi_wp2
        go_roundw
        case rel => exact ⟨k, by omega, rfl, by rw [bwd_succ zs hlt]; exact hJ3, hnx.trans hk3⟩
        case measure => simp [intOf] <;> omega
      · gi_wp2
        refine bodyPost_ret (results_none rfl _ _ _) rfl ?_
        exact ⟨⟨_, rfl⟩, .inr ⟨_, ⟨k, by omega, (bwd_succ zs hlt).symm⟩, hJx3⟩⟩

set_option maxRecDepth 100000 in
set_option maxHeartbeats 1000000 in
theorem backward1_nil_in (F : Fence) (n : Nat) (h8 : F.fn 74) (hro : F.round = none) (l Bs : Nat) (c : Nat) (a : Option Addr) (J : List (Nat × Dig) → World → Prop) (W : World) (hBs : W.cell? ⟨Bs, 0, none⟩ = some (.slice a 0 c)) (h0 : J [] W) :
    CallsIn F n Tryz.prog 74 #[.func (.yield l) #[] #[], .pointer (some ⟨Bs, 0, none⟩)] W fun e W' => (∃ v, e = .returned v) ∧ J [] W' := by
  refine callsIn_of_wp Tryz.func74 rfl h8 ?_ hro
  simp only [Tryz.ntmps74, List.size_toArray, List.length_cons, List.length_nil, Nat.reduceAdd, Nat.reduceSub, Array.replicate_succ, Array.replicate_zero, List.push_toArray, List.append_toArray, List.nil_append, List.cons_append]
  gi_wp2
  gi_loopw [3] (fun i wr => i = .int .i64 (-1) ∧ J [] wr) (fun _ _ => 0)
  case atStart => exact ⟨rfl, h0⟩
  case round =>
    obtain ⟨rfl, hJs⟩ := hrel
    gi_wp2
    go_end0
    exact ⟨⟨_, rfl⟩, hJs⟩

set_option maxHeartbeats 1000000 in
theorem backward_in (F : Fence) (n : Nat) (h6 : F.fn 52) (hro : F.round = none) (a : Option Addr) (len cap : Nat) (w : World) :
    CallsIn F n Tryz.prog 52 #[.slice a len cap] w fun e w' => e = .returned (.func (.func 74) #[] #[.pointer (some ⟨w.heap.size, 0, none⟩)]) ∧ w' = w.alloc (.cells #[.slice a len cap] 23) := by
  refine callsIn_of_wp Tryz.func52 rfl h6 ?_ hro
  simp only [Tryz.ntmps52, List.size_toArray, List.length_cons, List.length_nil, Nat.reduceAdd, Nat.reduceSub, Array.replicate_succ, Array.replicate_zero, List.push_toArray, List.append_toArray, List.nil_append, List.cons_append]
  gi_wp2
  go_ret
  exact ⟨rfl, rfl⟩

theorem backward_stops (F : Fence) (n : Nat) (h8 : F.fn 74) (hro : F.round = none) (hn : 1 ≤ n) (Bs n₀ : Nat) (a : Option Addr) (cap : Nat) (zs : List Dig) (hlen : zs.length ≤ 1048576) (w : World) (hBs : Bs < w.heap.size) (hn₀ : n₀ ≤ w.heap.size)
    (hc : w.cell? ⟨Bs, 0, none⟩ = some (.slice a zs.length cap)) (hI : zs = [] ∨ ∃ b off, a = some ⟨b, off, none⟩ ∧ b < n₀ ∧ ∀ j (h : j < zs.length), w.cell? ⟨b, off + j, none⟩ = some (.int .i64 zs[j].1)) :
    SeqStopsK F n Tryz.prog 74 #[.pointer (some ⟨Bs, 0, none⟩)] (fun x : Nat × Dig => #[Value.int .i64 (x.1 : Int), Value.int .i64 x.2.1]) (KB n₀ Bs) (fun ys => ys = bwd zs 0)
      (fun pre => ∃ k, k ≤ zs.length ∧ pre = bwd zs k) zs.length w := fun l J Jx W hW _ _ hY h0 => by
  have hc' := (hW.cell (p := ⟨Bs, 0, none⟩) (show Bs < _ by omega)).trans hc
  rcases hI with rfl | ⟨b, off, rfl, hb, hcs⟩
  · exact (backward1_nil_in F n h8 hro l Bs cap a J W hc' h0).mono fun e W' ⟨he, hj⟩ => ⟨he, .inl ⟨_, by rw [show bwd [] 0 = [] by rfl], hj⟩⟩
  · exact backward1_in F n h8 hro hn l Bs n₀ b off cap zs hlen hb J Jx hY W hc' (fun j h => (hW.cell (p := ⟨b, off + j, none⟩) (show b < _ by omega)).trans (hcs j h)) h0

section
variable (a : Option Addr) (ca : Nat) (xs : List Int) (w : World) (ha : IntsAt w a ca xs) (hl : xs.length ≤ 1048576)
include ha hl
end
end Go.Proofs.YtehhpkeabckdaaaGreatDoor
