import Derived.Test.YtjklefkkdaelnaaDoorAppend
import Derived.Test.YtjklefkkdaelnaaDoorLaws1
import Derived.Test.YtjklefkkdaelnaaDoorNum
namespace Go.Proofs.YtjklefkkdaelnaaDoor
set_option linter.unusedVariables false
set_option linter.unusedSimpArgs false
open Go.RowKit

theorem digs_step {m : Int} {ds xs : List Int} (hp : 0 < m) (h : ds ++ digs m.toNat = xs) : (ds ++ [m % 1000000000]) ++ digs (m / 1000000000).toNat = xs := by
  rw [← h, digs_pos (n := m.toNat) (by omega), List.append_assoc, show m.toNat / 1000000000 = (m / 1000000000).toNat by omega]
  congr 1
  simp only [List.singleton_append, List.cons.injEq, and_true]
  omega

set_option maxHeartbeats 400000 in
theorem specNatOf_own (n : Int) (w : World) (hn : n ≤ 9223372036854775807) :
    Calls Tryd.prog 148 #[.int .i64 n] w fun e w' => ∃ v, e = .returned v ∧ Own 3 w' w.heap.size v (digs n.toNat) ∧ Below w.heap.size w w' := by
  go_enter Tryd.func148, Tryd.ntmps148
  go_wp2
  go_loopw [0, 3] (fun i v wr => ∃ (m : Int) (ds : List Int), m ≤ 9223372036854775807 ∧ i = .int .i64 m ∧ Own 3 wr w.heap.size v ds ∧ Below w.heap.size w wr ∧ ds ++ digs m.toNat = digs n.toNat) (fun i _ _ => (intOf i).toNat)
  case atStart => exact ⟨n, [], hn, rfl, own_empty w, (Below.refl _ _).alloc (Nat.le_refl _) _, rfl⟩
  case round =>
    obtain ⟨m, ds, hm, rfl, hown, hb, heq⟩ := hrel
    have HO := Lib.hid hown
    have HB := Lib.hid hb
    have HE := Lib.hid heq
    clear hown hb heq
    by_cases hp : 0 < m
    · have hlen : Hid (ds.length + 1 ≤ 16777216) := by
        have h1 := congrArg List.length HE.out
        have h2 : (digs n.toNat).length ≤ 3 := digs_len_le (by unfold pw; omega)
        simp at h1; unfold Hid; omega
      go_wp2_with (at_builtin; go_must (refine append_int HO.out (n := m % 1000000000) (by unfold In64; omega) hlen.out HB.out.size rfl _ _ rfl rfl rfl ?_); intro v' w1 hown1 hb1 _)
      go_roundw
      case rel => exact ⟨m / 1000000000, _, by omega, rfl, hown1, HB.out.trans hb1, digs_step hp HE.out⟩
      case measure => simp [intOf]; omega
    · go_wp2
      go_ret
      refine ⟨_, rfl, ?_, HB.out⟩
      have := HE.out
      rw [show m.toNat = 0 by omega, digs_zero, List.append_nil] at this
      rw [← this]; exact HO.out

set_option maxHeartbeats 400000 in
theorem natOf_any (n : Int) (w : World) (h0 : 0 ≤ n) (hn : n ≤ 18446744073709551615) :
    Calls Tryd.prog 117 #[.int .u64 n] w fun e w' => ∃ v, e = .returned v ∧ Own 3 w' w.heap.size v (digs n.toNat) ∧ Below w.heap.size w w' := by
  go_enter Tryd.func117, Tryd.ntmps117
  go_wp2
  go_loopw [0, 3] (fun i v wr => ∃ (m : Int) (ds : List Int), 0 ≤ m ∧ m ≤ 18446744073709551615 ∧ i = .int .u64 m ∧ Own 3 wr w.heap.size v ds ∧ Below w.heap.size w wr ∧ ds ++ digs m.toNat = digs n.toNat) (fun i _ _ => (intOf i).toNat)
  case atStart => exact ⟨n, [], h0, hn, rfl, own_empty w, (Below.refl _ _).alloc (Nat.le_refl _) _, rfl⟩
  case round =>
    obtain ⟨m, ds, hm0, hm, rfl, hown, hb, heq⟩ := hrel
    have HO := Lib.hid hown
    have HB := Lib.hid hb
    have HE := Lib.hid heq
    clear hown hb heq
    by_cases hp : 0 < m
    · have hlen : Hid (ds.length + 1 ≤ 16777216) := by
        have h1 := congrArg List.length HE.out
        have h2 : (digs n.toNat).length ≤ 3 := digs_len_le (by unfold pw; omega)
        simp at h1; unfold Hid; omega
      go_wp2_with (at_builtin; go_must (refine append_int HO.out (n := m % 1000000000) (by unfold In64; omega) hlen.out HB.out.size rfl _ _ rfl rfl rfl ?_); intro v' w1 hown1 hb1 _)
      go_roundw
      case rel => exact ⟨m / 1000000000, _, by omega, by omega, rfl, hown1, HB.out.trans hb1, digs_step hp HE.out⟩
      case measure => simp [intOf]; omega
    · go_wp2
      go_ret
      refine ⟨_, rfl, ?_, HB.out⟩
      have := HE.out
      rw [show m.toNat = 0 by omega, digs_zero, List.append_nil] at this
      rw [← this]; exact HO.out

theorem specNatOf_any (n : Int) (w : World) (hn : In64 n) :
    Calls Tryd.prog 148 #[.int .i64 n] w fun e w' => ∃ a c, e = .returned (.slice a (digs n.toNat).length c) ∧ IntsAt w' a c (digs n.toNat) ∧ Below w.heap.size w w' :=
  (specNatOf_own n w hn.2).mono fun _ _ ⟨_, h1, h2, h3⟩ => let ⟨a, c, h4, h5⟩ := h2.out; ⟨a, c, by rw [h1, h4], h5.ints, h3⟩
end Go.Proofs.YtjklefkkdaelnaaDoor
