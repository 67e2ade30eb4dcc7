/- BigInt: made out of a sign and a magnitude; turned. -/
import Derived.Test.YtjklefkkdaelnaaDoorTyB
namespace Go.Proofs.YtjklefkkdaelnaaDoor
set_option linter.unusedVariables false
set_option linter.unusedSimpArgs false
open Go.RowKit

structure BI where
  neg : Bool
  mag : List Int
def mkBI (n : Bool) (xs : List Int) : BI := ⟨n && decide (0 < xs.length), xs⟩

set_option maxHeartbeats 1000000 in
theorem l03Make_any (n : Bool) (a : Option Addr) (c : Nat) (xs : List Int) (w : World) (ha : IntsAt w a c xs) (hn : xs.length ≤ 1048576) (hr : Rng xs) :
    Calls Tryd.prog 124 #[.bool n, .slice a xs.length c] w fun e w' => ∃ b c', e = .returned (.agg #[.bool (mkBI n (capD (val xs))).neg, .slice b (capD (val xs)).length c']) ∧
      OwnI w' w.heap.size w'.heap.size (.slice b (capD (val xs)).length c') (capD (val xs)) ∧ Below w.heap.size w w' := by
  have HA := Lib.hid ha
  have HR := Lib.hid hr
  clear ha hr
  have hlen : (capD (val xs)).length ≤ 60 := capD_len _
  go_enter Tryd.func124, Tryd.ntmps124
  go_wp2_with fail
  refine (l02Cap_any a c xs _ (HA.out.below (ba1 _ _)) hn HR.out).mono ?_
  rintro e w1 ⟨⟨b, c', rfl, hi⟩, rfl⟩
  have HN : Hid ((mkBI n (capD (val xs))).neg = (n && decide (0 < (capD (val xs)).length))) := rfl
  have HI := Lib.hid hi
  clear hi
  have fin : ∀ (v' : Value) (w2 : World), Own 3 w2 (w.heap.size + 1) v' (capD (val xs)) → Below (w.heap.size + 1) (w.alloc (.cells #[.bool false, .slice none 0 0] 39)) w2 → ∀ u1 u2,
      OwnI ((w2.setCell ⟨w.heap.size, 0, none⟩ u1).setCell ⟨w.heap.size, 1, none⟩ u2) w.heap.size ((w2.setCell ⟨w.heap.size, 0, none⟩ u1).setCell ⟨w.heap.size, 1, none⟩ u2).heap.size v' (capD (val xs)) ∧
        Below w.heap.size w ((w2.setCell ⟨w.heap.size, 0, none⟩ u1).setCell ⟨w.heap.size, 1, none⟩ u2) := by
    intro v' w2 ho hb u1 u2
    exact ⟨((ho.toI.low (by simp) _).low (by simp) _).mono (by omega) (by simp), (((ba1 w _).trans (hb.mono (by omega))).setCell (by simp) _).setCell (by simp) _⟩
  have FIN := Lib.hid fin
  clear fin
  cases b with
  | none =>
    have hz : capD (val xs) = [] := by
      rcases HI.out.at_ with h | ⟨b, off, h, _⟩
      · exact h
      · cases h
    have hc0 : c' = 0 := HI.out.nil0 rfl
    have HZ := Lib.hid hz
    subst hc0
    rw [hz]
    clear hz
    have HW : Hid (OwnI ((w.alloc (.cells #[.bool false, .slice (some ⟨w.heap.size + 1, 0, none⟩) 0 0] 39)).alloc (.cells #[] 3)) w.heap.size ((w.alloc (.cells #[.bool false, .slice (some ⟨w.heap.size + 1, 0, none⟩) 0 0] 39)).alloc (.cells #[] 3)).heap.size (.slice (some ⟨w.heap.size + 1, 0, none⟩) 0 0) []) :=
      (own_emptyB _ (B := w.heap.size + 1) (by simp)).toI.mono (by omega) (Nat.le_refl _)
    cases n with
    | true =>
      go_wp2_with (at_builtin; go_must (refine append_none (own_emptyB _ (B := w.heap.size + 1) (by simp)) rfl _ _ rfl rfl rfl ?_))
      refine bodyPost_ret (v := .agg #[.bool false, .slice (some ⟨w.heap.size + 1, 0, none⟩) 0 0]) (by simp [results, Tryd.results124, go_sem]) rfl ⟨_, 0, by rw [HZ.out]; rfl, by rw [HZ.out]; exact HW.out, ba2 _ _ _⟩
    | false =>
      go_wp2_with (at_builtin; go_must (refine append_none (own_emptyB _ (B := w.heap.size + 1) (by simp)) rfl _ _ rfl rfl rfl ?_))
      refine bodyPost_ret (v := .agg #[.bool false, .slice (some ⟨w.heap.size + 1, 0, none⟩) 0 0]) (by simp [results, Tryd.results124, go_sem]) rfl ⟨_, 0, by rw [HZ.out]; rfl, by rw [HZ.out]; exact HW.out, ba2 _ _ _⟩
  | some ad =>
    cases n with
    | true =>
      go_wp2_with (at_builtin; go_must (refine append_src (own_emptyB _ (B := w.heap.size + 1) (by simp)) (HI.out.below (ba1 _ _)) (by simp; omega) (by simp) rfl _ _ rfl rfl rfl ?_); intro v' w1 hown1 hb1 _; simp only [List.nil_append] at hown1; obtain ⟨vb, vc, rfl, _⟩ := hown1.form; obtain ⟨hc, hf⟩ := bcellsB hb1; have HO := Lib.hid hown1; have HB := Lib.hid (((Below.refl _ _).alloc (by simp) _).trans hb1); clear hown1 hb1)
      exact bodyPost_ret (v := .agg #[.bool (mkBI true (capD (val xs))).neg, .slice vb (capD (val xs)).length vc]) (by simp [results, Tryd.results124, go_sem, hc, mkBI]) rfl ⟨vb, vc, rfl, FIN.out _ _ HO.out HB.out _ _⟩
    | false =>
      go_wp2_with (at_builtin; go_must (refine append_src (own_emptyB _ (B := w.heap.size + 1) (by simp)) (HI.out.below (ba1 _ _)) (by simp; omega) (by simp) rfl _ _ rfl rfl rfl ?_); intro v' w1 hown1 hb1 _; simp only [List.nil_append] at hown1; obtain ⟨vb, vc, rfl, _⟩ := hown1.form; obtain ⟨hc, hf⟩ := bcellsB hb1; have HO := Lib.hid hown1; have HB := Lib.hid (((Below.refl _ _).alloc (by simp) _).trans hb1); clear hown1 hb1)
      exact bodyPost_ret (v := .agg #[.bool (mkBI false (capD (val xs))).neg, .slice vb (capD (val xs)).length vc]) (by simp [results, Tryd.results124, go_sem, hc, mkBI]) rfl ⟨vb, vc, rfl, FIN.out _ _ HO.out HB.out _ _⟩

/-- 'signed': the magnitude is handed on as it is -/
theorem signed_any (n : Bool) (a : Option Addr) (k c : Nat) (w : World) :
    Calls Tryd.prog 125 #[.bool n, .slice a k c] w fun e w' => e = .returned (.agg #[.bool (n && decide (0 < k)), .slice a k c]) ∧ Below w.heap.size w w' := by
  cases n with
  | true =>
    go_enter Tryd.func125, Tryd.ntmps125
    go_wp2
    exact bodyPost_ret (v := .agg #[.bool (true && decide (0 < k)), .slice a k c]) (by simp [results, Tryd.results125, go_sem]) rfl ⟨rfl, ba1 _ _⟩
  | false =>
    go_enter Tryd.func125, Tryd.ntmps125
    go_wp2
    exact bodyPost_ret (v := .agg #[.bool (false && decide (0 < k)), .slice a k c]) (by simp [results, Tryd.results125, go_sem]) rfl ⟨rfl, ba1 _ _⟩
end Go.Proofs.YtjklefkkdaelnaaDoor
