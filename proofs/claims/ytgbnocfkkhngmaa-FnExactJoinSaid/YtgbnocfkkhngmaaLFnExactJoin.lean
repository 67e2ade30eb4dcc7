/- For every input the law FnExactJoin returns true, and its arguments read afterwards as they read before. No condition. -/
import Derived.Test.YtgbnocfkkhngmaaFrame
import Derived.Test.YtgbnocfkkhngmaaJoinW
namespace Go.Proofs.Ytgbnocfkkhngmaa.fnExactJoin
set_option linter.unusedVariables false
set_option linter.unusedSimpArgs false
open Go.ChangeShapes Go.WideShapes Go.ChangeAt Go.RowKit
open Go.ChangeMaps (open_string shut_string)

set_option maxRecDepth 100000 in
set_option maxHeartbeats 8000000 in
theorem walk (a0 : Option Addr) (c0 : Nat) (x0 : List ByteArray) (a1 : ByteArray) (w : World) (w0 : StrsAt w a0 c0 x0) (z0 : ∀ s ∈ x0, s.size ≤ maxLen) (w1 : a1.size ≤ maxLen) :
    Calls Try.prog 4 #[.slice a0 x0.length c0, .string a1] w fun e w' => e = .returned (.bool true) ∧ Below w.heap.size w w' := by
  by_cases n1 : a1.size ≤ 1048576
  case neg =>
    go_enter Try.func4, Try.ntmps4
    go_wp2
    go_ret
    exact ⟨rfl, Below.refl _ _⟩
  by_cases n0 : x0.length + totS x0 ≤ 1048576
  case neg =>
    go_enter Try.func4, Try.ntmps4
    go_wp2_with fail
    refine (szStringS_any _ _ x0 _ _ w0 z0 (by omega) (by omega)).mono ?_
    rintro e W1 ⟨rfl, b1⟩
    rw [if_neg (by omega)]
    go_wp2
    go_ret
    exact ⟨rfl, b1⟩
  have l0 : x0.length ≤ 1048576 := by omega
  have l1 : x0.length ≤ 2000000 := by omega
  go_enter Try.func4, Try.ntmps4
  go_wp2_with fail
  refine (szStringS_any _ _ x0 _ _ w0 z0 (by omega) (by omega)).mono ?_
  rintro e W1 ⟨rfl, b1⟩
  rw [if_pos (by omega)]
  have s1 := b1.size
  have g1 := Lib.hid (w0.below b1)
  go_wp2_with fail
  refine (toStringS_own _ _ x0 _ g1.out l0).mono ?_
  rintro e W2 ⟨a2, c2, rfl, o2, b2⟩
  have s2 := b2.size
  have g2 := Lib.hid (g1.out.below b2)
  go_wp2_with fail
  refine (specJoin_any _ _ x0 a1 _ o2.i1 n0 n1).mono ?_
  rintro e W3 ⟨rfl, b3⟩
  have s3 := b3.size
  have g3 := Lib.hid (g2.out.below b3)
  go_wp2_with fail
  refine (toStringS_own _ _ x0 _ g3.out l0).mono ?_
  rintro e W4 ⟨a4, c4, rfl, o4, b4⟩
  have s4 := b4.size
  have g4 := Lib.hid (g3.out.below b4)
  go_wp2_with fail
  refine (implJoin_any _ _ x0 a1 _ o4.i1 n0 n1).mono ?_
  rintro e W5 ⟨rfl, b5⟩
  have s5 := b5.size
  have o5 := o4.below b5
  have g5 := Lib.hid (g4.out.below b5)
  go_wp2_with fail
  refine (toStringS_own _ _ x0 _ g5.out l0).mono ?_
  rintro e W6 ⟨a6, c6, rfl, o6, b6⟩
  have s6 := b6.size
  have o7 := o5.below b6
  go_wp2_with fail
  refine (eqStringS_same _ _ _ _ x0 _ o7.i1 o6.i1 l1).mono ?_
  rintro e W7 ⟨rfl, b7⟩
  go_wp2
  go_ret
  exact ⟨rfl, bstep (bstep (bstep (bstep (bstep (bstep (bstep (Below.refl _ _) b1) b2) b3) b4) b5) b6) b7⟩

set_option maxRecDepth 100000 in
theorem lifted (os : Os) (started : os.Started) (H : Type) (enc : TypeId × Value → H) :
    ReturnsInHanded {} Try.checked os 4 .any (Rows.fnExactJoinSpec.pre6 enc Try.prog Try.f4 Rows.fnExactJoinRow.domain false) (Rows.fnExactJoinSpec.post enc Try.prog Try.f4 false true false false) := by
  refine returnsInHanded_of_change (C := Try.checked) Try.own started (by kernel_rfl) Try.func4
    (ChangeSpec.witness6 (enc := enc) (C := Try.checked) false ⟨#[], #[.slice none 0 0, .string ByteArray.empty], []⟩ 8 (by kernel_rfl) (by kernel_rfl) (by kernel_rfl) (by kernel_rfl)) ?_
  intro W base args ds gs before hval0 hW hcnd _
  have hval : ∀ (j : Nat) t v, Try.f4.params[j]? = some t → args[j]? = some v → Value.okWide Try.prog W .any base t v := hval0
  have hW' := hW
  obtain ⟨p, q, hA0, hV, rfl, hfz, hnd⟩ := hW
  have hA : DataW.TrodAll enc Try.prog W 0 (fun _ => true) true Try.f4.params.toList args.toList ds p := hA0
  rw [Try.params4] at hA hval
  obtain ⟨v0, vs0, d0, ds0, p0, q0, hargs, rfl, rfl, h0, r0⟩ := trodAll_cons hA
  obtain ⟨v1, vs1, d1, ds1, p1, q1, rfl, rfl, rfl, h1, r1⟩ := trodAll_cons r0
  obtain ⟨rfl, rfl, rfl⟩ := trodAll_nil r1
  obtain rfl : args = #[v0, v1] := by cases args; simp_all
  obtain ⟨rfl, rfl⟩ := trodVars_none hV
  have k0 := h0
  have lt0 : ∀ x ∈ p0, x.block < W.heap.size := by obtain ⟨m, hm⟩ := k0; exact DataW.trod_lt m _ _ _ hm
  obtain ⟨a0, c0, x0, rfl, w0, z0⟩ := strs_of_arg (hval 0 22 v0 rfl rfl) h0
  have k1 := h1
  have lt1 : ∀ x ∈ p1, x.block < W.heap.size := by obtain ⟨m, hm⟩ := k1; exact DataW.trod_lt m _ _ _ hm
  obtain ⟨a1, rfl, rfl, rfl, w1⟩ := open_string Try.underlying9 (hval 1 9 v1 rfl rfl) h1
  clear hA0 hval0
  refine (walk a0 c0 x0 a1 W w0 z0 w1).mono fun e W' ⟨he, bel⟩ => ?_
  subst he
  exact ⟨_, rfl, _, _, _, [], _, [], hW', trodAll_mk1 (shut_bool Try.underlying4 _), (trodAll_cons_mk (Below.trod Try.laidOut (by kernel_rfl) (of_decide_eq_true (by kernel_rfl)) k0 bel lt0) (trodAll_cons_mk (Below.trod Try.laidOut (by kernel_rfl) (of_decide_eq_true (by kernel_rfl)) k1 bel lt1) trodAll_mk0)), rfl, bel.frame _, fun h => by cases h⟩

theorem over : Rows.fnExactJoinRow.holds Try.pinned (OpenSpec.ofChange Rows.fnExactJoinSpec) :=
  OpenClaim.holds_of_wide 4 Try.f4 rfl rfl rfl rfl rfl rfl rfl ⟨rfl, rfl, rfl, rfl, rfl⟩ rfl rfl rfl rfl rfl (by kernel_rfl) Try.func4 (closed_ofP may_enter make_cut lifts_final 4 Try.f4 Rows.fnExactJoinSpec Rows.fnExactJoinRow prog_facts (by kernel_rfl) rfl rfl)
    (of_decide_eq_true (by kernel_rfl)) (by unfold Func.isWrapper; first | (rw [if_pos (by decide +kernel)]; kernel_rfl) | (rw [if_neg (by decide +kernel)]; exact ⟨rfl, rfl⟩))
    (fun os started H enc _ => lifted os started H enc)

theorem proved : Rows.FnExactJoinSaid := over
#print axioms proved
end Go.Proofs.Ytgbnocfkkhngmaa.fnExactJoin
