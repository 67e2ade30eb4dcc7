/- For every input the law FnExactSplitAny returns true, and its arguments read afterwards as they read before. No condition. -/
import Derived.Test.YtgbnocfkkhngmaaFrame
import Derived.Test.YtgbnocfkkhngmaaSplitW
namespace Go.Proofs.Ytgbnocfkkhngmaa.fnExactSplitAny
set_option linter.unusedVariables false
set_option linter.unusedSimpArgs false
open Go.ChangeShapes Go.WideShapes Go.ChangeAt Go.RowKit
open Go.ChangeMaps (open_string shut_string)

set_option maxRecDepth 100000 in
set_option maxHeartbeats 8000000 in
theorem walk (a0 : ByteArray) (a1 : ByteArray) (w : World) (w0 : a0.size ≤ maxLen) (w1 : a1.size ≤ maxLen) :
    Calls Try.prog 3 #[.string a0, .string a1] w fun e w' => e = .returned (.bool true) ∧ Below w.heap.size w w' := by
  by_cases n0 : a0.size ≤ 1048576
  case neg =>
    go_enter Try.func3, Try.ntmps3
    go_wp2
    go_ret
    exact ⟨rfl, Below.refl _ _⟩
  by_cases n1 : a1.size ≤ 1048576
  case neg =>
    go_enter Try.func3, Try.ntmps3
    go_wp2
    go_ret
    exact ⟨rfl, Below.refl _ _⟩
  have l0 := splitAny_len (by_ := a1) n0
  go_enter Try.func3, Try.ntmps3
  go_wp2_with fail
  refine (specSplitAny_any a0 a1 _ n0 n1).mono ?_
  rintro e W1 ⟨at00, ct00, rfl, it00, b1⟩
  have s1 := b1.size
  go_wp2_with fail
  refine (implSplitAny_any a0 a1 _ n0 n1).mono ?_
  rintro e W2 ⟨ag00, cg00, rfl, og0, b2⟩
  have s2 := b2.size
  go_wp2_with fail
  have h1 : Below W1.heap.size W1 W2 := (bstep (Below.refl _ _) b2)
  refine (eqStringS_same _ _ _ _ (splitAny a0 a1) _ og0.i1 (it00.below h1) l0).mono ?_
  rintro e W3 ⟨rfl, b3⟩
  have s3 := b3.size
  go_wp2_with fail
  have f2 := (og0.below b3)
  refine (markStringS_own _ _ (splitAny a0 a1) _ _ f2 l0 (by omega) (by omega)).mono ?_
  rintro e W4 ⟨rfl, mg0x4, b4⟩
  have s4 := b4.size
  go_wp2_with fail
  refine (heldStringS_own2 _ _ _ _ _ mg0x4 l0 (by omega) (by omega)).mono ?_
  rintro e W5 ⟨rfl, b5⟩
  have s5 := b5.size
  go_wp2_with fail
  refine (implSplitAny_any a0 a1 _ n0 n1).mono ?_
  rintro e W6 ⟨ah00, ch00, rfl, oh0, b6⟩
  have s6 := b6.size
  go_wp2_with fail
  have h3 : Below W1.heap.size W1 W6 := (bstep (bstep (bspan (bstep h1 b3) b4 (by omega)) b5) b6)
  refine (eqStringS_same _ _ _ _ (splitAny a0 a1) _ oh0.i1 (it00.below h3) l0).mono ?_
  rintro e W7 ⟨rfl, b7⟩
  have s7 := b7.size
  go_wp2_with fail
  have f4 := (((mg0x4.below b5).below b6).below b7)
  refine (heldStringS_own2 _ _ _ _ _ f4 l0 (by omega) (by omega)).mono ?_
  rintro e W8 ⟨rfl, b8⟩
  have s8 := b8.size
  go_wp2
  go_ret
  have h5 : Below w.heap.size w W8 := (bstep (bstep (bstep (bstep (bspan (bstep (bstep (bstep (Below.refl _ _) b1) b2) b3) b4 (by omega)) b5) b6) b7) b8)
  exact ⟨rfl, h5⟩

set_option maxRecDepth 100000 in
theorem lifted (os : Os) (started : os.Started) (H : Type) (enc : TypeId × Value → H) :
    ReturnsInHanded {} Try.checked os 3 .any (Rows.fnExactSplitAnySpec.pre6 enc Try.prog Try.f3 Rows.fnExactSplitAnyRow.domain false) (Rows.fnExactSplitAnySpec.post enc Try.prog Try.f3 false true false false) := by
  refine returnsInHanded_of_change (C := Try.checked) Try.own started (by kernel_rfl) Try.func3
    (ChangeSpec.witness6 (enc := enc) (C := Try.checked) false ⟨#[], #[.string ByteArray.empty, .string ByteArray.empty], []⟩ 8 (by kernel_rfl) (by kernel_rfl) (by kernel_rfl) (by kernel_rfl)) ?_
  intro W base args ds gs before hval0 hW hcnd _
  have hval : ∀ (j : Nat) t v, Try.f3.params[j]? = some t → args[j]? = some v → Value.okWide Try.prog W .any base t v := hval0
  have hW' := hW
  obtain ⟨p, q, hA0, hV, rfl, hfz, hnd⟩ := hW
  have hA : DataW.TrodAll enc Try.prog W 0 (fun _ => true) true Try.f3.params.toList args.toList ds p := hA0
  rw [Try.params3] at hA hval
  obtain ⟨v0, vs0, d0, ds0, p0, q0, hargs, rfl, rfl, h0, r0⟩ := trodAll_cons hA
  obtain ⟨v1, vs1, d1, ds1, p1, q1, rfl, rfl, rfl, h1, r1⟩ := trodAll_cons r0
  obtain ⟨rfl, rfl, rfl⟩ := trodAll_nil r1
  obtain rfl : args = #[v0, v1] := by cases args; simp_all
  obtain ⟨rfl, rfl⟩ := trodVars_none hV
  have k0 := h0
  have lt0 : ∀ x ∈ p0, x.block < W.heap.size := by obtain ⟨m, hm⟩ := k0; exact DataW.trod_lt m _ _ _ hm
  obtain ⟨a0, rfl, rfl, rfl, w0⟩ := open_string Try.underlying9 (hval 0 9 v0 rfl rfl) h0
  have k1 := h1
  have lt1 : ∀ x ∈ p1, x.block < W.heap.size := by obtain ⟨m, hm⟩ := k1; exact DataW.trod_lt m _ _ _ hm
  obtain ⟨a1, rfl, rfl, rfl, w1⟩ := open_string Try.underlying9 (hval 1 9 v1 rfl rfl) h1
  clear hA0 hval0
  refine (walk a0 a1 W w0 w1).mono fun e W' ⟨he, bel⟩ => ?_
  subst he
  exact ⟨_, rfl, _, _, _, [], _, [], hW', trodAll_mk1 (shut_bool Try.underlying4 _), (trodAll_cons_mk (Below.trod Try.laidOut (by kernel_rfl) (of_decide_eq_true (by kernel_rfl)) k0 bel lt0) (trodAll_cons_mk (Below.trod Try.laidOut (by kernel_rfl) (of_decide_eq_true (by kernel_rfl)) k1 bel lt1) trodAll_mk0)), rfl, bel.frame _, fun h => by cases h⟩

theorem over : Rows.fnExactSplitAnyRow.holds Try.pinned (OpenSpec.ofChange Rows.fnExactSplitAnySpec) :=
  OpenClaim.holds_of_wide 3 Try.f3 rfl rfl rfl rfl rfl rfl rfl ⟨rfl, rfl, rfl, rfl, rfl⟩ rfl rfl rfl rfl rfl (by kernel_rfl) Try.func3 (closed_ofP may_enter make_cut lifts_final 3 Try.f3 Rows.fnExactSplitAnySpec Rows.fnExactSplitAnyRow prog_facts (by kernel_rfl) rfl rfl)
    (of_decide_eq_true (by kernel_rfl)) (by unfold Func.isWrapper; first | (rw [if_pos (by decide +kernel)]; kernel_rfl) | (rw [if_neg (by decide +kernel)]; exact ⟨rfl, rfl⟩))
    (fun os started H enc _ => lifted os started H enc)

theorem proved : Rows.FnExactSplitAnySaid := over
#print axioms proved
end Go.Proofs.Ytgbnocfkkhngmaa.fnExactSplitAny
