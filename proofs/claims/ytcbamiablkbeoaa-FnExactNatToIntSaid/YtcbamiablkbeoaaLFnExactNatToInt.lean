/- For every input the law FnExactNatToInt returns true, and its arguments read afterwards as they read before. No condition. -/
import Derived.Test.YtcbamiablkbeoaaFrame
import Derived.Test.YtcbamiablkbeoaaLaws2
import Derived.Test.YtcbamiablkbeoaaNatInt2
namespace Go.Proofs.Ytcbamiablkbeoaa.fnExactNatToInt
set_option linter.unusedVariables false
set_option linter.unusedSimpArgs false
open Go.ChangeShapes Go.WideShapes Go.ChangeAt Go.RowKit
open Go.ChangeMaps (open_string shut_string)

set_option maxRecDepth 100000 in
set_option maxHeartbeats 8000000 in
theorem walk (a0 : Option Addr) (c0 : Nat) (x0 : List Int) (w : World) (w0 : IntsAt w a0 c0 x0) :
    Calls Try.prog 4 #[.slice a0 x0.length c0] w fun e w' => e = .returned (.bool true) ∧ Below w.heap.size w w' := by
  by_cases n0 : x0.length ≤ 1048576
  case neg =>
    go_enter Try.func4, Try.ntmps4
    go_wp2
    go_ret
    exact ⟨rfl, Below.refl _ _⟩
  go_enter Try.func4, Try.ntmps4
  go_wp2_with fail
  refine (toIntS_own _ _ x0 _ w0 n0).mono ?_
  rintro e W1 ⟨as00, cs00, rfl, os0, b1⟩
  have s1 := b1.size
  go_wp2_with fail
  refine (specNatToInt_any _ _ x0 _ os0.ints n0).mono ?_
  rintro e W2 ⟨rfl, b2⟩
  have s2 := b2.size
  go_wp2_with fail
  have h1 : Below w.heap.size w W2 := (bstep (bstep (Below.refl _ _) b1) b2)
  refine (toIntS_own _ _ x0 _ (w0.below h1) n0).mono ?_
  rintro e W3 ⟨ax00, cx00, rfl, ox0, b3⟩
  have s3 := b3.size
  go_wp2_with fail
  refine (implNatToInt_any _ _ x0 _ ox0.ints n0).mono ?_
  rintro e W4 ⟨rfl, b4⟩
  have s4 := b4.size
  go_wp2_with fail
  have h2 : Below w.heap.size w W4 := (bstep (bstep h1 b3) b4)
  refine (toIntS_own _ _ x0 _ (w0.below h2) n0).mono ?_
  rintro e W5 ⟨ay00, cy00, rfl, oy0, b5⟩
  have s5 := b5.size
  go_wp2_with fail
  have f3 := ((ox0.below b4).below b5)
  refine (eqIntS_same _ _ _ _ (x0) _ f3.ints oy0.ints n0).mono ?_
  rintro e W6 ⟨rfl, b6⟩
  have s6 := b6.size
  go_wp2
  go_ret
  have h4 : Below w.heap.size w W6 := (bstep (bstep h2 b5) b6)
  exact ⟨rfl, h4⟩

set_option maxRecDepth 100000 in
theorem lifted (os : Os) (started : os.Started) (H : Type) (enc : TypeId × Value → H) :
    ReturnsInHanded {} Try.checked os 4 .any (Rows.fnExactNatToIntSpec.pre6 enc Try.prog Try.f4 Rows.fnExactNatToIntRow.domain false) (Rows.fnExactNatToIntSpec.post enc Try.prog Try.f4 false true false false) := by
  refine returnsInHanded_of_change (C := Try.checked) Try.own started (by kernel_rfl) Try.func4
    (ChangeSpec.witness6 (enc := enc) (C := Try.checked) false ⟨#[], #[.slice none 0 0], []⟩ 8 (by kernel_rfl) (by kernel_rfl) (by kernel_rfl) (by kernel_rfl)) ?_
  intro W base args ds gs before hval0 hW hcnd _
  have hval : ∀ (j : Nat) t v, Try.f4.params[j]? = some t → args[j]? = some v → Value.okWide Try.prog W .any base t v := hval0
  have hW' := hW
  obtain ⟨p, q, hA0, hV, rfl, hfz, hnd⟩ := hW
  have hA : DataW.TrodAll enc Try.prog W 0 (fun _ => true) true Try.f4.params.toList args.toList ds p := hA0
  rw [Try.params4] at hA hval
  obtain ⟨v0, vs0, d0, ds0, p0, q0, hargs, rfl, rfl, h0, r0⟩ := trodAll_cons hA
  obtain ⟨rfl, rfl, rfl⟩ := trodAll_nil r0
  obtain rfl : args = #[v0] := by cases args; simp_all
  obtain ⟨rfl, rfl⟩ := trodVars_none hV
  have k0 := h0
  have lt0 : ∀ x ∈ p0, x.block < W.heap.size := by obtain ⟨m, hm⟩ := k0; exact DataW.trod_lt m _ _ _ hm
  obtain ⟨a0, c0, x0, rfl, w0⟩ := ints_of_arg (hval 0 27 v0 rfl rfl) h0
  clear hA0 hval0
  refine (walk a0 c0 x0 W w0).mono fun e W' ⟨he, bel⟩ => ?_
  subst he
  exact ⟨_, rfl, _, _, _, [], _, [], hW', trodAll_mk1 (shut_bool Try.underlying4 _), (trodAll_cons_mk (Below.trod Try.laidOut (by kernel_rfl) (of_decide_eq_true (by kernel_rfl)) k0 bel lt0) trodAll_mk0), rfl, bel.frame _, fun h => by cases h⟩

theorem over : Rows.fnExactNatToIntRow.holds Try.pinned (OpenSpec.ofChange Rows.fnExactNatToIntSpec) :=
  OpenClaim.holds_of_wide 4 Try.f4 rfl rfl rfl rfl rfl rfl rfl ⟨rfl, rfl, rfl, rfl, rfl⟩ rfl rfl rfl rfl rfl (by kernel_rfl) Try.func4 (closed_of 4 Try.f4 Rows.fnExactNatToIntSpec Rows.fnExactNatToIntRow prog_facts (by kernel_rfl) rfl rfl)
    (of_decide_eq_true (by kernel_rfl)) (by unfold Func.isWrapper; first | (rw [if_pos (by decide +kernel)]; kernel_rfl) | (rw [if_neg (by decide +kernel)]; exact ⟨rfl, rfl⟩))
    (fun os started H enc _ => lifted os started H enc)

theorem proved : Rows.FnExactNatToIntSaid := over
#print axioms proved
end Go.Proofs.Ytcbamiablkbeoaa.fnExactNatToInt
