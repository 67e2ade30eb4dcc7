/- For every input the law FnExactNatCmp returns true, and its arguments read afterwards as they read before. No condition. -/
import Derived.Test.YtlcjibkpmfglcaaFrame
import Derived.Test.YtlcjibkpmfglcaaLaws1
import Derived.Test.YtlcjibkpmfglcaaNatOps
namespace Go.Proofs.Ytlcjibkpmfglcaa.fnExactNatCmp
set_option linter.unusedVariables false
set_option linter.unusedSimpArgs false
open Go.ChangeShapes Go.WideShapes Go.ChangeAt Go.RowKit
open Go.ChangeMaps (open_string shut_string)

set_option maxHeartbeats 2000000 in
theorem walk (a0 : Option Addr) (c0 : Nat) (x0 : List Int) (a1 : Option Addr) (c1 : Nat) (x1 : List Int) (w : World) (w0 : IntsAt w a0 c0 x0) (w1 : IntsAt w a1 c1 x1) :
    Calls Try.prog 10 #[.slice a0 x0.length c0, .slice a1 x1.length c1] w fun e w' => e = .returned (.bool true) ∧ Below w.heap.size w w' := by
  by_cases n0 : x0.length ≤ 1048576
  case neg =>
    go_enter Try.func10, Try.ntmps10
    go_wp2
    go_ret
    exact ⟨rfl, Below.refl _ _⟩
  by_cases n1 : x1.length ≤ 1048576
  case neg =>
    go_enter Try.func10, Try.ntmps10
    go_wp2
    go_ret
    exact ⟨rfl, Below.refl _ _⟩
  go_enter Try.func10, Try.ntmps10
  go_wp2_with fail
  refine (toIntS_own _ _ x0 w w0 n0).mono ?_
  rintro e W1 ⟨as00, cs00, rfl, os00, b1⟩
  have s1 := b1.size
  go_wp2_with fail
  have h1 := (bstep (Below.refl w.heap.size w) b1)
  refine (toIntS_own _ _ x1 W1 (w1.below h1) n1).mono ?_
  rintro e W2 ⟨as10, cs10, rfl, os10, b2⟩
  have s2 := b2.size
  go_wp2_with fail
  have f2 := (os00.below b2)
  refine (specNatCmp_any _ _ x0 _ _ x1 W2 f2.ints n0 os10.ints n1).mono ?_
  rintro e W3 ⟨rfl, b3⟩
  have s3 := b3.size
  go_wp2_with fail
  have h3 := (bstep (bstep h1 b2) b3)
  refine (toIntS_own _ _ x0 W3 (w0.below h3) n0).mono ?_
  rintro e W4 ⟨ax00, cx00, rfl, ox00, b4⟩
  have s4 := b4.size
  go_wp2_with fail
  have h4 := (bstep h3 b4)
  refine (toIntS_own _ _ x1 W4 (w1.below h4) n1).mono ?_
  rintro e W5 ⟨ax10, cx10, rfl, ox10, b5⟩
  have s5 := b5.size
  go_wp2_with fail
  have f5 := (ox00.below b5)
  refine (implNatCmp_any _ _ x0 _ _ x1 W5 f5.ints n0 ox10.ints n1).mono ?_
  rintro e W6 ⟨rfl, b6⟩
  have s6 := b6.size
  go_wp2_with fail
  have h6 := (bstep (bstep h4 b5) b6)
  refine (toIntS_own _ _ x0 W6 (w0.below h6) n0).mono ?_
  rintro e W7 ⟨ay00, cy00, rfl, oy00, b7⟩
  have s7 := b7.size
  have f7 := ((f5.below b6).below b7)
  go_wp2_with fail
  refine (eqIntS_same  _ _ _ _ (x0) W7 f7.ints oy00.ints n0).mono ?_
  rintro e W8 ⟨rfl, b8⟩
  have s8 := b8.size
  go_wp2_with fail
  have h8 := (bstep (bstep h6 b7) b8)
  refine (toIntS_own _ _ x1 W8 (w1.below h8) n1).mono ?_
  rintro e W9 ⟨ay10, cy10, rfl, oy10, b9⟩
  have s9 := b9.size
  have f9 := ((((ox10.below b6).below b7).below b8).below b9)
  go_wp2_with fail
  refine (eqIntS_same  _ _ _ _ (x1) W9 f9.ints oy10.ints n1).mono ?_
  rintro e W10 ⟨rfl, b10⟩
  have s10 := b10.size
  go_wp2
  go_ret
  have h10 := (bstep (bstep h8 b9) b10)
  exact ⟨rfl, h10⟩

set_option maxRecDepth 100000 in
theorem lifted (os : Os) (started : os.Started) (H : Type) (enc : TypeId × Value → H) :
    ReturnsInHanded {} Try.checked os 10 .any (Rows.fnExactNatCmpSpec.pre6 enc Try.prog Try.f10 Rows.fnExactNatCmpRow.domain false) (Rows.fnExactNatCmpSpec.post enc Try.prog Try.f10 false true false false) := by
  refine returnsInHanded_of_change (C := Try.checked) Try.own started (by kernel_rfl) Try.func10
    (ChangeSpec.witness6 (enc := enc) (C := Try.checked) false ⟨#[], #[.slice none 0 0, .slice none 0 0], []⟩ 8 (by kernel_rfl) (by kernel_rfl) (by kernel_rfl) (by kernel_rfl)) ?_
  intro W base args ds gs before hval0 hW hcnd _
  have hval : ∀ (j : Nat) t v, Try.f10.params[j]? = some t → args[j]? = some v → Value.okWide Try.prog W .any base t v := hval0
  have hW' := hW
  obtain ⟨p, q, hA0, hV, rfl, hfz, hnd⟩ := hW
  have hA : DataW.TrodAll enc Try.prog W 0 (fun _ => true) true Try.f10.params.toList args.toList ds p := hA0
  rw [Try.params10] at hA hval
  obtain ⟨v0, vs0, d0, ds0, p0, q0, hargs, rfl, rfl, h0, r0⟩ := trodAll_cons hA
  obtain ⟨v1, vs1, d1, ds1, p1, q1, rfl, rfl, rfl, h1, r1⟩ := trodAll_cons r0
  obtain ⟨rfl, rfl, rfl⟩ := trodAll_nil r1
  obtain rfl : args = #[v0, v1] := by cases args; simp_all
  obtain ⟨rfl, rfl⟩ := trodVars_none hV
  have k0 := h0
  have lt0 : ∀ x ∈ p0, x.block < W.heap.size := by obtain ⟨m, hm⟩ := k0; exact DataW.trod_lt m _ _ _ hm
  obtain ⟨a0, c0, x0, rfl, w0⟩ := ints_of_arg (hval 0 29 v0 rfl rfl) h0
  have k1 := h1
  have lt1 : ∀ x ∈ p1, x.block < W.heap.size := by obtain ⟨m, hm⟩ := k1; exact DataW.trod_lt m _ _ _ hm
  obtain ⟨a1, c1, x1, rfl, w1⟩ := ints_of_arg (hval 1 29 v1 rfl rfl) h1
  clear hA0 hval0
  refine (walk a0 c0 x0 a1 c1 x1 W w0 w1).mono fun e W' ⟨he, bel⟩ => ?_
  subst he
  exact ⟨_, rfl, _, _, _, [], _, [], hW', trodAll_mk1 (shut_bool Try.underlying4 _), (trodAll_cons_mk (Below.trod Try.laidOut (by kernel_rfl) (of_decide_eq_true (by kernel_rfl)) k0 bel lt0) (trodAll_cons_mk (Below.trod Try.laidOut (by kernel_rfl) (of_decide_eq_true (by kernel_rfl)) k1 bel lt1) trodAll_mk0)), rfl, bel.frame _, fun h => by cases h⟩

theorem over : Rows.fnExactNatCmpRow.holds Try.pinned (OpenSpec.ofChange Rows.fnExactNatCmpSpec) :=
  OpenClaim.holds_of_wide 10 Try.f10 rfl rfl rfl rfl rfl rfl rfl ⟨rfl, rfl, rfl, rfl, rfl⟩ rfl rfl rfl rfl rfl (by kernel_rfl) Try.func10 (closed_of 10 Try.f10 Rows.fnExactNatCmpSpec Rows.fnExactNatCmpRow prog_facts (by kernel_rfl) rfl rfl)
    (of_decide_eq_true (by kernel_rfl)) (by unfold Func.isWrapper; first | (rw [if_pos (by decide +kernel)]; kernel_rfl) | (rw [if_neg (by decide +kernel)]; exact ⟨rfl, rfl⟩))
    (fun os started H enc _ => lifted os started H enc)

theorem proved : Rows.FnExactNatCmpSaid := over
#print axioms proved
end Go.Proofs.Ytlcjibkpmfglcaa.fnExactNatCmp
