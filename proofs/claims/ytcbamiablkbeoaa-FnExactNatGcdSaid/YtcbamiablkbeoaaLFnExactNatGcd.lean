/- For every input the law FnExactNatGcd returns true, and its arguments read afterwards as they read before. No condition. -/
import Derived.Test.YtcbamiablkbeoaaFrame
import Derived.Test.YtcbamiablkbeoaaLaws2
import Derived.Test.YtcbamiablkbeoaaGcdW
namespace Go.Proofs.Ytcbamiablkbeoaa.fnExactNatGcd
set_option linter.unusedVariables false
set_option linter.unusedSimpArgs false
open Go.ChangeShapes Go.WideShapes Go.ChangeAt Go.RowKit
open Go.ChangeMaps (open_string shut_string)

set_option maxRecDepth 100000 in
set_option maxHeartbeats 8000000 in
theorem walk (a0 : Option Addr) (c0 : Nat) (x0 : List Int) (a1 : Option Addr) (c1 : Nat) (x1 : List Int) (w : World) (w0 : IntsAt w a0 c0 x0) (w1 : IntsAt w a1 c1 x1) :
    Calls Try.prog 12 #[.slice a0 x0.length c0, .slice a1 x1.length c1] w fun e w' => e = .returned (.bool true) ∧ Below w.heap.size w w' := by
  by_cases n0 : x0.length ≤ 1048576
  case neg =>
    go_enter Try.func12, Try.ntmps12
    go_wp2
    go_ret
    exact ⟨rfl, Below.refl _ _⟩
  by_cases n1 : x1.length ≤ 1048576
  case neg =>
    go_enter Try.func12, Try.ntmps12
    go_wp2
    go_ret
    exact ⟨rfl, Below.refl _ _⟩
  have l0 := natGcdL_len x0 x1
  go_enter Try.func12, Try.ntmps12
  go_wp2_with fail
  refine (toIntS_own _ _ x0 _ w0 n0).mono ?_
  rintro e W1 ⟨as00, cs00, rfl, os0, b1⟩
  have s1 := b1.size
  go_wp2_with fail
  have h1 : Below w.heap.size w W1 := (bstep (Below.refl _ _) b1)
  refine (toIntS_own _ _ x1 _ (w1.below h1) n1).mono ?_
  rintro e W2 ⟨as10, cs10, rfl, os1, b2⟩
  have s2 := b2.size
  go_wp2_with fail
  have f2 := (os0.below b2)
  refine (specNatGcd_any _ _ x0 _ _ x1 _ f2.ints n0 os1.ints n1).mono ?_
  rintro e W3 ⟨at00, ct00, rfl, it00, b3⟩
  have s3 := b3.size
  go_wp2_with fail
  have h3 : Below w.heap.size w W3 := (bstep (bstep h1 b2) b3)
  refine (toIntS_own _ _ x0 _ (w0.below h3) n0).mono ?_
  rintro e W4 ⟨ax00, cx00, rfl, ox0, b4⟩
  have s4 := b4.size
  go_wp2_with fail
  have h4 : Below w.heap.size w W4 := (bstep h3 b4)
  refine (toIntS_own _ _ x1 _ (w1.below h4) n1).mono ?_
  rintro e W5 ⟨ax10, cx10, rfl, ox1, b5⟩
  have s5 := b5.size
  go_wp2_with fail
  have f5 := (ox0.below b5)
  refine (implNatGcd_any _ _ x0 _ _ x1 _ f5.ints n0 ox1.ints n1).mono ?_
  rintro e W6 ⟨ag00, cg00, rfl, og0, b6⟩
  have s6 := b6.size
  go_wp2_with fail
  have h6 : Below W3.heap.size W3 W6 := (bstep (bstep (bstep (Below.refl _ _) b4) b5) b6)
  refine (eqIntS_same _ _ _ _ (natGcdL x0 x1) _ og0.ints (it00.below h6) l0).mono ?_
  rintro e W7 ⟨rfl, b7⟩
  have s7 := b7.size
  go_wp2_with fail
  have h7 : Below w.heap.size w W7 := (bstep (bstep (bstep h4 b5) b6) b7)
  refine (toIntS_own _ _ x0 _ (w0.below h7) n0).mono ?_
  rintro e W8 ⟨ay00, cy00, rfl, oy0, b8⟩
  have s8 := b8.size
  go_wp2_with fail
  have f8 := (((f5.below b6).below b7).below b8)
  refine (eqIntS_same _ _ _ _ (x0) _ f8.ints oy0.ints n0).mono ?_
  rintro e W9 ⟨rfl, b9⟩
  have s9 := b9.size
  go_wp2_with fail
  have h9 : Below w.heap.size w W9 := (bstep (bstep h7 b8) b9)
  refine (toIntS_own _ _ x1 _ (w1.below h9) n1).mono ?_
  rintro e W10 ⟨ay10, cy10, rfl, oy1, b10⟩
  have s10 := b10.size
  go_wp2_with fail
  have f10 := (((((ox1.below b6).below b7).below b8).below b9).below b10)
  refine (eqIntS_same _ _ _ _ (x1) _ f10.ints oy1.ints n1).mono ?_
  rintro e W11 ⟨rfl, b11⟩
  have s11 := b11.size
  go_wp2_with fail
  have f11 := (((f8.below b9).below b10).below b11)
  refine (markIntS_own _ _ (x0) _ _ f11 n0 (by omega) (by omega)).mono ?_
  rintro e W12 ⟨rfl, mx0x12, b12, -⟩
  have s12 := b12.size
  go_wp2_with fail
  have f12 := ((f10.below b11).span b12 (by omega))
  refine (markIntS_own _ _ (x1) _ _ f12 n1 (by omega) (by omega)).mono ?_
  rintro e W13 ⟨rfl, mx1x13, b13, -⟩
  have s13 := b13.size
  go_wp2_with fail
  have f13 := (((((((og0.below b7).below b8).below b9).below b10).below b11).span b12 (by omega)).span b13 (by omega))
  have h14 : Below W3.heap.size W3 W13 := (bspan (bspan (bstep (bstep (bstep (bstep (bstep h6 b7) b8) b9) b10) b11) b12 (by omega)) b13 (by omega))
  refine (eqIntS_same _ _ _ _ (natGcdL x0 x1) _ f13.ints (it00.below h14) l0).mono ?_
  rintro e W14 ⟨rfl, b14⟩
  have s14 := b14.size
  go_wp2_with fail
  have f15 := (f13.below b14)
  refine (markIntS_own _ _ (natGcdL x0 x1) _ _ f15 l0 (by omega) (by omega)).mono ?_
  rintro e W15 ⟨rfl, mg0x15, b15, -⟩
  have s15 := b15.size
  go_wp2_with fail
  refine (heldIntS_own2 _ _ _ _ _ mg0x15 l0 (by omega) (by omega)).mono ?_
  rintro e W16 ⟨rfl, b16⟩
  have s16 := b16.size
  go_wp2_with fail
  have h16 : Below w.heap.size w W16 := (bstep (bspan (bstep (bspan (bspan (bstep (bstep h9 b10) b11) b12 (by omega)) b13 (by omega)) b14) b15 (by omega)) b16)
  refine (toIntS_own _ _ x0 _ (w0.below h16) n0).mono ?_
  rintro e W17 ⟨az00, cz00, rfl, oz0, b17⟩
  have s17 := b17.size
  go_wp2_with fail
  have h17 : Below w.heap.size w W17 := (bstep h16 b17)
  refine (toIntS_own _ _ x1 _ (w1.below h17) n1).mono ?_
  rintro e W18 ⟨az10, cz10, rfl, oz1, b18⟩
  have s18 := b18.size
  go_wp2_with fail
  have f18 := (oz0.below b18)
  refine (implNatGcd_any _ _ x0 _ _ x1 _ f18.ints n0 oz1.ints n1).mono ?_
  rintro e W19 ⟨ah00, ch00, rfl, oh0, b19⟩
  have s19 := b19.size
  go_wp2_with fail
  have h19 : Below W3.heap.size W3 W19 := (bstep (bstep (bstep (bstep (bspan (bstep h14 b14) b15 (by omega)) b16) b17) b18) b19)
  refine (eqIntS_same _ _ _ _ (natGcdL x0 x1) _ oh0.ints (it00.below h19) l0).mono ?_
  rintro e W20 ⟨rfl, b20⟩
  have s20 := b20.size
  go_wp2_with fail
  have f20 := (((((mg0x15.below b16).below b17).below b18).below b19).below b20)
  refine (heldIntS_own2 _ _ _ _ _ f20 l0 (by omega) (by omega)).mono ?_
  rintro e W21 ⟨rfl, b21⟩
  have s21 := b21.size
  go_wp2
  go_ret
  have h21 : Below w.heap.size w W21 := (bstep (bstep (bstep (bstep h17 b18) b19) b20) b21)
  exact ⟨rfl, h21⟩

set_option maxRecDepth 100000 in
theorem lifted (os : Os) (started : os.Started) (H : Type) (enc : TypeId × Value → H) :
    ReturnsInHanded {} Try.checked os 12 .any (Rows.fnExactNatGcdSpec.pre6 enc Try.prog Try.f12 Rows.fnExactNatGcdRow.domain false) (Rows.fnExactNatGcdSpec.post enc Try.prog Try.f12 false true false false) := by
  refine returnsInHanded_of_change (C := Try.checked) Try.own started (by kernel_rfl) Try.func12
    (ChangeSpec.witness6 (enc := enc) (C := Try.checked) false ⟨#[], #[.slice none 0 0, .slice none 0 0], []⟩ 8 (by kernel_rfl) (by kernel_rfl) (by kernel_rfl) (by kernel_rfl)) ?_
  intro W base args ds gs before hval0 hW hcnd _
  have hval : ∀ (j : Nat) t v, Try.f12.params[j]? = some t → args[j]? = some v → Value.okWide Try.prog W .any base t v := hval0
  have hW' := hW
  obtain ⟨p, q, hA0, hV, rfl, hfz, hnd⟩ := hW
  have hA : DataW.TrodAll enc Try.prog W 0 (fun _ => true) true Try.f12.params.toList args.toList ds p := hA0
  rw [Try.params12] at hA hval
  obtain ⟨v0, vs0, d0, ds0, p0, q0, hargs, rfl, rfl, h0, r0⟩ := trodAll_cons hA
  obtain ⟨v1, vs1, d1, ds1, p1, q1, rfl, rfl, rfl, h1, r1⟩ := trodAll_cons r0
  obtain ⟨rfl, rfl, rfl⟩ := trodAll_nil r1
  obtain rfl : args = #[v0, v1] := by cases args; simp_all
  obtain ⟨rfl, rfl⟩ := trodVars_none hV
  have k0 := h0
  have lt0 : ∀ x ∈ p0, x.block < W.heap.size := by obtain ⟨m, hm⟩ := k0; exact DataW.trod_lt m _ _ _ hm
  obtain ⟨a0, c0, x0, rfl, w0⟩ := ints_of_arg (hval 0 27 v0 rfl rfl) h0
  have k1 := h1
  have lt1 : ∀ x ∈ p1, x.block < W.heap.size := by obtain ⟨m, hm⟩ := k1; exact DataW.trod_lt m _ _ _ hm
  obtain ⟨a1, c1, x1, rfl, w1⟩ := ints_of_arg (hval 1 27 v1 rfl rfl) h1
  clear hA0 hval0
  refine (walk a0 c0 x0 a1 c1 x1 W w0 w1).mono fun e W' ⟨he, bel⟩ => ?_
  subst he
  exact ⟨_, rfl, _, _, _, [], _, [], hW', trodAll_mk1 (shut_bool Try.underlying4 _), (trodAll_cons_mk (Below.trod Try.laidOut (by kernel_rfl) (of_decide_eq_true (by kernel_rfl)) k0 bel lt0) (trodAll_cons_mk (Below.trod Try.laidOut (by kernel_rfl) (of_decide_eq_true (by kernel_rfl)) k1 bel lt1) trodAll_mk0)), rfl, bel.frame _, fun h => by cases h⟩

theorem over : Rows.fnExactNatGcdRow.holds Try.pinned (OpenSpec.ofChange Rows.fnExactNatGcdSpec) :=
  OpenClaim.holds_of_wide 12 Try.f12 rfl rfl rfl rfl rfl rfl rfl ⟨rfl, rfl, rfl, rfl, rfl⟩ rfl rfl rfl rfl rfl (by kernel_rfl) Try.func12 (closed_of 12 Try.f12 Rows.fnExactNatGcdSpec Rows.fnExactNatGcdRow prog_facts (by kernel_rfl) rfl rfl)
    (of_decide_eq_true (by kernel_rfl)) (by unfold Func.isWrapper; first | (rw [if_pos (by decide +kernel)]; kernel_rfl) | (rw [if_neg (by decide +kernel)]; exact ⟨rfl, rfl⟩))
    (fun os started H enc _ => lifted os started H enc)

theorem proved : Rows.FnExactNatGcdSaid := over
#print axioms proved
end Go.Proofs.Ytcbamiablkbeoaa.fnExactNatGcd
