/- For every input the law FnExactNatSub returns true, and its arguments read afterwards as they read before. No condition. -/
import Derived.Test.YtlcjibkpmfglcaaFrame
import Derived.Test.YtlcjibkpmfglcaaLaws1
import Derived.Test.YtlcjibkpmfglcaaNatSub
namespace Go.Proofs.Ytlcjibkpmfglcaa.fnExactNatSub
set_option linter.unusedVariables false
set_option linter.unusedSimpArgs false
open Go.ChangeShapes Go.WideShapes Go.ChangeAt Go.RowKit
open Go.ChangeMaps (open_string shut_string)

set_option maxHeartbeats 2000000 in
theorem walk (a0 : Option Addr) (c0 : Nat) (x0 : List Int) (a1 : Option Addr) (c1 : Nat) (x1 : List Int) (w : World) (w0 : IntsAt w a0 c0 x0) (w1 : IntsAt w a1 c1 x1) :
    Calls Try.prog 13 #[.slice a0 x0.length c0, .slice a1 x1.length c1] w fun e w' => e = .returned (.bool true) ∧ Below w.heap.size w w' := by
  by_cases n0 : x0.length ≤ 1048576
  case neg =>
    go_enter Try.func13, Try.ntmps13
    go_wp2
    go_ret
    exact ⟨rfl, Below.refl _ _⟩
  by_cases n1 : x1.length ≤ 1048576
  case neg =>
    go_enter Try.func13, Try.ntmps13
    go_wp2
    go_ret
    exact ⟨rfl, Below.refl _ _⟩
  have l0 := natSubL_len x0 x1
  go_enter Try.func13, Try.ntmps13
  go_wp2_with fail
  refine (toIntS_own _ _ x0 w w0 n0).mono ?_
  rintro e W1 ⟨as00, cs00, rfl, os00, b1⟩
  have s1 := b1.size
  go_wp2_with fail
  have h1 := (bstep (Below.refl w.heap.size w) b1)
  refine (toIntS_own _ _ x1 W1 (w1.below h1) n1).mono ?_
  rintro e W2 ⟨as10, cs10, rfl, os10, b2⟩
  have s2 := b2.size
  go_wp2_with fail
  have f2 := (os00.below b2)
  refine (specNatSub_any _ _ x0 _ _ x1 W2 f2.ints n0 os10.ints n1).mono ?_
  rintro e W3 ⟨at00, ct00, rfl, ot00, b3⟩
  have s3 := b3.size
  go_wp2_with fail
  have h3 := (bstep (bstep h1 b2) b3)
  refine (toIntS_own _ _ x0 W3 (w0.below h3) n0).mono ?_
  rintro e W4 ⟨ax00, cx00, rfl, ox00, b4⟩
  have s4 := b4.size
  go_wp2_with fail
  have h4 := (bstep h3 b4)
  refine (toIntS_own _ _ x1 W4 (w1.below h4) n1).mono ?_
  rintro e W5 ⟨ax10, cx10, rfl, ox10, b5⟩
  have s5 := b5.size
  go_wp2_with fail
  have f5 := (ox00.below b5)
  refine (implNatSub_any _ _ x0 _ _ x1 W5 f5.ints n0 ox10.ints n1).mono ?_
  rintro e W6 ⟨ag00, cg00, rfl, og00, b6⟩
  have s6 := b6.size
  have h6 := (bstep (bstep (bstep (Below.refl W3.heap.size W3) b4) b5) b6)
  go_wp2_with fail
  refine (eqIntS_same  _ _ _ _ (natSubL x0 x1) W6 og00.ints (ot00.below h6) l0).mono ?_
  rintro e W7 ⟨rfl, b7⟩
  have s7 := b7.size
  go_wp2_with fail
  have h7 := (bstep (bstep (bstep h4 b5) b6) b7)
  refine (toIntS_own _ _ x0 W7 (w0.below h7) n0).mono ?_
  rintro e W8 ⟨ay00, cy00, rfl, oy00, b8⟩
  have s8 := b8.size
  have f8 := (((f5.below b6).below b7).below b8)
  go_wp2_with fail
  refine (eqIntS_same  _ _ _ _ (x0) W8 f8.ints oy00.ints n0).mono ?_
  rintro e W9 ⟨rfl, b9⟩
  have s9 := b9.size
  go_wp2_with fail
  have h9 := (bstep (bstep h7 b8) b9)
  refine (toIntS_own _ _ x1 W9 (w1.below h9) n1).mono ?_
  rintro e W10 ⟨ay10, cy10, rfl, oy10, b10⟩
  have s10 := b10.size
  have f10 := (((((ox10.below b6).below b7).below b8).below b9).below b10)
  go_wp2_with fail
  refine (eqIntS_same  _ _ _ _ (x1) W10 f10.ints oy10.ints n1).mono ?_
  rintro e W11 ⟨rfl, b11⟩
  have s11 := b11.size
  go_wp2_with fail
  have f11 := (((f8.below b9).below b10).below b11)
  refine (markIntS_own  _ _ (x0) _ W11 f11 n0 (by omega) (by omega)).mono ?_
  rintro e W12 ⟨rfl, mx00x12, b12, -⟩
  have s12 := b12.size
  go_wp2_with fail
  have f12 := ((f10.below b11).span b12 (by omega))
  refine (markIntS_own  _ _ (x1) _ W12 f12 n1 (by omega) (by omega)).mono ?_
  rintro e W13 ⟨rfl, mx10x13, b13, -⟩
  have s13 := b13.size
  have f13 := (((((((og00.below b7).below b8).below b9).below b10).below b11).span b12 (by omega)).span b13 (by omega))
  have h14 := (bspan (bspan (bstep (bstep (bstep (bstep (bstep h6 b7) b8) b9) b10) b11) b12 (by omega)) b13 (by omega))
  go_wp2_with fail
  refine (eqIntS_same  _ _ _ _ (natSubL x0 x1) W13 f13.ints (ot00.below h14) l0).mono ?_
  rintro e W14 ⟨rfl, b14⟩
  have s14 := b14.size
  go_wp2_with fail
  have f15 := (f13.below b14)
  refine (markIntS_own  _ _ (natSubL x0 x1) _ W14 f15 l0 (by omega) (by omega)).mono ?_
  rintro e W15 ⟨rfl, mg00x15, b15, -⟩
  have s15 := b15.size
  go_wp2_with fail
  refine (heldIntS_own  _ _ _ _ W15 mg00x15 l0 (by omega) (by omega)).mono ?_
  rintro e W16 ⟨rfl, rfl⟩
  go_wp2_with fail
  have h16 := (bspan (bstep (bspan (bspan (bstep (bstep h9 b10) b11) b12 (by omega)) b13 (by omega)) b14) b15 (by omega))
  refine (toIntS_own _ _ x0 W15 (w0.below h16) n0).mono ?_
  rintro e W16 ⟨az00, cz00, rfl, oz00, b16⟩
  have s16 := b16.size
  go_wp2_with fail
  have h17 := (bstep h16 b16)
  refine (toIntS_own _ _ x1 W16 (w1.below h17) n1).mono ?_
  rintro e W17 ⟨az10, cz10, rfl, oz10, b17⟩
  have s17 := b17.size
  go_wp2_with fail
  have f18 := (oz00.below b17)
  refine (implNatSub_any _ _ x0 _ _ x1 W17 f18.ints n0 oz10.ints n1).mono ?_
  rintro e W18 ⟨ah00, ch00, rfl, oh00, b18⟩
  have s18 := b18.size
  have h19 := (bstep (bstep (bstep (bspan (bstep h14 b14) b15 (by omega)) b16) b17) b18)
  go_wp2_with fail
  refine (eqIntS_same  _ _ _ _ (natSubL x0 x1) W18 oh00.ints (ot00.below h19) l0).mono ?_
  rintro e W19 ⟨rfl, b19⟩
  have s19 := b19.size
  go_wp2_with fail
  have f20 := ((((mg00x15.below b16).below b17).below b18).below b19)
  refine (heldIntS_own  _ _ _ _ W19 f20 l0 (by omega) (by omega)).mono ?_
  rintro e W20 ⟨rfl, rfl⟩
  go_wp2
  go_ret
  have h21 := (bstep (bstep (bstep h17 b17) b18) b19)
  exact ⟨rfl, h21⟩

set_option maxRecDepth 100000 in
theorem lifted (os : Os) (started : os.Started) (H : Type) (enc : TypeId × Value → H) :
    ReturnsInHanded {} Try.checked os 13 .any (Rows.fnExactNatSubSpec.pre6 enc Try.prog Try.f13 Rows.fnExactNatSubRow.domain false) (Rows.fnExactNatSubSpec.post enc Try.prog Try.f13 false true false false) := by
  refine returnsInHanded_of_change (C := Try.checked) Try.own started (by kernel_rfl) Try.func13
    (ChangeSpec.witness6 (enc := enc) (C := Try.checked) false ⟨#[], #[.slice none 0 0, .slice none 0 0], []⟩ 8 (by kernel_rfl) (by kernel_rfl) (by kernel_rfl) (by kernel_rfl)) ?_
  intro W base args ds gs before hval0 hW hcnd _
  have hval : ∀ (j : Nat) t v, Try.f13.params[j]? = some t → args[j]? = some v → Value.okWide Try.prog W .any base t v := hval0
  have hW' := hW
  obtain ⟨p, q, hA0, hV, rfl, hfz, hnd⟩ := hW
  have hA : DataW.TrodAll enc Try.prog W 0 (fun _ => true) true Try.f13.params.toList args.toList ds p := hA0
  rw [Try.params13] at hA hval
  obtain ⟨v0, vs0, d0, ds0, p0, q0, hargs, rfl, rfl, h0, r0⟩ := trodAll_cons hA
  obtain ⟨v1, vs1, d1, ds1, p1, q1, rfl, rfl, rfl, h1, r1⟩ := trodAll_cons r0
  obtain ⟨rfl, rfl, rfl⟩ := trodAll_nil r1
  obtain rfl : args = #[v0, v1] := by cases args; simp_all
  obtain ⟨rfl, rfl⟩ := trodVars_none hV
  have k0 := h0
  have lt0 : ∀ x ∈ p0, x.block < W.heap.size := by obtain ⟨m, hm⟩ := k0; exact DataW.trod_lt m _ _ _ hm
  obtain ⟨a0, c0, x0, rfl, w0⟩ := ints_of_arg (hval 0 29 v0 rfl rfl) h0
  have k1 := h1
  have lt1 : ∀ x ∈ p1, x.block < W.heap.size := by obtain ⟨m, hm⟩ := k1; exact DataW.trod_lt m _ _ _ hm
  obtain ⟨a1, c1, x1, rfl, w1⟩ := ints_of_arg (hval 1 29 v1 rfl rfl) h1
  clear hA0 hval0
  refine (walk a0 c0 x0 a1 c1 x1 W w0 w1).mono fun e W' ⟨he, bel⟩ => ?_
  subst he
  exact ⟨_, rfl, _, _, _, [], _, [], hW', trodAll_mk1 (shut_bool Try.underlying4 _), (trodAll_cons_mk (Below.trod Try.laidOut (by kernel_rfl) (of_decide_eq_true (by kernel_rfl)) k0 bel lt0) (trodAll_cons_mk (Below.trod Try.laidOut (by kernel_rfl) (of_decide_eq_true (by kernel_rfl)) k1 bel lt1) trodAll_mk0)), rfl, bel.frame _, fun h => by cases h⟩

theorem over : Rows.fnExactNatSubRow.holds Try.pinned (OpenSpec.ofChange Rows.fnExactNatSubSpec) :=
  OpenClaim.holds_of_wide 13 Try.f13 rfl rfl rfl rfl rfl rfl rfl ⟨rfl, rfl, rfl, rfl, rfl⟩ rfl rfl rfl rfl rfl (by kernel_rfl) Try.func13 (closed_of 13 Try.f13 Rows.fnExactNatSubSpec Rows.fnExactNatSubRow prog_facts (by kernel_rfl) rfl rfl)
    (of_decide_eq_true (by kernel_rfl)) (by unfold Func.isWrapper; first | (rw [if_pos (by decide +kernel)]; kernel_rfl) | (rw [if_neg (by decide +kernel)]; exact ⟨rfl, rfl⟩))
    (fun os started H enc _ => lifted os started H enc)

theorem proved : Rows.FnExactNatSubSaid := over
#print axioms proved
end Go.Proofs.Ytlcjibkpmfglcaa.fnExactNatSub
