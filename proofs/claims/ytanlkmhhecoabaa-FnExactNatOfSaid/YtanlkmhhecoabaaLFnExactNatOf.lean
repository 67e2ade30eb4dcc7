/- For every input the law FnExactNatOf returns true, and its arguments read afterwards as they read before. No condition. -/
import Derived.Test.YtanlkmhhecoabaaFrame
import Derived.Test.YtanlkmhhecoabaaLaws1
import Derived.Test.YtanlkmhhecoabaaNatOf
namespace Go.Proofs.Ytanlkmhhecoabaa.fnExactNatOf
open Go.ChangeShapes Go.WideShapes Go.ChangeAt Go.RowKit
open Go.ChangeMaps (open_string shut_string)
set_option linter.unusedVariables false
set_option linter.unusedSimpArgs false

set_option maxHeartbeats 2000000 in
theorem walk (a0 : Int) (w : World) (w0 : In64 a0) :
    Calls Try.prog 7 #[.int .i64 a0] w fun e w' => e = .returned (.bool true) ∧ Below w.heap.size w w' := by
  have l0 : (digs a0.toNat).length ≤ 1048576 := by (have : (digs a0.toNat).length ≤ 3 := digs_len_le (by unfold In64 at w0; unfold pw; omega)); omega
  go_enter Try.func7, Try.ntmps7
  go_wp2_with fail
  refine (specNatOf_any a0 w w0).mono ?_
  rintro e w1 ⟨at00, ct00, rfl, ot00, b1⟩
  have s1 := b1.size
  go_wp2_with fail
  refine (implNatOf_any a0 w1 w0).mono ?_
  rintro e w2 ⟨ag00, cg00, rfl, og00, b2⟩
  have s2 := b2.size
  have h1 := (bstep (Below.refl w1.heap.size w1) b2)
  go_wp2_with fail
  refine (eqIntS_same  _ _ _ _ (digs a0.toNat) w2 og00.ints (ot00.below h1) l0).mono ?_
  rintro e w3 ⟨rfl, b3⟩
  have s3 := b3.size
  go_wp2_with fail
  have f2 := (og00.below b3)
  refine (markIntS_own  _ _ (digs a0.toNat) _ w3 f2 l0 (by omega) (by omega)).mono ?_
  rintro e w4 ⟨rfl, mg00x4, b4, -⟩
  have s4 := b4.size
  go_wp2_with fail
  refine (heldIntS_own  _ _ _ _ w4 mg00x4 l0 (by omega) (by omega)).mono ?_
  rintro e w5 ⟨rfl, rfl⟩
  go_wp2_with fail
  refine (implNatOf_any a0 w4 w0).mono ?_
  rintro e w5 ⟨ah00, ch00, rfl, oh00, b5⟩
  have s5 := b5.size
  have h3 := (bstep (bspan (bstep h1 b3) b4 (by omega)) b5)
  go_wp2_with fail
  refine (eqIntS_same  _ _ _ _ (digs a0.toNat) w5 oh00.ints (ot00.below h3) l0).mono ?_
  rintro e w6 ⟨rfl, b6⟩
  have s6 := b6.size
  go_wp2_with fail
  have f4 := ((mg00x4.below b5).below b6)
  refine (heldIntS_own  _ _ _ _ w6 f4 l0 (by omega) (by omega)).mono ?_
  rintro e w7 ⟨rfl, rfl⟩
  go_wp2
  go_ret
  have h5 := (bstep (bstep (bspan (bstep (bstep (bstep (Below.refl w.heap.size w) b1) b2) b3) b4 (by omega)) b5) b6)
  exact ⟨rfl, h5⟩

set_option maxRecDepth 100000 in
theorem lifted (os : Os) (started : os.Started) (H : Type) (enc : TypeId × Value → H) :
    ReturnsInHanded {} Try.checked os 7 .any (Rows.fnExactNatOfSpec.pre6 enc Try.prog Try.f7 Rows.fnExactNatOfRow.domain false) (Rows.fnExactNatOfSpec.post enc Try.prog Try.f7 false true false false) := by
  refine returnsInHanded_of_change (C := Try.checked) Try.own started (by kernel_rfl) Try.func7
    (ChangeSpec.witness6 (enc := enc) (C := Try.checked) false ⟨#[], #[.int .i64 0], []⟩ 8 (by kernel_rfl) (by kernel_rfl) (by kernel_rfl) (by kernel_rfl)) ?_
  intro W base args ds gs before hval0 hW hcnd _
  have hval : ∀ (j : Nat) t v, Try.f7.params[j]? = some t → args[j]? = some v → Value.okWide Try.prog W .any base t v := hval0
  have hW' := hW
  obtain ⟨p, q, hA0, hV, rfl, hfz, hnd⟩ := hW
  have hA : DataW.TrodAll enc Try.prog W 0 (fun _ => true) true Try.f7.params.toList args.toList ds p := hA0
  rw [Try.params7] at hA hval
  obtain ⟨v0, vs0, d0, ds0, p0, q0, hargs, rfl, rfl, h0, r0⟩ := trodAll_cons hA
  obtain ⟨rfl, rfl, rfl⟩ := trodAll_nil r0
  obtain rfl : args = #[v0] := by cases args; simp_all
  obtain ⟨rfl, rfl⟩ := trodVars_none hV
  have k0 := h0
  have lt0 : ∀ x ∈ p0, x.block < W.heap.size := by obtain ⟨m, hm⟩ := k0; exact DataW.trod_lt m _ _ _ hm
  obtain ⟨a0, rfl, rfl, rfl, w0⟩ := open_int Try.underlying3 (hval 0 3 v0 rfl rfl) h0
  clear hA0 hval0
  refine (walk a0 W (in64_of_wf w0)).mono fun e W' ⟨he, bel⟩ => ?_
  subst he
  exact ⟨_, rfl, _, _, _, [], _, [], hW', trodAll_mk1 (shut_bool Try.underlying4 _), (trodAll_cons_mk (Below.trod Try.laidOut (by kernel_rfl) (of_decide_eq_true (by kernel_rfl)) k0 bel lt0) trodAll_mk0), rfl, bel.frame _, fun h => by cases h⟩

theorem over : Rows.fnExactNatOfRow.holds Try.pinned (OpenSpec.ofChange Rows.fnExactNatOfSpec) :=
  OpenClaim.holds_of_wide 7 Try.f7 rfl rfl rfl rfl rfl rfl rfl ⟨rfl, rfl, rfl, rfl, rfl⟩ rfl rfl rfl rfl rfl (by kernel_rfl) Try.func7 (by kernel_rfl)
    (of_decide_eq_true (by kernel_rfl)) (by unfold Func.isWrapper; first | (rw [if_pos (by decide +kernel)]; kernel_rfl) | (rw [if_neg (by decide +kernel)]; exact ⟨rfl, rfl⟩))
    (fun os started H enc _ => lifted os started H enc)

theorem proved : Rows.FnExactNatOfSaid := over
#print axioms proved
end Go.Proofs.Ytanlkmhhecoabaa.fnExactNatOf
