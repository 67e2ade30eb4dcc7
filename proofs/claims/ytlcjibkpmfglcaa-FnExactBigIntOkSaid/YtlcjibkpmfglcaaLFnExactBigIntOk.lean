/- For every input the law FnExactBigIntOk returns true, and its arguments read afterwards as they read before. No condition. -/
import Derived.Deep.RegionHeld3
import Derived.Test.YtlcjibkpmfglcaaFrameB
import Derived.Test.YtlcjibkpmfglcaaTyB
namespace Go.Proofs.Ytlcjibkpmfglcaa.fnExactBigIntOk
set_option linter.unusedVariables false
set_option linter.unusedSimpArgs false
open Go.ChangeShapes Go.WideShapes Go.ChangeAt Go.RowKit
open Go.ChangeMaps (open_string shut_string)

set_option maxHeartbeats 1000000 in
theorem walk (n00 : Bool) (a000 : Option Addr) (c000 : Nat) (x000 : List Int) (w : World) (w000 : IntsAt w a000 c000 x000) :
    Calls Try.prog 15 #[.agg #[.bool n00, .slice a000 x000.length c000]] w fun e w' => e = .returned (.bool true) ∧ Below w.heap.size w w' := by
  by_cases n000 : x000.length ≤ 1048576
  case neg =>
    go_enter Try.func15, Try.ntmps15
    go_wp2_with fail
    refine (szBigInt_any n00 _ _ x000 1048576 _ (by omega) (by omega) w000.len63).mono ?_
    rintro e W1 ⟨rfl, b1⟩
    rw [if_pos (by omega)]
    have B1 := bstep (ba1 _ _) b1
    go_wp2
    go_ret
    exact ⟨rfl, B1⟩
  go_enter Try.func15, Try.ntmps15
  go_wp2_with fail
  refine (szBigInt_any n00 _ _ x000 1048576 _ (by omega) (by omega) w000.len63).mono ?_
  rintro e W1 ⟨rfl, b1⟩
  rw [if_neg (by omega)]
  have B1 := bstep (ba1 _ _) b1
  have X0 : W1.cell? ⟨w.heap.size, 0, none⟩ = some (.bool n00) := box_cell b1 0 rfl
  have X1 : W1.cell? ⟨w.heap.size, 1, none⟩ = some (.slice a000 x000.length c000) := box_cell b1 1 rfl
  have HB1 := Lib.hid b1
  clear b1
  go_wp2_with fail
  refine (toBigInt_own n00 _ _ x000 _ (w000.below B1) n000).mono ?_
  rintro e W2 ⟨p1, q1, rfl, o1, b2⟩
  have B2 := bstep B1 b2
  have X0 := cell_step X0 b2
  have X1 := cell_step X1 b2
  go_wp2_with fail
  refine (specBigIntOk_any n00 _ _ x000 _ o1.ints n000).mono ?_
  rintro e W3 ⟨rfl, b3⟩
  have B3 := bstep B2 b3
  have X0 := cell_step X0 b3
  have X1 := cell_step X1 b3
  go_wp2_with fail
  refine (toBigInt_own n00 _ _ x000 _ (w000.below B3) n000).mono ?_
  rintro e W4 ⟨p2, q2, rfl, o2, b4⟩
  have B4 := bstep B3 b4
  have X0 := cell_step X0 b4
  have X1 := cell_step X1 b4
  go_wp2_with fail
  refine (implBigIntOk_any n00 _ _ x000 _ (o2.below (ba1 _ _)).ints n000).mono ?_
  rintro e W5 ⟨rfl, b5⟩
  have Y0 : W5.cell? ⟨W4.heap.size, 0, none⟩ = some (.bool n00) := box_cell b5 0 rfl
  have Y1 : W5.cell? ⟨W4.heap.size, 1, none⟩ = some (.slice p2 x000.length q2) := box_cell b5 1 rfl
  have b5 := bstep (ba1 _ _) b5
  have B5 := bstep B4 b5
  have X0 := cell_step X0 b5
  have X1 := cell_step X1 b5
  have O2 := o2.below b5
  go_wp2_with fail
  go_region_held3 (fun w' => w'.cell? ⟨w.heap.size, 0, none⟩ = some (.bool n00) ∧ w'.cell? ⟨w.heap.size, 1, none⟩ = some (.slice a000 x000.length c000) ∧ w'.cell? ⟨W4.heap.size, 0, none⟩ = some (.bool n00) ∧ w'.cell? ⟨W4.heap.size, 1, none⟩ = some (.slice p2 x000.length q2))
    ((first | exact ⟨X0, X1, Y0, Y1⟩ | exact ⟨cell_stepD X0 b6, cell_stepD X1 b6, cell_stepD Y0 b6, cell_stepD Y1 b6⟩ | exact ⟨cell_step (cell_stepD X0 b6) b7, cell_step (cell_stepD X1 b6) b7, cell_step (cell_stepD Y0 b6) b7, cell_step (cell_stepD Y1 b6) b7⟩))
    (first | (go_at_call 61; refine (toBigInt_own n00 _ _ x000 _ (w000.below (by first | exact B5 | exact B5.drew)) n000).mono ?_; rintro e W6 ⟨p3, q3, rfl, o3, b6⟩) | (go_at_call 63; refine (eqBigInt_same n00 _ _ _ _ x000 _ ((O2.below (Below.refl _ _).drew).below b6).ints o3.ints n000).mono ?_; rintro e W7 ⟨rfl, b7⟩))
  have B7 := bstep (bstepD B5 b6) b7
  go_wp2
  go_ret
  exact ⟨rfl, B7⟩

set_option maxRecDepth 100000 in
theorem lifted (os : Os) (started : os.Started) (H : Type) (enc : TypeId × Value → H) :
    ReturnsInHanded {} Try.checked os 15 .any (Rows.fnExactBigIntOkSpec.pre6 enc Try.prog Try.f15 Rows.fnExactBigIntOkRow.domain false) (Rows.fnExactBigIntOkSpec.post enc Try.prog Try.f15 false true false false) := by
  refine returnsInHanded_of_change (C := Try.checked) Try.own started (by kernel_rfl) Try.func15
    (ChangeSpec.witness6 (enc := enc) (C := Try.checked) false ⟨#[], #[.agg #[.bool false, .slice none 0 0]], []⟩ 8 (by kernel_rfl) (by kernel_rfl) (by kernel_rfl) (by kernel_rfl)) ?_
  intro W base args ds gs before hval0 hW hcnd _
  have hval : ∀ (j : Nat) t v, Try.f15.params[j]? = some t → args[j]? = some v → Value.okWide Try.prog W .any base t v := hval0
  have hW' := hW
  obtain ⟨p, q, hA0, hV, rfl, hfz, hnd⟩ := hW
  have hA : DataW.TrodAll enc Try.prog W 0 (fun _ => true) true Try.f15.params.toList args.toList ds p := hA0
  rw [Try.params15] at hA hval
  obtain ⟨v0, vs0, d0, ds0, p0, q0, hargs, rfl, rfl, h0, r0⟩ := trodAll_cons hA
  obtain ⟨rfl, rfl, rfl⟩ := trodAll_nil r0
  obtain rfl : args = #[v0] := by cases args; simp_all
  obtain ⟨rfl, rfl⟩ := trodVars_none hV
  have k0 := h0
  have lt0 : ∀ x ∈ p0, x.block < W.heap.size := by obtain ⟨m, hm⟩ := k0; exact DataW.trod_lt m _ _ _ hm
  obtain ⟨n00, a000, c000, x000, rfl, w000⟩ := bigInt_of_arg (hval 0 41 v0 rfl rfl) h0
  clear hA0 hval0
  refine (walk n00 a000 c000 x000 W w000).mono fun e W' ⟨he, bel⟩ => ?_
  subst he
  exact ⟨_, rfl, _, _, _, [], _, [], hW', trodAll_mk1 (shut_bool Try.underlying4 _), (trodAll_cons_mk (Below.trod Try.laidOut (by kernel_rfl) (of_decide_eq_true (by kernel_rfl)) k0 bel lt0) trodAll_mk0), rfl, bel.frame _, fun h => by cases h⟩

theorem over : Rows.fnExactBigIntOkRow.holds Try.pinned (OpenSpec.ofChange Rows.fnExactBigIntOkSpec) :=
  OpenClaim.holds_of_wide 15 Try.f15 rfl rfl rfl rfl rfl rfl rfl ⟨rfl, rfl, rfl, rfl, rfl⟩ rfl rfl rfl rfl rfl (by kernel_rfl) Try.func15 (closed_of 15 Try.f15 Rows.fnExactBigIntOkSpec Rows.fnExactBigIntOkRow prog_facts (by kernel_rfl) rfl rfl)
    (of_decide_eq_true (by kernel_rfl)) (by unfold Func.isWrapper; first | (rw [if_pos (by decide +kernel)]; kernel_rfl) | (rw [if_neg (by decide +kernel)]; exact ⟨rfl, rfl⟩))
    (fun os started H enc _ => lifted os started H enc)

theorem proved : Rows.FnExactBigIntOkSaid := over
#print axioms proved
end Go.Proofs.Ytlcjibkpmfglcaa.fnExactBigIntOk
