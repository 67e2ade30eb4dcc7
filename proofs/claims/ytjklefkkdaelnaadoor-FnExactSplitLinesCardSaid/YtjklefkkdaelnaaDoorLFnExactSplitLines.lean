/- For every input the law FnExactSplitLines returns true, and its arguments read afterwards as they read before. No condition. -/
import Derived.Test.YtjklefkkdaelnaaDoorFrameA
import Derived.Test.YtjklefkkdaelnaaDoorLinesW
import Derived.Test.YtjklefkkdaelnaaDoorShaped
import Derived.Test.YtjklefkkdaelnaaDoorTie
import Derived.Test.YtjklefkkdaelnaaDoorCards
import Derived.OpenShut
import Derived.LaidMore
import Derived.Lay
import Derived.SevenTiedAt
import Derived.Stop.Joined
namespace Go.Proofs.YtjklefkkdaelnaaDoor.fnExactSplitLines
set_option linter.unusedVariables false
set_option linter.unusedSimpArgs false
open Go.ChangeShapes Go.WideShapes Go.ChangeAt Go.RowKit
open Go.ChangeMaps (open_string shut_string)

set_option maxRecDepth 100000 in
set_option maxHeartbeats 8000000 in
theorem walk (a0 : ByteArray) (w : World) (w0 : a0.size ≤ maxLen) (hmx : MaxVar w) :
    Calls Tryd.prog 3 #[.string a0] w fun e w' => e = .returned (.bool true) ∧ Below w.heap.size w w' := by
  by_cases n0 : a0.size ≤ 1048576
  case neg =>
    go_enter Tryd.func3, Tryd.ntmps3
    go_wp2
    go_ret
    exact ⟨rfl, Below.refl _ _⟩
  have l0 := splitLines_len n0
  go_enter Tryd.func3, Tryd.ntmps3
  go_wp2_with fail
  refine (specSplitLines_any a0 _ n0).mono ?_
  rintro e W1 ⟨at00, ct00, rfl, it00, b1⟩
  have s1 := b1.size
  go_wp2_with fail
  have h1 : Below w.heap.size w W1 := (bstep (Below.refl _ _) b1)
  refine (implSplitLines_any a0 _ n0 (hmx.below h1)).mono ?_
  rintro e W2 ⟨ag00, cg00, rfl, og0, b2⟩
  have s2 := b2.size
  go_wp2_with fail
  have h2 : Below W1.heap.size W1 W2 := (bstep (Below.refl _ _) b2)
  refine (eqStringS_same _ _ _ _ (splitLines a0) _ og0.i1 (it00.below h2) l0).mono ?_
  rintro e W3 ⟨rfl, b3⟩
  have s3 := b3.size
  go_wp2_with fail
  have f3 := (og0.below b3)
  refine (markStringS_own _ _ (splitLines a0) _ _ f3 l0 (by omega) (by omega)).mono ?_
  rintro e W4 ⟨rfl, mg0x4, b4⟩
  have s4 := b4.size
  go_wp2_with fail
  refine (heldStringS_own2 _ _ _ _ _ mg0x4 l0 (by omega) (by omega)).mono ?_
  rintro e W5 ⟨rfl, b5⟩
  have s5 := b5.size
  go_wp2_with fail
  have h4 : Below w.heap.size w W5 := (bstep (bspan (bstep (bstep h1 b2) b3) b4 (by omega)) b5)
  refine (implSplitLines_any a0 _ n0 (hmx.below h4)).mono ?_
  rintro e W6 ⟨ah00, ch00, rfl, oh0, b6⟩
  have s6 := b6.size
  go_wp2_with fail
  have h5 : Below W1.heap.size W1 W6 := (bstep (bstep (bspan (bstep h2 b3) b4 (by omega)) b5) b6)
  refine (eqStringS_same _ _ _ _ (splitLines a0) _ oh0.i1 (it00.below h5) l0).mono ?_
  rintro e W7 ⟨rfl, b7⟩
  have s7 := b7.size
  go_wp2_with fail
  have f6 := (((mg0x4.below b5).below b6).below b7)
  refine (heldStringS_own2 _ _ _ _ _ f6 l0 (by omega) (by omega)).mono ?_
  rintro e W8 ⟨rfl, b8⟩
  have s8 := b8.size
  go_wp2
  go_ret
  have h7 : Below w.heap.size w W8 := (bstep (bstep (bstep h4 b6) b7) b8)
  exact ⟨rfl, h7⟩

set_option maxRecDepth 100000 in
theorem lifted (os : Os) (started : os.Started) (H : Type) (enc : TypeId × Value → H) :
    ReturnsInHanded {} Tryd.checked os 3 .any (fun w args => (Rows.fnExactSplitLinesSpec.pre enc Tryd.prog Tryd.f3 Rows.fnExactSplitLinesRow.domain false w args ∧ laidMetH Tryd.prog Rows.fnExactSplitLinesRow.laid w) ∧ sizedMet enc Tryd.prog Tryd.f3 (OpenSpec.ofChange Rows.fnExactSplitLinesSpec) false w args)
      (Rows.fnExactSplitLinesSpec.post enc Tryd.prog Tryd.f3 false true false false) := by
  refine returns_shaped (C := Tryd.checked) (X := (fun w _ => laidMetH Tryd.prog Rows.fnExactSplitLinesRow.laid w)) (fun _ _ _ hh h => h.of_heap hh) Tryd.own started (by kernel_rfl) Tryd.func3
    (ChangeSpec.witness_shaped (enc := enc) (C := Tryd.checked) (os := os) (X := (fun w _ => laidMetH Tryd.prog Rows.fnExactSplitLinesRow.laid w)) false (World.laidAll Tryd.prog os Rows.fnExactSplitLinesRow.laid) #[.string ByteArray.empty] 8 (World.laidAll_os _ _ _)
      (World.shaped_of_ZipB (by kernel_rfl) (by kernel_rfl)) (by kernel_rfl) (by kernel_rfl) (by kernel_rfl)
      (by rw [MakeChecks.laidMetH_plain _ _ _ (by kernel_rfl)]; exact laidMet_laidAll _ (by kernel_rfl) (by kernel_rfl))) ?_
  intro W base args ds gs before hval0 hW hcnd _ hL hsh _
  have hval : ∀ (j : Nat) t v, Tryd.f3.params[j]? = some t → args[j]? = some v → Value.okWide Tryd.prog W .any base t v := hval0
  have hW' := hW
  obtain ⟨p, q, hA0, hV, rfl, hfz, hnd⟩ := hW
  have hA : DataW.TrodAll enc Tryd.prog W 0 (fun _ => true) true Tryd.f3.params.toList args.toList ds p := hA0
  rw [Tryd.params3] at hA hval
  obtain ⟨v0, vs0, d0, ds0, p0, q0, hargs, rfl, rfl, h0, r0⟩ := trodAll_cons hA
  obtain ⟨rfl, rfl, rfl⟩ := trodAll_nil r0
  obtain rfl : args = #[v0] := by cases args; simp_all
  obtain ⟨rfl, rfl⟩ := trodVars_none hV
  have k0 := h0
  have lt0 : ∀ x ∈ p0, x.block < W.heap.size := by obtain ⟨m, hm⟩ := k0; exact DataW.trod_lt m _ _ _ hm
  obtain ⟨a0, rfl, rfl, rfl, w0⟩ := open_string Tryd.underlying9 (hval 0 9 v0 rfl rfl) h0
  clear hA0 hval0
  refine (walk a0 W w0 (max_of hsh)).mono fun e W' ⟨he, bel⟩ => ?_
  subst he
  exact ⟨_, rfl, _, _, _, [], _, [], hW', trodAll_mk1 (shut_bool Tryd.underlying4 _), (trodAll_cons_mk (Below.trod Tryd.laidOut (by kernel_rfl) (of_decide_eq_true (by kernel_rfl)) k0 bel lt0) trodAll_mk0), rfl, bel.frame _, fun h => by cases h⟩

theorem over : Rows.fnExactSplitLinesRow.holds Tryd.pinned (OpenSpec.ofChange Rows.fnExactSplitLinesSpec) :=
  OpenClaim.holds_of_wide 3 Tryd.f3 rfl rfl rfl rfl rfl rfl rfl ⟨rfl, rfl, rfl, rfl, rfl⟩ rfl rfl rfl rfl rfl (by kernel_rfl) Tryd.func3 (closed_ofP may_enter make_cut lifts_final 3 Tryd.f3 Rows.fnExactSplitLinesSpec Rows.fnExactSplitLinesRow prog_facts (by kernel_rfl) rfl rfl)
    (of_decide_eq_true (by kernel_rfl)) (by unfold Func.isWrapper; first | (rw [if_pos (by decide +kernel)]; kernel_rfl) | (rw [if_neg (by decide +kernel)]; exact ⟨rfl, rfl⟩))
    (fun os started H enc _ => lifted os started H enc)

set_option maxRecDepth 100000 in
theorem proved : Rows.FnExactSplitLinesCardSaid :=
  Claim7.holds_tied_plain_at .later [] [.data, .pinned] true (true, "73a61dcd582288e7bad97c363601477dc77ac763254cdaaee76d9b755edce1da") true over (fun _ h => by cases h) (by kernel_rfl) (fun _ h => by cases h) fnExactSplitLines_row_tie rfl ⟨rfl, rfl⟩ (by kernel_rfl) rfl
    (fun f fn hf hfn => by
      obtain rfl : f = 3 := Option.some.inj ((show Tryd.prog.funcNamed "loop.example/g00812/laws.FnExactSplitLines" = some 3 by kernel_rfl).symm.trans hf) |>.symm
      obtain rfl : fn = Tryd.f3 := (Option.some.inj (Tryd.func3.symm.trans hfn)).symm
      exact ⟨by kernel_rfl, fun j t ht => by
        rw [Tryd.params3] at ht
        have hm : t ∈ [9] := by simpa using Array.mem_of_getElem? ht
        have hall : ([9].all fun u => !Tryd.prog.wantsStandIn u) = true := by kernel_rfl
        exact (show Tryd.prog.wantsStandIn t = false by simpa using List.all_eq_true.1 hall t hm)⟩)
    (by kernel_rfl)
#print axioms proved
end Go.Proofs.YtjklefkkdaelnaaDoor.fnExactSplitLines
