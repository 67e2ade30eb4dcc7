/- For every input the law FnExactFormatNat returns true, and its arguments read afterwards as they read before. No condition. -/
import Derived.Test.YtjklefkkdaelnaaDoorFrame
import Derived.Test.YtjklefkkdaelnaaDoorLaws2
import Derived.Test.YtjklefkkdaelnaaDoorFmtI
import Derived.Test.YtjklefkkdaelnaaDoorTie
import Derived.Test.YtjklefkkdaelnaaDoorCards
import Derived.OpenShut
import Derived.LaidMore
import Derived.Lay
import Derived.SevenTiedAt
import Derived.Stop.Joined
namespace Go.Proofs.YtjklefkkdaelnaaDoor.fnExactFormatNat
set_option linter.unusedVariables false
set_option linter.unusedSimpArgs false
open Go.ChangeShapes Go.WideShapes Go.ChangeAt Go.RowKit
open Go.ChangeMaps (open_string shut_string)

set_option maxRecDepth 100000 in
set_option maxHeartbeats 8000000 in
theorem walk (a0 : Option Addr) (c0 : Nat) (x0 : List Int) (w : World) (w0 : IntsAt w a0 c0 x0) (htab : Lib.TabIs Tryd.prog w "internal/strconv.uint64pow10" .u64 Lib.pow10Tab) :
    Calls Tryd.prog 4 #[.slice a0 x0.length c0] w fun e w' => e = .returned (.bool true) ∧ Below w.heap.size w w' := by
  by_cases n0 : x0.length ≤ 1048576
  case neg =>
    go_enter Tryd.func4, Tryd.ntmps4
    go_wp2
    go_ret
    exact ⟨rfl, Below.refl _ _⟩
  go_enter Tryd.func4, Tryd.ntmps4
  go_wp2_with fail
  refine (toIntS_own _ _ x0 _ w0 n0).mono ?_
  rintro e W1 ⟨as00, cs00, rfl, os0, b1⟩
  have s1 := b1.size
  go_wp2_with fail
  refine (specFormatNat_any _ _ x0 _ os0.ints n0).mono ?_
  rintro e W2 ⟨rfl, b2⟩
  have s2 := b2.size
  go_wp2_with fail
  have h1 : Below w.heap.size w W2 := (bstep (bstep (Below.refl _ _) b1) b2)
  refine (toIntS_own _ _ x0 _ (w0.below h1) n0).mono ?_
  rintro e W3 ⟨ax00, cx00, rfl, ox0, b3⟩
  have s3 := b3.size
  go_wp2_with fail
  have h2 : Below w.heap.size w W3 := (bstep h1 b3)
  refine (implFormatNat_any _ _ x0 _ ox0.ints n0 (tabB htab h2)).mono ?_
  rintro e W4 ⟨rfl, b4⟩
  have s4 := b4.size
  go_wp2_with fail
  have h3 : Below w.heap.size w W4 := (bstep h2 b4)
  refine (toIntS_own _ _ x0 _ (w0.below h3) n0).mono ?_
  rintro e W5 ⟨ay00, cy00, rfl, oy0, b5⟩
  have s5 := b5.size
  go_wp2_with fail
  have f4 := ((ox0.below b4).below b5)
  refine (eqIntS_same _ _ _ _ (x0) _ f4.ints oy0.ints n0).mono ?_
  rintro e W6 ⟨rfl, b6⟩
  have s6 := b6.size
  go_wp2
  go_ret
  have h5 : Below w.heap.size w W6 := (bstep (bstep h3 b5) b6)
  exact ⟨rfl, h5⟩

set_option maxRecDepth 100000 in
theorem tab_of {W : World} (h : laidMetH Tryd.prog Rows.fnExactFormatNatRow.laid W) : Lib.TabIs Tryd.prog W "internal/strconv.uint64pow10" .u64 Lib.pow10Tab := by
  rw [MakeChecks.laidMetH_plain _ _ _ (by kernel_rfl)] at h
  have h1 := laidMet.filter (fun x => x.1 == "internal/strconv.uint64pow10") h
  exact Lib.tabIs_of_head (rest := []) (g := 3) (t := 168) (e := 108) (n := 20) (by kernel_rfl) (by kernel_rfl) (by kernel_rfl) (by kernel_rfl) (by kernel_rfl) (by kernel_rfl) h1

set_option maxRecDepth 100000 in
theorem lifted (os : Os) (started : os.Started) (H : Type) (enc : TypeId × Value → H) :
    ReturnsInHanded {} Tryd.checked os 4 .any (fun w args => (Rows.fnExactFormatNatSpec.pre enc Tryd.prog Tryd.f4 Rows.fnExactFormatNatRow.domain false w args ∧ laidMetH Tryd.prog Rows.fnExactFormatNatRow.laid w) ∧ sizedMet enc Tryd.prog Tryd.f4 (OpenSpec.ofChange Rows.fnExactFormatNatSpec) false w args)
      (Rows.fnExactFormatNatSpec.post enc Tryd.prog Tryd.f4 false true false false) := by
  refine returnsInHanded_of_change_and (C := Tryd.checked) (X := (fun w _ => laidMetH Tryd.prog Rows.fnExactFormatNatRow.laid w)) (fun _ _ _ hh h => h.of_heap hh) Tryd.own started (by kernel_rfl) Tryd.func4
    (ChangeSpec.witness_shaped (enc := enc) (C := Tryd.checked) (os := os) (X := (fun w _ => laidMetH Tryd.prog Rows.fnExactFormatNatRow.laid w)) false (World.laidAll Tryd.prog os Rows.fnExactFormatNatRow.laid) #[.slice none 0 0] 8 (World.laidAll_os _ _ _)
      (World.shaped_of_ZipB (by kernel_rfl) (by kernel_rfl)) (by kernel_rfl) (by kernel_rfl) (by kernel_rfl)
      (by rw [MakeChecks.laidMetH_plain _ _ _ (by kernel_rfl)]; exact laidMet_laidAll _ (by kernel_rfl) (by kernel_rfl))) ?_
  intro W base args ds gs before hval0 hW hcnd _ hL _
  have hval : ∀ (j : Nat) t v, Tryd.f4.params[j]? = some t → args[j]? = some v → Value.okWide Tryd.prog W .any base t v := hval0
  have hW' := hW
  obtain ⟨p, q, hA0, hV, rfl, hfz, hnd⟩ := hW
  have hA : DataW.TrodAll enc Tryd.prog W 0 (fun _ => true) true Tryd.f4.params.toList args.toList ds p := hA0
  rw [Tryd.params4] at hA hval
  obtain ⟨v0, vs0, d0, ds0, p0, q0, hargs, rfl, rfl, h0, r0⟩ := trodAll_cons hA
  obtain ⟨rfl, rfl, rfl⟩ := trodAll_nil r0
  obtain rfl : args = #[v0] := by cases args; simp_all
  obtain ⟨rfl, rfl⟩ := trodVars_none hV
  have k0 := h0
  have lt0 : ∀ x ∈ p0, x.block < W.heap.size := by obtain ⟨m, hm⟩ := k0; exact DataW.trod_lt m _ _ _ hm
  obtain ⟨a0, c0, x0, rfl, w0⟩ := ints_of_arg (hval 0 27 v0 rfl rfl) h0
  clear hA0 hval0
  refine (walk a0 c0 x0 W w0 (tab_of hL)).mono fun e W' ⟨he, bel⟩ => ?_
  subst he
  exact ⟨_, rfl, _, _, _, [], _, [], hW', trodAll_mk1 (shut_bool Tryd.underlying4 _), (trodAll_cons_mk (Below.trod Tryd.laidOut (by kernel_rfl) (of_decide_eq_true (by kernel_rfl)) k0 bel lt0) trodAll_mk0), rfl, bel.frame _, fun h => by cases h⟩

theorem over : Rows.fnExactFormatNatRow.holds Tryd.pinned (OpenSpec.ofChange Rows.fnExactFormatNatSpec) :=
  OpenClaim.holds_of_wide 4 Tryd.f4 rfl rfl rfl rfl rfl rfl rfl ⟨rfl, rfl, rfl, rfl, rfl⟩ rfl rfl rfl rfl rfl (by kernel_rfl) Tryd.func4 (closed_ofP may_enter make_cut lifts_final 4 Tryd.f4 Rows.fnExactFormatNatSpec Rows.fnExactFormatNatRow prog_facts (by kernel_rfl) rfl rfl)
    (of_decide_eq_true (by kernel_rfl)) (by unfold Func.isWrapper; first | (rw [if_pos (by decide +kernel)]; kernel_rfl) | (rw [if_neg (by decide +kernel)]; exact ⟨rfl, rfl⟩))
    (fun os started H enc _ => lifted os started H enc)

set_option maxRecDepth 100000 in
theorem proved : Rows.FnExactFormatNatCardSaid :=
  Claim7.holds_tied_plain_at .later [] [.data, .data, .data] true (true, "73a61dcd582288e7bad97c363601477dc77ac763254cdaaee76d9b755edce1da") true over (fun _ h => by cases h) (by kernel_rfl) (fun _ h => by cases h) fnExactFormatNat_row_tie rfl ⟨rfl, rfl⟩ (by kernel_rfl) rfl
    (fun f fn hf hfn => by
      obtain rfl : f = 4 := Option.some.inj ((show Tryd.prog.funcNamed "loop.example/g00812/laws.FnExactFormatNat" = some 4 by kernel_rfl).symm.trans hf) |>.symm
      obtain rfl : fn = Tryd.f4 := (Option.some.inj (Tryd.func4.symm.trans hfn)).symm
      exact ⟨by kernel_rfl, fun j t ht => by
        rw [Tryd.params4] at ht
        have hm : t ∈ [27] := by simpa using Array.mem_of_getElem? ht
        have hall : ([27].all fun u => !Tryd.prog.wantsStandIn u) = true := by kernel_rfl
        exact (show Tryd.prog.wantsStandIn t = false by simpa using List.all_eq_true.1 hall t hm)⟩)
    (by kernel_rfl)
#print axioms proved
end Go.Proofs.YtjklefkkdaelnaaDoor.fnExactFormatNat
