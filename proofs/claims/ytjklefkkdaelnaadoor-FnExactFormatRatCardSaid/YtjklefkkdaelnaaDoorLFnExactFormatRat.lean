/- For every input the law FnExactFormatRat returns true, and its arguments read afterwards as they read before. No condition. -/
import Derived.Deep.RegionHeld3
import Derived.Deep.DeepCutAuto
import Derived.Test.YtjklefkkdaelnaaDoorFrameA
import Derived.Test.YtjklefkkdaelnaaDoorK2
import Derived.Test.YtjklefkkdaelnaaDoorFmtRI
import Derived.Test.YtjklefkkdaelnaaDoorTie
import Derived.Test.YtjklefkkdaelnaaDoorCards
import Derived.OpenShut
import Derived.LaidMore
import Derived.Lay
import Derived.SevenTiedAt
import Derived.Stop.Joined
namespace Go.Proofs.YtjklefkkdaelnaaDoor.fnExactFormatRat
set_option linter.unusedVariables false
set_option linter.unusedSimpArgs false
open Go.ChangeShapes Go.WideShapes Go.ChangeAt Go.RowKit
open Go.ChangeMaps (open_string shut_string)

set_option maxRecDepth 100000 in
set_option maxHeartbeats 8000000 in
theorem walk (n00 : Bool) (a000 : Option Addr) (c000 : Nat) (x000 : List Int) (a001 : Option Addr) (c001 : Nat) (x001 : List Int) (w : World) (w000 : IntsAt w a000 c000 x000) (w001 : IntsAt w a001 c001 x001) (htab : Lib.TabIs Tryd.prog w "internal/strconv.uint64pow10" .u64 Lib.pow10Tab) :
    Calls Tryd.prog 12 #[.agg #[.bool n00, .slice a000 x000.length c000, .slice a001 x001.length c001]] w fun e w' => e = .returned (.bool true) ∧ Below w.heap.size w w' := by
  by_cases g0 : x000.length + x001.length ≤ 1048576
  case neg =>
    go_enter Tryd.func12, Tryd.ntmps12
    go_wp2_with fail
    refine (szRat_any n00 _ _ x000 _ _ x001 _ _ (by omega) (by omega) w000.len63 w001.len63).mono ?_
    rintro e W1 ⟨rfl, b1⟩
    rw [if_pos (by omega)]
    have s1 := b1.size
    simp at s1
    have Barg0x1 : Box W1 (w.heap.size) #[.bool n00, .slice a000 x000.length c000, .slice a001 x001.length c001] := bx1_0 b1
    replace b1 := bstep (ba1 _ _ ) b1
    have h1 : Below w.heap.size w W1 := (bstep (Below.refl _ _) b1)
    go_wp2
    go_ret
    exact ⟨rfl, h1⟩
  have l000 : x000.length ≤ 1048576 := by omega
  have l001 : x001.length ≤ 1048576 := by omega
  go_enter Tryd.func12, Tryd.ntmps12
  go_wp2_with fail
  refine (szRat_any n00 _ _ x000 _ _ x001 _ _ (by omega) (by omega) w000.len63 w001.len63).mono ?_
  rintro e W1 ⟨rfl, b1⟩
  rw [if_neg (by omega)]
  have s1 := b1.size
  simp at s1
  have Barg0x1 : Box W1 (w.heap.size) #[.bool n00, .slice a000 x000.length c000, .slice a001 x001.length c001] := bx1_0 b1
  replace b1 := bstep (ba1 _ _ ) b1
  have Carg0q0 : W1.cell? ⟨(w.heap.size), 0, none⟩ = some (.bool n00) := Barg0x1.cell 0 rfl
  have Carg0q1 : W1.cell? ⟨(w.heap.size), 1, none⟩ = some (.slice a000 x000.length c000) := Barg0x1.cell 1 rfl
  have Carg0q2 : W1.cell? ⟨(w.heap.size), 2, none⟩ = some (.slice a001 x001.length c001) := Barg0x1.cell 2 rfl
  have Carg0lt : (w.heap.size) < W1.heap.size := Barg0x1.lt
  go_wp2_with fail
  have h1 : Below w.heap.size w W1 := (bstep (Below.refl _ _) b1)
  refine (toRat_own n00 _ _ x000 _ _ x001 _ (w000.below h1) l000 (w001.below h1) l001).mono ?_
  rintro e W2 ⟨as00, cs00, as01, cs01, rfl, os0, b2⟩
  clear Carg0q0 Carg0q1 Carg0q2 Carg0lt
  have s2 := b2.size
  go_wp2_with fail
  refine (specFormatRat_any n00 _ _ x000 _ _ x001 _ os0.i1 l000 os0.i2 l001).mono ?_
  rintro e W3 ⟨rfl, b3⟩
  have s3 := b3.size
  have x2 := (box_step (box_step Barg0x1 b2) b3)
  have Carg0q0 : W3.cell? ⟨(w.heap.size), 0, none⟩ = some (.bool n00) := x2.cell 0 rfl
  have Carg0q1 : W3.cell? ⟨(w.heap.size), 1, none⟩ = some (.slice a000 x000.length c000) := x2.cell 1 rfl
  have Carg0q2 : W3.cell? ⟨(w.heap.size), 2, none⟩ = some (.slice a001 x001.length c001) := x2.cell 2 rfl
  have Carg0lt : (w.heap.size) < W3.heap.size := x2.lt
  go_wp2_with fail
  have h3 : Below w.heap.size w W3 := (bstep (bstep h1 b2) b3)
  refine (toRat_own n00 _ _ x000 _ _ x001 _ (w000.below h3) l000 (w001.below h3) l001).mono ?_
  rintro e W4 ⟨ax00, cx00, ax01, cx01, rfl, ox0, b4⟩
  clear Carg0q0 Carg0q1 Carg0q2 Carg0lt
  have s4 := b4.size
  go_wp2_with fail
  refine (implFormatRat_any n00 _ _ x000 _ _ x001 _ (ox0.below (ba1 _ _)).i1 l000 (ox0.below (ba1 _ _)).i2 l001 (tabB htab (bstep (bstep h3 b4) (ba1 _ _)))).mono ?_
  rintro e W5 ⟨rfl, b5⟩
  have s5 := b5.size
  simp at s5
  have Bx0x5 : Box W5 (W4.heap.size) #[.bool n00, .slice ax00 x000.length cx00, .slice ax01 x001.length cx01] := bx1_0 b5
  replace b5 := bstep (ba1 _ _ ) b5
  have Cx0q0 : W5.cell? ⟨(W4.heap.size), 0, none⟩ = some (.bool n00) := Bx0x5.cell 0 rfl
  have Cx0q1 : W5.cell? ⟨(W4.heap.size), 1, none⟩ = some (.slice ax00 x000.length cx00) := Bx0x5.cell 1 rfl
  have Cx0q2 : W5.cell? ⟨(W4.heap.size), 2, none⟩ = some (.slice ax01 x001.length cx01) := Bx0x5.cell 2 rfl
  have Cx0lt : (W4.heap.size) < W5.heap.size := Bx0x5.lt
  have x4 := (box_step (box_step x2 b4) b5)
  have Carg0q0 : W5.cell? ⟨(w.heap.size), 0, none⟩ = some (.bool n00) := x4.cell 0 rfl
  have Carg0q1 : W5.cell? ⟨(w.heap.size), 1, none⟩ = some (.slice a000 x000.length c000) := x4.cell 1 rfl
  have Carg0q2 : W5.cell? ⟨(w.heap.size), 2, none⟩ = some (.slice a001 x001.length c001) := x4.cell 2 rfl
  have Carg0lt : (w.heap.size) < W5.heap.size := x4.lt
  go_wp2_with fail
  have h5 : Below w.heap.size w W5 := (bstep (bstep h3 b4) b5)
  have f6 := (ox0.below b5)
  go_region_held3 (fun w' => w'.cell? ⟨(W4.heap.size), 0, none⟩ = some (.bool n00) ∧ w'.cell? ⟨(W4.heap.size), 1, none⟩ = some (.slice ax00 x000.length cx00) ∧ w'.cell? ⟨(W4.heap.size), 2, none⟩ = some (.slice ax01 x001.length cx01) ∧ w'.cell? ⟨(w.heap.size), 0, none⟩ = some (.bool n00) ∧ w'.cell? ⟨(w.heap.size), 1, none⟩ = some (.slice a000 x000.length c000) ∧ w'.cell? ⟨(w.heap.size), 2, none⟩ = some (.slice a001 x001.length c001))
    ((first | exact ⟨Cx0q0, Cx0q1, Cx0q2, Carg0q0, Carg0q1, Carg0q2⟩ | exact ⟨cell_stepD Cx0q0 b6, cell_stepD Cx0q1 b6, cell_stepD Cx0q2 b6, cell_stepD Carg0q0 b6, cell_stepD Carg0q1 b6, cell_stepD Carg0q2 b6⟩ | exact ⟨cell_step (cell_stepD Cx0q0 b6) b7, cell_step (cell_stepD Cx0q1 b6) b7, cell_step (cell_stepD Cx0q2 b6) b7, cell_step (cell_stepD Carg0q0 b6) b7, cell_step (cell_stepD Carg0q1 b6) b7, cell_step (cell_stepD Carg0q2 b6) b7⟩))
    (first | (go_at_call 56; refine (toRat_own n00 _ _ x000 _ _ x001 _ (w000.below h5.drew) l000 (w001.below h5.drew) l001).mono ?_; rintro e W6 ⟨ay00, cy00, ay01, cy01, rfl, oy0, b6⟩) | (go_at_call 58; refine (eqRat_same (n00) _ _ _ _ (x000) _ _ _ _ (x001) _ (((f6).below (Below.refl _ _).drew).below b6).i1 oy0.i1 l000 (((f6).below (Below.refl _ _).drew).below b6).i2 oy0.i2 l001).mono ?_; rintro e W7 ⟨rfl, b7⟩))
  have s6 := b6.size
  simp at s6
  have s7 := b7.size
  clear Cx0q0 Cx0q1 Cx0q2 Cx0lt
  clear Carg0q0 Carg0q1 Carg0q2 Carg0lt
  go_wp2
  go_ret
  have h7 : Below w.heap.size w W7 := (bstep (bstep h5.drew b6) b7)
  exact ⟨rfl, h7⟩

set_option maxRecDepth 100000 in
theorem tab_of {W : World} (h : laidMetH Tryd.prog Rows.fnExactFormatRatRow.laid W) : Lib.TabIs Tryd.prog W "internal/strconv.uint64pow10" .u64 Lib.pow10Tab := by
  rw [MakeChecks.laidMetH_plain _ _ _ (by kernel_rfl)] at h
  have h1 := laidMet.filter (fun x => x.1 == "internal/strconv.uint64pow10") h
  exact Lib.tabIs_of_head (rest := []) (g := 3) (t := 168) (e := 108) (n := 20) (by kernel_rfl) (by kernel_rfl) (by kernel_rfl) (by kernel_rfl) (by kernel_rfl) (by kernel_rfl) h1

set_option maxRecDepth 100000 in
theorem lifted (os : Os) (started : os.Started) (H : Type) (enc : TypeId × Value → H) :
    ReturnsInHanded {} Tryd.checked os 12 .any (fun w args => (Rows.fnExactFormatRatSpec.pre enc Tryd.prog Tryd.f12 Rows.fnExactFormatRatRow.domain false w args ∧ laidMetH Tryd.prog Rows.fnExactFormatRatRow.laid w) ∧ sizedMet enc Tryd.prog Tryd.f12 (OpenSpec.ofChange Rows.fnExactFormatRatSpec) false w args)
      (Rows.fnExactFormatRatSpec.post enc Tryd.prog Tryd.f12 false true false false) := by
  refine returnsInHanded_of_change_and (C := Tryd.checked) (X := (fun w _ => laidMetH Tryd.prog Rows.fnExactFormatRatRow.laid w)) (fun _ _ _ hh h => h.of_heap hh) Tryd.own started (by kernel_rfl) Tryd.func12
    (ChangeSpec.witness_shaped (enc := enc) (C := Tryd.checked) (os := os) (X := (fun w _ => laidMetH Tryd.prog Rows.fnExactFormatRatRow.laid w)) false (World.laidAll Tryd.prog os Rows.fnExactFormatRatRow.laid) #[.agg #[.bool false, .slice none 0 0, .slice none 0 0]] 8 (World.laidAll_os _ _ _)
      (World.shaped_of_ZipB (by kernel_rfl) (by kernel_rfl)) (by kernel_rfl) (by kernel_rfl) (by kernel_rfl)
      (by rw [MakeChecks.laidMetH_plain _ _ _ (by kernel_rfl)]; exact laidMet_laidAll _ (by kernel_rfl) (by kernel_rfl))) ?_
  intro W base args ds gs before hval0 hW hcnd _ hL _
  have hval : ∀ (j : Nat) t v, Tryd.f12.params[j]? = some t → args[j]? = some v → Value.okWide Tryd.prog W .any base t v := hval0
  have hW' := hW
  obtain ⟨p, q, hA0, hV, rfl, hfz, hnd⟩ := hW
  have hA : DataW.TrodAll enc Tryd.prog W 0 (fun _ => true) true Tryd.f12.params.toList args.toList ds p := hA0
  rw [Tryd.params12] at hA hval
  obtain ⟨v0, vs0, d0, ds0, p0, q0, hargs, rfl, rfl, h0, r0⟩ := trodAll_cons hA
  obtain ⟨rfl, rfl, rfl⟩ := trodAll_nil r0
  obtain rfl : args = #[v0] := by cases args; simp_all
  obtain ⟨rfl, rfl⟩ := trodVars_none hV
  have k0 := h0
  have lt0 : ∀ x ∈ p0, x.block < W.heap.size := by obtain ⟨m, hm⟩ := k0; exact DataW.trod_lt m _ _ _ hm
  obtain ⟨n00, a000, c000, x000, a001, c001, x001, rfl, w000, w001⟩ := rat_of_arg (hval 0 64 v0 rfl rfl) h0
  clear hA0 hval0
  refine (walk n00 a000 c000 x000 a001 c001 x001 W w000 w001 (tab_of hL)).mono fun e W' ⟨he, bel⟩ => ?_
  subst he
  exact ⟨_, rfl, _, _, _, [], _, [], hW', trodAll_mk1 (shut_bool Tryd.underlying4 _), (trodAll_cons_mk (Below.trod Tryd.laidOut (by kernel_rfl) (of_decide_eq_true (by kernel_rfl)) k0 bel lt0) trodAll_mk0), rfl, bel.frame _, fun h => by cases h⟩

theorem over : Rows.fnExactFormatRatRow.holds Tryd.pinned (OpenSpec.ofChange Rows.fnExactFormatRatSpec) :=
  OpenClaim.holds_of_wide 12 Tryd.f12 rfl rfl rfl rfl rfl rfl rfl ⟨rfl, rfl, rfl, rfl, rfl⟩ rfl rfl rfl rfl rfl (by kernel_rfl) Tryd.func12 (closed_ofP may_enter make_cut lifts_final 12 Tryd.f12 Rows.fnExactFormatRatSpec Rows.fnExactFormatRatRow prog_facts (by kernel_rfl) rfl rfl)
    (of_decide_eq_true (by kernel_rfl)) (by unfold Func.isWrapper; first | (rw [if_pos (by decide +kernel)]; kernel_rfl) | (rw [if_neg (by decide +kernel)]; exact ⟨rfl, rfl⟩))
    (fun os started H enc _ => lifted os started H enc)

set_option maxRecDepth 100000 in
theorem proved : Rows.FnExactFormatRatCardSaid :=
  Claim7.holds_tied_plain_at .later [] [.data, .data, .data] true (true, "73a61dcd582288e7bad97c363601477dc77ac763254cdaaee76d9b755edce1da") true over (fun _ h => by cases h) (by kernel_rfl) (fun _ h => by cases h) fnExactFormatRat_row_tie rfl ⟨rfl, rfl⟩ (by kernel_rfl) rfl
    (fun f fn hf hfn => by
      obtain rfl : f = 12 := Option.some.inj ((show Tryd.prog.funcNamed "loop.example/g00812/laws.FnExactFormatRat" = some 12 by kernel_rfl).symm.trans hf) |>.symm
      obtain rfl : fn = Tryd.f12 := (Option.some.inj (Tryd.func12.symm.trans hfn)).symm
      exact ⟨by kernel_rfl, fun j t ht => by
        rw [Tryd.params12] at ht
        have hm : t ∈ [64] := by simpa using Array.mem_of_getElem? ht
        have hall : ([64].all fun u => !Tryd.prog.wantsStandIn u) = true := by kernel_rfl
        exact (show Tryd.prog.wantsStandIn t = false by simpa using List.all_eq_true.1 hall t hm)⟩)
    (by kernel_rfl)
#print axioms proved
end Go.Proofs.YtjklefkkdaelnaaDoor.fnExactFormatRat
