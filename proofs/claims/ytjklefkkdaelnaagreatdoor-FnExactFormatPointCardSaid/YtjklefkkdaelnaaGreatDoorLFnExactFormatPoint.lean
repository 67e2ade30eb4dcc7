/- For every input the law FnExactFormatPoint returns true, and its arguments read afterwards as they read before. No condition. -/
import Derived.Deep.RegionHeld3
import Derived.Deep.DeepCutAuto
import Derived.Test.YtjklefkkdaelnaaGreatDoorFrameA
import Derived.Test.YtjklefkkdaelnaaGreatDoorK2
import Derived.Test.YtjklefkkdaelnaaGreatDoorFmtPI
import Derived.Test.YtjklefkkdaelnaaGreatDoorTie
import Derived.Test.YtjklefkkdaelnaaGreatDoorCards
import Derived.OpenShut
import Derived.LaidMore
import Derived.Lay
import Derived.SevenTiedAt
import Derived.Stop.Joined
namespace Go.Proofs.YtjklefkkdaelnaaGreatDoor.fnExactFormatPoint
set_option linter.unusedVariables false
set_option linter.unusedSimpArgs false
open Go.ChangeShapes Go.WideShapes Go.ChangeAt Go.RowKit
open Go.ChangeMaps (open_string shut_string)

set_option maxRecDepth 100000 in
set_option maxHeartbeats 8000000 in
theorem walk (n00 : Bool) (a000 : Option Addr) (c000 : Nat) (x000 : List Int) (a001 : Option Addr) (c001 : Nat) (x001 : List Int) (n01 : Bool) (a010 : Option Addr) (c010 : Nat) (x010 : List Int) (a011 : Option Addr) (c011 : Nat) (x011 : List Int) (w : World) (w000 : IntsAt w a000 c000 x000) (w001 : IntsAt w a001 c001 x001) (w010 : IntsAt w a010 c010 x010) (w011 : IntsAt w a011 c011 x011) (htab : Lib.TabIs Tryz.prog w "internal/strconv.uint64pow10" .u64 Lib.pow10Tab) :
    Calls Tryz.prog 3 #[.agg #[.bool n00, .slice a000 x000.length c000, .slice a001 x001.length c001, .bool n01, .slice a010 x010.length c010, .slice a011 x011.length c011]] w fun e w' => e = .returned (.bool true) ∧ Below w.heap.size w w' := by
  by_cases g0 : x000.length + x001.length + x010.length + x011.length ≤ 1048576
  case neg =>
    go_enter Tryz.func3, Tryz.ntmps3
    go_wp2_with fail
    refine (szPoint_any n00 _ _ x000 _ _ x001 n01 _ _ x010 _ _ x011 _ _ (by omega) (by omega) w000.len63 w001.len63 w010.len63 w011.len63).mono ?_
    rintro e W1 ⟨rfl, b1⟩
    rw [if_pos (by omega)]
    have s1 := b1.size
    simp at s1
    have Barg0x1 : Box W1 (w.heap.size) #[.bool n00, .slice a000 x000.length c000, .slice a001 x001.length c001, .bool n01, .slice a010 x010.length c010, .slice a011 x011.length c011] := bx1_0 b1
    replace b1 := bstep (ba1 _ _ ) b1
    have h1 : Below w.heap.size w W1 := (bstep (Below.refl _ _) b1)
    go_wp2
    go_ret
    exact ⟨rfl, h1⟩
  have l000 : x000.length ≤ 1048576 := by omega
  have l001 : x001.length ≤ 1048576 := by omega
  have l010 : x010.length ≤ 1048576 := by omega
  have l011 : x011.length ≤ 1048576 := by omega
  go_enter Tryz.func3, Tryz.ntmps3
  go_wp2_with fail
  refine (szPoint_any n00 _ _ x000 _ _ x001 n01 _ _ x010 _ _ x011 _ _ (by omega) (by omega) w000.len63 w001.len63 w010.len63 w011.len63).mono ?_
  rintro e W1 ⟨rfl, b1⟩
  rw [if_neg (by omega)]
  have s1 := b1.size
  simp at s1
  have Barg0x1 : Box W1 (w.heap.size) #[.bool n00, .slice a000 x000.length c000, .slice a001 x001.length c001, .bool n01, .slice a010 x010.length c010, .slice a011 x011.length c011] := bx1_0 b1
  replace b1 := bstep (ba1 _ _ ) b1
  have Carg0q0 : W1.cell? ⟨(w.heap.size), 0, none⟩ = some (.bool n00) := Barg0x1.cell 0 rfl
  have Carg0q1 : W1.cell? ⟨(w.heap.size), 1, none⟩ = some (.slice a000 x000.length c000) := Barg0x1.cell 1 rfl
  have Carg0q2 : W1.cell? ⟨(w.heap.size), 2, none⟩ = some (.slice a001 x001.length c001) := Barg0x1.cell 2 rfl
  have Carg0q3 : W1.cell? ⟨(w.heap.size), 3, none⟩ = some (.bool n01) := Barg0x1.cell 3 rfl
  have Carg0q4 : W1.cell? ⟨(w.heap.size), 4, none⟩ = some (.slice a010 x010.length c010) := Barg0x1.cell 4 rfl
  have Carg0q5 : W1.cell? ⟨(w.heap.size), 5, none⟩ = some (.slice a011 x011.length c011) := Barg0x1.cell 5 rfl
  have Carg0lt : (w.heap.size) < W1.heap.size := Barg0x1.lt
  go_wp2_with fail
  have h1 : Below w.heap.size w W1 := (bstep (Below.refl _ _) b1)
  refine (toPoint_own n00 _ _ x000 _ _ x001 n01 _ _ x010 _ _ x011 _ (w000.below h1) l000 (w001.below h1) l001 (w010.below h1) l010 (w011.below h1) l011).mono ?_
  rintro e W2 ⟨as00, cs00, as01, cs01, as02, cs02, as03, cs03, rfl, os0, b2⟩
  clear Carg0q0 Carg0q1 Carg0q2 Carg0q3 Carg0q4 Carg0q5 Carg0lt
  have s2 := b2.size
  go_wp2_with fail
  refine (specFormatPoint_any n00 _ _ x000 _ _ x001 n01 _ _ x010 _ _ x011 _ os0.i1 l000 os0.i2 l001 os0.i3 l010 os0.i4 l011).mono ?_
  rintro e W3 ⟨rfl, b3⟩
  have s3 := b3.size
  have x2 := (box_step (box_step Barg0x1 b2) b3)
  have Carg0q0 : W3.cell? ⟨(w.heap.size), 0, none⟩ = some (.bool n00) := x2.cell 0 rfl
  have Carg0q1 : W3.cell? ⟨(w.heap.size), 1, none⟩ = some (.slice a000 x000.length c000) := x2.cell 1 rfl
  have Carg0q2 : W3.cell? ⟨(w.heap.size), 2, none⟩ = some (.slice a001 x001.length c001) := x2.cell 2 rfl
  have Carg0q3 : W3.cell? ⟨(w.heap.size), 3, none⟩ = some (.bool n01) := x2.cell 3 rfl
  have Carg0q4 : W3.cell? ⟨(w.heap.size), 4, none⟩ = some (.slice a010 x010.length c010) := x2.cell 4 rfl
  have Carg0q5 : W3.cell? ⟨(w.heap.size), 5, none⟩ = some (.slice a011 x011.length c011) := x2.cell 5 rfl
  have Carg0lt : (w.heap.size) < W3.heap.size := x2.lt
  go_wp2_with fail
  have h3 : Below w.heap.size w W3 := (bstep (bstep h1 b2) b3)
  refine (toPoint_own n00 _ _ x000 _ _ x001 n01 _ _ x010 _ _ x011 _ (w000.below h3) l000 (w001.below h3) l001 (w010.below h3) l010 (w011.below h3) l011).mono ?_
  rintro e W4 ⟨ax00, cx00, ax01, cx01, ax02, cx02, ax03, cx03, rfl, ox0, b4⟩
  clear Carg0q0 Carg0q1 Carg0q2 Carg0q3 Carg0q4 Carg0q5 Carg0lt
  have s4 := b4.size
  go_wp2_with fail
  refine (implFormatPoint_any n00 _ _ x000 _ _ x001 n01 _ _ x010 _ _ x011 _ (ox0.below (ba1 _ _)).i1 l000 (ox0.below (ba1 _ _)).i2 l001 (ox0.below (ba1 _ _)).i3 l010 (ox0.below (ba1 _ _)).i4 l011 (tabB htab (bstep (bstep h3 b4) (ba1 _ _)))).mono ?_
  rintro e W5 ⟨rfl, b5⟩
  have s5 := b5.size
  simp at s5
  have Bx0x5 : Box W5 (W4.heap.size) #[.bool n00, .slice ax00 x000.length cx00, .slice ax01 x001.length cx01, .bool n01, .slice ax02 x010.length cx02, .slice ax03 x011.length cx03] := bx1_0 b5
  replace b5 := bstep (ba1 _ _ ) b5
  have Cx0q0 : W5.cell? ⟨(W4.heap.size), 0, none⟩ = some (.bool n00) := Bx0x5.cell 0 rfl
  have Cx0q1 : W5.cell? ⟨(W4.heap.size), 1, none⟩ = some (.slice ax00 x000.length cx00) := Bx0x5.cell 1 rfl
  have Cx0q2 : W5.cell? ⟨(W4.heap.size), 2, none⟩ = some (.slice ax01 x001.length cx01) := Bx0x5.cell 2 rfl
  have Cx0q3 : W5.cell? ⟨(W4.heap.size), 3, none⟩ = some (.bool n01) := Bx0x5.cell 3 rfl
  have Cx0q4 : W5.cell? ⟨(W4.heap.size), 4, none⟩ = some (.slice ax02 x010.length cx02) := Bx0x5.cell 4 rfl
  have Cx0q5 : W5.cell? ⟨(W4.heap.size), 5, none⟩ = some (.slice ax03 x011.length cx03) := Bx0x5.cell 5 rfl
  have Cx0lt : (W4.heap.size) < W5.heap.size := Bx0x5.lt
  have x4 := (box_step (box_step x2 b4) b5)
  have Carg0q0 : W5.cell? ⟨(w.heap.size), 0, none⟩ = some (.bool n00) := x4.cell 0 rfl
  have Carg0q1 : W5.cell? ⟨(w.heap.size), 1, none⟩ = some (.slice a000 x000.length c000) := x4.cell 1 rfl
  have Carg0q2 : W5.cell? ⟨(w.heap.size), 2, none⟩ = some (.slice a001 x001.length c001) := x4.cell 2 rfl
  have Carg0q3 : W5.cell? ⟨(w.heap.size), 3, none⟩ = some (.bool n01) := x4.cell 3 rfl
  have Carg0q4 : W5.cell? ⟨(w.heap.size), 4, none⟩ = some (.slice a010 x010.length c010) := x4.cell 4 rfl
  have Carg0q5 : W5.cell? ⟨(w.heap.size), 5, none⟩ = some (.slice a011 x011.length c011) := x4.cell 5 rfl
  have Carg0lt : (w.heap.size) < W5.heap.size := x4.lt
  go_wp2_with fail
  have h5 : Below w.heap.size w W5 := (bstep (bstep h3 b4) b5)
  have f6 := (ox0.below b5)
  go_region_held3 (fun w' => w'.cell? ⟨(W4.heap.size), 0, none⟩ = some (.bool n00) ∧ w'.cell? ⟨(W4.heap.size), 1, none⟩ = some (.slice ax00 x000.length cx00) ∧ w'.cell? ⟨(W4.heap.size), 2, none⟩ = some (.slice ax01 x001.length cx01) ∧ w'.cell? ⟨(W4.heap.size), 3, none⟩ = some (.bool n01) ∧ w'.cell? ⟨(W4.heap.size), 4, none⟩ = some (.slice ax02 x010.length cx02) ∧ w'.cell? ⟨(W4.heap.size), 5, none⟩ = some (.slice ax03 x011.length cx03) ∧ w'.cell? ⟨(w.heap.size), 0, none⟩ = some (.bool n00) ∧ w'.cell? ⟨(w.heap.size), 1, none⟩ = some (.slice a000 x000.length c000) ∧ w'.cell? ⟨(w.heap.size), 2, none⟩ = some (.slice a001 x001.length c001) ∧ w'.cell? ⟨(w.heap.size), 3, none⟩ = some (.bool n01) ∧ w'.cell? ⟨(w.heap.size), 4, none⟩ = some (.slice a010 x010.length c010) ∧ w'.cell? ⟨(w.heap.size), 5, none⟩ = some (.slice a011 x011.length c011))
    ((first | exact ⟨Cx0q0, Cx0q1, Cx0q2, Cx0q3, Cx0q4, Cx0q5, Carg0q0, Carg0q1, Carg0q2, Carg0q3, Carg0q4, Carg0q5⟩ | exact ⟨cell_stepD Cx0q0 b6, cell_stepD Cx0q1 b6, cell_stepD Cx0q2 b6, cell_stepD Cx0q3 b6, cell_stepD Cx0q4 b6, cell_stepD Cx0q5 b6, cell_stepD Carg0q0 b6, cell_stepD Carg0q1 b6, cell_stepD Carg0q2 b6, cell_stepD Carg0q3 b6, cell_stepD Carg0q4 b6, cell_stepD Carg0q5 b6⟩ | exact ⟨cell_step (cell_stepD Cx0q0 b6) b7, cell_step (cell_stepD Cx0q1 b6) b7, cell_step (cell_stepD Cx0q2 b6) b7, cell_step (cell_stepD Cx0q3 b6) b7, cell_step (cell_stepD Cx0q4 b6) b7, cell_step (cell_stepD Cx0q5 b6) b7, cell_step (cell_stepD Carg0q0 b6) b7, cell_step (cell_stepD Carg0q1 b6) b7, cell_step (cell_stepD Carg0q2 b6) b7, cell_step (cell_stepD Carg0q3 b6) b7, cell_step (cell_stepD Carg0q4 b6) b7, cell_step (cell_stepD Carg0q5 b6) b7⟩))
    (first | (go_at_call 8; refine (toPoint_own n00 _ _ x000 _ _ x001 n01 _ _ x010 _ _ x011 _ (w000.below h5.drew) l000 (w001.below h5.drew) l001 (w010.below h5.drew) l010 (w011.below h5.drew) l011).mono ?_; rintro e W6 ⟨ay00, cy00, ay01, cy01, ay02, cy02, ay03, cy03, rfl, oy0, b6⟩) | (go_at_call 10; refine (eqPoint_same (n00) (n01) _ _ _ _ (x000) _ _ _ _ (x001) _ _ _ _ (x010) _ _ _ _ (x011) _ (((f6).below (Below.refl _ _).drew).below b6).i1 oy0.i1 l000 (((f6).below (Below.refl _ _).drew).below b6).i2 oy0.i2 l001 (((f6).below (Below.refl _ _).drew).below b6).i3 oy0.i3 l010 (((f6).below (Below.refl _ _).drew).below b6).i4 oy0.i4 l011).mono ?_; rintro e W7 ⟨rfl, b7⟩))
  have s6 := b6.size
  simp at s6
  have s7 := b7.size
  clear Cx0q0 Cx0q1 Cx0q2 Cx0q3 Cx0q4 Cx0q5 Cx0lt
  clear Carg0q0 Carg0q1 Carg0q2 Carg0q3 Carg0q4 Carg0q5 Carg0lt
  go_wp2
  go_ret
  have h7 : Below w.heap.size w W7 := (bstep (bstep h5.drew b6) b7)
  exact ⟨rfl, h7⟩

set_option maxRecDepth 100000 in
theorem tab_of {W : World} (h : laidMetH Tryz.prog Rows.fnExactFormatPointRow.laid W) : Lib.TabIs Tryz.prog W "internal/strconv.uint64pow10" .u64 Lib.pow10Tab := by
  rw [MakeChecks.laidMetH_plain _ _ _ (by kernel_rfl)] at h
  have h1 := laidMet.filter (fun x => x.1 == "internal/strconv.uint64pow10") h
  exact Lib.tabIs_of_head (rest := []) (g := 1) (t := 161) (e := 113) (n := 20) (by kernel_rfl) (by kernel_rfl) (by kernel_rfl) (by kernel_rfl) (by kernel_rfl) (by kernel_rfl) h1

set_option maxRecDepth 100000 in
theorem lifted (os : Os) (started : os.Started) (H : Type) (enc : TypeId × Value → H) :
    ReturnsInHanded {} Tryz.checked os 3 .any (fun w args => (Rows.fnExactFormatPointSpec.pre enc Tryz.prog Tryz.f3 Rows.fnExactFormatPointRow.domain false w args ∧ laidMetH Tryz.prog Rows.fnExactFormatPointRow.laid w) ∧ sizedMet enc Tryz.prog Tryz.f3 (OpenSpec.ofChange Rows.fnExactFormatPointSpec) false w args)
      (Rows.fnExactFormatPointSpec.post enc Tryz.prog Tryz.f3 false true false false) := by
  refine returnsInHanded_of_change_and (C := Tryz.checked) (X := (fun w _ => laidMetH Tryz.prog Rows.fnExactFormatPointRow.laid w)) (fun _ _ _ hh h => h.of_heap hh) Tryz.own started (by kernel_rfl) Tryz.func3
    (ChangeSpec.witness_shaped (enc := enc) (C := Tryz.checked) (os := os) (X := (fun w _ => laidMetH Tryz.prog Rows.fnExactFormatPointRow.laid w)) false (World.laidAll Tryz.prog os Rows.fnExactFormatPointRow.laid) #[.agg #[.bool false, .slice none 0 0, .slice none 0 0, .bool false, .slice none 0 0, .slice none 0 0]] 8 (World.laidAll_os _ _ _)
      (World.shaped_of_ZipB (by kernel_rfl) (by kernel_rfl)) (by kernel_rfl) (by kernel_rfl) (by kernel_rfl)
      (by rw [MakeChecks.laidMetH_plain _ _ _ (by kernel_rfl)]; exact laidMet_laidAll _ (by kernel_rfl) (by kernel_rfl))) ?_
  intro W base args ds gs before hval0 hW hcnd _ hL _
  have hval : ∀ (j : Nat) t v, Tryz.f3.params[j]? = some t → args[j]? = some v → Value.okWide Tryz.prog W .any base t v := hval0
  have hW' := hW
  obtain ⟨p, q, hA0, hV, rfl, hfz, hnd⟩ := hW
  have hA : DataW.TrodAll enc Tryz.prog W 0 (fun _ => true) true Tryz.f3.params.toList args.toList ds p := hA0
  rw [Tryz.params3] at hA hval
  obtain ⟨v0, vs0, d0, ds0, p0, q0, hargs, rfl, rfl, h0, r0⟩ := trodAll_cons hA
  obtain ⟨rfl, rfl, rfl⟩ := trodAll_nil r0
  obtain rfl : args = #[v0] := by cases args; simp_all
  obtain ⟨rfl, rfl⟩ := trodVars_none hV
  have k0 := h0
  have lt0 : ∀ x ∈ p0, x.block < W.heap.size := by obtain ⟨m, hm⟩ := k0; exact DataW.trod_lt m _ _ _ hm
  obtain ⟨n00, a000, c000, x000, a001, c001, x001, n01, a010, c010, x010, a011, c011, x011, rfl, w000, w001, w010, w011⟩ := point_of_arg (hval 0 28 v0 rfl rfl) h0
  clear hA0 hval0
  refine (walk n00 a000 c000 x000 a001 c001 x001 n01 a010 c010 x010 a011 c011 x011 W w000 w001 w010 w011 (tab_of hL)).mono fun e W' ⟨he, bel⟩ => ?_
  subst he
  exact ⟨_, rfl, _, _, _, [], _, [], hW', trodAll_mk1 (shut_bool Tryz.underlying4 _), (trodAll_cons_mk (Below.trod Tryz.laidOut (by kernel_rfl) (of_decide_eq_true (by kernel_rfl)) k0 bel lt0) trodAll_mk0), rfl, bel.frame _, fun h => by cases h⟩

theorem over : Rows.fnExactFormatPointRow.holds Tryz.pinned (OpenSpec.ofChange Rows.fnExactFormatPointSpec) :=
  OpenClaim.holds_of_wide 3 Tryz.f3 rfl rfl rfl rfl rfl rfl rfl ⟨rfl, rfl, rfl, rfl, rfl⟩ rfl rfl rfl rfl rfl (by kernel_rfl) Tryz.func3 (closed_ofP may_enter make_cut lifts_final 3 Tryz.f3 Rows.fnExactFormatPointSpec Rows.fnExactFormatPointRow prog_facts (by kernel_rfl) rfl rfl)
    (of_decide_eq_true (by kernel_rfl)) (by unfold Func.isWrapper; first | (rw [if_pos (by decide +kernel)]; kernel_rfl) | (rw [if_neg (by decide +kernel)]; exact ⟨rfl, rfl⟩))
    (fun os started H enc _ => lifted os started H enc)

set_option maxRecDepth 100000 in
theorem proved : Rows.FnExactFormatPointCardSaid :=
  Claim7.holds_tied_plain_at .later [] [.data, .data, .data] true (true, "0c8b634b791b0c7347117a5538e5b19612e75d35b48e11f34bf8d4a61f6ebe1e") false over (fun _ h => by cases h) (by kernel_rfl) (fun _ h => by cases h) fnExactFormatPoint_row_tie rfl ⟨rfl, rfl⟩ (by kernel_rfl) rfl
    (fun f fn hf hfn => by
      obtain rfl : f = 3 := Option.some.inj ((show Tryz.prog.funcNamed "loop.example/g00812/laws.FnExactFormatPoint" = some 3 by kernel_rfl).symm.trans hf) |>.symm
      obtain rfl : fn = Tryz.f3 := (Option.some.inj (Tryz.func3.symm.trans hfn)).symm
      exact ⟨by kernel_rfl, fun j t ht => by
        rw [Tryz.params3] at ht
        have hm : t ∈ [28] := by simpa using Array.mem_of_getElem? ht
        have hall : ([28].all fun u => !Tryz.prog.wantsStandIn u) = true := by kernel_rfl
        exact (show Tryz.prog.wantsStandIn t = false by simpa using List.all_eq_true.1 hall t hm)⟩)
    (by kernel_rfl)
#print axioms proved
end Go.Proofs.YtjklefkkdaelnaaGreatDoor.fnExactFormatPoint
