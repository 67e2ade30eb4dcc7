/- For every input the law FnWords returns true, and its arguments read afterwards as they read before. No condition. -/
import Derived.Test.YtjklefkkdaelnaaDoorFrameA
import Derived.Test.YtjklefkkdaelnaaDoorWordsW
import Derived.Test.YtjklefkkdaelnaaDoorShaped
import Derived.Stop.LaidErr
import Derived.Test.YtjklefkkdaelnaaDoorTie
import Derived.Test.YtjklefkkdaelnaaDoorCards
import Derived.OpenShut
import Derived.LaidMore
import Derived.Lay
import Derived.SevenTiedAt
import Derived.Stop.Joined
namespace Go.Proofs.YtjklefkkdaelnaaDoor.fnWords
set_option linter.unusedVariables false
set_option linter.unusedSimpArgs false
open Go.ChangeShapes Go.WideShapes Go.ChangeAt Go.RowKit
open Go.ChangeMaps (open_string shut_string)

set_option maxRecDepth 100000 in
set_option maxHeartbeats 2000000 in
theorem walk (a0 : Option Addr) (c0 : Nat) (x0 : List Int) (w : World) (w0 : BytesAt w a0 c0 x0) (htab : Lib.TabIs Tryd.prog w "internal/strconv.uint64pow10" .u64 Lib.pow10Tab) (hsy : ErrVar w "strconv.ErrSyntax") (hrg : ErrVar w "strconv.ErrRange") (hmx : MaxVar w) :
    Calls Tryd.prog 11 #[.slice a0 x0.length c0] w fun e w' => e = .returned (.bool true) ∧ Below w.heap.size w w' := by
  by_cases n0 : x0.length ≤ 1048576
  case neg =>
    go_enter Tryd.func11, Tryd.ntmps11
    go_wp2
    go_ret
    exact ⟨rfl, Below.refl _ _⟩
  have HT := Lib.hid htab
  have HS := Lib.hid hsy
  have HR := Lib.hid hrg
  have HM := Lib.hid hmx
  have HW := Lib.hid w0
  clear htab hsy hrg hmx w0
  go_enter Tryd.func11, Tryd.ntmps11
  go_wp2_with fail
  refine (makeNum_any a0 c0 x0 _ HW.out n0 1 (by omega)).mono ?_
  rintro e W1 ⟨z, rfl, hz0, hz1, b1⟩
  have B1 := Lib.hid b1
  clear b1
  go_wp2_with fail
  refine (implFormatInt_any (z - 30000) _ (by unfold In64; omega) (tabB HT.out B1.out)).mono ?_
  rintro e W2 ⟨rfl, b2⟩
  have B2 := Lib.hid (bstep B1.out b2)
  clear b2
  go_wp2_with fail
  refine (implParseInt_any (itoaB (z - 30000)) _ (itoa_short (by omega) (by omega)) (tabB HT.out B2.out) (HS.out.below B2.out) (HR.out.below B2.out)).mono ?_
  rintro e W3 ⟨rfl, b3⟩
  have hpb := pi_back (n := z - 30000) (by unfold In64; omega)
  rw [hpb.1, hpb.2]
  have B3 := Lib.hid (bstep B2.out b3)
  clear b3 hpb
  go_wp2_with fail
  refine (makeText_any a0 c0 x0 _ (HW.out.step (lo := w.heap.size) B3.out (bytes_apart HW.out)) n0).mono ?_
  rintro e W4 ⟨u, rfl, hu, b4⟩
  have B4 := Lib.hid (bstep B3.out b4)
  clear b4
  go_wp2_with fail
  refine (implSplitAny_any u ⟨#[32]⟩ _ (by omega) (by decide)).mono ?_
  rintro e W5 ⟨p, c, rfl, o5, b5⟩
  have B5 := Lib.hid (bstep B4.out b5)
  have O5 := Lib.hid o5
  clear b5 o5
  go_wp2_with fail
  refine (implJoin_any p c (splitAny u ⟨#[32]⟩) ⟨#[32]⟩ _ O5.out.i1 (split_small hu) (by decide)).mono ?_
  rintro e W6 ⟨rfl, b6⟩
  rw [join_split]
  have B6 := Lib.hid (bstep B5.out b6)
  clear b6 O5
  go_wp2_with fail
  refine (implIsName_any ⟨#[120, 49]⟩ _ (by decide)).mono ?_
  rintro e W7 ⟨rfl, b7⟩
  rw [x1_name]
  have B7 := Lib.hid (bstep B6.out b7)
  clear b7
  go_wp2_with fail
  refine (implSplitLines_any ⟨#[97, 10, 98, 10]⟩ _ (by decide) (HM.out.below B7.out)).mono ?_
  rintro e W8 ⟨p2, c2, rfl, o8, b8⟩
  rw [two_lines]
  have B8 := Lib.hid (bstep B7.out b8)
  clear b8 o8
  go_wp2
  go_ret
  exact ⟨rfl, B8.out⟩

set_option maxRecDepth 100000 in
theorem tab_of {W : World} (h : laidMetH Tryd.prog Rows.fnWordsRow.laid W) : Lib.TabIs Tryd.prog W "internal/strconv.uint64pow10" .u64 Lib.pow10Tab := by
  rw [MakeChecks.laidMetH_plain _ _ _ (by kernel_rfl)] at h
  have h1 := laidMet.filter (fun x => x.1 == "internal/strconv.uint64pow10") h
  exact Lib.tabIs_of_head (rest := []) (g := 3) (t := 168) (e := 108) (n := 20) (by kernel_rfl) (by kernel_rfl) (by kernel_rfl) (by kernel_rfl) (by kernel_rfl) (by kernel_rfl) h1

theorem star : "*" ++ "errors.errorString" = "*errors.errorString" := by decide
set_option maxRecDepth 100000 in
theorem star_row (u : TypeId) (h : Tryd.prog.typeName? 3 u = some "*errors.errorString") : u = 164 :=
  typeName_ptr_named (nm := "errors.errorString") (by rw [star]; kernel_rfl) (by kernel_rfl) (by decide) u (by rw [star]; exact h)
set_option maxRecDepth 100000 in
theorem err_of1 {W : World} (h : laidMetH Tryd.prog Rows.fnWordsRow.laid W) : ErrVar W "strconv.ErrSyntax" := by
  rw [MakeChecks.laidMetH_plain _ _ _ (by kernel_rfl)] at h
  have h1 := laidMet.filter (fun x => x.1 == "strconv.ErrSyntax") h
  obtain ⟨a, s, hv, _⟩ := laid_sentinel (r := []) (n := "strconv.ErrSyntax") (g := 0) (ti := 77) (tp := 164) (te := 166) (ts := 9) h1 (by kernel_rfl) (by kernel_rfl) Tryd.underlying77 star_row Tryd.underlying164 Tryd.underlying166 rfl rfl Tryd.underlying9 (by kernel_rfl) (by kernel_rfl)
  exact ⟨_, _, hv⟩

set_option maxRecDepth 100000 in
theorem err_of2 {W : World} (h : laidMetH Tryd.prog Rows.fnWordsRow.laid W) : ErrVar W "strconv.ErrRange" := by
  rw [MakeChecks.laidMetH_plain _ _ _ (by kernel_rfl)] at h
  have h1 := laidMet.filter (fun x => x.1 == "strconv.ErrRange") h
  obtain ⟨a, s, hv, _⟩ := laid_sentinel (r := []) (n := "strconv.ErrRange") (g := 1) (ti := 77) (tp := 164) (te := 166) (ts := 9) h1 (by kernel_rfl) (by kernel_rfl) Tryd.underlying77 star_row Tryd.underlying164 Tryd.underlying166 rfl rfl Tryd.underlying9 (by kernel_rfl) (by kernel_rfl)
  exact ⟨_, _, hv⟩

set_option maxRecDepth 100000 in
theorem lifted (os : Os) (started : os.Started) (H : Type) (enc : TypeId × Value → H) :
    ReturnsInHanded {} Tryd.checked os 11 .any (fun w args => (Rows.fnWordsSpec.pre enc Tryd.prog Tryd.f11 Rows.fnWordsRow.domain false w args ∧ laidMetH Tryd.prog Rows.fnWordsRow.laid w) ∧ sizedMet enc Tryd.prog Tryd.f11 (OpenSpec.ofChange Rows.fnWordsSpec) false w args)
      (Rows.fnWordsSpec.post enc Tryd.prog Tryd.f11 false true false false) := by
  refine returns_shaped (C := Tryd.checked) (X := (fun w _ => laidMetH Tryd.prog Rows.fnWordsRow.laid w)) (fun _ _ _ hh h => h.of_heap hh) Tryd.own started (by kernel_rfl) Tryd.func11
    (ChangeSpec.witness_shaped (enc := enc) (C := Tryd.checked) (os := os) (X := (fun w _ => laidMetH Tryd.prog Rows.fnWordsRow.laid w)) false (World.laidAll Tryd.prog os Rows.fnWordsRow.laid) #[.slice none 0 0] 8 (World.laidAll_os _ _ _)
      (World.shaped_of_ZipB (by kernel_rfl) (by kernel_rfl)) (by kernel_rfl) (by kernel_rfl) (by kernel_rfl)
      (by rw [MakeChecks.laidMetH_plain _ _ _ (by kernel_rfl)]; exact laidMet_laidAll _ (by kernel_rfl) (by kernel_rfl))) ?_
  intro W base args ds gs before hval0 hW hcnd _ hL hsh _
  have hval : ∀ (j : Nat) t v, Tryd.f11.params[j]? = some t → args[j]? = some v → Value.okWide Tryd.prog W .any base t v := hval0
  have hW' := hW
  obtain ⟨p, q, hA0, hV, rfl, hfz, hnd⟩ := hW
  have hA : DataW.TrodAll enc Tryd.prog W 0 (fun _ => true) true Tryd.f11.params.toList args.toList ds p := hA0
  rw [Tryd.params11] at hA hval
  obtain ⟨v0, vs0, d0, ds0, p0, q0, hargs, rfl, rfl, h0, r0⟩ := trodAll_cons hA
  obtain ⟨rfl, rfl, rfl⟩ := trodAll_nil r0
  obtain rfl : args = #[v0] := by cases args; simp_all
  obtain ⟨rfl, rfl⟩ := trodVars_none hV
  have k0 := h0
  have lt0 : ∀ x ∈ p0, x.block < W.heap.size := by obtain ⟨m, hm⟩ := k0; exact DataW.trod_lt m _ _ _ hm
  obtain ⟨a0, c0, x0, rfl, w0⟩ := bytes_of_arg (hval 0 48 v0 rfl rfl) h0
  clear hA0 hval0
  refine (walk a0 c0 x0 W w0 (tab_of hL) (err_of1 hL) (err_of2 hL) (max_of hsh)).mono fun e W' ⟨he, bel⟩ => ?_
  subst he
  exact ⟨_, rfl, _, _, _, [], _, [], hW', trodAll_mk1 (shut_bool Tryd.underlying4 _), (trodAll_cons_mk (Below.trod Tryd.laidOut (by kernel_rfl) (of_decide_eq_true (by kernel_rfl)) k0 bel lt0) trodAll_mk0), rfl, bel.frame _, fun h => by cases h⟩

theorem over : Rows.fnWordsRow.holds Tryd.pinned (OpenSpec.ofChange Rows.fnWordsSpec) :=
  OpenClaim.holds_of_wide 11 Tryd.f11 rfl rfl rfl rfl rfl rfl rfl ⟨rfl, rfl, rfl, rfl, rfl⟩ rfl rfl rfl rfl rfl (by kernel_rfl) Tryd.func11 (closed_ofP may_enter make_cut lifts_final 11 Tryd.f11 Rows.fnWordsSpec Rows.fnWordsRow prog_facts (by kernel_rfl) rfl rfl)
    (of_decide_eq_true (by kernel_rfl)) (by unfold Func.isWrapper; first | (rw [if_pos (by decide +kernel)]; kernel_rfl) | (rw [if_neg (by decide +kernel)]; exact ⟨rfl, rfl⟩))
    (fun os started H enc _ => lifted os started H enc)

set_option maxRecDepth 100000 in
theorem proved : Rows.FnWordsCardSaid :=
  Claim7.holds_tied_plain_at .later [] [.data, .data, .data, .data, .sentinel, .sentinel, .pinned] true (true, "73a61dcd582288e7bad97c363601477dc77ac763254cdaaee76d9b755edce1da") true over (fun _ h => by cases h) (by kernel_rfl) (fun _ h => by cases h) fnWords_row_tie rfl ⟨rfl, rfl⟩ (by kernel_rfl) rfl
    (fun f fn hf hfn => by
      obtain rfl : f = 11 := Option.some.inj ((show Tryd.prog.funcNamed "loop.example/g00812/laws.FnWords" = some 11 by kernel_rfl).symm.trans hf) |>.symm
      obtain rfl : fn = Tryd.f11 := (Option.some.inj (Tryd.func11.symm.trans hfn)).symm
      exact ⟨by kernel_rfl, fun j t ht => by
        rw [Tryd.params11] at ht
        have hm : t ∈ [48] := by simpa using Array.mem_of_getElem? ht
        have hall : ([48].all fun u => !Tryd.prog.wantsStandIn u) = true := by kernel_rfl
        exact (show Tryd.prog.wantsStandIn t = false by simpa using List.all_eq_true.1 hall t hm)⟩)
    (by kernel_rfl)
#print axioms proved
end Go.Proofs.YtjklefkkdaelnaaDoor.fnWords
