/- For every input the law FnNats returns true, and its arguments read afterwards as they read before. No condition. -/
import Derived.Test.YtjklefkkdaelnaaDoorFrameA
import Derived.Test.YtjklefkkdaelnaaDoorNatsW
import Derived.Test.YtjklefkkdaelnaaDoorTie
import Derived.Test.YtjklefkkdaelnaaDoorCards
import Derived.OpenShut
import Derived.LaidMore
import Derived.Lay
import Derived.SevenTiedAt
import Derived.Stop.Joined
namespace Go.Proofs.YtjklefkkdaelnaaDoor.fnNats
set_option linter.unusedVariables false
set_option linter.unusedSimpArgs false
open Go.ChangeShapes Go.WideShapes Go.ChangeAt Go.RowKit
open Go.ChangeMaps (open_string shut_string)

set_option maxRecDepth 100000 in
set_option maxHeartbeats 2000000 in
theorem walk (a0 : Option Addr) (c0 : Nat) (x0 : List Int) (w : World) (w0 : BytesAt w a0 c0 x0) (htab : Lib.TabIs Tryd.prog w "internal/strconv.uint64pow10" .u64 Lib.pow10Tab) :
    Calls Tryd.prog 9 #[.slice a0 x0.length c0] w fun e w' => e = .returned (.bool true) ∧ Below w.heap.size w w' := by
  by_cases n0 : x0.length ≤ 1048576
  case neg =>
    go_enter Tryd.func9, Tryd.ntmps9
    go_wp2
    go_ret
    exact ⟨rfl, Below.refl _ _⟩
  have HT := Lib.hid htab
  have HW := Lib.hid w0
  clear htab w0
  go_enter Tryd.func9, Tryd.ntmps9
  go_wp2_with fail
  refine (makeNat_any a0 c0 x0 _ HW.out n0 0 (by omega)).mono ?_
  rintro e W1 ⟨m, p, c, rfl, hm, o1, b1⟩
  have HM := Lib.hid hm
  have B1 := Lib.hid b1
  have A := Lib.hid o1.ints
  clear b1 o1
  go_wp2_with fail
  refine (makeNat_any a0 c0 x0 _ (HW.out.step (lo := w.heap.size) B1.out (bytes_apart HW.out)) n0 1 (by omega)).mono ?_
  rintro e W2 ⟨k, p2, c2, rfl, hk, o2, b2⟩
  have HKK := Lib.hid hk
  have B2 := Lib.hid (bstep B1.out b2)
  have O2 := Lib.hid o2
  have BB2 := Lib.hid b2
  clear b2 o2
  have hkl : (digs k).length + 1 ≤ 16777216 := by omega
  go_wp2_with (at_builtin; go_must (refine append_int O2.out (n := 6) (by unfold In64; omega) hkl BB2.out.size rfl _ _ rfl rfl rfl ?_); intro v' W3 hown1 hb1 _)
  obtain ⟨p3, c3, rfl, hi3⟩ := hown1.form
  have hy := six_ok hk
  have hyl : (digs k ++ [6]).length ≤ 4 := by rw [List.length_append, List.length_singleton]; omega
  have hyp : 0 < (digs k ++ [6]).length := by rw [List.length_append, List.length_singleton]; omega
  obtain ⟨ys, hys⟩ : ∃ ys, ys = digs k ++ [6] := ⟨_, rfl⟩
  rw [← hys] at hi3 hy hyl hyp ⊢
  have B3 : Hid (Below w.heap.size w W3) := B2.out.trans (hb1.mono B1.out.size)
  replace A := Lib.hid (A.out.below (BB2.out.trans hb1))
  have Y := Lib.hid hi3
  have HF := Lib.hid (nats_facts hm hy hyp)
  have HP := Lib.hid (fmt_parse hm)
  obtain ⟨V, hV⟩ : ∃ V, V = val ys := ⟨_, rfl⟩
  rw [← hV] at HF
  have hl1 : (digs m).length ≤ 1048576 := by omega
  have hl2 : ys.length ≤ 1048576 := by omega
  have hlq : (digs (m / V)).length ≤ 1048576 := by have := HF.out.2.2.1; omega
  have hlr : (digs (m % V)).length ≤ 1048576 := by have := HF.out.2.2.2.1; omega
  have hlm : (digs (m / V * V)).length ≤ 1048576 := by have := HF.out.2.2.2.2.2.1; omega
  have hlg := natGcdL_len (digs m) ys
  clear hys hi3 hown1 hb1 hm hk hkl O2 hy hyl hyp hV
  go_wp2_with fail
  refine (implNatDiv_any p c (digs m) p3 c3 ys _ A.out hl1 Y.out hl2).mono ?_
  rintro e W4 ⟨p4, c4, p5, c5, rfl, o4, b4⟩
  rw [HF.out.1, HF.out.2.1] at o4 ⊢
  have B4 := Lib.hid (bstep B3.out b4)
  replace A := Lib.hid (A.out.below b4)
  replace Y := Lib.hid (Y.out.below b4)
  have Q := Lib.hid (o4.i1.below (Below.refl _ _))
  have R := Lib.hid (o4.i2.below (Below.refl _ _))
  clear o4 b4
  go_wp2_with fail
  refine (implFormatNat_any p c (digs m) _ A.out hl1 (tabB HT.out B4.out)).mono ?_
  rintro e W5 ⟨rfl, b5⟩
  have B5 := Lib.hid (bstep B4.out b5)
  replace A := Lib.hid (A.out.below b5)
  replace Y := Lib.hid (Y.out.below b5)
  replace Q := Lib.hid (Q.out.below b5)
  replace R := Lib.hid (R.out.below b5)
  clear b5
  go_wp2_with fail
  refine (implParseNat_any (fmtNat (digs m)) _ (Nat.le_trans (fmtNat_size _) (by decide)) (tabB HT.out B5.out)).mono ?_
  rintro e W6 ⟨p6, c6, rfl, o6, b6⟩
  rw [HP.out.2] at o6 ⊢
  rw [HP.out.1]
  have B6 := Lib.hid (bstep B5.out b6)
  replace A := Lib.hid (A.out.below b6)
  replace Y := Lib.hid (Y.out.below b6)
  replace Q := Lib.hid (Q.out.below b6)
  replace R := Lib.hid (R.out.below b6)
  have X := Lib.hid (o6.ints)
  clear o6 b6
  go_wp2_with fail
  refine (implNatCmp_any p6 c6 (digs m) p c (digs m) _ X.out hl1 A.out hl1).mono ?_
  rintro e W7 ⟨rfl, b7⟩
  rw [HF.out.2.2.2.2.2.2.2.1]
  have B7 := Lib.hid (bstep B6.out b7)
  replace A := Lib.hid (A.out.below b7)
  replace Y := Lib.hid (Y.out.below b7)
  replace Q := Lib.hid (Q.out.below b7)
  replace R := Lib.hid (R.out.below b7)
  replace X := Lib.hid (X.out.below b7)
  clear b7
  go_wp2_with fail
  refine (implNatMul_any p4 c4 (digs (m / V)) p3 c3 ys _ Q.out hlq Y.out hl2).mono ?_
  rintro e W8 ⟨p7, c7, rfl, o7, b8⟩
  rw [HF.out.2.2.2.2.1] at o7 ⊢
  have B8 := Lib.hid (bstep B7.out b8)
  replace A := Lib.hid (A.out.below b8)
  replace Y := Lib.hid (Y.out.below b8)
  replace Q := Lib.hid (Q.out.below b8)
  replace R := Lib.hid (R.out.below b8)
  replace X := Lib.hid (X.out.below b8)
  have M := Lib.hid (o7.ints)
  clear o7 b8
  go_wp2_with fail
  refine (implNatAdd_any p7 c7 (digs (m / V * V)) p5 c5 (digs (m % V)) _ M.out hlm R.out hlr).mono ?_
  rintro e W9 ⟨p8, c8, rfl, o8, b9⟩
  rw [HF.out.2.2.2.2.2.2.1] at o8 ⊢
  have B9 := Lib.hid (bstep B8.out b9)
  replace A := Lib.hid (A.out.below b9)
  replace Y := Lib.hid (Y.out.below b9)
  replace Q := Lib.hid (Q.out.below b9)
  replace R := Lib.hid (R.out.below b9)
  replace X := Lib.hid (X.out.below b9)
  replace M := Lib.hid (M.out.below b9)
  have D := Lib.hid (o8.ints)
  clear o8 b9
  go_wp2_with fail
  refine (implNatCmp_any p8 c8 (digs m) p c (digs m) _ D.out hl1 A.out hl1).mono ?_
  rintro e W10 ⟨rfl, b10⟩
  rw [HF.out.2.2.2.2.2.2.2.1]
  have B10 := Lib.hid (bstep B9.out b10)
  replace A := Lib.hid (A.out.below b10)
  replace Y := Lib.hid (Y.out.below b10)
  replace Q := Lib.hid (Q.out.below b10)
  replace R := Lib.hid (R.out.below b10)
  replace X := Lib.hid (X.out.below b10)
  replace M := Lib.hid (M.out.below b10)
  replace D := Lib.hid (D.out.below b10)
  clear b10
  go_wp2_with fail
  refine (implNatCmp_any p5 c5 (digs (m % V)) p3 c3 ys _ R.out hlr Y.out hl2).mono ?_
  rintro e W11 ⟨rfl, b11⟩
  rw [HF.out.2.2.2.2.2.2.2.2.1]
  have B11 := Lib.hid (bstep B10.out b11)
  replace A := Lib.hid (A.out.below b11)
  replace Y := Lib.hid (Y.out.below b11)
  replace Q := Lib.hid (Q.out.below b11)
  replace R := Lib.hid (R.out.below b11)
  replace X := Lib.hid (X.out.below b11)
  replace M := Lib.hid (M.out.below b11)
  replace D := Lib.hid (D.out.below b11)
  clear b11
  go_wp2_with fail
  refine (implNatGcd_any p c (digs m) p3 c3 ys _ A.out hl1 Y.out hl2).mono ?_
  rintro e W12 ⟨p9, c9, rfl, o9, b12⟩
  have B12 := Lib.hid (bstep B11.out b12)
  replace A := Lib.hid (A.out.below b12)
  replace Y := Lib.hid (Y.out.below b12)
  replace Q := Lib.hid (Q.out.below b12)
  replace R := Lib.hid (R.out.below b12)
  replace X := Lib.hid (X.out.below b12)
  replace M := Lib.hid (M.out.below b12)
  replace D := Lib.hid (D.out.below b12)
  have E := Lib.hid (o9.ints)
  clear o9 b12
  go_wp2_with fail
  refine (implNatGcd_any p3 c3 ys p c (digs m) _ Y.out hl2 A.out hl1).mono ?_
  rintro e W13 ⟨p10, c10, rfl, o10, b13⟩
  rw [HF.out.2.2.2.2.2.2.2.2.2.1] at o10 ⊢
  have B13 := Lib.hid (bstep B12.out b13)
  replace A := Lib.hid (A.out.below b13)
  replace Y := Lib.hid (Y.out.below b13)
  replace Q := Lib.hid (Q.out.below b13)
  replace R := Lib.hid (R.out.below b13)
  replace X := Lib.hid (X.out.below b13)
  replace M := Lib.hid (M.out.below b13)
  replace D := Lib.hid (D.out.below b13)
  replace E := Lib.hid (E.out.below b13)
  have E2 := Lib.hid (o10.ints)
  clear o10 b13
  go_wp2_with fail
  refine (implNatCmp_any p9 c9 (natGcdL (digs m) ys) p10 c10 (natGcdL (digs m) ys) _ E.out hlg E2.out hlg).mono ?_
  rintro e W14 ⟨rfl, b14⟩
  rw [HF.out.2.2.2.2.2.2.2.2.2.2]
  have B14 := Lib.hid (bstep B13.out b14)
  replace A := Lib.hid (A.out.below b14)
  replace Y := Lib.hid (Y.out.below b14)
  replace Q := Lib.hid (Q.out.below b14)
  replace R := Lib.hid (R.out.below b14)
  replace X := Lib.hid (X.out.below b14)
  replace M := Lib.hid (M.out.below b14)
  replace D := Lib.hid (D.out.below b14)
  replace E := Lib.hid (E.out.below b14)
  replace E2 := Lib.hid (E2.out.below b14)
  clear b14
  go_wp2
  go_ret
  exact ⟨rfl, B14.out⟩

set_option maxRecDepth 100000 in
theorem tab_of {W : World} (h : laidMetH Tryd.prog Rows.fnNatsRow.laid W) : Lib.TabIs Tryd.prog W "internal/strconv.uint64pow10" .u64 Lib.pow10Tab := by
  rw [MakeChecks.laidMetH_plain _ _ _ (by kernel_rfl)] at h
  have h1 := laidMet.filter (fun x => x.1 == "internal/strconv.uint64pow10") h
  exact Lib.tabIs_of_head (rest := []) (g := 3) (t := 168) (e := 108) (n := 20) (by kernel_rfl) (by kernel_rfl) (by kernel_rfl) (by kernel_rfl) (by kernel_rfl) (by kernel_rfl) h1

set_option maxRecDepth 100000 in
theorem lifted (os : Os) (started : os.Started) (H : Type) (enc : TypeId × Value → H) :
    ReturnsInHanded {} Tryd.checked os 9 .any (fun w args => (Rows.fnNatsSpec.pre enc Tryd.prog Tryd.f9 Rows.fnNatsRow.domain false w args ∧ laidMetH Tryd.prog Rows.fnNatsRow.laid w) ∧ sizedMet enc Tryd.prog Tryd.f9 (OpenSpec.ofChange Rows.fnNatsSpec) false w args)
      (Rows.fnNatsSpec.post enc Tryd.prog Tryd.f9 false true false false) := by
  refine returnsInHanded_of_change_and (C := Tryd.checked) (X := (fun w _ => laidMetH Tryd.prog Rows.fnNatsRow.laid w)) (fun _ _ _ hh h => h.of_heap hh) Tryd.own started (by kernel_rfl) Tryd.func9
    (ChangeSpec.witness_shaped (enc := enc) (C := Tryd.checked) (os := os) (X := (fun w _ => laidMetH Tryd.prog Rows.fnNatsRow.laid w)) false (World.laidAll Tryd.prog os Rows.fnNatsRow.laid) #[.slice none 0 0] 8 (World.laidAll_os _ _ _)
      (World.shaped_of_ZipB (by kernel_rfl) (by kernel_rfl)) (by kernel_rfl) (by kernel_rfl) (by kernel_rfl)
      (by rw [MakeChecks.laidMetH_plain _ _ _ (by kernel_rfl)]; exact laidMet_laidAll _ (by kernel_rfl) (by kernel_rfl))) ?_
  intro W base args ds gs before hval0 hW hcnd _ hL _
  have hval : ∀ (j : Nat) t v, Tryd.f9.params[j]? = some t → args[j]? = some v → Value.okWide Tryd.prog W .any base t v := hval0
  have hW' := hW
  obtain ⟨p, q, hA0, hV, rfl, hfz, hnd⟩ := hW
  have hA : DataW.TrodAll enc Tryd.prog W 0 (fun _ => true) true Tryd.f9.params.toList args.toList ds p := hA0
  rw [Tryd.params9] at hA hval
  obtain ⟨v0, vs0, d0, ds0, p0, q0, hargs, rfl, rfl, h0, r0⟩ := trodAll_cons hA
  obtain ⟨rfl, rfl, rfl⟩ := trodAll_nil r0
  obtain rfl : args = #[v0] := by cases args; simp_all
  obtain ⟨rfl, rfl⟩ := trodVars_none hV
  have k0 := h0
  have lt0 : ∀ x ∈ p0, x.block < W.heap.size := by obtain ⟨m, hm⟩ := k0; exact DataW.trod_lt m _ _ _ hm
  obtain ⟨a0, c0, x0, rfl, w0⟩ := bytes_of_arg (hval 0 48 v0 rfl rfl) h0
  clear hA0 hval0
  refine (walk a0 c0 x0 W w0 (tab_of hL)).mono fun e W' ⟨he, bel⟩ => ?_
  subst he
  exact ⟨_, rfl, _, _, _, [], _, [], hW', trodAll_mk1 (shut_bool Tryd.underlying4 _), (trodAll_cons_mk (Below.trod Tryd.laidOut (by kernel_rfl) (of_decide_eq_true (by kernel_rfl)) k0 bel lt0) trodAll_mk0), rfl, bel.frame _, fun h => by cases h⟩

theorem over : Rows.fnNatsRow.holds Tryd.pinned (OpenSpec.ofChange Rows.fnNatsSpec) :=
  OpenClaim.holds_of_wide 9 Tryd.f9 rfl rfl rfl rfl rfl rfl rfl ⟨rfl, rfl, rfl, rfl, rfl⟩ rfl rfl rfl rfl rfl (by kernel_rfl) Tryd.func9 (closed_ofP may_enter make_cut lifts_final 9 Tryd.f9 Rows.fnNatsSpec Rows.fnNatsRow prog_facts (by kernel_rfl) rfl rfl)
    (of_decide_eq_true (by kernel_rfl)) (by unfold Func.isWrapper; first | (rw [if_pos (by decide +kernel)]; kernel_rfl) | (rw [if_neg (by decide +kernel)]; exact ⟨rfl, rfl⟩))
    (fun os started H enc _ => lifted os started H enc)

set_option maxRecDepth 100000 in
theorem proved : Rows.FnNatsCardSaid :=
  Claim7.holds_tied_plain_at .later [] [.data, .data, .data] true (true, "73a61dcd582288e7bad97c363601477dc77ac763254cdaaee76d9b755edce1da") true over (fun _ h => by cases h) (by kernel_rfl) (fun _ h => by cases h) fnNats_row_tie rfl ⟨rfl, rfl⟩ (by kernel_rfl) rfl
    (fun f fn hf hfn => by
      obtain rfl : f = 9 := Option.some.inj ((show Tryd.prog.funcNamed "loop.example/g00812/laws.FnNats" = some 9 by kernel_rfl).symm.trans hf) |>.symm
      obtain rfl : fn = Tryd.f9 := (Option.some.inj (Tryd.func9.symm.trans hfn)).symm
      exact ⟨by kernel_rfl, fun j t ht => by
        rw [Tryd.params9] at ht
        have hm : t ∈ [48] := by simpa using Array.mem_of_getElem? ht
        have hall : ([48].all fun u => !Tryd.prog.wantsStandIn u) = true := by kernel_rfl
        exact (show Tryd.prog.wantsStandIn t = false by simpa using List.all_eq_true.1 hall t hm)⟩)
    (by kernel_rfl)
#print axioms proved
end Go.Proofs.YtjklefkkdaelnaaDoor.fnNats
