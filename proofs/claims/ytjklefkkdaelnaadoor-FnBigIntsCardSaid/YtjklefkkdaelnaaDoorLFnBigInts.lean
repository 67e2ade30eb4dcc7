/- For every input the law FnBigInts returns true, and its arguments read afterwards as they read before. No condition. -/
import Derived.Deep.RegionHeld3
import Derived.Test.YtjklefkkdaelnaaDoorFrameA
import Derived.Test.YtjklefkkdaelnaaDoorBigsV
import Derived.Test.YtjklefkkdaelnaaDoorTie
import Derived.Test.YtjklefkkdaelnaaDoorCards
import Derived.OpenShut
import Derived.LaidMore
import Derived.Lay
import Derived.SevenTiedAt
import Derived.Stop.Joined
namespace Go.Proofs.YtjklefkkdaelnaaDoor.fnBigInts
set_option linter.unusedVariables false
set_option linter.unusedSimpArgs false
open Go.ChangeShapes Go.WideShapes Go.ChangeAt Go.RowKit
open Go.ChangeMaps (open_string shut_string)

set_option maxRecDepth 100000 in
set_option maxHeartbeats 20000000 in
theorem walk (a0 : Option Addr) (c0 : Nat) (x0 : List Int) (w : World) (w0 : BytesAt w a0 c0 x0) (htab : Lib.TabIs Tryd.prog w "internal/strconv.uint64pow10" .u64 Lib.pow10Tab) :
    Calls Tryd.prog 10 #[.slice a0 x0.length c0] w fun e w' => e = .returned (.bool true) ∧ Below w.heap.size w w' := by
  by_cases n0 : x0.length ≤ 1048576
  case neg =>
    go_enter Tryd.func10, Tryd.ntmps10
    go_wp2
    go_ret
    exact ⟨rfl, Below.refl _ _⟩
  have HT := Lib.hid htab
  have HW := Lib.hid w0
  clear htab w0
  go_enter Tryd.func10, Tryd.ntmps10
  go_wp2_with fail
  refine (makeBig_any a0 c0 x0 _ HW.out n0 0 (by omega)).mono ?_
  rintro e W1 ⟨x, v1, rfl, hdx, hx, b1⟩
  have DX : Hid (Sm x 3) := hdx
  have B1 := Lib.hid b1
  have X := Lib.hid hx
  obtain ⟨nx, px, lx, cx, rfl⟩ := hx.form
  clear hdx b1 hx
  go_wp2_with fail
  refine (makeBig_any a0 c0 x0 _ (HW.out.step (lo := w.heap.size) (bstep B1.out (ba1 _ _)) (bytes_apart HW.out)) n0 1 (by omega)).mono ?_
  rintro e W2 ⟨y, v2, rfl, hdy, hy, b2⟩
  have DY : Hid (Sm y 3) := hdy
  have RX := box_step (bx1_0 b2) (ba1 W2 (.cells #[.bool false, .slice none 0 0] 39))
  have B2 := Lib.hid (bstep (bstep B1.out (ba1 _ _)) b2)
  replace X := Lib.hid (X.out.below (bstep (ba1 _ _) b2))
  have Y := Lib.hid hy
  obtain ⟨ny, py, ly, cy, rfl⟩ := hy.form
  have RX := box_step (bx1_0 b2) (ba1 W2 (.cells #[.bool ny, .slice py ly cy] 39))
  have X0 := RX.cell 0 rfl
  have X1 := RX.cell 1 rfl
  clear hdy b2 hy
  go_wp2_with fail
  refine (big_fmt (X.out.below (ba1 _ _)) (DX.out.up (by decide)) (tabB HT.out (bstep B2.out (ba1 _ _)))).mono ?_
  rintro e W3 ⟨rfl, b3⟩
  replace RX := box_step RX b3
  have RY := bx1_0 b3
  have B3 := Lib.hid (bstep (bstep B2.out (ba1 _ _)) b3)
  replace X := Lib.hid (X.out.below (bstep (ba1 _ _) b3))
  replace Y := Lib.hid (Y.out.below (bstep (ba1 _ _) b3))
  clear X0 X1 b3
  go_wp2_with fail
  refine (big_parse DX.out (tabB HT.out B3.out)).mono ?_
  rintro e W4 ⟨v3, rfl, hz, b4⟩
  have Z := Lib.hid hz
  obtain ⟨nz, pz, lz, cz, rfl⟩ := hz.form
  have B4 := Lib.hid (bstep B3.out b4)
  replace X := Lib.hid (X.out.below b4)
  replace Y := Lib.hid (Y.out.below b4)
  replace RX := box_step (box_step RX b4) (ba1 W4 (.cells #[.bool nz, .slice pz lz cz] 39))
  replace RY := box_step (box_step RY b4) (ba1 W4 (.cells #[.bool nz, .slice pz lz cz] 39))
  have X0 := RX.cell 0 rfl
  have X1 := RX.cell 1 rfl
  have Y0 := RY.cell 0 rfl
  have Y1 := RY.cell 1 rfl
  clear b4 hz
  go_wp2_with fail
  have D1 : Hid (Sm (x + y) 4) := DX.out.add DY.out
  refine (big_add (X.out.below (ba1 _ _)) (Y.out.below (ba1 _ _)) (DX.out.up (by decide)) (DY.out.up (by decide)) (D1.out.up (by decide))).mono ?_
  rintro e W5 ⟨v4, rfl, hs, b5⟩
  have S := Lib.hid hs
  obtain ⟨ns, ps, ls, cs, rfl⟩ := hs.form
  have B5 := Lib.hid (bstep (bstep B4.out (ba1 _ _)) b5)
  replace RX := box_step RX b5
  replace RY := box_step RY b5
  have RZ := bx1_0 b5
  replace X := Lib.hid (X.out.below (bstep (ba1 _ _) b5))
  replace Y := Lib.hid (Y.out.below (bstep (ba1 _ _) b5))
  replace Z := Lib.hid (Z.out.below (bstep (ba1 _ _) b5))
  clear X0 X1 Y0 Y1 b5 hs
  have hb := (ba1 W5 (.cells #[.bool ns, .slice ps ls cs] 39)).drew
  have RS := box_drew (bx1_0 (Below.refl _ (W5.alloc (.cells #[.bool ns, .slice ps ls cs] 39))))
  replace X := Lib.hid (X.out.below hb)
  replace Y := Lib.hid (Y.out.below hb)
  replace Z := Lib.hid (Z.out.below hb)
  replace S := Lib.hid (S.out.below hb)
  replace RX := box_step RX hb
  replace RY := box_step RY hb
  replace RZ := box_step RZ hb
  replace B5 := Lib.hid (bstep B5.out hb)
  clear hb
  have D2 : Hid (Sm (x * y) 6) := DX.out.mul DY.out
  have D3 : Hid (Sm (y * x) 6) := DY.out.mul DX.out
  have D4 : Hid (Sm ((x + y) * y) 7) := D1.out.mul DY.out
  have D5 : Hid (Sm (y * y) 6) := DY.out.mul DY.out
  have D6 : Hid (Sm (x * y + y * y) 7) := D2.out.add D5.out
  have D7 : Hid (Sm (x + y - x) 3) := by unfold Hid; rw [show x + y - x = y by omega]; exact DY.out
  have E1 : Hid (x + y - x = y) := by unfold Hid; omega
  have E2 : Hid (x * y = y * x) := Int.mul_comm x y
  have E3 : Hid ((x + y) * y = x * y + y * y) := Int.add_mul x y y
  go_wp2_with fail
  go_region_held3 (fun w' => w'.cell? ⟨W1.heap.size, 0, none⟩ = some (.bool nx) ∧ w'.cell? ⟨W1.heap.size, 1, none⟩ = some (.slice px lx cx) ∧ w'.cell? ⟨W2.heap.size, 0, none⟩ = some (.bool ny) ∧ w'.cell? ⟨W2.heap.size, 1, none⟩ = some (.slice py ly cy) ∧ w'.cell? ⟨W4.heap.size, 0, none⟩ = some (.bool nz) ∧ w'.cell? ⟨W4.heap.size, 1, none⟩ = some (.slice pz lz cz) ∧ w'.cell? ⟨W5.heap.size, 0, none⟩ = some (.bool ns) ∧ w'.cell? ⟨W5.heap.size, 1, none⟩ = some (.slice ps ls cs)) (exact ⟨RX.cell 0 rfl, RX.cell 1 rfl, RY.cell 0 rfl, RY.cell 1 rfl, RZ.cell 0 rfl, RZ.cell 1 rfl, RS.cell 0 rfl, RS.cell 1 rfl⟩) (first | (with_reducible refine (big_same Z.out X.out rfl (DX.out.up (by decide))).mono ?_; rintro e wn ⟨rfl, hb⟩; (try replace X := Lib.hid (X.out.below hb)); (try replace Y := Lib.hid (Y.out.below hb)); (try replace Z := Lib.hid (Z.out.below hb)); (try replace S := Lib.hid (S.out.below hb)); (try replace H1 := Lib.hid (H1.out.below hb)); (try replace H2 := Lib.hid (H2.out.below hb)); (try replace H3 := Lib.hid (H3.out.below hb)); (try replace H4 := Lib.hid (H4.out.below hb)); (try replace H5 := Lib.hid (H5.out.below hb)); (try replace H6 := Lib.hid (H6.out.below hb)); (try replace H7 := Lib.hid (H7.out.below hb)); (replace RX := box_step RX hb); (replace RY := box_step RY hb); (replace RZ := box_step RZ hb); (replace RS := box_step RS hb); (replace B5 := Lib.hid (bstep B5.out hb)); clear hb) | (with_reducible refine (big_sub S.out X.out (D1.out.up (by decide)) (DX.out.up (by decide)) (D7.out.up (by decide))).mono ?_; rintro e wn ⟨r, rfl, hr, hb⟩; (try replace X := Lib.hid (X.out.below hb)); (try replace Y := Lib.hid (Y.out.below hb)); (try replace Z := Lib.hid (Z.out.below hb)); (try replace S := Lib.hid (S.out.below hb)); (try replace H1 := Lib.hid (H1.out.below hb)); (try replace H2 := Lib.hid (H2.out.below hb)); (try replace H3 := Lib.hid (H3.out.below hb)); (try replace H4 := Lib.hid (H4.out.below hb)); (try replace H5 := Lib.hid (H5.out.below hb)); (try replace H6 := Lib.hid (H6.out.below hb)); (try replace H7 := Lib.hid (H7.out.below hb)); (replace RX := box_step RX hb); (replace RY := box_step RY hb); (replace RZ := box_step RZ hb); (replace RS := box_step RS hb); (replace B5 := Lib.hid (bstep B5.out hb)); clear hb; have H1 := Lib.hid hr; clear hr) | (with_reducible refine (big_same H1.out Y.out E1.out (D7.out.up (by decide))).mono ?_; rintro e wn ⟨rfl, hb⟩; (try replace X := Lib.hid (X.out.below hb)); (try replace Y := Lib.hid (Y.out.below hb)); (try replace Z := Lib.hid (Z.out.below hb)); (try replace S := Lib.hid (S.out.below hb)); (try replace H1 := Lib.hid (H1.out.below hb)); (try replace H2 := Lib.hid (H2.out.below hb)); (try replace H3 := Lib.hid (H3.out.below hb)); (try replace H4 := Lib.hid (H4.out.below hb)); (try replace H5 := Lib.hid (H5.out.below hb)); (try replace H6 := Lib.hid (H6.out.below hb)); (try replace H7 := Lib.hid (H7.out.below hb)); (replace RX := box_step RX hb); (replace RY := box_step RY hb); (replace RZ := box_step RZ hb); (replace RS := box_step RS hb); (replace B5 := Lib.hid (bstep B5.out hb)); clear hb) | (with_reducible refine (big_mul X.out Y.out (DX.out.up (by decide)) (DY.out.up (by decide)) (D2.out.up (by decide))).mono ?_; rintro e wn ⟨r, rfl, hr, hb⟩; (try replace X := Lib.hid (X.out.below hb)); (try replace Y := Lib.hid (Y.out.below hb)); (try replace Z := Lib.hid (Z.out.below hb)); (try replace S := Lib.hid (S.out.below hb)); (try replace H1 := Lib.hid (H1.out.below hb)); (try replace H2 := Lib.hid (H2.out.below hb)); (try replace H3 := Lib.hid (H3.out.below hb)); (try replace H4 := Lib.hid (H4.out.below hb)); (try replace H5 := Lib.hid (H5.out.below hb)); (try replace H6 := Lib.hid (H6.out.below hb)); (try replace H7 := Lib.hid (H7.out.below hb)); (replace RX := box_step RX hb); (replace RY := box_step RY hb); (replace RZ := box_step RZ hb); (replace RS := box_step RS hb); (replace B5 := Lib.hid (bstep B5.out hb)); clear hb; have H2 := Lib.hid hr; clear hr) | (with_reducible refine (big_mul Y.out X.out (DY.out.up (by decide)) (DX.out.up (by decide)) (D3.out.up (by decide))).mono ?_; rintro e wn ⟨r, rfl, hr, hb⟩; (try replace X := Lib.hid (X.out.below hb)); (try replace Y := Lib.hid (Y.out.below hb)); (try replace Z := Lib.hid (Z.out.below hb)); (try replace S := Lib.hid (S.out.below hb)); (try replace H1 := Lib.hid (H1.out.below hb)); (try replace H2 := Lib.hid (H2.out.below hb)); (try replace H3 := Lib.hid (H3.out.below hb)); (try replace H4 := Lib.hid (H4.out.below hb)); (try replace H5 := Lib.hid (H5.out.below hb)); (try replace H6 := Lib.hid (H6.out.below hb)); (try replace H7 := Lib.hid (H7.out.below hb)); (replace RX := box_step RX hb); (replace RY := box_step RY hb); (replace RZ := box_step RZ hb); (replace RS := box_step RS hb); (replace B5 := Lib.hid (bstep B5.out hb)); clear hb; have H3 := Lib.hid hr; clear hr) | (with_reducible refine (big_same H2.out H3.out E2.out (D2.out.up (by decide))).mono ?_; rintro e wn ⟨rfl, hb⟩; (try replace X := Lib.hid (X.out.below hb)); (try replace Y := Lib.hid (Y.out.below hb)); (try replace Z := Lib.hid (Z.out.below hb)); (try replace S := Lib.hid (S.out.below hb)); (try replace H1 := Lib.hid (H1.out.below hb)); (try replace H2 := Lib.hid (H2.out.below hb)); (try replace H3 := Lib.hid (H3.out.below hb)); (try replace H4 := Lib.hid (H4.out.below hb)); (try replace H5 := Lib.hid (H5.out.below hb)); (try replace H6 := Lib.hid (H6.out.below hb)); (try replace H7 := Lib.hid (H7.out.below hb)); (replace RX := box_step RX hb); (replace RY := box_step RY hb); (replace RZ := box_step RZ hb); (replace RS := box_step RS hb); (replace B5 := Lib.hid (bstep B5.out hb)); clear hb) | (with_reducible refine (big_mul S.out Y.out (D1.out.up (by decide)) (DY.out.up (by decide)) (D4.out.up (by decide))).mono ?_; rintro e wn ⟨r, rfl, hr, hb⟩; (try replace X := Lib.hid (X.out.below hb)); (try replace Y := Lib.hid (Y.out.below hb)); (try replace Z := Lib.hid (Z.out.below hb)); (try replace S := Lib.hid (S.out.below hb)); (try replace H1 := Lib.hid (H1.out.below hb)); (try replace H2 := Lib.hid (H2.out.below hb)); (try replace H3 := Lib.hid (H3.out.below hb)); (try replace H4 := Lib.hid (H4.out.below hb)); (try replace H5 := Lib.hid (H5.out.below hb)); (try replace H6 := Lib.hid (H6.out.below hb)); (try replace H7 := Lib.hid (H7.out.below hb)); (replace RX := box_step RX hb); (replace RY := box_step RY hb); (replace RZ := box_step RZ hb); (replace RS := box_step RS hb); (replace B5 := Lib.hid (bstep B5.out hb)); clear hb; have H4 := Lib.hid hr; clear hr) | (with_reducible refine (big_mul Y.out Y.out (DY.out.up (by decide)) (DY.out.up (by decide)) (D5.out.up (by decide))).mono ?_; rintro e wn ⟨r, rfl, hr, hb⟩; (try replace X := Lib.hid (X.out.below hb)); (try replace Y := Lib.hid (Y.out.below hb)); (try replace Z := Lib.hid (Z.out.below hb)); (try replace S := Lib.hid (S.out.below hb)); (try replace H1 := Lib.hid (H1.out.below hb)); (try replace H2 := Lib.hid (H2.out.below hb)); (try replace H3 := Lib.hid (H3.out.below hb)); (try replace H4 := Lib.hid (H4.out.below hb)); (try replace H5 := Lib.hid (H5.out.below hb)); (try replace H6 := Lib.hid (H6.out.below hb)); (try replace H7 := Lib.hid (H7.out.below hb)); (replace RX := box_step RX hb); (replace RY := box_step RY hb); (replace RZ := box_step RZ hb); (replace RS := box_step RS hb); (replace B5 := Lib.hid (bstep B5.out hb)); clear hb; have H6 := Lib.hid hr; clear hr) | (with_reducible refine (big_add H2.out H6.out (D2.out.up (by decide)) (D5.out.up (by decide)) (D6.out.up (by decide))).mono ?_; rintro e wn ⟨r, rfl, hr, hb⟩; (try replace X := Lib.hid (X.out.below hb)); (try replace Y := Lib.hid (Y.out.below hb)); (try replace Z := Lib.hid (Z.out.below hb)); (try replace S := Lib.hid (S.out.below hb)); (try replace H1 := Lib.hid (H1.out.below hb)); (try replace H2 := Lib.hid (H2.out.below hb)); (try replace H3 := Lib.hid (H3.out.below hb)); (try replace H4 := Lib.hid (H4.out.below hb)); (try replace H5 := Lib.hid (H5.out.below hb)); (try replace H6 := Lib.hid (H6.out.below hb)); (try replace H7 := Lib.hid (H7.out.below hb)); (replace RX := box_step RX hb); (replace RY := box_step RY hb); (replace RZ := box_step RZ hb); (replace RS := box_step RS hb); (replace B5 := Lib.hid (bstep B5.out hb)); clear hb; have H7 := Lib.hid hr; clear hr) | (with_reducible refine (big_same H4.out H7.out E3.out (D4.out.up (by decide))).mono ?_; rintro e wn ⟨rfl, hb⟩; (try replace X := Lib.hid (X.out.below hb)); (try replace Y := Lib.hid (Y.out.below hb)); (try replace Z := Lib.hid (Z.out.below hb)); (try replace S := Lib.hid (S.out.below hb)); (try replace H1 := Lib.hid (H1.out.below hb)); (try replace H2 := Lib.hid (H2.out.below hb)); (try replace H3 := Lib.hid (H3.out.below hb)); (try replace H4 := Lib.hid (H4.out.below hb)); (try replace H5 := Lib.hid (H5.out.below hb)); (try replace H6 := Lib.hid (H6.out.below hb)); (try replace H7 := Lib.hid (H7.out.below hb)); (replace RX := box_step RX hb); (replace RY := box_step RY hb); (replace RZ := box_step RZ hb); (replace RS := box_step RS hb); (replace B5 := Lib.hid (bstep B5.out hb)); clear hb))
  all_goals (go_wp2; go_ret; exact ⟨rfl, B5.out⟩)

set_option maxRecDepth 100000 in
theorem tab_of {W : World} (h : laidMetH Tryd.prog Rows.fnBigIntsRow.laid W) : Lib.TabIs Tryd.prog W "internal/strconv.uint64pow10" .u64 Lib.pow10Tab := by
  rw [MakeChecks.laidMetH_plain _ _ _ (by kernel_rfl)] at h
  have h1 := laidMet.filter (fun x => x.1 == "internal/strconv.uint64pow10") h
  exact Lib.tabIs_of_head (rest := []) (g := 3) (t := 168) (e := 108) (n := 20) (by kernel_rfl) (by kernel_rfl) (by kernel_rfl) (by kernel_rfl) (by kernel_rfl) (by kernel_rfl) h1

set_option maxRecDepth 100000 in
theorem lifted (os : Os) (started : os.Started) (H : Type) (enc : TypeId × Value → H) :
    ReturnsInHanded {} Tryd.checked os 10 .any (fun w args => (Rows.fnBigIntsSpec.pre enc Tryd.prog Tryd.f10 Rows.fnBigIntsRow.domain false w args ∧ laidMetH Tryd.prog Rows.fnBigIntsRow.laid w) ∧ sizedMet enc Tryd.prog Tryd.f10 (OpenSpec.ofChange Rows.fnBigIntsSpec) false w args)
      (Rows.fnBigIntsSpec.post enc Tryd.prog Tryd.f10 false true false false) := by
  refine returnsInHanded_of_change_and (C := Tryd.checked) (X := (fun w _ => laidMetH Tryd.prog Rows.fnBigIntsRow.laid w)) (fun _ _ _ hh h => h.of_heap hh) Tryd.own started (by kernel_rfl) Tryd.func10
    (ChangeSpec.witness_shaped (enc := enc) (C := Tryd.checked) (os := os) (X := (fun w _ => laidMetH Tryd.prog Rows.fnBigIntsRow.laid w)) false (World.laidAll Tryd.prog os Rows.fnBigIntsRow.laid) #[.slice none 0 0] 8 (World.laidAll_os _ _ _)
      (World.shaped_of_ZipB (by kernel_rfl) (by kernel_rfl)) (by kernel_rfl) (by kernel_rfl) (by kernel_rfl)
      (by rw [MakeChecks.laidMetH_plain _ _ _ (by kernel_rfl)]; exact laidMet_laidAll _ (by kernel_rfl) (by kernel_rfl))) ?_
  intro W base args ds gs before hval0 hW hcnd _ hL _
  have hval : ∀ (j : Nat) t v, Tryd.f10.params[j]? = some t → args[j]? = some v → Value.okWide Tryd.prog W .any base t v := hval0
  have hW' := hW
  obtain ⟨p, q, hA0, hV, rfl, hfz, hnd⟩ := hW
  have hA : DataW.TrodAll enc Tryd.prog W 0 (fun _ => true) true Tryd.f10.params.toList args.toList ds p := hA0
  rw [Tryd.params10] at hA hval
  obtain ⟨v0, vs0, d0, ds0, p0, q0, hargs, rfl, rfl, h0, r0⟩ := trodAll_cons hA
  obtain ⟨rfl, rfl, rfl⟩ := trodAll_nil r0
  obtain rfl : args = #[v0] := by cases args; simp_all
  obtain ⟨rfl, rfl⟩ := trodVars_none hV
  have k0 := h0
  have lt0 : ∀ x ∈ p0, x.block < W.heap.size := by obtain ⟨m, hm⟩ := k0; exact DataW.trod_lt m _ _ _ hm
  obtain ⟨a0, c0, x0, rfl, w0⟩ := bytes_of_arg (hval 0 48 v0 rfl rfl) h0
  clear hA0 hval0
  refine (walk a0 c0 x0 W w0 (tab_of hL)).mono fun e W' ⟨he, bel⟩ => ?_
  subst he
  exact ⟨_, rfl, _, _, _, [], _, [], hW', trodAll_mk1 (shut_bool Tryd.underlying4 _), (trodAll_cons_mk (Below.trod Tryd.laidOut (by kernel_rfl) (of_decide_eq_true (by kernel_rfl)) k0 bel lt0) trodAll_mk0), rfl, bel.frame _, fun h => by cases h⟩

theorem over : Rows.fnBigIntsRow.holds Tryd.pinned (OpenSpec.ofChange Rows.fnBigIntsSpec) :=
  OpenClaim.holds_of_wide 10 Tryd.f10 rfl rfl rfl rfl rfl rfl rfl ⟨rfl, rfl, rfl, rfl, rfl⟩ rfl rfl rfl rfl rfl (by kernel_rfl) Tryd.func10 (closed_ofP may_enter make_cut lifts_final 10 Tryd.f10 Rows.fnBigIntsSpec Rows.fnBigIntsRow prog_facts (by kernel_rfl) rfl rfl)
    (of_decide_eq_true (by kernel_rfl)) (by unfold Func.isWrapper; first | (rw [if_pos (by decide +kernel)]; kernel_rfl) | (rw [if_neg (by decide +kernel)]; exact ⟨rfl, rfl⟩))
    (fun os started H enc _ => lifted os started H enc)

set_option maxRecDepth 100000 in
theorem proved : Rows.FnBigIntsCardSaid :=
  Claim7.holds_tied_plain_at .later [] [.data, .data, .data] true (true, "73a61dcd582288e7bad97c363601477dc77ac763254cdaaee76d9b755edce1da") true over (fun _ h => by cases h) (by kernel_rfl) (fun _ h => by cases h) fnBigInts_row_tie rfl ⟨rfl, rfl⟩ (by kernel_rfl) rfl
    (fun f fn hf hfn => by
      obtain rfl : f = 10 := Option.some.inj ((show Tryd.prog.funcNamed "loop.example/g00812/laws.FnBigInts" = some 10 by kernel_rfl).symm.trans hf) |>.symm
      obtain rfl : fn = Tryd.f10 := (Option.some.inj (Tryd.func10.symm.trans hfn)).symm
      exact ⟨by kernel_rfl, fun j t ht => by
        rw [Tryd.params10] at ht
        have hm : t ∈ [48] := by simpa using Array.mem_of_getElem? ht
        have hall : ([48].all fun u => !Tryd.prog.wantsStandIn u) = true := by kernel_rfl
        exact (show Tryd.prog.wantsStandIn t = false by simpa using List.all_eq_true.1 hall t hm)⟩)
    (by kernel_rfl)
#print axioms proved
end Go.Proofs.YtjklefkkdaelnaaDoor.fnBigInts
