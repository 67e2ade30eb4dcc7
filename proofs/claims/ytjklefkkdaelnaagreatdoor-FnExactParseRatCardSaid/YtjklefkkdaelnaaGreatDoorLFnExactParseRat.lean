/- For every input the law FnExactParseRat returns true, and its arguments read afterwards as they read before. No condition. -/
import Derived.Test.YtjklefkkdaelnaaGreatDoorFrameA
import Derived.Test.YtjklefkkdaelnaaGreatDoorK2
import Derived.Test.YtjklefkkdaelnaaGreatDoorPRatS
import Derived.Test.YtjklefkkdaelnaaGreatDoorPRatI
import Derived.Test.YtjklefkkdaelnaaGreatDoorShaped
import Derived.Test.YtjklefkkdaelnaaGreatDoorTie
import Derived.Test.YtjklefkkdaelnaaGreatDoorCards
import Derived.OpenShut
import Derived.LaidMore
import Derived.Lay
import Derived.SevenTiedAt
import Derived.Stop.Joined
namespace Go.Proofs.YtjklefkkdaelnaaGreatDoor.fnExactParseRat
set_option linter.unusedVariables false
set_option linter.unusedSimpArgs false
open Go.ChangeShapes Go.WideShapes Go.ChangeAt Go.RowKit
open Go.ChangeMaps (open_string shut_string)

set_option maxRecDepth 100000 in
set_option maxHeartbeats 8000000 in
theorem walk (a0 : ByteArray) (w : World) (w0 : a0.size ≤ maxLen) (htab : Lib.TabIs Tryz.prog w "internal/strconv.uint64pow10" .u64 Lib.pow10Tab) (hmx : MaxVar w) :
    Calls Tryz.prog 4 #[.string a0] w fun e w' => e = .returned (.bool true) ∧ Below w.heap.size w w' := by
  by_cases n0 : a0.size ≤ 1048576
  case neg =>
    go_enter Tryz.func4, Tryz.ntmps4
    go_wp2
    go_ret
    exact ⟨rfl, Below.refl _ _⟩
  obtain ⟨l0, l1⟩ := prV_len a0
  go_enter Tryz.func4, Tryz.ntmps4
  go_wp2_with fail
  refine (specParseRat_any a0 _ n0).mono ?_
  rintro e W1 ⟨at00, ct00, at01, ct01, rfl, it00, it01, b1⟩
  have s1 := b1.size
  go_wp2_with fail
  refine (implParseRat_any a0 _ n0 (tabB htab (bstep (bstep (Below.refl _ _) b1) (ba1 _ _))) (hmx.below (bstep (bstep (Below.refl _ _) b1) (ba1 _ _)))).mono ?_
  rintro e W2 ⟨ag00, cg00, ag01, cg01, rfl, og0, b2⟩
  have s2 := b2.size
  simp at s2
  have Bt0x2 : Box W2 (W1.heap.size) #[.bool (prV a0).neg, .slice at00 (prV a0).num.length ct00, .slice at01 (prV a0).den.length ct01] := bx1_0 b2
  replace b2 := bstep (ba1 _ _ ) b2
  replace og0 := og0.mono (lo2 := W1.heap.size + 1) (by simp) (Nat.le_refl _)
  have Ct0q0 : W2.cell? ⟨(W1.heap.size), 0, none⟩ = some (.bool (prV a0).neg) := Bt0x2.cell 0 rfl
  have Ct0q1 : W2.cell? ⟨(W1.heap.size), 1, none⟩ = some (.slice at00 (prV a0).num.length ct00) := Bt0x2.cell 1 rfl
  have Ct0q2 : W2.cell? ⟨(W1.heap.size), 2, none⟩ = some (.slice at01 (prV a0).den.length ct01) := Bt0x2.cell 2 rfl
  have Ct0lt : (W1.heap.size) < W2.heap.size := Bt0x2.lt
  go_wp2_with fail
  refine (eqRat_same ((prV a0).neg) _ _ _ _ ((prV a0).num) _ _ _ _ ((prV a0).den) _ (og0.below (ba1 _ _)).i1 (it00.below (bstep (bstep (Below.refl _ _) b2) (ba1 _ _))) l0 (og0.below (ba1 _ _)).i2 (it01.below (bstep (bstep (Below.refl _ _) b2) (ba1 _ _))) l1).mono ?_
  rintro e W3 ⟨rfl, b3⟩
  clear Ct0q0 Ct0q1 Ct0q2 Ct0lt
  have s3 := b3.size
  simp at s3
  have Bg0x3 : Box W3 (W2.heap.size) #[.bool (prV a0).neg, .slice ag00 (prV a0).num.length cg00, .slice ag01 (prV a0).den.length cg01] := bx1_0 b3
  replace b3 := bstep (ba1 _ _ ) b3
  have Cg0q0 : W3.cell? ⟨(W2.heap.size), 0, none⟩ = some (.bool (prV a0).neg) := Bg0x3.cell 0 rfl
  have Cg0q1 : W3.cell? ⟨(W2.heap.size), 1, none⟩ = some (.slice ag00 (prV a0).num.length cg00) := Bg0x3.cell 1 rfl
  have Cg0q2 : W3.cell? ⟨(W2.heap.size), 2, none⟩ = some (.slice ag01 (prV a0).den.length cg01) := Bg0x3.cell 2 rfl
  have Cg0lt : (W2.heap.size) < W3.heap.size := Bg0x3.lt
  go_wp2_with fail
  have f1 := (og0.below b3)
  refine (markRat_own _ _ _ ((prV a0).num) _ _ ((prV a0).den) _ _ f1 (by omega) l0 l1 (by omega) (by omega)).mono ?_
  rintro e W4 ⟨rfl, mg0x4, b4⟩
  have s4 := b4.size
  clear Cg0q0 Cg0q1 Cg0q2 Cg0lt
  have x2 := (box_span Bg0x3 b4 (by omega))
  have Cg0q0 : W4.cell? ⟨(W2.heap.size), 0, none⟩ = some (.bool (prV a0).neg) := x2.cell 0 rfl
  have Cg0q1 : W4.cell? ⟨(W2.heap.size), 1, none⟩ = some (.slice ag00 (prV a0).num.length cg00) := x2.cell 1 rfl
  have Cg0q2 : W4.cell? ⟨(W2.heap.size), 2, none⟩ = some (.slice ag01 (prV a0).den.length cg01) := x2.cell 2 rfl
  have Cg0lt : (W2.heap.size) < W4.heap.size := x2.lt
  go_wp2_with fail
  refine (heldRat_own _ _ _ _ _ _ _ _ _ mg0x4 l0 l1 (by omega) (by omega)).mono ?_
  rintro e W5 ⟨rfl, b5⟩
  clear Cg0q0 Cg0q1 Cg0q2 Cg0lt
  have s5 := b5.size
  go_wp2_with fail
  have h3 : Below w.heap.size w W5 := (bstep (bspan (bstep (bstep (bstep (Below.refl _ _) b1) b2) b3) b4 (by omega)) b5)
  refine (implParseRat_any a0 _ n0 (tabB htab h3) (hmx.below h3)).mono ?_
  rintro e W6 ⟨ah00, ch00, ah01, ch01, rfl, oh0, b6⟩
  have s6 := b6.size
  have x4 := (box_step (box_step (box_span (box_step Bt0x2 b3) b4 (by omega)) b5) b6)
  have Ct0q0 : W6.cell? ⟨(W1.heap.size), 0, none⟩ = some (.bool (prV a0).neg) := x4.cell 0 rfl
  have Ct0q1 : W6.cell? ⟨(W1.heap.size), 1, none⟩ = some (.slice at00 (prV a0).num.length ct00) := x4.cell 1 rfl
  have Ct0q2 : W6.cell? ⟨(W1.heap.size), 2, none⟩ = some (.slice at01 (prV a0).den.length ct01) := x4.cell 2 rfl
  have Ct0lt : (W1.heap.size) < W6.heap.size := x4.lt
  go_wp2_with fail
  refine (eqRat_same ((prV a0).neg) _ _ _ _ ((prV a0).num) _ _ _ _ ((prV a0).den) _ (oh0.below (ba1 _ _)).i1 (it00.below (bstep (bstep (bstep (bspan (bstep (bstep (Below.refl _ _) b2) b3) b4 (by omega)) b5) b6) (ba1 _ _))) l0 (oh0.below (ba1 _ _)).i2 (it01.below (bstep (bstep (bstep (bspan (bstep (bstep (Below.refl _ _) b2) b3) b4 (by omega)) b5) b6) (ba1 _ _))) l1).mono ?_
  rintro e W7 ⟨rfl, b7⟩
  clear Ct0q0 Ct0q1 Ct0q2 Ct0lt
  have s7 := b7.size
  simp at s7
  have Bh0x7 : Box W7 (W6.heap.size) #[.bool (prV a0).neg, .slice ah00 (prV a0).num.length ch00, .slice ah01 (prV a0).den.length ch01] := bx1_0 b7
  replace b7 := bstep (ba1 _ _ ) b7
  have x5 := (box_step (box_step (box_step x2 b5) b6) b7)
  have Cg0q0 : W7.cell? ⟨(W2.heap.size), 0, none⟩ = some (.bool (prV a0).neg) := x5.cell 0 rfl
  have Cg0q1 : W7.cell? ⟨(W2.heap.size), 1, none⟩ = some (.slice ag00 (prV a0).num.length cg00) := x5.cell 1 rfl
  have Cg0q2 : W7.cell? ⟨(W2.heap.size), 2, none⟩ = some (.slice ag01 (prV a0).den.length cg01) := x5.cell 2 rfl
  have Cg0lt : (W2.heap.size) < W7.heap.size := x5.lt
  go_wp2_with fail
  have f6 := (((mg0x4.below b5).below b6).below b7)
  refine (heldRat_own _ _ _ _ _ _ _ _ _ f6 l0 l1 (by omega) (by omega)).mono ?_
  rintro e W8 ⟨rfl, b8⟩
  clear Cg0q0 Cg0q1 Cg0q2 Cg0lt
  have s8 := b8.size
  go_wp2
  go_ret
  have h7 : Below w.heap.size w W8 := (bstep (bstep (bstep h3 b6) b7) b8)
  exact ⟨rfl, h7⟩

set_option maxRecDepth 100000 in
theorem tab_of {W : World} (h : laidMetH Tryz.prog Rows.fnExactParseRatRow.laid W) : Lib.TabIs Tryz.prog W "internal/strconv.uint64pow10" .u64 Lib.pow10Tab := by
  rw [MakeChecks.laidMetH_plain _ _ _ (by kernel_rfl)] at h
  have h1 := laidMet.filter (fun x => x.1 == "internal/strconv.uint64pow10") h
  exact Lib.tabIs_of_head (rest := []) (g := 1) (t := 161) (e := 113) (n := 20) (by kernel_rfl) (by kernel_rfl) (by kernel_rfl) (by kernel_rfl) (by kernel_rfl) (by kernel_rfl) h1

set_option maxRecDepth 100000 in
theorem lifted (os : Os) (started : os.Started) (H : Type) (enc : TypeId × Value → H) :
    ReturnsInHanded {} Tryz.checked os 4 .any (fun w args => (Rows.fnExactParseRatSpec.pre enc Tryz.prog Tryz.f4 Rows.fnExactParseRatRow.domain false w args ∧ laidMetH Tryz.prog Rows.fnExactParseRatRow.laid w) ∧ sizedMet enc Tryz.prog Tryz.f4 (OpenSpec.ofChange Rows.fnExactParseRatSpec) false w args)
      (Rows.fnExactParseRatSpec.post enc Tryz.prog Tryz.f4 false true false false) := by
  refine returns_shaped (C := Tryz.checked) (X := (fun w _ => laidMetH Tryz.prog Rows.fnExactParseRatRow.laid w)) (fun _ _ _ hh h => h.of_heap hh) Tryz.own started (by kernel_rfl) Tryz.func4
    (ChangeSpec.witness_shaped (enc := enc) (C := Tryz.checked) (os := os) (X := (fun w _ => laidMetH Tryz.prog Rows.fnExactParseRatRow.laid w)) false (World.laidAll Tryz.prog os Rows.fnExactParseRatRow.laid) #[.string ByteArray.empty] 8 (World.laidAll_os _ _ _)
      (World.shaped_of_ZipB (by kernel_rfl) (by kernel_rfl)) (by kernel_rfl) (by kernel_rfl) (by kernel_rfl)
      (by rw [MakeChecks.laidMetH_plain _ _ _ (by kernel_rfl)]; exact laidMet_laidAll _ (by kernel_rfl) (by kernel_rfl))) ?_
  intro W base args ds gs before hval0 hW hcnd _ hL hsh _
  have hval : ∀ (j : Nat) t v, Tryz.f4.params[j]? = some t → args[j]? = some v → Value.okWide Tryz.prog W .any base t v := hval0
  have hW' := hW
  obtain ⟨p, q, hA0, hV, rfl, hfz, hnd⟩ := hW
  have hA : DataW.TrodAll enc Tryz.prog W 0 (fun _ => true) true Tryz.f4.params.toList args.toList ds p := hA0
  rw [Tryz.params4] at hA hval
  obtain ⟨v0, vs0, d0, ds0, p0, q0, hargs, rfl, rfl, h0, r0⟩ := trodAll_cons hA
  obtain ⟨rfl, rfl, rfl⟩ := trodAll_nil r0
  obtain rfl : args = #[v0] := by cases args; simp_all
  obtain ⟨rfl, rfl⟩ := trodVars_none hV
  have k0 := h0
  have lt0 : ∀ x ∈ p0, x.block < W.heap.size := by obtain ⟨m, hm⟩ := k0; exact DataW.trod_lt m _ _ _ hm
  obtain ⟨a0, rfl, rfl, rfl, w0⟩ := open_string Tryz.underlying9 (hval 0 9 v0 rfl rfl) h0
  clear hA0 hval0
  refine (walk a0 W w0 (tab_of hL) (max_of hsh)).mono fun e W' ⟨he, bel⟩ => ?_
  subst he
  exact ⟨_, rfl, _, _, _, [], _, [], hW', trodAll_mk1 (shut_bool Tryz.underlying4 _), (trodAll_cons_mk (Below.trod Tryz.laidOut (by kernel_rfl) (of_decide_eq_true (by kernel_rfl)) k0 bel lt0) trodAll_mk0), rfl, bel.frame _, fun h => by cases h⟩

theorem over : Rows.fnExactParseRatRow.holds Tryz.pinned (OpenSpec.ofChange Rows.fnExactParseRatSpec) :=
  OpenClaim.holds_of_wide 4 Tryz.f4 rfl rfl rfl rfl rfl rfl rfl ⟨rfl, rfl, rfl, rfl, rfl⟩ rfl rfl rfl rfl rfl (by kernel_rfl) Tryz.func4 (closed_ofP may_enter make_cut lifts_final 4 Tryz.f4 Rows.fnExactParseRatSpec Rows.fnExactParseRatRow prog_facts (by kernel_rfl) rfl rfl)
    (of_decide_eq_true (by kernel_rfl)) (by unfold Func.isWrapper; first | (rw [if_pos (by decide +kernel)]; kernel_rfl) | (rw [if_neg (by decide +kernel)]; exact ⟨rfl, rfl⟩))
    (fun os started H enc _ => lifted os started H enc)

set_option maxRecDepth 100000 in
theorem proved : Rows.FnExactParseRatCardSaid :=
  Claim7.holds_tied_plain_at .later [] [.data, .data, .data] true (true, "0c8b634b791b0c7347117a5538e5b19612e75d35b48e11f34bf8d4a61f6ebe1e") false over (fun _ h => by cases h) (by kernel_rfl) (fun _ h => by cases h) fnExactParseRat_row_tie rfl ⟨rfl, rfl⟩ (by kernel_rfl) rfl
    (fun f fn hf hfn => by
      obtain rfl : f = 4 := Option.some.inj ((show Tryz.prog.funcNamed "loop.example/g00812/laws.FnExactParseRat" = some 4 by kernel_rfl).symm.trans hf) |>.symm
      obtain rfl : fn = Tryz.f4 := (Option.some.inj (Tryz.func4.symm.trans hfn)).symm
      exact ⟨by kernel_rfl, fun j t ht => by
        rw [Tryz.params4] at ht
        have hm : t ∈ [9] := by simpa using Array.mem_of_getElem? ht
        have hall : ([9].all fun u => !Tryz.prog.wantsStandIn u) = true := by kernel_rfl
        exact (show Tryz.prog.wantsStandIn t = false by simpa using List.all_eq_true.1 hall t hm)⟩)
    (by kernel_rfl)
#print axioms proved
end Go.Proofs.YtjklefkkdaelnaaGreatDoor.fnExactParseRat
