/- For every input the law FnExactHalfPoint returns true, and its arguments read afterwards as they read before. No condition. -/
import Derived.Test.YtlpnhcoaidmiiaaFrameA
import Derived.Test.YtlpnhcoaidmiiaaLaws2
import Derived.Test.YtlpnhcoaidmiiaaPtI
namespace Go.Proofs.Ytlpnhcoaidmiiaa.fnExactHalfPoint
set_option linter.unusedVariables false
set_option linter.unusedSimpArgs false
open Go.ChangeShapes Go.WideShapes Go.ChangeAt Go.RowKit
open Go.ChangeMaps (open_string shut_string)

set_option maxRecDepth 100000 in
set_option maxHeartbeats 8000000 in
theorem walk (a0 : Int) (a1 : Int) (w : World) (w0 : In64 a0) (w1 : In64 a1) :
    Calls Try.prog 10 #[.int .i64 a0, .int .i64 a1] w fun e w' => e = .returned (.bool true) ∧ Below w.heap.size w w' := by
  obtain ⟨l0, l1, l2, l3⟩ := PtOr.len (p := ⟨ratOfP a0 2, ratOfP a1 2⟩) ⟨raOr_of a0 2, raOr_of a1 2⟩
  go_enter Try.func10, Try.ntmps10
  go_wp2_with fail
  refine (specHalfPoint_any a0 a1 _ w0 w1).mono ?_
  rintro e W1 ⟨at00, ct00, at01, ct01, at02, ct02, at03, ct03, rfl, it00, it01, it02, it03, b1⟩
  have s1 := b1.size
  go_wp2_with fail
  refine (implHalfPoint_any a0 a1 _ w0 w1).mono ?_
  rintro e W2 ⟨ag00, cg00, ag01, cg01, ag02, cg02, ag03, cg03, rfl, og0, b2⟩
  have s2 := b2.size
  simp at s2
  have Bt0x2 : Box W2 (W1.heap.size) #[.bool (⟨ratOfP a0 2, ratOfP a1 2⟩ : PT).x.neg, .slice at00 (⟨ratOfP a0 2, ratOfP a1 2⟩ : PT).x.num.length ct00, .slice at01 (⟨ratOfP a0 2, ratOfP a1 2⟩ : PT).x.den.length ct01, .bool (⟨ratOfP a0 2, ratOfP a1 2⟩ : PT).y.neg, .slice at02 (⟨ratOfP a0 2, ratOfP a1 2⟩ : PT).y.num.length ct02, .slice at03 (⟨ratOfP a0 2, ratOfP a1 2⟩ : PT).y.den.length ct03] := bx1_0 b2
  replace b2 := bstep (ba1 _ _ ) b2
  replace og0 := og0.mono (lo2 := W1.heap.size + 1) (by simp) (Nat.le_refl _)
  have Ct0q0 : W2.cell? ⟨(W1.heap.size), 0, none⟩ = some (.bool (⟨ratOfP a0 2, ratOfP a1 2⟩ : PT).x.neg) := Bt0x2.cell 0 rfl
  have Ct0q1 : W2.cell? ⟨(W1.heap.size), 1, none⟩ = some (.slice at00 (⟨ratOfP a0 2, ratOfP a1 2⟩ : PT).x.num.length ct00) := Bt0x2.cell 1 rfl
  have Ct0q2 : W2.cell? ⟨(W1.heap.size), 2, none⟩ = some (.slice at01 (⟨ratOfP a0 2, ratOfP a1 2⟩ : PT).x.den.length ct01) := Bt0x2.cell 2 rfl
  have Ct0q3 : W2.cell? ⟨(W1.heap.size), 3, none⟩ = some (.bool (⟨ratOfP a0 2, ratOfP a1 2⟩ : PT).y.neg) := Bt0x2.cell 3 rfl
  have Ct0q4 : W2.cell? ⟨(W1.heap.size), 4, none⟩ = some (.slice at02 (⟨ratOfP a0 2, ratOfP a1 2⟩ : PT).y.num.length ct02) := Bt0x2.cell 4 rfl
  have Ct0q5 : W2.cell? ⟨(W1.heap.size), 5, none⟩ = some (.slice at03 (⟨ratOfP a0 2, ratOfP a1 2⟩ : PT).y.den.length ct03) := Bt0x2.cell 5 rfl
  have Ct0lt : (W1.heap.size) < W2.heap.size := Bt0x2.lt
  go_wp2_with fail
  refine (eqPoint_same ((⟨ratOfP a0 2, ratOfP a1 2⟩ : PT).x.neg) ((⟨ratOfP a0 2, ratOfP a1 2⟩ : PT).y.neg) _ _ _ _ ((⟨ratOfP a0 2, ratOfP a1 2⟩ : PT).x.num) _ _ _ _ ((⟨ratOfP a0 2, ratOfP a1 2⟩ : PT).x.den) _ _ _ _ ((⟨ratOfP a0 2, ratOfP a1 2⟩ : PT).y.num) _ _ _ _ ((⟨ratOfP a0 2, ratOfP a1 2⟩ : PT).y.den) _ (og0.below (ba1 _ _)).i1 (it00.below (bstep (bstep (Below.refl _ _) b2) (ba1 _ _))) l0 (og0.below (ba1 _ _)).i2 (it01.below (bstep (bstep (Below.refl _ _) b2) (ba1 _ _))) l1 (og0.below (ba1 _ _)).i3 (it02.below (bstep (bstep (Below.refl _ _) b2) (ba1 _ _))) l2 (og0.below (ba1 _ _)).i4 (it03.below (bstep (bstep (Below.refl _ _) b2) (ba1 _ _))) l3).mono ?_
  rintro e W3 ⟨rfl, b3⟩
  clear Ct0q0 Ct0q1 Ct0q2 Ct0q3 Ct0q4 Ct0q5 Ct0lt
  have s3 := b3.size
  simp at s3
  have Bg0x3 : Box W3 (W2.heap.size) #[.bool (⟨ratOfP a0 2, ratOfP a1 2⟩ : PT).x.neg, .slice ag00 (⟨ratOfP a0 2, ratOfP a1 2⟩ : PT).x.num.length cg00, .slice ag01 (⟨ratOfP a0 2, ratOfP a1 2⟩ : PT).x.den.length cg01, .bool (⟨ratOfP a0 2, ratOfP a1 2⟩ : PT).y.neg, .slice ag02 (⟨ratOfP a0 2, ratOfP a1 2⟩ : PT).y.num.length cg02, .slice ag03 (⟨ratOfP a0 2, ratOfP a1 2⟩ : PT).y.den.length cg03] := bx1_0 b3
  replace b3 := bstep (ba1 _ _ ) b3
  have Cg0q0 : W3.cell? ⟨(W2.heap.size), 0, none⟩ = some (.bool (⟨ratOfP a0 2, ratOfP a1 2⟩ : PT).x.neg) := Bg0x3.cell 0 rfl
  have Cg0q1 : W3.cell? ⟨(W2.heap.size), 1, none⟩ = some (.slice ag00 (⟨ratOfP a0 2, ratOfP a1 2⟩ : PT).x.num.length cg00) := Bg0x3.cell 1 rfl
  have Cg0q2 : W3.cell? ⟨(W2.heap.size), 2, none⟩ = some (.slice ag01 (⟨ratOfP a0 2, ratOfP a1 2⟩ : PT).x.den.length cg01) := Bg0x3.cell 2 rfl
  have Cg0q3 : W3.cell? ⟨(W2.heap.size), 3, none⟩ = some (.bool (⟨ratOfP a0 2, ratOfP a1 2⟩ : PT).y.neg) := Bg0x3.cell 3 rfl
  have Cg0q4 : W3.cell? ⟨(W2.heap.size), 4, none⟩ = some (.slice ag02 (⟨ratOfP a0 2, ratOfP a1 2⟩ : PT).y.num.length cg02) := Bg0x3.cell 4 rfl
  have Cg0q5 : W3.cell? ⟨(W2.heap.size), 5, none⟩ = some (.slice ag03 (⟨ratOfP a0 2, ratOfP a1 2⟩ : PT).y.den.length cg03) := Bg0x3.cell 5 rfl
  have Cg0lt : (W2.heap.size) < W3.heap.size := Bg0x3.lt
  go_wp2_with fail
  have f1 := (og0.below b3)
  refine (markPoint_own _ _ _ ((⟨ratOfP a0 2, ratOfP a1 2⟩ : PT).x.num) _ _ ((⟨ratOfP a0 2, ratOfP a1 2⟩ : PT).x.den) _ _ _ ((⟨ratOfP a0 2, ratOfP a1 2⟩ : PT).y.num) _ _ ((⟨ratOfP a0 2, ratOfP a1 2⟩ : PT).y.den) _ _ f1 (by omega) l0 l1 l2 l3 (by omega) (by omega)).mono ?_
  rintro e W4 ⟨rfl, mg0x4, b4⟩
  have s4 := b4.size
  clear Cg0q0 Cg0q1 Cg0q2 Cg0q3 Cg0q4 Cg0q5 Cg0lt
  have x2 := (box_span Bg0x3 b4 (by omega))
  have Cg0q0 : W4.cell? ⟨(W2.heap.size), 0, none⟩ = some (.bool (⟨ratOfP a0 2, ratOfP a1 2⟩ : PT).x.neg) := x2.cell 0 rfl
  have Cg0q1 : W4.cell? ⟨(W2.heap.size), 1, none⟩ = some (.slice ag00 (⟨ratOfP a0 2, ratOfP a1 2⟩ : PT).x.num.length cg00) := x2.cell 1 rfl
  have Cg0q2 : W4.cell? ⟨(W2.heap.size), 2, none⟩ = some (.slice ag01 (⟨ratOfP a0 2, ratOfP a1 2⟩ : PT).x.den.length cg01) := x2.cell 2 rfl
  have Cg0q3 : W4.cell? ⟨(W2.heap.size), 3, none⟩ = some (.bool (⟨ratOfP a0 2, ratOfP a1 2⟩ : PT).y.neg) := x2.cell 3 rfl
  have Cg0q4 : W4.cell? ⟨(W2.heap.size), 4, none⟩ = some (.slice ag02 (⟨ratOfP a0 2, ratOfP a1 2⟩ : PT).y.num.length cg02) := x2.cell 4 rfl
  have Cg0q5 : W4.cell? ⟨(W2.heap.size), 5, none⟩ = some (.slice ag03 (⟨ratOfP a0 2, ratOfP a1 2⟩ : PT).y.den.length cg03) := x2.cell 5 rfl
  have Cg0lt : (W2.heap.size) < W4.heap.size := x2.lt
  go_wp2_with fail
  refine (heldPoint_own _ _ _ _ _ _ _ _ _ _ _ _ _ _  _ _ mg0x4 l0 l1 l2 l3 (by omega) (by omega)).mono ?_
  rintro e W5 ⟨rfl, b5⟩
  clear Cg0q0 Cg0q1 Cg0q2 Cg0q3 Cg0q4 Cg0q5 Cg0lt
  have s5 := b5.size
  go_wp2_with fail
  refine (implHalfPoint_any a0 a1 _ w0 w1).mono ?_
  rintro e W6 ⟨ah00, ch00, ah01, ch01, ah02, ch02, ah03, ch03, rfl, oh0, b6⟩
  have s6 := b6.size
  have x3 := (box_step (box_step (box_span (box_step Bt0x2 b3) b4 (by omega)) b5) b6)
  have Ct0q0 : W6.cell? ⟨(W1.heap.size), 0, none⟩ = some (.bool (⟨ratOfP a0 2, ratOfP a1 2⟩ : PT).x.neg) := x3.cell 0 rfl
  have Ct0q1 : W6.cell? ⟨(W1.heap.size), 1, none⟩ = some (.slice at00 (⟨ratOfP a0 2, ratOfP a1 2⟩ : PT).x.num.length ct00) := x3.cell 1 rfl
  have Ct0q2 : W6.cell? ⟨(W1.heap.size), 2, none⟩ = some (.slice at01 (⟨ratOfP a0 2, ratOfP a1 2⟩ : PT).x.den.length ct01) := x3.cell 2 rfl
  have Ct0q3 : W6.cell? ⟨(W1.heap.size), 3, none⟩ = some (.bool (⟨ratOfP a0 2, ratOfP a1 2⟩ : PT).y.neg) := x3.cell 3 rfl
  have Ct0q4 : W6.cell? ⟨(W1.heap.size), 4, none⟩ = some (.slice at02 (⟨ratOfP a0 2, ratOfP a1 2⟩ : PT).y.num.length ct02) := x3.cell 4 rfl
  have Ct0q5 : W6.cell? ⟨(W1.heap.size), 5, none⟩ = some (.slice at03 (⟨ratOfP a0 2, ratOfP a1 2⟩ : PT).y.den.length ct03) := x3.cell 5 rfl
  have Ct0lt : (W1.heap.size) < W6.heap.size := x3.lt
  go_wp2_with fail
  refine (eqPoint_same ((⟨ratOfP a0 2, ratOfP a1 2⟩ : PT).x.neg) ((⟨ratOfP a0 2, ratOfP a1 2⟩ : PT).y.neg) _ _ _ _ ((⟨ratOfP a0 2, ratOfP a1 2⟩ : PT).x.num) _ _ _ _ ((⟨ratOfP a0 2, ratOfP a1 2⟩ : PT).x.den) _ _ _ _ ((⟨ratOfP a0 2, ratOfP a1 2⟩ : PT).y.num) _ _ _ _ ((⟨ratOfP a0 2, ratOfP a1 2⟩ : PT).y.den) _ (oh0.below (ba1 _ _)).i1 (it00.below (bstep (bstep (bstep (bspan (bstep (bstep (Below.refl _ _) b2) b3) b4 (by omega)) b5) b6) (ba1 _ _))) l0 (oh0.below (ba1 _ _)).i2 (it01.below (bstep (bstep (bstep (bspan (bstep (bstep (Below.refl _ _) b2) b3) b4 (by omega)) b5) b6) (ba1 _ _))) l1 (oh0.below (ba1 _ _)).i3 (it02.below (bstep (bstep (bstep (bspan (bstep (bstep (Below.refl _ _) b2) b3) b4 (by omega)) b5) b6) (ba1 _ _))) l2 (oh0.below (ba1 _ _)).i4 (it03.below (bstep (bstep (bstep (bspan (bstep (bstep (Below.refl _ _) b2) b3) b4 (by omega)) b5) b6) (ba1 _ _))) l3).mono ?_
  rintro e W7 ⟨rfl, b7⟩
  clear Ct0q0 Ct0q1 Ct0q2 Ct0q3 Ct0q4 Ct0q5 Ct0lt
  have s7 := b7.size
  simp at s7
  have Bh0x7 : Box W7 (W6.heap.size) #[.bool (⟨ratOfP a0 2, ratOfP a1 2⟩ : PT).x.neg, .slice ah00 (⟨ratOfP a0 2, ratOfP a1 2⟩ : PT).x.num.length ch00, .slice ah01 (⟨ratOfP a0 2, ratOfP a1 2⟩ : PT).x.den.length ch01, .bool (⟨ratOfP a0 2, ratOfP a1 2⟩ : PT).y.neg, .slice ah02 (⟨ratOfP a0 2, ratOfP a1 2⟩ : PT).y.num.length ch02, .slice ah03 (⟨ratOfP a0 2, ratOfP a1 2⟩ : PT).y.den.length ch03] := bx1_0 b7
  replace b7 := bstep (ba1 _ _ ) b7
  have x4 := (box_step (box_step (box_step x2 b5) b6) b7)
  have Cg0q0 : W7.cell? ⟨(W2.heap.size), 0, none⟩ = some (.bool (⟨ratOfP a0 2, ratOfP a1 2⟩ : PT).x.neg) := x4.cell 0 rfl
  have Cg0q1 : W7.cell? ⟨(W2.heap.size), 1, none⟩ = some (.slice ag00 (⟨ratOfP a0 2, ratOfP a1 2⟩ : PT).x.num.length cg00) := x4.cell 1 rfl
  have Cg0q2 : W7.cell? ⟨(W2.heap.size), 2, none⟩ = some (.slice ag01 (⟨ratOfP a0 2, ratOfP a1 2⟩ : PT).x.den.length cg01) := x4.cell 2 rfl
  have Cg0q3 : W7.cell? ⟨(W2.heap.size), 3, none⟩ = some (.bool (⟨ratOfP a0 2, ratOfP a1 2⟩ : PT).y.neg) := x4.cell 3 rfl
  have Cg0q4 : W7.cell? ⟨(W2.heap.size), 4, none⟩ = some (.slice ag02 (⟨ratOfP a0 2, ratOfP a1 2⟩ : PT).y.num.length cg02) := x4.cell 4 rfl
  have Cg0q5 : W7.cell? ⟨(W2.heap.size), 5, none⟩ = some (.slice ag03 (⟨ratOfP a0 2, ratOfP a1 2⟩ : PT).y.den.length cg03) := x4.cell 5 rfl
  have Cg0lt : (W2.heap.size) < W7.heap.size := x4.lt
  go_wp2_with fail
  have f5 := (((mg0x4.below b5).below b6).below b7)
  refine (heldPoint_own _ _ _ _ _ _ _ _ _ _ _ _ _ _  _ _ f5 l0 l1 l2 l3 (by omega) (by omega)).mono ?_
  rintro e W8 ⟨rfl, b8⟩
  clear Cg0q0 Cg0q1 Cg0q2 Cg0q3 Cg0q4 Cg0q5 Cg0lt
  have s8 := b8.size
  go_wp2
  go_ret
  have h6 : Below w.heap.size w W8 := (bstep (bstep (bstep (bstep (bspan (bstep (bstep (bstep (Below.refl _ _) b1) b2) b3) b4 (by omega)) b5) b6) b7) b8)
  exact ⟨rfl, h6⟩

set_option maxRecDepth 100000 in
theorem lifted (os : Os) (started : os.Started) (H : Type) (enc : TypeId × Value → H) :
    ReturnsInHanded {} Try.checked os 10 .any (Rows.fnExactHalfPointSpec.pre6 enc Try.prog Try.f10 Rows.fnExactHalfPointRow.domain false) (Rows.fnExactHalfPointSpec.post enc Try.prog Try.f10 false true false false) := by
  refine returnsInHanded_of_change (C := Try.checked) Try.own started (by kernel_rfl) Try.func10
    (ChangeSpec.witness6 (enc := enc) (C := Try.checked) false ⟨#[], #[.int .i64 0, .int .i64 0], []⟩ 8 (by kernel_rfl) (by kernel_rfl) (by kernel_rfl) (by kernel_rfl)) ?_
  intro W base args ds gs before hval0 hW hcnd _
  have hval : ∀ (j : Nat) t v, Try.f10.params[j]? = some t → args[j]? = some v → Value.okWide Try.prog W .any base t v := hval0
  have hW' := hW
  obtain ⟨p, q, hA0, hV, rfl, hfz, hnd⟩ := hW
  have hA : DataW.TrodAll enc Try.prog W 0 (fun _ => true) true Try.f10.params.toList args.toList ds p := hA0
  rw [Try.params10] at hA hval
  obtain ⟨v0, vs0, d0, ds0, p0, q0, hargs, rfl, rfl, h0, r0⟩ := trodAll_cons hA
  obtain ⟨v1, vs1, d1, ds1, p1, q1, rfl, rfl, rfl, h1, r1⟩ := trodAll_cons r0
  obtain ⟨rfl, rfl, rfl⟩ := trodAll_nil r1
  obtain rfl : args = #[v0, v1] := by cases args; simp_all
  obtain ⟨rfl, rfl⟩ := trodVars_none hV
  have k0 := h0
  have lt0 : ∀ x ∈ p0, x.block < W.heap.size := by obtain ⟨m, hm⟩ := k0; exact DataW.trod_lt m _ _ _ hm
  obtain ⟨a0, rfl, rfl, rfl, w0⟩ := open_int Try.underlying3 (hval 0 3 v0 rfl rfl) h0
  have k1 := h1
  have lt1 : ∀ x ∈ p1, x.block < W.heap.size := by obtain ⟨m, hm⟩ := k1; exact DataW.trod_lt m _ _ _ hm
  obtain ⟨a1, rfl, rfl, rfl, w1⟩ := open_int Try.underlying3 (hval 1 3 v1 rfl rfl) h1
  clear hA0 hval0
  refine (walk a0 a1 W (in64_of_wf w0) (in64_of_wf w1)).mono fun e W' ⟨he, bel⟩ => ?_
  subst he
  exact ⟨_, rfl, _, _, _, [], _, [], hW', trodAll_mk1 (shut_bool Try.underlying4 _), (trodAll_cons_mk (Below.trod Try.laidOut (by kernel_rfl) (of_decide_eq_true (by kernel_rfl)) k0 bel lt0) (trodAll_cons_mk (Below.trod Try.laidOut (by kernel_rfl) (of_decide_eq_true (by kernel_rfl)) k1 bel lt1) trodAll_mk0)), rfl, bel.frame _, fun h => by cases h⟩

theorem over : Rows.fnExactHalfPointRow.holds Try.pinned (OpenSpec.ofChange Rows.fnExactHalfPointSpec) :=
  OpenClaim.holds_of_wide 10 Try.f10 rfl rfl rfl rfl rfl rfl rfl ⟨rfl, rfl, rfl, rfl, rfl⟩ rfl rfl rfl rfl rfl (by kernel_rfl) Try.func10 (closed_ofP may_enter make_cut lifts_final 10 Try.f10 Rows.fnExactHalfPointSpec Rows.fnExactHalfPointRow prog_facts (by kernel_rfl) rfl rfl)
    (of_decide_eq_true (by kernel_rfl)) (by unfold Func.isWrapper; first | (rw [if_pos (by decide +kernel)]; kernel_rfl) | (rw [if_neg (by decide +kernel)]; exact ⟨rfl, rfl⟩))
    (fun os started H enc _ => lifted os started H enc)

theorem proved : Rows.FnExactHalfPointSaid := over
#print axioms proved
end Go.Proofs.Ytlpnhcoaidmiiaa.fnExactHalfPoint
