/- Fractions: the reference's negative and copy. -/
import Derived.Test.YtlpnhcoaidmiiaaRatS
namespace Go.Proofs.Ytlpnhcoaidmiiaa
set_option linter.unusedVariables false
set_option linter.unusedSimpArgs false
open Go.RowKit
section
variable (n : Bool) (a : Option Addr) (ca : Nat) (xs : List Int) (b : Option Addr) (cb : Nat) (ds : List Int) (w : World) (ha : IntsAt w a ca xs) (hn : xs.length ≤ 1048576) (hb : IntsAt w b cb ds) (hm : ds.length ≤ 1048576)
theorem neg_fin {w w2 : World} {l1 l2 : Nat} {u v : Value} {xs ds : List Int} (R : Nat) (hR : w.heap.size ≤ R) (h1 : FrI w2 l1 u xs) (h2 : FrI w2 l2 v ds) (e1 : R < l1) (e2 : R < l2) (b : Below w.heap.size w w2) (u0 u1 u2 : Value) :
    TwoF (((w2.setCell ⟨R, 0, none⟩ u0).setCell ⟨R, 1, none⟩ u1).setCell ⟨R, 2, none⟩ u2) w.heap.size u v xs ds ∧ Below w.heap.size w (((w2.setCell ⟨R, 0, none⟩ u0).setCell ⟨R, 1, none⟩ u1).setCell ⟨R, 2, none⟩ u2) :=
  ratF_end hR (lo := R + 1) (by omega) (TwoF.of h1 h2 (by omega) (by omega)) b _ _ _
theorem OwnI.grown {w w' : World} {lo hi : Nat} {u v : Value} {xs : List Int} (h : OwnI w lo hi v xs) (g : w.grownBy w' u.ownBlock) (ha : Apart v u) : OwnI w' lo hi v xs := h.kept g ha
set_option maxRecDepth 100000 in
set_option maxHeartbeats 4000000 in
include ha hn hb hm in
theorem l04Neg_own (h1 : ratOkB n xs ds = true) : Calls Try.prog 112 #[.agg #[.bool n, .slice a xs.length ca, .slice b ds.length cb]] w (RatRetS w ⟨(mkBI (!n) xs).neg, xs, ds⟩) := by
  have HX := Lib.hid (ratOk_num h1)
  have hl := rok_lx h1
  have hl2 := rok_ld h1
  have e : digs (val xs) = xs := HX.out
  have HM : ∀ W, IntsAt W a ca xs → Calls Try.prog 126 #[.bool (!n), .slice a xs.length ca] W fun e w' => ∃ b c', e = .returned (.agg #[.bool (mkBI (!n) xs).neg, .slice b xs.length c']) ∧ OwnI w' W.heap.size w'.heap.size (.slice b xs.length c') xs ∧ Below W.heap.size W w' := by
    intro W hW
    have h := l03Make_dig (!n) (val xs) a ca W (by rw [e]; exact hW) (by rw [e]; omega)
    rw [e] at h
    exact h
  have HMM := Lib.hid HM
  clear HM e
  have Rx : Box ((w.alloc (.cells #[.bool n, .slice a xs.length ca, .slice b ds.length cb] 26)).alloc (.cells #[.bool false, .slice none 0 0, .slice none 0 0] 26)) (w.heap.size) #[.bool n, .slice a xs.length ca, .slice b ds.length cb] := bx2_0 (Below.refl _ _)
  have Rr : Box ((w.alloc (.cells #[.bool n, .slice a xs.length ca, .slice b ds.length cb] 26)).alloc (.cells #[.bool false, .slice none 0 0, .slice none 0 0] 26)) (w.heap.size + 1) #[.bool false, .slice none 0 0, .slice none 0 0] := bx2_1 (Below.refl _ _)
  have B : Hid (Below w.heap.size w ((w.alloc (.cells #[.bool n, .slice a xs.length ca, .slice b ds.length cb] 26)).alloc (.cells #[.bool false, .slice none 0 0, .slice none 0 0] 26))) := Lib.hid (ba2 _ _ _)
  have Yx0 : ((w.alloc (.cells #[.bool n, .slice a xs.length ca, .slice b ds.length cb] 26)).alloc (.cells #[.bool false, .slice none 0 0, .slice none 0 0] 26)).cell? ⟨w.heap.size, 0, none⟩ = some (.bool n) := Rx.cell 0 rfl
  have Yx1 : ((w.alloc (.cells #[.bool n, .slice a xs.length ca, .slice b ds.length cb] 26)).alloc (.cells #[.bool false, .slice none 0 0, .slice none 0 0] 26)).cell? ⟨w.heap.size, 1, none⟩ = some (.slice a xs.length ca) := Rx.cell 1 rfl
  have Yx2 : ((w.alloc (.cells #[.bool n, .slice a xs.length ca, .slice b ds.length cb] 26)).alloc (.cells #[.bool false, .slice none 0 0, .slice none 0 0] 26)).cell? ⟨w.heap.size, 2, none⟩ = some (.slice b ds.length cb) := Rx.cell 2 rfl
  have Yr0 : ((w.alloc (.cells #[.bool n, .slice a xs.length ca, .slice b ds.length cb] 26)).alloc (.cells #[.bool false, .slice none 0 0, .slice none 0 0] 26)).cell? ⟨w.heap.size + 1, 0, none⟩ = some (.bool false) := Rr.cell 0 rfl
  have Yr1 : ((w.alloc (.cells #[.bool n, .slice a xs.length ca, .slice b ds.length cb] 26)).alloc (.cells #[.bool false, .slice none 0 0, .slice none 0 0] 26)).cell? ⟨w.heap.size + 1, 1, none⟩ = some (.slice none 0 0) := Rr.cell 1 rfl
  have Yr2 : ((w.alloc (.cells #[.bool n, .slice a xs.length ca, .slice b ds.length cb] 26)).alloc (.cells #[.bool false, .slice none 0 0, .slice none 0 0] 26)).cell? ⟨w.heap.size + 1, 2, none⟩ = some (.slice none 0 0) := Rr.cell 2 rfl
  go_enter Try.func112, Try.ntmps112
  have BB := B.out
  go_wp2_with fail
  go_region_held3 (fun w' => w'.cell? ⟨w.heap.size, 0, none⟩ = some (.bool n) ∧ w'.cell? ⟨w.heap.size, 1, none⟩ = some (.slice a xs.length ca) ∧ w'.cell? ⟨w.heap.size, 2, none⟩ = some (.slice b ds.length cb))
    (((refine ⟨?_, ?_, ?_⟩ <;> (repeat first | with_reducible assumption | with_reducible refine cell_low ?_ (by first | omega | (simp; done) | (simp; omega)) | with_reducible refine cell_fromB ?_ b2 (by first | omega | (simp; done) | (simp; omega)) | with_reducible refine cell_step ?_ (ba1 _ _) | with_reducible refine cell_step ?_ b1 | with_reducible refine cell_dr ?_))))
    (first | (go_at_call 126; refine (HMM.out _ (ha.below (by (repeat first | with_reducible assumption | with_reducible exact Below.refl _ _ | with_reducible refine bstep ?_ (ba1 _ _) | with_reducible refine bstep ?_ (by assumption) | with_reducible refine Below.drew ?_)))).mono ?_; rintro e W1 ⟨p, c, rfl, hO, b1⟩; have s1 := b1.size; (try simp at s1); (first | have Rr1 := box_step (box_drew Rr) b1 | have Rr1 := box_step (box_step (box_drew Rr) (ba1 _ _)) b1)) | (refine step_append_ints (own_empty _) (hb.below (by (repeat first | with_reducible assumption | with_reducible exact Below.refl _ _ | with_reducible refine bstep ?_ (ba1 _ _) | with_reducible refine bstep ?_ (by assumption) | with_reducible refine Below.drew ?_))) (by simp only [List.length_nil]; omega) (by simp) (by rfl) _ _ (by rfl) (by rfl) (by rfl) ?_; intro v W2 hQ b2 g2; simp only [List.nil_append] at hQ; obtain ⟨p2, c2, rfl, _⟩ := hQ.form; have s2 := b2.size; (try simp at s2); have Rr2 := box_fromB (box_step Rr1 (ba1 _ _)) b2 (by first | omega | (simp; done) | (simp; omega)); have FO := hO.fr.below ((ba1 _ _).trans b2); have BW := bstep (bstep (Below.drew BB) b1) ((ba1 _ _).trans b2); have FQ := hQ.toI.fr; have Yr0 := Rr2.cell 0 rfl; have Yr1 := Rr2.cell 1 rfl; have Yr2 := Rr2.cell 2 rfl; have Fr0 := Rr2.frozen 0; have Fr1 := Rr2.frozen 1; have Fr2 := Rr2.frozen 2; have Lr := Rr2.lt) | ((first | refine step_append_ints ((own_drew (own_emptyB _ (B := w.heap.size + 2) (by simp))).below b1) (hb.below (by (repeat first | with_reducible assumption | with_reducible exact Below.refl _ _ | with_reducible refine bstep ?_ (ba1 _ _) | with_reducible refine bstep ?_ (by assumption) | with_reducible refine Below.drew ?_))) (by simp only [List.length_nil]; omega) (by first | omega | (simp; done) | (simp; omega)) (by rfl) _ _ (by rfl) (by rfl) (by rfl) ?_ | refine step_append_ints ((own_emptyB _ (B := w.heap.size + 2) (by simp)).below b1) (hb.below (by (repeat first | with_reducible assumption | with_reducible exact Below.refl _ _ | with_reducible refine bstep ?_ (ba1 _ _) | with_reducible refine bstep ?_ (by assumption) | with_reducible refine Below.drew ?_))) (by simp only [List.length_nil]; omega) (by first | omega | (simp; done) | (simp; omega)) (by rfl) _ _ (by rfl) (by rfl) (by rfl) ?_); intro v W2 hQ b2 g2; simp only [List.nil_append] at hQ; obtain ⟨p2, c2, rfl, _⟩ := hQ.form; have s2 := b2.size; (try simp at s2); have Rr2 := box_fromB Rr1 b2 (by first | omega | (simp; done) | (simp; omega)); have FO := hO.fr.grown g2 (by intro k hk; simp [Value.ownBlock] at hk; simp; omega); have BW := (bstep (bstep (Below.drew BB) (ba1 _ _)) b1).trans (b2.mono (by first | omega | (simp; done) | (simp; omega))); have FQ := hQ.toI.fr; have Yr0 := Rr2.cell 0 rfl; have Yr1 := Rr2.cell 1 rfl; have Yr2 := Rr2.cell 2 rfl; have Fr0 := Rr2.frozen 0; have Fr1 := Rr2.frozen 1; have Fr2 := Rr2.frozen 2; have Lr := Rr2.lt))
  all_goals (go_wp2; refine bodyPost_ret (v := .agg #[.bool (mkBI (!n) xs).neg, .slice p xs.length c, .slice p2 ds.length c2]) (by simp [results, Try.results112, go_sem, Yr0, Yr1, Yr2, Lr]) rfl ⟨p, c, p2, c2, rfl, neg_fin (w.heap.size + 1) (by omega) FO FQ (by first | omega | (simp; done) | (simp; omega)) (by first | omega | (simp; done) | (simp; omega)) BW _ _ _⟩)

theorem own_not_empty {w w' : World} {lo lo2 g : Nat} {v : Value} {xs : List Int} (h : Own 3 w lo v xs) (e : Own 3 w lo2 (.slice (some ⟨g, 0, none⟩) 0 0) []) (gr : w.grownBy w' (Value.slice (some ⟨g, 0, none⟩) 0 0).ownBlock) : FrI w' lo v xs := by
  obtain ⟨p, c, rfl, h1, h2⟩ := h.toI.fr
  refine ⟨p, c, rfl, h1.grown gr ?_, h2⟩
  rcases h.2.2 with ⟨_, h0⟩ | ⟨g', cap, cur, hv, hb, hg, hnc, hcm, hcs, ht⟩
  · exact .inl (List.eq_nil_of_length_eq_zero h0)
  · rcases e.2.2 with ⟨e1, _⟩ | ⟨g2, cap2, cur2, hv2, hb2, hg2, hnc2, hcm2, hcs2, ht2⟩
    · cases e1
    · simp only [Value.slice.injEq, Option.some.injEq, Addr.mk.injEq, and_true, true_and] at hv hv2
      obtain ⟨rfl, rfl⟩ := hv
      obtain ⟨rfl, -, rfl⟩ := hv2
      by_cases hk : xs = []
      · exact .inl hk
      · right
        intro hh
        simp [Value.ownBlock] at hh
        subst hh
        rw [hg] at hg2
        cases hg2
        have := List.length_pos_iff.2 hk
        omega
theorem ba1' (w : World) (o : Obj) {n : Nat} (h : n ≤ w.heap.size) : Below n w (w.alloc o) := (ba1 w o).mono h
set_option maxRecDepth 100000 in
set_option maxHeartbeats 4000000 in
include ha hn hb hm in
theorem l04Copy_own (hl : xs.length ≤ 24) (hl2 : ds.length ≤ 24) : Calls Try.prog 122 #[.agg #[.bool n, .slice a xs.length ca, .slice b ds.length cb]] w (RatRetS w ⟨n, xs, ds⟩) := by
  have Rx : Box ((w.alloc (.cells #[.bool n, .slice a xs.length ca, .slice b ds.length cb] 26)).alloc (.cells #[.bool false, .slice none 0 0, .slice none 0 0] 26)) (w.heap.size) #[.bool n, .slice a xs.length ca, .slice b ds.length cb] := bx2_0 (Below.refl _ _)
  have Rr : Box ((w.alloc (.cells #[.bool n, .slice a xs.length ca, .slice b ds.length cb] 26)).alloc (.cells #[.bool false, .slice none 0 0, .slice none 0 0] 26)) (w.heap.size + 1) #[.bool false, .slice none 0 0, .slice none 0 0] := bx2_1 (Below.refl _ _)
  have B : Hid (Below w.heap.size w ((w.alloc (.cells #[.bool n, .slice a xs.length ca, .slice b ds.length cb] 26)).alloc (.cells #[.bool false, .slice none 0 0, .slice none 0 0] 26))) := Lib.hid (ba2 _ _ _)
  have Yx0 : ((w.alloc (.cells #[.bool n, .slice a xs.length ca, .slice b ds.length cb] 26)).alloc (.cells #[.bool false, .slice none 0 0, .slice none 0 0] 26)).cell? ⟨w.heap.size, 0, none⟩ = some (.bool n) := Rx.cell 0 rfl
  have Yx1 : ((w.alloc (.cells #[.bool n, .slice a xs.length ca, .slice b ds.length cb] 26)).alloc (.cells #[.bool false, .slice none 0 0, .slice none 0 0] 26)).cell? ⟨w.heap.size, 1, none⟩ = some (.slice a xs.length ca) := Rx.cell 1 rfl
  have Yx2 : ((w.alloc (.cells #[.bool n, .slice a xs.length ca, .slice b ds.length cb] 26)).alloc (.cells #[.bool false, .slice none 0 0, .slice none 0 0] 26)).cell? ⟨w.heap.size, 2, none⟩ = some (.slice b ds.length cb) := Rx.cell 2 rfl
  have Yr0 : ((w.alloc (.cells #[.bool n, .slice a xs.length ca, .slice b ds.length cb] 26)).alloc (.cells #[.bool false, .slice none 0 0, .slice none 0 0] 26)).cell? ⟨w.heap.size + 1, 0, none⟩ = some (.bool false) := Rr.cell 0 rfl
  have Yr1 : ((w.alloc (.cells #[.bool n, .slice a xs.length ca, .slice b ds.length cb] 26)).alloc (.cells #[.bool false, .slice none 0 0, .slice none 0 0] 26)).cell? ⟨w.heap.size + 1, 1, none⟩ = some (.slice none 0 0) := Rr.cell 1 rfl
  have Yr2 : ((w.alloc (.cells #[.bool n, .slice a xs.length ca, .slice b ds.length cb] 26)).alloc (.cells #[.bool false, .slice none 0 0, .slice none 0 0] 26)).cell? ⟨w.heap.size + 1, 2, none⟩ = some (.slice none 0 0) := Rr.cell 2 rfl
  go_enter Try.func122, Try.ntmps122
  have BB := B.out
  go_wp2_with fail
  go_region_held3 (fun w' => w'.cell? ⟨w.heap.size, 0, none⟩ = some (.bool n) ∧ w'.cell? ⟨w.heap.size, 1, none⟩ = some (.slice a xs.length ca) ∧ w'.cell? ⟨w.heap.size, 2, none⟩ = some (.slice b ds.length cb))
    ((refine ⟨?_, ?_, ?_⟩ <;> (repeat first | with_reducible assumption | with_reducible refine cell_low ?_ (by first | omega | (simp; done) | (simp; omega)) | with_reducible refine cell_fromB ?_ b2 (by first | omega | (simp; done) | (simp; omega)) | with_reducible refine cell_fromB ?_ b1 (by first | omega | (simp; done) | (simp; omega)) | with_reducible refine cell_step ?_ (ba1 _ _) | with_reducible refine cell_dr ?_)))
    (first | (refine step_append_ints (own_drew (own_emptyB _ (B := w.heap.size + 2) (by simp))) (ha.below (by (repeat first | with_reducible assumption | with_reducible exact Below.refl _ _ | with_reducible refine bstep ?_ (ba1 _ _) | with_reducible refine bstep ?_ (by assumption) | with_reducible refine Below.drew ?_))) (by simp only [List.length_nil]; omega) (by first | omega | (simp; done) | (simp; omega)) (by rfl) _ _ (by rfl) (by rfl) (by rfl) ?_; intro v W1 hP b1 g1; simp only [List.nil_append] at hP; obtain ⟨p, c, rfl, _⟩ := hP.form; have s1 := b1.size; (try simp at s1); have Rr1 := box_fromB (box_drew (box_step Rr (ba1 _ _))) b1 (by first | omega | (simp; done) | (simp; omega)); have B1 := (Below.drew (bstep BB (ba1 _ _))).trans (b1.mono (by first | omega | (simp; done) | (simp; omega)))) | (refine step_append_ints (own_drew ((own_emptyB _ (B := w.heap.size + 2) (by simp)).below (ba1 _ _))) (ha.below (by (repeat first | with_reducible assumption | with_reducible exact Below.refl _ _ | with_reducible refine bstep ?_ (ba1 _ _) | with_reducible refine bstep ?_ (by assumption) | with_reducible refine Below.drew ?_))) (by simp only [List.length_nil]; omega) (by first | omega | (simp; done) | (simp; omega)) (by rfl) _ _ (by rfl) (by rfl) (by rfl) ?_; intro v W1 hP b1 g1; simp only [List.nil_append] at hP; obtain ⟨p, c, rfl, _⟩ := hP.form; have s1 := b1.size; (try simp at s1); have Rr1 := box_fromB (box_drew (box_step (box_step Rr (ba1 _ _)) (ba1 _ _))) b1 (by first | omega | (simp; done) | (simp; omega)); have B1 := (Below.drew (bstep (bstep BB (ba1 _ _)) (ba1 _ _))).trans (b1.mono (by first | omega | (simp; done) | (simp; omega))); have E2 := ((own_drew (own_emptyB _ (B := w.heap.size + 3) (by simp))).toI.kept g1 (.inr (by simp [Value.ownBlock]))).1) | (refine step_append_ints (own_drew (own_emptyB _ (B := w.heap.size + 3) (by simp))) (ha.below (by (repeat first | with_reducible assumption | with_reducible exact Below.refl _ _ | with_reducible refine bstep ?_ (ba1 _ _) | with_reducible refine bstep ?_ (by assumption) | with_reducible refine Below.drew ?_))) (by simp only [List.length_nil]; omega) (by first | omega | (simp; done) | (simp; omega)) (by rfl) _ _ (by rfl) (by rfl) (by rfl) ?_; intro v W1 hP b1 g1; simp only [List.nil_append] at hP; obtain ⟨p, c, rfl, _⟩ := hP.form; have s1 := b1.size; (try simp at s1); have Rr1 := box_fromB (box_drew (box_step (box_step Rr (ba1 _ _)) (ba1 _ _))) b1 (by first | omega | (simp; done) | (simp; omega)); have B1 := (Below.drew (bstep (bstep BB (ba1 _ _)) (ba1 _ _))).trans (b1.mono (by first | omega | (simp; done) | (simp; omega))); have E2 := ((own_drew ((own_emptyB _ (B := w.heap.size + 2) (by simp)).below (ba1 _ _))).toI.kept g1 (.inr (by simp [Value.ownBlock]))).1) | (refine step_append_ints (own_empty _) (hb.below (B1.trans (ba1' _ _ (by first | omega | (simp; done) | (simp; omega))))) (by simp only [List.length_nil]; omega) (by simp) (by rfl) _ _ (by rfl) (by rfl) (by rfl) ?_; intro v W2 hQ b2 g2; simp only [List.nil_append] at hQ; obtain ⟨p2, c2, rfl, _⟩ := hQ.form; have s2 := b2.size; (try simp at s2); have Rr2 := box_fromB (box_step Rr1 (ba1 _ _)) b2 (by first | omega | (simp; done) | (simp; omega)); have FO := hP.toI.fr.below ((ba1 _ _).trans b2); have BW := bstep B1 ((ba1 _ _).trans b2); have FQ := hQ.toI.fr; have Yr0 := Rr2.cell 0 rfl; have Yr1 := Rr2.cell 1 rfl; have Yr2 := Rr2.cell 2 rfl; have Fr0 := Rr2.frozen 0; have Fr1 := Rr2.frozen 1; have Fr2 := Rr2.frozen 2; have Lr := Rr2.lt) | (refine step_append_ints E2 (hb.below B1) (by simp only [List.length_nil]; omega) (by first | omega | (simp; done) | (simp; omega)) (by rfl) _ _ (by rfl) (by rfl) (by rfl) ?_; intro v W2 hQ b2 g2; simp only [List.nil_append] at hQ; obtain ⟨p2, c2, rfl, _⟩ := hQ.form; have s2 := b2.size; (try simp at s2); have Rr2 := box_fromB Rr1 b2 (by first | omega | (simp; done) | (simp; omega)); have FO := own_not_empty hP E2 g2; have BW := B1.trans (b2.mono (by first | omega | (simp; done) | (simp; omega))); have FQ := hQ.toI.fr; have Yr0 := Rr2.cell 0 rfl; have Yr1 := Rr2.cell 1 rfl; have Yr2 := Rr2.cell 2 rfl; have Fr0 := Rr2.frozen 0; have Fr1 := Rr2.frozen 1; have Fr2 := Rr2.frozen 2; have Lr := Rr2.lt))
  all_goals (go_wp2; refine bodyPost_ret (v := .agg #[.bool n, .slice p xs.length c, .slice p2 ds.length c2]) (by simp [results, Try.results122, go_sem, Yr0, Yr1, Yr2, Lr]) rfl ⟨p, c, p2, c2, rfl, neg_fin (w.heap.size + 1) (by omega) FO FQ (by first | omega | (simp; done) | (simp; omega)) (by first | omega | (simp; done) | (simp; omega)) BW _ _ _⟩)

set_option maxHeartbeats 4000000 in
include ha hn hb hm in
theorem specRatNeg_own : Calls Try.prog 56 #[.agg #[.bool n, .slice a xs.length ca, .slice b ds.length cb]] w (RatRetS w (ratNegP n xs ds)) := by
  have HA := Lib.hid ha
  have HB := Lib.hid hb
  clear ha hb
  by_cases h1 : ratOkB n xs ds = true
  · skip
    rw [ratNegP_yes h1]
    go_enter Try.func56, Try.ntmps56
    go_wp2_with fail
    refine (specRatOk_any n a ca xs b cb ds _ (HA.out.below (ba2 _ _ _)) hn (HB.out.below (ba2 _ _ _)) hm).mono ?_
    rintro e W1 ⟨rfl, b1⟩
    have Rx := bx2_0 b1
    have Rr := bx2_1 b1
    have B := Lib.hid (bstep (ba2 _ _ _) b1)
    have sb1 := b1.size
    try simp at sb1
    have Yx0 := Rx.cell 0 rfl
    have Yx1 := Rx.cell 1 rfl
    have Yx2 := Rx.cell 2 rfl
    have Lx := Rx.lt
    have Yr0 := Rr.cell 0 rfl
    have Yr1 := Rr.cell 1 rfl
    have Yr2 := Rr.cell 2 rfl
    have Lr := Rr.lt
    have Fr0 := Rr.frozen 0
    have Fr1 := Rr.frozen 1
    have Fr2 := Rr.frozen 2
    clear b1
    go_wp2_with fail
    refine (l04Neg_own n a ca xs b cb ds _ (HA.out.below B.out) hn (HB.out.below B.out) hm h1).mono ?_
    rintro e W2 ⟨p, c, p2, c2, rfl, hO, b2⟩
    clear Yx0 Yx1 Yx2 Lx Yr0 Yr1 Yr2 Lr Fr0 Fr1 Fr2
    have Rx := box_step Rx b2
    have Rr := box_step Rr b2
    have B := Lib.hid (bstep B.out b2)
    have sb2 := b2.size
    have O := Lib.hid hO
    clear hO
    have Yx0 := Rx.cell 0 rfl
    have Yx1 := Rx.cell 1 rfl
    have Yx2 := Rx.cell 2 rfl
    have Lx := Rx.lt
    have Yr0 := Rr.cell 0 rfl
    have Yr1 := Rr.cell 1 rfl
    have Yr2 := Rr.cell 2 rfl
    have Lr := Rr.lt
    have Fr0 := Rr.frozen 0
    have Fr1 := Rr.frozen 1
    have Fr2 := Rr.frozen 2
    clear b2
    go_wp2
    refine bodyPost_ret (v := .agg #[.bool (mkBI (!n) xs).neg, .slice p xs.length c, .slice p2 ds.length c2]) (by simp [results, Try.results56, go_sem, Yr0, Yr1, Yr2, Lr]) rfl ⟨p, c, p2, c2, rfl, ratF_end (by first | omega | (simp; done) | (simp; omega)) (by first | omega | (simp; done) | (simp; omega)) O.out B.out _ _ _⟩
  · have h1' := Bool.eq_false_iff.2 h1
    rw [ratNegP_no h1']
    go_enter Try.func56, Try.ntmps56
    go_wp2_with fail
    refine (specRatOk_any n a ca xs b cb ds _ (HA.out.below (ba2 _ _ _)) hn (HB.out.below (ba2 _ _ _)) hm).mono ?_
    rintro e W3 ⟨rfl, b3⟩
    have Rx := bx2_0 b3
    have Rr := bx2_1 b3
    have B := Lib.hid (bstep (ba2 _ _ _) b3)
    have sb3 := b3.size
    try simp at sb3
    have Yx0 := Rx.cell 0 rfl
    have Yx1 := Rx.cell 1 rfl
    have Yx2 := Rx.cell 2 rfl
    have Lx := Rx.lt
    have Yr0 := Rr.cell 0 rfl
    have Yr1 := Rr.cell 1 rfl
    have Yr2 := Rr.cell 2 rfl
    have Lr := Rr.lt
    have Fr0 := Rr.frozen 0
    have Fr1 := Rr.frozen 1
    have Fr2 := Rr.frozen 2
    clear b3
    go_wp2
    refine bodyPost_ret (v := .agg #[.bool false, .slice none 0 0, .slice none 0 0]) (by simp [results, Try.results56, go_sem, Yr0, Yr1, Yr2, Lr]) rfl ⟨none, 0, none, 0, rfl, ratzF_end (by first | omega | (simp; done) | (simp; omega)) B.out _ _ _⟩

include ha hn hb hm in
theorem specRatNeg_any : Calls Try.prog 56 #[.agg #[.bool n, .slice a xs.length ca, .slice b ds.length cb]] w fun e w' => ∃ p c p2 c2, e = .returned (.agg #[.bool (ratNegP n xs ds).neg, .slice p (ratNegP n xs ds).num.length c, .slice p2 (ratNegP n xs ds).den.length c2]) ∧ IntsAt w' p c (ratNegP n xs ds).num ∧ IntsAt w' p2 c2 (ratNegP n xs ds).den ∧ Below w.heap.size w w' :=
  (specRatNeg_own n a ca xs b cb ds w ha hn hb hm).mono fun _ _ ⟨p, c, p2, c2, h1, h2, h3⟩ => ⟨p, c, p2, c2, h1, h2.i1, h2.i2, h3⟩
end
end Go.Proofs.Ytlpnhcoaidmiiaa
