/- Fractions: what walks hand back; the parts that the walks call, in few words. -/
import Derived.Test.YtehhpkeabckdaaaGreatDoorRatLaw2
import Derived.Test.YtehhpkeabckdaaaGreatDoorDivS
import Derived.Test.YtehhpkeabckdaaaGreatDoorK2
namespace Go.Proofs.YtehhpkeabckdaaaGreatDoor
set_option linter.unusedVariables false
set_option linter.unusedSimpArgs false
open Go.RowKit
/-- a slice of ints in the blocks from lo on -/
def FrI (w : World) (lo : Nat) (v : Value) (xs : List Int) : Prop := ∃ p c, v = .slice p xs.length c ∧ IntsAt w p c xs ∧ ∀ q, p = some q → lo ≤ q.block
section
variable {w w' : World} {lo lo2 hi R k c : Nat} {v x : Value} {xs : List Int} {p : Option Addr}
theorem IntsAt.putLow {q : Nat} (h : IntsAt w p c xs) (hb : ∀ q, p = some q → lo ≤ q.block) (hR : R < lo) : IntsAt (w.setCell ⟨R, q, none⟩ x) p c xs := by
  refine ⟨h.fit, h.room, h.small, h.nil0, ?_⟩
  rcases h.at_ with h1 | ⟨b, off, ha, hlt, hc⟩
  · exact .inl h1
  · refine .inr ⟨b, off, ha, by simpa using hlt, fun j hj => ?_⟩
    have hlo : lo ≤ b := hb _ ha
    rw [World.cell?_of_block (w := w) (Below.heap_setCell _ _ _ _ (by simp; omega))]
    exact hc j hj
theorem FrI.ints (h : FrI w lo (.slice p xs.length c) xs) : IntsAt w p c xs := by
  obtain ⟨p', c', e, h1, _⟩ := h
  simp only [Value.slice.injEq, true_and] at e
  obtain ⟨rfl, rfl⟩ := e
  exact h1
theorem FrI.below (h : FrI w lo v xs) (b : Below w.heap.size w w') : FrI w' lo v xs := let ⟨p, c, e, h1, h2⟩ := h; ⟨p, c, e, h1.below b, h2⟩
theorem FrI.mono (h : FrI w lo v xs) (e : lo2 ≤ lo) : FrI w lo2 v xs := let ⟨p, c, e1, h1, h2⟩ := h; ⟨p, c, e1, h1, fun q hq => Nat.le_trans e (h2 q hq)⟩
theorem FrI.put (h : FrI w lo v xs) (hR : R < lo) : FrI (w.setCell ⟨R, k, none⟩ x) lo v xs := let ⟨p, c, e, h1, h2⟩ := h; ⟨p, c, e, h1.putLow h2 hR, h2⟩
theorem OwnI.fr (h : OwnI w lo hi v xs) : FrI w lo v xs := by
  obtain ⟨p, c, rfl, h1⟩ := h.1.form
  refine ⟨p, c, rfl, h1, fun q hq => ?_⟩
  subst hq
  exact (h.1.2.lt q.block (by simp [Value.ownBlock])).1
theorem frI_nil (w : World) (lo : Nat) : FrI w lo (.slice none 0 0) [] := ⟨none, 0, rfl, IntsAt.nil w, fun _ h => by cases h⟩
theorem OwnI.of_two {u : Value} {ys : List Int} (h : Two w lo hi u v ys xs) : OwnI w lo hi u ys ∧ OwnI w lo hi v xs := let ⟨_, h1, h2, h3, h4⟩ := h; ⟨h3.mono (Nat.le_refl _) h2, h4.mono h1 (Nat.le_refl _)⟩
end
def TwoF (w : World) (lo : Nat) (u v : Value) (xs ys : List Int) : Prop := FrI w lo u xs ∧ FrI w lo v ys
def FourF (w : World) (lo : Nat) (u v u2 v2 : Value) (xs ys xs2 ys2 : List Int) : Prop := TwoF w lo u v xs ys ∧ TwoF w lo u2 v2 xs2 ys2
section
variable {w w' : World} {lo lo2 l1 l2 hi R k c1 c2 c3 c4 : Nat} {u v u2 v2 x : Value} {xs ys xs2 ys2 : List Int} {p1 p2 p3 p4 : Option Addr}
theorem TwoF.below (h : TwoF w lo u v xs ys) (b : Below w.heap.size w w') : TwoF w' lo u v xs ys := ⟨h.1.below b, h.2.below b⟩
theorem TwoF.put (h : TwoF w lo u v xs ys) (hR : R < lo) : TwoF (w.setCell ⟨R, k, none⟩ x) lo u v xs ys := ⟨h.1.put hR, h.2.put hR⟩
theorem TwoF.mono (h : TwoF w lo u v xs ys) (e : lo2 ≤ lo) : TwoF w lo2 u v xs ys := ⟨h.1.mono e, h.2.mono e⟩
theorem TwoF.i1 (h : TwoF w lo (.slice p1 xs.length c1) (.slice p2 ys.length c2) xs ys) : IntsAt w p1 c1 xs := h.1.ints
theorem TwoF.i2 (h : TwoF w lo (.slice p1 xs.length c1) (.slice p2 ys.length c2) xs ys) : IntsAt w p2 c2 ys := h.2.ints
theorem TwoF.of (a : FrI w l1 u xs) (b : FrI w l2 v ys) (e1 : lo ≤ l1) (e2 : lo ≤ l2) : TwoF w lo u v xs ys := ⟨a.mono e1, b.mono e2⟩
theorem Two.fr (h : Two w lo hi u v xs ys) : TwoF w lo u v xs ys := let ⟨_, h1, _, h3, h4⟩ := h; ⟨h3.fr, h4.fr.mono h1⟩
theorem FourF.below (h : FourF w lo u v u2 v2 xs ys xs2 ys2) (b : Below w.heap.size w w') : FourF w' lo u v u2 v2 xs ys xs2 ys2 := ⟨h.1.below b, h.2.below b⟩
theorem FourF.put (h : FourF w lo u v u2 v2 xs ys xs2 ys2) (hR : R < lo) : FourF (w.setCell ⟨R, k, none⟩ x) lo u v u2 v2 xs ys xs2 ys2 := ⟨h.1.put hR, h.2.put hR⟩
theorem FourF.mono (h : FourF w lo u v u2 v2 xs ys xs2 ys2) (e : lo2 ≤ lo) : FourF w lo2 u v u2 v2 xs ys xs2 ys2 := ⟨h.1.mono e, h.2.mono e⟩
theorem FourF.of (a : TwoF w l1 u v xs ys) (b : TwoF w l2 u2 v2 xs2 ys2) (e1 : lo ≤ l1) (e2 : lo ≤ l2) : FourF w lo u v u2 v2 xs ys xs2 ys2 := ⟨a.mono e1, b.mono e2⟩
theorem FourF.i1 (h : FourF w lo (.slice p1 xs.length c1) (.slice p2 ys.length c2) (.slice p3 xs2.length c3) (.slice p4 ys2.length c4) xs ys xs2 ys2) : IntsAt w p1 c1 xs := h.1.i1
theorem FourF.i2 (h : FourF w lo (.slice p1 xs.length c1) (.slice p2 ys.length c2) (.slice p3 xs2.length c3) (.slice p4 ys2.length c4) xs ys xs2 ys2) : IntsAt w p2 c2 ys := h.1.i2
theorem FourF.i3 (h : FourF w lo (.slice p1 xs.length c1) (.slice p2 ys.length c2) (.slice p3 xs2.length c3) (.slice p4 ys2.length c4) xs ys xs2 ys2) : IntsAt w p3 c3 xs2 := h.2.i1
theorem FourF.i4 (h : FourF w lo (.slice p1 xs.length c1) (.slice p2 ys.length c2) (.slice p3 xs2.length c3) (.slice p4 ys2.length c4) xs ys xs2 ys2) : IntsAt w p4 c4 ys2 := h.2.i2
end
/-- a fraction is handed back, in blocks made since w; the reference's, the program's -/
def RatRetS (w : World) (r : RA) (e : Ending) (w' : World) : Prop := ∃ p c p2 c2, e = .returned (.agg #[.bool r.neg, .slice p r.num.length c, .slice p2 r.den.length c2]) ∧ TwoF w' w.heap.size (.slice p r.num.length c) (.slice p2 r.den.length c2) r.num r.den ∧ Below w.heap.size w w'
def RatRet (w : World) (r : RA) (e : Ending) (w' : World) : Prop := ∃ p c p2 c2, e = .returned (.agg #[.bool r.neg, .slice p r.num.length c, .slice p2 r.den.length c2]) ∧ Two w' w.heap.size w'.heap.size (.slice p r.num.length c) (.slice p2 r.den.length c2) r.num r.den ∧ Below w.heap.size w w'
def PtRetS (w : World) (r : PT) (e : Ending) (w' : World) : Prop := ∃ p c p2 c2 p3 c3 p4 c4, e = .returned (.agg #[.bool r.x.neg, .slice p r.x.num.length c, .slice p2 r.x.den.length c2, .bool r.y.neg, .slice p3 r.y.num.length c3, .slice p4 r.y.den.length c4]) ∧ FourF w' w.heap.size (.slice p r.x.num.length c) (.slice p2 r.x.den.length c2) (.slice p3 r.y.num.length c3) (.slice p4 r.y.den.length c4) r.x.num r.x.den r.y.num r.y.den ∧ Below w.heap.size w w'
def PtRet (w : World) (r : PT) (e : Ending) (w' : World) : Prop := ∃ p c p2 c2 p3 c3 p4 c4, e = .returned (.agg #[.bool r.x.neg, .slice p r.x.num.length c, .slice p2 r.x.den.length c2, .bool r.y.neg, .slice p3 r.y.num.length c3, .slice p4 r.y.den.length c4]) ∧ Four w' w.heap.size w'.heap.size (.slice p r.x.num.length c) (.slice p2 r.x.den.length c2) (.slice p3 r.y.num.length c3) (.slice p4 r.y.den.length c4) r.x.num r.x.den r.y.num r.y.den ∧ Below w.heap.size w w'
section
variable {w w2 : World} {lo R : Nat} {u v u2 v2 : Value} {xs ys xs2 ys2 : List Int}
theorem ratF_end (hR : w.heap.size ≤ R) (hlo : R < lo) (h : TwoF w2 lo u v xs ys) (b : Below w.heap.size w w2) (u0 u1 u2 : Value) :
    TwoF (((w2.setCell ⟨R, 0, none⟩ u0).setCell ⟨R, 1, none⟩ u1).setCell ⟨R, 2, none⟩ u2) w.heap.size u v xs ys ∧ Below w.heap.size w (((w2.setCell ⟨R, 0, none⟩ u0).setCell ⟨R, 1, none⟩ u1).setCell ⟨R, 2, none⟩ u2) :=
  ⟨(((h.put hlo).put hlo).put hlo).mono (by omega), below_put (below_put (below_put b hR) hR) hR⟩
theorem ratzF_end (hR : w.heap.size ≤ R) (b : Below w.heap.size w w2) (u0 u1 u2 : Value) :
    TwoF (((w2.setCell ⟨R, 0, none⟩ u0).setCell ⟨R, 1, none⟩ u1).setCell ⟨R, 2, none⟩ u2) w.heap.size (.slice none 0 0) (.slice none 0 0) [] [] ∧ Below w.heap.size w (((w2.setCell ⟨R, 0, none⟩ u0).setCell ⟨R, 1, none⟩ u1).setCell ⟨R, 2, none⟩ u2) :=
  ⟨⟨frI_nil _ _, frI_nil _ _⟩, below_put (below_put (below_put b hR) hR) hR⟩
end
/-- append(s, t...) of ints at a step of a region that draws its order -/
theorem step_append_ints {ops : Array Oper} {o : Oper} {a : Act} {K : Act → World → Prop} {Q : Exit → Act → World → Prop} {E : Prop} {w : World} {base : Nat} {v : Value} {xs ys : List Int} {ad : Option Addr} {c : Nat}
    (hown : Own 3 w base v xs) (hy : IntsAt w ad c ys) (hl : xs.length + ys.length ≤ 16777216) (hb : base ≤ w.heap.size) (hgd : o.guard = none) (s x : Operand)
    (ho : o.op = .call { callee := .builtin .append, args := #[s, x], argTypes := #[23, 23] })
    (hs : a.eval s = v) (hx : a.eval x = .slice ad ys.length c)
    (h : ∀ v' w', Own 3 w' base v' (xs ++ ys) → Below base w w' → w.grownBy w' v.ownBlock → K (a.put o.dst v') w') :
    if Region.wanted o (yielded ops a.tmps) = true then Oper.wp Tryz.prog o a w K Q else E := by
  have hw : Region.wanted o (yielded ops a.tmps) = true := by simp [Region.wanted, hgd]
  rw [if_pos hw]
  obtain ⟨i0, hi, hz0, hz1, hz2⟩ := info_parts Tryz.infoInt
  cases ad with
  | none =>
    have h0 := hy.nil0 rfl
    have hy0 : ys = [] := by
      rcases hy.at_ with h | ⟨_, _, h, _⟩
      · exact h
      · cases h
    subst h0 hy0
    have hr := run_append_owned_none (P := Tryz.prog) (w := w) base 23 o.type 3 i0 1 Tryz.underlying23 hi v xs.length _ hown.2
    unfold Oper.wp execOp
    have hx' : a.eval x = .slice none 0 0 := hx
    simp only [ho, resolve, invoke, builtin, Sem.run_bind, Sem.run_pure, Result.andThen_ok, List.map_toArray, List.map_cons, List.map_nil, hs, hx', hr]
    exact h v w (by simpa using hown) (Below.refl _ _) ⟨rfl, rfl, rfl, Nat.le_refl _, fun _ _ _ => rfl⟩
  | some ad =>
    have hc : ∀ j u, (ys.map (Value.int .i64))[j]? = some u → w.cell? (ad.add j) = some u := by
      intro j u hu
      rcases hy.at_ with rfl | ⟨b, off, e, _, hc⟩
      · simp at hu
      · cases e
        have hj : j < ys.length := by
          rcases Nat.lt_or_ge j ys.length with h | h
          · exact h
          · simp [h] at hu
        rw [← hu, Go.WideShapes.add_plain, hc j hj]
        simp [hj]
    refine wp_append_own _ s x 23 ho base 3 i0 (.int .i64 0) 1 8 Tryz.underlying23 hi hz0 hz1 hz2 rfl (by decide) v xs.length (xs.map (Value.int .i64)) hs hown.2
      ad ys.length c (ys.map (Value.int .i64)) hx (by simp) hc (by intro u hu; obtain ⟨n, _, rfl⟩ := List.mem_map.1 hu; rfl) (by unfold maxLen; omega) (by omega) hb ?_
    intro v' w' hown' hg _
    refine h v' w' ⟨fun x hx => ?_, by simpa using hown'⟩ ((Below.refl base w).grown hg hb fun k hk => (hown.2.lt k hk).1) hg
    rcases List.mem_append.1 hx with hx | hx
    · exact hown.1 x hx
    · exact hy.fit x hx
/-- a cell ahead of what may have changed -/
theorem cell_fromB {W W' : World} {n B j : Nat} {v : Value} (h : W.cell? ⟨B, j, none⟩ = some v) (b : Below n W W') (hB : B < n) : W'.cell? ⟨B, j, none⟩ = some v := by
  rw [b.cell (p := ⟨B, j, none⟩) hB]; exact h
theorem cell_ne {W : World} {B j : Nat} {v u : Value} {p : Addr} (h : W.cell? ⟨B, j, none⟩ = some v) (hp : B ≠ p.block) : (W.setCell p u).cell? ⟨B, j, none⟩ = some v := by
  rw [World.cell?_of_block (w := W) (Below.heap_setCell _ _ _ _ (by simpa using hp))]; exact h
theorem box_fromB {W W' : World} {n B : Nat} {cs : Array Value} (h : Box W B cs) (b : Below n W W') (hB : B < n) : Box W' B cs := by
  obtain ⟨t, h⟩ := h
  exact ⟨t, by rw [b.block B hB]; exact h⟩
theorem FrI.grown {w w' : World} {lo : Nat} {v : Value} {xs : List Int} {row : Option Nat} (h : FrI w lo v xs) (g : w.grownBy w' row) (hr : ∀ k, row = some k → k < lo) : FrI w' lo v xs := by
  obtain ⟨p, c, e, h1, h2⟩ := h
  refine ⟨p, c, e, h1.grown g ?_, h2⟩
  cases p with
  | none =>
    rcases h1.at_ with h3 | ⟨_, _, h3, _⟩
    · exact .inl h3
    · cases h3
  | some q =>
    right
    intro hh
    have := hr q.block hh.symm
    have := h2 q rfl
    omega

theorem l02Trim_out (a : Option Addr) (c : Nat) (xs : List Int) (N : Nat) (w : World) (ha : IntsAt w a c xs) (hn : xs.length ≤ 1048576) (hr : Rng xs) (hN : val xs = N) :
    Calls Tryz.prog 101 #[.slice a xs.length c] w fun e w' => e = .returned (.slice a (digs N).length c) ∧ IntsAt w' a c (digs N) ∧ Below w.heap.size w w' :=
  (l02Trim_any a c xs w ha hn hr).mono fun e w' ⟨⟨k, hk, he, ht⟩, hw⟩ => by
    have hl : k = (digs N).length := by rw [← hN, ← ht]; simp; omega
    subst hw
    refine ⟨by rw [he, hl], ?_, Below.refl _ _⟩
    have := ha.take k
    rw [ht, hN] at this
    exact this
theorem l02Gcd_out (a : Option Addr) (ca N : Nat) (b : Option Addr) (cb D g : Nat) (w : World) (ha : IntsAt w a ca (digs N)) (hb : IntsAt w b cb (digs D)) (hn : (digs N).length ≤ 400000) (hm : (digs D).length ≤ 400000) (hg : Nat.gcd N D = g) :
    Calls Tryz.prog 103 #[.slice a (digs N).length ca, .slice b (digs D).length cb] w fun e w' => ∃ p c, e = .returned (.slice p (digs g).length c) ∧ IntsAt w' p c (digs g) ∧ Below w.heap.size w w' := by
  have h := l02Gcd_any a ca (digs N) b cb (digs D) w ha hb hn hm (by rw [val_digs]) (by rw [val_digs])
  rw [val_digs, val_digs, hg] at h
  exact h
theorem l02Div_out (a : Option Addr) (ca N : Nat) (b : Option Addr) (cb g X : Nat) (w : World) (ha : IntsAt w a ca (digs N)) (hb : IntsAt w b cb (digs g)) (hn : (digs N).length ≤ 400000) (hm : (digs g).length ≤ 400000) (h0 : 0 < g) (hg : N / g = X) :
    Calls Tryz.prog 104 #[.slice a (digs N).length ca, .slice b (digs g).length cb] w fun e w' => ∃ p c v, e = .returned (.tuple #[.slice p (digs X).length c, v]) ∧ IntsAt w' p c (digs X) ∧ Below w.heap.size w w' := by
  have h := l02Div_any a ca (digs N) b cb (digs g) w ha hb hn hm (by rw [val_digs]) (by rw [val_digs]) (by rw [val_digs]; exact h0)
  rw [val_digs, val_digs, hg] at h
  exact h.mono fun _ _ ⟨p, c, p2, c2, h1, h2, h3⟩ => ⟨p, c, _, h1, h2.i1, h3⟩
theorem l03Make_dig (n : Bool) (N : Nat) (a : Option Addr) (c : Nat) (w : World) (ha : IntsAt w a c (digs N)) (hn : (digs N).length ≤ 60) :
    Calls Tryz.prog 86 #[.bool n, .slice a (digs N).length c] w fun e w' => ∃ b c', e = .returned (.agg #[.bool (mkBI n (digs N)).neg, .slice b (digs N).length c']) ∧
      OwnI w' w.heap.size w'.heap.size (.slice b (digs N).length c') (digs N) ∧ Below w.heap.size w w' := by
  have h := l03Make_val n N a c (digs N) w ha (by omega) (digs_rng _) (val_digs _)
  rw [capD_digs hn] at h
  exact h
theorem l02Mul_out (a : Option Addr) (ca : Nat) (xs : List Int) (b : Option Addr) (cb : Nat) (ys : List Int) (N : Nat) (w : World) (ha : IntsAt w a ca xs) (hb : IntsAt w b cb ys) (hn : xs.length ≤ 500000) (hm : ys.length ≤ 500000) (hx : Rng xs) (hy : Rng ys) (hN : val xs * val ys = N) :
    Calls Tryz.prog 121 #[.slice a xs.length ca, .slice b ys.length cb] w fun e w' => ∃ p c, e = .returned (.slice p (digs N).length c) ∧ OwnI w' w.heap.size w'.heap.size (.slice p (digs N).length c) (digs N) ∧ Below w.heap.size w w' := by
  subst hN
  exact own_out (l02Mul_own a ca xs b cb ys w ha hb hn hm hx hy)
/-- a part of a fraction cut down, if it fits -/
def fitRA (n : Bool) (X Y : Nat) : RA := if (digs X).length ≤ 24 ∧ (digs Y).length ≤ 24 then ⟨(mkBI n (digs X)).neg, digs X, digs Y⟩ else zeroRA
theorem fitRA_yes {n : Bool} {X Y : Nat} (h1 : (digs X).length ≤ 24) (h2 : (digs Y).length ≤ 24) : fitRA n X Y = ⟨(mkBI n (digs X)).neg, digs X, digs Y⟩ := if_pos ⟨h1, h2⟩
theorem fitRA_no1 {n : Bool} {X Y : Nat} (h1 : ¬ (digs X).length ≤ 24) : fitRA n X Y = zeroRA := if_neg fun h => h1 h.1
theorem fitRA_no2 {n : Bool} {X Y : Nat} (h1 : ¬ (digs Y).length ≤ 24) : fitRA n X Y = zeroRA := if_neg fun h => h1 h.2
theorem mkRA_fitRA (n : Bool) {N D : Nat} (h : D ≠ 0) : mkRA n N D = fitRA n (N / Nat.gcd N D) (D / Nat.gcd N D) := by unfold mkRA fitRA; rw [if_neg h]
theorem digs_one_lit : digs 1 = [1] := by
  have e : val [1] = 1 := by simp [val]
  rw [← e]; exact ok_digs (by decide)
end Go.Proofs.YtehhpkeabckdaaaGreatDoor
