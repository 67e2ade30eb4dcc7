/- Quotients: the walks of the reference. -/
import Derived.Test.YtehhpkeabckdaaaGreatDoorDivW

namespace Go.Proofs.YtehhpkeabckdaaaGreatDoor
set_option linter.unusedVariables false
set_option linter.unusedSimpArgs false
open Go.RowKit

set_option maxHeartbeats 2000000 in
theorem l02Small_any (a : Option Addr) (ca : Nat) (xs : List Int) (d : Int) (w : World) (ha : IntsAt w a ca xs) (hn : xs.length ≤ 1048576) (hx : Rng xs) (hd0 : 0 < d) (hd1 : d ≤ 999999999) :
    Calls Tryz.prog 117 #[.slice a xs.length ca, .int .i64 d] w fun e w' => ∃ v q, e = .returned (.tuple #[v, .int .i64 q]) ∧ 0 ≤ q ∧ q < d ∧ q.toNat = val xs % d.toNat ∧ Own 3 w' w.heap.size v (digs (val xs / d.toNat)) ∧ Below w.heap.size w w' := by
  have HA := Lib.hid ha
  have HX := Lib.hid hx
  clear ha hx
  have hmk := run_make_ints xs.length (by omega)
  have hdz : (d == 0) = false := beq_eq_false_iff_ne.2 (by omega)
  go_enter Tryz.func117, Tryz.ntmps117
  go_wp2
  go_loopw [7, 8] (fun r i wr => ∃ (os : List Int) (q : Int) (k : Nat), i = .int .i64 ((k : Int) - 1) ∧ r = .int .i64 q ∧ 0 ≤ q ∧ q < d ∧ k ≤ xs.length ∧ os.length = xs.length ∧ RowAt wr w.heap.size os ∧ Below w.heap.size w wr ∧ Rng os ∧ q.toNat = val (xs.drop k) % d.toNat ∧ val (os.drop k) = val (xs.drop k) / d.toNat) (fun _ i _ => (intOf i + 1).toNat)
  case atStart => exact ⟨List.replicate xs.length 0, 0, xs.length, rfl, rfl, by omega, by omega, by omega, by simp, RowAt.made w _ (by omega), (Below.refl _ _).alloc (Nat.le_refl _) _, fun x hx => by rw [(List.mem_replicate.1 hx).2]; omega, by simp [val], by simp [val]⟩
  case round =>
    obtain ⟨os, q, k, rfl, rfl, hq0, hq1, hk, hlen, hown, hbl, hrng, hqv, hval⟩ := hrel
    have HL := Lib.hid hlen
    have HO := Lib.hid hown
    have HBL := Lib.hid hbl
    have HR := Lib.hid hrng
    have HQ := Lib.hid hqv
    have HV := Lib.hid hval
    clear hlen hown hbl hrng hqv hval
    cases k with
    | zero =>
      have HT := Lib.hid (l02Trim_any (some ⟨w.heap.size, 0, none⟩) os.length os wr HO.out.ints (by have := HL.out; omega) HR.out)
      have HF : Hid (∀ j, j ≤ os.length → os.take j = digs (val os) → j = (digs (val xs / d.toNat)).length ∧ Own 3 wr w.heap.size (.slice (some ⟨w.heap.size, 0, none⟩) j xs.length) (digs (val xs / d.toNat))) := by
        intro j hj ht
        have h3 := HV.out
        rw [List.drop_zero, List.drop_zero] at h3
        rw [h3] at ht
        have h4 := own_take HO.out hj
        rw [HL.out, ht] at h4
        have h5 : (os.take j).length = j := by simp; omega
        rw [ht] at h5
        rw [h5] at h4
        exact ⟨h5.symm, h4⟩
      have HQ2 : Hid (q.toNat = val xs % d.toNat) := by have := HQ.out; rw [List.drop_zero] at this; exact this
      go_wp2_with fail
      have hcall := HT.out
      rw [HL.out] at hcall
      refine hcall.mono ?_
      rintro e w' ⟨⟨j, hj, rfl, ht⟩, rfl⟩
      have HG := Lib.hid (HF.out j (by have := HL.out; omega) ht)
      clear hcall ht
      go_wp2
      go_ret2
      exact ⟨_, q, rfl, hq0, hq1, HQ2.out, HG.out.2, HBL.out⟩
    | succ k =>
      have hk2 : k < xs.length := by omega
      have hk3 : k < os.length := by have := HL.out; omega
      obtain ⟨b1, off1, rfl, hc1⟩ := (HA.out.below HBL.out).get hk2
      have hc3 := HO.out.cell hk3
      have hf3 := HO.out.frozen k
      have r1 := HX.out.at hk2
      have r2 := small_fits hq0 hq1 r1.1 r1.2
      have S := Lib.hid (small_rel (V := val (xs.drop (k + 1))) hq0 hq1 r1.1 HQ.out)
      have D1 := Lib.hid (val_drop hk2)
      have ek : ((k + 1 : Nat) : Int) - 1 = (k : Int) := by omega
      rw [ek]
      clear ek
      go_wp2
      go_roundw
      case rel =>
        refine ⟨os.set k ((q * 1000000000 + xs[k]) / d), (q * 1000000000 + xs[k]) % d, k, rfl, rfl, r2.2.2.1, r2.2.2.2, by omega, by rw [List.length_set]; exact HL.out, HO.out.set k (by unfold In64; omega), HBL.out.setCell (Nat.le_refl _) _, rng_set HR.out _ r2.1 r2.2.1, ?_, ?_⟩
        · rw [S.out.2, D1.out]
        · rw [drop_set_at hk3, val, HV.out, D1.out, S.out.1]
      case measure => simp [intOf] <;> omega


theorem RowAt.belowB {w w' : World} {B n : Nat} {os : List Int} (h : RowAt w B os) (b : Below n w w') (hB : B < n) : RowAt w' B os := by
  refine ⟨h.1, h.2.1, ?_⟩
  rcases h.2.2 with hn | ⟨g, cap, cur, hv, hbg, hg, rest⟩
  · exact .inl hn
  · refine .inr ⟨g, cap, cur, hv, hbg, ?_, rest⟩
    have hg2 : g = B := by simp only [Value.slice.injEq, Option.some.injEq, Addr.mk.injEq] at hv; exact hv.1.1.symm
    rw [b.block g (by omega)]; exact hg
theorem Own.store {w : World} {lo : Nat} {v u : Value} {xs : List Int} {p : Addr} (h : Own 3 w lo v xs) (hp : p.block < lo) : Own 3 (w.setCell p u) lo v xs := ⟨h.1, ownsRow_setCell_below h.2 hp u⟩
theorem own_one (w : World) {n : Int} (hn : In64 n) : Own 3 (w.alloc (.cells #[.int .i64 n] 3)) w.heap.size (.slice (some ⟨w.heap.size, 0, none⟩) 1 1) [n] :=
  ⟨fun x hx => by simp at hx; rw [hx]; exact hn, World.ownsRow_lit (base := w.heap.size) (size := 1) (e := 3) w #[.int .i64 n] 1 (Nat.le_refl _) (by unfold maxLen; omega) rfl⟩
/-- append(s, t...) of ints -/
theorem append_ints {ops : Array Oper} {rest : List Oper} {o : Oper} {a : Act} {Q : Exit → Act → World → Prop} {w : World} {base : Nat} {v : Value} {xs ys : List Int} {ad : Option Addr} {c : Nat}
    (hown : Own 3 w base v xs) (hy : IntsAt w ad c ys) (hl : xs.length + ys.length ≤ 16777216) (hb : base ≤ w.heap.size) (hgd : o.guard = none) (s x : Operand)
    (ho : o.op = .call { callee := .builtin .append, args := #[s, x], argTypes := #[23, 23] })
    (hs : a.eval s = v) (hx : a.eval x = .slice ad ys.length c)
    (h : ∀ v' w', Own 3 w' base v' (xs ++ ys) → Below base w w' → wpList Tryz.prog ops Q rest (a.put o.dst v') w') :
    wpList Tryz.prog ops Q (o :: rest) a w := by
  cases ad with
  | none =>
    have h0 := hy.nil0 rfl
    have hy0 : ys = [] := by
      rcases hy.at_ with h | ⟨_, _, h, _⟩
      · exact h
      · cases h
    subst h0 hy0
    exact append_none hown hgd s x ho hs hx (h v w (by simpa using hown) (Below.refl _ _))
  | some ad => exact append_src hown hy hl hb hgd s x ho hs hx fun v' w' h1 h2 _ => h v' w' h1 h2

set_option maxHeartbeats 2000000 in
theorem l02Digit_any (a : Option Addr) (ca : Nat) (rs : List Int) (b : Option Addr) (cb : Nat) (ys : List Int) (w : World) (ha : IntsAt w a ca rs) (hb : IntsAt w b cb ys) (hn : rs.length ≤ 500000) (hm : ys.length ≤ 500000) (hr : digs (val rs) = rs) (hy : digs (val ys) = ys) (h0 : 0 < val ys) (hlt : val rs < val ys * 1000000000) :
    Calls Tryz.prog 119 #[.slice a rs.length ca, .slice b ys.length cb] w fun e w' => ∃ q : Int, e = .returned (.int .i64 q) ∧ 0 ≤ q ∧ q ≤ 999999999 ∧ q.toNat = val rs / val ys ∧ Below w.heap.size w w' := by
  have HA := Lib.hid ha
  have HB := Lib.hid hb
  have HR := Lib.hid hr
  have HY := Lib.hid hy
  have RY := Lib.hid (rng_of hy)
  have HLT := Lib.hid hlt
  clear ha hb hr hy hlt
  go_enter Tryz.func119, Tryz.ntmps119
  go_wp2
  go_loopw [5, 6] (fun x y wr => ∃ lo hi : Int, x = .int .i64 lo ∧ y = .int .i64 hi ∧ 0 ≤ lo ∧ lo ≤ hi ∧ hi ≤ 999999999 ∧ lo.toNat * val ys ≤ val rs ∧ val rs < (hi.toNat + 1) * val ys ∧ Below w.heap.size w wr) (fun x y _ => (intOf y - intOf x).toNat)
  case atStart => exact ⟨0, 999999999, rfl, rfl, by omega, by omega, by omega, by simp, by have := HLT.out; rw [Nat.mul_comm] at this; exact this, Below.refl _ _⟩
  case round =>
    obtain ⟨lo, hi, rfl, rfl, hlo, hlh, hhi, hl1, hl2, hbl⟩ := hrel
    have H1 := Lib.hid hl1
    have H2 := Lib.hid hl2
    have B0 := Lib.hid hbl
    clear hl1 hl2 hbl
    by_cases hlt : lo < hi
    · have hq0 : 0 ≤ (lo + hi + 1) / 2 := by omega
      have hq1 : (lo + hi + 1) / 2 ≤ 999999999 := by omega
      have hq2 : lo < (lo + hi + 1) / 2 := by omega
      have hq3 : (lo + hi + 1) / 2 ≤ hi := by omega
      go_wp2_with fail
      refine (own_out (specNatOf_own ((lo + hi + 1) / 2) _ (by omega))).mono ?_
      rintro e w1 ⟨p, c, rfl, ho, b1⟩
      have O1 := Lib.hid ho
      have B1 := Lib.hid (bstep B0.out b1)
      have hd3 : Hid ((digs ((lo + hi + 1) / 2).toNat).length ≤ 500000) := by
        have : (digs ((lo + hi + 1) / 2).toNat).length ≤ 1 := digs_len_le (by unfold pw; omega)
        unfold Hid; omega
      clear ho b1
      go_wp2_with fail
      refine (own_out (l02Mul_own b cb ys p c (digs ((lo + hi + 1) / 2).toNat) _ (HB.out.below B1.out) O1.out.ints hm hd3.out RY.out (digs_rng _))).mono ?_
      rintro e w2 ⟨p2, c2, rfl, ho, b2⟩
      have O2 := Lib.hid ho
      have B2 := Lib.hid (bstep B1.out b2)
      clear ho b2
      have hcmp : Hid (cmpL (digs (val ys * val (digs ((lo + hi + 1) / 2).toNat))) rs = cmpN (val ys * ((lo + hi + 1) / 2).toNat) (val rs)) := by
        have := cmpL_digs (val ys * ((lo + hi + 1) / 2).toNat) (val rs)
        rw [HR.out] at this
        unfold Hid
        rw [val_digs]; exact this
      have hl4 : Hid ((digs (val ys * val (digs ((lo + hi + 1) / 2).toNat))).length ≤ 1048576) := by
        have a1 := val_lt RY.out
        have a2 := pw_mono hm
        rw [val_digs]
        have : (digs (val ys * ((lo + hi + 1) / 2).toNat)).length ≤ 500000 + 1 := digs_len_le (by
          rw [pw_add]
          have h5 : ((lo + hi + 1) / 2).toNat < pw 1 := by unfold pw; omega
          exact Nat.mul_lt_mul'' (by omega) h5)
        unfold Hid; omega
      by_cases hc : val ys * ((lo + hi + 1) / 2).toNat ≤ val rs
      · have hc1 : cmpL (digs (val ys * val (digs ((lo + hi + 1) / 2).toNat))) rs ≤ 0 := by rw [hcmp.out, cmpN]; split; omega; rw [if_neg (by omega)]; omega
        have HC := Lib.hid hc
        clear hc
        go_wp2_with fail
        refine (l02Cmp_any p2 c2 _ a ca rs _ O2.out.ints (HA.out.below B2.out) hl4.out (by omega)).mono ?_
        rintro e w3 ⟨rfl, b3⟩
        have B3 := Lib.hid (bstep B2.out b3)
        clear b3
        go_wp2
        go_roundw
        case rel => exact ⟨_, hi, rfl, rfl, by omega, by omega, hhi, by have := HC.out; rw [Nat.mul_comm] at this; exact this, H2.out, B3.out⟩
        case measure => simp [intOf] <;> omega
      · have hc1 : 0 < cmpL (digs (val ys * val (digs ((lo + hi + 1) / 2).toNat))) rs := by rw [hcmp.out, cmpN, if_neg (by omega), if_pos (by omega)]; omega
        have HC : Hid (val rs < val ys * ((lo + hi + 1) / 2).toNat) := by unfold Hid; omega
        clear hc
        go_wp2_with fail
        refine (l02Cmp_any p2 c2 _ a ca rs _ O2.out.ints (HA.out.below B2.out) hl4.out (by omega)).mono ?_
        rintro e w3 ⟨rfl, b3⟩
        have B3 := Lib.hid (bstep B2.out b3)
        clear b3
        go_wp2
        go_roundw
        case rel => exact ⟨lo, _, rfl, rfl, hlo, by omega, by omega, H1.out, by have := HC.out; rw [Nat.mul_comm] at this; rw [show ((lo + hi + 1) / 2 - 1).toNat + 1 = ((lo + hi + 1) / 2).toNat by omega]; exact this, B3.out⟩
        case measure => simp [intOf] <;> omega
    · have he : Hid (hi = lo) := by unfold Hid; omega
      go_wp2
      go_ret
      exact ⟨lo, rfl, hlo, by omega, by have h2 := H2.out; rw [he.out] at h2; exact (Nat.div_eq_of_lt_le H1.out h2).symm, B0.out⟩

set_option maxHeartbeats 2000000 in
theorem l02Div_one (a : Option Addr) (ca : Nat) (xs : List Int) (b : Option Addr) (cb : Nat) (ys : List Int) (w : World) (ha : IntsAt w a ca xs) (hb : IntsAt w b cb ys) (hn : xs.length ≤ 500000) (hx : Rng xs) (hy : Rng ys) (h1 : ys.length = 1) (h0 : 0 < val ys) :
    Calls Tryz.prog 104 #[.slice a xs.length ca, .slice b ys.length cb] w fun e w' => ∃ p c p2 c2, e = .returned (.tuple #[.slice p (digs (val xs / val ys)).length c, .slice p2 (digs (val xs % val ys)).length c2]) ∧ Two w' w.heap.size w'.heap.size (.slice p (digs (val xs / val ys)).length c) (.slice p2 (digs (val xs % val ys)).length c2) (digs (val xs / val ys)) (digs (val xs % val ys)) ∧ Below w.heap.size w w' := by
  have HA := Lib.hid ha
  have HX := Lib.hid hx
  have hl2 : 0 < ys.length := by omega
  have r1 := hy.at (k := 0) hl2
  have hv : val ys = (ys[0]'hl2).toNat := val_one h1
  have hd0 : 0 < ys[0]'hl2 := by omega
  obtain ⟨b1, off1, rfl, hc1⟩ := hb.get (k := 0) hl2
  simp only [Nat.add_zero] at hc1
  have hl : ((ys.length : Int) == 1) = true := by simp [h1]
  have HV := Lib.hid hv
  clear ha hx hy h1 hv hb
  go_enter Tryz.func104, Tryz.ntmps104
  go_wp2_with fail
  refine (l02Small_any a ca xs (ys[0]'hl2) _ HA.out (by omega) HX.out hd0 r1.2).mono ?_
  rintro e w1 ⟨v, q, rfl, hq0, hq1, hq, ho, bb1⟩
  obtain ⟨p, c, rfl, hoi⟩ := ho.out
  have O1 := Lib.hid hoi
  have B1 := Lib.hid bb1
  have HQ := Lib.hid hq
  clear ho hoi bb1 hq
  go_wp2_with fail
  refine (own_out (specNatOf_own q _ (by omega))).mono ?_
  rintro e w2 ⟨p2, c2, rfl, ho, bb2⟩
  have O2 := Lib.hid ho
  have B2 := Lib.hid bb2
  clear ho bb2
  go_wp2
  go_ret2
  have e1 := HQ.out
  rw [HV.out]
  rw [← HQ.out]
  exact ⟨p, c, p2, c2, rfl, ⟨w1.heap.size, B1.out.size, B2.out.size, O1.out.below B2.out, O2.out⟩, bstep B1.out B2.out⟩

set_option maxHeartbeats 4000000 in
theorem l02Div_long (a : Option Addr) (ca : Nat) (xs : List Int) (b : Option Addr) (cb : Nat) (ys : List Int) (w : World) (ha : IntsAt w a ca xs) (hb : IntsAt w b cb ys) (hn : xs.length ≤ 400000) (hm : ys.length ≤ 400000) (hx : Rng xs) (hy : digs (val ys) = ys) (h1 : ys.length ≠ 1) (h0 : 0 < val ys) :
    Calls Tryz.prog 104 #[.slice a xs.length ca, .slice b ys.length cb] w fun e w' => ∃ p c p2 c2, e = .returned (.tuple #[.slice p (digs (val xs / val ys)).length c, .slice p2 (digs (val xs % val ys)).length c2]) ∧ Two w' w.heap.size w'.heap.size (.slice p (digs (val xs / val ys)).length c) (.slice p2 (digs (val xs % val ys)).length c2) (digs (val xs / val ys)) (digs (val xs % val ys)) ∧ Below w.heap.size w w' := by
  have HA := Lib.hid ha
  have HB := Lib.hid hb
  have HX := Lib.hid hx
  have HY := Lib.hid hy
  have RY := Lib.hid (rng_of hy)
  have hl : ((ys.length : Int) == 1) = false := beq_eq_false_iff_ne.2 (by omega)
  clear ha hb hx hy h1
  have hmk := run_make_ints xs.length (by omega)
  have LR : Hid (∀ R, R < val ys → (digs R).length ≤ 400000) := by
    intro R hR
    have a1 := val_lt RY.out
    have a2 := pw_mono hm
    exact digs_len_le (by omega)
  go_enter Tryz.func104, Tryz.ntmps104
  go_wp2
  go_loopw [9, 10] (fun v i wr => ∃ (os : List Int) (R k : Nat), i = .int .i64 ((k : Int) - 1) ∧ Own 3 wr (w.heap.size + 1) v (digs R) ∧ R < val ys ∧ k ≤ xs.length ∧ os.length = xs.length ∧ RowAt wr w.heap.size os ∧ Below w.heap.size w wr ∧ Rng os ∧ (∀ j (h : j < os.length), j < k → os[j] = 0) ∧ val (xs.drop k) = val ys * val (os.drop k) + R) (fun _ i _ => (intOf i + 1).toNat)
  case atStart =>
    refine ⟨List.replicate xs.length 0, 0, xs.length, rfl, ?_, h0, by omega, by simp, (RowAt.made w _ (by omega)).below (ba1 _ _), ba2 _ _ _, fun x hx => by rw [(List.mem_replicate.1 hx).2]; omega, fun j h _ => by simp, by simp [val]⟩
    rw [digs_zero]
    exact own_emptyB _ (by simp)
  case round =>
    obtain ⟨os, R, k, rfl, hrest, hR, hk, hlen, hown, hbl, hrng, hzero, hval⟩ := hrel
    have HS := Lib.hid hrest
    have HLR := Lib.hid hR
    have HL := Lib.hid hlen
    have HO := Lib.hid hown
    have HBL := Lib.hid hbl
    have HR := Lib.hid hrng
    have HZ := Lib.hid hzero
    have HV := Lib.hid hval
    clear hrest hR hlen hown hbl hrng hzero hval
    cases k with
    | zero =>
      have HT := Lib.hid (l02Trim_any (some ⟨w.heap.size, 0, none⟩) os.length os wr HO.out.ints (by have := HL.out; omega) HR.out)
      have HQ : Hid (val os = val xs / val ys ∧ R = val xs % val ys) := by
        have h3 := HV.out
        rw [List.drop_zero, List.drop_zero] at h3
        have h4 := HLR.out
        unfold Hid
        rw [h3, Nat.mul_add_div h0, Nat.mul_add_mod, Nat.mod_eq_of_lt h4, Nat.div_eq_of_lt h4]
        simp
      have HF : Hid (∀ j, j ≤ os.length → os.take j = digs (val os) → j = (digs (val xs / val ys)).length ∧ Own 3 wr w.heap.size (.slice (some ⟨w.heap.size, 0, none⟩) j xs.length) (digs (val xs / val ys))) := by
        intro j hj ht
        rw [HQ.out.1] at ht
        have h4 := own_take HO.out hj
        rw [HL.out, ht] at h4
        have h5 : (os.take j).length = j := by simp; omega
        rw [ht] at h5
        rw [h5] at h4
        exact ⟨h5.symm, h4⟩
      obtain ⟨p2, c2, rfl, hoi⟩ := HS.out.out
      have O2 := Lib.hid hoi
      clear hoi
      go_wp2_with fail
      have hcall := HT.out
      rw [HL.out] at hcall
      refine hcall.mono ?_
      rintro e w' ⟨⟨j, hj, rfl, ht⟩, rfl⟩
      have HG := Lib.hid (HF.out j (by have := HL.out; omega) ht)
      clear hcall ht
      go_wp2
      go_ret2
      have hj2 := HG.out.1
      have hg2 := HG.out.2
      subst hj2
      rw [← HQ.out.2]
      exact ⟨_, _, p2, c2, rfl, ⟨w.heap.size + 1, by omega, (by have := HO.out.lt; omega), ⟨hg2, fun q hq => by (simp [Value.ownBlock] at hq; omega)⟩, O2.out⟩, HBL.out⟩
    | succ k =>
      have hk2 : k < xs.length := by omega
      have hk3 : k < os.length := by have := HL.out; omega
      obtain ⟨b1, off1, rfl, hc1⟩ := (HA.out.below HBL.out).get hk2
      have r1 := HX.out.at hk2
      have hc3 := HO.out.cell hk3
      have hf3 := HO.out.frozen k
      have D1 := Lib.hid (val_drop hk2)
      have D2 := Lib.hid (val_drop hk3)
      have Z1 := Lib.hid (HZ.out k hk3 (by omega))
      have Z2 : Hid (∀ (ps : List Int), ps = os ∨ (∃ d, ps = os.set k d) → ∀ j (h : j < ps.length), j < k → ps[j] = 0) := by
        rintro ps (rfl | ⟨d, rfl⟩) j h hj
        · exact HZ.out j h (by omega)
        · rw [List.getElem_set_ne (by omega)]; exact HZ.out j (by simpa using h) (by omega)
      obtain ⟨pr, cr, rfl, hri⟩ := HS.out.form
      have RI := Lib.hid hri
      clear hri
      have hRl := LR.out R HLR.out
      have ek : ((k + 1 : Nat) : Int) - 1 = (k : Int) := by omega
      rw [ek]
      clear ek
      have RN : Hid (Rng ([xs[k]] ++ digs R)) := Rng.cons r1 (digs_rng R)
      have VN : Hid (val ([xs[k]] ++ digs R) = xs[k].toNat + 1000000000 * R) := by unfold Hid; simp only [List.singleton_append, val, val_digs]
      have hlt2 : Hid (xs[k].toNat + 1000000000 * R < val ys * 1000000000) := by have := HLR.out; unfold Hid; omega
      go_wp2_with (at_builtin; go_must (refine append_ints (own_one _ (n := xs[k]) (by unfold In64; omega)) (RI.out.below (ba1 _ _)) (by simp; omega) (by simp) rfl _ _ rfl rfl rfl ?_); intro v' w1 hown1 hb1)
      obtain ⟨p1, c1, rfl, hi1⟩ := hown1.form
      have O1 := Lib.hid hown1
      have I1 := Lib.hid hi1
      have BB1 : Hid (Below wr.heap.size wr w1) := (ba1 wr _).trans hb1
      clear hown1 hi1 hb1
      refine (l02Trim_any p1 c1 _ _ I1.out (by simp; omega) RN.out).mono ?_
      rintro e w' ⟨⟨j, hj, rfl, ht⟩, rfl⟩
      have HG : Hid (j = (digs (xs[k].toNat + 1000000000 * R)).length ∧ Own 3 w1 wr.heap.size (.slice p1 j c1) (digs (xs[k].toNat + 1000000000 * R))) := by
        have h4 := own_take O1.out hj
        have h5 : (([xs[k]] ++ digs R).take j).length = j := by rw [List.length_take]; omega
        rw [h5, ht, VN.out] at h4
        rw [ht, VN.out] at h5
        exact ⟨h5.symm, h4⟩
      have hj2 := HG.out.1
      subst hj2
      have G2 := Lib.hid HG.out.2
      have B1 := Lib.hid (bstep HBL.out BB1.out)
      have HO1 := Lib.hid (HO.out.below BB1.out)
      have hws : w.heap.size + 1 ≤ wr.heap.size := HO.out.lt
      clear ht hj
      by_cases hc : xs[k].toNat + 1000000000 * R < val ys
      · have hc1 : cmpL (digs (xs[k].toNat + 1000000000 * R)) ys < 0 := by
          have := cmpL_digs (xs[k].toNat + 1000000000 * R) (val ys)
          rw [HY.out, cmpN, if_pos hc] at this
          omega
        have HC := Lib.hid hc
        have hl5 : Hid ((digs (xs[k].toNat + 1000000000 * R)).length ≤ 1048576) := by have := LR.out _ hc; unfold Hid; omega
        clear hc
        go_wp2_with fail
        refine (l02Cmp_any p1 c1 _ b cb ys _ G2.out.ints (HB.out.below B1.out) hl5.out (by omega)).mono ?_
        rintro e w2 ⟨rfl, b2⟩
        have B2 := Lib.hid (bstep B1.out b2)
        have G3 := Lib.hid (G2.out.below b2)
        have HO2 := Lib.hid (HO1.out.below b2)
        clear b2
        go_wp2
        go_roundw
        case rel =>
          refine ⟨os, xs[k].toNat + 1000000000 * R, k, rfl, G3.out.rebase hws, HC.out, by omega, HL.out, HO2.out, B2.out, HR.out, Z2.out os (.inl rfl), ?_⟩
          rw [D1.out, HV.out, D2.out, Z1.out, Int.toNat_zero, Nat.zero_add, Nat.mul_add, show val ys * (1000000000 * val (os.drop (k + 1))) = 1000000000 * (val ys * val (os.drop (k + 1))) by ac_rfl]
          omega
        case measure => simp [intOf] <;> omega
      · have hc1 : 0 ≤ cmpL (digs (xs[k].toNat + 1000000000 * R)) ys := by
          have := cmpL_digs (xs[k].toNat + 1000000000 * R) (val ys)
          rw [HY.out, cmpN, if_neg hc] at this
          rw [this]; split <;> omega
        have hc2 : ¬ cmpL (digs (xs[k].toNat + 1000000000 * R)) ys < 0 := by omega
        have HC : Hid (val ys ≤ xs[k].toNat + 1000000000 * R) := by unfold Hid; omega
        have hl5 : Hid ((digs (xs[k].toNat + 1000000000 * R)).length ≤ 400001) := by
          have a1 := val_lt RY.out
          have a2 := pw_mono hm
          have a3 := hlt2.out
          exact digs_len_le (by rw [pw_succ]; omega)
        clear hc
        go_wp2_with fail
        refine (l02Cmp_any p1 c1 _ b cb ys _ G2.out.ints (HB.out.below B1.out) (by have := hl5.out; omega) (by omega)).mono ?_
        rintro e w2 ⟨rfl, b2⟩
        have B2 := Lib.hid (bstep B1.out b2)
        have G3 := Lib.hid (G2.out.below b2)
        have HO2 := Lib.hid (HO1.out.below b2)
        have hs2 := Nat.le_trans BB1.out.size b2.size
        clear b2
        have hdv : Hid (digs (val (digs (xs[k].toNat + 1000000000 * R))) = digs (xs[k].toNat + 1000000000 * R)) := by rw [Hid, val_digs]
        go_wp2_with fail
        refine (l02Digit_any p1 c1 _ b cb ys _ G3.out.ints (HB.out.below B2.out) (by have := hl5.out; omega) (by omega) hdv.out HY.out h0 (by rw [val_digs]; exact hlt2.out)).mono ?_
        rintro e w3 ⟨q, rfl, hq0, hq1, hq, b3⟩
        rw [val_digs] at hq
        have HQ := Lib.hid hq
        have B3 := Lib.hid (bstep B2.out b3)
        have G4 := Lib.hid (G3.out.below b3)
        have HO3 := Lib.hid (HO2.out.below b3)
        have hs3 := b3.size
        clear b3 hq
        have hc4 := HO3.out.cell hk3
        have hf4 := HO3.out.frozen k
        go_wp2_with fail
        refine (own_out (specNatOf_own q _ (by omega))).mono ?_
        rintro e w4 ⟨p4, c4, rfl, ho4, b4⟩
        have O4 := Lib.hid ho4
        have G5 := Lib.hid (Own.below (Own.store (p := ⟨w.heap.size, k, none⟩) G4.out (show w.heap.size < wr.heap.size by omega)) b4)
        have HO4 := Lib.hid (RowAt.below (HO3.out.set k (d := q) (by unfold In64; omega)) b4)
        have B4 := Lib.hid (bstep (B3.out.setCell (p := ⟨w.heap.size, k, none⟩) (Nat.le_refl _) _) b4)
        have hd1 : Hid ((digs q.toNat).length ≤ 500000) := by
          have : (digs q.toNat).length ≤ 1 := digs_len_le (by unfold pw; omega)
          unfold Hid; omega
        have hs4 := b4.size
        simp at hs4
        clear ho4 b4
        go_wp2_with fail
        refine (own_out (l02Mul_own b cb ys p4 c4 (digs q.toNat) _ (HB.out.below B4.out) O4.out.ints (by omega) hd1.out RY.out (digs_rng _))).mono ?_
        rintro e w5 ⟨p5, c5, rfl, ho5, b5⟩
        have O5 := Lib.hid ho5
        have G6 := Lib.hid (G5.out.below b5)
        have HO5 := Lib.hid (HO4.out.below b5)
        have B5 := Lib.hid (bstep B4.out b5)
        have hs5 := b5.size
        clear ho5 b5
        have EV : Hid (val (digs (val ys * val (digs q.toNat))) = val ys * q.toNat) := by rw [Hid, val_digs, val_digs]
        have hle : val (digs (val ys * val (digs q.toNat))) ≤ val (digs (xs[k].toNat + 1000000000 * R)) := by rw [EV.out, val_digs, HQ.out]; exact Nat.mul_div_le _ _
        have hlm : (digs (val ys * val (digs q.toNat))).length ≤ (digs (xs[k].toNat + 1000000000 * R)).length := by
          have a1 := digs_lt_pw (n := xs[k].toNat + 1000000000 * R) (Nat.le_refl _)
          rw [EV.out, val_digs] at hle
          rw [val_digs]
          exact digs_len_le (by omega)
        have HLE2 := Lib.hid hle
        have HLM := Lib.hid hlm
        clear hle hlm
        go_wp2_with fail
        refine (l02Sub_any p1 c1 (digs (xs[k].toNat + 1000000000 * R)) p5 c5 (digs (val ys * val (digs q.toNat))) _ G6.out.ints O5.out.ints (by have := hl5.out; omega) HLM.out (digs_rng _) (digs_rng _) HLE2.out).mono ?_
        rintro e w6 ⟨v6, rfl, ho6, b6⟩
        have hmod : xs[k].toNat + 1000000000 * R - val ys * q.toNat = (xs[k].toNat + 1000000000 * R) % val ys := by
          have h := Nat.div_add_mod (xs[k].toNat + 1000000000 * R) (val ys)
          rw [HQ.out]
          generalize val ys * ((xs[k].toNat + 1000000000 * R) / val ys) = u at h ⊢
          omega
        rw [EV.out, val_digs, hmod] at ho6
        have O6 := Lib.hid ho6
        have HO6 := Lib.hid (HO5.out.below b6)
        have B6 := Lib.hid (bstep B5.out b6)
        clear ho6 b6 hmod
        go_wp2
        go_roundw
        case rel =>
          refine ⟨os.set k q, (xs[k].toNat + 1000000000 * R) % val ys, k, rfl, O6.out.rebase (by omega), Nat.mod_lt _ h0, by omega, by rw [List.length_set]; exact HL.out, HO6.out, B6.out, rng_set HR.out _ hq0 hq1, Z2.out _ (.inr ⟨q, rfl⟩), ?_⟩
          rw [D1.out, HV.out, drop_set_at hk3, val, Nat.mul_add (val ys) q.toNat, show val ys * (1000000000 * val (os.drop (k + 1))) = 1000000000 * (val ys * val (os.drop (k + 1))) by ac_rfl]
          have h := Nat.div_add_mod (xs[k].toNat + 1000000000 * R) (val ys)
          rw [← HQ.out] at h
          generalize val ys * val (os.drop (k + 1)) = u
          generalize (xs[k].toNat + 1000000000 * R) % val ys = r2 at *
          generalize val ys * q.toNat = u2 at *
          omega
        case measure => simp [intOf] <;> omega

theorem l02Div_any (a : Option Addr) (ca : Nat) (xs : List Int) (b : Option Addr) (cb : Nat) (ys : List Int) (w : World) (ha : IntsAt w a ca xs) (hb : IntsAt w b cb ys) (hn : xs.length ≤ 400000) (hm : ys.length ≤ 400000) (hx : digs (val xs) = xs) (hy : digs (val ys) = ys) (h0 : 0 < val ys) :
    Calls Tryz.prog 104 #[.slice a xs.length ca, .slice b ys.length cb] w fun e w' => ∃ p c p2 c2, e = .returned (.tuple #[.slice p (digs (val xs / val ys)).length c, .slice p2 (digs (val xs % val ys)).length c2]) ∧ Two w' w.heap.size w'.heap.size (.slice p (digs (val xs / val ys)).length c) (.slice p2 (digs (val xs % val ys)).length c2) (digs (val xs / val ys)) (digs (val xs % val ys)) ∧ Below w.heap.size w w' := by
  by_cases h1 : ys.length = 1
  · exact l02Div_one a ca xs b cb ys w ha hb (by omega) (rng_of hx) (rng_of hy) h1 h0
  · exact l02Div_long a ca xs b cb ys w ha hb hn hm (rng_of hx) hy h1 h0
end Go.Proofs.YtehhpkeabckdaaaGreatDoor
