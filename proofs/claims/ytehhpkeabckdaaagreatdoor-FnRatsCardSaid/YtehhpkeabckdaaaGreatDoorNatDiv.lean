/- The quotient and the remainder of naturals: the program's long division. -/
import Derived.Test.YtehhpkeabckdaaaGreatDoorDivW
import Derived.Deep.DeepCutAuto
import Derived.Deep.CutBlock
namespace Go.Proofs.YtehhpkeabckdaaaGreatDoor
set_option linter.unusedVariables false
set_option linter.unusedSimpArgs false
open Go.RowKit

theorem u64_wrap {q : Int} (h0 : 0 ≤ q) (h1 : q ≤ 9223372036854775807) : IntKind.u64.wrap q = q := by simp [IntKind.wrap, IntKind.bits, IntKind.signed]; omega

/-- what the subtraction says, its borrow 0 or 1 (over a variable: the kernel must not reckon a power) -/
theorem sub_f0 {A B C P : Nat} (h : A + B = C + P * (0 : Int).toNat) : A + B = C := by simpa using h
theorem sub_f1 {A B C P : Nat} (h : A + B = C + P * (1 : Int).toNat) : A + B = C + P := by simpa using h
section
variable (a : Option Addr) (ca : Nat) (xs : List Int) (b : Option Addr) (cb : Nat) (ys : List Int) (w : World) (ha : IntsAt w a ca xs) (hb : IntsAt w b cb ys) (hn : xs.length ≤ 500000) (hm : ys.length ≤ 500000) (hx : digs (val xs) = xs) (hy : digs (val ys) = ys) (h0 : 0 < val ys)
include ha hb hn hm hx hy h0
omit h0 in
set_option maxRecDepth 100000 in
set_option maxHeartbeats 2000000 in
theorem natDiv_less (hlt : val xs < val ys) :
    Calls Tryz.prog 64 #[.slice a xs.length ca, .slice b ys.length cb] w fun e w' => ∃ p c p2 c2, e = .returned (.tuple #[.slice p (digs (val xs / val ys)).length c, .slice p2 (digs (val xs % val ys)).length c2]) ∧ Two w' w.heap.size w'.heap.size (.slice p (digs (val xs / val ys)).length c) (.slice p2 (digs (val xs % val ys)).length c2) (digs (val xs / val ys)) (digs (val xs % val ys)) ∧ Below w.heap.size w w' := by
  rw [Nat.div_eq_of_lt hlt, Nat.mod_eq_of_lt hlt, hx, digs_zero]
  have hc := cmp_neg hx hy hlt
  have HA := Lib.hid ha
  have HB := Lib.hid hb
  clear ha hb hx hy hlt
  go_enter Tryz.func64, Tryz.ntmps64
  go_wp2_with fail
  refine (natCmp_any a ca xs b cb ys _ HA.out HB.out (by omega) (by omega)).mono ?_
  rintro e w1 ⟨rfl, bb1⟩
  have B1 := Lib.hid bb1
  clear bb1
  go_wp2_with fail
  refine (own_out (clone_any a ca xs _ (HA.out.below (bstep B1.out (ba1 _ _))) (by omega))).mono ?_
  rintro e w2 ⟨p, c, rfl, ho, bb2⟩
  have O := Lib.hid ho
  have B2 := Lib.hid bb2
  have hs := bb2.size
  have hs1 := B1.out.size
  simp at hs
  clear ho bb2
  go_wp2
  go_ret2
  refine ⟨some ⟨w1.heap.size, 0, none⟩, 0, p, c, rfl, ⟨w1.heap.size + 1, by omega, by omega, ?_, ?_⟩, bstep (bstep B1.out (ba1 _ _)) B2.out⟩
  · exact ((own_empty w1).toI.below B2.out).mono hs1 (by simp)
  · exact O.out.mono (by simp) (Nat.le_refl _)

set_option maxRecDepth 100000 in
set_option maxHeartbeats 2000000 in
theorem natDiv_one (hle : val ys ≤ val xs) (h1 : ys.length = 1) :
    Calls Tryz.prog 64 #[.slice a xs.length ca, .slice b ys.length cb] w fun e w' => ∃ p c p2 c2, e = .returned (.tuple #[.slice p (digs (val xs / val ys)).length c, .slice p2 (digs (val xs % val ys)).length c2]) ∧ Two w' w.heap.size w'.heap.size (.slice p (digs (val xs / val ys)).length c) (.slice p2 (digs (val xs % val ys)).length c2) (digs (val xs / val ys)) (digs (val xs % val ys)) ∧ Below w.heap.size w w' := by
  have hl2 : 0 < ys.length := by omega
  have hv : val ys = (ys[0]'hl2).toNat := val_one h1
  rw [hv]
  have hc := cmp_ge hx hy hle
  have hc2 : ¬ cmpL xs ys < 0 := by omega
  have r1 := (rng_of hy).at (k := 0) hl2
  have hd0 : 0 < ys[0]'hl2 := by omega
  have hl : ((ys.length : Int) == 1) = true := by simp [h1]
  have HA := Lib.hid ha
  have HB := Lib.hid hb
  have HX := Lib.hid (rng_of hx)
  clear ha hb hx hy h1 hv hle
  go_enter Tryz.func64, Tryz.ntmps64
  go_wp2_with fail
  refine (natCmp_any a ca xs b cb ys _ HA.out HB.out (by omega) (by omega)).mono ?_
  rintro e w1 ⟨rfl, bb1⟩
  have B1 := Lib.hid bb1
  obtain ⟨b1, off1, rfl, hc1⟩ := (HB.out.below bb1).get hl2
  simp only [Nat.add_zero] at hc1
  clear bb1
  go_wp2_with fail
  refine (divSmall_any a ca xs (ys[0]'hl2) _ (HA.out.below B1.out) (by omega) HX.out hd0 r1.2).mono ?_
  rintro e w2 ⟨v, q, rfl, hq0, hq1, hq, ho, bb2⟩
  obtain ⟨p, c, rfl, hoi⟩ := ho.out
  have O1 := Lib.hid hoi
  have B2 := Lib.hid bb2
  have HQ := Lib.hid hq
  have HU := Lib.hid (u64_wrap hq0 (by omega))
  clear ho hoi bb2 hq
  go_wp2_with fail
  refine (own_out (natOf_any q _ hq0 (by omega))).mono ?_
  rintro e w3 ⟨p2, c2, rfl, ho, bb3⟩
  have O2 := Lib.hid ho
  have B3 := Lib.hid bb3
  have hs1 := B1.out.size
  have hs2 := B2.out.size
  have hs3 := B3.out.size
  clear ho bb3
  go_wp2
  go_ret2
  rw [← HQ.out]
  exact ⟨p, c, p2, c2, rfl, ⟨w2.heap.size, by omega, by omega, (O1.out.below B3.out).mono (by omega) (Nat.le_refl _), O2.out⟩, bstep (bstep B1.out B2.out) B3.out⟩
end

theorem digs_top {ys : List Int} (hy : digs (val ys) = ys) {k : Nat} (hk : k + 1 = ys.length) : 1 ≤ ys[k]'(by omega) := by
  have h1 := digs_last (val ys)
  rw [hy] at h1
  have h2 := (rng_of hy).at (k := k) (by omega)
  have h3 : ys.getLastD 1 = ys[k]'(by omega) := by
    have hne : ys ≠ [] := by rintro rfl; simp at hk
    rw [List.getLastD_eq_getLast?, List.getLast?_eq_some_getLast hne, Option.getD_some, List.getLast_eq_getElem]
    congr 1
    omega
  rw [h3] at h1
  omega
/-- the two digits at the top -/
theorem top_two {vs : List Int} {m : Nat} (h : vs.length = m + 2) : val vs = val (vs.take m) + pw m * ((vs[m]'(by omega)).toNat + 1000000000 * (vs[m + 1]'(by omega)).toNat) := by
  rw [val_split vs (k := m) (by omega), val_drop (by omega), val_drop (by omega), List.drop_of_length_le (by omega)]
  simp [val]
theorem win_val {us : List Int} {k m : Nat} (h : k + m + 2 < us.length) (hr : Rng us) (hz : val us < pw (k + m + 3)) :
    val (us.drop k) = val ((us.drop k).take m) + pw m * (us[k + m].toNat + 1000000000 * (us[k + m + 1].toNat + 1000000000 * us[k + m + 2].toNat)) := by
  have h0 : val (us.drop (k + m + 3)) = 0 := by
    have h1 := val_split us (k := k + m + 3) (by omega)
    rcases Nat.eq_zero_or_pos (val (us.drop (k + m + 3))) with h2 | h2
    · exact h2
    · have : pw (k + m + 3) * 1 ≤ pw (k + m + 3) * val (us.drop (k + m + 3)) := Nat.mul_le_mul_left _ h2
      omega
  rw [val_split (us.drop k) (k := m) (by simp; omega), List.drop_drop, val_drop (xs := us) (k := k + m) (by omega), val_drop (xs := us) (k := k + m + 1) (by omega), val_drop (xs := us) (k := k + m + 2) (by omega), h0]
  simp only [Nat.mul_zero, Nat.add_zero]
theorem top_pos {vs : List Int} {m : Nat} (hr : Rng vs) (h : vs.length = m + 2) (hv : pw (m + 1) ≤ val vs) : 1 ≤ vs[m + 1]'(by omega) := by
  have h1 := val_split vs (k := m + 1) (by omega)
  have h2 := val_take_lt hr (k := m + 1) (by omega)
  rw [val_drop (by omega), List.drop_of_length_le (by omega)] at h1
  simp only [val, Nat.mul_zero, Nat.add_zero] at h1
  have h3 := hr.at (k := m + 1) (by omega)
  rcases Nat.eq_zero_or_pos (vs[m + 1]'(by omega)).toNat with h4 | h4
  · rw [h4] at h1; omega
  · omega
/-- the factor by which both are multiplied -/
theorem scale_fit {ys : List Int} {m : Nat} (hr : Rng ys) (h : ys.length = m + 2) {t s : Int} (ht : t = ys[m + 1]'(by omega)) (h1 : 1 ≤ t) (hs : s = 1000000000 / (t + 1)) : 1 ≤ s ∧ s ≤ 500000000 ∧ val ys * s.toNat < pw (m + 2) := by
  have h2 := val_split ys (k := m + 1) (by omega)
  have h3 := val_take_lt hr (k := m + 1) (by omega)
  rw [val_drop (by omega), List.drop_of_length_le (by omega), ← ht] at h2
  simp only [val, Nat.mul_zero, Nat.add_zero] at h2
  have h4 := hr.at (k := m + 1) (by omega)
  rw [← ht] at h4
  have hs0 : 0 ≤ s := by rw [hs]; exact Int.ediv_nonneg (by omega) (by omega)
  have hs1 : s * (t + 1) ≤ 1000000000 := by rw [hs]; exact Int.ediv_mul_le _ (by omega)
  have hs2 : 1000000000 < (s + 1) * (t + 1) := by rw [hs]; exact Int.lt_ediv_add_one_mul_self _ (by omega)
  have hs3 : 1 ≤ s := by
    by_cases h5 : s < 1
    · have : s = 0 := by omega
      rw [this] at hs2
      omega
    · omega
  have hs4 : s * 2 ≤ s * (t + 1) := Int.mul_le_mul_of_nonneg_left (by omega) hs0
  refine ⟨hs3, by omega, ?_⟩
  obtain ⟨sn, rfl⟩ := Int.eq_ofNat_of_zero_le hs0
  obtain ⟨tn, rfl⟩ := Int.eq_ofNat_of_zero_le (show 0 ≤ t by omega)
  have h6 : sn * (tn + 1) ≤ 1000000000 := by
    have : ((sn * (tn + 1) : Nat) : Int) ≤ 1000000000 := by rw [Int.natCast_mul]; simpa using hs1
    omega
  simp only [Int.toNat_natCast] at h2 ⊢
  have h7 : val ys < pw (m + 1) * (tn + 1) := by rw [Nat.mul_add]; omega
  have h8 : val ys * sn < pw (m + 1) * (tn + 1) * sn := Nat.mul_lt_mul_of_pos_right h7 (by omega)
  have h9 : pw (m + 1) * (tn + 1) * sn = pw (m + 1) * (sn * (tn + 1)) := by ac_rfl
  have h10 : pw (m + 1) * (sn * (tn + 1)) ≤ pw (m + 1) * 1000000000 := Nat.mul_le_mul_left _ h6
  rw [pw_succ (m + 1), Nat.mul_comm 1000000000]
  omega
/-- places below k are 0 -/
def ZeroTo (os : List Int) (k : Nat) : Prop := ∀ j (h : j < os.length), j < k → os[j] = 0
theorem ZeroTo.set {os : List Int} {k : Nat} (h : ZeroTo os (k + 1)) (d : Int) : ZeroTo (os.set k d) k := by
  intro j hj hk
  rw [List.getElem_set_ne (by omega)]
  exact h j (by simpa using hj) (by omega)
theorem val_put {os : List Int} {k : Nat} (hk : k < os.length) (hz : os[k] = 0) (d : Int) : val (os.set k d) = val os + pw k * d.toNat := by
  have := val_set hk d
  rw [hz] at this
  simpa using this
theorem top_drop {us : List Int} {n : Nat} (hn : n ≤ us.length) (h : val us < pw n) : val (us.take n) = val us := by
  have h1 := val_split us hn
  rcases Nat.eq_zero_or_pos (val (us.drop n)) with h2 | h2
  · rw [h2] at h1; omega
  · have : pw n * 1 ≤ pw n * val (us.drop n) := Nat.mul_le_mul_left _ h2
    omega
theorem rng_lt_of_drop {ps us : List Int} {n : Nat} (hr : Rng ps) (hl : ps.length = us.length) (hn : n ≤ us.length) (hd : ps.drop n = us.drop n) (h : val us < pw n) : val ps < pw n := by
  have h1 := val_split us hn
  have h2 := val_split ps (k := n) (by omega)
  have h3 := val_take_lt hr (k := n) (by omega)
  rw [hd] at h2
  rcases Nat.eq_zero_or_pos (val (us.drop n)) with h4 | h4
  · rw [h4] at h2; omega
  · have : pw n * 1 ≤ pw n * val (us.drop n) := Nat.mul_le_mul_left _ h4
    omega
/-- the first guess -/
theorem guess_ge {V W P v1 v2 vl u0 wl : Nat} {t g : Int} (hV : V = vl + P * (v2 + 1000000000 * v1)) (hW : W = wl + P * (u0 + 1000000000 * t.toNat)) (hwl : wl < P) (hu0 : u0 ≤ 999999999) (hv : 1 ≤ v1) (hVB : W < V * 1000000000) (hV0 : 0 < V) (ht : 0 ≤ t)
    (hg : g = min 999999999 (t / (v1 : Int))) : 0 ≤ g ∧ g ≤ 999999999 ∧ W / V ≤ g.toNat ∧ 0 ≤ t - g * v1 ∧ t - g * v1 ≤ t ∧ g.toNat * v1 + (t - g * v1).toNat = t.toNat := by
  have h1 := kn_first hV hW hwl hu0
  have h2 : W / V ≤ 999999999 := by have := Nat.div_lt_of_lt_mul hVB; omega
  obtain ⟨tn, rfl⟩ := Int.eq_ofNat_of_zero_le ht
  have h3 : W / V ≤ tn / v1 := (Nat.le_div_iff_mul_le (by omega)).2 (by simpa using h1)
  have hg0 : g = ((min 999999999 (tn / v1) : Nat) : Int) := by rw [hg, ← Int.natCast_ediv]; omega
  have h4 : min 999999999 (tn / v1) * v1 ≤ tn := Nat.le_trans (Nat.mul_le_mul_right _ (Nat.min_le_right _ _)) (Nat.div_mul_le_self _ _)
  rw [hg0]
  generalize hgn : min 999999999 (tn / v1) = gn at *
  have h5 : ((gn : Int) * v1) = ((gn * v1 : Nat) : Int) := by rw [Int.natCast_mul]
  rw [h5]
  have h6 : W / V ≤ gn := by omega
  have h7 : gn ≤ 999999999 := by omega
  refine ⟨by omega, by omega, by simpa using h6, by omega, by omega, ?_⟩
  simp only [Int.toNat_natCast]
  omega
theorem ratio_lt {us : List Int} {k V : Nat} (hk : k ≤ us.length) (h : val us < V * pw (k + 1)) : val (us.drop k) < V * 1000000000 := by
  have h1 := val_split us hk
  rw [pw_succ, show V * (1000000000 * pw k) = pw k * (V * 1000000000) by ac_rfl] at h
  exact Nat.lt_of_mul_lt_mul_left (Nat.lt_of_le_of_lt (show pw k * val (us.drop k) ≤ val us by omega) h)
theorem guess_on {q r v1 v2 u0 t : Int} {V W P vl wl : Nat} (hV : V = vl + P * (v2.toNat + 1000000000 * v1.toNat)) (hW : W = wl + P * (u0.toNat + 1000000000 * t.toNat)) (hwl : wl < P) (hq : 0 ≤ q) (hr : 0 ≤ r) (hu : 0 ≤ u0) (hv : 0 ≤ v2) (hqt : q.toNat * v1.toNat + r.toNat = t.toNat) (hc : r * 1000000000 + u0 < q * v2) : W / V < q.toNat := by
  refine kn_more hV hW hwl (kn_on hqt ?_)
  have h1 : ((q.toNat * v2.toNat : Nat) : Int) = q * v2 := by rw [Int.natCast_mul, Int.toNat_of_nonneg hq, Int.toNat_of_nonneg hv]
  have h2 : ((r.toNat * 1000000000 + u0.toNat : Nat) : Int) < ((q.toNat * v2.toNat : Nat) : Int) := by rw [h1]; omega
  omega
theorem guess_out {q r v1 v2 u0 t : Int} {V W P vl wl : Nat} (hV : V = vl + P * (v2.toNat + 1000000000 * v1.toNat)) (hW : W = wl + P * (u0.toNat + 1000000000 * t.toNat)) (hvl : vl < P) (hq : 0 ≤ q) (hq1 : q ≤ 999999999) (hr : 0 ≤ r) (hu : 0 ≤ u0) (hv : 0 ≤ v2) (hv2 : v2 ≤ 999999999) (hv1 : 1 ≤ v1) (hqt : q.toNat * v1.toNat + r.toNat = t.toNat)
    (hc : 1000000000 ≤ r ∨ ¬ r * 1000000000 + u0 < q * v2) : q.toNat * V < W + V := by
  refine kn_last hV hW hvl (by omega) (by omega) (kn_out (by omega) (by omega) hqt ?_)
  rcases hc with hc | hc
  · left; omega
  · right
    have h1 : ((q.toNat * v2.toNat : Nat) : Int) = q * v2 := by rw [Int.natCast_mul, Int.toNat_of_nonneg hq, Int.toNat_of_nonneg hv]
    have h2 : ((q.toNat * v2.toNat : Nat) : Int) ≤ ((r.toNat * 1000000000 + u0.toNat : Nat) : Int) := by rw [h1]; omega
    omega
theorem guess_next {q r v1 t : Int} (hq : 1 ≤ q) (hr : 0 ≤ r) (hv : 0 ≤ v1) (h : q.toNat * v1.toNat + r.toNat = t.toNat) : (q - 1).toNat * v1.toNat + (r + v1).toNat = t.toNat := by
  obtain ⟨k, hk⟩ : ∃ k, q.toNat = k + 1 := ⟨q.toNat - 1, by omega⟩
  rw [show (q - 1).toNat = k by omega]
  rw [hk, Nat.add_mul, Nat.one_mul] at h
  omega
section
variable (a : Option Addr) (ca : Nat) (xs : List Int) (b : Option Addr) (cb : Nat) (ys : List Int) (w : World) (ha : IntsAt w a ca xs) (hb : IntsAt w b cb ys) (hn : xs.length ≤ 500000) (hm : ys.length ≤ 500000) (hx : digs (val xs) = xs) (hy : digs (val ys) = ys) (h0 : 0 < val ys)
include ha hb hn hm hx hy h0
set_option maxRecDepth 100000 in
set_option maxHeartbeats 8000000 in
theorem natDiv_long (hle : val ys ≤ val xs) (m : Nat) (hy2 : ys.length = m + 2) :
    Calls Tryz.prog 64 #[.slice a xs.length ca, .slice b ys.length cb] w fun e w' => ∃ p c p2 c2, e = .returned (.tuple #[.slice p (digs (val xs / val ys)).length c, .slice p2 (digs (val xs % val ys)).length c2]) ∧ Two w' w.heap.size w'.heap.size (.slice p (digs (val xs / val ys)).length c) (.slice p2 (digs (val xs % val ys)).length c2) (digs (val xs / val ys)) (digs (val xs % val ys)) ∧ Below w.heap.size w w' := by
  have hc := cmp_ge hx hy hle
  have hc2 : ¬ cmpL xs ys < 0 := by omega
  have hlen := len_of_le hx hy hle
  have hl : ((ys.length : Int) == 1) = false := beq_eq_false_iff_ne.2 (by omega)
  obtain ⟨L, hL⟩ : ∃ L, xs.length + 1 = L + (m + 2) := ⟨xs.length + 1 - (m + 2), by omega⟩
  have HL := Lib.hid hL
  have hLb : L ≤ 500001 := by omega
  have hmk := run_make_ints L (by omega)
  have ec : (L : Int) = (xs.length : Int) - ys.length + 1 := by omega
  rw [ec] at hmk
  have HEC := Lib.hid ec
  clear ec
  have hyl : m + 1 < ys.length := by omega
  have h1t := digs_top hy (k := m + 1) (by omega)
  have rt := (rng_of hy).at (k := m + 1) hyl
  obtain ⟨t, htt⟩ : ∃ t : Int, t = ys[m + 1]'hyl := ⟨_, rfl⟩
  obtain ⟨s, hs⟩ : ∃ s, s = 1000000000 / (t + 1) := ⟨_, rfl⟩
  have hsf := scale_fit (rng_of hy) hy2 htt (by omega) hs
  have HSF := Lib.hid hsf
  have hs1 := hsf.1
  have hs2 := hsf.2.1
  have HS := Lib.hid hs
  have HTT := Lib.hid htt
  have ht1 : 1 ≤ t := by omega
  have ht2 : t ≤ 999999999 := by omega
  have HA := Lib.hid ha
  have HB := Lib.hid hb
  have RX := Lib.hid (rng_of hx)
  have RY := Lib.hid (rng_of hy)
  have HY2 := Lib.hid hy2
  have HFX : Hid (val xs * s.toNat < pw (xs.length + 1)) := by
    have a1 := val_lt (rng_of hx)
    have a2 : val xs * s.toNat ≤ val xs * 1000000000 := Nat.mul_le_mul_left _ (by omega)
    unfold Hid
    rw [pw_succ]
    omega
  have hVB : Hid (val xs * s.toNat < val ys * s.toNat * pw L) := by
    have a1 := val_lt (rng_of hx)
    have a2 := pw_le_digs (n := val ys) h0
    rw [hy, hy2] at a2
    have a3 : pw xs.length ≤ val ys * pw L := by
      have : pw xs.length = pw (m + 1) * pw L := by rw [← pw_add]; congr 1; omega
      rw [this]; exact Nat.mul_le_mul_right _ a2
    unfold Hid
    rw [Nat.mul_right_comm]
    exact Nat.mul_lt_mul_of_pos_right (by omega) (by omega)
  have hPY : Hid (pw (m + 1) ≤ val ys) := by
    have a2 := pw_le_digs (n := val ys) h0
    rw [hy, hy2] at a2
    exact a2
  have HHLE := Lib.hid hle
  clear ha hb hx hy hle hlen hs hsf htt rt h1t hy2 hL
  go_enter Tryz.func64, Tryz.ntmps64
  go_wp2_with fail
  refine (natCmp_any a ca xs b cb ys _ HA.out HB.out (by omega) (by omega)).mono ?_
  rintro e w1 ⟨rfl, bb1⟩
  have B1 := Lib.hid bb1
  obtain ⟨b1, off1, rfl, hc1⟩ := (HB.out.below bb1).get hyl
  rw [← HTT.out] at hc1
  clear bb1
  have ei : ((ys.length : Int) - 1).toNat = m + 1 := by have := HY2.out; omega
  have ei0 : 0 ≤ (ys.length : Int) - 1 := by omega
  go_wp2_with fail
  rw [← HS.out, show ((xs.length : Int) + 1) = ((xs.length + 1 : Nat) : Int) by omega]
  refine (scaled_any a ca xs s (xs.length + 1) _ (HA.out.below B1.out) RX.out (by omega) (by omega) (by omega) (by omega) HFX.out).mono ?_
  rintro e w2 ⟨gu, us0, rfl, hgu, hul, hur, huv, hu, bb2⟩
  have HU := Lib.hid hu
  have HUL := Lib.hid hul
  have HUR := Lib.hid hur
  have HUV := Lib.hid huv
  have B2 := Lib.hid (bstep B1.out bb2)
  have hgu2 := hu.lt
  have hgu0 : w.heap.size ≤ gu := by have := B1.out.size; omega
  clear hul hur huv hu bb2
  go_wp2_with fail
  refine (scaled_any (some ⟨b1, off1, none⟩) cb ys s ys.length _ (HB.out.below B2.out) RY.out (by omega) (by omega) (by omega) (Nat.le_refl _) (by rw [HY2.out]; exact HSF.out.2.2)).mono ?_
  rintro e w3 ⟨gv, vs, rfl, hgv, hvl, hvr, hvv, hv, bb3⟩
  have HU := Lib.hid (HU.out.below bb3)
  have HV := Lib.hid hv
  have HVL := Lib.hid hvl
  have HVR := Lib.hid hvr
  have HVV := Lib.hid hvv
  have B3 := Lib.hid (bstep B2.out bb3)
  have hgv2 := hv.lt
  have hguv : gu < gv := by omega
  have hbs := bb3.size
  clear hvl hvr hvv hv bb3
  have hVpos : Hid (0 < val vs) := by rw [Hid, HVV.out]; exact Nat.mul_pos h0 (by omega)
  have hV1 : Hid (1 ≤ vs[m + 1]'(by have := HVL.out; omega)) := top_pos HVR.out (HVL.out.trans HY2.out) (by rw [HVV.out]; exact Nat.le_trans hPY.out (Nat.le_mul_of_pos_right _ (by omega)))
  go_wp2
  go_loopw [13] (fun i wr => ∃ (us os : List Int) (k : Nat), i = .int .i64 ((k : Int) - 1) ∧ k ≤ L ∧ us.length = xs.length + 1 ∧ os.length = L ∧ RowAt wr gu us ∧ RowAt wr gv vs ∧ RowAt wr w3.heap.size os ∧ Below w.heap.size w wr ∧ Rng us ∧ Rng os ∧ ZeroTo os k ∧ val us + val vs * val os = val xs * s.toNat ∧ val us < val vs * pw k) (fun i _ => (intOf i + 1).toNat)
  case atStart =>
    refine ⟨us0, List.replicate L 0, L, rfl, Nat.le_refl _, HUL.out, by simp, HU.out.below (ba1 _ _), HV.out.below (ba1 _ _), RowAt.made w3 _ (by omega), bstep B3.out (ba1 _ _), HUR.out, fun x hx => by rw [(List.mem_replicate.1 hx).2]; omega, fun j h _ => by simp, by rw [val_replicate, HUV.out]; simp, ?_⟩
    rw [HUV.out, HVV.out]
    exact hVB.out
  case round =>
    clear HU HUL HUR HUV
    obtain ⟨us, os, k, rfl, hk, hul, hol, hu, hv, ho, hbl, hur, hor, hz, hsum, hlt⟩ := hrel
    have HU := Lib.hid hu
    have HV := Lib.hid hv
    have HO := Lib.hid ho
    have HUL := Lib.hid hul
    have HOL := Lib.hid hol
    have HBL := Lib.hid hbl
    have HUR := Lib.hid hur
    have HOR := Lib.hid hor
    have HZ := Lib.hid hz
    have HSUM := Lib.hid hsum
    have HLT := Lib.hid hlt
    clear hu hv ho hul hol hbl hur hor hz hsum hlt
    cases k with
    | zero =>
      as_aux_lemma =>
        have hUV : val us < val vs := by have := HLT.out; rw [pw_zero, Nat.mul_one] at this; exact this
        have HE : Hid (val us / s.toNat = val xs % val ys ∧ val os = val xs / val ys) := kn_end (A := val xs) (b := val ys) (s := s.toNat) (U := val us) (Q := val os) (by omega) h0 (by have := HSUM.out; rw [HVV.out] at this; exact this) (by have := hUV; rw [HVV.out] at this; exact this)
        have hyle : ys.length ≤ us.length := by have := HUL.out; have := HL.out; have := HY2.out; omega
        have HTK : Hid (val (us.take ys.length) = val us) := top_drop hyle (by have a1 := val_lt HVR.out; rw [HVL.out] at a1; omega)
        have HI1 : Hid (IntsAt wr (some ⟨gu, 0, none⟩) (xs.length + 1) (us.take ys.length)) := by have := HU.out.ints.take ys.length; rw [HUL.out] at this; exact this
        have HC1 := Lib.hid (trimmed_any (some ⟨gu, 0, none⟩) (xs.length + 1) (us.take ys.length) wr HI1.out (by rw [List.length_take]; omega) (HUR.out.take _))
        have HC2 := Lib.hid (fun (W : World) (h : RowAt W w3.heap.size os) => trimmed_any (some ⟨w3.heap.size, 0, none⟩) os.length os W h.ints (by have := HOL.out; omega) HOR.out)
        have hdl : Hid ((digs (val us)).length ≤ 1048576) := by
          have a1 := val_lt HVR.out
          rw [HVL.out] at a1
          have := digs_len_le (n := val us) (k := ys.length) (by omega)
          unfold Hid; omega
        have hyle2 : ys.length ≤ xs.length + 1 := by have := HUL.out; omega
        clear hUV
        go_wp2_with fail
        have hcall := HC1.out
        rw [List.length_take, Nat.min_eq_left hyle] at hcall
        refine hcall.mono ?_
        rintro e w' ⟨⟨j, hj, rfl, ht⟩, rfl⟩
        rw [HTK.out] at ht
        have HI2 : Hid (j = (digs (val us)).length ∧ IntsAt wr (some ⟨gu, 0, none⟩) (xs.length + 1) (digs (val us))) := by
          have h5 : ((us.take ys.length).take j).length = j := by simp only [List.length_take]; omega
          have h6 := HI1.out.take j
          rw [ht] at h5 h6
          exact ⟨h5.symm, h6⟩
        have hj2 := HI2.out.1
        subst hj2
        clear ht hj hcall
        go_wp2_with fail
        refine (divSmall_any (some ⟨gu, 0, none⟩) (xs.length + 1) (digs (val us)) s _ HI2.out.2 hdl.out (digs_rng _) (by omega) (by omega)).mono ?_
        rintro e w7 ⟨v7, q7, rfl, -, -, -, ho7, b7⟩
        rw [val_digs, HE.out.1] at ho7
        obtain ⟨p7, c7, rfl, hi7⟩ := ho7.out
        have O7 := Lib.hid hi7
        have HO7 := Lib.hid (HO.out.below b7)
        have B7 := Lib.hid (bstep HBL.out b7)
        have hs7 := b7.size
        have hw3 := HO.out.lt
        clear ho7 hi7 b7
        go_wp2_with fail
        have hcall := HC2.out _ HO7.out
        rw [HOL.out] at hcall
        refine hcall.mono ?_
        rintro e w' ⟨⟨j, hj, rfl, ht⟩, rfl⟩
        have HG : Hid (j = (digs (val xs / val ys)).length ∧ Own 3 w7 w3.heap.size (.slice (some ⟨w3.heap.size, 0, none⟩) j L) (digs (val xs / val ys))) := by
          have h4 := own_take HO7.out (k := j) (by have := HOL.out; omega)
          have h5 : (os.take j).length = j := by have := HOL.out; simp only [List.length_take]; omega
          rw [ht, HE.out.2] at h5
          rw [ht, HE.out.2, HOL.out] at h4
          rw [h5] at h4
          exact ⟨h5.symm, h4⟩
        have hj2 := HG.out.1
        subst hj2
        clear ht hj hcall
        have hw0 := B3.out.size
        go_wp2
        go_ret2
        exact ⟨_, _, p7, c7, rfl, ⟨w3.heap.size + 1, by omega, by omega, ⟨HG.out.2.rebase hw0, fun q hq => by (simp [Value.ownBlock] at hq; omega)⟩, O7.out.mono (by omega) (Nat.le_refl _)⟩, B7.out⟩
    | succ k =>
      have hk2 : k + m + 2 < us.length := by have := HUL.out; have := HL.out; omega
      have hkv : m + 1 < vs.length := by have := HVL.out; omega
      obtain ⟨u2, hu2⟩ : ∃ x, x = us[k + m + 2] := ⟨_, rfl⟩
      obtain ⟨u1, hu1⟩ : ∃ x, x = us[k + m + 1] := ⟨_, rfl⟩
      obtain ⟨u0, hu0⟩ : ∃ x, x = us[k + m] := ⟨_, rfl⟩
      obtain ⟨v1, hv1⟩ : ∃ x, x = vs[m + 1] := ⟨_, rfl⟩
      obtain ⟨v2, hv2⟩ : ∃ x, x = vs[m] := ⟨_, rfl⟩
      have ru2 := HUR.out.at hk2
      have ru1 := HUR.out.at (k := k + m + 1) (by omega)
      have ru0 := HUR.out.at (k := k + m) (by omega)
      have rv1 := HVR.out.at hkv
      have rv2 := HVR.out.at (k := m) (by omega)
      have rv1' := hV1.out
      rw [← hu2] at ru2
      rw [← hu1] at ru1
      rw [← hu0] at ru0
      rw [← hv1] at rv1 rv1'
      rw [← hv2] at rv2
      have hyl2 := HY2.out
      have cU2 : wr.cell? ⟨gu, k + ys.length, none⟩ = some (.int .i64 u2) := by rw [hu2, show k + ys.length = k + m + 2 by omega]; exact HU.out.cell hk2
      have cU1 : wr.cell? ⟨gu, k + m + 1, none⟩ = some (.int .i64 u1) := by rw [hu1]; exact HU.out.cell (by omega)
      have cU0 : wr.cell? ⟨gu, k + m, none⟩ = some (.int .i64 u0) := by rw [hu0]; exact HU.out.cell (by omega)
      have cV1 : wr.cell? ⟨gv, m + 1, none⟩ = some (.int .i64 v1) := by rw [hv1]; exact HV.out.cell hkv
      have cV2 : wr.cell? ⟨gv, m, none⟩ = some (.int .i64 v2) := by rw [hv2]; exact HV.out.cell (by omega)
      have ej1 : ((k : Int) + ys.length - 1).toNat = k + m + 1 := by omega
      have ej2 : ((k : Int) + ys.length - 2).toNat = k + m := by omega
      have ei2 : ((ys.length : Int) - 2).toNat = m := by omega
      have b1a : 0 ≤ (k : Int) + ys.length - 1 := by omega
      have b2a : 0 ≤ (k : Int) + ys.length - 2 := by omega
      have b3a : 0 ≤ (ys.length : Int) - 2 := by omega
      have hll := HL.out
      have b1b : (k : Int) + ys.length - 1 < xs.length + 1 := by omega
      have b2b : (k : Int) + ys.length - 2 < xs.length + 1 := by omega
      have b0b : (k : Int) + ys.length < xs.length + 1 := by omega
      have hvz : (v1 == 0) = false := beq_eq_false_iff_ne.2 (by omega)
      have HU2 := Lib.hid hu2
      have HU1 := Lib.hid hu1
      have HU0 := Lib.hid hu0
      have HV1 := Lib.hid hv1
      have HV2 := Lib.hid hv2
      -- what the guess needs
      have HVt : Hid (val vs = val (vs.take m) + pw m * (v2.toNat + 1000000000 * v1.toNat)) := by
        have := top_two (HVL.out.trans HY2.out)
        rw [Hid, this, hv2, hv1]
      have hzz : val us < pw (k + m + 3) := by
        have a1 := HLT.out
        have a2 := val_lt HVR.out
        have a3 : val vs * pw (k + 1) ≤ pw (m + 2) * pw (k + 1) := Nat.mul_le_mul_right _ (by rw [HVL.out, HY2.out] at a2; omega)
        rw [← pw_add, show m + 2 + (k + 1) = k + m + 3 by omega] at a3
        omega
      have HWt : Hid (val (us.drop k) = val ((us.drop k).take m) + pw m * (u0.toNat + 1000000000 * (u2 * 1000000000 + u1).toNat)) := by
        have := win_val hk2 HUR.out hzz
        rw [Hid, this, ← hu2, ← hu1, ← hu0, show (u2 * 1000000000 + u1).toNat = u1.toNat + 1000000000 * u2.toNat by omega]
      have HVl : Hid (val (vs.take m) < pw m) := val_take_lt HVR.out (by omega)
      have HWl : Hid (val ((us.drop k).take m) < pw m) := by
        have := val_lt ((HUR.out.drop k).take m)
        rw [List.length_take, Nat.min_eq_left (by simp; omega)] at this
        exact this
      have HVB : Hid (val (us.drop k) < val vs * 1000000000) := ratio_lt (by omega) HLT.out
      have evv : ((v1.toNat : Nat) : Int) = v1 := Int.toNat_of_nonneg rv1.1
      have hG := guess_ge (g := min 999999999 ((u2 * 1000000000 + u1) / v1)) HVt.out HWt.out HWl.out (by omega) (by omega) HVB.out hVpos.out (t := u2 * 1000000000 + u1) (by omega) (by rw [evv])
      rw [evv] at hG
      have HZW := Lib.hid hzz
      have ek : ((k + 1 : Nat) : Int) - 1 = (k : Int) := by omega
      rw [ek]
      clear ek hu2 hu1 hu0 hv1 hv2 hyl2 hll evv hzz
      have htop : 0 ≤ u2 * 1000000000 + u1 ∧ u2 * 1000000000 + u1 ≤ 999999999999999999 := by omega
      have HGG := Lib.hid hG
      clear hG
      go_wp2
      go_quiet (fail)
      go_upto_region 14 with fail
      go_cut [15] (fun x wx => ∃ g : Int, x = .int .i64 g ∧ 0 ≤ g ∧ g ≤ 999999999 ∧ 0 ≤ u2 * 1000000000 + u1 - g * v1 ∧ u2 * 1000000000 + u1 - g * v1 ≤ u2 * 1000000000 + u1 ∧ Hid (val (us.drop k) / val vs ≤ g.toNat ∧ g.toNat * v1.toNat + (u2 * 1000000000 + u1 - g * v1).toNat = (u2 * 1000000000 + u1).toNat) ∧ Hid (RowAt wx gu us ∧ RowAt wx gv vs ∧ RowAt wx w3.heap.size os ∧ Below w.heap.size w wx))
      case first =>
        as_aux_lemma =>
          by_cases hmin : 999999999 ≤ (u2 * 1000000000 + u1) / v1
          all_goals
            first
              | (have hmm : min 999999999 ((u2 * 1000000000 + u1) / v1) = 999999999 := by omega
                 have hG := HGG.out
                 rw [hmm] at hG
                 clear hmm)
              | (have hmm : min 999999999 ((u2 * 1000000000 + u1) / v1) = (u2 * 1000000000 + u1) / v1 := by omega
                 have hmin' : (u2 * 1000000000 + u1) / v1 < 999999999 := by omega
                 have hG := HGG.out
                 rw [hmm] at hG
                 clear hmm)
            have HG := Lib.hid hG
            clear hG
            go_wp2_with fail
            go_meet
            exact ⟨_, rfl, HG.out.1, HG.out.2.1, HG.out.2.2.2.1, HG.out.2.2.2.2.1, ⟨HG.out.2.2.1, HG.out.2.2.2.2.2⟩, HU.out.below (below_drewN (Below.refl _ _) _), HV.out.below (below_drewN (Below.refl _ _) _), HO.out.below (below_drewN (Below.refl _ _) _), HBL.out.trans (below_drewN (Below.refl _ _) _)⟩
      case rest =>
        as_aux_lemma =>
          clear HGG HU HV HO HBL cU2 cU1 cU0 cV1 cV2
          obtain ⟨g, rfl, hg0, hg1, hg4, hg5, HG, HW⟩ := hcut
          have cV1 : wc.cell? ⟨gv, m + 1, none⟩ = some (.int .i64 v1) := by rw [HV1.out]; exact HW.out.2.1.cell hkv
          obtain ⟨wA, hwA⟩ : ∃ W', W' = wc := ⟨_, rfl⟩
          subst hwA
          go_upto_block 2 with fail
          go_cut [15] (fun x wx => ∃ q : Int, x = .int .i64 q ∧ 0 ≤ q ∧ q ≤ 999999999 ∧ Hid (val (us.drop k) / val vs ≤ q.toNat ∧ q.toNat * val vs < val (us.drop k) + val vs) ∧ Hid (RowAt wx gu us ∧ RowAt wx gv vs ∧ RowAt wx w3.heap.size os ∧ Below w.heap.size w wx))
          case first =>
            as_aux_lemma =>
              go_wp2_with fail
              go_loopw [15, 16] (fun x y wr => ∃ q r : Int, x = .int .i64 q ∧ y = .int .i64 r ∧ 0 ≤ q ∧ q ≤ 999999999 ∧ 0 ≤ r ∧ r ≤ 999999999999999999 ∧ Hid (val (us.drop k) / val vs ≤ q.toNat ∧ q.toNat * v1.toNat + r.toNat = (u2 * 1000000000 + u1).toNat) ∧ Hid (RowAt wr gu us ∧ RowAt wr gv vs ∧ RowAt wr w3.heap.size os ∧ Below w.heap.size w wr)) (fun x _ _ => (intOf x).toNat)
              case atStart => exact ⟨g, _, rfl, rfl, hg0, hg1, hg4, by omega, HG, HW⟩
              case round =>
                clear HG HW hg0 hg1 hg4 hg5 cV1
                obtain ⟨q, r, rfl, rfl, hq0, hq1, hr0, hr1, HQ, HW⟩ := hrel
                have cU0 : wr.cell? ⟨gu, k + m, none⟩ = some (.int .i64 u0) := by rw [HU0.out]; exact HW.out.1.cell (by omega)
                have cV1 : wr.cell? ⟨gv, m + 1, none⟩ = some (.int .i64 v1) := by rw [HV1.out]; exact HW.out.2.1.cell hkv
                have cV2 : wr.cell? ⟨gv, m, none⟩ = some (.int .i64 v2) := by rw [HV2.out]; exact HW.out.2.1.cell (by omega)
                have r4 := prod_bound ⟨hq0, hq1⟩ rv2
                by_cases hA : r < 1000000000
                · by_cases hC : r * 1000000000 + u0 < q * v2
                  · have hqp := guess_on (t := u2 * 1000000000 + u1) HVt.out HWt.out HWl.out hq0 hr0 ru0.1 rv2.1 HQ.out.2 hC
                    have HQP := Lib.hid hqp
                    have hq3 : 0 < q.toNat := Nat.lt_of_le_of_lt (Nat.zero_le _) hqp
                    have hq2 : 1 ≤ q := by clear hqp; omega
                    clear hqp hq3
                    go_wp2
                    go_quiet (fail)
                    go_wp2
                    go_roundw
                    case rel => exact ⟨q - 1, r + v1, rfl, rfl, by omega, by omega, by omega, by omega, ⟨Nat.le_trans (Nat.le_sub_one_of_lt HQP.out) (by omega), guess_next hq2 hr0 rv1.1 HQ.out.2⟩, HW.out.1.below (below_drewN (Below.refl _ _) _), HW.out.2.1.below (below_drewN (Below.refl _ _) _), HW.out.2.2.1.below (below_drewN (Below.refl _ _) _), HW.out.2.2.2.trans (below_drewN (Below.refl _ _) _)⟩
                    case measure => simp [intOf] <;> omega
                  · have HQV := Lib.hid (guess_out (t := u2 * 1000000000 + u1) HVt.out HWt.out HVl.out hq0 hq1 hr0 ru0.1 rv2.1 rv2.2 rv1' HQ.out.2 (.inr hC))
                    go_wp2
                    go_quiet (fail)
                    go_wp2_with fail
                    go_meet
                    exact ⟨q, rfl, hq0, hq1, ⟨HQ.out.1, HQV.out⟩, HW.out.1.below (below_drewN (Below.refl _ _) _), HW.out.2.1.below (below_drewN (Below.refl _ _) _), HW.out.2.2.1.below (below_drewN (Below.refl _ _) _), HW.out.2.2.2.trans (below_drewN (Below.refl _ _) _)⟩
                · have HQV := Lib.hid (guess_out (t := u2 * 1000000000 + u1) HVt.out HWt.out HVl.out hq0 hq1 hr0 ru0.1 rv2.1 rv2.2 rv1' HQ.out.2 (.inl (by omega)))
                  have hA' : decide (r < 1000000000) = false := by simpa using hA
                  go_wp2
                  go_quiet (fail)
                  go_wp2_with fail
                  go_meet
                  exact ⟨q, rfl, hq0, hq1, ⟨HQ.out.1, HQV.out⟩, HW.out.1.below (below_drewN (Below.refl _ _) _), HW.out.2.1.below (below_drewN (Below.refl _ _) _), HW.out.2.2.1.below (below_drewN (Below.refl _ _) _), HW.out.2.2.2.trans (below_drewN (Below.refl _ _) _)⟩
          case rest =>
            as_aux_lemma =>
              clear HG HW hg0 hg1 hg4 hg5 cV1
              obtain ⟨q, rfl, hq0, hq1, HQQ, HW⟩ := hcut
              have HU := Lib.hid HW.out.1
              have HV := Lib.hid HW.out.2.1
              have HO := Lib.hid HW.out.2.2.1
              have HBL := Lib.hid HW.out.2.2.2
              have HQW := Lib.hid HQQ.out.1
              have HQV := Lib.hid HQQ.out.2
              clear HW HQQ
              go_wp2_with fail
              have hsub := fun W hu hv => subtract_any gu k us (xs.length + 1 - k) gv vs q W hu hv (by omega) (by have := HVL.out; have := HY2.out; omega) (by have := HUL.out; omega) HUR.out HVR.out hq0 hq1
              rw [HVL.out] at hsub
              rw [show k + ys.length + 1 - k = ys.length + 1 by omega]
              refine (hsub _ HU.out HV.out).mono ?_
              rintro e w5 ⟨ps, f, rfl, hf, hpl, hpr, hpd, hpv, hpu, hpg⟩
              have HPL := Lib.hid hpl
              have HPR := Lib.hid hpr
              have HPD := Lib.hid hpd
              have HPV := Lib.hid hpv
              have HPU := Lib.hid hpu
              have HV5 := Lib.hid (RowAt.kept HV.out hpg (by omega))
              have HO5 := Lib.hid (RowAt.kept HO.out hpg (by omega))
              have B5 := Lib.hid (HBL.out.grown hpg (by have := HBL.out.size; exact this) (fun j hj => by cases hj; exact hgu0))
              clear hpl hpr hpd hpv hpu hpg hsub
              have HSP : Hid (val us = val (us.take k) + pw k * val (us.drop k)) := val_split us (by omega)
              have HLO : Hid (val (us.take k) < pw k) := val_take_lt HUR.out (by omega)
              have hkL : k < os.length := by have := HOL.out; omega
              have hzk := Lib.hid (HZ.out k hkL (by omega))
              have HP3 : Hid (val ps < pw (k + ys.length + 1)) := rng_lt_of_drop HPR.out HPL.out (by have := HUL.out; have := HY2.out; omega) HPD.out (by have hyy := HY2.out; rw [show k + ys.length + 1 = k + m + 3 by omega]; exact HZW.out)
              rcases hf with rfl | rfl
              · as_aux_lemma =>
                  have HEQ : Hid (q.toNat = val (us.drop k) / val vs) := kn_fit HSP.out HLO.out hVpos.out HQW.out (sub_f0 HPV.out)
                  have HRS := Lib.hid (kn_rest (U' := val ps) HSP.out HLO.out hVpos.out (by have := sub_f0 HPV.out; rw [HEQ.out] at this; exact this) HSUM.out)
                  have cO := HO5.out.cell hkL
                  have fO := HO5.out.frozen k
                  have hkL2 : (k : Int) < L := by omega
                  clear HQV
                  go_wp2
                  go_roundw
                  case rel =>
                    refine ⟨ps, os.set k q, k, rfl, by omega, HPL.out.trans HUL.out, by rw [List.length_set]; exact HOL.out, HPU.out.kept (HO5.out.grow _ _) (by omega), HV5.out.kept (HO5.out.grow _ _) (by omega), HO5.out.set k (by unfold In64; omega), B5.out.setCell (by have := hgu0; simp; omega) _, HPR.out, rng_set HOR.out _ hq0 hq1, HZ.out.set _, ?_, HRS.out.2⟩
                    rw [val_put hkL hzk.out, HEQ.out]
                    exact HRS.out.1
                  case measure => simp [intOf] <;> omega
              · as_aux_lemma =>
                  have HEQ : Hid (q.toNat = val (us.drop k) / val vs + 1) := kn_over HSP.out hVpos.out HQV.out HP3.out (sub_f1 HPV.out) HQW.out
                  obtain ⟨D, hD⟩ : ∃ D, D = val (us.drop k) / val vs := ⟨_, rfl⟩
                  have hE2 : q.toNat = D + 1 := by rw [hD]; exact HEQ.out
                  have HDD := Lib.hid hD
                  have hqp : 0 < q.toNat := by rw [hE2]; exact Nat.succ_pos D
                  have HEQ2 : Hid ((q - 1).toNat = D) := by unfold Hid; clear hD; omega
                  clear hE2 hD
                  clear HQV
                  go_wp2_with fail
                  have hadd := fun W hu hv => addBack_any gu k ps (xs.length + 1 - k) gv vs W hu hv (by omega) (by have := HPL.out; have := HVL.out; have := HY2.out; omega) (by have := HPL.out; have := HUL.out; omega) HPR.out HVR.out
                  rw [HVL.out] at hadd
                  rw [show k + ys.length + 1 - k = ys.length + 1 by omega]
                  refine (hadd _ HPU.out HV5.out).mono ?_
                  rintro e w6 ⟨vv, qs, c, rfl, hc0, hc1, hql, hqr, hqd, hqv, hqu, hqg⟩
                  as_aux_lemma =>
                    have HQL := Lib.hid hql
                    have HQR := Lib.hid hqr
                    have HQU := Lib.hid hqu
                    have HV6 := Lib.hid (HV5.out.kept hqg (by omega))
                    have HO6 := Lib.hid (HO5.out.kept hqg (by omega))
                    have B6 := Lib.hid (B5.out.grown hqg B5.out.size (fun j hj => by cases hj; exact hgu0))
                    have HQ3 : Hid (val qs < pw (k + ys.length + 1)) := rng_lt_of_drop hqr hql (by have := HPL.out; have := HUL.out; have := HY2.out; omega) hqd HP3.out
                    have HBK : Hid (val qs + pw k * (val (us.drop k) / val vs * val vs) = val us) := kn_back HSP.out hVpos.out HEQ.out (sub_f1 HPV.out) hqv (by omega) HQ3.out HP3.out
                    have HRS := Lib.hid (kn_rest (U' := val qs) HSP.out HLO.out hVpos.out HBK.out HSUM.out)
                    have cO := HO6.out.cell hkL
                    have fO := HO6.out.frozen k
                    have hkL2 : (k : Int) < L := by omega
                    clear hql hqr hqd hqv hqu hqg hadd hc0 hc1
                    go_wp2
                    go_roundw
                    case rel =>
                      refine ⟨qs, os.set k (q - 1), k, rfl, by omega, HQL.out.trans (HPL.out.trans HUL.out), by rw [List.length_set]; exact HOL.out, HQU.out.kept (HO6.out.grow _ _) (by omega), HV6.out.kept (HO6.out.grow _ _) (by omega), HO6.out.set k (by unfold In64; omega), B6.out.setCell (by have := hgu0; simp; omega) _, HQR.out, rng_set HOR.out _ (by omega) (by omega), HZ.out.set _, ?_, HRS.out.2⟩
                      rw [val_put hkL hzk.out, HEQ2.out, HDD.out]
                      exact HRS.out.1
                    case measure => simp [intOf] <;> omega
theorem natDiv_any : Calls Tryz.prog 64 #[.slice a xs.length ca, .slice b ys.length cb] w fun e w' => ∃ p c p2 c2, e = .returned (.tuple #[.slice p (digs (val xs / val ys)).length c, .slice p2 (digs (val xs % val ys)).length c2]) ∧ Two w' w.heap.size w'.heap.size (.slice p (digs (val xs / val ys)).length c) (.slice p2 (digs (val xs % val ys)).length c2) (digs (val xs / val ys)) (digs (val xs % val ys)) ∧ Below w.heap.size w w' := by
  by_cases h1 : val xs < val ys
  · exact natDiv_less a ca xs b cb ys w ha hb hn hm hx hy h1
  · have hp : 0 < ys.length := by rw [← hy]; exact digs_len_pos.2 h0
    by_cases h2 : ys.length = 1
    · exact natDiv_one a ca xs b cb ys w ha hb hn hm hx hy h0 (by omega) h2
    · exact natDiv_long a ca xs b cb ys w ha hb hn hm hx hy h0 (by omega) (ys.length - 2) (by omega)
end
end Go.Proofs.YtehhpkeabckdaaaGreatDoor
