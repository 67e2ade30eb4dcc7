/- Joined: MulLaw, DivLaw, Mul, NatMul, Sub, NatSub, NatOf. -/
import Derived.Test.YtehhpkeabckdaaaGreatDoorK1
import Derived.Test.YtehhpkeabckdaaaGreatDoorK2
namespace Go.Proofs.YtehhpkeabckdaaaGreatDoor
set_option linter.unusedVariables false
set_option linter.unusedSimpArgs false
section

theorem val_set {xs : List Int} {k : Nat} (h : k < xs.length) (d : Int) : val (xs.set k d) + pw k * xs[k].toNat = val xs + pw k * d.toNat := by
  induction xs generalizing k with
  | nil => simp at h
  | cons x r ih =>
    cases k with
    | zero => simp [val, pw_zero]; omega
    | succ k =>
      have := ih (k := k) (by simpa using h)
      simp only [List.set_cons_succ, val, List.getElem_cons_succ, pw_succ]
      rw [Nat.mul_assoc, Nat.mul_assoc]
      omega
theorem rng_set {xs : List Int} (h : Rng xs) (k : Nat) {d : Int} (h0 : 0 ≤ d) (h1 : d ≤ 999999999) : Rng (xs.set k d) := by
  intro x hx
  rcases List.mem_or_eq_of_mem_set hx with hx | rfl
  · exact h x hx
  · exact ⟨h0, h1⟩
theorem val_replicate (n : Nat) : val (List.replicate n 0) = 0 := val_zeros' _ fun x hx => (List.mem_replicate.1 hx).2
where val_zeros' : ∀ (xs : List Int), (∀ x ∈ xs, x = 0) → val xs = 0
  | [], _ => rfl
  | d :: r, h => by
    have h1 := h d (List.mem_cons_self ..)
    have h2 := val_zeros' r fun x hx => h x (List.mem_cons_of_mem _ hx)
    simp [val, h1, h2]

/-- one step of the inner loop: place i + j of os becomes t % base, the carry t / base -/
theorem mul_inner {os : List Int} {i j : Nat} {x y c t : Int} {S : Nat} (hk : i + j < os.length) (hx : 0 ≤ x) (hy : 0 ≤ y) (hc : 0 ≤ c) (ho : 0 ≤ os[i + j])
    (ht : t = os[i + j] + x * y + c) (h : val os + pw (i + j) * c.toNat = S) :
    val (os.set (i + j) (t % 1000000000)) + pw (i + j + 1) * (t / 1000000000).toNat = S + pw i * x.toNat * (pw j * y.toNat) := by
  have hxy : 0 ≤ x * y := Int.mul_nonneg hx hy
  have h1 := val_set hk (t % 1000000000)
  have h2 := digit_split (pw (i + j)) (n := t) (by omega)
  rw [pw_succ]
  have e : t.toNat = os[i + j].toNat + x.toNat * y.toNat + c.toNat := by
    have : (x * y).toNat = x.toNat * y.toNat := by rw [Int.toNat_mul hx hy]
    rw [ht, ← this]; omega
  rw [e, Nat.mul_add, Nat.mul_add] at h2
  have e3 : pw i * x.toNat * (pw j * y.toNat) = pw (i + j) * (x.toNat * y.toNat) := by rw [pw_add]; ac_rfl
  rw [e3]
  omega

theorem take_mul {ys : List Int} {j : Nat} (h : j < ys.length) (p : Nat) : p * val (ys.take (j + 1)) = p * val (ys.take j) + p * (pw j * ys[j].toNat) := by
  rw [val_take_succ h, Nat.mul_add]
end
section

theorem val_drop {xs : List Int} {k : Nat} (h : k < xs.length) : val (xs.drop k) = xs[k].toNat + 1000000000 * val (xs.drop (k + 1)) := by
  rw [List.drop_eq_getElem_cons h, val]
theorem val_split (xs : List Int) {k : Nat} (hk : k ≤ xs.length) : val xs = val (xs.take k) + pw k * val (xs.drop k) := by
  conv => lhs; rw [← List.take_append_drop k xs, val_append]
  rw [List.length_take, Nat.min_eq_left hk]
theorem val_take_lt {xs : List Int} (h : Rng xs) {k : Nat} (hk : k ≤ xs.length) : val (xs.take k) < pw k := by
  have := val_lt (h.take k)
  rwa [List.length_take, Nat.min_eq_left hk] at this

/-- one step of a division by a digit -/
theorem small_step (V d x : Nat) (hd : 0 < d) :
    (x + 1000000000 * V) / d = (V % d * 1000000000 + x) / d + 1000000000 * (V / d) ∧ (x + 1000000000 * V) % d = (V % d * 1000000000 + x) % d := by
  have e : x + 1000000000 * V = (V % d * 1000000000 + x) + d * (1000000000 * (V / d)) := by
    have h1 := Nat.div_add_mod V d
    have h2 : d * (1000000000 * (V / d)) = 1000000000 * (d * (V / d)) := by ac_rfl
    rw [h2]
    generalize d * (V / d) = p at *
    generalize V % d = r at *
    omega
  rw [e]
  exact ⟨by rw [Nat.add_mul_div_left _ _ hd], by rw [Nat.add_mul_mod_self_left]⟩
theorem small_digit {d r x : Nat} (hr : r < d) (hx : x ≤ 999999999) : (r * 1000000000 + x) / d ≤ 999999999 := by
  have h : r * 1000000000 + x < d * 1000000000 := by omega
  have := Nat.div_lt_of_lt_mul h
  omega

section
variable {V W P v1 v2 vl u0 t wl q : Nat} (hV : V = vl + P * (v2 + 1000000000 * v1)) (hW : W = wl + P * (u0 + 1000000000 * t))
include hV hW
theorem kn_never (hwl : wl < P) : W / V * (v2 + 1000000000 * v1) ≤ u0 + 1000000000 * t := by
  have h1 : W / V * V ≤ W := Nat.div_mul_le_self W V
  have h2 : W < P * (u0 + 1000000000 * t + 1) := by rw [Nat.mul_add P _ 1]; omega
  have h3 : P * (W / V * (v2 + 1000000000 * v1)) ≤ W / V * V := by
    generalize W / V = k
    rw [hV, Nat.mul_add k vl, show k * (P * (v2 + 1000000000 * v1)) = P * (k * (v2 + 1000000000 * v1)) by ac_rfl]
    omega
  have := Nat.lt_of_mul_lt_mul_left (Nat.lt_of_le_of_lt (Nat.le_trans h3 h1) h2)
  omega
theorem kn_first (hwl : wl < P) (hu0 : u0 ≤ 999999999) : W / V * v1 ≤ t := by
  have h := kn_never hV hW hwl
  generalize W / V = k at *
  rw [Nat.mul_add, show k * (1000000000 * v1) = 1000000000 * (k * v1) by ac_rfl] at h
  generalize k * v1 = a at *
  generalize k * v2 = b at *
  omega
theorem kn_last (hvl : vl < P) (hq : q ≤ 999999999) (h1 : 1 ≤ v1) (h : q * (v2 + 1000000000 * v1) ≤ u0 + 1000000000 * t) : q * V < W + V := by
  have a1 : q * vl ≤ 999999999 * P := Nat.mul_le_mul hq (Nat.le_of_lt hvl)
  have a2 : P * (q * (v2 + 1000000000 * v1)) ≤ P * (u0 + 1000000000 * t) := Nat.mul_le_mul_left P h
  have a3 : q * V = q * vl + P * (q * (v2 + 1000000000 * v1)) := by
    rw [hV, Nat.mul_add q vl, show q * (P * (v2 + 1000000000 * v1)) = P * (q * (v2 + 1000000000 * v1)) by ac_rfl]
  have a4 : P * 1000000000 ≤ P * (v2 + 1000000000 * v1) := Nat.mul_le_mul_left P (by omega)
  omega
theorem kn_more (hwl : wl < P) (h : u0 + 1000000000 * t < q * (v2 + 1000000000 * v1)) : W / V < q := by
  rcases Nat.lt_or_ge (W / V) q with h1 | h1
  · exact h1
  · have := Nat.mul_le_mul_right (v2 + 1000000000 * v1) h1
    have := kn_never hV hW hwl
    omega
end
/-- the loop's two ways out -/
theorem kn_out {q r v1 v2 u0 t : Nat} (hq : q ≤ 999999999) (hv2 : v2 ≤ 999999999) (ht : q * v1 + r = t) (h : 1000000000 ≤ r ∨ q * v2 ≤ r * 1000000000 + u0) : q * (v2 + 1000000000 * v1) ≤ u0 + 1000000000 * t := by
  have h1 : q * v2 ≤ 999999999 * 999999999 := Nat.mul_le_mul hq hv2
  rw [Nat.mul_add, show q * (1000000000 * v1) = 1000000000 * (q * v1) by ac_rfl]
  generalize q * v1 = a at *
  generalize q * v2 = b at *
  omega
theorem kn_on {q r v1 v2 u0 t : Nat} (ht : q * v1 + r = t) (h : r * 1000000000 + u0 < q * v2) : u0 + 1000000000 * t < q * (v2 + 1000000000 * v1) := by
  rw [Nat.mul_add, show q * (1000000000 * v1) = 1000000000 * (q * v1) by ac_rfl]
  generalize q * v1 = a at *
  generalize q * v2 = b at *
  omega

/-- the row behind a step of the long division -/
theorem kn_rest {U U' V W p lo Q S : Nat} (hU : U = lo + p * W) (hlo : lo < p) (hV : 0 < V) (h : U' + p * (W / V * V) = U) (hS : U + V * Q = S) : U' + V * (Q + p * (W / V)) = S ∧ U' < V * p := by
  have h1 : W / V * V + W % V = W := by rw [Nat.mul_comm]; exact Nat.div_add_mod W V
  have h2 : W % V < V := Nat.mod_lt _ hV
  constructor
  · rw [Nat.mul_add, show V * (p * (W / V)) = p * (W / V * V) by ac_rfl]; omega
  · have h3 : p * W = p * (W / V * V) + p * (W % V) := by rw [← Nat.mul_add, h1]
    have h4 : p * (W % V + 1) ≤ p * V := Nat.mul_le_mul_left p h2
    rw [Nat.mul_add] at h4
    rw [Nat.mul_comm V p]
    omega
theorem kn_fit {U U1 V W p lo q : Nat} (hU : U = lo + p * W) (hlo : lo < p) (hV : 0 < V) (hq : W / V ≤ q) (h : U1 + p * (q * V) = U) : q = W / V := by
  have h1 : p * (q * V) < p * (W + 1) := by rw [Nat.mul_add]; omega
  have h2 := Nat.lt_of_mul_lt_mul_left h1
  have h3 : q ≤ W / V := (Nat.le_div_iff_mul_le hV).2 (by omega)
  omega
theorem kn_over {U U1 V W p T lo q : Nat} (hU : U = lo + p * W) (hV : 0 < V) (h1 : q * V < W + V) (hlt : U1 < T) (h : U1 + p * (q * V) = U + T) (hq : W / V ≤ q) : q = W / V + 1 := by
  have h2 : ¬ q * V ≤ W := by
    intro h3
    have := Nat.mul_le_mul_left p h3
    omega
  have h3 : ¬ q ≤ W / V := fun h4 => h2 ((Nat.le_div_iff_mul_le hV).1 h4)
  have h4 : (q - 1) * V ≤ W := by
    rw [Nat.sub_mul, Nat.one_mul]; omega
  have h5 := (Nat.le_div_iff_mul_le hV).2 h4
  omega
theorem kn_back {U U1 U2 V W p T q c lo : Nat} (hU : U = lo + p * W) (hV : 0 < V) (hq : q = W / V + 1) (h : U1 + p * (q * V) = U + T) (h2 : U2 + T * c = U1 + p * V) (hc : c ≤ 1) (hlt : U2 < T) (h1 : U1 < T) : U2 + p * (W / V * V) = U := by
  have e : p * (q * V) = p * (W / V * V) + p * V := by rw [hq, Nat.add_mul, Nat.mul_add, Nat.one_mul]
  have h3 : p * (W / V * V) ≤ p * W := Nat.mul_le_mul_left p (Nat.div_mul_le_self W V)
  rcases Nat.le_one_iff_eq_zero_or_eq_one.1 hc with rfl | rfl
  · simp at h2; omega
  · simp at h2; omega
/-- the end of the long division: both were scaled -/
theorem kn_end {A b s U Q : Nat} (hs : 0 < s) (hb : 0 < b) (h : U + b * s * Q = A * s) (hU : U < b * s) : U / s = A % b ∧ Q = A / b := by
  have e : A * s = s * A := Nat.mul_comm ..
  have h1 : s * (b * Q) ≤ s * A := by rw [← e, ← h, show b * s * Q = s * (b * Q) by ac_rfl]; omega
  have h2 : b * Q ≤ A := Nat.le_of_mul_le_mul_left h1 hs
  have h3 : U = s * (A - b * Q) := by rw [Nat.mul_sub, ← e, ← h, show b * s * Q = s * (b * Q) by ac_rfl]; omega
  have h4 : A - b * Q < b := by
    rw [h3, Nat.mul_comm b s] at hU
    exact Nat.lt_of_mul_lt_mul_left hU
  have h5 : A = (A - b * Q) + b * Q := by omega
  constructor
  · rw [h3, Nat.mul_div_cancel_left _ hs]
    conv => rhs; rw [h5, Nat.add_mul_mod_self_left]
    exact (Nat.mod_eq_of_lt h4).symm
  · conv => rhs; rw [h5, Nat.add_mul_div_left _ _ hb]
    rw [Nat.div_eq_of_lt h4]; omega
theorem val_one {ys : List Int} (h : ys.length = 1) : val ys = (ys[0]'(by omega)).toNat := by
  match ys, h with
  | [y], _ => simp [val]
theorem div_bounds {xs ys : List Int} (hx : Rng xs) {k : Nat} (hn : xs.length ≤ k) : (digs (val xs / val ys)).length ≤ k ∧ (digs (val xs % val ys)).length ≤ k := by
  have a1 := val_lt hx
  have a2 := pw_mono hn
  exact ⟨digs_len_le (Nat.lt_of_le_of_lt (Nat.div_le_self _ _) (by omega)), digs_len_le (Nat.lt_of_le_of_lt (Nat.mod_le _ _) (by omega))⟩
end
section
open Go.RowKit

/-- the row of the call's own as the loop knows it: at the head of block B -/
def RowAt (w : World) (B : Nat) (os : List Int) : Prop := Own 3 w B (.slice (some ⟨B, 0, none⟩) os.length os.length) os

theorem RowAt.cell {w : World} {B : Nat} {os : List Int} (h : RowAt w B os) {k : Nat} (hk : k < os.length) : w.cell? ⟨B, k, none⟩ = some (.int .i64 os[k]) := by
  rw [h.2.cellAt k (by omega)]; simp [hk]
theorem RowAt.frozen {w : World} {B : Nat} {os : List Int} (h : RowAt w B os) (k : Nat) : w.frozen? ⟨B, k, none⟩ = false := h.2.frozenAt k
theorem RowAt.set {w : World} {B : Nat} {os : List Int} (h : RowAt w B os) (k : Nat) {d : Int} (hd : In64 d) : RowAt (w.setCell ⟨B, k, none⟩ (.int .i64 d)) B (os.set k d) := by
  refine ⟨fun x hx => ?_, ?_⟩
  · rcases List.mem_or_eq_of_mem_set hx with hx | rfl
    · exact h.1 x hx
    · exact hd
  · have := (h.2.stored k (.int .i64 d)).1
    rw [← List.map_set] at this
    simpa using this
theorem RowAt.made (w : World) (n : Nat) (hn : n ≤ 16777216) : RowAt (w.alloc (.cells (madeCells #[.int .i64 0] n) 3)) w.heap.size (List.replicate n 0) := by
  refine ⟨fun x hx => by rw [(List.mem_replicate.1 hx).2]; unfold In64; omega, ?_⟩
  have := World.ownsRow_lit (base := w.heap.size) (size := 1) (e := 3) w (madeCells #[.int .i64 0] n) n (Nat.le_refl _) (by unfold maxLen; omega) (by simp [size_madeCells])
  rw [toList_madeCells_one] at this
  simpa using this

/-- places from k on are 0 -/
def ZeroFrom (os : List Int) (k : Nat) : Prop := ∀ x ∈ os.drop k, x = 0
theorem ZeroFrom.at {os : List Int} {k : Nat} (h : ZeroFrom os k) (hk : k < os.length) : os[k] = 0 := h _ (by rw [List.drop_eq_getElem_cons hk]; exact List.mem_cons_self ..)
theorem ZeroFrom.set {os : List Int} {k j : Nat} (h : ZeroFrom os k) (hj : j < k) (d : Int) : ZeroFrom (os.set j d) k := by
  unfold ZeroFrom at *
  rw [List.drop_set_of_lt hj]; exact h
theorem ZeroFrom.next {os : List Int} {k : Nat} (h : ZeroFrom os k) (d : Int) : ZeroFrom (os.set k d) (k + 1) := by
  unfold ZeroFrom at *
  rw [List.drop_set_of_lt (by omega)]
  intro x hx
  rw [← List.drop_drop (i := 1)] at hx
  exact h x (List.mem_of_mem_drop hx)

theorem prod_bound {x y : Int} (h1 : 0 ≤ x ∧ x ≤ 999999999) (h2 : 0 ≤ y ∧ y ≤ 999999999) : 0 ≤ x * y ∧ x * y ≤ 999999998000000001 := by
  refine ⟨Int.mul_nonneg h1.1 h2.1, ?_⟩
  have := Int.mul_le_mul h1.2 h2.2 h2.1 (by omega)
  omega

set_option maxHeartbeats 4000000 in
theorem natMul_row (a : Option Addr) (ca : Nat) (xs : List Int) (b : Option Addr) (cb : Nat) (ys : List Int) (w : World) (ha : IntsAt w a ca xs) (hb : IntsAt w b cb ys) (hn : xs.length ≤ 500000) (hm : ys.length ≤ 500000) (hx : Rng xs) (hy : Rng ys) :
    Calls Tryz.prog 37 #[.slice a xs.length ca, .slice b ys.length cb] w fun e w' => ∃ v, e = .returned v ∧ Own 3 w' w.heap.size v (digs (val xs * val ys)) ∧ Below w.heap.size w w' := by
  have HA := Lib.hid ha
  have HB := Lib.hid hb
  have HX := Lib.hid hx
  have HY := Lib.hid hy
  clear ha hb hx hy
  have hmk := run_make_ints (xs.length + ys.length) (by omega)
  have ec : ((xs.length + ys.length : Nat) : Int) = (xs.length : Int) + ys.length := by omega
  rw [ec] at hmk
  clear ec
  go_enter Tryz.func37, Tryz.ntmps37
  go_wp2
  go_loopw [20] (fun i wr => ∃ (os : List Int) (k : Nat), i = .int .i64 k ∧ k ≤ xs.length ∧ os.length = xs.length + ys.length ∧ RowAt wr w.heap.size os ∧ Below w.heap.size w wr ∧ Rng os ∧ ZeroFrom os (k + ys.length) ∧ val os = val (xs.take k) * val ys) (fun i _ => xs.length - (intOf i).toNat)
  case atStart => exact ⟨List.replicate (xs.length + ys.length) 0, 0, rfl, Nat.zero_le _, by simp, RowAt.made w _ (by omega), (Below.refl _ _).alloc (Nat.le_refl _) _, fun x hx => by rw [(List.mem_replicate.1 hx).2]; omega, fun x hx => (List.mem_replicate.1 (List.mem_of_mem_drop hx)).2, by simp [val, val_replicate]⟩
  case round =>
    obtain ⟨os, k, rfl, hk, hlen, hown, hbl, hrng, hzero, hval⟩ := hrel
    have HL := Lib.hid hlen
    have HO := Lib.hid hown
    have HBL := Lib.hid hbl
    have HR := Lib.hid hrng
    have HZ := Lib.hid hzero
    have HV := Lib.hid hval
    clear hlen hown hbl hrng hzero hval
    by_cases h1 : k < xs.length
    · obtain ⟨b1, off1, rfl, hc1⟩ := (HA.out.below HBL.out).get h1
      have r1 := HX.out.at h1
      obtain ⟨wo, rfl⟩ : ∃ wo : World, wo = wr := ⟨_, rfl⟩
      go_wp2
      go_loopw [8, 27] (fun c j wr => ∃ (ps : List Int) (q : Int) (m : Nat), j = .int .i64 m ∧ c = .int .i64 q ∧ m ≤ ys.length ∧ 0 ≤ q ∧ q ≤ 999999999 ∧ ps.length = xs.length + ys.length ∧ RowAt wr w.heap.size ps ∧ Below w.heap.size w wr ∧ Rng ps ∧ ZeroFrom ps (k + ys.length) ∧ val ps + pw (k + m) * q.toNat = val (xs.take k) * val ys + pw k * xs[k].toNat * val (ys.take m)) (fun _ j _ => ys.length - (intOf j).toNat)
      case atStart => exact ⟨os, 0, 0, rfl, rfl, Nat.zero_le _, by omega, by omega, HL.out, HO.out, HBL.out, HR.out, HZ.out, by simp [val, HV.out]⟩
      case round =>
        obtain ⟨ps, q, m, rfl, rfl, hm2, hq0, hq1, hlen2, hown2, hbl2, hrng2, hzero2, hval2⟩ := hrel
        have JL := Lib.hid hlen2
        have JO := Lib.hid hown2
        have JB := Lib.hid hbl2
        have JR := Lib.hid hrng2
        have JZ := Lib.hid hzero2
        have JV := Lib.hid hval2
        clear hlen2 hown2 hbl2 hrng2 hzero2 hval2
        by_cases h2 : m < ys.length
        · obtain ⟨b2, off2, rfl, hc2⟩ := (HB.out.below JB.out).get h2
          have r2 := HY.out.at h2
          have hkm : k + m < ps.length := by have := JL.out; omega
          have hc3 := JO.out.cell hkm
          have hf3 := JO.out.frozen (k + m)
          have r3 := JR.out.at hkm
          have r4 := prod_bound r1 r2
          go_wp2
          go_roundw
          case rel =>
            refine ⟨_, (ps[k + m] + xs[k] * ys[m] + q) / 1000000000, m + 1, by go_num, rfl, by omega, by omega, by omega, by rw [List.length_set]; exact JL.out, JO.out.set (k + m) (by unfold In64; omega), JB.out.setCell (Nat.le_refl _) _, rng_set JR.out _ (by omega) (by omega), JZ.out.set (by omega) _, ?_⟩
            have := mul_inner hkm r1.1 r2.1 hq0 r3.1 rfl JV.out
            rw [← Nat.add_assoc, this, take_mul h2]
            omega
          case measure => simp [intOf] <;> omega
        · obtain rfl : m = ys.length := by omega
          have hkm : k + ys.length < ps.length := by have := JL.out; omega
          have hc3 := JO.out.cell hkm
          have hf3 := JO.out.frozen (k + ys.length)
          have r3 := JR.out.at hkm
          go_wp2
          go_roundw
          case rel =>
            have e0 := JZ.out.at hkm
            refine ⟨_, k + 1, by go_num, by omega, by rw [List.length_set]; exact JL.out, JO.out.set (k + ys.length) (by unfold In64; omega), JB.out.setCell (Nat.le_refl _) _, rng_set JR.out _ (by omega) (by omega), ?_, ?_⟩
            · rw [show k + 1 + ys.length = k + ys.length + 1 by omega]; exact JZ.out.next _
            · have h3 := val_set hkm (ps[k + ys.length] + q)
              have h4 := JV.out
              rw [List.take_of_length_le (Nat.le_refl _)] at h4
              rw [e0] at h3 ⊢
              rw [val_take_succ h1, Nat.add_mul]
              simp only [Int.zero_add, Int.toNat_zero, Nat.mul_zero, Nat.add_zero] at h3 ⊢
              omega
          case measure => simp [intOf] <;> omega
    · have hkx : Hid (k = xs.length) := by unfold Hid; omega
      have HT := Lib.hid (trimmed_any (some ⟨w.heap.size, 0, none⟩) os.length os wr HO.out.ints (by have := HL.out; omega) HR.out)
      have HF : Hid (∀ j, j ≤ os.length → os.take j = digs (val os) → j = (digs (val xs * val ys)).length ∧ Own 3 wr w.heap.size (.slice (some ⟨w.heap.size, 0, none⟩) j (xs.length + ys.length)) (digs (val xs * val ys))) := by
        intro j hj ht
        have h3 := HV.out
        rw [hkx.out, List.take_of_length_le (Nat.le_refl _)] at h3
        rw [h3] at ht
        have h4 := own_take HO.out hj
        rw [HL.out, ht] at h4
        have h5 : (os.take j).length = j := by simp; omega
        rw [ht] at h5
        rw [h5] at h4
        exact ⟨h5.symm, h4⟩
      go_wp2_with fail
      have hcall := HT.out
      rw [HL.out] at hcall
      refine hcall.mono ?_
      rintro e w' ⟨⟨j, hj, rfl, ht⟩, rfl⟩
      have HG := Lib.hid (HF.out j (by have := HL.out; omega) ht)
      clear hcall ht
      go_wp2
      go_ret
      exact ⟨_, rfl, HG.out.2, HBL.out⟩
set_option maxHeartbeats 4000000 in
theorem l02Mul_pos (a : Option Addr) (ca : Nat) (xs : List Int) (b : Option Addr) (cb : Nat) (ys : List Int) (w : World) (ha : IntsAt w a ca xs) (hb : IntsAt w b cb ys) (hn : xs.length ≤ 500000) (hm : ys.length ≤ 500000) (hx : Rng xs) (hy : Rng ys) (h0x : 0 < xs.length) (h0y : 0 < ys.length) :
    Calls Tryz.prog 121 #[.slice a xs.length ca, .slice b ys.length cb] w fun e w' => ∃ v, e = .returned v ∧ Own 3 w' w.heap.size v (digs (val xs * val ys)) ∧ Below w.heap.size w w' := by
  have HA := Lib.hid ha
  have HB := Lib.hid hb
  have HX := Lib.hid hx
  have HY := Lib.hid hy
  clear ha hb hx hy
  have hmk := run_make_ints (xs.length + ys.length) (by omega)
  have ec : ((xs.length + ys.length : Nat) : Int) = (xs.length : Int) + ys.length := by omega
  rw [ec] at hmk
  clear ec
  have hz1 : ((xs.length : Int) == 0) = false := beq_eq_false_iff_ne.2 (by omega)
  have hz2 : ((ys.length : Int) == 0) = false := beq_eq_false_iff_ne.2 (by omega)
  go_enter Tryz.func121, Tryz.ntmps121
  go_wp2
  go_loopw [28] (fun i wr => ∃ (os : List Int) (k : Nat), i = .int .i64 k ∧ k ≤ xs.length ∧ os.length = xs.length + ys.length ∧ RowAt wr w.heap.size os ∧ Below w.heap.size w wr ∧ Rng os ∧ ZeroFrom os (k + ys.length) ∧ val os = val (xs.take k) * val ys) (fun i _ => xs.length - (intOf i).toNat)
  case atStart => exact ⟨List.replicate (xs.length + ys.length) 0, 0, rfl, Nat.zero_le _, by simp, RowAt.made w _ (by omega), (Below.refl _ _).alloc (Nat.le_refl _) _, fun x hx => by rw [(List.mem_replicate.1 hx).2]; omega, fun x hx => (List.mem_replicate.1 (List.mem_of_mem_drop hx)).2, by simp [val, val_replicate]⟩
  case round =>
    obtain ⟨os, k, rfl, hk, hlen, hown, hbl, hrng, hzero, hval⟩ := hrel
    have HL := Lib.hid hlen
    have HO := Lib.hid hown
    have HBL := Lib.hid hbl
    have HR := Lib.hid hrng
    have HZ := Lib.hid hzero
    have HV := Lib.hid hval
    clear hlen hown hbl hrng hzero hval
    by_cases h1 : k < xs.length
    · obtain ⟨b1, off1, rfl, hc1⟩ := (HA.out.below HBL.out).get h1
      have r1 := HX.out.at h1
      obtain ⟨wo, rfl⟩ : ∃ wo : World, wo = wr := ⟨_, rfl⟩
      go_wp2
      go_loopw [8, 35] (fun c j wr => ∃ (ps : List Int) (q : Int) (m : Nat), j = .int .i64 m ∧ c = .int .i64 q ∧ m ≤ ys.length ∧ 0 ≤ q ∧ q ≤ 999999999 ∧ ps.length = xs.length + ys.length ∧ RowAt wr w.heap.size ps ∧ Below w.heap.size w wr ∧ Rng ps ∧ ZeroFrom ps (k + ys.length) ∧ val ps + pw (k + m) * q.toNat = val (xs.take k) * val ys + pw k * xs[k].toNat * val (ys.take m)) (fun _ j _ => ys.length - (intOf j).toNat)
      case atStart => exact ⟨os, 0, 0, rfl, rfl, Nat.zero_le _, by omega, by omega, HL.out, HO.out, HBL.out, HR.out, HZ.out, by simp [val, HV.out]⟩
      case round =>
        obtain ⟨ps, q, m, rfl, rfl, hm2, hq0, hq1, hlen2, hown2, hbl2, hrng2, hzero2, hval2⟩ := hrel
        have JL := Lib.hid hlen2
        have JO := Lib.hid hown2
        have JB := Lib.hid hbl2
        have JR := Lib.hid hrng2
        have JZ := Lib.hid hzero2
        have JV := Lib.hid hval2
        clear hlen2 hown2 hbl2 hrng2 hzero2 hval2
        by_cases h2 : m < ys.length
        · obtain ⟨b2, off2, rfl, hc2⟩ := (HB.out.below JB.out).get h2
          have r2 := HY.out.at h2
          have hkm : k + m < ps.length := by have := JL.out; omega
          have hc3 := JO.out.cell hkm
          have hf3 := JO.out.frozen (k + m)
          have r3 := JR.out.at hkm
          have r4 := prod_bound r1 r2
          go_wp2
          go_roundw
          case rel =>
            refine ⟨_, (ps[k + m] + xs[k] * ys[m] + q) / 1000000000, m + 1, by go_num, rfl, by omega, by omega, by omega, by rw [List.length_set]; exact JL.out, JO.out.set (k + m) (by unfold In64; omega), JB.out.setCell (Nat.le_refl _) _, rng_set JR.out _ (by omega) (by omega), JZ.out.set (by omega) _, ?_⟩
            have := mul_inner hkm r1.1 r2.1 hq0 r3.1 rfl JV.out
            rw [← Nat.add_assoc, this, take_mul h2]
            omega
          case measure => simp [intOf] <;> omega
        · obtain rfl : m = ys.length := by omega
          have hkm : k + ys.length < ps.length := by have := JL.out; omega
          have hc3 := JO.out.cell hkm
          have hf3 := JO.out.frozen (k + ys.length)
          have r3 := JR.out.at hkm
          go_wp2
          go_roundw
          case rel =>
            have e0 := JZ.out.at hkm
            refine ⟨_, k + 1, by go_num, by omega, by rw [List.length_set]; exact JL.out, JO.out.set (k + ys.length) (by unfold In64; omega), JB.out.setCell (Nat.le_refl _) _, rng_set JR.out _ (by omega) (by omega), ?_, ?_⟩
            · rw [show k + 1 + ys.length = k + ys.length + 1 by omega]; exact JZ.out.next _
            · have h3 := val_set hkm q
              have h4 := JV.out
              rw [List.take_of_length_le (Nat.le_refl _)] at h4
              rw [e0] at h3
              rw [val_take_succ h1, Nat.add_mul]
              simp only [Int.toNat_zero, Nat.mul_zero, Nat.add_zero] at h3
              omega
          case measure => simp [intOf] <;> omega
    · have hkx : Hid (k = xs.length) := by unfold Hid; omega
      have HT := Lib.hid (l02Trim_any (some ⟨w.heap.size, 0, none⟩) os.length os wr HO.out.ints (by have := HL.out; omega) HR.out)
      have HF : Hid (∀ j, j ≤ os.length → os.take j = digs (val os) → j = (digs (val xs * val ys)).length ∧ Own 3 wr w.heap.size (.slice (some ⟨w.heap.size, 0, none⟩) j (xs.length + ys.length)) (digs (val xs * val ys))) := by
        intro j hj ht
        have h3 := HV.out
        rw [hkx.out, List.take_of_length_le (Nat.le_refl _)] at h3
        rw [h3] at ht
        have h4 := own_take HO.out hj
        rw [HL.out, ht] at h4
        have h5 : (os.take j).length = j := by simp; omega
        rw [ht] at h5
        rw [h5] at h4
        exact ⟨h5.symm, h4⟩
      go_wp2_with fail
      have hcall := HT.out
      rw [HL.out] at hcall
      refine hcall.mono ?_
      rintro e w' ⟨⟨j, hj, rfl, ht⟩, rfl⟩
      have HG := Lib.hid (HF.out j (by have := HL.out; omega) ht)
      clear hcall ht
      go_wp2
      go_ret
      exact ⟨_, rfl, HG.out.2, HBL.out⟩

theorem l02Mul_own (a : Option Addr) (ca : Nat) (xs : List Int) (b : Option Addr) (cb : Nat) (ys : List Int) (w : World) (ha : IntsAt w a ca xs) (hb : IntsAt w b cb ys) (hn : xs.length ≤ 500000) (hm : ys.length ≤ 500000) (hx : Rng xs) (hy : Rng ys) :
    Calls Tryz.prog 121 #[.slice a xs.length ca, .slice b ys.length cb] w fun e w' => ∃ v, e = .returned v ∧ Own 3 w' w.heap.size v (digs (val xs * val ys)) ∧ Below w.heap.size w w' := by
  by_cases h1 : 0 < xs.length
  · by_cases h2 : 0 < ys.length
    · exact l02Mul_pos a ca xs b cb ys w ha hb hn hm hx hy h1 h2
    · have e : Hid (digs (val xs * val ys) = []) := by
        have : ys = [] := List.eq_nil_of_length_eq_zero (by omega)
        subst this
        simp [Hid, val, digs_zero]
      have hz1 : ((xs.length : Int) == 0) = false := beq_eq_false_iff_ne.2 (by omega)
      have hz2 : ((ys.length : Int) == 0) = true := beq_iff_eq.2 (by omega)
      clear ha hb
      go_enter Tryz.func121, Tryz.ntmps121
      go_wp2
      go_ret
      exact ⟨_, rfl, by rw [e.out]; exact own_nil _ _, Below.refl _ _⟩
  · have e : Hid (digs (val xs * val ys) = []) := by
      have : xs = [] := List.eq_nil_of_length_eq_zero (by omega)
      subst this
      simp [Hid, val, digs_zero]
    have hz1 : ((xs.length : Int) == 0) = true := beq_iff_eq.2 (by omega)
    clear ha hb
    go_enter Tryz.func121, Tryz.ntmps121
    go_wp2
    go_ret
    exact ⟨_, rfl, by rw [e.out]; exact own_nil _ _, Below.refl _ _⟩

def natMulL (xs ys : List Int) : List Int := if natOkB xs && natOkB ys then capD (val xs * val ys) else []
theorem natMulL_len (xs ys : List Int) : (natMulL xs ys).length ≤ 1048576 := by unfold natMulL; split; have := capD_len (val xs * val ys); omega; simp
theorem mul_len {xs ys : List Int} (h1 : natOkB xs = true) (h2 : natOkB ys = true) : (digs (val xs * val ys)).length ≤ 1048576 := by
  have a1 := val_lt (ok_rng h1)
  have a2 := val_lt (ok_rng h2)
  have b1 := pw_mono (ok_len h1)
  have b2 := pw_mono (ok_len h2)
  have : (digs (val xs * val ys)).length ≤ 120 := digs_len_le (by rw [show 120 = 60 + 60 by rfl, pw_add]; exact Nat.mul_lt_mul'' (by omega) (by omega))
  omega
end
section
open Go.RowKit

section
variable (a : Option Addr) (ca : Nat) (xs : List Int) (b : Option Addr) (cb : Nat) (ys : List Int) (w : World) (ha : IntsAt w a ca xs) (hn : xs.length ≤ 1048576) (hb : IntsAt w b cb ys) (hm : ys.length ≤ 1048576)
include ha hn hb hm
end
end
section
open Go.RowKit

theorem sub_end {ds xs ys : List Int} {b : Int} (hl : ds.length = xs.length) (hr : Rng ds) (hb : 0 ≤ b) (hle : val ys ≤ val xs) (h : val ds + val ys = val xs + pw xs.length * b.toNat) : val ds = val xs - val ys := by
  have h1 := val_lt hr
  rw [hl] at h1
  rcases Nat.eq_zero_or_pos b.toNat with h0 | h0
  · rw [h0] at h; omega
  · have : pw xs.length * 1 ≤ pw xs.length * b.toNat := Nat.mul_le_mul_left _ h0
    omega

theorem le_of_cmp {xs ys : List Int} (hx : Rng xs) (hy : Rng ys) (h : val ys ≤ val xs) (h2 : digs (val ys) = ys) (h3 : digs (val xs) = xs) : ys.length ≤ xs.length := by
  rcases Nat.lt_or_ge xs.length ys.length with h1 | h1
  · have := digs_len_lt (m := val xs) (n := val ys) (by rw [h2, h3]; exact h1)
    omega
  · exact h1

set_option maxHeartbeats 4000000 in
theorem l02Sub_any (a : Option Addr) (ca : Nat) (xs : List Int) (b : Option Addr) (cb : Nat) (ys : List Int) (w : World) (ha : IntsAt w a ca xs) (hb : IntsAt w b cb ys) (hn : xs.length ≤ 1048576) (hyx : ys.length ≤ xs.length) (hx : Rng xs) (hy : Rng ys) (hle : val ys ≤ val xs) :
    Calls Tryz.prog 120 #[.slice a xs.length ca, .slice b ys.length cb] w fun e w' => ∃ v, e = .returned v ∧ Own 3 w' w.heap.size v (digs (val xs - val ys)) ∧ Below w.heap.size w w' := by
  have HA := Lib.hid ha
  have HB := Lib.hid hb
  have HX := Lib.hid hx
  have HY := Lib.hid hy
  have HLE := Lib.hid hle
  clear ha hb hx hy hle
  go_enter Tryz.func120, Tryz.ntmps120
  go_wp2
  go_loopw [5, 6, 12] (fun v c j wr => ∃ (ds : List Int) (q : Int) (k : Nat), j = .int .i64 k ∧ c = .int .i64 q ∧ 0 ≤ q ∧ q ≤ 1 ∧ ds.length = k ∧ k ≤ xs.length ∧ Own 3 wr w.heap.size v ds ∧ Below w.heap.size w wr ∧ Rng ds ∧ val ds + val (ys.take k) = val (xs.take k) + pw k * q.toNat) (fun _ _ j _ => xs.length - (intOf j).toNat)
  case atStart => exact ⟨[], 0, 0, rfl, rfl, by omega, by omega, rfl, by omega, own_empty w, (Below.refl _ _).alloc (Nat.le_refl _) _, Rng.nil, by simp [val]⟩
  case round =>
    obtain ⟨ds, q, k, rfl, rfl, hq0, hq1, hlen, hk, hown, hbl, hrng, hval⟩ := hrel
    have HL := Lib.hid hlen
    have HO := Lib.hid hown
    have HBL := Lib.hid hbl
    have HR := Lib.hid hrng
    have HV := Lib.hid hval
    clear hlen hown hbl hrng hval
    have hdl : ds.length + 1 ≤ 16777216 := by have := HL.out; omega
    by_cases h1 : k < xs.length
    · obtain ⟨b1, off1, rfl, hc1⟩ := (HA.out.below HBL.out).get h1
      have r1 := HX.out.at h1
      have V1 := Lib.hid (val_take_succ h1)
      by_cases h2 : k < ys.length
      · obtain ⟨b2, off2, rfl, hc2⟩ := (HB.out.below HBL.out).get h2
        have r2 := HY.out.at h2
        have V2 := Lib.hid (val_take_succ h2)
        by_cases h3 : xs[k] - q - ys[k] < 0
        · go_wp2_with (at_builtin; go_must (refine append_int HO.out (n := xs[k] - q - ys[k] + 1000000000) (by unfold In64; omega) hdl HBL.out.size rfl _ _ rfl rfl rfl ?_); intro v' w1 hown1 hb1 _)
          go_roundw
          case rel =>
            refine ⟨_, 1, k + 1, by go_num, rfl, by omega, by omega, by simp [HL.out], by omega, hown1, HBL.out.trans hb1, rng_snoc HR.out (by omega) (by omega), ?_⟩
            rw [V1.out, V2.out]
            exact sub_step HL.out hq0 r1.1 r2.1 HV.out (by omega) (by omega) (by omega)
          case measure => simp [intOf] <;> omega
        · go_wp2_with (at_builtin; go_must (refine append_int HO.out (n := xs[k] - q - ys[k]) (by unfold In64; omega) hdl HBL.out.size rfl _ _ rfl rfl rfl ?_); intro v' w1 hown1 hb1 _)
          go_roundw
          case rel =>
            refine ⟨_, 0, k + 1, by go_num, rfl, by omega, by omega, by simp [HL.out], by omega, hown1, HBL.out.trans hb1, rng_snoc HR.out (by omega) (by omega), ?_⟩
            rw [V1.out, V2.out]
            exact sub_step HL.out hq0 r1.1 r2.1 HV.out (by omega) (by omega) (by omega)
          case measure => simp [intOf] <;> omega
      · have V2 : Hid (val (ys.take (k + 1)) = val (ys.take k) + pw k * (0 : Int).toNat) := by unfold Hid; rw [List.take_of_length_le (by omega), List.take_of_length_le (by omega)]; simp
        by_cases h3 : xs[k] - q < 0
        · go_wp2_with (at_builtin; go_must (refine append_int HO.out (n := xs[k] - q + 1000000000) (by unfold In64; omega) hdl HBL.out.size rfl _ _ rfl rfl rfl ?_); intro v' w1 hown1 hb1 _)
          go_roundw
          case rel =>
            refine ⟨_, 1, k + 1, by go_num, rfl, by omega, by omega, by simp [HL.out], by omega, hown1, HBL.out.trans hb1, rng_snoc HR.out (by omega) (by omega), ?_⟩
            rw [V1.out, V2.out]
            exact sub_step HL.out hq0 r1.1 (by omega) HV.out (by omega) (by omega) (by omega)
          case measure => simp [intOf] <;> omega
        · go_wp2_with (at_builtin; go_must (refine append_int HO.out (n := xs[k] - q) (by unfold In64; omega) hdl HBL.out.size rfl _ _ rfl rfl rfl ?_); intro v' w1 hown1 hb1 _)
          go_roundw
          case rel =>
            refine ⟨_, 0, k + 1, by go_num, rfl, by omega, by omega, by simp [HL.out], by omega, hown1, HBL.out.trans hb1, rng_snoc HR.out (by omega) (by omega), ?_⟩
            rw [V1.out, V2.out]
            exact sub_step HL.out hq0 r1.1 (by omega) HV.out (by omega) (by omega) (by omega)
          case measure => simp [intOf] <;> omega
    · have hkx : Hid (k = xs.length) := by unfold Hid; omega
      obtain ⟨p, c, rfl, hi⟩ := HO.out.form
      have HI := Lib.hid hi
      clear hi
      have HE : Hid (val ds = val xs - val ys) := by
        have h3 := HV.out
        rw [hkx.out, List.take_of_length_le (Nat.le_refl _), List.take_of_length_le (by omega)] at h3
        exact sub_end (HL.out.trans hkx.out) HR.out hq0 HLE.out h3
      go_wp2_with fail
      refine (l02Trim_any p c ds _ HI.out (by have := HL.out; omega) HR.out).mono ?_
      rintro e w' ⟨⟨j, hj, rfl, ht⟩, rfl⟩
      have HG : Hid (Own 3 wr w.heap.size (.slice p j c) (digs (val xs - val ys))) := by
        have h4 := own_take HO.out hj
        have h5 : (ds.take j).length = j := by simp; omega
        rw [h5, ht, HE.out] at h4
        exact h4
      clear ht
      go_wp2
      go_ret
      exact ⟨_, rfl, HG.out, HBL.out⟩

theorem own_at {w : World} {lo : Nat} {p : Option Addr} {n c : Nat} {os : List Int} (h : Own 3 w lo (.slice p n c) os) {k : Nat} (hk : k < os.length) :
    ∃ g, p = some ⟨g, 0, none⟩ ∧ lo ≤ g ∧ g < w.heap.size ∧ w.cell? ⟨g, k, none⟩ = some (.int .i64 os[k]) ∧ w.frozen? ⟨g, k, none⟩ = false := by
  rcases h.2.2 with ⟨_, h0⟩ | ⟨g, cap, cur, hv, hb, hg, hnc, hcm, hcs, ht⟩
  · omega
  · have hv' := hv
    simp only [Value.slice.injEq] at hv
    obtain ⟨rfl, rfl, rfl⟩ := hv
    refine ⟨g, rfl, hb, (Array.getElem?_eq_some_iff.1 hg).1, ?_, h.2.frozenAt k⟩
    rw [h.2.cellAt k (by omega)]; simp [hk]
theorem own_set {w : World} {lo g : Nat} {n c : Nat} {os : List Int} (h : Own 3 w lo (.slice (some ⟨g, 0, none⟩) n c) os) (hn : n = os.length) (k : Nat) {d : Int} (hd : In64 d) :
    Own 3 (w.setCell ⟨g, k, none⟩ (.int .i64 d)) lo (.slice (some ⟨g, 0, none⟩) n c) (os.set k d) := by
  subst hn
  refine ⟨fun x hx => ?_, ?_⟩
  · rcases List.mem_or_eq_of_mem_set hx with hx | rfl
    · exact h.1 x hx
    · exact hd
  · have := (h.2.stored k (.int .i64 d)).1
    rw [← List.map_set] at this
    simpa using this
theorem own_drew {w : World} {lo : Nat} {v : Value} {os : List Int} (h : Own 3 w lo v os) : Own 3 w.drew lo v os := h.below (Below.refl _ _).drew
theorem sub_rel {os xs ys : List Int} {k : Nat} {q v q' y : Int} (hk : k < xs.length) (HL : os.length = xs.length) (HR : Rng os) (HX : Rng xs) (HD : os.drop k = xs.drop k)
    (HV : val (os.take k) + val (ys.take k) = val (xs.take k) + pw k * q.toNat) (hq : 0 ≤ q) (hq' : 0 ≤ q') (hy : 0 ≤ y) (h0 : 0 ≤ v) (h1 : v ≤ 999999999) (hv : v = xs[k] - q - y + 1000000000 * q')
    (V2 : val (ys.take (k + 1)) = val (ys.take k) + pw k * y.toNat) :
    (os.set k v).length = xs.length ∧ Rng (os.set k v) ∧ (os.set k v).drop (k + 1) = xs.drop (k + 1) ∧ val ((os.set k v).take (k + 1)) + val (ys.take (k + 1)) = val (xs.take (k + 1)) + pw (k + 1) * q'.toNat := by
  refine ⟨by simpa using HL, rng_set HR k h0 h1, ?_, ?_⟩
  · rw [List.drop_set_of_lt (by omega)]
    have := congrArg (List.drop 1) HD
    simpa [List.drop_drop] using this
  · have e : (os.set k v).take (k + 1) = os.take k ++ [v] := by
      rw [List.take_succ_eq_append_getElem (by simpa [HL] using hk), List.take_set, List.set_eq_of_length_le (by simp; omega)]
      simp
    rw [e, V2, val_take_succ hk]
    exact sub_step (by simp; omega) hq (HX.at hk).1 hy HV hq' hv h0
/-- a store beside a cell -/
theorem other_cell {w : World} {g k b off j : Nat} {v u : Value} (h : w.cell? ⟨b, off + j, none⟩ = some u) (hb : b < g) : (w.setCell ⟨g, k, none⟩ v).cell? ⟨b, off + j, none⟩ = some u := by
  rw [World.cell?_of_block (w := w) (Below.heap_setCell _ _ _ _ (by simp; omega))]; exact h

set_option maxHeartbeats 4000000 in
theorem natSub_any (a : Option Addr) (ca : Nat) (xs : List Int) (b : Option Addr) (cb : Nat) (ys : List Int) (w : World) (ha : IntsAt w a ca xs) (hb : IntsAt w b cb ys) (hn : xs.length ≤ 1048576) (hyx : ys.length ≤ xs.length) (hx : Rng xs) (hy : Rng ys) (hle : val ys ≤ val xs) :
    Calls Tryz.prog 79 #[.slice a xs.length ca, .slice b ys.length cb] w fun e w' => ∃ v, e = .returned v ∧ Own 3 w' w.heap.size v (digs (val xs - val ys)) ∧ Below w.heap.size w w' := by
  have HA := Lib.hid ha
  have HB := Lib.hid hb
  have HX := Lib.hid hx
  have HY := Lib.hid hy
  have HLE := Lib.hid hle
  clear ha hb hx hy hle
  go_enter Tryz.func79, Tryz.ntmps79
  go_wp2_with fail
  refine (clone_any _ _ _ _ HA.out hn).mono ?_
  rintro e w1 ⟨v0, rfl, hown0, hb0⟩
  obtain ⟨p, c, rfl, hi0⟩ := hown0.form
  have HO0 := Lib.hid hown0
  have HB0 := Lib.hid hb0
  clear hown0 hb0 hi0
  go_wp2
  go_loopw [6, 12] (fun c0 j wr => ∃ (os : List Int) (q : Int) (k : Nat), j = .int .i64 k ∧ c0 = .int .i64 q ∧ 0 ≤ q ∧ q ≤ 1 ∧ k ≤ xs.length ∧ os.length = xs.length ∧ Own 3 wr w.heap.size (.slice p xs.length c) os ∧ Below w.heap.size w wr ∧ Rng os ∧ os.drop k = xs.drop k ∧ val (os.take k) + val (ys.take k) = val (xs.take k) + pw k * q.toNat) (fun _ j _ => xs.length - (intOf j).toNat)
  case atStart => exact ⟨xs, 0, 0, rfl, rfl, by omega, by omega, by omega, rfl, HO0.out, HB0.out, HX.out, rfl, by simp [val]⟩
  case round =>
    obtain ⟨os, q, k, rfl, rfl, hq0, hq1, hk, hlen, hown, hbl, hrng, hdrop, hval⟩ := hrel
    have HL := Lib.hid hlen
    have HO := Lib.hid hown
    have HBL := Lib.hid hbl
    have HR := Lib.hid hrng
    have HD := Lib.hid hdrop
    have HV := Lib.hid hval
    clear hlen hown hbl hrng hdrop hval
    by_cases h1 : k < xs.length
    · obtain ⟨g, rfl, hlo, hgs, hc1, hf1⟩ := own_at HO.out (k := k) (by rw [HL.out]; exact h1)
      have r1 := HX.out.at h1
      have V1 := Lib.hid (val_take_succ h1)
      have ho1 : os[k]'(by rw [HL.out]; exact h1) = xs[k] := by
        have := HD.out
        rw [List.drop_eq_getElem_cons h1, List.drop_eq_getElem_cons (by rw [HL.out]; exact h1)] at this
        exact (List.cons.inj this).1
      rw [ho1] at hc1
      clear ho1
      by_cases h2 : k < ys.length
      · obtain ⟨b2, off2, rfl, hc2⟩ := (HB.out.below HBL.out).get h2
        have hb2 : b2 < g := by
          rcases HB.out.at_ with h | ⟨b3, o3, e3, hlt, _⟩
          · subst h; simp at h2
          · cases e3; omega
        have r2 := HY.out.at h2
        have V2 := Lib.hid (val_take_succ h2)
        have hc3 := fun v => other_cell (k := k) (v := v) hc2 hb2
        clear hb2
        go_wp2
        go_region
        all_goals go_wp2
        all_goals
          go_roundw
          case rel =>
            first
              | (have hr := sub_rel (v := xs[k] - q - ys[k] + 1000000000) (q' := 1) h1 HL.out HR.out HX.out HD.out HV.out hq0 (by omega) r2.1 (by omega) (by omega) (by omega) V2.out
                 have ho := own_drew (own_set (own_set (own_set HO.out HL.out.symm k (d := xs[k] - q) (by unfold In64; omega)) (by simp [HL.out]) k (d := xs[k] - q - ys[k]) (by unfold In64; omega)) (by simp [HL.out]) k (d := xs[k] - q - ys[k] + 1000000000) (by unfold In64; omega))
                 simp only [List.set_set] at ho
                 exact ⟨_, 1, k + 1, by go_num, rfl, by omega, by omega, by omega, hr.1, ho, (((HBL.out.setCell hlo _).setCell hlo _).setCell hlo _).drew, hr.2⟩)
              | (have hr := sub_rel (v := xs[k] - q - ys[k]) (q' := 0) h1 HL.out HR.out HX.out HD.out HV.out hq0 (by omega) r2.1 (by omega) (by omega) (by omega) V2.out
                 have ho := own_drew (own_set (own_set HO.out HL.out.symm k (d := xs[k] - q) (by unfold In64; omega)) (by simp [HL.out]) k (d := xs[k] - q - ys[k]) (by unfold In64; omega))
                 simp only [List.set_set] at ho
                 exact ⟨_, 0, k + 1, by go_num, rfl, by omega, by omega, by omega, hr.1, ho, ((HBL.out.setCell hlo _).setCell hlo _).drew, hr.2⟩)
          case measure => simp [intOf] <;> omega
      · have V2 : Hid (val (ys.take (k + 1)) = val (ys.take k) + pw k * (0 : Int).toNat) := by unfold Hid; rw [List.take_of_length_le (by omega), List.take_of_length_le (by omega)]; simp
        go_wp2
        all_goals
          go_roundw
          case rel =>
            first
              | (have hr := sub_rel (v := xs[k] - q + 1000000000) (q' := 1) h1 HL.out HR.out HX.out HD.out HV.out hq0 (by omega) (y := 0) (by omega) (by omega) (by omega) (by omega) V2.out
                 have ho := own_set (own_set HO.out HL.out.symm k (d := xs[k] - q) (by unfold In64; omega)) (by simp [HL.out]) k (d := xs[k] - q + 1000000000) (by unfold In64; omega)
                 simp only [List.set_set] at ho
                 exact ⟨_, 1, k + 1, by go_num, rfl, by omega, by omega, by omega, hr.1, ho, ((HBL.out.setCell hlo _).setCell hlo _), hr.2⟩)
              | (have hr := sub_rel (v := xs[k] - q) (q' := 0) h1 HL.out HR.out HX.out HD.out HV.out hq0 (by omega) (y := 0) (by omega) (by omega) (by omega) (by omega) V2.out
                 exact ⟨_, 0, k + 1, by go_num, rfl, by omega, by omega, by omega, hr.1, own_set HO.out HL.out.symm k (d := xs[k] - q) (by unfold In64; omega), (HBL.out.setCell hlo _), hr.2⟩)
          case measure => simp [intOf] <;> omega
    · have hkx : Hid (k = xs.length) := by unfold Hid; omega
      have hoi : Hid (Own 3 wr w.heap.size (.slice p os.length c) os) := by rw [HL.out]; exact HO.out
      have HE : Hid (val os = val xs - val ys) := by
        have h3 := HV.out
        have hl := HL.out
        rw [hkx.out, List.take_of_length_le (Nat.le_of_eq hl), List.take_of_length_le (Nat.le_refl _), List.take_of_length_le (by omega)] at h3
        exact sub_end HL.out HR.out hq0 HLE.out h3
      go_wp2_with fail
      have hcall := trimmed_any p c os wr hoi.out.ints (by have := HL.out; omega) HR.out
      rw [HL.out] at hcall
      refine hcall.mono ?_
      rintro e w' ⟨⟨j, hj, rfl, ht⟩, rfl⟩
      have HG : Hid (Own 3 wr w.heap.size (.slice p j c) (digs (val xs - val ys))) := by
        have hl := HL.out
        have h4 := own_take hoi.out (k := j) (by omega)
        have h5 : (os.take j).length = j := by simp; omega
        rw [h5, ht, HE.out] at h4
        exact h4
      clear ht hcall
      go_wp2
      go_ret
      exact ⟨_, rfl, HG.out, HBL.out⟩

theorem cmp_lt {xs ys : List Int} (h1 : natOkB xs = true) (h2 : natOkB ys = true) : cmpL xs ys = cmpN (val xs) (val ys) := by
  have := cmpL_digs (val xs) (val ys)
  rwa [ok_digs h1, ok_digs h2] at this
def natSubL (xs ys : List Int) : List Int := if natOkB xs && natOkB ys then digs (val xs - val ys) else []
theorem natSubL_len (xs ys : List Int) : (natSubL xs ys).length ≤ 1048576 := by
  unfold natSubL
  split
  · rename_i h
    simp only [Bool.and_eq_true] at h
    have a1 := val_lt (ok_rng h.1)
    have b1 := pw_mono (ok_len h.1)
    have : (digs (val xs - val ys)).length ≤ 60 := digs_len_le (by omega)
    omega
  · simp
end
section
open Go.RowKit

section
variable (a : Option Addr) (ca : Nat) (xs : List Int) (b : Option Addr) (cb : Nat) (ys : List Int) (w : World) (ha : IntsAt w a ca xs) (hn : xs.length ≤ 1048576) (hb : IntsAt w b cb ys) (hm : ys.length ≤ 1048576)
include ha hn hb hm
end
end
section
open Go.RowKit

theorem digs_step {m : Int} {ds xs : List Int} (hp : 0 < m) (h : ds ++ digs m.toNat = xs) : (ds ++ [m % 1000000000]) ++ digs (m / 1000000000).toNat = xs := by
  rw [← h, digs_pos (n := m.toNat) (by omega), List.append_assoc, show m.toNat / 1000000000 = (m / 1000000000).toNat by omega]
  congr 1
  simp only [List.singleton_append, List.cons.injEq, and_true]
  omega

set_option maxHeartbeats 400000 in
theorem specNatOf_own (n : Int) (w : World) (hn : n ≤ 9223372036854775807) :
    Calls Tryz.prog 87 #[.int .i64 n] w fun e w' => ∃ v, e = .returned v ∧ Own 3 w' w.heap.size v (digs n.toNat) ∧ Below w.heap.size w w' := by
  go_enter Tryz.func87, Tryz.ntmps87
  go_wp2
  go_loopw [0, 3] (fun i v wr => ∃ (m : Int) (ds : List Int), m ≤ 9223372036854775807 ∧ i = .int .i64 m ∧ Own 3 wr w.heap.size v ds ∧ Below w.heap.size w wr ∧ ds ++ digs m.toNat = digs n.toNat) (fun i _ _ => (intOf i).toNat)
  case atStart => exact ⟨n, [], hn, rfl, own_empty w, (Below.refl _ _).alloc (Nat.le_refl _) _, rfl⟩
  case round =>
    obtain ⟨m, ds, hm, rfl, hown, hb, heq⟩ := hrel
    have HO := Lib.hid hown
    have HB := Lib.hid hb
    have HE := Lib.hid heq
    clear hown hb heq
    by_cases hp : 0 < m
    · have hlen : Hid (ds.length + 1 ≤ 16777216) := by
        have h1 := congrArg List.length HE.out
        have h2 : (digs n.toNat).length ≤ 3 := digs_len_le (by unfold pw; omega)
        simp at h1; unfold Hid; omega
      go_wp2_with (at_builtin; go_must (refine append_int HO.out (n := m % 1000000000) (by unfold In64; omega) hlen.out HB.out.size rfl _ _ rfl rfl rfl ?_); intro v' w1 hown1 hb1 _)
      go_roundw
      case rel => exact ⟨m / 1000000000, _, by omega, rfl, hown1, HB.out.trans hb1, digs_step hp HE.out⟩
      case measure => simp [intOf]; omega
    · go_wp2
      go_ret
      refine ⟨_, rfl, ?_, HB.out⟩
      have := HE.out
      rw [show m.toNat = 0 by omega, digs_zero, List.append_nil] at this
      rw [← this]; exact HO.out

set_option maxHeartbeats 400000 in
theorem natOf_any (n : Int) (w : World) (h0 : 0 ≤ n) (hn : n ≤ 18446744073709551615) :
    Calls Tryz.prog 63 #[.int .u64 n] w fun e w' => ∃ v, e = .returned v ∧ Own 3 w' w.heap.size v (digs n.toNat) ∧ Below w.heap.size w w' := by
  go_enter Tryz.func63, Tryz.ntmps63
  go_wp2
  go_loopw [0, 3] (fun i v wr => ∃ (m : Int) (ds : List Int), 0 ≤ m ∧ m ≤ 18446744073709551615 ∧ i = .int .u64 m ∧ Own 3 wr w.heap.size v ds ∧ Below w.heap.size w wr ∧ ds ++ digs m.toNat = digs n.toNat) (fun i _ _ => (intOf i).toNat)
  case atStart => exact ⟨n, [], h0, hn, rfl, own_empty w, (Below.refl _ _).alloc (Nat.le_refl _) _, rfl⟩
  case round =>
    obtain ⟨m, ds, hm0, hm, rfl, hown, hb, heq⟩ := hrel
    have HO := Lib.hid hown
    have HB := Lib.hid hb
    have HE := Lib.hid heq
    clear hown hb heq
    by_cases hp : 0 < m
    · have hlen : Hid (ds.length + 1 ≤ 16777216) := by
        have h1 := congrArg List.length HE.out
        have h2 : (digs n.toNat).length ≤ 3 := digs_len_le (by unfold pw; omega)
        simp at h1; unfold Hid; omega
      go_wp2_with (at_builtin; go_must (refine append_int HO.out (n := m % 1000000000) (by unfold In64; omega) hlen.out HB.out.size rfl _ _ rfl rfl rfl ?_); intro v' w1 hown1 hb1 _)
      go_roundw
      case rel => exact ⟨m / 1000000000, _, by omega, by omega, rfl, hown1, HB.out.trans hb1, digs_step hp HE.out⟩
      case measure => simp [intOf]; omega
    · go_wp2
      go_ret
      refine ⟨_, rfl, ?_, HB.out⟩
      have := HE.out
      rw [show m.toNat = 0 by omega, digs_zero, List.append_nil] at this
      rw [← this]; exact HO.out

theorem specNatOf_any (n : Int) (w : World) (hn : In64 n) :
    Calls Tryz.prog 87 #[.int .i64 n] w fun e w' => ∃ a c, e = .returned (.slice a (digs n.toNat).length c) ∧ IntsAt w' a c (digs n.toNat) ∧ Below w.heap.size w w' :=
  (specNatOf_own n w hn.2).mono fun _ _ ⟨_, h1, h2, h3⟩ => let ⟨a, c, h4, h5⟩ := h2.out; ⟨a, c, by rw [h1, h4], h5.ints, h3⟩
end
end Go.Proofs.YtehhpkeabckdaaaGreatDoor
