/- The product of naturals. -/
import Derived.Test.YtjklefkkdaelnaaDoorNatOps
import Derived.Test.YtjklefkkdaelnaaDoorMulLaw
namespace Go.Proofs.YtjklefkkdaelnaaDoor
set_option linter.unusedVariables false
set_option linter.unusedSimpArgs false
open Go.RowKit

/-- the row of the call's own as the loop knows it: at the head of block B -/
def RowAt (w : World) (B : Nat) (os : List Int) : Prop := Own 3 w B (.slice (some ⟨B, 0, none⟩) os.length os.length) os

theorem RowAt.cell {w : World} {B : Nat} {os : List Int} (h : RowAt w B os) {k : Nat} (hk : k < os.length) : w.cell? ⟨B, k, none⟩ = some (.int .i64 os[k]) := by
  rw [h.2.cellAt k (by omega)]; simp [hk]
theorem RowAt.frozen {w : World} {B : Nat} {os : List Int} (h : RowAt w B os) (k : Nat) : w.frozen? ⟨B, k, none⟩ = false := h.2.frozenAt k
theorem RowAt.set {w : World} {B : Nat} {os : List Int} (h : RowAt w B os) (k : Nat) {d : Int} (hd : In64 d) : RowAt (w.setCell ⟨B, k, none⟩ (.int .i64 d)) B (os.set k d) := by
  refine ⟨fun x hx => ?_, ?_⟩
  · rcases List.mem_or_eq_of_mem_set hx with hx | rfl
    · exact h.1 x hx
    · exact hd
  · have := (h.2.stored k (.int .i64 d)).1
    rw [← List.map_set] at this
    simpa using this
theorem RowAt.made (w : World) (n : Nat) (hn : n ≤ 16777216) : RowAt (w.alloc (.cells (madeCells #[.int .i64 0] n) 3)) w.heap.size (List.replicate n 0) := by
  refine ⟨fun x hx => by rw [(List.mem_replicate.1 hx).2]; unfold In64; omega, ?_⟩
  have := World.ownsRow_lit (base := w.heap.size) (size := 1) (e := 3) w (madeCells #[.int .i64 0] n) n (Nat.le_refl _) (by unfold maxLen; omega) (by simp [size_madeCells])
  rw [toList_madeCells_one] at this
  simpa using this

/-- places from k on are 0 -/
def ZeroFrom (os : List Int) (k : Nat) : Prop := ∀ x ∈ os.drop k, x = 0
theorem ZeroFrom.at {os : List Int} {k : Nat} (h : ZeroFrom os k) (hk : k < os.length) : os[k] = 0 := h _ (by rw [List.drop_eq_getElem_cons hk]; exact List.mem_cons_self ..)
theorem ZeroFrom.set {os : List Int} {k j : Nat} (h : ZeroFrom os k) (hj : j < k) (d : Int) : ZeroFrom (os.set j d) k := by
  unfold ZeroFrom at *
  rw [List.drop_set_of_lt hj]; exact h
theorem ZeroFrom.next {os : List Int} {k : Nat} (h : ZeroFrom os k) (d : Int) : ZeroFrom (os.set k d) (k + 1) := by
  unfold ZeroFrom at *
  rw [List.drop_set_of_lt (by omega)]
  intro x hx
  rw [← List.drop_drop (i := 1)] at hx
  exact h x (List.mem_of_mem_drop hx)

theorem prod_bound {x y : Int} (h1 : 0 ≤ x ∧ x ≤ 999999999) (h2 : 0 ≤ y ∧ y ≤ 999999999) : 0 ≤ x * y ∧ x * y ≤ 999999998000000001 := by
  refine ⟨Int.mul_nonneg h1.1 h2.1, ?_⟩
  have := Int.mul_le_mul h1.2 h2.2 h2.1 (by omega)
  omega

set_option maxHeartbeats 4000000 in
theorem natMul_row (a : Option Addr) (ca : Nat) (xs : List Int) (b : Option Addr) (cb : Nat) (ys : List Int) (w : World) (ha : IntsAt w a ca xs) (hb : IntsAt w b cb ys) (hn : xs.length ≤ 500000) (hm : ys.length ≤ 500000) (hx : Rng xs) (hy : Rng ys) :
    Calls Tryd.prog 84 #[.slice a xs.length ca, .slice b ys.length cb] w fun e w' => ∃ v, e = .returned v ∧ Own 3 w' w.heap.size v (digs (val xs * val ys)) ∧ Below w.heap.size w w' := by
  have HA := Lib.hid ha
  have HB := Lib.hid hb
  have HX := Lib.hid hx
  have HY := Lib.hid hy
  clear ha hb hx hy
  have hmk := run_make_ints (xs.length + ys.length) (by omega)
  have ec : ((xs.length + ys.length : Nat) : Int) = (xs.length : Int) + ys.length := by omega
  rw [ec] at hmk
  clear ec
  go_enter Tryd.func84, Tryd.ntmps84
  go_wp2
  go_loopw [20] (fun i wr => ∃ (os : List Int) (k : Nat), i = .int .i64 k ∧ k ≤ xs.length ∧ os.length = xs.length + ys.length ∧ RowAt wr w.heap.size os ∧ Below w.heap.size w wr ∧ Rng os ∧ ZeroFrom os (k + ys.length) ∧ val os = val (xs.take k) * val ys) (fun i _ => xs.length - (intOf i).toNat)
  case atStart => exact ⟨List.replicate (xs.length + ys.length) 0, 0, rfl, Nat.zero_le _, by simp, RowAt.made w _ (by omega), (Below.refl _ _).alloc (Nat.le_refl _) _, fun x hx => by rw [(List.mem_replicate.1 hx).2]; omega, fun x hx => (List.mem_replicate.1 (List.mem_of_mem_drop hx)).2, by simp [val, val_replicate]⟩
  case round =>
    obtain ⟨os, k, rfl, hk, hlen, hown, hbl, hrng, hzero, hval⟩ := hrel
    have HL := Lib.hid hlen
    have HO := Lib.hid hown
    have HBL := Lib.hid hbl
    have HR := Lib.hid hrng
    have HZ := Lib.hid hzero
    have HV := Lib.hid hval
    clear hlen hown hbl hrng hzero hval
    by_cases h1 : k < xs.length
    · obtain ⟨b1, off1, rfl, hc1⟩ := (HA.out.below HBL.out).get h1
      have r1 := HX.out.at h1
      obtain ⟨wo, rfl⟩ : ∃ wo : World, wo = wr := ⟨_, rfl⟩
      go_wp2
      go_loopw [8, 27] (fun c j wr => ∃ (ps : List Int) (q : Int) (m : Nat), j = .int .i64 m ∧ c = .int .i64 q ∧ m ≤ ys.length ∧ 0 ≤ q ∧ q ≤ 999999999 ∧ ps.length = xs.length + ys.length ∧ RowAt wr w.heap.size ps ∧ Below w.heap.size w wr ∧ Rng ps ∧ ZeroFrom ps (k + ys.length) ∧ val ps + pw (k + m) * q.toNat = val (xs.take k) * val ys + pw k * xs[k].toNat * val (ys.take m)) (fun _ j _ => ys.length - (intOf j).toNat)
      case atStart => exact ⟨os, 0, 0, rfl, rfl, Nat.zero_le _, by omega, by omega, HL.out, HO.out, HBL.out, HR.out, HZ.out, by simp [val, HV.out]⟩
      case round =>
        obtain ⟨ps, q, m, rfl, rfl, hm2, hq0, hq1, hlen2, hown2, hbl2, hrng2, hzero2, hval2⟩ := hrel
        have JL := Lib.hid hlen2
        have JO := Lib.hid hown2
        have JB := Lib.hid hbl2
        have JR := Lib.hid hrng2
        have JZ := Lib.hid hzero2
        have JV := Lib.hid hval2
        clear hlen2 hown2 hbl2 hrng2 hzero2 hval2
        by_cases h2 : m < ys.length
        · obtain ⟨b2, off2, rfl, hc2⟩ := (HB.out.below JB.out).get h2
          have r2 := HY.out.at h2
          have hkm : k + m < ps.length := by have := JL.out; omega
          have hc3 := JO.out.cell hkm
          have hf3 := JO.out.frozen (k + m)
          have r3 := JR.out.at hkm
          have r4 := prod_bound r1 r2
          go_wp2
          go_roundw
          case rel =>
            refine ⟨_, (ps[k + m] + xs[k] * ys[m] + q) / 1000000000, m + 1, by go_num, rfl, by omega, by omega, by omega, by rw [List.length_set]; exact JL.out, JO.out.set (k + m) (by unfold In64; omega), JB.out.setCell (Nat.le_refl _) _, rng_set JR.out _ (by omega) (by omega), JZ.out.set (by omega) _, ?_⟩
            have := mul_inner hkm r1.1 r2.1 hq0 r3.1 rfl JV.out
            rw [← Nat.add_assoc, this, take_mul h2]
            omega
          case measure => simp [intOf] <;> omega
        · obtain rfl : m = ys.length := by omega
          have hkm : k + ys.length < ps.length := by have := JL.out; omega
          have hc3 := JO.out.cell hkm
          have hf3 := JO.out.frozen (k + ys.length)
          have r3 := JR.out.at hkm
          go_wp2
          go_roundw
          case rel =>
            have e0 := JZ.out.at hkm
            refine ⟨_, k + 1, by go_num, by omega, by rw [List.length_set]; exact JL.out, JO.out.set (k + ys.length) (by unfold In64; omega), JB.out.setCell (Nat.le_refl _) _, rng_set JR.out _ (by omega) (by omega), ?_, ?_⟩
            · rw [show k + 1 + ys.length = k + ys.length + 1 by omega]; exact JZ.out.next _
            · have h3 := val_set hkm (ps[k + ys.length] + q)
              have h4 := JV.out
              rw [List.take_of_length_le (Nat.le_refl _)] at h4
              rw [e0] at h3 ⊢
              rw [val_take_succ h1, Nat.add_mul]
              simp only [Int.zero_add, Int.toNat_zero, Nat.mul_zero, Nat.add_zero] at h3 ⊢
              omega
          case measure => simp [intOf] <;> omega
    · have hkx : Hid (k = xs.length) := by unfold Hid; omega
      have HT := Lib.hid (trimmed_any (some ⟨w.heap.size, 0, none⟩) os.length os wr HO.out.ints (by have := HL.out; omega) HR.out)
      have HF : Hid (∀ j, j ≤ os.length → os.take j = digs (val os) → j = (digs (val xs * val ys)).length ∧ Own 3 wr w.heap.size (.slice (some ⟨w.heap.size, 0, none⟩) j (xs.length + ys.length)) (digs (val xs * val ys))) := by
        intro j hj ht
        have h3 := HV.out
        rw [hkx.out, List.take_of_length_le (Nat.le_refl _)] at h3
        rw [h3] at ht
        have h4 := own_take HO.out hj
        rw [HL.out, ht] at h4
        have h5 : (os.take j).length = j := by simp; omega
        rw [ht] at h5
        rw [h5] at h4
        exact ⟨h5.symm, h4⟩
      go_wp2_with fail
      have hcall := HT.out
      rw [HL.out] at hcall
      refine hcall.mono ?_
      rintro e w' ⟨⟨j, hj, rfl, ht⟩, rfl⟩
      have HG := Lib.hid (HF.out j (by have := HL.out; omega) ht)
      clear hcall ht
      go_wp2
      go_ret
      exact ⟨_, rfl, HG.out.2, HBL.out⟩
set_option maxHeartbeats 4000000 in
theorem l02Mul_pos (a : Option Addr) (ca : Nat) (xs : List Int) (b : Option Addr) (cb : Nat) (ys : List Int) (w : World) (ha : IntsAt w a ca xs) (hb : IntsAt w b cb ys) (hn : xs.length ≤ 500000) (hm : ys.length ≤ 500000) (hx : Rng xs) (hy : Rng ys) (h0x : 0 < xs.length) (h0y : 0 < ys.length) :
    Calls Tryd.prog 175 #[.slice a xs.length ca, .slice b ys.length cb] w fun e w' => ∃ v, e = .returned v ∧ Own 3 w' w.heap.size v (digs (val xs * val ys)) ∧ Below w.heap.size w w' := by
  have HA := Lib.hid ha
  have HB := Lib.hid hb
  have HX := Lib.hid hx
  have HY := Lib.hid hy
  clear ha hb hx hy
  have hmk := run_make_ints (xs.length + ys.length) (by omega)
  have ec : ((xs.length + ys.length : Nat) : Int) = (xs.length : Int) + ys.length := by omega
  rw [ec] at hmk
  clear ec
  have hz1 : ((xs.length : Int) == 0) = false := beq_eq_false_iff_ne.2 (by omega)
  have hz2 : ((ys.length : Int) == 0) = false := beq_eq_false_iff_ne.2 (by omega)
  go_enter Tryd.func175, Tryd.ntmps175
  go_wp2
  go_loopw [28] (fun i wr => ∃ (os : List Int) (k : Nat), i = .int .i64 k ∧ k ≤ xs.length ∧ os.length = xs.length + ys.length ∧ RowAt wr w.heap.size os ∧ Below w.heap.size w wr ∧ Rng os ∧ ZeroFrom os (k + ys.length) ∧ val os = val (xs.take k) * val ys) (fun i _ => xs.length - (intOf i).toNat)
  case atStart => exact ⟨List.replicate (xs.length + ys.length) 0, 0, rfl, Nat.zero_le _, by simp, RowAt.made w _ (by omega), (Below.refl _ _).alloc (Nat.le_refl _) _, fun x hx => by rw [(List.mem_replicate.1 hx).2]; omega, fun x hx => (List.mem_replicate.1 (List.mem_of_mem_drop hx)).2, by simp [val, val_replicate]⟩
  case round =>
    obtain ⟨os, k, rfl, hk, hlen, hown, hbl, hrng, hzero, hval⟩ := hrel
    have HL := Lib.hid hlen
    have HO := Lib.hid hown
    have HBL := Lib.hid hbl
    have HR := Lib.hid hrng
    have HZ := Lib.hid hzero
    have HV := Lib.hid hval
    clear hlen hown hbl hrng hzero hval
    by_cases h1 : k < xs.length
    · obtain ⟨b1, off1, rfl, hc1⟩ := (HA.out.below HBL.out).get h1
      have r1 := HX.out.at h1
      obtain ⟨wo, rfl⟩ : ∃ wo : World, wo = wr := ⟨_, rfl⟩
      go_wp2
      go_loopw [8, 35] (fun c j wr => ∃ (ps : List Int) (q : Int) (m : Nat), j = .int .i64 m ∧ c = .int .i64 q ∧ m ≤ ys.length ∧ 0 ≤ q ∧ q ≤ 999999999 ∧ ps.length = xs.length + ys.length ∧ RowAt wr w.heap.size ps ∧ Below w.heap.size w wr ∧ Rng ps ∧ ZeroFrom ps (k + ys.length) ∧ val ps + pw (k + m) * q.toNat = val (xs.take k) * val ys + pw k * xs[k].toNat * val (ys.take m)) (fun _ j _ => ys.length - (intOf j).toNat)
      case atStart => exact ⟨os, 0, 0, rfl, rfl, Nat.zero_le _, by omega, by omega, HL.out, HO.out, HBL.out, HR.out, HZ.out, by simp [val, HV.out]⟩
      case round =>
        obtain ⟨ps, q, m, rfl, rfl, hm2, hq0, hq1, hlen2, hown2, hbl2, hrng2, hzero2, hval2⟩ := hrel
        have JL := Lib.hid hlen2
        have JO := Lib.hid hown2
        have JB := Lib.hid hbl2
        have JR := Lib.hid hrng2
        have JZ := Lib.hid hzero2
        have JV := Lib.hid hval2
        clear hlen2 hown2 hbl2 hrng2 hzero2 hval2
        by_cases h2 : m < ys.length
        · obtain ⟨b2, off2, rfl, hc2⟩ := (HB.out.below JB.out).get h2
          have r2 := HY.out.at h2
          have hkm : k + m < ps.length := by have := JL.out; omega
          have hc3 := JO.out.cell hkm
          have hf3 := JO.out.frozen (k + m)
          have r3 := JR.out.at hkm
          have r4 := prod_bound r1 r2
          go_wp2
          go_roundw
          case rel =>
            refine ⟨_, (ps[k + m] + xs[k] * ys[m] + q) / 1000000000, m + 1, by go_num, rfl, by omega, by omega, by omega, by rw [List.length_set]; exact JL.out, JO.out.set (k + m) (by unfold In64; omega), JB.out.setCell (Nat.le_refl _) _, rng_set JR.out _ (by omega) (by omega), JZ.out.set (by omega) _, ?_⟩
            have := mul_inner hkm r1.1 r2.1 hq0 r3.1 rfl JV.out
            rw [← Nat.add_assoc, this, take_mul h2]
            omega
          case measure => simp [intOf] <;> omega
        · obtain rfl : m = ys.length := by omega
          have hkm : k + ys.length < ps.length := by have := JL.out; omega
          have hc3 := JO.out.cell hkm
          have hf3 := JO.out.frozen (k + ys.length)
          have r3 := JR.out.at hkm
          go_wp2
          go_roundw
          case rel =>
            have e0 := JZ.out.at hkm
            refine ⟨_, k + 1, by go_num, by omega, by rw [List.length_set]; exact JL.out, JO.out.set (k + ys.length) (by unfold In64; omega), JB.out.setCell (Nat.le_refl _) _, rng_set JR.out _ (by omega) (by omega), ?_, ?_⟩
            · rw [show k + 1 + ys.length = k + ys.length + 1 by omega]; exact JZ.out.next _
            · have h3 := val_set hkm q
              have h4 := JV.out
              rw [List.take_of_length_le (Nat.le_refl _)] at h4
              rw [e0] at h3
              rw [val_take_succ h1, Nat.add_mul]
              simp only [Int.toNat_zero, Nat.mul_zero, Nat.add_zero] at h3
              omega
          case measure => simp [intOf] <;> omega
    · have hkx : Hid (k = xs.length) := by unfold Hid; omega
      have HT := Lib.hid (l02Trim_any (some ⟨w.heap.size, 0, none⟩) os.length os wr HO.out.ints (by have := HL.out; omega) HR.out)
      have HF : Hid (∀ j, j ≤ os.length → os.take j = digs (val os) → j = (digs (val xs * val ys)).length ∧ Own 3 wr w.heap.size (.slice (some ⟨w.heap.size, 0, none⟩) j (xs.length + ys.length)) (digs (val xs * val ys))) := by
        intro j hj ht
        have h3 := HV.out
        rw [hkx.out, List.take_of_length_le (Nat.le_refl _)] at h3
        rw [h3] at ht
        have h4 := own_take HO.out hj
        rw [HL.out, ht] at h4
        have h5 : (os.take j).length = j := by simp; omega
        rw [ht] at h5
        rw [h5] at h4
        exact ⟨h5.symm, h4⟩
      go_wp2_with fail
      have hcall := HT.out
      rw [HL.out] at hcall
      refine hcall.mono ?_
      rintro e w' ⟨⟨j, hj, rfl, ht⟩, rfl⟩
      have HG := Lib.hid (HF.out j (by have := HL.out; omega) ht)
      clear hcall ht
      go_wp2
      go_ret
      exact ⟨_, rfl, HG.out.2, HBL.out⟩

theorem l02Mul_own (a : Option Addr) (ca : Nat) (xs : List Int) (b : Option Addr) (cb : Nat) (ys : List Int) (w : World) (ha : IntsAt w a ca xs) (hb : IntsAt w b cb ys) (hn : xs.length ≤ 500000) (hm : ys.length ≤ 500000) (hx : Rng xs) (hy : Rng ys) :
    Calls Tryd.prog 175 #[.slice a xs.length ca, .slice b ys.length cb] w fun e w' => ∃ v, e = .returned v ∧ Own 3 w' w.heap.size v (digs (val xs * val ys)) ∧ Below w.heap.size w w' := by
  by_cases h1 : 0 < xs.length
  · by_cases h2 : 0 < ys.length
    · exact l02Mul_pos a ca xs b cb ys w ha hb hn hm hx hy h1 h2
    · have e : Hid (digs (val xs * val ys) = []) := by
        have : ys = [] := List.eq_nil_of_length_eq_zero (by omega)
        subst this
        simp [Hid, val, digs_zero]
      have hz1 : ((xs.length : Int) == 0) = false := beq_eq_false_iff_ne.2 (by omega)
      have hz2 : ((ys.length : Int) == 0) = true := beq_iff_eq.2 (by omega)
      clear ha hb
      go_enter Tryd.func175, Tryd.ntmps175
      go_wp2
      go_ret
      exact ⟨_, rfl, by rw [e.out]; exact own_nil _ _, Below.refl _ _⟩
  · have e : Hid (digs (val xs * val ys) = []) := by
      have : xs = [] := List.eq_nil_of_length_eq_zero (by omega)
      subst this
      simp [Hid, val, digs_zero]
    have hz1 : ((xs.length : Int) == 0) = true := beq_iff_eq.2 (by omega)
    clear ha hb
    go_enter Tryd.func175, Tryd.ntmps175
    go_wp2
    go_ret
    exact ⟨_, rfl, by rw [e.out]; exact own_nil _ _, Below.refl _ _⟩

def natMulL (xs ys : List Int) : List Int := if natOkB xs && natOkB ys then capD (val xs * val ys) else []
theorem natMulL_len (xs ys : List Int) : (natMulL xs ys).length ≤ 1048576 := by unfold natMulL; split; have := capD_len (val xs * val ys); omega; simp
theorem mul_len {xs ys : List Int} (h1 : natOkB xs = true) (h2 : natOkB ys = true) : (digs (val xs * val ys)).length ≤ 1048576 := by
  have a1 := val_lt (ok_rng h1)
  have a2 := val_lt (ok_rng h2)
  have b1 := pw_mono (ok_len h1)
  have b2 := pw_mono (ok_len h2)
  have : (digs (val xs * val ys)).length ≤ 120 := digs_len_le (by rw [show 120 = 60 + 60 by rfl, pw_add]; exact Nat.mul_lt_mul'' (by omega) (by omega))
  omega
end Go.Proofs.YtjklefkkdaelnaaDoor
