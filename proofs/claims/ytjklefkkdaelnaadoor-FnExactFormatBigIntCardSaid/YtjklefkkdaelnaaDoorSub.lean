/- The difference of naturals. -/
import Derived.Test.YtjklefkkdaelnaaDoorMul
namespace Go.Proofs.YtjklefkkdaelnaaDoor
set_option linter.unusedVariables false
set_option linter.unusedSimpArgs false
open Go.RowKit

theorem sub_end {ds xs ys : List Int} {b : Int} (hl : ds.length = xs.length) (hr : Rng ds) (hb : 0 ≤ b) (hle : val ys ≤ val xs) (h : val ds + val ys = val xs + pw xs.length * b.toNat) : val ds = val xs - val ys := by
  have h1 := val_lt hr
  rw [hl] at h1
  rcases Nat.eq_zero_or_pos b.toNat with h0 | h0
  · rw [h0] at h; omega
  · have : pw xs.length * 1 ≤ pw xs.length * b.toNat := Nat.mul_le_mul_left _ h0
    omega

theorem le_of_cmp {xs ys : List Int} (hx : Rng xs) (hy : Rng ys) (h : val ys ≤ val xs) (h2 : digs (val ys) = ys) (h3 : digs (val xs) = xs) : ys.length ≤ xs.length := by
  rcases Nat.lt_or_ge xs.length ys.length with h1 | h1
  · have := digs_len_lt (m := val xs) (n := val ys) (by rw [h2, h3]; exact h1)
    omega
  · exact h1

set_option maxHeartbeats 4000000 in
theorem l02Sub_any (a : Option Addr) (ca : Nat) (xs : List Int) (b : Option Addr) (cb : Nat) (ys : List Int) (w : World) (ha : IntsAt w a ca xs) (hb : IntsAt w b cb ys) (hn : xs.length ≤ 1048576) (hyx : ys.length ≤ xs.length) (hx : Rng xs) (hy : Rng ys) (hle : val ys ≤ val xs) :
    Calls Tryd.prog 174 #[.slice a xs.length ca, .slice b ys.length cb] w fun e w' => ∃ v, e = .returned v ∧ Own 3 w' w.heap.size v (digs (val xs - val ys)) ∧ Below w.heap.size w w' := by
  have HA := Lib.hid ha
  have HB := Lib.hid hb
  have HX := Lib.hid hx
  have HY := Lib.hid hy
  have HLE := Lib.hid hle
  clear ha hb hx hy hle
  go_enter Tryd.func174, Tryd.ntmps174
  go_wp2
  go_loopw [5, 6, 12] (fun v c j wr => ∃ (ds : List Int) (q : Int) (k : Nat), j = .int .i64 k ∧ c = .int .i64 q ∧ 0 ≤ q ∧ q ≤ 1 ∧ ds.length = k ∧ k ≤ xs.length ∧ Own 3 wr w.heap.size v ds ∧ Below w.heap.size w wr ∧ Rng ds ∧ val ds + val (ys.take k) = val (xs.take k) + pw k * q.toNat) (fun _ _ j _ => xs.length - (intOf j).toNat)
  case atStart => exact ⟨[], 0, 0, rfl, rfl, by omega, by omega, rfl, by omega, own_empty w, (Below.refl _ _).alloc (Nat.le_refl _) _, Rng.nil, by simp [val]⟩
  case round =>
    obtain ⟨ds, q, k, rfl, rfl, hq0, hq1, hlen, hk, hown, hbl, hrng, hval⟩ := hrel
    have HL := Lib.hid hlen
    have HO := Lib.hid hown
    have HBL := Lib.hid hbl
    have HR := Lib.hid hrng
    have HV := Lib.hid hval
    clear hlen hown hbl hrng hval
    have hdl : ds.length + 1 ≤ 16777216 := by have := HL.out; omega
    by_cases h1 : k < xs.length
    · obtain ⟨b1, off1, rfl, hc1⟩ := (HA.out.below HBL.out).get h1
      have r1 := HX.out.at h1
      have V1 := Lib.hid (val_take_succ h1)
      by_cases h2 : k < ys.length
      · obtain ⟨b2, off2, rfl, hc2⟩ := (HB.out.below HBL.out).get h2
        have r2 := HY.out.at h2
        have V2 := Lib.hid (val_take_succ h2)
        by_cases h3 : xs[k] - q - ys[k] < 0
        · go_wp2_with (at_builtin; go_must (refine append_int HO.out (n := xs[k] - q - ys[k] + 1000000000) (by unfold In64; omega) hdl HBL.out.size rfl _ _ rfl rfl rfl ?_); intro v' w1 hown1 hb1 _)
          go_roundw
          case rel =>
            refine ⟨_, 1, k + 1, by go_num, rfl, by omega, by omega, by simp [HL.out], by omega, hown1, HBL.out.trans hb1, rng_snoc HR.out (by omega) (by omega), ?_⟩
            rw [V1.out, V2.out]
            exact sub_step HL.out hq0 r1.1 r2.1 HV.out (by omega) (by omega) (by omega)
          case measure => simp [intOf] <;> omega
        · go_wp2_with (at_builtin; go_must (refine append_int HO.out (n := xs[k] - q - ys[k]) (by unfold In64; omega) hdl HBL.out.size rfl _ _ rfl rfl rfl ?_); intro v' w1 hown1 hb1 _)
          go_roundw
          case rel =>
            refine ⟨_, 0, k + 1, by go_num, rfl, by omega, by omega, by simp [HL.out], by omega, hown1, HBL.out.trans hb1, rng_snoc HR.out (by omega) (by omega), ?_⟩
            rw [V1.out, V2.out]
            exact sub_step HL.out hq0 r1.1 r2.1 HV.out (by omega) (by omega) (by omega)
          case measure => simp [intOf] <;> omega
      · have V2 : Hid (val (ys.take (k + 1)) = val (ys.take k) + pw k * (0 : Int).toNat) := by unfold Hid; rw [List.take_of_length_le (by omega), List.take_of_length_le (by omega)]; simp
        by_cases h3 : xs[k] - q < 0
        · go_wp2_with (at_builtin; go_must (refine append_int HO.out (n := xs[k] - q + 1000000000) (by unfold In64; omega) hdl HBL.out.size rfl _ _ rfl rfl rfl ?_); intro v' w1 hown1 hb1 _)
          go_roundw
          case rel =>
            refine ⟨_, 1, k + 1, by go_num, rfl, by omega, by omega, by simp [HL.out], by omega, hown1, HBL.out.trans hb1, rng_snoc HR.out (by omega) (by omega), ?_⟩
            rw [V1.out, V2.out]
            exact sub_step HL.out hq0 r1.1 (by omega) HV.out (by omega) (by omega) (by omega)
          case measure => simp [intOf] <;> omega
        · go_wp2_with (at_builtin; go_must (refine append_int HO.out (n := xs[k] - q) (by unfold In64; omega) hdl HBL.out.size rfl _ _ rfl rfl rfl ?_); intro v' w1 hown1 hb1 _)
          go_roundw
          case rel =>
            refine ⟨_, 0, k + 1, by go_num, rfl, by omega, by omega, by simp [HL.out], by omega, hown1, HBL.out.trans hb1, rng_snoc HR.out (by omega) (by omega), ?_⟩
            rw [V1.out, V2.out]
            exact sub_step HL.out hq0 r1.1 (by omega) HV.out (by omega) (by omega) (by omega)
          case measure => simp [intOf] <;> omega
    · have hkx : Hid (k = xs.length) := by unfold Hid; omega
      obtain ⟨p, c, rfl, hi⟩ := HO.out.form
      have HI := Lib.hid hi
      clear hi
      have HE : Hid (val ds = val xs - val ys) := by
        have h3 := HV.out
        rw [hkx.out, List.take_of_length_le (Nat.le_refl _), List.take_of_length_le (by omega)] at h3
        exact sub_end (HL.out.trans hkx.out) HR.out hq0 HLE.out h3
      go_wp2_with fail
      refine (l02Trim_any p c ds _ HI.out (by have := HL.out; omega) HR.out).mono ?_
      rintro e w' ⟨⟨j, hj, rfl, ht⟩, rfl⟩
      have HG : Hid (Own 3 wr w.heap.size (.slice p j c) (digs (val xs - val ys))) := by
        have h4 := own_take HO.out hj
        have h5 : (ds.take j).length = j := by simp; omega
        rw [h5, ht, HE.out] at h4
        exact h4
      clear ht
      go_wp2
      go_ret
      exact ⟨_, rfl, HG.out, HBL.out⟩

theorem own_at {w : World} {lo : Nat} {p : Option Addr} {n c : Nat} {os : List Int} (h : Own 3 w lo (.slice p n c) os) {k : Nat} (hk : k < os.length) :
    ∃ g, p = some ⟨g, 0, none⟩ ∧ lo ≤ g ∧ g < w.heap.size ∧ w.cell? ⟨g, k, none⟩ = some (.int .i64 os[k]) ∧ w.frozen? ⟨g, k, none⟩ = false := by
  rcases h.2.2 with ⟨_, h0⟩ | ⟨g, cap, cur, hv, hb, hg, hnc, hcm, hcs, ht⟩
  · omega
  · have hv' := hv
    simp only [Value.slice.injEq] at hv
    obtain ⟨rfl, rfl, rfl⟩ := hv
    refine ⟨g, rfl, hb, (Array.getElem?_eq_some_iff.1 hg).1, ?_, h.2.frozenAt k⟩
    rw [h.2.cellAt k (by omega)]; simp [hk]
theorem own_set {w : World} {lo g : Nat} {n c : Nat} {os : List Int} (h : Own 3 w lo (.slice (some ⟨g, 0, none⟩) n c) os) (hn : n = os.length) (k : Nat) {d : Int} (hd : In64 d) :
    Own 3 (w.setCell ⟨g, k, none⟩ (.int .i64 d)) lo (.slice (some ⟨g, 0, none⟩) n c) (os.set k d) := by
  subst hn
  refine ⟨fun x hx => ?_, ?_⟩
  · rcases List.mem_or_eq_of_mem_set hx with hx | rfl
    · exact h.1 x hx
    · exact hd
  · have := (h.2.stored k (.int .i64 d)).1
    rw [← List.map_set] at this
    simpa using this
theorem own_drew {w : World} {lo : Nat} {v : Value} {os : List Int} (h : Own 3 w lo v os) : Own 3 w.drew lo v os := h.below (Below.refl _ _).drew
theorem sub_rel {os xs ys : List Int} {k : Nat} {q v q' y : Int} (hk : k < xs.length) (HL : os.length = xs.length) (HR : Rng os) (HX : Rng xs) (HD : os.drop k = xs.drop k)
    (HV : val (os.take k) + val (ys.take k) = val (xs.take k) + pw k * q.toNat) (hq : 0 ≤ q) (hq' : 0 ≤ q') (hy : 0 ≤ y) (h0 : 0 ≤ v) (h1 : v ≤ 999999999) (hv : v = xs[k] - q - y + 1000000000 * q')
    (V2 : val (ys.take (k + 1)) = val (ys.take k) + pw k * y.toNat) :
    (os.set k v).length = xs.length ∧ Rng (os.set k v) ∧ (os.set k v).drop (k + 1) = xs.drop (k + 1) ∧ val ((os.set k v).take (k + 1)) + val (ys.take (k + 1)) = val (xs.take (k + 1)) + pw (k + 1) * q'.toNat := by
  refine ⟨by simpa using HL, rng_set HR k h0 h1, ?_, ?_⟩
  · rw [List.drop_set_of_lt (by omega)]
    have := congrArg (List.drop 1) HD
    simpa [List.drop_drop] using this
  · have e : (os.set k v).take (k + 1) = os.take k ++ [v] := by
      rw [List.take_succ_eq_append_getElem (by simpa [HL] using hk), List.take_set, List.set_eq_of_length_le (by simp; omega)]
      simp
    rw [e, V2, val_take_succ hk]
    exact sub_step (by simp; omega) hq (HX.at hk).1 hy HV hq' hv h0
/-- a store beside a cell -/
theorem other_cell {w : World} {g k b off j : Nat} {v u : Value} (h : w.cell? ⟨b, off + j, none⟩ = some u) (hb : b < g) : (w.setCell ⟨g, k, none⟩ v).cell? ⟨b, off + j, none⟩ = some u := by
  rw [World.cell?_of_block (w := w) (Below.heap_setCell _ _ _ _ (by simp; omega))]; exact h

set_option maxHeartbeats 4000000 in
theorem natSub_any (a : Option Addr) (ca : Nat) (xs : List Int) (b : Option Addr) (cb : Nat) (ys : List Int) (w : World) (ha : IntsAt w a ca xs) (hb : IntsAt w b cb ys) (hn : xs.length ≤ 1048576) (hyx : ys.length ≤ xs.length) (hx : Rng xs) (hy : Rng ys) (hle : val ys ≤ val xs) :
    Calls Tryd.prog 126 #[.slice a xs.length ca, .slice b ys.length cb] w fun e w' => ∃ v, e = .returned v ∧ Own 3 w' w.heap.size v (digs (val xs - val ys)) ∧ Below w.heap.size w w' := by
  have HA := Lib.hid ha
  have HB := Lib.hid hb
  have HX := Lib.hid hx
  have HY := Lib.hid hy
  have HLE := Lib.hid hle
  clear ha hb hx hy hle
  go_enter Tryd.func126, Tryd.ntmps126
  go_wp2_with fail
  refine (clone_any _ _ _ _ HA.out hn).mono ?_
  rintro e w1 ⟨v0, rfl, hown0, hb0⟩
  obtain ⟨p, c, rfl, hi0⟩ := hown0.form
  have HO0 := Lib.hid hown0
  have HB0 := Lib.hid hb0
  clear hown0 hb0 hi0
  go_wp2
  go_loopw [6, 12] (fun c0 j wr => ∃ (os : List Int) (q : Int) (k : Nat), j = .int .i64 k ∧ c0 = .int .i64 q ∧ 0 ≤ q ∧ q ≤ 1 ∧ k ≤ xs.length ∧ os.length = xs.length ∧ Own 3 wr w.heap.size (.slice p xs.length c) os ∧ Below w.heap.size w wr ∧ Rng os ∧ os.drop k = xs.drop k ∧ val (os.take k) + val (ys.take k) = val (xs.take k) + pw k * q.toNat) (fun _ j _ => xs.length - (intOf j).toNat)
  case atStart => exact ⟨xs, 0, 0, rfl, rfl, by omega, by omega, by omega, rfl, HO0.out, HB0.out, HX.out, rfl, by simp [val]⟩
  case round =>
    obtain ⟨os, q, k, rfl, rfl, hq0, hq1, hk, hlen, hown, hbl, hrng, hdrop, hval⟩ := hrel
    have HL := Lib.hid hlen
    have HO := Lib.hid hown
    have HBL := Lib.hid hbl
    have HR := Lib.hid hrng
    have HD := Lib.hid hdrop
    have HV := Lib.hid hval
    clear hlen hown hbl hrng hdrop hval
    by_cases h1 : k < xs.length
    · obtain ⟨g, rfl, hlo, hgs, hc1, hf1⟩ := own_at HO.out (k := k) (by rw [HL.out]; exact h1)
      have r1 := HX.out.at h1
      have V1 := Lib.hid (val_take_succ h1)
      have ho1 : os[k]'(by rw [HL.out]; exact h1) = xs[k] := by
        have := HD.out
        rw [List.drop_eq_getElem_cons h1, List.drop_eq_getElem_cons (by rw [HL.out]; exact h1)] at this
        exact (List.cons.inj this).1
      rw [ho1] at hc1
      clear ho1
      by_cases h2 : k < ys.length
      · obtain ⟨b2, off2, rfl, hc2⟩ := (HB.out.below HBL.out).get h2
        have hb2 : b2 < g := by
          rcases HB.out.at_ with h | ⟨b3, o3, e3, hlt, _⟩
          · subst h; simp at h2
          · cases e3; omega
        have r2 := HY.out.at h2
        have V2 := Lib.hid (val_take_succ h2)
        have hc3 := fun v => other_cell (k := k) (v := v) hc2 hb2
        clear hb2
        go_wp2
        go_region
        all_goals go_wp2
        all_goals
          go_roundw
          case rel =>
            first
              | (have hr := sub_rel (v := xs[k] - q - ys[k] + 1000000000) (q' := 1) h1 HL.out HR.out HX.out HD.out HV.out hq0 (by omega) r2.1 (by omega) (by omega) (by omega) V2.out
                 have ho := own_drew (own_set (own_set (own_set HO.out HL.out.symm k (d := xs[k] - q) (by unfold In64; omega)) (by simp [HL.out]) k (d := xs[k] - q - ys[k]) (by unfold In64; omega)) (by simp [HL.out]) k (d := xs[k] - q - ys[k] + 1000000000) (by unfold In64; omega))
                 simp only [List.set_set] at ho
                 exact ⟨_, 1, k + 1, by go_num, rfl, by omega, by omega, by omega, hr.1, ho, (((HBL.out.setCell hlo _).setCell hlo _).setCell hlo _).drew, hr.2⟩)
              | (have hr := sub_rel (v := xs[k] - q - ys[k]) (q' := 0) h1 HL.out HR.out HX.out HD.out HV.out hq0 (by omega) r2.1 (by omega) (by omega) (by omega) V2.out
                 have ho := own_drew (own_set (own_set HO.out HL.out.symm k (d := xs[k] - q) (by unfold In64; omega)) (by simp [HL.out]) k (d := xs[k] - q - ys[k]) (by unfold In64; omega))
                 simp only [List.set_set] at ho
                 exact ⟨_, 0, k + 1, by go_num, rfl, by omega, by omega, by omega, hr.1, ho, ((HBL.out.setCell hlo _).setCell hlo _).drew, hr.2⟩)
          case measure => simp [intOf] <;> omega
      · have V2 : Hid (val (ys.take (k + 1)) = val (ys.take k) + pw k * (0 : Int).toNat) := by unfold Hid; rw [List.take_of_length_le (by omega), List.take_of_length_le (by omega)]; simp
        go_wp2
        all_goals
          go_roundw
          case rel =>
            first
              | (have hr := sub_rel (v := xs[k] - q + 1000000000) (q' := 1) h1 HL.out HR.out HX.out HD.out HV.out hq0 (by omega) (y := 0) (by omega) (by omega) (by omega) (by omega) V2.out
                 have ho := own_set (own_set HO.out HL.out.symm k (d := xs[k] - q) (by unfold In64; omega)) (by simp [HL.out]) k (d := xs[k] - q + 1000000000) (by unfold In64; omega)
                 simp only [List.set_set] at ho
                 exact ⟨_, 1, k + 1, by go_num, rfl, by omega, by omega, by omega, hr.1, ho, ((HBL.out.setCell hlo _).setCell hlo _), hr.2⟩)
              | (have hr := sub_rel (v := xs[k] - q) (q' := 0) h1 HL.out HR.out HX.out HD.out HV.out hq0 (by omega) (y := 0) (by omega) (by omega) (by omega) (by omega) V2.out
                 exact ⟨_, 0, k + 1, by go_num, rfl, by omega, by omega, by omega, hr.1, own_set HO.out HL.out.symm k (d := xs[k] - q) (by unfold In64; omega), (HBL.out.setCell hlo _), hr.2⟩)
          case measure => simp [intOf] <;> omega
    · have hkx : Hid (k = xs.length) := by unfold Hid; omega
      have hoi : Hid (Own 3 wr w.heap.size (.slice p os.length c) os) := by rw [HL.out]; exact HO.out
      have HE : Hid (val os = val xs - val ys) := by
        have h3 := HV.out
        have hl := HL.out
        rw [hkx.out, List.take_of_length_le (Nat.le_of_eq hl), List.take_of_length_le (Nat.le_refl _), List.take_of_length_le (by omega)] at h3
        exact sub_end HL.out HR.out hq0 HLE.out h3
      go_wp2_with fail
      have hcall := trimmed_any p c os wr hoi.out.ints (by have := HL.out; omega) HR.out
      rw [HL.out] at hcall
      refine hcall.mono ?_
      rintro e w' ⟨⟨j, hj, rfl, ht⟩, rfl⟩
      have HG : Hid (Own 3 wr w.heap.size (.slice p j c) (digs (val xs - val ys))) := by
        have hl := HL.out
        have h4 := own_take hoi.out (k := j) (by omega)
        have h5 : (os.take j).length = j := by simp; omega
        rw [h5, ht, HE.out] at h4
        exact h4
      clear ht hcall
      go_wp2
      go_ret
      exact ⟨_, rfl, HG.out, HBL.out⟩

theorem cmp_lt {xs ys : List Int} (h1 : natOkB xs = true) (h2 : natOkB ys = true) : cmpL xs ys = cmpN (val xs) (val ys) := by
  have := cmpL_digs (val xs) (val ys)
  rwa [ok_digs h1, ok_digs h2] at this
def natSubL (xs ys : List Int) : List Int := if natOkB xs && natOkB ys then digs (val xs - val ys) else []
theorem natSubL_len (xs ys : List Int) : (natSubL xs ys).length ≤ 1048576 := by
  unfold natSubL
  split
  · rename_i h
    simp only [Bool.and_eq_true] at h
    have a1 := val_lt (ok_rng h.1)
    have b1 := pw_mono (ok_len h.1)
    have : (digs (val xs - val ys)).length ≤ 60 := digs_len_le (by omega)
    omega
  · simp
end Go.Proofs.YtjklefkkdaelnaaDoor
