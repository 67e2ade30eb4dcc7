/- The sum of naturals. -/
import Derived.Test.YtjklefkkdaelnaaDoorTrim
import Derived.Test.YtjklefkkdaelnaaDoorAddLaw
namespace Go.Proofs.YtjklefkkdaelnaaDoor
set_option linter.unusedVariables false
set_option linter.unusedSimpArgs false
open Go.RowKit

/-- make([]int, 0, n) -/
theorem run_make_cap (n : Nat) (hn : n ≤ 16777216) (w : World) : (Instr.makeSlice 27 (.int .i64 0) (.int .i64 (n : Int))).run Tryd.prog w =
    .ok (.slice (some ⟨w.heap.size, 0, none⟩) 0 n) (w.alloc (.cells (madeCells #[.int .i64 0] n) 3)) := by
  obtain ⟨i0, hi, hz0, hz1, hz2⟩ := info_parts Tryd.infoInt
  have := run_make (P := Tryd.prog) w 27 3 i0 (.int .i64 0) Tryd.underlying27 hi hz0 .i64 .i64 0 n (by omega) (by omega) (by rw [hz2]; omega) (by omega)
  simpa [hz1, Value.cells] using this
theorem own_cap (w : World) (n : Nat) (hn : n ≤ 16777216) : Own 3 (w.alloc (.cells (madeCells #[.int .i64 0] n) 3)) w.heap.size (.slice (some ⟨w.heap.size, 0, none⟩) 0 n) [] :=
  ⟨by simp, World.ownsRow_made (base := w.heap.size) (size := 1) (e := 3) w _ n (Nat.le_refl _) (by unfold maxLen; omega) (by simp [size_madeCells])⟩

/-- the sum where the first number has no fewer digits -/
def sumEnd (ds : List Int) (m n : Nat) : Prop := digs (m + n) = ds

theorem sum_end {ds : List Int} {m n k : Nat} {q : Int} (hk : k = (digs m).length) (hkn : (digs n).length ≤ k) (hq0 : 0 ≤ q) (hq1 : q ≤ 1) (hl : ds.length = k) (hr : Rng ds) (h : val ds + pw k * q.toNat = m + n) :
    digs (m + n) = if 0 < q then ds ++ [q] else ds := by
  split
  · rename_i hq
    obtain rfl : q = 1 := by omega
    have hv : val (ds ++ [1]) = m + n := by rw [val_append, hl]; simpa [val] using h
    rw [← hv]
    apply digs_of_len (rng_snoc hr (by omega) (by omega))
    right
    rw [hv, List.length_append, hl]
    simp at h ⊢
    omega
  · have hv : val ds = m + n := by rw [show q.toNat = 0 by omega] at h; simpa using h
    rw [← hv]
    apply digs_of_len hr
    by_cases h0 : m = 0
    · left
      rw [h0, digs_zero] at hk
      exact List.eq_nil_of_length_eq_zero (by simp at hk; omega)
    · right
      have := pw_le_digs (n := m) (by omega)
      rw [hv, hl, hk]
      omega

set_option maxHeartbeats 2000000 in
theorem natAdd_le (a : Option Addr) (ca : Nat) (b : Option Addr) (cb : Nat) (m n : Nat) (w : World) (ha : IntsAt w a ca (digs m)) (hb : IntsAt w b cb (digs n)) (hn : (digs m).length ≤ 1048576) (hmn : (digs n).length ≤ (digs m).length) :
    Calls Tryd.prog 83 #[.slice a (digs m).length ca, .slice b (digs n).length cb] w fun e w' => ∃ v, e = .returned v ∧ Own 3 w' w.heap.size v (digs (m + n)) ∧ Below w.heap.size w w' := by
  have HA := Lib.hid ha
  have HB := Lib.hid hb
  clear ha hb
  have hmk := run_make_cap ((digs m).length + 1) (by omega)
  have hx : Rng (digs m) := digs_rng m
  have hy : Rng (digs n) := digs_rng n
  have hvm : Hid (val (digs m) = m) := val_digs m
  have hvn : Hid (val (digs n) = n) := val_digs n
  have HD : Hid (∀ ds : List Int, digs (m + n) = ds → ds = digs (m + n)) := fun _ h => h.symm
  have HS : Hid (∀ (ds : List Int) (k : Nat) (q : Int), k = (digs m).length → 0 ≤ q → q ≤ 1 → ds.length = k → Rng ds → val ds + pw k * q.toNat = m + n → digs (m + n) = if 0 < q then ds ++ [q] else ds) :=
    fun ds k q h1 h2 h3 h4 h5 h6 => sum_end h1 (by omega) h2 h3 h4 h5 h6
  generalize digs (m + n) = zs at *
  generalize digs m = xs at *
  generalize digs n = ys at *
  have HX := Lib.hid hx
  have HY := Lib.hid hy
  clear hx hy
  have ec : ((xs.length + 1 : Nat) : Int) = (xs.length : Int) + 1 := by omega
  rw [ec] at hmk
  clear ec
  have hdec : decide (xs.length < ys.length) = false := decide_eq_false (by omega)
  go_enter Tryd.func83, Tryd.ntmps83
  go_wp2
  go_loopw [5, 6, 22] (fun v c j wr => ∃ (ds : List Int) (q : Int) (k : Nat), j = .int .i64 k ∧ c = .int .i64 q ∧ 0 ≤ q ∧ q ≤ 1 ∧ ds.length = k ∧ k ≤ xs.length ∧ Own 3 wr w.heap.size v ds ∧ Below w.heap.size w wr ∧ Rng ds ∧ val ds + pw k * q.toNat = val (xs.take k) + val (ys.take k)) (fun _ _ j _ => xs.length - (intOf j).toNat)
  case atStart => exact ⟨[], 0, 0, rfl, rfl, by omega, by omega, rfl, by omega, own_cap w _ (by omega), (Below.refl _ _).alloc (Nat.le_refl _) _, Rng.nil, by simp [val]⟩
  case round =>
    obtain ⟨ds, q, k, rfl, rfl, hq0, hq1, hlen, hk, hown, hbl, hrng, hval⟩ := hrel
    have HL := Lib.hid hlen
    have HO := Lib.hid hown
    have HBL := Lib.hid hbl
    have HR := Lib.hid hrng
    have HV := Lib.hid hval
    clear hlen hown hbl hrng hval
    have hdl : ds.length + 1 ≤ 16777216 := by have := HL.out; omega
    by_cases h1 : k < xs.length
    · obtain ⟨b1, off1, rfl, hc1⟩ := (HA.out.below HBL.out).get h1
      have r1 := HX.out.at h1
      have V1 := Lib.hid (val_take_succ h1)
      by_cases h2 : k < ys.length
      · obtain ⟨b2, off2, rfl, hc2⟩ := (HB.out.below HBL.out).get h2
        have r2 := HY.out.at h2
        have V2 := Lib.hid (val_take_succ h2)
        go_wp2_with (at_builtin; go_must (refine append_int HO.out (n := (xs[k] + q + ys[k]) % 1000000000) (by unfold In64; omega) hdl HBL.out.size rfl _ _ rfl rfl rfl ?_); intro v' w1 hown1 hb1 _)
        go_roundw
        case rel =>
          refine ⟨_, (xs[k] + q + ys[k]) / 1000000000, k + 1, by go_num, rfl, by omega, by omega, by simp [HL.out], by omega, hown1, HBL.out.trans hb1, rng_snoc HR.out (by omega) (by omega), ?_⟩
          have := add_step HL.out hq0 (e := xs[k] + ys[k]) (by omega) (n := xs[k] + q + ys[k]) (by omega) HV.out
          rw [this, V1.out, V2.out, show (xs[k] + ys[k]).toNat = xs[k].toNat + ys[k].toNat by omega, Nat.mul_add]
          omega
        case measure => simp [intOf] <;> omega
      · have V2 : Hid (val (ys.take (k + 1)) = val (ys.take k)) := by unfold Hid; rw [List.take_of_length_le (by omega), List.take_of_length_le (by omega)]
        go_wp2_with (at_builtin; go_must (refine append_int HO.out (n := (xs[k] + q) % 1000000000) (by unfold In64; omega) hdl HBL.out.size rfl _ _ rfl rfl rfl ?_); intro v' w1 hown1 hb1 _)
        go_roundw
        case rel =>
          refine ⟨_, (xs[k] + q) / 1000000000, k + 1, by go_num, rfl, by omega, by omega, by simp [HL.out], by omega, hown1, HBL.out.trans hb1, rng_snoc HR.out (by omega) (by omega), ?_⟩
          have := add_step HL.out hq0 (e := xs[k]) (by omega) (n := xs[k] + q) (by omega) HV.out
          rw [this, V1.out, V2.out]
          omega
        case measure => simp [intOf] <;> omega
    · have hkx : Hid (k = xs.length) := by unfold Hid; omega
      have HF : Hid (zs = if 0 < q then ds ++ [q] else ds) := by
        apply HS.out ds k q hkx.out hq0 hq1 HL.out HR.out
        have := HV.out
        rwa [List.take_of_length_le (by omega), List.take_of_length_le (by omega), hvm.out, hvn.out] at this
      by_cases h3 : 0 < q
      · go_wp2_with (at_builtin; go_must (refine append_int HO.out (n := q) (by unfold In64; omega) hdl HBL.out.size rfl _ _ rfl rfl rfl ?_); intro v' w1 hown1 hb1 _)
        go_ret
        refine ⟨_, rfl, ?_, HBL.out.trans hb1⟩
        rw [HF.out, if_pos h3]
        exact hown1
      · go_wp2
        go_ret
        refine ⟨_, rfl, ?_, HBL.out⟩
        rw [HF.out, if_neg (by omega)]
        exact HO.out
set_option maxHeartbeats 2000000 in
theorem natAdd_gt (a : Option Addr) (ca : Nat) (b : Option Addr) (cb : Nat) (m n : Nat) (w : World) (ha : IntsAt w a ca (digs m)) (hb : IntsAt w b cb (digs n)) (hn : (digs m).length ≤ 1048576) (hmn : (digs n).length < (digs m).length) :
    Calls Tryd.prog 83 #[.slice b (digs n).length cb, .slice a (digs m).length ca] w fun e w' => ∃ v, e = .returned v ∧ Own 3 w' w.heap.size v (digs (m + n)) ∧ Below w.heap.size w w' := by
  have HA := Lib.hid ha
  have HB := Lib.hid hb
  clear ha hb
  have hmk := run_make_cap ((digs m).length + 1) (by omega)
  have hx : Rng (digs m) := digs_rng m
  have hy : Rng (digs n) := digs_rng n
  have hvm : Hid (val (digs m) = m) := val_digs m
  have hvn : Hid (val (digs n) = n) := val_digs n
  have HD : Hid (∀ ds : List Int, digs (m + n) = ds → ds = digs (m + n)) := fun _ h => h.symm
  have HS : Hid (∀ (ds : List Int) (k : Nat) (q : Int), k = (digs m).length → 0 ≤ q → q ≤ 1 → ds.length = k → Rng ds → val ds + pw k * q.toNat = m + n → digs (m + n) = if 0 < q then ds ++ [q] else ds) :=
    fun ds k q h1 h2 h3 h4 h5 h6 => sum_end h1 (by omega) h2 h3 h4 h5 h6
  generalize digs (m + n) = zs at *
  generalize digs m = xs at *
  generalize digs n = ys at *
  have HX := Lib.hid hx
  have HY := Lib.hid hy
  clear hx hy
  have ec : ((xs.length + 1 : Nat) : Int) = (xs.length : Int) + 1 := by omega
  rw [ec] at hmk
  clear ec
  have hdec : decide (ys.length < xs.length) = true := decide_eq_true (by omega)
  go_enter Tryd.func83, Tryd.ntmps83
  go_wp2
  go_loopw [5, 6, 22] (fun v c j wr => ∃ (ds : List Int) (q : Int) (k : Nat), j = .int .i64 k ∧ c = .int .i64 q ∧ 0 ≤ q ∧ q ≤ 1 ∧ ds.length = k ∧ k ≤ xs.length ∧ Own 3 wr w.heap.size v ds ∧ Below w.heap.size w wr ∧ Rng ds ∧ val ds + pw k * q.toNat = val (xs.take k) + val (ys.take k)) (fun _ _ j _ => xs.length - (intOf j).toNat)
  case atStart => exact ⟨[], 0, 0, rfl, rfl, by omega, by omega, rfl, by omega, own_cap w _ (by omega), (Below.refl _ _).alloc (Nat.le_refl _) _, Rng.nil, by simp [val]⟩
  case round =>
    obtain ⟨ds, q, k, rfl, rfl, hq0, hq1, hlen, hk, hown, hbl, hrng, hval⟩ := hrel
    have HL := Lib.hid hlen
    have HO := Lib.hid hown
    have HBL := Lib.hid hbl
    have HR := Lib.hid hrng
    have HV := Lib.hid hval
    clear hlen hown hbl hrng hval
    have hdl : ds.length + 1 ≤ 16777216 := by have := HL.out; omega
    by_cases h1 : k < xs.length
    · obtain ⟨b1, off1, rfl, hc1⟩ := (HA.out.below HBL.out).get h1
      have r1 := HX.out.at h1
      have V1 := Lib.hid (val_take_succ h1)
      by_cases h2 : k < ys.length
      · obtain ⟨b2, off2, rfl, hc2⟩ := (HB.out.below HBL.out).get h2
        have r2 := HY.out.at h2
        have V2 := Lib.hid (val_take_succ h2)
        go_wp2_with (at_builtin; go_must (refine append_int HO.out (n := (xs[k] + q + ys[k]) % 1000000000) (by unfold In64; omega) hdl HBL.out.size rfl _ _ rfl rfl rfl ?_); intro v' w1 hown1 hb1 _)
        go_roundw
        case rel =>
          refine ⟨_, (xs[k] + q + ys[k]) / 1000000000, k + 1, by go_num, rfl, by omega, by omega, by simp [HL.out], by omega, hown1, HBL.out.trans hb1, rng_snoc HR.out (by omega) (by omega), ?_⟩
          have := add_step HL.out hq0 (e := xs[k] + ys[k]) (by omega) (n := xs[k] + q + ys[k]) (by omega) HV.out
          rw [this, V1.out, V2.out, show (xs[k] + ys[k]).toNat = xs[k].toNat + ys[k].toNat by omega, Nat.mul_add]
          omega
        case measure => simp [intOf] <;> omega
      · have V2 : Hid (val (ys.take (k + 1)) = val (ys.take k)) := by unfold Hid; rw [List.take_of_length_le (by omega), List.take_of_length_le (by omega)]
        go_wp2_with (at_builtin; go_must (refine append_int HO.out (n := (xs[k] + q) % 1000000000) (by unfold In64; omega) hdl HBL.out.size rfl _ _ rfl rfl rfl ?_); intro v' w1 hown1 hb1 _)
        go_roundw
        case rel =>
          refine ⟨_, (xs[k] + q) / 1000000000, k + 1, by go_num, rfl, by omega, by omega, by simp [HL.out], by omega, hown1, HBL.out.trans hb1, rng_snoc HR.out (by omega) (by omega), ?_⟩
          have := add_step HL.out hq0 (e := xs[k]) (by omega) (n := xs[k] + q) (by omega) HV.out
          rw [this, V1.out, V2.out]
          omega
        case measure => simp [intOf] <;> omega
    · have hkx : Hid (k = xs.length) := by unfold Hid; omega
      have HF : Hid (zs = if 0 < q then ds ++ [q] else ds) := by
        apply HS.out ds k q hkx.out hq0 hq1 HL.out HR.out
        have := HV.out
        rwa [List.take_of_length_le (by omega), List.take_of_length_le (by omega), hvm.out, hvn.out] at this
      by_cases h3 : 0 < q
      · go_wp2_with (at_builtin; go_must (refine append_int HO.out (n := q) (by unfold In64; omega) hdl HBL.out.size rfl _ _ rfl rfl rfl ?_); intro v' w1 hown1 hb1 _)
        go_ret
        refine ⟨_, rfl, ?_, HBL.out.trans hb1⟩
        rw [HF.out, if_pos h3]
        exact hown1
      · go_wp2
        go_ret
        refine ⟨_, rfl, ?_, HBL.out⟩
        rw [HF.out, if_neg (by omega)]
        exact HO.out

theorem natAdd_any (a : Option Addr) (ca : Nat) (b : Option Addr) (cb : Nat) (m n : Nat) (w : World) (ha : IntsAt w a ca (digs m)) (hb : IntsAt w b cb (digs n)) (hm : (digs m).length ≤ 1048576) (hn : (digs n).length ≤ 1048576) :
    Calls Tryd.prog 83 #[.slice a (digs m).length ca, .slice b (digs n).length cb] w fun e w' => ∃ v, e = .returned v ∧ Own 3 w' w.heap.size v (digs (m + n)) ∧ Below w.heap.size w w' := by
  by_cases h : (digs n).length ≤ (digs m).length
  · exact natAdd_le a ca b cb m n w ha hb hm h
  · rw [Nat.add_comm]
    exact natAdd_gt b cb a ca n m w hb ha hn (by omega)
end Go.Proofs.YtjklefkkdaelnaaDoor
