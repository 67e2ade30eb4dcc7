import Derived.Test.YtjklefkkdaelnaaDoorBase
namespace Go.Proofs.YtjklefkkdaelnaaDoor
set_option linter.unusedVariables false
set_option linter.unusedSimpArgs false
open Go.RowKit
theorem Tryd.infoInt : (Tryd.prog.info? 3).map (fun i => (i.zero, i.size, i.bytes)) = some (some (.int .i64 0), 1, 8) := by kernel_rfl

theorem run_make_ints (n : Nat) (hn : n ≤ 16777216) (w : World) : (Instr.makeSlice 27 (.int .i64 (n : Int)) (.int .i64 (n : Int))).run Tryd.prog w =
    .ok (.slice (some ⟨w.heap.size, 0, none⟩) n n) (w.alloc (.cells (madeCells #[.int .i64 0] n) 3)) := by
  obtain ⟨i0, hi, hz0, hz1, hz2⟩ := info_parts Tryd.infoInt
  have := run_make (P := Tryd.prog) w 27 3 i0 (.int .i64 0) Tryd.underlying27 hi hz0 .i64 .i64 n n (by omega) (Int.le_refl _) (by rw [hz2]; omega) (by omega)
  simpa [hz1, Value.cells] using this

/-- the row after k rounds of copying -/
def copied (xs : List Int) (k : Nat) : List Value := (xs.take k).map (Value.int .i64) ++ List.replicate (xs.length - k) (.int .i64 0)
theorem copied_zero (xs : List Int) : copied xs 0 = (madeCells #[.int .i64 0] xs.length).toList := by simp [copied, toList_madeCells_one]
theorem copied_length (xs : List Int) (k : Nat) (hk : k ≤ xs.length) : (copied xs k).length = xs.length := by simp [copied]; omega
theorem copied_all (xs : List Int) : copied xs xs.length = xs.map (Value.int .i64) := by simp [copied]
theorem copied_get (xs : List Int) (k : Nat) (hk : k < xs.length) : (copied xs k)[k]? = some (.int .i64 0) := by
  unfold copied
  rw [List.getElem?_append_right (by simp; omega)]
  simp [Nat.min_eq_left (Nat.le_of_lt hk), List.getElem?_replicate]; omega
theorem copied_succ (xs : List Int) (k : Nat) (hk : k < xs.length) : (copied xs k).set k (.int .i64 xs[k]) = copied xs (k + 1) := by
  unfold copied
  rw [List.set_append_right _ _ (by simp; omega)]
  simp only [List.length_map, List.length_take, Nat.min_eq_left (Nat.le_of_lt hk), Nat.sub_self]
  obtain ⟨m, hm⟩ : ∃ m, xs.length - k = m + 1 := ⟨xs.length - k - 1, by omega⟩
  rw [hm, List.replicate_succ, List.set_cons_zero, List.take_succ_eq_append_getElem hk, List.map_append, List.append_assoc]
  have : xs.length - (k + 1) = m := by omega
  rw [this]; rfl

set_option maxHeartbeats 400000 in
theorem toIntS_any (a : Option Addr) (cap : Nat) (xs : List Int) (w : World) (ha : IntsAt w a cap xs) (hn : xs.length ≤ 1048576) :
    Calls Tryd.prog 19 #[.slice a xs.length cap] w fun e w' => ∃ g, e = .returned (.slice (some ⟨g, 0, none⟩) xs.length xs.length) ∧
      Own 3 w' w.heap.size (.slice (some ⟨g, 0, none⟩) xs.length xs.length) xs ∧ Below w.heap.size w w' := by
  have hmk := run_make_ints xs.length (by omega)
  have HA := Lib.hid ha
  clear ha
  go_enter Tryd.func19, Tryd.ntmps19
  go_wp2
  go_loopw [4] (fun i wr => ∃ k : Nat, k ≤ xs.length ∧ i = .int .i64 k ∧ wr.ownsRow w.heap.size 3 1 (.slice (some ⟨w.heap.size, 0, none⟩) xs.length xs.length) xs.length (copied xs k) ∧ Below w.heap.size w wr) (fun i _ => xs.length - (intOf i).toNat)
  case atStart =>
    refine ⟨0, Nat.zero_le _, rfl, ?_, (Below.refl _ _).alloc (Nat.le_refl _) _⟩
    rw [copied_zero]
    exact World.ownsRow_lit (base := w.heap.size) (size := 1) w _ _ (Nat.le_refl _) (by unfold maxLen; omega) (by simp [size_madeCells])
  case round =>
    obtain ⟨k, hk, rfl, hown, hb⟩ := hrel
    by_cases hlt : k < xs.length
    · obtain ⟨b, off, rfl, hc⟩ := (HA.out.below hb).get hlt
      have hc2 : wr.cell? ⟨w.heap.size, k, none⟩ = (copied xs k)[k]? := hown.cellAt k (by omega)
      have hc3 : wr.cell? ⟨w.heap.size, k, none⟩ = some (.int .i64 0) := by rw [hc2, copied_get xs k hlt]
      have hfz := hown.frozenAt k
      have H2 := Lib.hid hown
      have H3 := Lib.hid hb
      clear hown hb hc2
      go_wp2
      go_roundw
      case rel =>
        have h := H2.out.stored k (.int .i64 xs[k])
        rw [copied_succ xs k hlt] at h
        exact ⟨k + 1, by omega, by go_num, h.1, H3.out.setCell (Nat.le_refl _) _⟩
      case measure => simp [intOf]; omega
    · go_wp2
      go_ret
      obtain rfl : k = xs.length := by omega
      rw [copied_all] at hown
      exact ⟨_, rfl, ⟨HA.out.fit, hown⟩, hb⟩

set_option maxHeartbeats 400000 in
theorem eqIntS_any (a b : Option Addr) (ca cb : Nat) (xs ys : List Int) (w : World) (ha : IntsAt w a ca xs) (hb : IntsAt w b cb ys) (hn : xs.length ≤ 1048576) (hm : ys.length ≤ 1048576) :
    Calls Tryd.prog 21 #[.slice a xs.length ca, .slice b ys.length cb] w fun e w' => e = .returned (.bool (decide (xs = ys))) ∧ Below w.heap.size w w' := by
  have HA := Lib.hid ha
  have HB := Lib.hid hb
  clear ha hb
  by_cases hl : xs.length = ys.length
  · have hl1 : ((xs.length : Int) != (ys.length : Int)) = false := by simp [hl]
    have HL := Lib.hid hl
    clear hl
    go_enter Tryd.func21, Tryd.ntmps21
    go_wp2
    go_loopw [5] (fun i wr => ∃ k : Nat, k ≤ xs.length ∧ i = .int .i64 k ∧ xs.take k = ys.take k ∧ Below w.heap.size w wr) (fun i _ => xs.length - (intOf i).toNat)
    case atStart => exact ⟨0, Nat.zero_le _, rfl, rfl, Below.refl _ _⟩
    case round =>
      obtain ⟨k, hk, rfl, heq, hbl⟩ := hrel
      have HE := Lib.hid heq
      have HBL := Lib.hid hbl
      clear heq hbl
      by_cases hlt : k < xs.length
      · obtain ⟨b1, off1, rfl, hc1⟩ := (HA.out.below HBL.out).get hlt
        obtain ⟨b2, off2, rfl, hc2⟩ := (HB.out.below HBL.out).get (k := k) (by have := HL.out; omega)
        have hlt2 : k < ys.length := by have := HL.out; omega
        go_wp2
        go_quiet (fail)
        go_wp2
        · rename_i hne
          go_ret
          refine ⟨ret_bool ?_, HBL.out.trans (below_drewN (Below.refl _ _) _)⟩
          have : xs ≠ ys := by rintro rfl; simp at hne
          simp [this]
        · rename_i heq
          go_roundw
          case rel =>
            refine ⟨k + 1, by omega, by go_num, ?_, HBL.out.trans (below_drewN (Below.refl _ _) _)⟩
            rw [List.take_succ_eq_append_getElem hlt, List.take_succ_eq_append_getElem hlt2, HE.out]
            simp at heq; rw [heq]
          case measure => simp [intOf]; omega
      · go_wp2
        go_ret
        have h1 : k = xs.length := by omega
        have h2 := HL.out
        have h3 := HE.out
        rw [List.take_of_length_le (by omega), List.take_of_length_le (by omega)] at h3
        exact ⟨ret_bool (by simp [h3]), HBL.out⟩
  · have hl1 : ((xs.length : Int) != (ys.length : Int)) = true := by simp; omega
    have hne : decide (xs = ys) = false := by simp; intro h; exact hl (by rw [h])
    rw [hne]
    go_enter Tryd.func21, Tryd.ntmps21
    go_wp2
    go_ret
    exact ⟨rfl, Below.refl _ _⟩

set_option maxHeartbeats 400000 in
theorem eqIntS_same (a : Option Addr) (ca : Nat) (b : Option Addr) (cb : Nat) (xs : List Int) (w : World) (ha : IntsAt w a ca xs) (hb : IntsAt w b cb xs) (hn : xs.length ≤ 1048576) :
    Calls Tryd.prog 21 #[.slice a xs.length ca, .slice b xs.length cb] w fun e w' => e = .returned (.bool true) ∧ Below w.heap.size w w' :=
  (eqIntS_any a b ca cb xs xs w ha hb hn hn).mono fun e w' ⟨h1, h2⟩ => ⟨by rw [h1]; simp, h2⟩

/-- k, k + 1, .. -/
def marks (k : Int) (n : Nat) : List Value := (List.range n).map fun (i : Nat) => Value.int .i64 (k + i)
def marked (k : Int) (xs : List Value) (j : Nat) : List Value := marks k j ++ xs.drop j
theorem marked_zero (k : Int) (xs : List Value) : marked k xs 0 = xs := by simp [marked, marks]
theorem marked_all (k : Int) (xs : List Value) : marked k xs xs.length = marks k xs.length := by simp [marked]
theorem marked_set (k : Int) (xs : List Value) (j : Nat) (hj : j < xs.length) : (marked k xs j).set j (.int .i64 (k + j)) = marked k xs (j + 1) := by
  unfold marked
  rw [List.set_append_right _ _ (by simp [marks])]
  simp only [marks, List.length_map, List.length_range, Nat.sub_self]
  rw [List.drop_eq_getElem_cons hj, List.set_cons_zero, List.range_succ, List.map_append, List.append_assoc]; rfl
theorem marked_get (k : Int) (xs : List Value) (j : Nat) (hj : j < xs.length) : (marked k xs j)[j]? = some xs[j] := by
  unfold marked
  rw [List.getElem?_append_right (by simp [marks])]
  simp [marks, hj]

set_option maxHeartbeats 400000 in
theorem markIntS_any (base : Nat) (a : Option Addr) (n cap : Nat) (xs : List Value) (k : Int) (w : World) (ha : w.ownsRow base 3 1 (.slice a n cap) n xs) (hn : n ≤ 1048576) (hk0 : 0 ≤ k) (hk1 : k ≤ 1000000000) :
    Calls Tryd.prog 24 #[.slice a n cap, .int .i64 k] w fun e w' => e = .returned (.int .i64 (k + n)) ∧ w'.ownsRow base 3 1 (.slice a n cap) n (marks k n) ∧ w.grownBy w' (Value.slice a n cap).ownBlock := by
  have hlen : xs.length = n := by have := ha.1; simpa using this
  have HL := Lib.hid hlen
  have HA := Lib.hid ha
  clear ha hlen
  go_enter Tryd.func24, Tryd.ntmps24
  go_wp2
  go_loopw [1, 5] (fun q i wr => ∃ j : Nat, j ≤ n ∧ i = .int .i64 j ∧ q = .int .i64 (k + j) ∧ wr.ownsRow base 3 1 (.slice a n cap) n (marked k xs j) ∧ w.grownBy wr (Value.slice a n cap).ownBlock) (fun _ i _ => n - (intOf i).toNat)
  case atStart => exact ⟨0, Nat.zero_le _, rfl, by simp, by rw [marked_zero]; exact HA.out, ⟨rfl, rfl, rfl, Nat.le_refl _, fun _ _ _ => rfl⟩⟩
  case round =>
    obtain ⟨j, hj, rfl, rfl, hown, hg⟩ := hrel
    have HO := Lib.hid hown
    have HG := Lib.hid hg
    clear hown hg
    by_cases hlt : j < n
    · obtain ⟨g, rfl⟩ : ∃ g, a = some ⟨g, 0, none⟩ := by
        rcases HO.out.2 with ⟨_, h⟩ | ⟨g, _, _, h, _⟩
        · omega
        · simp only [Value.slice.injEq] at h; exact ⟨g, h.1⟩
      have hc : ∃ v, wr.cell? ⟨g, j, none⟩ = some v := ⟨_, by rw [HO.out.cellAt j (by omega), marked_get k xs j (by have := HL.out; omega)]⟩
      obtain ⟨v, hc⟩ := hc
      have hf := HO.out.frozenAt j
      go_wp2
      go_roundw
      case rel =>
        have h := HO.out.stored j (.int .i64 (k + j))
        rw [marked_set k xs j (by have := HL.out; omega)] at h
        refine ⟨j + 1, by omega, by go_num, by congr 1; omega, h.1, ?_⟩
        have h1 := HG.out; have h2 := h.2
        exact ⟨h2.os.trans h1.os, h2.tape.trans h1.tape, h2.output.trans h1.output, Nat.le_trans h1.size h2.size, fun q hq hne => (h2.block q (Nat.lt_of_lt_of_le hq h1.size) hne).trans (h1.block q hq hne)⟩
      case measure => simp [intOf]; omega
    · go_wp2
      go_ret
      obtain rfl : j = n := by omega
      have h := HO.out
      have h2 := marked_all k xs
      rw [HL.out] at h2
      rw [h2] at h
      exact ⟨rfl, h, HG.out⟩

set_option maxHeartbeats 400000 in
theorem heldIntS_any (base : Nat) (a : Option Addr) (n cap : Nat) (k : Int) (w : World) (ha : w.ownsRow base 3 1 (.slice a n cap) n (marks k n)) (hn : n ≤ 1048576) (hk0 : 0 ≤ k) (hk1 : k ≤ 1000000000) :
    Calls Tryd.prog 25 #[.slice a n cap, .int .i64 k] w fun e w' => e = .returned (.int .i64 (k + n)) ∧ w = w' := by
  have HA := Lib.hid ha
  clear ha
  go_enter Tryd.func25, Tryd.ntmps25
  go_wp2
  go_loop [1, 5] (fun q i => ∃ j : Nat, j ≤ n ∧ i = .int .i64 j ∧ q = .int .i64 (k + j)) (fun _ i => n - (intOf i).toNat)
  case atStart => exact ⟨0, Nat.zero_le _, rfl, by simp⟩
  case round =>
    obtain ⟨j, hj, rfl, rfl⟩ := hrel
    by_cases hlt : j < n
    · obtain ⟨g, rfl⟩ : ∃ g, a = some ⟨g, 0, none⟩ := by
        rcases HA.out.2 with ⟨_, h⟩ | ⟨g, _, _, h, _⟩
        · omega
        · simp only [Value.slice.injEq] at h; exact ⟨g, h.1⟩
      have hc : w.cell? ⟨g, j, none⟩ = some (.int .i64 (k + j)) := by rw [HA.out.cellAt j (by omega)]; simp [marks, hlt]
      go_wp2
      go_round
      case rel => exact ⟨j + 1, by omega, by go_num, by congr 1; omega⟩
      case measure => simp [intOf]; omega
    · go_wp2
      go_ret
      obtain rfl : j = n := by omega
      exact ⟨rfl, rfl⟩
end Go.Proofs.YtjklefkkdaelnaaDoor
