/- Slices of strings as arguments; Join. -/
import Derived.Test.YtgbnocfkkhngmaaStrOps
import Derived.Test.YtgbnocfkkhngmaaFrame
import Derived.Test.YtgbnocfkkhngmaaShelf
import Derived.SliceStrings
namespace Go.Proofs.Ytgbnocfkkhngmaa
set_option linter.unusedVariables false
set_option linter.unusedSimpArgs false
open Go.RowKit Go.ChangeShapes Go.WideShapes Go.ChangeAt

section
variable {H : Type} {enc : TypeId × Value → H} {W : World} {held : Bool}
theorem strs_at {w : World} {a : Addr} {ss : List ByteArray} (h : ∀ i, i < ss.length → w.cell? (a.add i) = some (.string (ss.getD i ByteArray.empty))) (hp : 0 < ss.length) :
    ∃ b off, a = ⟨b, off, none⟩ ∧ ∀ j, j < ss.length → w.cell? ⟨b, off + j, none⟩ = some (.string (ss.getD j ByteArray.empty)) := by
  obtain ⟨b, off, spot⟩ := a
  have hspot : spot = none := by simpa [Addr.add] using World.cell?_spot (h 0 hp)
  subst hspot
  exact ⟨b, off, rfl, fun j hj => by rw [← Go.WideShapes.add_plain]; exact h j hj⟩
/-- A slice of strings that came in. -/
theorem strs_of_trod {b0 : Nat} {fuel : Nat} {v : Value} {x : DataW H × List MemPlace} (hf : DataW.trod enc Try.prog W b0 (fun _ => true) held fuel 22 [v] = some x) :
    ∃ a cap xs, v = .slice a (List.length xs) cap ∧ StrsAt W a cap xs ∧ ∀ s ∈ xs, s.size ≤ maxLen := by
  rcases open_strings Try.underlying22 Try.underlying9 (by kernel_rfl) hf with ⟨hcs, _⟩ | ⟨a, l, c, zs, hcs, _, hl, hm, hz, _, hcell, hwz⟩
  · simp at hcs
    exact ⟨none, 0, [], by simp [hcs], ⟨Nat.zero_le _, Nat.zero_le _, fun _ => rfl, .inl rfl⟩, by simp⟩
  · simp at hcs hz
    have hlen : (zs.take l).length = l := by simp; omega
    refine ⟨some a, c, zs.take l, by rw [hlen, hcs], ⟨by rw [hlen]; exact hl, hm, (fun h => by cases h), ?_⟩, fun s hs => hwz s (List.mem_of_mem_take hs)⟩
    by_cases h0 : l = 0
    · left; simp [h0]
    · right
      obtain ⟨b, off, rfl, hc⟩ := strs_at hcell (by omega)
      refine ⟨b, off, rfl, World.block_lt_of_cell? W _ (hc 0 (by omega)), fun j hj => ?_⟩
      rw [hlen] at hj
      rw [hc j (by omega)]
      simp [hj]
set_option maxRecDepth 100000 in
theorem strs_of_arg {v : Value} {d : DataW H} {p : List MemPlace} {r : Reach} {b1 : Nat} (hv : Value.okWide Try.prog W r b1 22 v) (h : DataW.Trod enc Try.prog W 0 (fun _ => true) held 22 v d p) :
    ∃ a cap xs, v = .slice a (List.length xs) cap ∧ StrsAt W a cap xs ∧ ∀ s ∈ xs, s.size ≤ maxLen := by
  obtain ⟨a0, len0, cap0, rfl⟩ := okWide_slice Try.underlying22 hv
  obtain ⟨fuel, hf⟩ := h
  exact strs_of_trod hf
end

theorem run_make_strs (n : Nat) (hn : n ≤ 16777216) (w : World) : (Instr.makeSlice 22 (.int .i64 (n : Int)) (.int .i64 (n : Int))).run Try.prog w =
    .ok (.slice (some ⟨w.heap.size, 0, none⟩) n n) (w.alloc (.cells (madeCells #[.string ByteArray.empty] n) 9)) := by
  obtain ⟨i0, hi, hz0, hz1, hz2⟩ := info_parts Try.infoStr
  have := run_make (P := Try.prog) w 22 9 i0 (.string ByteArray.empty) Try.underlying22 hi hz0 .i64 .i64 n n (by omega) (Int.le_refl _) (by rw [hz2]; omega) (by omega)
  simpa [hz1, Value.cells] using this

def copiedS (xs : List ByteArray) (k : Nat) : List Value := (xs.take k).map Value.string ++ List.replicate (xs.length - k) (.string ByteArray.empty)
theorem copiedS_zero (xs : List ByteArray) : copiedS xs 0 = (madeCells #[.string ByteArray.empty] xs.length).toList := by simp [copiedS, toList_madeCells_one]
theorem copiedS_all (xs : List ByteArray) : copiedS xs xs.length = xs.map Value.string := by simp [copiedS]
theorem copiedS_get (xs : List ByteArray) (k : Nat) (hk : k < xs.length) : (copiedS xs k)[k]? = some (.string ByteArray.empty) := by
  unfold copiedS
  rw [List.getElem?_append_right (by simp; omega)]
  simp [Nat.min_eq_left (Nat.le_of_lt hk), List.getElem?_replicate]; omega
theorem copiedS_succ (xs : List ByteArray) (k : Nat) (hk : k < xs.length) : (copiedS xs k).set k (.string xs[k]) = copiedS xs (k + 1) := by
  unfold copiedS
  rw [List.set_append_right _ _ (by simp; omega)]
  have hr : xs.length - k = (xs.length - (k + 1)) + 1 := by omega
  simp only [List.length_map, List.length_take, Nat.min_eq_left (Nat.le_of_lt hk), Nat.sub_self]
  rw [hr, List.replicate_succ, List.set_cons_zero, List.take_succ_eq_append_getElem hk, List.map_append, List.append_assoc]
  rfl
set_option maxHeartbeats 1000000 in
theorem toStringS_own (a : Option Addr) (cap : Nat) (xs : List ByteArray) (w : World) (ha : StrsAt w a cap xs) (hn : xs.length ≤ 1048576) :
    Calls Try.prog 13 #[.slice a xs.length cap] w fun e w' => ∃ b c, e = .returned (.slice b xs.length c) ∧
      OwnS w' w.heap.size w'.heap.size (.slice b xs.length c) xs ∧ Below w.heap.size w w' := by
  have hmk := run_make_strs xs.length (by omega)
  have HA := Lib.hid ha
  clear ha
  go_enter Try.func13, Try.ntmps13
  go_wp2
  go_loopw [4] (fun i wr => ∃ k : Nat, k ≤ xs.length ∧ i = .int .i64 k ∧ wr.ownsRow w.heap.size 9 1 (.slice (some ⟨w.heap.size, 0, none⟩) xs.length xs.length) xs.length (copiedS xs k) ∧ Below w.heap.size w wr) (fun i _ => xs.length - (intOf i).toNat)
  case atStart =>
    refine ⟨0, Nat.zero_le _, rfl, ?_, (Below.refl _ _).alloc (Nat.le_refl _) _⟩
    rw [copiedS_zero]
    exact World.ownsRow_lit (base := w.heap.size) (size := 1) w _ _ (Nat.le_refl _) (by unfold maxLen; omega) (by simp [size_madeCells])
  case round =>
    obtain ⟨k, hk, rfl, hown, hb⟩ := hrel
    by_cases hlt : k < xs.length
    · obtain ⟨b, off, rfl, hc⟩ := (HA.out.below hb).get hlt
      have hc2 : wr.cell? ⟨w.heap.size, k, none⟩ = (copiedS xs k)[k]? := hown.cellAt k (by omega)
      have hc3 : wr.cell? ⟨w.heap.size, k, none⟩ = some (.string ByteArray.empty) := by rw [hc2, copiedS_get xs k hlt]
      have hfz := hown.frozenAt k
      have H2 := Lib.hid hown
      have H3 := Lib.hid hb
      clear hown hb hc2
      go_wp2
      go_roundw
      case rel =>
        have h := H2.out.stored k (.string xs[k])
        rw [copiedS_succ xs k hlt] at h
        exact ⟨k + 1, by omega, by go_num, h.1, H3.out.setCell (Nat.le_refl _) _⟩
      case measure => simp [intOf]; omega
    · go_wp2
      go_ret
      obtain rfl : k = xs.length := by omega
      rw [copiedS_all] at hown
      exact ⟨_, _, rfl, OwnStr.toS hown, hb⟩

def totS (xs : List ByteArray) : Nat := (xs.map ByteArray.size).sum
theorem totS_succ (xs : List ByteArray) (k : Nat) (hk : k < xs.length) : totS (xs.take (k + 1)) = totS (xs.take k) + (xs[k]).size := by
  rw [List.take_succ_eq_append_getElem hk]
  simp only [totS, List.map_append, List.sum_append, List.map_cons, List.map_nil, List.sum_cons, List.sum_nil, Nat.add_zero]
theorem totS_take_le (xs : List ByteArray) (k : Nat) : totS (xs.take k) ≤ totS xs := by
  conv => rhs; rw [← List.take_append_drop k xs]
  unfold totS
  rw [List.map_append, List.sum_append]; omega
theorem totS_all (xs : List ByteArray) : totS (xs.take xs.length) = totS xs := by rw [List.take_length]
set_option maxHeartbeats 1000000 in
theorem szStringS_any (a : Option Addr) (cap : Nat) (xs : List ByteArray) (n : Int) (w : World) (ha : StrsAt w a cap xs) (hz : ∀ s ∈ xs, s.size ≤ maxLen) (h0 : 0 ≤ n) (h1 : n ≤ 1048576) :
    Calls Try.prog 11 #[.slice a xs.length cap, .int .i64 n] w fun e w' => e = .returned (.int .i64 (if ((xs.length + totS xs : Nat) : Int) ≤ n then n - ((xs.length + totS xs : Nat) : Int) else -1)) ∧ Below w.heap.size w w' := by
  have hroom := ha.room
  have hsmall := ha.small
  have HA := Lib.hid ha
  clear ha
  unfold maxLen at hsmall
  obtain ⟨R, hR⟩ : ∃ R : Int, R = (if ((xs.length + totS xs : Nat) : Int) ≤ n then n - ((xs.length + totS xs : Nat) : Int) else -1) := ⟨_, rfl⟩
  rw [← hR]
  have HR := Lib.hid hR
  clear hR
  by_cases hle : (xs.length : Int) ≤ n
  case neg =>
    have hr : R = -1 := by rw [HR.out, if_neg (by omega)]
    subst hr
    go_enter Try.func11, Try.ntmps11
    go_wp2
    go_ret
    exact ⟨rfl, Below.refl _ _⟩
  go_enter Try.func11, Try.ntmps11
  go_wp2
  go_loopw [1, 5] (fun l i wr => ∃ k : Nat, k ≤ xs.length ∧ i = .int .i64 k ∧ l = .int .i64 (n - xs.length - (totS (xs.take k) : Nat)) ∧ ((xs.length + totS (xs.take k) : Nat) : Int) ≤ n ∧ Below w.heap.size w wr) (fun _ i _ => xs.length - (intOf i).toNat)
  case atStart => exact ⟨0, Nat.zero_le _, rfl, by simp [totS], by simp [totS]; omega, Below.refl _ _⟩
  case round =>
    obtain ⟨k, hk, rfl, rfl, hl, hb⟩ := hrel
    have HB := Lib.hid hb
    clear hb
    by_cases hlt : k < xs.length
    · obtain ⟨b, off, rfl, hc⟩ := (HA.out.below HB.out).get hlt
      have hs := totS_succ xs k hlt
      have hzk := hz _ (List.getElem_mem hlt)
      have htl := totS_take_le xs (k + 1)
      unfold maxLen at hzk
      have HS := Lib.hid hs
      have HT := Lib.hid htl
      obtain ⟨z, hzz⟩ : ∃ z, z = (xs[k]).size := ⟨_, rfl⟩
      obtain ⟨t, ht⟩ : ∃ t, t = totS (xs.take k) := ⟨_, rfl⟩
      clear hs htl
      by_cases hfit : ((xs.length + totS (xs.take k) + (xs[k]).size : Nat) : Int) ≤ n
      · go_wp2
        go_roundw
        case rel => exact ⟨k + 1, by omega, by go_num, by rw [HS.out]; congr 1; omega, by rw [HS.out]; omega, HB.out⟩
        case measure => simp [intOf]; omega
      · have hr : R = -1 := by rw [HR.out, if_neg (by have := HS.out; have := HT.out; omega)]
        subst hr
        go_wp2
        go_ret
        exact ⟨rfl, HB.out⟩
    · have HK : Hid (totS (xs.take k) = totS xs) := by
        have : k = xs.length := by omega
        unfold Hid
        rw [this, totS_all]
      have hr : R = n - xs.length - (totS (xs.take k) : Nat) := by
        have := HK.out
        rw [HR.out, if_pos (by omega)]; omega
      subst hr
      go_wp2
      go_ret
      exact ⟨rfl, HB.out⟩

def joinB (xs : List ByteArray) (t : ByteArray) : ByteArray := ⟨(Lib.join (xs.map (·.data.toList)) t.data.toList).toArray⟩
theorem joinB_nil (t : ByteArray) : joinB [] t = ByteArray.empty := rfl
theorem joinB_one (x t : ByteArray) : joinB [x] t = x := by
  unfold joinB
  rw [List.map_cons, List.map_nil, Lib.join_one]
theorem joinL_snoc (x : List UInt8) (r : List (List UInt8)) (y sep : List UInt8) : Lib.join (x :: r ++ [y]) sep = Lib.join (x :: r) sep ++ sep ++ y := by
  rw [List.cons_append, Lib.join_cons, Lib.join_cons]
  simp [Lib.joinTail, List.append_assoc]
theorem joinB_snoc (xs : List ByteArray) (y t : ByteArray) (h : xs ≠ []) : joinB (xs ++ [y]) t = joinB xs t ++ t ++ y := by
  obtain ⟨x, r, rfl⟩ := List.exists_cons_of_ne_nil h
  apply ByteArray.ext
  unfold joinB
  rw [List.map_append, List.map_cons, List.map_cons, List.map_nil, joinL_snoc]
  simp [ByteArray.data_append]
theorem joinL_len (xs : List (List UInt8)) (sep : List UInt8) : (Lib.join xs sep).length ≤ sep.length * xs.length + Lib.lens xs := by
  cases xs with
  | nil => simp [Lib.join_nil]
  | cons x r =>
    rw [Lib.join_cons, List.length_append, Lib.joinTail_length]
    simp only [Lib.lens, List.map_cons, List.sum_cons, List.length_cons, Nat.mul_succ]
    omega
theorem lens_tot (xs : List ByteArray) : Lib.lens (xs.map (·.data.toList)) = totS xs := by
  unfold Lib.lens totS
  rw [List.map_map]
  congr 1
theorem joinB_len (xs : List ByteArray) (t : ByteArray) (h : xs.length + totS xs ≤ 1048576) (ht : t.size ≤ 1048576) : (Lib.join (xs.map (·.data.toList)) t.data.toList).length ≤ 2199023255552 := by
  have h1 := joinL_len (xs.map (·.data.toList)) t.data.toList
  rw [lens_tot, List.length_map] at h1
  have h2 : t.data.toList.length * xs.length ≤ 1048576 * 1048576 := Nat.mul_le_mul (by simpa using ht) (by omega)
  omega
theorem joinB_size (xs : List ByteArray) (t : ByteArray) (h : xs.length + totS xs ≤ 1048576) (ht : t.size ≤ 1048576) : (joinB xs t).size ≤ 2199023255552 := by
  have := joinB_len xs t h ht
  unfold joinB ByteArray.size
  simpa using this
set_option maxHeartbeats 1000000 in
theorem specJoin_any (a : Option Addr) (cap : Nat) (xs : List ByteArray) (t : ByteArray) (w : World) (ha : StrsAt w a cap xs) (h : xs.length + totS xs ≤ 1048576) (ht : t.size ≤ 1048576) :
    Calls Try.prog 12 #[.slice a xs.length cap, .string t] w fun e w' => e = .returned (.string (joinB xs t)) ∧ Below w.heap.size w w' := by
  have HA := Lib.hid ha
  clear ha
  go_enter Try.func12, Try.ntmps12
  go_wp2
  go_loopw [5, 10] (fun s i wr => ∃ (k : Nat) (u : ByteArray), k ≤ xs.length ∧ i = .int .i64 k ∧ s = .string u ∧ Hid (u = joinB (xs.take k) t) ∧ u.size ≤ 2199023255552 ∧ Below w.heap.size w wr) (fun _ i _ => xs.length - (intOf i).toNat)
  case atStart => exact ⟨0, ByteArray.empty, Nat.zero_le _, rfl, rfl, rfl, by simp, Below.refl _ _⟩
  case round =>
    obtain ⟨k, u, hk, rfl, rfl, HU, hus, hb⟩ := hrel
    have HB := Lib.hid hb
    clear hb
    by_cases hlt : k < xs.length
    · obtain ⟨b, off, rfl, hc⟩ := (HA.out.below HB.out).get hlt
      have hs := totS_succ xs k hlt
      have htl := totS_take_le xs (k + 1)
      have hno : ¬ 9223372036854775807 < u.size + t.size := by omega
      have hno2 : ¬ 9223372036854775807 < u.size + (xs[k]).size := by omega
      have hno3 : ¬ 9223372036854775807 < u.size + t.size + (xs[k]).size := by omega
      have hsz := joinB_size (xs.take (k + 1)) t (by simp; omega) ht
      have htk := List.take_succ_eq_append_getElem hlt
      have HT := Lib.hid htk
      have HZ := Lib.hid hsz
      clear hs htl htk hsz
      by_cases hk0 : k = 0
      · subst hk0
        have HE : Hid (u = ByteArray.empty) := HU.out
        have HW : Hid (joinB (xs.take 1) t = xs[0]) := by
          have := HT.out
          unfold Hid
          rw [show (1 : Nat) = 0 + 1 from rfl, this]
          exact joinB_one _ _
        have hc0 : wr.cell? ⟨b, off, none⟩ = some (.string xs[0]) := hc
        clear hc
        go_wp2
        go_roundw
        case rel => exact ⟨1, _, by omega, by go_num, rfl, by unfold Hid; rw [HE.out, HW.out]; exact ByteArray.empty_append, by rw [HE.out, ByteArray.empty_append, ← HW.out]; exact HZ.out, HB.out⟩
        case measure => simp [intOf]; omega
      · have HW : Hid (joinB (xs.take (k + 1)) t = u ++ t ++ xs[k]) := by
          have h1 := HT.out
          have h2 := HU.out
          unfold Hid
          rw [h1, h2]
          exact joinB_snoc _ _ _ (by intro hh; have := congrArg List.length hh; rw [List.length_take, List.length_nil] at this; omega)
        have hkp : 0 < k := by omega
        go_wp2
        go_roundw
        case rel => exact ⟨k + 1, _, by omega, by go_num, rfl, HW.out.symm, by rw [← HW.out]; exact HZ.out, HB.out⟩
        case measure => simp [intOf]; omega
    · have HV : Hid (u = joinB xs t) := by
        have hkx : k = xs.length := by omega
        have HW := HU.out
        rw [hkx, List.take_length] at HW
        exact HW
      go_wp2
      go_ret
      refine ⟨?_, HB.out⟩
      show Ending.returned (.string u) = _
      rw [HV.out]
set_option maxHeartbeats 1000000 in
theorem implJoin_any (a : Option Addr) (cap : Nat) (xs : List ByteArray) (t : ByteArray) (w : World) (ha : StrsAt w a cap xs) (h : xs.length + totS xs ≤ 1048576) (ht : t.size ≤ 1048576) :
    Calls Try.prog 14 #[.slice a xs.length cap, .string t] w fun e w' => e = .returned (.string (joinB xs t)) ∧ Below w.heap.size w w' := by
  rcases ha.at_ with h0 | ⟨b, off, hab, hlt, hcell⟩
  · subst h0
    go_enter Try.func14, Try.ntmps14
    go_wp2_with fail
    refine (Try.strings_Join_none a cap t _).mono ?_
    rintro e W1 ⟨rfl, rfl⟩
    go_wp2
    go_ret
    exact ⟨rfl, Below.refl _ _⟩
  · subst hab
    have hroom := ha.room
    have hlen := joinB_len xs t h ht
    have hcc : ∀ (j : Nat) x, xs[j]? = some x → w.cell? ⟨b, off + j, none⟩ = some (.string x) := by
      intro j x hx
      have hj := (List.getElem?_eq_some_iff.1 hx).1
      rw [hcell j hj, List.getD_eq_getElem?_getD, hx]; rfl
    go_enter Try.func14, Try.ntmps14
    go_wp2_with fail
    refine (Try.strings_Join b off cap xs t _ hcc hlt (by omega) hroom (by omega)).mono ?_
    rintro e W1 ⟨rfl, b1⟩
    go_wp2
    go_ret
    exact ⟨rfl, b1⟩
end Go.Proofs.Ytgbnocfkkhngmaa
