/- Slices of strings as arguments; Join. -/
import Derived.Test.YtjklefkkdaelnaaDoorStrOps
import Derived.Test.YtjklefkkdaelnaaDoorFrameA
import Derived.Test.YtjklefkkdaelnaaDoorShelf
import Derived.SliceStrings
namespace Go.Proofs.YtjklefkkdaelnaaDoor
set_option linter.unusedVariables false
set_option linter.unusedSimpArgs false
open Go.RowKit Go.ChangeShapes Go.WideShapes Go.ChangeAt

section
variable {H : Type} {enc : TypeId × Value → H} {W : World} {held : Bool}
theorem strs_at {w : World} {a : Addr} {ss : List ByteArray} (h : ∀ i, i < ss.length → w.cell? (a.add i) = some (.string (ss.getD i ByteArray.empty))) (hp : 0 < ss.length) :
    ∃ b off, a = ⟨b, off, none⟩ ∧ ∀ j, j < ss.length → w.cell? ⟨b, off + j, none⟩ = some (.string (ss.getD j ByteArray.empty)) := by
  obtain ⟨b, off, spot⟩ := a
  have hspot : spot = none := by simpa [Addr.add] using World.cell?_spot (h 0 hp)
  subst hspot
  exact ⟨b, off, rfl, fun j hj => by rw [← Go.WideShapes.add_plain]; exact h j hj⟩
/-- A slice of strings that came in. -/
theorem strs_of_trod {b0 : Nat} {fuel : Nat} {v : Value} {x : DataW H × List MemPlace} (hf : DataW.trod enc Tryd.prog W b0 (fun _ => true) held fuel 22 [v] = some x) :
    ∃ a cap xs, v = .slice a (List.length xs) cap ∧ StrsAt W a cap xs ∧ ∀ s ∈ xs, s.size ≤ maxLen := by
  rcases open_strings Tryd.underlying22 Tryd.underlying9 (by kernel_rfl) hf with ⟨hcs, _⟩ | ⟨a, l, c, zs, hcs, _, hl, hm, hz, _, hcell, hwz⟩
  · simp at hcs
    exact ⟨none, 0, [], by simp [hcs], ⟨Nat.zero_le _, Nat.zero_le _, fun _ => rfl, .inl rfl⟩, by simp⟩
  · simp at hcs hz
    have hlen : (zs.take l).length = l := by simp; omega
    refine ⟨some a, c, zs.take l, by rw [hlen, hcs], ⟨by rw [hlen]; exact hl, hm, (fun h => by cases h), ?_⟩, fun s hs => hwz s (List.mem_of_mem_take hs)⟩
    by_cases h0 : l = 0
    · left; simp [h0]
    · right
      obtain ⟨b, off, rfl, hc⟩ := strs_at hcell (by omega)
      refine ⟨b, off, rfl, World.block_lt_of_cell? W _ (hc 0 (by omega)), fun j hj => ?_⟩
      rw [hlen] at hj
      rw [hc j (by omega)]
      simp [hj]
set_option maxRecDepth 100000 in
theorem strs_of_arg {v : Value} {d : DataW H} {p : List MemPlace} {r : Reach} {b1 : Nat} (hv : Value.okWide Tryd.prog W r b1 22 v) (h : DataW.Trod enc Tryd.prog W 0 (fun _ => true) held 22 v d p) :
    ∃ a cap xs, v = .slice a (List.length xs) cap ∧ StrsAt W a cap xs ∧ ∀ s ∈ xs, s.size ≤ maxLen := by
  obtain ⟨a0, len0, cap0, rfl⟩ := okWide_slice Tryd.underlying22 hv
  obtain ⟨fuel, hf⟩ := h
  exact strs_of_trod hf
end

theorem run_make_strs (n : Nat) (hn : n ≤ 16777216) (w : World) : (Instr.makeSlice 22 (.int .i64 (n : Int)) (.int .i64 (n : Int))).run Tryd.prog w =
    .ok (.slice (some ⟨w.heap.size, 0, none⟩) n n) (w.alloc (.cells (madeCells #[.string ByteArray.empty] n) 9)) := by
  obtain ⟨i0, hi, hz0, hz1, hz2⟩ := info_parts Tryd.infoStr
  have := run_make (P := Tryd.prog) w 22 9 i0 (.string ByteArray.empty) Tryd.underlying22 hi hz0 .i64 .i64 n n (by omega) (Int.le_refl _) (by rw [hz2]; omega) (by omega)
  simpa [hz1, Value.cells] using this

def copiedS (xs : List ByteArray) (k : Nat) : List Value := (xs.take k).map Value.string ++ List.replicate (xs.length - k) (.string ByteArray.empty)
theorem copiedS_zero (xs : List ByteArray) : copiedS xs 0 = (madeCells #[.string ByteArray.empty] xs.length).toList := by simp [copiedS, toList_madeCells_one]
theorem copiedS_all (xs : List ByteArray) : copiedS xs xs.length = xs.map Value.string := by simp [copiedS]
theorem copiedS_get (xs : List ByteArray) (k : Nat) (hk : k < xs.length) : (copiedS xs k)[k]? = some (.string ByteArray.empty) := by
  unfold copiedS
  rw [List.getElem?_append_right (by simp; omega)]
  simp [Nat.min_eq_left (Nat.le_of_lt hk), List.getElem?_replicate]; omega
theorem copiedS_succ (xs : List ByteArray) (k : Nat) (hk : k < xs.length) : (copiedS xs k).set k (.string xs[k]) = copiedS xs (k + 1) := by
  unfold copiedS
  rw [List.set_append_right _ _ (by simp; omega)]
  have hr : xs.length - k = (xs.length - (k + 1)) + 1 := by omega
  simp only [List.length_map, List.length_take, Nat.min_eq_left (Nat.le_of_lt hk), Nat.sub_self]
  rw [hr, List.replicate_succ, List.set_cons_zero, List.take_succ_eq_append_getElem hk, List.map_append, List.append_assoc]
  rfl
def totS (xs : List ByteArray) : Nat := (xs.map ByteArray.size).sum
theorem totS_succ (xs : List ByteArray) (k : Nat) (hk : k < xs.length) : totS (xs.take (k + 1)) = totS (xs.take k) + (xs[k]).size := by
  rw [List.take_succ_eq_append_getElem hk]
  simp only [totS, List.map_append, List.sum_append, List.map_cons, List.map_nil, List.sum_cons, List.sum_nil, Nat.add_zero]
theorem totS_take_le (xs : List ByteArray) (k : Nat) : totS (xs.take k) ≤ totS xs := by
  conv => rhs; rw [← List.take_append_drop k xs]
  unfold totS
  rw [List.map_append, List.sum_append]; omega
theorem totS_all (xs : List ByteArray) : totS (xs.take xs.length) = totS xs := by rw [List.take_length]
def joinB (xs : List ByteArray) (t : ByteArray) : ByteArray := ⟨(Lib.join (xs.map (·.data.toList)) t.data.toList).toArray⟩
theorem joinB_nil (t : ByteArray) : joinB [] t = ByteArray.empty := rfl
theorem joinB_one (x t : ByteArray) : joinB [x] t = x := by
  unfold joinB
  rw [List.map_cons, List.map_nil, Lib.join_one]
theorem joinL_snoc (x : List UInt8) (r : List (List UInt8)) (y sep : List UInt8) : Lib.join (x :: r ++ [y]) sep = Lib.join (x :: r) sep ++ sep ++ y := by
  rw [List.cons_append, Lib.join_cons, Lib.join_cons]
  simp [Lib.joinTail, List.append_assoc]
theorem joinB_snoc (xs : List ByteArray) (y t : ByteArray) (h : xs ≠ []) : joinB (xs ++ [y]) t = joinB xs t ++ t ++ y := by
  obtain ⟨x, r, rfl⟩ := List.exists_cons_of_ne_nil h
  apply ByteArray.ext
  unfold joinB
  rw [List.map_append, List.map_cons, List.map_cons, List.map_nil, joinL_snoc]
  simp [ByteArray.data_append]
theorem joinL_len (xs : List (List UInt8)) (sep : List UInt8) : (Lib.join xs sep).length ≤ sep.length * xs.length + Lib.lens xs := by
  cases xs with
  | nil => simp [Lib.join_nil]
  | cons x r =>
    rw [Lib.join_cons, List.length_append, Lib.joinTail_length]
    simp only [Lib.lens, List.map_cons, List.sum_cons, List.length_cons, Nat.mul_succ]
    omega
theorem lens_tot (xs : List ByteArray) : Lib.lens (xs.map (·.data.toList)) = totS xs := by
  unfold Lib.lens totS
  rw [List.map_map]
  congr 1
theorem joinB_len (xs : List ByteArray) (t : ByteArray) (h : xs.length + totS xs ≤ 1048576) (ht : t.size ≤ 1048576) : (Lib.join (xs.map (·.data.toList)) t.data.toList).length ≤ 2199023255552 := by
  have h1 := joinL_len (xs.map (·.data.toList)) t.data.toList
  rw [lens_tot, List.length_map] at h1
  have h2 : t.data.toList.length * xs.length ≤ 1048576 * 1048576 := Nat.mul_le_mul (by simpa using ht) (by omega)
  omega
theorem joinB_size (xs : List ByteArray) (t : ByteArray) (h : xs.length + totS xs ≤ 1048576) (ht : t.size ≤ 1048576) : (joinB xs t).size ≤ 2199023255552 := by
  have := joinB_len xs t h ht
  unfold joinB ByteArray.size
  simpa using this
set_option maxHeartbeats 1000000 in
theorem implJoin_any (a : Option Addr) (cap : Nat) (xs : List ByteArray) (t : ByteArray) (w : World) (ha : StrsAt w a cap xs) (h : xs.length + totS xs ≤ 1048576) (ht : t.size ≤ 1048576) :
    Calls Tryd.prog 51 #[.slice a xs.length cap, .string t] w fun e w' => e = .returned (.string (joinB xs t)) ∧ Below w.heap.size w w' := by
  rcases ha.at_ with h0 | ⟨b, off, hab, hlt, hcell⟩
  · subst h0
    go_enter Tryd.func51, Tryd.ntmps51
    go_wp2_with fail
    refine (Tryd.strings_Join_none a cap t _).mono ?_
    rintro e W1 ⟨rfl, rfl⟩
    go_wp2
    go_ret
    exact ⟨rfl, Below.refl _ _⟩
  · subst hab
    have hroom := ha.room
    have hlen := joinB_len xs t h ht
    have hcc : ∀ (j : Nat) x, xs[j]? = some x → w.cell? ⟨b, off + j, none⟩ = some (.string x) := by
      intro j x hx
      have hj := (List.getElem?_eq_some_iff.1 hx).1
      rw [hcell j hj, List.getD_eq_getElem?_getD, hx]; rfl
    go_enter Tryd.func51, Tryd.ntmps51
    go_wp2_with fail
    refine (Tryd.strings_Join b off cap xs t _ hcc hlt (by omega) hroom (by omega)).mono ?_
    rintro e W1 ⟨rfl, b1⟩
    go_wp2
    go_ret
    exact ⟨rfl, b1⟩
end Go.Proofs.YtjklefkkdaelnaaDoor
