/- SplitLines. -/
import Derived.Test.YtjklefkkdaelnaaDoorSpLaw
import Derived.Test.YtjklefkkdaelnaaDoorShelf
namespace Go.Proofs.YtjklefkkdaelnaaDoor
set_option linter.unusedVariables false
set_option linter.unusedSimpArgs false
open Go.RowKit
def lastE (xs : List ByteArray) : Bool := (xs.getLastD ⟨#[1]⟩).toList.isEmpty
def cutE (xs : List ByteArray) : List ByteArray := if lastE xs then xs.take (xs.length - 1) else xs
def splitLines (s : ByteArray) : List ByteArray := cutE (splitAny s ⟨#[10]⟩)
theorem cutE_len (xs : List ByteArray) : (cutE xs).length ≤ xs.length := by
  unfold cutE
  split
  · rw [List.length_take]; omega
  · exact Nat.le_refl _
theorem splitLines_len {s : ByteArray} (h : s.size ≤ 1048576) : (splitLines s).length ≤ 2000000 := Nat.le_trans (cutE_len _) (splitAny_len h)
theorem splitAny_pos (s t : ByteArray) : 0 < (splitAny s t).length := by unfold splitAny; rw [List.length_append]; simp
theorem getLast_at {xs : List ByteArray} (h : 0 < xs.length) (d : ByteArray) : xs.getLastD d = xs[xs.length - 1] := by
  rw [List.getLastD_eq_getLast?, List.getLast?_eq_getElem?, List.getElem?_eq_getElem (by omega)]; rfl
theorem ownStr_take {w : World} {lo : Nat} {a : Option Addr} {cap : Nat} {xs : List ByteArray} (h : OwnStr w lo (.slice a xs.length cap) xs) {k : Nat} (hk : k ≤ xs.length) : OwnStr w lo (.slice a (xs.take k).length cap) (xs.take k) := by
  have h' : w.ownsRow lo 9 1 (.slice a xs.length cap) xs.length (xs.map Value.string) := h
  refine ⟨by simp, ?_⟩
  rcases h'.2 with ⟨hv, h0⟩ | ⟨g, cap', cur, hv, hb, hg, hnc, hcm, hcs, ht⟩
  · left
    simp only [Value.slice.injEq] at hv
    obtain ⟨rfl, h1, rfl⟩ := hv
    have : (xs.take k).length = 0 := by simp; omega
    exact ⟨by rw [this], this⟩
  · right
    simp only [Value.slice.injEq, true_and] at hv
    obtain ⟨rfl, rfl⟩ := hv
    refine ⟨g, cap, cur, rfl, hb, hg, by simp; omega, hcm, hcs, ?_⟩
    rw [List.map_take, ← ht]
    simp [List.take_take]
theorem OwnS.take {w : World} {lo hi : Nat} {a : Option Addr} {cap : Nat} {xs : List ByteArray} (h : OwnS w lo hi (.slice a xs.length cap) xs) {k : Nat} (hk : k ≤ xs.length) : OwnS w lo hi (.slice a (xs.take k).length cap) (xs.take k) :=
  ⟨ownStr_take h.1 hk, fun q hq => h.2 q (by cases a with | none => cases hq | some b => exact hq)⟩
set_option maxRecDepth 100000 in
set_option maxHeartbeats 2000000 in
theorem specSplitLines_own (s : ByteArray) (w : World) (hs : s.size ≤ 1048576) : Calls Tryd.prog 13 #[.string s] w fun e w' => ∃ p c, e = .returned (.slice p (splitLines s).length c) ∧ OwnS w' w.heap.size w'.heap.size (.slice p (splitLines s).length c) (splitLines s) ∧ Below w.heap.size w w' := by
  have hpos := splitAny_pos s ⟨#[10]⟩
  have HL := Lib.hid (splitAny_len (by_ := ⟨#[10]⟩) hs)
  go_enter Tryd.func13, Tryd.ntmps13
  go_wp2_with fail
  refine (specSplitAny_own s ⟨#[10]⟩ _ hs (by decide)).mono ?_
  rintro e W1 ⟨p, c, rfl, o1, b1⟩
  obtain ⟨xs, hxs⟩ : ∃ xs, xs = splitAny s ⟨#[10]⟩ := ⟨_, rfl⟩
  have HX := Lib.hid hxs
  rw [← hxs] at o1 hpos HL ⊢
  clear hxs
  have HO := Lib.hid o1
  have HB := Lib.hid b1
  have hroom := o1.i1.room
  obtain ⟨b, off, rfl, hc⟩ := o1.i1.get (k := xs.length - 1) (by omega)
  have hlen : xs.length ≤ 2000000 := HL.out
  clear o1 b1
  have HG := Lib.hid (getLast_at hpos ⟨#[1]⟩)
  obtain ⟨x, hx⟩ : ∃ x, x = xs[xs.length - 1] := ⟨_, rfl⟩
  rw [← hx] at hc HG
  clear hx
  by_cases he : x.toList.isEmpty = true
  · have HE : Hid (splitLines s = xs.take (xs.length - 1)) := by
      unfold Hid splitLines cutE lastE
      rw [← HX.out, HG.out, he]; rfl
    go_wp2
    go_ret
    have h2 := HO.out.take (k := xs.length - 1) (by omega)
    have h3 : (xs.take (xs.length - 1)).length = xs.length - 1 := by rw [List.length_take]; omega
    rw [HE.out]
    rw [h3] at h2 ⊢
    exact ⟨_, c, rfl, h2, HB.out⟩
  · have he' := Bool.eq_false_iff.2 he
    have HE : Hid (splitLines s = xs) := by
      unfold Hid splitLines cutE lastE
      rw [← HX.out, HG.out, he']; rfl
    clear he
    go_wp2
    go_ret
    rw [HE.out]
    exact ⟨_, c, rfl, HO.out, HB.out⟩
theorem specSplitLines_any (s : ByteArray) (w : World) (hs : s.size ≤ 1048576) : Calls Tryd.prog 13 #[.string s] w fun e w' => ∃ p c, e = .returned (.slice p (splitLines s).length c) ∧ StrsAt w' p c (splitLines s) ∧ Below w.heap.size w w' :=
  (specSplitLines_own s w hs).mono fun _ _ ⟨p, c, h1, h2, h3⟩ => ⟨p, c, h1, h2.i1, h3⟩
/-- the library's longest needle: some int -/
def MaxVar (w : World) : Prop := ∃ m : Int, w.cell? ⟨2, 0, none⟩ = some (.int .i64 m)
theorem MaxVar.below {w w' : World} (h : MaxVar w) (b : Below w.heap.size w w') : MaxVar w' := by
  obtain ⟨m, h⟩ := h
  exact ⟨m, (b.cell (p := ⟨2, 0, none⟩) (World.block_lt_of_cell? w _ h)).trans h⟩
theorem split_own (s : ByteArray) (w : World) (hs : s.size ≤ 1048576) (hm : MaxVar w) : Calls Tryd.prog 60 #[.string s, .string ⟨#[10]⟩] w fun e w' => ∃ p c, e = .returned (.slice p (splitAny s ⟨#[10]⟩).length c) ∧ OwnS w' w.heap.size w'.heap.size (.slice p (splitAny s ⟨#[10]⟩).length c) (splitAny s ⟨#[10]⟩) ∧ Below w.heap.size w w' := by
  obtain ⟨m, hm⟩ := hm
  refine (Tryd.strings_Split s ⟨#[10]⟩ m w (by omega) hm (by decide)).mono ?_
  rintro e w' ⟨rfl, rfl⟩
  rw [split_same]
  have hl : (splitAny s ⟨#[10]⟩).length = Lib.countB s ⟨#[10]⟩ + 1 := by
    have h1 := Lib.splitB_all ⟨#[10]⟩ (by decide) 0 (Lib.countB s ⟨#[10]⟩) s rfl
    rw [split_same] at h1
    exact h1
  have hmax := splitAny_len (by_ := ⟨#[10]⟩) hs
  rw [← hl]
  refine ⟨_, _, rfl, ?_, (Below.refl _ _).alloc (Nat.le_refl _) _⟩
  refine OwnStr.toS ?_
  have := World.ownsRow_lit (base := w.heap.size) (size := 1) (e := 9) w ((splitAny s ⟨#[10]⟩).map Value.string).toArray (splitAny s ⟨#[10]⟩).length (Nat.le_refl _) (by unfold maxLen; omega) (by rw [List.size_toArray, List.length_map]; omega)
  exact this
set_option maxRecDepth 100000 in
set_option maxHeartbeats 2000000 in
theorem implSplitLines_any (s : ByteArray) (w : World) (hs : s.size ≤ 1048576) (hm : MaxVar w) : Calls Tryd.prog 14 #[.string s] w fun e w' => ∃ p c, e = .returned (.slice p (splitLines s).length c) ∧ OwnS w' w.heap.size w'.heap.size (.slice p (splitLines s).length c) (splitLines s) ∧ Below w.heap.size w w' := by
  have hpos := splitAny_pos s ⟨#[10]⟩
  have HL := Lib.hid (splitAny_len (by_ := ⟨#[10]⟩) hs)
  have HM := Lib.hid hm
  clear hm
  go_enter Tryd.func14, Tryd.ntmps14
  go_wp2_with fail
  refine (split_own s _ hs HM.out).mono ?_
  rintro e W1 ⟨p, c, rfl, o1, b1⟩
  obtain ⟨xs, hxs⟩ : ∃ xs, xs = splitAny s ⟨#[10]⟩ := ⟨_, rfl⟩
  have HX := Lib.hid hxs
  rw [← hxs] at o1 hpos HL ⊢
  clear hxs
  have HO := Lib.hid o1
  have HB := Lib.hid b1
  have hroom := o1.i1.room
  obtain ⟨b, off, rfl, hc⟩ := o1.i1.get (k := xs.length - 1) (by omega)
  have hlen : xs.length ≤ 2000000 := HL.out
  clear o1 b1
  have HG := Lib.hid (getLast_at hpos ⟨#[1]⟩)
  obtain ⟨x, hx⟩ : ∃ x, x = xs[xs.length - 1] := ⟨_, rfl⟩
  rw [← hx] at hc HG
  clear hx
  by_cases he : x.toList.isEmpty = true
  · have HE : Hid (splitLines s = xs.take (xs.length - 1)) := by
      unfold Hid splitLines cutE lastE
      rw [← HX.out, HG.out, he]; rfl
    go_wp2
    go_ret
    have h2 := HO.out.take (k := xs.length - 1) (by omega)
    have h3 : (xs.take (xs.length - 1)).length = xs.length - 1 := by rw [List.length_take]; omega
    rw [HE.out]
    rw [h3] at h2 ⊢
    exact ⟨_, c, rfl, h2, HB.out⟩
  · have he' := Bool.eq_false_iff.2 he
    have HE : Hid (splitLines s = xs) := by
      unfold Hid splitLines cutE lastE
      rw [← HX.out, HG.out, he']; rfl
    clear he
    go_wp2
    go_ret
    rw [HE.out]
    exact ⟨_, c, rfl, HO.out, HB.out⟩
end Go.Proofs.YtjklefkkdaelnaaDoor
