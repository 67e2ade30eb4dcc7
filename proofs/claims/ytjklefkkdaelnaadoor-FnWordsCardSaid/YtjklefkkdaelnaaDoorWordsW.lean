/- MakeText, and what FnWords says. -/
import Derived.Test.YtjklefkkdaelnaaDoorDrawW
import Derived.Test.YtjklefkkdaelnaaDoorPIntI
import Derived.Test.YtjklefkkdaelnaaDoorLinesW
import Derived.Test.YtjklefkkdaelnaaDoorJoinW
namespace Go.Proofs.YtjklefkkdaelnaaDoor
set_option linter.unusedVariables false
set_option linter.unusedSimpArgs false
open Go.RowKit
set_option maxRecDepth 100000 in
set_option maxHeartbeats 1000000 in
theorem l01Str_any {lo : Nat} {a : Option Addr} {cap : Nat} {xs : List Int} {W : World} {C : Nat} (h : CurAt lo a cap xs W C) (G : Nat) (ys : List ByteArray) (hG : G ≠ C) (hlt : G < W.heap.size)
    (hc : ∀ j, j < ys.length → W.cell? ⟨G, j, none⟩ = some (.string (ys.getD j ByteArray.empty))) (hp : 0 < ys.length) (hl : ys.length ≤ 1000) :
    Calls Tryd.prog 96 #[.pointer (some ⟨C, 0, none⟩), .slice (some ⟨G, 0, none⟩) ys.length ys.length] W fun e W' => ∃ k : Nat, k < ys.length ∧ e = .returned (.string (ys.getD k ByteArray.empty)) ∧ CurAt lo a cap xs W' C ∧ Step C W W' := by
  have HC := Lib.hid h
  have HY := Lib.hid hc
  clear h hc
  go_enter Tryd.func96, Tryd.ntmps96
  go_wp2_with fail
  refine (l01Below_any HC.out ys.length (by omega) (by omega)).mono ?_
  rintro e W1 ⟨x, rfl, hx0, hx1, h1, s1⟩
  obtain ⟨k, rfl⟩ : ∃ k : Nat, x = k := ⟨x.toNat, by omega⟩
  have hk : k < ys.length := by omega
  have hcell : W1.cell? ⟨G, k, none⟩ = some (.string (ys.getD k ByteArray.empty)) := (World.cell?_of_block (s1.block G hlt (fun e => hG (Option.some.inj e)))).trans (HY.out k hk)
  have H1 := Lib.hid h1
  have S1 := Lib.hid s1
  obtain ⟨y, hy⟩ : ∃ y, y = ys.getD k ByteArray.empty := ⟨_, rfl⟩
  rw [← hy] at hcell
  have HYY := Lib.hid hy
  clear h1 s1 hy
  go_wp2
  go_ret
  exact ⟨k, hk, by (try rw [HYY.out]); rfl, H1.out, S1.out⟩
def words5 : List ByteArray := [⟨#[97]⟩, ⟨#[98, 99]⟩, ⟨#[32]⟩, ⟨#[44]⟩, ⟨#[120, 49]⟩]
theorem words5_size : ∀ k, k < 5 → (words5.getD k ByteArray.empty).size ≤ 2 := by decide
set_option maxRecDepth 100000 in
set_option maxHeartbeats 1000000 in
theorem makeText_any (a : Option Addr) (cap : Nat) (xs : List Int) (w : World) (h : BytesAt w a cap xs) (hl : xs.length ≤ 1048576) :
    Calls Tryd.prog 50 #[.slice a xs.length cap] w fun e W' => ∃ u : ByteArray, e = .returned (.string u) ∧ u.size ≤ 14 ∧ Below w.heap.size w W' := by
  go_enter Tryd.func50, Tryd.ntmps50
  go_wp2_with fail
  refine (l01New_any a cap xs _ h hl).mono ?_
  rintro e W1 ⟨C, rfl, h1, b1⟩
  have H1 := Lib.hid h1
  have B1 := Lib.hid b1
  clear h1 b1
  go_wp2_with fail
  refine (l01Below_any H1.out 8 (by omega) (by omega)).mono ?_
  rintro e W2 ⟨x, rfl, hx0, hx1, h2, s2⟩
  have H2 := Lib.hid h2
  have B2 : Hid (Below w.heap.size w W2) := B1.out.trans (s2.below H1.out.low B1.out.size)
  clear h2 s2
  go_wp2
  go_loopw [4, 5] (fun s n wr => ∃ (u : ByteArray) (z : Int), s = .string u ∧ n = .int .i64 z ∧ 0 ≤ z ∧ z ≤ 7 ∧ (u.size : Int) + 2 * z ≤ 14 ∧ Hid (CurAt w.heap.size a cap xs wr C) ∧ Hid (Below w.heap.size w wr)) (fun _ n _ => (intOf n).toNat)
  case atStart => exact ⟨_, x, rfl, rfl, hx0, by omega, by show (0 : Int) + 2 * x ≤ 14; omega, H2, B2⟩
  case round =>
    obtain ⟨u, z, rfl, rfl, hz0, hz7, hsz, HC, HB⟩ := hrel
    by_cases hp : 0 < z
    · obtain ⟨i, hh, hi, hbox⟩ := HC.out.box
      have hCl := hbox.lt
      have hcells : ∀ j, j < words5.length → (wr.alloc (.cells #[.string ⟨#[97]⟩, .string ⟨#[98, 99]⟩, .string ⟨#[32]⟩, .string ⟨#[44]⟩, .string ⟨#[120, 49]⟩] 9)).cell? ⟨wr.heap.size, j, none⟩ = some (.string (words5.getD j ByteArray.empty)) := by
        intro j hj
        rw [World.cell?_alloc_at _ _ _ _ rfl]
        have hj5 : j < 5 := hj
        match j, hj5 with
        | 0, _ => rfl
        | 1, _ => rfl
        | 2, _ => rfl
        | 3, _ => rfl
        | 4, _ => rfl
      have HCE := Lib.hid hcells
      clear hbox hcells
      go_wp2_with fail
      refine (l01Str_any (HC.out.keep (ba1 _ _)) wr.heap.size words5 (by omega) (by simp) HCE.out (by decide) (by decide)).mono ?_
      rintro e W3 ⟨k, hk, rfl, h3, s3⟩
      have hy2 := words5_size k hk
      obtain ⟨y, hy⟩ : ∃ y, y = words5.getD k ByteArray.empty := ⟨_, rfl⟩
      rw [← hy] at hy2 ⊢
      have H3 := Lib.hid h3
      have B3 : Hid (Below w.heap.size w W3) := (HB.out.alloc HB.out.size _).trans (s3.below HC.out.low (by simp; have := HB.out.size; omega))
      have hno : ¬ 9223372036854775807 < u.size + y.size := by omega
      clear h3 s3 hy
      go_wp2
      go_roundw
      case rel => exact ⟨_, z - 1, rfl, rfl, by omega, by omega, by rw [ByteArray.size_append]; omega, H3, B3⟩
      case measure => simp [intOf]; omega
    · go_wp2
      go_ret
      exact ⟨u, rfl, by omega, HB.out⟩
theorem splitL_cons (c : UInt8) (l : List UInt8) : ∃ x t, splitL c l = x :: t := by
  cases l with
  | nil => exact ⟨_, _, rfl⟩
  | cons b r =>
    rw [splitL]
    split
    · exact ⟨_, _, rfl⟩
    · split <;> exact ⟨_, _, rfl⟩
theorem join_two (x y : List UInt8) (r : List (List UInt8)) (sep : List UInt8) : Lib.join (x :: y :: r) sep = x ++ sep ++ Lib.join (y :: r) sep := by
  simp [Lib.join]
theorem join_splitL (c : UInt8) (l : List UInt8) : Lib.join (splitL c l) [c] = l := by
  induction l with
  | nil => rw [splitL, Lib.join_one]
  | cons b r ih =>
    obtain ⟨x, t, e⟩ := splitL_cons c r
    rw [e] at ih
    by_cases h : b = c
    · rw [splitL, if_pos h, e, join_two, ih, h]; rfl
    · rw [splitL, if_neg h, e]
      cases t with
      | nil =>
        rw [Lib.join_one] at ih
        show Lib.join [b :: x] [c] = _
        rw [Lib.join_one, ih]
      | cons y t =>
        rw [join_two] at ih
        show Lib.join ((b :: x) :: y :: t) [c] = _
        rw [join_two, ← ih]; rfl
theorem join_split (s : ByteArray) : joinB (splitAny s ⟨#[32]⟩) ⟨#[32]⟩ = s := by
  unfold joinB
  rw [splitAny_one]
  show (⟨(Lib.join (splitL 32 s.data.toList) [32]).toArray⟩ : ByteArray) = s
  rw [join_splitL]
theorem totS_le {m : Nat} : ∀ {xs : List ByteArray}, (∀ x ∈ xs, x.size ≤ m) → totS xs ≤ xs.length * m
  | [], _ => by simp [totS]
  | x :: xs, h => by
    have h1 := totS_le (m := m) (xs := xs) (fun y hy => h y (List.mem_cons_of_mem _ hy))
    have h2 := h x (List.mem_cons_self ..)
    have e : totS (x :: xs) = x.size + totS xs := by simp [totS]
    rw [e, List.length_cons, Nat.succ_mul]; omega
theorem split_small {s : ByteArray} (h : s.size ≤ 14) : (splitAny s ⟨#[32]⟩).length + totS (splitAny s ⟨#[32]⟩) ≤ 1048576 := by
  have h1 := totS_le (m := 14) (xs := splitAny s ⟨#[32]⟩) (fun x hx => Nat.le_trans (piece_size s _ x hx) h)
  have h2 := splitStep_len s ⟨#[32]⟩ s.size
  have h3 : (splitAny s ⟨#[32]⟩).length = (splitStep s ⟨#[32]⟩ s.size).1.length + 1 := by unfold splitAny; rw [List.length_append]; rfl
  omega
theorem itoa_short {n : Int} (h0 : -65536 ≤ n) (h1 : n ≤ 65536) : (itoaB n).size ≤ 1048576 := by
  by_cases h : n < 0
  · obtain ⟨m, rfl⟩ : ∃ m : Nat, n = -(m : Int) := ⟨n.natAbs, by omega⟩
    have := decDigits_len m
    rw [itoaB_neg m (by omega), mk_size, List.length_cons]; omega
  · obtain ⟨m, rfl⟩ : ∃ m : Nat, n = (m : Int) := ⟨n.natAbs, by omega⟩
    have := decDigits_len m
    rw [itoaB_nat, mk_size]; omega
theorem pi_back {n : Int} (h : In64 n) : piV (itoaB n) = n ∧ piOk (itoaB n) = true := by
  have h1 := itoa_ok h
  exact ⟨by rw [pi_yes h1]; exact (itoa_read n).2.2, h1⟩
theorem x1_name : isName ⟨#[120, 49]⟩ = true := by decide
theorem two_lines : (splitLines ⟨#[97, 10, 98, 10]⟩).length = 2 := by
  have h : splitAny ⟨#[97, 10, 98, 10]⟩ ⟨#[10]⟩ = [⟨#[97]⟩, ⟨#[98]⟩, ⟨#[]⟩] := by
    apply map_bytes_inj
    rw [splitAny_one]; rfl
  unfold splitLines
  rw [h]
  unfold cutE lastE
  rw [ByteArray.toList_eq]; rfl
end Go.Proofs.YtjklefkkdaelnaaDoor
