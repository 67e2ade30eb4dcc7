/- Draws: the cursor over the code. -/
import Derived.Test.YtehhpkeabckdaaaGreatDoorFrameA
import Derived.Test.YtehhpkeabckdaaaGreatDoorK2
import Derived.Laws.Bits128
import Derived.Deep.RegionHeld3
import Derived.Deep.DeepCutAuto
namespace Go.Proofs.YtehhpkeabckdaaaGreatDoor
set_option linter.unusedVariables false
set_option linter.unusedSimpArgs false
open Go.RowKit Go.ChangeShapes Go.WideShapes Go.ChangeAt
/-- a slice of bytes that reads as xs -/
structure BytesAt (w : World) (a : Option Addr) (cap : Nat) (xs : List Int) : Prop where
  fit : ∀ n ∈ xs, 0 ≤ n ∧ n ≤ 255
  room : xs.length ≤ cap
  small : cap ≤ maxLen
  at_ : xs = [] ∨ ∃ b off, a = some ⟨b, off, none⟩ ∧ b < w.heap.size ∧ ∀ j, j < xs.length → w.cell? ⟨b, off + j, none⟩ = some (.int .u8 (xs.getD j 0))
section
variable {H : Type} {enc : TypeId × Value → H} {W : World} {held : Bool}
theorem bytes_of_trod {b0 : Nat} {fuel : Nat} {v : Value} {x : DataW H × List MemPlace} (hf : DataW.trod enc Tryz.prog W b0 (fun _ => true) held fuel 22 [v] = some x) :
    ∃ a cap xs, v = .slice a (List.length xs) cap ∧ BytesAt W a cap xs := by
  rcases open_ints Tryz.underlying22 Tryz.underlying5 (by kernel_rfl) hf with ⟨hcs, _⟩ | ⟨a, l, c, zs, hcs, _, hl, hm, hz, _, hcell, hwz⟩
  · simp at hcs
    exact ⟨none, 0, [], by simp [hcs], ⟨by simp, Nat.zero_le _, Nat.zero_le _, .inl rfl⟩⟩
  · simp at hcs hz
    have hlen : (zs.take l).length = l := by simp; omega
    refine ⟨some a, c, zs.take l, by rw [hlen, hcs], ⟨fun n hn => ?_, by rw [hlen]; exact hl, hm, ?_⟩⟩
    · have := hwz n (List.mem_of_mem_take hn)
      have e1 : IntKind.u8.min = 0 := rfl
      have e2 : IntKind.u8.max = 255 := rfl
      simp [Lit.wf] at this
      omega
    · by_cases h0 : l = 0
      · left; simp [h0]
      · right
        obtain ⟨b, off, rfl, hc⟩ := ints_at hcell (by omega)
        refine ⟨b, off, rfl, World.block_lt_of_cell? W _ (hc 0 (by omega)), fun j hj => ?_⟩
        rw [hlen] at hj
        rw [hc j (by omega)]
        simp [hj]
set_option maxRecDepth 100000 in
theorem bytes_of_arg {v : Value} {d : DataW H} {p : List MemPlace} {r : Reach} {b1 : Nat} (hv : Value.okWide Tryz.prog W r b1 22 v) (h : DataW.Trod enc Tryz.prog W 0 (fun _ => true) held 22 v d p) :
    ∃ a cap xs, v = .slice a (List.length xs) cap ∧ BytesAt W a cap xs := by
  obtain ⟨a0, len0, cap0, rfl⟩ := okWide_slice Tryz.underlying22 hv
  obtain ⟨fuel, hf⟩ := h
  exact bytes_of_trod hf
end
theorem BytesAt.get {w : World} {a : Option Addr} {cap : Nat} {xs : List Int} (h : BytesAt w a cap xs) {k : Nat} (hk : k < xs.length) : ∃ b off, a = some ⟨b, off, none⟩ ∧ w.cell? ⟨b, off + k, none⟩ = some (.int .u8 xs[k]) ∧ 0 ≤ xs[k] ∧ xs[k] ≤ 255 := by
  rcases h.at_ with h0 | ⟨b, off, ha, hlt, hc⟩
  · subst h0; simp at hk
  · exact ⟨b, off, ha, by have := hc k hk; simpa [hk] using this, h.fit _ (List.getElem_mem hk)⟩
theorem i64_and255 (n : Int) : bits .and .i64 n 255 = n % 256 := by
  have h255 : (BitVec.ofInt 64 255).toNat = 2 ^ 8 - 1 := by decide
  have key : (BitVec.ofInt 64 n &&& BitVec.ofInt 64 255).toNat = (n % ((2 ^ 64 : Nat) : Int)).toNat % 2 ^ 8 := by
    rw [BitVec.toNat_and, BitVec.toNat_ofInt, h255, Nat.and_two_pow_sub_one_eq_mod]
  show IntKind.i64.wrap ((BitVec.ofInt 64 n &&& BitVec.ofInt 64 255).toNat : Nat) = n % 256
  rw [key, IntKind.wrap_i64]
  omega
/-- all blocks but C stand as they stood -/
abbrev Step (C : Nat) (W W' : World) : Prop := W.grownBy W' (some C)
theorem Step.trans {C : Nat} {A B D : World} (h : Step C A B) (k : Step C B D) : Step C A D :=
  ⟨k.os.trans h.os, k.tape.trans h.tape, k.output.trans h.output, Nat.le_trans h.size k.size, fun i hi hn => (k.block i (Nat.lt_of_lt_of_le hi h.size) hn).trans (h.block i hi hn)⟩
theorem Step.refl (C : Nat) (W : World) : Step C W W := ⟨rfl, rfl, rfl, Nat.le_refl _, fun _ _ _ => rfl⟩
theorem Step.of_below {C : Nat} {W W' : World} (h : Below W.heap.size W W') : Step C W W' := ⟨h.os, h.tape, h.output, h.size, fun k hk _ => h.block k hk⟩
theorem Step.put (C k : Nat) (W : World) (v : Value) : Step C W (W.setCell ⟨C, k, none⟩ v) :=
  ⟨rfl, rfl, rfl, by simp, fun q _ hn => Below.heap_setCell _ _ _ _ (fun e => hn (congrArg some (e : q = C)))⟩
theorem Step.below {C lo : Nat} {W W' : World} (h : Step C W W') (hlo : lo ≤ C) (hw : lo ≤ W.heap.size) : Below lo W W' :=
  ⟨h.os, h.tape, h.output, h.size, fun k hk => h.block k (by omega) (by intro e; have := Option.some.inj e; omega)⟩
/-- a cursor over the bytes xs, its block at C -/
structure CurAt (lo : Nat) (a : Option Addr) (cap : Nat) (xs : List Int) (W : World) (C : Nat) : Prop where
  low : lo ≤ C
  box : ∃ (i : Nat) (h : Int), i ≤ xs.length ∧ Box W C #[.slice a xs.length cap, .int .i64 i, .int .i64 h]
  bytes : BytesAt W a cap xs
  apart : xs ≠ [] → ∀ ad, a = some ad → ad.block < lo
  few : xs.length ≤ 1048576
theorem BytesAt.step {lo : Nat} {w w' : World} {a : Option Addr} {cap : Nat} {xs : List Int} (h : BytesAt w a cap xs) (b : Below lo w w') (ha : xs ≠ [] → ∀ ad, a = some ad → ad.block < lo) : BytesAt w' a cap xs := by
  refine ⟨h.fit, h.room, h.small, ?_⟩
  rcases h.at_ with h0 | ⟨bb, off, e, hlt, hc⟩
  · exact .inl h0
  · by_cases hx : xs = []
    · exact .inl hx
    have hl : bb < lo := ha hx _ e
    exact .inr ⟨bb, off, e, Nat.lt_of_lt_of_le hlt b.size, fun j hj => by rw [b.cell (p := ⟨bb, off + j, none⟩) hl]; exact hc j hj⟩
theorem bytes_apart {w : World} {a : Option Addr} {cap : Nat} {xs : List Int} (h : BytesAt w a cap xs) : xs ≠ [] → ∀ ad, a = some ad → ad.block < w.heap.size := by
  intro hx ad e
  rcases h.at_ with h0 | ⟨b, off, e2, hlt2, _⟩
  · exact absurd h0 hx
  · rw [e2] at e; cases e; exact hlt2
theorem CurAt.keep {lo : Nat} {a : Option Addr} {cap : Nat} {xs : List Int} {W W' : World} {C : Nat} (h : CurAt lo a cap xs W C) (b : Below W.heap.size W W') : CurAt lo a cap xs W' C := by
  obtain ⟨i, hh, hi, hb⟩ := h.box
  have hl : lo ≤ W.heap.size := Nat.le_trans h.low (Nat.le_of_lt hb.lt)
  exact ⟨h.low, ⟨i, hh, hi, box_step hb b⟩, h.bytes.step (lo := lo) (b.mono hl) h.apart, h.apart, h.few⟩
set_option maxRecDepth 100000 in
set_option maxHeartbeats 1000000 in
theorem l01Byte_any {lo : Nat} {a : Option Addr} {cap : Nat} {xs : List Int} {W : World} {C : Nat} (h : CurAt lo a cap xs W C) :
    Calls Tryz.prog 42 #[.pointer (some ⟨C, 0, none⟩)] W fun e W' => ∃ x : Int, e = .returned (.int .i64 x) ∧ 0 ≤ x ∧ x ≤ 255 ∧ CurAt lo a cap xs W' C ∧ Step C W W' := by
  obtain ⟨i, hh, hi, hb⟩ := h.box
  have hl := hb.lt
  have hfew := h.few
  have c2 : W.cell? ⟨C, 2, none⟩ = some (.int .i64 hh) := hb.cell 2 rfl
  have f2 := hb.frozen 2
  have HC := Lib.hid h
  have HB := Lib.hid hb
  clear h hb
  have hlow := HC.out.low
  go_enter Tryz.func42, Tryz.ntmps42
  go_wp2
  obtain ⟨g, hg⟩ : ∃ g, g = wrap64 (wrap64 (hh * 6364136223846793005) + 1442695040888963407) := ⟨_, rfl⟩
  rw [← hg]
  obtain ⟨W1, hW1⟩ : ∃ W1, W1 = W.setCell ⟨C, 2, none⟩ (.int .i64 g) := ⟨_, rfl⟩
  have HB1 : Hid (Box W1 C #[.slice a xs.length cap, .int .i64 i, .int .i64 g]) := by rw [hW1]; exact box_as (box_put (k := 2) HB.out) rfl
  have HS1 : Hid (Step C W W1) := by rw [hW1]; exact Step.put _ _ _ _
  have HY1 : Hid (BytesAt W1 a cap xs) := HC.out.bytes.step (HS1.out.below hlow (by omega)) HC.out.apart
  rw [← hW1]
  clear hW1 hg c2 f2
  have c2 : W1.cell? ⟨C, 2, none⟩ = some (.int .i64 g) := HB1.out.cell 2 rfl
  have hl1 := HB1.out.lt
  go_cut [3] (fun s3 wx => ∃ x : Int, s3 = .int .i64 x ∧ 0 ≤ x ∧ x ≤ 255 ∧ Hid (Box wx C #[.slice a xs.length cap, .int .i64 i, .int .i64 g]) ∧ Hid (Step C W wx) ∧ Hid (BytesAt wx a cap xs))
  case first =>
    go_region
    all_goals (go_wp2_with fail; go_meet; exact ⟨_, rfl, by rw [i64_and255]; omega, by rw [i64_and255]; omega, box_drew HB1.out, HS1.out.trans (Step.of_below (Below.refl _ _).drew), HY1.out.step (lo := W1.heap.size) (Below.refl _ _).drew (fun hn ad e => by have := HC.out.apart hn ad e; omega)⟩)
  case rest =>
    obtain ⟨x, rfl, hx0, hx1, HB2, HS2, HY2⟩ := hcut
    obtain ⟨W2, hW2⟩ : ∃ W', W' = wc := ⟨_, rfl⟩
    subst hW2
    clear c2 hl1
    have c0 : W2.cell? ⟨C, 0, none⟩ = some (.slice a xs.length cap) := HB2.out.cell 0 rfl
    have c1 : W2.cell? ⟨C, 1, none⟩ = some (.int .i64 i) := HB2.out.cell 1 rfl
    have hl2 := HB2.out.lt
    by_cases hlt : i < xs.length
    · obtain ⟨bb, off, hab, hc, hb0, hb1⟩ := HY2.out.get hlt
      subst hab
      go_wp2
      go_region
      go_wp2
      go_cut [3] (fun s3 wx => ∃ x : Int, s3 = .int .i64 x ∧ 0 ≤ x ∧ x ≤ 255 ∧ Hid (Box wx C #[.slice (some ⟨bb, off, none⟩) xs.length cap, .int .i64 i, .int .i64 g]) ∧ Hid (Step C W wx) ∧ Hid (BytesAt wx (some ⟨bb, off, none⟩) cap xs))
      case first =>
        go_region
        all_goals (go_wp2_with fail; go_meet; exact ⟨_, rfl, by rw [i64_and255]; omega, by rw [i64_and255]; omega, box_drew (box_drew HB2.out), HS2.out.trans (Step.of_below (Below.refl _ _).drew.drew), HY2.out.step (lo := W2.heap.size) (Below.refl _ _).drew.drew (fun hn ad e => by have := HC.out.apart hn ad e; omega)⟩)
      case rest =>
        obtain ⟨y, rfl, hy0, hy1, HB3, HS3, HY3⟩ := hcut
        obtain ⟨W3, hW3⟩ : ∃ W', W' = wc := ⟨_, rfl⟩
        subst hW3
        clear c0 c1 hc hl2
        have c1 : W3.cell? ⟨C, 1, none⟩ = some (.int .i64 i) := HB3.out.cell 1 rfl
        have f1 := HB3.out.frozen 1
        have hl3 := HB3.out.lt
        go_wp2
        go_ret
        exact ⟨y, rfl, hy0, hy1, ⟨hlow, ⟨i + 1, g, by omega, box_as (box_put (k := 1) HB3.out) (by simp)⟩, HY3.out.step (Step.below (Step.put _ _ _ _) hlow (by omega)) HC.out.apart, HC.out.apart, hfew⟩, HS3.out.trans (Step.put _ _ _ _)⟩
    · go_wp2
      go_region
      go_wp2
      go_ret
      exact ⟨x, rfl, hx0, hx1, ⟨hlow, ⟨i, g, hi, box_drew HB2.out⟩, HY2.out.step (lo := W2.heap.size) (Below.refl _ _).drew (fun hn ad e => by have := HC.out.apart hn ad e; omega), HC.out.apart, hfew⟩, HS2.out.trans (Step.of_below (Below.refl _ _).drew)⟩
set_option maxRecDepth 100000 in
set_option maxHeartbeats 1000000 in
theorem l01Below_any {lo : Nat} {a : Option Addr} {cap : Nat} {xs : List Int} {W : World} {C : Nat} (h : CurAt lo a cap xs W C) (n : Int) (hn : 0 < n) (hn2 : n ≤ 1000000000) :
    Calls Tryz.prog 39 #[.pointer (some ⟨C, 0, none⟩), .int .i64 n] W fun e W' => ∃ x : Int, e = .returned (.int .i64 x) ∧ 0 ≤ x ∧ x < n ∧ CurAt lo a cap xs W' C ∧ Step C W W' := by
  have HC := Lib.hid h
  clear h
  have h0 : decide (n ≤ 0) = false := decide_eq_false (by omega)
  have hne : ¬ n = 0 := by omega
  by_cases hs : n ≤ 256
  · have hs' : decide (n ≤ 256) = true := decide_eq_true hs
    go_enter Tryz.func39, Tryz.ntmps39
    go_wp2_with fail
    refine (l01Byte_any HC.out).mono ?_
    rintro e W1 ⟨x, rfl, hx0, hx1, h1, s1⟩
    have H1 := Lib.hid h1
    have S1 := Lib.hid s1
    clear h1 s1
    go_wp2
    go_ret
    exact ⟨_, rfl, by first | exact Int.emod_nonneg _ hne | exact Int.tmod_nonneg _ hx0, by first | exact Int.emod_lt_of_pos _ hn | exact Int.tmod_lt_of_pos _ hn, H1.out, S1.out⟩
  · have hs' : decide (n ≤ 256) = false := decide_eq_false hs
    go_enter Tryz.func39, Tryz.ntmps39
    go_wp2_with fail
    refine (l01Byte_any HC.out).mono ?_
    rintro e W1 ⟨x, rfl, hx0, hx1, h1, s1⟩
    have H1 := Lib.hid h1
    have S1 := Lib.hid s1
    clear h1 s1
    go_wp2_with fail
    refine (l01Byte_any H1.out).mono ?_
    rintro e W2 ⟨y, rfl, hy0, hy1, h2, s2⟩
    have H2 := Lib.hid h2
    have S2 := Lib.hid (S1.out.trans s2)
    clear h2 s2
    go_wp2_with fail
    refine (l01Byte_any H2.out).mono ?_
    rintro e W3 ⟨z, rfl, hz0, hz1, h3, s3⟩
    have H3 := Lib.hid h3
    have S3 := Lib.hid (S2.out.trans s3)
    clear h3 s3
    go_wp2_with fail
    refine (l01Byte_any H3.out).mono ?_
    rintro e W4 ⟨u, rfl, hu0, hu1, h4, s4⟩
    have H4 := Lib.hid h4
    have S4 := Lib.hid (S3.out.trans s4)
    clear h4 s4
    have hq : 0 ≤ x * 16777216 + y * 65536 + z * 256 + u := by omega
    go_wp2
    go_ret
    exact ⟨_, rfl, by first | exact Int.emod_nonneg _ hne | exact Int.tmod_nonneg _ hq, by first | exact Int.emod_lt_of_pos _ hn | exact Int.tmod_lt_of_pos _ hn, H4.out, S4.out⟩
set_option maxRecDepth 100000 in
set_option maxHeartbeats 1000000 in
theorem l01New_any (a : Option Addr) (cap : Nat) (xs : List Int) (w : World) (h : BytesAt w a cap xs) (hl : xs.length ≤ 1048576) :
    Calls Tryz.prog 41 #[.slice a xs.length cap] w fun e W' => ∃ C, e = .returned (.pointer (some ⟨C, 0, none⟩)) ∧ CurAt w.heap.size a cap xs W' C ∧ Below w.heap.size w W' := by
  have HY := Lib.hid h
  clear h
  go_enter Tryz.func41, Tryz.ntmps41
  go_wp2
  go_loop [3, 4] (fun g i => ∃ (k : Nat) (z : Int), k ≤ xs.length ∧ i = .int .i64 k ∧ g = .int .i64 z) (fun _ i => xs.length - (intOf i).toNat)
  case atStart => exact ⟨0, _, Nat.zero_le _, rfl, rfl⟩
  case round =>
    obtain ⟨k, z, hk, rfl, rfl⟩ := hrel
    by_cases hlt : k < xs.length
    · by_cases h4 : k < 4000
      · obtain ⟨b, off, rfl, hc, hb0, hb1⟩ := HY.out.get hlt
        go_wp2
        go_round
        case rel => exact ⟨k + 1, _, by omega, by go_num, rfl⟩
        case measure => simp [intOf]; omega
      · go_wp2
        go_ret
        refine ⟨_, rfl, ⟨Nat.le_refl _, ⟨0, z, Nat.zero_le _, bx1_0 (Below.refl _ _)⟩, HY.out.step (ba1 _ _) (fun _ ad e => ?_), fun hx ad e => ?_, hl⟩, ba1 _ _⟩ <;> (rcases HY.out.at_ with h0 | ⟨b, off, e2, hlt2, _⟩ <;> first | (rw [h0] at hlt; simp at hlt) | (rw [e2] at e; cases e; exact hlt2))
    · go_wp2
      go_ret
      refine ⟨_, rfl, ⟨Nat.le_refl _, ⟨0, z, Nat.zero_le _, bx1_0 (Below.refl _ _)⟩, HY.out.step (ba1 _ _) (fun hx ad e => ?_), fun hx ad e => ?_, hl⟩, ba1 _ _⟩ <;> (rcases HY.out.at_ with h0 | ⟨b, off, e2, hlt2, _⟩ <;> first | exact absurd h0 hx | (rw [e2] at e; cases e; exact hlt2))
set_option maxRecDepth 100000 in
set_option maxHeartbeats 1000000 in
theorem l31New_any (a : Option Addr) (cap : Nat) (xs : List Int) (w : World) (h : BytesAt w a cap xs) (hl : xs.length ≤ 1048576) (n : Nat) (hn : n ≤ 1000) :
    Calls Tryz.prog 17 #[.slice a xs.length cap, .int .i64 n] w fun e W' => ∃ C, e = .returned (.pointer (some ⟨C, 0, none⟩)) ∧ CurAt w.heap.size a cap xs W' C ∧ Below w.heap.size w W' := by
  have HY := Lib.hid h
  clear h
  go_enter Tryz.func17, Tryz.ntmps17
  go_wp2_with fail
  refine (l01New_any a cap xs _ HY.out hl).mono ?_
  rintro e W1 ⟨C, rfl, h1, b1⟩
  have H1 := Lib.hid h1
  have B1 := Lib.hid b1
  clear h1 b1
  go_wp2
  go_loopw [6] (fun i wr => ∃ k : Nat, k ≤ n ∧ i = .int .i64 k ∧ Hid (CurAt w.heap.size a cap xs wr C) ∧ Hid (Below w.heap.size w wr)) (fun i _ => n - (intOf i).toNat)
  case atStart => exact ⟨0, Nat.zero_le _, rfl, H1, B1⟩
  case round =>
    obtain ⟨k, hk, rfl, HC, HB⟩ := hrel
    by_cases hlt : k < n
    · go_wp2_with fail
      refine (l01Byte_any HC.out).mono ?_
      rintro e W2 ⟨x, rfl, _, _, h2, s2⟩
      have H2 := Lib.hid h2
      have B2 : Hid (Below w.heap.size w W2) := HB.out.trans (s2.below HC.out.low HB.out.size)
      clear h2 s2
      go_wp2
      go_roundw
      case rel => exact ⟨k + 1, by omega, by go_num, H2, B2⟩
      case measure => simp [intOf]; omega
    · go_wp2
      go_ret
      exact ⟨C, rfl, HC.out, HB.out⟩
end Go.Proofs.YtehhpkeabckdaaaGreatDoor
