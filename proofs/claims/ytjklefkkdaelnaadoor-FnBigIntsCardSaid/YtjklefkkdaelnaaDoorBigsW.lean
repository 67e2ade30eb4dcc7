/- MakeBigInt, and the whole numbers that FnBigInts reckons with. -/
import Derived.Test.YtjklefkkdaelnaaDoorNatsW
import Derived.Test.YtjklefkkdaelnaaDoorPBigI
import Derived.Test.YtjklefkkdaelnaaDoorFmtB
import Derived.Test.YtjklefkkdaelnaaDoorK4
import Derived.Test.YtjklefkkdaelnaaDoorRatF
namespace Go.Proofs.YtjklefkkdaelnaaDoor
set_option linter.unusedVariables false
set_option linter.unusedSimpArgs false
open Go.RowKit
theorem box_past {W W' : World} {C B : Nat} {cs : Array Value} (h : Box W B cs) (s : Step C W W') (hne : B ≠ C) : Box W' B cs := by
  obtain ⟨t, h⟩ := h
  exact ⟨t, by rw [s.block B (Array.getElem?_eq_some_iff.1 h).1 (fun e => hne (Option.some.inj e))]; exact h⟩
theorem bigOf_ofI (n : Int) : bigOf n = ofI n := by
  unfold bigOf
  rw [mkBI_any]
  congr 1
  cases h : decide (n < 0) with
  | true => have := of_decide_eq_true h; simp only [if_true]; omega
  | false => have := of_decide_eq_false h; simp only [Bool.false_eq_true, if_false]; omega
set_option maxRecDepth 100000 in
set_option maxHeartbeats 1000000 in
theorem l01Once_any {lo : Nat} {a : Option Addr} {cap : Nat} {xs : List Int} {W : World} {C : Nat} (h : CurAt lo a cap xs W C) (n : Int) (hn : 0 < n) (hn2 : n ≤ 1000000000) :
    Calls Tryd.prog 122 #[.pointer (some ⟨C, 0, none⟩), .int .i64 n] W fun e W' => ∃ b : Bool, e = .returned (.bool b) ∧ CurAt lo a cap xs W' C ∧ Step C W W' := by
  have HC := Lib.hid h
  clear h
  go_enter Tryd.func122, Tryd.ntmps122
  go_wp2_with fail
  refine (l01Below_any HC.out n hn hn2).mono ?_
  rintro e W1 ⟨x, rfl, hx0, hx1, h1, s1⟩
  have H1 := Lib.hid h1
  have S1 := Lib.hid s1
  clear h1 s1
  go_wp2
  go_ret
  exact ⟨_, rfl, H1.out, S1.out⟩
set_option maxRecDepth 100000 in
set_option maxHeartbeats 2000000 in
theorem l03Draw_any {lo : Nat} {a : Option Addr} {cap : Nat} {xs : List Int} {W : World} {C : Nat} (h : CurAt lo a cap xs W C) (hlw : lo ≤ W.heap.size) :
    Calls Tryd.prog 86 #[.pointer (some ⟨C, 0, none⟩), .int .i64 3] W fun e W' => ∃ z p c, e = .returned (.agg #[.bool (ofI z).neg, .slice p (ofI z).mag.length c]) ∧ (digs z.natAbs).length ≤ 3 ∧
      OwnI W' W.heap.size W'.heap.size (.slice p (ofI z).mag.length c) (ofI z).mag ∧ Below lo W W' := by
  have hCl : C < W.heap.size := by obtain ⟨i, hh, hi, hb⟩ := h.box; exact hb.lt
  have HC := Lib.hid h
  clear h
  have hlo := HC.out.low
  go_enter Tryd.func86, Tryd.ntmps86
  go_wp2_with fail
  refine (l01Once_any (HC.out.keep (ba1 _ _)) 3 (by omega) (by omega)).mono ?_
  rintro e W1 ⟨b, rfl, h1, s1⟩
  have H1 := Lib.hid h1
  have S1 : Hid (Step C W W1) := (Step.of_below (ba1 _ _)).trans s1
  have R1 := Lib.hid (box_past (bx1_0 (Below.refl _ _)) s1 (by omega : W.heap.size ≠ C))
  have hz1 : W.heap.size < W1.heap.size := R1.out.lt
  clear h1 s1
  cases b with
  | true =>
    go_wp2_with fail
    refine (l01Below_any H1.out 2001 (by omega) (by omega)).mono ?_
    rintro e W2 ⟨x, rfl, hx0, hx1, h2, s2⟩
    have S2 := Lib.hid (S1.out.trans s2)
    have R2 := Lib.hid (box_past R1.out s2 (by omega : W.heap.size ≠ C))
    have hz2 : W.heap.size < W2.heap.size := R2.out.lt
    clear h2 s2
    go_wp2_with fail
    refine (specBigIntOf_own (x - 1000) _ (by unfold In64; omega)).mono ?_
    rintro e W3 ⟨p, c, rfl, ho, b3⟩
    rw [bigOf_ofI] at ho ⊢
    have hd : (digs (x - 1000).natAbs).length ≤ 3 := digs3 (by unfold In64; omega)
    have HO := Lib.hid ho
    have S3 : Hid (Step C W W3) := S2.out.trans (Step.of_below b3)
    have R3 := box_step R2.out b3
    have Y0 := R3.cell 0 rfl
    have Y1 := R3.cell 1 rfl
    have F0 := R3.frozen 0
    have F1 := R3.frozen 1
    have hz3 := R3.lt
    clear ho b3
    obtain ⟨z, hz⟩ : ∃ z, z = x - 1000 := ⟨_, rfl⟩
    rw [← hz] at HO hd ⊢
    clear hz hx0 hx1
    obtain ⟨n, hn⟩ : ∃ n, n = (ofI z).neg := ⟨_, rfl⟩
    obtain ⟨l, hl⟩ : ∃ l, l = (ofI z).mag.length := ⟨_, rfl⟩
    have HN := Lib.hid hn
    have HL := Lib.hid hl
    rw [← hn, ← hl]
    clear hn hl
    go_wp2
    refine bodyPost_ret (v := .agg #[.bool n, .slice p l c]) (by simp [results, Tryd.results86, go_sem, Y0, Y1, hz3]) rfl ⟨z, p, c, by rw [HN.out, HL.out], hd, ?_, ?_⟩
    · exact ((HO.out.low hz2 _).low hz2 _).mono (by omega) (by simp)
    · exact below_put (below_put (S3.out.below hlo hlw) hlw) hlw
  | false =>
    go_wp2_with fail
    refine (l01Once_any H1.out 2 (by omega) (by omega)).mono ?_
    rintro e W2 ⟨b, rfl, h2, s2⟩
    have H2 := Lib.hid h2
    have S2 := Lib.hid (S1.out.trans s2)
    have R2 := Lib.hid (box_past R1.out s2 (by omega : W.heap.size ≠ C))
    have hz2 : W.heap.size < W2.heap.size := R2.out.lt
    clear h2 s2
    go_wp2_with fail
    refine (l02Nat_any H2.out (by omega)).mono ?_
    rintro e W3 ⟨m, p0, c0, rfl, hm, o3, h3, s3⟩
    have O3 := Lib.hid o3
    have S3 := Lib.hid (S2.out.trans s3)
    have R3 := Lib.hid (box_past R2.out s3 (by omega : W.heap.size ≠ C))
    have hz3 : W.heap.size < W3.heap.size := R3.out.lt
    clear o3 h3 s3
    go_wp2_with fail
    refine (l03Make_dig b m p0 c0 _ O3.out.ints (by omega)).mono ?_
    rintro e W4 ⟨p, c, rfl, ho, b4⟩
    have S4 : Hid (Step C W W4) := S3.out.trans (Step.of_below b4)
    have R4 := box_step R3.out b4
    have Y0 := R4.cell 0 rfl
    have Y1 := R4.cell 1 rfl
    have F0 := R4.frozen 0
    have F1 := R4.frozen 1
    have hz4 := R4.lt
    obtain ⟨z, hz⟩ : ∃ z, z = (if b then -(m : Int) else m) := ⟨_, rfl⟩
    have hn0 : (mkBI b (digs m)).neg = (ofI z).neg := by rw [hz, mkBI_any]
    have hmz : digs m = (ofI z).mag := by rw [hz, ← mkBI_any]; rfl
    rw [hmz] at ho hm
    rw [hn0, hmz]
    have HO := Lib.hid ho
    clear ho b4 hz hn0 hmz
    obtain ⟨n, hn⟩ : ∃ n, n = (ofI z).neg := ⟨_, rfl⟩
    obtain ⟨l, hl⟩ : ∃ l, l = (ofI z).mag.length := ⟨_, rfl⟩
    have HN := Lib.hid hn
    have HL := Lib.hid hl
    have HD : Hid ((digs z.natAbs).length ≤ 3) := hm
    rw [← hn, ← hl]
    clear hn hl hm
    go_wp2
    refine bodyPost_ret (v := .agg #[.bool n, .slice p l c]) (by simp [results, Tryd.results86, go_sem, Y0, Y1, hz4]) rfl ⟨z, p, c, by rw [HN.out, HL.out], HD.out, ?_, ?_⟩
    · exact ((HO.out.low hz3 _).low hz3 _).mono (by omega) (by simp)
    · exact below_put (below_put (S4.out.below hlo hlw) hlw) hlw
/-- a value that is the whole number z, in its one form -/
def BigAt (w : World) (v : Value) (z : Int) : Prop := ∃ p c, v = .agg #[.bool (ofI z).neg, .slice p (ofI z).mag.length c] ∧ IntsAt w p c (ofI z).mag
theorem BigAt.below {w w' : World} {v : Value} {z : Int} (h : BigAt w v z) (b : Below w.heap.size w w') : BigAt w' v z := by
  obtain ⟨p, c, h1, h2⟩ := h
  exact ⟨p, c, h1, h2.below b⟩
theorem BigAt.form {w : World} {v : Value} {z : Int} (h : BigAt w v z) : ∃ (n : Bool) (p : Option Addr) (l c : Nat), v = .agg #[.bool n, .slice p l c] := by
  obtain ⟨p, c, h1, h2⟩ := h
  exact ⟨_, p, _, c, h1⟩
set_option maxRecDepth 100000 in
set_option maxHeartbeats 1000000 in
theorem makeBig_any (a : Option Addr) (cap : Nat) (xs : List Int) (w : World) (h : BytesAt w a cap xs) (hl : xs.length ≤ 1048576) (n : Nat) (hn : n ≤ 100) :
    Calls Tryd.prog 43 #[.slice a xs.length cap, .int .i64 n] w fun e W' => ∃ z v, e = .returned v ∧ (digs z.natAbs).length ≤ 3 ∧ BigAt W' v z ∧ Below w.heap.size w W' := by
  have hmul : (4 : Int) * n = ((4 * n : Nat) : Int) := by omega
  have HM := Lib.hid hmul
  clear hmul
  go_enter Tryd.func43, Tryd.ntmps43
  go_wp2_with fail
  try rw [HM.out]
  refine (l31New_any a cap xs _ (h.step (ba1 _ _) (bytes_apart h)) hl (4 * n) (by omega)).mono ?_
  rintro e W1 ⟨C, rfl, h1, b1⟩
  have H1 := Lib.hid h1
  have R1 := Lib.hid (bx1_0 b1)
  have B1 := Lib.hid (bstep (ba1 _ _) b1)
  have hz1 : w.heap.size < W1.heap.size := R1.out.lt
  clear b1 h1
  have hsz1 := B1.out.size
  have hlow := H1.out.low
  have hlow' : w.heap.size + 1 ≤ C := by simpa using hlow
  clear hlow
  go_wp2_with fail
  refine (l03Draw_any H1.out (by simp; omega)).mono ?_
  rintro e W2 ⟨z, p, c, rfl, hd, o2, b2⟩
  have R2 : Box W2 w.heap.size #[.bool false, .slice none 0 0] := by
    obtain ⟨t, hb⟩ := R1.out
    exact ⟨t, by rw [b2.block _ (by simp)]; exact hb⟩
  have B2 : Hid (Below w.heap.size w W2) := B1.out.trans (b2.mono (by simp))
  have HO := Lib.hid o2
  have Y0 := R2.cell 0 rfl
  have Y1 := R2.cell 1 rfl
  have F0 := R2.frozen 0
  have F1 := R2.frozen 1
  have hz2 := R2.lt
  obtain ⟨n, hn⟩ : ∃ n, n = (ofI z).neg := ⟨_, rfl⟩
  obtain ⟨l, hl⟩ : ∃ l, l = (ofI z).mag.length := ⟨_, rfl⟩
  have HN := Lib.hid hn
  have HL := Lib.hid hl
  have HD : Hid ((digs z.natAbs).length ≤ 3) := hd
  rw [← hn, ← hl]
  clear hn hl hd o2 b2
  go_wp2
  refine bodyPost_ret (v := .agg #[.bool n, .slice p l c]) (by simp [results, Tryd.results43, go_sem, Y0, Y1, hz2]) rfl ⟨z, _, rfl, HD.out, ⟨p, c, by rw [HN.out, HL.out], ?_⟩, ?_⟩
  · exact ((HO.out.low hz1 _).low hz1 _).ints
  · exact (B2.out.setCell (by simp) _).setCell (by simp) _
end Go.Proofs.YtjklefkkdaelnaaDoor
