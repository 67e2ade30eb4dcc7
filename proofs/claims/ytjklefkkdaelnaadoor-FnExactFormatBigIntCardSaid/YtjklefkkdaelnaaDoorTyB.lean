/- BigInt: reading, copying, holding against, marking. -/
import Derived.Test.YtjklefkkdaelnaaDoorLaws1
import Derived.Test.YtjklefkkdaelnaaDoorNatOps
namespace Go.Proofs.YtjklefkkdaelnaaDoor
set_option linter.unusedVariables false
set_option linter.unusedSimpArgs false
open Go.RowKit

/-- behind a call: what was there reads as it did -/
theorem bcells {W w1 : World} (hb : Below W.heap.size W w1) : (∀ b o, b < W.heap.size → w1.cell? ⟨b, o, none⟩ = W.cell? ⟨b, o, none⟩) ∧ (∀ b o, b < W.heap.size → w1.frozen? ⟨b, o, none⟩ = W.frozen? ⟨b, o, none⟩) :=
  ⟨fun b o h => hb.cell (p := ⟨b, o, none⟩) h, fun b o h => hb.frozen (p := ⟨b, o, none⟩) h⟩
theorem bcellsB {B : Nat} {W w1 : World} (hb : Below B W w1) : (∀ b o, b < B → w1.cell? ⟨b, o, none⟩ = W.cell? ⟨b, o, none⟩) ∧ (∀ b o, b < B → w1.frozen? ⟨b, o, none⟩ = W.frozen? ⟨b, o, none⟩) :=
  ⟨fun b o h => hb.cell (p := ⟨b, o, none⟩) h, fun b o h => hb.frozen (p := ⟨b, o, none⟩) h⟩
theorem ba1 (w : World) (o : Obj) : Below w.heap.size w (w.alloc o) := (Below.refl _ _).alloc (Nat.le_refl _) o
theorem ba2 (w : World) (o p : Obj) : Below w.heap.size w ((w.alloc o).alloc p) := (ba1 w o).alloc (by simp) p
theorem ba3 (w : World) (o p q : Obj) : Below w.heap.size w (((w.alloc o).alloc p).alloc q) := (ba2 w o p).alloc (by simp; omega) q
theorem ba4 (w : World) (o p q r : Obj) : Below w.heap.size w ((((w.alloc o).alloc p).alloc q).alloc r) := (ba3 w o p q).alloc (by simp; omega) r

/-- a box that lies before a call reads so behind it -/
theorem box_cell {W W' : World} {cs : Array Value} {t : TypeId} (b : Below (W.alloc (.cells cs t)).heap.size (W.alloc (.cells cs t)) W') (j : Nat) {v : Value} (h : cs[j]? = some v) : W'.cell? ⟨W.heap.size, j, none⟩ = some v := by
  rw [b.cell (p := ⟨W.heap.size, j, none⟩) (by simp), World.cell?_alloc_at _ _ _ _ rfl]; simpa using h
theorem cell_step {W W' : World} {B j : Nat} {v : Value} (h : W.cell? ⟨B, j, none⟩ = some v) (b : Below W.heap.size W W') : W'.cell? ⟨B, j, none⟩ = some v := by
  rw [b.cell (p := ⟨B, j, none⟩) (World.block_lt_of_cell? W _ h)]; exact h
theorem cell_low {W : World} {B j : Nat} {v u : Value} {p : Addr} (h : W.cell? ⟨B, j, none⟩ = some v) (hp : B < p.block) : (W.setCell p u).cell? ⟨B, j, none⟩ = some v := by
  rw [World.cell?_of_block (w := W) (Below.heap_setCell _ _ _ _ (by simp; omega))]; exact h
theorem cell_stepD {W W' : World} {B j : Nat} {v : Value} (h : W.cell? ⟨B, j, none⟩ = some v) (b : Below W.drew.heap.size W.drew W') : W'.cell? ⟨B, j, none⟩ = some v :=
  cell_step (W := W.drew) (by rw [← h]; rfl) b
theorem bstepD {c w w' : World} (h : Below c.heap.size c w) (b : Below w.drew.heap.size w.drew w') : Below c.heap.size c w' := bstep h.drew b
theorem cell_span {W W' : World} {B j lo hi : Nat} {v : Value} (h : W.cell? ⟨B, j, none⟩ = some v) (s : Span lo hi W W') (ho : B < lo ∨ hi ≤ B) : W'.cell? ⟨B, j, none⟩ = some v := by
  rw [World.cell?_of_block (w := W) (s.block B (World.block_lt_of_cell? W _ h) ho)]; exact h
/-- a box of the call's own: block B holds these cells -/
def Box (w : World) (B : Nat) (cs : Array Value) : Prop := ∃ t, w.heap[B]? = some (.cells cs t (0, 0))
theorem Box.lt {w : World} {B : Nat} {cs : Array Value} (h : Box w B cs) : B < w.heap.size := by obtain ⟨t, h⟩ := h; exact (Array.getElem?_eq_some_iff.1 h).1
theorem Box.cell {w : World} {B : Nat} {cs : Array Value} (h : Box w B cs) (j : Nat) {v : Value} (hv : cs[j]? = some v) : w.cell? ⟨B, j, none⟩ = some v := by
  obtain ⟨t, h⟩ := h
  rw [cell_of_row w B j cs t (0, 0) h]; exact hv
theorem Box.frozen {w : World} {B : Nat} {cs : Array Value} (h : Box w B cs) (j : Nat) : w.frozen? ⟨B, j, none⟩ = false := by
  obtain ⟨t, h⟩ := h
  exact frozen_of_row w B j cs t h
theorem box_step {w w' : World} {B : Nat} {cs : Array Value} (h : Box w B cs) (b : Below w.heap.size w w') : Box w' B cs := by
  have hl := h.lt
  obtain ⟨t, h⟩ := h
  exact ⟨t, by rw [b.block B hl]; exact h⟩
theorem box_drew {w : World} {B : Nat} {cs : Array Value} (h : Box w B cs) : Box w.drew B cs := h
theorem box_span {w w' : World} {B lo hi : Nat} {cs : Array Value} (h : Box w B cs) (b : Span lo hi w w') (ho : B < lo ∨ hi ≤ B) : Box w' B cs := by
  have hl := h.lt
  obtain ⟨t, h⟩ := h
  exact ⟨t, by rw [b.block B hl ho]; exact h⟩
theorem box_new0 {w w' : World} {cs : Array Value} {t : TypeId} (b : Below (w.alloc (.cells cs t)).heap.size (w.alloc (.cells cs t)) w') : Box w' w.heap.size cs :=
  ⟨t, by rw [b.block w.heap.size (by simp)]; exact heap_alloc_new w _⟩
theorem box_new1 {w w' : World} {cs : Array Value} {t : TypeId} {o : Obj} (b : Below ((w.alloc (.cells cs t)).alloc o).heap.size ((w.alloc (.cells cs t)).alloc o) w') : Box w' w.heap.size cs :=
  box_step (box_new0 (ba1 (w.alloc (.cells cs t)) o)) b
theorem box_new2 {w w' : World} {cs : Array Value} {t : TypeId} {o p : Obj} (b : Below (((w.alloc (.cells cs t)).alloc o).alloc p).heap.size (((w.alloc (.cells cs t)).alloc o).alloc p) w') : Box w' w.heap.size cs :=
  box_step (box_new0 (ba2 (w.alloc (.cells cs t)) o p)) b
theorem OwnI.low {w : World} {lo hi : Nat} {v : Value} {xs : List Int} (h : OwnI w lo hi v xs) {p : Addr} (hp : p.block < lo) (u : Value) : OwnI (w.setCell p u) lo hi v xs := ⟨⟨h.1.1, ownsRow_setCell_below h.1.2 hp u⟩, h.2⟩

theorem szIntS_any (a : Option Addr) (c : Nat) (xs : List Int) (k : Int) (w : World) (h0 : 0 ≤ k) (h1 : k ≤ 1048576) (hn : xs.length ≤ 9223372036854775807) :
    Calls Tryd.prog 74 #[.slice a xs.length c, .int .i64 k] w fun e w' => e = .returned (.int .i64 (if k - xs.length < 0 then -1 else k - xs.length)) ∧ w = w' := by
  by_cases h : k - xs.length < 0
  · rw [if_pos h]
    go_enter Tryd.func74, Tryd.ntmps74
    go_wp2
    go_ret
    exact ⟨rfl, rfl⟩
  · rw [if_neg h]
    go_enter Tryd.func74, Tryd.ntmps74
    go_wp2
    go_ret
    exact ⟨rfl, rfl⟩

set_option maxHeartbeats 1000000 in
theorem szIntS_any2 (a : Option Addr) (c : Nat) (xs : List Int) (k : Int) (w : World) (h0 : 0 ≤ k) (h1 : k ≤ 1048576) (hn : xs.length ≤ 9223372036854775807) :
    Calls Tryd.prog 74 #[.slice a xs.length c, .int .i64 k] w fun e w' => e = .returned (.int .i64 (if k - xs.length < 0 then -1 else k - xs.length)) ∧ Below w.heap.size w w' :=
  (szIntS_any a c xs k w h0 h1 hn).mono fun _ _ ⟨h, h2⟩ => ⟨h, h2 ▸ Below.refl _ _⟩

set_option maxHeartbeats 1000000 in
theorem toBigInt_own (n : Bool) (a : Option Addr) (c : Nat) (xs : List Int) (w : World) (ha : IntsAt w a c xs) (hn : xs.length ≤ 1048576) :
    Calls Tryd.prog 28 #[.agg #[.bool n, .slice a xs.length c]] w fun e w' => ∃ b c', e = .returned (.agg #[.bool n, .slice b xs.length c']) ∧
      OwnI w' w.heap.size w'.heap.size (.slice b xs.length c') xs ∧ Below w.heap.size w w' := by
  have HA := Lib.hid ha
  clear ha
  go_enter Tryd.func28, Tryd.ntmps28
  go_wp2_with fail
  refine (toIntS_own a c xs _ (HA.out.below (ba3 _ _ _ _)) hn).mono ?_
  rintro e w1 ⟨b, c', rfl, ho, hb⟩
  have HO := Lib.hid ho
  have HB := Lib.hid hb
  obtain ⟨hc, hf⟩ := bcells hb
  have hz := hb.size
  simp at hz
  clear ho hb
  go_wp2
  refine bodyPost_ret (v := .agg #[.bool n, .slice b xs.length c']) (by simp [results, Tryd.results28, go_sem, hc, hz]) rfl ⟨b, c', rfl, ?_, ?_⟩
  · exact (((HO.out.low (by simp) _).low (by simp) _).low (by simp) _).mono (by simp; omega) (by simp)
  · exact (((bstep (ba3 _ _ _ _) HB.out).setCell (by simp; omega) _).setCell (by simp) _).setCell (by simp) _

set_option maxHeartbeats 1000000 in
theorem eqBigInt_same (n : Bool) (a : Option Addr) (ca : Nat) (b : Option Addr) (cb : Nat) (xs : List Int) (w : World) (ha : IntsAt w a ca xs) (hb : IntsAt w b cb xs) (hn : xs.length ≤ 1048576) :
    Calls Tryd.prog 30 #[.agg #[.bool n, .slice a xs.length ca], .agg #[.bool n, .slice b xs.length cb]] w fun e w' => e = .returned (.bool true) ∧ Below w.heap.size w w' := by
  have HA := Lib.hid ha
  have HB := Lib.hid hb
  clear ha hb
  go_enter Tryd.func30, Tryd.ntmps30
  go_wp2_with fail
  refine (eqIntS_same a ca b cb xs _ (HA.out.below (ba2 _ _ _)) (HB.out.below (ba2 _ _ _)) hn).mono ?_
  rintro e w1 ⟨rfl, h1⟩
  have H1 := Lib.hid h1
  clear h1
  go_wp2
  go_ret
  exact ⟨rfl, bstep (ba2 _ _ _) H1.out⟩

set_option maxHeartbeats 1000000 in
theorem markBigInt_own {lo hi : Nat} (n : Bool) (a : Option Addr) (c : Nat) (xs : List Int) (k : Int) (w : World) (ha : OwnI w lo hi (.slice a xs.length c) xs) (hh : hi ≤ w.heap.size) (hn : xs.length ≤ 1048576) (hk0 : 0 ≤ k) (hk1 : k ≤ 1000000000) :
    Calls Tryd.prog 35 #[.agg #[.bool n, .slice a xs.length c], .int .i64 k] w fun e w' => e = .returned (.int .i64 (k + xs.length)) ∧ MarkI w' lo hi (.slice a xs.length c) xs.length k ∧ Span lo hi w w' := by
  have HA := Lib.hid ha
  clear ha
  go_enter Tryd.func35, Tryd.ntmps35
  go_wp2_with fail
  refine (markIntS_own a c xs k _ (HA.out.below (ba1 _ _)) hn hk0 hk1).mono ?_
  rintro e w1 ⟨rfl, hm, hs, -⟩
  have HM := Lib.hid hm
  have HS := Lib.hid hs
  clear hm hs
  go_wp2
  go_ret
  exact ⟨rfl, HM.out, (Span.of_below (ba1 _ _)).trans HS.out⟩

set_option maxHeartbeats 1000000 in
theorem heldBigInt_own {lo hi : Nat} (n : Bool) (a : Option Addr) (c m : Nat) (k : Int) (w : World) (ha : MarkI w lo hi (.slice a m c) m k) (hn : m ≤ 1048576) (hk0 : 0 ≤ k) (hk1 : k ≤ 1000000000) :
    Calls Tryd.prog 36 #[.agg #[.bool n, .slice a m c], .int .i64 k] w fun e w' => e = .returned (.int .i64 (k + m)) ∧ Below w.heap.size w w' := by
  have HA := Lib.hid ha
  clear ha
  go_enter Tryd.func36, Tryd.ntmps36
  go_wp2_with fail
  refine (heldIntS_own a c m k _ (HA.out.below (ba1 _ _)) hn hk0 hk1).mono ?_
  rintro e w1 ⟨rfl, rfl⟩
  go_wp2
  go_ret
  exact ⟨rfl, ba1 _ _⟩

set_option maxHeartbeats 1000000 in
theorem szBigInt_any (n : Bool) (a : Option Addr) (c : Nat) (xs : List Int) (k : Int) (w : World) (hk0 : 0 ≤ k) (hk1 : k ≤ 1048576) (hn : xs.length ≤ 9223372036854775807) :
    Calls Tryd.prog 26 #[.agg #[.bool n, .slice a xs.length c], .int .i64 k] w fun e w' => e = .returned (.int .i64 (if k - xs.length < 0 then -1 else k - xs.length)) ∧ Below w.heap.size w w' := by
  by_cases h : k - xs.length < 0
  · rw [if_pos h]
    go_enter Tryd.func26, Tryd.ntmps26
    go_wp2_with fail
    refine (szIntS_any a c xs k _ hk0 hk1 hn).mono ?_
    rintro e w1 ⟨rfl, rfl⟩
    rw [if_pos h]
    go_wp2
    go_ret
    exact ⟨rfl, ba1 _ _⟩
  · rw [if_neg h]
    go_enter Tryd.func26, Tryd.ntmps26
    go_wp2_with fail
    refine (szIntS_any a c xs k _ hk0 hk1 hn).mono ?_
    rintro e w1 ⟨rfl, rfl⟩
    rw [if_neg (by omega)]
    go_wp2
    go_ret
    exact ⟨rfl, ba1 _ _⟩

def bigOkB (n : Bool) (xs : List Int) : Bool := natOkB xs && (!n || decide (0 < xs.length))
set_option maxHeartbeats 1000000 in
theorem specBigIntOk_any (n : Bool) (a : Option Addr) (c : Nat) (xs : List Int) (w : World) (ha : IntsAt w a c xs) (hn : xs.length ≤ 1048576) :
    Calls Tryd.prog 75 #[.agg #[.bool n, .slice a xs.length c]] w fun e w' => e = .returned (.bool (bigOkB n xs)) ∧ Below w.heap.size w w' := by
  have HA := Lib.hid ha
  clear ha
  by_cases h1 : natOkB xs = true
  · cases n with
    | true =>
      have HE : Hid (bigOkB true xs = decide (0 < xs.length)) := by simp [Hid, bigOkB, h1]
      go_enter Tryd.func75, Tryd.ntmps75
      go_wp2_with (go_at_call 62; refine (specNatOk_q a c xs _ (HA.out.below (ba1 _ _)) hn).mono ?_; rintro e w' ⟨rfl, rfl⟩)
      go_ret
      exact ⟨ret_bool (by rw [HE.out]), ba1 _ _⟩
    | false =>
      have HE : Hid (bigOkB false xs = true) := by simp [Hid, bigOkB, h1]
      go_enter Tryd.func75, Tryd.ntmps75
      go_wp2_with (go_at_call 62; refine (specNatOk_q a c xs _ (HA.out.below (ba1 _ _)) hn).mono ?_; rintro e w' ⟨rfl, rfl⟩)
      go_ret
      exact ⟨ret_bool (by rw [HE.out]), ba1 _ _⟩
  · have h1' := Bool.eq_false_iff.2 h1
    have HE : Hid (bigOkB n xs = false) := by simp [Hid, bigOkB, h1']
    go_enter Tryd.func75, Tryd.ntmps75
    go_wp2_with (go_at_call 62; refine (specNatOk_q a c xs _ (HA.out.below (ba1 _ _)) hn).mono ?_; rintro e w' ⟨rfl, rfl⟩)
    go_ret
    exact ⟨ret_bool (by rw [HE.out]), ba1 _ _⟩
set_option maxHeartbeats 1000000 in
theorem implBigIntOk_any (n : Bool) (a : Option Addr) (c : Nat) (xs : List Int) (w : World) (ha : IntsAt w a c xs) (hn : xs.length ≤ 1048576) :
    Calls Tryd.prog 76 #[.agg #[.bool n, .slice a xs.length c]] w fun e w' => e = .returned (.bool (bigOkB n xs)) ∧ Below w.heap.size w w' := by
  have HA := Lib.hid ha
  clear ha
  by_cases h1 : natOkB xs = true
  · cases n with
    | true =>
      have HE : Hid (bigOkB true xs = decide (0 < xs.length)) := by simp [Hid, bigOkB, h1]
      go_enter Tryd.func76, Tryd.ntmps76
      go_wp2_with (go_at_call 65; refine (implNatOk_q a c xs _ (HA.out.below (ba1 _ _)) hn).mono ?_; rintro e w' ⟨rfl, rfl⟩)
      go_ret
      exact ⟨ret_bool (by rw [HE.out]), ba1 _ _⟩
    | false =>
      have HE : Hid (bigOkB false xs = true) := by simp [Hid, bigOkB, h1]
      go_enter Tryd.func76, Tryd.ntmps76
      go_wp2_with (go_at_call 65; refine (implNatOk_q a c xs _ (HA.out.below (ba1 _ _)) hn).mono ?_; rintro e w' ⟨rfl, rfl⟩)
      go_ret
      exact ⟨ret_bool (by rw [HE.out]), ba1 _ _⟩
  · have h1' := Bool.eq_false_iff.2 h1
    have HE : Hid (bigOkB n xs = false) := by simp [Hid, bigOkB, h1']
    go_enter Tryd.func76, Tryd.ntmps76
    go_wp2_with (go_at_call 65; refine (implNatOk_q a c xs _ (HA.out.below (ba1 _ _)) hn).mono ?_; rintro e w' ⟨rfl, rfl⟩)
    go_ret
    exact ⟨ret_bool (by rw [HE.out]), ba1 _ _⟩
end Go.Proofs.YtjklefkkdaelnaaDoor
