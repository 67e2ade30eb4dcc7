/- Comparing naturals by their digits. -/
import Derived.Test.YtjklefkkdaelnaaDoorNatOk
import Derived.Test.YtjklefkkdaelnaaDoorNum
namespace Go.Proofs.YtjklefkkdaelnaaDoor
set_option linter.unusedVariables false
set_option linter.unusedSimpArgs false
open Go.RowKit

def cmpI (x y : Int) : Int := if x < y then -1 else if y < x then 1 else 0
def cmpTop (xs ys : List Int) : Nat → Int
  | 0 => 0
  | k + 1 => if xs.getD k 0 < ys.getD k 0 then -1 else if ys.getD k 0 < xs.getD k 0 then 1 else cmpTop xs ys k
def cmpL (xs ys : List Int) : Int := if xs.length < ys.length then -1 else if ys.length < xs.length then 1 else cmpTop xs ys xs.length

theorem getD_at {xs : List Int} {k : Nat} (h : k < xs.length) : xs.getD k 0 = xs[k] := by simp [h]
theorem cmpTop_lt {xs ys : List Int} {k : Nat} (h : k < xs.length) (h2 : k < ys.length) (hl : xs[k] < ys[k]) : cmpTop xs ys (k + 1) = -1 := by
  rw [cmpTop, getD_at h, getD_at h2, if_pos hl]
theorem cmpTop_gt {xs ys : List Int} {k : Nat} (h : k < xs.length) (h2 : k < ys.length) (hl : ys[k] < xs[k]) : cmpTop xs ys (k + 1) = 1 := by
  rw [cmpTop, getD_at h, getD_at h2, if_neg (by omega), if_pos hl]
theorem cmpTop_eq {xs ys : List Int} {k : Nat} (h : k < xs.length) (h2 : k < ys.length) (h1 : ¬ xs[k] < ys[k]) (h3 : ¬ ys[k] < xs[k]) : cmpTop xs ys (k + 1) = cmpTop xs ys k := by
  rw [cmpTop, getD_at h, getD_at h2, if_neg h1, if_neg h3]

/-- a call that draws nothing, in a second region that draws its order -/
theorem again_quiet {P : Program} {f : FuncId} {args : Array Value} {w : World} {a n : Nat} {v : Value} (h : Calls P f args (w.drewN (a + n)) fun e w' => e = .returned v ∧ w' = w.drewN (a + n)) :
    Calls P f args (w.drewN (a + n)) fun e w2 => e = .returned v ∧ ∃ m, w2 = w.drewN (a + m) := h.mono fun _ _ hh => ⟨hh.1, n, hh.2⟩

theorem isNaN_any (n : Int) (w : World) : Calls Tryd.prog 147 #[.int .i64 n] w fun e w' => e = .returned (.bool false) ∧ w = w' := by
  go_enter Tryd.func147, Tryd.ntmps147
  go_wp2
  go_ret
  exact ⟨ret_bool (by simp), rfl⟩

set_option maxHeartbeats 400000 in
theorem compare_any (x y : Int) (w : World) : Calls Tryd.prog 121 #[.int .i64 x, .int .i64 y] w fun e w' => e = .returned (.int .i64 (cmpI x y)) ∧ w' = w := by
  by_cases h1 : x < y
  · have e1 : cmpI x y = -1 := by rw [cmpI, if_pos h1]
    rw [e1]
    clear e1
    go_enter Tryd.func121, Tryd.ntmps121
    go_wp2_with (go_at_call 147; refine (isNaN_any _ _).mono ?_; rintro e w' ⟨rfl, rfl⟩)
    go_ret
    exact ⟨rfl, rfl⟩
  · by_cases h2 : y < x
    · have e1 : cmpI x y = 1 := by rw [cmpI, if_neg h1, if_pos h2]
      rw [e1]
      clear e1
      go_enter Tryd.func121, Tryd.ntmps121
      go_wp2_with (go_at_call 147; refine (isNaN_any _ _).mono ?_; rintro e w' ⟨rfl, rfl⟩)
      go_ret
      exact ⟨rfl, rfl⟩
    · have e1 : cmpI x y = 0 := by rw [cmpI, if_neg h1, if_neg h2]
      rw [e1]
      clear e1
      go_enter Tryd.func121, Tryd.ntmps121
      go_wp2_with (go_at_call 147; refine (isNaN_any _ _).mono ?_; rintro e w' ⟨rfl, rfl⟩)
      go_ret
      exact ⟨rfl, rfl⟩

set_option maxHeartbeats 1000000 in
theorem l02Cmp_any (a : Option Addr) (ca : Nat) (xs : List Int) (b : Option Addr) (cb : Nat) (ys : List Int) (w : World) (ha : IntsAt w a ca xs) (hb : IntsAt w b cb ys) (hn : xs.length ≤ 1048576) (hm : ys.length ≤ 1048576) :
    Calls Tryd.prog 171 #[.slice a xs.length ca, .slice b ys.length cb] w fun e w' => e = .returned (.int .i64 (cmpL xs ys)) ∧ Below w.heap.size w w' := by
  have HA := Lib.hid ha
  have HB := Lib.hid hb
  clear ha hb
  by_cases hl : xs.length = ys.length
  · have hl1 : ((xs.length : Int) != (ys.length : Int)) = false := by simp [hl]
    have HL := Lib.hid hl
    have HC : Hid (cmpL xs ys = cmpTop xs ys xs.length) := by unfold Hid cmpL; rw [if_neg (by omega), if_neg (by omega)]
    clear hl
    go_enter Tryd.func171, Tryd.ntmps171
    go_wp2
    go_loopw [5] (fun i wr => ∃ k : Nat, k ≤ xs.length ∧ i = .int .i64 ((k : Int) - 1) ∧ cmpL xs ys = cmpTop xs ys k ∧ Below w.heap.size w wr) (fun i _ => (intOf i + 1).toNat)
    case atStart => exact ⟨xs.length, Nat.le_refl _, rfl, HC.out, Below.refl _ _⟩
    case round =>
      obtain ⟨k, hk, rfl, heq, hbl⟩ := hrel
      have HE := Lib.hid heq
      have HBL := Lib.hid hbl
      clear heq hbl
      cases k with
      | zero =>
        go_wp2
        go_ret
        exact ⟨ret_int HE.out.symm, HBL.out⟩
      | succ k =>
        have hk2 : k < xs.length := by omega
        have hk3 : k < ys.length := by have := HL.out; omega
        obtain ⟨b1, off1, rfl, hc1⟩ := (HA.out.below HBL.out).get hk2
        obtain ⟨b2, off2, rfl, hc2⟩ := (HB.out.below HBL.out).get hk3
        have ek : ((k + 1 : Nat) : Int) - 1 = (k : Int) := by omega
        rw [ek]
        clear ek
        by_cases h1 : xs[k] < ys[k]
        · have HT := Lib.hid (cmpTop_lt hk2 hk3 h1)
          go_wp2
          go_quiet (fail)
          go_wp2
          go_ret
          exact ⟨ret_int (HE.out.trans HT.out).symm, (by first | exact below_drewN HBL.out _ | exact below_drewN (below_drewN HBL.out _) _)⟩
        · by_cases h2 : ys[k] < xs[k]
          · have HT := Lib.hid (cmpTop_gt hk2 hk3 h2)
            go_wp2
            go_quiet (fail)
            go_wp2
            go_quiet (fail)
            go_wp2
            go_ret
            exact ⟨ret_int (HE.out.trans HT.out).symm, (by first | exact below_drewN HBL.out _ | exact below_drewN (below_drewN HBL.out _) _)⟩
          · have HT := Lib.hid (cmpTop_eq hk2 hk3 h1 h2)
            go_wp2
            go_quiet (fail)
            go_wp2
            go_quiet (fail)
            go_wp2
            go_roundw
            case rel => exact ⟨k, by omega, rfl, HE.out.trans HT.out, (by first | exact below_drewN HBL.out _ | exact below_drewN (below_drewN HBL.out _) _)⟩
            case measure => simp [intOf] <;> omega
  · have hl1 : ((xs.length : Int) != (ys.length : Int)) = true := by simp; omega
    by_cases h1 : xs.length < ys.length
    · have HC : Hid (cmpL xs ys = -1) := by unfold Hid cmpL; rw [if_pos h1]
      go_enter Tryd.func171, Tryd.ntmps171
      go_wp2
      go_ret
      exact ⟨ret_int HC.out.symm, Below.refl _ _⟩
    · have HC : Hid (cmpL xs ys = 1) := by unfold Hid cmpL; rw [if_neg h1, if_pos (by omega)]
      go_enter Tryd.func171, Tryd.ntmps171
      go_wp2
      go_ret
      exact ⟨ret_int HC.out.symm, Below.refl _ _⟩

set_option maxHeartbeats 1000000 in
theorem natCmp_any (a : Option Addr) (ca : Nat) (xs : List Int) (b : Option Addr) (cb : Nat) (ys : List Int) (w : World) (ha : IntsAt w a ca xs) (hb : IntsAt w b cb ys) (hn : xs.length ≤ 1048576) (hm : ys.length ≤ 1048576) :
    Calls Tryd.prog 81 #[.slice a xs.length ca, .slice b ys.length cb] w fun e w' => e = .returned (.int .i64 (cmpL xs ys)) ∧ Below w.heap.size w w' := by
  have HA := Lib.hid ha
  have HB := Lib.hid hb
  clear ha hb
  by_cases hl : xs.length = ys.length
  · have hl1 : ((xs.length : Int) != (ys.length : Int)) = false := by simp [hl]
    have HL := Lib.hid hl
    have HC : Hid (cmpL xs ys = cmpTop xs ys xs.length) := by unfold Hid cmpL; rw [if_neg (by omega), if_neg (by omega)]
    clear hl
    go_enter Tryd.func81, Tryd.ntmps81
    go_wp2
    go_loopw [5] (fun i wr => ∃ k : Nat, k ≤ xs.length ∧ i = .int .i64 ((k : Int) - 1) ∧ cmpL xs ys = cmpTop xs ys k ∧ Below w.heap.size w wr) (fun i _ => (intOf i + 1).toNat)
    case atStart => exact ⟨xs.length, Nat.le_refl _, rfl, HC.out, Below.refl _ _⟩
    case round =>
      obtain ⟨k, hk, rfl, heq, hbl⟩ := hrel
      have HE := Lib.hid heq
      have HBL := Lib.hid hbl
      clear heq hbl
      cases k with
      | zero =>
        go_wp2
        go_ret
        exact ⟨ret_int HE.out.symm, HBL.out⟩
      | succ k =>
        have hk2 : k < xs.length := by omega
        have hk3 : k < ys.length := by have := HL.out; omega
        obtain ⟨b1, off1, rfl, hc1⟩ := (HA.out.below HBL.out).get hk2
        obtain ⟨b2, off2, rfl, hc2⟩ := (HB.out.below HBL.out).get hk3
        have ek : ((k + 1 : Nat) : Int) - 1 = (k : Int) := by omega
        rw [ek]
        clear ek
        by_cases h1 : xs[k] = ys[k]
        · have HT := Lib.hid (cmpTop_eq hk2 hk3 (by omega) (by omega))
          have hne : (xs[k] != ys[k]) = false := by simp [h1]
          clear h1
          go_wp2
          go_quiet (fail)
          go_wp2
          go_roundw
          case rel => exact ⟨k, by omega, rfl, HE.out.trans HT.out, (by first | exact below_drewN HBL.out _ | exact below_drewN (below_drewN HBL.out _) _)⟩
          case measure => simp [intOf] <;> omega
        · have hne : (xs[k] != ys[k]) = true := by simp [h1]
          have HT : Hid (cmpTop xs ys (k + 1) = cmpI xs[k] ys[k]) := by
            unfold Hid cmpI
            by_cases h2 : xs[k] < ys[k]
            · rw [if_pos h2]; exact cmpTop_lt hk2 hk3 h2
            · rw [if_neg h2, if_pos (by omega)]; exact cmpTop_gt hk2 hk3 (by omega)
          clear h1
          go_wp2
          go_quiet (fail)
          go_wp2
          go_quiet ((go_at_call 121; exact again_quiet (compare_any _ _ _)))
          go_wp2
          go_ret
          exact ⟨ret_int (HE.out.trans HT.out).symm, (by first | exact below_drewN HBL.out _ | exact below_drewN (below_drewN HBL.out _) _)⟩
  · have hl1 : ((xs.length : Int) != (ys.length : Int)) = true := by simp; omega
    have HC : Hid (cmpI (xs.length : Int) (ys.length : Int) = cmpL xs ys) := by
      unfold Hid cmpL cmpI
      by_cases h1 : xs.length < ys.length
      · rw [if_pos (by omega), if_pos h1]
      · rw [if_neg (by omega), if_pos (by omega), if_neg h1, if_pos (by omega)]
    go_enter Tryd.func81, Tryd.ntmps81
    go_wp2_with (go_at_call 121; refine (compare_any _ _ _).mono ?_; rintro e w' ⟨rfl, rfl⟩)
    go_ret
    exact ⟨ret_int HC.out, Below.refl _ _⟩

/-! the digits' comparison is the numbers' -/
def cmpN (m n : Nat) : Int := if m < n then -1 else if n < m then 1 else 0
theorem snoc_of {α : Type} {xs : List α} {n : Nat} (h : xs.length = n + 1) : ∃ ys d, xs = ys ++ [d] ∧ ys.length = n :=
  ⟨xs.dropLast, xs.getLast (by intro h'; simp [h'] at h), (List.dropLast_concat_getLast _).symm, by simp [h]⟩

theorem cmpTop_digs : ∀ (n : Nat) (xs ys : List Int), xs.length = n → xs.length = ys.length → Rng xs → Rng ys → cmpTop xs ys xs.length = cmpN (val xs) (val ys) := by
  intro n
  induction n with
  | zero => intro xs ys h0 h _ _
            have h1 : xs = [] := List.eq_nil_of_length_eq_zero h0
            have h2 : ys = [] := List.eq_nil_of_length_eq_zero (by omega)
            subst h1 h2; rfl
  | succ n ih =>
    intro xs0 ys0 h0 h hx hy
    obtain ⟨xs, d, rfl, hxn⟩ := snoc_of h0
    obtain ⟨zs, e, rfl, hzn⟩ := snoc_of (n := n) (by omega : ys0.length = n + 1)
    · have hlen : xs.length = zs.length := by simpa using h
      have hx1 : Rng xs := fun x hm => hx x (by simp [hm])
      have hz1 : Rng zs := fun x hm => hy x (by simp [hm])
      have hd := hx d (by simp)
      have he := hy e (by simp)
      have b1 := val_lt hx1
      have b2 := val_lt hz1
      have same : ∀ k, k ≤ xs.length → cmpTop (xs ++ [d]) (zs ++ [e]) k = cmpTop xs zs k := by
        intro k
        induction k with
        | zero => intro _; rfl
        | succ k ihk =>
          intro hk
          rw [cmpTop, cmpTop, ihk (by omega)]
          have e1 : (xs ++ [d]).getD k 0 = xs.getD k 0 := by simp [List.getElem?_append_left (show k < xs.length by omega)]
          have e2 : (zs ++ [e]).getD k 0 = zs.getD k 0 := by simp [List.getElem?_append_left (show k < zs.length by omega)]
          rw [e1, e2]
      have e1 : (xs ++ [d]).getD xs.length 0 = d := by simp
      have e2 : (zs ++ [e]).getD xs.length 0 = e := by rw [hlen]; simp
      have v1 : val (xs ++ [d]) = val xs + pw xs.length * d.toNat := by rw [val_append]; simp [val]
      have v2 : val (zs ++ [e]) = val zs + pw xs.length * e.toNat := by rw [val_append, hlen]; simp [val]
      rw [List.length_append, List.length_singleton, cmpTop, e1, e2, v1, v2]
      have h3 := ih xs zs hxn hlen hx1 hz1
      rw [same _ (Nat.le_refl _), h3]
      unfold cmpN
      rw [hlen] at b1
      by_cases c1 : d < e
      · have : pw xs.length * (d.toNat + 1) ≤ pw xs.length * e.toNat := Nat.mul_le_mul_left _ (by omega)
        rw [Nat.mul_add] at this
        rw [if_pos c1, if_pos (by rw [hlen] at this ⊢; omega)]
      · rw [if_neg c1]
        by_cases c2 : e < d
        · have : pw xs.length * (e.toNat + 1) ≤ pw xs.length * d.toNat := Nat.mul_le_mul_left _ (by omega)
          rw [Nat.mul_add] at this
          rw [if_pos c2, if_neg (by rw [hlen] at this ⊢; omega), if_pos (by rw [hlen] at this ⊢; omega)]
        · rw [if_neg c2]
          have : d = e := by omega
          subst this
          by_cases c3 : val xs < val zs
          · rw [if_pos c3, if_pos (by omega)]
          · by_cases c4 : val zs < val xs
            · rw [if_neg c3, if_pos c4, if_neg (by omega), if_pos (by omega)]
            · rw [if_neg c3, if_neg c4, if_neg (by omega), if_neg (by omega)]

theorem digs_len_lt {m n : Nat} (h : (digs m).length < (digs n).length) : m < n := by
  rcases Nat.lt_or_ge m n with h1 | h1
  · exact h1
  · have : n < pw (digs m).length := Nat.lt_of_le_of_lt h1 (digs_lt_pw (Nat.le_refl _))
    have := digs_len_le this
    omega

theorem cmpL_digs (m n : Nat) : cmpL (digs m) (digs n) = cmpN m n := by
  unfold cmpL
  by_cases h1 : (digs m).length < (digs n).length
  · rw [if_pos h1, cmpN, if_pos (digs_len_lt h1)]
  · by_cases h2 : (digs n).length < (digs m).length
    · have := digs_len_lt h2
      rw [if_neg h1, if_pos h2, cmpN, if_neg (by omega), if_pos this]
    · rw [if_neg h1, if_neg h2, cmpTop_digs _ _ _ rfl (by omega) (digs_rng m) (digs_rng n), val_digs, val_digs]
end Go.Proofs.YtjklefkkdaelnaaDoor
