/- Joined: NatOk, Trim, Add, Cmp, NatOps, TyB, Boxes, Laws2. -/
import Derived.Test.YtehhpkeabckdaaaGreatDoorK1
namespace Go.Proofs.YtehhpkeabckdaaaGreatDoor
set_option linter.unusedVariables false
set_option linter.unusedSimpArgs false
section
open Go.RowKit

def digB (d : Int) : Bool := inB d 0 999999999
def lastOk (xs : List Int) : Bool := xs.isEmpty || decide (xs.getLastD 0 ≠ 0)
def natOkB (xs : List Int) : Bool := decide (xs.length ≤ 60) && lastOk xs && xs.all digB

theorem lastOk_at {xs : List Int} (h : 0 < xs.length) : lastOk xs = decide (xs[xs.length - 1] ≠ 0) := by
  have hne : xs ≠ [] := by intro h'; simp [h'] at h
  have h1 : xs.isEmpty = false := by simp [hne]
  rw [lastOk, h1, Bool.false_or, List.getLastD_eq_getLast?, List.getLast?_eq_getElem?, List.getElem?_eq_getElem (by omega)]
  rfl

theorem all_false {xs : List Int} {k : Nat} (hk : k < xs.length) (h : digB xs[k] = false) : natOkB xs = false := by
  have : xs.all digB = false := by rw [List.all_eq_false]; exact ⟨_, List.getElem_mem hk, by rw [h]; exact Bool.false_ne_true⟩
  simp [natOkB, this]

theorem all_snoc {xs : List Int} {k : Nat} (hk : k < xs.length) (h : digB xs[k] = true) (ht : (xs.take k).all digB = true) : (xs.take (k + 1)).all digB = true := by
  rw [List.take_succ_eq_append_getElem hk, List.all_append, ht]; simp [h]

set_option maxHeartbeats 800000 in
theorem specNatOk_q (a : Option Addr) (cap : Nat) (xs : List Int) (w : World) (ha : IntsAt w a cap xs) (hn : xs.length ≤ 1048576) :
    Calls Tryz.prog 100 #[.slice a xs.length cap] w fun e w' => e = .returned (.bool (natOkB xs)) ∧ w = w' := by
  have HA := Lib.hid ha
  clear ha
  go_enter Tryz.func100, Tryz.ntmps100
  go_wp2
  go_loop [7] (fun i => ∃ k : Nat, k ≤ xs.length ∧ i = .int .i64 k ∧ (xs.take k).all digB = true) (fun i => xs.length - (intOf i).toNat)
  case atStart => exact ⟨0, Nat.zero_le _, rfl, rfl⟩
  case round =>
    obtain ⟨k, hk, rfl, hall⟩ := hrel
    have HT := Lib.hid hall
    clear hall
    by_cases hlt : k < xs.length
    · obtain ⟨b, off, rfl, hc⟩ := HA.out.get hlt
      have hi := HA.out.in64 hlt
      by_cases hd : digB xs[k] = true
      · have hd' : inB xs[k] 0 999999999 = true := hd
        have HD := Lib.hid hd
        clear hd
        go_wp2_with (go_at_call 114; refine (l01In_any _ _ _ _).mono ?_; rintro e w' ⟨rfl, rfl⟩)
        go_round
        case rel => exact ⟨k + 1, by omega, by go_num, all_snoc hlt HD.out HT.out⟩
        case measure => simp [intOf]; omega
      · have hd' : inB xs[k] 0 999999999 = false := Bool.eq_false_iff.2 hd
        have HD := Lib.hid (all_false hlt (by simpa using hd))
        clear hd
        go_wp2_with (go_at_call 114; refine (l01In_any _ _ _ _).mono ?_; rintro e w' ⟨rfl, rfl⟩)
        go_ret
        exact ⟨ret_bool HD.out.symm, rfl⟩
    · have hall : xs.all digB = true := by have := HT.out; rwa [List.take_of_length_le (by omega)] at this
      have HT2 := Lib.hid hall
      clear hall
      by_cases h60 : xs.length ≤ 60
      · have h60' : decide ((xs.length : Int) ≤ 60) = true := decide_eq_true (by omega)
        by_cases h0 : 0 < xs.length
        · have h0' : ((xs.length : Int) == 0) = false := beq_eq_false_iff_ne.2 (by omega)
          obtain ⟨b, off, rfl, hc⟩ := HA.out.get (k := xs.length - 1) (by omega)
          have hl := Lib.hid (lastOk_at h0)
          go_wp2
          go_ret
          refine ⟨ret_bool ?_, rfl⟩
          rw [natOkB, HT2.out, hl.out]; simp [h60]
          rw [Bool.eq_iff_iff]; simp
        · have h0' : ((xs.length : Int) == 0) = true := beq_iff_eq.2 (by omega)
          go_wp2
          go_ret
          refine ⟨ret_bool ?_, rfl⟩
          have : xs = [] := List.eq_nil_of_length_eq_zero (by omega)
          subst this
          rfl
      · have h60' : decide ((xs.length : Int) ≤ 60) = false := decide_eq_false (by omega)
        go_wp2
        go_ret
        exact ⟨ret_bool (by simp [natOkB, h60]), rfl⟩

theorem natOkFn_any (n : Int) (w : World) : Calls Tryz.prog 70 #[.int .i64 n] w fun e w' => e = .returned (.bool (!digB n)) ∧ w = w' := by
  go_enter Tryz.func70, Tryz.ntmps70
  go_wp2_with (go_at_call 71; refine (within_any _ _ _ _).mono ?_; rintro e w' ⟨rfl, rfl⟩)
  go_ret
  exact ⟨rfl, rfl⟩

set_option maxHeartbeats 400000 in
theorem natOkFind_any (a : Option Addr) (cap : Nat) (xs : List Int) (w : World) (ha : IntsAt w a cap xs) (hn : xs.length ≤ 1048576) :
    Calls Tryz.prog 92 #[.slice a xs.length cap, .func (.func 70) #[] #[]] w fun e w' => (∃ k : Int, e = .returned (.int .i64 k) ∧ decide (0 ≤ k) = !xs.all digB) ∧ w = w' := by
  have HA := Lib.hid ha
  clear ha
  go_enter Tryz.func92, Tryz.ntmps92
  go_wp2
  go_loop [8] (fun i => ∃ k : Nat, k ≤ xs.length ∧ i = .int .i64 k ∧ (xs.take k).all digB = true) (fun i => xs.length - (intOf i).toNat)
  case atStart => exact ⟨0, Nat.zero_le _, rfl, rfl⟩
  case round =>
    obtain ⟨k, hk, rfl, hall⟩ := hrel
    have HT := Lib.hid hall
    clear hall
    by_cases hlt : k < xs.length
    · obtain ⟨b, off, rfl, hc⟩ := HA.out.get hlt
      have hi := HA.out.in64 hlt
      by_cases hd : digB xs[k] = true
      · have HD := Lib.hid hd
        go_wp2_with (go_at_call 70; refine (natOkFn_any _ _).mono ?_; rintro e w' ⟨rfl, rfl⟩)
        go_round
        case rel => exact ⟨k + 1, by omega, by go_num, all_snoc hlt HD.out HT.out⟩
        case measure => simp [intOf]; omega
      · have hd' : digB xs[k] = false := Bool.eq_false_iff.2 hd
        have HD : Hid (xs.all digB = false) := by rw [Hid, List.all_eq_false]; exact ⟨_, List.getElem_mem hlt, by rw [hd']; exact Bool.false_ne_true⟩
        clear hd
        go_wp2_with (go_at_call 70; refine (natOkFn_any _ _).mono ?_; rintro e w' ⟨rfl, rfl⟩)
        go_ret
        exact ⟨⟨k, rfl, by rw [HD.out]; simp⟩, rfl⟩
    · have hall : xs.all digB = true := by have := HT.out; rwa [List.take_of_length_le (by omega)] at this
      have HT2 := Lib.hid hall
      clear hall
      go_wp2
      go_ret
      exact ⟨⟨-1, rfl, by rw [HT2.out]; rfl⟩, rfl⟩

theorem natOkHas_any (a : Option Addr) (cap : Nat) (xs : List Int) (w : World) (ha : IntsAt w a cap xs) (hn : xs.length ≤ 1048576) :
    Calls Tryz.prog 69 #[.slice a xs.length cap, .func (.func 70) #[] #[]] w fun e w' => e = .returned (.bool (!xs.all digB)) ∧ w = w' := by
  have HA := Lib.hid ha
  clear ha
  go_enter Tryz.func69, Tryz.ntmps69
  go_wp2_with (go_at_call 92; refine (natOkFind_any _ _ _ _ HA.out hn).mono ?_; rintro e w' ⟨⟨k, rfl, hk⟩, rfl⟩)
  go_ret
  exact ⟨rfl, rfl⟩

set_option maxHeartbeats 800000 in
theorem implNatOk_q (a : Option Addr) (cap : Nat) (xs : List Int) (w : World) (ha : IntsAt w a cap xs) (hn : xs.length ≤ 1048576) :
    Calls Tryz.prog 47 #[.slice a xs.length cap] w fun e w' => e = .returned (.bool (natOkB xs)) ∧ w = w' := by
  have HA := Lib.hid ha
  clear ha
  by_cases h60 : xs.length ≤ 60
  · have h60' : decide ((xs.length : Int) ≤ 60) = true := decide_eq_true (by omega)
    by_cases h0 : 0 < xs.length
    · have h0' : ((xs.length : Int) == 0) = false := beq_eq_false_iff_ne.2 (by omega)
      obtain ⟨b, off, rfl, hc⟩ := HA.out.get (k := xs.length - 1) (by omega)
      have hl := Lib.hid (lastOk_at h0)
      by_cases hz : xs[xs.length - 1] = 0
      · have hz' : (xs[xs.length - 1] != 0) = false := by simp [hz]
        have HZ := Lib.hid hz
        clear hz
        go_enter Tryz.func47, Tryz.ntmps47
        go_wp2
        go_ret
        refine ⟨ret_bool ?_, rfl⟩
        rw [natOkB, hl.out, HZ.out]; simp
      · have hz' : (xs[xs.length - 1] != 0) = true := by simp [hz]
        have HZ := Lib.hid hz
        clear hz
        go_enter Tryz.func47, Tryz.ntmps47
        go_wp2_with (go_at_call 69; refine (natOkHas_any _ _ _ _ HA.out hn).mono ?_; rintro e w' ⟨rfl, rfl⟩)
        go_ret
        refine ⟨ret_bool ?_, rfl⟩
        rw [natOkB, hl.out]; simp [HZ.out, h60]
    · have h0' : ((xs.length : Int) == 0) = true := beq_iff_eq.2 (by omega)
      have he : xs = [] := List.eq_nil_of_length_eq_zero (by omega)
      have HE := Lib.hid he
      clear he
      go_enter Tryz.func47, Tryz.ntmps47
      go_wp2_with (go_at_call 69; refine (natOkHas_any _ _ _ _ HA.out hn).mono ?_; rintro e w' ⟨rfl, rfl⟩)
      go_ret
      refine ⟨ret_bool ?_, rfl⟩
      rw [HE.out]; rfl
  · have h60' : decide ((xs.length : Int) ≤ 60) = false := decide_eq_false (by omega)
    go_enter Tryz.func47, Tryz.ntmps47
    go_wp2
    go_ret
    exact ⟨ret_bool (by simp [natOkB, h60]), rfl⟩

theorem specNatOk_any (a : Option Addr) (cap : Nat) (xs : List Int) (w : World) (ha : IntsAt w a cap xs) (hn : xs.length ≤ 1048576) :
    Calls Tryz.prog 100 #[.slice a xs.length cap] w fun e w' => e = .returned (.bool (natOkB xs)) ∧ Below w.heap.size w w' :=
  (specNatOk_q a cap xs w ha hn).mono fun _ _ ⟨h1, h2⟩ => ⟨h1, h2 ▸ Below.refl _ _⟩
theorem implNatOk_any (a : Option Addr) (cap : Nat) (xs : List Int) (w : World) (ha : IntsAt w a cap xs) (hn : xs.length ≤ 1048576) :
    Calls Tryz.prog 47 #[.slice a xs.length cap] w fun e w' => e = .returned (.bool (natOkB xs)) ∧ Below w.heap.size w w' :=
  (implNatOk_q a cap xs w ha hn).mono fun _ _ ⟨h1, h2⟩ => ⟨h1, h2 ▸ Below.refl _ _⟩
end
section
open Go.RowKit

theorem last_take {xs : List Int} {k : Nat} (hk : k < xs.length) (h : xs[k] ≠ 0) : (xs.take (k + 1)).getLastD 1 ≠ 0 := by
  rw [List.take_succ_eq_append_getElem hk, List.getLastD_eq_getLast?, List.getLast?_concat]
  simpa using h

theorem val_zeros : ∀ (xs : List Int), (∀ x ∈ xs, x = 0) → val xs = 0
  | [], _ => rfl
  | d :: r, h => by
    have h1 := h d (List.mem_cons_self ..)
    have h2 := val_zeros r fun x hx => h x (List.mem_cons_of_mem _ hx)
    simp [val, h1, h2]

/-- what is left where the zeros at the end are taken off -/
theorem trim_take {xs : List Int} (hr : Rng xs) {k : Nat} (hk : k ≤ xs.length) (hz : ∀ x ∈ xs.drop k, x = 0) (hl : k = 0 ∨ ∃ h : k - 1 < xs.length, xs[k - 1] ≠ 0) : xs.take k = digs (val xs) := by
  have e : val xs = val (xs.take k) := by
    conv => lhs; rw [← List.take_append_drop k xs, val_append, val_zeros _ hz]
    simp
  rw [e, digs_val (hr.take k)]
  rcases hl with rfl | ⟨h, hl⟩
  · simp
  · rcases Nat.eq_zero_or_pos k with rfl | hp
    · simp
    · have := last_take h hl
      rwa [show k - 1 + 1 = k by omega] at this

theorem drop_zero {xs : List Int} {k : Nat} (hk : k < xs.length) (h0 : xs[k] = 0) (hz : ∀ x ∈ xs.drop (k + 1), x = 0) : ∀ x ∈ xs.drop k, x = 0 := by
  rw [List.drop_eq_getElem_cons hk]
  intro x hx
  cases hx with
  | head => exact h0
  | tail _ hx => exact hz x hx

theorem own_take {w : World} {lo : Nat} {a : Option Addr} {cap : Nat} {xs : List Int} (h : Own 3 w lo (.slice a xs.length cap) xs) {k : Nat} (hk : k ≤ xs.length) : Own 3 w lo (.slice a (xs.take k).length cap) (xs.take k) := by
  refine ⟨fun x hx => h.1 x (List.mem_of_mem_take hx), by simp, ?_⟩
  rcases h.2.2 with ⟨hv, h0⟩ | ⟨g, cap', cur, hv, hb, hg, hnc, hcm, hcs, ht⟩
  · left
    simp only [Value.slice.injEq] at hv
    obtain ⟨rfl, h1, rfl⟩ := hv
    have : (xs.take k).length = 0 := by simp; omega
    exact ⟨by rw [this], this⟩
  · right
    simp only [Value.slice.injEq, true_and] at hv
    obtain ⟨rfl, rfl⟩ := hv
    refine ⟨g, cap, cur, rfl, hb, hg, by simp; omega, hcm, hcs, ?_⟩
    rw [List.map_take, ← ht]
    simp [List.take_take]
theorem OwnI.take {w : World} {lo hi : Nat} {a : Option Addr} {cap : Nat} {xs : List Int} (h : OwnI w lo hi (.slice a xs.length cap) xs) {k : Nat} (hk : k ≤ xs.length) : OwnI w lo hi (.slice a (xs.take k).length cap) (xs.take k) :=
  ⟨own_take h.1 hk, fun q hq => h.2 q (by cases a with | none => cases hq | some b => exact hq)⟩

set_option maxHeartbeats 800000 in
theorem l02Trim_any (a : Option Addr) (c : Nat) (xs : List Int) (w : World) (ha : IntsAt w a c xs) (hn : xs.length ≤ 1048576) (hr : Rng xs) :
    Calls Tryz.prog 101 #[.slice a xs.length c] w fun e w' => (∃ k, k ≤ xs.length ∧ e = .returned (.slice a k c) ∧ xs.take k = digs (val xs)) ∧ w = w' := by
  have HA := Lib.hid ha
  have HR := Lib.hid hr
  have hroom := ha.room
  clear ha hr
  go_enter Tryz.func101, Tryz.ntmps101
  go_wp2
  go_loop [3] (fun i => ∃ k : Nat, k ≤ xs.length ∧ i = .int .i64 k ∧ ∀ x ∈ xs.drop k, x = 0) (fun i => (intOf i).toNat)
  case atStart => exact ⟨xs.length, Nat.le_refl _, rfl, by simp⟩
  case round =>
    obtain ⟨k, hk, rfl, hz⟩ := hrel
    have HZ := Lib.hid hz
    clear hz
    cases k with
    | zero =>
      have hd : decide ((0 : Int) < ((0 : Nat) : Int)) = false := rfl
      go_wp2
      go_ret
      exact ⟨⟨0, by omega, rfl, trim_take HR.out (by omega) HZ.out (.inl rfl)⟩, rfl⟩
    | succ k =>
      have hk2 : k < xs.length := by omega
      obtain ⟨b, off, rfl, hc⟩ := HA.out.get hk2
      have hd : decide ((0 : Int) < ((k + 1 : Nat) : Int)) = true := decide_eq_true (by omega)
      have ek : ((k + 1 : Nat) : Int) = (k : Int) + 1 := by omega
      rw [ek]
      rw [ek] at hd
      clear ek
      by_cases h0 : xs[k] = 0
      · have hb : (xs[k] == 0) = true := by simp [h0]
        have HD := Lib.hid (drop_zero hk2 h0 HZ.out)
        clear h0
        go_wp2
        go_round
        case rel => exact ⟨k, by omega, rfl, HD.out⟩
        case measure => simp [intOf] <;> omega
      · have hb : (xs[k] == 0) = false := by simp [h0]
        have HD := Lib.hid h0
        clear h0
        go_wp2
        go_ret
        refine ⟨⟨k + 1, by omega, rfl, trim_take HR.out (by omega) HZ.out (.inr ⟨?_, ?_⟩)⟩, rfl⟩
        · simpa using hk2
        · simpa using HD.out

set_option maxHeartbeats 800000 in
theorem trimmed_any (a : Option Addr) (c : Nat) (xs : List Int) (w : World) (ha : IntsAt w a c xs) (hn : xs.length ≤ 1048576) (hr : Rng xs) :
    Calls Tryz.prog 46 #[.slice a xs.length c] w fun e w' => (∃ k, k ≤ xs.length ∧ e = .returned (.slice a k c) ∧ xs.take k = digs (val xs)) ∧ w = w' := by
  have HA := Lib.hid ha
  have HR := Lib.hid hr
  have hroom := ha.room
  clear ha hr
  go_enter Tryz.func46, Tryz.ntmps46
  go_wp2
  go_loop [0] (fun i => ∃ k : Nat, k ≤ xs.length ∧ i = .slice a k c ∧ ∀ x ∈ xs.drop k, x = 0) (fun i => match i with | .slice _ n _ => n | _ => 0)
  case atStart => exact ⟨xs.length, Nat.le_refl _, rfl, by simp⟩
  case round =>
    obtain ⟨k, hk, rfl, hz⟩ := hrel
    have HZ := Lib.hid hz
    clear hz
    cases k with
    | zero =>
      have hd : decide ((0 : Int) < ((0 : Nat) : Int)) = false := rfl
      go_wp2
      go_ret
      exact ⟨⟨0, by omega, rfl, trim_take HR.out (by omega) HZ.out (.inl rfl)⟩, rfl⟩
    | succ k =>
      have hk2 : k < xs.length := by omega
      obtain ⟨b, off, rfl, hc⟩ := HA.out.get hk2
      have hd : decide ((0 : Int) < ((k + 1 : Nat) : Int)) = true := decide_eq_true (by omega)
      have ek : (((k + 1 : Nat) : Int) - 1) = (k : Int) := by omega
      by_cases h0 : xs[k] = 0
      · have hb : (xs[k] == 0) = true := by simp [h0]
        have HD := Lib.hid (drop_zero hk2 h0 HZ.out)
        clear h0
        go_wp2
        go_round
        case rel => exact ⟨k, by omega, rfl, HD.out⟩
        case measure => simp <;> omega
      · have hb : (xs[k] == 0) = false := by simp [h0]
        have HD := Lib.hid h0
        clear h0
        go_wp2
        go_ret
        refine ⟨⟨k + 1, by omega, rfl, trim_take HR.out (by omega) HZ.out (.inr ⟨?_, ?_⟩)⟩, rfl⟩
        · simpa using hk2
        · simpa using HD.out

/-- a number's digits, if they are not more than 60 -/
def capD (n : Nat) : List Int := if (digs n).length ≤ 60 then digs n else []
theorem capD_len (n : Nat) : (capD n).length ≤ 60 := by unfold capD; split <;> simp_all
theorem capD_rng (n : Nat) : Rng (capD n) := by unfold capD; split; exact digs_rng n; exact Rng.nil

theorem l02Cap_any (a : Option Addr) (c : Nat) (xs : List Int) (w : World) (ha : IntsAt w a c xs) (hn : xs.length ≤ 1048576) (hr : Rng xs) :
    Calls Tryz.prog 105 #[.slice a xs.length c] w fun e w' => (∃ a' c', e = .returned (.slice a' (capD (val xs)).length c') ∧ IntsAt w a' c' (capD (val xs))) ∧ w = w' := by
  have HA := Lib.hid ha
  have HR := Lib.hid hr
  clear ha hr
  go_enter Tryz.func105, Tryz.ntmps105
  go_wp2_with fail
  refine (l02Trim_any _ _ _ _ HA.out hn HR.out).mono ?_
  rintro e w' ⟨⟨k, hk, rfl, ht⟩, rfl⟩
  have HT := Lib.hid ht
  clear ht
  have hlen : Hid ((digs (val xs)).length = k) := by rw [← HT.out]; unfold Hid; simp; omega
  by_cases h60 : k ≤ 60
  · go_wp2
    go_ret
    refine ⟨⟨a, c, ?_, ?_⟩, rfl⟩
    · rw [capD, if_pos (by rw [hlen.out]; exact h60), hlen.out]; rfl
    · rw [capD, if_pos (by rw [hlen.out]; exact h60), ← HT.out]
      exact HA.out.take k
  · go_wp2
    go_ret
    refine ⟨⟨none, 0, ?_, ?_⟩, rfl⟩
    · rw [capD, if_neg (by rw [hlen.out]; exact h60)]; rfl
    · rw [capD, if_neg (by rw [hlen.out]; exact h60)]
      exact IntsAt.nil _

theorem clone_any (a : Option Addr) (c : Nat) (xs : List Int) (w : World) (ha : IntsAt w a c xs) (hn : xs.length ≤ 1048576) :
    Calls Tryz.prog 61 #[.slice a xs.length c] w fun e w' => ∃ v, e = .returned v ∧ Own 3 w' w.heap.size v xs ∧ Below w.heap.size w w' := by
  have HA := Lib.hid ha
  clear ha
  cases a with
  | none =>
    have hx : xs = [] := by
      rcases HA.out.at_ with h | ⟨b, off, h, _⟩
      · exact h
      · cases h
    subst hx
    have he := fun w => Lib.run_eql_slice_nil (P := Tryz.prog) w 23 3 none 0 c 0 0 Tryz.underlying23
    go_enter Tryz.func61, Tryz.ntmps61
    go_wp2
    go_ret
    exact ⟨_, rfl, own_nil _ _, Below.refl _ _⟩
  | some ad =>
    have he := fun w => Lib.run_eql_slice_nil (P := Tryz.prog) w 23 3 (some ad) xs.length c 0 0 Tryz.underlying23
    go_enter Tryz.func61, Tryz.ntmps61
    go_wp2_with (at_builtin; go_must (refine append_src (own_empty w) (HA.out.below ((Below.refl _ _).alloc (Nat.le_refl _) _)) (by simp; omega) (by simp) rfl _ _ rfl rfl rfl ?_); intro v' w1 hown1 hb1 _)
    go_ret
    exact ⟨_, rfl, by simpa using hown1, ((Below.refl _ _).alloc (Nat.le_refl _) _).trans hb1⟩
end
section
open Go.RowKit

/-- make([]int, 0, n) -/
theorem run_make_cap (n : Nat) (hn : n ≤ 16777216) (w : World) : (Instr.makeSlice 23 (.int .i64 0) (.int .i64 (n : Int))).run Tryz.prog w =
    .ok (.slice (some ⟨w.heap.size, 0, none⟩) 0 n) (w.alloc (.cells (madeCells #[.int .i64 0] n) 3)) := by
  obtain ⟨i0, hi, hz0, hz1, hz2⟩ := info_parts Tryz.infoInt
  have := run_make (P := Tryz.prog) w 23 3 i0 (.int .i64 0) Tryz.underlying23 hi hz0 .i64 .i64 0 n (by omega) (by omega) (by rw [hz2]; omega) (by omega)
  simpa [hz1, Value.cells] using this
theorem own_cap (w : World) (n : Nat) (hn : n ≤ 16777216) : Own 3 (w.alloc (.cells (madeCells #[.int .i64 0] n) 3)) w.heap.size (.slice (some ⟨w.heap.size, 0, none⟩) 0 n) [] :=
  ⟨by simp, World.ownsRow_made (base := w.heap.size) (size := 1) (e := 3) w _ n (Nat.le_refl _) (by unfold maxLen; omega) (by simp [size_madeCells])⟩

/-- the sum where the first number has no fewer digits -/
def sumEnd (ds : List Int) (m n : Nat) : Prop := digs (m + n) = ds

theorem sum_end {ds : List Int} {m n k : Nat} {q : Int} (hk : k = (digs m).length) (hkn : (digs n).length ≤ k) (hq0 : 0 ≤ q) (hq1 : q ≤ 1) (hl : ds.length = k) (hr : Rng ds) (h : val ds + pw k * q.toNat = m + n) :
    digs (m + n) = if 0 < q then ds ++ [q] else ds := by
  split
  · rename_i hq
    obtain rfl : q = 1 := by omega
    have hv : val (ds ++ [1]) = m + n := by rw [val_append, hl]; simpa [val] using h
    rw [← hv]
    apply digs_of_len (rng_snoc hr (by omega) (by omega))
    right
    rw [hv, List.length_append, hl]
    simp at h ⊢
    omega
  · have hv : val ds = m + n := by rw [show q.toNat = 0 by omega] at h; simpa using h
    rw [← hv]
    apply digs_of_len hr
    by_cases h0 : m = 0
    · left
      rw [h0, digs_zero] at hk
      exact List.eq_nil_of_length_eq_zero (by simp at hk; omega)
    · right
      have := pw_le_digs (n := m) (by omega)
      rw [hv, hl, hk]
      omega

set_option maxHeartbeats 2000000 in
theorem natAdd_le (a : Option Addr) (ca : Nat) (b : Option Addr) (cb : Nat) (m n : Nat) (w : World) (ha : IntsAt w a ca (digs m)) (hb : IntsAt w b cb (digs n)) (hn : (digs m).length ≤ 1048576) (hmn : (digs n).length ≤ (digs m).length) :
    Calls Tryz.prog 77 #[.slice a (digs m).length ca, .slice b (digs n).length cb] w fun e w' => ∃ v, e = .returned v ∧ Own 3 w' w.heap.size v (digs (m + n)) ∧ Below w.heap.size w w' := by
  have HA := Lib.hid ha
  have HB := Lib.hid hb
  clear ha hb
  have hmk := run_make_cap ((digs m).length + 1) (by omega)
  have hx : Rng (digs m) := digs_rng m
  have hy : Rng (digs n) := digs_rng n
  have hvm : Hid (val (digs m) = m) := val_digs m
  have hvn : Hid (val (digs n) = n) := val_digs n
  have HD : Hid (∀ ds : List Int, digs (m + n) = ds → ds = digs (m + n)) := fun _ h => h.symm
  have HS : Hid (∀ (ds : List Int) (k : Nat) (q : Int), k = (digs m).length → 0 ≤ q → q ≤ 1 → ds.length = k → Rng ds → val ds + pw k * q.toNat = m + n → digs (m + n) = if 0 < q then ds ++ [q] else ds) :=
    fun ds k q h1 h2 h3 h4 h5 h6 => sum_end h1 (by omega) h2 h3 h4 h5 h6
  generalize digs (m + n) = zs at *
  generalize digs m = xs at *
  generalize digs n = ys at *
  have HX := Lib.hid hx
  have HY := Lib.hid hy
  clear hx hy
  have ec : ((xs.length + 1 : Nat) : Int) = (xs.length : Int) + 1 := by omega
  rw [ec] at hmk
  clear ec
  have hdec : decide (xs.length < ys.length) = false := decide_eq_false (by omega)
  go_enter Tryz.func77, Tryz.ntmps77
  go_wp2
  go_loopw [5, 6, 22] (fun v c j wr => ∃ (ds : List Int) (q : Int) (k : Nat), j = .int .i64 k ∧ c = .int .i64 q ∧ 0 ≤ q ∧ q ≤ 1 ∧ ds.length = k ∧ k ≤ xs.length ∧ Own 3 wr w.heap.size v ds ∧ Below w.heap.size w wr ∧ Rng ds ∧ val ds + pw k * q.toNat = val (xs.take k) + val (ys.take k)) (fun _ _ j _ => xs.length - (intOf j).toNat)
  case atStart => exact ⟨[], 0, 0, rfl, rfl, by omega, by omega, rfl, by omega, own_cap w _ (by omega), (Below.refl _ _).alloc (Nat.le_refl _) _, Rng.nil, by simp [val]⟩
  case round =>
    obtain ⟨ds, q, k, rfl, rfl, hq0, hq1, hlen, hk, hown, hbl, hrng, hval⟩ := hrel
    have HL := Lib.hid hlen
    have HO := Lib.hid hown
    have HBL := Lib.hid hbl
    have HR := Lib.hid hrng
    have HV := Lib.hid hval
    clear hlen hown hbl hrng hval
    have hdl : ds.length + 1 ≤ 16777216 := by have := HL.out; omega
    by_cases h1 : k < xs.length
    · obtain ⟨b1, off1, rfl, hc1⟩ := (HA.out.below HBL.out).get h1
      have r1 := HX.out.at h1
      have V1 := Lib.hid (val_take_succ h1)
      by_cases h2 : k < ys.length
      · obtain ⟨b2, off2, rfl, hc2⟩ := (HB.out.below HBL.out).get h2
        have r2 := HY.out.at h2
        have V2 := Lib.hid (val_take_succ h2)
        go_wp2_with (at_builtin; go_must (refine append_int HO.out (n := (xs[k] + q + ys[k]) % 1000000000) (by unfold In64; omega) hdl HBL.out.size rfl _ _ rfl rfl rfl ?_); intro v' w1 hown1 hb1 _)
        go_roundw
        case rel =>
          refine ⟨_, (xs[k] + q + ys[k]) / 1000000000, k + 1, by go_num, rfl, by omega, by omega, by simp [HL.out], by omega, hown1, HBL.out.trans hb1, rng_snoc HR.out (by omega) (by omega), ?_⟩
          have := add_step HL.out hq0 (e := xs[k] + ys[k]) (by omega) (n := xs[k] + q + ys[k]) (by omega) HV.out
          rw [this, V1.out, V2.out, show (xs[k] + ys[k]).toNat = xs[k].toNat + ys[k].toNat by omega, Nat.mul_add]
          omega
        case measure => simp [intOf] <;> omega
      · have V2 : Hid (val (ys.take (k + 1)) = val (ys.take k)) := by unfold Hid; rw [List.take_of_length_le (by omega), List.take_of_length_le (by omega)]
        go_wp2_with (at_builtin; go_must (refine append_int HO.out (n := (xs[k] + q) % 1000000000) (by unfold In64; omega) hdl HBL.out.size rfl _ _ rfl rfl rfl ?_); intro v' w1 hown1 hb1 _)
        go_roundw
        case rel =>
          refine ⟨_, (xs[k] + q) / 1000000000, k + 1, by go_num, rfl, by omega, by omega, by simp [HL.out], by omega, hown1, HBL.out.trans hb1, rng_snoc HR.out (by omega) (by omega), ?_⟩
          have := add_step HL.out hq0 (e := xs[k]) (by omega) (n := xs[k] + q) (by omega) HV.out
          rw [this, V1.out, V2.out]
          omega
        case measure => simp [intOf] <;> omega
    · have hkx : Hid (k = xs.length) := by unfold Hid; omega
      have HF : Hid (zs = if 0 < q then ds ++ [q] else ds) := by
        apply HS.out ds k q hkx.out hq0 hq1 HL.out HR.out
        have := HV.out
        rwa [List.take_of_length_le (by omega), List.take_of_length_le (by omega), hvm.out, hvn.out] at this
      by_cases h3 : 0 < q
      · go_wp2_with (at_builtin; go_must (refine append_int HO.out (n := q) (by unfold In64; omega) hdl HBL.out.size rfl _ _ rfl rfl rfl ?_); intro v' w1 hown1 hb1 _)
        go_ret
        refine ⟨_, rfl, ?_, HBL.out.trans hb1⟩
        rw [HF.out, if_pos h3]
        exact hown1
      · go_wp2
        go_ret
        refine ⟨_, rfl, ?_, HBL.out⟩
        rw [HF.out, if_neg (by omega)]
        exact HO.out
set_option maxHeartbeats 2000000 in
theorem natAdd_gt (a : Option Addr) (ca : Nat) (b : Option Addr) (cb : Nat) (m n : Nat) (w : World) (ha : IntsAt w a ca (digs m)) (hb : IntsAt w b cb (digs n)) (hn : (digs m).length ≤ 1048576) (hmn : (digs n).length < (digs m).length) :
    Calls Tryz.prog 77 #[.slice b (digs n).length cb, .slice a (digs m).length ca] w fun e w' => ∃ v, e = .returned v ∧ Own 3 w' w.heap.size v (digs (m + n)) ∧ Below w.heap.size w w' := by
  have HA := Lib.hid ha
  have HB := Lib.hid hb
  clear ha hb
  have hmk := run_make_cap ((digs m).length + 1) (by omega)
  have hx : Rng (digs m) := digs_rng m
  have hy : Rng (digs n) := digs_rng n
  have hvm : Hid (val (digs m) = m) := val_digs m
  have hvn : Hid (val (digs n) = n) := val_digs n
  have HD : Hid (∀ ds : List Int, digs (m + n) = ds → ds = digs (m + n)) := fun _ h => h.symm
  have HS : Hid (∀ (ds : List Int) (k : Nat) (q : Int), k = (digs m).length → 0 ≤ q → q ≤ 1 → ds.length = k → Rng ds → val ds + pw k * q.toNat = m + n → digs (m + n) = if 0 < q then ds ++ [q] else ds) :=
    fun ds k q h1 h2 h3 h4 h5 h6 => sum_end h1 (by omega) h2 h3 h4 h5 h6
  generalize digs (m + n) = zs at *
  generalize digs m = xs at *
  generalize digs n = ys at *
  have HX := Lib.hid hx
  have HY := Lib.hid hy
  clear hx hy
  have ec : ((xs.length + 1 : Nat) : Int) = (xs.length : Int) + 1 := by omega
  rw [ec] at hmk
  clear ec
  have hdec : decide (ys.length < xs.length) = true := decide_eq_true (by omega)
  go_enter Tryz.func77, Tryz.ntmps77
  go_wp2
  go_loopw [5, 6, 22] (fun v c j wr => ∃ (ds : List Int) (q : Int) (k : Nat), j = .int .i64 k ∧ c = .int .i64 q ∧ 0 ≤ q ∧ q ≤ 1 ∧ ds.length = k ∧ k ≤ xs.length ∧ Own 3 wr w.heap.size v ds ∧ Below w.heap.size w wr ∧ Rng ds ∧ val ds + pw k * q.toNat = val (xs.take k) + val (ys.take k)) (fun _ _ j _ => xs.length - (intOf j).toNat)
  case atStart => exact ⟨[], 0, 0, rfl, rfl, by omega, by omega, rfl, by omega, own_cap w _ (by omega), (Below.refl _ _).alloc (Nat.le_refl _) _, Rng.nil, by simp [val]⟩
  case round =>
    obtain ⟨ds, q, k, rfl, rfl, hq0, hq1, hlen, hk, hown, hbl, hrng, hval⟩ := hrel
    have HL := Lib.hid hlen
    have HO := Lib.hid hown
    have HBL := Lib.hid hbl
    have HR := Lib.hid hrng
    have HV := Lib.hid hval
    clear hlen hown hbl hrng hval
    have hdl : ds.length + 1 ≤ 16777216 := by have := HL.out; omega
    by_cases h1 : k < xs.length
    · obtain ⟨b1, off1, rfl, hc1⟩ := (HA.out.below HBL.out).get h1
      have r1 := HX.out.at h1
      have V1 := Lib.hid (val_take_succ h1)
      by_cases h2 : k < ys.length
      · obtain ⟨b2, off2, rfl, hc2⟩ := (HB.out.below HBL.out).get h2
        have r2 := HY.out.at h2
        have V2 := Lib.hid (val_take_succ h2)
        go_wp2_with (at_builtin; go_must (refine append_int HO.out (n := (xs[k] + q + ys[k]) % 1000000000) (by unfold In64; omega) hdl HBL.out.size rfl _ _ rfl rfl rfl ?_); intro v' w1 hown1 hb1 _)
        go_roundw
        case rel =>
          refine ⟨_, (xs[k] + q + ys[k]) / 1000000000, k + 1, by go_num, rfl, by omega, by omega, by simp [HL.out], by omega, hown1, HBL.out.trans hb1, rng_snoc HR.out (by omega) (by omega), ?_⟩
          have := add_step HL.out hq0 (e := xs[k] + ys[k]) (by omega) (n := xs[k] + q + ys[k]) (by omega) HV.out
          rw [this, V1.out, V2.out, show (xs[k] + ys[k]).toNat = xs[k].toNat + ys[k].toNat by omega, Nat.mul_add]
          omega
        case measure => simp [intOf] <;> omega
      · have V2 : Hid (val (ys.take (k + 1)) = val (ys.take k)) := by unfold Hid; rw [List.take_of_length_le (by omega), List.take_of_length_le (by omega)]
        go_wp2_with (at_builtin; go_must (refine append_int HO.out (n := (xs[k] + q) % 1000000000) (by unfold In64; omega) hdl HBL.out.size rfl _ _ rfl rfl rfl ?_); intro v' w1 hown1 hb1 _)
        go_roundw
        case rel =>
          refine ⟨_, (xs[k] + q) / 1000000000, k + 1, by go_num, rfl, by omega, by omega, by simp [HL.out], by omega, hown1, HBL.out.trans hb1, rng_snoc HR.out (by omega) (by omega), ?_⟩
          have := add_step HL.out hq0 (e := xs[k]) (by omega) (n := xs[k] + q) (by omega) HV.out
          rw [this, V1.out, V2.out]
          omega
        case measure => simp [intOf] <;> omega
    · have hkx : Hid (k = xs.length) := by unfold Hid; omega
      have HF : Hid (zs = if 0 < q then ds ++ [q] else ds) := by
        apply HS.out ds k q hkx.out hq0 hq1 HL.out HR.out
        have := HV.out
        rwa [List.take_of_length_le (by omega), List.take_of_length_le (by omega), hvm.out, hvn.out] at this
      by_cases h3 : 0 < q
      · go_wp2_with (at_builtin; go_must (refine append_int HO.out (n := q) (by unfold In64; omega) hdl HBL.out.size rfl _ _ rfl rfl rfl ?_); intro v' w1 hown1 hb1 _)
        go_ret
        refine ⟨_, rfl, ?_, HBL.out.trans hb1⟩
        rw [HF.out, if_pos h3]
        exact hown1
      · go_wp2
        go_ret
        refine ⟨_, rfl, ?_, HBL.out⟩
        rw [HF.out, if_neg (by omega)]
        exact HO.out

theorem natAdd_any (a : Option Addr) (ca : Nat) (b : Option Addr) (cb : Nat) (m n : Nat) (w : World) (ha : IntsAt w a ca (digs m)) (hb : IntsAt w b cb (digs n)) (hm : (digs m).length ≤ 1048576) (hn : (digs n).length ≤ 1048576) :
    Calls Tryz.prog 77 #[.slice a (digs m).length ca, .slice b (digs n).length cb] w fun e w' => ∃ v, e = .returned v ∧ Own 3 w' w.heap.size v (digs (m + n)) ∧ Below w.heap.size w w' := by
  by_cases h : (digs n).length ≤ (digs m).length
  · exact natAdd_le a ca b cb m n w ha hb hm h
  · rw [Nat.add_comm]
    exact natAdd_gt b cb a ca n m w hb ha hn (by omega)
end
section
open Go.RowKit

def cmpI (x y : Int) : Int := if x < y then -1 else if y < x then 1 else 0
def cmpTop (xs ys : List Int) : Nat → Int
  | 0 => 0
  | k + 1 => if xs.getD k 0 < ys.getD k 0 then -1 else if ys.getD k 0 < xs.getD k 0 then 1 else cmpTop xs ys k
def cmpL (xs ys : List Int) : Int := if xs.length < ys.length then -1 else if ys.length < xs.length then 1 else cmpTop xs ys xs.length

theorem getD_at {xs : List Int} {k : Nat} (h : k < xs.length) : xs.getD k 0 = xs[k] := by simp [h]
theorem cmpTop_lt {xs ys : List Int} {k : Nat} (h : k < xs.length) (h2 : k < ys.length) (hl : xs[k] < ys[k]) : cmpTop xs ys (k + 1) = -1 := by
  rw [cmpTop, getD_at h, getD_at h2, if_pos hl]
theorem cmpTop_gt {xs ys : List Int} {k : Nat} (h : k < xs.length) (h2 : k < ys.length) (hl : ys[k] < xs[k]) : cmpTop xs ys (k + 1) = 1 := by
  rw [cmpTop, getD_at h, getD_at h2, if_neg (by omega), if_pos hl]
theorem cmpTop_eq {xs ys : List Int} {k : Nat} (h : k < xs.length) (h2 : k < ys.length) (h1 : ¬ xs[k] < ys[k]) (h3 : ¬ ys[k] < xs[k]) : cmpTop xs ys (k + 1) = cmpTop xs ys k := by
  rw [cmpTop, getD_at h, getD_at h2, if_neg h1, if_neg h3]

/-- a call that draws nothing, in a second region that draws its order -/
theorem again_quiet {P : Program} {f : FuncId} {args : Array Value} {w : World} {a n : Nat} {v : Value} (h : Calls P f args (w.drewN (a + n)) fun e w' => e = .returned v ∧ w' = w.drewN (a + n)) :
    Calls P f args (w.drewN (a + n)) fun e w2 => e = .returned v ∧ ∃ m, w2 = w.drewN (a + m) := h.mono fun _ _ hh => ⟨hh.1, n, hh.2⟩

theorem isNaN_any (n : Int) (w : World) : Calls Tryz.prog 113 #[.int .i64 n] w fun e w' => e = .returned (.bool false) ∧ w = w' := by
  go_enter Tryz.func113, Tryz.ntmps113
  go_wp2
  go_ret
  exact ⟨ret_bool (by simp), rfl⟩

set_option maxHeartbeats 400000 in
theorem compare_any (x y : Int) (w : World) : Calls Tryz.prog 99 #[.int .i64 x, .int .i64 y] w fun e w' => e = .returned (.int .i64 (cmpI x y)) ∧ w' = w := by
  by_cases h1 : x < y
  · have e1 : cmpI x y = -1 := by rw [cmpI, if_pos h1]
    rw [e1]
    clear e1
    go_enter Tryz.func99, Tryz.ntmps99
    go_wp2_with (go_at_call 113; refine (isNaN_any _ _).mono ?_; rintro e w' ⟨rfl, rfl⟩)
    go_ret
    exact ⟨rfl, rfl⟩
  · by_cases h2 : y < x
    · have e1 : cmpI x y = 1 := by rw [cmpI, if_neg h1, if_pos h2]
      rw [e1]
      clear e1
      go_enter Tryz.func99, Tryz.ntmps99
      go_wp2_with (go_at_call 113; refine (isNaN_any _ _).mono ?_; rintro e w' ⟨rfl, rfl⟩)
      go_ret
      exact ⟨rfl, rfl⟩
    · have e1 : cmpI x y = 0 := by rw [cmpI, if_neg h1, if_neg h2]
      rw [e1]
      clear e1
      go_enter Tryz.func99, Tryz.ntmps99
      go_wp2_with (go_at_call 113; refine (isNaN_any _ _).mono ?_; rintro e w' ⟨rfl, rfl⟩)
      go_ret
      exact ⟨rfl, rfl⟩

set_option maxHeartbeats 1000000 in
theorem l02Cmp_any (a : Option Addr) (ca : Nat) (xs : List Int) (b : Option Addr) (cb : Nat) (ys : List Int) (w : World) (ha : IntsAt w a ca xs) (hb : IntsAt w b cb ys) (hn : xs.length ≤ 1048576) (hm : ys.length ≤ 1048576) :
    Calls Tryz.prog 118 #[.slice a xs.length ca, .slice b ys.length cb] w fun e w' => e = .returned (.int .i64 (cmpL xs ys)) ∧ Below w.heap.size w w' := by
  have HA := Lib.hid ha
  have HB := Lib.hid hb
  clear ha hb
  by_cases hl : xs.length = ys.length
  · have hl1 : ((xs.length : Int) != (ys.length : Int)) = false := by simp [hl]
    have HL := Lib.hid hl
    have HC : Hid (cmpL xs ys = cmpTop xs ys xs.length) := by unfold Hid cmpL; rw [if_neg (by omega), if_neg (by omega)]
    clear hl
    go_enter Tryz.func118, Tryz.ntmps118
    go_wp2
    go_loopw [5] (fun i wr => ∃ k : Nat, k ≤ xs.length ∧ i = .int .i64 ((k : Int) - 1) ∧ cmpL xs ys = cmpTop xs ys k ∧ Below w.heap.size w wr) (fun i _ => (intOf i + 1).toNat)
    case atStart => exact ⟨xs.length, Nat.le_refl _, rfl, HC.out, Below.refl _ _⟩
    case round =>
      obtain ⟨k, hk, rfl, heq, hbl⟩ := hrel
      have HE := Lib.hid heq
      have HBL := Lib.hid hbl
      clear heq hbl
      cases k with
      | zero =>
        go_wp2
        go_ret
        exact ⟨ret_int HE.out.symm, HBL.out⟩
      | succ k =>
        have hk2 : k < xs.length := by omega
        have hk3 : k < ys.length := by have := HL.out; omega
        obtain ⟨b1, off1, rfl, hc1⟩ := (HA.out.below HBL.out).get hk2
        obtain ⟨b2, off2, rfl, hc2⟩ := (HB.out.below HBL.out).get hk3
        have ek : ((k + 1 : Nat) : Int) - 1 = (k : Int) := by omega
        rw [ek]
        clear ek
        by_cases h1 : xs[k] < ys[k]
        · have HT := Lib.hid (cmpTop_lt hk2 hk3 h1)
          go_wp2
          go_quiet (fail)
          go_wp2
          go_ret
          exact ⟨ret_int (HE.out.trans HT.out).symm, (by first | exact below_drewN HBL.out _ | exact below_drewN (below_drewN HBL.out _) _)⟩
        · by_cases h2 : ys[k] < xs[k]
          · have HT := Lib.hid (cmpTop_gt hk2 hk3 h2)
            go_wp2
            go_quiet (fail)
            go_wp2
            go_quiet (fail)
            go_wp2
            go_ret
            exact ⟨ret_int (HE.out.trans HT.out).symm, (by first | exact below_drewN HBL.out _ | exact below_drewN (below_drewN HBL.out _) _)⟩
          · have HT := Lib.hid (cmpTop_eq hk2 hk3 h1 h2)
            go_wp2
            go_quiet (fail)
            go_wp2
            go_quiet (fail)
            go_wp2
            go_roundw
            case rel => exact ⟨k, by omega, rfl, HE.out.trans HT.out, (by first | exact below_drewN HBL.out _ | exact below_drewN (below_drewN HBL.out _) _)⟩
            case measure => simp [intOf] <;> omega
  · have hl1 : ((xs.length : Int) != (ys.length : Int)) = true := by simp; omega
    by_cases h1 : xs.length < ys.length
    · have HC : Hid (cmpL xs ys = -1) := by unfold Hid cmpL; rw [if_pos h1]
      go_enter Tryz.func118, Tryz.ntmps118
      go_wp2
      go_ret
      exact ⟨ret_int HC.out.symm, Below.refl _ _⟩
    · have HC : Hid (cmpL xs ys = 1) := by unfold Hid cmpL; rw [if_neg h1, if_pos (by omega)]
      go_enter Tryz.func118, Tryz.ntmps118
      go_wp2
      go_ret
      exact ⟨ret_int HC.out.symm, Below.refl _ _⟩

set_option maxHeartbeats 1000000 in
theorem natCmp_any (a : Option Addr) (ca : Nat) (xs : List Int) (b : Option Addr) (cb : Nat) (ys : List Int) (w : World) (ha : IntsAt w a ca xs) (hb : IntsAt w b cb ys) (hn : xs.length ≤ 1048576) (hm : ys.length ≤ 1048576) :
    Calls Tryz.prog 78 #[.slice a xs.length ca, .slice b ys.length cb] w fun e w' => e = .returned (.int .i64 (cmpL xs ys)) ∧ Below w.heap.size w w' := by
  have HA := Lib.hid ha
  have HB := Lib.hid hb
  clear ha hb
  by_cases hl : xs.length = ys.length
  · have hl1 : ((xs.length : Int) != (ys.length : Int)) = false := by simp [hl]
    have HL := Lib.hid hl
    have HC : Hid (cmpL xs ys = cmpTop xs ys xs.length) := by unfold Hid cmpL; rw [if_neg (by omega), if_neg (by omega)]
    clear hl
    go_enter Tryz.func78, Tryz.ntmps78
    go_wp2
    go_loopw [5] (fun i wr => ∃ k : Nat, k ≤ xs.length ∧ i = .int .i64 ((k : Int) - 1) ∧ cmpL xs ys = cmpTop xs ys k ∧ Below w.heap.size w wr) (fun i _ => (intOf i + 1).toNat)
    case atStart => exact ⟨xs.length, Nat.le_refl _, rfl, HC.out, Below.refl _ _⟩
    case round =>
      obtain ⟨k, hk, rfl, heq, hbl⟩ := hrel
      have HE := Lib.hid heq
      have HBL := Lib.hid hbl
      clear heq hbl
      cases k with
      | zero =>
        go_wp2
        go_ret
        exact ⟨ret_int HE.out.symm, HBL.out⟩
      | succ k =>
        have hk2 : k < xs.length := by omega
        have hk3 : k < ys.length := by have := HL.out; omega
        obtain ⟨b1, off1, rfl, hc1⟩ := (HA.out.below HBL.out).get hk2
        obtain ⟨b2, off2, rfl, hc2⟩ := (HB.out.below HBL.out).get hk3
        have ek : ((k + 1 : Nat) : Int) - 1 = (k : Int) := by omega
        rw [ek]
        clear ek
        by_cases h1 : xs[k] = ys[k]
        · have HT := Lib.hid (cmpTop_eq hk2 hk3 (by omega) (by omega))
          have hne : (xs[k] != ys[k]) = false := by simp [h1]
          clear h1
          go_wp2
          go_quiet (fail)
          go_wp2
          go_roundw
          case rel => exact ⟨k, by omega, rfl, HE.out.trans HT.out, (by first | exact below_drewN HBL.out _ | exact below_drewN (below_drewN HBL.out _) _)⟩
          case measure => simp [intOf] <;> omega
        · have hne : (xs[k] != ys[k]) = true := by simp [h1]
          have HT : Hid (cmpTop xs ys (k + 1) = cmpI xs[k] ys[k]) := by
            unfold Hid cmpI
            by_cases h2 : xs[k] < ys[k]
            · rw [if_pos h2]; exact cmpTop_lt hk2 hk3 h2
            · rw [if_neg h2, if_pos (by omega)]; exact cmpTop_gt hk2 hk3 (by omega)
          clear h1
          go_wp2
          go_quiet (fail)
          go_wp2
          go_quiet ((go_at_call 99; exact again_quiet (compare_any _ _ _)))
          go_wp2
          go_ret
          exact ⟨ret_int (HE.out.trans HT.out).symm, (by first | exact below_drewN HBL.out _ | exact below_drewN (below_drewN HBL.out _) _)⟩
  · have hl1 : ((xs.length : Int) != (ys.length : Int)) = true := by simp; omega
    have HC : Hid (cmpI (xs.length : Int) (ys.length : Int) = cmpL xs ys) := by
      unfold Hid cmpL cmpI
      by_cases h1 : xs.length < ys.length
      · rw [if_pos (by omega), if_pos h1]
      · rw [if_neg (by omega), if_pos (by omega), if_neg h1, if_pos (by omega)]
    go_enter Tryz.func78, Tryz.ntmps78
    go_wp2_with (go_at_call 99; refine (compare_any _ _ _).mono ?_; rintro e w' ⟨rfl, rfl⟩)
    go_ret
    exact ⟨ret_int HC.out, Below.refl _ _⟩

/-! the digits' comparison is the numbers' -/
def cmpN (m n : Nat) : Int := if m < n then -1 else if n < m then 1 else 0
theorem snoc_of {α : Type} {xs : List α} {n : Nat} (h : xs.length = n + 1) : ∃ ys d, xs = ys ++ [d] ∧ ys.length = n :=
  ⟨xs.dropLast, xs.getLast (by intro h'; simp [h'] at h), (List.dropLast_concat_getLast _).symm, by simp [h]⟩

theorem cmpTop_digs : ∀ (n : Nat) (xs ys : List Int), xs.length = n → xs.length = ys.length → Rng xs → Rng ys → cmpTop xs ys xs.length = cmpN (val xs) (val ys) := by
  intro n
  induction n with
  | zero => intro xs ys h0 h _ _
            have h1 : xs = [] := List.eq_nil_of_length_eq_zero h0
            have h2 : ys = [] := List.eq_nil_of_length_eq_zero (by omega)
            subst h1 h2; rfl
  | succ n ih =>
    intro xs0 ys0 h0 h hx hy
    obtain ⟨xs, d, rfl, hxn⟩ := snoc_of h0
    obtain ⟨zs, e, rfl, hzn⟩ := snoc_of (n := n) (by omega : ys0.length = n + 1)
    · have hlen : xs.length = zs.length := by simpa using h
      have hx1 : Rng xs := fun x hm => hx x (by simp [hm])
      have hz1 : Rng zs := fun x hm => hy x (by simp [hm])
      have hd := hx d (by simp)
      have he := hy e (by simp)
      have b1 := val_lt hx1
      have b2 := val_lt hz1
      have same : ∀ k, k ≤ xs.length → cmpTop (xs ++ [d]) (zs ++ [e]) k = cmpTop xs zs k := by
        intro k
        induction k with
        | zero => intro _; rfl
        | succ k ihk =>
          intro hk
          rw [cmpTop, cmpTop, ihk (by omega)]
          have e1 : (xs ++ [d]).getD k 0 = xs.getD k 0 := by simp [List.getElem?_append_left (show k < xs.length by omega)]
          have e2 : (zs ++ [e]).getD k 0 = zs.getD k 0 := by simp [List.getElem?_append_left (show k < zs.length by omega)]
          rw [e1, e2]
      have e1 : (xs ++ [d]).getD xs.length 0 = d := by simp
      have e2 : (zs ++ [e]).getD xs.length 0 = e := by rw [hlen]; simp
      have v1 : val (xs ++ [d]) = val xs + pw xs.length * d.toNat := by rw [val_append]; simp [val]
      have v2 : val (zs ++ [e]) = val zs + pw xs.length * e.toNat := by rw [val_append, hlen]; simp [val]
      rw [List.length_append, List.length_singleton, cmpTop, e1, e2, v1, v2]
      have h3 := ih xs zs hxn hlen hx1 hz1
      rw [same _ (Nat.le_refl _), h3]
      unfold cmpN
      rw [hlen] at b1
      by_cases c1 : d < e
      · have : pw xs.length * (d.toNat + 1) ≤ pw xs.length * e.toNat := Nat.mul_le_mul_left _ (by omega)
        rw [Nat.mul_add] at this
        rw [if_pos c1, if_pos (by rw [hlen] at this ⊢; omega)]
      · rw [if_neg c1]
        by_cases c2 : e < d
        · have : pw xs.length * (e.toNat + 1) ≤ pw xs.length * d.toNat := Nat.mul_le_mul_left _ (by omega)
          rw [Nat.mul_add] at this
          rw [if_pos c2, if_neg (by rw [hlen] at this ⊢; omega), if_pos (by rw [hlen] at this ⊢; omega)]
        · rw [if_neg c2]
          have : d = e := by omega
          subst this
          by_cases c3 : val xs < val zs
          · rw [if_pos c3, if_pos (by omega)]
          · by_cases c4 : val zs < val xs
            · rw [if_neg c3, if_pos c4, if_neg (by omega), if_pos (by omega)]
            · rw [if_neg c3, if_neg c4, if_neg (by omega), if_neg (by omega)]

theorem digs_len_lt {m n : Nat} (h : (digs m).length < (digs n).length) : m < n := by
  rcases Nat.lt_or_ge m n with h1 | h1
  · exact h1
  · have : n < pw (digs m).length := Nat.lt_of_le_of_lt h1 (digs_lt_pw (Nat.le_refl _))
    have := digs_len_le this
    omega

theorem cmpL_digs (m n : Nat) : cmpL (digs m) (digs n) = cmpN m n := by
  unfold cmpL
  by_cases h1 : (digs m).length < (digs n).length
  · rw [if_pos h1, cmpN, if_pos (digs_len_lt h1)]
  · by_cases h2 : (digs n).length < (digs m).length
    · have := digs_len_lt h2
      rw [if_neg h1, if_pos h2, cmpN, if_neg (by omega), if_pos this]
    · rw [if_neg h1, if_neg h2, cmpTop_digs _ _ _ rfl (by omega) (digs_rng m) (digs_rng n), val_digs, val_digs]
end
section
open Go.RowKit

theorem ok_rng {xs : List Int} (h : natOkB xs = true) : Rng xs := by
  unfold natOkB at h
  simp only [Bool.and_eq_true, List.all_eq_true] at h
  intro x hx
  have := h.2 x hx
  unfold digB inB at this
  simp at this
  exact this
theorem ok_len {xs : List Int} (h : natOkB xs = true) : xs.length ≤ 60 := by
  unfold natOkB at h
  simp only [Bool.and_eq_true, decide_eq_true_eq] at h
  exact h.1.1
theorem ok_digs {xs : List Int} (h : natOkB xs = true) : digs (val xs) = xs := by
  apply digs_val (ok_rng h)
  unfold natOkB lastOk at h
  simp only [Bool.and_eq_true, Bool.or_eq_true, decide_eq_true_eq] at h
  rcases h.1.2 with h | h
  · have : xs = [] := by simpa using h
    subst this; simp
  · cases xs with
    | nil => simp
    | cons d r => simpa [List.getLastD] using h
theorem digs_ok {n : Nat} (h : (digs n).length ≤ 60) : natOkB (digs n) = true := by
  unfold natOkB
  simp only [Bool.and_eq_true, decide_eq_true_eq, List.all_eq_true]
  refine ⟨⟨h, ?_⟩, fun x hx => ?_⟩
  · unfold lastOk
    cases hd : digs n with
    | nil => rfl
    | cons d r => have := digs_last n; rw [hd] at this; simp [List.getLastD] at this ⊢; exact decide_eq_true this
  · have := digs_rng n x hx
    exact inB_true this.1 this.2
theorem capD_ok (n : Nat) : natOkB (capD n) = true := by
  unfold capD
  split
  · exact digs_ok ‹_›
  · rfl

def natAddL (xs ys : List Int) : List Int := if natOkB xs && natOkB ys then capD (val xs + val ys) else []
theorem natAddL_len (xs ys : List Int) : (natAddL xs ys).length ≤ 1048576 := by unfold natAddL; split; have := capD_len (val xs + val ys); omega; simp
def natCmpI (xs ys : List Int) : Int := if natOkB xs && natOkB ys then cmpL xs ys else 0

section
variable (a : Option Addr) (ca : Nat) (xs : List Int) (b : Option Addr) (cb : Nat) (ys : List Int) (w : World) (ha : IntsAt w a ca xs) (hn : xs.length ≤ 1048576) (hb : IntsAt w b cb ys) (hm : ys.length ≤ 1048576)
include ha hn hb hm
end
end
section
open Go.RowKit

/-- behind a call: what was there reads as it did -/
theorem bcells {W w1 : World} (hb : Below W.heap.size W w1) : (∀ b o, b < W.heap.size → w1.cell? ⟨b, o, none⟩ = W.cell? ⟨b, o, none⟩) ∧ (∀ b o, b < W.heap.size → w1.frozen? ⟨b, o, none⟩ = W.frozen? ⟨b, o, none⟩) :=
  ⟨fun b o h => hb.cell (p := ⟨b, o, none⟩) h, fun b o h => hb.frozen (p := ⟨b, o, none⟩) h⟩
theorem bcellsB {B : Nat} {W w1 : World} (hb : Below B W w1) : (∀ b o, b < B → w1.cell? ⟨b, o, none⟩ = W.cell? ⟨b, o, none⟩) ∧ (∀ b o, b < B → w1.frozen? ⟨b, o, none⟩ = W.frozen? ⟨b, o, none⟩) :=
  ⟨fun b o h => hb.cell (p := ⟨b, o, none⟩) h, fun b o h => hb.frozen (p := ⟨b, o, none⟩) h⟩
theorem ba1 (w : World) (o : Obj) : Below w.heap.size w (w.alloc o) := (Below.refl _ _).alloc (Nat.le_refl _) o
theorem ba2 (w : World) (o p : Obj) : Below w.heap.size w ((w.alloc o).alloc p) := (ba1 w o).alloc (by simp) p
theorem ba3 (w : World) (o p q : Obj) : Below w.heap.size w (((w.alloc o).alloc p).alloc q) := (ba2 w o p).alloc (by simp; omega) q
theorem ba4 (w : World) (o p q r : Obj) : Below w.heap.size w ((((w.alloc o).alloc p).alloc q).alloc r) := (ba3 w o p q).alloc (by simp; omega) r

/-- a box that lies before a call reads so behind it -/
theorem box_cell {W W' : World} {cs : Array Value} {t : TypeId} (b : Below (W.alloc (.cells cs t)).heap.size (W.alloc (.cells cs t)) W') (j : Nat) {v : Value} (h : cs[j]? = some v) : W'.cell? ⟨W.heap.size, j, none⟩ = some v := by
  rw [b.cell (p := ⟨W.heap.size, j, none⟩) (by simp), World.cell?_alloc_at _ _ _ _ rfl]; simpa using h
theorem cell_step {W W' : World} {B j : Nat} {v : Value} (h : W.cell? ⟨B, j, none⟩ = some v) (b : Below W.heap.size W W') : W'.cell? ⟨B, j, none⟩ = some v := by
  rw [b.cell (p := ⟨B, j, none⟩) (World.block_lt_of_cell? W _ h)]; exact h
theorem cell_low {W : World} {B j : Nat} {v u : Value} {p : Addr} (h : W.cell? ⟨B, j, none⟩ = some v) (hp : B < p.block) : (W.setCell p u).cell? ⟨B, j, none⟩ = some v := by
  rw [World.cell?_of_block (w := W) (Below.heap_setCell _ _ _ _ (by simp; omega))]; exact h
theorem cell_stepD {W W' : World} {B j : Nat} {v : Value} (h : W.cell? ⟨B, j, none⟩ = some v) (b : Below W.drew.heap.size W.drew W') : W'.cell? ⟨B, j, none⟩ = some v :=
  cell_step (W := W.drew) (by rw [← h]; rfl) b
theorem bstepD {c w w' : World} (h : Below c.heap.size c w) (b : Below w.drew.heap.size w.drew w') : Below c.heap.size c w' := bstep h.drew b
theorem cell_span {W W' : World} {B j lo hi : Nat} {v : Value} (h : W.cell? ⟨B, j, none⟩ = some v) (s : Span lo hi W W') (ho : B < lo ∨ hi ≤ B) : W'.cell? ⟨B, j, none⟩ = some v := by
  rw [World.cell?_of_block (w := W) (s.block B (World.block_lt_of_cell? W _ h) ho)]; exact h
/-- a box of the call's own: block B holds these cells -/
def Box (w : World) (B : Nat) (cs : Array Value) : Prop := ∃ t, w.heap[B]? = some (.cells cs t (0, 0))
theorem Box.lt {w : World} {B : Nat} {cs : Array Value} (h : Box w B cs) : B < w.heap.size := by obtain ⟨t, h⟩ := h; exact (Array.getElem?_eq_some_iff.1 h).1
theorem Box.cell {w : World} {B : Nat} {cs : Array Value} (h : Box w B cs) (j : Nat) {v : Value} (hv : cs[j]? = some v) : w.cell? ⟨B, j, none⟩ = some v := by
  obtain ⟨t, h⟩ := h
  rw [cell_of_row w B j cs t (0, 0) h]; exact hv
theorem Box.frozen {w : World} {B : Nat} {cs : Array Value} (h : Box w B cs) (j : Nat) : w.frozen? ⟨B, j, none⟩ = false := by
  obtain ⟨t, h⟩ := h
  exact frozen_of_row w B j cs t h
theorem box_step {w w' : World} {B : Nat} {cs : Array Value} (h : Box w B cs) (b : Below w.heap.size w w') : Box w' B cs := by
  have hl := h.lt
  obtain ⟨t, h⟩ := h
  exact ⟨t, by rw [b.block B hl]; exact h⟩
theorem box_drew {w : World} {B : Nat} {cs : Array Value} (h : Box w B cs) : Box w.drew B cs := h
theorem box_span {w w' : World} {B lo hi : Nat} {cs : Array Value} (h : Box w B cs) (b : Span lo hi w w') (ho : B < lo ∨ hi ≤ B) : Box w' B cs := by
  have hl := h.lt
  obtain ⟨t, h⟩ := h
  exact ⟨t, by rw [b.block B hl ho]; exact h⟩
theorem box_new0 {w w' : World} {cs : Array Value} {t : TypeId} (b : Below (w.alloc (.cells cs t)).heap.size (w.alloc (.cells cs t)) w') : Box w' w.heap.size cs :=
  ⟨t, by rw [b.block w.heap.size (by simp)]; exact heap_alloc_new w _⟩
theorem box_new1 {w w' : World} {cs : Array Value} {t : TypeId} {o : Obj} (b : Below ((w.alloc (.cells cs t)).alloc o).heap.size ((w.alloc (.cells cs t)).alloc o) w') : Box w' w.heap.size cs :=
  box_step (box_new0 (ba1 (w.alloc (.cells cs t)) o)) b
theorem box_new2 {w w' : World} {cs : Array Value} {t : TypeId} {o p : Obj} (b : Below (((w.alloc (.cells cs t)).alloc o).alloc p).heap.size (((w.alloc (.cells cs t)).alloc o).alloc p) w') : Box w' w.heap.size cs :=
  box_step (box_new0 (ba2 (w.alloc (.cells cs t)) o p)) b
theorem OwnI.low {w : World} {lo hi : Nat} {v : Value} {xs : List Int} (h : OwnI w lo hi v xs) {p : Addr} (hp : p.block < lo) (u : Value) : OwnI (w.setCell p u) lo hi v xs := ⟨⟨h.1.1, ownsRow_setCell_below h.1.2 hp u⟩, h.2⟩

def bigOkB (n : Bool) (xs : List Int) : Bool := natOkB xs && (!n || decide (0 < xs.length))
set_option maxHeartbeats 1000000 in
theorem specBigIntOk_any (n : Bool) (a : Option Addr) (c : Nat) (xs : List Int) (w : World) (ha : IntsAt w a c xs) (hn : xs.length ≤ 1048576) :
    Calls Tryz.prog 84 #[.agg #[.bool n, .slice a xs.length c]] w fun e w' => e = .returned (.bool (bigOkB n xs)) ∧ Below w.heap.size w w' := by
  have HA := Lib.hid ha
  clear ha
  by_cases h1 : natOkB xs = true
  · cases n with
    | true =>
      have HE : Hid (bigOkB true xs = decide (0 < xs.length)) := by simp [Hid, bigOkB, h1]
      go_enter Tryz.func84, Tryz.ntmps84
      go_wp2_with (go_at_call 100; refine (specNatOk_q a c xs _ (HA.out.below (ba1 _ _)) hn).mono ?_; rintro e w' ⟨rfl, rfl⟩)
      go_ret
      exact ⟨ret_bool (by rw [HE.out]), ba1 _ _⟩
    | false =>
      have HE : Hid (bigOkB false xs = true) := by simp [Hid, bigOkB, h1]
      go_enter Tryz.func84, Tryz.ntmps84
      go_wp2_with (go_at_call 100; refine (specNatOk_q a c xs _ (HA.out.below (ba1 _ _)) hn).mono ?_; rintro e w' ⟨rfl, rfl⟩)
      go_ret
      exact ⟨ret_bool (by rw [HE.out]), ba1 _ _⟩
  · have h1' := Bool.eq_false_iff.2 h1
    have HE : Hid (bigOkB n xs = false) := by simp [Hid, bigOkB, h1']
    go_enter Tryz.func84, Tryz.ntmps84
    go_wp2_with (go_at_call 100; refine (specNatOk_q a c xs _ (HA.out.below (ba1 _ _)) hn).mono ?_; rintro e w' ⟨rfl, rfl⟩)
    go_ret
    exact ⟨ret_bool (by rw [HE.out]), ba1 _ _⟩
set_option maxHeartbeats 1000000 in
theorem implBigIntOk_any (n : Bool) (a : Option Addr) (c : Nat) (xs : List Int) (w : World) (ha : IntsAt w a c xs) (hn : xs.length ≤ 1048576) :
    Calls Tryz.prog 44 #[.agg #[.bool n, .slice a xs.length c]] w fun e w' => e = .returned (.bool (bigOkB n xs)) ∧ Below w.heap.size w w' := by
  have HA := Lib.hid ha
  clear ha
  by_cases h1 : natOkB xs = true
  · cases n with
    | true =>
      have HE : Hid (bigOkB true xs = decide (0 < xs.length)) := by simp [Hid, bigOkB, h1]
      go_enter Tryz.func44, Tryz.ntmps44
      go_wp2_with (go_at_call 47; refine (implNatOk_q a c xs _ (HA.out.below (ba1 _ _)) hn).mono ?_; rintro e w' ⟨rfl, rfl⟩)
      go_ret
      exact ⟨ret_bool (by rw [HE.out]), ba1 _ _⟩
    | false =>
      have HE : Hid (bigOkB false xs = true) := by simp [Hid, bigOkB, h1]
      go_enter Tryz.func44, Tryz.ntmps44
      go_wp2_with (go_at_call 47; refine (implNatOk_q a c xs _ (HA.out.below (ba1 _ _)) hn).mono ?_; rintro e w' ⟨rfl, rfl⟩)
      go_ret
      exact ⟨ret_bool (by rw [HE.out]), ba1 _ _⟩
  · have h1' := Bool.eq_false_iff.2 h1
    have HE : Hid (bigOkB n xs = false) := by simp [Hid, bigOkB, h1']
    go_enter Tryz.func44, Tryz.ntmps44
    go_wp2_with (go_at_call 47; refine (implNatOk_q a c xs _ (HA.out.below (ba1 _ _)) hn).mono ?_; rintro e w' ⟨rfl, rfl⟩)
    go_ret
    exact ⟨ret_bool (by rw [HE.out]), ba1 _ _⟩
end
section
open Go.RowKit
theorem bx1_0 {w w' : World} {cs : Array Value} {t : TypeId} (b : Below (w.alloc (.cells cs t)).heap.size (w.alloc (.cells cs t)) w') : Box w' (w.heap.size) cs := by
  have h : Box (w.alloc (.cells cs t)) (w.heap.size) cs := by
    have := box_new0 (Below.refl (w.alloc (.cells cs t)).heap.size (w.alloc (.cells cs t)))
    simpa only [World.size_alloc] using this
  exact box_step h b
theorem bx2_0 {w w' : World} {cs : Array Value} {t : TypeId} {o1 : Obj} (b : Below ((w.alloc (.cells cs t)).alloc o1).heap.size ((w.alloc (.cells cs t)).alloc o1) w') : Box w' (w.heap.size) cs := by
  have h : Box (w.alloc (.cells cs t)) (w.heap.size) cs := by
    have := box_new0 (Below.refl (w.alloc (.cells cs t)).heap.size (w.alloc (.cells cs t)))
    simpa only [World.size_alloc] using this
  have h := box_step h (ba1 _ o1)
  exact box_step h b
theorem bx2_1 {w w' : World} {cs : Array Value} {t : TypeId} {o0 : Obj} (b : Below ((w.alloc o0).alloc (.cells cs t)).heap.size ((w.alloc o0).alloc (.cells cs t)) w') : Box w' (w.heap.size + 1) cs := by
  have h : Box ((w.alloc o0).alloc (.cells cs t)) (w.heap.size + 1) cs := by
    have := box_new0 (Below.refl ((w.alloc o0).alloc (.cells cs t)).heap.size ((w.alloc o0).alloc (.cells cs t)))
    simpa only [World.size_alloc] using this
  exact box_step h b
theorem bx3_0 {w w' : World} {cs : Array Value} {t : TypeId} {o1 o2 : Obj} (b : Below (((w.alloc (.cells cs t)).alloc o1).alloc o2).heap.size (((w.alloc (.cells cs t)).alloc o1).alloc o2) w') : Box w' (w.heap.size) cs := by
  have h : Box (w.alloc (.cells cs t)) (w.heap.size) cs := by
    have := box_new0 (Below.refl (w.alloc (.cells cs t)).heap.size (w.alloc (.cells cs t)))
    simpa only [World.size_alloc] using this
  have h := box_step h (ba1 _ o1)
  have h := box_step h (ba1 _ o2)
  exact box_step h b
theorem bx3_1 {w w' : World} {cs : Array Value} {t : TypeId} {o0 o2 : Obj} (b : Below (((w.alloc o0).alloc (.cells cs t)).alloc o2).heap.size (((w.alloc o0).alloc (.cells cs t)).alloc o2) w') : Box w' (w.heap.size + 1) cs := by
  have h : Box ((w.alloc o0).alloc (.cells cs t)) (w.heap.size + 1) cs := by
    have := box_new0 (Below.refl ((w.alloc o0).alloc (.cells cs t)).heap.size ((w.alloc o0).alloc (.cells cs t)))
    simpa only [World.size_alloc] using this
  have h := box_step h (ba1 _ o2)
  exact box_step h b
theorem bx3_2 {w w' : World} {cs : Array Value} {t : TypeId} {o0 o1 : Obj} (b : Below (((w.alloc o0).alloc o1).alloc (.cells cs t)).heap.size (((w.alloc o0).alloc o1).alloc (.cells cs t)) w') : Box w' (w.heap.size + 2) cs := by
  have h : Box (((w.alloc o0).alloc o1).alloc (.cells cs t)) (w.heap.size + 2) cs := by
    have := box_new0 (Below.refl (((w.alloc o0).alloc o1).alloc (.cells cs t)).heap.size (((w.alloc o0).alloc o1).alloc (.cells cs t)))
    simpa only [World.size_alloc] using this
  exact box_step h b
theorem bx4_0 {w w' : World} {cs : Array Value} {t : TypeId} {o1 o2 o3 : Obj} (b : Below ((((w.alloc (.cells cs t)).alloc o1).alloc o2).alloc o3).heap.size ((((w.alloc (.cells cs t)).alloc o1).alloc o2).alloc o3) w') : Box w' (w.heap.size) cs := by
  have h : Box (w.alloc (.cells cs t)) (w.heap.size) cs := by
    have := box_new0 (Below.refl (w.alloc (.cells cs t)).heap.size (w.alloc (.cells cs t)))
    simpa only [World.size_alloc] using this
  have h := box_step h (ba1 _ o1)
  have h := box_step h (ba1 _ o2)
  have h := box_step h (ba1 _ o3)
  exact box_step h b
theorem bx4_1 {w w' : World} {cs : Array Value} {t : TypeId} {o0 o2 o3 : Obj} (b : Below ((((w.alloc o0).alloc (.cells cs t)).alloc o2).alloc o3).heap.size ((((w.alloc o0).alloc (.cells cs t)).alloc o2).alloc o3) w') : Box w' (w.heap.size + 1) cs := by
  have h : Box ((w.alloc o0).alloc (.cells cs t)) (w.heap.size + 1) cs := by
    have := box_new0 (Below.refl ((w.alloc o0).alloc (.cells cs t)).heap.size ((w.alloc o0).alloc (.cells cs t)))
    simpa only [World.size_alloc] using this
  have h := box_step h (ba1 _ o2)
  have h := box_step h (ba1 _ o3)
  exact box_step h b
theorem bx4_2 {w w' : World} {cs : Array Value} {t : TypeId} {o0 o1 o3 : Obj} (b : Below ((((w.alloc o0).alloc o1).alloc (.cells cs t)).alloc o3).heap.size ((((w.alloc o0).alloc o1).alloc (.cells cs t)).alloc o3) w') : Box w' (w.heap.size + 2) cs := by
  have h : Box (((w.alloc o0).alloc o1).alloc (.cells cs t)) (w.heap.size + 2) cs := by
    have := box_new0 (Below.refl (((w.alloc o0).alloc o1).alloc (.cells cs t)).heap.size (((w.alloc o0).alloc o1).alloc (.cells cs t)))
    simpa only [World.size_alloc] using this
  have h := box_step h (ba1 _ o3)
  exact box_step h b
theorem bx4_3 {w w' : World} {cs : Array Value} {t : TypeId} {o0 o1 o2 : Obj} (b : Below ((((w.alloc o0).alloc o1).alloc o2).alloc (.cells cs t)).heap.size ((((w.alloc o0).alloc o1).alloc o2).alloc (.cells cs t)) w') : Box w' (w.heap.size + 3) cs := by
  have h : Box ((((w.alloc o0).alloc o1).alloc o2).alloc (.cells cs t)) (w.heap.size + 3) cs := by
    have := box_new0 (Below.refl ((((w.alloc o0).alloc o1).alloc o2).alloc (.cells cs t)).heap.size ((((w.alloc o0).alloc o1).alloc o2).alloc (.cells cs t)))
    simpa only [World.size_alloc] using this
  exact box_step h b
theorem bx5_0 {w w' : World} {cs : Array Value} {t : TypeId} {o1 o2 o3 o4 : Obj} (b : Below (((((w.alloc (.cells cs t)).alloc o1).alloc o2).alloc o3).alloc o4).heap.size (((((w.alloc (.cells cs t)).alloc o1).alloc o2).alloc o3).alloc o4) w') : Box w' (w.heap.size) cs := by
  have h : Box (w.alloc (.cells cs t)) (w.heap.size) cs := by
    have := box_new0 (Below.refl (w.alloc (.cells cs t)).heap.size (w.alloc (.cells cs t)))
    simpa only [World.size_alloc] using this
  have h := box_step h (ba1 _ o1)
  have h := box_step h (ba1 _ o2)
  have h := box_step h (ba1 _ o3)
  have h := box_step h (ba1 _ o4)
  exact box_step h b
theorem bx5_1 {w w' : World} {cs : Array Value} {t : TypeId} {o0 o2 o3 o4 : Obj} (b : Below (((((w.alloc o0).alloc (.cells cs t)).alloc o2).alloc o3).alloc o4).heap.size (((((w.alloc o0).alloc (.cells cs t)).alloc o2).alloc o3).alloc o4) w') : Box w' (w.heap.size + 1) cs := by
  have h : Box ((w.alloc o0).alloc (.cells cs t)) (w.heap.size + 1) cs := by
    have := box_new0 (Below.refl ((w.alloc o0).alloc (.cells cs t)).heap.size ((w.alloc o0).alloc (.cells cs t)))
    simpa only [World.size_alloc] using this
  have h := box_step h (ba1 _ o2)
  have h := box_step h (ba1 _ o3)
  have h := box_step h (ba1 _ o4)
  exact box_step h b
theorem bx5_2 {w w' : World} {cs : Array Value} {t : TypeId} {o0 o1 o3 o4 : Obj} (b : Below (((((w.alloc o0).alloc o1).alloc (.cells cs t)).alloc o3).alloc o4).heap.size (((((w.alloc o0).alloc o1).alloc (.cells cs t)).alloc o3).alloc o4) w') : Box w' (w.heap.size + 2) cs := by
  have h : Box (((w.alloc o0).alloc o1).alloc (.cells cs t)) (w.heap.size + 2) cs := by
    have := box_new0 (Below.refl (((w.alloc o0).alloc o1).alloc (.cells cs t)).heap.size (((w.alloc o0).alloc o1).alloc (.cells cs t)))
    simpa only [World.size_alloc] using this
  have h := box_step h (ba1 _ o3)
  have h := box_step h (ba1 _ o4)
  exact box_step h b
theorem bx5_3 {w w' : World} {cs : Array Value} {t : TypeId} {o0 o1 o2 o4 : Obj} (b : Below (((((w.alloc o0).alloc o1).alloc o2).alloc (.cells cs t)).alloc o4).heap.size (((((w.alloc o0).alloc o1).alloc o2).alloc (.cells cs t)).alloc o4) w') : Box w' (w.heap.size + 3) cs := by
  have h : Box ((((w.alloc o0).alloc o1).alloc o2).alloc (.cells cs t)) (w.heap.size + 3) cs := by
    have := box_new0 (Below.refl ((((w.alloc o0).alloc o1).alloc o2).alloc (.cells cs t)).heap.size ((((w.alloc o0).alloc o1).alloc o2).alloc (.cells cs t)))
    simpa only [World.size_alloc] using this
  have h := box_step h (ba1 _ o4)
  exact box_step h b
theorem bx5_4 {w w' : World} {cs : Array Value} {t : TypeId} {o0 o1 o2 o3 : Obj} (b : Below (((((w.alloc o0).alloc o1).alloc o2).alloc o3).alloc (.cells cs t)).heap.size (((((w.alloc o0).alloc o1).alloc o2).alloc o3).alloc (.cells cs t)) w') : Box w' (w.heap.size + 4) cs := by
  have h : Box (((((w.alloc o0).alloc o1).alloc o2).alloc o3).alloc (.cells cs t)) (w.heap.size + 4) cs := by
    have := box_new0 (Below.refl (((((w.alloc o0).alloc o1).alloc o2).alloc o3).alloc (.cells cs t)).heap.size (((((w.alloc o0).alloc o1).alloc o2).alloc o3).alloc (.cells cs t)))
    simpa only [World.size_alloc] using this
  exact box_step h b
theorem bx6_0 {w w' : World} {cs : Array Value} {t : TypeId} {o1 o2 o3 o4 o5 : Obj} (b : Below ((((((w.alloc (.cells cs t)).alloc o1).alloc o2).alloc o3).alloc o4).alloc o5).heap.size ((((((w.alloc (.cells cs t)).alloc o1).alloc o2).alloc o3).alloc o4).alloc o5) w') : Box w' (w.heap.size) cs := by
  have h : Box (w.alloc (.cells cs t)) (w.heap.size) cs := by
    have := box_new0 (Below.refl (w.alloc (.cells cs t)).heap.size (w.alloc (.cells cs t)))
    simpa only [World.size_alloc] using this
  have h := box_step h (ba1 _ o1)
  have h := box_step h (ba1 _ o2)
  have h := box_step h (ba1 _ o3)
  have h := box_step h (ba1 _ o4)
  have h := box_step h (ba1 _ o5)
  exact box_step h b
theorem bx6_1 {w w' : World} {cs : Array Value} {t : TypeId} {o0 o2 o3 o4 o5 : Obj} (b : Below ((((((w.alloc o0).alloc (.cells cs t)).alloc o2).alloc o3).alloc o4).alloc o5).heap.size ((((((w.alloc o0).alloc (.cells cs t)).alloc o2).alloc o3).alloc o4).alloc o5) w') : Box w' (w.heap.size + 1) cs := by
  have h : Box ((w.alloc o0).alloc (.cells cs t)) (w.heap.size + 1) cs := by
    have := box_new0 (Below.refl ((w.alloc o0).alloc (.cells cs t)).heap.size ((w.alloc o0).alloc (.cells cs t)))
    simpa only [World.size_alloc] using this
  have h := box_step h (ba1 _ o2)
  have h := box_step h (ba1 _ o3)
  have h := box_step h (ba1 _ o4)
  have h := box_step h (ba1 _ o5)
  exact box_step h b
theorem bx6_2 {w w' : World} {cs : Array Value} {t : TypeId} {o0 o1 o3 o4 o5 : Obj} (b : Below ((((((w.alloc o0).alloc o1).alloc (.cells cs t)).alloc o3).alloc o4).alloc o5).heap.size ((((((w.alloc o0).alloc o1).alloc (.cells cs t)).alloc o3).alloc o4).alloc o5) w') : Box w' (w.heap.size + 2) cs := by
  have h : Box (((w.alloc o0).alloc o1).alloc (.cells cs t)) (w.heap.size + 2) cs := by
    have := box_new0 (Below.refl (((w.alloc o0).alloc o1).alloc (.cells cs t)).heap.size (((w.alloc o0).alloc o1).alloc (.cells cs t)))
    simpa only [World.size_alloc] using this
  have h := box_step h (ba1 _ o3)
  have h := box_step h (ba1 _ o4)
  have h := box_step h (ba1 _ o5)
  exact box_step h b
theorem bx6_3 {w w' : World} {cs : Array Value} {t : TypeId} {o0 o1 o2 o4 o5 : Obj} (b : Below ((((((w.alloc o0).alloc o1).alloc o2).alloc (.cells cs t)).alloc o4).alloc o5).heap.size ((((((w.alloc o0).alloc o1).alloc o2).alloc (.cells cs t)).alloc o4).alloc o5) w') : Box w' (w.heap.size + 3) cs := by
  have h : Box ((((w.alloc o0).alloc o1).alloc o2).alloc (.cells cs t)) (w.heap.size + 3) cs := by
    have := box_new0 (Below.refl ((((w.alloc o0).alloc o1).alloc o2).alloc (.cells cs t)).heap.size ((((w.alloc o0).alloc o1).alloc o2).alloc (.cells cs t)))
    simpa only [World.size_alloc] using this
  have h := box_step h (ba1 _ o4)
  have h := box_step h (ba1 _ o5)
  exact box_step h b
theorem bx6_4 {w w' : World} {cs : Array Value} {t : TypeId} {o0 o1 o2 o3 o5 : Obj} (b : Below ((((((w.alloc o0).alloc o1).alloc o2).alloc o3).alloc (.cells cs t)).alloc o5).heap.size ((((((w.alloc o0).alloc o1).alloc o2).alloc o3).alloc (.cells cs t)).alloc o5) w') : Box w' (w.heap.size + 4) cs := by
  have h : Box (((((w.alloc o0).alloc o1).alloc o2).alloc o3).alloc (.cells cs t)) (w.heap.size + 4) cs := by
    have := box_new0 (Below.refl (((((w.alloc o0).alloc o1).alloc o2).alloc o3).alloc (.cells cs t)).heap.size (((((w.alloc o0).alloc o1).alloc o2).alloc o3).alloc (.cells cs t)))
    simpa only [World.size_alloc] using this
  have h := box_step h (ba1 _ o5)
  exact box_step h b
theorem bx6_5 {w w' : World} {cs : Array Value} {t : TypeId} {o0 o1 o2 o3 o4 : Obj} (b : Below ((((((w.alloc o0).alloc o1).alloc o2).alloc o3).alloc o4).alloc (.cells cs t)).heap.size ((((((w.alloc o0).alloc o1).alloc o2).alloc o3).alloc o4).alloc (.cells cs t)) w') : Box w' (w.heap.size + 5) cs := by
  have h : Box ((((((w.alloc o0).alloc o1).alloc o2).alloc o3).alloc o4).alloc (.cells cs t)) (w.heap.size + 5) cs := by
    have := box_new0 (Below.refl ((((((w.alloc o0).alloc o1).alloc o2).alloc o3).alloc o4).alloc (.cells cs t)).heap.size ((((((w.alloc o0).alloc o1).alloc o2).alloc o3).alloc o4).alloc (.cells cs t)))
    simpa only [World.size_alloc] using this
  exact box_step h b

theorem ba5 (w : World) (o p q r s : Obj) : Below w.heap.size w (((((w.alloc o).alloc p).alloc q).alloc r).alloc s) := (ba4 w o p q r).alloc (by simp; omega) s
theorem ba6 (w : World) (o p q r s t : Obj) : Below w.heap.size w ((((((w.alloc o).alloc p).alloc q).alloc r).alloc s).alloc t) := (ba5 w o p q r s).alloc (by simp; omega) t
theorem box_other {w : World} {B R k : Nat} {u : Value} {cs : Array Value} (h : Box w B cs) (hne : B ≠ R) : Box (w.setCell ⟨R, k, none⟩ u) B cs := by
  obtain ⟨t, h⟩ := h
  exact ⟨t, by rw [Below.heap_setCell _ _ _ _ (by simpa using hne)]; exact h⟩
theorem box_put {w : World} {B k : Nat} {u : Value} {cs : Array Value} (h : Box w B cs) : Box (w.setCell ⟨B, k, none⟩ u) B (cs.setIfInBounds k u) := by
  obtain ⟨t, h⟩ := h
  exact ⟨t, heap_setCell_same w B k cs t u h⟩
theorem box_as {w : World} {B : Nat} {cs cs' : Array Value} (h : Box w B cs) (e : cs = cs') : Box w B cs' := e ▸ h
theorem below_put {c w : World} {n R k : Nat} {u : Value} (h : Below n c w) (hR : n ≤ R) : Below n c (w.setCell ⟨R, k, none⟩ u) := h.setCell hR u
theorem own_put {w : World} {lo hi R k : Nat} {u v : Value} {xs : List Int} (h : OwnI w lo hi v xs) (hR : R < lo) : OwnI (w.setCell ⟨R, k, none⟩ u) lo hi v xs := h.low hR u

theorem OwnI.put {w : World} {lo hi R k : Nat} {x v : Value} {xs : List Int} (h : OwnI w lo hi v xs) (hR : R < lo) : OwnI (w.setCell ⟨R, k, none⟩ x) lo hi v xs := own_put h hR
/-- two rows of a call's own, the second in later blocks -/
def Two (w : World) (lo hi : Nat) (u v : Value) (xs ys : List Int) : Prop := ∃ m, lo ≤ m ∧ m ≤ hi ∧ OwnI w lo m u xs ∧ OwnI w m hi v ys
/-- four -/
def Four (w : World) (lo hi : Nat) (u v u2 v2 : Value) (xs ys xs2 ys2 : List Int) : Prop := ∃ m, lo ≤ m ∧ m ≤ hi ∧ Two w lo m u v xs ys ∧ Two w m hi u2 v2 xs2 ys2
theorem Two.of {w : World} {lo hi l1 h1 l2 h2 : Nat} {u v : Value} {xs ys : List Int} (a : OwnI w l1 h1 u xs) (b : OwnI w l2 h2 v ys) (e1 : lo ≤ l1) (e2 : h1 ≤ l2) (e3 : h2 ≤ hi) (e4 : lo ≤ l2) (e5 : l2 ≤ hi) : Two w lo hi u v xs ys :=
  ⟨l2, e4, e5, a.mono e1 e2, b.mono (Nat.le_refl _) e3⟩
theorem Two.below {w w' : World} {lo hi : Nat} {u v : Value} {xs ys : List Int} (h : Two w lo hi u v xs ys) (b : Below w.heap.size w w') : Two w' lo hi u v xs ys := let ⟨m, h1, h2, h3, h4⟩ := h; ⟨m, h1, h2, h3.below b, h4.below b⟩
theorem Two.mono {w : World} {lo hi lo2 hi2 : Nat} {u v : Value} {xs ys : List Int} (h : Two w lo hi u v xs ys) (h1 : lo2 ≤ lo) (h2 : hi ≤ hi2) : Two w lo2 hi2 u v xs ys := let ⟨m, e1, e2, e3, e4⟩ := h; ⟨m, by omega, by omega, e3.mono h1 (Nat.le_refl _), e4.mono (Nat.le_refl _) h2⟩
theorem Two.put {w : World} {lo hi R k : Nat} {u v x : Value} {xs ys : List Int} (h : Two w lo hi u v xs ys) (hR : R < lo) : Two (w.setCell ⟨R, k, none⟩ x) lo hi u v xs ys := let ⟨m, e1, e2, e3, e4⟩ := h; ⟨m, e1, e2, own_put e3 hR, own_put e4 (by omega)⟩
/-- a fraction's result stored into a box at block R -/
theorem rat_endR {w w2 : World} {lo hi R : Nat} {u v : Value} {xs ys : List Int} (hR : w.heap.size ≤ R) (hlo : R < lo) (h : Two w2 lo hi u v xs ys) (hh : hi ≤ w2.heap.size) (b : Below w.heap.size w w2) (u0 u1 u2 : Value) :
    Two (((w2.setCell ⟨R, 0, none⟩ u0).setCell ⟨R, 1, none⟩ u1).setCell ⟨R, 2, none⟩ u2) w.heap.size (((w2.setCell ⟨R, 0, none⟩ u0).setCell ⟨R, 1, none⟩ u1).setCell ⟨R, 2, none⟩ u2).heap.size u v xs ys ∧
      Below w.heap.size w (((w2.setCell ⟨R, 0, none⟩ u0).setCell ⟨R, 1, none⟩ u1).setCell ⟨R, 2, none⟩ u2) :=
  ⟨(((h.put hlo).put hlo).put hlo).mono (by omega) (by simpa using hh), below_put (below_put (below_put b hR) hR) hR⟩
theorem two_nil (w : World) (lo hi : Nat) (h : lo ≤ hi) : Two w lo hi (.slice none 0 0) (.slice none 0 0) [] [] := ⟨hi, h, Nat.le_refl _, ⟨own_nil _ _, fun k hk => by cases hk⟩, ⟨own_nil _ _, fun k hk => by cases hk⟩⟩
theorem ratz_endR {w w2 : World} {R : Nat} (hR : w.heap.size ≤ R) (b : Below w.heap.size w w2) (u0 u1 u2 : Value) :
    Two (((w2.setCell ⟨R, 0, none⟩ u0).setCell ⟨R, 1, none⟩ u1).setCell ⟨R, 2, none⟩ u2) w.heap.size (((w2.setCell ⟨R, 0, none⟩ u0).setCell ⟨R, 1, none⟩ u1).setCell ⟨R, 2, none⟩ u2).heap.size (.slice none 0 0) (.slice none 0 0) [] [] ∧
      Below w.heap.size w (((w2.setCell ⟨R, 0, none⟩ u0).setCell ⟨R, 1, none⟩ u1).setCell ⟨R, 2, none⟩ u2) :=
  ⟨two_nil _ _ _ (by simpa using b.size), below_put (below_put (below_put b hR) hR) hR⟩
section
variable {w w' : World} {lo hi lo2 hi2 R k l1 h1 l2 h2 : Nat} {u v u2 v2 x : Value} {xs ys xs2 ys2 : List Int}
theorem Four.below (h : Four w lo hi u v u2 v2 xs ys xs2 ys2) (b : Below w.heap.size w w') : Four w' lo hi u v u2 v2 xs ys xs2 ys2 := let ⟨m, e1, e2, e3, e4⟩ := h; ⟨m, e1, e2, e3.below b, e4.below b⟩
theorem Four.mono (h : Four w lo hi u v u2 v2 xs ys xs2 ys2) (e1 : lo2 ≤ lo) (e2 : hi ≤ hi2) : Four w lo2 hi2 u v u2 v2 xs ys xs2 ys2 := let ⟨m, f1, f2, e3, e4⟩ := h; ⟨m, by omega, by omega, e3.mono e1 (Nat.le_refl _), e4.mono (Nat.le_refl _) e2⟩
theorem Four.put (h : Four w lo hi u v u2 v2 xs ys xs2 ys2) (hR : R < lo) : Four (w.setCell ⟨R, k, none⟩ x) lo hi u v u2 v2 xs ys xs2 ys2 := let ⟨m, e1, e2, e3, e4⟩ := h; ⟨m, e1, e2, e3.put hR, e4.put (by omega)⟩
theorem Two.span (h : Two w lo hi u v xs ys) (s : Span lo2 hi2 w w') (ho : hi ≤ lo2 ∨ hi2 ≤ lo) : Two w' lo hi u v xs ys :=
  let ⟨m, h1, h2, h3, h4⟩ := h; ⟨m, h1, h2, h3.span s (by omega), h4.span s (by omega)⟩
theorem Four.span (h : Four w lo hi u v u2 v2 xs ys xs2 ys2) (s : Span lo2 hi2 w w') (ho : hi ≤ lo2 ∨ hi2 ≤ lo) : Four w' lo hi u v u2 v2 xs ys xs2 ys2 :=
  let ⟨m, h1, h2, h3, h4⟩ := h; ⟨m, h1, h2, h3.span s (by omega), h4.span s (by omega)⟩
theorem Four.of (a : Two w l1 h1 u v xs ys) (b : Two w l2 h2 u2 v2 xs2 ys2) (e1 : lo ≤ l1) (e2 : h1 ≤ l2) (e3 : h2 ≤ hi) (e4 : lo ≤ l2) (e5 : l2 ≤ hi) : Four w lo hi u v u2 v2 xs ys xs2 ys2 :=
  ⟨l2, e4, e5, a.mono e1 e2, b.mono (Nat.le_refl _) e3⟩
theorem point_endR {w : World} {u0 y1 y2 y3 y4 y5 : Value} {w2 : World} (hR : w.heap.size ≤ R) (hlo : R < lo) (h : Four w2 lo hi u v u2 v2 xs ys xs2 ys2) (hh : hi ≤ w2.heap.size) (b : Below w.heap.size w w2) :
    Four ((((((w2.setCell ⟨R, 0, none⟩ u0).setCell ⟨R, 1, none⟩ y1).setCell ⟨R, 2, none⟩ y2).setCell ⟨R, 3, none⟩ y3).setCell ⟨R, 4, none⟩ y4).setCell ⟨R, 5, none⟩ y5) w.heap.size ((((((w2.setCell ⟨R, 0, none⟩ u0).setCell ⟨R, 1, none⟩ y1).setCell ⟨R, 2, none⟩ y2).setCell ⟨R, 3, none⟩ y3).setCell ⟨R, 4, none⟩ y4).setCell ⟨R, 5, none⟩ y5).heap.size u v u2 v2 xs ys xs2 ys2 ∧
      Below w.heap.size w ((((((w2.setCell ⟨R, 0, none⟩ u0).setCell ⟨R, 1, none⟩ y1).setCell ⟨R, 2, none⟩ y2).setCell ⟨R, 3, none⟩ y3).setCell ⟨R, 4, none⟩ y4).setCell ⟨R, 5, none⟩ y5) :=
  ⟨((((((h.put hlo).put hlo).put hlo).put hlo).put hlo).put hlo).mono (by omega) (by simpa using hh), below_put (below_put (below_put (below_put (below_put (below_put b hR) hR) hR) hR) hR) hR⟩
theorem four_nil (w : World) (lo hi : Nat) (h : lo ≤ hi) : Four w lo hi (.slice none 0 0) (.slice none 0 0) (.slice none 0 0) (.slice none 0 0) [] [] [] [] := ⟨hi, h, Nat.le_refl _, two_nil _ _ _ h, two_nil _ _ _ (Nat.le_refl _)⟩
end
/-- a contract's result as a slice -/
theorem own_out {f : FuncId} {args : Array Value} {w : World} {xs : List Int} (h : Calls Tryz.prog f args w fun e w' => ∃ v, e = .returned v ∧ Own 3 w' w.heap.size v xs ∧ Below w.heap.size w w') :
    Calls Tryz.prog f args w fun e w' => ∃ p c, e = .returned (.slice p xs.length c) ∧ OwnI w' w.heap.size w'.heap.size (.slice p xs.length c) xs ∧ Below w.heap.size w w' :=
  h.mono fun _ _ ⟨_, h1, h2, h3⟩ => let ⟨p, c, h4, h5⟩ := h2.out; ⟨p, c, by rw [h1, h4], h5, h3⟩
end
section
open Go.RowKit
theorem cell_dr {W : World} {B j : Nat} {v : Value} (h : W.cell? ⟨B, j, none⟩ = some v) : W.drew.cell? ⟨B, j, none⟩ = some v := h
section
variable {w : World} {lo hi k0 k1 k2 k3 : Nat} {a b c d : Option Addr} {xs ys zs us : List Int}
theorem Two.i1 (h : Two w lo hi (.slice a xs.length k0) (.slice b ys.length k1) xs ys) : IntsAt w a k0 xs := let ⟨_, _, _, h3, _⟩ := h; h3.ints
theorem Two.i2 (h : Two w lo hi (.slice a xs.length k0) (.slice b ys.length k1) xs ys) : IntsAt w b k1 ys := let ⟨_, _, _, _, h4⟩ := h; h4.ints
theorem Four.i1 (h : Four w lo hi (.slice a xs.length k0) (.slice b ys.length k1) (.slice c zs.length k2) (.slice d us.length k3) xs ys zs us) : IntsAt w a k0 xs := let ⟨_, _, _, h3, _⟩ := h; h3.i1
theorem Four.i2 (h : Four w lo hi (.slice a xs.length k0) (.slice b ys.length k1) (.slice c zs.length k2) (.slice d us.length k3) xs ys zs us) : IntsAt w b k1 ys := let ⟨_, _, _, h3, _⟩ := h; h3.i2
theorem Four.i3 (h : Four w lo hi (.slice a xs.length k0) (.slice b ys.length k1) (.slice c zs.length k2) (.slice d us.length k3) xs ys zs us) : IntsAt w c k2 zs := let ⟨_, _, _, _, h4⟩ := h; h4.i1
theorem Four.i4 (h : Four w lo hi (.slice a xs.length k0) (.slice b ys.length k1) (.slice c zs.length k2) (.slice d us.length k3) xs ys zs us) : IntsAt w d k3 us := let ⟨_, _, _, _, h4⟩ := h; h4.i2
end
end
end Go.Proofs.YtehhpkeabckdaaaGreatDoor
