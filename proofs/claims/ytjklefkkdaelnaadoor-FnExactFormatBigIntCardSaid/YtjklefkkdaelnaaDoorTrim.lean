/- Taking zeros off a number's end; the copy of a slice. -/
import Derived.Test.YtjklefkkdaelnaaDoorLaws1
import Derived.Test.YtjklefkkdaelnaaDoorAppend
import Derived.Test.YtjklefkkdaelnaaDoorNum
namespace Go.Proofs.YtjklefkkdaelnaaDoor
set_option linter.unusedVariables false
set_option linter.unusedSimpArgs false
open Go.RowKit

theorem last_take {xs : List Int} {k : Nat} (hk : k < xs.length) (h : xs[k] ≠ 0) : (xs.take (k + 1)).getLastD 1 ≠ 0 := by
  rw [List.take_succ_eq_append_getElem hk, List.getLastD_eq_getLast?, List.getLast?_concat]
  simpa using h

theorem val_zeros : ∀ (xs : List Int), (∀ x ∈ xs, x = 0) → val xs = 0
  | [], _ => rfl
  | d :: r, h => by
    have h1 := h d (List.mem_cons_self ..)
    have h2 := val_zeros r fun x hx => h x (List.mem_cons_of_mem _ hx)
    simp [val, h1, h2]

/-- what is left where the zeros at the end are taken off -/
theorem trim_take {xs : List Int} (hr : Rng xs) {k : Nat} (hk : k ≤ xs.length) (hz : ∀ x ∈ xs.drop k, x = 0) (hl : k = 0 ∨ ∃ h : k - 1 < xs.length, xs[k - 1] ≠ 0) : xs.take k = digs (val xs) := by
  have e : val xs = val (xs.take k) := by
    conv => lhs; rw [← List.take_append_drop k xs, val_append, val_zeros _ hz]
    simp
  rw [e, digs_val (hr.take k)]
  rcases hl with rfl | ⟨h, hl⟩
  · simp
  · rcases Nat.eq_zero_or_pos k with rfl | hp
    · simp
    · have := last_take h hl
      rwa [show k - 1 + 1 = k by omega] at this

theorem drop_zero {xs : List Int} {k : Nat} (hk : k < xs.length) (h0 : xs[k] = 0) (hz : ∀ x ∈ xs.drop (k + 1), x = 0) : ∀ x ∈ xs.drop k, x = 0 := by
  rw [List.drop_eq_getElem_cons hk]
  intro x hx
  cases hx with
  | head => exact h0
  | tail _ hx => exact hz x hx

theorem own_take {w : World} {lo : Nat} {a : Option Addr} {cap : Nat} {xs : List Int} (h : Own 3 w lo (.slice a xs.length cap) xs) {k : Nat} (hk : k ≤ xs.length) : Own 3 w lo (.slice a (xs.take k).length cap) (xs.take k) := by
  refine ⟨fun x hx => h.1 x (List.mem_of_mem_take hx), by simp, ?_⟩
  rcases h.2.2 with ⟨hv, h0⟩ | ⟨g, cap', cur, hv, hb, hg, hnc, hcm, hcs, ht⟩
  · left
    simp only [Value.slice.injEq] at hv
    obtain ⟨rfl, h1, rfl⟩ := hv
    have : (xs.take k).length = 0 := by simp; omega
    exact ⟨by rw [this], this⟩
  · right
    simp only [Value.slice.injEq, true_and] at hv
    obtain ⟨rfl, rfl⟩ := hv
    refine ⟨g, cap, cur, rfl, hb, hg, by simp; omega, hcm, hcs, ?_⟩
    rw [List.map_take, ← ht]
    simp [List.take_take]
theorem OwnI.take {w : World} {lo hi : Nat} {a : Option Addr} {cap : Nat} {xs : List Int} (h : OwnI w lo hi (.slice a xs.length cap) xs) {k : Nat} (hk : k ≤ xs.length) : OwnI w lo hi (.slice a (xs.take k).length cap) (xs.take k) :=
  ⟨own_take h.1 hk, fun q hq => h.2 q (by cases a with | none => cases hq | some b => exact hq)⟩

set_option maxHeartbeats 800000 in
theorem l02Trim_any (a : Option Addr) (c : Nat) (xs : List Int) (w : World) (ha : IntsAt w a c xs) (hn : xs.length ≤ 1048576) (hr : Rng xs) :
    Calls Tryd.prog 71 #[.slice a xs.length c] w fun e w' => (∃ k, k ≤ xs.length ∧ e = .returned (.slice a k c) ∧ xs.take k = digs (val xs)) ∧ w = w' := by
  have HA := Lib.hid ha
  have HR := Lib.hid hr
  have hroom := ha.room
  clear ha hr
  go_enter Tryd.func71, Tryd.ntmps71
  go_wp2
  go_loop [3] (fun i => ∃ k : Nat, k ≤ xs.length ∧ i = .int .i64 k ∧ ∀ x ∈ xs.drop k, x = 0) (fun i => (intOf i).toNat)
  case atStart => exact ⟨xs.length, Nat.le_refl _, rfl, by simp⟩
  case round =>
    obtain ⟨k, hk, rfl, hz⟩ := hrel
    have HZ := Lib.hid hz
    clear hz
    cases k with
    | zero =>
      have hd : decide ((0 : Int) < ((0 : Nat) : Int)) = false := rfl
      go_wp2
      go_ret
      exact ⟨⟨0, by omega, rfl, trim_take HR.out (by omega) HZ.out (.inl rfl)⟩, rfl⟩
    | succ k =>
      have hk2 : k < xs.length := by omega
      obtain ⟨b, off, rfl, hc⟩ := HA.out.get hk2
      have hd : decide ((0 : Int) < ((k + 1 : Nat) : Int)) = true := decide_eq_true (by omega)
      have ek : ((k + 1 : Nat) : Int) = (k : Int) + 1 := by omega
      rw [ek]
      rw [ek] at hd
      clear ek
      by_cases h0 : xs[k] = 0
      · have hb : (xs[k] == 0) = true := by simp [h0]
        have HD := Lib.hid (drop_zero hk2 h0 HZ.out)
        clear h0
        go_wp2
        go_round
        case rel => exact ⟨k, by omega, rfl, HD.out⟩
        case measure => simp [intOf] <;> omega
      · have hb : (xs[k] == 0) = false := by simp [h0]
        have HD := Lib.hid h0
        clear h0
        go_wp2
        go_ret
        refine ⟨⟨k + 1, by omega, rfl, trim_take HR.out (by omega) HZ.out (.inr ⟨?_, ?_⟩)⟩, rfl⟩
        · simpa using hk2
        · simpa using HD.out

set_option maxHeartbeats 800000 in
theorem trimmed_any (a : Option Addr) (c : Nat) (xs : List Int) (w : World) (ha : IntsAt w a c xs) (hn : xs.length ≤ 1048576) (hr : Rng xs) :
    Calls Tryd.prog 73 #[.slice a xs.length c] w fun e w' => (∃ k, k ≤ xs.length ∧ e = .returned (.slice a k c) ∧ xs.take k = digs (val xs)) ∧ w = w' := by
  have HA := Lib.hid ha
  have HR := Lib.hid hr
  have hroom := ha.room
  clear ha hr
  go_enter Tryd.func73, Tryd.ntmps73
  go_wp2
  go_loop [0] (fun i => ∃ k : Nat, k ≤ xs.length ∧ i = .slice a k c ∧ ∀ x ∈ xs.drop k, x = 0) (fun i => match i with | .slice _ n _ => n | _ => 0)
  case atStart => exact ⟨xs.length, Nat.le_refl _, rfl, by simp⟩
  case round =>
    obtain ⟨k, hk, rfl, hz⟩ := hrel
    have HZ := Lib.hid hz
    clear hz
    cases k with
    | zero =>
      have hd : decide ((0 : Int) < ((0 : Nat) : Int)) = false := rfl
      go_wp2
      go_ret
      exact ⟨⟨0, by omega, rfl, trim_take HR.out (by omega) HZ.out (.inl rfl)⟩, rfl⟩
    | succ k =>
      have hk2 : k < xs.length := by omega
      obtain ⟨b, off, rfl, hc⟩ := HA.out.get hk2
      have hd : decide ((0 : Int) < ((k + 1 : Nat) : Int)) = true := decide_eq_true (by omega)
      have ek : (((k + 1 : Nat) : Int) - 1) = (k : Int) := by omega
      by_cases h0 : xs[k] = 0
      · have hb : (xs[k] == 0) = true := by simp [h0]
        have HD := Lib.hid (drop_zero hk2 h0 HZ.out)
        clear h0
        go_wp2
        go_round
        case rel => exact ⟨k, by omega, rfl, HD.out⟩
        case measure => simp <;> omega
      · have hb : (xs[k] == 0) = false := by simp [h0]
        have HD := Lib.hid h0
        clear h0
        go_wp2
        go_ret
        refine ⟨⟨k + 1, by omega, rfl, trim_take HR.out (by omega) HZ.out (.inr ⟨?_, ?_⟩)⟩, rfl⟩
        · simpa using hk2
        · simpa using HD.out

/-- a number's digits, if they are not more than 60 -/
def capD (n : Nat) : List Int := if (digs n).length ≤ 60 then digs n else []
theorem capD_len (n : Nat) : (capD n).length ≤ 60 := by unfold capD; split <;> simp_all
theorem capD_rng (n : Nat) : Rng (capD n) := by unfold capD; split; exact digs_rng n; exact Rng.nil

theorem l02Cap_any (a : Option Addr) (c : Nat) (xs : List Int) (w : World) (ha : IntsAt w a c xs) (hn : xs.length ≤ 1048576) (hr : Rng xs) :
    Calls Tryd.prog 149 #[.slice a xs.length c] w fun e w' => (∃ a' c', e = .returned (.slice a' (capD (val xs)).length c') ∧ IntsAt w a' c' (capD (val xs))) ∧ w = w' := by
  have HA := Lib.hid ha
  have HR := Lib.hid hr
  clear ha hr
  go_enter Tryd.func149, Tryd.ntmps149
  go_wp2_with fail
  refine (l02Trim_any _ _ _ _ HA.out hn HR.out).mono ?_
  rintro e w' ⟨⟨k, hk, rfl, ht⟩, rfl⟩
  have HT := Lib.hid ht
  clear ht
  have hlen : Hid ((digs (val xs)).length = k) := by rw [← HT.out]; unfold Hid; simp; omega
  by_cases h60 : k ≤ 60
  · go_wp2
    go_ret
    refine ⟨⟨a, c, ?_, ?_⟩, rfl⟩
    · rw [capD, if_pos (by rw [hlen.out]; exact h60), hlen.out]; rfl
    · rw [capD, if_pos (by rw [hlen.out]; exact h60), ← HT.out]
      exact HA.out.take k
  · go_wp2
    go_ret
    refine ⟨⟨none, 0, ?_, ?_⟩, rfl⟩
    · rw [capD, if_neg (by rw [hlen.out]; exact h60)]; rfl
    · rw [capD, if_neg (by rw [hlen.out]; exact h60)]
      exact IntsAt.nil _

theorem ifNat_any {lo : Nat} (a : Option Addr) (c : Nat) (n : Nat) (w : World) (ha : Own 3 w lo (.slice a (digs n).length c) (digs n)) (hn : (digs n).length ≤ 1048576) :
    Calls Tryd.prog 82 #[.slice a (digs n).length c] w fun e w' => (∃ v, e = .returned v ∧ Own 3 w lo v (capD n)) ∧ w = w' := by
  have HA := Lib.hid ha
  clear ha
  by_cases h60 : (digs n).length ≤ 60
  · go_enter Tryd.func82, Tryd.ntmps82
    go_wp2
    go_ret
    refine ⟨⟨_, rfl, ?_⟩, rfl⟩
    rw [capD, if_pos h60]
    exact HA.out
  · go_enter Tryd.func82, Tryd.ntmps82
    go_wp2
    go_ret
    refine ⟨⟨_, rfl, ?_⟩, rfl⟩
    rw [capD, if_neg h60]
    exact own_nil _ _

theorem clone_any (a : Option Addr) (c : Nat) (xs : List Int) (w : World) (ha : IntsAt w a c xs) (hn : xs.length ≤ 1048576) :
    Calls Tryd.prog 115 #[.slice a xs.length c] w fun e w' => ∃ v, e = .returned v ∧ Own 3 w' w.heap.size v xs ∧ Below w.heap.size w w' := by
  have HA := Lib.hid ha
  clear ha
  cases a with
  | none =>
    have hx : xs = [] := by
      rcases HA.out.at_ with h | ⟨b, off, h, _⟩
      · exact h
      · cases h
    subst hx
    have he := fun w => Lib.run_eql_slice_nil (P := Tryd.prog) w 27 3 none 0 c 0 0 Tryd.underlying27
    go_enter Tryd.func115, Tryd.ntmps115
    go_wp2
    go_ret
    exact ⟨_, rfl, own_nil _ _, Below.refl _ _⟩
  | some ad =>
    have he := fun w => Lib.run_eql_slice_nil (P := Tryd.prog) w 27 3 (some ad) xs.length c 0 0 Tryd.underlying27
    go_enter Tryd.func115, Tryd.ntmps115
    go_wp2_with (at_builtin; go_must (refine append_src (own_empty w) (HA.out.below ((Below.refl _ _).alloc (Nat.le_refl _) _)) (by simp; omega) (by simp) rfl _ _ rfl rfl rfl ?_); intro v' w1 hown1 hb1 _)
    go_ret
    exact ⟨_, rfl, by simpa using hown1, ((Below.refl _ _).alloc (Nat.le_refl _) _).trans hb1⟩
end Go.Proofs.YtjklefkkdaelnaaDoor
