import Derived.Test.YtjklefkkdaelnaaDoorHelp
namespace Go.Proofs.YtjklefkkdaelnaaDoor
set_option linter.unusedVariables false
set_option linter.unusedSimpArgs false
open Go.RowKit

theorem cell_one (w : World) (v : Value) (t : TypeId) : ∀ j u, [v][j]? = some u → (w.alloc (.cells #[v] t)).cell? ((⟨w.heap.size, 0, none⟩ : Addr).add j) = some u := cell_one_new w v t

/-- append(s, x) of one int to a slice of the call's own -/
theorem append_int {ops : Array Oper} {rest : List Oper} {o : Oper} {a : Act} {Q : Exit → Act → World → Prop} {w : World} {base : Nat} {v : Value} {xs : List Int} {n : Int}
    (hown : Own 3 w base v xs) (hn : In64 n) (hl : xs.length + 1 ≤ 16777216) (hb : base ≤ w.heap.size) (hgd : o.guard = none) (s x : Operand)
    (ho : o.op = .call { callee := .builtin .append, args := #[s, x], argTypes := #[27, 27] })
    (hs : a.eval s = v) (hx : a.eval x = .slice (some ⟨w.heap.size, 0, none⟩) 1 1)
    (h : ∀ v' w', Own 3 w' base v' (xs ++ [n]) → Below base w w' → w.grownBy w' v.ownBlock → wpList Tryd.prog ops Q rest (a.put o.dst v') w') :
    wpList Tryd.prog ops Q (o :: rest) a (w.alloc (.cells #[.int .i64 n] 3)) := by
  obtain ⟨i0, hi, hz0, hz1, hz2⟩ := info_parts Tryd.infoInt
  refine wpList_append_own _ hgd s x 27 ho base 3 i0 (.int .i64 0) 1 8 Tryd.underlying27 hi hz0 hz1 hz2 rfl (by decide) v xs.length (xs.map (Value.int .i64)) hs (hown.2.alloc _)
    ⟨w.heap.size, 0, none⟩ 1 1 [.int .i64 n] hx rfl (cell_one w _ _) (by simp [Value.oneCell']) (by unfold maxLen; omega) (by omega) (by simp; omega) ?_
  intro v' w' hown' hg _
  have hg' : w.grownBy w' v.ownBlock := by
    have h0 := World.grownBy_alloc w (.cells #[.int .i64 n] 3) v.ownBlock
    exact ⟨hg.os.trans h0.os, hg.tape.trans h0.tape, hg.output.trans h0.output, Nat.le_trans h0.size hg.size, fun q hq hne => (hg.block q (Nat.lt_of_lt_of_le hq h0.size) hne).trans (h0.block q hq hne)⟩
  refine h v' w' ⟨?_, ?_⟩ ((Below.refl base w).grown hg' hb fun k hk => (hown.2.lt k hk).1) hg'
  · intro x hx; rcases List.mem_append.1 hx with hx | hx
    · exact hown.1 x hx
    · simp at hx; rw [hx]; exact hn
  · simpa using hown'

/-- append(s, t...) of ints to a slice of the call's own, t not nil -/
theorem append_src {ops : Array Oper} {rest : List Oper} {o : Oper} {a : Act} {Q : Exit → Act → World → Prop} {w : World} {base : Nat} {v : Value} {xs ys : List Int} {ad : Addr} {c : Nat}
    (hown : Own 3 w base v xs) (hy : IntsAt w (some ad) c ys) (hl : xs.length + ys.length ≤ 16777216) (hb : base ≤ w.heap.size) (hgd : o.guard = none) (s x : Operand)
    (ho : o.op = .call { callee := .builtin .append, args := #[s, x], argTypes := #[27, 27] })
    (hs : a.eval s = v) (hx : a.eval x = .slice (some ad) ys.length c)
    (h : ∀ v' w', Own 3 w' base v' (xs ++ ys) → Below base w w' → w.grownBy w' v.ownBlock → wpList Tryd.prog ops Q rest (a.put o.dst v') w') :
    wpList Tryd.prog ops Q (o :: rest) a w := by
  obtain ⟨i0, hi, hz0, hz1, hz2⟩ := info_parts Tryd.infoInt
  have hc : ∀ j u, (ys.map (Value.int .i64))[j]? = some u → w.cell? (ad.add j) = some u := by
    intro j u hu
    rcases hy.at_ with rfl | ⟨b, off, e, _, hc⟩
    · simp at hu
    · cases e
      have hj : j < ys.length := by
        rcases Nat.lt_or_ge j ys.length with h | h
        · exact h
        · simp [h] at hu
      rw [← hu, Go.WideShapes.add_plain, hc j hj]
      simp [hj]
  refine wpList_append_own _ hgd s x 27 ho base 3 i0 (.int .i64 0) 1 8 Tryd.underlying27 hi hz0 hz1 hz2 rfl (by decide) v xs.length (xs.map (Value.int .i64)) hs hown.2
    ad ys.length c (ys.map (Value.int .i64)) hx (by simp) hc (by intro u hu; obtain ⟨n, _, rfl⟩ := List.mem_map.1 hu; rfl) (by unfold maxLen; omega) (by omega) hb ?_
  intro v' w' hown' hg _
  refine h v' w' ⟨fun x hx => ?_, by simpa using hown'⟩ ((Below.refl base w).grown hg hb fun k hk => (hown.2.lt k hk).1) hg
  rcases List.mem_append.1 hx with hx | hx
  · exact hown.1 x hx
  · exact hy.fit x hx

/-- append(s, t...) where t is nil -/
theorem append_none {ops : Array Oper} {rest : List Oper} {o : Oper} {a : Act} {Q : Exit → Act → World → Prop} {w : World} {base : Nat} {v : Value} {xs : List Int}
    (hown : Own 3 w base v xs) (hgd : o.guard = none) (s x : Operand)
    (ho : o.op = .call { callee := .builtin .append, args := #[s, x], argTypes := #[27, 27] })
    (hs : a.eval s = v) (hx : a.eval x = .slice none 0 0) (h : wpList Tryd.prog ops Q rest (a.put o.dst v) w) : wpList Tryd.prog ops Q (o :: rest) a w := by
  obtain ⟨i0, hi, hz0, hz1, hz2⟩ := info_parts Tryd.infoInt
  have hr := run_append_owned_none (P := Tryd.prog) (w := w) base 27 o.type 3 i0 1 Tryd.underlying27 hi v xs.length _ hown.2
  refine wpList_plain hgd fun K hK => ?_
  unfold Oper.wp execOp
  simp only [ho, resolve, invoke, builtin, Sem.run_bind, Sem.run_pure, Result.andThen_ok, List.map_toArray, List.map_cons, List.map_nil, hs, hx, hr]
  exact hK _ _ h

theorem own_empty (w : World) : Own 3 (w.alloc (.cells #[] 3)) w.heap.size (.slice (some ⟨w.heap.size, 0, none⟩) 0 0) [] :=
  ⟨by simp, World.ownsRow_lit (base := w.heap.size) (size := 1) (e := 3) w #[] 0 (Nat.le_refl _) (by unfold maxLen; omega) rfl⟩

theorem own_emptyB (w : World) {B : Nat} (hB : B = w.heap.size) : Own 3 (w.alloc (.cells #[] 3)) B (.slice (some ⟨B, 0, none⟩) 0 0) [] := by subst hB; exact own_empty w

theorem own_nil (w : World) (base : Nat) : Own 3 w base (.slice none 0 0) [] := ⟨by simp, World.ownsRow_nil w base _ _⟩
end Go.Proofs.YtjklefkkdaelnaaDoor
