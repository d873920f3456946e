/-
  Ways that meet again inside a region; lists of values in the ghost heap. No statement is proved here.
-/
import Derived.Test.YtdpkioffihebnaaLibI
namespace Go.Proofs.Ytdpkioffihebnaa
open Go Go.RowKit
set_option linter.unusedVariables false

theorem wp_mono2 {P : Program} {o : Oper} {a : Act} {w : World} {K K' : Act → World → Prop} {Q Q' : Exit → Act → World → Prop} (h : ∀ a w, K a w → K' a w) (hq : ∀ e a w, e ≠ .normal → Q e a w → Q' e a w)
    (hh : o.wp P a w K Q) : o.wp P a w K' Q' := by
  unfold Oper.wp at *
  generalize (execOp a.eval o).run P w = r at *
  cases r with
  | ok n w' =>
    cases n <;> simp only [Oper.upon] at hh ⊢ <;>
      first
        | exact h _ _ hh
        | exact Calls.mono hh (fun e w'' he => by
            cases e
            · exact h _ _ he
            · exact hq _ _ _ (fun e => by cases e) he
            · obtain ⟨b, w2, hb⟩ := he
              exact ⟨b, w2, hq _ _ _ (fun e => by cases e) hb⟩)
        | exact Rows.mono hh (fun _ _ he => h _ _ he)
  | halt x w' =>
    cases x <;> simp only [Oper.upon] at hh ⊢
    · exact hq _ _ _ (fun e => by cases e) hh
    all_goals exact hh
theorem wpList_cut {P : Program} {ops : Array Oper} {Q Q' : Exit → Act → World → Prop} (hq : ∀ e a w, e ≠ .normal → Q e a w → Q' e a w) {ys : List Oper} (hn : ∀ a w, Q .normal a w → wpList P ops Q' ys a w) :
    ∀ (xs : List Oper) (a : Act) (w : World), wpList P ops Q xs a w → wpList P ops Q' (xs ++ ys) a w
  | [], a, w, h => hn a w h
  | o :: xs, a, w, h => by
    rw [List.cons_append]
    unfold wpList at h ⊢
    by_cases hw : Region.wanted o (yielded ops a.tmps)
    · rw [if_pos hw] at h ⊢
      rcases h with h | ⟨h1, b, w2, h2⟩
      · exact .inl (wp_mono2 (fun a w => wpList_cut hq hn xs a w) hq h)
      · exact .inr ⟨h1, b, w2, hq _ _ _ (fun e => by cases e) h2⟩
    · rw [if_neg hw] at h ⊢
      exact wpList_cut hq hn xs _ _ h

section
variable {P : Program} {n : Nat} {Q : Post} {L : Env} {w : World} {ops rest : List Oper}
/-- the first operations alone, and what holds behind them -/
theorem RW.cut {σ : Type} (k : Nat) (E : σ → Env) (S : σ → World → Prop) (hx : RW P n ops (joinQ E S Q) L w (rest.take k)) (hy : ∀ s w, S s w → RW P n ops Q (E s) w (rest.drop k)) : RW P n ops Q L w rest := by
  intro a ha
  have h := wpList_cut (P := P) (ops := ops.toArray) (Q := QL n (joinQ E S Q)) (Q' := QL n Q) (ys := rest.drop k) ?_ ?_ (rest.take k) a w (hx a ha)
  · rwa [List.take_append_drop] at h
  · rintro e a w he ⟨M, hM, q⟩
    refine ⟨M, hM, ?_⟩
    cases e with
    | normal => exact absurd rfl he
    | _ => exact q
  · rintro a w ⟨M, hM, s, h1, h2⟩
    exact (hy s w h2).has h1 a hM
/-- ways that meet again at a region's end -/
theorem RW.meet {σ : Type} {z : Code} (E : σ → Env) (S : σ → World → Prop) (hx : RW P n ops (joinQ E S Q) L w rest) (hy : ∀ s w, S s w → CW P n Q z (E s) w) : RW P n ops (thenQ P n z Q) L w rest := by
  intro a ha
  have h := wpList_cut (P := P) (ops := ops.toArray) (Q := QL n (joinQ E S Q)) (Q' := QL n (thenQ P n z Q)) (ys := []) ?_ ?_ rest a w (hx a ha)
  · rwa [List.append_nil] at h
  · rintro e a w he ⟨M, hM, q⟩
    refine ⟨M, hM, ?_⟩
    cases e with
    | normal => exact absurd rfl he
    | _ => exact q
  · rintro a w ⟨M, hM, s, h1, h2⟩
    exact wpList_nil ⟨M, hM, (hy s w h2).has h1⟩
end

/-! ## Lists, one by one -/
def AllAt {α : Type} (R : Value → α → Prop) : List Value → List α → Prop
  | [], [] => True
  | u :: us, x :: xs => R u x ∧ AllAt R us xs
  | _, _ => False
section
variable {α : Type} {R R' : Value → α → Prop}
theorem AllAt.length : ∀ {us : List Value} {xs : List α}, AllAt R us xs → us.length = xs.length
  | [], [], _ => rfl
  | [], _ :: _, h => h.elim
  | _ :: _, [], h => h.elim
  | u :: us, x :: xs, h => by simp [AllAt.length h.2]
theorem AllAt.mono (hr : ∀ u x, R u x → R' u x) : ∀ {us : List Value} {xs : List α}, AllAt R us xs → AllAt R' us xs
  | [], [], _ => trivial
  | [], _ :: _, h => h.elim
  | _ :: _, [], h => h.elim
  | u :: us, x :: xs, h => ⟨hr _ _ h.1, AllAt.mono hr h.2⟩
theorem AllAt.append : ∀ {us vs : List Value} {xs ys : List α}, AllAt R us xs → AllAt R vs ys → AllAt R (us ++ vs) (xs ++ ys)
  | [], _, [], _, _, h => h
  | [], _, _ :: _, _, h, _ => h.elim
  | _ :: _, _, [], _, h, _ => h.elim
  | u :: us, vs, x :: xs, ys, h, h' => ⟨h.1, AllAt.append h.2 h'⟩
theorem AllAt.get : ∀ {us : List Value} {xs : List α} (d : α) (j : Nat), AllAt R us xs → j < xs.length → ∃ u, us[j]? = some u ∧ R u (xs.getD j d)
  | [], [], _, _, _, h => by simp at h
  | [], _ :: _, _, _, h, _ => h.elim
  | _ :: _, [], _, _, h, _ => h.elim
  | u :: us, x :: xs, d, 0, h, _ => ⟨u, rfl, by simpa using h.1⟩
  | u :: us, x :: xs, d, j + 1, h, hj => by simpa using AllAt.get d j h.2 (by simpa using hj)
theorem AllAt.cells (hr : ∀ u x, R u x → u.oneCell' = true) : ∀ {us : List Value} {xs : List α}, AllAt R us xs → ∀ u ∈ us, u.oneCell' = true
  | [], [], _, u, hu => by cases hu
  | [], _ :: _, h, _, _ => h.elim
  | _ :: _, [], h, _, _ => h.elim
  | u :: us, x :: xs, h, v, hv => by
    rcases List.mem_cons.1 hv with rfl | hv
    · exact hr _ _ h.1
    · exact AllAt.cells hr h.2 v hv
end
/-- v is a slice of slices of ints -/
def ListsAt (h : GHeap) (v : Value) (ls : List (List Int)) : Prop := ∃ ad cp us, v = .slice ad ls.length cp ∧ Sl h 1 ad ls.length cp us ∧ AllAt (IntsAt h) us ls
theorem ListsAt.mono {h h' : GHeap} {v : Value} {ls : List (List Int)} (hl : GLe h h') (hi : ListsAt h v ls) : ListsAt h' v ls :=
  let ⟨a, c, us, e, s, r⟩ := hi; ⟨a, c, us, e, s.mono hl, r.mono fun _ _ => IntsAt.mono hl⟩
end Go.Proofs.Ytdpkioffihebnaa
