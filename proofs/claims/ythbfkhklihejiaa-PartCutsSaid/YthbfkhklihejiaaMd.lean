/-
  Own texts of the claim, merged: Kf, Kg, Kh, Oa, On, Ob, Fc, Fd, Io, Oc, Qa, Qb, Qc, Qd. Lemmas of the proof; no statement is proved here.
-/
import Derived.Test.YthbfkhklihejiaaMc
/-
  Contracts of the document's answer of layer 8: items again and again, turned, behind each other; a number brought between two. No statement is proved here.
-/
namespace Go.Proofs.Ythbfkhklihejiaa
open Go Go.RowKit
set_option linter.unusedVariables false
set_option linter.unusedSimpArgs false
set_option maxHeartbeats 4000000
attribute [local irreducible] CW RW QW SW HW ConM retM heldQ calmQ elemP thenQ blockQ loopQ joinQ retQ Yields Con Sl zF magR unitF truncF fwF wholeF tidySpec elemQ rankF leastN tidyW
set_option maxHeartbeats 4000000

theorem turnL_getD {n j : Nat} (h : j < n) : (turnL n).getD j 0 = ((n - 1 - j : Nat) : Int) := by simp [turnL, List.getD_eq_getElem?_getD, h]
theorem againL_getD {n m j : Nat} (h : j < n) : (againL n m).getD j 0 = againI m j := by simp [againL, List.getD_eq_getElem?_getD, h]
def intoI (n a b : Int) : Int := if n < a then a else if b < n then b else n
theorem refInto_con (n a b : Int) (w : World) (h : GHeap) : Con Try.prog 82 [.int .i64 n, .int .i64 a, .int .i64 b] w h (fun _ u => u = .int .i64 (intoI n a b)) := by
  refine Con.of_body Try.func82 rfl Try.ntmps82 rfl rfl ?_
  intro hs
  unfold intoI
  by_cases c1 : n < a
  · rw [if_pos c1]
    refine Zerun ?_
    exact retQ_ret [_] h ⟨rfl, trivial⟩ hs rfl
  rw [if_neg c1]
  by_cases c2 : b < n
  · rw [if_pos c2]
    refine Zerun ?_
    exact retQ_ret [_] h ⟨rfl, trivial⟩ hs rfl
  rw [if_neg c2]
  refine Zerun ?_
  exact retQ_ret [_] h ⟨rfl, trivial⟩ hs rfl
section
variable {γ : Type} {RC : GHeap → List Value → γ → Prop}
theorem refTurn08_con (hRC : Mono RC) (v : Value) (l : List (ItemD γ)) (w : World) (h : GHeap) (hl : RowsAt 4 (ItemAt RC h) h v l) (hm : l.length ≤ 1048576) : Con Try.prog 87 [v] w h (fun h' u => RowsAt 4 (ItemAt RC h') h' u ((turnL l.length).map fun i => atD l i noItem)) := by
  have hRI := ItemAt.mono hRC
  obtain ⟨ad, cp, xs, rfl, hS, hA⟩ := hl
  refine Con.of_body Try.func87 rfl Try.ntmps87 rfl rfl ?_
  intro hs
  refine Zerun ?_
  have hs := hs.nilRow 83 4
  refine CW.loop (fun u : Nat × Option Addr × Nat × List Value => [(0, .slice ad l.length cp), (3, .slice u.2.1 u.1 u.2.2.1), (4, .int .i64 ((l.length : Int) - 1 - u.1))]) (fun u w' => u.1 ≤ l.length ∧ AllN 4 (ItemAt RC h) u.2.2.2 (((turnL l.length).take u.1).map fun i => atD l i noItem) ∧ Sees w h h [⟨u.2.1, u.1, u.2.2.1, 83, 4, u.2.2.2⟩] w') (fun u => l.length - u.1) (0, none, 0, []) ⟨rfl, rfl, seti (by dsimp only; omega), trivial⟩ ⟨by omega, rfl, hs⟩ ?_
  rintro ⟨i, ra, rc, vs⟩ w5 ⟨hi, hAv, hs⟩
  dsimp only at hi hAv hs ⊢
  by_cases hlt : i < l.length
  · have htk := take_succ_getD (turnL l.length) i 0 (by rw [turnL_length]; exact hlt)
    rw [turnL_getD hlt] at htk
    have hlk : ((l.length : Int) - 1 - i).toNat < l.length := by omega
    obtain ⟨y, hy, hyl, hRy⟩ := hA.elem _ hlk
    have hoy := ItemAt.one _ _ _ hRy
    have hnx : AllN 4 (ItemAt RC h) (vs ++ y) (((turnL l.length).take (i + 1)).map fun i => atD l i noItem) := by
      rw [htk, List.map_append]
      refine hAv.append (AllN.one hyl ?_)
      show ItemAt RC h y (atD l ((l.length - 1 - i : Nat) : Int) noItem)
      rw [atD_in ⟨by omega, by omega⟩, ← getElem_getD l _ noItem (by omega)]
      have e : ((l.length : Int) - 1 - i).toNat = ((l.length - 1 - i : Nat) : Int).toNat := by omega
      simpa only [e] using hRy
    refine Zerun ?_
    (refine RW.lit T hs (vs := [.agg y.toArray]) (cs := y) rfl rfl rfl rfl (by simp [Value.cells, hyl]) rfl (by simp [Value.cells]) rfl rfl rfl ?_; intro b7 w7 hs)
    (refine RW.append T hs 1 rfl rfl (m := 1) (news := y) rfl rfl rfl rfl rfl rfl (hs.src0 (by simpa using hyl) hoy) (by simp) (by dsimp only; omega) (by omega) ?_; intro ad8 cp8 w8 hs; replace hs := hs.drop)
    refine Zerun ?_
    exact loopQ_round (i + 1, ad8, cp8, vs ++ y) ⟨rfl, rfl, seti (by dsimp only; omega), trivial⟩ ⟨by dsimp only; omega, hnx, hs⟩ (by dsimp only; omega)
  · obtain rfl : i = l.length := by omega
    rw [List.take_of_length_le (by rw [turnL_length]; exact Nat.le_refl _)] at hAv
    obtain ⟨h6, hle6, hs, hS6⟩ := hs.freeze
    refine Zerun ?_
    exact retQ_ret [_] h6 ⟨rfl, trivial⟩ hs.dropAll ⟨ra, rc, vs, by simp [packv, turnL_length], by simpa [turnL_length] using hS6, hAv.mono (fun u a => hRI _ _ u a hle6)⟩
end
section
variable {β : Type} {R : GHeap → List Value → β → Prop}
theorem refAgain08_con (hR : Mono R) (v : Value) (l : List (ItemD (PlainD β))) (c n : Int) (w : World) (h : GHeap) (hl : RowsAt 4 (ItemAt (PlainR R) h) h v l) (hn : n ≤ 1048576) : Con Try.prog 85 [v, .int .i64 c, .int .i64 n] w h (fun h' u => RowsAt 4 (ItemAt (PlainR R) h') h' u ((againL n.toNat l.length).map fun i => atD l i (blankI c))) := by
  have hRI := ItemAt.mono (PlainR.mono hR)
  obtain ⟨ad, cp, xs, rfl, hS, hA⟩ := hl
  have hlen : l.length ≤ 9223372036854775807 := by have := hS.caps; omega
  refine Con.of_body Try.func85 rfl Try.ntmps85 rfl rfl ?_
  intro hs
  refine Zerun ?_
  have hs := hs.nilRow 83 4
  refine CW.loop (fun u : Nat × Option Addr × Nat × List Value × GHeap => [(0, .slice ad l.length cp), (1, .int .i64 c), (2, .int .i64 n), (7, .slice u.2.1 u.1 u.2.2.1), (8, .int .i64 u.1)]) (fun u w' => u.1 ≤ n.toNat ∧ GLe h u.2.2.2.2 ∧ AllN 4 (ItemAt (PlainR R) u.2.2.2.2) u.2.2.2.1 (((againL n.toNat l.length).take u.1).map fun i => atD l i (blankI c)) ∧ Sees w h u.2.2.2.2 [⟨u.2.1, u.1, u.2.2.1, 83, 4, u.2.2.2.1⟩] w') (fun u => n.toNat - u.1) (0, none, 0, [], h) ⟨rfl, rfl, rfl, rfl, rfl, trivial⟩ ⟨by omega, GLe.refl _, rfl, hs⟩ ?_
  rintro ⟨i, ra, rc, vs, hh⟩ w5 ⟨hi, hg, hAv, hs⟩
  dsimp only at hi hg hAv hs ⊢
  have hS := hS.mono hg
  by_cases hlt : i < n.toNat
  · have htk := take_succ_getD (againL n.toNat l.length) i 0 (by rw [againL_length]; exact hlt)
    rw [againL_getD hlt] at htk
    have done : ∀ (h6 : GHeap) (cs6 : List Value) (x : ItemD (PlainD β)), GLe hh h6 → cs6.length = 4 → ItemAt (PlainR R) h6 cs6 x → x = atD l (againI l.length i) (blankI c) → AllN 4 (ItemAt (PlainR R) h6) (vs ++ cs6) (((againL n.toNat l.length).take (i + 1)).map fun i => atD l i (blankI c)) := by
      intro h6 cs6 x hle6 hl6 hi6 hx
      rw [htk, List.map_append]
      show AllN 4 _ (vs ++ cs6) (_ ++ [atD l (againI l.length i) (blankI c)])
      rw [← hx]
      exact (hAv.mono (fun u a => hRI _ _ u a hle6)).append (AllN.one hl6 hi6)
    by_cases c1 : l.length = 0
    · refine Zerun ?_
      (refine RW.call T hs rfl rfl rfl (refBlank08_con hR c _ _) ?_; intro v h6 w6 hle6 hp6 hs)
      obtain ⟨cs6, rfl, hi6⟩ := hp6
      have hl6 : cs6.length = 4 := by obtain ⟨_, rfl, _⟩ := hi6; rfl
      have ho6 := ItemAt.one _ _ _ hi6
      (refine RW.lit T hs (vs := [.agg cs6.toArray]) (cs := cs6) rfl rfl rfl rfl (by simp [Value.cells, hl6]) rfl (by simp [Value.cells]) rfl rfl rfl ?_; intro b7 w7 hs)
      (refine RW.append T hs 1 rfl rfl (m := 1) (news := cs6) rfl rfl rfl rfl rfl rfl (hs.src0 (by simpa using hl6) ho6) (by simp) (by dsimp only; omega) (by omega) ?_; intro ad8 cp8 w8 hs; replace hs := hs.drop)
      refine Zerun ?_
      exact loopQ_round (i + 1, ad8, cp8, vs ++ cs6, h6) ⟨rfl, rfl, rfl, rfl, rfl, trivial⟩ ⟨by dsimp only; omega, hg.trans hle6, done h6 cs6 _ hle6 hl6 hi6 (by unfold againI; rw [if_neg (by omega)]; rfl), hs⟩ (by dsimp only; omega)
    have hmp : 0 < l.length := by omega
    have hmod := Nat.mod_lt i hmp
    have hlk : ((i : Int) % (l.length : Int)).toNat < l.length := by omega
    obtain ⟨y, hy, hyl, hRy⟩ := hA.elem _ hlk
    have hoy := ItemAt.one _ _ _ hRy
    have hRy := hRI _ _ _ _ hg hRy
    refine Zerun ?_
    (refine RW.lit T hs (vs := [.agg y.toArray]) (cs := y) rfl rfl rfl rfl (by simp [Value.cells, hyl]) rfl (by simp [Value.cells]) rfl rfl rfl ?_; intro b7 w7 hs)
    (refine RW.append T hs 1 rfl rfl (m := 1) (news := y) rfl rfl rfl rfl rfl rfl (hs.src0 (by simpa using hyl) hoy) (by simp) (by dsimp only; omega) (by omega) ?_; intro ad8 cp8 w8 hs; replace hs := hs.drop)
    refine Zerun ?_
    have ea : againI l.length i = (i : Int) % (l.length : Int) := by unfold againI; rw [if_pos hmp]; omega
    exact loopQ_round (i + 1, ad8, cp8, vs ++ y, hh) ⟨rfl, rfl, rfl, rfl, rfl, trivial⟩ ⟨by dsimp only; omega, hg, done hh y _ (GLe.refl _) hyl hRy (by rw [ea]; exact (getElem_getD l _ _ hlk).trans (atD_in (by omega)).symm), hs⟩ (by dsimp only; omega)
  · obtain rfl : i = n.toNat := by omega
    rw [List.take_of_length_le (by rw [againL_length]; exact Nat.le_refl _)] at hAv
    obtain ⟨h6, hle6, hs, hS6⟩ := hs.freeze
    refine Zerun ?_
    exact retQ_ret [_] h6 ⟨rfl, trivial⟩ hs.dropAll ⟨ra, rc, vs, by simp [packv, againL_length], by simpa [againL_length] using hS6, hAv.mono (fun u a => hRI _ _ u a hle6)⟩
end
section
variable {γ : Type} {RC : GHeap → List Value → γ → Prop}
def joinP (c : Int) : List (PlainD γ) → Option Int
  | [] => some c
  | p :: l => if 0 < p.items.length ∧ 0 ≤ c ∧ c ≠ p.fill then none else joinP (if 0 < p.items.length then p.fill else c) l
def headF : List (PlainD γ) → Int
  | [] => 0
  | p :: _ => p.fill
theorem fmi_len' : ∀ (l : List (PlainD γ)) (i : Nat), ((l.take i).flatMap (·.items)).length ≤ (l.map (·.items.length)).sum
  | [], i => by simp
  | v :: l, 0 => by simp
  | v :: l, i + 1 => by
    have := fmi_len' l i
    simp only [List.take_succ_cons, List.map_cons, List.sum_cons, List.flatMap_cons, List.length_append]
    omega
theorem refJoin08_con (hRC : Mono RC) (s : Value) (l : List (PlainD γ)) (w : World) (h : GHeap) (hl : RowsAt 3 (PlainR RC h) h s l) (hm : (l.map (·.items.length)).sum ≤ 1048576) (hf : ∀ p ∈ l, 0 ≤ p.fill) : Con Try.prog 73 [s] w h (fun h' u => ∃ s' cl, u = .tuple #[s', .int .i64 cl] ∧ (joinP (-1) l = none → cl = -1) ∧ ∀ c, joinP (-1) l = some c → cl = (if 0 ≤ c then c else headF l) ∧ RowsAt 4 (ItemAt RC h') h' s' (l.flatMap (·.items))) := by
  have hRI := ItemAt.mono hRC
  obtain ⟨ad, cp, xs, rfl, hS, hA⟩ := hl
  have hlen : l.length ≤ 9223372036854775807 := by have := hS.caps; omega
  refine Con.of_body Try.func73 rfl Try.ntmps73 rfl rfl ?_
  intro hs
  refine Zerun ?_
  have hs := hs.nilRow 83 4
  refine CW.loop (fun u : Nat × Int × (Option Addr × Nat × Nat) × List Value => [(0, .slice ad l.length cp), (4, .slice u.2.2.1.1 u.2.2.1.2.1 u.2.2.1.2.2), (5, .int .i64 u.2.1), (6, .int .i64 u.1)]) (fun u w' => u.1 ≤ l.length ∧ AllN 4 (ItemAt RC h) u.2.2.2 ((l.take u.1).flatMap (·.items)) ∧ u.2.2.1.2.1 = ((l.take u.1).flatMap (·.items)).length ∧ joinP (-1) l = joinP u.2.1 (l.drop u.1) ∧ -1 ≤ u.2.1 ∧ Sees w h h [⟨u.2.2.1.1, u.2.2.1.2.1, u.2.2.1.2.2, 83, 4, u.2.2.2⟩] w') (fun u => l.length - u.1) (0, -1, (none, 0, 0), []) ⟨rfl, rfl, rfl, rfl, trivial⟩ ⟨by omega, rfl, rfl, rfl, by dsimp only; omega, hs⟩ ?_
  rintro ⟨i, c, ⟨ra, rn, rc⟩, vs⟩ w5 ⟨hi, hAv, hn, hJ, hcm, hs⟩
  dsimp only at hi hAv hn hJ hcm hs ⊢
  by_cases hlt : i < l.length
  · obtain ⟨y, hy, hyl, hRy⟩ := hA.elem _ hlt
    have htk := fm_take_succ (·.items) l i hlt
    have hlen2 := fmi_len' l (i + 1)
    have hd := List.drop_eq_getElem_cons hlt
    rw [hd] at hJ
    have hf0 := hf _ (List.getElem_mem hlt)
    rw [htk, List.length_append, ← hn] at hlen2
    generalize hve : l[i] = p at *
    obtain ⟨sv, it, rfl, hsh, ⟨ad2, cp2, xs2, rfl, hS2, hA2⟩⟩ := hRy
    have hx1 : xs[i * 3 + 1]? = some (.slice ad2 p.items.length cp2) := by rw [AllN.get4 hy 1 (by omega)]; rfl
    have hx2 : xs[i * 3 + 2]? = some (.int .i64 p.fill) := by rw [AllN.get4 hy 2 (by omega)]; rfl
    have ho2 := hA2.ones (ItemAt.one h)
    have hnx : AllN 4 (ItemAt RC h) (vs ++ xs2) ((l.take (i + 1)).flatMap (·.items)) := by rw [htk]; exact hAv.append hA2
    have hnn : rn + p.items.length = ((l.take (i + 1)).flatMap (·.items)).length := by rw [htk, List.length_append, hn]
    by_cases c1 : 0 < p.items.length
    · have hstep : (0 ≤ c → c = p.fill) → joinP c (p :: l.drop (i + 1)) = joinP p.fill (l.drop (i + 1)) := fun e => by
        rw [joinP, if_neg (fun e2 => e2.2.2 (e e2.2.1)), if_pos c1]
      by_cases c2 : 0 ≤ c
      · by_cases c3 : c = p.fill
        · refine Zerun ?_
          refine RW.append T hs 0 rfl rfl (m := p.items.length) (news := xs2) rfl rfl rfl rfl rfl rfl (hS2.src hs.agree ho2) (fun e => by subst e; exact hS2.nil0.2) (by dsimp only; omega) (by omega) ?_
          intro ad9 cp9 w9 hs
          refine Zerun ?_
          exact loopQ_round (i + 1, p.fill, (ad9, rn + p.items.length, cp9), vs ++ xs2) ⟨rfl, rfl, rfl, rfl, trivial⟩ ⟨by dsimp only; omega, hnx, hnn, hJ.trans (hstep (fun _ => c3)), by dsimp only; omega, hs⟩ (by dsimp only; omega)
        · refine Zerun ?_
          refine retQ_ret [_, _] h ⟨rfl, rfl, trivial⟩ hs.dropAll ⟨_, -1, rfl, fun _ => rfl, fun c' e => ?_⟩
          rw [hJ, joinP, if_pos ⟨c1, c2, c3⟩] at e
          cases e
      · refine Zerun ?_
        refine RW.append T hs 0 rfl rfl (m := p.items.length) (news := xs2) rfl rfl rfl rfl rfl rfl (hS2.src hs.agree ho2) (fun e => by subst e; exact hS2.nil0.2) (by dsimp only; omega) (by omega) ?_
        intro ad9 cp9 w9 hs
        refine Zerun ?_
        exact loopQ_round (i + 1, p.fill, (ad9, rn + p.items.length, cp9), vs ++ xs2) ⟨rfl, rfl, rfl, rfl, trivial⟩ ⟨by dsimp only; omega, hnx, hnn, hJ.trans (hstep (fun e => absurd e c2)), by dsimp only; omega, hs⟩ (by dsimp only; omega)
    · have hstep : joinP c (p :: l.drop (i + 1)) = joinP c (l.drop (i + 1)) := by rw [joinP, if_neg (fun e => c1 e.1), if_neg c1]
      refine Zerun ?_
      refine RW.append T hs 0 rfl rfl (m := p.items.length) (news := xs2) rfl rfl rfl rfl rfl rfl (hS2.src hs.agree ho2) (fun e => by subst e; exact hS2.nil0.2) (by dsimp only; omega) (by omega) ?_
      intro ad9 cp9 w9 hs
      refine Zerun ?_
      exact loopQ_round (i + 1, c, (ad9, rn + p.items.length, cp9), vs ++ xs2) ⟨rfl, rfl, rfl, rfl, trivial⟩ ⟨by dsimp only; omega, hnx, hnn, hJ.trans hstep, hcm, hs⟩ (by dsimp only; omega)
  · obtain rfl : i = l.length := by omega
    rw [List.take_length] at hAv hn
    rw [List.drop_length] at hJ
    have hJ : joinP (-1) l = some c := hJ
    subst hn
    obtain ⟨h6, hle6, hs, hS6⟩ := hs.freeze
    have hS := hS.mono hle6
    have hres : ∀ cl, cl = (if 0 ≤ c then c else headF l) → ∃ s' cl', Value.tuple #[.slice ra (l.flatMap (·.items)).length rc, .int .i64 cl] = .tuple #[s', .int .i64 cl'] ∧ (joinP (-1) l = none → cl' = -1) ∧ ∀ c, joinP (-1) l = some c → cl' = (if 0 ≤ c then c else headF l) ∧ RowsAt 4 (ItemAt RC h6) h6 s' (l.flatMap (·.items)) := by
      intro cl hcl
      refine ⟨_, cl, rfl, (fun e => by rw [hJ] at e; cases e), fun c' e => ?_⟩
      rw [hJ] at e
      cases e
      exact ⟨hcl, ra, rc, vs, rfl, hS6, hAv.mono (fun u a => hRI _ _ u a hle6)⟩
    by_cases c1 : 0 ≤ c
    · refine Zerun ?_
      exact retQ_ret [_, _] h6 ⟨rfl, rfl, trivial⟩ hs.dropAll (hres c (by rw [if_pos c1]))
    · rw [if_neg c1] at hres
      by_cases c2 : 0 < l.length
      · obtain ⟨y, hy, hyl, hRy⟩ := hA.elem 0 c2
        have hf0 := hf _ (List.getElem_mem c2)
        have hhd : headF l = l[0].fill := by cases l with | nil => cases c2 | cons a l => rfl
        generalize hve : l[0] = p at *
        obtain ⟨sv, it, rfl, hsh, ⟨ad2, cp2, xs2, rfl, hS2, hA2⟩⟩ := hRy
        have hx2 : xs[0 * 3 + 2]? = some (.int .i64 p.fill) := by rw [AllN.get4 hy 2 (by omega)]; rfl
        refine Zerun ?_
        exact retQ_ret [_, _] h6 ⟨rfl, rfl, trivial⟩ hs.dropAll (hres p.fill hhd.symm)
      · have hhd : headF l = 0 := by cases l with | nil => rfl | cons a l => exact absurd (Nat.succ_pos _) c2
        refine Zerun ?_
        exact retQ_ret [_, _] h6 ⟨rfl, rfl, trivial⟩ hs.dropAll (hres 0 hhd.symm)
end
end Go.Proofs.Ythbfkhklihejiaa

/-
  Contracts of the document's answer and of the laws: how many items a good plain array has. No statement is proved here.
-/
namespace Go.Proofs.Ythbfkhklihejiaa
open Go Go.RowKit
set_option linter.unusedVariables false
set_option linter.unusedSimpArgs false
set_option maxHeartbeats 4000000
attribute [local irreducible] CW RW QW SW HW ConM retM heldQ calmQ elemP thenQ blockQ loopQ joinQ retQ Yields Con Sl zF magR unitF truncF fwF wholeF tidySpec elemQ rankF leastN tidyW
set_option maxHeartbeats 4000000

section
variable {α : Type} {R : GHeap → List Value → α → Prop}
theorem refCountB_step (hR : Mono R) (most : Int) (ih : ∀ cs a w h, R h cs a → Con Try.prog 40 [.agg cs.toArray, .int .i64 most] w h (fun _ u => ∃ r, u = .int .i64 r))
    (cs : List Value) (p : PlainD α) (w : World) (h : GHeap) (hp : PlainR R h cs p) : Con Try.prog 40 [.agg cs.toArray, .int .i64 most] w h (fun _ u => ∃ r, u = .int .i64 r ∧ (p.shape.length ≤ 8 → p.items.length ≤ 1048576 → r ≤ most → (p.items.length : Int) + p.shape.length + 1 ≤ most)) := by
  obtain ⟨s, it, rfl, ⟨ad, cp, rfl, hS⟩, ⟨ad2, cp2, xs, rfl, hS2, hA⟩⟩ := hp
  have hlen : p.items.length ≤ 9223372036854775807 := by have := hS2.caps; omega
  refine Con.of_body Try.func40 rfl Try.ntmps40 rfl rfl ?_
  intro hs
  refine Zrun ?_
  (refine RW.boxN hs rfl rfl ?_; intro b1 w1 hs)
  refine Zerun ?_
  refine RW.val (Y.add' rfl rfl) rfl ?_
  refine RW.val (Y.add' rfl rfl) rfl ?_
  have hr0' : p.shape.length ≤ 8 → p.items.length ≤ 1048576 → IntKind.i64.wrap (IntKind.i64.wrap ((p.items.length : Int) + p.shape.length) + 1) = (p.items.length : Int) + p.shape.length + 1 := by
    intro h1 h2
    have e1 : IntKind.i64.wrap ((p.items.length : Int) + p.shape.length) = (p.items.length : Int) + p.shape.length := wrap64 (by omega)
    rw [e1, wrap64 (by omega)]
  generalize IntKind.i64.wrap (IntKind.i64.wrap _ + 1) = r0 at hr0' ⊢
  refine Zerun ?_
  refine CW.loop (fun q : Nat × Int × GHeap => [(1, .int .i64 most), (2, .pointer (some ⟨b1, 0, none⟩)), (5, .int .i64 q.2.1), (6, .int .i64 q.1)]) (fun q w' => q.1 ≤ p.items.length ∧ GLe h q.2.2 ∧ (most < r0 → q.2.1 = r0) ∧ Sees w h q.2.2 [⟨some ⟨b1, 0, none⟩, 1, 1, 50, 3, [.slice ad p.shape.length cp, .slice ad2 p.items.length cp2, .int .i64 p.fill]⟩] w') (fun q => p.items.length - q.1) (0, r0, h) ⟨rfl, rfl, rfl, rfl, trivial⟩ ⟨by omega, GLe.refl _, fun _ => rfl, hs⟩ ?_
  rintro ⟨i, r, hh⟩ w2 ⟨hi, hg, hr, hs⟩
  dsimp only at hi hg hr hs ⊢
  have hS2 := hS2.mono hg
  by_cases hlt : i < p.items.length
  · obtain ⟨bx, hx4, hx1, ⟨ad3, cp3, ys, rfl, hS3, hA3⟩, hx2, hq0, hq1, hq2, hq3⟩ := ItemAt.cells hA i hlt
    have hS3 := hS3.mono hg
    generalize p.items.getD i noItem = x at *
    by_cases hle : r ≤ most
    · refine Zerun ?_
      refine CW.loop (fun q : Nat × Int × GHeap => [(1, .int .i64 most), (2, .pointer (some ⟨b1, 0, none⟩)), (5, .int .i64 q.2.1), (6, .int .i64 i), (7, .int .i64 q.1)]) (fun q w' => q.1 ≤ x.box.length ∧ GLe hh q.2.2 ∧ Sees w h q.2.2 [⟨some ⟨b1, 0, none⟩, 1, 1, 50, 3, [.slice ad p.shape.length cp, .slice ad2 p.items.length cp2, .int .i64 p.fill]⟩] w') (fun q => x.box.length - q.1) (0, r, hh) ⟨rfl, rfl, rfl, rfl, rfl, trivial⟩ ⟨by omega, GLe.refl _, hs⟩ ?_
      rintro ⟨j, r2, h3⟩ w3 ⟨hj, hg3, hs⟩
      dsimp only at hj hg3 hs ⊢
      have hS2 := hS2.mono hg3
      have hS3 := hS3.mono hg3
      have hbl : x.box.length ≤ 9223372036854775807 := by have := hS3.caps; omega
      by_cases hlt3 : j < x.box.length
      · by_cases hle3 : r2 ≤ most
        · obtain ⟨y, hy, hR3, hR3l⟩ : ∃ y, (ys.drop (j * 3)).take 3 = y ∧ (∃ a, R h y a) ∧ y.length = 3 := by
            obtain ⟨h1, h2⟩ := hA3.get (x.box[j]) j hlt3
            exact ⟨_, rfl, ⟨_, h1⟩, h2⟩
          obtain ⟨a, hRa⟩ := hR3
          have hRa := hR _ _ _ _ (hg.trans hg3) hRa
          refine Zerun ?_
          (refine RW.call T hs rfl rfl rfl (ih _ a _ _ hRa) ?_; intro v h4 w4 hle4 hp4 hs)
          obtain ⟨r4, rfl⟩ := hp4
          refine RW.val (Y.add' rfl rfl) rfl ?_
          generalize IntKind.i64.wrap (r2 + r4) = r5
          refine Zerun ?_
          exact loopQ_round (j + 1, r5, h4) ⟨rfl, rfl, rfl, rfl, rfl, trivial⟩ ⟨by dsimp only; omega, hg3.trans hle4, hs⟩ (by dsimp only; omega)
        · refine Zerun ?_
          exact loopQ_round (i + 1, r2, h3) ⟨rfl, rfl, rfl, rfl, trivial⟩ ⟨by dsimp only; omega, hg.trans hg3, fun e => by have := hr e; omega, hs⟩ (by dsimp only; omega)
      · refine Zerun ?_
        exact loopQ_round (i + 1, r2, h3) ⟨rfl, rfl, rfl, rfl, trivial⟩ ⟨by dsimp only; omega, hg.trans hg3, fun e => by have := hr e; omega, hs⟩ (by dsimp only; omega)
    · refine Zerun ?_
      exact retQ_ret [_] hh ⟨rfl, trivial⟩ hs.dropAll ⟨_, rfl, fun h1 h2 h3 => by have e := hr0' h1 h2; by_cases c : most < r0; have := hr c; omega; omega⟩
  · refine Zerun ?_
    exact retQ_ret [_] hh ⟨rfl, trivial⟩ hs.dropAll ⟨_, rfl, fun h1 h2 h3 => by have e := hr0' h1 h2; by_cases c : most < r0; have := hr c; omega; omega⟩
end
theorem refCountB_con (most : Int) (k : Nat) (cs : List Value) (p : PD (k + 1)) (w : World) (h : GHeap) (hp : PlainAt (k + 1) h cs p) : Con Try.prog 40 [.agg cs.toArray, .int .i64 most] w h (fun _ u => ∃ r, u = .int .i64 r ∧ (chk (k + 1) 40 p = 0 → r ≤ most → (PlainD.items (α := PD k) p).length ≤ most)) := by
  have := refCountB_step (PlainAt.mono k) most (refCount_con most k) cs p w h hp
  refine this.mono ?_
  rintro h' u _ ⟨r, rfl, hr⟩
  refine ⟨r, rfl, fun hc hle => ?_⟩
  obtain ⟨_, _, _, hpr, hok⟩ := (chkP_ok (α := PD k) _ _ _).1 hc
  have h1 : (PlainD.shape (α := PD k) p).length ≤ 8 := by
    by_cases c : 8 < (PlainD.shape (α := PD k) p).length
    · unfold product at hpr
      rw [if_pos c] at hpr
      exact absurd (congrArg Prod.snd hpr) (show (26 : Int) ≠ 0 by decide)
    · omega
  have h2 := (good_sml (k + 1) 40 _ (good_arr (k + 1) 40 p hc)).2.1
  have h3 : (ArrD.vec (α := AD k) (arr (k + 1) p)).len = (PlainD.items (α := PD k) p).length := len_arrV (arr k) _ _ _ hok
  have := hr h1 (by omega) hle
  omega
theorem good08B_con (k : Nat) (cs : List Value) (p : PD (k + 1)) (w : World) (h : GHeap) (hp : PlainAt (k + 1) h cs p) : Con Try.prog 63 [.agg cs.toArray] w h (fun _ u => ∃ b, u = .bool b ∧ (b = true → chk (k + 1) 40 p = 0 ∧ (PlainD.items (α := PD k) p).length ≤ 3000)) := by
  have hp' := hp
  obtain ⟨s, it, rfl, _⟩ := hp
  refine Con.of_body Try.func63 rfl Try.ntmps63 rfl rfl ?_
  intro hs
  refine Zrun ?_
  (refine RW.boxN hs rfl rfl ?_; intro b1 w1 hs)
  refine Zerun ?_
  (refine RW.call T hs rfl rfl rfl (refCountB_con 3000 k _ p _ _ hp') ?_; intro v h2 w2 hle2 hp2 hs)
  obtain ⟨r, rfl, hr⟩ := hp2
  by_cases c1 : r ≤ 2000
  · refine Zerun ?_
    (refine RW.call T hs rfl rfl rfl (refCheck_con (k + 1) _ p _ _ (PlainAt.mono (k + 1) _ _ _ _ hle2 hp')) ?_; intro v h3 w3 hle3 hp3 hs)
    subst hp3
    refine Zerun ?_
    refine retQ_ret [_] h3 ⟨rfl, trivial⟩ hs.dropAll ⟨_, rfl, fun e => ?_⟩
    have hc := of_decide_eq_true e
    have := hr hc (by omega)
    exact ⟨hc, by omega⟩
  · refine Zerun ?_
    exact retQ_ret [_] h2 ⟨rfl, trivial⟩ hs.dropAll ⟨_, rfl, fun e => by cases e⟩
end Go.Proofs.Ythbfkhklihejiaa

/-
  Plain facts on lists of elements picked, cut, turned and put behind each other, and what they show. No statement is proved here.
-/
namespace Go.Proofs.Ythbfkhklihejiaa
open Go Go.RowKit
set_option linter.unusedVariables false
set_option linter.unusedSimpArgs false
set_option maxHeartbeats 4000000
attribute [local irreducible] CW RW QW SW HW ConM retM heldQ calmQ elemP thenQ blockQ loopQ joinQ retQ Yields Con Sl zF magR unitF truncF fwF wholeF tidySpec elemQ rankF leastN tidyW
set_option maxHeartbeats 4000000

structure Shown (k : Nat) (v : VecD (AD k)) (l : List (ItemD (PD k))) (c : Int) : Prop where
  hc : v.cls = c
  k0 : v.kind ≠ 0
  kl : v.kind = v.least
  vm : v.len ≤ 1048576
  sm : ∀ b ∈ v.boxes, sml k b
  he : itemsV (plain k) v = l
  td : ∀ x ∈ l, tdyIt (tdy k) x
theorem shown_of (k : Nat) (p : PD (k + 2)) (h : GHeap) (cs : List Value) (hp : PlainAt (k + 2) h cs p) (hc : chk (k + 2) 40 p = 0) : Shown (k + 1) (ArrD.vec (α := AD (k + 1)) (arr (k + 2) p)) (PlainD.items (α := PD (k + 1)) (tidy (k + 2) p)) (PlainD.fill (α := PD (k + 1)) p) := by
  have hgood := good_arr (k + 2) 40 p hc
  have hsml := good_sml (k + 2) 40 _ hgood
  refine ⟨?_, hgood.2.1, hgood.2.2.1, hsml.2.1, hsml.2.2, congrArg (PlainD.items (α := PD (k + 1))) (plain_arr (k + 2) 40 p hc), tidy_tdy (k + 2) 40 p _ _ hp hc⟩
  obtain ⟨_, h2, h3, _, _⟩ := (chkP_ok (α := PD (k + 1)) _ _ _).1 hc
  exact cls_arrV (arr (k + 1)) _ _ h2 h3
theorem Shown.pick {k : Nat} {v : VecD (AD (k + 1))} {L : List (ItemD (PD (k + 1)))} {c : Int} (H : Shown (k + 1) v L c) (at_ : List Int) (hm : at_.length ≤ 1048576) : Shown (k + 1) (v.pick at_ (blankA k)) (at_.map fun i => atD L i (blankI c : ItemD (PlainD (PD k)))) c := by
  have hpf := pick_facts v at_ (blankA k)
  refine ⟨by rw [pick_cls, H.hc], hpf.1, hpf.2.1, by rw [hpf.2.2.1]; exact hm, ?_, pick_items' (β := PD k) (plain (k + 1)) _ at_ (blankA k) _ _ H.he H.hc rfl, ?_⟩
  · intro b hb
    rcases hpf.2.2.2 b hb with e | e
    · exact H.sm b e
    · rw [e]; exact blankA_sml k
  · intro x hx
    obtain ⟨i, _, rfl⟩ := List.mem_map.1 hx
    rcases atD_mem L i (blankI c : ItemD (PlainD (PD k))) with e | e
    · exact H.td _ e
    · rw [e]; exact blankI_tdy k _
theorem span_items {γ : Type} (L : List γ) (f t_ : Nat) (hf : f ≤ t_) (ht : t_ ≤ L.length) (d : γ) : (spanL f t_).map (fun i => atD L i d) = (L.drop f).take (t_ - f) := by
  apply List.ext_getElem?
  intro j
  simp only [spanL, List.map_map, List.getElem?_map, List.getElem?_take, List.getElem?_drop]
  by_cases c : j < t_ - f
  · rw [List.getElem?_range c, if_pos c]
    simp only [Option.map_some, Function.comp]
    rw [atD_in ⟨by omega, by omega⟩, Int.toNat_natCast]
    have : f + j < L.length := by omega
    simp [List.getD_eq_getElem?_getD, this]
  · rw [if_neg c]
    simp [c]
theorem turn_items {γ : Type} (L : List γ) (d : γ) : (turnL L.length).map (fun i => atD L i d) = L.reverse := by
  apply List.ext_getElem?
  intro j
  simp only [turnL, List.map_map, List.getElem?_map]
  by_cases c : j < L.length
  · rw [List.getElem?_range c, List.getElem?_reverse c]
    simp only [Option.map_some, Function.comp]
    rw [atD_in ⟨by omega, by omega⟩, Int.toNat_natCast]
    have : L.length - 1 - j < L.length := by omega
    simp [List.getD_eq_getElem?_getD, this]
  · simp [c]
section
variable {α β : Type}
theorem len0 {v : VecD α} (h : v.len = 0) : v.nums = [] ∧ v.chars = [] ∧ v.boxes = [] := by
  unfold VecD.len at h
  exact ⟨List.eq_nil_of_length_eq_zero (by omega), List.eq_nil_of_length_eq_zero (by omega), List.eq_nil_of_length_eq_zero (by omega)⟩
theorem itemsV_len0 (f : α → β) {v : VecD α} (h : v.len = 0) : itemsV f v = [] := by
  obtain ⟨h1, h2, h3⟩ := len0 h
  unfold itemsV
  rw [h1, h2, h3]
  split <;> (try split) <;> rfl
theorem flatMap_map' {γ δ ε : Type} (g : δ → ε) (f : γ → List δ) : ∀ l : List γ, (l.flatMap f).map g = l.flatMap fun x => (f x).map g
  | [] => rfl
  | a :: l => by rw [List.flatMap_cons, List.map_append, flatMap_map' g f l, List.flatMap_cons]
theorem flatMap_eq {γ δ : Type} {f g : γ → List δ} : ∀ {l : List γ}, (∀ x ∈ l, f x = g x) → l.flatMap f = l.flatMap g
  | [], _ => rfl
  | a :: l, h => by rw [List.flatMap_cons, List.flatMap_cons, h a (by simp), flatMap_eq (fun x hx => h x (List.mem_cons_of_mem _ hx))]
theorem joinS_cls {c : Int} (hc : c = 0 ∨ c = 1 ∨ c = 2) (l : List (VecD α)) : (joinS c l).cls = c := by
  unfold joinS VecD.cls
  rcases hc with rfl | rfl | rfl
  · have := leastN_bounds (l.flatMap (·.nums))
    rw [if_neg (show ¬ (0 : Int) = 1 by decide), if_neg (show ¬ (0 : Int) = 2 by decide)]
    dsimp only
    rw [if_neg (by omega), if_neg (by omega)]
  · rfl
  · rfl
theorem itemsV_join (f : α → β) {c : Int} {l : List (VecD α)} (hc : c = 0 ∨ c = 1 ∨ c = 2) (h : ∀ v ∈ l, v.len ≠ 0 → v.cls = c) : itemsV f (joinS c l) = l.flatMap (itemsV f) := by
  have hcl := joinS_cls hc l
  rcases hc with rfl | rfl | rfl
  · rw [itemsV_c0 f hcl]
    show (l.flatMap (·.nums)).map _ = _
    rw [flatMap_map']
    apply flatMap_eq
    intro v hv
    by_cases e : v.len = 0
    · rw [itemsV_len0 f e, (len0 e).1]; rfl
    · rw [itemsV_c0 f (h v hv e)]
  · rw [itemsV_c1 f hcl]
    show (l.flatMap (·.chars)).map _ = _
    rw [flatMap_map']
    apply flatMap_eq
    intro v hv
    by_cases e : v.len = 0
    · rw [itemsV_len0 f e, (len0 e).2.1]; rfl
    · rw [itemsV_c1 f (h v hv e)]
  · rw [itemsV_c2 f hcl]
    show (l.flatMap (·.boxes)).map _ = _
    rw [flatMap_map']
    apply flatMap_eq
    intro v hv
    by_cases e : v.len = 0
    · rw [itemsV_len0 f e, (len0 e).2.2]; rfl
    · rw [itemsV_c2 f (h v hv e)]
theorem joinS_len (c : Int) (l : List (VecD α)) : (joinS c l).len ≤ (l.map VecD.len).sum := by
  unfold joinS
  split
  · have := fm_len (f := fun v : VecD α => v.chars) (fun v => by unfold VecD.len; omega) l
    simpa [VecD.len] using this
  · split
    · have := fm_len (f := fun v : VecD α => v.boxes) (fun v => by unfold VecD.len; omega) l
      simpa [VecD.len] using this
    · have := fm_len (f := fun v : VecD α => v.nums) (fun v => by unfold VecD.len; omega) l
      simpa [VecD.len] using this
theorem joinS_boxes {c : Int} {l : List (VecD α)} {b : α} (h : b ∈ (joinS c l).boxes) : ∃ v ∈ l, b ∈ v.boxes := by
  unfold joinS at h
  split at h
  · cases h
  · split at h
    · exact List.mem_flatMap.1 h
    · cases h
theorem joinS_kind (c : Int) (hc : c = 0 ∨ c = 1 ∨ c = 2) (l : List (VecD α)) : (joinS c l).kind ≠ 0 ∧ (joinS c l).kind = (joinS c l).least := by
  have hcl := joinS_cls hc l
  unfold VecD.least
  rw [hcl]
  rcases hc with rfl | rfl | rfl
  · have := leastN_bounds (l.flatMap (·.nums))
    have hk : (joinS 0 l).kind = leastN (l.flatMap (·.nums)) := rfl
    have hn : (joinS 0 l).nums = l.flatMap (·.nums) := rfl
    rw [hk, hn]
    exact ⟨by omega, by rw [if_pos ⟨rfl, by omega⟩]⟩
  · exact ⟨show (5 : Int) ≠ 0 by decide, rfl⟩
  · exact ⟨show (6 : Int) ≠ 0 by decide, rfl⟩
theorem noneV_facts (c : Int) (hc : c = 0 ∨ c = 1 ∨ c = 2) (f : α → β) : (noneV c : VecD α).cls = c ∧ (noneV c : VecD α).kind ≠ 0 ∧ (noneV c : VecD α).kind = (noneV c : VecD α).least ∧ (noneV c : VecD α).len = 0 ∧ (noneV c : VecD α).boxes = [] ∧ itemsV f (noneV c : VecD α) = [] := by
  rcases hc with rfl | rfl | rfl
  · have e : leastN [] = 1 := by have := leastN_bits []; simpa using this
    refine ⟨rfl, show (1 : Int) ≠ 0 by decide, ?_, rfl, rfl, rfl⟩
    show (1 : Int) = if (0 : Int) = 0 ∧ (1 : Int) ≠ 0 then leastN [] else 1
    rw [e]
    rfl
  · exact ⟨rfl, show (5 : Int) ≠ 0 by decide, rfl, rfl, rfl, rfl⟩
  · exact ⟨rfl, show (6 : Int) ≠ 0 by decide, rfl, rfl, rfl, rfl⟩
theorem joinC_some : ∀ (l : List (VecD α)) (c0 c : Int), joinC c0 l = some c → (0 ≤ c0 → c = c0) ∧ (c = c0 ∨ c = 0 ∨ c = 1 ∨ c = 2) ∧ ∀ v ∈ l, v.len ≠ 0 → v.cls = c
  | [], c0, c, h => by
    cases h
    exact ⟨fun _ => rfl, .inl rfl, fun v hv => by cases hv⟩
  | v :: l, c0, c, h => by
    by_cases h0 : v.len = 0
    · rw [joinC_skip h0] at h
      obtain ⟨h1, h2, h3⟩ := joinC_some l c0 c h
      refine ⟨h1, h2, fun u hu hn => ?_⟩
      rcases List.mem_cons.1 hu with rfl | hu
      · exact absurd h0 hn
      · exact h3 u hu hn
    · by_cases hb : 0 ≤ c0 ∧ c0 ≠ v.cls
      · rw [joinC, if_neg h0, if_pos hb] at h; cases h
      · rw [joinC, if_neg h0, if_neg hb] at h
        obtain ⟨h1, h2, h3⟩ := joinC_some l v.cls c h
        have hcl := cls_rng v
        have hcv := h1 (by omega)
        refine ⟨fun e => ?_, by omega, fun u hu hn => ?_⟩
        · rw [hcv]
          exact (Decidable.of_not_not (fun e2 => hb ⟨e, fun e3 => e2 e3.symm⟩))
        · rcases List.mem_cons.1 hu with rfl | hu
          · exact hcv.symm
          · exact h3 u hu hn
end
theorem shown_join {k : Nat} {vs : List (VecD (AD k))} {c : Int} (hJ : joinC (-1) vs = some c) (hA : ∀ v ∈ vs, Shown k v (itemsV (plain k) v) v.cls) (hm : (vs.map VecD.len).sum ≤ 1048576) : Shown k (if c < 0 then noneV (headC vs) else joinS c vs) (vs.flatMap (itemsV (plain k))) (if 0 ≤ c then c else headC vs) := by
  obtain ⟨_, hr, hall⟩ := joinC_some vs (-1) c hJ
  have htd : ∀ x ∈ vs.flatMap (itemsV (plain k)), tdyIt (tdy k) x := by
    intro x hx
    obtain ⟨v, hv, hx⟩ := List.mem_flatMap.1 hx
    exact (hA v hv).td x hx
  by_cases hc : c < 0
  · rw [if_pos hc, if_neg (by omega)]
    have hh : headC vs = 0 ∨ headC vs = 1 ∨ headC vs = 2 := by
      cases vs with
      | nil => exact .inl rfl
      | cons v l => exact cls_rng v
    have he : vs.flatMap (itemsV (plain k)) = [] := by
      rw [flatMap_eq (g := fun _ => [])]
      · simp
      · intro v hv
        apply itemsV_len0
        by_cases e : v.len = 0
        · exact e
        · have := hall v hv e; have := cls_rng v; omega
    obtain ⟨h1, h2, h3, h4, h5, h6⟩ := noneV_facts (headC vs) hh (plain k)
    exact ⟨h1, h2, h3, by omega, (by rw [h5]; intro b hb; cases hb), h6.trans he.symm, htd⟩
  · rw [if_neg hc, if_pos (by omega)]
    have hc3 : c = 0 ∨ c = 1 ∨ c = 2 := by omega
    obtain ⟨h1, h2⟩ := joinS_kind c hc3 vs
    refine ⟨joinS_cls hc3 vs, h1, h2, Nat.le_trans (joinS_len c vs) hm, ?_, itemsV_join _ hc3 hall, htd⟩
    intro b hb
    obtain ⟨v, hv, hb⟩ := joinS_boxes hb
    exact (hA v hv).sm b hb
theorem joinC_joinP {δ α γ : Type} (fv : δ → VecD α) (fp : δ → PlainD γ) : ∀ (l : List δ) (c : Int), (∀ x ∈ l, (fv x).len = (fp x).items.length ∧ (fv x).cls = (fp x).fill) → joinC c (l.map fv) = joinP c (l.map fp) ∧ headC (l.map fv) = headF (l.map fp)
  | [], c, _ => ⟨rfl, rfl⟩
  | x :: l, c, h => by
    obtain ⟨h1, h2⟩ := h x (by simp)
    refine ⟨?_, h2⟩
    have ih := fun c => (joinC_joinP fv fp l c (fun y hy => h y (List.mem_cons_of_mem _ hy))).1
    rw [List.map_cons, List.map_cons, joinC, joinP, h1, h2]
    by_cases e : (fp x).items.length = 0
    · rw [if_pos e, if_neg (by omega), if_neg (by omega)]; exact ih c
    · rw [if_neg e]
      by_cases e2 : 0 ≤ c ∧ c ≠ (fp x).fill
      · rw [if_pos e2, if_pos ⟨by omega, e2⟩]
      · rw [if_neg e2, if_neg (fun e3 => e2 e3.2), if_pos (by omega)]; exact ih _
end Go.Proofs.Ythbfkhklihejiaa

/-
  Contracts of the law's own functions of layer 28 and of what they lean on: texts, arrays shown. No statement is proved here.
-/
namespace Go.Proofs.Ythbfkhklihejiaa
open Go Go.RowKit
set_option linter.unusedVariables false
set_option linter.unusedSimpArgs false
set_option maxHeartbeats 4000000
attribute [local irreducible] CW RW QW SW HW ConM retM heldQ calmQ elemP thenQ blockQ loopQ joinQ retQ Yields Con Sl zF magR unitF truncF fwF wholeF tidySpec elemQ rankF leastN tidyW
set_option maxHeartbeats 2000000

/-- the plain array of characters -/
def textP {α : Type} (l : List Int) : PlainD α := ⟨[(l.length : Int)], l.map fun x => ⟨1, 0, x, []⟩, 1⟩
theorem refText_con {α : Type} {R : GHeap → List Value → α → Prop} (hR : Mono R) (s : Value) (l : List Int) (w : World) (h : GHeap) (hl : KAt .i32 h s l) (hm : l.length ≤ 1048576) : Con Try.prog 99 [s] w h (fun h' u => ∃ cs', u = .agg cs'.toArray ∧ PlainR R h' cs' (textP l)) := by
  obtain ⟨ad, cp, rfl, hS⟩ := hl
  refine Con.of_body Try.func99 rfl Try.ntmps99 rfl rfl ?_
  intro hs
  refine Zrun ?_
  (refine RW.allocN T hs rfl rfl rfl rfl ?_; intro b1 w1 hs)
  refine Zerun ?_
  (refine RW.lit T hs (vs := [.int .i64 l.length]) (cs := [.int .i64 l.length]) rfl rfl rfl rfl (by simp [Value.cells]) rfl rfl rfl rfl rfl ?_; intro b2 w2 hs)
  obtain ⟨h3, hle3, hs, hS3⟩ := hs.freeze
  have hI3 : IntsAt h3 (.slice (some ⟨b2, 0, none⟩) 1 1) [(l.length : Int)] := IntsAt.of_sl hS3
  refine RW.val (Y.build T rfl rfl rfl rfl rfl rfl rfl) rfl ?_
  (refine RW.allocN T hs rfl rfl rfl rfl ?_; intro b3 w3 hs)
  (refine RW.storeAll T hs 0 rfl rfl rfl rfl rfl rfl rfl rfl ?_; intro w4 hs)
  refine Zerun ?_
  have hs := hs.nilRow 83 4
  refine CW.loop (fun u : Nat × Option Addr × Nat × List Value => [(0, .slice ad l.length cp), (2, .pointer (some ⟨b1, 0, none⟩)), (3, .pointer (some ⟨b3, 0, none⟩)), (4, .int .i64 u.1)]) (fun u w' => u.1 ≤ l.length ∧ AllN 4 (ItemAt R h3) u.2.2.2 ((l.take u.1).map fun x => ⟨1, 0, x, []⟩) ∧ Sees w h h3 [⟨u.2.1, u.1, u.2.2.1, 83, 4, u.2.2.2⟩, ⟨some ⟨b3, 0, none⟩, 1, 1, 50, 3, [.slice (some ⟨b2, 0, none⟩) 1 1, .slice u.2.1 u.1 u.2.2.1, .int .i64 1]⟩, ⟨some ⟨b1, 0, none⟩, 1, 1, 50, 3, [.slice none 0 0, .slice none 0 0, .int .i64 0]⟩] w') (fun u => l.length - u.1) (0, none, 0, []) ⟨rfl, rfl, rfl, rfl, trivial⟩ ⟨by omega, rfl, hs⟩ ?_
  rintro ⟨i, ra, rc, vs⟩ w5 ⟨hi, hAv, hs⟩
  dsimp only at hi hAv hs ⊢
  by_cases hlt : i < l.length
  · have htk := take_succ_getD l i 0 hlt
    refine Zerun ?_
    refine CW.regionH T (fun w' : World => ∃ (h' : GHeap) (O : List Row), Sees w h h' O w') ?_
    rintro w7 rfl
    have hs := hs.drew
    refine HW.take (fuel := 10) 0 rfl (v := .pointer (some ⟨b3, 0 + 1, none⟩)) ?_ ?_ rfl (by kernel_rfl) (by kernel_rfl) (by kernel_rfl) ?_
    · intro w' _; exact Y.fieldAddr T rfl rfl rfl rfl rfl
    · exact ⟨_, _, hs⟩
    refine HW.take (fuel := 9) 2 rfl (v := .slice ad l.length cp) ?_ ?_ rfl (by kernel_rfl) (by kernel_rfl) (by kernel_rfl) ?_
    · intro w' _; exact Y.move rfl
    · exact ⟨_, _, hs⟩
    refine HW.take (fuel := 8) 3 rfl (v := .int .i64 i) ?_ ?_ rfl (by kernel_rfl) (by kernel_rfl) (by kernel_rfl) ?_
    · intro w' _; exact Y.move rfl
    · exact ⟨_, _, hs⟩
    refine HW.take (fuel := 7) 4 rfl (v := elemP ad i 1) ?_ ?_ rfl (by kernel_rfl) (by kernel_rfl) (by kernel_rfl) ?_
    · rintro w' ⟨h', O, hs'⟩; exact Y.idxSN T rfl rfl (hS.mono hs'.le) rfl rfl rfl hlt
    · exact ⟨_, _, hs⟩
    refine HW.take (fuel := 6) 5 rfl (v := .int .i32 (l.getD i 0)) ?_ ?_ rfl (by kernel_rfl) (by kernel_rfl) (by kernel_rfl) ?_
    · rintro w' ⟨h', O, hs'⟩; exact Y.ldS T hs' rfl (hS.mono hs'.le) rfl rfl hlt (map_get _ _ _ _ hlt)
    · exact ⟨_, _, hs⟩
    refine HW.take (fuel := 5) 6 rfl (v := .agg [.int .i64 1, .float .f64 0, .int .i32 (l.getD i 0), .slice none 0 0].toArray) ?_ ?_ rfl (by kernel_rfl) (by kernel_rfl) (by kernel_rfl) ?_
    · intro w' _; exact Y.build T rfl rfl rfl rfl rfl rfl rfl
    · exact ⟨_, _, hs⟩
    refine HW.two (fuel := 4) 1 7 rfl rfl (by kernel_rfl) ?_ ?_
    · refine RW.val (Y.loadRow1 T hs 1 rfl rfl rfl rfl rfl) rfl ?_
      refine RW.nil ?_
      refine heldQ_normal ⟨_, _, hs⟩ ?_
      refine HW.one (fuel := 3) 7 rfl (by kernel_rfl) ?_
      (refine RW.lit T hs (vs := [.agg [.int .i64 1, .float .f64 0, .int .i32 (l.getD i 0), .slice none 0 0].toArray]) (cs := [.int .i64 1, .float .f64 0, .int .i32 (l.getD i 0), .slice none 0 0]) rfl rfl rfl rfl (by simp [Value.cells]) rfl rfl rfl rfl rfl ?_; intro b8 w8 hs)
      refine RW.nil ?_
      refine heldQ_normal ⟨_, _, hs⟩ ?_
      refine HW.one (fuel := 2) 8 rfl (by kernel_rfl) ?_
      (refine RW.append T hs 1 rfl rfl (m := 1) (news := [.int .i64 1, .float .f64 0, .int .i32 (l.getD i 0), .slice none 0 0]) rfl rfl rfl rfl rfl rfl (hs.src0 rfl (by simp [Value.oneCell'])) (by simp) (by dsimp only; omega) (by omega) ?_; intro ad9 cp9 w9 hs; replace hs := hs.drop)
      refine RW.nil ?_
      refine heldQ_normal ⟨_, _, hs⟩ ?_
      refine HW.take (fuel := 1) 9 rfl (v := .pointer (some ⟨b3, 0 + 1, none⟩)) ?_ ?_ rfl (by kernel_rfl) (by kernel_rfl) (by kernel_rfl) ?_
      · intro w' _; exact Y.fieldAddr T rfl rfl rfl rfl rfl
      · exact ⟨_, _, hs⟩
      refine HW.one (fuel := 0) 10 rfl (by kernel_rfl) ?_
      (refine RW.store1 T hs 1 rfl rfl rfl rfl rfl rfl rfl rfl ?_; intro w10 hs)
      refine RW.nil ?_
      refine heldQ_normal ⟨_, _, hs⟩ ?_
      refine HW.done (by kernel_rfl) ?_
      refine calmQ_normal ?_
      refine Zerun ?_
      refine loopQ_round (i + 1, ad9, cp9, _) ⟨rfl, rfl, rfl, rfl, trivial⟩ ⟨by dsimp only; omega, ?_, hs⟩ (by dsimp only; omega)
      dsimp only
      rw [htk, List.map_append]
      exact hAv.append (AllN.one rfl (ItemAt.mk' (x := ⟨1, 0, l.getD i 0, []⟩) (RowsAt.nil _) (show (0 : Nat) < 18446744073709551616 by decide)))
    · (refine RW.lit T hs (vs := [.agg [.int .i64 1, .float .f64 0, .int .i32 (l.getD i 0), .slice none 0 0].toArray]) (cs := [.int .i64 1, .float .f64 0, .int .i32 (l.getD i 0), .slice none 0 0]) rfl rfl rfl rfl (by simp [Value.cells]) rfl rfl rfl rfl rfl ?_; intro b8 w8 hs)
      refine RW.nil ?_
      refine heldQ_normal ⟨_, _, hs⟩ ?_
      refine HW.one (fuel := 3) 1 rfl (by kernel_rfl) ?_
      refine RW.val (Y.loadRow1 T hs 2 rfl rfl rfl rfl rfl) rfl ?_
      refine RW.nil ?_
      refine heldQ_normal ⟨_, _, hs⟩ ?_
      refine HW.one (fuel := 2) 8 rfl (by kernel_rfl) ?_
      (refine RW.append T hs 1 rfl rfl (m := 1) (news := [.int .i64 1, .float .f64 0, .int .i32 (l.getD i 0), .slice none 0 0]) rfl rfl rfl rfl rfl rfl (hs.src0 rfl (by simp [Value.oneCell'])) (by simp) (by dsimp only; omega) (by omega) ?_; intro ad9 cp9 w9 hs; replace hs := hs.drop)
      refine RW.nil ?_
      refine heldQ_normal ⟨_, _, hs⟩ ?_
      refine HW.take (fuel := 1) 9 rfl (v := .pointer (some ⟨b3, 0 + 1, none⟩)) ?_ ?_ rfl (by kernel_rfl) (by kernel_rfl) (by kernel_rfl) ?_
      · intro w' _; exact Y.fieldAddr T rfl rfl rfl rfl rfl
      · exact ⟨_, _, hs⟩
      refine HW.one (fuel := 0) 10 rfl (by kernel_rfl) ?_
      (refine RW.store1 T hs 1 rfl rfl rfl rfl rfl rfl rfl rfl ?_; intro w10 hs)
      refine RW.nil ?_
      refine heldQ_normal ⟨_, _, hs⟩ ?_
      refine HW.done (by kernel_rfl) ?_
      refine calmQ_normal ?_
      refine Zerun ?_
      refine loopQ_round (i + 1, ad9, cp9, _) ⟨rfl, rfl, rfl, rfl, trivial⟩ ⟨by dsimp only; omega, ?_, hs⟩ (by dsimp only; omega)
      dsimp only
      rw [htk, List.map_append]
      exact hAv.append (AllN.one rfl (ItemAt.mk' (x := ⟨1, 0, l.getD i 0, []⟩) (RowsAt.nil _) (show (0 : Nat) < 18446744073709551616 by decide)))
  · obtain rfl : i = l.length := by omega
    rw [List.take_length] at hAv
    obtain ⟨h6, hle6, hs, hS6⟩ := hs.freeze
    refine Zerun ?_
    (refine RW.storeAll T hs 1 rfl rfl rfl rfl rfl rfl rfl rfl ?_; intro w7 hs)
    refine Zerun ?_
    refine retQ_ret [_] h6 ⟨resN T hs 1 rfl rfl rfl rfl rfl rfl, trivial⟩ hs.dropAll ⟨_, rfl, _, _, rfl, hI3.mono hle6, ra, rc, vs, by simp [textP], ?_, hAv.mono (fun u a => ItemAt.mono hR _ _ u a hle6)⟩
    simpa [textP] using hS6
theorem shows28_con (k : Nat) (cs cp : List Value) (a : AD (k + 1)) (p : PD (k + 1)) (w : World) (h : GHeap) (ha : ArrAt (k + 1) h cs a) (hp : PlainAt (k + 1) h cp p) (hg : good (k + 1) 40 a) (he : plain (k + 1) a = p) (ht : tdy (k + 1) p) : Con Try.prog 96 [.agg cs.toArray, .int .i64 0, .agg cp.toArray, .int .i64 0] w h (fun _ u => u = .bool true) := by
  have ha' := ha
  have hp' := hp
  obtain ⟨s, vc, rfl, ⟨ad, cap, rfl, _⟩, hv⟩ := ha
  obtain ⟨wv, nv, sm, il, fl, ch, bx, ⟨rfl, hoc⟩, _⟩ := hv
  obtain ⟨s2, it2, rfl, ⟨ad2, cp2, rfl, _⟩, ⟨ad3, cp3, xs3, rfl, _, _⟩⟩ := hp
  refine Con.of_body Try.func96 rfl Try.ntmps96 rfl rfl ?_
  intro hs
  refine Zrun ?_
  (refine RW.boxN hs rfl rfl ?_; intro b1 w1 hs)
  refine Zrun ?_
  (refine RW.boxN hs rfl rfl ?_; intro b2 w2 hs)
  refine Zerun ?_
  refine CW.regionO T hs ?_
  intro w5 hs
  refine HW.takeS (fuel := 8) 0 rfl (fun _ _ hs => Y.loadRowN T hs 1 rfl rfl rfl rfl rfl rfl rfl) hs rfl (by kernel_rfl) (by kernel_rfl) (by kernel_rfl) ?_
  refine HW.one (fuel := 7) 1 rfl (by kernel_rfl) ?_
  (refine RW.call T hs rfl rfl rfl (valueGood_con (k + 1) _ a _ _ ha') ?_; intro v h25 w25 hle25 hp25 hs)
  subst hp25
  rw [decB_of hg]
  have ha' := ArrAt.mono (k + 1) _ _ _ _ hle25 ha'
  have hp' := PlainAt.mono (k + 1) _ _ _ _ hle25 hp'
  refine RW.nil ?_
  refine heldQ_normal ⟨_, hs⟩ ?_
  refine HW.takeS (fuel := 6) 2 rfl (fun _ _ hs => Y.move rfl) hs rfl (by kernel_rfl) (by kernel_rfl) (by kernel_rfl) ?_
  refine HW.takeSY (fuel := 5) 3 rfl rfl rfl (fun _ _ hs => Y.loadRowN T hs 1 rfl rfl rfl rfl rfl rfl rfl) hs rfl (by kernel_rfl) (by kernel_rfl) (by kernel_rfl) ?_
  refine HW.takeSY (fuel := 4) 5 rfl rfl rfl (fun _ _ hs => Y.loadRowN T hs 0 rfl rfl rfl rfl rfl rfl rfl) hs rfl (by kernel_rfl) (by kernel_rfl) (by kernel_rfl) ?_
  refine HW.one (fuel := 3) 4 rfl (by kernel_rfl) ?_
  refine RW.guardYes rfl rfl ?_
  (refine RW.call T hs rfl rfl rfl (plainV_con (k + 1) _ a _ _ ha' (good_sml (k + 1) 40 a hg)) ?_; intro v h28 w28 hle28 hp28 hs)
  obtain ⟨cs28, rfl, hq28⟩ := hp28
  rw [he] at hq28
  have hp' := PlainAt.mono (k + 1) _ _ _ _ hle28 hp'
  refine RW.nil ?_
  refine heldQ_normal ⟨_, hs⟩ ?_
  refine HW.one (fuel := 2) 6 rfl (by kernel_rfl) ?_
  refine RW.guardYes rfl rfl ?_
  (refine RW.call T hs rfl rfl rfl (refSame_con (k + 1) _ _ p p _ _ hq28 hp' ht ht) ?_; intro v h30 w30 hle30 hp30 hs)
  subst hp30
  rw [eqB_of (show p = p from rfl)]
  have hp' := PlainAt.mono (k + 1) _ _ _ _ hle30 hp'
  refine RW.nil ?_
  refine heldQ_normal ⟨_, hs⟩ ?_
  refine HW.takeS (fuel := 1) 7 rfl (fun _ _ hs => Y.pickT rfl rfl) hs rfl (by kernel_rfl) (by kernel_rfl) (by kernel_rfl) ?_
  refine HW.takeS (fuel := 0) 8 rfl (fun _ _ hs => Y.assign rfl) hs rfl (by kernel_rfl) (by kernel_rfl) (by kernel_rfl) ?_
  refine HW.done (by kernel_rfl) ?_
  refine calmQ_normal ?_
  refine Zerun ?_
  exact retQ_ret [_] h30 ⟨rfl, trivial⟩ hs.dropAll rfl
theorem fine28_con (k : Nat) (cs : List Value) (p : PD (k + 1)) (w : World) (h : GHeap) (hp : PlainAt (k + 1) h cs p) : Con Try.prog 94 [.agg cs.toArray] w h (fun _ u => ∃ b, u = .bool b ∧ (b = true → chk (k + 1) 40 p = 0 ∧ (PlainD.shape (α := PD k) p).length ≤ 8 ∧ (PlainD.items (α := PD k) p).length ≤ 3000)) := by
  have hp' := hp
  obtain ⟨s, it, rfl, ⟨ad0, cp0, rfl, hS0⟩, ⟨ad, cp, xs, rfl, hS, _⟩⟩ := hp
  have hcap := hS0.caps
  refine Con.of_body Try.func94 rfl Try.ntmps94 rfl rfl ?_
  intro hs
  refine Zrun ?_
  (refine RW.boxN hs rfl rfl ?_; intro b1 w1 hs)
  refine Zerun ?_
  (refine RW.call T hs rfl rfl rfl (refCountB_con 3000 k _ p _ _ hp') ?_; intro v h2 w2 hle2 hp2 hs)
  obtain ⟨r, rfl, hr⟩ := hp2
  by_cases c1 : r ≤ 1500
  · by_cases c2 : (PlainD.shape (α := PD k) p).length ≤ 8
    · refine Zerun ?_
      (refine RW.call T hs rfl rfl rfl (refCheck_con (k + 1) _ p _ _ (PlainAt.mono (k + 1) _ _ _ _ hle2 hp')) ?_; intro v h3 w3 hle3 hp3 hs)
      subst hp3
      refine Zerun ?_
      refine retQ_ret [_] h3 ⟨rfl, trivial⟩ hs.dropAll ⟨_, rfl, fun e => ?_⟩
      have hc := of_decide_eq_true e
      have hh := hr hc (by omega)
      exact ⟨hc, c2, by omega⟩
    · refine Zerun ?_
      exact retQ_ret [_] h2 ⟨rfl, trivial⟩ hs.dropAll ⟨_, rfl, fun e => by cases e⟩
  · refine Zerun ?_
    exact retQ_ret [_] h2 ⟨rfl, trivial⟩ hs.dropAll ⟨_, rfl, fun e => by cases e⟩

section
variable {α : Type}
theorem indexFunc64_con (F : Int → Bool) (v : Value) (l : List Int) (f : FuncId) (ca : List Value) (w : World) (h : GHeap) (hf : T.call f = true) (hl : KAt .i64 h v l)
    (hc : ∀ a w h', GLe h h' → Con Try.prog f (.int .i64 a :: ca) w h' (fun _ u => u = .bool (F a))) :
    Con Try.prog 192 [v, .func (.func f) #[] ca.toArray] w h (fun _ u => ∃ r : Int, u = .int .i64 r ∧ decide (0 ≤ r) = l.any F) := by
  obtain ⟨ad, cp, rfl, hS⟩ := hl
  have hlen : l.length ≤ 9223372036854775807 := by have := hS.caps; omega
  refine Con.of_body Try.func192 rfl Try.ntmps192 rfl rfl ?_
  intro hs
  refine Zerun ?_
  refine CW.loop (fun u : Nat × GHeap => [(0, .slice ad l.length cp), (1, .func (.func f) #[] ca.toArray), (7, .int .i64 l.length), (8, .int .i64 u.1)]) (fun u w' => u.1 ≤ l.length ∧ GLe h u.2 ∧ (∀ a ∈ l.take u.1, F a = false) ∧ Sees w h u.2 [] w') (fun u => l.length - u.1) (0, h) ⟨rfl, rfl, rfl, rfl, trivial⟩ ⟨by omega, GLe.refl _, by simp, hs⟩ ?_
  rintro ⟨i, hh⟩ w2 ⟨hi, hgl, hno, hs⟩
  dsimp only at hi hgl hno hs ⊢
  have hS2 := hS.mono hgl
  by_cases hlt : i < l.length
  · have htk : l.take (i + 1) = l.take i ++ [l[i]] := by rw [List.take_add_one, List.getElem?_eq_getElem hlt]; rfl
    have hgi : l.getD i 0 = l[i] := by rw [List.getD_eq_getElem?_getD, List.getElem?_eq_getElem hlt]; rfl
    refine Zerun ?_
    refine RW.callV (fi := []) (ca := ca) T hs rfl rfl hf rfl (hc _ _ _ hgl) ?_
    intro v h4 w4 hle4 hp4 hs
    subst hp4
    rw [hgi]
    by_cases c : F l[i] = true
    · rw [c]
      refine Zerun ?_
      refine retQ_ret [_] h4 ⟨rfl, trivial⟩ hs.dropAll ⟨_, rfl, ?_⟩
      rw [decide_eq_true (show (0 : Int) ≤ i by omega)]
      exact (List.any_eq_true.2 ⟨_, List.getElem_mem hlt, c⟩).symm
    · have c := Bool.eq_false_iff.2 c
      rw [c]
      refine Zerun ?_
      refine loopQ_round (i + 1, h4) ⟨rfl, rfl, rfl, rfl, trivial⟩ ⟨by dsimp only; omega, hgl.trans hle4, ?_, hs⟩ (by dsimp only; omega)
      dsimp only
      intro a ha
      rw [htk, List.mem_append, List.mem_singleton] at ha
      rcases ha with ha | rfl
      · exact hno a ha
      · exact c
  · obtain rfl : i = l.length := by omega
    rw [List.take_length] at hno
    refine Zerun ?_
    refine retQ_ret [_] hh ⟨rfl, trivial⟩ hs.dropAll ⟨_, rfl, ?_⟩
    cases e : l.any F with
    | false => rfl
    | true =>
      obtain ⟨a, ha, hF⟩ := List.any_eq_true.1 e
      rw [hno a ha] at hF
      cases hF
theorem containsFunc64_con (F : Int → Bool) (v : Value) (l : List Int) (f : FuncId) (ca : List Value) (w : World) (h : GHeap) (hf : T.call f = true) (hl : KAt .i64 h v l)
    (hc : ∀ a w h', GLe h h' → Con Try.prog f (.int .i64 a :: ca) w h' (fun _ u => u = .bool (F a))) :
    Con Try.prog 160 [v, .func (.func f) #[] ca.toArray] w h (fun _ u => u = .bool (l.any F)) := by
  refine Con.of_body Try.func160 rfl Try.ntmps160 rfl rfl ?_
  intro hs
  refine Zerun ?_
  (refine RW.call T hs rfl rfl rfl (indexFunc64_con F v l f ca _ _ hf hl hc) ?_; intro v h1 w1 hle1 hp1 hs)
  obtain ⟨r, rfl, hr⟩ := hp1
  refine Zerun ?_
  exact retQ_ret [_] h1 ⟨rfl, trivial⟩ hs.dropAll (by rw [← hr]; rfl)
theorem negFunc_con (a : Int) (w : World) (h : GHeap) : Con Try.prog 161 [.int .i64 a] w h (fun _ u => u = .bool (decide (a < 0))) := by
  refine Con.of_body Try.func161 rfl Try.ntmps161 rfl rfl ?_
  intro hs
  refine Zerun ?_
  exact retQ_ret [_] h ⟨rfl, trivial⟩ hs.dropAll rfl
theorem deep_con (k : Nat) (cs : List Value) (a : AD (k + 1)) (w : World) (h : GHeap) (ha : ArrAt (k + 1) h cs a) (hg : good (k + 1) 40 a) : Con Try.prog 162 [.agg cs.toArray] w h (fun h' u => ∃ cs', u = .tuple #[.agg cs'.toArray, .int .i64 0] ∧ ArrAt (k + 1) h' cs' a) := by
  have ha' := ha
  obtain ⟨s, vc, rfl, ⟨ad, cap, rfl, _⟩, hv⟩ := ha
  obtain ⟨wv, nv, sm, il, fl, ch, bx, ⟨rfl, hoc⟩, _⟩ := hv
  refine Con.of_body Try.func162 rfl Try.ntmps162 rfl rfl ?_
  intro hs
  refine Zrun ?_
  (refine RW.boxN hs rfl rfl ?_; intro b1 w1 hs)
  (refine RW.allocN T hs rfl rfl rfl rfl ?_; intro b2 w2 hs)
  refine Zerun ?_
  (refine RW.call T hs rfl rfl rfl (valueGood_con (k + 1) _ a _ _ ha') ?_; intro v h3 w3 hle3 hp3 hs)
  subst hp3
  rw [decB_of hg]
  refine Zerun ?_
  refine RW.storeAll T hs 0 rfl rfl rfl rfl rfl rfl (show (Value.oneCell' (.slice ad _ cap) && (vecCells (ArrD.vec (α := AD k) a).kind wv nv sm il fl ch bx).all Value.oneCell') = true by rw [hoc]; rfl) rfl ?_
  intro w4 hs
  refine Zerun ?_
  exact retQ_ret [_, _] h3 ⟨resN T hs 0 rfl rfl rfl rfl rfl rfl, rfl, trivial⟩ hs.dropAll ⟨_, rfl, ArrAt.mono (k + 1) _ _ _ _ hle3 ha'⟩
end
end Go.Proofs.Ythbfkhklihejiaa

/-
  Plain Lean on arrays of numbers, and of one number: good ones, told plainly. No statement is proved here.
-/
namespace Go.Proofs.Ythbfkhklihejiaa
open Go Go.RowKit
set_option linter.unusedVariables false
set_option linter.unusedSimpArgs false
set_option maxHeartbeats 4000000
attribute [local irreducible] CW RW QW SW HW ConM retM heldQ calmQ elemP thenQ blockQ loopQ joinQ retQ Yields Con Sl zF magR unitF truncF fwF wholeF tidySpec elemQ rankF leastN tidyW

theorem product_len1 (n : Nat) (h : n ≤ 1048576) : product [(n : Int)] 1048576 = ((n : Int), 0) := by
  have hg : goodS [(n : Int)] = true := (goodS_spec _).2 ⟨by simp, by intro d hd; rw [List.mem_singleton.1 hd]; omega, by simp [pr]; omega⟩
  rw [product_good _ hg]
  by_cases c : n = 0
  · subst c; simp
  · rw [if_neg (by simp; omega)]
    simp [pr]; omega
theorem product_0 : product [] 1048576 = (1, 0) := by decide
def numsA (k : Nat) (N : List Nat) : AD (k + 1) := (⟨[(N.length : Int)], ⟨leastN N, N, [], []⟩⟩ : ArrD (AD k))
theorem numsP_chk (k : Nat) (l : List Nat) (hf : ∀ x ∈ l, finF x) (hm : l.length ≤ 1048576) : chk (k + 1) 40 (numsP l : PlainD (PD k)) = 0 := by
  refine (chkP_ok (α := PD k) _ _ _).2 ⟨by omega, Int.le_refl _, (by show (0 : Int) ≤ 2; omega), ?_, fun x hx => ?_⟩
  · show product [(l.length : Int)] 1048576 = (((l.map fun x => (⟨0, x, 0, []⟩ : ItemD (PD k))).length : Int), 0)
    rw [product_len1 _ hm, List.length_map]
  · obtain ⟨y, hy, rfl⟩ := List.mem_map.1 hx
    exact ⟨rfl, fun e => absurd (show (0 : Int) = 2 from e) (by decide), fun _ => hf y hy⟩
theorem numsP_arr (k : Nat) (l : List Nat) : arr (k + 1) (numsP l : PlainD (PD k)) = numsA k (l.map tidyW) := by
  show (⟨[(l.length : Int)], arrV (arr k) 0 (l.map fun x => (⟨0, x, 0, []⟩ : ItemD (PD k)))⟩ : ArrD (AD k)) = _
  unfold arrV numsA
  rw [if_neg (by omega), if_neg (by omega), List.map_map, List.length_map]
  rfl
/-- small whole numbers, as words -/
theorem fw_rank (l : List Int) (h : ∀ n ∈ l, -9007199254740992 ≤ n ∧ n ≤ 9007199254740992) : leastN (l.map fwF) ≤ 3 := by
  unfold leastN
  refine fold_le _ _ _ (by omega) (fun x hx => ?_)
  obtain ⟨n, hn, rfl⟩ := List.mem_map.1 hx
  rw [rank_int, wholeF_fw n (h n hn)]
theorem fw_wholes (l : List Int) (h : ∀ n ∈ l, -9007199254740992 ≤ n ∧ n ≤ 9007199254740992) : (l.map fwF).map (fun x => (wholeF x).1) = l := by
  rw [List.map_map]
  conv => rhs; rw [← List.map_id l]
  apply List.map_congr_left
  intro n hn
  show (wholeF (fwF n)).1 = n
  rw [wholeF_fw n (h n hn)]
theorem fw_tidyW (l : List Int) (h : ∀ n ∈ l, -9007199254740992 ≤ n ∧ n ≤ 9007199254740992) : (l.map fwF).map tidyW = l.map fwF := by
  rw [List.map_map]
  apply List.map_congr_left
  intro n hn
  show tidyW (fwF n) = fwF n
  unfold tidyW
  rw [tidySpec_of _ (fwF_spec n (h n hn)).1]
theorem fw2 : fwF 2 = 4611686018427387904 := by unfold fwF; decide
def numA (k : Nat) (x : Nat) : AD (k + 1) := (⟨[], ⟨leastN [x], [x], [], []⟩⟩ : ArrD (AD k))
def numQ (k : Nat) (x : Nat) : PD (k + 1) := (⟨[], [⟨0, x, 0, []⟩], 0⟩ : PlainD (PD k))
theorem numV_cls {α : Type} (N : List Nat) : (⟨leastN N, N, [], []⟩ : VecD α).cls = 0 := by
  have hb := leastN_bounds N
  unfold VecD.cls; dsimp only; rw [if_neg (by omega), if_neg (by omega)]
theorem numA_good (k x : Nat) (d : Int) (hd : d ≠ 0) : good (k + 1) d (numA k x) := by
  have hb := leastN_bounds [x]
  refine ⟨product_0, (by show leastN [x] ≠ 0; omega), ?_, hd, fun b hb => nomatch hb⟩
  show leastN [x] = VecD.least (⟨leastN [x], [x], [], []⟩ : VecD (AD k))
  unfold VecD.least
  rw [if_pos ⟨numV_cls _, by dsimp only; omega⟩]
theorem numA_plain (k x : Nat) : plain (k + 1) (numA k x) = numQ k x := by
  show (⟨[], itemsV (plain k) (⟨leastN [x], [x], [], []⟩ : VecD (AD k)), VecD.cls (⟨leastN [x], [x], [], []⟩ : VecD (AD k))⟩ : PlainD (PD k)) = _
  rw [itemsV_c0 (plain k) (numV_cls _), numV_cls]
  rfl
theorem numQ_tdy (k x : Nat) (h : tidyF x) : tdy (k + 1) (numQ k x) := by
  intro y hy
  rw [List.mem_singleton.1 hy]
  exact ⟨h, fun b hb => nomatch hb⟩
theorem bitF_tidy (b : Bool) : tidyF (bitF b) := by cases b <;> first | exact tidy0 | exact tidy1
theorem bitF_lt (b : Bool) : bitF b < 18446744073709551616 := (bitF_tidy b).1
theorem refOne_con {α : Type} {R : GHeap → List Value → α → Prop} (x : Nat) (w : World) (h : GHeap) (hx : x < 18446744073709551616) : Con Try.prog 57 [.float .f64 x] w h (fun h' u => ∃ cs', u = .agg cs'.toArray ∧ PlainR R h' cs' (⟨[], [⟨0, x, 0, []⟩], 0⟩ : PlainD α)) := by
  refine Con.of_body Try.func57 rfl Try.ntmps57 rfl rfl ?_
  intro hs
  refine Zrun ?_
  (refine RW.allocN T hs rfl rfl rfl rfl ?_; intro b1 w1 hs)
  refine Zerun ?_
  refine RW.val (Y.build T rfl rfl rfl rfl rfl rfl rfl) rfl ?_
  (refine RW.lit T hs (vs := [.agg [.int .i64 0, .float .f64 x, .int .i32 0, .slice none 0 0].toArray]) (cs := [.int .i64 0, .float .f64 x, .int .i32 0, .slice none 0 0]) rfl rfl rfl rfl (by simp [Value.cells]) rfl rfl rfl rfl rfl ?_; intro b2 w2 hs)
  obtain ⟨h3, hle3, hs, hS3⟩ := hs.freeze
  refine RW.val (Y.build T rfl rfl rfl rfl rfl rfl rfl) rfl ?_
  (refine RW.storeAll T hs 0 rfl rfl rfl rfl rfl rfl rfl rfl ?_; intro w4 hs)
  refine Zerun ?_
  exact retQ_ret [_] h3 ⟨resN T hs 0 rfl rfl rfl rfl rfl rfl, trivial⟩ hs.dropAll ⟨_, rfl, _, _, rfl, RowAt.nil _, RowsAt.single hS3 (ItemAt.mk' (x := ⟨0, x, 0, []⟩) (RowsAt.nil _) hx)⟩
theorem numQ_chk (k x : Nat) (h : finF x) : chk (k + 1) 40 (numQ k x) = 0 := by
  refine (chkP_ok (α := PD k) _ _ _).2 ⟨by omega, Int.le_refl _, (by show (0 : Int) ≤ 2; omega), product_0, fun y hy => ?_⟩
  rw [List.mem_singleton.1 hy]
  exact ⟨rfl, fun e => absurd (show (0 : Int) = 2 from e) (by decide), fun _ => h⟩
theorem numQ_arr (k x : Nat) : arr (k + 1) (numQ k x) = numA k (tidyW x) := by
  show (⟨[], arrV (arr k) 0 [(⟨0, x, 0, []⟩ : ItemD (PD k))]⟩ : ArrD (AD k)) = _
  unfold arrV numA
  rw [if_neg (by omega), if_neg (by omega)]
  rfl
theorem numsA_good (k : Nat) (N : List Nat) (d : Int) (hd : d ≠ 0) (hm : N.length ≤ 1048576) : good (k + 1) d (numsA k N) := by
  have hb := leastN_bounds N
  refine ⟨?_, (by show leastN N ≠ 0; omega), ?_, hd, fun b hb => nomatch hb⟩
  · show product [(N.length : Int)] 1048576 = (((N.length + 0 + 0 : Nat) : Int), 0)
    rw [product_len1 _ hm]; rfl
  · show leastN N = VecD.least (⟨leastN N, N, [], []⟩ : VecD (AD k))
    unfold VecD.least
    rw [if_pos ⟨numV_cls _, by dsimp only; omega⟩]
theorem numsA_plain (k : Nat) (N : List Nat) : plain (k + 1) (numsA k N) = (numsP N : PlainD (PD k)) := by
  show (⟨[(N.length : Int)], itemsV (plain k) (⟨leastN N, N, [], []⟩ : VecD (AD k)), VecD.cls (⟨leastN N, N, [], []⟩ : VecD (AD k))⟩ : PlainD (PD k)) = _
  rw [itemsV_c0 (plain k) (numV_cls _), numV_cls]
  rfl
theorem numsP_tdy (k : Nat) (N : List Nat) (h : ∀ x ∈ N, tidyF x) : tdy (k + 1) (numsP N : PlainD (PD k)) := by
  intro y hy
  obtain ⟨x, hx, rfl⟩ := List.mem_map.1 hy
  exact ⟨h x hx, fun b hb => nomatch hb⟩
end Go.Proofs.Ythbfkhklihejiaa

/-
  Contracts of functions of package part: texts cut into boxes. No statement is proved here.
-/
namespace Go.Proofs.Ythbfkhklihejiaa
open Go Go.RowKit
set_option linter.unusedVariables false
set_option linter.unusedSimpArgs false
set_option maxHeartbeats 4000000
attribute [local irreducible] CW RW QW SW HW ConM retM heldQ calmQ elemP thenQ blockQ loopQ joinQ retQ Yields Con Sl zF magR unitF truncF fwF wholeF tidySpec elemQ rankF leastN tidyW
set_option maxHeartbeats 4000000

/-- where parts of a list lie: from here up to there; and where the next one begins -/
def segStep (l : List Int) (st : List (Nat × Nat) × Nat) (i : Nat) : List (Nat × Nat) × Nat :=
  if i < l.length ∧ 0 < l.getD i 0 ∧ l.getD i 0 ≤ l.getD (i - 1) 0 then st else (if 0 < l.getD st.2 0 then st.1 ++ [(st.2, i)] else st.1, i)
def segsTo (l : List Int) : Nat → List (Nat × Nat) × Nat
  | 0 => ([], 0)
  | k + 1 => segStep l (segsTo l k) (k + 1)
theorem segsTo_ok (l : List Int) : ∀ k, (segsTo l k).2 ≤ k ∧ (segsTo l k).1.length ≤ k ∧ ∀ s ∈ (segsTo l k).1, s.1 < s.2 ∧ s.2 ≤ k
  | 0 => ⟨Nat.le_refl _, Nat.le_refl _, fun s hs => by cases hs⟩
  | k + 1 => by
    obtain ⟨h1, h2, h3⟩ := segsTo_ok l k
    show (segStep l (segsTo l k) (k + 1)).2 ≤ _ ∧ (segStep l (segsTo l k) (k + 1)).1.length ≤ _ ∧ ∀ s ∈ (segStep l (segsTo l k) (k + 1)).1, _
    unfold segStep
    split
    · exact ⟨by omega, by omega, fun s hs => by obtain ⟨a, b⟩ := h3 s hs; exact ⟨a, by omega⟩⟩
    · refine ⟨Nat.le_refl _, ?_, ?_⟩
      · dsimp only
        split
        · rw [List.length_append]; show _ + 1 ≤ _; omega
        · omega
      · dsimp only
        intro s hs
        split at hs
        · rcases List.mem_append.1 hs with hs | hs
          · obtain ⟨a, b⟩ := h3 s hs; exact ⟨a, by omega⟩
          · rw [List.mem_singleton.1 hs]; exact ⟨by dsimp only; omega, Nat.le_refl _⟩
        · obtain ⟨a, b⟩ := h3 s hs; exact ⟨a, by omega⟩
def segs (l : List Int) : List (Nat × Nat) := (segsTo l l.length).1
def segT (C : List Int) (s : Nat × Nat) : List Int := (C.drop s.1).take (s.2 - s.1)
/-- a text as an array -/
def textA (k : Nat) (C : List Int) : AD (k + 1) := (⟨[(C.length : Int)], ⟨5, [], C, []⟩⟩ : ArrD (AD k))
def partsA (l C : List Int) : AD 3 := (⟨[((segs l).length : Int)], ⟨6, [], [], (segs l).map fun s => textA 1 (segT C s)⟩⟩ : ArrD (AD 2))
theorem textA_good (k : Nat) (C : List Int) (d : Int) (hd : d ≠ 0) (hm : C.length ≤ 1048576) : good (k + 1) d (textA k C) := by
  refine ⟨?_, (by show (5 : Int) ≠ 0; omega), rfl, hd, fun b hb => nomatch hb⟩
  show product [(C.length : Int)] 1048576 = (((0 + C.length + 0 : Nat) : Int), 0)
  rw [product_len1 _ hm, Nat.zero_add, Nat.add_zero]
theorem segT_len (C : List Int) (s : Nat × Nat) : (segT C s).length ≤ C.length := by
  unfold segT
  rw [List.length_take, List.length_drop]
  omega
theorem partsA_good (l C : List Int) (hl : l.length ≤ 1048576) (hm : C.length ≤ 1048576) : good 3 40 (partsA l C) := by
  refine ⟨?_, (by show (6 : Int) ≠ 0; omega), rfl, by omega, fun b hb => ?_⟩
  · have this : (segs l).length ≤ l.length := (segsTo_ok l l.length).2.1
    show product [((segs l).length : Int)] 1048576 = (((0 + 0 + ((segs l).map fun s => textA 1 (segT C s)).length : Nat) : Int), 0)
    rw [product_len1 _ (Nat.le_trans this hl)]
    simp only [List.length_map, Nat.zero_add]
  · obtain ⟨s, hs, rfl⟩ := List.mem_map.1 hb
    exact textA_good 1 _ _ (by omega) (Nat.le_trans (segT_len C s) hm)
theorem cutA_of {n x : Nat} (h : x ≤ n) : cutA n (x : Int) = x := by unfold cutA; omega
theorem cutB_of {n x y : Nat} (h : x ≤ y) (h2 : y ≤ n) : cutB n (x : Int) (y : Int) = y := by unfold cutB cutA; omega
theorem pick_text {α : Type} (C : List Int) (f t_ : Nat) (hf : f ≤ t_) (ht : t_ ≤ C.length) (nb : α) : (⟨5, [], C, []⟩ : VecD α).pick (spanL f t_) nb = ⟨5, [], (C.drop f).take (t_ - f), []⟩ := by
  unfold VecD.pick
  rw [if_pos rfl]
  dsimp only
  rw [span_items C f t_ hf ht 32]
theorem sq_text {α : Type} (C : List Int) : (⟨5, [], C, []⟩ : VecD α).sq = ⟨5, [], C, []⟩ := by
  unfold VecD.sq
  rw [if_neg]
  rintro ⟨h, _⟩
  exact absurd h (show ¬ ((if (5 : Int) = 5 then (1 : Int) else if (5 : Int) = 6 then 2 else 0) = 0) by decide)
theorem sq_boxes {α : Type} (C : List α) : (⟨6, [], [], C⟩ : VecD α).sq = ⟨6, [], [], C⟩ := by
  unfold VecD.sq
  rw [if_neg]
  rintro ⟨h, _⟩
  exact absurd h (show ¬ ((if (6 : Int) = 5 then (1 : Int) else if (6 : Int) = 6 then 2 else 0) = 0) by decide)
theorem partition_con (cs cs' : List Value) (N : List Nat) (C : List Int) (w : World) (h : GHeap) (hb : ArrAt 2 h cs (numsA 1 N)) (ha : ArrAt 2 h cs' (textA 1 C)) (hk : leastN N ≤ 3) (hz : ∀ x ∈ N, 0 ≤ (wholeF x).1) (hl : N.length = C.length) (hm : C.length ≤ 1000) :
    Con Try.prog 98 [.agg cs.toArray, .agg cs'.toArray] w h (fun h' u => ∃ c2, u = .tuple #[.agg c2.toArray, .int .i64 0] ∧ ArrAt 3 h' c2 (partsA (N.map fun x => (wholeF x).1) C)) := by
  have hlb := leastN_bounds N
  obtain ⟨s, vc, rfl, hsh, hv⟩ := hb
  obtain ⟨s2, vc2, rfl, hsh2, hv2⟩ := ha
  have hbR : ArrR (ArrAt 1) h (s :: vc) (⟨[(N.length : Int)], ⟨leastN N, N, [], []⟩⟩ : ArrD (AD 1)) := ⟨_, _, rfl, hsh, hv⟩
  have haR : ArrR (ArrAt 1) h (s2 :: vc2) (⟨[(C.length : Int)], ⟨5, [], C, []⟩⟩ : ArrD (AD 1)) := ⟨_, _, rfl, hsh2, hv2⟩
  change VecAt (ArrAt 1) h vc (⟨leastN N, N, [], []⟩ : VecD (AD 1)) at hv
  change VecAt (ArrAt 1) h vc2 (⟨5, [], C, []⟩ : VecD (AD 1)) at hv2
  obtain ⟨vN, hvN⟩ : ∃ v : VecD (AD 1), (⟨leastN N, N, [], []⟩ : VecD (AD 1)) = v := ⟨_, rfl⟩
  obtain ⟨vC, hvC⟩ : ∃ v : VecD (AD 1), (⟨5, [], C, []⟩ : VecD (AD 1)) = v := ⟨_, rfl⟩
  have hNk : vN.kind = 1 ∨ vN.kind = 2 ∨ vN.kind = 3 := by rw [← hvN]; dsimp only; omega
  have hNn : vN.nums = N := by rw [← hvN]
  have hNl : vN.len = N.length := by rw [← hvN]; rfl
  have hCl : vC.len = C.length := by rw [← hvC]; show 0 + C.length + 0 = _; omega
  have hCk : vC.kind ≠ 0 := by rw [← hvC]; show (5 : Int) ≠ 0; omega
  rw [hvN] at hv hbR
  rw [hvC] at hv2 haR
  have hv' := hv
  have hv2' := hv2
  obtain ⟨ad, cp, rfl, hSs⟩ := hsh
  obtain ⟨ad2, cp2, rfl, _⟩ := hsh2
  obtain ⟨wv, nv, sm, il, fl, ch, bx, ⟨rfl, hoc⟩, _⟩ := hv
  obtain ⟨wv2, nv2, sm2, il2, fl2, ch2, bx2, ⟨rfl, hoc2⟩, _⟩ := hv2
  refine Con.of_body Try.func98 rfl Try.ntmps98 rfl rfl ?_
  intro hs
  refine Zrun ?_
  (refine RW.boxN hs rfl rfl ?_; intro b1 w1 hs)
  refine Zrun ?_
  (refine RW.boxN hs rfl rfl ?_; intro b2 w2 hs)
  (refine RW.allocN T hs rfl rfl rfl rfl ?_; intro b3 w3 hs)
  refine Zerun ?_
  (refine RW.call T hs rfl rfl rfl (valueRank_con _ _ _ _ hbR) ?_; intro v h4 w4 hle4 hp4 hs)
  subst hp4
  rw [show ((([(N.length : Int)] : List Int).length : Nat) : Int) = 1 from rfl]
  have haR := haR
  obtain ⟨_, _, e9, hI9, hV9⟩ := id haR
  have haR4 : ArrR (ArrAt 1) h4 _ (⟨[(C.length : Int)], vC⟩ : ArrD (AD 1)) := ⟨_, _, e9, hI9.mono hle4, hV9.mono (ArrAt.mono 1) hle4⟩
  refine Zerun ?_
  (refine RW.call T hs rfl rfl rfl (valueRank_con _ _ _ _ haR4) ?_; intro v h5 w5 hle5 hp5 hs)
  subst hp5
  rw [show ((([(C.length : Int)] : List Int).length : Nat) : Int) = 1 from rfl]
  have hv' := hv'.mono (ArrAt.mono 1) (hle4.trans hle5)
  have hv2' := hv2'.mono (ArrAt.mono 1) (hle4.trans hle5)
  refine Zerun ?_
  (refine RW.call T hs rfl rfl rfl (vecWholes_con (ArrAt.mono 1) _ vN _ _ hv' (by omega)) ?_; intro v h6 w6 hle6 hp6 hs)
  obtain ⟨sl, rfl, hK⟩ := hp6
  rw [if_pos hNk, hNn] at hK
  rw [decide_eq_true hNk]
  have hv2' := hv2'.mono (ArrAt.mono 1) hle6
  obtain ⟨l, hle⟩ : ∃ l, N.map (fun x => (wholeF x).1) = l := ⟨_, rfl⟩
  have hll : l.length = N.length := by rw [← hle, List.length_map]
  have hl0 : ∀ a ∈ l, 0 ≤ a := by
    rw [← hle]
    intro a ha
    obtain ⟨x, hx, rfl⟩ := List.mem_map.1 ha
    exact hz x hx
  rw [hle] at hK ⊢
  obtain ⟨adl, cpl, rfl, hS⟩ := id hK
  refine Zerun ?_
  (refine RW.call T hs rfl rfl rfl (vecLen_con _ vC _ _ hv2') ?_; intro v h7 w7 hle7 hp7 hs)
  subst hp7
  have hv2' := hv2'.mono (ArrAt.mono 1) hle7
  have hK := RowAt.mono hle7 hK
  have hS := hS.mono hle7
  refine Zerun ?_
  (refine RW.call T hs rfl rfl rfl (containsFunc64_con (fun a => decide (a < 0)) _ l 161 [] _ _ rfl hK (fun a w h' _ => negFunc_con a w h')) ?_; intro v h8 w8 hle8 hp8 hs)
  subst hp8
  have hany : l.any (fun a => decide (a < 0)) = false := by
    rw [List.any_eq_false]
    intro a ha
    have := hl0 a ha
    simpa using this
  rw [hany]
  have hv2' := hv2'.mono (ArrAt.mono 1) hle8
  have hS := hS.mono hle8
  have hs := hs.nilRow 63 9
  refine Zerun ?_
  refine CW.loop (fun r : Nat × Nat × Nat × (Option Addr × Nat) × List Value × GHeap => [(2, .pointer (some ⟨b1, 0, none⟩)), (3, .pointer (some ⟨b2, 0, none⟩)), (4, .pointer (some ⟨b3, 0, none⟩)), (5, .int .i64 0), (6, .slice adl l.length cpl), (8, .slice r.2.2.2.1.1 r.2.1 r.2.2.2.1.2), (9, .int .i64 r.2.2.1), (10, .int .i64 ((r.1 + 1 : Nat) : Int))]) (fun r w' => r.1 ≤ l.length ∧ r.2.1 = (segsTo l r.1).1.length ∧ r.2.2.1 = (segsTo l r.1).2 ∧ GLe h8 r.2.2.2.2.2 ∧ AllN 9 (ArrAt 2 r.2.2.2.2.2) r.2.2.2.2.1 ((segsTo l r.1).1.map fun s => textA 1 (segT C s)) ∧ Sees w h r.2.2.2.2.2 [⟨r.2.2.2.1.1, r.2.1, r.2.2.2.1.2, 63, 9, r.2.2.2.2.1⟩, ⟨some ⟨b3, 0, none⟩, 1, 1, 63, 9, .slice none 0 0 :: vecCells 0 (.slice none 0 0) 0 (.slice none 0 0) (.slice none 0 0) (.slice none 0 0) (.slice none 0 0) (.slice none 0 0)⟩, ⟨some ⟨b2, 0, none⟩, 1, 1, 63, 9, .slice ad2 [(C.length : Int)].length cp2 :: vecCells vC.kind wv2 nv2 sm2 il2 fl2 ch2 bx2⟩, ⟨some ⟨b1, 0, none⟩, 1, 1, 63, 9, .slice ad [(N.length : Int)].length cp :: vecCells vN.kind wv nv sm il fl ch bx⟩] w') (fun r => l.length - r.1) (0, 0, 0, (none, 0), [], h8) ⟨rfl, rfl, rfl, rfl, rfl, rfl, rfl, rfl, trivial⟩ ⟨Nat.zero_le _, rfl, rfl, GLe.refl _, rfl, hs⟩ ?_
  rintro ⟨j, n, fr, ⟨ab, cb⟩, xs, hh⟩ w9 ⟨hj, hn, hfr, hg, hA, hs⟩
  dsimp only at hj hn hfr hg hA hs ⊢
  have hS := hS.mono hg
  have hv2' := hv2'.mono (ArrAt.mono 1) hg
  obtain ⟨hk1, hk2, hk3⟩ := segsTo_ok l j
  have hseg : segsTo l (j + 1) = segStep l (segsTo l j) (j + 1) := rfl
  by_cases hlt : j < l.length
  · have e1 : (((j + 1 : Nat) : Int) - 1).toNat = j := by omega
    have e2 : l.getD (((j + 1 : Nat) : Int) - 1).toNat 0 = l.getD j 0 := by rw [e1]
    by_cases c : j + 1 < l.length ∧ 0 < l.getD (j + 1) 0 ∧ l.getD (j + 1) 0 ≤ l.getD j 0
    · obtain ⟨c1, c2, c3⟩ := c
      have hst : segsTo l (j + 1) = segsTo l j := by
        rw [hseg]; unfold segStep; rw [if_pos ⟨c1, c2, c3⟩]
      refine Zerun ?_
      refine CW.regionQ T hs (Zeqrun ?_) (by kernel_rfl)
      intro w10 hs
      refine Zerun ?_
      refine loopQ_round (j + 1, n, fr, (ab, cb), xs, hh) ⟨rfl, rfl, rfl, rfl, rfl, rfl, rfl, seti (by dsimp only; omega), trivial⟩ ⟨by dsimp only; omega, ?_, ?_, hg, ?_, hs⟩ (by dsimp only; omega)
      · dsimp only; rw [hst]; exact hn
      · dsimp only; rw [hst]; exact hfr
      · dsimp only; rw [hst]; exact hA
    · have hst : segsTo l (j + 1) = (if 0 < l.getD fr 0 then (segsTo l j).1 ++ [(fr, j + 1)] else (segsTo l j).1, j + 1) := by
        rw [hseg]; unfold segStep; rw [← hfr]; exact if_neg c
      refine Zerun ?_
      have hfl0 : fr < l.length := by omega
      refine CW.meet (fun _ : Unit => [(2, .pointer (some ⟨b1, 0, none⟩)), (3, .pointer (some ⟨b2, 0, none⟩)), (4, .pointer (some ⟨b3, 0, none⟩)), (5, .int .i64 0), (6, .slice adl l.length cpl), (8, .slice ab n cb), (9, .int .i64 fr), (10, .int .i64 ((j + 1 : Nat) : Int)), (82, .bool false)]) (fun _ w' => Sees w h hh [⟨ab, n, cb, 63, 9, xs⟩, ⟨some ⟨b3, 0, none⟩, 1, 1, 63, 9, .slice none 0 0 :: vecCells 0 (.slice none 0 0) 0 (.slice none 0 0) (.slice none 0 0) (.slice none 0 0) (.slice none 0 0) (.slice none 0 0)⟩, ⟨some ⟨b2, 0, none⟩, 1, 1, 63, 9, .slice ad2 [(C.length : Int)].length cp2 :: vecCells vC.kind wv2 nv2 sm2 il2 fl2 ch2 bx2⟩, ⟨some ⟨b1, 0, none⟩, 1, 1, 63, 9, .slice ad [(N.length : Int)].length cp :: vecCells vN.kind wv nv sm il fl ch bx⟩] w') ?_ ?_
      · by_cases c1 : j + 1 < l.length
        · by_cases c2 : 0 < l.getD (j + 1) 0
          · have c3 : ¬ l.getD (j + 1) 0 ≤ l.getD j 0 := fun e => c ⟨c1, c2, e⟩
            refine CW.regionQ T hs (Zeqrun ?_) (by kernel_rfl)
            intro w10 hs
            refine joinQ_meet () ⟨rfl, rfl, rfl, rfl, rfl, rfl, rfl, rfl, ?_, trivial⟩ hs
            exact setb (decide_eq_false (by omega))
          · refine CW.regionQ T hs (Zeqrun ?_) (by kernel_rfl)
            intro w10 hs
            refine joinQ_meet () ⟨rfl, rfl, rfl, rfl, rfl, rfl, rfl, rfl, ?_, trivial⟩ hs
            first | rfl | exact setb (decide_eq_false (by omega))
        · refine CW.regionQ T hs (Zeqrun ?_) (by kernel_rfl)
          intro w10 hs
          refine joinQ_meet () ⟨rfl, rfl, rfl, rfl, rfl, rfl, rfl, rfl, ?_, trivial⟩ hs
          first | rfl | exact setb (decide_eq_false (by omega))
      rintro _ w10 hs
      refine Zerun ?_
      by_cases c4 : 0 < l.getD fr 0
      · rw [if_pos c4] at hst
        have hfl : fr < l.length := by omega
        refine Zerun ?_
        (refine RW.call T hs rfl rfl rfl (flatCut_con (ArrAt.mono 1) (ArrAt.one 1) (ArrAt.siz 1) (blankA 0) (fun w h => flatBlank_con (ArrAt.mono 0) (ArrAt.one 0) w h) _ vC (fr : Int) ((j + 1 : Nat) : Int) _ _ hv2' (by omega) hCk) ?_; intro v h20 w20 hle20 hp20 hs)
        obtain ⟨cs20, rfl, hv20⟩ := hp20
        rw [hCl, cutA_of (by omega), cutB_of (by omega) (by omega), ← hvC, pick_text C fr (j + 1) (by omega) (by omega)] at hv20
        refine Zerun ?_
        (refine RW.call T hs rfl rfl rfl (valueList_con (ArrAt.mono 1) _ _ _ _ hv20 (by have := segT_len C (fr, j + 1); show 0 + (segT C (fr, j + 1)).length + 0 ≤ _; omega)) ?_; intro v h21 w21 hle21 hp21 hs)
        obtain ⟨cs21, rfl, ha21⟩ := hp21
        rw [sq_text] at ha21
        have ha21' : ArrAt 2 h21 cs21 (textA 1 (segT C (fr, j + 1))) := by
          obtain ⟨s21, v21, e21, hi21, hv21⟩ := ha21
          refine ⟨s21, v21, e21, ?_, hv21⟩
          have : ((VecD.len (⟨5, [], (C.drop fr).take (j + 1 - fr), []⟩ : VecD (AD 1)) : Nat) : Int) = ((segT C (fr, j + 1)).length : Int) := by
            show ((0 + (segT C (fr, j + 1)).length + 0 : Nat) : Int) = _
            rw [Nat.zero_add, Nat.add_zero]
          rw [this] at hi21
          exact hi21
        have ho21 := ArrAt.one 2 _ _ _ ha21'
        have hl21 := ArrAt.siz 2 _ _ _ ha21'
        (refine RW.lit T hs (vs := [.agg cs21.toArray]) (cs := cs21) rfl rfl rfl rfl (by simp [Value.cells, hl21]) rfl (by simp [Value.cells]) rfl rfl rfl ?_; intro b22 w22 hs)
        (refine RW.append T hs 1 rfl rfl (m := 1) (news := cs21) rfl rfl rfl rfl rfl rfl (hs.src0 (by simpa using hl21) ho21) (by simp) (by dsimp only; omega) (by omega) ?_; intro ad23 cp23 w23 hs; replace hs := hs.drop)
        refine Zerun ?_
        refine loopQ_round (j + 1, n + 1, j + 1, (ad23, cp23), xs ++ cs21, h21) ⟨rfl, rfl, rfl, rfl, rfl, rfl, rfl, seti (by dsimp only; omega), trivial⟩ ⟨by dsimp only; omega, ?_, ?_, (hg.trans hle20).trans hle21, ?_, hs⟩ (by dsimp only; omega)
        · dsimp only; rw [hst, List.length_append, ← hn]; rfl
        · dsimp only; rw [hst]
        · dsimp only; rw [hst, List.map_append]
          exact (hA.mono (fun u a hv => ArrAt.mono 2 _ _ _ _ (hle20.trans hle21) hv)).append (AllN.one hl21 ha21')
      · rw [if_neg c4] at hst
        have hfl : fr < l.length := by omega
        refine Zerun ?_
        refine loopQ_round (j + 1, n, j + 1, (ab, cb), xs, hh) ⟨rfl, rfl, rfl, rfl, rfl, rfl, rfl, seti (by dsimp only; omega), trivial⟩ ⟨by dsimp only; omega, ?_, ?_, hg, ?_, hs⟩ (by dsimp only; omega)
        · dsimp only; rw [hst]; exact hn
        · dsimp only; rw [hst]
        · dsimp only; rw [hst]; exact hA
  obtain rfl : j = l.length := by omega
  obtain ⟨h9, hle9, hs, hS9⟩ := hs.freeze
  have hlen : n = ((segs l).map fun s => textA 1 (segT C s)).length := by rw [List.length_map]; exact hn
  have hRows : RowsAt 9 (ArrAt 2 h9) h9 (.slice ab n cb) ((segs l).map fun s => textA 1 (segT C s)) := ⟨ab, cb, xs, by rw [hlen], by rw [hlen] at hS9; exact hS9, hA.mono (fun u a hv => ArrAt.mono 2 _ _ _ _ hle9 hv)⟩
  refine Zerun ?_
  (refine RW.call T hs rfl rfl rfl (vecBoxes_con (ArrAt.mono 2) (ArrAt.one 2) _ _ _ _ hRows (by rw [← hlen]; omega)) ?_; intro v h10 w10 hle10 hp10 hs)
  obtain ⟨cs10, rfl, hv10⟩ := hp10
  refine Zerun ?_
  (refine RW.call T hs rfl rfl rfl (valueList_con (ArrAt.mono 2) _ _ _ _ hv10 (by show 0 + 0 + ((segs l).map fun s => textA 1 (segT C s)).length ≤ _; rw [← hlen]; omega)) ?_; intro v h11 w11 hle11 hp11 hs)
  obtain ⟨cs11, rfl, ha11⟩ := hp11
  rw [sq_boxes] at ha11
  have ha11' : ArrAt 3 h11 cs11 (partsA l C) := by
    obtain ⟨s11, v11, e11, hi11, hv11⟩ := ha11
    refine ⟨s11, v11, e11, ?_, hv11⟩
    have : ((VecD.len (⟨6, [], [], (segs l).map fun s => textA 1 (segT C s)⟩ : VecD (AD 2)) : Nat) : Int) = ((segs l).length : Int) := by
      show ((0 + 0 + ((segs l).map fun s => textA 1 (segT C s)).length : Nat) : Int) = _
      simp only [List.length_map, Nat.zero_add]
    rw [this] at hi11
    exact hi11
  refine Zerun ?_
  (refine RW.call T hs rfl rfl rfl (deep_con 2 _ _ _ _ ha11' (partsA_good l C (by omega) (by omega))) ?_; intro v h12 w12 hle12 hp12 hs)
  obtain ⟨cs12, rfl, ha12⟩ := hp12
  have ha12' := ha12
  obtain ⟨s12, vc12, rfl, ⟨ad12, cap12, rfl, _⟩, hv12⟩ := ha12
  obtain ⟨wv3, nv3, sm3, il3, fl3, ch3, bx3, ⟨rfl, hoc3⟩, _⟩ := hv12
  refine Zerun ?_
  refine RW.storeAll T hs 0 rfl rfl rfl rfl rfl rfl (show (Value.oneCell' (.slice ad12 _ cap12) && (vecCells (ArrD.vec (α := AD 2) (partsA l C)).kind wv3 nv3 sm3 il3 fl3 ch3 bx3).all Value.oneCell') = true by rw [hoc3]; rfl) rfl ?_
  intro w13 hs
  refine Zerun ?_
  exact retQ_ret [_, _] h12 ⟨resN T hs 0 rfl rfl rfl rfl rfl rfl, rfl, trivial⟩ hs.dropAll ⟨_, rfl, ha12'⟩
end Go.Proofs.Ythbfkhklihejiaa

/-
  Contracts of functions of package shape and of its reference, third part: places and indexes. No statement is proved here.
-/
namespace Go.Proofs.Ythbfkhklihejiaa
open Go Go.RowKit
set_option linter.unusedVariables false
set_option linter.unusedSimpArgs false
set_option maxHeartbeats 4000000
attribute [local irreducible] CW RW QW SW HW ConM retM heldQ calmQ elemP thenQ blockQ loopQ joinQ retQ Yields Con Sl

theorem at_con (s t : Value) (l m : List Int) (w : World) (h : GHeap) (hl : IntsAt h s l) (ht : IntsAt h t m) (hm : l.length ≤ 9223372036854775807) : Con Try.prog 27 [s, t] w h
    (fun _ v => v = .tuple #[.int .i64 (atSpec l m).1, .bool (atSpec l m).2]) := by
  have hl' := hl
  obtain ⟨ad, cp, rfl, hS⟩ := hl
  obtain ⟨ad2, cp2, rfl, hS2⟩ := ht
  refine Con.of_body Try.func27 rfl Try.ntmps27 rfl rfl ?_
  intro hs
  refine Zrun ?_
  (refine RW.call T hs rfl rfl rfl (good_con _ l _ _ hl' hm) ?_; intro v h1 w1 hle1 hp1 hs)
  subst hp1
  have hS := hS.mono hle1
  have hS2 := hS2.mono hle1
  refine Zrun ?_
  refine RW.gd rfl rfl (fun hg => ?_) (fun hg => ?_)
  · refine Zrun ?_
    exact retQ_ret [_, _] h1 ⟨rfl, rfl, trivial⟩ hs (by simp [packv, at_bad l m hg])
  have hg := Decidable.of_not_not hg
  refine Zrun ?_
  refine CW.condD rfl (fun h8 => ?_) (fun h8 => ?_)
  · refine Zrun ?_
    exact retQ_ret [_, _] h1 ⟨rfl, rfl, trivial⟩ hs (by simp [packv, at_len l m (by omega)])
  have hlen : l.length = m.length := by omega
  refine Zrun ?_
  refine CW.loop (fun k : Nat => [(0, .slice ad l.length cp), (1, .slice ad2 m.length cp2), (6, .int .i64 (off (l.take k) (m.take k))), (19, .slice ad l.length cp), (20, .int .i64 l.length), (21, .int .i64 k)]) (fun k w' => k ≤ l.length ∧ (∀ j, j < k → 0 ≤ m.getD j 0 ∧ m.getD j 0 < l.getD j 0) ∧ Sees w h h1 [] w') (fun k => l.length - k) 0 ⟨rfl, rfl, by simp [off]; rfl, rfl, rfl, rfl, trivial⟩ ⟨by omega, by omega, hs⟩ ?_
  rintro k w' ⟨hk, hno, hs⟩
  have hob := off_take_bound l m k hg hk hlen hno
  by_cases hlt : k < l.length
  · have hgd := good_getD l hg k hlt
    have hsn := off_take_succ l m k hlen hlt
    have hmb := mul_bound ⟨hob.1, by omega⟩ hgd
    refine Zrun ?_
    refine RW.gd rfl rfl (fun h2 => ?_) (fun h2 => ?_)
    · refine Zrun ?_
      exact retQ_ret [_, _] h1 ⟨rfl, rfl, trivial⟩ hs (by simp [packv, at_out l m k hlt (by omega)])
    · refine Zrun ?_
      refine CW.condD rfl (fun h3 => ?_) (fun h3 => ?_)
      · refine Zrun ?_
        exact retQ_ret [_, _] h1 ⟨rfl, rfl, trivial⟩ hs (by simp [packv, at_out l m k hlt (by omega)])
      · refine Zrun ?_
        refine RW.val (Y.mul rfl rfl ⟨by omega, by omega⟩) rfl ?_
        refine Zrun ?_
        refine loopQ_round (k + 1) ⟨rfl, rfl, by rw [hsn]; rfl, rfl, rfl, rfl, trivial⟩ ⟨by omega, ?_, hs⟩ (by omega)
        intro j hj
        by_cases e : j = k
        · subst e; omega
        · exact hno j (by omega)
  obtain rfl : k = l.length := by omega
  refine Zrun ?_
  refine retQ_ret [_, _] h1 ⟨rfl, rfl, trivial⟩ hs ?_
  rw [List.take_of_length_le (Nat.le_refl _), List.take_of_length_le (by omega)]
  simp [packv, at_in l m hg hlen hno]

theorem place_con (s t : Value) (l m : List Int) (w : World) (h : GHeap) (hl : IntsAt h s l) (ht : IntsAt h t m) (hm : l.length ≤ 9223372036854775807) : Con Try.prog 28 [s, t] w h
    (fun _ v => v = .int .i64 (if (atSpec l m).2 = true then (atSpec l m).1 else -1)) := by
  have hl' := hl
  obtain ⟨ad, cp, rfl, hS⟩ := hl
  obtain ⟨ad2, cp2, rfl, hS2⟩ := ht
  refine Con.of_body Try.func28 rfl Try.ntmps28 rfl rfl ?_
  intro hs
  refine Zrun ?_
  (refine RW.call T hs rfl rfl rfl (refGood_con _ l _ _ hl' hm) ?_; intro v h1 w1 hle1 hp1 hs)
  subst hp1
  have hS := hS.mono hle1
  have hS2 := hS2.mono hle1
  refine Zrun ?_
  refine RW.gd rfl rfl (fun hg => ?_) (fun hg => ?_)
  · refine Zrun ?_
    exact retQ_ret [_] h1 ⟨rfl, trivial⟩ hs (by simp [packv, at_bad l m hg])
  have hg := Decidable.of_not_not hg
  refine Zrun ?_
  refine CW.condD rfl (fun h8 => ?_) (fun h8 => ?_)
  · refine Zrun ?_
    exact retQ_ret [_] h1 ⟨rfl, trivial⟩ hs (by simp [packv, at_len l m (by omega)])
  have hlen : l.length = m.length := by omega
  refine Zrun ?_
  refine CW.loop (fun k : Nat => [(0, .slice ad l.length cp), (1, .slice ad2 m.length cp2), (5, .int .i64 (off (l.drop k) (m.drop k))), (6, .int .i64 (prn (l.drop k))), (7, .int .i64 ((k : Int) - 1))]) (fun k w' => k ≤ l.length ∧ (∀ j, k ≤ j → j < l.length → 0 ≤ m.getD j 0 ∧ m.getD j 0 < l.getD j 0) ∧ Sees w h h1 [] w') (fun k => k) l.length ⟨rfl, rfl, by simp [off]; rfl, by simp [prn]; rfl, rfl, trivial⟩ ⟨by omega, by omega, hs⟩ ?_
  rintro k w' ⟨hk, hno, hs⟩
  have hob := off_drop_bound l m k hg hlen hno
  rcases k with _ | k
  · refine Zrun ?_
    refine retQ_ret [_] h1 ⟨rfl, trivial⟩ hs ?_
    simp [packv, at_in l m hg hlen (fun j hj => hno j (by omega) hj)]
  · have e1 : ((k + 1 : Nat) : Int) - 1 = (k : Int) := by omega
    rw [e1]
    have hgd := good_getD l hg k (by omega)
    refine Zrun ?_
    refine CW.regionQ T hs (Zqrun ?_) (by kernel_rfl)
    refine QW.gd rfl rfl (fun h2 => ?_) (fun h2 => ?_)
    · repeat
        first | with_reducible refine QW.nil ?_ | refine Qz ?_ rfl | refine QW.guardYes rfl rfl ?_ | refine QW.guardNo rfl rfl rfl rfl ?_ | refine QW.guardUndef rfl rfl rfl ?_ | (refine QW.gdY rfl rfl ?_ ?_; omega) | (refine QW.gdN rfl rfl ?_ ?_; omega)
      intro w' hs
      refine Zrun ?_
      exact retQ_ret [_] h1 ⟨rfl, trivial⟩ hs (by simp [packv, at_out l m k (by omega) (by omega)])
    · repeat
        first | with_reducible refine QW.nil ?_ | refine Qz ?_ rfl | refine QW.guardYes rfl rfl ?_ | refine QW.guardNo rfl rfl rfl rfl ?_ | refine QW.guardUndef rfl rfl rfl ?_ | (refine QW.gdY rfl rfl ?_ ?_; omega) | (refine QW.gdN rfl rfl ?_ ?_; omega)
      intro w' hs
      refine Zrun ?_
      refine CW.condD rfl (fun h3 => ?_) (fun h3 => ?_)
      · refine Zrun ?_
        exact retQ_ret [_] h1 ⟨rfl, trivial⟩ hs (by simp [packv, at_out l m k (by omega) (by omega)])
      · have hmb := mul_bound (a := prn (l.drop (k + 1))) (b := m.getD k 0) (by omega) (by omega)
        have hmb2 := mul_bound (a := prn (l.drop (k + 1))) (b := l.getD k 0) (by omega) (by omega)
        refine Zrun ?_
        refine RW.val (Y.mul rfl rfl ⟨by omega, by omega⟩) rfl ?_
        refine Zrun ?_
        refine RW.val (Y.mul rfl rfl ⟨by omega, by omega⟩) rfl ?_
        refine Zrun ?_
        refine loopQ_round k ⟨rfl, rfl, seti (by rw [off_drop l m k hlen (by omega), Int.mul_comm, Int.add_comm]), seti (by rw [prn_drop l k (by omega), Int.mul_comm]), rfl, trivial⟩ ⟨by omega, ?_, hs⟩ (by omega)
        intro j hj hj2
        by_cases e : j = k
        · subst e; omega
        · exact hno j (by omega) hj2
end Go.Proofs.Ythbfkhklihejiaa

/-
  Contracts of functions of package shape and of its reference, fourth part: new shapes. No statement is proved here.
-/
namespace Go.Proofs.Ythbfkhklihejiaa
open Go Go.RowKit
set_option linter.unusedVariables false
set_option linter.unusedSimpArgs false
set_option maxHeartbeats 4000000
attribute [local irreducible] CW RW QW SW HW ConM retM heldQ calmQ elemP thenQ blockQ loopQ joinQ retQ Yields Con Sl

/-- a clone of a slice of int: the caller's own -/
theorem cloneInt_conM (ad : Option Addr) (cp : Nat) (l : List Int) (w0 w : World) (h0 h : GHeap) (O : List Row) (hS : Sl h 1 ad l.length cp (l.map (Value.int .i64))) (hm : l.length ≤ 17592186044416) :
    ConM Try.prog 112 [.slice ad l.length cp] w0 h0 h O w (fun h' O' v => h' = h ∧ ∃ ad' cp', v = .slice ad' l.length cp' ∧ O' = ⟨ad', l.length, cp', 3, 1, l.map (Value.int .i64)⟩ :: O) := by
  refine ConM.of_body Try.func112 rfl Try.ntmps112 rfl rfl ?_
  intro hs
  refine Zrun ?_
  refine RW.val (Y.sliceNil T rfl rfl rfl) rfl ?_
  refine Zrun ?_
  cases ad with
  | none =>
    have h4 : l = [] := List.eq_nil_of_length_eq_zero hS.nil0.1
    subst h4
    refine Zrun ?_
    exact retM_ret [_] h _ ⟨rfl, trivial⟩ (GLe.refl _) (hs.nilRow 3 1) ⟨rfl, none, 0, rfl, rfl⟩
  | some p =>
    refine Zrun ?_
    (refine RW.lit T hs (vs := []) rfl rfl rfl rfl (by simp [Value.cells]) rfl rfl rfl rfl rfl ?_; intro b1 w1 hs)
    refine Zrun ?_
    refine RW.append T hs 0 rfl rfl (m := l.length) (news := l.map (Value.int .i64)) rfl rfl rfl rfl rfl rfl (hS.src hs.agree (one_ints _ _)) (by simp) (by dsimp only; omega) (by omega) ?_
    intro ad' cp' w2 hs
    refine Zrun ?_
    exact retM_ret [_] h _ ⟨rfl, trivial⟩ (GLe.refl _) hs ⟨rfl, ad', cp', by rw [Nat.zero_add]; rfl, by simp⟩

theorem equalInt_con (s t : Value) (l m : List Int) (w : World) (h : GHeap) (hl : IntsAt h s l) (ht : IntsAt h t m) (hm : l.length ≤ 9223372036854775807) : Con Try.prog 114 [s, t] w h (fun _ v => v = .bool (decide (l = m))) := by
  obtain ⟨ad, cp, rfl, hS⟩ := hl
  obtain ⟨ad2, cp2, rfl, hS2⟩ := ht
  refine Con.of_body Try.func114 rfl Try.ntmps114 rfl rfl ?_
  intro hs
  refine Zrun ?_
  refine CW.condD rfl (fun h8 => ?_) (fun h8 => ?_)
  · refine Zrun ?_
    refine retQ_ret [_] h ⟨rfl, trivial⟩ hs ?_
    have : l ≠ m := fun e => h8 (by rw [e])
    simp [packv, this]
  have hlen : l.length = m.length := by omega
  refine Zrun ?_
  refine CW.loop (fun k : Nat => [(0, .slice ad l.length cp), (1, .slice ad2 m.length cp2), (12, .int .i64 l.length), (13, .int .i64 k)]) (fun k w' => k ≤ l.length ∧ (∀ j, j < k → l.getD j 0 = m.getD j 0) ∧ Sees w h h [] w') (fun k => l.length - k) 0 ⟨rfl, rfl, rfl, rfl, trivial⟩ ⟨by omega, by omega, hs⟩ ?_
  rintro k w' ⟨hk, hno, hs⟩
  by_cases hlt : k < l.length
  · refine Zrun ?_
    refine CW.regionQ T hs (Zqrun ?_) (by kernel_rfl)
    intro w' hs
    refine Zrun ?_
    refine CW.condD rfl (fun h2 => ?_) (fun h2 => ?_)
    · refine Zrun ?_
      refine retQ_ret [_] h ⟨rfl, trivial⟩ hs ?_
      have : l ≠ m := fun e => h2 (by rw [e])
      simp [packv, this]
    · refine Zrun ?_
      refine loopQ_round (k + 1) ⟨rfl, rfl, rfl, rfl, trivial⟩ ⟨by omega, ?_, hs⟩ (by omega)
      intro j hj
      by_cases e : j = k
      · subst e; exact Decidable.of_not_not h2
      · exact hno j (by omega)
  obtain rfl : k = l.length := by omega
  refine Zrun ?_
  refine retQ_ret [_] h ⟨rfl, trivial⟩ hs ?_
  have : l = m := by
    apply List.ext_getElem hlen
    intro j h1 h2
    have := hno j h1
    simpa [List.getD_eq_getElem?_getD, h1, h2] using this
  simp [packv, this]

theorem same_con (s t : Value) (l m : List Int) (w : World) (h : GHeap) (hl : IntsAt h s l) (ht : IntsAt h t m) (hm : l.length ≤ 9223372036854775807) : Con Try.prog 37 [s, t] w h (fun _ v => v = .bool (decide (l = m))) := by
  refine Con.of_body Try.func37 rfl Try.ntmps37 rfl rfl ?_
  intro hs
  refine Zrun ?_
  (refine RW.call T hs rfl rfl rfl (equalInt_con s t l m _ _ hl ht hm) ?_; intro v h1 w1 hle1 hp1 hs)
  subst hp1
  refine Zrun ?_
  exact retQ_ret [_] h1 ⟨rfl, trivial⟩ hs rfl

/-- the indexes of a place: made -/
theorem index_con (s : Value) (l : List Int) (a : Int) (w : World) (h : GHeap) (hl : IntsAt h s l) (hm : l.length ≤ 9223372036854775807) : Con Try.prog 29 [s, .int .i64 a] w h
    (fun h' v => ∃ u, v = .tuple #[u, .bool (indexSpec l a).2] ∧ IntsAt h' u (indexSpec l a).1) := by
  have hl' := hl
  obtain ⟨ad, cp, rfl, hS⟩ := hl
  refine Con.of_body Try.func29 rfl Try.ntmps29 rfl rfl ?_
  intro hs
  refine Zrun ?_
  (refine RW.call T hs rfl rfl rfl (product_con _ l 1048576 _ _ hl' hm) ?_; intro v h1 w1 hle1 hp1 hs)
  subst hp1
  have hS := hS.mono hle1
  have bad : ¬ (goodS l = true ∧ 0 ≤ a ∧ a < (product l 1048576).1) → indexSpec l a = ([], false) := fun hn => by unfold indexSpec; rw [if_neg hn]
  refine Zrun ?_
  refine RW.gd rfl rfl (fun hg => ?_) (fun hg => ?_)
  · have hb := bad (fun e => hg ((goodS_iff l).1 e.1))
    refine Zrun ?_
    exact retQ_ret [_, _] h1 ⟨rfl, rfl, trivial⟩ hs (by rw [hb]; exact ⟨_, rfl, IntsAt.nil _⟩)
  have hg := Decidable.of_not_not hg
  refine Zrun ?_
  refine RW.gd rfl rfl (fun h2 => ?_) (fun h2 => ?_)
  · have hb := bad (fun e => by omega)
    refine Zrun ?_
    exact retQ_ret [_, _] h1 ⟨rfl, rfl, trivial⟩ hs (by rw [hb]; exact ⟨_, rfl, IntsAt.nil _⟩)
  refine Zrun ?_
  refine CW.condD rfl (fun h3 => ?_) (fun h3 => ?_)
  · have hb := bad (fun e => by omega)
    refine Zrun ?_
    exact retQ_ret [_, _] h1 ⟨rfl, rfl, trivial⟩ hs (by rw [hb]; exact ⟨_, rfl, IntsAt.nil _⟩)
  have hin : indexSpec l a = (idxOf l a, true) := by
    unfold indexSpec; rw [if_pos ⟨(goodS_iff l).2 hg, by omega, by omega⟩]
  obtain ⟨hpos, hprod⟩ := idx_pos l a ((goodS_iff l).2 hg) ⟨by omega, by omega⟩
  have hgs := (goodS_spec l).1 ((goodS_iff l).2 hg)
  have ha1 : a < 1048576 := by omega
  have ha0 : 0 ≤ a := by omega
  clear bad h2 h3
  refine Zrun ?_
  (refine RW.make T hs rfl rfl rfl rfl rfl ?_ ?_ ?_ ?_ ?_; omega; omega; (dsimp only; omega); omega; intro b2 w2 hs)
  refine Zrun ?_
  refine CW.loop (fun k : Nat => [(0, .slice ad l.length cp), (1, .int .i64 (a / prn (l.drop k))), (8, .slice (some ⟨b2, 0, none⟩) l.length l.length), (9, .int .i64 ((k : Int) - 1))]) (fun k w' => k ≤ l.length ∧ Sees w h h1 [⟨some ⟨b2, 0, none⟩, l.length, l.length, 3, 1, (List.replicate k 0 ++ (idxOf l a).drop k).map (Value.int .i64)⟩] w') (fun k => k) l.length ⟨rfl, seti (by simp [prn]), rfl, rfl, trivial⟩ ⟨by omega, hs.cast (by
    simp only [Int.toNat_natCast]
    rw [List.drop_of_length_le (by rw [length_idxOf]; omega), List.append_nil, List.map_replicate]
    exact congrArg (fun z => [Row.mk (some ⟨b2, 0, none⟩) l.length l.length 3 1 z]) (made_one _ _))⟩ ?_
  rintro k w' ⟨hk, hs⟩
  rcases k with _ | k
  · refine Zrun ?_
    obtain ⟨h3, hle3, hs3, hS3⟩ := hs.freeze
    simp only [List.replicate_zero, List.nil_append, List.drop_zero] at hS3
    exact retQ_ret [_, _] h3 ⟨rfl, rfl, trivial⟩ hs3 (by rw [hin]; exact ⟨_, rfl, IntsAt.of_sl hS3⟩)
  · have e1 : ((k + 1 : Nat) : Int) - 1 = (k : Int) := by omega
    rw [e1]
    have hd := hpos (l.getD k 0) (by simp [List.getD_eq_getElem?_getD, show k < l.length by omega])
    have hpd := prn_pos (l.drop (k + 1)) (fun x hx => hpos x (List.mem_of_mem_drop hx))
    have hq0 : 0 ≤ a / prn (l.drop (k + 1)) := Int.ediv_nonneg ha0 (by omega)
    have hq1 : a / prn (l.drop (k + 1)) ≤ a := Int.ediv_le_self _ ha0
    refine Zrun ?_
    refine RW.val (Y.idxRN T hs 0 rfl rfl rfl rfl rfl rfl ?_) rfl ?_
    · omega
    refine RW.st1 T hs 0 rfl rfl rfl rfl rfl rfl rfl (by omega) ?_
    intro w2 hs
    refine Zrun ?_
    refine loopQ_round k ⟨rfl, seti (by rw [prn_drop l k (by omega), Int.mul_comm, Int.ediv_ediv_of_nonneg (by omega)]), rfl, rfl, trivial⟩ ⟨by omega, hs.cast ?_⟩ (by omega)
    rw [map_set_int]
    refine congrArg (fun (z : List Int) => [Row.mk (some ⟨b2, 0, none⟩) l.length l.length 3 1 (z.map (Value.int .i64))]) ?_
    rw [List.replicate_succ', List.append_assoc, List.set_append_right _ _ (by simp)]
    simp only [List.length_replicate, Nat.sub_self]
    rw [drop_pred (idxOf l a) k (by rw [length_idxOf]; omega), getD_idxOf l a k (by omega)]
    simp
end Go.Proofs.Ythbfkhklihejiaa

/-
  Contracts of functions of package value: whether arrays, and elements, are alike. No statement is proved here.
-/
namespace Go.Proofs.Ythbfkhklihejiaa
open Go Go.RowKit
set_option linter.unusedVariables false
set_option linter.unusedSimpArgs false
set_option maxHeartbeats 4000000
attribute [local irreducible] CW RW QW SW HW ConM retM heldQ calmQ elemP thenQ blockQ loopQ joinQ retQ Yields Con Sl zF magR unitF truncF fwF wholeF tidySpec elemQ rankF leastN tidyW

section
variable {α β : Type} {R : GHeap → List Value → α → Prop}
theorem itemsV_num (f : α → β) {v : VecD α} {i : Nat} (hc : v.cls = 0) (hi : i < v.nums.length) : (itemsV f v).getD i noItem = ⟨0, v.num i, 0, []⟩ := by
  unfold itemsV; rw [if_neg (by omega), if_neg (by omega), getD_map' _ _ _ _ hi]
  unfold VecD.num; rw [if_pos (by omega), Int.toNat_natCast, List.getD_eq_getElem?_getD, List.getElem?_eq_getElem hi]; rfl
theorem itemsV_chr (f : α → β) {v : VecD α} {i : Nat} (hc : v.cls = 1) (hi : i < v.chars.length) : (itemsV f v).getD i noItem = ⟨1, 0, v.chr i, []⟩ := by
  unfold itemsV; rw [if_pos hc, getD_map' _ _ _ _ hi]
  unfold VecD.chr; rw [if_pos (by omega), Int.toNat_natCast, List.getD_eq_getElem?_getD, List.getElem?_eq_getElem hi]; rfl
theorem itemsV_box (f : α → β) {v : VecD α} {i : Nat} (hc : v.cls = 2) (hi : i < v.boxes.length) : (itemsV f v).getD i noItem = ⟨2, 0, 0, [f v.boxes[i]]⟩ := by
  unfold itemsV; rw [if_neg (by omega), if_pos hc, getD_map' _ _ _ _ hi]
theorem itemsV_kind (f : α → β) {h : GHeap} {cs : List Value} {v : VecD α} (hv : VecAt R h cs v) {i : Nat} (hi : i < v.len) : ((itemsV f v).getD i noItem).kind = v.cls := by
  rcases hv.sorts with ⟨hc, hn⟩ | ⟨hc, hn⟩ | ⟨hc, hn⟩
  · rw [itemsV_num f hc (by omega), hc]
  · rw [itemsV_chr f hc (by omega), hc]
  · rw [itemsV_box f hc (by omega), hc]
theorem alike_step (hR : Mono R) (h1 : One R) (f : α → β) (q : α → Prop) (ih : ∀ cs cs' a b w h, R h cs a → R h cs' b → q a → q b → Con Try.prog 69 [.agg cs.toArray, .agg cs'.toArray] w h (fun _ u => u = .bool (eqB (f a) (f b))))
    (cs cs' : List Value) (a b : VecD α) (i j : Nat) (w : World) (h : GHeap) (ha : VecAt R h cs a) (hb : VecAt R h cs' b) (hi : i < a.len) (hj : j < b.len) (qa : ∀ x ∈ a.boxes, q x) (qb : ∀ x ∈ b.boxes, q x) :
    Con Try.prog 70 [.agg cs.toArray, .int .i64 i, .agg cs'.toArray, .int .i64 j] w h (fun _ u => u = .bool (eqB ((itemsV f a).getD i noItem) ((itemsV f b).getD j noItem))) := by
  have ha' := ha
  have hb' := hb
  obtain ⟨wv, nv, sm, il, fl, ch, bx, ⟨rfl, hoc⟩, hka⟩ := ha
  obtain ⟨wv', nv', sm', il', fl', ch', bx', ⟨rfl, hoc'⟩, hkb⟩ := hb
  clear hka hkb
  refine Con.of_body Try.func70 rfl Try.ntmps70 rfl rfl ?_
  intro hs
  refine Zrun ?_
  (refine RW.boxN hs rfl rfl ?_; intro b1 w1 hs)
  refine Zerun ?_
  (refine RW.boxN hs rfl rfl ?_; intro b2 w2 hs)
  refine Zerun ?_
  refine CW.regionQ T hs (Zeqrun ?_) (by kernel_rfl)
  refine QW.call T hs rfl rfl rfl (fun w => vecClass_con _ a w _ ha') ?_
  refine Zeqrun ?_
  refine QW.call T hs rfl rfl rfl (fun w => vecClass_con _ b w _ hb') ?_
  refine Zeqrun ?_
  intro w3 hs
  by_cases c1 : a.cls ≠ b.cls
  · refine Zerun ?_
    refine retQ_ret [_] h ⟨rfl, trivial⟩ hs.dropAll ?_
    rw [eqB_not]
    · rfl
    · intro e
      have := congrArg ItemD.kind e
      rw [itemsV_kind f ha' hi, itemsV_kind f hb' hj] at this
      exact c1 this
  refine Zerun ?_
  (refine RW.call T hs rfl rfl rfl (vecClass_con _ a _ _ ha') ?_; intro v h4 w4 hle4 hp4 hs)
  subst hp4
  have ha' := ha'.mono hR hle4
  have hb' := hb'.mono hR hle4
  refine Zerun ?_
  rcases ha'.sorts with ⟨hc, hn⟩ | ⟨hc, hn⟩ | ⟨hc, hn⟩
  · have hnb : b.len = b.nums.length := by rcases hb'.sorts with ⟨e, e2⟩ | ⟨e, _⟩ | ⟨e, _⟩ <;> omega
    rw [itemsV_num f hc (by omega), itemsV_num f (by omega) (by omega)]
    have ta : tidyF (a.num i) := by unfold VecD.num; rw [if_pos (by omega), Int.toNat_natCast]; exact ha'.tidy _ (mem_getD _ _ _ (by omega))
    have tb : tidyF (b.num j) := by unfold VecD.num; rw [if_pos (by omega), Int.toNat_natCast]; exact hb'.tidy _ (mem_getD _ _ _ (by omega))
    refine Zerun ?_
    refine CW.regionQ T hs (Zeqrun ?_) (by kernel_rfl)
    refine QW.call T hs rfl rfl rfl (fun w => vecNum_con _ a i w _ ha') ?_
    refine Zeqrun ?_
    refine QW.call T hs rfl rfl rfl (fun w => vecNum_con _ b j w _ hb') ?_
    refine QW.val (fun _ _ => Y.fEql ta.2.1 tb.2.1 rfl rfl) rfl ?_
    refine Zeqrun ?_
    intro w5 hs
    refine Zerun ?_
    refine retQ_ret [_] h4 ⟨rfl, trivial⟩ hs.dropAll ?_
    show Value.bool _ = Value.bool _
    congr 1
    by_cases e : a.num i = b.num j
    · rw [decide_eq_true (by rw [e]), eqB_of (by rw [e])]
    · rw [decide_eq_false (fun e' => e (zF_inj ta tb e')), eqB_not (fun e' => e (by injection e'))]
  · have hnb : b.len = b.chars.length := by rcases hb'.sorts with ⟨e, _⟩ | ⟨e, e2⟩ | ⟨e, _⟩ <;> omega
    rw [itemsV_chr f hc (by omega), itemsV_chr f (by omega) (by omega)]
    refine Zerun ?_
    refine CW.regionQ T hs (Zeqrun ?_) (by kernel_rfl)
    refine QW.call T hs rfl rfl rfl (fun w => vecChar_con _ a i w _ ha') ?_
    refine Zeqrun ?_
    refine QW.call T hs rfl rfl rfl (fun w => vecChar_con _ b j w _ hb') ?_
    refine Zeqrun ?_
    intro w5 hs
    refine Zerun ?_
    refine retQ_ret [_] h4 ⟨rfl, trivial⟩ hs.dropAll ?_
    show Value.bool _ = Value.bool _
    congr 1
    by_cases e : a.chr i = b.chr j
    · rw [decide_eq_true e, eqB_of (by rw [e])]
    · rw [decide_eq_false e, eqB_not (fun e' => e (by injection e'))]
  · have hnb : b.len = b.boxes.length := by rcases hb'.sorts with ⟨e, _⟩ | ⟨e, _⟩ | ⟨e, e2⟩ <;> omega
    have hia : i < a.boxes.length := by omega
    have hjb : j < b.boxes.length := by omega
    rw [itemsV_box f hc hia, itemsV_box f (by omega) hjb]
    refine Zerun ?_
    refine CW.regionO T hs ?_
    intro w5 hs
    refine HW.takeS (fuel := 7) 0 rfl (fun _ _ hs => Y.loadRowN T hs 1 rfl rfl rfl rfl rfl rfl rfl) hs rfl (by kernel_rfl) (by kernel_rfl) (by kernel_rfl) ?_
    refine HW.takeS (fuel := 6) 1 rfl (fun _ _ hs => Y.move rfl) hs rfl (by kernel_rfl) (by kernel_rfl) (by kernel_rfl) ?_
    refine HW.takeS (fuel := 5) 3 rfl (fun _ _ hs => Y.loadRowN T hs 0 rfl rfl rfl rfl rfl rfl rfl) hs rfl (by kernel_rfl) (by kernel_rfl) (by kernel_rfl) ?_
    refine HW.takeS (fuel := 4) 4 rfl (fun _ _ hs => Y.move rfl) hs rfl (by kernel_rfl) (by kernel_rfl) (by kernel_rfl) ?_
    refine HW.one (fuel := 3) 2 rfl (by kernel_rfl) ?_
    (refine RW.call T hs rfl rfl rfl (vecBox_con hR h1 _ a i a.boxes[i] _ _ ha' hia) ?_; intro v h29 w29 hle29 hp29 hs)
    obtain ⟨cs29, rfl, _, hR29⟩ := hp29
    rw [List.getD_eq_getElem?_getD, List.getElem?_eq_getElem hia] at hR29
    have hb' := hb'.mono hR hle29
    refine RW.nil ?_
    refine heldQ_normal ⟨_, hs⟩ ?_
    refine HW.one (fuel := 2) 5 rfl (by kernel_rfl) ?_
    (refine RW.call T hs rfl rfl rfl (vecBox_con hR h1 _ b j b.boxes[j] _ _ hb' hjb) ?_; intro v h32 w32 hle32 hp32 hs)
    obtain ⟨cs32, rfl, _, hR32⟩ := hp32
    rw [List.getD_eq_getElem?_getD, List.getElem?_eq_getElem hjb] at hR32
    have hR29 := hR _ _ _ _ hle32 hR29
    refine RW.nil ?_
    refine heldQ_normal ⟨_, hs⟩ ?_
    refine HW.one (fuel := 1) 6 rfl (by kernel_rfl) ?_
    (refine RW.call T hs rfl rfl rfl (ih _ _ _ _ _ _ hR29 hR32 (qa _ (List.getElem_mem hia)) (qb _ (List.getElem_mem hjb))) ?_; intro v h33 w33 hle33 hp33 hs)
    subst hp33
    refine RW.nil ?_
    refine heldQ_normal ⟨_, hs⟩ ?_
    refine HW.takeS (fuel := 0) 7 rfl (fun _ _ hs => Y.assign rfl) hs rfl (by kernel_rfl) (by kernel_rfl) (by kernel_rfl) ?_
    refine HW.done (by kernel_rfl) ?_
    refine calmQ_normal ?_
    refine Zerun ?_
    refine retQ_ret [_] h33 ⟨rfl, trivial⟩ hs.dropAll ?_
    show Value.bool (eqB (f a.boxes[i]) (f b.boxes[j])) = _
    by_cases e : f a.boxes[i] = f b.boxes[j]
    · rw [eqB_of e, eqB_of (by rw [e])]
    · rw [eqB_not e, eqB_not (fun e' => e (by injection e' with _ _ _ e4; injection e4))]
theorem same_step (hR : Mono R) (f : α → β) (q : α → Prop) (ih : ∀ cs cs' a b i j w h, VecAt R h cs a → VecAt R h cs' b → i < a.len → j < b.len → (∀ x ∈ a.boxes, q x) → (∀ x ∈ b.boxes, q x) → Con Try.prog 70 [.agg cs.toArray, .int .i64 (i : Nat), .agg cs'.toArray, .int .i64 (j : Nat)] w h (fun _ u => u = .bool (eqB ((itemsV f a).getD i noItem) ((itemsV f b).getD j noItem))))
    (cs cs' : List Value) (a b : ArrD α) (w : World) (h : GHeap) (ha : ArrR R h cs a) (hb : ArrR R h cs' b) (qa : ∀ x ∈ a.vec.boxes, q x) (qb : ∀ x ∈ b.vec.boxes, q x) (hma : a.vec.len ≤ 1048576) :
    Con Try.prog 69 [.agg cs.toArray, .agg cs'.toArray] w h (fun _ u => u = .bool (eqB (plainA f a) (plainA f b))) := by
  obtain ⟨s, vc, rfl, hl, hv⟩ := ha
  obtain ⟨s2, vc2, rfl, hm, hu⟩ := hb
  have hl' := hl
  have hm' := hm
  obtain ⟨ad, cp, rfl, hS⟩ := hl
  obtain ⟨ad2, cp2, rfl, hS2⟩ := hm
  have hl3 : a.shape.length ≤ 9223372036854775807 := by have := hS.caps; omega
  have hv' := hv
  have hu' := hu
  have hila := itemsV_len f hv
  have hilb := itemsV_len f hu
  obtain ⟨wv, nv, sm, il, fl, ch, bx, ⟨rfl, hoc⟩, hka⟩ := hv
  obtain ⟨wv', nv', sm', il', fl', ch', bx', ⟨rfl, hoc'⟩, hkb⟩ := hu
  clear hka hkb
  refine Con.of_body Try.func69 rfl Try.ntmps69 rfl rfl ?_
  intro hs
  refine Zrun ?_
  (refine RW.boxN hs rfl rfl ?_; intro b1 w1 hs)
  (refine RW.boxN hs rfl rfl ?_; intro b2 w2 hs)
  refine Zerun ?_
  refine CW.meet (fun u : Bool => [(2, .pointer (some ⟨b1, 0, none⟩)), (3, .pointer (some ⟨b2, 0, none⟩)), (29, .bool u)]) (fun u w' => (u = true → ¬ (a.shape = b.shape ∧ a.vec.cls = b.vec.cls ∧ a.vec.len = b.vec.len)) ∧ (u = false → a.shape = b.shape ∧ a.vec.cls = b.vec.cls ∧ a.vec.len = b.vec.len) ∧ Sees w h h [⟨some ⟨b2, 0, none⟩, 1, 1, 63, 9, .slice ad2 b.shape.length cp2 :: vecCells b.vec.kind wv' nv' sm' il' fl' ch' bx'⟩, ⟨some ⟨b1, 0, none⟩, 1, 1, 63, 9, .slice ad a.shape.length cp :: vecCells a.vec.kind wv nv sm il fl ch bx⟩] w') ?_ ?_
  · refine CW.regionQ T hs (Zeqrun ?_) (by kernel_rfl)
    refine QW.call T hs rfl rfl rfl (fun w => same_con _ _ _ _ w _ hl' hm' hl3) ?_
    by_cases c1 : a.shape = b.shape
    · rw [decide_eq_true c1]
      refine Zeqrun ?_
      refine QW.call T hs rfl rfl rfl (fun w => vecClass_con _ a.vec w _ hv') ?_
      refine Zeqrun ?_
      refine QW.call T hs rfl rfl rfl (fun w => vecClass_con _ b.vec w _ hu') ?_
      by_cases c2 : a.vec.cls = b.vec.cls
      · refine Zeqrun ?_
        refine QW.call T hs rfl rfl rfl (fun w => vecLen_con _ a.vec w _ hv') ?_
        refine Zeqrun ?_
        refine QW.call T hs rfl rfl rfl (fun w => vecLen_con _ b.vec w _ hu') ?_
        refine Zeqrun ?_
        intro w3 hs
        refine joinQ_meet (decide ((a.vec.len : Int) ≠ b.vec.len)) ⟨rfl, rfl, rfl, trivial⟩ ⟨fun e g => ?_, fun e => ⟨c1, c2, ?_⟩, hs⟩
        · have := of_decide_eq_true e
          exact this (by rw [g.2.2])
        · have := of_decide_eq_false e
          omega
      · refine Zeqrun ?_
        intro w3 hs
        exact joinQ_meet true ⟨rfl, rfl, rfl, trivial⟩ ⟨fun _ g => c2 g.2.1, fun e => (by cases e), hs⟩
    · rw [decide_eq_false c1]
      refine Zeqrun ?_
      intro w3 hs
      exact joinQ_meet true ⟨rfl, rfl, rfl, trivial⟩ ⟨fun _ g => c1 g.1, fun e => (by cases e), hs⟩
  rintro u w3 ⟨hu1, hu0, hs⟩
  have hlens : ∀ v : ArrD α, (plainA f v).items = itemsV f v.vec := fun _ => rfl
  cases u with
  | true =>
    refine Zerun ?_
    refine retQ_ret [_] h ⟨rfl, trivial⟩ hs.dropAll ?_
    rw [eqB_not]
    · rfl
    · intro e
      refine hu1 rfl ⟨congrArg PlainD.shape e, congrArg PlainD.fill e, ?_⟩
      have := congrArg (fun p : PlainD β => p.items.length) e
      simp only [hlens, hila, hilb] at this
      exact this
  | false =>
    obtain ⟨e1, e2, e3⟩ := hu0 rfl
    refine Zerun ?_
    (refine RW.call T hs rfl rfl rfl (vecLen_con _ a.vec _ _ hv') ?_; intro v h4 w4 hle4 hp4 hs)
    subst hp4
    refine Zerun ?_
    refine CW.loop (fun u : Nat × GHeap => [(2, .pointer (some ⟨b1, 0, none⟩)), (3, .pointer (some ⟨b2, 0, none⟩)), (32, .int .i64 a.vec.len), (33, .int .i64 u.1)]) (fun u w' => u.1 ≤ a.vec.len ∧ GLe h u.2 ∧ (itemsV f a.vec).take u.1 = (itemsV f b.vec).take u.1 ∧ Sees w h u.2 [⟨some ⟨b2, 0, none⟩, 1, 1, 63, 9, .slice ad2 b.shape.length cp2 :: vecCells b.vec.kind wv' nv' sm' il' fl' ch' bx'⟩, ⟨some ⟨b1, 0, none⟩, 1, 1, 63, 9, .slice ad a.shape.length cp :: vecCells a.vec.kind wv nv sm il fl ch bx⟩] w') (fun u => a.vec.len - u.1) (0, h4) ⟨rfl, rfl, rfl, rfl, trivial⟩ ⟨by omega, hle4, rfl, hs⟩ ?_
    rintro ⟨i, hh⟩ w5 ⟨hi, hg, htk, hs⟩
    dsimp only at hi hg htk hs ⊢
    by_cases hlt : i < a.vec.len
    · have hv' := hv'.mono hR hg
      have hu' := hu'.mono hR hg
      refine Zerun ?_
      (refine RW.call T hs rfl rfl rfl (ih _ _ a.vec b.vec i i _ _ hv' hu' hlt (by omega) qa qb) ?_; intro v h6 w6 hle6 hp6 hs)
      subst hp6
      have ga : (itemsV f a.vec).getD i noItem = (itemsV f a.vec)[i]'(by omega) := by rw [List.getD_eq_getElem?_getD, List.getElem?_eq_getElem (by omega)]; rfl
      have gb : (itemsV f b.vec).getD i noItem = (itemsV f b.vec)[i]'(by omega) := by rw [List.getD_eq_getElem?_getD, List.getElem?_eq_getElem (by omega)]; rfl
      rw [ga, gb]
      by_cases e : (itemsV f a.vec)[i]'(by omega) = (itemsV f b.vec)[i]'(by omega)
      · rw [eqB_of e]
        refine Zerun ?_
        exact loopQ_round (i + 1, h6) ⟨rfl, rfl, rfl, rfl, trivial⟩ ⟨by dsimp only; omega, hg.trans hle6, take_eq_succ htk (by omega) (by omega) e, hs⟩ (by dsimp only; omega)
      · rw [eqB_not e]
        refine Zerun ?_
        refine retQ_ret [_] h6 ⟨rfl, trivial⟩ hs.dropAll ?_
        rw [eqB_not]
        · rfl
        · intro e'
          exact ne_of_get (by omega) (by omega) e (congrArg PlainD.items e')
    · obtain rfl : i = a.vec.len := by omega
      refine Zerun ?_
      refine retQ_ret [_] hh ⟨rfl, trivial⟩ hs.dropAll ?_
      rw [eqB_of]
      · rfl
      · have e4 : itemsV f a.vec = itemsV f b.vec := by
          rw [List.take_of_length_le (by omega), List.take_of_length_le (by omega)] at htk
          exact htk
        unfold plainA
        rw [e1, e2, e4]
end
theorem sameV_con : ∀ (k : Nat) (cs cs' : List Value) (a b : AD k) (w : World) (h : GHeap), ArrAt k h cs a → ArrAt k h cs' b → sml k a → sml k b → Con Try.prog 69 [.agg cs.toArray, .agg cs'.toArray] w h (fun _ u => u = .bool (eqB (plain k a) (plain k b)))
  | 0, _, _, _, _, _, _, ha, _, _, _ => ha.elim
  | k + 1, cs, cs', a, b, w, h, ha, hb, sa, sb => same_step (ArrAt.mono k) (plain k) (sml k) (fun cs cs' a b i j w h ha hb hi hj qa qb => alike_step (ArrAt.mono k) (ArrAt.one k) (plain k) (sml k) (sameV_con k) cs cs' a b i j w h ha hb hi hj qa qb) cs cs' a b w h ha hb sa.2.2 sb.2.2 sa.2.1
theorem alikeV_con (k : Nat) (cs cs' : List Value) (a b : VecD (AD k)) (i j : Nat) (w : World) (h : GHeap) (ha : VecAt (ArrAt k) h cs a) (hb : VecAt (ArrAt k) h cs' b) (hi : i < a.len) (hj : j < b.len) (qa : ∀ x ∈ a.boxes, sml k x) (qb : ∀ x ∈ b.boxes, sml k x) : Con Try.prog 70 [.agg cs.toArray, .int .i64 i, .agg cs'.toArray, .int .i64 j] w h (fun _ u => u = .bool (eqB ((itemsV (plain k) a).getD i noItem) ((itemsV (plain k) b).getD j noItem))) :=
  alike_step (ArrAt.mono k) (ArrAt.one k) (plain k) (sml k) (sameV_con k) cs cs' a b i j w h ha hb hi hj qa qb
end Go.Proofs.Ythbfkhklihejiaa

/-
  Contracts of the law's own functions of layer 28: the example, which arrays are alike, as a number. No statement is proved here.
-/
namespace Go.Proofs.Ythbfkhklihejiaa
open Go Go.RowKit
set_option linter.unusedVariables false
set_option linter.unusedSimpArgs false
set_option maxHeartbeats 4000000
attribute [local irreducible] CW RW QW SW HW ConM retM heldQ calmQ elemP thenQ blockQ loopQ joinQ retQ Yields Con Sl zF magR unitF truncF fwF wholeF tidySpec elemQ rankF leastN tidyW
set_option maxHeartbeats 4000000

theorem textP_chk (k : Nat) (C : List Int) (hm : C.length ≤ 1048576) : chk (k + 1) 40 (textP C : PlainD (PD k)) = 0 := by
  refine (chkP_ok (α := PD k) _ _ _).2 ⟨by omega, (by show (0 : Int) ≤ 1; omega), (by show (1 : Int) ≤ 2; omega), ?_, fun x hx => ?_⟩
  · show product [(C.length : Int)] 1048576 = (((C.map fun x => (⟨1, 0, x, []⟩ : ItemD (PD k))).length : Int), 0)
    rw [product_len1 _ hm, List.length_map]
  · obtain ⟨y, hy, rfl⟩ := List.mem_map.1 hx
    exact ⟨rfl, fun e => absurd (show (1 : Int) = 2 from e) (by decide), fun e => absurd (show (1 : Int) = 0 from e) (by decide)⟩
theorem textP_arr (k : Nat) (C : List Int) : arr (k + 1) (textP C : PlainD (PD k)) = textA k C := by
  show (⟨[(C.length : Int)], arrV (arr k) 1 (C.map fun x => (⟨1, 0, x, []⟩ : ItemD (PD k)))⟩ : ArrD (AD k)) = _
  unfold arrV textA
  rw [if_pos rfl, List.map_map]
  have e : C.map ((fun x : ItemD (PD k) => x.char) ∘ fun x => ⟨1, 0, x, []⟩) = C := by
    conv => rhs; rw [← List.map_id C]
    rfl
  rw [e]
theorem textP_tdy (k : Nat) (C : List Int) : tdy (k + 1) (textP C : PlainD (PD k)) := by
  intro x hx
  obtain ⟨y, hy, rfl⟩ := List.mem_map.1 hx
  exact ⟨tidy0, fun b hb => nomatch hb⟩
theorem textA_plain (k : Nat) (C : List Int) : plain (k + 1) (textA k C) = (textP C : PlainD (PD k)) := rfl
def l4 : List Int := [1, 1, 2, 0]
theorem l4_fw : l4.map fwF = [4607182418800017408, 4607182418800017408, 4611686018427387904, 0] := by
  show [fwF 1, fwF 1, fwF 2, fwF 0] = _
  rw [fw0, fw1, fw2]
theorem l4_in : ∀ n ∈ l4, -9007199254740992 ≤ n ∧ n ≤ 9007199254740992 := by
  intro n hn
  simp only [l4, List.mem_cons, List.not_mem_nil, or_false] at hn
  omega
def abcd : List Int := [97, 98, 99, 100]
theorem l4_segs : segs l4 = [(0, 2), (2, 3)] := by decide
def want28 : PD 3 := (⟨[2], [⟨2, 0, 0, [(textP [97, 98] : PlainD (PD 1))]⟩, ⟨2, 0, 0, [(textP [99] : PlainD (PD 1))]⟩], 2⟩ : PlainD (PD 2))
theorem want28_plain : plain 3 (partsA l4 abcd) = want28 := by
  unfold partsA
  rw [l4_segs]
  rfl
theorem want28_tdy : tdy 3 want28 := by
  intro x hx
  have hx : x ∈ ([⟨2, 0, 0, [(textP [97, 98] : PlainD (PD 1))]⟩, ⟨2, 0, 0, [(textP [99] : PlainD (PD 1))]⟩] : List (ItemD (PD 2))) := hx
  simp only [List.mem_cons, List.not_mem_nil, or_false] at hx
  rcases hx with rfl | rfl
  · exact ⟨tidy0, fun b hb => by rw [List.mem_singleton.1 hb]; exact textP_tdy 1 _⟩
  · exact ⟨tidy0, fun b hb => by rw [List.mem_singleton.1 hb]; exact textP_tdy 1 _⟩
theorem awake28_con (w : World) (h : GHeap) : Con Try.prog 95 [] w h (fun _ u => u = .bool true) := by
  refine Con.of_body Try.func95 rfl Try.ntmps95 rfl rfl ?_
  intro hs
  refine Zrun ?_
  (refine RW.lit T hs (vs := [.float .f64 4607182418800017408, .float .f64 4607182418800017408, .float .f64 4611686018427387904, .float .f64 0]) rfl rfl rfl rfl (by simp [Value.cells]) rfl rfl rfl rfl rfl ?_; intro b1 w1 hs)
  obtain ⟨h1, hle1, hs, hS1⟩ := hs.freeze
  have hF1 : FAt h1 (.slice (some ⟨b1, 0, none⟩) 4 4) (l4.map fwF) := by rw [l4_fw]; exact RowAt.of_sl hS1
  have hfin : ∀ x ∈ l4.map fwF, tidyF x := fun x hx => by
    obtain ⟨n, hn, rfl⟩ := List.mem_map.1 hx
    exact (fwF_spec n (l4_in n hn)).1
  (refine RW.call T hs rfl rfl rfl (refNums_con (R := PlainAt 1) (PlainAt.mono 1) _ _ _ _ hF1 (fun x hx => (hfin x hx).1) (by decide)) ?_; intro v h2 w2 hle2 hp2 hs)
  obtain ⟨cs2, rfl, hq2⟩ := hp2
  (refine RW.call T hs rfl rfl rfl (of07_con 2 _ (numsP (l4.map fwF) : PlainD (PD 1)) _ _ hq2 (numsP_chk 1 _ (fun x hx => (hfin x hx).2.1) (by decide))) ?_; intro v h3 w3 hle3 hp3 hs)
  obtain ⟨cs3, rfl, _, _, ha3⟩ := hp3
  rw [numsP_arr, fw_tidyW l4 l4_in] at ha3
  (refine RW.lit T hs (vs := [.int .i32 97, .int .i32 98, .int .i32 99, .int .i32 100]) rfl rfl rfl rfl (by simp [Value.cells]) rfl rfl rfl rfl rfl ?_; intro b4 w4 hs)
  obtain ⟨h4, hle4, hs, hS4⟩ := hs.freeze
  have hK4 : KAt .i32 h4 (.slice (some ⟨b4, 0, none⟩) 4 4) abcd := RowAt.of_sl hS4
  (refine RW.call T hs rfl rfl rfl (refText_con (R := PlainAt 1) (PlainAt.mono 1) _ _ _ _ hK4 (by decide)) ?_; intro v h5 w5 hle5 hp5 hs)
  obtain ⟨cs5, rfl, hq5⟩ := hp5
  (refine RW.call T hs rfl rfl rfl (of07_con 2 _ (textP abcd : PlainD (PD 1)) _ _ hq5 (textP_chk 1 _ (by decide))) ?_; intro v h6 w6 hle6 hp6 hs)
  obtain ⟨cs6, rfl, _, _, ha6⟩ := hp6
  rw [textP_arr] at ha6
  have ha3 := ArrAt.mono 2 _ _ _ _ ((hle4.trans hle5).trans hle6) ha3
  (refine RW.call T hs rfl rfl rfl (partition_con _ _ (l4.map fwF) abcd _ _ ha3 ha6 (fw_rank l4 l4_in) (fun x hx => by obtain ⟨n, hn, rfl⟩ := List.mem_map.1 hx; rw [wholeF_fw n (l4_in n hn)]; simp only [l4, List.mem_cons, List.not_mem_nil, or_false] at hn; dsimp only; omega) (by decide) (by decide)) ?_; intro v h7 w7 hle7 hp7 hs)
  obtain ⟨cs7, rfl, ha7⟩ := hp7
  rw [fw_wholes l4 l4_in] at ha7
  have ha7' := ha7
  obtain ⟨s7, vc7, rfl, ⟨ad7, cap7, rfl, _⟩, hv7⟩ := ha7
  obtain ⟨wv3, nv3, sm3, il3, fl3, ch3, bx3, ⟨rfl, hoc3⟩, _⟩ := hv7
  refine Zerun ?_
  (refine RW.allocN T hs rfl rfl rfl rfl ?_; intro b8 w8 hs)
  refine RW.storeAll T hs 0 rfl rfl rfl rfl rfl rfl (show (Value.oneCell' (.slice ad7 _ cap7) && (vecCells (ArrD.vec (α := AD 2) (partsA l4 abcd)).kind wv3 nv3 sm3 il3 fl3 ch3 bx3).all Value.oneCell') = true by rw [hoc3]; rfl) rfl ?_
  intro w9 hs
  refine Zerun ?_
  (refine RW.lit T hs (vs := [.int .i64 2]) rfl rfl rfl rfl (by simp [Value.cells]) rfl rfl rfl rfl rfl ?_; intro b10 w10 hs)
  obtain ⟨h10, hle10, hs, hS10⟩ := hs.freeze
  have hI10 : IntsAt h10 (.slice (some ⟨b10, 0, none⟩) 1 1) [2] := IntsAt.of_sl hS10
  (refine RW.lit T hs (vs := [.int .i32 97, .int .i32 98]) rfl rfl rfl rfl (by simp [Value.cells]) rfl rfl rfl rfl rfl ?_; intro b11 w11 hs)
  obtain ⟨h11, hle11, hs, hS11⟩ := hs.freeze
  have hK11 : KAt .i32 h11 (.slice (some ⟨b11, 0, none⟩) 2 2) [97, 98] := RowAt.of_sl hS11
  (refine RW.call T hs rfl rfl rfl (refText_con (R := PlainAt 1) (PlainAt.mono 1) _ _ _ _ hK11 (by decide)) ?_; intro v h12 w12 hle12 hp12 hs)
  obtain ⟨cs12, rfl, hq12⟩ := hp12
  have hl12 := PlainAt.siz 2 _ _ _ hq12
  have ho12 := PlainAt.one 2 _ _ _ hq12
  (refine RW.lit T hs (vs := [.agg cs12.toArray]) (cs := cs12) rfl rfl rfl rfl (by simp [Value.cells, hl12]) rfl (by simp [Value.cells]) rfl rfl rfl ?_; intro b13 w13 hs)
  obtain ⟨h13, hle13, hs, hS13⟩ := hs.freeze
  have hB13 : RowsAt 3 (PlainAt 2 h13) h13 (.slice (some ⟨b13, 0, none⟩) 1 1) [(textP [97, 98] : PlainD (PD 1))] := RowsAt.single hS13 (PlainAt.mono 2 _ _ _ _ hle13 hq12)
  refine Zerun ?_
  refine RW.val (Y.build T rfl rfl rfl rfl rfl rfl rfl) rfl ?_
  refine Zerun ?_
  (refine RW.lit T hs (vs := [.int .i32 99]) rfl rfl rfl rfl (by simp [Value.cells]) rfl rfl rfl rfl rfl ?_; intro b14 w14 hs)
  obtain ⟨h14, hle14, hs, hS14⟩ := hs.freeze
  have hK14 : KAt .i32 h14 (.slice (some ⟨b14, 0, none⟩) 1 1) [99] := RowAt.of_sl hS14
  (refine RW.call T hs rfl rfl rfl (refText_con (R := PlainAt 1) (PlainAt.mono 1) _ _ _ _ hK14 (by decide)) ?_; intro v h15 w15 hle15 hp15 hs)
  obtain ⟨cs15, rfl, hq15⟩ := hp15
  have hl15 := PlainAt.siz 2 _ _ _ hq15
  (refine RW.lit T hs (vs := [.agg cs15.toArray]) (cs := cs15) rfl rfl rfl rfl (by simp [Value.cells, hl15]) rfl (by simp [Value.cells]) rfl rfl rfl ?_; intro b16 w16 hs)
  obtain ⟨h16, hle16, hs, hS16⟩ := hs.freeze
  have hB16 : RowsAt 3 (PlainAt 2 h16) h16 (.slice (some ⟨b16, 0, none⟩) 1 1) [(textP [99] : PlainD (PD 1))] := RowsAt.single hS16 (PlainAt.mono 2 _ _ _ _ hle16 hq15)
  have hB13 := hB13.mono ((hle14.trans hle15).trans hle16) (fun u a => PlainAt.mono 2 _ _ u a ((hle14.trans hle15).trans hle16))
  refine Zerun ?_
  refine RW.val (Y.build T rfl rfl rfl rfl rfl rfl rfl) rfl ?_
  refine Zerun ?_
  (refine RW.lit T hs (vs := [.agg [.int .i64 2, .float .f64 0, .int .i32 0, .slice (some ⟨b13, 0, none⟩) 1 1].toArray, .agg [.int .i64 2, .float .f64 0, .int .i32 0, .slice (some ⟨b16, 0, none⟩) 1 1].toArray]) (cs := [.int .i64 2, .float .f64 0, .int .i32 0, .slice (some ⟨b13, 0, none⟩) 1 1] ++ [.int .i64 2, .float .f64 0, .int .i32 0, .slice (some ⟨b16, 0, none⟩) 1 1]) rfl rfl rfl rfl (by simp [Value.cells]) rfl rfl rfl rfl rfl ?_; intro b17 w17 hs)
  obtain ⟨h17, hle17, hs, hS17⟩ := hs.freeze
  have hB13 := hB13.mono hle17 (fun u a => PlainAt.mono 2 _ _ u a hle17)
  have hB16 := hB16.mono hle17 (fun u a => PlainAt.mono 2 _ _ u a hle17)
  have hr17 : RowsAt 4 (ItemAt (PlainAt 2) h17) h17 (.slice (some ⟨b17, 0, none⟩) 2 2) (PlainD.items (α := PD 2) want28) := by
    refine ⟨_, _, _, rfl, hS17, ?_⟩
    exact ⟨rfl, ⟨_, rfl, hB13, (by decide)⟩, rfl, ⟨_, rfl, hB16, (by decide)⟩, rfl⟩
  have hq17 : PlainAt 3 h17 [.slice (some ⟨b10, 0, none⟩) 1 1, .slice (some ⟨b17, 0, none⟩) 2 2, .int .i64 2] want28 := ⟨_, _, rfl, hI10.mono ((((((hle11.trans hle12).trans hle13).trans hle14).trans hle15).trans hle16).trans hle17), hr17⟩
  have ha7' := ArrAt.mono 3 _ _ _ _ (((((((hle10.trans hle11).trans hle12).trans hle13).trans hle14).trans hle15).trans hle16).trans hle17) ha7'
  refine Zerun ?_
  refine RW.val (Y.build T rfl rfl rfl rfl rfl rfl rfl) rfl ?_
  refine Zerun ?_
  (refine RW.allocN T hs rfl rfl rfl rfl ?_; intro b18 w18 hs)
  (refine RW.storeAll T hs 0 rfl rfl rfl rfl rfl rfl rfl rfl ?_; intro w19 hs)
  refine Zerun ?_
  (refine RW.call T hs rfl rfl rfl (shows28_con 2 _ _ (partsA l4 abcd) want28 _ _ ha7' hq17 (partsA_good l4 abcd (by decide) (by decide)) want28_plain want28_tdy) ?_; intro v h20 w20 hle20 hp20 hs)
  subst hp20
  refine Zerun ?_
  exact retQ_ret [_] h20 ⟨rfl, trivial⟩ hs.dropAll rfl

theorem match_con (k : Nat) (cs cs' : List Value) (a b : AD (k + 1)) (nt : Bool) (w : World) (h : GHeap) (ha : ArrAt (k + 1) h cs a) (hb : ArrAt (k + 1) h cs' b) (qa : sml (k + 1) a) (qb : sml (k + 1) b) : Con Try.prog 97 [.agg cs.toArray, .agg cs'.toArray, .bool nt] w h (fun h' u => ∃ c2, u = .agg c2.toArray ∧ ArrAt (k + 1) h' c2 (numA k (bitF (!(eqB (plain (k + 1) a) (plain (k + 1) b) == nt))))) := by
  have ha' := ha
  have hb' := hb
  obtain ⟨s, vc, rfl, ⟨ad, cap, rfl, _⟩, hv⟩ := ha
  obtain ⟨wv, nv, sm, il, fl, ch, bx, ⟨rfl, hoc⟩, _⟩ := hv
  obtain ⟨s2, vc2, rfl, ⟨ad2, cap2, rfl, _⟩, hv2⟩ := hb
  obtain ⟨wv2, nv2, sm2, il2, fl2, ch2, bx2, ⟨rfl, hoc2⟩, _⟩ := hv2
  refine Con.of_body Try.func97 rfl Try.ntmps97 rfl rfl ?_
  intro hs
  refine Zrun ?_
  (refine RW.boxN hs rfl rfl ?_; intro b1 w1 hs)
  refine Zrun ?_
  (refine RW.boxN hs rfl rfl ?_; intro b2 w2 hs)
  (refine RW.allocN T hs rfl rfl rfl rfl ?_; intro b3 w3 hs)
  refine Zerun ?_
  (refine RW.call T hs rfl rfl rfl (sameV_con (k + 1) _ _ a b _ _ ha' hb' qa qb) ?_; intro v h4 w4 hle4 hp4 hs)
  subst hp4
  refine Zerun ?_
  refine RW.val (Y.neqB T rfl rfl rfl) rfl ?_
  obtain ⟨bb, hbe⟩ : ∃ bb, (!(eqB (plain (k + 1) a) (plain (k + 1) b) == nt)) = bb := ⟨_, rfl⟩
  rw [hbe]
  (refine RW.call T hs rfl rfl rfl (numFlag_con bb _ _) ?_; intro v h5 w5 hle5 hp5 hs)
  subst hp5
  (refine RW.call T hs rfl rfl rfl (valueNum_con (R := ArrAt k) (ArrAt.mono k) (bitF bb) _ _ (bitF_lt bb)) ?_; intro v h6 w6 hle6 hp6 hs)
  obtain ⟨cs6, rfl, ha6⟩ := hp6
  rw [if_pos (bitF_tidy bb).2.1, show tidyW (bitF bb) = bitF bb by unfold tidyW; rw [tidySpec_of _ (bitF_tidy bb)]] at ha6
  have ha6' : ArrAt (k + 1) h6 cs6 (numA k (bitF bb)) := ha6
  obtain ⟨s6, vc6, rfl, ⟨ad6, cap6, rfl, _⟩, hv6⟩ := ha6
  obtain ⟨wv6, nv6, sm6, il6, fl6, ch6, bx6, ⟨rfl, hoc6⟩, _⟩ := hv6
  have hall : (Value.oneCell' (.slice ad6 ([] : List Int).length cap6) && (vecCells (⟨leastN [bitF bb], [bitF bb], [], []⟩ : VecD (AD k)).kind wv6 nv6 sm6 il6 fl6 ch6 bx6).all Value.oneCell') = true := by rw [hoc6]; rfl
  refine Zerun ?_
  (refine RW.allocN T hs rfl rfl rfl rfl ?_; intro b7 w7 hs)
  refine RW.storeAll T hs 0 rfl rfl rfl rfl rfl rfl hall rfl ?_
  intro w8 hs
  refine Zerun ?_
  refine RW.storeAll T hs 1 rfl rfl rfl rfl rfl rfl hall rfl ?_
  intro w9 hs
  refine Zerun ?_
  exact retQ_ret [_] h6 ⟨resN T hs 1 rfl rfl rfl rfl rfl rfl, trivial⟩ hs.dropAll ⟨_, rfl, ha6'⟩
theorem partMatchesLaw_con (k : Nat) (cp0 cq0 : List Value) (p q : PD (k + 1)) (nt : Bool) (w : World) (h : GHeap) (hp : PlainAt (k + 1) h cp0 p) (hq : PlainAt (k + 1) h cq0 q) : Con Try.prog 18 [.agg cp0.toArray, .agg cq0.toArray, .bool nt] w h (fun _ u => u = .bool true) := by
  have hp' := hp
  have hq' := hq
  have hp0 := hp
  have hq0 := hq
  obtain ⟨s, it, rfl, ⟨ad, cp, rfl, _⟩, ⟨ad2, cp2, xs, rfl, _, _⟩⟩ := hp
  obtain ⟨s2, it2, rfl, ⟨ad3, cp3, rfl, _⟩, ⟨ad4, cp4, xs4, rfl, _, _⟩⟩ := hq
  refine Con.of_body Try.func18 rfl Try.ntmps18 rfl rfl ?_
  intro hs
  refine Zrun ?_
  (refine RW.boxN hs rfl rfl ?_; intro b1 w1 hs)
  refine Zrun ?_
  (refine RW.boxN hs rfl rfl ?_; intro b2 w2 hs)
  refine Zerun ?_
  (refine RW.call T hs rfl rfl rfl (fine28_con k _ p _ _ hp') ?_; intro v h3 w3 hle3 hp3 hs)
  obtain ⟨b, rfl, hbp⟩ := hp3
  have hp' := PlainAt.mono (k + 1) _ _ _ _ hle3 hp'
  have hq' := PlainAt.mono (k + 1) _ _ _ _ hle3 hq'
  cases b with
  | false =>
    refine Zerun ?_
    (refine RW.call T hs rfl rfl rfl (awake28_con _ _) ?_; intro v h4 w4 hle4 hp4 hs)
    subst hp4
    refine Zerun ?_
    exact retQ_ret [_] h4 ⟨rfl, trivial⟩ hs.dropAll rfl
  | true =>
  obtain ⟨hcp, _, _⟩ := hbp rfl
  refine Zerun ?_
  (refine RW.call T hs rfl rfl rfl (fine28_con k _ q _ _ hq') ?_; intro v h4 w4 hle4 hp4 hs)
  obtain ⟨b, rfl, hbq⟩ := hp4
  have hp' := PlainAt.mono (k + 1) _ _ _ _ hle4 hp'
  have hq' := PlainAt.mono (k + 1) _ _ _ _ hle4 hq'
  cases b with
  | false =>
    refine Zerun ?_
    (refine RW.call T hs rfl rfl rfl (awake28_con _ _) ?_; intro v h5 w5 hle5 hp5 hs)
    subst hp5
    refine Zerun ?_
    exact retQ_ret [_] h5 ⟨rfl, trivial⟩ hs.dropAll rfl
  | true =>
  obtain ⟨hcq, _, _⟩ := hbq rfl
  have htp := tidy_tdy (k + 1) 40 p _ _ hp0 hcp
  have htq := tidy_tdy (k + 1) 40 q _ _ hq0 hcq
  have hsp := good_sml (k + 1) 40 _ (good_arr (k + 1) 40 p hcp)
  have hsq := good_sml (k + 1) 40 _ (good_arr (k + 1) 40 q hcq)
  refine Zerun ?_
  refine CW.meet (fun _ : GHeap => [(2, .bool nt), (3, .pointer (some ⟨b1, 0, none⟩)), (4, .pointer (some ⟨b2, 0, none⟩)), (7, .float .f64 0), (23, .bool (!(eqB (tidy (k + 1) p) (tidy (k + 1) q) == nt)))]) (fun r w' => PlainAt (k + 1) r [.slice ad (PlainD.shape (α := PD k) p).length cp, .slice ad2 (PlainD.items (α := PD k) p).length cp2, .int .i64 (PlainD.fill (α := PD k) p)] p ∧ PlainAt (k + 1) r [.slice ad3 (PlainD.shape (α := PD k) q).length cp3, .slice ad4 (PlainD.items (α := PD k) q).length cp4, .int .i64 (PlainD.fill (α := PD k) q)] q ∧ Sees w h r [⟨some ⟨b2, 0, none⟩, 1, 1, 50, 3, [.slice ad3 (PlainD.shape (α := PD k) q).length cp3, .slice ad4 (PlainD.items (α := PD k) q).length cp4, .int .i64 (PlainD.fill (α := PD k) q)]⟩, ⟨some ⟨b1, 0, none⟩, 1, 1, 50, 3, [.slice ad (PlainD.shape (α := PD k) p).length cp, .slice ad2 (PlainD.items (α := PD k) p).length cp2, .int .i64 (PlainD.fill (α := PD k) p)]⟩] w') ?_ ?_
  · refine CW.regionO T hs ?_
    intro w5 hs
    refine HW.takeS (fuel := 6) 0 rfl (fun _ _ hs => Y.loadRowN T hs 1 rfl rfl rfl rfl rfl rfl rfl) hs rfl (by kernel_rfl) (by kernel_rfl) (by kernel_rfl) ?_
    refine HW.takeS (fuel := 5) 2 rfl (fun _ _ hs => Y.loadRowN T hs 0 rfl rfl rfl rfl rfl rfl rfl) hs rfl (by kernel_rfl) (by kernel_rfl) (by kernel_rfl) ?_
    refine HW.takeS (fuel := 4) 5 rfl (fun _ _ hs => Y.move rfl) hs rfl (by kernel_rfl) (by kernel_rfl) (by kernel_rfl) ?_
    refine HW.one (fuel := 3) 1 rfl (by kernel_rfl) ?_
    (refine RW.call T hs rfl rfl rfl (refTidyP_con (k + 1) 40 _ p _ _ hp' hcp) ?_; intro v h18 w18 hle18 hp18 hs)
    obtain ⟨cs18, rfl, hq18⟩ := hp18
    have hp' := PlainAt.mono (k + 1) _ _ _ _ hle18 hp'
    have hq' := PlainAt.mono (k + 1) _ _ _ _ hle18 hq'
    refine RW.nil ?_
    refine heldQ_normal ⟨_, hs⟩ ?_
    refine HW.one (fuel := 2) 3 rfl (by kernel_rfl) ?_
    (refine RW.call T hs rfl rfl rfl (refTidyP_con (k + 1) 40 _ q _ _ hq' hcq) ?_; intro v h20 w20 hle20 hp20 hs)
    obtain ⟨cs20, rfl, hq20⟩ := hp20
    have hp' := PlainAt.mono (k + 1) _ _ _ _ hle20 hp'
    have hq' := PlainAt.mono (k + 1) _ _ _ _ hle20 hq'
    have hq18 := PlainAt.mono (k + 1) _ _ _ _ hle20 hq18
    refine RW.nil ?_
    refine heldQ_normal ⟨_, hs⟩ ?_
    refine HW.one (fuel := 1) 4 rfl (by kernel_rfl) ?_
    (refine RW.call T hs rfl rfl rfl (refSame_con (k + 1) _ _ _ _ _ _ hq18 hq20 htp htq) ?_; intro v h21 w21 hle21 hp21 hs)
    subst hp21
    have hp' := PlainAt.mono (k + 1) _ _ _ _ hle21 hp'
    have hq' := PlainAt.mono (k + 1) _ _ _ _ hle21 hq'
    refine RW.nil ?_
    refine heldQ_normal ⟨_, hs⟩ ?_
    refine HW.takeS (fuel := 0) 6 rfl (fun _ _ hs => Y.neqB T rfl rfl rfl) hs rfl (by kernel_rfl) (by kernel_rfl) (by kernel_rfl) ?_
    refine HW.done (by kernel_rfl) ?_
    refine calmQ_normal ?_
    exact joinQ_meet h21 ⟨rfl, rfl, rfl, rfl, rfl, trivial⟩ ⟨hp', hq', hs⟩
  rintro h5 w6 ⟨hp', hq', hs⟩
  obtain ⟨bb, hbe⟩ : ∃ bb, (!(eqB (tidy (k + 1) p) (tidy (k + 1) q) == nt)) = bb := ⟨_, rfl⟩
  rw [hbe]
  cases bb with
  | false =>
    refine Zerun ?_
    refine CW.regionO T hs ?_
    intro w8 hs
    refine HW.takeS (fuel := 12) 0 rfl (fun _ _ hs => Y.loadRowN T hs 1 rfl rfl rfl rfl rfl rfl rfl) hs rfl (by kernel_rfl) (by kernel_rfl) (by kernel_rfl) ?_
    refine HW.takeS (fuel := 11) 2 rfl (fun _ _ hs => Y.loadRowN T hs 0 rfl rfl rfl rfl rfl rfl rfl) hs rfl (by kernel_rfl) (by kernel_rfl) (by kernel_rfl) ?_
    refine HW.takeS (fuel := 10) 4 rfl (fun _ _ hs => Y.move rfl) hs rfl (by kernel_rfl) (by kernel_rfl) (by kernel_rfl) ?_
    refine HW.takeS (fuel := 9) 6 rfl (fun _ _ hs => Y.move rfl) hs rfl (by kernel_rfl) (by kernel_rfl) (by kernel_rfl) ?_
    refine HW.one (fuel := 8) 1 rfl (by kernel_rfl) ?_
    (refine RW.call T hs rfl rfl rfl (of07_con (k + 1) _ p _ _ hp' hcp) ?_; intro v h25 w25 hle25 hp25 hs)
    obtain ⟨cs25, rfl, hl25, ho25, ha25⟩ := hp25
    have hp' := PlainAt.mono (k + 1) _ _ _ _ hle25 hp'
    have hq' := PlainAt.mono (k + 1) _ _ _ _ hle25 hq'
    refine RW.nil ?_
    refine heldQ_normal ⟨_, hs⟩ ?_
    refine HW.one (fuel := 7) 3 rfl (by kernel_rfl) ?_
    (refine RW.call T hs rfl rfl rfl (of07_con (k + 1) _ q _ _ hq' hcq) ?_; intro v h27 w27 hle27 hp27 hs)
    obtain ⟨cs27, rfl, hl27, ho27, ha27⟩ := hp27
    have hp' := PlainAt.mono (k + 1) _ _ _ _ hle27 hp'
    have hq' := PlainAt.mono (k + 1) _ _ _ _ hle27 hq'
    have ha25 := ArrAt.mono (k + 1) _ _ _ _ hle27 ha25
    refine RW.nil ?_
    refine heldQ_normal ⟨_, hs⟩ ?_
    refine HW.one (fuel := 6) 5 rfl (by kernel_rfl) ?_
    (refine RW.call T hs rfl rfl rfl (match_con k _ _ (arr (k + 1) p) (arr (k + 1) q) nt _ _ ha25 ha27 hsp hsq) ?_; intro v h29 w29 hle29 hp29 hs)
    rw [plain_arr (k + 1) 40 p hcp, plain_arr (k + 1) 40 q hcq, hbe] at hp29
    obtain ⟨cs29, rfl, ha29⟩ := hp29
    have hp' := PlainAt.mono (k + 1) _ _ _ _ hle29 hp'
    have hq' := PlainAt.mono (k + 1) _ _ _ _ hle29 hq'
    refine RW.nil ?_
    refine heldQ_normal ⟨_, hs⟩ ?_
    refine HW.one (fuel := 5) 7 rfl (by kernel_rfl) ?_
    (refine RW.call T hs rfl rfl rfl (refOne_con (α := PD k) (R := PlainAt k) (bitF false) _ _ (bitF_lt false)) ?_; intro v h31 w31 hle31 hp31 hs)
    obtain ⟨cs31, rfl, hq31⟩ := hp31
    have hp' := PlainAt.mono (k + 1) _ _ _ _ hle31 hp'
    have hq' := PlainAt.mono (k + 1) _ _ _ _ hle31 hq'
    have ha29 := ArrAt.mono (k + 1) _ _ _ _ hle31 ha29
    refine RW.nil ?_
    refine heldQ_normal ⟨_, hs⟩ ?_
    refine HW.one (fuel := 4) 8 rfl (by kernel_rfl) ?_
    (refine RW.call T hs rfl rfl rfl (shows28_con k _ _ (numA k (bitF false)) (numQ k (bitF false)) _ _ ha29 hq31 (numA_good k _ 40 (by omega)) (numA_plain k _) (numQ_tdy k _ (bitF_tidy false))) ?_; intro v h32 w32 hle32 hp32 hs)
    subst hp32
    have hp' := PlainAt.mono (k + 1) _ _ _ _ hle32 hp'
    have hq' := PlainAt.mono (k + 1) _ _ _ _ hle32 hq'
    refine RW.nil ?_
    refine heldQ_normal ⟨_, hs⟩ ?_
    refine HW.takeS (fuel := 3) 9 rfl (fun _ _ hs => Y.move rfl) hs rfl (by kernel_rfl) (by kernel_rfl) (by kernel_rfl) ?_
    refine HW.one (fuel := 2) 10 rfl (by kernel_rfl) ?_
    refine RW.guardYes rfl rfl ?_
    (refine RW.call T hs rfl rfl rfl (awake28_con _ _) ?_; intro v h34 w34 hle34 hp34 hs)
    subst hp34
    have hp' := PlainAt.mono (k + 1) _ _ _ _ hle34 hp'
    have hq' := PlainAt.mono (k + 1) _ _ _ _ hle34 hq'
    refine RW.nil ?_
    refine heldQ_normal ⟨_, hs⟩ ?_
    refine HW.takeS (fuel := 1) 11 rfl (fun _ _ hs => Y.pickT rfl rfl) hs rfl (by kernel_rfl) (by kernel_rfl) (by kernel_rfl) ?_
    refine HW.takeS (fuel := 0) 12 rfl (fun _ _ hs => Y.assign rfl) hs rfl (by kernel_rfl) (by kernel_rfl) (by kernel_rfl) ?_
    refine HW.done (by kernel_rfl) ?_
    refine calmQ_normal ?_
    refine Zerun ?_
    exact retQ_ret [_] h34 ⟨rfl, trivial⟩ hs.dropAll rfl
  | true =>
    refine Zerun ?_
    refine CW.regionO T hs ?_
    intro w8 hs
    refine HW.takeS (fuel := 12) 0 rfl (fun _ _ hs => Y.loadRowN T hs 1 rfl rfl rfl rfl rfl rfl rfl) hs rfl (by kernel_rfl) (by kernel_rfl) (by kernel_rfl) ?_
    refine HW.takeS (fuel := 11) 2 rfl (fun _ _ hs => Y.loadRowN T hs 0 rfl rfl rfl rfl rfl rfl rfl) hs rfl (by kernel_rfl) (by kernel_rfl) (by kernel_rfl) ?_
    refine HW.takeS (fuel := 10) 4 rfl (fun _ _ hs => Y.move rfl) hs rfl (by kernel_rfl) (by kernel_rfl) (by kernel_rfl) ?_
    refine HW.takeS (fuel := 9) 6 rfl (fun _ _ hs => Y.move rfl) hs rfl (by kernel_rfl) (by kernel_rfl) (by kernel_rfl) ?_
    refine HW.one (fuel := 8) 1 rfl (by kernel_rfl) ?_
    (refine RW.call T hs rfl rfl rfl (of07_con (k + 1) _ p _ _ hp' hcp) ?_; intro v h25 w25 hle25 hp25 hs)
    obtain ⟨cs25, rfl, hl25, ho25, ha25⟩ := hp25
    have hp' := PlainAt.mono (k + 1) _ _ _ _ hle25 hp'
    have hq' := PlainAt.mono (k + 1) _ _ _ _ hle25 hq'
    refine RW.nil ?_
    refine heldQ_normal ⟨_, hs⟩ ?_
    refine HW.one (fuel := 7) 3 rfl (by kernel_rfl) ?_
    (refine RW.call T hs rfl rfl rfl (of07_con (k + 1) _ q _ _ hq' hcq) ?_; intro v h27 w27 hle27 hp27 hs)
    obtain ⟨cs27, rfl, hl27, ho27, ha27⟩ := hp27
    have hp' := PlainAt.mono (k + 1) _ _ _ _ hle27 hp'
    have hq' := PlainAt.mono (k + 1) _ _ _ _ hle27 hq'
    have ha25 := ArrAt.mono (k + 1) _ _ _ _ hle27 ha25
    refine RW.nil ?_
    refine heldQ_normal ⟨_, hs⟩ ?_
    refine HW.one (fuel := 6) 5 rfl (by kernel_rfl) ?_
    (refine RW.call T hs rfl rfl rfl (match_con k _ _ (arr (k + 1) p) (arr (k + 1) q) nt _ _ ha25 ha27 hsp hsq) ?_; intro v h29 w29 hle29 hp29 hs)
    rw [plain_arr (k + 1) 40 p hcp, plain_arr (k + 1) 40 q hcq, hbe] at hp29
    obtain ⟨cs29, rfl, ha29⟩ := hp29
    have hp' := PlainAt.mono (k + 1) _ _ _ _ hle29 hp'
    have hq' := PlainAt.mono (k + 1) _ _ _ _ hle29 hq'
    refine RW.nil ?_
    refine heldQ_normal ⟨_, hs⟩ ?_
    refine HW.one (fuel := 5) 7 rfl (by kernel_rfl) ?_
    (refine RW.call T hs rfl rfl rfl (refOne_con (α := PD k) (R := PlainAt k) (bitF true) _ _ (bitF_lt true)) ?_; intro v h31 w31 hle31 hp31 hs)
    obtain ⟨cs31, rfl, hq31⟩ := hp31
    have hp' := PlainAt.mono (k + 1) _ _ _ _ hle31 hp'
    have hq' := PlainAt.mono (k + 1) _ _ _ _ hle31 hq'
    have ha29 := ArrAt.mono (k + 1) _ _ _ _ hle31 ha29
    refine RW.nil ?_
    refine heldQ_normal ⟨_, hs⟩ ?_
    refine HW.one (fuel := 4) 8 rfl (by kernel_rfl) ?_
    (refine RW.call T hs rfl rfl rfl (shows28_con k _ _ (numA k (bitF true)) (numQ k (bitF true)) _ _ ha29 hq31 (numA_good k _ 40 (by omega)) (numA_plain k _) (numQ_tdy k _ (bitF_tidy true))) ?_; intro v h32 w32 hle32 hp32 hs)
    subst hp32
    have hp' := PlainAt.mono (k + 1) _ _ _ _ hle32 hp'
    have hq' := PlainAt.mono (k + 1) _ _ _ _ hle32 hq'
    refine RW.nil ?_
    refine heldQ_normal ⟨_, hs⟩ ?_
    refine HW.takeS (fuel := 3) 9 rfl (fun _ _ hs => Y.move rfl) hs rfl (by kernel_rfl) (by kernel_rfl) (by kernel_rfl) ?_
    refine HW.one (fuel := 2) 10 rfl (by kernel_rfl) ?_
    refine RW.guardYes rfl rfl ?_
    (refine RW.call T hs rfl rfl rfl (awake28_con _ _) ?_; intro v h34 w34 hle34 hp34 hs)
    subst hp34
    have hp' := PlainAt.mono (k + 1) _ _ _ _ hle34 hp'
    have hq' := PlainAt.mono (k + 1) _ _ _ _ hle34 hq'
    refine RW.nil ?_
    refine heldQ_normal ⟨_, hs⟩ ?_
    refine HW.takeS (fuel := 1) 11 rfl (fun _ _ hs => Y.pickT rfl rfl) hs rfl (by kernel_rfl) (by kernel_rfl) (by kernel_rfl) ?_
    refine HW.takeS (fuel := 0) 12 rfl (fun _ _ hs => Y.assign rfl) hs rfl (by kernel_rfl) (by kernel_rfl) (by kernel_rfl) ?_
    refine HW.done (by kernel_rfl) ?_
    refine calmQ_normal ?_
    refine Zerun ?_
    exact retQ_ret [_] h34 ⟨rfl, trivial⟩ hs.dropAll rfl
end Go.Proofs.Ythbfkhklihejiaa

/-
  Contracts of functions of package part: all elements listed. No statement is proved here.
-/
namespace Go.Proofs.Ythbfkhklihejiaa
open Go Go.RowKit
set_option linter.unusedVariables false
set_option linter.unusedSimpArgs false
set_option maxHeartbeats 4000000
attribute [local irreducible] CW RW QW SW HW ConM retM heldQ calmQ elemP thenQ blockQ loopQ joinQ retQ Yields Con Sl zF magR unitF truncF fwF wholeF tidySpec elemQ rankF leastN tidyW
set_option maxHeartbeats 4000000

theorem Sees.perm {w0 w : World} {h0 h : GHeap} {O O' : List Row} (hs : Sees w0 h0 h O w) (hp : O'.Perm O) : Sees w0 h0 h O' w :=
  ⟨hs.below, hs.agree, hs.le, hs.old, fun x hx => hs.own x (hp.mem_iff.1 hx), ((hp.map Row.v).pairwise_iff (fun a => a.symm)).2 hs.apart⟩
section
variable {α : Type} {R : GHeap → List Value → α → Prop}
theorem gatherFlat_conM (hR : Mono R) (s : Value) (vc : List Value) (v : VecD α) (bl bn m cp : Nat) (ad : Option Addr) (n most : Int) (xs : List Value) (w0 w : World) (h0 h : GHeap) (O : List Row) (hv : VecAt R h vc v) (hs1 : s.oneCell' = true) (hc : v.cls ≠ 2) (hm : m ≤ 1048576) (hn : 0 ≤ n ∧ n + v.len ≤ 1152921504606846976) :
    ConM Try.prog 163 [.agg (s :: vc).toArray, .pointer (some ⟨bl, 0, none⟩), .pointer (some ⟨bn, 0, none⟩), .int .i64 most] w0 h0 h (⟨some ⟨bl, 0, none⟩, 1, 1, 102, 1, [.slice ad m cp]⟩ :: ⟨some ⟨bn, 0, none⟩, 1, 1, 3, 1, [.int .i64 n]⟩ :: ⟨ad, m, cp, 61, 8, xs⟩ :: O) w
      (fun h' O' u => u = .bool (decide (n + v.len ≤ most)) ∧ ∃ ad' cp', O' = ⟨some ⟨bl, 0, none⟩, 1, 1, 102, 1, [.slice ad' (m + 1) cp']⟩ :: ⟨some ⟨bn, 0, none⟩, 1, 1, 3, 1, [.int .i64 (n + v.len)]⟩ :: ⟨ad', (m + 1), cp', 61, 8, (xs ++ vc)⟩ :: O) := by
  have hv' := hv
  obtain ⟨wv, nv, sm, il, fl, ch, bx, ⟨rfl, hoc⟩, _⟩ := hv
  refine ConM.of_body Try.func163 rfl Try.ntmps163 rfl rfl ?_
  intro hs
  refine Zrun ?_
  (refine RW.boxN hs rfl rfl ?_; intro b1 w1 hs)
  refine Zerun ?_
  (refine RW.call T hs rfl rfl rfl (vecClass_con _ v _ _ hv') ?_; intro v h2 w2 hle2 hp2 hs)
  subst hp2
  have hv' := hv'.mono hR hle2
  refine Zerun ?_
  refine CW.meet (fun u : Option Addr × Nat => [(1, .pointer (some ⟨bl, 0, none⟩)), (2, .pointer (some ⟨bn, 0, none⟩)), (3, .int .i64 most), (4, .pointer (some ⟨b1, 0, none⟩)), (8, .bool false)]) (fun u w' => Sees w0 h0 h2 (⟨some ⟨b1, 0, none⟩, 1, 1, 63, 9, s :: vecCells v.kind wv nv sm il fl ch bx⟩ :: ⟨some ⟨bl, 0, none⟩, 1, 1, 102, 1, [.slice u.1 (m + 1) u.2]⟩ :: ⟨some ⟨bn, 0, none⟩, 1, 1, 3, 1, [.int .i64 n]⟩ :: ⟨u.1, (m + 1), u.2, 61, 8, (xs ++ (vecCells v.kind wv nv sm il fl ch bx))⟩ :: O) w') ?_ ?_
  · refine CW.regionR T 0 0 hs rfl rfl ?_
    intro w4 hs
    refine HW.takeR (fuel := 9) 0 rfl (fun _ _ ka kb _ hs hka hkb => Y.move rfl) ⟨_, _, 0, 0, hs, rfl, rfl⟩ rfl (by kernel_rfl) (by kernel_rfl) (by kernel_rfl) ?_
    refine HW.takeR (fuel := 8) 1 rfl (fun _ _ ka kb _ hs hka hkb => Y.move rfl) ⟨_, _, 0, 0, hs, rfl, rfl⟩ rfl (by kernel_rfl) (by kernel_rfl) (by kernel_rfl) ?_
    refine HW.takeR (fuel := 7) 2 rfl (fun _ _ ka kb _ hs hka hkb => Y.nilCheck rfl) ⟨_, _, 0, 0, hs, rfl, rfl⟩ rfl (by kernel_rfl) (by kernel_rfl) (by kernel_rfl) ?_
    refine HW.takeR (fuel := 6) 4 rfl (fun _ _ ka kb _ hs hka hkb => Y.fieldAddr T rfl rfl rfl rfl rfl) ⟨_, _, 0, 0, hs, rfl, rfl⟩ rfl (by kernel_rfl) (by kernel_rfl) (by kernel_rfl) ?_
    refine HW.takeR (fuel := 5) 5 rfl (fun _ _ ka kb _ hs hka hkb => Y.loadRowN T hs ka hka rfl rfl rfl rfl rfl rfl) ⟨_, _, 0, 0, hs, rfl, rfl⟩ rfl (by kernel_rfl) (by kernel_rfl) (by kernel_rfl) ?_
    refine HW.two (fuel := 4) 3 6 rfl rfl (by kernel_rfl) ?_ ?_
    · refine RW.val (Y.loadRow1 T hs 1 rfl rfl rfl rfl rfl) rfl ?_
      refine RW.nil ?_
      refine heldQ_normal ⟨_, _, 0, 0, hs, rfl, rfl⟩ ?_
      refine HW.one (fuel := 3) 6 rfl (by kernel_rfl) ?_
      (refine RW.lit T hs (vs := [.agg (vecCells v.kind wv nv sm il fl ch bx).toArray]) (cs := (vecCells v.kind wv nv sm il fl ch bx)) rfl rfl rfl rfl (by simp [Value.cells, vecCells]) rfl rfl rfl rfl rfl ?_; intro b21 w21 hs)
      refine RW.nil ?_
      refine heldQ_normal ⟨_, _, 1, 1, hs, rfl, rfl⟩ ?_
      refine HW.one (fuel := 2) 7 rfl (by kernel_rfl) ?_
      (refine RW.append T hs 4 rfl rfl (m := 1) (news := (vecCells v.kind wv nv sm il fl ch bx)) rfl rfl rfl rfl rfl rfl (hs.src0 rfl (fun u hu => List.all_eq_true.1 hoc u hu)) (by simp) (by dsimp only; omega) (by omega) ?_; intro ad22 cp22 w22 hs; replace hs := hs.drop)
      refine RW.nil ?_
      refine heldQ_normal ⟨_, _, 0, 0, hs, rfl, rfl⟩ ?_
      refine HW.takeR (fuel := 1) 8 rfl (fun _ _ ka kb _ hs hka hkb => Y.nilCheck rfl) ⟨_, _, 0, 0, hs, rfl, rfl⟩ rfl (by kernel_rfl) (by kernel_rfl) (by kernel_rfl) ?_
      refine HW.one (fuel := 0) 9 rfl (by kernel_rfl) ?_
      (refine RW.store1 T hs 1 rfl rfl rfl rfl rfl rfl (by simp [Value.oneCell']) rfl ?_; intro w23 hs)
      refine RW.nil ?_
      refine heldQ_normal ⟨_, _, 0, 0, hs, rfl, rfl⟩ ?_
      refine HW.done (by kernel_rfl) ?_
      refine calmQ_normal ?_
      exact joinQ_meet (ad22, cp22) ⟨rfl, rfl, rfl, rfl, rfl, trivial⟩ hs
    · (refine RW.lit T hs (vs := [.agg (vecCells v.kind wv nv sm il fl ch bx).toArray]) (cs := (vecCells v.kind wv nv sm il fl ch bx)) rfl rfl rfl rfl (by simp [Value.cells, vecCells]) rfl rfl rfl rfl rfl ?_; intro b21 w21 hs)
      refine RW.nil ?_
      refine heldQ_normal ⟨_, _, 1, 1, hs, rfl, rfl⟩ ?_
      refine HW.one (fuel := 3) 3 rfl (by kernel_rfl) ?_
      refine RW.val (Y.loadRow1 T hs 2 rfl rfl rfl rfl rfl) rfl ?_
      refine RW.nil ?_
      refine heldQ_normal ⟨_, _, 1, 1, hs, rfl, rfl⟩ ?_
      refine HW.one (fuel := 2) 7 rfl (by kernel_rfl) ?_
      (refine RW.append T hs 4 rfl rfl (m := 1) (news := (vecCells v.kind wv nv sm il fl ch bx)) rfl rfl rfl rfl rfl rfl (hs.src0 rfl (fun u hu => List.all_eq_true.1 hoc u hu)) (by simp) (by dsimp only; omega) (by omega) ?_; intro ad22 cp22 w22 hs; replace hs := hs.drop)
      refine RW.nil ?_
      refine heldQ_normal ⟨_, _, 0, 0, hs, rfl, rfl⟩ ?_
      refine HW.takeR (fuel := 1) 8 rfl (fun _ _ ka kb _ hs hka hkb => Y.nilCheck rfl) ⟨_, _, 0, 0, hs, rfl, rfl⟩ rfl (by kernel_rfl) (by kernel_rfl) (by kernel_rfl) ?_
      refine HW.one (fuel := 0) 9 rfl (by kernel_rfl) ?_
      (refine RW.store1 T hs 1 rfl rfl rfl rfl rfl rfl (by simp [Value.oneCell']) rfl ?_; intro w23 hs)
      refine RW.nil ?_
      refine heldQ_normal ⟨_, _, 0, 0, hs, rfl, rfl⟩ ?_
      refine HW.done (by kernel_rfl) ?_
      refine calmQ_normal ?_
      exact joinQ_meet (ad22, cp22) ⟨rfl, rfl, rfl, rfl, rfl, trivial⟩ hs
  rintro ⟨ad', cp'⟩ w5 hs
  dsimp only at hs
  refine CW.seqJ (fun h' : GHeap => [(2, .pointer (some ⟨bn, 0, none⟩)), (3, .int .i64 most), (4, .pointer (some ⟨b1, 0, none⟩)), (8, .bool false)]) (fun h' w' => GLe h2 h' ∧ VecAt R h' (vecCells v.kind wv nv sm il fl ch bx) v ∧ Sees w0 h0 h' (⟨some ⟨b1, 0, none⟩, 1, 1, 63, 9, s :: vecCells v.kind wv nv sm il fl ch bx⟩ :: ⟨some ⟨bl, 0, none⟩, 1, 1, 102, 1, [.slice ad' (m + 1) cp']⟩ :: ⟨some ⟨bn, 0, none⟩, 1, 1, 3, 1, [.int .i64 (n + v.len)]⟩ :: ⟨ad', (m + 1), cp', 61, 8, (xs ++ (vecCells v.kind wv nv sm il fl ch bx))⟩ :: O) w') ?_ ?_
  · refine CW.regionR T 0 0 hs rfl rfl ?_
    intro w4 hs
    refine HW.takeR (fuel := 8) 0 rfl (fun _ _ ka kb _ hs hka hkb => Y.move rfl) ⟨_, _, 0, 0, hs, rfl, rfl⟩ rfl (by kernel_rfl) (by kernel_rfl) (by kernel_rfl) ?_
    refine HW.takeR (fuel := 7) 1 rfl (fun _ _ ka kb _ hs hka hkb => Y.nilCheck rfl) ⟨_, _, 0, 0, hs, rfl, rfl⟩ rfl (by kernel_rfl) (by kernel_rfl) (by kernel_rfl) ?_
    refine HW.takeR (fuel := 6) 3 rfl (fun _ _ ka kb _ hs hka hkb => Y.fieldAddr T rfl rfl rfl rfl rfl) ⟨_, _, 0, 0, hs, rfl, rfl⟩ rfl (by kernel_rfl) (by kernel_rfl) (by kernel_rfl) ?_
    refine HW.takeR (fuel := 5) 4 rfl (fun _ _ ka kb _ hs hka hkb => Y.loadRowN T hs ka hka rfl rfl rfl rfl rfl rfl) ⟨_, _, 0, 0, hs, rfl, rfl⟩ rfl (by kernel_rfl) (by kernel_rfl) (by kernel_rfl) ?_
    refine HW.two (fuel := 4) 2 5 rfl rfl (by kernel_rfl) ?_ ?_
    · refine RW.val (Y.loadRow1 T hs 2 rfl rfl rfl rfl rfl) rfl ?_
      refine RW.nil ?_
      refine heldQ_normal ⟨_, _, 0, 0, hs, rfl, rfl⟩ ?_
      refine HW.one (fuel := 3) 5 rfl (by kernel_rfl) ?_
      (refine RW.call T hs rfl rfl rfl (vecLen_con _ v _ _ hv') ?_; intro v h29 w29 hle29 hp29 hs)
      subst hp29
      have hv' := hv'.mono hR hle29
      refine RW.nil ?_
      refine heldQ_normal ⟨_, _, 0, 0, hs, rfl, rfl⟩ ?_
      refine HW.takeR (fuel := 2) 6 rfl (fun _ _ ka kb _ hs hka hkb => Y.add rfl rfl ⟨by omega, by omega⟩) ⟨_, _, 0, 0, hs, rfl, rfl⟩ rfl (by kernel_rfl) (by kernel_rfl) (by kernel_rfl) ?_
      refine HW.takeR (fuel := 1) 7 rfl (fun _ _ ka kb _ hs hka hkb => Y.nilCheck rfl) ⟨_, _, 0, 0, hs, rfl, rfl⟩ rfl (by kernel_rfl) (by kernel_rfl) (by kernel_rfl) ?_
      refine HW.one (fuel := 0) 8 rfl (by kernel_rfl) ?_
      (refine RW.store1 T hs 2 rfl rfl rfl rfl rfl rfl (by simp [Value.oneCell']) rfl ?_; intro w31 hs)
      refine RW.nil ?_
      refine heldQ_normal ⟨_, _, 0, 0, hs, rfl, rfl⟩ ?_
      refine HW.done (by kernel_rfl) ?_
      refine calmQ_normal ?_
      exact joinQ_meet h29 ⟨rfl, rfl, rfl, rfl, trivial⟩ ⟨hle29, hv', hs⟩
    · (refine RW.call T hs rfl rfl rfl (vecLen_con _ v _ _ hv') ?_; intro v h29 w29 hle29 hp29 hs)
      subst hp29
      have hv' := hv'.mono hR hle29
      refine RW.nil ?_
      refine heldQ_normal ⟨_, _, 0, 0, hs, rfl, rfl⟩ ?_
      refine HW.one (fuel := 3) 2 rfl (by kernel_rfl) ?_
      refine RW.val (Y.loadRow1 T hs 2 rfl rfl rfl rfl rfl) rfl ?_
      refine RW.nil ?_
      refine heldQ_normal ⟨_, _, 0, 0, hs, rfl, rfl⟩ ?_
      refine HW.takeR (fuel := 2) 6 rfl (fun _ _ ka kb _ hs hka hkb => Y.add rfl rfl ⟨by omega, by omega⟩) ⟨_, _, 0, 0, hs, rfl, rfl⟩ rfl (by kernel_rfl) (by kernel_rfl) (by kernel_rfl) ?_
      refine HW.takeR (fuel := 1) 7 rfl (fun _ _ ka kb _ hs hka hkb => Y.nilCheck rfl) ⟨_, _, 0, 0, hs, rfl, rfl⟩ rfl (by kernel_rfl) (by kernel_rfl) (by kernel_rfl) ?_
      refine HW.one (fuel := 0) 8 rfl (by kernel_rfl) ?_
      (refine RW.store1 T hs 2 rfl rfl rfl rfl rfl rfl (by simp [Value.oneCell']) rfl ?_; intro w31 hs)
      refine RW.nil ?_
      refine heldQ_normal ⟨_, _, 0, 0, hs, rfl, rfl⟩ ?_
      refine HW.done (by kernel_rfl) ?_
      refine calmQ_normal ?_
      exact joinQ_meet h29 ⟨rfl, rfl, rfl, rfl, trivial⟩ ⟨hle29, hv', hs⟩
  rintro h3 w6 ⟨hle3, hv3, hs⟩
  refine Zerun ?_
  first | refine RW.val (Y.move rfl) rfl ?_ | skip
  refine RW.val (Y.nilCheck rfl) rfl ?_
  refine RW.val (Y.loadRow1 T hs 2 rfl rfl rfl rfl rfl) rfl ?_
  refine Zerun ?_
  exact retM_ret [_] _ _ ⟨rfl, trivial⟩ (hle2.trans hle3) hs.drop ⟨rfl, _, _, rfl⟩
end
theorem Sees.rot3 {w0 w : World} {h0 h : GHeap} {O : List Row} {a l n v : Row} (hs : Sees w0 h0 h (a :: l :: n :: v :: O) w) : Sees w0 h0 h (l :: n :: v :: a :: O) w := hs.perm (List.perm_middle (l₁ := [l, n, v]) (a := a) (l₂ := O))
theorem Sees.drop3 {w0 w : World} {h0 h : GHeap} {O : List Row} {a l n v : Row} (hs : Sees w0 h0 h (l :: n :: v :: a :: O) w) : Sees w0 h0 h (l :: n :: v :: O) w := hs.sub ((((List.sublist_cons_self a O).cons_cons v).cons_cons n).cons_cons l)
/-- an array's elements, of one that lies in a box -/
def bv (k : Nat) (b : AD (k + 1)) : VecD (AD k) := ArrD.vec (α := AD k) b
def totV (k : Nat) (l : List (AD (k + 1))) : Nat := (l.map fun b => (bv k b).len).sum
theorem totV_snoc (k : Nat) (l : List (AD (k + 1))) (b : AD (k + 1)) : totV k (l ++ [b]) = totV k l + (bv k b).len := by
  unfold totV; rw [List.map_append, List.sum_append, List.map_cons, List.map_nil, List.sum_cons, List.sum_nil]; rfl
theorem totV_take (k : Nat) (l : List (AD (k + 1))) (i : Nat) : totV k (l.take i) ≤ totV k l := by
  have : totV k l = totV k (l.take i) + totV k (l.drop i) := by
    unfold totV; rw [← List.sum_append, ← List.map_append, List.take_append_drop]
  omega
theorem gatherBoxes_conM (k : Nat) (s : Value) (vc : List Value) (v : VecD (AD (k + 1))) (bl bn m cp : Nat) (ad : Option Addr) (n most : Int) (xs : List Value) (l0 : List (VecD (AD k))) (w0 w : World) (h0 h : GHeap) (O : List Row) (hv : VecAt (ArrAt (k + 1)) h vc v) (hk : v.cls = 2) (hfl : ∀ b ∈ v.boxes, (bv k b).cls ≠ 2) (hxs : AllN 8 (VecAt (ArrAt k) h) xs l0) (hlen : v.len ≤ 1048576) (hm : m + v.boxes.length ≤ 1048576) (hn : 0 ≤ n ∧ n + totV k v.boxes ≤ most ∧ most ≤ 1125899906842624) :
    ConM Try.prog 163 [.agg (s :: vc).toArray, .pointer (some ⟨bl, 0, none⟩), .pointer (some ⟨bn, 0, none⟩), .int .i64 most] w0 h0 h (⟨some ⟨bl, 0, none⟩, 1, 1, 102, 1, [.slice ad m cp]⟩ :: ⟨some ⟨bn, 0, none⟩, 1, 1, 3, 1, [.int .i64 n]⟩ :: ⟨ad, m, cp, 61, 8, xs⟩ :: O) w
      (fun h' O' u => u = .bool true ∧ ∃ ad' cp' xs', O' = ⟨some ⟨bl, 0, none⟩, 1, 1, 102, 1, [.slice ad' (m + v.boxes.length) cp']⟩ :: ⟨some ⟨bn, 0, none⟩, 1, 1, 3, 1, [.int .i64 (n + totV k v.boxes)]⟩ :: ⟨ad', (m + v.boxes.length), cp', 61, 8, xs'⟩ :: O ∧ AllN 8 (VecAt (ArrAt k) h') xs' (l0 ++ v.boxes.map (bv k))) := by
  have hv' := hv
  have hR : Mono (ArrAt (k + 1)) := ArrAt.mono (k + 1)
  obtain ⟨l, hl⟩ : ∃ l, v.boxes = l := ⟨_, rfl⟩
  rw [hl] at hfl hm hn ⊢
  obtain ⟨wv, nv, sm, il, fl, ch, bx, ⟨rfl, hoc⟩, _⟩ := hv
  refine ConM.of_body Try.func163 rfl Try.ntmps163 rfl rfl ?_
  intro hs
  refine Zrun ?_
  (refine RW.boxN hs rfl rfl ?_; intro b1 w1 hs)
  refine Zerun ?_
  (refine RW.call T hs rfl rfl rfl (vecClass_con _ v _ _ hv') ?_; intro v h2 w2 hle2 hp2 hs)
  subst hp2
  rw [hk]
  have hv' := hv'.mono hR hle2
  refine Zerun ?_
  (refine RW.call T hs rfl rfl rfl (vecArrays_con hR (ArrAt.one (k + 1)) _ v _ _ hv' (by omega)) ?_; intro v h3 w3 hle3 hp3 hs)
  rw [hl] at hp3
  obtain ⟨adb, cpb, xb, rfl, hS, hA⟩ := hp3
  have hs := hs.rot3
  refine Zerun ?_
  refine CW.loop (fun u : Nat × Option Addr × Nat × List Value × GHeap => [(1, .pointer (some ⟨bl, 0, none⟩)), (2, .pointer (some ⟨bn, 0, none⟩)), (3, .int .i64 most), (4, .pointer (some ⟨b1, 0, none⟩)), (8, .bool false), (39, .slice adb l.length cpb), (40, .int .i64 l.length), (41, .int .i64 u.1)]) (fun u w' => u.1 ≤ l.length ∧ GLe h3 u.2.2.2.2 ∧ AllN 8 (VecAt (ArrAt k) u.2.2.2.2) u.2.2.2.1 (l0 ++ (l.take u.1).map (bv k)) ∧ Sees w0 h0 u.2.2.2.2 (⟨some ⟨bl, 0, none⟩, 1, 1, 102, 1, [.slice u.2.1 (m + u.1) u.2.2.1]⟩ :: ⟨some ⟨bn, 0, none⟩, 1, 1, 3, 1, [.int .i64 (n + totV k (l.take u.1))]⟩ :: ⟨u.2.1, (m + u.1), u.2.2.1, 61, 8, u.2.2.2.1⟩ :: ⟨some ⟨b1, 0, none⟩, 1, 1, 63, 9, s :: vecCells v.kind wv nv sm il fl ch bx⟩ :: O) w') (fun u => l.length - u.1) (0, ad, cp, xs, h3) ⟨rfl, rfl, rfl, rfl, rfl, rfl, rfl, rfl, trivial⟩ ⟨Nat.zero_le _, GLe.refl _, ?_, ?_⟩ ?_
  · have := hxs.mono (fun u a hv => VecAt.mono (ArrAt.mono k) (hle2.trans hle3) hv)
    simpa using this
  · exact hs.cast (by dsimp only; rw [List.take_zero, show n + ((totV k [] : Nat) : Int) = n from Int.add_zero n]; rfl)
  rintro ⟨i, ad', cp', xs', hh⟩ w5 ⟨hi, hg, hX, hs⟩
  dsimp only at hi hg hX hs ⊢
  have hS := hS.mono hg
  by_cases hlt : i < l.length
  · obtain ⟨y, hy, hyl, hRy⟩ := hA.elem i hlt
    have hRy := hR _ _ _ _ hg hRy
    have htk : l.take (i + 1) = l.take i ++ [l[i]] := by rw [List.take_add_one, List.getElem?_eq_getElem hlt, Option.toList_some]
    have hsum : totV k (l.take (i + 1)) = totV k (l.take i) + (bv k l[i]).len := by rw [htk, totV_snoc]
    have hsl := totV_take k l (i + 1)
    have hcl := hfl _ (List.getElem_mem hlt)
    obtain ⟨ve, hve⟩ : ∃ ve, l[i] = ve := ⟨_, rfl⟩
    rw [hve] at hRy hcl hsum htk
    have hone := ArrAt.one (k + 1) _ _ _ hRy
    obtain ⟨s1, vc1, rfl, hI1, hV1⟩ := hRy
    change VecAt (ArrAt k) hh vc1 (bv k ve) at hV1
    have hV1' := hV1
    have hos : s1.oneCell' = true := hone s1 (by simp)
    obtain ⟨wv1, nv1, sm1, il1, fl1, ch1, bx1, ⟨rfl, hoc1⟩, _⟩ := hV1
    refine Zerun ?_
    (refine RW.allocN T hs rfl rfl rfl rfl ?_; intro b6 w6 hs)
    (refine RW.storeAll T hs 0 rfl rfl rfl rfl rfl rfl (by simp only [List.all_cons, hos, Bool.true_and]; exact hoc1) rfl ?_; intro w7 hs)
    have hs := hs.rot3
    refine Zerun ?_
    (refine RW.callM T hs rfl rfl rfl (gatherFlat_conM (ArrAt.mono k) _ _ (bv k ve) bl bn (m + i) cp' ad' (n + totV k (l.take i)) most xs' _ _ _ _ _ hV1' hos hcl (by omega) ⟨by omega, by omega⟩) ?_; intro v h8 O8 w8 hle8 hp8 hs)
    obtain ⟨rfl, ad8, cp8, rfl⟩ := hp8
    rw [decide_eq_true (show n + (totV k (l.take i) : Int) + ((bv k ve).len : Int) ≤ most by omega)]
    have hs := hs.drop3
    refine Zerun ?_
    refine loopQ_round (i + 1, ad8, cp8, xs' ++ vecCells (bv k ve).kind wv1 nv1 sm1 il1 fl1 ch1 bx1, h8) ⟨rfl, rfl, rfl, rfl, rfl, rfl, rfl, rfl, trivial⟩ ⟨by dsimp only; omega, hg.trans hle8, ?_, ?_⟩ (by dsimp only; omega)
    · dsimp only
      rw [htk, List.map_append, ← List.append_assoc]
      exact (hX.mono (fun u a hv => VecAt.mono (ArrAt.mono k) hle8 hv)).append (AllN.one rfl (hV1'.mono (ArrAt.mono k) hle8))
    · refine hs.cast ?_
      dsimp only
      rw [hsum, Int.natCast_add, ← Int.add_assoc]
      rfl
  obtain rfl : i = l.length := by omega
  refine Zerun ?_
  refine retM_ret [_] _ _ ⟨rfl, trivial⟩ ((hle2.trans hle3).trans hg) hs.drop3 ⟨rfl, ad', cp', xs', ?_, ?_⟩
  · rw [List.take_length]
  · rw [List.take_length] at hX; exact hX
end Go.Proofs.Ythbfkhklihejiaa

/-
  Contracts of functions of package part: what lies in boxes, as a list. No statement is proved here.
-/
namespace Go.Proofs.Ythbfkhklihejiaa
open Go Go.RowKit
set_option linter.unusedVariables false
set_option linter.unusedSimpArgs false
set_option maxHeartbeats 4000000
attribute [local irreducible] CW RW QW SW HW ConM retM heldQ calmQ elemP thenQ blockQ loopQ joinQ retQ Yields Con Sl zF magR unitF truncF fwF wholeF tidySpec elemQ rankF leastN tidyW
set_option maxHeartbeats 4000000

theorem Sees.rot2 {w0 w : World} {h0 h : GHeap} {O : List Row} {l n v : Row} (hs : Sees w0 h0 h (v :: l :: n :: O) w) : Sees w0 h0 h (l :: n :: v :: O) w := hs.perm (List.perm_middle (l₁ := [l, n]) (a := v) (l₂ := O))
theorem Sees.back2 {w0 w : World} {h0 h : GHeap} {O : List Row} {l n v : Row} (hs : Sees w0 h0 h (l :: n :: v :: O) w) : Sees w0 h0 h (v :: l :: n :: O) w := hs.perm (List.perm_middle (l₁ := [l, n]) (a := v) (l₂ := O)).symm
/-- lists behind each other, of the class that they have -/
def joinedV {α : Type} (c : Int) (l : List (VecD α)) : VecD α := if c < 0 then noneV (headC l) else joinS c l
theorem totV_map (k : Nat) (l : List (AD (k + 1))) : ((l.map (bv k)).map VecD.len).sum = totV k l := by
  unfold totV; rw [List.map_map]; rfl
theorem enlist_con (k : Nat) (cs : List Value) (a : AD (k + 2)) (c most : Int) (w : World) (h : GHeap) (ha : ArrAt (k + 2) h cs a) (hk : (bv (k + 1) a).cls = 2) (hfl : ∀ b ∈ (bv (k + 1) a).boxes, (bv k b).cls ≠ 2) (hlen : (bv (k + 1) a).boxes.length ≤ 1048576) (hn : totV k (bv (k + 1) a).boxes ≤ most ∧ most ≤ 1048576)
    (hj : joinC (-1) ((bv (k + 1) a).boxes.map (bv k)) = some c) (hjl : (joinedV c ((bv (k + 1) a).boxes.map (bv k))).len ≤ 1048576) :
    Con Try.prog 100 [.agg cs.toArray, .int .i64 most] w h (fun h' u => ∃ c2, u = .tuple #[.agg c2.toArray, .int .i64 0] ∧ ArrR (ArrAt k) h' c2 ⟨[((joinedV c ((bv (k + 1) a).boxes.map (bv k))).len : Int)], (joinedV c ((bv (k + 1) a).boxes.map (bv k))).sq⟩) := by
  have hone := ArrAt.one (k + 2) _ _ _ ha
  obtain ⟨s, vc, rfl, hsh, hv⟩ := ha
  change VecAt (ArrAt (k + 1)) h vc (bv (k + 1) a) at hv
  obtain ⟨va, hva⟩ : ∃ v, bv (k + 1) a = v := ⟨_, rfl⟩
  rw [hva] at hv hk hfl hlen hn hj hjl ⊢
  have hos : s.oneCell' = true := hone s (by simp)
  have hv' := hv
  obtain ⟨wv, nv, sm, il, fl, ch, bx, ⟨rfl, hoc⟩, hvk⟩ := hv
  have hbl : va.len ≤ 1048576 := by
    have hk6 : va.kind = 6 := by
      unfold VecD.cls at hk
      split at hk
      · omega
      · split at hk
        · assumption
        · omega
    rcases hvk with ⟨e, _⟩ | ⟨e, _⟩ | ⟨e, _⟩ | ⟨e, _⟩ | ⟨e, _⟩ | ⟨e, _⟩ | ⟨_, l, _, e⟩
    · omega
    · omega
    · omega
    · omega
    · omega
    · omega
    · rw [e] at hlen ⊢
      show 0 + 0 + l.length ≤ _
      dsimp only at hlen
      omega
  refine Con.of_body Try.func100 rfl Try.ntmps100 rfl rfl ?_
  intro hs
  refine Zrun ?_
  (refine RW.boxN hs rfl rfl ?_; intro b1 w1 hs)
  (refine RW.allocN T hs rfl rfl rfl rfl ?_; intro b2 w2 hs)
  refine Zerun ?_
  (refine RW.allocN T hs rfl rfl rfl rfl ?_; intro b3 w3 hs)
  refine Zerun ?_
  (refine RW.allocN T hs rfl rfl rfl rfl ?_; intro b4 w4 hs)
  refine RW.store1 T hs 0 rfl rfl rfl rfl rfl rfl (by simp [Value.oneCell']) rfl ?_
  intro w5 hs
  refine Zerun ?_
  have hs := (hs.swap.nilRow 61 8).rot2
  (refine RW.callM T hs rfl rfl rfl (gatherBoxes_conM k _ _ va b3 b4 0 0 none 0 most [] [] _ _ _ _ _ hv' hk hfl rfl hbl (by omega) ⟨by omega, by omega, by omega⟩) ?_; intro v h6 O6 w6 hle6 hp6 hs)
  obtain ⟨rfl, ad6, cp6, xs6, rfl, hX⟩ := hp6
  rw [List.nil_append] at hX
  obtain ⟨h7, hle7, hs, hS7⟩ := hs.back2.freeze
  obtain ⟨L, hL⟩ : ∃ L, va.boxes.map (bv k) = L := ⟨_, rfl⟩
  have hLl : 0 + va.boxes.length = L.length := by rw [← hL, List.length_map, Nat.zero_add]
  have hLs : (L.map VecD.len).sum ≤ 1048576 := by rw [← hL, totV_map]; omega
  rw [hL] at hX hj hjl ⊢
  rw [hLl] at hs hS7
  have hRows : RowsAt 8 (VecAt (ArrAt k) h7) h7 (.slice ad6 L.length cp6) L := ⟨ad6, cp6, xs6, rfl, hS7, hX.mono (fun u a hv => VecAt.mono (ArrAt.mono k) hle7 hv)⟩
  refine Zerun ?_
  (refine RW.call T hs rfl rfl rfl (flatJoin_con (ArrAt.mono k) (ArrAt.one k) _ L _ _ hRows hLs) ?_; intro v h8 w8 hle8 hp8 hs)
  obtain ⟨cs8, ok8, rfl, _, hp8⟩ := hp8
  obtain ⟨rfl, hV8⟩ := hp8 c hj
  change VecAt (ArrAt k) h8 cs8 (joinedV c L) at hV8
  obtain ⟨V, hV⟩ : ∃ V, joinedV c L = V := ⟨_, rfl⟩
  rw [hV] at hV8 hjl ⊢
  have hV8' := hV8
  obtain ⟨wv2, nv2, sm2, il2, fl2, ch2, bx2, ⟨rfl, hoc2⟩, _⟩ := hV8
  refine Zerun ?_
  (refine RW.allocN T hs rfl rfl rfl rfl ?_; intro b9 w9 hs)
  (refine RW.storeAll T hs 0 rfl rfl rfl rfl rfl rfl hoc2 rfl ?_; intro w10 hs)
  refine Zerun ?_
  (refine RW.call T hs rfl rfl rfl (valueList_con (ArrAt.mono k) _ V _ _ hV8' hjl) ?_; intro v h11 w11 hle11 hp11 hs)
  obtain ⟨cs11, rfl, hA⟩ := hp11
  have hA' := hA
  obtain ⟨s12, vc12, rfl, ⟨ad12, cap12, rfl, _⟩, hv12⟩ := hA
  obtain ⟨wv3, nv3, sm3, il3, fl3, ch3, bx3, ⟨rfl, hoc3⟩, _⟩ := hv12
  refine Zerun ?_
  refine RW.storeAll T hs 3 rfl rfl rfl rfl rfl rfl (show (Value.oneCell' (.slice ad12 _ cap12) && (vecCells V.sq.kind wv3 nv3 sm3 il3 fl3 ch3 bx3).all Value.oneCell') = true by rw [hoc3]; rfl) rfl ?_
  intro w13 hs
  refine Zerun ?_
  exact retQ_ret [_, _] h11 ⟨resN T hs 3 rfl rfl rfl rfl rfl rfl, rfl, trivial⟩ hs.dropAll ⟨_, rfl, hA'⟩
end Go.Proofs.Ythbfkhklihejiaa

/-
  A list cut into parts: these parts behind each other are what was taken of it. No statement is proved here.
-/
namespace Go.Proofs.Ythbfkhklihejiaa
open Go Go.RowKit
set_option linter.unusedVariables false
set_option linter.unusedSimpArgs false
set_option maxHeartbeats 4000000
attribute [local irreducible] CW RW QW SW HW ConM retM heldQ calmQ elemP thenQ blockQ loopQ joinQ retQ Yields Con Sl zF magR unitF truncF fwF wholeF tidySpec elemQ rankF leastN tidyW
set_option maxHeartbeats 2000000

/-- what is taken of the first elements of a list: those beside whose numbers are greater than nought -/
def keptL (l C : List Int) : Nat → List Int
  | 0 => []
  | i + 1 => keptL l C i ++ (if 0 < l.getD i 0 then [C.getD i 0] else [])
theorem keptL_len (l C : List Int) : ∀ i, (keptL l C i).length ≤ i
  | 0 => Nat.le_refl _
  | i + 1 => by
    have := keptL_len l C i
    unfold keptL
    rw [List.length_append]
    split
    · show _ + 1 ≤ _; omega
    · show _ + 0 ≤ _; omega
theorem drop_take_snoc (C : List Int) (f d : Nat) (h : f + d < C.length) : (C.drop f).take (d + 1) = (C.drop f).take d ++ [C.getD (f + d) 0] := by
  have hl : d < (C.drop f).length := by rw [List.length_drop]; omega
  rw [List.take_add_one, List.getElem?_eq_getElem hl, Option.toList_some, List.getElem_drop]
  congr 2
  rw [List.getD_eq_getElem?_getD, List.getElem?_eq_getElem (by omega)]; rfl
theorem keptL_run (l C : List Int) (f : Nat) : ∀ d, f + d ≤ C.length → (∀ j, f ≤ j → j < f + d → 0 < l.getD j 0) → keptL l C (f + d) = keptL l C f ++ (C.drop f).take d
  | 0, _, _ => by rw [List.take_zero, List.append_nil]; rfl
  | d + 1, h1, h2 => by
    have ih := keptL_run l C f d (by omega) (fun j a b => h2 j a (by omega))
    show keptL l C (f + d) ++ (if 0 < l.getD (f + d) 0 then [C.getD (f + d) 0] else []) = _
    rw [if_pos (h2 (f + d) (by omega) (by omega)), ih, drop_take_snoc C f d (by omega), List.append_assoc]
structure SegInv (l C : List Int) (k : Nat) (st : List (Nat × Nat) × Nat) : Prop where
  join : st.1.flatMap (segT C) = keptL l C st.2
  down : ∀ j, st.2 < j → j ≤ k → j < l.length → 0 < l.getD j 0 ∧ l.getD j 0 ≤ l.getD (j - 1) 0
  le : st.2 ≤ k
theorem segInv (l C : List Int) (hl : l.length = C.length) : ∀ k, k ≤ l.length → SegInv l C k (segsTo l k)
  | 0, _ => ⟨rfl, fun j a b => by have : j = 0 := by omega
                                  subst this; exact absurd a (Nat.not_lt_zero _), Nat.le_refl _⟩
  | k + 1, hk => by
    have ih := segInv l C hl k (by omega)
    show SegInv l C (k + 1) (segStep l (segsTo l k) (k + 1))
    unfold segStep
    split
    · rename_i c
      refine ⟨ih.join, fun j a b e => ?_, Nat.le_succ_of_le ih.le⟩
      by_cases hj : j ≤ k
      · exact ih.down j a hj e
      · have : j = k + 1 := by omega
        subst this
        exact c.2
    · refine ⟨?_, fun j a b => by have a' : k + 1 < j := a; omega, Nat.le_refl _⟩
      dsimp only
      obtain ⟨f, hf⟩ : ∃ f, (segsTo l k).2 = f := ⟨_, rfl⟩
      have hle := ih.le
      have hdn := ih.down
      have hjn := ih.join
      rw [hf] at hle hdn hjn ⊢
      by_cases c : 0 < l.getD f 0
      · rw [if_pos c, List.flatMap_append, hjn]
        have e := keptL_run l C f (k + 1 - f) (by omega) (fun j a b => by
          by_cases hj : j = f
          · rw [hj]; exact c
          · exact (hdn j (by omega) (by omega) (by omega)).1)
        rw [show f + (k + 1 - f) = k + 1 by omega] at e
        rw [e]
        show _ ++ ((C.drop f).take (k + 1 - f) ++ []) = _
        rw [List.append_nil]
      · rw [if_neg c, hjn]
        have hfk : f = k := by
          by_cases h : f = k
          · exact h
          · have hd := hdn (f + 1) (by omega) (by omega) (by omega)
            rw [Nat.add_sub_cancel] at hd
            omega
        subst hfk
        show _ = keptL l C f ++ _
        rw [if_neg c, List.append_nil]
theorem segs_join (l C : List Int) (hl : l.length = C.length) : (segs l).flatMap (segT C) = keptL l C l.length := by
  have ih := segInv l C hl l.length (Nat.le_refl _)
  unfold segs
  rw [ih.join]
  cases hn : l.length with
  | zero => have := ih.le; rw [hn] at this; rw [show (segsTo l 0).2 = 0 by omega]
  | succ k =>
    congr 1
    show (segStep l (segsTo l k) (k + 1)).2 = k + 1
    unfold segStep
    rw [if_neg (by omega)]
/-- joined, texts that aren't empty are texts -/
theorem joinC_texts (k : Nat) : ∀ (L : List (List Int)), (∀ t ∈ L, t ≠ []) → ∀ c : Int, (c = -1 ∨ c = 1) → joinC c (L.map fun t => (⟨5, [], t, []⟩ : VecD (AD k))) = some (if L = [] then c else 1)
  | [], _, c, _ => rfl
  | t :: L, h, c, hc => by
    have h0 : t ≠ [] := h t List.mem_cons_self
    have hlen : (⟨5, [], t, []⟩ : VecD (AD k)).len ≠ 0 := by
      show 0 + t.length + 0 ≠ 0
      have := List.length_pos_iff.2 h0
      omega
    have hcls : (⟨5, [], t, []⟩ : VecD (AD k)).cls = 1 := rfl
    rw [List.map_cons, joinC_step hlen (by rw [hcls]; omega), hcls, joinC_texts k L (fun u hu => h u (List.mem_cons_of_mem _ hu)) 1 (.inr rfl)]
    simp
theorem joinS_texts (k : Nat) (L : List (List Int)) : joinS 1 (L.map fun t => (⟨5, [], t, []⟩ : VecD (AD k))) = ⟨5, [], L.flatMap id, []⟩ := by
  unfold joinS
  rw [if_pos rfl, List.flatMap_map]
  rfl
/-- the parts, listed -/
theorem parts_joined (l C : List Int) (hl : l.length = C.length) (k : Nat) : (ArrD.vec (α := AD (k + 1)) (⟨[((segs l).length : Int)], ⟨6, [], [], (segs l).map fun s => textA k (segT C s)⟩⟩ : ArrD (AD (k + 1)))).boxes.map (bv k) = ((segs l).map (segT C)).map fun t => (⟨5, [], t, []⟩ : VecD (AD k)) := by
  show ((segs l).map fun s => textA k (segT C s)).map (bv k) = _
  rw [List.map_map, List.map_map]
  rfl
theorem segs_ne (l C : List Int) (hl : l.length = C.length) : ∀ t ∈ (segs l).map (segT C), t ≠ [] := by
  intro t ht
  obtain ⟨s, hs, rfl⟩ := List.mem_map.1 ht
  obtain ⟨h1, h2⟩ := (segsTo_ok l l.length).2.2 s hs
  intro e
  have : (segT C s).length = 0 := by rw [e]; rfl
  unfold segT at this
  rw [List.length_take, List.length_drop] at this
  omega
theorem flat_segs (l C : List Int) (hl : l.length = C.length) : ((segs l).map (segT C)).flatMap id = keptL l C l.length := by
  rw [← segs_join l C hl, List.flatMap_map]
  rfl
theorem flat_nil {L : List (List Int)} (h : ∀ t ∈ L, t ≠ []) : L.flatMap id = [] ↔ L = [] := by
  constructor
  · intro e
    cases L with
    | nil => rfl
    | cons t r =>
      rw [List.flatMap_cons] at e
      exact absurd (List.append_eq_nil_iff.1 e).1 (h t List.mem_cons_self)
  · rintro rfl; rfl
end Go.Proofs.Ythbfkhklihejiaa

/-
  Contract of the law's own function of layer 28: a list cut, and listed again. No statement is proved here.
-/
namespace Go.Proofs.Ythbfkhklihejiaa
open Go Go.RowKit
set_option linter.unusedVariables false
set_option linter.unusedSimpArgs false
set_option maxHeartbeats 4000000
attribute [local irreducible] CW RW QW SW HW ConM retM heldQ calmQ elemP thenQ blockQ loopQ joinQ retQ Yields Con Sl zF magR unitF truncF fwF wholeF tidySpec elemQ rankF leastN tidyW
set_option maxHeartbeats 4000000

/-- what is listed of the parts -/
def listA (K : List Int) : AD 2 := if K = [] then numsA 1 [] else textA 1 K
def numsPP (N : List Nat) : PD 2 := (numsP N : PlainD (PD 1))
def textPP (K : List Int) : PD 2 := (textP K : PlainD (PD 1))
def listP (K : List Int) : PD 2 := if K = [] then numsPP [] else textPP K
theorem listA_good (K : List Int) (hm : K.length ≤ 1048576) : good 2 40 (listA K) := by
  unfold listA
  split
  · exact numsA_good 1 [] 40 (by omega) (by decide)
  · exact textA_good 1 K 40 (by omega) hm
theorem listA_plain (K : List Int) : plain 2 (listA K) = listP K := by
  unfold listA listP
  by_cases e : K = []
  · rw [if_pos e, if_pos e]; exact numsA_plain 1 []
  · rw [if_neg e, if_neg e]; exact textA_plain 1 K
theorem listP_tdy (K : List Int) : tdy 2 (listP K) := by
  unfold listP
  by_cases e : K = []
  · rw [if_pos e]; exact numsP_tdy 1 [] (fun x hx => by cases hx)
  · rw [if_neg e]; exact textP_tdy 1 K
theorem listA_of (l C : List Int) (hl : l.length = C.length) : ∃ c, joinC (-1) (((segs l).map (segT C)).map fun t => (⟨5, [], t, []⟩ : VecD (AD 1))) = some c
    ∧ (⟨[((joinedV c (((segs l).map (segT C)).map fun t => (⟨5, [], t, []⟩ : VecD (AD 1)))).len : Int)], (joinedV c (((segs l).map (segT C)).map fun t => (⟨5, [], t, []⟩ : VecD (AD 1)))).sq⟩ : ArrD (AD 1)) = listA (keptL l C l.length)
    ∧ (joinedV c (((segs l).map (segT C)).map fun t => (⟨5, [], t, []⟩ : VecD (AD 1)))).len = (keptL l C l.length).length := by
  have hne := segs_ne l C hl
  have hfl := flat_segs l C hl
  obtain ⟨L, hL⟩ : ∃ L, (segs l).map (segT C) = L := ⟨_, rfl⟩
  rw [hL] at hne hfl ⊢
  refine ⟨_, joinC_texts 1 L hne (-1) (.inl rfl), ?_⟩
  by_cases e : L = []
  · subst e
    rw [if_pos rfl]
    rw [← hfl]
    exact ⟨rfl, rfl⟩
  · rw [if_neg e]
    have hj : joinedV 1 (L.map fun t => (⟨5, [], t, []⟩ : VecD (AD 1))) = ⟨5, [], keptL l C l.length, []⟩ := by
      unfold joinedV
      rw [if_neg (by omega), joinS_texts 1 L, hfl]
    rw [hj, sq_text]
    have hk : keptL l C l.length ≠ [] := by
      rw [← hfl]
      exact fun h => e ((flat_nil hne).1 h)
    unfold listA
    rw [if_neg hk]
    have hlen : (⟨5, [], keptL l C l.length, []⟩ : VecD (AD 1)).len = (keptL l C l.length).length := by
      show 0 + (keptL l C l.length).length + 0 = _; omega
    rw [hlen]
    exact ⟨rfl, rfl⟩
theorem tot_parts (l C : List Int) (hl : l.length = C.length) : totV 1 (bv 2 (partsA l C)).boxes = (keptL l C l.length).length := by
  rw [← totV_map]
  have e : (bv 2 (partsA l C)).boxes.map (bv 1) = ((segs l).map (segT C)).map fun t => (⟨5, [], t, []⟩ : VecD (AD 1)) := parts_joined l C hl 1
  rw [e, ← flat_segs l C hl]
  generalize (segs l).map (segT C) = L
  induction L with
  | nil => rfl
  | cons t r ih =>
    rw [List.map_cons, List.map_cons, List.sum_cons, ih, List.flatMap_cons, List.length_append]
    show (0 + t.length + 0) + _ = t.length + _
    omega
theorem partCutsLaw_con (v0 v1 : Value) (lb lr : List Int) (w : World) (h : GHeap) (hb : KAt .u8 h v0 lb) (hr : KAt .i32 h v1 lr) (hbu : ∀ u ∈ lb, 0 ≤ u) : Con Try.prog 19 [v0, v1] w h (fun _ u => u = .bool true) := by
  obtain ⟨ad0, cp0, rfl, hS0⟩ := id hb
  obtain ⟨ad1, cp1, rfl, hS1⟩ := id hr
  have hc0 := hS0.caps
  have hc1 := hS1.caps
  refine Con.of_body Try.func19 rfl Try.ntmps19 rfl rfl ?_
  intro hs
  refine Zrun ?_
  by_cases hll : lb.length = lr.length
  rotate_left
  · refine Zerun ?_
    (refine RW.call T hs rfl rfl rfl (awake28_con _ _) ?_; intro v h3 w3 hle3 hp3 hs)
    subst hp3
    refine Zerun ?_
    exact retQ_ret [_] h3 ⟨rfl, trivial⟩ hs.dropAll rfl
  by_cases h200 : lr.length ≤ 200
  rotate_left
  · refine Zerun ?_
    (refine RW.call T hs rfl rfl rfl (awake28_con _ _) ?_; intro v h3 w3 hle3 hp3 hs)
    subst hp3
    refine Zerun ?_
    exact retQ_ret [_] h3 ⟨rfl, trivial⟩ hs.dropAll rfl
  refine Zerun ?_
  (refine RW.lit T hs (vs := [.int .i64 lb.length]) (cs := [.int .i64 lb.length]) rfl rfl rfl rfl (by simp [Value.cells]) rfl rfl rfl rfl rfl ?_; intro b2 w2 hs)
  obtain ⟨h3, hle3, hs, hS3⟩ := hs.freeze
  have hI3 : IntsAt h3 (.slice (some ⟨b2, 0, none⟩) 1 1) [(lb.length : Int)] := IntsAt.of_sl hS3
  have hs := hs.nilRow 21 1
  refine RW.val (Y.build T rfl rfl rfl rfl rfl rfl rfl) rfl ?_
  (refine RW.allocN T hs rfl rfl rfl rfl ?_; intro b4 w4 hs)
  (refine RW.storeAll T hs 0 rfl rfl rfl rfl rfl rfl rfl rfl ?_; intro w5 hs)
  refine Zerun ?_
  have hs := hs.nilRow 83 4
  refine CW.loop (fun u : Nat × Option Addr × Nat × List Value × Option Addr × Nat => [(0, .slice ad0 lb.length cp0), (1, .slice ad1 lr.length cp1), (4, .bool false), (5, .pointer (some ⟨b4, 0, none⟩)), (6, .slice u.2.2.2.2.1 (keptL (lb.map (· % 4)) lr u.1).length u.2.2.2.2.2), (7, .int .i64 u.1)]) (fun u w' => u.1 ≤ lb.length ∧ AllN 4 (ItemAt (PlainAt 1) h3) u.2.2.2.1 ((lb.take u.1).map fun x => ⟨0, fwF (x % 4), 0, []⟩) ∧ Sees w h h3 (⟨u.2.1, u.1, u.2.2.1, 83, 4, u.2.2.2.1⟩ :: ⟨some ⟨b4, 0, none⟩, 1, 1, 50, 3, [.slice (some ⟨b2, 0, none⟩) 1 1, .slice u.2.1 u.1 u.2.2.1, .int .i64 0]⟩ :: ⟨u.2.2.2.2.1, (keptL (lb.map (· % 4)) lr u.1).length, u.2.2.2.2.2, 21, 1, (keptL (lb.map (· % 4)) lr u.1).map (Value.int .i32)⟩ :: []) w') (fun u => lb.length - u.1) (0, none, 0, [], none, 0) ⟨rfl, rfl, rfl, rfl, rfl, rfl, trivial⟩ ⟨Nat.zero_le _, rfl, hs⟩ ?_
  rintro ⟨i, adi, cpi, xs, adw, cpw⟩ w6 ⟨hi, hX, hs⟩
  dsimp only at hi hX hs ⊢
  have hkl := keptL_len (lb.map (· % 4)) lr i
  by_cases hlt : i < lb.length
  · have htk := take_succ_getD lb i 0 hlt
    have hx0 : 0 ≤ lb.getD i 0 := hbu _ (mem_getD _ _ _ hlt)
    have hlt1 : i < lr.length := by omega
    have hli : (lb.map (· % 4)).getD i 0 = lb.getD i 0 % 4 := by
      rw [getD_map' _ _ _ _ hlt, List.getD_eq_getElem?_getD, List.getElem?_eq_getElem hlt]; rfl
    have hkk : keptL (lb.map (· % 4)) lr (i + 1) = keptL (lb.map (· % 4)) lr i ++ (if 0 < lb.getD i 0 % 4 then [lr.getD i 0] else []) := by rw [← hli]; rfl
    have hS03 := hS0.mono hle3
    have hS13 := hS1.mono hle3
    have hv0 := map_get (Value.int .u8) lb i 0 hlt
    have hv1 := map_get (Value.int .i32) lr i 0 hlt1
    have hxr : 0 ≤ lb.getD i 0 % 4 ∧ lb.getD i 0 % 4 < 4 := by omega
    refine Zerun ?_
    refine CW.meet (fun u : Option Addr × Nat => [(0, .slice ad0 lb.length cp0), (1, .slice ad1 lr.length cp1), (4, .bool false), (5, .pointer (some ⟨b4, 0, none⟩)), (6, .slice adw (keptL (lb.map (· % 4)) lr i).length cpw), (7, .int .i64 i)]) (fun u w' => Sees w h h3 (⟨u.1, (i + 1), u.2, 83, 4, (xs ++ [.int .i64 0, .float .f64 (fwF (lb.getD i 0 % 4)), .int .i32 0, .slice none 0 0])⟩ :: ⟨some ⟨b4, 0, none⟩, 1, 1, 50, 3, [.slice (some ⟨b2, 0, none⟩) 1 1, .slice u.1 (i + 1) u.2, .int .i64 0]⟩ :: ⟨adw, (keptL (lb.map (· % 4)) lr i).length, cpw, 21, 1, (keptL (lb.map (· % 4)) lr i).map (Value.int .i32)⟩ :: []) w') ?_ ?_
    · refine CW.regionR T 2 2 hs rfl rfl ?_
      intro w7 hs
      refine HW.takeR (fuel := 12) 0 rfl (fun _ _ ka kb _ hs hka hkb => Y.fieldAddr T rfl rfl rfl rfl rfl) ⟨_, _, 2, 2, hs, rfl, rfl⟩ rfl (by kernel_rfl) (by kernel_rfl) (by kernel_rfl) ?_
      refine HW.takeR (fuel := 11) 2 rfl (fun _ _ ka kb _ hs hka hkb => Y.move rfl) ⟨_, _, 2, 2, hs, rfl, rfl⟩ rfl (by kernel_rfl) (by kernel_rfl) (by kernel_rfl) ?_
      refine HW.takeR (fuel := 10) 3 rfl (fun _ _ ka kb _ hs hka hkb => Y.move rfl) ⟨_, _, 2, 2, hs, rfl, rfl⟩ rfl (by kernel_rfl) (by kernel_rfl) (by kernel_rfl) ?_
      refine HW.takeR (fuel := 9) 4 rfl (fun _ _ ka kb _ hs hka hkb => Y.idxSN T rfl rfl (hS0.mono hs.le) rfl rfl rfl hlt) ⟨_, _, 2, 2, hs, rfl, rfl⟩ rfl (by kernel_rfl) (by kernel_rfl) (by kernel_rfl) ?_
      refine HW.takeR (fuel := 8) 5 rfl (fun _ _ ka kb _ hs hka hkb => Y.ldS T hs rfl (hS0.mono hs.le) rfl rfl hlt (map_get (Value.int .u8) lb i 0 hlt)) ⟨_, _, 2, 2, hs, rfl, rfl⟩ rfl (by kernel_rfl) (by kernel_rfl) (by kernel_rfl) ?_
      refine HW.takeR (fuel := 7) 6 rfl (fun _ _ ka kb _ hs hka hkb => Y.rem rfl rfl (by decide) hx0) ⟨_, _, 2, 2, hs, rfl, rfl⟩ rfl (by kernel_rfl) (by kernel_rfl) (by kernel_rfl) ?_
      refine HW.takeR (fuel := 6) 7 rfl (fun _ _ ka kb _ hs hka hkb => Y.convIF T rfl rfl rfl) ⟨_, _, 2, 2, hs, rfl, rfl⟩ rfl (by kernel_rfl) (by kernel_rfl) (by kernel_rfl) ?_
      refine HW.takeR (fuel := 5) 8 rfl (fun _ _ ka kb _ hs hka hkb => Y.build T rfl rfl rfl rfl rfl rfl rfl) ⟨_, _, 2, 2, hs, rfl, rfl⟩ rfl (by kernel_rfl) (by kernel_rfl) (by kernel_rfl) ?_
      refine HW.two (fuel := 4) 1 9 rfl rfl (by kernel_rfl) ?_ ?_
      · refine RW.val (Y.loadRow1 T hs 1 rfl rfl rfl rfl rfl) rfl ?_
        refine RW.nil ?_
        refine heldQ_normal ⟨_, _, 2, 2, hs, rfl, rfl⟩ ?_
        refine HW.one (fuel := 3) 9 rfl (by kernel_rfl) ?_
        (refine RW.lit T hs (vs := [.agg [.int .i64 0, .float .f64 (fwF (lb.getD i 0 % 4)), .int .i32 0, .slice none 0 0].toArray]) (cs := [.int .i64 0, .float .f64 (fwF (lb.getD i 0 % 4)), .int .i32 0, .slice none 0 0]) rfl rfl rfl rfl (by simp [Value.cells]) rfl rfl rfl rfl rfl ?_; intro b43 w43 hs)
        refine RW.nil ?_
        refine heldQ_normal ⟨_, _, 3, 3, hs, rfl, rfl⟩ ?_
        refine HW.one (fuel := 2) 10 rfl (by kernel_rfl) ?_
        (refine RW.append T hs 1 rfl rfl (m := 1) (news := [.int .i64 0, .float .f64 (fwF (lb.getD i 0 % 4)), .int .i32 0, .slice none 0 0]) rfl rfl rfl rfl rfl rfl (hs.src0 rfl (by simp [Value.oneCell'])) (by simp) (by dsimp only; omega) (by omega) ?_; intro ad44 cp44 w44 hs; replace hs := hs.drop)
        refine RW.nil ?_
        refine heldQ_normal ⟨_, _, 2, 2, hs, rfl, rfl⟩ ?_
        refine HW.takeR (fuel := 1) 11 rfl (fun _ _ ka kb _ hs hka hkb => Y.fieldAddr T rfl rfl rfl rfl rfl) ⟨_, _, 2, 2, hs, rfl, rfl⟩ rfl (by kernel_rfl) (by kernel_rfl) (by kernel_rfl) ?_
        refine HW.one (fuel := 0) 12 rfl (by kernel_rfl) ?_
        (refine RW.store1 T hs 1 rfl rfl rfl rfl rfl rfl rfl rfl ?_; intro w45 hs)
        refine RW.nil ?_
        refine heldQ_normal ⟨_, _, 2, 2, hs, rfl, rfl⟩ ?_
        refine HW.done (by kernel_rfl) ?_
        refine calmQ_normal ?_
        exact joinQ_meet (ad44, cp44) ⟨rfl, rfl, rfl, rfl, rfl, rfl, trivial⟩ hs
      · (refine RW.lit T hs (vs := [.agg [.int .i64 0, .float .f64 (fwF (lb.getD i 0 % 4)), .int .i32 0, .slice none 0 0].toArray]) (cs := [.int .i64 0, .float .f64 (fwF (lb.getD i 0 % 4)), .int .i32 0, .slice none 0 0]) rfl rfl rfl rfl (by simp [Value.cells]) rfl rfl rfl rfl rfl ?_; intro b43 w43 hs)
        refine RW.nil ?_
        refine heldQ_normal ⟨_, _, 3, 3, hs, rfl, rfl⟩ ?_
        refine HW.one (fuel := 3) 1 rfl (by kernel_rfl) ?_
        refine RW.val (Y.loadRow1 T hs 2 rfl rfl rfl rfl rfl) rfl ?_
        refine RW.nil ?_
        refine heldQ_normal ⟨_, _, 3, 3, hs, rfl, rfl⟩ ?_
        refine HW.one (fuel := 2) 10 rfl (by kernel_rfl) ?_
        (refine RW.append T hs 1 rfl rfl (m := 1) (news := [.int .i64 0, .float .f64 (fwF (lb.getD i 0 % 4)), .int .i32 0, .slice none 0 0]) rfl rfl rfl rfl rfl rfl (hs.src0 rfl (by simp [Value.oneCell'])) (by simp) (by dsimp only; omega) (by omega) ?_; intro ad44 cp44 w44 hs; replace hs := hs.drop)
        refine RW.nil ?_
        refine heldQ_normal ⟨_, _, 2, 2, hs, rfl, rfl⟩ ?_
        refine HW.takeR (fuel := 1) 11 rfl (fun _ _ ka kb _ hs hka hkb => Y.fieldAddr T rfl rfl rfl rfl rfl) ⟨_, _, 2, 2, hs, rfl, rfl⟩ rfl (by kernel_rfl) (by kernel_rfl) (by kernel_rfl) ?_
        refine HW.one (fuel := 0) 12 rfl (by kernel_rfl) ?_
        (refine RW.store1 T hs 1 rfl rfl rfl rfl rfl rfl rfl rfl ?_; intro w45 hs)
        refine RW.nil ?_
        refine heldQ_normal ⟨_, _, 2, 2, hs, rfl, rfl⟩ ?_
        refine HW.done (by kernel_rfl) ?_
        refine calmQ_normal ?_
        exact joinQ_meet (ad44, cp44) ⟨rfl, rfl, rfl, rfl, rfl, rfl, trivial⟩ hs
    rintro ⟨adi', cpi'⟩ w8 hs
    dsimp only at hs
    have hX' : AllN 4 (ItemAt (PlainAt 1) h3) (xs ++ [.int .i64 0, .float .f64 (fwF (lb.getD i 0 % 4)), .int .i32 0, .slice none 0 0]) ((lb.take (i + 1)).map fun x => ⟨0, fwF (x % 4), 0, []⟩) := by
      rw [htk, List.map_append]
      exact hX.append (AllN.one rfl (ItemAt.mk' (x := ⟨0, fwF (lb.getD i 0 % 4), 0, []⟩) (RowsAt.nil _) (fwF_spec (lb.getD i 0 % 4) (by omega)).1.1))
    refine Zerun ?_
    by_cases hpos : 0 < lb.getD i 0 % 4
    · rw [if_pos hpos] at hkk
      refine Zerun ?_
      (refine RW.lit T hs (vs := [.int .i32 (lr.getD i 0)]) (cs := [.int .i32 (lr.getD i 0)]) rfl rfl rfl rfl (by simp [Value.cells]) rfl rfl rfl rfl rfl ?_; intro b9 w9 hs)
      (refine RW.append T hs 3 rfl rfl (m := 1) (news := [.int .i32 (lr.getD i 0)]) rfl rfl rfl rfl rfl rfl (hs.src0 rfl (by simp [Value.oneCell'])) (by simp) (by dsimp only; omega) (by omega) ?_; intro ad10 cp10 w10 hs; replace hs := hs.drop)
      refine Zerun ?_
      refine loopQ_round (i + 1, adi', cpi', xs ++ [.int .i64 0, .float .f64 (fwF (lb.getD i 0 % 4)), .int .i32 0, .slice none 0 0], ad10, cp10) ⟨rfl, rfl, rfl, rfl, by dsimp only; rw [hkk, List.length_append]; rfl, rfl, trivial⟩ ⟨by dsimp only; omega, hX', ?_⟩ (by dsimp only; omega)
      refine hs.cast ?_
      dsimp only
      rw [hkk, List.length_append, List.map_append]
      rfl
    · rw [if_neg hpos, List.append_nil] at hkk
      refine Zerun ?_
      refine loopQ_round (i + 1, adi', cpi', xs ++ [.int .i64 0, .float .f64 (fwF (lb.getD i 0 % 4)), .int .i32 0, .slice none 0 0], adw, cpw) ⟨rfl, rfl, rfl, rfl, by dsimp only; rw [hkk]; rfl, rfl, trivial⟩ ⟨by dsimp only; omega, hX', ?_⟩ (by dsimp only; omega)
      refine hs.cast ?_
      dsimp only
      rw [hkk]
  obtain rfl : i = lb.length := by omega
  rw [List.take_length] at hX
  obtain ⟨l, hl⟩ : ∃ l, lb.map (· % 4) = l := ⟨_, rfl⟩
  have hle : lb.length = l.length := by rw [← hl, List.length_map]
  have hlr : l.length = lr.length := by omega
  have hl4 : ∀ n ∈ l, 0 ≤ n ∧ n < 4 := by
    rw [← hl]
    intro n hn
    obtain ⟨x, hx, rfl⟩ := List.mem_map.1 hn
    have := hbu x hx
    omega
  have hin : ∀ n ∈ l, -9007199254740992 ≤ n ∧ n ≤ 9007199254740992 := fun n hn => by have := hl4 n hn; omega
  have hmap : (lb.map fun x => (⟨0, fwF (x % 4), 0, []⟩ : ItemD (PD 1))) = (l.map fwF).map fun x => ⟨0, x, 0, []⟩ := by rw [← hl, List.map_map, List.map_map]; rfl
  rw [hl] at hs hkl ⊢
  rw [hmap] at hX
  obtain ⟨Kp, hK⟩ : ∃ Kp, keptL l lr lb.length = Kp := ⟨_, rfl⟩
  have hK' : keptL l lr l.length = Kp := by rw [← hle]; exact hK
  rw [hK] at hs hkl ⊢
  obtain ⟨h6, hle6, hs, hS6⟩ := hs.freeze
  obtain ⟨h7, hle7, hs, hS7⟩ := hs.swap.freeze
  have hK7 : KAt .i32 h7 (.slice adw Kp.length cpw) Kp := ⟨adw, cpw, rfl, hS7⟩
  have hr7 := RowAt.mono (((hle3.trans hle6).trans hle7)) hr
  have hlen2 : (l.map fwF).length = lb.length := by rw [List.length_map]; exact hle.symm
  have hq6 : PlainAt 2 h7 [.slice (some ⟨b2, 0, none⟩) 1 1, .slice adi lb.length cpi, .int .i64 0] (numsP (l.map fwF) : PlainD (PD 1)) := by
    refine ⟨_, _, rfl, ?_, ?_⟩
    · show IntsAt h7 _ [((l.map fwF).length : Int)]
      rw [hlen2]
      exact hI3.mono (hle6.trans hle7)
    · show RowsAt 4 (ItemAt (PlainAt 1) h7) h7 _ ((l.map fwF).map fun x => ⟨0, x, 0, []⟩)
      refine ⟨adi, cpi, xs, by rw [List.length_map, hlen2], ?_, hX.mono (fun u a => ItemAt.mono (PlainAt.mono 1) _ _ u a (hle6.trans hle7))⟩
      rw [List.length_map, hlen2]
      exact hS6.mono hle7
  have hfin : ∀ x ∈ l.map fwF, tidyF x := fun x hx => by
    obtain ⟨n, hn, rfl⟩ := List.mem_map.1 hx
    exact (fwF_spec n (hin n hn)).1
  refine Zerun ?_
  (refine RW.call T hs rfl rfl rfl (of07_con 2 _ (numsP (l.map fwF) : PlainD (PD 1)) _ _ hq6 (numsP_chk 1 _ (fun x hx => (hfin x hx).2.1) (by omega))) ?_; intro v h8 w8 hle8 hp8 hs)
  obtain ⟨cs8, rfl, _, _, ha8⟩ := hp8
  rw [numsP_arr, fw_tidyW l hin] at ha8
  have hr8 := RowAt.mono hle8 hr7
  refine Zerun ?_
  (refine RW.call T hs rfl rfl rfl (refText_con (R := PlainAt 1) (PlainAt.mono 1) _ _ _ _ hr8 (by omega)) ?_; intro v h9 w9 hle9 hp9 hs)
  obtain ⟨cs9, rfl, hq9⟩ := hp9
  (refine RW.call T hs rfl rfl rfl (of07_con 2 _ (textP lr : PlainD (PD 1)) _ _ hq9 (textP_chk 1 _ (by omega))) ?_; intro v h10 w10 hle10 hp10 hs)
  obtain ⟨cs10, rfl, _, _, ha10⟩ := hp10
  rw [textP_arr] at ha10
  have ha8 := ArrAt.mono 2 _ _ _ _ (hle9.trans hle10) ha8
  (refine RW.call T hs rfl rfl rfl (partition_con _ _ (l.map fwF) lr _ _ ha8 ha10 (fw_rank l hin) (fun x hx => by obtain ⟨n, hn, rfl⟩ := List.mem_map.1 hx; rw [wholeF_fw n (hin n hn)]; exact (hl4 n hn).1) (by rw [List.length_map]; exact hlr) (by omega)) ?_; intro v h11 w11 hle11 hp11 hs)
  obtain ⟨cs11, rfl, ha11⟩ := hp11
  rw [fw_wholes l hin] at ha11
  have ha11' := ha11
  obtain ⟨s11, vc11, rfl, ⟨ad11, cap11, rfl, _⟩, hv11⟩ := ha11
  obtain ⟨wv3, nv3, sm3, il3, fl3, ch3, bx3, ⟨rfl, hoc3⟩, _⟩ := hv11
  refine Zerun ?_
  (refine RW.allocN T hs rfl rfl rfl rfl ?_; intro b12 w12 hs)
  refine RW.storeAll T hs 0 rfl rfl rfl rfl rfl rfl (show (Value.oneCell' (.slice ad11 _ cap11) && (vecCells (ArrD.vec (α := AD 2) (partsA l lr)).kind wv3 nv3 sm3 il3 fl3 ch3 bx3).all Value.oneCell') = true by rw [hoc3]; rfl) rfl ?_
  intro w13 hs
  refine Zerun ?_
  obtain ⟨c, hj, hA, hjl⟩ := listA_of l lr hlr
  rw [hK'] at hA hjl
  have hpj : (bv 2 (partsA l lr)).boxes.map (bv 1) = ((segs l).map (segT lr)).map fun t => (⟨5, [], t, []⟩ : VecD (AD 1)) := parts_joined l lr hlr 1
  have hsg := (segsTo_ok l l.length).2.1
  (refine RW.call T hs rfl rfl rfl (enlist_con 1 _ (partsA l lr) c 1000 _ _ ha11' rfl (fun b hb => by obtain ⟨s, _, rfl⟩ := List.mem_map.1 hb; exact (show (1 : Int) ≠ 2 by decide)) (by show ((segs l).map _).length ≤ _; rw [List.length_map]; show (segsTo l l.length).1.length ≤ _; omega) ⟨by rw [tot_parts l lr hlr, hK']; omega, by omega⟩ (by rw [hpj]; exact hj) (by rw [hpj, hjl]; omega)) ?_; intro v h14 w14 hle14 hp14 hs)
  obtain ⟨cs14, rfl, ha14⟩ := hp14
  rw [hpj] at ha14
  have ha14 : ArrAt 2 h14 cs14 (listA Kp) := by rw [← hA]; exact ha14
  have ha14' := ha14
  obtain ⟨s14, vc14, rfl, ⟨ad14, cap14, rfl, _⟩, hv14⟩ := ha14
  obtain ⟨wv4, nv4, sm4, il4, fl4, ch4, bx4, ⟨rfl, hoc4⟩, _⟩ := hv14
  refine Zerun ?_
  (refine RW.allocN T hs rfl rfl rfl rfl ?_; intro b15 w15 hs)
  refine RW.storeAll T hs 0 rfl rfl rfl rfl rfl rfl (show (Value.oneCell' (.slice ad14 _ cap14) && (vecCells (ArrD.vec (α := AD 1) (listA Kp)).kind wv4 nv4 sm4 il4 fl4 ch4 bx4).all Value.oneCell') = true by rw [hoc4]; rfl) rfl ?_
  intro w16 hs
  refine Zerun ?_
  have hK14 := RowAt.mono (((((hle8.trans hle9).trans hle10).trans hle11).trans hle14)) hK7
  (refine RW.call T hs rfl rfl rfl (refText_con (R := PlainAt 1) (PlainAt.mono 1) _ _ _ _ hK14 (by omega)) ?_; intro v h17 w17 hle17 hp17 hs)
  obtain ⟨cs17, rfl, hq17⟩ := hp17
  have hq17' := hq17
  have ho17 := PlainAt.one 2 _ _ _ hq17
  have ha14' := ArrAt.mono 2 _ _ _ _ hle17 ha14'
  obtain ⟨s17, it17, rfl, ⟨ads17, cps17, rfl, _⟩, ⟨adi17, cpi17, xsi17, rfl, _, _⟩⟩ := hq17
  refine Zerun ?_
  (refine RW.allocN T hs rfl rfl rfl rfl ?_; intro b18 w18 hs)
  refine RW.storeAll T hs 0 rfl rfl rfl rfl rfl rfl rfl rfl ?_
  intro w19 hs
  refine Zerun ?_
  by_cases hke : Kp = []
  · subst hke
    refine Zerun ?_
    (refine RW.lit T hs (vs := [.int .i64 0]) (cs := [.int .i64 0]) rfl rfl rfl rfl (by simp [Value.cells]) rfl rfl rfl rfl rfl ?_; intro b20 w20 hs)
    obtain ⟨h21, hle21, hs, hS21⟩ := hs.freeze
    have hI21 : IntsAt h21 (.slice (some ⟨b20, 0, none⟩) 1 1) [0] := IntsAt.of_sl hS21
    refine RW.val (Y.build T rfl rfl rfl rfl rfl rfl rfl) rfl ?_
    (refine RW.storeAll T hs 0 rfl rfl rfl rfl rfl rfl rfl rfl ?_; intro w22 hs)
    refine Zerun ?_
    have hq22 : PlainAt 2 h21 [.slice (some ⟨b20, 0, none⟩) 1 1, .slice none 0 0, .int .i64 0] (listP []) := ⟨_, _, rfl, hI21, RowsAt.nil _⟩
    have ha14' := ArrAt.mono 2 _ _ _ _ hle21 ha14'
    (refine RW.call T hs rfl rfl rfl (shows28_con 1 _ _ (listA []) (listP []) _ _ ha14' hq22 (listA_good [] (by omega)) (listA_plain []) (listP_tdy [])) ?_; intro v h23 w23 hle23 hp23 hs)
    subst hp23
    refine Zerun ?_

    (refine RW.call T hs rfl rfl rfl (awake28_con _ _) ?_; intro v h24 w24 hle24 hp24 hs)
    subst hp24
    refine Zerun ?_
    exact retQ_ret [_] h24 ⟨rfl, trivial⟩ hs.dropAll rfl
  · have hl22 : listP Kp = textPP Kp := by unfold listP; rw [if_neg hke]
    have hq22 := hq17'
    have : Kp.length ≠ 0 := fun e => hke (List.length_eq_zero_iff.1 e)
    refine Zerun ?_
    (refine RW.call T hs rfl rfl rfl (shows28_con 1 _ _ (listA Kp) (textP Kp : PlainD (PD 1)) _ _ ha14' hq22 (listA_good Kp (by omega)) ((listA_plain Kp).trans hl22) (textP_tdy 1 Kp)) ?_; intro v h23 w23 hle23 hp23 hs)
    subst hp23
    refine Zerun ?_

    (refine RW.call T hs rfl rfl rfl (awake28_con _ _) ?_; intro v h24 w24 hle24 hp24 hs)
    subst hp24
    refine Zerun ?_
    exact retQ_ret [_] h24 ⟨rfl, trivial⟩ hs.dropAll rfl
end Go.Proofs.Ythbfkhklihejiaa
