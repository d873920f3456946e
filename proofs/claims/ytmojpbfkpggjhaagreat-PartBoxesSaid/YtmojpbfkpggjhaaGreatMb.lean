/-
  Own texts of the claim, merged: PlainA, Fq, Fr, PlainI, Fs, Ft, Fu, Fv, Fw, Fx, Fy, Fz, Ha, Hb, Hc, LibR, LibL, LibS, LibT, PlainJ, PlainK, Fa, Fb, Ia, Ib, Ic, Id, Ie, If, Ig, Ih, Ii, LibU, Ij, Ik, Il, Im. Lemmas of the proof; no statement is proved here.
-/
import Derived.Test.YtmojpbfkpggjhaaGreatMa
import Derived.ProofKit
import Derived.OpenShut
import Derived.ChangeOld
/-
  Plain facts on shapes: products of lengths. No program is in sight, and no statement is proved here.
-/
namespace Go.Proofs.YtmojpbfkpggjhaaGreat

/-- the product of lengths, an axis of none counted as one -/
def pr : List Int → Int
  | [] => 1
  | d :: r => max 1 d * pr r
theorem pr_pos : ∀ s : List Int, 1 ≤ pr s
  | [] => by simp [pr]
  | d :: r => by
    have := pr_pos r
    have h1 : (1 : Int) ≤ max 1 d := by omega
    simp only [pr]
    calc (1 : Int) = 1 * 1 := rfl
      _ ≤ max 1 d * pr r := Int.mul_le_mul h1 this (by omega) (by omega)
theorem pr_append : ∀ s t : List Int, pr (s ++ t) = pr s * pr t
  | [], t => by simp [pr]
  | d :: r, t => by simp only [List.cons_append, pr, pr_append r t, Int.mul_assoc]
theorem pr_snoc (s : List Int) (d : Int) : pr (s ++ [d]) = pr s * max 1 d := by simp [pr_append, pr]
theorem take_snoc {α : Type} [Inhabited α] (l : List α) (k : Nat) (d : α) (h : k < l.length) : l.take (k + 1) = l.take k ++ [l.getD k d] := by
  rw [List.take_succ_eq_append_getElem h]
  simp [List.getD_eq_getElem?_getD, h]
theorem pr_take_succ (s : List Int) (k : Nat) (h : k < s.length) : pr (s.take (k + 1)) = pr (s.take k) * max 1 (s.getD k 0) := by
  rw [take_snoc s k 0 h, pr_snoc]
theorem pr_take_le (s : List Int) (k : Nat) : pr (s.take k) ≤ pr s := by
  have h : pr s = pr (s.take k) * pr (s.drop k) := by rw [← pr_append, List.take_append_drop]
  have h1 := pr_pos (s.drop k)
  have h2 := pr_pos (s.take k)
  calc pr (s.take k) = pr (s.take k) * 1 := by rw [Int.mul_one]
    _ ≤ pr (s.take k) * pr (s.drop k) := Int.mul_le_mul_of_nonneg_left h1 (by omega)
    _ = pr s := h.symm
/-- how many elements a shape has, or why it may not be -/
def product (s : List Int) (most : Int) : Int × Int :=
  if 8 < s.length then (0, 26)
  else if ∃ d ∈ s, d < 0 then (0, 24)
  else if 1048576 < pr s then (0, 26)
  else if most < (if 0 ∈ s then 0 else pr s) then (0, 26)
  else ((if 0 ∈ s then 0 else pr s), 0)
def within (n most : Int) : Int × Int := if most < n ∨ 1048576 < n then (0, 26) else (n, 0)
theorem lt_div {d n m : Int} (hn : 1 ≤ n) : m / n < d ↔ m < n * d := by
  rw [Int.ediv_lt_iff_lt_mul (by omega), Int.mul_comm]
theorem product_over (s : List Int) (most : Int) (h8 : ¬ 8 < s.length) (h0 : ∀ d ∈ s, 0 ≤ d) (k : Nat) (hk : k < s.length) (h : 1048576 < pr (s.take k) * s.getD k 0) : product s most = (0, 26) := by
  have h1 : ¬ ∃ d ∈ s, d < 0 := fun ⟨d, hd, hl⟩ => by have := h0 d hd; omega
  have hp := pr_pos (s.take k)
  have h2 : 1048576 < pr s := by
    have a := pr_take_le s (k + 1)
    rw [pr_take_succ s k hk] at a
    have b : pr (s.take k) * s.getD k 0 ≤ pr (s.take k) * max 1 (s.getD k 0) := Int.mul_le_mul_of_nonneg_left (by omega) (by omega)
    omega
  simp [product, h8, h1, h2]
theorem product_neg (s : List Int) (most : Int) (h8 : ¬ 8 < s.length) (k : Nat) (hk : k < s.length) (h : s.getD k 0 < 0) : product s most = (0, 24) := by
  have h1 : ∃ d ∈ s, d < 0 := ⟨s.getD k 0, by simp [List.getD_eq_getElem?_getD, hk], h⟩
  unfold product
  rw [if_neg h8, if_pos h1]
theorem product_in (s : List Int) (most : Int) (h8 : ¬ 8 < s.length) (h0 : ∀ d ∈ s, 0 ≤ d) (h : pr s ≤ 1048576) : product s most = within (if 0 ∈ s then 0 else pr s) most := by
  have h1 : ¬ ∃ d ∈ s, d < 0 := fun ⟨d, hd, hl⟩ => by have := h0 d hd; omega
  have h2 : ¬ 1048576 < pr s := by omega
  unfold product within
  rw [if_neg h8, if_neg h1, if_neg h2]
  by_cases hz : 0 ∈ s
  · simp [hz]
  · simp [hz, h2]
theorem bound_step {n d : Int} (hn : 1 ≤ n ∧ n ≤ 1048576) (h : ¬ 1048576 < n * d) : 1 ≤ n * max 1 d ∧ n * max 1 d ≤ 1048576 := by
  by_cases hd : d ≤ 1
  · have : max 1 d = 1 := by omega
    rw [this]; omega
  · have : max 1 d = d := by omega
    rw [this]
    refine ⟨?_, by omega⟩
    calc (1 : Int) = 1 * 1 := rfl
      _ ≤ n * d := Int.mul_le_mul hn.1 (by omega) (by omega) (by omega)

/-! ## Places -/
def prn : List Int → Int
  | [] => 1
  | d :: r => d * prn r
theorem prn_append : ∀ s t : List Int, prn (s ++ t) = prn s * prn t
  | [], t => by simp [prn]
  | d :: r, t => by simp only [List.cons_append, prn, prn_append r t, Int.mul_assoc]
theorem prn_pos : ∀ s : List Int, (∀ d ∈ s, 1 ≤ d) → 1 ≤ prn s
  | [], _ => by simp [prn]
  | d :: r, h => by
    have h1 := prn_pos r (fun x hx => h x (List.mem_cons_of_mem _ hx))
    have h2 := h d List.mem_cons_self
    simp only [prn]
    calc (1 : Int) = 1 * 1 := rfl
      _ ≤ d * prn r := Int.mul_le_mul h2 h1 (by omega) (by omega)
def goodS (s : List Int) : Bool := (product s 1048576).2 == 0
theorem goodS_spec (s : List Int) : goodS s = true ↔ s.length ≤ 8 ∧ (∀ d ∈ s, 0 ≤ d) ∧ pr s ≤ 1048576 := by
  unfold goodS product
  by_cases h8 : 8 < s.length
  · rw [if_pos h8]; simp; omega
  · rw [if_neg h8]
    by_cases hn : ∃ d ∈ s, d < 0
    · rw [if_pos hn]
      obtain ⟨d, hd, hl⟩ := hn
      simp
      intro _ h0
      have := h0 d hd
      omega
    · rw [if_neg hn]
      have h0 : ∀ d ∈ s, 0 ≤ d := fun d hd => by
        rcases Int.lt_or_le d 0 with h | h
        · exact absurd ⟨d, hd, h⟩ hn
        · exact h
      by_cases hp : 1048576 < pr s
      · rw [if_pos hp]; simp; intro _ _; omega
      · rw [if_neg hp]
        have := pr_pos s
        have h2 : ¬ (1048576 : Int) < (if 0 ∈ s then 0 else pr s) := by split <;> omega
        rw [if_neg h2]
        simp
        exact ⟨by omega, h0, by omega⟩
theorem product_good (s : List Int) (h : goodS s = true) : product s 1048576 = ((if 0 ∈ s then 0 else pr s), 0) := by
  obtain ⟨h8, h0, hp⟩ := (goodS_spec s).1 h
  have hpos := pr_pos s
  rw [product_in s _ (by omega) h0 hp]
  unfold within
  by_cases hz : 0 ∈ s
  · simp [hz]
  · simp only [hz, if_false]
    rw [if_neg (by omega)]
/-- where the element with some indexes lies -/
def off : List Int → List Int → Int
  | _ :: s, i :: r => i * prn s + off s r
  | _, _ => 0
def inR : List Int → List Int → Bool
  | [], [] => true
  | d :: s, i :: r => decide (0 ≤ i ∧ i < d) && inR s r
  | _, _ => false
/-- what At tells -/
def atSpec (s i : List Int) : Int × Bool := if goodS s = true ∧ inR s i = true then (off s i, true) else (0, false)
/-- the indexes of a place -/
def idxOf : List Int → Int → List Int
  | [], _ => []
  | d :: s, a => (a / prn s) % d :: idxOf s a
theorem length_idxOf : ∀ (s : List Int) (a : Int), (idxOf s a).length = s.length
  | [], _ => rfl
  | d :: s, a => by simp [idxOf, length_idxOf s a]
theorem drop_pred (s : List Int) (k : Nat) (h : k < s.length) : s.drop k = s.getD k 0 :: s.drop (k + 1) := by
  rw [List.drop_eq_getElem_cons h]
  simp [List.getD_eq_getElem?_getD, h]
theorem goodS_iff (s : List Int) : goodS s = true ↔ (product s 1048576).2 = 0 := by simp [goodS]
/-! from the last axis on -/
theorem pr_drop_le (s : List Int) (k : Nat) : pr (s.drop k) ≤ pr s := by
  have h : pr s = pr (s.take k) * pr (s.drop k) := by rw [← pr_append, List.take_append_drop]
  have h1 := pr_pos (s.drop k)
  have h2 := pr_pos (s.take k)
  calc pr (s.drop k) = 1 * pr (s.drop k) := by rw [Int.one_mul]
    _ ≤ pr (s.take k) * pr (s.drop k) := Int.mul_le_mul_of_nonneg_right h2 (by omega)
    _ = pr s := h.symm
def withoutSpec (l : List Int) (axis : Int) : List Int × Bool := if 0 ≤ axis ∧ axis < l.length then (l.eraseIdx axis.toNat, true) else ([], false)
def splitOk (l : List Int) (axis : Int) : Prop := goodS l = true ∧ 0 ≤ axis ∧ axis < l.length ∧ (product (l.take axis.toNat) 1048576).2 = 0 ∧ (product (l.drop (axis.toNat + 1)) 1048576).2 = 0
instance (l : List Int) (axis : Int) : Decidable (splitOk l axis) := by unfold splitOk; exact inferInstance
def splitSpec (l : List Int) (axis : Int) : Int × Int × Int × Bool := if splitOk l axis then ((product (l.take axis.toNat) 1048576).1, l.getD axis.toNat 0, (product (l.drop (axis.toNat + 1)) 1048576).1, true) else (0, 0, 0, false)
theorem eraseIdx_eq (l : List Int) (i : Nat) : l.take i ++ l.drop (i + 1) = l.eraseIdx i := by
  rw [List.eraseIdx_eq_take_drop_succ]
end Go.Proofs.YtmojpbfkpggjhaaGreat

/-
  Contracts of functions of package vec: numbers kept and told. No statement is proved here.
-/
namespace Go.Proofs.YtmojpbfkpggjhaaGreat
open Go Go.RowKit
set_option linter.unusedVariables false
set_option linter.unusedSimpArgs false
set_option maxHeartbeats 4000000
attribute [local irreducible] CW RW QW SW HW ConM retM heldQ calmQ elemP thenQ blockQ loopQ joinQ retQ Yields Con Sl zF magR unitF truncF fwF wholeF tidySpec

theorem set_snoc {β : Type} (a : List β) (n : Nat) (z v : β) (h : 0 < n) : (a ++ List.replicate n z).set a.length v = (a ++ [v]) ++ List.replicate (n - 1) z := by
  rw [List.set_append_right _ _ (Nat.le_refl _), Nat.sub_self]
  obtain ⟨m, rfl⟩ : ∃ m, n = m + 1 := ⟨n - 1, by omega⟩
  rw [List.replicate_succ, List.set_cons_zero]
  simp
section
variable {α : Type} {R : GHeap → List Value → α → Prop}
def tidyW (x : Nat) : Nat := (tidySpec x).1
theorem vecFloats_con (s : Value) (l : List Nat) (w : World) (h : GHeap) (hl : FAt h s l) (hx : ∀ u ∈ l, u < 18446744073709551616) (hm : l.length ≤ 1099511627776) : Con Tryz.prog 155 [s] w h
    (fun h' u => ∃ cs ok, u = .tuple #[.agg cs.toArray, .bool ok] ∧ ok = decide (∀ u ∈ l, finF u) ∧ VecAt R h' cs (if ok = true then ⟨4, l.map tidyW, [], []⟩ else VecD.none)) := by
  have hl' := hl
  obtain ⟨ad, cp, rfl, hS⟩ := hl
  refine Con.of_body Tryz.func155 rfl Tryz.ntmps155 rfl rfl ?_
  intro hs
  refine Zrun ?_
  (refine RW.allocN T hs rfl rfl rfl rfl ?_; intro b1 w1 hs)
  refine Zrun ?_
  (refine RW.make1 T hs rfl rfl rfl rfl rfl rfl rfl (by dsimp only; omega) (by omega) ?_; intro b2 w2 hs)
  refine Zrun ?_
  refine CW.loop (fun p : Nat × GHeap => [(0, .slice ad l.length cp), (2, .pointer (some ⟨b1, 0, none⟩)), (4, .slice (some ⟨b2, 0, none⟩) l.length l.length), (12, .slice ad l.length cp), (13, .int .i64 l.length), (14, .int .i64 p.1)]) (fun p w' => p.1 ≤ l.length ∧ (∀ j, j < p.1 → finF (l.getD j 0)) ∧ GLe h p.2 ∧ Sees w h p.2 [⟨some ⟨b2, 0, none⟩, l.length, l.length, 46, 1, ((l.take p.1).map tidyW).map (Value.float .f64) ++ List.replicate (l.length - p.1) (.float .f64 0)⟩, ⟨some ⟨b1, 0, none⟩, 1, 1, 37, 8, vecCells 0 (.slice none 0 0) 0 (.slice none 0 0) (.slice none 0 0) (.slice none 0 0) (.slice none 0 0) (.slice none 0 0)⟩] w') (fun p => l.length - p.1) (0, h) ⟨rfl, rfl, rfl, rfl, rfl, rfl, trivial⟩ ⟨by omega, by dsimp only; omega, GLe.refl _, by simp only [List.take_zero, List.map_nil, List.nil_append, Nat.sub_zero]; exact hs⟩ ?_
  rintro ⟨k, hh⟩ w2 ⟨hk, hno, hgl, hs⟩
  dsimp only at hk hno hgl hs ⊢
  have hS := hS.mono hgl
  by_cases hlt : k < l.length
  · have hg := map_get (Value.float .f64) l k 0 hlt
    have hmem : l.getD k 0 ∈ l := by simp [List.getD_eq_getElem?_getD, hlt]
    refine Zrun ?_
    (refine RW.call T hs rfl rfl rfl (numTidy_con (l.getD k 0) _ _) ?_; intro v h3 w3 hle3 hp3 hs)
    subst hp3
    by_cases hf : finF (l.getD k 0)
    · have ht : tidySpec (l.getD k 0) = (tidyW (l.getD k 0), true) := by unfold tidyW tidySpec; rw [if_pos hf]
      rw [ht]
      refine Zrun ?_
      refine RW.val (Y.idxRN T hs 0 rfl rfl rfl rfl rfl rfl ?_) rfl ?_
      · omega
      refine RW.st1 T hs 0 rfl rfl rfl rfl rfl rfl rfl (by omega) ?_
      intro w4 hs
      refine Zrun ?_
      refine loopQ_round (k + 1, h3) ⟨rfl, rfl, rfl, rfl, rfl, rfl, trivial⟩ ⟨by dsimp only; omega, fun j hj => ?_, hgl.trans hle3, ?_⟩ (by dsimp only; omega)
      · by_cases e : j = k
        · subst e; exact hf
        · exact hno j (by dsimp only at hj; omega)
      · dsimp only
        have e := set_snoc (((l.take k).map tidyW).map (Value.float .f64)) (l.length - k) (Value.float .f64 0) (Value.float .f64 (tidyW (l.getD k 0))) (by omega)
        simp only [List.length_map, List.length_take, Nat.min_eq_left hk] at e
        rw [take_snoc l k 0 hlt, List.map_append, List.map_append, show l.length - (k + 1) = l.length - k - 1 by omega]
        exact hs.re e
    · have ht : tidySpec (l.getD k 0) = (0, false) := by unfold tidySpec; rw [if_neg hf]
      rw [ht]
      refine Zrun ?_
      refine RW.val (Y.build T rfl rfl rfl rfl rfl rfl rfl) rfl ?_
      (refine RW.storeAll T hs 1 rfl rfl rfl rfl rfl rfl rfl rfl ?_; intro w4 hs)
      refine Zrun ?_
      exact retQ_ret [_, _] h3 ⟨resN T hs 1 rfl rfl rfl rfl rfl rfl, rfl, trivial⟩ hs.dropAll ⟨_, false, rfl, (decide_eq_false (fun e => hf (e _ hmem))).symm, vecNone h3⟩
  · obtain rfl : k = l.length := by omega
    have hall : ∀ u ∈ l, finF u := by
      intro u hu
      obtain ⟨j, hj, e⟩ := List.getElem_of_mem hu
      have := hno j hj
      rw [List.getD_eq_getElem?_getD, List.getElem?_eq_getElem hj] at this
      rw [← e]; exact this
    have htd : ∀ u ∈ l.map tidyW, tidyF u := by
      intro u hu
      rw [List.mem_map] at hu
      obtain ⟨x, hx1, rfl⟩ := hu
      exact tidy_tidy x (hx x hx1) (hall x hx1)
    refine Zrun ?_
    refine RW.val (Y.build T rfl rfl rfl rfl rfl rfl rfl) rfl ?_
    (refine RW.storeAll T hs 1 rfl rfl rfl rfl rfl rfl rfl rfl ?_; intro w5 hs)
    refine Zrun ?_
    obtain ⟨h6, hle6, hs6, hS6⟩ := hs.freeze
    refine retQ_ret [_, _] h6 ⟨resN T hs 1 rfl rfl rfl rfl rfl rfl, rfl, trivial⟩ hs6.dropAll ⟨_, true, rfl, (decide_eq_true hall).symm, ⟨_, _, _, _, _, _, _, ⟨rfl, rfl⟩, .inr (.inr (.inr (.inr (.inl ⟨rfl, l.map tidyW, RowAt.of_sl (n := l.length) ?_, htd, rfl⟩))))⟩⟩
    dsimp only at hS6
    simpa using hS6
end
end Go.Proofs.YtmojpbfkpggjhaaGreat

/-
  Contracts of functions of package vec: all numbers told, the packed truths, the text, the boxes. No statement is proved here.
-/
namespace Go.Proofs.YtmojpbfkpggjhaaGreat
open Go Go.RowKit
set_option linter.unusedVariables false
set_option linter.unusedSimpArgs false
set_option maxHeartbeats 4000000
attribute [local irreducible] CW RW QW SW HW ConM retM heldQ calmQ elemP thenQ blockQ loopQ joinQ retQ Yields Con Sl zF magR unitF truncF fwF wholeF tidySpec

section
variable {α : Type} {R : GHeap → List Value → α → Prop}
theorem VecAt.nums_len {h : GHeap} {cs : List Value} {v : VecD α} (hv : VecAt R h cs v) (hc : v.cls = 0) : v.nums.length = v.len := by
  obtain ⟨wv, nv, sm, il, fl, ch, bx, ⟨rfl, hoc⟩, hk⟩ := hv
  rcases hk with ⟨_, rfl⟩ | ⟨_, bs, _, rfl, rfl⟩ | ⟨_, l, _, _, rfl⟩ | ⟨_, l, _, _, rfl⟩ | ⟨_, l, _, _, rfl⟩ | ⟨_, l, _, rfl⟩ | ⟨_, l, _, rfl⟩
  all_goals simp [VecD.len, VecD.cls] at hc ⊢
theorem vecNums_con (hR : Mono R) (cs : List Value) (v : VecD α) (w : World) (h : GHeap) (hv : VecAt R h cs v) (hm : v.len ≤ 1099511627776) : Con Tryz.prog 159 [.agg cs.toArray] w h (fun h' u => FAt h' u v.nums) := by
  have hv' := hv
  obtain ⟨wv, nv, sm, il, fl, ch, bx, ⟨rfl, hoc⟩, hk⟩ := hv
  refine Con.of_body Tryz.func159 rfl Tryz.ntmps159 rfl rfl ?_
  intro hs
  refine Zrun ?_
  (refine RW.boxN hs rfl rfl ?_; intro b1 w1 hs)
  refine Zrun ?_
  (refine RW.call T hs rfl rfl rfl (vecClass_con _ v _ _ hv') ?_; intro v h2 w2 hle2 hp2 hs)
  subst hp2
  have hv' := hv'.mono hR hle2
  by_cases hc : v.cls = 0
  · have hnl := hv'.nums_len hc
    refine Zrun ?_
    (refine RW.call T hs rfl rfl rfl (vecLen_con _ v _ _ hv') ?_; intro v h3 w3 hle3 hp3 hs)
    subst hp3
    have hv' := hv'.mono hR hle3
    rw [← hnl] at hm ⊢
    (refine RW.make1 T hs rfl rfl rfl rfl rfl rfl rfl (by dsimp only; omega) (by omega) ?_; intro b4 w4 hs)
    refine Zrun ?_
    refine CW.loop (fun p : Nat × GHeap => [(1, .pointer (some ⟨b1, 0, none⟩)), (3, .slice (some ⟨b4, 0, none⟩) v.nums.length v.nums.length), (12, .int .i64 v.nums.length), (13, .int .i64 p.1)]) (fun p w' => p.1 ≤ v.nums.length ∧ GLe h3 p.2 ∧ Sees w h p.2 [⟨some ⟨b4, 0, none⟩, v.nums.length, v.nums.length, 46, 1, (v.nums.take p.1).map (Value.float .f64) ++ List.replicate (v.nums.length - p.1) (.float .f64 0)⟩, ⟨some ⟨b1, 0, none⟩, 1, 1, 37, 8, vecCells v.kind wv nv sm il fl ch bx⟩] w') (fun p => v.nums.length - p.1) (0, h3) ⟨rfl, rfl, rfl, rfl, trivial⟩ ⟨by omega, GLe.refl _, by simp only [List.take_zero, List.map_nil, List.nil_append, Nat.sub_zero]; exact hs⟩ ?_
    rintro ⟨k, hh⟩ w5 ⟨hk5, hgl, hs⟩
    dsimp only at hk5 hgl hs ⊢
    have hv' := hv'.mono hR hgl
    by_cases hlt : k < v.nums.length
    · refine Zrun ?_
      (refine RW.call T hs rfl rfl rfl (vecNum_con _ v k _ _ hv') ?_; intro v h6 w6 hle6 hp6 hs)
      subst hp6
      have hn : v.num (k : Int) = v.nums.getD k 0 := by unfold VecD.num; rw [if_pos (by omega), Int.toNat_natCast]
      rw [hn]
      refine RW.val (Y.idxRN T hs 0 rfl rfl rfl rfl rfl rfl ?_) rfl ?_
      · omega
      refine RW.st1 T hs 0 rfl rfl rfl rfl rfl rfl rfl (by omega) ?_
      intro w7 hs
      refine Zrun ?_
      refine loopQ_round (k + 1, h6) ⟨rfl, rfl, rfl, rfl, trivial⟩ ⟨by dsimp only; omega, hgl.trans hle6, ?_⟩ (by dsimp only; omega)
      dsimp only
      have e := set_snoc ((v.nums.take k).map (Value.float .f64)) (v.nums.length - k) (Value.float .f64 0) (Value.float .f64 (v.nums.getD k 0)) (by omega)
      simp only [List.length_map, List.length_take, Nat.min_eq_left hk5] at e
      rw [take_snoc v.nums k 0 hlt, List.map_append, show v.nums.length - (k + 1) = v.nums.length - k - 1 by omega]
      exact hs.re e
    · obtain rfl : k = v.nums.length := by omega
      refine Zrun ?_
      obtain ⟨h8, hle8, hs8, hS8⟩ := hs.freeze
      refine retQ_ret [_] h8 ⟨rfl, trivial⟩ hs8.dropAll (RowAt.of_sl (n := v.nums.length) ?_)
      dsimp only at hS8
      simpa using hS8
  · have hnn : v.nums = [] := by
      rcases hk with ⟨_, rfl⟩ | ⟨_, bs, _, rfl, rfl⟩ | ⟨_, l, _, _, rfl⟩ | ⟨_, l, _, _, rfl⟩ | ⟨_, l, _, _, rfl⟩ | ⟨_, l, _, rfl⟩ | ⟨_, l, _, rfl⟩
      all_goals simp [VecD.cls] at hc ⊢
    refine Zrun ?_
    exact retQ_ret [_] h2 ⟨rfl, trivial⟩ hs.dropAll (by rw [hnn]; exact RowAt.nil _)

theorem vecPacked_con (cs : List Value) (v : VecD α) (w : World) (h : GHeap) (hv : VecAt R h cs v) : Con Tryz.prog 127 [.agg cs.toArray] w h
    (fun h' u => ∃ wv bs, u = .tuple #[.agg [wv, .int .i64 ((bs : List Bool).length)].toArray, .bool (decide (v.kind = 1))] ∧ BitsAt h' wv bs ∧ (v.kind = 1 → v = ⟨1, bs.map bitF, [], []⟩) ∧ (v.kind ≠ 1 → bs = [])) := by
  obtain ⟨wv, nv, sm, il, fl, ch, bx, ⟨rfl, hoc⟩, hk⟩ := hv
  refine Con.of_body Tryz.func127 rfl Tryz.ntmps127 rfl rfl ?_
  intro hs
  refine Zrun ?_
  (refine RW.boxN hs rfl rfl ?_; intro b1 w1 hs)
  (refine RW.allocN T hs rfl rfl rfl rfl ?_; intro b2 w2 hs)
  by_cases h1 : v.kind = 1
  · obtain ⟨bs, hb, rfl, rfl⟩ : ∃ bs, BitsAt h wv bs ∧ nv = bs.length ∧ v = ⟨1, bs.map bitF, [], []⟩ := by
      rcases hk with ⟨e, _⟩ | ⟨e, hh⟩ | ⟨e, _⟩ | ⟨e, _⟩ | ⟨e, _⟩ | ⟨e, _⟩ | ⟨e, _⟩
      all_goals first | exact hh | omega
    have hb' := hb
    obtain ⟨_, ws, ⟨ad, cp, rfl, hS⟩, _⟩ := hb
    refine Zrun ?_
    (refine RW.storeAll T hs 0 rfl rfl rfl rfl rfl rfl rfl rfl ?_; intro w3 hs)
    refine Zrun ?_
    exact retQ_ret [_, _] h ⟨resN T hs 0 rfl rfl rfl rfl rfl rfl, rfl, trivial⟩ hs.dropAll ⟨_, bs, rfl, hb', fun _ => rfl, fun e => absurd rfl e⟩
  · refine Zrun ?_
    refine RW.val (Y.build T rfl rfl rfl rfl rfl rfl rfl) rfl ?_
    (refine RW.storeAll T hs 0 rfl rfl rfl rfl rfl rfl rfl rfl ?_; intro w3 hs)
    refine Zrun ?_
    refine retQ_ret [_, _] h ⟨resN T hs 0 rfl rfl rfl rfl rfl rfl, rfl, trivial⟩ hs.dropAll ⟨.slice none 0 0, [], ?_, ⟨by simp, [], RowAt.nil h, rfl, by simp, by simp⟩, fun e => absurd e h1, fun _ => rfl⟩
    rw [decide_eq_false h1]; rfl

theorem vecText_con (cs : List Value) (v : VecD α) (w : World) (h : GHeap) (hv : VecAt R h cs v) (hm : v.len ≤ 1099511627776) : Con Tryz.prog 136 [.agg cs.toArray] w h (fun h' u => KAt .i32 h' u v.chars) := by
  obtain ⟨wv, nv, sm, il, fl, ch, bx, ⟨rfl, hoc⟩, hk⟩ := hv
  refine Con.of_body Tryz.func136 rfl Tryz.ntmps136 rfl rfl ?_
  intro hs
  refine Zrun ?_
  (refine RW.boxN hs rfl rfl ?_; intro b1 w1 hs)
  by_cases h5 : v.kind = 5
  · obtain ⟨l, hl, rfl⟩ : ∃ l, KAt .i32 h ch l ∧ v = ⟨5, [], l, []⟩ := by
      rcases hk with ⟨e, _⟩ | ⟨e, _⟩ | ⟨e, _⟩ | ⟨e, _⟩ | ⟨e, _⟩ | ⟨e, hh⟩ | ⟨e, _⟩
      all_goals first | exact hh | omega
    simp [VecD.len] at hm
    refine Zrun ?_
    (refine RW.call T hs rfl rfl rfl (cloneRune_con ch l _ _ hl hm) ?_; intro v h2 w2 hle2 hp2 hs)
    refine Zrun ?_
    exact retQ_ret [_] h2 ⟨rfl, trivial⟩ hs.dropAll hp2
  · have hn : v.chars = [] := by
      rcases hk with ⟨e, rfl⟩ | ⟨e, _, _, _, rfl⟩ | ⟨e, _, _, _, rfl⟩ | ⟨e, _, _, _, rfl⟩ | ⟨e, _, _, _, rfl⟩ | ⟨e, _, _, rfl⟩ | ⟨e, _, _, rfl⟩
      all_goals first | rfl | exact absurd rfl h5
    refine Zrun ?_
    exact retQ_ret [_] h ⟨rfl, trivial⟩ hs.dropAll (by rw [hn]; exact RowAt.nil _)
end
end Go.Proofs.YtmojpbfkpggjhaaGreat

/-
  Plain facts on the least stores of numbers. No program is in sight, and no statement is proved here.
-/
namespace Go.Proofs.YtmojpbfkpggjhaaGreat

/-- the least store of a whole number -/
def rankOf (n : Int) : Int := if n = 0 ∨ n = 1 then 1 else if -128 ≤ n ∧ n ≤ 127 then 2 else 3
/-- the least store of a number -/
def rankF (x : Nat) : Int := if (wholeF x).2 = true then rankOf (wholeF x).1 else 4
/-- the least store of numbers -/
def leastN (l : List Nat) : Int := l.foldl (fun a x => max a (rankF x)) 1
theorem rankOf_bounds (n : Int) : 1 ≤ rankOf n ∧ rankOf n ≤ 3 := by unfold rankOf; split <;> (try split) <;> omega
theorem rankF_bounds (x : Nat) : 1 ≤ rankF x ∧ rankF x ≤ 4 := by
  unfold rankF
  have := rankOf_bounds (wholeF x).1
  split <;> omega
theorem fold_ge : ∀ (l : List Nat) (a : Int), a ≤ l.foldl (fun a x => max a (rankF x)) a
  | [], a => by simp
  | x :: l, a => by
    have := fold_ge l (max a (rankF x))
    simp only [List.foldl_cons]; omega
theorem fold_le : ∀ (l : List Nat) (a b : Int), a ≤ b → (∀ x ∈ l, rankF x ≤ b) → l.foldl (fun a x => max a (rankF x)) a ≤ b
  | [], a, b, h, _ => by simpa using h
  | x :: l, a, b, h, hx => by
    simp only [List.foldl_cons]
    exact fold_le l _ b (by have := hx x List.mem_cons_self; omega) (fun y hy => hx y (List.mem_cons_of_mem _ hy))
theorem fold_mem : ∀ (l : List Nat) (a : Int) (x : Nat), x ∈ l → rankF x ≤ l.foldl (fun a x => max a (rankF x)) a
  | y :: l, a, x, h => by
    simp only [List.foldl_cons]
    rcases List.mem_cons.1 h with rfl | h
    · have := fold_ge l (max a (rankF x)); omega
    · exact fold_mem l _ x h
theorem leastN_bounds (l : List Nat) : 1 ≤ leastN l ∧ leastN l ≤ 4 := ⟨fold_ge l 1, fold_le l 1 4 (by omega) (fun x _ => (rankF_bounds x).2)⟩
theorem leastN_le (l : List Nat) (x : Nat) (h : x ∈ l) : rankF x ≤ leastN l := fold_mem l 1 x h
theorem leastN_take (l : List Nat) (k : Nat) (h : k < l.length) : leastN (l.take (k + 1)) = max (leastN (l.take k)) (rankF (l.getD k 0)) := by
  unfold leastN
  rw [List.take_succ_eq_append_getElem h, List.foldl_append]
  simp [List.getD_eq_getElem?_getD, h]
theorem leastN_split (l : List Nat) (k : Nat) : leastN (l.take k) ≤ leastN l := by
  unfold leastN
  conv => rhs; rw [← List.take_append_drop k l, List.foldl_append]
  exact fold_ge _ _
theorem rank_bit (x : Nat) (hx : tidyF x) : rankF x ≤ 1 ↔ x = fwF 0 ∨ x = fwF 1 := by
  constructor
  · intro h
    unfold rankF at h
    split at h
    · rename_i hw
      unfold rankOf at h
      have e := fw_whole x (wholeF x).1 hx (by rw [← hw])
      split at h
      · rename_i h2
        rcases h2 with h2 | h2
        · rw [h2] at e; exact .inl e
        · rw [h2] at e; exact .inr e
      · split at h <;> omega
    · omega
  · rintro (rfl | rfl)
    · unfold rankF; rw [wholeF_fw 0 (by omega)]; simp [rankOf]
    · unfold rankF; rw [wholeF_fw 1 (by omega)]; simp [rankOf]
theorem rank_small (x : Nat) : rankF x ≤ 2 ↔ (wholeF x).2 = true ∧ -128 ≤ (wholeF x).1 ∧ (wholeF x).1 ≤ 127 := by
  unfold rankF
  by_cases h : (wholeF x).2 = true
  · rw [if_pos h]
    unfold rankOf
    split
    · rename_i h2; constructor
      · intro _; exact ⟨h, by omega⟩
      · intro _; omega
    · split
      · rename_i h2; exact ⟨fun _ => ⟨h, h2⟩, fun _ => by omega⟩
      · rename_i h2; exact ⟨fun e => by omega, fun e => absurd e.2 h2⟩
  · rw [if_neg h]
    exact ⟨fun e => by omega, fun e => absurd e.1 h⟩
theorem rank_int (x : Nat) : rankF x ≤ 3 ↔ (wholeF x).2 = true := by
  unfold rankF
  by_cases h : (wholeF x).2 = true
  · rw [if_pos h]; have := rankOf_bounds (wholeF x).1; exact ⟨fun _ => h, fun _ => by omega⟩
  · rw [if_neg h]; exact ⟨fun e => by omega, fun e => absurd e h⟩
end Go.Proofs.YtmojpbfkpggjhaaGreat

/-
  Contracts of functions of package squeeze: the least store. No statement is proved here.
-/
namespace Go.Proofs.YtmojpbfkpggjhaaGreat
open Go Go.RowKit
set_option linter.unusedVariables false
set_option linter.unusedSimpArgs false
set_option maxHeartbeats 4000000
attribute [local irreducible] CW RW QW SW HW ConM retM heldQ calmQ elemP thenQ blockQ loopQ joinQ retQ Yields Con Sl zF magR unitF truncF fwF wholeF tidySpec
attribute [local irreducible] rankF leastN

theorem sqRank_con (n : Int) (w : World) (h : GHeap) : Con Tryz.prog 170 [.int .i64 n] w h (fun _ v => v = .int .i64 (rankOf n)) := by
  refine Con.of_body Tryz.func170 rfl Tryz.ntmps170 rfl rfl ?_
  intro hs
  unfold rankOf
  by_cases h0 : n = 0 ∨ n = 1
  · rw [if_pos h0]
    rcases h0 with rfl | rfl
    all_goals
      refine Zrun ?_
    all_goals exact retQ_ret [_] h ⟨rfl, trivial⟩ hs rfl
  · rw [if_neg h0]
    by_cases h1 : -128 ≤ n ∧ n ≤ 127
    · rw [if_pos h1]
      refine Zrun ?_
      exact retQ_ret [_] h ⟨rfl, trivial⟩ hs rfl
    · rw [if_neg h1]
      by_cases h2 : -128 ≤ n
      all_goals
        refine Zrun ?_
      all_goals exact retQ_ret [_] h ⟨rfl, trivial⟩ hs rfl

section
variable {α : Type} {R : GHeap → List Value → α → Prop}
theorem VecAt.tidy {h : GHeap} {cs : List Value} {v : VecD α} (hv : VecAt R h cs v) : ∀ x ∈ v.nums, tidyF x := by
  obtain ⟨wv, nv, sm, il, fl, ch, bx, ⟨rfl, hoc⟩, hk⟩ := hv
  rcases hk with ⟨_, rfl⟩ | ⟨_, bs, _, rfl, rfl⟩ | ⟨_, l, _, hr, rfl⟩ | ⟨_, l, _, hr, rfl⟩ | ⟨_, l, _, hr, rfl⟩ | ⟨_, l, _, rfl⟩ | ⟨_, l, _, rfl⟩
  · intro x hx; cases hx
  · intro x hx
    rw [List.mem_map] at hx
    obtain ⟨b, _, rfl⟩ := hx
    cases b
    · exact ⟨by decide, fin0, by decide⟩
    · exact ⟨by decide, fin1, by decide⟩
  · intro x hx
    rw [List.mem_map] at hx
    obtain ⟨u, hu, rfl⟩ := hx
    have := hr u hu
    exact (fwF_spec u ⟨by omega, by omega⟩).1
  · intro x hx
    rw [List.mem_map] at hx
    obtain ⟨u, hu, rfl⟩ := hx
    exact (fwF_spec u (hr u hu)).1
  · exact hr
  · intro x hx; cases hx
  · intro x hx; cases hx
theorem VecAt.wholes {h : GHeap} {cs : List Value} {v : VecD α} (hv : VecAt R h cs v) (hk3 : v.kind = 1 ∨ v.kind = 2 ∨ v.kind = 3) : ∀ x ∈ v.nums, (wholeF x).2 = true := by
  obtain ⟨wv, nv, sm, il, fl, ch, bx, ⟨rfl, hoc⟩, hk⟩ := hv
  rcases hk with ⟨_, rfl⟩ | ⟨_, bs, _, rfl, rfl⟩ | ⟨_, l, _, hr, rfl⟩ | ⟨_, l, _, hr, rfl⟩ | ⟨_, l, _, hr, rfl⟩ | ⟨_, l, _, rfl⟩ | ⟨_, l, _, rfl⟩
  · intro x hx; cases hx
  · intro x hx
    rw [List.mem_map] at hx
    obtain ⟨b, _, rfl⟩ := hx
    rw [whole_bit]
  · intro x hx
    rw [List.mem_map] at hx
    obtain ⟨u, hu, rfl⟩ := hx
    have := hr u hu
    rw [wholeF_fw u ⟨by omega, by omega⟩]
  · intro x hx
    rw [List.mem_map] at hx
    obtain ⟨u, hu, rfl⟩ := hx
    rw [wholeF_fw u (hr u hu)]
  · simp at hk3
  · intro x hx; cases hx
  · intro x hx; cases hx
theorem mem_getD {β : Type} (l : List β) (j : Nat) (d : β) (h : j < l.length) : l.getD j d ∈ l := by simp [List.getD_eq_getElem?_getD, h]
/-- a number of any store as a whole one -/
theorem sqWhole_con (hR : Mono R) (cs : List Value) (v : VecD α) (j : Nat) (w : World) (h : GHeap) (hv : VecAt R h cs v) (hc : v.cls = 0) (hj : j < v.len) : Con Tryz.prog 175 [.agg cs.toArray, .int .i64 j] w h (fun _ u => u = .tuple #[.int .i64 (wholeF (v.nums.getD j 0)).1, .bool (wholeF (v.nums.getD j 0)).2]) := by
  have hv' := hv
  have hnl := hv.nums_len hc
  have htd := hv.tidy _ (mem_getD v.nums j 0 (by omega))
  have hwh := hv.wholes
  obtain ⟨wv, nv, sm, il, fl, ch, bx, ⟨rfl, hoc⟩, hk⟩ := hv
  refine Con.of_body Tryz.func175 rfl Tryz.ntmps175 rfl rfl ?_
  intro hs
  refine Zrun ?_
  (refine RW.boxN hs rfl rfl ?_; intro b1 w1 hs)
  refine Zrun ?_
  (refine RW.call T hs rfl rfl rfl (vecWhole_con _ v j _ _ hv') ?_; intro v h2 w2 hle2 hp2 hs)
  subst hp2
  have hv' := hv'.mono hR hle2
  by_cases h3 : v.kind = 1 ∨ v.kind = 2 ∨ v.kind = 3
  · have e : v.whole (j : Int) = ((wholeF (v.nums.getD j 0)).1, true) := by
      unfold VecD.whole
      rw [if_pos ⟨h3, by omega, by omega⟩, Int.toNat_natCast]
    rw [e]
    refine Zrun ?_
    refine retQ_ret [_, _] h2 ⟨rfl, rfl, trivial⟩ hs.dropAll ?_
    rw [hwh h3 _ (mem_getD v.nums j 0 (by omega))]; rfl
  · have e : v.whole (j : Int) = (0, false) := by
      unfold VecD.whole
      rw [if_neg (fun e => h3 e.1)]
    rw [e]
    refine Zrun ?_
    (refine RW.call T hs rfl rfl rfl (vecNum_con _ v j _ _ hv') ?_; intro v h4 w4 hle4 hp4 hs)
    subst hp4
    have hn : v.num (j : Int) = v.nums.getD j 0 := by unfold VecD.num; rw [if_pos (by omega), Int.toNat_natCast]
    rw [hn]
    refine Zrun ?_
    (refine RW.call T hs rfl rfl rfl (numWhole_con (v.nums.getD j 0) _ _ htd.2.1) ?_; intro v h5 w5 hle5 hp5 hs)
    subst hp5
    refine Zrun ?_
    exact retQ_ret [_, _] h5 ⟨rfl, rfl, trivial⟩ hs.dropAll rfl
end
end Go.Proofs.YtmojpbfkpggjhaaGreat

/-
  Contracts of functions of package squeeze: the least store of all elements. No statement is proved here.
-/
namespace Go.Proofs.YtmojpbfkpggjhaaGreat
open Go Go.RowKit
set_option linter.unusedVariables false
set_option linter.unusedSimpArgs false
set_option maxHeartbeats 4000000
attribute [local irreducible] CW RW QW SW HW ConM retM heldQ calmQ elemP thenQ blockQ loopQ joinQ retQ Yields Con Sl zF magR unitF truncF fwF wholeF tidySpec
attribute [local irreducible] rankF leastN

section
variable {α : Type} {R : GHeap → List Value → α → Prop}
def VecD.least (v : VecD α) : Int := if v.cls = 0 ∧ v.kind ≠ 0 then leastN v.nums else v.kind
theorem sqLeast_con (hR : Mono R) (cs : List Value) (v : VecD α) (w : World) (h : GHeap) (hv : VecAt R h cs v) (hm : v.len ≤ 1099511627776) : Con Tryz.prog 147 [.agg cs.toArray] w h (fun _ u => u = .int .i64 v.least) := by
  have hv' := hv
  have hnl := hv.nums_len
  have htd := hv.tidy
  have hwh := hv.wholes
  obtain ⟨wv, nv, sm, il, fl, ch, bx, ⟨rfl, hoc⟩, hk⟩ := hv
  unfold VecD.least
  refine Con.of_body Tryz.func147 rfl Tryz.ntmps147 rfl rfl ?_
  intro hs
  refine Zrun ?_
  (refine RW.boxN hs rfl rfl ?_; intro b1 w1 hs)
  refine Zrun ?_
  (refine RW.call T hs rfl rfl rfl (vecClass_con _ v _ _ hv') ?_; intro v h2 w2 hle2 hp2 hs)
  subst hp2
  have hv' := hv'.mono hR hle2
  by_cases hcls : v.cls = 0
  · have hnl := hnl hcls
    refine Zrun ?_
    (refine RW.call T hs rfl rfl rfl (vecKind_con _ v _ _ hv') ?_; intro v h3 w3 hle3 hp3 hs)
    subst hp3
    have hv' := hv'.mono hR hle3
    by_cases hk0 : v.kind = 0
    · rw [if_neg (fun e => e.2 hk0)]
      refine Zrun ?_
      (refine RW.call T hs rfl rfl rfl (vecKind_con _ v _ _ hv') ?_; intro v h4 w4 hle4 hp4 hs)
      subst hp4
      refine Zrun ?_
      exact retQ_ret [_] h4 ⟨rfl, trivial⟩ hs.dropAll rfl
    · rw [if_pos ⟨hcls, hk0⟩]
      refine Zrun ?_
      (refine RW.call T hs rfl rfl rfl (vecLen_con _ v _ _ hv') ?_; intro v h4 w4 hle4 hp4 hs)
      subst hp4
      have hv' := hv'.mono hR hle4
      rw [← hnl] at hm ⊢
      refine Zrun ?_
      refine CW.loop (fun p : Nat × GHeap => [(1, .pointer (some ⟨b1, 0, none⟩)), (3, .int .i64 (leastN (v.nums.take p.1))), (18, .int .i64 v.nums.length), (19, .int .i64 p.1)]) (fun p w' => p.1 ≤ v.nums.length ∧ GLe h4 p.2 ∧ Sees w h p.2 [⟨some ⟨b1, 0, none⟩, 1, 1, 37, 8, vecCells v.kind wv nv sm il fl ch bx⟩] w') (fun p => v.nums.length - p.1) (0, h4) ⟨rfl, seti (by unfold leastN; simp), rfl, rfl, trivial⟩ ⟨by omega, GLe.refl _, hs⟩ ?_
      rintro ⟨k, hh⟩ w5 ⟨hk5, hgl, hs⟩
      dsimp only at hk5 hgl hs ⊢
      have hv' := hv'.mono hR hgl
      by_cases hlt : k < v.nums.length
      · have hmem := mem_getD v.nums k 0 hlt
        have htdk := htd _ hmem
        have hstep := leastN_take v.nums k hlt
        have hb1 := leastN_bounds v.nums
        have hb2 := leastN_le v.nums _ hmem
        have hb3 := leastN_split v.nums (k + 1)
        have hn : v.num (k : Int) = v.nums.getD k 0 := by unfold VecD.num; rw [if_pos (by omega), Int.toNat_natCast]
        refine Zrun ?_
        (refine RW.call T hs rfl rfl rfl (vecWhole_con _ v k _ _ hv') ?_; intro v h6 w6 hle6 hp6 hs)
        subst hp6
        have hv' := hv'.mono hR hle6
        refine RW.meet (fun _ : Unit => [(1, .pointer (some ⟨b1, 0, none⟩)), (3, .int .i64 (leastN (v.nums.take k))), (18, .int .i64 v.nums.length), (19, .int .i64 k), (4, .int .i64 k), (5, .int .i64 (v.whole k).1), (6, .bool (v.whole k).2)]) (fun _ w' => Sees w h h6 [⟨some ⟨b1, 0, none⟩, 1, 1, 37, 8, vecCells v.kind wv nv sm il fl ch bx⟩] w') ?_ ?_
        · refine Zrun ?_
          exact joinQ_meet () ⟨rfl, rfl, rfl, rfl, rfl, rfl, rfl, trivial⟩ hs
        intro _ w7 hs
        refine CW.seq ?_
        refine CW.meet (fun _ : Unit => [(1, .pointer (some ⟨b1, 0, none⟩)), (3, .int .i64 (leastN (v.nums.take k))), (18, .int .i64 v.nums.length), (19, .int .i64 k), (5, .int .i64 (wholeF (v.nums.getD k 0)).1)]) (fun _ w' => ∃ h', GLe h6 h' ∧ (wholeF (v.nums.getD k 0)).2 = true ∧ Sees w h h' [⟨some ⟨b1, 0, none⟩, 1, 1, 37, 8, vecCells v.kind wv nv sm il fl ch bx⟩] w') ?_ ?_
        · by_cases h3 : v.kind = 1 ∨ v.kind = 2 ∨ v.kind = 3
          · have e : v.whole (k : Int) = ((wholeF (v.nums.getD k 0)).1, true) := by
              unfold VecD.whole
              rw [if_pos ⟨h3, by omega, by omega⟩, Int.toNat_natCast]
            rw [e]
            refine Zrun ?_
            exact joinQ_meet () ⟨rfl, rfl, rfl, rfl, rfl, trivial⟩ ⟨_, GLe.refl _, hwh h3 _ hmem, hs⟩
          · have e : v.whole (k : Int) = (0, false) := by
              unfold VecD.whole
              rw [if_neg (fun e => h3 e.1)]
            rw [e]
            refine Zrun ?_
            (refine RW.call T hs rfl rfl rfl (vecNum_con _ v k _ _ hv') ?_; intro v h8 w8 hle8 hp8 hs)
            subst hp8
            rw [hn]
            refine Zrun ?_
            (refine RW.call T hs rfl rfl rfl (numWhole_con (v.nums.getD k 0) _ _ htdk.2.1) ?_; intro v h9 w9 hle9 hp9 hs)
            subst hp9
            by_cases hw : (wholeF (v.nums.getD k 0)).2 = true
            · rw [hw]
              refine Zrun ?_
              exact joinQ_meet () ⟨rfl, rfl, rfl, rfl, rfl, trivial⟩ ⟨_, hle8.trans hle9, rfl, hs⟩
            · rw [show (wholeF (v.nums.getD k 0)).2 = false by simpa using hw]
              have hr : rankF (v.nums.getD k 0) = 4 := by unfold rankF; rw [if_neg hw]
              refine Zrun ?_
              exact retQ_ret [_] h9 ⟨rfl, trivial⟩ hs.dropAll (by rw [show leastN v.nums = 4 by omega]; rfl)
        · rintro _ w8 ⟨h8, hle8, hw, hs⟩
          have hv' := hv'.mono hR hle8
          have hr : rankF (v.nums.getD k 0) = rankOf (wholeF (v.nums.getD k 0)).1 := by unfold rankF; rw [if_pos hw]
          have hrb := rankOf_bounds (wholeF (v.nums.getD k 0)).1
          refine Zrun ?_
          (refine RW.call T hs rfl rfl rfl (sqRank_con (wholeF (v.nums.getD k 0)).1 _ _) ?_; intro v h9 w9 hle9 hp9 hs)
          subst hp9
          rw [← hr] at hrb ⊢
          have hv' := hv'.mono hR hle9
          refine Zrun ?_
          rw [← hstep]
          by_cases h3 : leastN (v.nums.take (k + 1)) = 3
          · refine Zrun ?_
            (refine RW.call T hs rfl rfl rfl (vecKind_con _ v _ _ hv') ?_; intro v h10 w10 hle10 hp10 hs)
            subst hp10
            by_cases hk3 : v.kind = 3
            · have hle3 : leastN v.nums ≤ 3 := by
                unfold leastN
                exact fold_le _ 1 3 (by omega) (fun x hx => (rank_int x).2 (hwh (.inr (.inr hk3)) x hx))
              refine Zrun ?_
              exact retQ_ret [_] h10 ⟨rfl, trivial⟩ hs.dropAll (by rw [show leastN v.nums = 3 by omega]; rfl)
            · refine Zrun ?_
              exact loopQ_round (k + 1, h10) ⟨rfl, rfl, rfl, rfl, trivial⟩ ⟨by dsimp only; omega, ((((hgl.trans hle6).trans hle8).trans hle9).trans hle10), hs⟩ (by dsimp only; omega)
          · refine Zrun ?_
            exact loopQ_round (k + 1, h9) ⟨rfl, rfl, rfl, rfl, trivial⟩ ⟨by dsimp only; omega, (((hgl.trans hle6).trans hle8).trans hle9), hs⟩ (by dsimp only; omega)
      · obtain rfl : k = v.nums.length := by omega
        rw [List.take_length]
        refine Zrun ?_
        exact retQ_ret [_] hh ⟨rfl, trivial⟩ hs.dropAll rfl
  · rw [if_neg (fun e => hcls e.1)]
    refine Zrun ?_
    (refine RW.call T hs rfl rfl rfl (vecKind_con _ v _ _ hv') ?_; intro v h4 w4 hle4 hp4 hs)
    subst hp4
    refine Zrun ?_
    exact retQ_ret [_] h4 ⟨rfl, trivial⟩ hs.dropAll rfl
end
end Go.Proofs.YtmojpbfkpggjhaaGreat

/-
  Contracts of functions of package squeeze: numbers as whole ones, as small ones. No statement is proved here.
-/
namespace Go.Proofs.YtmojpbfkpggjhaaGreat
open Go Go.RowKit
set_option linter.unusedVariables false
set_option linter.unusedSimpArgs false
set_option maxHeartbeats 4000000
attribute [local irreducible] CW RW QW SW HW ConM retM heldQ calmQ elemP thenQ blockQ loopQ joinQ retQ Yields Con Sl zF magR unitF truncF fwF wholeF tidySpec
attribute [local irreducible] rankF leastN

theorem all_of_getD {β : Type} {p : β → Prop} (l : List β) (d : β) (h : ∀ j, j < l.length → p (l.getD j d)) : ∀ x ∈ l, p x := by
  intro x hx
  obtain ⟨j, hj, e⟩ := List.getElem_of_mem hx
  have := h j hj
  rw [List.getD_eq_getElem?_getD, List.getElem?_eq_getElem hj] at this
  rw [← e]; exact this
section
variable {α : Type} {R : GHeap → List Value → α → Prop}
theorem sqWholes_con (hR : Mono R) (cs : List Value) (v : VecD α) (w : World) (h : GHeap) (hv : VecAt R h cs v) (hc : v.cls = 0) (hm : v.len ≤ 1099511627776) : Con Tryz.prog 168 [.agg cs.toArray] w h
    (fun h' u => ∃ s ok, u = .tuple #[s, .bool ok] ∧ ok = decide (∀ x ∈ v.nums, (wholeF x).2 = true) ∧ (ok = true → KAt .i64 h' s (v.nums.map fun x => (wholeF x).1))) := by
  have hv' := hv
  have hnl := hv.nums_len hc
  obtain ⟨wv, nv, sm, il, fl, ch, bx, ⟨rfl, hoc⟩, hk⟩ := hv
  refine Con.of_body Tryz.func168 rfl Tryz.ntmps168 rfl rfl ?_
  intro hs
  refine Zrun ?_
  (refine RW.boxN hs rfl rfl ?_; intro b1 w1 hs)
  refine Zrun ?_
  (refine RW.call T hs rfl rfl rfl (vecLen_con _ v _ _ hv') ?_; intro v h2 w2 hle2 hp2 hs)
  subst hp2
  have hv' := hv'.mono hR hle2
  rw [← hnl] at hm ⊢
  (refine RW.make1 T hs rfl rfl rfl rfl rfl rfl rfl (by dsimp only; omega) (by omega) ?_; intro b3 w3 hs)
  refine Zrun ?_
  refine CW.loop (fun p : Nat × GHeap => [(1, .pointer (some ⟨b1, 0, none⟩)), (4, .slice (some ⟨b3, 0, none⟩) v.nums.length v.nums.length), (12, .int .i64 v.nums.length), (13, .int .i64 p.1)]) (fun p w' => p.1 ≤ v.nums.length ∧ GLe h2 p.2 ∧ (∀ j, j < p.1 → (wholeF (v.nums.getD j 0)).2 = true) ∧ Sees w h p.2 [⟨some ⟨b3, 0, none⟩, v.nums.length, v.nums.length, 2, 1, ((v.nums.take p.1).map fun x => (wholeF x).1).map (Value.int .i64) ++ List.replicate (v.nums.length - p.1) (.int .i64 0)⟩, ⟨some ⟨b1, 0, none⟩, 1, 1, 37, 8, vecCells v.kind wv nv sm il fl ch bx⟩] w') (fun p => v.nums.length - p.1) (0, h2) ⟨rfl, rfl, rfl, rfl, trivial⟩ ⟨by omega, GLe.refl _, by dsimp only; omega, by simp only [List.take_zero, List.map_nil, List.nil_append, Nat.sub_zero]; exact hs⟩ ?_
  rintro ⟨k, hh⟩ w5 ⟨hk5, hgl, hno, hs⟩
  dsimp only at hk5 hgl hno hs ⊢
  have hv' := hv'.mono hR hgl
  by_cases hlt : k < v.nums.length
  · refine Zrun ?_
    (refine RW.call T hs rfl rfl rfl (sqWhole_con hR _ v k _ _ hv' hc (by omega)) ?_; intro v h6 w6 hle6 hp6 hs)
    subst hp6
    by_cases hw : (wholeF (v.nums.getD k 0)).2 = true
    · rw [hw]
      refine Zrun ?_
      refine RW.val (Y.idxRN T hs 0 rfl rfl rfl rfl rfl rfl ?_) rfl ?_
      · omega
      refine RW.st1 T hs 0 rfl rfl rfl rfl rfl rfl rfl (by omega) ?_
      intro w7 hs
      refine Zrun ?_
      refine loopQ_round (k + 1, h6) ⟨rfl, rfl, rfl, rfl, trivial⟩ ⟨by dsimp only; omega, hgl.trans hle6, fun j hj => ?_, ?_⟩ (by dsimp only; omega)
      · by_cases e : j = k
        · subst e; exact hw
        · exact hno j (by dsimp only at hj; omega)
      · dsimp only
        have e := set_snoc (((v.nums.take k).map fun x => (wholeF x).1).map (Value.int .i64)) (v.nums.length - k) (Value.int .i64 0) (Value.int .i64 (wholeF (v.nums.getD k 0)).1) (by omega)
        simp only [List.length_map, List.length_take, Nat.min_eq_left hk5] at e
        rw [take_snoc v.nums k 0 hlt, List.map_append, List.map_append, show v.nums.length - (k + 1) = v.nums.length - k - 1 by omega]
        exact hs.re e
    · rw [show (wholeF (v.nums.getD k 0)).2 = false by simpa using hw]
      refine Zrun ?_
      exact retQ_ret [_, _] h6 ⟨rfl, rfl, trivial⟩ hs.dropAll ⟨_, false, rfl, (decide_eq_false (fun e => hw (e _ (mem_getD v.nums k 0 hlt)))).symm, fun e => by cases e⟩
  · obtain rfl : k = v.nums.length := by omega
    refine Zrun ?_
    obtain ⟨h8, hle8, hs8, hS8⟩ := hs.freeze
    refine retQ_ret [_, _] h8 ⟨rfl, rfl, trivial⟩ hs8.dropAll ⟨_, true, rfl, (decide_eq_true (all_of_getD (p := fun x => (wholeF x).2 = true) v.nums 0 hno)).symm, fun _ => RowAt.of_sl (n := v.nums.length) ?_⟩
    dsimp only at hS8
    simpa using hS8
end
end Go.Proofs.YtmojpbfkpggjhaaGreat

/-
  Contracts of functions of package squeeze: numbers into truths, and into eight bits. No statement is proved here.
-/
namespace Go.Proofs.YtmojpbfkpggjhaaGreat
open Go Go.RowKit
set_option linter.unusedVariables false
set_option linter.unusedSimpArgs false
set_option maxHeartbeats 4000000
attribute [local irreducible] CW RW QW SW HW ConM retM heldQ calmQ elemP thenQ blockQ loopQ joinQ retQ Yields Con Sl zF magR unitF truncF fwF wholeF tidySpec
attribute [local irreducible] rankF leastN

theorem zero_word (x : Nat) (hx : tidyF x) (h : zF x = 0) : x = bitF false := zF_inj hx ⟨by decide, fin0, by decide⟩ (h.trans zF0.symm)
theorem one_word (x : Nat) (hx : tidyF x) (h : zF x = unitF) : x = bitF true := zF_inj hx ⟨by decide, fin1, by decide⟩ (h.trans zF1.symm)
theorem rank_truth (x : Nat) (hx : tidyF x) : rankF x ≤ 1 ↔ (zF x = 0 ∨ zF x = unitF) := by
  rw [rank_bit x hx, fw0, fw1]
  constructor
  · rintro (rfl | rfl)
    · exact .inl zF0
    · exact .inr zF1
  · rintro (h | h)
    · exact .inl (zero_word x hx h)
    · exact .inr (one_word x hx h)
section
variable {α : Type} {R : GHeap → List Value → α → Prop}
theorem sqIntoBits_con (hR : Mono R) (cs : List Value) (v : VecD α) (w : World) (h : GHeap) (hv : VecAt R h cs v) (hc : v.cls = 0) (hm : v.len ≤ 1048576) : Con Tryz.prog 166 [.agg cs.toArray] w h
    (fun h' u => ∃ cs' ok, u = .tuple #[.agg cs'.toArray, .bool ok] ∧ ok = decide (∀ x ∈ v.nums, rankF x ≤ 1) ∧ VecAt R h' cs' (if ok = true then ⟨1, v.nums, [], []⟩ else VecD.none)) := by
  have hv' := hv
  have hnl := hv.nums_len hc
  have htd := hv.tidy
  obtain ⟨wv, nv, sm, il, fl, ch, bx, ⟨rfl, hoc⟩, hk⟩ := hv
  refine Con.of_body Tryz.func166 rfl Tryz.ntmps166 rfl rfl ?_
  intro hs
  refine Zrun ?_
  (refine RW.boxN hs rfl rfl ?_; intro b1 w1 hs)
  (refine RW.allocN T hs rfl rfl rfl rfl ?_; intro b2 w2 hs)
  refine Zrun ?_
  (refine RW.call T hs rfl rfl rfl (vecLen_con _ v _ _ hv') ?_; intro v h3 w3 hle3 hp3 hs)
  subst hp3
  have hv' := hv'.mono hR hle3
  rw [← hnl] at hm ⊢
  (refine RW.make1 T hs rfl rfl rfl rfl rfl rfl rfl (by dsimp only; omega) (by omega) ?_; intro b4 w4 hs)
  refine Zrun ?_
  refine CW.loop (fun p : Nat × GHeap => [(1, .pointer (some ⟨b1, 0, none⟩)), (2, .pointer (some ⟨b2, 0, none⟩)), (4, .slice (some ⟨b4, 0, none⟩) v.nums.length v.nums.length), (12, .int .i64 v.nums.length), (13, .int .i64 p.1)]) (fun p w' => p.1 ≤ v.nums.length ∧ GLe h3 p.2 ∧ (∀ j, j < p.1 → rankF (v.nums.getD j 0) ≤ 1) ∧ Sees w h p.2 [⟨some ⟨b4, 0, none⟩, v.nums.length, v.nums.length, 4, 1, ((v.nums.take p.1).map fun x => decide (zF x = unitF)).map Value.bool ++ List.replicate (v.nums.length - p.1) (.bool false)⟩, ⟨some ⟨b2, 0, none⟩, 1, 1, 37, 8, vecCells 0 (.slice none 0 0) 0 (.slice none 0 0) (.slice none 0 0) (.slice none 0 0) (.slice none 0 0) (.slice none 0 0)⟩, ⟨some ⟨b1, 0, none⟩, 1, 1, 37, 8, vecCells v.kind wv nv sm il fl ch bx⟩] w') (fun p => v.nums.length - p.1) (0, h3) ⟨rfl, rfl, rfl, rfl, rfl, trivial⟩ ⟨by omega, GLe.refl _, by dsimp only; omega, by simp only [List.take_zero, List.map_nil, List.nil_append, Nat.sub_zero]; exact hs⟩ ?_
  rintro ⟨k, hh⟩ w5 ⟨hk5, hgl, hno, hs⟩
  dsimp only at hk5 hgl hno hs ⊢
  have hv' := hv'.mono hR hgl
  by_cases hlt : k < v.nums.length
  · have htdk := htd _ (mem_getD v.nums k 0 hlt)
    refine Zrun ?_
    refine RW.val (Y.loadRowN T hs 2 rfl rfl rfl rfl rfl rfl rfl) rfl ?_
    refine Zrun ?_
    (refine RW.call T hs rfl rfl rfl (vecNum_con _ v k _ _ hv') ?_; intro v h6 w6 hle6 hp6 hs)
    subst hp6
    have hn : v.num (k : Int) = v.nums.getD k 0 := by unfold VecD.num; rw [if_pos (by omega), Int.toNat_natCast]
    rw [hn]
    refine Zrun ?_
    (refine RW.call T hs rfl rfl rfl (numTruth_con (v.nums.getD k 0) _ _ htdk.2.1) ?_; intro v h7 w7 hle7 hp7 hs)
    subst hp7
    by_cases hw : rankF (v.nums.getD k 0) ≤ 1
    · have ht := (rank_truth _ htdk).1 hw
      refine Zrun ?_
      refine RW.val (Y.idxRN T hs 0 rfl rfl rfl rfl rfl rfl ?_) rfl ?_
      · omega
      refine RW.st1 T hs 0 rfl rfl rfl rfl rfl rfl rfl (by omega) ?_
      intro w7 hs
      refine Zrun ?_
      refine loopQ_round (k + 1, h7) ⟨rfl, rfl, rfl, rfl, rfl, trivial⟩ ⟨by dsimp only; omega, (hgl.trans hle6).trans hle7, fun j hj => ?_, ?_⟩ (by dsimp only; omega)
      · by_cases e : j = k
        · subst e; exact hw
        · exact hno j (by dsimp only at hj; omega)
      · dsimp only
        have e := set_snoc (((v.nums.take k).map fun x => decide (zF x = unitF)).map Value.bool) (v.nums.length - k) (Value.bool false) (Value.bool (decide (zF (v.nums.getD k 0) = unitF))) (by omega)
        simp only [List.length_map, List.length_take, Nat.min_eq_left hk5] at e
        rw [take_snoc v.nums k 0 hlt, List.map_append, List.map_append, show v.nums.length - (k + 1) = v.nums.length - k - 1 by omega]
        exact hs.re e
    · have ht : ¬ (zF (v.nums.getD k 0) = 0 ∨ zF (v.nums.getD k 0) = unitF) := fun e => hw ((rank_truth _ htdk).2 e)
      refine Zrun ?_
      refine RW.val (Y.build T rfl rfl rfl rfl rfl rfl rfl) rfl ?_
      (refine RW.storeAll T hs 1 rfl rfl rfl rfl rfl rfl rfl rfl ?_; intro w8 hs)
      refine Zrun ?_
      exact retQ_ret [_, _] h7 ⟨resN T hs 1 rfl rfl rfl rfl rfl rfl, rfl, trivial⟩ hs.dropAll ⟨_, false, rfl, (decide_eq_false (fun e => hw (e _ (mem_getD v.nums k 0 hlt)))).symm, vecNone h7⟩
  · obtain rfl : k = v.nums.length := by omega
    have hall := all_of_getD (p := fun x => rankF x ≤ 1) v.nums 0 hno
    have hbits : (v.nums.map fun x => decide (zF x = unitF)).map bitF = v.nums := by
      rw [List.map_map]
      conv => rhs; rw [← List.map_id v.nums]
      apply List.map_congr_left
      intro x hx
      have hxt := htd x hx
      rcases (rank_truth x hxt).1 (hall x hx) with h0 | h1
      · have : ¬ zF x = unitF := by have := unitF_pos; omega
        simp only [Function.comp, this, decide_false, id]
        exact (zero_word x hxt h0).symm
      · simp only [Function.comp, h1, decide_true, id]
        exact (one_word x hxt h1).symm
    refine Zrun ?_
    obtain ⟨h8, hle8, hs, hS8⟩ := hs.freeze
    have hT8 : TAt h8 (.slice (some ⟨b4, 0, none⟩) v.nums.length v.nums.length) (v.nums.map fun x => decide (zF x = unitF)) := RowAt.of_sl (by dsimp only at hS8; simpa using hS8)
    (refine RW.call T hs rfl rfl rfl (bitsPack_con _ _ _ _ hT8 (by simpa using hm)) ?_; intro v h9 w9 hle9 hp9 hs)
    obtain ⟨wv9, rfl, hb9⟩ := hp9
    refine Zrun ?_
    (refine RW.call T hs rfl rfl rfl (vecBits_con (R := R) wv9 _ _ _ hb9) ?_; intro v h10 w10 hle10 hp10 hs)
    obtain ⟨cs10, rfl, hv10⟩ := hp10
    rw [hbits] at hv10
    have hv11 := hv10
    obtain ⟨wv', nv', sm', il', fl', ch', bx', ⟨rfl, hoc'⟩, _⟩ := hv10
    refine Zrun ?_
    (refine RW.storeAll T hs 0 rfl rfl rfl rfl rfl rfl hoc' rfl ?_; intro w11 hs)
    refine Zrun ?_
    exact retQ_ret [_, _] h10 ⟨resN T hs 0 rfl rfl rfl rfl rfl rfl, rfl, trivial⟩ hs.dropAll ⟨_, true, rfl, (decide_eq_true hall).symm, hv11⟩
end
end Go.Proofs.YtmojpbfkpggjhaaGreat

/-
  Contracts of functions of package squeeze: numbers into eight bits. No statement is proved here.
-/
namespace Go.Proofs.YtmojpbfkpggjhaaGreat
open Go Go.RowKit
set_option linter.unusedVariables false
set_option linter.unusedSimpArgs false
set_option maxHeartbeats 4000000
attribute [local irreducible] CW RW QW SW HW ConM retM heldQ calmQ elemP thenQ blockQ loopQ joinQ retQ Yields Con Sl zF magR unitF truncF fwF wholeF tidySpec
attribute [local irreducible] rankF leastN

theorem wrapS (z : Int) (h : -128 ≤ z ∧ z ≤ 127) : IntKind.i8.wrap z = z := by
  unfold IntKind.wrap
  simp [IntKind.signed, IntKind.bits]
  split <;> omega
section
variable {α : Type} {R : GHeap → List Value → α → Prop}
theorem sqIntoSmalls_con (hR : Mono R) (cs : List Value) (v : VecD α) (w : World) (h : GHeap) (hv : VecAt R h cs v) (hc : v.cls = 0) (hm : v.len ≤ 1048576) : Con Tryz.prog 167 [.agg cs.toArray] w h
    (fun h' u => ∃ cs' ok, u = .tuple #[.agg cs'.toArray, .bool ok] ∧ ok = decide (∀ x ∈ v.nums, rankF x ≤ 2) ∧ VecAt R h' cs' (if ok = true then ⟨2, v.nums, [], []⟩ else VecD.none)) := by
  have hv' := hv
  have hnl := hv.nums_len hc
  have htd := hv.tidy
  obtain ⟨wv, nv, sm, il, fl, ch, bx, ⟨rfl, hoc⟩, hk⟩ := hv
  refine Con.of_body Tryz.func167 rfl Tryz.ntmps167 rfl rfl ?_
  intro hs
  refine Zrun ?_
  (refine RW.boxN hs rfl rfl ?_; intro b1 w1 hs)
  (refine RW.allocN T hs rfl rfl rfl rfl ?_; intro b2 w2 hs)
  refine Zrun ?_
  (refine RW.call T hs rfl rfl rfl (vecLen_con _ v _ _ hv') ?_; intro v h3 w3 hle3 hp3 hs)
  subst hp3
  have hv' := hv'.mono hR hle3
  rw [← hnl] at hm ⊢
  (refine RW.make1 T hs rfl rfl rfl rfl rfl rfl rfl (by dsimp only; omega) (by omega) ?_; intro b4 w4 hs)
  refine Zrun ?_
  refine CW.loop (fun p : Nat × GHeap => [(1, .pointer (some ⟨b1, 0, none⟩)), (2, .pointer (some ⟨b2, 0, none⟩)), (4, .slice (some ⟨b4, 0, none⟩) v.nums.length v.nums.length), (12, .int .i64 v.nums.length), (13, .int .i64 p.1)]) (fun p w' => p.1 ≤ v.nums.length ∧ GLe h3 p.2 ∧ (∀ j, j < p.1 → rankF (v.nums.getD j 0) ≤ 2) ∧ Sees w h p.2 [⟨some ⟨b4, 0, none⟩, v.nums.length, v.nums.length, 175, 1, ((v.nums.take p.1).map fun x => (wholeF x).1).map (Value.int .i8) ++ List.replicate (v.nums.length - p.1) (.int .i8 0)⟩, ⟨some ⟨b2, 0, none⟩, 1, 1, 37, 8, vecCells 0 (.slice none 0 0) 0 (.slice none 0 0) (.slice none 0 0) (.slice none 0 0) (.slice none 0 0) (.slice none 0 0)⟩, ⟨some ⟨b1, 0, none⟩, 1, 1, 37, 8, vecCells v.kind wv nv sm il fl ch bx⟩] w') (fun p => v.nums.length - p.1) (0, h3) ⟨rfl, rfl, rfl, rfl, rfl, trivial⟩ ⟨by omega, GLe.refl _, by dsimp only; omega, by simp only [List.take_zero, List.map_nil, List.nil_append, Nat.sub_zero]; exact hs⟩ ?_
  rintro ⟨k, hh⟩ w5 ⟨hk5, hgl, hno, hs⟩
  dsimp only at hk5 hgl hno hs ⊢
  have hv' := hv'.mono hR hgl
  by_cases hlt : k < v.nums.length
  · have htdk := htd _ (mem_getD v.nums k 0 hlt)
    have hrs := rank_small (v.nums.getD k 0)
    refine Zrun ?_
    refine RW.val (Y.loadRowN T hs 2 rfl rfl rfl rfl rfl rfl rfl) rfl ?_
    refine Zrun ?_
    (refine RW.call T hs rfl rfl rfl (sqWhole_con hR _ v k _ _ hv' hc (by omega)) ?_; intro v h6 w6 hle6 hp6 hs)
    subst hp6
    by_cases hw : rankF (v.nums.getD k 0) ≤ 2
    · obtain ⟨t1, t2, t3⟩ := hrs.1 hw
      rw [t1]
      refine Zrun ?_
      refine RW.val (Y.convII T rfl rfl rfl) rfl ?_
      rw [wrapS _ ⟨t2, t3⟩]
      refine RW.val (Y.idxRN T hs 0 rfl rfl rfl rfl rfl rfl ?_) rfl ?_
      · omega
      refine RW.st1 T hs 0 rfl rfl rfl rfl rfl rfl rfl (by omega) ?_
      intro w7 hs
      refine Zrun ?_
      refine loopQ_round (k + 1, h6) ⟨rfl, rfl, rfl, rfl, rfl, trivial⟩ ⟨by dsimp only; omega, hgl.trans hle6, fun j hj => ?_, ?_⟩ (by dsimp only; omega)
      · by_cases e : j = k
        · subst e; exact hw
        · exact hno j (by dsimp only at hj; omega)
      · dsimp only
        have e := set_snoc (((v.nums.take k).map fun x => (wholeF x).1).map (Value.int .i8)) (v.nums.length - k) (Value.int .i8 0) (Value.int .i8 (wholeF (v.nums.getD k 0)).1) (by omega)
        simp only [List.length_map, List.length_take, Nat.min_eq_left hk5] at e
        rw [take_snoc v.nums k 0 hlt, List.map_append, List.map_append, show v.nums.length - (k + 1) = v.nums.length - k - 1 by omega]
        exact hs.re e
    · have ht : ∃ b, (wholeF (v.nums.getD k 0)).2 = b ∧ (b = true → ¬ (-128 ≤ (wholeF (v.nums.getD k 0)).1 ∧ (wholeF (v.nums.getD k 0)).1 ≤ 127)) := ⟨_, rfl, fun e h2 => hw (hrs.2 ⟨e, h2⟩)⟩
      obtain ⟨b, hb1, hb2⟩ := ht
      rw [hb1]
      refine RW.meet (fun _ : Unit => [(1, .pointer (some ⟨b1, 0, none⟩)), (2, .pointer (some ⟨b2, 0, none⟩)), (6, .int .i64 (wholeF (v.nums.getD k 0)).1), (7, .bool b)]) (fun _ w' => Sees w h h6 [⟨some ⟨b4, 0, none⟩, v.nums.length, v.nums.length, 175, 1, ((v.nums.take k).map fun x => (wholeF x).1).map (Value.int .i8) ++ List.replicate (v.nums.length - k) (.int .i8 0)⟩, ⟨some ⟨b2, 0, none⟩, 1, 1, 37, 8, vecCells 0 (.slice none 0 0) 0 (.slice none 0 0) (.slice none 0 0) (.slice none 0 0) (.slice none 0 0) (.slice none 0 0)⟩, ⟨some ⟨b1, 0, none⟩, 1, 1, 37, 8, vecCells v.kind wv nv sm il fl ch bx⟩] w') ?_ ?_
      · refine Zrun ?_
        exact joinQ_meet () ⟨rfl, rfl, rfl, rfl, trivial⟩ hs
      intro _ w7 hs
      have hbad : decide (∀ x ∈ v.nums, rankF x ≤ 2) = false := decide_eq_false (fun e => hw (e _ (mem_getD v.nums k 0 hlt)))
      cases b with
      | false =>
        refine Zrun ?_
        refine RW.val (Y.build T rfl rfl rfl rfl rfl rfl rfl) rfl ?_
        (refine RW.storeAll T hs 1 rfl rfl rfl rfl rfl rfl rfl rfl ?_; intro w8 hs)
        refine Zrun ?_
        exact retQ_ret [_, _] h6 ⟨resN T hs 1 rfl rfl rfl rfl rfl rfl, rfl, trivial⟩ hs.dropAll ⟨_, false, rfl, hbad.symm, vecNone h6⟩
      | true =>
        have hb3 := hb2 rfl
        by_cases hlow : (wholeF (v.nums.getD k 0)).1 < -128
        all_goals
          refine Zrun ?_
        all_goals
          refine RW.val (Y.build T rfl rfl rfl rfl rfl rfl rfl) rfl ?_
        all_goals
          (refine RW.storeAll T hs 1 rfl rfl rfl rfl rfl rfl rfl rfl ?_; intro w8 hs)
        all_goals
          refine Zrun ?_
        all_goals exact retQ_ret [_, _] h6 ⟨resN T hs 1 rfl rfl rfl rfl rfl rfl, rfl, trivial⟩ hs.dropAll ⟨_, false, rfl, hbad.symm, vecNone h6⟩
  · obtain rfl : k = v.nums.length := by omega
    have hall := all_of_getD (p := fun x => rankF x ≤ 2) v.nums 0 hno
    have hfw : (v.nums.map fun x => (wholeF x).1).map fwF = v.nums := by
      rw [List.map_map]
      conv => rhs; rw [← List.map_id v.nums]
      apply List.map_congr_left
      intro x hx
      obtain ⟨t1, _, _⟩ := (rank_small x).1 (hall x hx)
      exact (fw_whole x (wholeF x).1 (htd x hx) (by rw [← t1])).symm
    have hrng : ∀ u ∈ v.nums.map fun x => (wholeF x).1, -128 ≤ u ∧ u ≤ 127 := by
      intro u hu
      rw [List.mem_map] at hu
      obtain ⟨x, hx, rfl⟩ := hu
      exact ((rank_small x).1 (hall x hx)).2
    refine Zrun ?_
    obtain ⟨h8, hle8, hs, hS8⟩ := hs.freeze
    have hT8 : KAt .i8 h8 (.slice (some ⟨b4, 0, none⟩) v.nums.length v.nums.length) (v.nums.map fun x => (wholeF x).1) := RowAt.of_sl (by dsimp only at hS8; simpa using hS8)
    (refine RW.call T hs rfl rfl rfl (vecSmalls_con (R := R) _ _ _ _ hT8 hrng (by simp; omega)) ?_; intro v h10 w10 hle10 hp10 hs)
    obtain ⟨cs10, rfl, hv10⟩ := hp10
    rw [hfw] at hv10
    have hv11 := hv10
    obtain ⟨wv', nv', sm', il', fl', ch', bx', ⟨rfl, hoc'⟩, _⟩ := hv10
    refine Zrun ?_
    (refine RW.storeAll T hs 0 rfl rfl rfl rfl rfl rfl hoc' rfl ?_; intro w11 hs)
    refine Zrun ?_
    exact retQ_ret [_, _] h10 ⟨resN T hs 0 rfl rfl rfl rfl rfl rfl, rfl, trivial⟩ hs.dropAll ⟨_, true, rfl, (decide_eq_true hall).symm, hv11⟩
end
end Go.Proofs.YtmojpbfkpggjhaaGreat

/-
  Contracts of functions of package squeeze: numbers brought into a store. No statement is proved here.
-/
namespace Go.Proofs.YtmojpbfkpggjhaaGreat
open Go Go.RowKit
set_option linter.unusedVariables false
set_option linter.unusedSimpArgs false
set_option maxHeartbeats 4000000
attribute [local irreducible] CW RW QW SW HW ConM retM heldQ calmQ elemP thenQ blockQ loopQ joinQ retQ Yields Con Sl zF magR unitF truncF fwF wholeF tidySpec
attribute [local irreducible] rankF leastN

section
variable {α : Type} {R : GHeap → List Value → α → Prop}
/-- what comes of elements that are brought into a store -/
def VecD.into (v : VecD α) (k : Int) : VecD α × Bool :=
  if v.kind = k then (v, true)
  else if v.cls ≠ 0 ∨ v.kind = 0 then (VecD.none, false)
  else if 1 ≤ k ∧ k ≤ 4 ∧ ∀ x ∈ v.nums, rankF x ≤ k then (⟨k, v.nums, [], []⟩, true)
  else (VecD.none, false)
theorem sqInto_con (hR : Mono R) (cs : List Value) (v : VecD α) (k : Int) (w : World) (h : GHeap) (hv : VecAt R h cs v) (hm : v.len ≤ 1048576) : Con Tryz.prog 146 [.agg cs.toArray, .int .i64 k] w h
    (fun h' u => ∃ cs', u = .tuple #[.agg cs'.toArray, .bool (v.into k).2] ∧ VecAt R h' cs' (v.into k).1) := by
  have hv' := hv
  have hnl := hv.nums_len
  have htd := hv.tidy
  obtain ⟨wv, nv, sm, il, fl, ch, bx, ⟨rfl, hoc⟩, hk⟩ := hv
  refine Con.of_body Tryz.func146 rfl Tryz.ntmps146 rfl rfl ?_
  intro hs
  refine Zrun ?_
  (refine RW.boxN hs rfl rfl ?_; intro b1 w1 hs)
  (refine RW.allocN T hs rfl rfl rfl rfl ?_; intro b2 w2 hs)
  refine Zrun ?_
  (refine RW.call T hs rfl rfl rfl (vecKind_con _ v _ _ hv') ?_; intro v h3 w3 hle3 hp3 hs)
  subst hp3
  have hv' := hv'.mono hR hle3
  by_cases h1 : v.kind = k
  · have hsp : v.into k = (v, true) := by unfold VecD.into; rw [if_pos h1]
    rw [hsp]
    refine Zrun ?_
    (refine RW.storeAll T hs 0 rfl rfl rfl rfl rfl rfl hoc rfl ?_; intro w4 hs)
    refine Zrun ?_
    exact retQ_ret [_, _] h3 ⟨resN T hs 0 rfl rfl rfl rfl rfl rfl, rfl, trivial⟩ hs.dropAll ⟨_, rfl, hv'⟩
  refine Zrun ?_
  (refine RW.call T hs rfl rfl rfl (vecClass_con _ v _ _ hv') ?_; intro v h4 w4 hle4 hp4 hs)
  subst hp4
  have hv' := hv'.mono hR hle4
  by_cases hc : v.cls ≠ 0
  · have hsp : v.into k = (VecD.none, false) := by unfold VecD.into; rw [if_neg h1, if_pos (.inl hc)]
    rw [hsp]
    refine Zrun ?_
    refine RW.val (Y.build T rfl rfl rfl rfl rfl rfl rfl) rfl ?_
    (refine RW.storeAll T hs 0 rfl rfl rfl rfl rfl rfl rfl rfl ?_; intro w5 hs)
    refine Zrun ?_
    exact retQ_ret [_, _] h4 ⟨resN T hs 0 rfl rfl rfl rfl rfl rfl, rfl, trivial⟩ hs.dropAll ⟨_, rfl, vecNone h4⟩
  refine Zrun ?_
  (refine RW.call T hs rfl rfl rfl (vecKind_con _ v _ _ hv') ?_; intro v h5 w5 hle5 hp5 hs)
  subst hp5
  have hv' := hv'.mono hR hle5
  by_cases hk0 : v.kind = 0
  · have hsp : v.into k = (VecD.none, false) := by unfold VecD.into; rw [if_neg h1, if_pos (.inr hk0)]
    rw [hsp]
    refine Zrun ?_
    refine RW.val (Y.build T rfl rfl rfl rfl rfl rfl rfl) rfl ?_
    (refine RW.storeAll T hs 0 rfl rfl rfl rfl rfl rfl rfl rfl ?_; intro w6 hs)
    refine Zrun ?_
    exact retQ_ret [_, _] h5 ⟨resN T hs 0 rfl rfl rfl rfl rfl rfl, rfl, trivial⟩ hs.dropAll ⟨_, rfl, vecNone h5⟩
  have hc := Decidable.of_not_not hc
  have hsp0 : ∀ ok, 1 ≤ k ∧ k ≤ 4 → ok = decide (∀ x ∈ v.nums, rankF x ≤ k) → v.into k = (if ok = true then ⟨k, v.nums, [], []⟩ else VecD.none, ok) := by
    intro ok hkk hok
    unfold VecD.into
    rw [if_neg h1, if_neg (fun e => e.elim (fun e => e hc) hk0)]
    by_cases ha : ∀ x ∈ v.nums, rankF x ≤ k
    · rw [if_pos ⟨hkk.1, hkk.2, ha⟩, hok, decide_eq_true ha]; rfl
    · rw [if_neg (fun e => ha e.2.2), hok, decide_eq_false ha]; rfl
  by_cases k1 : k = 1
  · subst k1
    refine Zrun ?_
    (refine RW.call T hs rfl rfl rfl (sqIntoBits_con hR _ v _ _ hv' hc hm) ?_; intro v h6 w6 hle6 hp6 hs)
    obtain ⟨cs6, ok, rfl, hok, hv6⟩ := hp6
    rw [hsp0 ok (by omega) hok]
    have hv7 := hv6
    obtain ⟨wv', nv', sm', il', fl', ch', bx', ⟨rfl, hoc'⟩, _⟩ := hv6
    refine Zrun ?_
    (refine RW.storeAll T hs 0 rfl rfl rfl rfl rfl rfl hoc' rfl ?_; intro w7 hs)
    refine Zrun ?_
    exact retQ_ret [_, _] h6 ⟨resN T hs 0 rfl rfl rfl rfl rfl rfl, rfl, trivial⟩ hs.dropAll ⟨_, rfl, hv7⟩
  by_cases k2 : k = 2
  · subst k2
    refine Zrun ?_
    (refine RW.call T hs rfl rfl rfl (sqIntoSmalls_con hR _ v _ _ hv' hc hm) ?_; intro v h6 w6 hle6 hp6 hs)
    obtain ⟨cs6, ok, rfl, hok, hv6⟩ := hp6
    rw [hsp0 ok (by omega) hok]
    have hv7 := hv6
    obtain ⟨wv', nv', sm', il', fl', ch', bx', ⟨rfl, hoc'⟩, _⟩ := hv6
    refine Zrun ?_
    (refine RW.storeAll T hs 0 rfl rfl rfl rfl rfl rfl hoc' rfl ?_; intro w7 hs)
    refine Zrun ?_
    exact retQ_ret [_, _] h6 ⟨resN T hs 0 rfl rfl rfl rfl rfl rfl, rfl, trivial⟩ hs.dropAll ⟨_, rfl, hv7⟩
  by_cases k3 : k = 3
  · subst k3
    have hiff : (∀ x ∈ v.nums, rankF x ≤ 3) ↔ (∀ x ∈ v.nums, (wholeF x).2 = true) := ⟨fun e x hx => (rank_int x).1 (e x hx), fun e x hx => (rank_int x).2 (e x hx)⟩
    refine Zrun ?_
    (refine RW.call T hs rfl rfl rfl (sqWholes_con hR _ v _ _ hv' hc (by omega)) ?_; intro v h6 w6 hle6 hp6 hs)
    obtain ⟨s6, ok, rfl, hok, hs6⟩ := hp6
    rw [← decide_eq_decide.2 hiff] at hok
    rw [hsp0 ok (by omega) hok]
    cases ok with
    | false =>
      refine Zrun ?_
      refine RW.val (Y.build T rfl rfl rfl rfl rfl rfl rfl) rfl ?_
      (refine RW.storeAll T hs 0 rfl rfl rfl rfl rfl rfl rfl rfl ?_; intro w7 hs)
      refine Zrun ?_
      exact retQ_ret [_, _] h6 ⟨resN T hs 0 rfl rfl rfl rfl rfl rfl, rfl, trivial⟩ hs.dropAll ⟨_, rfl, vecNone h6⟩
    | true =>
      have hall := hiff.1 (of_decide_eq_true hok.symm)
      have hfw : (v.nums.map fun x => (wholeF x).1).map fwF = v.nums := by
        rw [List.map_map]
        conv => rhs; rw [← List.map_id v.nums]
        apply List.map_congr_left
        intro x hx
        exact (fw_whole x (wholeF x).1 (htd x hx) (by rw [← hall x hx])).symm
      have hrng : ∀ u ∈ v.nums.map fun x => (wholeF x).1, -9007199254740992 ≤ u ∧ u ≤ 9007199254740992 := by
        intro u hu
        rw [List.mem_map] at hu
        obtain ⟨x, hx, rfl⟩ := hu
        exact ((wholeF_iff x (wholeF x).1).1 (by rw [← hall x hx])).2
      have hn := hnl hc
      refine Zrun ?_
      (refine RW.call T hs rfl rfl rfl (vecInts_con (R := R) s6 _ _ _ (hs6 rfl) (by simp; omega)) ?_; intro v h7 w7 hle7 hp7 hs)
      obtain ⟨cs7, ok7, rfl, hok7, hv7⟩ := hp7
      obtain rfl : ok7 = true := by rw [hok7]; exact decide_eq_true hrng
      simp only [if_true] at hv7
      rw [hfw] at hv7
      have hv8 := hv7
      obtain ⟨wv', nv', sm', il', fl', ch', bx', ⟨rfl, hoc'⟩, _⟩ := hv7
      refine Zrun ?_
      (refine RW.storeAll T hs 0 rfl rfl rfl rfl rfl rfl hoc' rfl ?_; intro w8 hs)
      refine Zrun ?_
      exact retQ_ret [_, _] h7 ⟨resN T hs 0 rfl rfl rfl rfl rfl rfl, rfl, trivial⟩ hs.dropAll ⟨_, rfl, hv8⟩
  by_cases k4 : k = 4
  · subst k4
    have hok : true = decide (∀ x ∈ v.nums, rankF x ≤ 4) := (decide_eq_true (fun x _ => (rankF_bounds x).2)).symm
    rw [hsp0 true (by omega) hok]
    have h64 : ∀ x ∈ v.nums, x < 18446744073709551616 := fun x hx => (htd x hx).1
    have hfin : ∀ x ∈ v.nums, finF x := fun x hx => (htd x hx).2.1
    have hmt : v.nums.map tidyW = v.nums := by
      conv => rhs; rw [← List.map_id v.nums]
      apply List.map_congr_left
      intro x hx
      unfold tidyW
      rw [tidySpec_of x (htd x hx)]; rfl
    have hn := hnl hc
    refine Zrun ?_
    (refine RW.call T hs rfl rfl rfl (vecNums_con hR _ v _ _ hv' (by omega)) ?_; intro v h6 w6 hle6 hp6 hs)
    refine Zrun ?_
    (refine RW.call T hs rfl rfl rfl (vecFloats_con (R := R) _ _ _ _ hp6 h64 (by omega)) ?_; intro v h7 w7 hle7 hp7 hs)
    obtain ⟨cs7, ok7, rfl, hok7, hv7⟩ := hp7
    obtain rfl : ok7 = true := by rw [hok7]; exact decide_eq_true hfin
    simp only [if_true] at hv7
    rw [hmt] at hv7
    have hv8 := hv7
    obtain ⟨wv', nv', sm', il', fl', ch', bx', ⟨rfl, hoc'⟩, _⟩ := hv7
    refine Zrun ?_
    (refine RW.storeAll T hs 0 rfl rfl rfl rfl rfl rfl hoc' rfl ?_; intro w8 hs)
    refine Zrun ?_
    exact retQ_ret [_, _] h7 ⟨resN T hs 0 rfl rfl rfl rfl rfl rfl, rfl, trivial⟩ hs.dropAll ⟨_, rfl, hv8⟩
  have hsp : v.into k = (VecD.none, false) := by
    unfold VecD.into
    rw [if_neg h1, if_neg (fun e => e.elim (fun e => e hc) hk0), if_neg (fun e => by omega)]
  rw [hsp]
  refine Zrun ?_
  refine RW.val (Y.build T rfl rfl rfl rfl rfl rfl rfl) rfl ?_
  (refine RW.storeAll T hs 0 rfl rfl rfl rfl rfl rfl rfl rfl ?_; intro w6 hs)
  refine Zrun ?_
  exact retQ_ret [_, _] h5 ⟨resN T hs 0 rfl rfl rfl rfl rfl rfl, rfl, trivial⟩ hs.dropAll ⟨_, rfl, vecNone h5⟩
end
end Go.Proofs.YtmojpbfkpggjhaaGreat

/-
  Contracts of functions of package squeeze: whether elements are in the least store. No statement is proved here.
-/
namespace Go.Proofs.YtmojpbfkpggjhaaGreat
open Go Go.RowKit
set_option linter.unusedVariables false
set_option linter.unusedSimpArgs false
set_option maxHeartbeats 4000000
attribute [local irreducible] CW RW QW SW HW ConM retM heldQ calmQ elemP thenQ blockQ loopQ joinQ retQ Yields Con Sl zF magR unitF truncF fwF wholeF tidySpec
attribute [local irreducible] rankF leastN

section
variable {α : Type} {R : GHeap → List Value → α → Prop}
theorem sqTight_con (hR : Mono R) (cs : List Value) (v : VecD α) (w : World) (h : GHeap) (hv : VecAt R h cs v) (hm : v.len ≤ 1048576) : Con Tryz.prog 148 [.agg cs.toArray] w h (fun _ u => u = .bool (decide (v.kind = v.least))) := by
  have hv' := hv
  obtain ⟨wv, nv, sm, il, fl, ch, bx, ⟨rfl, hoc⟩, hk⟩ := hv
  refine Con.of_body Tryz.func148 rfl Tryz.ntmps148 rfl rfl ?_
  intro hs
  refine Zrun ?_
  (refine RW.boxN hs rfl rfl ?_; intro b1 w1 hs)
  refine Zrun ?_
  refine CW.regionQ T hs ?_ (by kernel_rfl)
  refine QW.val (fun _ hs => Y.loadRowN T hs 0 rfl rfl rfl rfl rfl rfl rfl) rfl ?_
  refine QW.call T hs rfl rfl rfl (fun w => vecKind_con _ v w _ hv') ?_
  refine QW.val (fun _ hs => Y.loadRowN T hs 0 rfl rfl rfl rfl rfl rfl rfl) rfl ?_
  refine QW.call T hs rfl rfl rfl (fun w => sqLeast_con hR _ v w _ hv' (by omega)) ?_
  first | with_reducible refine QW.nil ?_ | refine Qz ?_ rfl | refine QW.guardYes rfl rfl ?_ | refine QW.guardNo rfl rfl rfl rfl ?_ | refine QW.guardUndef rfl rfl rfl ?_ | (refine QW.gdY rfl rfl ?_ ?_; omega) | (refine QW.gdN rfl rfl ?_ ?_; omega)
  first | with_reducible refine QW.nil ?_ | refine Qz ?_ rfl | refine QW.guardYes rfl rfl ?_ | refine QW.guardNo rfl rfl rfl rfl ?_ | refine QW.guardUndef rfl rfl rfl ?_ | (refine QW.gdY rfl rfl ?_ ?_; omega) | (refine QW.gdN rfl rfl ?_ ?_; omega)
  first | with_reducible refine QW.nil ?_ | refine Qz ?_ rfl | refine QW.guardYes rfl rfl ?_ | refine QW.guardNo rfl rfl rfl rfl ?_ | refine QW.guardUndef rfl rfl rfl ?_ | (refine QW.gdY rfl rfl ?_ ?_; omega) | (refine QW.gdN rfl rfl ?_ ?_; omega)
  intro w2 hs
  refine Zrun ?_
  exact retQ_ret [_] h ⟨rfl, trivial⟩ hs.dropAll rfl
end
end Go.Proofs.YtmojpbfkpggjhaaGreat

/-
  Contracts of functions of package squeeze: elements brought into the least store. No statement is proved here.
-/
namespace Go.Proofs.YtmojpbfkpggjhaaGreat
open Go Go.RowKit
set_option linter.unusedVariables false
set_option linter.unusedSimpArgs false
set_option maxHeartbeats 4000000
attribute [local irreducible] CW RW QW SW HW ConM retM heldQ calmQ elemP thenQ blockQ loopQ joinQ retQ Yields Con Sl zF magR unitF truncF fwF wholeF tidySpec
attribute [local irreducible] rankF leastN

section
variable {α : Type} {R : GHeap → List Value → α → Prop}
/-- elements in the least store -/
def VecD.sq (v : VecD α) : VecD α := if v.cls = 0 ∧ v.kind ≠ 0 then ⟨leastN v.nums, v.nums, [], []⟩ else v
theorem into_least (v : VecD α) (hn : v.cls = 0 → v.kind ≠ 0 → v = ⟨v.kind, v.nums, [], []⟩) : v.into v.least = (v.sq, true) := by
  unfold VecD.into VecD.least VecD.sq
  by_cases h : v.cls = 0 ∧ v.kind ≠ 0
  · rw [if_pos h, if_pos h]
    by_cases hk : v.kind = leastN v.nums
    · rw [if_pos hk, ← hk, ← hn h.1 h.2]
    · have hb := leastN_bounds v.nums
      rw [if_neg hk, if_neg (fun e => e.elim (fun e => e h.1) h.2), if_pos ⟨hb.1, hb.2, leastN_le v.nums⟩]
  · rw [if_neg h, if_neg h, if_pos rfl]
theorem VecAt.numeric {h : GHeap} {cs : List Value} {v : VecD α} (hv : VecAt R h cs v) (hc : v.cls = 0) (hk0 : v.kind ≠ 0) : v = ⟨v.kind, v.nums, [], []⟩ := by
  obtain ⟨wv, nv, sm, il, fl, ch, bx, _, hk⟩ := hv
  rcases hk with ⟨_, rfl⟩ | ⟨_, bs, _, rfl, rfl⟩ | ⟨_, l, _, _, rfl⟩ | ⟨_, l, _, _, rfl⟩ | ⟨_, l, _, _, rfl⟩ | ⟨_, l, _, rfl⟩ | ⟨_, l, _, rfl⟩
  all_goals first | rfl | (simp [VecD.cls] at hc) | (exact absurd rfl hk0)
theorem sqSqueeze_con (hR : Mono R) (cs : List Value) (v : VecD α) (w : World) (h : GHeap) (hv : VecAt R h cs v) (hm : v.len ≤ 1048576) : Con Tryz.prog 102 [.agg cs.toArray] w h (fun h' u => ∃ cs', u = .agg cs'.toArray ∧ VecAt R h' cs' v.sq) := by
  have hv' := hv
  have hil := into_least v hv.numeric
  obtain ⟨wv, nv, sm, il, fl, ch, bx, ⟨rfl, hoc⟩, hk⟩ := hv
  refine Con.of_body Tryz.func102 rfl Tryz.ntmps102 rfl rfl ?_
  intro hs
  refine Zrun ?_
  (refine RW.boxN hs rfl rfl ?_; intro b1 w1 hs)
  (refine RW.allocN T hs rfl rfl rfl rfl ?_; intro b2 w2 hs)
  refine Zrun ?_
  refine CW.meet (fun p : Nat × List Value × GHeap => [(1, .pointer (some ⟨b1, 0, none⟩)), (2, .pointer (some ⟨b2, 0, none⟩)), (3, .pointer (some ⟨p.1, 0, none⟩)), (4, .bool true)]) (fun p w' => VecAt R p.2.2 p.2.1 v.sq ∧ Sees w h p.2.2 [⟨some ⟨p.1, 0, none⟩, 1, 1, 37, 8, p.2.1⟩, ⟨some ⟨b2, 0, none⟩, 1, 1, 37, 8, vecCells 0 (.slice none 0 0) 0 (.slice none 0 0) (.slice none 0 0) (.slice none 0 0) (.slice none 0 0) (.slice none 0 0)⟩, ⟨some ⟨b1, 0, none⟩, 1, 1, 37, 8, vecCells v.kind wv nv sm il fl ch bx⟩] w') ?_ ?_
  · refine CW.regionH T (fun w' : World => ∃ (h' : GHeap) (O : List Row) (k : Nat), Sees w h h' O w' ∧ O[k]? = some (Row.mk (some ⟨b1, 0, none⟩) 1 1 37 8 (vecCells v.kind wv nv sm il fl ch bx))) ?_
    rintro w4 rfl
    have hs := hs.drew
    refine HW.take (fuel := 9) 0 rfl (v := .agg (vecCells v.kind wv nv sm il fl ch bx).toArray) ?_ ?_ rfl (by kernel_rfl) (by kernel_rfl) (by kernel_rfl) ?_
    · rintro w' ⟨h', O, k, hs', hO⟩
      exact Y.loadRowN T hs' k hO rfl rfl rfl rfl rfl rfl
    · exact ⟨_, _, 1, hs, rfl⟩
    refine HW.take (fuel := 8) 1 rfl (v := .agg (vecCells v.kind wv nv sm il fl ch bx).toArray) ?_ ?_ rfl (by kernel_rfl) (by kernel_rfl) (by kernel_rfl) ?_
    · rintro w' ⟨h', O, k, hs', hO⟩
      exact Y.loadRowN T hs' k hO rfl rfl rfl rfl rfl rfl
    · exact ⟨_, _, 1, hs, rfl⟩
    refine HW.two 2 7 rfl rfl (by kernel_rfl) ?_ ?_
    · (refine RW.call T hs rfl rfl rfl (sqLeast_con hR _ v _ _ hv' (by omega)) ?_; intro v h5 w5 hle5 hp5 hs)
      subst hp5
      have hv' := hv'.mono hR hle5
      (refine RW.nil ?_; refine heldQ_normal ⟨_, _, 1, hs, rfl⟩ ?_)
      refine HW.two (fuel := 6) 3 7 rfl rfl (by kernel_rfl) ?_ ?_
      · (refine RW.call T hs rfl rfl rfl (sqInto_con hR _ v _ _ _ hv' hm) ?_; intro v h6 w6 hle6 hp6 hs)
        obtain ⟨cs6, rfl, hv6⟩ := hp6
        rw [hil] at hv6 ⊢
        (refine RW.nil ?_; refine heldQ_normal ⟨_, _, 1, hs, rfl⟩ ?_)
        refine HW.take (fuel := 5) 4 rfl (v := .tuple #[.agg cs6.toArray, .bool true]) ?_ ?_ rfl (by kernel_rfl) (by kernel_rfl) (by kernel_rfl) ?_
        · intro _ _; first | exact Y.move rfl | exact Y.extract rfl rfl | exact Y.assign rfl
        · exact ⟨_, _, 1, hs, rfl⟩
        refine HW.take (fuel := 4) 5 rfl (v := .agg cs6.toArray) ?_ ?_ rfl (by kernel_rfl) (by kernel_rfl) (by kernel_rfl) ?_
        · intro _ _; first | exact Y.move rfl | exact Y.extract rfl rfl | exact Y.assign rfl
        · exact ⟨_, _, 1, hs, rfl⟩
        refine HW.take (fuel := 3) 6 rfl (v := .bool true) ?_ ?_ rfl (by kernel_rfl) (by kernel_rfl) (by kernel_rfl) ?_
        · intro _ _; first | exact Y.move rfl | exact Y.extract rfl rfl | exact Y.assign rfl
        · exact ⟨_, _, 1, hs, rfl⟩
        refine HW.one (fuel := 2) 7 rfl (by kernel_rfl) ?_
        (refine RW.allocN T hs rfl rfl rfl rfl ?_; intro b7 w7 hs)
        (refine RW.nil ?_; refine heldQ_normal ⟨_, _, 2, hs, rfl⟩ ?_)
        refine HW.one (fuel := 1) 8 rfl (by kernel_rfl) ?_
        have hv7 := hv6
        obtain ⟨wv', nv', sm', il', fl', ch', bx', ⟨rfl, hoc'⟩, _⟩ := hv6
        (refine RW.storeAll T hs 0 rfl rfl rfl rfl rfl rfl hoc' rfl ?_; intro w8 hs)
        (refine RW.nil ?_; refine heldQ_normal ⟨_, _, 2, hs, rfl⟩ ?_)
        refine HW.one (fuel := 0) 9 rfl (by kernel_rfl) ?_
        refine RW.val (Y.assign rfl) rfl ?_
        (refine RW.nil ?_; refine heldQ_normal ⟨_, _, 2, hs, rfl⟩ ?_)
        refine HW.done (by kernel_rfl) ?_
        refine calmQ_normal ?_
        exact joinQ_meet (b7, _, h6) ⟨rfl, rfl, rfl, rfl, trivial⟩ ⟨hv7, hs⟩
      · (refine RW.allocN T hs rfl rfl rfl rfl ?_; intro b7 w7 hs)
        (refine RW.nil ?_; refine heldQ_normal ⟨_, _, 2, hs, rfl⟩ ?_)
        refine HW.one (fuel := 5) 3 rfl (by kernel_rfl) ?_
        (refine RW.call T hs rfl rfl rfl (sqInto_con hR _ v _ _ _ hv' hm) ?_; intro v h6 w6 hle6 hp6 hs)
        obtain ⟨cs6, rfl, hv6⟩ := hp6
        rw [hil] at hv6 ⊢
        (refine RW.nil ?_; refine heldQ_normal ⟨_, _, 2, hs, rfl⟩ ?_)
        refine HW.take (fuel := 4) 4 rfl (v := .tuple #[.agg cs6.toArray, .bool true]) ?_ ?_ rfl (by kernel_rfl) (by kernel_rfl) (by kernel_rfl) ?_
        · intro _ _; first | exact Y.move rfl | exact Y.extract rfl rfl | exact Y.assign rfl
        · exact ⟨_, _, 2, hs, rfl⟩
        refine HW.take (fuel := 3) 5 rfl (v := .agg cs6.toArray) ?_ ?_ rfl (by kernel_rfl) (by kernel_rfl) (by kernel_rfl) ?_
        · intro _ _; first | exact Y.move rfl | exact Y.extract rfl rfl | exact Y.assign rfl
        · exact ⟨_, _, 2, hs, rfl⟩
        refine HW.take (fuel := 2) 6 rfl (v := .bool true) ?_ ?_ rfl (by kernel_rfl) (by kernel_rfl) (by kernel_rfl) ?_
        · intro _ _; first | exact Y.move rfl | exact Y.extract rfl rfl | exact Y.assign rfl
        · exact ⟨_, _, 2, hs, rfl⟩
        refine HW.one (fuel := 1) 8 rfl (by kernel_rfl) ?_
        have hv7 := hv6
        obtain ⟨wv', nv', sm', il', fl', ch', bx', ⟨rfl, hoc'⟩, _⟩ := hv6
        (refine RW.storeAll T hs 0 rfl rfl rfl rfl rfl rfl hoc' rfl ?_; intro w8 hs)
        (refine RW.nil ?_; refine heldQ_normal ⟨_, _, 2, hs, rfl⟩ ?_)
        refine HW.one (fuel := 0) 9 rfl (by kernel_rfl) ?_
        refine RW.val (Y.assign rfl) rfl ?_
        (refine RW.nil ?_; refine heldQ_normal ⟨_, _, 2, hs, rfl⟩ ?_)
        refine HW.done (by kernel_rfl) ?_
        refine calmQ_normal ?_
        exact joinQ_meet (b7, _, h6) ⟨rfl, rfl, rfl, rfl, trivial⟩ ⟨hv7, hs⟩
    · (refine RW.allocN T hs rfl rfl rfl rfl ?_; intro b7 w7 hs)
      (refine RW.nil ?_; refine heldQ_normal ⟨_, _, 2, hs, rfl⟩ ?_)
      refine HW.one (fuel := 6) 2 rfl (by kernel_rfl) ?_
      (refine RW.call T hs rfl rfl rfl (sqLeast_con hR _ v _ _ hv' (by omega)) ?_; intro v h5 w5 hle5 hp5 hs)
      subst hp5
      have hv' := hv'.mono hR hle5
      (refine RW.nil ?_; refine heldQ_normal ⟨_, _, 2, hs, rfl⟩ ?_)
      refine HW.one (fuel := 5) 3 rfl (by kernel_rfl) ?_
      (refine RW.call T hs rfl rfl rfl (sqInto_con hR _ v _ _ _ hv' hm) ?_; intro v h6 w6 hle6 hp6 hs)
      obtain ⟨cs6, rfl, hv6⟩ := hp6
      rw [hil] at hv6 ⊢
      (refine RW.nil ?_; refine heldQ_normal ⟨_, _, 2, hs, rfl⟩ ?_)
      refine HW.take (fuel := 4) 4 rfl (v := .tuple #[.agg cs6.toArray, .bool true]) ?_ ?_ rfl (by kernel_rfl) (by kernel_rfl) (by kernel_rfl) ?_
      · intro _ _; first | exact Y.move rfl | exact Y.extract rfl rfl | exact Y.assign rfl
      · exact ⟨_, _, 2, hs, rfl⟩
      refine HW.take (fuel := 3) 5 rfl (v := .agg cs6.toArray) ?_ ?_ rfl (by kernel_rfl) (by kernel_rfl) (by kernel_rfl) ?_
      · intro _ _; first | exact Y.move rfl | exact Y.extract rfl rfl | exact Y.assign rfl
      · exact ⟨_, _, 2, hs, rfl⟩
      refine HW.take (fuel := 2) 6 rfl (v := .bool true) ?_ ?_ rfl (by kernel_rfl) (by kernel_rfl) (by kernel_rfl) ?_
      · intro _ _; first | exact Y.move rfl | exact Y.extract rfl rfl | exact Y.assign rfl
      · exact ⟨_, _, 2, hs, rfl⟩
      refine HW.one (fuel := 1) 8 rfl (by kernel_rfl) ?_
      have hv7 := hv6
      obtain ⟨wv', nv', sm', il', fl', ch', bx', ⟨rfl, hoc'⟩, _⟩ := hv6
      (refine RW.storeAll T hs 0 rfl rfl rfl rfl rfl rfl hoc' rfl ?_; intro w8 hs)
      (refine RW.nil ?_; refine heldQ_normal ⟨_, _, 2, hs, rfl⟩ ?_)
      refine HW.one (fuel := 0) 9 rfl (by kernel_rfl) ?_
      refine RW.val (Y.assign rfl) rfl ?_
      (refine RW.nil ?_; refine heldQ_normal ⟨_, _, 2, hs, rfl⟩ ?_)
      refine HW.done (by kernel_rfl) ?_
      refine calmQ_normal ?_
      exact joinQ_meet (b7, _, h6) ⟨rfl, rfl, rfl, rfl, trivial⟩ ⟨hv7, hs⟩
  · rintro ⟨b3, cs3, h3⟩ w3 ⟨hv3, hs⟩
    dsimp only at hv3 hs ⊢
    have hv4 := hv3
    obtain ⟨wv', nv', sm', il', fl', ch', bx', ⟨rfl, hoc'⟩, _⟩ := hv3
    refine Zrun ?_
    (refine RW.storeAll T hs 1 rfl rfl rfl rfl rfl rfl hoc' rfl ?_; intro w4 hs)
    refine Zrun ?_
    exact retQ_ret [_] h3 ⟨resN T hs 1 rfl rfl rfl rfl rfl rfl, trivial⟩ hs.dropAll ⟨_, rfl, hv4⟩
end
end Go.Proofs.YtmojpbfkpggjhaaGreat

/-
  Contracts of functions of package squeeze: numbers kept in the least store. No statement is proved here.
-/
namespace Go.Proofs.YtmojpbfkpggjhaaGreat
open Go Go.RowKit
set_option linter.unusedVariables false
set_option linter.unusedSimpArgs false
set_option maxHeartbeats 4000000
attribute [local irreducible] CW RW QW SW HW ConM retM heldQ calmQ elemP thenQ blockQ loopQ joinQ retQ Yields Con Sl zF magR unitF truncF fwF wholeF tidySpec
attribute [local irreducible] rankF leastN

section
variable {α : Type} {R : GHeap → List Value → α → Prop}
theorem sqNumbers_con (hR : Mono R) (s : Value) (l : List Nat) (w : World) (h : GHeap) (hl : FAt h s l) (hx : ∀ u ∈ l, u < 18446744073709551616) (hm : l.length ≤ 1048576) : Con Tryz.prog 114 [s] w h
    (fun h' u => ∃ cs ok, u = .tuple #[.agg cs.toArray, .bool ok] ∧ ok = decide (∀ u ∈ l, finF u) ∧ VecAt R h' cs (if ok = true then ⟨leastN (l.map tidyW), l.map tidyW, [], []⟩ else VecD.none)) := by
  refine Con.of_body Tryz.func114 rfl Tryz.ntmps114 rfl rfl ?_
  intro hs
  refine Zrun ?_
  (refine RW.allocN T hs rfl rfl rfl rfl ?_; intro b1 w1 hs)
  refine Zrun ?_
  (refine RW.call T hs rfl rfl rfl (vecFloats_con (R := R) s l _ _ hl hx (by omega)) ?_; intro v h2 w2 hle2 hp2 hs)
  obtain ⟨cs2, ok, rfl, hok, hv2⟩ := hp2
  have hv3 := hv2
  obtain ⟨wv', nv', sm', il', fl', ch', bx', ⟨rfl, hoc'⟩, _⟩ := hv2
  refine Zrun ?_
  (refine RW.allocN T hs rfl rfl rfl rfl ?_; intro b3 w3 hs)
  (refine RW.storeAll T hs 0 rfl rfl rfl rfl rfl rfl hoc' rfl ?_; intro w4 hs)
  refine Zrun ?_
  cases ok with
  | false =>
    refine Zrun ?_
    refine RW.val (Y.build T rfl rfl rfl rfl rfl rfl rfl) rfl ?_
    (refine RW.storeAll T hs 1 rfl rfl rfl rfl rfl rfl rfl rfl ?_; intro w5 hs)
    refine Zrun ?_
    exact retQ_ret [_, _] h2 ⟨resN T hs 1 rfl rfl rfl rfl rfl rfl, rfl, trivial⟩ hs.dropAll ⟨_, false, rfl, hok, vecNone h2⟩
  | true =>
    have hsq : VecD.sq (⟨4, l.map tidyW, [], []⟩ : VecD α) = ⟨leastN (l.map tidyW), l.map tidyW, [], []⟩ := by
      unfold VecD.sq VecD.cls
      simp
    simp only [if_true] at hv3
    refine Zrun ?_
    (refine RW.call T hs rfl rfl rfl (sqSqueeze_con hR _ _ _ _ hv3 (by simp [VecD.len]; omega)) ?_; intro v h5 w5 hle5 hp5 hs)
    obtain ⟨cs5, rfl, hv5⟩ := hp5
    rw [hsq] at hv5
    have hv6 := hv5
    obtain ⟨wv5, nv5, sm5, il5, fl5, ch5, bx5, ⟨rfl, hoc5⟩, _⟩ := hv5
    refine Zrun ?_
    (refine RW.storeAll T hs 1 rfl rfl rfl rfl rfl rfl hoc5 rfl ?_; intro w6 hs)
    refine Zrun ?_
    exact retQ_ret [_, _] h5 ⟨resN T hs 1 rfl rfl rfl rfl rfl rfl, rfl, trivial⟩ hs.dropAll ⟨_, true, rfl, hok, hv6⟩
end
end Go.Proofs.YtmojpbfkpggjhaaGreat

/-
  Contracts of functions of package vec: all whole numbers, boxes, none. No statement is proved here.
-/
namespace Go.Proofs.YtmojpbfkpggjhaaGreat
open Go Go.RowKit
set_option linter.unusedVariables false
set_option linter.unusedSimpArgs false
set_option maxHeartbeats 4000000
attribute [local irreducible] CW RW QW SW HW ConM retM heldQ calmQ elemP thenQ blockQ loopQ joinQ retQ Yields Con Sl zF magR unitF truncF fwF wholeF tidySpec
attribute [local irreducible] rankF leastN

section
variable {α : Type} {R : GHeap → List Value → α → Prop}
theorem vecWholes_con (hR : Mono R) (cs : List Value) (v : VecD α) (w : World) (h : GHeap) (hv : VecAt R h cs v) (hm : v.len ≤ 1099511627776) : Con Tryz.prog 117 [.agg cs.toArray] w h
    (fun h' u => ∃ s, u = .tuple #[s, .bool (decide (v.kind = 1 ∨ v.kind = 2 ∨ v.kind = 3))] ∧ KAt .i64 h' s (if v.kind = 1 ∨ v.kind = 2 ∨ v.kind = 3 then v.nums.map (fun x => (wholeF x).1) else [])) := by
  have hv' := hv
  have hnl := hv.nums_len
  obtain ⟨wv, nv, sm, il, fl, ch, bx, ⟨rfl, hoc⟩, hk⟩ := hv
  refine Con.of_body Tryz.func117 rfl Tryz.ntmps117 rfl rfl ?_
  intro hs
  refine Zrun ?_
  (refine RW.boxN hs rfl rfl ?_; intro b1 w1 hs)
  by_cases h3 : v.kind = 3
  · obtain ⟨l, hl, hr, rfl⟩ : ∃ l, KAt .i64 h il l ∧ (∀ u ∈ l, -9007199254740992 ≤ u ∧ u ≤ 9007199254740992) ∧ v = ⟨3, l.map fwF, [], []⟩ := by
      rcases hk with ⟨e, _⟩ | ⟨e, _⟩ | ⟨e, _⟩ | ⟨e, hh⟩ | ⟨e, _⟩ | ⟨e, _⟩ | ⟨e, _⟩
      all_goals first | exact hh | omega
    have hwl : (l.map fwF).map (fun x => (wholeF x).1) = l := by
      rw [List.map_map]
      conv => rhs; rw [← List.map_id l]
      apply List.map_congr_left
      intro x hx
      simp only [Function.comp, wholeF_fw x (hr x hx), id]
    simp [VecD.len] at hm
    refine Zrun ?_
    (refine RW.call T hs rfl rfl rfl (cloneI64_con il l _ _ hl hm) ?_; intro v h2 w2 hle2 hp2 hs)
    refine Zrun ?_
    exact retQ_ret [_, _] h2 ⟨rfl, rfl, trivial⟩ hs.dropAll ⟨_, rfl, by rw [if_pos (.inr (.inr rfl)), hwl]; exact hp2⟩
  · by_cases h12 : v.kind = 1 ∨ v.kind = 2
    · have hc : v.cls = 0 := by unfold VecD.cls; rw [if_neg (by omega), if_neg (by omega)]
      have hn := hnl hc
      have e3 : v.kind = 1 ∨ v.kind = 2 ∨ v.kind = 3 := by omega
      have hwhole : ∀ k : Nat, k < v.nums.length → v.whole (k : Int) = ((wholeF (v.nums.getD k 0)).1, true) := by
        intro k hk
        unfold VecD.whole
        rw [if_pos ⟨e3, by omega, by omega⟩, Int.toNat_natCast]
      rcases h12 with hk1 | hk1
      all_goals
        refine Zrun ?_
        (refine RW.call T hs rfl rfl rfl (vecLen_con _ v _ _ hv') ?_; intro v h2 w2 hle2 hp2 hs)
        subst hp2
        have hv' := hv'.mono hR hle2
        rw [← hn] at hm ⊢
        (refine RW.make1 T hs rfl rfl rfl rfl rfl rfl rfl (by dsimp only; omega) (by omega) ?_; intro b3 w3 hs)
        refine Zrun ?_
        refine CW.loop (fun p : Nat × GHeap => [(1, .pointer (some ⟨b1, 0, none⟩)), (4, .slice (some ⟨b3, 0, none⟩) v.nums.length v.nums.length), (20, .int .i64 v.nums.length), (21, .int .i64 p.1)]) (fun p w' => p.1 ≤ v.nums.length ∧ GLe h2 p.2 ∧ Sees w h p.2 [⟨some ⟨b3, 0, none⟩, v.nums.length, v.nums.length, 2, 1, ((v.nums.take p.1).map fun x => (wholeF x).1).map (Value.int .i64) ++ List.replicate (v.nums.length - p.1) (.int .i64 0)⟩, ⟨some ⟨b1, 0, none⟩, 1, 1, 37, 8, vecCells v.kind wv nv sm il fl ch bx⟩] w') (fun p => v.nums.length - p.1) (0, h2) ⟨rfl, rfl, rfl, rfl, trivial⟩ ⟨by omega, GLe.refl _, by simp only [List.take_zero, List.map_nil, List.nil_append, Nat.sub_zero]; exact hs⟩ ?_
        rintro ⟨k, hh⟩ w5 ⟨hk5, hgl, hs⟩
        dsimp only at hk5 hgl hs ⊢
        have hv' := hv'.mono hR hgl
        by_cases hlt : k < v.nums.length
        · refine Zrun ?_
          (refine RW.call T hs rfl rfl rfl (vecWhole_con _ v k _ _ hv') ?_; intro v h6 w6 hle6 hp6 hs)
          subst hp6
          rw [hwhole k hlt]
          refine Zrun ?_
          refine RW.val (Y.idxRN T hs 0 rfl rfl rfl rfl rfl rfl ?_) rfl ?_
          · omega
          refine RW.st1 T hs 0 rfl rfl rfl rfl rfl rfl rfl (by omega) ?_
          intro w7 hs
          refine Zrun ?_
          refine loopQ_round (k + 1, h6) ⟨rfl, rfl, rfl, rfl, trivial⟩ ⟨by dsimp only; omega, hgl.trans hle6, ?_⟩ (by dsimp only; omega)
          dsimp only
          have e := set_snoc (((v.nums.take k).map fun x => (wholeF x).1).map (Value.int .i64)) (v.nums.length - k) (Value.int .i64 0) (Value.int .i64 (wholeF (v.nums.getD k 0)).1) (by omega)
          simp only [List.length_map, List.length_take, Nat.min_eq_left hk5] at e
          rw [take_snoc v.nums k 0 hlt, List.map_append, List.map_append, show v.nums.length - (k + 1) = v.nums.length - k - 1 by omega]
          exact hs.re e
        · obtain rfl : k = v.nums.length := by omega
          refine Zrun ?_
          obtain ⟨h8, hle8, hs8, hS8⟩ := hs.freeze
          refine retQ_ret [_, _] h8 ⟨rfl, rfl, trivial⟩ hs8.dropAll ⟨_, by rw [decide_eq_true e3]; rfl, by rw [if_pos e3]; exact RowAt.of_sl (n := v.nums.length) (by dsimp only at hS8; simpa using hS8)⟩
    · have e3 : ¬ (v.kind = 1 ∨ v.kind = 2 ∨ v.kind = 3) := by omega
      refine Zrun ?_
      exact retQ_ret [_, _] h ⟨rfl, rfl, trivial⟩ hs.dropAll ⟨_, by rw [decide_eq_false e3]; rfl, by rw [if_neg e3]; exact RowAt.nil _⟩
end
end Go.Proofs.YtmojpbfkpggjhaaGreat

/-
  Contracts of functions of package vec: all boxes' arrays, one of them. No statement is proved here.
-/
namespace Go.Proofs.YtmojpbfkpggjhaaGreat
open Go Go.RowKit
set_option linter.unusedVariables false
set_option linter.unusedSimpArgs false
set_option maxHeartbeats 4000000
attribute [local irreducible] CW RW QW SW HW ConM retM heldQ calmQ elemP thenQ blockQ loopQ joinQ retQ Yields Con Sl zF magR unitF truncF fwF wholeF tidySpec
attribute [local irreducible] rankF leastN

/-- every cell of such a row is one cell -/
def One {α : Type} (R : GHeap → List Value → α → Prop) : Prop := ∀ h cs a, R h cs a → ∀ u ∈ cs, u.oneCell' = true
theorem IntsAt.one' {h : GHeap} {u : Value} {x : List Int} (hi : IntsAt h u x) : u.oneCell' = true := by
  obtain ⟨ad, cp, rfl, _⟩ := hi; rfl
theorem VecAt.one {α : Type} {R : GHeap → List Value → α → Prop} {h : GHeap} {cs : List Value} {v : VecD α} (hv : VecAt R h cs v) : ∀ u ∈ cs, u.oneCell' = true := by
  obtain ⟨wv, nv, sm, il, fl, ch, bx, ⟨rfl, hoc⟩, hk⟩ := hv
  exact fun u hu => List.all_eq_true.1 hoc u hu
theorem VecAt.size {α : Type} {R : GHeap → List Value → α → Prop} {h : GHeap} {cs : List Value} {v : VecD α} (hv : VecAt R h cs v) : cs.length = 8 := by
  obtain ⟨wv, nv, sm, il, fl, ch, bx, ⟨rfl, hoc⟩, hk⟩ := hv
  rfl
theorem ArrAt.one : (k : Nat) → One (ArrAt k)
  | 0 => fun _ _ _ h => h.elim
  | k + 1 => fun h cs a ⟨s, vc, e, hs, hv⟩ u hu => by
    subst e
    rcases List.mem_cons.1 hu with rfl | hu
    · exact hs.one'
    · exact hv.one u hu

section
variable {α : Type} {R : GHeap → List Value → α → Prop}
theorem vecArrays_con (hR : Mono R) (hc : One R) (cs : List Value) (v : VecD α) (w : World) (h : GHeap) (hv : VecAt R h cs v) (hm : v.len ≤ 1073741824) : Con Tryz.prog 63 [.agg cs.toArray] w h (fun h' u => RowsAt 9 (R h') h' u v.boxes) := by
  obtain ⟨wv, nv, sm, il, fl, ch, bx, ⟨rfl, hoc⟩, hk⟩ := hv
  refine Con.of_body Tryz.func63 rfl Tryz.ntmps63 rfl rfl ?_
  intro hs
  refine Zrun ?_
  (refine RW.boxN hs rfl rfl ?_; intro b1 w1 hs)
  by_cases h6 : v.kind = 6
  · obtain ⟨l, hl, rfl⟩ : ∃ l, RowsAt 9 (R h) h bx l ∧ v = ⟨6, [], [], l⟩ := by
      rcases hk with ⟨e, _⟩ | ⟨e, _⟩ | ⟨e, _⟩ | ⟨e, _⟩ | ⟨e, _⟩ | ⟨e, _⟩ | ⟨e, hh⟩
      all_goals first | exact hh | omega
    simp [VecD.len] at hm
    refine Zrun ?_
    (refine RW.call T hs rfl rfl rfl (cloneArr_con hR bx l _ _ hl hc hm) ?_; intro v h2 w2 hle2 hp2 hs)
    refine Zrun ?_
    exact retQ_ret [_] h2 ⟨rfl, trivial⟩ hs.dropAll hp2
  · have hn : v.boxes = [] := by
      rcases hk with ⟨e, rfl⟩ | ⟨e, _, _, _, rfl⟩ | ⟨e, _, _, _, rfl⟩ | ⟨e, _, _, _, rfl⟩ | ⟨e, _, _, _, rfl⟩ | ⟨e, _, _, rfl⟩ | ⟨e, _, _, rfl⟩
      all_goals first | rfl | exact absurd rfl h6
    refine Zrun ?_
    exact retQ_ret [_] h ⟨rfl, trivial⟩ hs.dropAll (by rw [hn]; exact RowsAt.nil _)

theorem vecBox_con (hR : Mono R) (hc : One R) (cs : List Value) (v : VecD α) (i : Nat) (d : α) (w : World) (h : GHeap) (hv : VecAt R h cs v) (hi : i < v.boxes.length) : Con Tryz.prog 87 [.agg cs.toArray, .int .i64 i] w h (fun h' u => ∃ cs', u = .agg cs'.toArray ∧ cs'.length = 9 ∧ R h' cs' (v.boxes.getD i d)) := by
  have hv' := hv
  obtain ⟨wv, nv, sm, il, fl, ch, bx, ⟨rfl, hoc⟩, hk⟩ := hv
  have h6 : v.kind = 6 := by
    rcases hk with ⟨e, rfl⟩ | ⟨e, _, _, _, rfl⟩ | ⟨e, _, _, _, rfl⟩ | ⟨e, _, _, _, rfl⟩ | ⟨e, _, _, _, rfl⟩ | ⟨e, _, _, rfl⟩ | ⟨e, _, _, rfl⟩
    all_goals first | exact e | simp at hi
  obtain ⟨l, ⟨ad, cp, xs, rfl, hS, hA⟩, rfl⟩ : ∃ l, RowsAt 9 (R h) h bx l ∧ v = ⟨6, [], [], l⟩ := by
    rcases hk with ⟨e, _⟩ | ⟨e, _⟩ | ⟨e, _⟩ | ⟨e, _⟩ | ⟨e, _⟩ | ⟨e, _⟩ | ⟨e, hh⟩
    all_goals first | exact hh | omega
  have hlen : VecD.len (⟨6, [], [], l⟩ : VecD α) = l.length := by simp [VecD.len]
  dsimp only at hi
  refine Con.of_body Tryz.func87 rfl Tryz.ntmps87 rfl rfl ?_
  intro hs
  refine Zrun ?_
  (refine RW.boxN hs rfl rfl ?_; intro b1 w1 hs)
  (refine RW.allocN T hs rfl rfl rfl rfl ?_; intro b2 w2 hs)
  refine Zrun ?_
  (refine RW.call T hs rfl rfl rfl (vecIn_con _ _ i _ _ hv') ?_; intro v h3 w3 hle3 hp3 hs)
  subst hp3
  rw [hlen, decide_eq_true (show (0 : Int) ≤ i ∧ (i : Int) < l.length from ⟨by omega, by omega⟩)]
  have hS := hS.mono hle3
  obtain ⟨hRa, hLa⟩ := hA.get d i hi
  have hoa := hc _ _ _ hRa
  have hRa := hR _ _ _ _ hle3 hRa
  refine Zrun ?_
  refine RW.val (Y.ldSN T hs rfl hS rfl rfl rfl rfl hi rfl hLa) rfl ?_
  refine RW.storeAll T hs 0 rfl rfl rfl rfl rfl hLa (List.all_eq_true.2 hoa) hLa ?_
  intro w4 hs
  refine Zrun ?_
  exact retQ_ret [_] h3 ⟨resN T hs 0 rfl rfl rfl rfl rfl hLa, trivial⟩ hs.dropAll ⟨_, rfl, hLa, hRa⟩
end
end Go.Proofs.YtmojpbfkpggjhaaGreat

/-
  The program logic, fifteenth part: plain arrays in memory. No statement is proved here.
-/
namespace Go.Proofs.YtmojpbfkpggjhaaGreat
open Go Go.RowKit
set_option linter.unusedVariables false
set_option linter.unusedSimpArgs false
set_option linter.unusedVariables false
structure ItemD (α : Type) where
  kind : Int
  num : Nat
  char : Int
  box : List α
structure PlainD (α : Type) where
  shape : List Int
  items : List (ItemD α)
  fill : Int
/-- plain arrays whose boxes lie less than so deep -/
def PD : Nat → Type
  | 0 => Unit
  | k + 1 => PlainD (PD k)
section
variable {α : Type} (R : GHeap → List Value → α → Prop)
def ItemAt (h : GHeap) (cs : List Value) (x : ItemD α) : Prop := ∃ bx, cs = [.int .i64 x.kind, .float .f64 x.num, .int .i32 x.char, bx] ∧ RowsAt 3 (R h) h bx x.box ∧ x.num < 18446744073709551616
def PlainR (h : GHeap) (cs : List Value) (p : PlainD α) : Prop := ∃ s it, cs = [s, it, .int .i64 p.fill] ∧ IntsAt h s p.shape ∧ RowsAt 4 (ItemAt R h) h it p.items
end
def PlainAt : (k : Nat) → GHeap → List Value → PD k → Prop
  | 0 => fun _ _ _ => False
  | k + 1 => PlainR (α := PD k) (PlainAt k)
theorem RowsAt.one {α : Type} {sz : Nat} {R : List Value → α → Prop} {h : GHeap} {v : Value} {l : List α} (hi : RowsAt sz R h v l) : v.oneCell' = true := by
  obtain ⟨ad, cp, xs, rfl, _⟩ := hi; rfl
section
variable {α : Type} {R : GHeap → List Value → α → Prop}
theorem ItemAt.mono (hR : Mono R) : Mono (ItemAt R) := fun h h' cs x hl ⟨bx, e, hb, hn⟩ => ⟨bx, e, hb.mono hl (fun u a => hR _ _ u a hl), hn⟩
theorem PlainR.mono (hR : Mono R) : Mono (PlainR R) := fun h h' cs p hl ⟨s, it, e, hs, hi⟩ => ⟨s, it, e, hs.mono hl, hi.mono hl (fun u a => ItemAt.mono hR _ _ u a hl)⟩
theorem ItemAt.one : One (ItemAt R) := by
  rintro h cs x ⟨bx, rfl, hb, _⟩ u hu
  simp only [List.mem_cons, List.not_mem_nil, or_false] at hu
  rcases hu with rfl | rfl | rfl | rfl
  · rfl
  · rfl
  · rfl
  · exact hb.one
theorem PlainR.one : One (PlainR R) := by
  rintro h cs x ⟨s, it, rfl, hs, hi⟩ u hu
  simp only [List.mem_cons, List.not_mem_nil, or_false] at hu
  rcases hu with rfl | rfl | rfl
  · exact hs.one'
  · exact hi.one
  · rfl
end
theorem PlainAt.mono : (k : Nat) → Mono (PlainAt k)
  | 0 => fun _ _ _ _ _ h => h
  | k + 1 => PlainR.mono (PlainAt.mono k)
theorem PlainAt.one : (k : Nat) → One (PlainAt k)
  | 0 => fun _ _ _ h => h.elim
  | k + 1 => PlainR.one
end Go.Proofs.YtmojpbfkpggjhaaGreat

/-
  From a contract of a law to its row: the arguments read out of memory into the ghost heap. No statement is proved here.
-/
namespace Go.Proofs.YtmojpbfkpggjhaaGreat
open Go Go.RowKit Go.ChangeShapes Go.WideShapes Go.ChangeAt
set_option linter.unusedVariables false
set_option linter.unusedSimpArgs false

theorem Con.walk {P : Program} {f : FuncId} {vs : List Value} {w : World} {v : Value} (hc : Con P f vs w (ghost w) (fun _ u => u = v)) : Calls P f vs.toArray w fun e w' => e = .returned v ∧ Below w.heap.size w w' := by
  refine (hc (ghost_agree w)).mono ?_
  rintro e w' ⟨u, h', rfl, hs, rfl⟩
  exact ⟨rfl, hs.below⟩
theorem ghost_cell {w : World} {b o : Nat} {v : Value} (h : w.cell? ⟨b, o, none⟩ = some v) : ∃ cs, ghost w b = some cs ∧ cs[o]? = some v := by
  unfold World.cell? at h
  unfold ghost
  split at h
  · rename_i c e fr hb
    simp only at hb
    rw [hb]
    exact ⟨c.toList, rfl, by simpa using h⟩
  · cases h
theorem cell_spot {w : World} {p : Addr} {v : Value} (h : w.cell? p = some v) : p.spot = none := by
  unfold World.cell? at h
  split at h
  · cases hs : p.spot with
    | none => rfl
    | some x => simp [hs] at h
  · cases h
/-- cells that are known one by one, as a slice of the ghost heap -/
theorem sl_of_cells {w : World} {a : Addr} {n cp sz : Nat} {xs : List Value} (hl : xs.length = n * sz) (hn : n ≤ cp) (hm : cp ≤ maxLen) (hz : 0 < sz) (hc : ∀ j u, xs[j]? = some u → w.cell? (a.add j) = some u) : Sl (ghost w) sz (some a) n cp xs := by
  refine ⟨hl, hn, hm, by simp, fun p hp => ?_⟩
  cases hp
  have hsp : n = 0 ∨ a.spot = none := by
    rcases Nat.eq_zero_or_pos n with h | h
    · exact .inl h
    · right
      have hpos : 0 < xs.length := by rw [hl]; exact Nat.mul_pos h hz
      have := hc 0 xs[0] (List.getElem?_eq_getElem hpos)
      rw [Addr.add_zero'] at this
      exact cell_spot this
  refine ⟨hsp, fun j hj => ?_⟩
  have hj' : j < xs.length := by rw [hl]; exact hj
  have h1 := hc j xs[j] (List.getElem?_eq_getElem hj')
  have hsp' : a.spot = none := hsp.resolve_left (fun e => by rw [e, Nat.zero_mul] at hj; omega)
  have hadd : a.add j = ⟨a.block, a.off + j, none⟩ := by
    cases a with | mk b o s => simp at hsp'; subst hsp'; exact Addr.add_lit _ _ _
  rw [hadd] at h1
  obtain ⟨cs, h2, h3⟩ := ghost_cell h1
  exact ⟨cs, h2, by rw [h3, List.getElem?_eq_getElem hj']⟩
theorem sl_nil (h : GHeap) (sz : Nat) : Sl h sz none 0 0 [] := ⟨by simp, Nat.le_refl _, by simp [maxLen], fun _ => rfl, fun p hp => by cases hp⟩
/-- a slice of integers that came in -/
theorem open_intsG {H : Type} {enc : TypeId × Value → H} {P : Program} {w : World} {held : Bool} {t e : TypeId} {k : IntKind} {r : Reach} {b0 : Nat} {v : Value} {d : DataW H} {ps : List MemPlace}
    (ht : P.underlying t = some (.slice e)) (he : P.underlying e = some (.int k)) (hc : P.cellsOf e = 1) (hv : Value.okWide P w r b0 t v) (hd : DataW.Trod enc P w 0 (fun _ => true) held t v d ps) :
    ∃ (ad : Option Addr) (cp : Nat) (l : List Int), v = .slice ad l.length cp ∧ Sl (ghost w) 1 ad l.length cp (l.map (Value.int k)) ∧ (∀ x ∈ l, (Lit.int k x).wf = true) ∧ cp ≤ 9223372036854775807 := by
  obtain ⟨a0, len0, cap0, rfl⟩ := okWide_slice ht hv
  obtain ⟨fuel, hf⟩ := hd
  rcases open_ints ht he hc hf with ⟨hcs, _⟩ | ⟨x, l, c, zs, hcs, _, hl, hm, hz, _, hcell, hwz⟩
  · simp [Value.cells] at hcs
    obtain ⟨rfl, rfl, rfl⟩ := hcs
    exact ⟨none, 0, [], rfl, sl_nil _ 1, by simp, by omega⟩
  · simp [Value.cells] at hcs
    obtain ⟨rfl, rfl, rfl⟩ := hcs
    have hzl : zs.length = cap0 := by simpa using hz
    have hlen : (zs.take len0).length = len0 := by rw [List.length_take]; omega
    refine ⟨some x, cap0, zs.take len0, by rw [hlen], ?_, fun y hy => hwz y (List.mem_of_mem_take hy), by simpa [maxLen] using hm⟩
    rw [hlen]
    refine sl_of_cells (by simp; omega) hl hm (by omega) ?_
    intro j u hj
    rw [List.getElem?_map] at hj
    have hj2 : j < len0 := by
      rcases Nat.lt_or_ge j len0 with h | h
      · exact h
      · rw [List.getElem?_eq_none (by omega)] at hj; simp at hj
    rw [hcell j (by omega)]
    rw [List.getElem?_take, if_pos hj2, List.getElem?_eq_getElem (by omega)] at hj
    simp at hj
    rw [← hj, List.getD_eq_getElem?_getD, List.getElem?_eq_getElem (by omega)]
    rfl
theorem open_IntsAt {H : Type} {enc : TypeId × Value → H} {P : Program} {w : World} {held : Bool} {t e : TypeId} {r : Reach} {b0 : Nat} {v : Value} {d : DataW H} {ps : List MemPlace}
    (ht : P.underlying t = some (.slice e)) (he : P.underlying e = some (.int .i64)) (hc : P.cellsOf e = 1) (hv : Value.okWide P w r b0 t v) (hd : DataW.Trod enc P w 0 (fun _ => true) held t v d ps) :
    ∃ l, IntsAt (ghost w) v l ∧ (∀ x ∈ l, -9223372036854775808 ≤ x ∧ x ≤ 9223372036854775807) ∧ l.length ≤ 9223372036854775807 := by
  obtain ⟨ad, cp, l, rfl, hS, hw, hcp⟩ := open_intsG ht he hc hv hd
  refine ⟨l, ⟨ad, cp, rfl, hS⟩, fun x hx => ?_, by have := hS.caps; omega⟩
  have := hw x hx
  simp [Lit.wf, IntKind.min, IntKind.max, IntKind.signed, IntKind.bits] at this
  omega
end Go.Proofs.YtmojpbfkpggjhaaGreat

/-
  Arguments of other types read out of memory into the ghost heap: slices of anything, floats, plain arrays. No statement is proved here.
-/
namespace Go.Proofs.YtmojpbfkpggjhaaGreat
open Go Go.RowKit Go.ChangeShapes Go.WideShapes Go.ChangeAt
set_option linter.unusedVariables false
set_option linter.unusedSimpArgs false
section
variable {H : Type} {enc : TypeId × Value → H} {P : Program} {w : World} {base : Nat} {spare : Nat → Bool} {held : Bool} {fuel n : Nat} {t e : TypeId} {cs : List Value} {x : DataW H × List MemPlace}
theorem trod_float {k : FloatKind} (ht : P.underlying t = some (.float k)) (h : DataW.trod enc P w base spare held fuel t cs = some x) : ∃ n, cs = [.float k n] ∧ (Lit.float k n).wf = true := by
  cases fuel with
  | zero => simp [DataW.trod] at h
  | succ n =>
    unfold DataW.trod at h
    rw [ht] at h
    split at h <;> simp_all
theorem open_f64 (ht : P.underlying t = some (.float .f64)) (h : DataW.trod enc P w base spare held fuel t cs = some x) : ∃ n, cs = [.float .f64 n] ∧ n < 18446744073709551616 := by
  obtain ⟨n, rfl, hw⟩ := trod_float ht h
  exact ⟨n, rfl, by simpa [Lit.wf] using hw⟩
/-- a slice of elements that open -/
theorem open_rows {α : Type} {sz : Nat} {R : List Value → α → Prop} (ht : P.underlying t = some (.slice e)) (hc : P.cellsOf e = sz) (hz : 0 < sz)
    (he : ∀ n < fuel, ∀ cs x, DataW.trod enc P w base spare held n e cs = some x → ∃ a, R cs a) (h : DataW.trod enc P w base spare held fuel t cs = some x) :
    ∃ v l, cs = [v] ∧ RowsAt sz R (ghost w) v l ∧ l.length ≤ 9223372036854775807 := by
  rcases DataW.trod_slice ht h with ⟨hcs, _⟩ | ⟨a, len, cap, elems, rest, n, hf, hcs, _, _, hl, hm, hlen, hel, _⟩
  · exact ⟨_, [], hcs, RowsAt.nil _, by simp⟩
  · have key : ∀ m, m ≤ len → ∃ xs, ∃ l : List α, xs.length = m * sz ∧ l.length = m ∧ AllN sz R xs l ∧ ∀ j u, xs[j]? = some u → w.cell? (a.add j) = some u := by
      intro m
      induction m with
      | zero => exact fun _ => ⟨[], [], by simp, rfl, rfl, fun j u h => by simp at h⟩
      | succ m ih =>
        intro hm
        obtain ⟨xs, l, h1, h2, h3, h4⟩ := ih (by omega)
        have hi := hel m (by omega)
        rw [List.getElem?_eq_getElem (by omega), Option.bind_eq_some_iff] at hi
        obtain ⟨ys, hy, hr⟩ := hi
        obtain ⟨_, hyl, hyc⟩ := World.cells?_some hy
        obtain ⟨b, hb⟩ := he n (by omega) ys _ hr
        refine ⟨xs ++ ys, l ++ [b], by rw [List.length_append, hyl, hc, h1, Nat.add_mul, Nat.one_mul], by simp [h2], h3.append (AllN.one (hyl.trans hc) hb), ?_⟩
        intro j u hj
        by_cases hj2 : j < xs.length
        · rw [List.getElem?_append_left hj2] at hj
          exact h4 j u hj
        · rw [List.getElem?_append_right (by omega)] at hj
          have hjl := (List.getElem?_eq_some_iff.1 hj).1
          have := hyc (j - xs.length) (by omega)
          rw [hj, Addr.add_add, hc] at this
          rw [← this]
          congr 2
          omega
    obtain ⟨xs, l, h1, h2, h3, h4⟩ := key len (Nat.le_refl _)
    refine ⟨_, l, hcs, ⟨some a, cap, xs, by rw [h2], ?_, h3⟩, by rw [h2]; simp [maxLen] at hm; omega⟩
    rw [h2]
    exact sl_of_cells h1 hl hm hz h4
theorem AllN.mk {α : Type} {mk : α → Value} : ∀ {xs : List Value} {l : List α}, AllN 1 (fun cs a => cs = [mk a]) xs l → xs = l.map mk
  | xs, [], h => h
  | [], a :: l, h => by have := h.1; simp at this
  | y :: xs, a :: l, h => by
    have h1 := h.2.1
    simp at h1
    have := AllN.mk h.2.2
    rw [List.map_cons, h1, ← this]
    simp
theorem RowsAt.row {α : Type} {mk : α → Value} {h : GHeap} {v : Value} {l : List α} (hr : RowsAt 1 (fun cs a => cs = [mk a]) h v l) : RowAt mk h v l := by
  obtain ⟨ad, cp, xs, rfl, hS, hA⟩ := hr
  exact ⟨ad, cp, rfl, by rw [← hA.mk]; exact hS⟩
theorem AllN.all {α : Type} {sz : Nat} {R : List Value → α → Prop} {p : α → Prop} (hp : ∀ cs a, R cs a → p a) : ∀ {xs : List Value} {l : List α}, AllN sz R xs l → ∀ a ∈ l, p a
  | _, [], _, _, h => by cases h
  | xs, b :: l, h, a, ha => by
    rcases List.mem_cons.1 ha with rfl | ha
    · exact hp _ _ h.2.1
    · exact AllN.all hp h.2.2 a ha
theorem open_ints2 {k : IntKind} (ht : P.underlying t = some (.slice e)) (he : P.underlying e = some (.int k)) (hc : P.cellsOf e = 1) (h : DataW.trod enc P w base spare held fuel t cs = some x) :
    ∃ v l, cs = [v] ∧ KAt k (ghost w) v l ∧ l.length ≤ 9223372036854775807 ∧ ∀ u ∈ l, (Lit.int k u).wf = true := by
  obtain ⟨v, l, h1, h2, h3⟩ := open_rows (R := fun cs (a : Int) => cs = [.int k a] ∧ (Lit.int k a).wf = true) ht hc (by omega) (fun n _ cs x h => by
    obtain ⟨m, hm, _, hw⟩ := DataW.trod_int he h
    exact ⟨m, hm, hw⟩) h
  refine ⟨v, l, h1, RowsAt.row (RowsAt.mono (GLe.refl _) (fun _ _ h => h.1) h2), h3, ?_⟩
  obtain ⟨ad, cp, xs, _, _, hA⟩ := h2
  exact AllN.all (fun _ _ h => h.2) hA
theorem open_floats (ht : P.underlying t = some (.slice e)) (he : P.underlying e = some (.float .f64)) (hc : P.cellsOf e = 1) (h : DataW.trod enc P w base spare held fuel t cs = some x) :
    ∃ v l, cs = [v] ∧ FAt (ghost w) v l ∧ l.length ≤ 9223372036854775807 ∧ ∀ u ∈ l, u < 18446744073709551616 := by
  obtain ⟨v, l, h1, h2, h3⟩ := open_rows (R := fun cs (a : Nat) => cs = [.float .f64 a] ∧ a < 18446744073709551616) ht hc (by omega) (fun n _ cs x h => open_f64 he h) h
  refine ⟨v, l, h1, RowsAt.row (RowsAt.mono (GLe.refl _) (fun _ _ h => h.1) h2), h3, ?_⟩
  obtain ⟨ad, cp, xs, _, _, hA⟩ := h2
  exact AllN.all (fun _ _ h => h.2) hA
/-- a plain array that came in, its boxes too -/
theorem open_plain {tp tis ti ts tint tf tr tb : TypeId} {fp fi : Array Field} (hp : P.underlying tp = some (.struct fp)) (hi : P.underlying ti = some (.struct fi)) (hts : P.underlying ts = some (.slice tint)) (htis : P.underlying tis = some (.slice ti)) (htb : P.underlying tb = some (.slice tp))
    (htint : P.underlying tint = some (.int .i64)) (htf : P.underlying tf = some (.float .f64)) (htr : P.underlying tr = some (.int .i32))
    (cp : P.cellsOf tp = 3) (ci : P.cellsOf ti = 4) (cint : P.cellsOf tint = 1) (cf : P.cellsOf tf = 1) (cr : P.cellsOf tr = 1) (cts : P.cellsOf ts = 1) (ctis : P.cellsOf tis = 1) (ctb : P.cellsOf tb = 1)
    (efp : fp.toList.map (fun f => (f.type, f.offset)) = [(ts, 0), (tis, 1), (tint, 2)]) (efi : fi.toList.map (fun f => (f.type, f.offset)) = [(tint, 0), (tf, 1), (tr, 2), (tb, 3)]) :
    ∀ (n k : Nat) (cs : List Value) (x : DataW H × List MemPlace), n ≤ k → DataW.trod enc P w base spare held n tp cs = some x → ∃ p : PD k, PlainAt k (ghost w) cs p := by
  have fld : ∀ (fs : Array Field) (j : Nat) (a b : Nat), (fs.toList.map (fun f => (f.type, f.offset)))[j]? = some (a, b) → ∃ f, fs[j]? = some f ∧ f.type = a ∧ f.offset = b := by
    intro fs j a b h
    rw [List.getElem?_map] at h
    cases hf : fs.toList[j]? with
    | none => rw [hf] at h; cases h
    | some f =>
      rw [hf] at h
      simp at h
      exact ⟨f, by simpa using hf, h.1, h.2⟩
  intro n
  induction n using Nat.strongRecOn with
  | _ n ih =>
    intro k cs x hk h
    obtain ⟨xs, m, rfl, _, hlen, hxl, hf⟩ := DataW.trod_struct hp h
    rw [cp] at hlen
    have hxl3 : xs.length = 3 := by
      have := congrArg List.length efp
      simp at this; omega
    match cs, hlen, xs, hxl3 with
    | [c0, c1, c2], _, [y0, y1, y2], _ =>
    obtain ⟨f0, h0, e0, o0⟩ := fld fp 0 ts 0 (by rw [efp]; rfl)
    obtain ⟨f1, h1, e1, o1⟩ := fld fp 1 tis 1 (by rw [efp]; rfl)
    obtain ⟨f2, h2, e2, o2⟩ := fld fp 2 tint 2 (by rw [efp]; rfl)
    have g0 := hf 0 f0 h0
    have g1 := hf 1 f1 h1
    have g2 := hf 2 f2 h2
    rw [e0, o0, cts] at g0
    rw [e1, o1, ctis] at g1
    rw [e2, o2, cint] at g2
    simp at g0 g1 g2
    obtain ⟨vs, ls, es, hs, _⟩ := open_ints2 hts htint cint g0
    obtain ⟨fill, ef, _, _⟩ := DataW.trod_int htint g2
    cases k with
    | zero => omega
    | succ k =>
    obtain ⟨vi, li, ei, hli, _⟩ := open_rows (α := ItemD (PD k)) (sz := 4) (R := ItemAt (PlainAt k) (ghost w)) htis ci (by omega) (fun n' hn' cs' x' h' => by
      obtain ⟨xs', m', rfl, _, hlen', hxl', hf'⟩ := DataW.trod_struct hi h'
      rw [ci] at hlen'
      have hxl4 : xs'.length = 4 := by
        have := congrArg List.length efi
        simp at this; omega
      match cs', hlen', xs', hxl4 with
      | [d0, d1, d2, d3], _, [z0, z1, z2, z3], _ =>
      obtain ⟨f0, h0, e0, o0⟩ := fld fi 0 tint 0 (by rw [efi]; rfl)
      obtain ⟨f1, h1, e1, o1⟩ := fld fi 1 tf 1 (by rw [efi]; rfl)
      obtain ⟨f2, h2, e2, o2⟩ := fld fi 2 tr 2 (by rw [efi]; rfl)
      obtain ⟨f3, h3, e3, o3⟩ := fld fi 3 tb 3 (by rw [efi]; rfl)
      have g0 := hf' 0 f0 h0
      have g1 := hf' 1 f1 h1
      have g2 := hf' 2 f2 h2
      have g3 := hf' 3 f3 h3
      rw [e0, o0, cint] at g0
      rw [e1, o1, cf] at g1
      rw [e2, o2, cr] at g2
      rw [e3, o3, ctb] at g3
      simp at g0 g1 g2 g3
      obtain ⟨kd, ek, _, _⟩ := DataW.trod_int htint g0
      obtain ⟨nm, en, hn⟩ := open_f64 htf g1
      obtain ⟨ch, ec, _, _⟩ := DataW.trod_int htr g2
      obtain ⟨vb, lb, eb, hb, _⟩ := open_rows (α := PD k) (sz := 3) (R := PlainAt k (ghost w)) htb cp (by omega) (fun n'' hn'' cs'' x'' h'' => ih n'' (by omega) k cs'' x'' (by omega) h'') g3
      simp only [List.cons.injEq, and_true] at ek en ec eb
      subst ek; subst en; subst ec; subst eb
      exact ⟨⟨kd, nm, ch, lb⟩, d3, rfl, hb, hn⟩) g1
    simp only [List.cons.injEq, and_true] at es ei ef
    subst es; subst ei; subst ef
    exact ⟨(⟨ls, li, fill⟩ : PlainD (PD k)), c0, c1, rfl, hs, hli⟩
end
end Go.Proofs.YtmojpbfkpggjhaaGreat

/-
  The program logic, sixteenth part: fields of a slice's elements, closures made, floats divided, whole items of plain arrays. No statement is proved here.
-/
namespace Go.Proofs.YtmojpbfkpggjhaaGreat
open Go Go.RowKit
set_option linter.unusedVariables false
set_option linter.unusedSimpArgs false
set_option linter.unusedVariables false
section
variable {P : Program} (T : Tab P) {n : Nat} {Q : Post} {L : Env} {w0 w : World} {h0 h : GHeap} {O : List Row} {ops rest : List Oper} {x y : Operand} {t : TypeId}
variable {d : Option Tmp} {ty yt : TypeId} {pos : String} {aft : Array Edge}
def elemQ (ad : Option Addr) (j sz off : Nat) : Value := .pointer (some ((ad.getD ⟨0, 0, none⟩).add (j * sz + off)))
theorem elemQ_some (b o j sz off : Nat) : elemQ (some ⟨b, o, none⟩) j sz off = .pointer (some ⟨b, o + (j * sz + off), none⟩) := by
  simp [elemQ, Addr.add_lit]
include T in
theorem Y.fieldE {fs : List (Nat × Nat)} {j ft off : Nat} {i : Inf} {ad : Option Addr} {m cp q sz : Nat} {xs : List Value} (hT : T.ty t = some (.struct fs)) (hf : fs[j]? = some (ft, off)) (hI : T.inf ft = some i) (h0' : Nat.ble 1 i.size = true) (hx : opv L x = some (elemP ad q sz)) (hS : Sl h sz ad m cp xs) (hj : q < m) : Yields P n L w (.fieldAddr t x j) ty (elemQ ad q sz off) := by
  obtain ⟨b, o, rfl, _⟩ := hS.at hj
  rw [elemP_some] at hx
  rw [elemQ_some, ← Nat.add_assoc]
  exact Y.fieldAddr T hT hf hI h0' hx
include T in
theorem Y.ldQ {t' : TypeId} {dd : Ty} {ad : Option Addr} {m cp q sz off : Nat} {xs : List Value} {v : Value} (hs : Sees w0 h0 h O w) (hx : opv L x = some (elemQ ad q sz off)) (hS : Sl h sz ad m cp xs) (hE : T.ty t' = some dd) (hag : dd.agg = false) (hj : q < m) (ho : Nat.blt off sz = true) (hv : xs[q * sz + off]? = some v) : Yields P n L w (.load t' x) ty v := by
  obtain ⟨b, o, rfl, hc⟩ := hS.at hj
  rw [elemQ_some] at hx
  obtain ⟨cs, h1, h2⟩ := hc off (Nat.le_of_ble_eq_true ho)
  rw [hv] at h2
  refine Y.load1 T hE hag hx (hs.cell h1 ?_)
  rw [← h2]; congr 1; omega
/-- the only element of such a row -/
theorem Y.makeFunc {f : FuncId} {fi ca : List Operand} {fv cv : List Value} (hf : opvs L fi = some fv) (hc : opvs L ca = some cv) : Yields P n L w (.makeFunc (.func f) fi.toArray ca.toArray) ty (.func (.func f) fv.toArray cv.toArray) := by
  intro a ha d pos aft g
  have h1 := ha.evals hf
  have h2 := ha.evals hc
  simp [execOp, Instr.makeFunc, h1, h2]
theorem Y.fQuo {u v r : Nat} (hx : opv L x = some (.float .f64 u)) (hy : opv L y = some (.float .f64 v)) (hr : (Op.floatArith .quo .f64 u v : Sem Value) = pure (.float .f64 r)) : Yields P n L w (.binOp .quo t x y yt) ty (.float .f64 r) := run_binF (by simp) hx hy (by unfold floatOp; simp only [hr]; rfl)
end
theorem Sl.cell0 {h : GHeap} {b : Nat} {v : Value} (hS : Sl h 1 (some ⟨b, 0, none⟩) 1 1 [v]) : ∃ cs, h b = some cs ∧ cs[0]? = some v := by
  obtain ⟨_, hc⟩ := hS.2.2.2.2 _ rfl
  obtain ⟨cs, h1, h2⟩ := hc 0 (by omega)
  exact ⟨cs, h1, by simpa using h2⟩
theorem blockQ_mono {Q Q' : Post} {id : Nat} (h : ∀ e L w, Q e L w → Q' e L w) : ∀ e L w, blockQ id Q e L w → blockQ id Q' e L w := by
  intro e L w q
  unfold blockQ at q ⊢
  cases e with
  | exit id' =>
    dsimp only at q ⊢
    cases hb : Nat.beq id' id with
    | true => rw [hb] at q; exact h _ _ _ q
    | false => rw [hb] at q; exact h _ _ _ q
  | _ => exact h _ _ _ q
theorem CW.meetB {P : Program} {n : Nat} {L : Env} {w : World} {Q : Post} {σ : Type} {id : Nat} {z b : Code} (E : σ → Env) (S : σ → World → Prop) (hx : CW P n (blockQ id (joinQ E S Q)) b L w) (hy : ∀ s w, S s w → CW P n Q z (E s) w) : CW P n (blockQ id (thenQ P n z Q)) b L w := by
  refine hx.mono (blockQ_mono ?_)
  intro e M w' q
  cases e with
  | normal => obtain ⟨s, h1, h2⟩ := q; exact (hy s w' h2).has h1
  | _ => exact q
/-! ## Items of plain arrays -/
section
variable {α : Type} {R : GHeap → List Value → α → Prop}
theorem RowsAt.single {h : GHeap} {b sz : Nat} {cs : List Value} {a : α} {R' : List Value → α → Prop} (hS : Sl h sz (some ⟨b, 0, none⟩) 1 1 cs) (hR : R' cs a) : RowsAt sz R' h (.slice (some ⟨b, 0, none⟩) 1 1) [a] :=
  ⟨_, _, cs, rfl, hS, AllN.one (by simpa using hS.1) hR⟩
def noItem : ItemD α := ⟨0, 0, 0, []⟩
theorem AllN.get4 {xs : List Value} {sz j : Nat} {cs : List Value} (h : (xs.drop (j * sz)).take sz = cs) (o : Nat) (ho : o < sz) : xs[j * sz + o]? = cs[o]? := by
  rw [← h, List.getElem?_take, if_pos ho, List.getElem?_drop]
theorem ItemAt.cells {h : GHeap} {xs : List Value} {l : List (ItemD α)} (hA : AllN 4 (ItemAt R h) xs l) (j : Nat) (hj : j < l.length) :
    ∃ bx, (xs.drop (j * 4)).take 4 = [.int .i64 (l.getD j noItem).kind, .float .f64 (l.getD j noItem).num, .int .i32 (l.getD j noItem).char, bx] ∧ bx.oneCell' = true ∧ RowsAt 3 (R h) h bx (l.getD j noItem).box ∧ (l.getD j noItem).num < 18446744073709551616 ∧
      xs[j * 4 + 0]? = some (.int .i64 (l.getD j noItem).kind) ∧ xs[j * 4 + 1]? = some (.float .f64 (l.getD j noItem).num) ∧ xs[j * 4 + 2]? = some (.int .i32 (l.getD j noItem).char) ∧ xs[j * 4 + 3]? = some bx := by
  obtain ⟨⟨bx, e, hb, hn⟩, _⟩ := hA.get noItem j hj
  refine ⟨bx, e, hb.one, hb, hn, ?_, ?_, ?_, ?_⟩
  · rw [AllN.get4 e 0 (by omega)]; rfl
  · rw [AllN.get4 e 1 (by omega)]; rfl
  · rw [AllN.get4 e 2 (by omega)]; rfl
  · rw [AllN.get4 e 3 (by omega)]; rfl
end
end Go.Proofs.YtmojpbfkpggjhaaGreat

/-
  Plain arrays: what is asked of them, what comes of them. Plain Lean, no program in sight. No statement is proved here.
-/
namespace Go.Proofs.YtmojpbfkpggjhaaGreat
open Go Go.RowKit
set_option linter.unusedVariables false
set_option linter.unusedSimpArgs false
section
variable {α β : Type}
/-! ## What is wrong with a plain array -/
def chkIt (f : α → Int) (fill : Int) : List (ItemD α) → Bool → Int
  | [], g => if g = true then 0 else 1
  | x :: l, g =>
    if x.kind ≠ fill ∨ (x.kind = 2 ∧ x.box.length ≠ 1) then 1
    else if x.kind = 2 ∧ (x.box.map f).headD 0 ≠ 0 then (x.box.map f).headD 0
    else chkIt f fill l (g && decide (x.kind ≠ 0 ∨ finF x.num))
def chkP (f : α → Int) (d : Int) (p : PlainD α) : Int :=
  if d = 0 ∨ p.fill < 0 ∨ 2 < p.fill then 1
  else if (product p.shape 1048576).2 ≠ 0 then (product p.shape 1048576).2
  else if (product p.shape 1048576).1 ≠ p.items.length then 23
  else chkIt f p.fill p.items true
def chk : (k : Nat) → Int → PD k → Int
  | 0 => fun _ _ => 0
  | k + 1 => fun d p => chkP (α := PD k) (chk k (d - 1)) d p
theorem chkIt_ok (f : α → Int) (fill : Int) : ∀ (l : List (ItemD α)) (g : Bool), chkIt f fill l g = 0 ↔ g = true ∧ ∀ x ∈ l, x.kind = fill ∧ (x.kind = 2 → ∃ b, x.box = [b] ∧ f b = 0) ∧ (x.kind = 0 → finF x.num)
  | [], g => by cases g <;> simp [chkIt]
  | x :: l, g => by
    unfold chkIt
    by_cases h1 : x.kind ≠ fill ∨ (x.kind = 2 ∧ x.box.length ≠ 1)
    · rw [if_pos h1]
      refine ⟨fun e => by omega, fun ⟨_, e⟩ => ?_⟩
      have := e x List.mem_cons_self
      rcases h1 with h1 | ⟨h1, h2⟩
      · exact absurd this.1 h1
      · obtain ⟨b, hb, _⟩ := this.2.1 h1
        rw [hb] at h2; exact absurd rfl h2
    · rw [if_neg h1]
      have hk : x.kind = fill := Decidable.of_not_not (fun e => h1 (.inl e))
      have hb : x.kind = 2 → ∃ b, x.box = [b] := fun e => by
        have h2 : x.box.length = 1 := Decidable.of_not_not (fun e' => h1 (.inr ⟨e, e'⟩))
        match hx : x.box, h2 with
        | [b], _ => exact ⟨b, rfl⟩
      by_cases h2 : x.kind = 2 ∧ (x.box.map f).headD 0 ≠ 0
      · rw [if_pos h2]
        refine ⟨fun e => absurd e h2.2, fun ⟨_, e⟩ => ?_⟩
        obtain ⟨b, hb, hf⟩ := (e x List.mem_cons_self).2.1 h2.1
        rw [hb] at h2
        exact absurd hf h2.2
      · rw [if_neg h2, chkIt_ok f fill l _]
        have h3 : x.kind = 2 → ∃ b, x.box = [b] ∧ f b = 0 := fun e => by
          obtain ⟨b, hb⟩ := hb e
          refine ⟨b, hb, Decidable.of_not_not fun e' => h2 ⟨e, ?_⟩⟩
          rw [hb]; exact e'
        simp only [Bool.and_eq_true, decide_eq_true_eq, List.mem_cons, forall_eq_or_imp]
        constructor
        · rintro ⟨⟨hg, hn⟩, hl⟩
          exact ⟨hg, ⟨hk, h3, fun e => hn.resolve_left (fun e' => e' e)⟩, hl⟩
        · rintro ⟨hg, ⟨_, _, hn⟩, hl⟩
          refine ⟨⟨hg, ?_⟩, hl⟩
          by_cases e : x.kind = 0
          · exact .inr (hn e)
          · exact .inl e
/-- what a good plain array is like -/
def okIt (f : α → Prop) (fill : Int) (x : ItemD α) : Prop := x.kind = fill ∧ (x.kind = 2 → ∃ b, x.box = [b] ∧ f b) ∧ (x.kind = 0 → finF x.num)
theorem chkP_ok (f : α → Int) (d : Int) (p : PlainD α) : chkP f d p = 0 ↔ d ≠ 0 ∧ 0 ≤ p.fill ∧ p.fill ≤ 2 ∧ product p.shape 1048576 = ((p.items.length : Int), 0) ∧ ∀ x ∈ p.items, okIt (f · = 0) p.fill x := by
  unfold chkP okIt
  by_cases h1 : d = 0 ∨ p.fill < 0 ∨ 2 < p.fill
  · rw [if_pos h1]; constructor
    · intro e; omega
    · rintro ⟨a, b, c, _⟩; omega
  · rw [if_neg h1]
    by_cases h2 : (product p.shape 1048576).2 ≠ 0
    · rw [if_pos h2]
      exact ⟨fun e => absurd e h2, fun ⟨_, _, _, e, _⟩ => absurd (by rw [e]) h2⟩
    · rw [if_neg h2]
      by_cases h3 : (product p.shape 1048576).1 ≠ p.items.length
      · rw [if_pos h3]
        exact ⟨fun e => by omega, fun ⟨_, _, _, e, _⟩ => absurd (by rw [e]) h3⟩
      · rw [if_neg h3, chkIt_ok]
        have e : product p.shape 1048576 = ((p.items.length : Int), 0) := Prod.ext (Decidable.of_not_not h3) (Decidable.of_not_not h2)
        constructor
        · rintro ⟨_, hl⟩
          exact ⟨by omega, by omega, by omega, e, hl⟩
        · rintro ⟨_, _, _, _, hl⟩
          exact ⟨rfl, hl⟩
/-! ## Tidied -/
def tidyIt (f : α → β) (x : ItemD α) : ItemD β := if x.kind = 0 then ⟨0, tidyW x.num, 0, []⟩ else if x.kind = 1 then ⟨1, 0, x.char, []⟩ else if x.kind = 2 then ⟨2, 0, 0, (x.box.map f).take 1⟩ else ⟨x.kind, 0, 0, []⟩
def tidyP (f : α → β) (p : PlainD α) : PlainD β := ⟨p.shape, p.items.map (tidyIt f), p.fill⟩
def tidy : (k : Nat) → PD k → PD k
  | 0 => fun p => p
  | k + 1 => fun p => tidyP (α := PD k) (β := PD k) (tidy k) p
/-! ## The array of a plain one, and back -/
def arrV (f : α → β) (fill : Int) (l : List (ItemD α)) : VecD β :=
  if fill = 1 then ⟨5, [], l.map (·.char), []⟩
  else if fill = 2 then ⟨6, [], [], l.flatMap fun x => x.box.map f⟩
  else ⟨leastN (l.map fun x => tidyW x.num), l.map fun x => tidyW x.num, [], []⟩
def arrP (f : α → β) (p : PlainD α) : ArrD β := ⟨p.shape, arrV f p.fill p.items⟩
def arr : (k : Nat) → PD k → AD k
  | 0 => fun _ => ()
  | k + 1 => fun p => arrP (α := PD k) (β := AD k) (arr k) p
def itemsV (f : α → β) (v : VecD α) : List (ItemD β) :=
  if v.cls = 1 then v.chars.map fun c => ⟨1, 0, c, []⟩
  else if v.cls = 2 then v.boxes.map fun b => ⟨2, 0, 0, [f b]⟩
  else v.nums.map fun x => ⟨0, x, 0, []⟩
def plainA (f : α → β) (a : ArrD α) : PlainD β := ⟨a.shape, itemsV f a.vec, a.vec.cls⟩
def plain : (k : Nat) → AD k → PD k
  | 0 => fun _ => ()
  | k + 1 => fun a => plainA (α := AD k) (β := PD k) (plain k) a
/-- good arrays -/
def goodA (f : α → Prop) (d : Int) (a : ArrD α) : Prop := product a.shape 1048576 = ((a.vec.len : Int), 0) ∧ a.vec.kind ≠ 0 ∧ a.vec.kind = a.vec.least ∧ d ≠ 0 ∧ ∀ b ∈ a.vec.boxes, f b
def good : (k : Nat) → Int → AD k → Prop
  | 0 => fun _ _ => True
  | k + 1 => fun d a => goodA (α := AD k) (good k (d - 1)) d a
/-- arrays that aren't great -/
def smlA (f : α → Prop) (a : ArrD α) : Prop := a.shape.length ≤ 8 ∧ a.vec.len ≤ 1048576 ∧ ∀ b ∈ a.vec.boxes, f b
def sml : (k : Nat) → AD k → Prop
  | 0 => fun _ => True
  | k + 1 => fun a => smlA (α := AD k) (sml k) a
/-- how deep boxes lie -/
def depthP (f : α → Int) (p : PlainD α) : Int := if p.fill ≠ 2 then (if 0 < p.shape.length then 1 else 0) else (p.items.foldl (fun d x => max d ((x.box.map f).headD 0)) 0) + 1
def depth : (k : Nat) → PD k → Int
  | 0 => fun _ => 0
  | k + 1 => fun p => depthP (α := PD k) (depth k) p
end
end Go.Proofs.YtmojpbfkpggjhaaGreat

/-
  Plain arrays and arrays: that an array of a plain one is good, and told as it was. Plain Lean, no program in sight. No statement is proved here.
-/
namespace Go.Proofs.YtmojpbfkpggjhaaGreat
open Go Go.RowKit
set_option linter.unusedVariables false
set_option linter.unusedSimpArgs false
attribute [local irreducible] rankF leastN
section
variable {α β γ : Type}
theorem cls_arrV (f : α → β) (fill : Int) (l : List (ItemD α)) (h0 : 0 ≤ fill) (h2 : fill ≤ 2) : (arrV f fill l).cls = fill := by
  unfold arrV VecD.cls
  by_cases h1 : fill = 1
  · rw [if_pos h1]; simp [h1]
  · rw [if_neg h1]
    by_cases h3 : fill = 2
    · rw [if_pos h3]; simp [h3]
    · rw [if_neg h3]
      have := leastN_bounds (l.map fun x => tidyW x.num)
      dsimp only
      rw [if_neg (by omega), if_neg (by omega)]; omega
theorem len_arrV (f : α → β) (q : α → Prop) (fill : Int) (l : List (ItemD α)) (h : ∀ x ∈ l, okIt q fill x) : (arrV f fill l).len = l.length := by
  unfold arrV VecD.len
  by_cases h1 : fill = 1
  · rw [if_pos h1]; simp
  · rw [if_neg h1]
    by_cases h3 : fill = 2
    · rw [if_pos h3]
      simp only [List.length_nil, Nat.zero_add]
      clear h1
      induction l with
      | nil => rfl
      | cons x l ih =>
        obtain ⟨b, hb, _⟩ := (h x List.mem_cons_self).2.1 ((h x List.mem_cons_self).1.trans h3)
        rw [List.flatMap_cons, List.length_append, ih (fun y hy => h y (List.mem_cons_of_mem _ hy)), hb]
        simp; omega
    · rw [if_neg h3]; simp
theorem items_arr (f : α → β) (g : β → γ) (t : α → γ) (q : α → Prop) (fill : Int) (l : List (ItemD α)) (h0 : 0 ≤ fill) (h2 : fill ≤ 2) (h : ∀ x ∈ l, okIt q fill x) (hq : ∀ b, q b → g (f b) = t b) : itemsV g (arrV f fill l) = l.map (tidyIt t) := by
  unfold itemsV
  rw [cls_arrV f fill l h0 h2]
  unfold arrV
  by_cases h1 : fill = 1
  · rw [if_pos h1, if_pos h1, List.map_map]
    apply List.map_congr_left
    intro x hx
    have hk := (h x hx).1
    simp only [Function.comp, tidyIt]
    rw [if_neg (by omega), if_pos (by omega)]
  · rw [if_neg h1, if_neg h1]
    by_cases h3 : fill = 2
    · rw [if_pos h3, if_pos h3]
      clear h1
      dsimp only
      induction l with
      | nil => rfl
      | cons x l ih =>
        obtain ⟨b, hb, hqb⟩ := (h x List.mem_cons_self).2.1 ((h x List.mem_cons_self).1.trans h3)
        have hk := (h x List.mem_cons_self).1
        rw [List.flatMap_cons, List.map_append, ih (fun y hy => h y (List.mem_cons_of_mem _ hy)), hb]
        have e : tidyIt t x = ⟨2, 0, 0, [t b]⟩ := by
          unfold tidyIt
          rw [if_neg (by omega), if_neg (by omega), if_pos (by omega), hb]
          rfl
        simp [hq b hqb, e]
    · rw [if_neg h3, if_neg h3, List.map_map]
      apply List.map_congr_left
      intro x hx
      have hk := (h x hx).1
      simp only [Function.comp, tidyIt]
      rw [if_pos (by omega)]
theorem boxes_arr (f : α → β) (q : α → Prop) (r : β → Prop) (fill : Int) (l : List (ItemD α)) (h : ∀ x ∈ l, okIt q fill x) (hq : ∀ b, q b → r (f b)) : ∀ b ∈ (arrV f fill l).boxes, r b := by
  intro b hb
  unfold arrV at hb
  by_cases h1 : fill = 1
  · rw [if_pos h1] at hb; cases hb
  · rw [if_neg h1] at hb
    by_cases h3 : fill = 2
    · rw [if_pos h3] at hb
      simp only [List.mem_flatMap, List.mem_map] at hb
      obtain ⟨x, hx, a, ha, rfl⟩ := hb
      obtain ⟨b, hb, hqb⟩ := (h x hx).2.1 ((h x hx).1.trans h3)
      rw [hb, List.mem_singleton] at ha
      subst ha
      exact hq _ hqb
    · rw [if_neg h3] at hb; cases hb
theorem least_arrV (f : α → β) (fill : Int) (l : List (ItemD α)) : (arrV f fill l).kind ≠ 0 ∧ (arrV f fill l).kind = (arrV f fill l).least := by
  unfold arrV VecD.least VecD.cls
  by_cases h1 : fill = 1
  · rw [if_pos h1]; simp
  · rw [if_neg h1]
    by_cases h3 : fill = 2
    · rw [if_pos h3]; simp
    · rw [if_neg h3]
      have := leastN_bounds (l.map fun x => tidyW x.num)
      dsimp only
      have e5 : ¬ leastN (l.map fun x => tidyW x.num) = 5 := by omega
      have e6 : ¬ leastN (l.map fun x => tidyW x.num) = 6 := by omega
      refine ⟨by omega, ?_⟩
      simp only [if_neg e5, if_neg e6]
      rw [if_pos ⟨trivial, by omega⟩]
end
theorem plain_arr : ∀ (k : Nat) (d : Int) (p : PD k), chk k d p = 0 → plain k (arr k p) = tidy k p
  | 0, _, _, _ => rfl
  | k + 1, d, p, h => by
    obtain ⟨h1, h2, h3, h4, h5⟩ := (chkP_ok (α := PD k) _ _ _).1 h
    show plainA (plain k) (arrP (arr k) p) = tidyP (tidy k) p
    unfold plainA arrP tidyP
    dsimp only
    rw [cls_arrV _ _ _ h2 h3, items_arr _ _ (tidy k) _ _ _ h2 h3 h5 (fun b hb => plain_arr k _ b hb)]
theorem good_arr : ∀ (k : Nat) (d : Int) (p : PD k), chk k d p = 0 → good k d (arr k p)
  | 0, _, _, _ => trivial
  | k + 1, d, p, h => by
    obtain ⟨h1, h2, h3, h4, h5⟩ := (chkP_ok (α := PD k) _ _ _).1 h
    have hl := least_arrV (arr k) (PlainD.fill (α := PD k) p) (PlainD.items (α := PD k) p)
    exact ⟨by show product (PlainD.shape (α := PD k) p) 1048576 = (((arrV (arr k) (PlainD.fill (α := PD k) p) (PlainD.items (α := PD k) p)).len : Int), 0); rw [h4, len_arrV _ _ _ _ h5], hl.1, hl.2, h1, boxes_arr _ _ _ _ _ h5 (fun b hb => good_arr k _ b hb)⟩
theorem good_sml : ∀ (k : Nat) (d : Int) (a : AD k), good k d a → sml k a
  | 0, _, _, _ => trivial
  | k + 1, d, a, h => by
    obtain ⟨h1, h2, h3, h4, h5⟩ := h
    have hg : goodS (ArrD.shape (α := AD k) a) = true := (goodS_iff _).2 (by rw [h1])
    have hs := (goodS_spec _).1 hg
    have hp := product_good _ hg
    rw [h1] at hp
    have he : ((ArrD.vec (α := AD k) a).len : Int) = if 0 ∈ ArrD.shape (α := AD k) a then 0 else pr (ArrD.shape (α := AD k) a) := by
      have := congrArg Prod.fst hp; exact this
    refine ⟨hs.1, ?_, fun b hb => good_sml k _ b (h5 b hb)⟩
    split at he <;> omega
end Go.Proofs.YtmojpbfkpggjhaaGreat

/-
  Contracts of functions of package shape. No statement is proved here.
-/
namespace Go.Proofs.YtmojpbfkpggjhaaGreat
open Go Go.RowKit
set_option linter.unusedVariables false
set_option linter.unusedSimpArgs false
set_option maxHeartbeats 4000000
attribute [local irreducible] CW RW QW SW HW ConM retM heldQ calmQ elemP thenQ blockQ loopQ joinQ retQ Yields Con Sl

theorem within_con (a b : Int) (w : World) (h : GHeap) : Con Tryz.prog 115 [.int .i64 a, .int .i64 b] w h
    (fun _ v => v = .tuple #[.int .i64 (within a b).1, .int .i64 (within a b).2]) := by
  refine Con.of_body Tryz.func115 rfl Tryz.ntmps115 rfl rfl ?_
  intro hs
  refine Zrun ?_
  refine RW.gd rfl rfl (fun h1 => ?_) (fun h1 => ?_)
  · refine Zrun ?_
    exact retQ_ret [_, _] h ⟨rfl, rfl, trivial⟩ hs (by simp [within, packv, h1])
  · refine Zrun ?_
    refine CW.condD rfl (fun h2 => ?_) (fun h2 => ?_)
    · refine Zrun ?_
      exact retQ_ret [_, _] h ⟨rfl, rfl, trivial⟩ hs (by simp [within, packv, h2])
    · refine Zrun ?_
      exact retQ_ret [_, _] h ⟨rfl, rfl, trivial⟩ hs (by simp [within, packv, h1, h2])

theorem indexInt_con (s : Value) (l : List Int) (x : Int) (w : World) (h : GHeap) (hl : IntsAt h s l) (hm : l.length ≤ 9223372036854775807) : Con Tryz.prog 143 [s, .int .i64 x] w h
    (fun _ v => ∃ k : Int, v = .int .i64 k ∧ (0 ≤ k ↔ x ∈ l)) := by
  obtain ⟨ad, cp, rfl, hS⟩ := hl
  refine Con.of_body Tryz.func143 rfl Tryz.ntmps143 rfl rfl ?_
  intro hs
  refine Zrun ?_
  refine CW.loop (fun k : Nat => [(0, .slice ad l.length cp), (1, .int .i64 x), (7, .int .i64 l.length), (8, .int .i64 k)]) (fun k w' => k ≤ l.length ∧ (∀ j, j < k → l.getD j 0 ≠ x) ∧ Sees w h h [] w') (fun k => l.length - k) 0 ⟨rfl, rfl, rfl, rfl, trivial⟩ ⟨by omega, by omega, hs⟩ ?_
  rintro k w' ⟨hk, hno, hs⟩
  by_cases hlt : k < l.length
  · refine Zrun ?_
    refine CW.condD rfl (fun h2 => ?_) (fun h2 => ?_)
    · refine Zrun ?_
      exact retQ_ret [_] h ⟨rfl, trivial⟩ hs ⟨k, rfl, by simp [h2, List.getD_eq_getElem?_getD, hlt]⟩
    · refine Zrun ?_
      refine loopQ_round (k + 1) ⟨rfl, rfl, rfl, rfl, trivial⟩ ⟨by omega, ?_, hs⟩ (by omega)
      intro j hj
      by_cases e : j = k
      · subst e; exact fun e => h2 e.symm
      · exact hno j (by omega)
  · refine Zrun ?_
    refine retQ_ret [_] h ⟨rfl, trivial⟩ hs ⟨-1, rfl, by simp, fun hx => ?_⟩
    obtain ⟨j, hj, e⟩ := List.mem_iff_getElem.1 hx
    exact absurd (by simp [List.getD_eq_getElem?_getD, hj, e]) (hno j (by omega))

theorem containsInt_con (s : Value) (l : List Int) (x : Int) (w : World) (h : GHeap) (hl : IntsAt h s l) (hm : l.length ≤ 9223372036854775807) : Con Tryz.prog 99 [s, .int .i64 x] w h
    (fun _ v => v = .bool (decide (x ∈ l))) := by
  refine Con.of_body Tryz.func99 rfl Tryz.ntmps99 rfl rfl ?_
  intro hs
  refine Zrun ?_
  (refine RW.call T hs rfl rfl rfl (indexInt_con s l x w h hl hm) ?_; intro v h1 w1 hle1 hp1 hs)
  obtain ⟨k, rfl, hk⟩ := hp1
  refine Zrun ?_
  exact retQ_ret [_] h1 ⟨rfl, trivial⟩ hs (by simp [packv, hk])

theorem product_con (s : Value) (l : List Int) (most : Int) (w : World) (h : GHeap) (hl : IntsAt h s l) (hm : l.length ≤ 9223372036854775807) : Con Tryz.prog 58 [s, .int .i64 most] w h
    (fun _ v => v = .tuple #[.int .i64 (product l most).1, .int .i64 (product l most).2]) := by
  have hl' := hl
  obtain ⟨ad, cp, rfl, hS⟩ := hl
  refine Con.of_body Tryz.func58 rfl Tryz.ntmps58 rfl rfl ?_
  intro hs
  refine Zrun ?_
  refine CW.condD rfl (fun h8 => ?_) (fun h8 => ?_)
  · refine Zrun ?_
    exact retQ_ret [_, _] h ⟨rfl, rfl, trivial⟩ hs (by simp [packv, product, show 8 < l.length from by omega])
  refine Zrun ?_
  refine CW.loop (fun k : Nat => [(0, .slice ad l.length cp), (1, .int .i64 most), (14, .slice ad l.length cp), (15, .int .i64 l.length), (16, .int .i64 k)]) (fun k w' => k ≤ l.length ∧ (∀ j, j < k → 0 ≤ l.getD j 0) ∧ Sees w h h [] w') (fun k => l.length - k) 0 ⟨rfl, rfl, rfl, rfl, rfl, trivial⟩ ⟨by omega, by omega, hs⟩ ?_
  rintro k w' ⟨hk, hno, hs⟩
  by_cases hlt : k < l.length
  · refine Zrun ?_
    refine CW.condD rfl (fun h2 => ?_) (fun h2 => ?_)
    · refine Zrun ?_
      exact retQ_ret [_, _] h ⟨rfl, rfl, trivial⟩ hs (by simp [packv, product_neg l most (by omega) k hlt h2])
    · refine Zrun ?_
      refine loopQ_round (k + 1) ⟨rfl, rfl, rfl, rfl, rfl, trivial⟩ ⟨by omega, ?_, hs⟩ (by omega)
      intro j hj
      by_cases e : j = k
      · subst e; omega
      · exact hno j (by omega)
  obtain rfl : k = l.length := by omega
  have h0 : ∀ d ∈ l, 0 ≤ d := by
    intro d hd
    obtain ⟨j, hj, e⟩ := List.mem_iff_getElem.1 hd
    have := hno j hj
    rw [List.getD_eq_getElem?_getD, List.getElem?_eq_getElem hj] at this
    rw [← e]; exact this
  clear hno hlt hk
  refine Zrun ?_
  refine CW.loop (fun k : Nat => [(0, .slice ad l.length cp), (1, .int .i64 most), (8, .int .i64 (pr (l.take k))), (23, .slice ad l.length cp), (24, .int .i64 l.length), (25, .int .i64 k)]) (fun k w' => k ≤ l.length ∧ pr (l.take k) ≤ 1048576 ∧ Sees w h h [] w') (fun k => l.length - k) 0 ⟨rfl, rfl, rfl, rfl, rfl, rfl, trivial⟩ ⟨by omega, by simp [pr], hs⟩ ?_
  rintro k w' ⟨hk, hle, hs⟩
  have hpos := pr_pos (l.take k)
  by_cases hlt : k < l.length
  · refine Zrun ?_
    refine CW.condD rfl (fun h2 => ?_) (fun h2 => ?_)
    · refine Zrun ?_
      exact retQ_ret [_, _] h ⟨rfl, rfl, trivial⟩ hs (by simp [packv, product_over l most (by omega) h0 k hlt ((lt_div hpos).1 h2)])
    · have hb := bound_step ⟨hpos, hle⟩ (fun e => h2 ((lt_div hpos).2 e))
      refine Zrun ?_
      refine RW.val (Y.mul rfl rfl ?_) rfl ?_
      · omega
      refine Zrun ?_
      rw [← pr_take_succ l k hlt] at hb
      refine loopQ_round (k + 1) ⟨rfl, rfl, by rw [pr_take_succ l k hlt]; rfl, rfl, rfl, rfl, trivial⟩ ⟨by omega, hb.2, hs⟩ (by omega)
  obtain rfl : k = l.length := by omega
  rw [List.take_of_length_le (Nat.le_refl _)] at hle hpos ⊢
  refine Zrun ?_
  (refine RW.call T hs rfl rfl rfl (containsInt_con _ l 0 _ _ hl' hm) ?_; intro v h1 w1 hle1 hp1 hs)
  subst hp1
  refine Zrun ?_
  refine CW.meet (fun _ : Unit => [(0, .slice ad l.length cp), (1, .int .i64 most), (8, .int .i64 (if 0 ∈ l then 0 else pr l))]) (fun _ w' => Sees w h h1 [] w') ?_ ?_
  · refine Zrun ?_
    refine CW.condD rfl (fun h2 => ?_) (fun h2 => ?_)
    · refine Zrun ?_
      exact joinQ_meet () ⟨rfl, rfl, by rw [if_pos h2]; rfl, trivial⟩ hs
    · refine Zrun ?_
      exact joinQ_meet () ⟨rfl, rfl, by rw [if_neg h2]; rfl, trivial⟩ hs
  rintro _ w2 hs
  refine Zrun ?_
  (refine RW.call T hs rfl rfl rfl (within_con _ _ _ _) ?_; intro v h3 w3 hle3 hp3 hs)
  subst hp3
  refine Zrun ?_
  exact retQ_ret [_, _] h3 ⟨rfl, rfl, trivial⟩ hs (by simp [packv, product_in l most (by omega) h0 hle])
end Go.Proofs.YtmojpbfkpggjhaaGreat

/-
  Contracts of functions of package shape and of its reference, second part. No statement is proved here.
-/
namespace Go.Proofs.YtmojpbfkpggjhaaGreat
open Go Go.RowKit
set_option linter.unusedVariables false
set_option linter.unusedSimpArgs false
set_option maxHeartbeats 4000000
attribute [local irreducible] CW RW QW SW HW ConM retM heldQ calmQ elemP thenQ blockQ loopQ joinQ retQ Yields Con Sl

theorem good_con (s : Value) (l : List Int) (w : World) (h : GHeap) (hl : IntsAt h s l) (hm : l.length ≤ 9223372036854775807) : Con Tryz.prog 126 [s] w h (fun _ v => v = .bool (decide ((product l 1048576).2 = 0))) := by
  refine Con.of_body Tryz.func126 rfl Tryz.ntmps126 rfl rfl ?_
  intro hs
  refine Zrun ?_
  (refine RW.call T hs rfl rfl rfl (product_con s l 1048576 w h hl hm) ?_; intro v h1 w1 hle1 hp1 hs)
  subst hp1
  refine Zrun ?_
  exact retQ_ret [_] h1 ⟨rfl, trivial⟩ hs rfl

theorem refProduct_con (s : Value) (l : List Int) (most : Int) (w : World) (h : GHeap) (hl : IntsAt h s l) (hm : l.length ≤ 9223372036854775807) : Con Tryz.prog 59 [s, .int .i64 most] w h
    (fun _ v => v = .tuple #[.int .i64 (product l most).1, .int .i64 (product l most).2]) := by
  obtain ⟨ad, cp, rfl, hS⟩ := hl
  refine Con.of_body Tryz.func59 rfl Tryz.ntmps59 rfl rfl ?_
  intro hs
  refine Zrun ?_
  refine CW.condD rfl (fun h8 => ?_) (fun h8 => ?_)
  · refine Zrun ?_
    exact retQ_ret [_, _] h ⟨rfl, rfl, trivial⟩ hs (by simp [packv, product, show 8 < l.length from by omega])
  refine Zrun ?_
  refine CW.loop (fun k : Nat => [(0, .slice ad l.length cp), (1, .int .i64 most), (6, .int .i64 1), (7, .bool (decide (0 ∈ l.take k))), (8, .int .i64 k)]) (fun k w' => k ≤ l.length ∧ (∀ j, j < k → 0 ≤ l.getD j 0) ∧ Sees w h h [] w') (fun k => l.length - k) 0 ⟨rfl, rfl, rfl, by simp; rfl, rfl, trivial⟩ ⟨by omega, by omega, hs⟩ ?_
  rintro k w' ⟨hk, hno, hs⟩
  by_cases hlt : k < l.length
  · refine Zrun ?_
    refine CW.condD rfl (fun h2 => ?_) (fun h2 => ?_)
    · refine Zrun ?_
      exact retQ_ret [_, _] h ⟨rfl, rfl, trivial⟩ hs (by simp [packv, product_neg l most (by omega) k hlt h2])
    · have hno' : ∀ j, j < k + 1 → 0 ≤ l.getD j 0 := by
        intro j hj
        by_cases e : j = k
        · subst e; omega
        · exact hno j (by omega)
      have hsn := take_snoc l k 0 hlt
      refine Zrun ?_
      refine RW.gd rfl rfl (fun h3 => ?_) (fun h3 => ?_)
      · refine Zrun ?_
        exact loopQ_round (k + 1) ⟨rfl, rfl, rfl, by rw [hsn]; simp [h3]; rfl, rfl, trivial⟩ ⟨by omega, hno', hs⟩ (by omega)
      · refine Zrun ?_
        exact loopQ_round (k + 1) ⟨rfl, rfl, rfl, by rw [hsn]; simp only [List.mem_append, List.mem_singleton, h3, false_or, eq_comm]; rfl, rfl, trivial⟩ ⟨by omega, hno', hs⟩ (by omega)
  obtain rfl : k = l.length := by omega
  have h0 : ∀ d ∈ l, 0 ≤ d := by
    intro d hd
    obtain ⟨j, hj, e⟩ := List.mem_iff_getElem.1 hd
    have := hno j hj
    rw [List.getD_eq_getElem?_getD, List.getElem?_eq_getElem hj] at this
    rw [← e]; exact this
  clear hno hlt hk
  rw [List.take_of_length_le (Nat.le_refl _)]
  refine Zrun ?_
  refine CW.loop (fun k : Nat => [(0, .slice ad l.length cp), (1, .int .i64 most), (6, .int .i64 (pr (l.take k))), (7, .bool (decide (0 ∈ l))), (9, .int .i64 k)]) (fun k w' => k ≤ l.length ∧ pr (l.take k) ≤ 1048576 ∧ Sees w h h [] w') (fun k => l.length - k) 0 ⟨rfl, rfl, rfl, rfl, rfl, trivial⟩ ⟨by omega, by simp [pr], hs⟩ ?_
  rintro k w' ⟨hk, hle, hs⟩
  have hpos := pr_pos (l.take k)
  by_cases hlt : k < l.length
  · have hd0 := h0 (l.getD k 0) (by simp [List.getD_eq_getElem?_getD, hlt])
    have hps := pr_take_succ l k hlt
    refine Zrun ?_
    refine CW.condD rfl (fun h2 => ?_) (fun h2 => ?_)
    · refine Zrun ?_
      refine retQ_ret [_, _] h ⟨rfl, rfl, trivial⟩ hs ?_
      have : 1048576 < pr (l.take k) * l.getD k 0 := by
        have : 1 * l.getD k 0 ≤ pr (l.take k) * l.getD k 0 := Int.mul_le_mul_of_nonneg_right hpos hd0
        omega
      simp [packv, product_over l most (by omega) h0 k hlt this]
    · have hmul : pr (l.take k) * l.getD k 0 ≤ 1048576 * 1048576 := Int.mul_le_mul hle (by omega) hd0 (by omega)
      have hmul0 : 0 ≤ pr (l.take k) * l.getD k 0 := Int.mul_nonneg (by omega) hd0
      refine Zrun ?_
      refine CW.meet (fun _ : Unit => [(0, .slice ad l.length cp), (1, .int .i64 most), (6, .int .i64 (pr (l.take (k + 1)))), (7, .bool (decide (0 ∈ l))), (9, .int .i64 k)]) (fun _ w' => Sees w h h [] w') ?_ ?_
      · refine CW.condD rfl (fun h3 => ?_) (fun h3 => ?_)
        · have e : max 1 (l.getD k 0) = l.getD k 0 := by omega
          rw [e] at hps
          refine Zrun ?_
          refine RW.val (Y.mul rfl rfl ⟨by omega, by omega⟩) rfl ?_
          refine Zrun ?_
          exact joinQ_meet () ⟨rfl, rfl, by rw [hps]; rfl, rfl, rfl, trivial⟩ hs
        · have e : max 1 (l.getD k 0) = 1 := by omega
          rw [e, Int.mul_one] at hps
          refine Zrun ?_
          exact joinQ_meet () ⟨rfl, rfl, by rw [hps]; rfl, rfl, rfl, trivial⟩ hs
      · rintro _ w' hs
        refine Zrun ?_
        refine CW.condD rfl (fun h4 => ?_) (fun h4 => ?_)
        · refine Zrun ?_
          refine retQ_ret [_, _] h ⟨rfl, rfl, trivial⟩ hs ?_
          have hpp := pr_take_le l (k + 1)
          have h1 : ¬ ∃ d ∈ l, d < 0 := fun ⟨d, hd, hl⟩ => by have := h0 d hd; omega
          have h5 : 1048576 < pr l := by omega
          simp [packv, product, show ¬ 8 < l.length by omega, h1, h5]
        · refine Zrun ?_
          exact loopQ_round (k + 1) ⟨rfl, rfl, rfl, rfl, rfl, trivial⟩ ⟨by omega, by omega, hs⟩ (by omega)
  obtain rfl : k = l.length := by omega
  rw [List.take_of_length_le (Nat.le_refl _)] at hle hpos ⊢
  have hp := product_in l most (by omega) h0 hle
  unfold within at hp
  refine Zrun ?_
  refine CW.meet (fun _ : Unit => [(0, .slice ad l.length cp), (1, .int .i64 most), (6, .int .i64 (if 0 ∈ l then 0 else pr l))]) (fun _ w' => Sees w h h [] w') ?_ ?_
  · refine CW.condD rfl (fun h2 => ?_) (fun h2 => ?_)
    · refine Zrun ?_
      exact joinQ_meet () ⟨rfl, rfl, by rw [if_pos h2]; rfl, trivial⟩ hs
    · refine Zrun ?_
      exact joinQ_meet () ⟨rfl, rfl, by rw [if_neg h2]; rfl, trivial⟩ hs
  rintro _ w2 hs
  have hb : (if 0 ∈ l then 0 else pr l) ≤ 1048576 := by split <;> omega
  generalize (if 0 ∈ l then 0 else pr l) = z at hp hb ⊢
  refine Zrun ?_
  refine CW.condD rfl (fun h2 => ?_) (fun h2 => ?_)
  · refine Zrun ?_
    rw [if_pos (Or.inl (by omega))] at hp
    exact retQ_ret [_, _] h ⟨rfl, rfl, trivial⟩ hs (by simp [packv, hp])
  · refine Zrun ?_
    rw [if_neg (by omega)] at hp
    exact retQ_ret [_, _] h ⟨rfl, rfl, trivial⟩ hs (by simp [packv, hp])

end Go.Proofs.YtmojpbfkpggjhaaGreat

/-
  Contracts of the document's answer: numbers of layer 3, integers and counts of layer 7. No statement is proved here.
-/
namespace Go.Proofs.YtmojpbfkpggjhaaGreat
open Go Go.RowKit
set_option linter.unusedVariables false
set_option linter.unusedSimpArgs false
set_option maxHeartbeats 4000000
attribute [local irreducible] CW RW QW SW HW ConM retM heldQ calmQ elemP thenQ blockQ loopQ joinQ retQ Yields Con Sl zF magR unitF truncF fwF wholeF tidySpec elemQ rankF leastN tidyW

theorem finite_geq (x : Nat) (hf : ¬ finF x) : (ordF x 18442240474082181119 == some .gt || ordF x 18442240474082181119 == some .eq) = false ∨ ((ordF x 18442240474082181119 == some .gt || ordF x 18442240474082181119 == some .eq) = true ∧ (ordF x 9218868437227405311 == some .lt || ordF x 9218868437227405311 == some .eq) = false) := by
  rcases notfin x hf with hn | ⟨h1, h2⟩
  · left
    unfold ordF
    rw [(hn _).1]; rfl
  · unfold ordF
    rw [h2 _ finY, h2 _ finX]
    cases sgF x
    · right; exact ⟨rfl, rfl⟩
    · left; rfl
theorem refFinite_con (x : Nat) (w : World) (h : GHeap) : Con Tryz.prog 108 [.float .f64 x] w h (fun _ v => v = .bool (decide (finF x))) := by
  refine Con.of_body Tryz.func108 rfl Tryz.ntmps108 rfl rfl ?_
  intro hs
  by_cases hf : finF x
  · obtain ⟨b1, b2⟩ := zF_bounds x hf
    rw [decide_eq_true hf]
    refine Zrun ?_
    refine RW.val (Y.fGeq hf finY rfl rfl) rfl ?_
    rw [decide_eq_true b1]
    refine Zrun ?_
    refine RW.val (Y.fLeq hf finX rfl rfl) rfl ?_
    rw [decide_eq_true b2]
    refine Zrun ?_
    exact retQ_ret [_] h ⟨rfl, trivial⟩ hs rfl
  · rw [decide_eq_false hf]
    refine Zrun ?_
    refine RW.val (Y.fGeq' rfl rfl) rfl ?_
    rcases finite_geq x hf with e | ⟨e, e2⟩
    · rw [e]
      refine Zrun ?_
      exact retQ_ret [_] h ⟨rfl, trivial⟩ hs rfl
    · rw [e]
      refine Zrun ?_
      refine RW.val (Y.fLeq' rfl rfl) rfl ?_
      rw [e2]
      refine Zrun ?_
      exact retQ_ret [_] h ⟨rfl, trivial⟩ hs rfl
theorem refTidy_con (x : Nat) (w : World) (h : GHeap) : Con Tryz.prog 50 [.float .f64 x] w h (fun _ v => v = .tuple #[.float .f64 (tidySpec x).1, .bool (tidySpec x).2]) := by
  refine Con.of_body Tryz.func50 rfl Tryz.ntmps50 rfl rfl ?_
  intro hs
  refine Zrun ?_
  (refine RW.call T hs rfl rfl rfl (refFinite_con x _ _) ?_; intro v h1 w1 hle1 hp1 hs)
  subst hp1
  by_cases hf : finF x
  · rw [decide_eq_true hf]
    refine Zrun ?_
    refine RW.val (Y.fEql hf fin0 rfl rfl) rfl ?_
    rw [zF0]
    unfold tidySpec
    rw [if_pos hf]
    by_cases hz : zF x = 0
    · refine Zrun ?_
      exact retQ_ret [_, _] h1 ⟨rfl, rfl, trivial⟩ hs (by rw [if_pos hz]; rfl)
    · refine Zrun ?_
      exact retQ_ret [_, _] h1 ⟨rfl, rfl, trivial⟩ hs (by rw [if_neg hz]; rfl)
  · rw [decide_eq_false hf]
    unfold tidySpec
    rw [if_neg hf]
    refine Zrun ?_
    exact retQ_ret [_, _] h1 ⟨rfl, rfl, trivial⟩ hs rfl
theorem tidy0 : tidyF 0 := ⟨by omega, fin0, by omega⟩
theorem refBits_con (a b : Nat) (w : World) (h : GHeap) (ha : tidyF a) (hb : tidyF b) : Con Tryz.prog 152 [.float .f64 a, .float .f64 b] w h (fun _ v => v = .bool (decide (a = b))) := by
  refine Con.of_body Tryz.func152 rfl Tryz.ntmps152 rfl rfl ?_
  intro hs
  refine Zrun ?_
  refine RW.val (Y.fEql ha.2.1 hb.2.1 rfl rfl) rfl ?_
  by_cases e : a = b
  · subst e
    rw [decide_eq_true (show zF a = zF a from rfl), decide_eq_true (show a = a from rfl)]
    refine Zrun ?_
    refine RW.val (Y.fNeq ha.2.1 fin0 rfl rfl) rfl ?_
    by_cases z : a = 0
    · subst z
      rw [decide_eq_false (show ¬ (zF 0 ≠ zF 0) from fun e => e rfl)]
      refine Zrun ?_
      refine RW.val (Y.fQuo (r := 9218868437227405312) rfl rfl (by rfl)) rfl ?_
      refine Zrun ?_
      refine RW.val (Y.fQuo (r := 9218868437227405312) rfl rfl (by rfl)) rfl ?_
      refine Zrun ?_
      refine RW.val (Y.fEql' rfl rfl) rfl ?_
      rw [show (ordF 9218868437227405312 9218868437227405312 == some .eq) = true by decide]
      refine Zrun ?_
      exact retQ_ret [_] h ⟨rfl, trivial⟩ hs rfl
    · rw [decide_eq_true (show zF a ≠ zF 0 from fun e => z (zF_inj ha tidy0 e))]
      refine Zrun ?_
      exact retQ_ret [_] h ⟨rfl, trivial⟩ hs rfl
  · rw [decide_eq_false e, decide_eq_false (show ¬ zF a = zF b from fun e' => e (zF_inj ha hb e'))]
    refine Zrun ?_
    exact retQ_ret [_] h ⟨rfl, trivial⟩ hs rfl
/-- the same integers? -/
theorem refInts_con (s t : Value) (l m : List Int) (w : World) (h : GHeap) (hl : IntsAt h s l) (ht : IntsAt h t m) (hm : l.length ≤ 9223372036854775807) : Con Tryz.prog 70 [s, t] w h (fun _ v => v = .bool (decide (l = m))) := by
  obtain ⟨ad, cp, rfl, hS⟩ := hl
  obtain ⟨ad2, cp2, rfl, hS2⟩ := ht
  refine Con.of_body Tryz.func70 rfl Tryz.ntmps70 rfl rfl ?_
  intro hs
  refine Zrun ?_
  refine CW.condD rfl (fun h8 => ?_) (fun h8 => ?_)
  · refine Zrun ?_
    refine retQ_ret [_] h ⟨rfl, trivial⟩ hs ?_
    have : l ≠ m := fun e => h8 (by rw [e])
    simp [packv, this]
  have hlen : l.length = m.length := by omega
  refine Zrun ?_
  refine CW.loop (fun k : Nat => [(0, .slice ad l.length cp), (1, .slice ad2 m.length cp2), (5, .int .i64 k)]) (fun k w' => k ≤ l.length ∧ (∀ j, j < k → l.getD j 0 = m.getD j 0) ∧ Sees w h h [] w') (fun k => l.length - k) 0 ⟨rfl, rfl, rfl, trivial⟩ ⟨by omega, by omega, hs⟩ ?_
  rintro k w' ⟨hk, hno, hs⟩
  by_cases hlt : k < l.length
  · refine Zrun ?_
    refine CW.regionQ T hs (Zqrun ?_) (by kernel_rfl)
    intro w' hs
    refine Zrun ?_
    refine CW.condD rfl (fun h2 => ?_) (fun h2 => ?_)
    · refine Zrun ?_
      refine retQ_ret [_] h ⟨rfl, trivial⟩ hs ?_
      have : l ≠ m := fun e => h2 (by rw [e])
      simp [packv, this]
    · refine Zrun ?_
      refine loopQ_round (k + 1) ⟨rfl, rfl, rfl, trivial⟩ ⟨by omega, ?_, hs⟩ (by omega)
      intro j hj
      by_cases e : j = k
      · subst e; exact Decidable.of_not_not h2
      · exact hno j (by omega)
  obtain rfl : k = l.length := by omega
  refine Zrun ?_
  refine retQ_ret [_] h ⟨rfl, trivial⟩ hs ?_
  have : l = m := by
    apply List.ext_getElem hlen
    intro j h1 h2
    have := hno j h1
    simpa [List.getD_eq_getElem?_getD, h1, h2] using this
  simp [packv, this]

section
variable {α : Type} {R : GHeap → List Value → α → Prop}
theorem refCount_step (hR : Mono R) (most : Int) (ih : ∀ cs a w h, R h cs a → Con Tryz.prog 45 [.agg cs.toArray, .int .i64 most] w h (fun _ u => ∃ r, u = .int .i64 r))
    (cs : List Value) (p : PlainD α) (w : World) (h : GHeap) (hp : PlainR R h cs p) : Con Tryz.prog 45 [.agg cs.toArray, .int .i64 most] w h (fun _ u => ∃ r, u = .int .i64 r) := by
  obtain ⟨s, it, rfl, ⟨ad, cp, rfl, hS⟩, ⟨ad2, cp2, xs, rfl, hS2, hA⟩⟩ := hp
  have hlen : p.items.length ≤ 9223372036854775807 := by have := hS2.caps; omega
  refine Con.of_body Tryz.func45 rfl Tryz.ntmps45 rfl rfl ?_
  intro hs
  refine Zrun ?_
  (refine RW.boxN hs rfl rfl ?_; intro b1 w1 hs)
  refine Zerun ?_
  refine RW.val (Y.add' rfl rfl) rfl ?_
  refine RW.val (Y.add' rfl rfl) rfl ?_
  generalize IntKind.i64.wrap (IntKind.i64.wrap _ + 1) = r0
  refine Zerun ?_
  refine CW.loop (fun q : Nat × Int × GHeap => [(1, .int .i64 most), (2, .pointer (some ⟨b1, 0, none⟩)), (5, .int .i64 q.2.1), (6, .int .i64 q.1)]) (fun q w' => q.1 ≤ p.items.length ∧ GLe h q.2.2 ∧ Sees w h q.2.2 [⟨some ⟨b1, 0, none⟩, 1, 1, 25, 3, [.slice ad p.shape.length cp, .slice ad2 p.items.length cp2, .int .i64 p.fill]⟩] w') (fun q => p.items.length - q.1) (0, r0, h) ⟨rfl, rfl, rfl, rfl, trivial⟩ ⟨by omega, GLe.refl _, hs⟩ ?_
  rintro ⟨i, r, hh⟩ w2 ⟨hi, hg, hs⟩
  dsimp only at hi hg hs ⊢
  have hS2 := hS2.mono hg
  by_cases hlt : i < p.items.length
  · obtain ⟨bx, hx4, hx1, ⟨ad3, cp3, ys, rfl, hS3, hA3⟩, hx2, hq0, hq1, hq2, hq3⟩ := ItemAt.cells hA i hlt
    have hS3 := hS3.mono hg
    generalize p.items.getD i noItem = x at *
    by_cases hle : r ≤ most
    · refine Zerun ?_
      refine CW.loop (fun q : Nat × Int × GHeap => [(1, .int .i64 most), (2, .pointer (some ⟨b1, 0, none⟩)), (5, .int .i64 q.2.1), (6, .int .i64 i), (7, .int .i64 q.1)]) (fun q w' => q.1 ≤ x.box.length ∧ GLe hh q.2.2 ∧ Sees w h q.2.2 [⟨some ⟨b1, 0, none⟩, 1, 1, 25, 3, [.slice ad p.shape.length cp, .slice ad2 p.items.length cp2, .int .i64 p.fill]⟩] w') (fun q => x.box.length - q.1) (0, r, hh) ⟨rfl, rfl, rfl, rfl, rfl, trivial⟩ ⟨by omega, GLe.refl _, hs⟩ ?_
      rintro ⟨j, r2, h3⟩ w3 ⟨hj, hg3, hs⟩
      dsimp only at hj hg3 hs ⊢
      have hS2 := hS2.mono hg3
      have hS3 := hS3.mono hg3
      have hbl : x.box.length ≤ 9223372036854775807 := by have := hS3.caps; omega
      by_cases hlt3 : j < x.box.length
      · by_cases hle3 : r2 ≤ most
        · obtain ⟨y, hy, hR3, hR3l⟩ : ∃ y, (ys.drop (j * 3)).take 3 = y ∧ (∃ a, R h y a) ∧ y.length = 3 := by
            obtain ⟨h1, h2⟩ := hA3.get (x.box[j]) j hlt3
            exact ⟨_, rfl, ⟨_, h1⟩, h2⟩
          obtain ⟨a, hRa⟩ := hR3
          have hRa := hR _ _ _ _ (hg.trans hg3) hRa
          refine Zerun ?_
          (refine RW.call T hs rfl rfl rfl (ih _ a _ _ hRa) ?_; intro v h4 w4 hle4 hp4 hs)
          obtain ⟨r4, rfl⟩ := hp4
          refine RW.val (Y.add' rfl rfl) rfl ?_
          generalize IntKind.i64.wrap (r2 + r4) = r5
          refine Zerun ?_
          exact loopQ_round (j + 1, r5, h4) ⟨rfl, rfl, rfl, rfl, rfl, trivial⟩ ⟨by dsimp only; omega, hg3.trans hle4, hs⟩ (by dsimp only; omega)
        · refine Zerun ?_
          exact loopQ_round (i + 1, r2, h3) ⟨rfl, rfl, rfl, rfl, trivial⟩ ⟨by dsimp only; omega, hg.trans hg3, hs⟩ (by dsimp only; omega)
      · refine Zerun ?_
        exact loopQ_round (i + 1, r2, h3) ⟨rfl, rfl, rfl, rfl, trivial⟩ ⟨by dsimp only; omega, hg.trans hg3, hs⟩ (by dsimp only; omega)
    · refine Zerun ?_
      exact retQ_ret [_] hh ⟨rfl, trivial⟩ hs.dropAll ⟨_, rfl⟩
  · refine Zerun ?_
    exact retQ_ret [_] hh ⟨rfl, trivial⟩ hs.dropAll ⟨_, rfl⟩
end
theorem refCount_con (most : Int) : ∀ (k : Nat) (cs : List Value) (p : PD k) (w : World) (h : GHeap), PlainAt k h cs p → Con Tryz.prog 45 [.agg cs.toArray, .int .i64 most] w h (fun _ u => ∃ r, u = .int .i64 r)
  | 0, _, _, _, _, hp => hp.elim
  | k + 1, cs, p, w, h, hp => refCount_step (PlainAt.mono k) most (refCount_con most k) cs p w h hp
end Go.Proofs.YtmojpbfkpggjhaaGreat

/-
  Contracts of the document's answer: what is wrong with a plain array. No statement is proved here.
-/
namespace Go.Proofs.YtmojpbfkpggjhaaGreat
open Go Go.RowKit
set_option linter.unusedVariables false
set_option linter.unusedSimpArgs false
set_option maxHeartbeats 4000000
attribute [local irreducible] CW RW QW SW HW ConM retM heldQ calmQ elemP thenQ blockQ loopQ joinQ retQ Yields Con Sl zF magR unitF truncF fwF wholeF tidySpec elemQ rankF leastN tidyW

theorem drop_getD {α : Type} (l : List α) (i : Nat) (d : α) (h : i < l.length) : l.drop i = l.getD i d :: l.drop (i + 1) := by
  rw [List.getD_eq_getElem?_getD, List.getElem?_eq_getElem h]
  exact List.drop_eq_getElem_cons h
theorem len1 {α : Type} {l : List α} (h : l.length = 1) : ∃ b, l = [b] := by
  match l, h with
  | [b], _ => exact ⟨b, rfl⟩
section
variable {α : Type} {R : GHeap → List Value → α → Prop}
theorem AllN.first {sz : Nat} {R' : List Value → α → Prop} {xs : List Value} {b : α} (hA : AllN sz R' xs [b]) : ∃ y, (xs.drop (0 * sz)).take sz = y ∧ y.length = sz ∧ R' y b := ⟨_, rfl, by simpa using hA.1, by simpa using hA.2.1⟩
theorem item_one {x : ItemD α} {bx : Value} (h : bx.oneCell' = true) : ([.int .i64 x.kind, .float .f64 x.num, .int .i32 x.char, bx] : List Value).all Value.oneCell' = true := by
  simp only [List.all_cons, List.all_nil, h, Bool.and_true]
  rfl
theorem refchk_step (hR : Mono R) (F : Int → α → Int) (ih : ∀ d cs a w h, 0 ≤ d → d ≤ 40 → R h cs a → Con Tryz.prog 104 [.agg cs.toArray, .int .i64 d] w h (fun _ u => u = .int .i64 (F d a)))
    (d : Int) (cs : List Value) (p : PlainD α) (w : World) (h : GHeap) (hd0 : 0 ≤ d) (hd4 : d ≤ 40) (hp : PlainR R h cs p) : Con Tryz.prog 104 [.agg cs.toArray, .int .i64 d] w h (fun _ u => u = .int .i64 (chkP (F (d - 1)) d p)) := by
  obtain ⟨s, it, rfl, hl, ⟨ad2, cp2, xs, rfl, hS2, hA⟩⟩ := hp
  have hl' := hl
  obtain ⟨ad, cp, rfl, hS⟩ := hl
  have hsl : p.shape.length ≤ 9223372036854775807 := by have := hS.caps; omega
  have hlen : p.items.length ≤ 9223372036854775807 := by have := hS2.caps; omega
  refine Con.of_body Tryz.func104 rfl Tryz.ntmps104 rfl rfl ?_
  intro hs
  refine Zrun ?_
  (refine RW.boxN hs rfl rfl ?_; intro b1 w1 hs)
  refine Zerun ?_
  by_cases c1 : d = 0
  · refine Zerun ?_
    exact retQ_ret [_] h ⟨rfl, trivial⟩ hs.dropAll (by unfold chkP; rw [if_pos (.inl c1)]; rfl)
  by_cases c2 : p.fill < 0
  · refine Zerun ?_
    exact retQ_ret [_] h ⟨rfl, trivial⟩ hs.dropAll (by unfold chkP; rw [if_pos (.inr (.inl c2))]; rfl)
  by_cases c3 : 2 < p.fill
  · refine Zerun ?_
    exact retQ_ret [_] h ⟨rfl, trivial⟩ hs.dropAll (by unfold chkP; rw [if_pos (.inr (.inr c3))]; rfl)
  have e1 : chkP (F (d - 1)) d p = if (product p.shape 1048576).2 ≠ 0 then (product p.shape 1048576).2 else if (product p.shape 1048576).1 ≠ p.items.length then 23 else chkIt (F (d - 1)) p.fill p.items true := by
    unfold chkP; rw [if_neg (by omega)]
  refine Zerun ?_
  (refine RW.call T hs rfl rfl rfl (refProduct_con _ p.shape 1048576 _ _ hl' hsl) ?_; intro v h2 w2 hle2 hp2 hs)
  subst hp2
  generalize product p.shape 1048576 = r at e1 ⊢
  obtain ⟨n, e⟩ := r
  dsimp only at e1 ⊢
  by_cases c4 : e ≠ 0
  · rw [if_pos c4] at e1
    refine Zerun ?_
    exact retQ_ret [_] h2 ⟨rfl, trivial⟩ hs.dropAll (by rw [e1]; rfl)
  rw [if_neg c4] at e1
  by_cases c5 : n ≠ p.items.length
  · rw [if_pos c5] at e1
    refine Zerun ?_
    exact retQ_ret [_] h2 ⟨rfl, trivial⟩ hs.dropAll (by rw [e1]; rfl)
  rw [if_neg c5] at e1
  refine Zerun ?_
  rw [e1]
  clear e1
  generalize htot : chkIt (F (d - 1)) p.fill p.items true = tot
  refine CW.loop (fun q : Nat × Bool × GHeap => [(1, .int .i64 d), (2, .pointer (some ⟨b1, 0, none⟩)), (7, .bool q.2.1), (8, .int .i64 q.1)]) (fun q w' => q.1 ≤ p.items.length ∧ GLe h q.2.2 ∧ tot = chkIt (F (d - 1)) p.fill (p.items.drop q.1) q.2.1 ∧ Sees w h q.2.2 [⟨some ⟨b1, 0, none⟩, 1, 1, 25, 3, [.slice ad p.shape.length cp, .slice ad2 p.items.length cp2, .int .i64 p.fill]⟩] w') (fun q => p.items.length - q.1) (0, true, h2) ⟨rfl, rfl, rfl, rfl, trivial⟩ ⟨by omega, hle2, htot.symm, hs⟩ ?_
  rintro ⟨i, g, hh⟩ w2 ⟨hi, hg, hck, hs⟩
  dsimp only at hi hg hck hs ⊢
  have hS2 := hS2.mono hg
  by_cases hlt : i < p.items.length
  · obtain ⟨bx, hx4, hx1, ⟨ad3, cp3, ys, rfl, hS3, hA3⟩, hx2, hq0, hq1, hq2, hq3⟩ := ItemAt.cells hA i hlt
    have hS3 := hS3.mono hg
    rw [drop_getD _ _ noItem hlt] at hck
    generalize p.items.getD i noItem = x at *
    have hoc := item_one (x := x) hx1
    unfold chkIt at hck
    refine Zerun ?_
    (refine RW.allocN T hs rfl rfl rfl rfl ?_; intro b3 w3 hs)
    (refine RW.storeAll T hs 0 rfl rfl rfl rfl rfl rfl hoc rfl ?_; intro w4 hs)
    refine Zerun ?_
    by_cases k1 : x.kind ≠ p.fill
    · rw [if_pos (.inl k1)] at hck
      refine Zerun ?_
      exact retQ_ret [_] hh ⟨rfl, trivial⟩ hs.dropAll (by rw [hck]; rfl)
    by_cases k2 : x.kind = 2
    · by_cases k3 : x.box.length ≠ 1
      · rw [if_pos (.inr ⟨k2, k3⟩)] at hck
        refine Zerun ?_
        exact retQ_ret [_] hh ⟨rfl, trivial⟩ hs.dropAll (by rw [hck]; rfl)
      rw [if_neg (by omega)] at hck
      obtain ⟨b, hb⟩ := len1 (Decidable.of_not_not k3)
      rw [hb] at hA3 hck
      obtain ⟨y, hy, hyl, hRb⟩ := hA3.first
      have hRb := hR _ _ _ _ hg hRb
      refine Zerun ?_
      (refine RW.call T hs rfl rfl rfl (ih (d - 1) _ b _ _ (by omega) (by omega) hRb) ?_; intro v h5 w5 hle5 hp5 hs)
      subst hp5
      simp only [List.map_cons, List.map_nil, List.headD_cons] at hck
      by_cases k4 : F (d - 1) b ≠ 0
      · rw [if_pos ⟨k2, k4⟩] at hck
        refine Zerun ?_
        exact retQ_ret [_] h5 ⟨rfl, trivial⟩ hs.dropAll (by rw [hck]; rfl)
      rw [if_neg (fun e => k4 e.2), decide_eq_true (show x.kind ≠ 0 ∨ finF x.num from .inl (by omega)), Bool.and_true] at hck
      cases g with
      | true =>
        refine Zerun ?_
        exact loopQ_round (i + 1, true, h5) ⟨rfl, rfl, rfl, rfl, trivial⟩ ⟨by dsimp only; omega, hg.trans hle5, hck, hs.drop⟩ (by dsimp only; omega)
      | false =>
        refine Zerun ?_
        exact loopQ_round (i + 1, false, h5) ⟨rfl, rfl, rfl, rfl, trivial⟩ ⟨by dsimp only; omega, hg.trans hle5, hck, hs.drop⟩ (by dsimp only; omega)
    · rw [if_neg (by omega), if_neg (fun e => k2 e.1)] at hck
      cases g with
      | true =>
        by_cases k5 : x.kind = 0
        · rw [decide_eq_decide.2 (show (x.kind ≠ 0 ∨ finF x.num) ↔ finF x.num from ⟨fun e => e.resolve_left (fun e' => e' k5), .inr⟩), Bool.true_and] at hck
          refine Zerun ?_
          (refine RW.call T hs rfl rfl rfl (refFinite_con _ _ _) ?_; intro v h5 w5 hle5 hp5 hs)
          subst hp5
          refine Zerun ?_
          exact loopQ_round (i + 1, decide (finF x.num), h5) ⟨rfl, rfl, rfl, rfl, trivial⟩ ⟨by dsimp only; omega, hg.trans hle5, hck, hs.drop⟩ (by dsimp only; omega)
        · rw [decide_eq_true (show x.kind ≠ 0 ∨ finF x.num from .inl k5), Bool.and_true] at hck
          refine Zerun ?_
          exact loopQ_round (i + 1, true, hh) ⟨rfl, rfl, rfl, rfl, trivial⟩ ⟨by dsimp only; omega, hg, hck, hs.drop⟩ (by dsimp only; omega)
      | false =>
        rw [Bool.false_and] at hck
        refine Zerun ?_
        exact loopQ_round (i + 1, false, hh) ⟨rfl, rfl, rfl, rfl, trivial⟩ ⟨by dsimp only; omega, hg, hck, hs.drop⟩ (by dsimp only; omega)
  · obtain rfl : i = p.items.length := by omega
    rw [List.drop_length] at hck
    unfold chkIt at hck
    cases g with
    | true =>
      refine Zerun ?_
      exact retQ_ret [_] hh ⟨rfl, trivial⟩ hs.dropAll (by rw [hck]; rfl)
    | false =>
      refine Zerun ?_
      exact retQ_ret [_] hh ⟨rfl, trivial⟩ hs.dropAll (by rw [hck]; rfl)
end
theorem refchk_con : ∀ (k : Nat) (d : Int) (cs : List Value) (p : PD k) (w : World) (h : GHeap), 0 ≤ d → d ≤ 40 → PlainAt k h cs p → Con Tryz.prog 104 [.agg cs.toArray, .int .i64 d] w h (fun _ u => u = .int .i64 (chk k d p))
  | 0, _, _, _, _, _, _, _, hp => hp.elim
  | k + 1, d, cs, p, w, h, h0, h4, hp => refchk_step (PlainAt.mono k) (chk k) (refchk_con k) d cs p w h h0 h4 hp
theorem refCheck_con (k : Nat) (cs : List Value) (p : PD k) (w : World) (h : GHeap) (hp : PlainAt k h cs p) : Con Tryz.prog 46 [.agg cs.toArray] w h (fun _ u => u = .int .i64 (chk k 40 p)) := by
  have hp' := hp
  cases k with
  | zero => exact hp.elim
  | succ k =>
    obtain ⟨s, it, rfl, _⟩ := hp
    refine Con.of_body Tryz.func46 rfl Tryz.ntmps46 rfl rfl ?_
    intro hs
    refine Zrun ?_
    (refine RW.boxN hs rfl rfl ?_; intro b1 w1 hs)
    refine Zerun ?_
    (refine RW.call T hs rfl rfl rfl (refchk_con _ 40 _ _ _ _ (by omega) (by omega) hp') ?_; intro v h2 w2 hle2 hp2 hs)
    subst hp2
    refine Zerun ?_
    exact retQ_ret [_] h2 ⟨rfl, trivial⟩ hs.dropAll rfl
end Go.Proofs.YtmojpbfkpggjhaaGreat

/-
  Contracts of the document's answer: plain arrays tidied. No statement is proved here.
-/
namespace Go.Proofs.YtmojpbfkpggjhaaGreat
open Go Go.RowKit
set_option linter.unusedVariables false
set_option linter.unusedSimpArgs false
set_option maxHeartbeats 4000000
attribute [local irreducible] CW RW QW SW HW ConM retM heldQ calmQ elemP thenQ blockQ loopQ joinQ retQ Yields Con Sl zF magR unitF truncF fwF wholeF tidySpec elemQ rankF leastN tidyW

theorem Sees.src0 {w0 w : World} {h0 h : GHeap} {O : List Row} {b m cp sz : Nat} {e : TypeId} {xs : List Value} (hs : Sees w0 h0 h (⟨some ⟨b, 0, none⟩, m, cp, e, sz, xs⟩ :: O) w) (hl : xs.length = m * sz) (h1 : ∀ u ∈ xs, u.oneCell' = true) : Src w (some ⟨b, 0, none⟩) m sz xs := by
  refine ⟨hl, h1, by simp, fun p hp j u hj => ?_⟩
  cases hp
  rw [Addr.add_lit]
  exact hs.rowCell (k := 0) rfl (by simpa using hj)
def Siz {α : Type} (n : Nat) (R : GHeap → List Value → α → Prop) : Prop := ∀ h cs a, R h cs a → cs.length = n
theorem PlainR.siz {α : Type} {R : GHeap → List Value → α → Prop} : Siz 3 (PlainR R) := by rintro h cs p ⟨s, it, rfl, _⟩; rfl
theorem PlainAt.siz : (k : Nat) → Siz 3 (PlainAt k)
  | 0 => fun _ _ _ h => h.elim
  | k + 1 => PlainR.siz
theorem product_le {s : List Int} {n : Nat} (h : product s 1048576 = ((n : Int), 0)) : s.length ≤ 8 ∧ n ≤ 1048576 := by
  have hg : goodS s = true := (goodS_iff _).2 (by rw [h])
  have hs := (goodS_spec _).1 hg
  have hp := product_good _ hg
  rw [h] at hp
  have he : (n : Int) = if 0 ∈ s then 0 else pr s := congrArg Prod.fst hp
  refine ⟨hs.1, ?_⟩
  split at he <;> omega
theorem take_succ_getD {α : Type} (l : List α) (i : Nat) (d : α) (h : i < l.length) : l.take (i + 1) = l.take i ++ [l.getD i d] := by
  rw [List.take_add_one, List.getD_eq_getElem?_getD, List.getElem?_eq_getElem h]; rfl
section
variable {α : Type} {R : GHeap → List Value → α → Prop}
theorem ItemAt.mk' {h : GHeap} {bx : Value} {x : ItemD α} (hb : RowsAt 3 (R h) h bx x.box) (hn : x.num < 18446744073709551616) : ItemAt R h [.int .i64 x.kind, .float .f64 x.num, .int .i32 x.char, bx] x := ⟨bx, rfl, hb, hn⟩
theorem refTidyP_step (hR : Mono R) (h1 : One R) (h3 : Siz 3 R) (f : α → α) (q : α → Prop) (ih : ∀ cs a w h, R h cs a → q a → Con Tryz.prog 12 [.agg cs.toArray] w h (fun h' u => ∃ cs', u = .agg cs'.toArray ∧ R h' cs' (f a)))
    (cs : List Value) (p : PlainD α) (w : World) (h : GHeap) (hp : PlainR R h cs p) (h0 : 0 ≤ p.fill) (h2 : p.fill ≤ 2) (hq : ∀ x ∈ p.items, okIt q p.fill x) (hn : p.items.length ≤ 1048576) :
    Con Tryz.prog 12 [.agg cs.toArray] w h (fun h' u => ∃ cs', u = .agg cs'.toArray ∧ PlainR R h' cs' (tidyP f p)) := by
  obtain ⟨s, it, rfl, hl, ⟨ad2, cp2, xs, rfl, hS2, hA⟩⟩ := hp
  have hl' := hl
  obtain ⟨ad, cp, rfl, hS⟩ := hl
  refine Con.of_body Tryz.func12 rfl Tryz.ntmps12 rfl rfl ?_
  intro hs
  refine Zrun ?_
  (refine RW.boxN hs rfl rfl ?_; intro b1 w1 hs)
  (refine RW.allocN T hs rfl rfl rfl rfl ?_; intro b2 w2 hs)
  refine Zerun ?_
  refine RW.val (Y.build T rfl rfl rfl rfl rfl rfl rfl) rfl ?_
  (refine RW.allocN T hs rfl rfl rfl rfl ?_; intro b3 w3 hs)
  (refine RW.storeAll T hs 0 rfl rfl rfl rfl rfl rfl rfl rfl ?_; intro w4 hs)
  refine Zerun ?_
  have hs := hs.nilRow 69 4
  refine CW.loop (fun u : Nat × Option Addr × Nat × List Value × GHeap => [(1, .pointer (some ⟨b1, 0, none⟩)), (2, .pointer (some ⟨b2, 0, none⟩)), (3, .pointer (some ⟨b3, 0, none⟩)), (4, .int .i64 u.1)]) (fun u w' => u.1 ≤ p.items.length ∧ GLe h u.2.2.2.2 ∧ AllN 4 (ItemAt R u.2.2.2.2) u.2.2.2.1 ((p.items.take u.1).map (tidyIt f)) ∧ Sees w h u.2.2.2.2 [⟨u.2.1, u.1, u.2.2.1, 69, 4, u.2.2.2.1⟩, ⟨some ⟨b3, 0, none⟩, 1, 1, 25, 3, [.slice ad p.shape.length cp, .slice u.2.1 u.1 u.2.2.1, .int .i64 p.fill]⟩, ⟨some ⟨b2, 0, none⟩, 1, 1, 25, 3, [.slice none 0 0, .slice none 0 0, .int .i64 0]⟩, ⟨some ⟨b1, 0, none⟩, 1, 1, 25, 3, [.slice ad p.shape.length cp, .slice ad2 p.items.length cp2, .int .i64 p.fill]⟩] w') (fun u => p.items.length - u.1) (0, none, 0, [], h) ⟨rfl, rfl, rfl, rfl, trivial⟩ ⟨by omega, GLe.refl _, rfl, hs⟩ ?_
  rintro ⟨i, ra, rc, vs, hh⟩ w5 ⟨hi, hg, hAv, hs⟩
  dsimp only at hi hg hAv hs ⊢
  have hS2 := hS2.mono hg
  by_cases hlt : i < p.items.length
  · obtain ⟨bx, hx4, hx1, ⟨ad3, cp3, ys, rfl, hS3, hA3⟩, hx2, hq0, hq1, hq2, hq3⟩ := ItemAt.cells hA i hlt
    have hS3 := hS3.mono hg
    have hx := hq (p.items.getD i noItem) (mem_getD _ _ _ hlt)
    have htk := take_succ_getD p.items i noItem hlt
    generalize p.items.getD i noItem = x at *
    obtain ⟨hxk, hxb, hxf⟩ := hx
    obtain ⟨kd, nm, ch, bl⟩ := x
    dsimp only at hx4 hx1 hA3 hx2 hq0 hq1 hq2 hq3 hS3 hxk hxb hxf
    have hkk : kd = 0 ∨ kd = 1 ∨ kd = 2 := by omega
    have done : ∀ (h6 : GHeap) (cs6 : List Value), GLe hh h6 → ItemAt R h6 cs6 (tidyIt f ⟨kd, nm, ch, bl⟩) → AllN 4 (ItemAt R h6) (vs ++ cs6) ((p.items.take (i + 1)).map (tidyIt f)) := by
      intro h6 cs6 hle6 hi6
      rw [htk, List.map_append]
      exact (hAv.mono (fun u a => ItemAt.mono hR _ _ u a hle6)).append (AllN.one (by obtain ⟨_, rfl, _⟩ := hi6; rfl) hi6)
    refine Zerun ?_
    refine RW.val (Y.build T rfl rfl rfl rfl rfl rfl rfl) rfl ?_
    (refine RW.allocN T hs rfl rfl rfl rfl ?_; intro b6 w6 hs)
    (refine RW.storeAll T hs 0 rfl rfl rfl rfl rfl rfl rfl rfl ?_; intro w7 hs)
    refine Zerun ?_
    rcases hkk with rfl | rfl | rfl
    · refine Zerun ?_
      (refine RW.call T hs rfl rfl rfl (refTidy_con _ _ _) ?_; intro v h8 w8 hle8 hp8 hs)
      subst hp8
      refine Zerun ?_
      (refine RW.store1 T hs 0 rfl rfl rfl rfl rfl rfl rfl rfl ?_; intro w9 hs)
      refine Zerun ?_
      (refine RW.lit T hs (vs := [.agg [.int .i64 0, .float .f64 (tidySpec nm).1, .int .i32 0, .slice none 0 0].toArray]) (cs := [.int .i64 0, .float .f64 (tidySpec nm).1, .int .i32 0, .slice none 0 0]) rfl rfl rfl rfl (by simp [Value.cells]) rfl rfl rfl rfl rfl ?_; intro b10 w10 hs)
      (refine RW.append T hs 2 rfl rfl (m := 1) (news := [.int .i64 0, .float .f64 (tidySpec nm).1, .int .i32 0, .slice none 0 0]) rfl rfl rfl rfl rfl rfl (hs.src0 rfl (by simp [Value.oneCell'])) (by simp) (by dsimp only; omega) (by omega) ?_; intro ad11 cp11 w11 hs; replace hs := hs.drop)
      refine Zerun ?_
      (refine RW.store1 T hs 2 rfl rfl rfl rfl rfl rfl rfl rfl ?_; intro w12 hs)
      refine Zerun ?_
      have ht : tidyIt f (⟨0, nm, ch, bl⟩ : ItemD α) = ⟨0, (tidySpec nm).1, 0, []⟩ := by unfold tidyIt tidyW; rfl
      exact loopQ_round (i + 1, ad11, cp11, _, h8) ⟨rfl, rfl, rfl, rfl, trivial⟩ ⟨by dsimp only; omega, hg.trans hle8, done h8 _ hle8 (by rw [ht]; exact ItemAt.mk' (x := ⟨0, (tidySpec nm).1, 0, []⟩) (RowsAt.nil _) (tidy_tidy nm hx2 (hxf rfl)).1), hs.drop⟩ (by dsimp only; omega)
    · refine Zerun ?_
      (refine RW.store1 T hs 0 rfl rfl rfl rfl rfl rfl rfl rfl ?_; intro w9 hs)
      refine Zerun ?_
      (refine RW.lit T hs (vs := [.agg [.int .i64 1, .float .f64 0, .int .i32 ch, .slice none 0 0].toArray]) (cs := [.int .i64 1, .float .f64 0, .int .i32 ch, .slice none 0 0]) rfl rfl rfl rfl (by simp [Value.cells]) rfl rfl rfl rfl rfl ?_; intro b10 w10 hs)
      (refine RW.append T hs 2 rfl rfl (m := 1) (news := [.int .i64 1, .float .f64 0, .int .i32 ch, .slice none 0 0]) rfl rfl rfl rfl rfl rfl (hs.src0 rfl (by simp [Value.oneCell'])) (by simp) (by dsimp only; omega) (by omega) ?_; intro ad11 cp11 w11 hs; replace hs := hs.drop)
      refine Zerun ?_
      (refine RW.store1 T hs 2 rfl rfl rfl rfl rfl rfl rfl rfl ?_; intro w12 hs)
      refine Zerun ?_
      have ht : tidyIt f (⟨1, nm, ch, bl⟩ : ItemD α) = ⟨1, 0, ch, []⟩ := by unfold tidyIt; rfl
      exact loopQ_round (i + 1, ad11, cp11, _, hh) ⟨rfl, rfl, rfl, rfl, trivial⟩ ⟨by dsimp only; omega, hg, done hh _ (GLe.refl _) (by rw [ht]; exact ItemAt.mk' (x := ⟨1, 0, ch, []⟩) (RowsAt.nil _) (Nat.succ_pos _)), hs.drop⟩ (by dsimp only; omega)
    · obtain ⟨b, hbl, hqb⟩ := hxb rfl
      have hbl1 : bl.length = 1 := by rw [hbl]; rfl
      rw [hbl] at hA3
      obtain ⟨y, hy, hyl, hRb⟩ := hA3.first
      have hRb := hR _ _ _ _ hg hRb
      refine Zerun ?_
      (refine RW.call T hs rfl rfl rfl (ih _ b _ _ hRb hqb) ?_; intro v h8 w8 hle8 hp8 hs)
      obtain ⟨cs8, rfl, hR8⟩ := hp8
      have hl8 := h3 _ _ _ hR8
      have ho8 := h1 _ _ _ hR8
      (refine RW.lit T hs (vs := [.agg cs8.toArray]) (cs := cs8) rfl rfl rfl rfl (by simp [Value.cells, hl8]) rfl (by simp [Value.cells]) rfl rfl rfl ?_; intro b9 w9 hs)
      refine Zerun ?_
      (refine RW.store1 T hs 1 rfl rfl rfl rfl rfl rfl rfl rfl ?_; intro w10 hs)
      obtain ⟨h11, hle11, hs, hS11⟩ := hs.freeze
      have hR11 : RowsAt 3 (R h11) h11 (.slice (some ⟨b9, 0, none⟩) 1 1) [f b] := RowsAt.single hS11 (hR _ _ _ _ hle11 hR8)
      refine Zerun ?_
      (refine RW.lit T hs (vs := [.agg [.int .i64 2, .float .f64 0, .int .i32 0, .slice (some ⟨b9, 0, none⟩) 1 1].toArray]) (cs := [.int .i64 2, .float .f64 0, .int .i32 0, .slice (some ⟨b9, 0, none⟩) 1 1]) rfl rfl rfl rfl (by simp [Value.cells]) rfl rfl rfl rfl rfl ?_; intro b12 w12 hs)
      (refine RW.append T hs 2 rfl rfl (m := 1) (news := [.int .i64 2, .float .f64 0, .int .i32 0, .slice (some ⟨b9, 0, none⟩) 1 1]) rfl rfl rfl rfl rfl rfl (hs.src0 rfl (by simp [Value.oneCell'])) (by simp) (by dsimp only; omega) (by omega) ?_; intro ad13 cp13 w13 hs; replace hs := hs.drop)
      refine Zerun ?_
      (refine RW.store1 T hs 2 rfl rfl rfl rfl rfl rfl rfl rfl ?_; intro w14 hs)
      refine Zerun ?_
      have ht : tidyIt f (⟨2, nm, ch, bl⟩ : ItemD α) = ⟨2, 0, 0, [f b]⟩ := by rw [hbl]; unfold tidyIt; rfl
      exact loopQ_round (i + 1, ad13, cp13, _, h11) ⟨rfl, rfl, rfl, rfl, trivial⟩ ⟨by dsimp only; omega, (hg.trans hle8).trans hle11, done h11 _ (hle8.trans hle11) (by rw [ht]; exact ItemAt.mk' (x := ⟨2, 0, 0, [f b]⟩) hR11 (Nat.succ_pos _)), hs.drop⟩ (by dsimp only; omega)
  · obtain rfl : i = p.items.length := by omega
    rw [List.take_length] at hAv
    obtain ⟨h6, hle6, hs, hS6⟩ := hs.freeze
    refine Zerun ?_
    (refine RW.storeAll T hs 1 rfl rfl rfl rfl rfl rfl rfl rfl ?_; intro w7 hs)
    refine Zerun ?_
    refine retQ_ret [_] h6 ⟨resN T hs 1 rfl rfl rfl rfl rfl rfl, trivial⟩ hs.dropAll ⟨_, rfl, _, _, rfl, hl'.mono (hg.trans hle6), ra, rc, vs, by simp [tidyP], ?_, hAv.mono (fun u a => ItemAt.mono hR _ _ u a hle6)⟩
    simpa [tidyP] using hS6
end
theorem refTidyP_con : ∀ (k : Nat) (d : Int) (cs : List Value) (p : PD k) (w : World) (h : GHeap), PlainAt k h cs p → chk k d p = 0 → Con Tryz.prog 12 [.agg cs.toArray] w h (fun h' u => ∃ cs', u = .agg cs'.toArray ∧ PlainAt k h' cs' (tidy k p))
  | 0, _, _, _, _, _, hp, _ => hp.elim
  | k + 1, d, cs, p, w, h, hp, hc => by
    obtain ⟨h1, h2, h3, h4, h5⟩ := (chkP_ok (α := PD k) _ _ _).1 hc
    exact refTidyP_step (PlainAt.mono k) (PlainAt.one k) (PlainAt.siz k) (tidy k) (fun a => chk k (d - 1) a = 0) (fun cs a w h hp hc => refTidyP_con k (d - 1) cs a w h hp hc) cs p w h hp h2 h3 h5 (product_le h4).2
end Go.Proofs.YtmojpbfkpggjhaaGreat

/-
  Contracts of the document's answer: whether plain arrays are the same. No statement is proved here.
-/
namespace Go.Proofs.YtmojpbfkpggjhaaGreat
open Go Go.RowKit
set_option linter.unusedVariables false
set_option linter.unusedSimpArgs false
set_option maxHeartbeats 4000000
attribute [local irreducible] CW RW QW SW HW ConM retM heldQ calmQ elemP thenQ blockQ loopQ joinQ retQ Yields Con Sl zF magR unitF truncF fwF wholeF tidySpec elemQ rankF leastN tidyW

noncomputable def eqB {α : Type} (x y : α) : Bool := @decide (x = y) (Classical.propDecidable _)
theorem eqB_true {α : Type} (x y : α) : eqB x y = true ↔ x = y := by unfold eqB; simp
theorem eqB_of {α : Type} {x y : α} (h : x = y) : eqB x y = true := (eqB_true x y).2 h
theorem eqB_not {α : Type} {x y : α} (h : ¬ x = y) : eqB x y = false := by
  cases e : eqB x y with
  | false => rfl
  | true => exact absurd ((eqB_true x y).1 e) h
theorem AllN.elem {α : Type} {sz : Nat} {R : List Value → α → Prop} {xs : List Value} {l : List α} (hA : AllN sz R xs l) (j : Nat) (hj : j < l.length) : ∃ y, (xs.drop (j * sz)).take sz = y ∧ y.length = sz ∧ R y l[j] := by
  obtain ⟨h1, h2⟩ := hA.get l[j] j hj
  refine ⟨_, rfl, h2, ?_⟩
  rw [List.getD_eq_getElem?_getD, List.getElem?_eq_getElem hj] at h1
  exact h1
theorem take_eq_succ {α : Type} {l m : List α} {j : Nat} (h : l.take j = m.take j) (h1 : j < l.length) (h2 : j < m.length) (e : l[j] = m[j]) : l.take (j + 1) = m.take (j + 1) := by
  rw [List.take_add_one, List.take_add_one, h, List.getElem?_eq_getElem h1, List.getElem?_eq_getElem h2, e]
theorem ne_of_get {α : Type} {l m : List α} {j : Nat} (h1 : j < l.length) (h2 : j < m.length) (e : ¬ l[j] = m[j]) : ¬ l = m := by
  intro h; subst h; exact e rfl
/-- numbers in the form they are kept in -/
def tdyIt {α : Type} (f : α → Prop) (x : ItemD α) : Prop := tidyF x.num ∧ ∀ b ∈ x.box, f b
def tdyP {α : Type} (f : α → Prop) (p : PlainD α) : Prop := ∀ x ∈ p.items, tdyIt f x
def tdy : (k : Nat) → PD k → Prop
  | 0 => fun _ => True
  | k + 1 => tdyP (α := PD k) (tdy k)
section
variable {α : Type} {R : GHeap → List Value → α → Prop}
theorem refItem_step (hR : Mono R) (q : α → Prop) (ih : ∀ cs cs' a b w h, R h cs a → R h cs' b → q a → q b → Con Tryz.prog 53 [.agg cs.toArray, .agg cs'.toArray] w h (fun _ u => u = .bool (eqB a b)))
    (cs cs' : List Value) (x y : ItemD α) (w : World) (h : GHeap) (hx : ItemAt R h cs x) (hy : ItemAt R h cs' y) (qx : tdyIt q x) (qy : tdyIt q y) :
    Con Tryz.prog 110 [.agg cs.toArray, .agg cs'.toArray] w h (fun _ u => u = .bool (eqB x y)) := by
  obtain ⟨bx, rfl, ⟨ad, cp, xs, rfl, hS, hA⟩, _⟩ := hx
  obtain ⟨by_, rfl, ⟨ad2, cp2, ys, rfl, hS2, hA2⟩, _⟩ := hy
  obtain ⟨tx, hqx⟩ := qx
  obtain ⟨ty, hqy⟩ := qy
  have hl1 : x.box.length ≤ 9223372036854775807 := by have := hS.caps; omega
  have hl2 : y.box.length ≤ 9223372036854775807 := by have := hS2.caps; omega
  refine Con.of_body Tryz.func110 rfl Tryz.ntmps110 rfl rfl ?_
  intro hs
  refine Zrun ?_
  (refine RW.boxN hs rfl rfl ?_; intro b1 w1 hs)
  (refine RW.boxN hs rfl rfl ?_; intro b2 w2 hs)
  refine Zerun ?_
  by_cases c1 : x.kind ≠ y.kind
  · refine Zerun ?_
    exact retQ_ret [_] h ⟨rfl, trivial⟩ hs.dropAll (by rw [eqB_not (fun e => c1 (by rw [e]))]; rfl)
  by_cases c2 : x.char ≠ y.char
  · refine Zerun ?_
    exact retQ_ret [_] h ⟨rfl, trivial⟩ hs.dropAll (by rw [eqB_not (fun e => c2 (by rw [e]))]; rfl)
  refine Zerun ?_
  (refine RW.call T hs rfl rfl rfl (refBits_con _ _ _ _ tx ty) ?_; intro v h3 w3 hle3 hp3 hs)
  subst hp3
  have hS := hS.mono hle3
  have hS2 := hS2.mono hle3
  by_cases c3 : ¬ x.num = y.num
  · rw [decide_eq_false c3]
    refine Zerun ?_
    exact retQ_ret [_] h3 ⟨rfl, trivial⟩ hs.dropAll (by rw [eqB_not (fun e => c3 (by rw [e]))]; rfl)
  rw [decide_eq_true (Decidable.of_not_not c3)]
  by_cases c4 : x.box.length ≠ y.box.length
  · refine Zerun ?_
    exact retQ_ret [_] h3 ⟨rfl, trivial⟩ hs.dropAll (by rw [eqB_not (fun e => c4 (by rw [e]))]; rfl)
  refine Zerun ?_
  refine CW.loop (fun j : Nat => [(2, .pointer (some ⟨b1, 0, none⟩)), (3, .pointer (some ⟨b2, 0, none⟩)), (5, .int .i64 j)]) (fun j w' => j ≤ x.box.length ∧ x.box.take j = y.box.take j ∧ Sees w h h3 [⟨some ⟨b2, 0, none⟩, 1, 1, 69, 4, [.int .i64 y.kind, .float .f64 y.num, .int .i32 y.char, .slice ad2 y.box.length cp2]⟩, ⟨some ⟨b1, 0, none⟩, 1, 1, 69, 4, [.int .i64 x.kind, .float .f64 x.num, .int .i32 x.char, .slice ad x.box.length cp]⟩] w') (fun j => x.box.length - j) 0 ⟨rfl, rfl, rfl, trivial⟩ ⟨by omega, rfl, hs⟩ ?_
  rintro j w4 ⟨hj, htk, hs⟩
  by_cases hlt : j < x.box.length
  · obtain ⟨u1, hu1, hl1, hR1⟩ := hA.elem j hlt
    obtain ⟨u2, hu2, hl2, hR2⟩ := hA2.elem j (by omega)
    have hR1 := hR _ _ _ _ hle3 hR1
    have hR2 := hR _ _ _ _ hle3 hR2
    have q1 := hqx _ (List.getElem_mem hlt)
    have q2 := hqy (y.box[j]'(by omega)) (List.getElem_mem _)
    refine Zerun ?_
    refine CW.regionQ T hs (Zeqrun ?_) (by kernel_rfl)
    refine QW.call T hs rfl rfl rfl (fun w => ih _ _ _ _ w _ hR1 hR2 q1 q2) ?_
    by_cases e : x.box[j] = y.box[j]'(by omega)
    · rw [eqB_of e]
      refine Zeqrun ?_
      intro w5 hs
      refine Zerun ?_
      exact loopQ_round (j + 1) ⟨rfl, rfl, rfl, trivial⟩ ⟨by omega, take_eq_succ htk hlt (by omega) e, hs⟩ (by omega)
    · rw [eqB_not e]
      refine Zeqrun ?_
      intro w5 hs
      refine Zerun ?_
      exact retQ_ret [_] h3 ⟨rfl, trivial⟩ hs.dropAll (by rw [eqB_not (fun e' => ne_of_get hlt (by omega) e (by rw [e']))]; rfl)
  · obtain rfl : j = x.box.length := by omega
    rw [List.take_length, Decidable.of_not_not c4, List.take_length] at htk
    refine Zerun ?_
    refine retQ_ret [_] h3 ⟨rfl, trivial⟩ hs.dropAll ?_
    rw [eqB_of]
    · rfl
    · obtain ⟨a1, a2, a3, a4⟩ := x
      obtain ⟨d1, d2, d3, d4⟩ := y
      simp only [ItemD.mk.injEq]
      exact ⟨Decidable.of_not_not c1, Decidable.of_not_not c3, Decidable.of_not_not c2, htk⟩
theorem refSame_step (hR : Mono R) (q : α → Prop) (ih : ∀ cs cs' x y w h, ItemAt R h cs x → ItemAt R h cs' y → tdyIt q x → tdyIt q y → Con Tryz.prog 110 [.agg cs.toArray, .agg cs'.toArray] w h (fun _ u => u = .bool (eqB x y)))
    (cs cs' : List Value) (p r : PlainD α) (w : World) (h : GHeap) (hx : PlainR R h cs p) (hy : PlainR R h cs' r) (qx : tdyP q p) (qy : tdyP q r) :
    Con Tryz.prog 53 [.agg cs.toArray, .agg cs'.toArray] w h (fun _ u => u = .bool (eqB p r)) := by
  obtain ⟨s, it, rfl, hl, ⟨ad, cp, xs, rfl, hS, hA⟩⟩ := hx
  obtain ⟨s2, it2, rfl, hm, ⟨ad2, cp2, ys, rfl, hS2, hA2⟩⟩ := hy
  have hl' := hl
  have hm' := hm
  obtain ⟨ad3, cp3, rfl, hS3⟩ := hl
  obtain ⟨ad4, cp4, rfl, hS4⟩ := hm
  have hl1 : p.items.length ≤ 9223372036854775807 := by have := hS.caps; omega
  have hl2 : r.items.length ≤ 9223372036854775807 := by have := hS2.caps; omega
  have hl3 : p.shape.length ≤ 9223372036854775807 := by have := hS3.caps; omega
  refine Con.of_body Tryz.func53 rfl Tryz.ntmps53 rfl rfl ?_
  intro hs
  refine Zrun ?_
  (refine RW.boxN hs rfl rfl ?_; intro b1 w1 hs)
  (refine RW.boxN hs rfl rfl ?_; intro b2 w2 hs)
  refine Zerun ?_
  by_cases c1 : p.fill ≠ r.fill
  · refine Zerun ?_
    exact retQ_ret [_] h ⟨rfl, trivial⟩ hs.dropAll (by rw [eqB_not (fun e => c1 (by rw [e]))]; rfl)
  refine Zerun ?_
  (refine RW.call T hs rfl rfl rfl (refInts_con _ _ _ _ _ _ hl' hm' hl3) ?_; intro v h3 w3 hle3 hp3 hs)
  subst hp3
  have hS := hS.mono hle3
  have hS2 := hS2.mono hle3
  by_cases c3 : ¬ p.shape = r.shape
  · rw [decide_eq_false c3]
    refine Zerun ?_
    exact retQ_ret [_] h3 ⟨rfl, trivial⟩ hs.dropAll (by rw [eqB_not (fun e => c3 (by rw [e]))]; rfl)
  rw [decide_eq_true (Decidable.of_not_not c3)]
  by_cases c4 : p.items.length ≠ r.items.length
  · refine Zerun ?_
    exact retQ_ret [_] h3 ⟨rfl, trivial⟩ hs.dropAll (by rw [eqB_not (fun e => c4 (by rw [e]))]; rfl)
  refine Zerun ?_
  refine CW.loop (fun j : Nat => [(2, .pointer (some ⟨b1, 0, none⟩)), (3, .pointer (some ⟨b2, 0, none⟩)), (5, .int .i64 j)]) (fun j w' => j ≤ p.items.length ∧ p.items.take j = r.items.take j ∧ Sees w h h3 [⟨some ⟨b2, 0, none⟩, 1, 1, 25, 3, [.slice ad4 r.shape.length cp4, .slice ad2 r.items.length cp2, .int .i64 r.fill]⟩, ⟨some ⟨b1, 0, none⟩, 1, 1, 25, 3, [.slice ad3 p.shape.length cp3, .slice ad p.items.length cp, .int .i64 p.fill]⟩] w') (fun j => p.items.length - j) 0 ⟨rfl, rfl, rfl, trivial⟩ ⟨by omega, rfl, hs⟩ ?_
  rintro j w4 ⟨hj, htk, hs⟩
  by_cases hlt : j < p.items.length
  · obtain ⟨u1, hu1, hl1, hR1⟩ := hA.elem j hlt
    obtain ⟨u2, hu2, hl2, hR2⟩ := hA2.elem j (by omega)
    have hR1 := ItemAt.mono hR _ _ _ _ hle3 hR1
    have hR2 := ItemAt.mono hR _ _ _ _ hle3 hR2
    have q1 := qx _ (List.getElem_mem hlt)
    have q2 := qy (r.items[j]'(by omega)) (List.getElem_mem _)
    refine Zerun ?_
    refine CW.regionQ T hs (Zeqrun ?_) (by kernel_rfl)
    refine QW.call T hs rfl rfl rfl (fun w => ih _ _ _ _ w _ hR1 hR2 q1 q2) ?_
    by_cases e : p.items[j] = r.items[j]'(by omega)
    · rw [eqB_of e]
      refine Zeqrun ?_
      intro w5 hs
      refine Zerun ?_
      exact loopQ_round (j + 1) ⟨rfl, rfl, rfl, trivial⟩ ⟨by omega, take_eq_succ htk hlt (by omega) e, hs⟩ (by omega)
    · rw [eqB_not e]
      refine Zeqrun ?_
      intro w5 hs
      refine Zerun ?_
      exact retQ_ret [_] h3 ⟨rfl, trivial⟩ hs.dropAll (by rw [eqB_not (fun e' => ne_of_get hlt (by omega) e (by rw [e']))]; rfl)
  · obtain rfl : j = p.items.length := by omega
    rw [List.take_length, Decidable.of_not_not c4, List.take_length] at htk
    refine Zerun ?_
    refine retQ_ret [_] h3 ⟨rfl, trivial⟩ hs.dropAll ?_
    rw [eqB_of]
    · rfl
    · obtain ⟨a1, a2, a3⟩ := p
      obtain ⟨d1, d2, d3⟩ := r
      simp only [PlainD.mk.injEq]
      exact ⟨Decidable.of_not_not c3, htk, Decidable.of_not_not c1⟩
end
theorem refSame_con : ∀ (k : Nat) (cs cs' : List Value) (p r : PD k) (w : World) (h : GHeap), PlainAt k h cs p → PlainAt k h cs' r → tdy k p → tdy k r → Con Tryz.prog 53 [.agg cs.toArray, .agg cs'.toArray] w h (fun _ u => u = .bool (eqB p r))
  | 0, _, _, _, _, _, _, hp, _, _, _ => hp.elim
  | k + 1, cs, cs', p, r, w, h, hp, hr, qp, qr => refSame_step (PlainAt.mono k) (tdy k) (fun cs cs' x y w h => refItem_step (PlainAt.mono k) (tdy k) (refSame_con k) cs cs' x y w h) cs cs' p r w h hp hr qp qr
theorem tidyW_tidy {n : Nat} (h : n < 18446744073709551616) (hf : finF n) : tidyF (tidyW n) := by
  unfold tidyW
  exact tidy_tidy n h hf
end Go.Proofs.YtmojpbfkpggjhaaGreat

/-
  Contracts of the document's answer: how deep plain arrays are, and plain arrays of numbers. No statement is proved here.
-/
namespace Go.Proofs.YtmojpbfkpggjhaaGreat
open Go Go.RowKit
set_option linter.unusedVariables false
set_option linter.unusedSimpArgs false
set_option maxHeartbeats 4000000
attribute [local irreducible] CW RW QW SW HW ConM retM heldQ calmQ elemP thenQ blockQ loopQ joinQ retQ Yields Con Sl zF magR unitF truncF fwF wholeF tidySpec elemQ rankF leastN tidyW

section
variable {α : Type} {R : GHeap → List Value → α → Prop}
end
end Go.Proofs.YtmojpbfkpggjhaaGreat

/-
  Contracts: packed truths are tidy, an element is looked for by a function, arrays are as they must be. No statement is proved here.
-/
namespace Go.Proofs.YtmojpbfkpggjhaaGreat
open Go Go.RowKit
set_option linter.unusedVariables false
set_option linter.unusedSimpArgs false
set_option maxHeartbeats 4000000
attribute [local irreducible] CW RW QW SW HW ConM retM heldQ calmQ elemP thenQ blockQ loopQ joinQ retQ Yields Con Sl zF magR unitF truncF fwF wholeF tidySpec elemQ rankF leastN tidyW

theorem Y.ldG {P : Program} (T : Tab P) {n : Nat} {L : Env} {w0 w : World} {h0 h : GHeap} {O : List Row} {x : Operand} {t ty : TypeId} {dd : Ty} {b : Nat} {v : Value} (hs : Sees w0 h0 h O w) (hx : opv L x = some (.pointer (some ⟨b, 0, none⟩))) (hg : ∃ cs, h b = some cs ∧ cs[0]? = some v) (hE : T.ty t = some dd) (hag : dd.agg = false) : Yields P n L w (.load t x) ty v := by
  obtain ⟨cs, h1, h2⟩ := hg
  exact Y.load1 T hE hag hx (hs.cell h1 h2)
noncomputable def decB (p : Prop) : Bool := @decide p (Classical.propDecidable p)
theorem decB_true (p : Prop) : decB p = true ↔ p := by unfold decB; simp
theorem decB_of {p : Prop} (h : p) : decB p = true := (decB_true p).2 h
theorem decB_not {p : Prop} (h : ¬ p) : decB p = false := by
  cases e : decB p with
  | false => rfl
  | true => exact absurd ((decB_true p).1 e) h
theorem last_word {ws : List Int} {bs : List Bool} (hB : BitsOf ws bs) (hr : ¬ bs.length % 64 = 0) {u : Nat} (hu : ws.getD (ws.length - 1) 0 = (u : Int)) (hu2 : u < 18446744073709551616) : u >>> (bs.length % 64) = 0 := by
  obtain ⟨h1, _, h3⟩ := hB
  apply Nat.eq_of_testBit_eq
  intro t
  rw [Nat.testBit_shiftRight, Nat.zero_testBit]
  by_cases ht : bs.length % 64 + t < 64
  · have := h3 (64 * (ws.length - 1) + (bs.length % 64 + t))
    rw [show (64 * (ws.length - 1) + (bs.length % 64 + t)) / 64 = ws.length - 1 by omega, show (64 * (ws.length - 1) + (bs.length % 64 + t)) % 64 = bs.length % 64 + t by omega, hu, Int.toNat_natCast] at this
    rw [this, List.getD_eq_getElem?_getD, List.getElem?_eq_none (by omega)]
    rfl
  · exact Nat.testBit_lt_two_pow (Nat.lt_of_lt_of_le hu2 (show 2 ^ 64 ≤ _ from Nat.pow_le_pow_right (by omega) (by omega)))
theorem bitsTidy_con (wv : Value) (bs : List Bool) (w : World) (h : GHeap) (hb : BitsAt h wv bs) : Con Tryz.prog 149 [.agg [wv, .int .i64 bs.length].toArray] w h (fun _ v => v = .bool true) := by
  obtain ⟨hn, ws, ⟨ad, cp, rfl, hS⟩, hB⟩ := hb
  have hwl := hB.1
  refine Con.of_body Tryz.func149 rfl Tryz.ntmps149 rfl rfl ?_
  intro hs
  refine Zrun ?_
  (refine RW.boxN hs rfl rfl ?_; intro b1 w1 hs)
  refine Zrun ?_
  refine RW.val (Y.shrI (u := bs.length + 63) (v := 6) rfl rfl (by omega)) rfl ?_
  rw [shr6]
  refine Zrun ?_
  refine RW.val (Y.andI (v := 63) rfl rfl (by omega) (by omega)) rfl ?_
  rw [and63]
  by_cases hr : bs.length % 64 = 0
  · refine Zrun ?_
    exact retQ_ret [_] h ⟨rfl, trivial⟩ hs.dropAll rfl
  · obtain ⟨u, hu⟩ := Int.eq_ofNat_of_zero_le (hB.2.1 (ws.getD (ws.length - 1) 0) (mem_getD _ _ _ (by omega))).1
    have hu2 : u < 18446744073709551616 := by have := (hB.2.1 (ws.getD (ws.length - 1) 0) (mem_getD _ _ _ (by omega))).2; omega
    have hlw := last_word hB hr hu hu2
    have hix : ((ws.length : Int) - 1).toNat = ws.length - 1 := by omega
    refine Zrun ?_
    rw [hix, hu]
    refine Zerun ?_
    refine RW.val (Y.convII T rfl rfl rfl) rfl ?_
    rw [wrapU _ (by omega)]
    refine RW.guardYes rfl rfl ?_
    refine RW.val (Y.shrU rfl rfl (by omega)) rfl ?_
    rw [hlw]
    refine Zrun ?_
    exact retQ_ret [_] h ⟨rfl, trivial⟩ hs.dropAll rfl
section
variable {α : Type} {R : GHeap → List Value → α → Prop}
/-- a place where a function that is handed in says yes -/
theorem indexFunc_con (hR : Mono R) (F : α → Bool) (v : Value) (l : List α) (f : FuncId) (ca : List Value) (w : World) (h : GHeap) (hf : T.call f = true) (hl : RowsAt 9 (R h) h v l) (h9 : Siz 9 R)
    (hc : ∀ cs a w h', GLe h h' → R h' cs a → a ∈ l → Con Tryz.prog f (.agg cs.toArray :: ca) w h' (fun _ u => u = .bool (F a))) :
    Con Tryz.prog 171 [v, .func (.func f) #[] ca.toArray] w h (fun _ u => ∃ r : Int, u = .int .i64 r ∧ decide (0 ≤ r) = l.any F) := by
  obtain ⟨ad, cp, xs, rfl, hS, hA⟩ := hl
  have hlen : l.length ≤ 9223372036854775807 := by have := hS.caps; omega
  refine Con.of_body Tryz.func171 rfl Tryz.ntmps171 rfl rfl ?_
  intro hs
  refine Zerun ?_
  refine CW.loop (fun u : Nat × GHeap => [(0, .slice ad l.length cp), (1, .func (.func f) #[] ca.toArray), (7, .int .i64 l.length), (8, .int .i64 u.1)]) (fun u w' => u.1 ≤ l.length ∧ GLe h u.2 ∧ (∀ a ∈ l.take u.1, F a = false) ∧ Sees w h u.2 [] w') (fun u => l.length - u.1) (0, h) ⟨rfl, rfl, rfl, rfl, trivial⟩ ⟨by omega, GLe.refl _, by simp, hs⟩ ?_
  rintro ⟨i, hh⟩ w2 ⟨hi, hgl, hno, hs⟩
  dsimp only at hi hgl hno hs ⊢
  have hS2 := hS.mono hgl
  by_cases hlt : i < l.length
  · obtain ⟨y, hy, hyl, hRy⟩ := hA.elem i hlt
    have hRy := hR _ _ _ _ hgl hRy
    have htk : l.take (i + 1) = l.take i ++ [l[i]] := by rw [List.take_add_one, List.getElem?_eq_getElem hlt]; rfl
    refine Zerun ?_
    refine RW.callV (fi := []) (ca := ca) T hs rfl rfl hf rfl (hc _ _ _ _ hgl hRy (List.getElem_mem hlt)) ?_
    intro v h4 w4 hle4 hp4 hs
    subst hp4
    by_cases c : F l[i] = true
    · rw [c]
      refine Zerun ?_
      refine retQ_ret [_] h4 ⟨rfl, trivial⟩ hs.dropAll ⟨_, rfl, ?_⟩
      rw [decide_eq_true (show (0 : Int) ≤ i by omega)]
      exact (List.any_eq_true.2 ⟨_, List.getElem_mem hlt, c⟩).symm
    · have c := Bool.eq_false_iff.2 c
      rw [c]
      refine Zerun ?_
      refine loopQ_round (i + 1, h4) ⟨rfl, rfl, rfl, rfl, trivial⟩ ⟨by dsimp only; omega, hgl.trans hle4, ?_, hs⟩ (by dsimp only; omega)
      dsimp only
      intro a ha
      rw [htk, List.mem_append, List.mem_singleton] at ha
      rcases ha with ha | rfl
      · exact hno a ha
      · exact c
  · obtain rfl : i = l.length := by omega
    rw [List.take_length] at hno
    refine Zerun ?_
    refine retQ_ret [_] hh ⟨rfl, trivial⟩ hs.dropAll ⟨_, rfl, ?_⟩
    cases e : l.any F with
    | false => rfl
    | true =>
      obtain ⟨a, ha, hF⟩ := List.any_eq_true.1 e
      rw [hno a ha] at hF
      cases hF
theorem containsFunc_con (hR : Mono R) (F : α → Bool) (v : Value) (l : List α) (f : FuncId) (ca : List Value) (w : World) (h : GHeap) (hf : T.call f = true) (hl : RowsAt 9 (R h) h v l) (h9 : Siz 9 R)
    (hc : ∀ cs a w h', GLe h h' → R h' cs a → a ∈ l → Con Tryz.prog f (.agg cs.toArray :: ca) w h' (fun _ u => u = .bool (F a))) :
    Con Tryz.prog 150 [v, .func (.func f) #[] ca.toArray] w h (fun _ u => u = .bool (l.any F)) := by
  refine Con.of_body Tryz.func150 rfl Tryz.ntmps150 rfl rfl ?_
  intro hs
  refine Zerun ?_
  (refine RW.call T hs rfl rfl rfl (indexFunc_con hR F _ _ _ _ _ _ hf hl h9 hc) ?_; intro v h2 w2 hle2 hp2 hs)
  obtain ⟨r, rfl, hr⟩ := hp2
  refine Zerun ?_
  exact retQ_ret [_] h2 ⟨rfl, trivial⟩ hs.dropAll (by rw [← hr]; rfl)
/-- arrays, as they lie in memory -/
def ArrR (R : GHeap → List Value → α → Prop) (h : GHeap) (cs : List Value) (a : ArrD α) : Prop := ∃ s vc, cs = s :: vc ∧ IntsAt h s a.shape ∧ VecAt R h vc a.vec
theorem ArrAt.siz : (k : Nat) → Siz 9 (ArrAt k)
  | 0 => fun _ _ _ h => h.elim
  | k + 1 => fun h cs a ⟨s, vc, e, _, hv⟩ => by rw [e, List.length_cons, hv.size]
theorem good1_step (G : Int → α → Prop) (ih : ∀ d cs a w h, 0 ≤ d → d ≤ 40 → R h cs a → Con Tryz.prog 109 [.agg cs.toArray, .int .i64 d] w h (fun _ u => u = .bool (decB (G d a)))) (h9 : Siz 9 R)
    (d : Int) (b2 : Nat) (cs : List Value) (a : α) (w : World) (h : GHeap) (hd0 : 1 ≤ d) (hd4 : d ≤ 40) (hg : ∃ cs, h b2 = some cs ∧ cs[0]? = some (.int .i64 d)) (ha : R h cs a) : Con Tryz.prog 151 [.agg cs.toArray, .pointer (some ⟨b2, 0, none⟩)] w h (fun _ u => u = .bool (!decB (G (d - 1) a))) := by
  have hl9 := h9 _ _ _ ha
  refine Con.of_body Tryz.func151 rfl Tryz.ntmps151 rfl rfl ?_
  intro hs
  refine Zrun ?_
  (refine RW.boxN hs rfl rfl ?_; intro b1 w1 hs)
  refine Zrun ?_
  refine RW.val (Y.loadRowN T hs 0 rfl rfl rfl rfl rfl (List.take_of_length_le (by rw [List.drop_zero]; exact Nat.le_of_eq hl9)) (by simpa using hl9)) rfl ?_
  refine RW.val (Y.ldG T hs rfl hg rfl rfl) rfl ?_
  refine Zrun ?_
  (refine RW.call T hs rfl rfl rfl (ih (d - 1) cs a _ _ (by omega) (by omega) ha) ?_; intro v h2 w2 hle2 hp2 hs)
  subst hp2
  refine Zrun ?_
  exact retQ_ret [_] h2 ⟨rfl, trivial⟩ hs.dropAll rfl
theorem good_step (hR : Mono R) (h1 : One R) (h9 : Siz 9 R) (G : Int → α → Prop) (ih : ∀ d cs a w h, 0 ≤ d → d ≤ 40 → R h cs a → Con Tryz.prog 109 [.agg cs.toArray, .int .i64 d] w h (fun _ u => u = .bool (decB (G d a))))
    (d : Int) (cs : List Value) (a : ArrD α) (w : World) (h : GHeap) (hd0 : 0 ≤ d) (hd4 : d ≤ 40) (ha : ArrR R h cs a) : Con Tryz.prog 109 [.agg cs.toArray, .int .i64 d] w h (fun _ u => u = .bool (decB (goodA (G (d - 1)) d a))) := by
  obtain ⟨s, vc, rfl, hl, hv⟩ := ha
  have hl' := hl
  obtain ⟨ad, cp, rfl, hS⟩ := hl
  have hsl : a.shape.length ≤ 9223372036854775807 := by have := hS.caps; omega
  have hv' := hv
  obtain ⟨wv, nv, sm, il, fl, ch, bx, ⟨rfl, hoc⟩, hk⟩ := hv
  refine Con.of_body Tryz.func109 rfl Tryz.ntmps109 rfl rfl ?_
  intro hs
  refine Zrun ?_
  (refine RW.boxN hs rfl rfl ?_; intro b1 w1 hs)
  refine RW.box hs rfl rfl ?_
  intro b2 w2 hs
  obtain ⟨h3, hle3, hs, hS3⟩ := hs.freeze
  have hg3 := Sl.cell0 hS3
  have hl' := hl'.mono hle3
  have hv' := hv'.mono hR hle3
  refine Zerun ?_
  (refine RW.call T hs rfl rfl rfl (product_con _ a.shape 1048576 _ _ hl' hsl) ?_; intro v h4 w4 hle4 hp4 hs)
  subst hp4
  have hv' := hv'.mono hR hle4
  generalize hpr : product a.shape 1048576 = r
  obtain ⟨n, e⟩ := r
  dsimp only
  by_cases c1 : e ≠ 0
  · refine Zerun ?_
    exact retQ_ret [_] h4 ⟨rfl, trivial⟩ hs.dropAll (by rw [decB_not (fun g => c1 (by have := g.1; rw [hpr] at this; exact congrArg Prod.snd this))]; rfl)
  refine Zerun ?_
  (refine RW.call T hs rfl rfl rfl (vecLen_con _ a.vec _ _ hv') ?_; intro v h5 w5 hle5 hp5 hs)
  subst hp5
  have hv' := hv'.mono hR hle5
  by_cases c2 : n ≠ a.vec.len
  · refine Zerun ?_
    exact retQ_ret [_] h5 ⟨rfl, trivial⟩ hs.dropAll (by rw [decB_not (fun g => c2 (by have := g.1; rw [hpr] at this; exact congrArg Prod.fst this))]; rfl)
  have hpr2 : product a.shape 1048576 = ((a.vec.len : Int), 0) := by rw [hpr, Decidable.of_not_not c1, Decidable.of_not_not c2]
  have hn := (product_le hpr2).2
  refine Zerun ?_
  (refine RW.call T hs rfl rfl rfl (vecKind_con _ a.vec _ _ hv') ?_; intro v h6 w6 hle6 hp6 hs)
  subst hp6
  have hv' := hv'.mono hR hle6
  by_cases c3 : a.vec.kind = 0
  · refine Zerun ?_
    exact retQ_ret [_] h6 ⟨rfl, trivial⟩ hs.dropAll (by rw [decB_not (fun g => g.2.1 c3)]; rfl)
  refine Zerun ?_
  (refine RW.call T hs rfl rfl rfl (sqTight_con hR _ a.vec _ _ hv' hn) ?_; intro v h7 w7 hle7 hp7 hs)
  subst hp7
  have hv' := hv'.mono hR hle7
  by_cases c4 : ¬ a.vec.kind = a.vec.least
  · rw [decide_eq_false c4]
    refine Zerun ?_
    exact retQ_ret [_] h7 ⟨rfl, trivial⟩ hs.dropAll (by rw [decB_not (fun g => c4 g.2.2.1)]; rfl)
  rw [decide_eq_true (Decidable.of_not_not c4)]
  have hg7 : ∃ cs, h7 b2 = some cs ∧ cs[0]? = some (.int .i64 d) := by
    obtain ⟨cs, e1, e2⟩ := hg3
    exact ⟨cs, hle7 _ _ (hle6 _ _ (hle5 _ _ (hle4 _ _ e1))), e2⟩
  refine Zerun ?_
  refine RW.val (Y.ldG T hs rfl hg7 rfl rfl) rfl ?_
  by_cases c5 : d = 0
  · refine Zerun ?_
    exact retQ_ret [_] h7 ⟨rfl, trivial⟩ hs.dropAll (by rw [decB_not (fun g => g.2.2.2.1 c5)]; rfl)
  refine Zerun ?_
  (refine RW.call T hs rfl rfl rfl (vecPacked_con _ a.vec _ _ hv') ?_; intro v h8 w8 hle8 hp8 hs)
  obtain ⟨wv8, bs8, rfl, hb8, _, _⟩ := hp8
  have hb8' := hb8
  obtain ⟨_, ws8, ⟨ad8, cp8, rfl, _⟩, _⟩ := hb8
  have hv' := hv'.mono hR hle8
  refine Zerun ?_
  (refine RW.allocN T hs rfl rfl rfl rfl ?_; intro b9 w9 hs)
  (refine RW.storeAll T hs 0 rfl rfl rfl rfl rfl rfl rfl rfl ?_; intro w10 hs)
  refine Zerun ?_
  refine RW.meet (fun h10 : GHeap => [(2, .pointer (some ⟨b1, 0, none⟩)), (3, .pointer (some ⟨b2, 0, none⟩)), (51, .bool false)]) (fun h10 w' => GLe h8 h10 ∧ Sees w h h10 [⟨some ⟨b1, 0, none⟩, 1, 1, 39, 9, .slice ad a.shape.length cp :: vecCells a.vec.kind wv nv sm il fl ch bx⟩] w') ?_ ?_
  · by_cases c6 : a.vec.kind = 1
    · rw [decide_eq_true c6]
      refine Zerun ?_
      (refine RW.call T hs rfl rfl rfl (bitsTidy_con _ bs8 _ _ hb8') ?_; intro v h11 w11 hle11 hp11 hs)
      subst hp11
      refine Zerun ?_
      exact joinQ_meet h11 ⟨rfl, rfl, rfl, trivial⟩ ⟨hle11, hs.drop⟩
    · rw [decide_eq_false c6]
      refine Zerun ?_
      exact joinQ_meet h8 ⟨rfl, rfl, rfl, trivial⟩ ⟨GLe.refl _, hs.drop⟩
  · rintro h10 w10 ⟨hle10, hs⟩
    have hv' := hv'.mono hR hle10
    refine Zerun ?_
    (refine RW.call T hs rfl rfl rfl (vecArrays_con hR h1 _ a.vec _ _ hv' (by omega)) ?_; intro v h11 w11 hle11 hp11 hs)
    refine RW.val (Y.makeFunc (fi := []) (ca := [_]) rfl rfl) rfl ?_
    have hg11 : ∀ h', GLe h11 h' → ∃ cs, h' b2 = some cs ∧ cs[0]? = some (.int .i64 d) := by
      intro h' hl'
      obtain ⟨cs, e1, e2⟩ := hg7
      exact ⟨cs, hl' _ _ (hle11 _ _ (hle10 _ _ (hle8 _ _ e1))), e2⟩
    (refine RW.call T hs rfl rfl rfl (containsFunc_con hR (fun b => !decB (G (d - 1) b)) _ a.vec.boxes 151 [.pointer (some ⟨b2, 0, none⟩)] _ _ rfl hp11 h9 (fun cs b w h' hl' hb _ => good1_step G ih h9 d b2 cs b w h' (by omega) hd4 (hg11 h' hl') hb)) ?_; intro v h12 w12 hle12 hp12 hs)
    subst hp12
    refine Zerun ?_
    refine retQ_ret [_] h12 ⟨rfl, trivial⟩ hs.dropAll ?_
    cases e : a.vec.boxes.any (fun b => !decB (G (d - 1) b)) with
    | true =>
      obtain ⟨b, hb, hF⟩ := List.any_eq_true.1 e
      rw [decB_not (fun g => by
        have := g.2.2.2.2 b hb
        rw [decB_of this] at hF
        cases hF)]
      rfl
    | false =>
      rw [decB_of ⟨hpr2, c3, Decidable.of_not_not c4, c5, fun b hb => by
        refine (decB_true _).1 ?_
        cases e2 : decB (G (d - 1) b) with
        | true => rfl
        | false =>
          have : a.vec.boxes.any (fun b => !decB (G (d - 1) b)) = true := List.any_eq_true.2 ⟨b, hb, by rw [e2]; rfl⟩
          rw [e] at this; cases this⟩]
      rfl
end
theorem goodV_con : ∀ (k : Nat) (d : Int) (cs : List Value) (a : AD k) (w : World) (h : GHeap), 0 ≤ d → d ≤ 40 → ArrAt k h cs a → Con Tryz.prog 109 [.agg cs.toArray, .int .i64 d] w h (fun _ u => u = .bool (decB (good k d a)))
  | 0, _, _, _, _, _, _, _, ha => ha.elim
  | k + 1, d, cs, a, w, h, h0, h4, ha => good_step (ArrAt.mono k) (ArrAt.one k) (ArrAt.siz k) (good k) (goodV_con k) d cs a w h h0 h4 ha
theorem valueGood_con (k : Nat) (cs : List Value) (a : AD k) (w : World) (h : GHeap) (ha : ArrAt k h cs a) : Con Tryz.prog 52 [.agg cs.toArray] w h (fun _ u => u = .bool (decB (good k 40 a))) := by
  have hl9 := ArrAt.siz k _ _ _ ha
  refine Con.of_body Tryz.func52 rfl Tryz.ntmps52 rfl rfl ?_
  intro hs
  refine Zrun ?_
  (refine RW.boxN hs rfl rfl ?_; intro b1 w1 hs)
  refine Zrun ?_
  refine RW.val (Y.loadRowN T hs 0 rfl rfl rfl rfl rfl (List.take_of_length_le (by rw [List.drop_zero]; exact Nat.le_of_eq hl9)) (by simpa using hl9)) rfl ?_
  (refine RW.call T hs rfl rfl rfl (goodV_con k 40 cs a _ _ (by omega) (by omega) ha) ?_; intro v h2 w2 hle2 hp2 hs)
  subst hp2
  refine Zrun ?_
  exact retQ_ret [_] h2 ⟨rfl, trivial⟩ hs.dropAll rfl
end Go.Proofs.YtmojpbfkpggjhaaGreat

/-
  Contracts of functions of package value: rank, whether there is one element, depth. No statement is proved here.
-/
namespace Go.Proofs.YtmojpbfkpggjhaaGreat
open Go Go.RowKit
set_option linter.unusedVariables false
set_option linter.unusedSimpArgs false
set_option maxHeartbeats 4000000
attribute [local irreducible] CW RW QW SW HW ConM retM heldQ calmQ elemP thenQ blockQ loopQ joinQ retQ Yields Con Sl zF magR unitF truncF fwF wholeF tidySpec elemQ rankF leastN tidyW

section
variable {α : Type} {R : GHeap → List Value → α → Prop}
theorem valueRank_con (cs : List Value) (a : ArrD α) (w : World) (h : GHeap) (ha : ArrR R h cs a) : Con Tryz.prog 116 [.agg cs.toArray] w h (fun _ u => u = .int .i64 a.shape.length) := by
  obtain ⟨s, vc, rfl, ⟨ad, cp, rfl, hS⟩, hv⟩ := ha
  refine Con.of_body Tryz.func116 rfl Tryz.ntmps116 rfl rfl ?_
  intro hs
  refine Zrun ?_
  (refine RW.boxN hs rfl rfl ?_; intro b1 w1 hs)
  refine Zrun ?_
  exact retQ_ret [_] h ⟨rfl, trivial⟩ hs.dropAll rfl
end
end Go.Proofs.YtmojpbfkpggjhaaGreat

/-
  Contracts of functions of package value: an array of a plain one. No statement is proved here.
-/
namespace Go.Proofs.YtmojpbfkpggjhaaGreat
open Go Go.RowKit
set_option linter.unusedVariables false
set_option linter.unusedSimpArgs false
set_option maxHeartbeats 4000000
attribute [local irreducible] CW RW QW SW HW ConM retM heldQ calmQ elemP thenQ blockQ loopQ joinQ retQ Yields Con Sl zF magR unitF truncF fwF wholeF tidySpec elemQ rankF leastN tidyW

def zeroArr : List Value := [.slice none 0 0, .int .i64 0, .slice none 0 0, .int .i64 0, .slice none 0 0, .slice none 0 0, .slice none 0 0, .slice none 0 0, .slice none 0 0]
section
variable {α β : Type} {R : GHeap → List Value → α → Prop} {RB : GHeap → List Value → β → Prop}
/-- what is told of an array that was asked for -/
def OfPost (RB : GHeap → List Value → β → Prop) (e : Int) (b : β) (h' : GHeap) (u : Value) : Prop := ∃ cs', u = .tuple #[.agg cs'.toArray, .int .i64 e] ∧ cs'.length = 9 ∧ (∀ u ∈ cs', u.oneCell' = true) ∧ (e = 0 → RB h' cs' b) ∧ (e ≠ 0 → cs' = zeroArr)
theorem OfPost.bad {e : Int} {b : β} {h' : GHeap} (he : e ≠ 0) : OfPost RB e b h' (.tuple #[.agg zeroArr.toArray, .int .i64 e]) := ⟨zeroArr, rfl, rfl, by decide, fun e' => absurd e' he, fun _ => rfl⟩
theorem fin_snoc (N : List Nat) (x : Nat) : (decide (∀ y ∈ N, finF y) && decide (finF x)) = decide (∀ y ∈ N ++ [x], finF y) := by
  rw [← Bool.decide_and, decide_eq_decide]; simp only [List.forall_mem_append, List.forall_mem_singleton]
theorem of_step (hR : Mono R) (hRB : Mono RB) (h1 : One RB) (h9 : Siz 9 RB) (F : Int → α → Int) (A : α → β) (ih : ∀ d cs a w h, 0 ≤ d → d ≤ 40 → R h cs a → Con Tryz.prog 107 [.agg cs.toArray, .int .i64 d] w h (OfPost RB (F d a) (A a)))
    (d : Int) (cs : List Value) (p : PlainD α) (w : World) (h : GHeap) (hd0 : 0 ≤ d) (hd4 : d ≤ 40) (hp : PlainR R h cs p) : Con Tryz.prog 107 [.agg cs.toArray, .int .i64 d] w h (OfPost (ArrR RB) (chkP (F (d - 1)) d p) (arrP A p)) := by
  obtain ⟨s, it, rfl, hl, ⟨ad2, cp2, xs, rfl, hS2, hA⟩⟩ := hp
  have hl' := hl
  obtain ⟨ad, cp, rfl, hS⟩ := hl
  have hsl : p.shape.length ≤ 9223372036854775807 := by have := hS.caps; omega
  have hlen : p.items.length ≤ 9223372036854775807 := by have := hS2.caps; omega
  have hret1 : chkP (F (d - 1)) d p = 1 → ∀ h', OfPost (ArrR RB) (chkP (F (d - 1)) d p) (arrP A p) h' (.tuple #[.agg zeroArr.toArray, .int .i64 1]) := by
    intro e h'; rw [e]; exact OfPost.bad (by omega)
  refine Con.of_body Tryz.func107 rfl Tryz.ntmps107 rfl rfl ?_
  intro hs
  refine Zrun ?_
  (refine RW.boxN hs rfl rfl ?_; intro b1 w1 hs)
  (refine RW.allocN T hs rfl rfl rfl rfl ?_; intro b2 w2 hs)
  refine Zerun ?_
  by_cases c1 : d = 0
  · refine Zerun ?_
    refine RW.val (Y.build T rfl rfl rfl rfl rfl rfl rfl) rfl ?_
    (refine RW.storeAll T hs 0 rfl rfl rfl rfl rfl rfl rfl rfl ?_; intro w3 hs)
    refine Zerun ?_
    exact retQ_ret [_, _] h ⟨resN T hs 0 rfl rfl rfl rfl rfl rfl, rfl, trivial⟩ hs.dropAll (hret1 (by unfold chkP; rw [if_pos (.inl c1)]) _)
  by_cases c2 : p.fill < 0
  · refine Zerun ?_
    refine RW.val (Y.build T rfl rfl rfl rfl rfl rfl rfl) rfl ?_
    (refine RW.storeAll T hs 0 rfl rfl rfl rfl rfl rfl rfl rfl ?_; intro w3 hs)
    refine Zerun ?_
    exact retQ_ret [_, _] h ⟨resN T hs 0 rfl rfl rfl rfl rfl rfl, rfl, trivial⟩ hs.dropAll (hret1 (by unfold chkP; rw [if_pos (.inr (.inl c2))]) _)
  by_cases c3 : 2 < p.fill
  · refine Zerun ?_
    refine RW.val (Y.build T rfl rfl rfl rfl rfl rfl rfl) rfl ?_
    (refine RW.storeAll T hs 0 rfl rfl rfl rfl rfl rfl rfl rfl ?_; intro w3 hs)
    refine Zerun ?_
    exact retQ_ret [_, _] h ⟨resN T hs 0 rfl rfl rfl rfl rfl rfl, rfl, trivial⟩ hs.dropAll (hret1 (by unfold chkP; rw [if_pos (.inr (.inr c3))]) _)
  have e1 : chkP (F (d - 1)) d p = if (product p.shape 1048576).2 ≠ 0 then (product p.shape 1048576).2 else if (product p.shape 1048576).1 ≠ p.items.length then 23 else chkIt (F (d - 1)) p.fill p.items true := by
    unfold chkP; rw [if_neg (by omega)]
  rw [e1]
  clear hret1 e1
  refine Zerun ?_
  (refine RW.call T hs rfl rfl rfl (product_con _ p.shape 1048576 _ _ hl' hsl) ?_; intro v h3 w3 hle3 hp3 hs)
  subst hp3
  generalize hpr : product p.shape 1048576 = r
  obtain ⟨n, e⟩ := r
  dsimp only
  by_cases c4 : e ≠ 0
  · rw [if_pos c4]
    refine Zerun ?_
    refine RW.val (Y.build T rfl rfl rfl rfl rfl rfl rfl) rfl ?_
    refine Zerun ?_
    (refine RW.storeAll T hs 0 rfl rfl rfl rfl rfl rfl rfl rfl ?_; intro w4 hs)
    refine Zerun ?_
    exact retQ_ret [_, _] h3 ⟨resN T hs 0 rfl rfl rfl rfl rfl rfl, rfl, trivial⟩ hs.dropAll (OfPost.bad c4)
  rw [if_neg c4]
  by_cases c5 : n ≠ p.items.length
  · rw [if_pos c5]
    refine Zerun ?_
    refine RW.val (Y.build T rfl rfl rfl rfl rfl rfl rfl) rfl ?_
    (refine RW.storeAll T hs 0 rfl rfl rfl rfl rfl rfl rfl rfl ?_; intro w4 hs)
    refine Zerun ?_
    exact retQ_ret [_, _] h3 ⟨resN T hs 0 rfl rfl rfl rfl rfl rfl, rfl, trivial⟩ hs.dropAll (OfPost.bad (by omega))
  rw [if_neg c5]
  have hpr2 : product p.shape 1048576 = ((p.items.length : Int), 0) := by rw [hpr, Decidable.of_not_not c4, Decidable.of_not_not c5]
  have hn := product_le hpr2
  generalize htot : chkIt (F (d - 1)) p.fill p.items true = tot
  refine Zerun ?_
  have hs := ((hs.nilRow 39 9).nilRow 21 1).nilRow 46 1
  refine CW.loop (fun u : Nat × (Option Addr × Nat × List Nat) × (Option Addr × Nat × List Int) × (Option Addr × Nat × List Value × List β) × GHeap => [(1, .int .i64 d), (2, .pointer (some ⟨b1, 0, none⟩)), (4, .pointer (some ⟨b2, 0, none⟩)), (8, .slice u.2.1.1 u.2.1.2.2.length u.2.1.2.1), (9, .slice u.2.2.1.1 u.2.2.1.2.2.length u.2.2.1.2.1), (10, .slice u.2.2.2.1.1 u.2.2.2.1.2.2.2.length u.2.2.2.1.2.1), (47, .slice ad2 p.items.length cp2), (48, .int .i64 p.items.length), (49, .int .i64 u.1)])
    (fun u w' => (u.1 ≤ p.items.length ∧ u.2.1.2.2.length ≤ u.1 ∧ u.2.2.1.2.2.length ≤ u.1 ∧ u.2.2.2.1.2.2.2.length ≤ u.1) ∧ GLe h3 u.2.2.2.2
      ∧ tot = chkIt (F (d - 1)) p.fill (p.items.drop u.1) (decide (∀ x ∈ u.2.1.2.2, finF x))
      ∧ u.2.1.2.2 = (if p.fill = 0 then (p.items.take u.1).map (·.num) else [])
      ∧ u.2.2.1.2.2 = (if p.fill = 1 then (p.items.take u.1).map (·.char) else [])
      ∧ u.2.2.2.1.2.2.2 = (if p.fill = 2 then (p.items.take u.1).flatMap (fun x => x.box.map A) else [])
      ∧ (∀ x ∈ u.2.1.2.2, x < 18446744073709551616)
      ∧ AllN 9 (RB u.2.2.2.2) u.2.2.2.1.2.2.1 u.2.2.2.1.2.2.2
      ∧ Sees w h u.2.2.2.2 [⟨u.2.1.1, u.2.1.2.2.length, u.2.1.2.1, 46, 1, u.2.1.2.2.map (Value.float .f64)⟩, ⟨u.2.2.1.1, u.2.2.1.2.2.length, u.2.2.1.2.1, 21, 1, u.2.2.1.2.2.map (Value.int .i32)⟩, ⟨u.2.2.2.1.1, u.2.2.2.1.2.2.2.length, u.2.2.2.1.2.1, 39, 9, u.2.2.2.1.2.2.1⟩, ⟨some ⟨b2, 0, none⟩, 1, 1, 39, 9, zeroArr⟩, ⟨some ⟨b1, 0, none⟩, 1, 1, 25, 3, [.slice ad p.shape.length cp, .slice ad2 p.items.length cp2, .int .i64 p.fill]⟩] w')
    (fun u => p.items.length - u.1) (0, (none, 0, []), (none, 0, []), (none, 0, [], []), h3) ⟨rfl, rfl, rfl, rfl, rfl, rfl, rfl, rfl, rfl, trivial⟩ ⟨⟨by omega, by simp, by simp, by simp⟩, GLe.refl _, by simpa using htot.symm, by simp, by simp, by simp, by simp, rfl, hs⟩ ?_
  rintro ⟨i, ⟨an, cn, N⟩, ⟨ac, cc, C⟩, ⟨ab, cb, vs, B⟩, hh⟩ w5 ⟨⟨hi, hN, hC, hB⟩, hg, hck, eN, eC, eB, hN64, hAB, hs⟩
  dsimp only at hi hN hC hB hg hck eN eC eB hN64 hAB hs ⊢
  by_cases hlt : i < p.items.length
  · obtain ⟨bx, hx4, hx1, ⟨ad3, cp3, ys, rfl, hS3, hA3⟩, hx2, hq0, hq1, hq2, hq3⟩ := ItemAt.cells hA i hlt
    have hS2 := hS2.mono (hle3.trans hg)
    have hS3 := hS3.mono (hle3.trans hg)
    have htk := take_succ_getD p.items i noItem hlt
    rw [drop_getD _ _ noItem hlt] at hck
    generalize p.items.getD i noItem = x at *
    have hoc := item_one (x := x) hx1
    unfold chkIt at hck
    refine Zerun ?_
    (refine RW.allocN T hs rfl rfl rfl rfl ?_; intro b6 w6 hs)
    (refine RW.storeAll T hs 0 rfl rfl rfl rfl rfl rfl hoc rfl ?_; intro w7 hs)
    refine Zerun ?_
    by_cases k1 : x.kind ≠ p.fill
    · rw [if_pos (.inl k1)] at hck
      refine Zerun ?_
      refine RW.val (Y.build T rfl rfl rfl rfl rfl rfl rfl) rfl ?_
      (refine RW.storeAll T hs 4 rfl rfl rfl rfl rfl rfl rfl rfl ?_; intro w8 hs)
      refine Zerun ?_
      exact retQ_ret [_, _] hh ⟨resN T hs 4 rfl rfl rfl rfl rfl rfl, rfl, trivial⟩ hs.dropAll (by rw [hck]; exact OfPost.bad (by omega))
    have hkk : x.kind = 0 ∨ x.kind = 1 ∨ x.kind = 2 := by omega
    rcases hkk with k2 | k2 | k2
    · have hf : p.fill = 0 := by omega
      rw [if_neg (by omega), if_neg (by omega)] at hck
      refine Zerun ?_
      (refine RW.lit T hs (vs := [.float .f64 x.num]) (cs := [.float .f64 x.num]) rfl rfl rfl rfl (by simp [Value.cells]) rfl rfl rfl rfl rfl ?_; intro b9 w9 hs)
      (refine RW.append T hs 2 rfl rfl (m := 1) (news := [.float .f64 x.num]) rfl rfl rfl rfl rfl rfl (hs.src0 rfl (by simp [Value.oneCell'])) (by simp) (by dsimp only; omega) (by omega) ?_; intro ad10 cp10 w10 hs; replace hs := hs.drop)
      refine Zerun ?_
      rw [decide_eq_decide.2 (show (x.kind ≠ 0 ∨ finF x.num) ↔ finF x.num from ⟨fun e => e.resolve_left (fun e' => e' k2), .inr⟩), fin_snoc] at hck
      have e1 : (N ++ [x.num]).length = N.length + 1 := by simp
      refine loopQ_round (i + 1, (ad10, cp10, N ++ [x.num]), (ac, cc, C), (ab, cb, vs, B), hh) ⟨rfl, rfl, rfl, by dsimp only; rw [e1]; rfl, rfl, rfl, rfl, rfl, rfl, trivial⟩ ⟨⟨by dsimp only; omega, by dsimp only; omega, by dsimp only; omega, by dsimp only; omega⟩, hg, hck, ?_, ?_, ?_, ?_, hAB, ?_⟩ (by dsimp only; omega)
      · dsimp only; rw [if_pos hf, htk, List.map_append, eN, if_pos hf]; rfl
      · dsimp only; rw [eC, if_neg (by omega), if_neg (by omega)]
      · dsimp only; rw [eB, if_neg (by omega), if_neg (by omega)]
      · intro y hy
        rcases List.mem_append.1 hy with hy | hy
        · exact hN64 y hy
        · rw [List.mem_singleton.1 hy]; exact hx2
      · dsimp only; rw [e1, List.map_append]; exact hs.drop
    · have hf : p.fill = 1 := by omega
      rw [if_neg (by omega), if_neg (by omega), decide_eq_true (show x.kind ≠ 0 ∨ finF x.num from .inl (by omega)), Bool.and_true] at hck
      refine Zerun ?_
      (refine RW.lit T hs (vs := [.int .i32 x.char]) (cs := [.int .i32 x.char]) rfl rfl rfl rfl (by simp [Value.cells]) rfl rfl rfl rfl rfl ?_; intro b9 w9 hs)
      (refine RW.append T hs 3 rfl rfl (m := 1) (news := [.int .i32 x.char]) rfl rfl rfl rfl rfl rfl (hs.src0 rfl (by simp [Value.oneCell'])) (by simp) (by dsimp only; omega) (by omega) ?_; intro ad10 cp10 w10 hs; replace hs := hs.drop)
      refine Zerun ?_
      have e1 : (C ++ [x.char]).length = C.length + 1 := by simp
      refine loopQ_round (i + 1, (an, cn, N), (ad10, cp10, C ++ [x.char]), (ab, cb, vs, B), hh) ⟨rfl, rfl, rfl, rfl, by dsimp only; rw [e1]; rfl, rfl, rfl, rfl, rfl, trivial⟩ ⟨⟨by dsimp only; omega, by dsimp only; omega, by dsimp only; omega, by dsimp only; omega⟩, hg, hck, ?_, ?_, ?_, hN64, hAB, ?_⟩ (by dsimp only; omega)
      · dsimp only; rw [eN, if_neg (by omega), if_neg (by omega)]
      · dsimp only; rw [if_pos hf, htk, List.map_append, eC, if_pos hf]; rfl
      · dsimp only; rw [eB, if_neg (by omega), if_neg (by omega)]
      · dsimp only; rw [e1, List.map_append]; exact hs.drop
    · have hf : p.fill = 2 := by omega
      by_cases k3 : x.box.length ≠ 1
      · rw [if_pos (.inr ⟨k2, k3⟩)] at hck
        refine Zerun ?_
        refine RW.val (Y.build T rfl rfl rfl rfl rfl rfl rfl) rfl ?_
        (refine RW.storeAll T hs 4 rfl rfl rfl rfl rfl rfl rfl rfl ?_; intro w8 hs)
        refine Zerun ?_
        exact retQ_ret [_, _] hh ⟨resN T hs 4 rfl rfl rfl rfl rfl rfl, rfl, trivial⟩ hs.dropAll (by rw [hck]; exact OfPost.bad (by omega))
      rw [if_neg (by omega)] at hck
      obtain ⟨b, hbl⟩ := len1 (Decidable.of_not_not k3)
      rw [hbl] at hA3 hck
      obtain ⟨y, hy, hyl, hRb⟩ := hA3.first
      have hRb := hR _ _ _ _ (hle3.trans hg) hRb
      refine Zerun ?_
      (refine RW.call T hs rfl rfl rfl (ih (d - 1) _ b _ _ (by omega) (by omega) hRb) ?_; intro v h8 w8 hle8 hp8 hs)
      obtain ⟨cs8, rfl, hl8, ho8, hz8, hn8⟩ := hp8
      simp only [List.map_cons, List.map_nil, List.headD_cons] at hck
      generalize F (d - 1) b = e8 at hck hz8 hn8
      refine Zerun ?_
      (refine RW.allocN T hs rfl rfl rfl rfl ?_; intro b9 w9 hs)
      refine RW.storeAll T hs 0 rfl rfl rfl rfl rfl hl8 (List.all_eq_true.2 ho8) hl8 ?_
      intro w10 hs
      refine Zerun ?_
      by_cases k4 : e8 ≠ 0
      · rw [if_pos ⟨k2, k4⟩] at hck
        refine Zerun ?_
        refine RW.val (Y.build T rfl rfl rfl rfl rfl rfl rfl) rfl ?_
        refine Zerun ?_
        (refine RW.storeAll T hs 5 rfl rfl rfl rfl rfl rfl rfl rfl ?_; intro w11 hs)
        refine Zerun ?_
        exact retQ_ret [_, _] h8 ⟨resN T hs 5 rfl rfl rfl rfl rfl rfl, rfl, trivial⟩ hs.dropAll (by rw [hck]; exact OfPost.bad k4)
      have k5 : e8 = 0 := Decidable.of_not_not k4
      rw [if_neg (fun e => k4 e.2), decide_eq_true (show x.kind ≠ 0 ∨ finF x.num from .inl (by omega)), Bool.and_true] at hck
      refine Zerun ?_
      refine RW.val (Y.loadRowN (cs := cs8) T hs 0 rfl rfl rfl rfl rfl (List.take_of_length_le (by rw [List.drop_zero]; exact Nat.le_of_eq hl8)) hl8) rfl ?_
      (refine RW.lit T hs (vs := [.agg cs8.toArray]) (cs := cs8) rfl rfl rfl rfl (by simp [Value.cells, hl8]) rfl (by simp [Value.cells]) rfl rfl rfl ?_; intro b11 w11 hs)
      (refine RW.append T hs 5 rfl rfl (m := 1) (news := cs8) rfl rfl rfl rfl rfl rfl (hs.src0 (by simpa using hl8) ho8) (by simp) (by dsimp only; omega) (by omega) ?_; intro ad12 cp12 w12 hs; replace hs := hs.drop)
      refine Zerun ?_
      have e1 : (B ++ [A b]).length = B.length + 1 := by simp
      refine loopQ_round (i + 1, (an, cn, N), (ac, cc, C), (ad12, cp12, vs ++ cs8, B ++ [A b]), h8) ⟨rfl, rfl, rfl, rfl, rfl, by dsimp only; rw [e1]; rfl, rfl, rfl, rfl, trivial⟩ ⟨⟨by dsimp only; omega, by dsimp only; omega, by dsimp only; omega, by dsimp only; omega⟩, hg.trans hle8, hck, ?_, ?_, ?_, hN64, (hAB.mono (fun u a => hRB _ _ u a hle8)).append (AllN.one hl8 (hz8 k5)), ?_⟩ (by dsimp only; omega)
      · dsimp only; rw [eN, if_neg (by omega), if_neg (by omega)]
      · dsimp only; rw [eC, if_neg (by omega), if_neg (by omega)]
      · dsimp only; rw [if_pos hf, htk, List.flatMap_append, eB, if_pos hf]; simp [hbl]
      · dsimp only; rw [e1]; exact hs.drop.drop
  · obtain rfl : i = p.items.length := by omega
    rw [List.drop_length] at hck
    rw [List.take_length] at eN eC eB
    unfold chkIt at hck
    obtain ⟨h6, hle6, hs, hS6⟩ := hs.freeze
    obtain ⟨h7, hle7, hs, hS7⟩ := hs.freeze
    obtain ⟨h8, hle8, hs, hS8⟩ := hs.freeze
    have hF8 : FAt h8 (.slice an N.length cn) N := (RowAt.of_sl hS6).mono (hle7.trans hle8)
    have hC8 : KAt .i32 h8 (.slice ac C.length cc) C := (RowAt.of_sl hS7).mono hle8
    have hB8 : RowsAt 9 (RB h8) h8 (.slice ab B.length cb) B := ⟨ab, cb, vs, rfl, hS8, hAB.mono (fun u a => hRB _ _ u a ((hle6.trans hle7).trans hle8))⟩
    refine Zerun ?_
    (refine RW.call T hs rfl rfl rfl (sqNumbers_con (R := RB) hRB _ N _ _ hF8 hN64 (by omega)) ?_; intro v h9 w9 hle9 hp9 hs)
    obtain ⟨cs9, ok, rfl, hok, hv9⟩ := hp9
    rw [← hok] at hck
    have hv9' := hv9
    obtain ⟨wv, nv, sm, il, fl, ch, bx, ⟨hcs9, hoc9⟩, _⟩ := hv9
    generalize hvk : (if ok = true then (⟨leastN (N.map tidyW), N.map tidyW, [], []⟩ : VecD β) else VecD.none).kind = vk at hcs9
    subst hcs9
    refine Zerun ?_
    (refine RW.allocN T hs rfl rfl rfl rfl ?_; intro b10 w10 hs)
    (refine RW.storeAll T hs 0 rfl rfl rfl rfl rfl rfl hoc9 rfl ?_; intro w11 hs)
    refine Zerun ?_
    refine CW.meetB (fun q : List Value × GHeap => [(2, .pointer (some ⟨b1, 0, none⟩)), (4, .pointer (some ⟨b2, 0, none⟩)), (15, .pointer (some ⟨b10, 0, none⟩)), (16, .bool ok)]) (fun q w' => GLe h9 q.2 ∧ (ok = true → VecAt RB q.2 q.1 (arrV A p.fill p.items)) ∧ Sees w h q.2 [⟨some ⟨b10, 0, none⟩, 1, 1, 37, 8, q.1⟩, ⟨some ⟨b2, 0, none⟩, 1, 1, 39, 9, zeroArr⟩, ⟨some ⟨b1, 0, none⟩, 1, 1, 25, 3, [.slice ad p.shape.length cp, .slice ad2 p.items.length cp2, .int .i64 p.fill]⟩] w') ?_ ?_
    · by_cases f1 : p.fill = 1
      · have ev : arrV A p.fill p.items = ⟨5, [], C, []⟩ := by unfold arrV; rw [if_pos f1, eC, if_pos f1]
        refine Zerun ?_
        (refine RW.call T hs rfl rfl rfl (vecChars_con (R := RB) _ C _ _ (hC8.mono hle9) (by omega)) ?_; intro v h12 w12 hle12 hp12 hs)
        obtain ⟨cs12, rfl, hv12⟩ := hp12
        have hv12' := hv12
        obtain ⟨wv, nv, sm, il, fl, ch, bx, ⟨rfl, hoc12⟩, _⟩ := hv12
        refine Zerun ?_
        (refine RW.storeAll T hs 0 rfl rfl rfl rfl rfl rfl hoc12 rfl ?_; intro w13 hs)
        refine Zerun ?_
        exact joinQ_meet (_, h12) ⟨rfl, rfl, rfl, rfl, trivial⟩ ⟨hle12, fun _ => by rw [ev]; exact hv12', hs⟩
      by_cases f2 : p.fill = 2
      · have ev : arrV A p.fill p.items = ⟨6, [], [], B⟩ := by unfold arrV; rw [if_neg f1, if_pos f2, eB, if_pos f2]
        refine Zerun ?_
        (refine RW.call T hs rfl rfl rfl (vecBoxes_con (R := RB) hRB h1 _ B _ _ (hB8.mono hle9 (fun u a => hRB _ _ u a hle9)) (by omega)) ?_; intro v h12 w12 hle12 hp12 hs)
        obtain ⟨cs12, rfl, hv12⟩ := hp12
        have hv12' := hv12
        obtain ⟨wv, nv, sm, il, fl, ch, bx, ⟨rfl, hoc12⟩, _⟩ := hv12
        refine Zerun ?_
        (refine RW.storeAll T hs 0 rfl rfl rfl rfl rfl rfl hoc12 rfl ?_; intro w13 hs)
        refine Zerun ?_
        exact joinQ_meet (_, h12) ⟨rfl, rfl, rfl, rfl, trivial⟩ ⟨hle12, fun _ => by rw [ev]; exact hv12', hs⟩
      · have ev : arrV A p.fill p.items = ⟨leastN (N.map tidyW), N.map tidyW, [], []⟩ := by
          unfold arrV; rw [if_neg f1, if_neg f2, eN, if_pos (by omega), List.map_map]; rfl
        refine Zerun ?_
        exact joinQ_meet (_, h9) ⟨rfl, rfl, rfl, rfl, trivial⟩ ⟨GLe.refl _, fun e => by rw [ev]; rw [if_pos e] at hv9'; exact hv9', hs⟩
    rintro ⟨cs13, h13⟩ w13 ⟨hle13, hv13, hs⟩
    dsimp only at hle13 hv13 hs ⊢
    cases ok with
    | false =>
      refine Zerun ?_
      refine RW.val (Y.build T rfl rfl rfl rfl rfl rfl rfl) rfl ?_
      (refine RW.storeAll T hs 1 rfl rfl rfl rfl rfl rfl rfl rfl ?_; intro w14 hs)
      refine Zerun ?_
      exact retQ_ret [_, _] h13 ⟨resN T hs 1 rfl rfl rfl rfl rfl rfl, rfl, trivial⟩ hs.dropAll (by rw [hck]; exact OfPost.bad (by decide))
    | true =>
      have hv14 := hv13 rfl
      have hv14' := hv14
      obtain ⟨wv, nv, sm, il, fl, ch, bx, ⟨rfl, hoc14⟩, _⟩ := hv14
      generalize (arrV A p.fill p.items).kind = vk at *
      refine Zerun ?_
      refine CW.regionH T (fun w' : World => ∃ (h' : GHeap) (O : List Row), Sees w h h' O w' ∧ O[0]? = some (Row.mk (some ⟨b10, 0, none⟩) 1 1 37 8 (vecCells vk wv nv sm il fl ch bx)) ∧ O[2]? = some (Row.mk (some ⟨b1, 0, none⟩) 1 1 25 3 [.slice ad p.shape.length cp, .slice ad2 p.items.length cp2, .int .i64 p.fill])) ?_
      rintro w14 rfl
      have hs := hs.drew
      refine HW.take (fuel := 6) 0 rfl (v := .pointer (some ⟨b1, 0 + 0, none⟩)) ?_ ?_ rfl (by kernel_rfl) (by kernel_rfl) (by kernel_rfl) ?_
      · intro w' _; exact Y.fieldAddr T rfl rfl rfl rfl rfl
      · exact ⟨_, _, hs, rfl, rfl⟩
      refine HW.take (fuel := 5) 1 rfl (v := .slice ad p.shape.length cp) ?_ ?_ rfl (by kernel_rfl) (by kernel_rfl) (by kernel_rfl) ?_
      · rintro w' ⟨h', O, hs', e0, e2⟩; exact Y.loadRow1 T hs' 2 e2 rfl rfl rfl rfl
      · exact ⟨_, _, hs, rfl, rfl⟩
      refine HW.take (fuel := 4) 3 rfl (v := .agg (vecCells vk wv nv sm il fl ch bx).toArray) ?_ ?_ rfl (by kernel_rfl) (by kernel_rfl) (by kernel_rfl) ?_
      · rintro w' ⟨h', O, hs', e0, e2⟩; exact Y.loadRowN T hs' 0 e0 rfl rfl rfl rfl rfl rfl
      · exact ⟨_, _, hs, rfl, rfl⟩
      refine HW.one (fuel := 3) 2 rfl (by kernel_rfl) ?_
      (refine RW.call T hs rfl rfl rfl (cloneInts_con _ p.shape _ _ (hl'.mono ((hle3.trans hg).trans ((hle6.trans hle7).trans (hle8.trans (hle9.trans hle13))))) (by omega)) ?_; intro v h15 w15 hle15 hp15 hs)
      have hl15 := hp15
      obtain ⟨ad15, cp15, rfl, _⟩ := hp15
      refine RW.nil ?_
      refine heldQ_normal ⟨_, _, hs, rfl, rfl⟩ ?_
      refine HW.take (fuel := 2) 4 rfl (v := .agg (.slice ad15 p.shape.length cp15 :: vecCells vk wv nv sm il fl ch bx).toArray) ?_ ?_ rfl (by kernel_rfl) (by kernel_rfl) (by kernel_rfl) ?_
      · intro w' _; exact Y.build T rfl rfl rfl rfl rfl rfl rfl
      · exact ⟨_, _, hs, rfl, rfl⟩
      refine HW.one (fuel := 1) 5 rfl (by kernel_rfl) ?_
      (refine RW.storeAll T hs 1 rfl rfl rfl rfl rfl rfl hoc14 rfl ?_; intro w16 hs)
      refine RW.nil ?_
      refine heldQ_normal ⟨_, _, hs, rfl, rfl⟩ ?_
      refine HW.one (fuel := 0) 6 rfl (by kernel_rfl) ?_
      refine RW.val (Y.assign rfl) rfl ?_
      refine RW.nil ?_
      refine heldQ_normal ⟨_, _, hs, rfl, rfl⟩ ?_
      refine HW.done (by kernel_rfl) ?_
      refine calmQ_normal ?_
      refine Zerun ?_
      refine retQ_ret [_, _] h15 ⟨resN T hs 1 rfl rfl rfl rfl rfl rfl, rfl, trivial⟩ hs.dropAll ?_
      have e0 : tot = 0 := by rw [hck]; rfl
      rw [e0]
      refine ⟨_, rfl, rfl, ?_, fun _ => ⟨_, _, rfl, hl15, hv14'.mono hRB hle15⟩, fun e => absurd rfl e⟩
      intro u hu
      rcases List.mem_cons.1 hu with rfl | hu
      · rfl
      · exact List.all_eq_true.1 hoc14 u hu
end
theorem of_con : ∀ (k : Nat) (d : Int) (cs : List Value) (p : PD k) (w : World) (h : GHeap), 0 ≤ d → d ≤ 40 → PlainAt k h cs p → Con Tryz.prog 107 [.agg cs.toArray, .int .i64 d] w h (OfPost (ArrAt k) (chk k d p) (arr k p))
  | 0, _, _, _, _, _, _, _, hp => hp.elim
  | k + 1, d, cs, p, w, h, h0, h4, hp => of_step (PlainAt.mono k) (ArrAt.mono k) (ArrAt.one k) (ArrAt.siz k) (chk k) (arr k) (of_con k) d cs p w h h0 h4 hp
theorem valueOf_con (k : Nat) (cs : List Value) (p : PD k) (w : World) (h : GHeap) (hp : PlainAt k h cs p) : Con Tryz.prog 49 [.agg cs.toArray] w h (OfPost (ArrAt k) (chk k 40 p) (arr k p)) := by
  have hp' := hp
  cases k with
  | zero => exact hp.elim
  | succ k =>
    obtain ⟨s, it, rfl, _⟩ := hp
    refine Con.of_body Tryz.func49 rfl Tryz.ntmps49 rfl rfl ?_
    intro hs
    refine Zrun ?_
    (refine RW.boxN hs rfl rfl ?_; intro b1 w1 hs)
    (refine RW.allocN T hs rfl rfl rfl rfl ?_; intro b2 w2 hs)
    refine Zerun ?_
    (refine RW.call T hs rfl rfl rfl (of_con _ 40 _ _ _ _ (by omega) (by omega) hp') ?_; intro v h3 w3 hle3 hp3 hs)
    obtain ⟨cs3, rfl, hl3, ho3, hz3, hn3⟩ := hp3
    refine Zerun ?_
    refine RW.storeAll T hs 0 rfl rfl rfl rfl rfl hl3 (List.all_eq_true.2 ho3) hl3 ?_
    intro w4 hs
    refine Zerun ?_
    exact retQ_ret [_, _] h3 ⟨resN T hs 0 rfl rfl rfl rfl rfl hl3, rfl, trivial⟩ hs.dropAll ⟨_, rfl, hl3, ho3, hz3, hn3⟩
end Go.Proofs.YtmojpbfkpggjhaaGreat

/-
  Contracts of functions of package value: an array told as a plain one. No statement is proved here.
-/
namespace Go.Proofs.YtmojpbfkpggjhaaGreat
open Go Go.RowKit
set_option linter.unusedVariables false
set_option linter.unusedSimpArgs false
set_option maxHeartbeats 4000000
attribute [local irreducible] CW RW QW SW HW ConM retM heldQ calmQ elemP thenQ blockQ loopQ joinQ retQ Yields Con Sl zF magR unitF truncF fwF wholeF tidySpec elemQ rankF leastN tidyW

section
variable {α β : Type} {R : GHeap → List Value → α → Prop} {RB : GHeap → List Value → β → Prop}
theorem VecAt.sorts {h : GHeap} {cs : List Value} {v : VecD α} (hv : VecAt R h cs v) : (v.cls = 0 ∧ v.len = v.nums.length) ∨ (v.cls = 1 ∧ v.len = v.chars.length) ∨ (v.cls = 2 ∧ v.len = v.boxes.length) := by
  obtain ⟨wv, nv, sm, il, fl, ch, bx, _, hk⟩ := hv
  rcases hk with ⟨_, rfl⟩ | ⟨_, bs, _, rfl, rfl⟩ | ⟨_, l, _, _, rfl⟩ | ⟨_, l, _, _, rfl⟩ | ⟨_, l, _, _, rfl⟩ | ⟨_, l, _, rfl⟩ | ⟨_, l, _, rfl⟩
  all_goals simp [VecD.cls, VecD.len]
theorem itemsV_len (f : α → β) {h : GHeap} {cs : List Value} {v : VecD α} (hv : VecAt R h cs v) : (itemsV f v).length = v.len := by
  unfold itemsV
  rcases hv.sorts with ⟨a, b⟩ | ⟨a, b⟩ | ⟨a, b⟩
  · rw [if_neg (by omega), if_neg (by omega), b]; simp
  · rw [if_pos a, b]; simp
  · rw [if_neg (by omega), if_pos a, b]; simp
theorem getD_map' {γ δ : Type} (g : γ → δ) (l : List γ) (i : Nat) (d : δ) (h : i < l.length) : (l.map g).getD i d = g l[i] := by
  rw [List.getD_eq_getElem?_getD, List.getElem?_map, List.getElem?_eq_getElem h]; rfl
theorem plain_step (hR : Mono R) (hRB : Mono RB) (h1 : One R) (h1B : One RB) (h3 : Siz 3 RB) (f : α → β) (q : α → Prop) (ih : ∀ cs a w h, R h cs a → q a → Con Tryz.prog 54 [.agg cs.toArray] w h (fun h' u => ∃ cs', u = .agg cs'.toArray ∧ RB h' cs' (f a)))
    (cs : List Value) (a : ArrD α) (w : World) (h : GHeap) (ha : ArrR R h cs a) (hq : ∀ b ∈ a.vec.boxes, q b) (hsl : a.shape.length ≤ 8) (hm : a.vec.len ≤ 1048576) :
    Con Tryz.prog 54 [.agg cs.toArray] w h (fun h' u => ∃ cs', u = .agg cs'.toArray ∧ PlainR RB h' cs' (plainA f a)) := by
  obtain ⟨s, vc, rfl, hl, hv⟩ := ha
  have hl' := hl
  obtain ⟨ad, cp, rfl, hS⟩ := hl
  have hv' := hv
  have hsort := hv.sorts
  have hil := itemsV_len f hv
  obtain ⟨wv, nv, sm, il, fl, ch, bx, ⟨rfl, hoc⟩, hk⟩ := hv
  clear hk
  refine Con.of_body Tryz.func54 rfl Tryz.ntmps54 rfl rfl ?_
  intro hs
  refine Zrun ?_
  (refine RW.boxN hs rfl rfl ?_; intro b1 w1 hs)
  (refine RW.allocN T hs rfl rfl rfl rfl ?_; intro b2 w2 hs)
  refine Zerun ?_
  refine CW.meet (fun u : Nat × Option Addr × Nat × GHeap => [(1, .pointer (some ⟨b1, 0, none⟩)), (2, .pointer (some ⟨b2, 0, none⟩)), (3, .pointer (some ⟨u.1, 0, none⟩))]) (fun u w' => IntsAt u.2.2.2 (.slice u.2.1 a.shape.length u.2.2.1) a.shape ∧ VecAt R u.2.2.2 (vecCells a.vec.kind wv nv sm il fl ch bx) a.vec ∧ Sees w h u.2.2.2 [⟨some ⟨u.1, 0, none⟩, 1, 1, 25, 3, [.slice u.2.1 a.shape.length u.2.2.1, .slice none 0 0, .int .i64 a.vec.cls]⟩, ⟨some ⟨b2, 0, none⟩, 1, 1, 25, 3, [.slice none 0 0, .slice none 0 0, .int .i64 0]⟩, ⟨some ⟨b1, 0, none⟩, 1, 1, 39, 9, .slice ad a.shape.length cp :: vecCells a.vec.kind wv nv sm il fl ch bx⟩] w') ?_ ?_
  · refine CW.regionH T (fun w' : World => ∃ (h' : GHeap) (O : List Row) (k : Nat), Sees w h h' O w' ∧ O[k]? = some (Row.mk (some ⟨b1, 0, none⟩) 1 1 39 9 (.slice ad a.shape.length cp :: vecCells a.vec.kind wv nv sm il fl ch bx))) ?_
    rintro w4 rfl
    have hs := hs.drew
    refine HW.take (fuel := 8) 0 rfl (v := .pointer (some ⟨b1, 0 + 0, none⟩)) ?_ ?_ rfl (by kernel_rfl) (by kernel_rfl) (by kernel_rfl) ?_
    · intro w' _; exact Y.fieldAddr T rfl rfl rfl rfl rfl
    · exact ⟨_, _, 1, hs, rfl⟩
    refine HW.take (fuel := 7) 1 rfl (v := .slice ad a.shape.length cp) ?_ ?_ rfl (by kernel_rfl) (by kernel_rfl) (by kernel_rfl) ?_
    · rintro w' ⟨h', O, k, hs', e0⟩; exact Y.loadRow1 T hs' k e0 rfl rfl rfl rfl
    · exact ⟨_, _, 1, hs, rfl⟩
    refine HW.take (fuel := 6) 3 rfl (v := .pointer (some ⟨b1, 0 + 1, none⟩)) ?_ ?_ rfl (by kernel_rfl) (by kernel_rfl) (by kernel_rfl) ?_
    · intro w' _; exact Y.fieldAddr T rfl rfl rfl rfl rfl
    · exact ⟨_, _, 1, hs, rfl⟩
    refine HW.take (fuel := 5) 4 rfl (v := .agg (vecCells a.vec.kind wv nv sm il fl ch bx).toArray) ?_ ?_ rfl (by kernel_rfl) (by kernel_rfl) (by kernel_rfl) ?_
    · rintro w' ⟨h', O, k, hs', e0⟩; exact Y.loadRowN T hs' k e0 rfl rfl rfl rfl rfl rfl
    · exact ⟨_, _, 1, hs, rfl⟩
    refine HW.two (fuel := 4) 2 7 rfl rfl (by kernel_rfl) ?_ ?_
    · (refine RW.call T hs rfl rfl rfl (cloneInts_con _ a.shape _ _ hl' (by omega)) ?_; intro v h5 w5 hle5 hp5 hs)
      have hl5 := hp5
      obtain ⟨ad5, cp5, rfl, _⟩ := hp5
      have hl' := hl'.mono hle5
      have hv' := hv'.mono hR hle5
      (refine RW.nil ?_; refine heldQ_normal ⟨_, _, 1, hs, rfl⟩ ?_)
      refine HW.two (fuel := 3) 5 7 rfl rfl (by kernel_rfl) ?_ ?_
      · (refine RW.call T hs rfl rfl rfl (vecClass_con _ a.vec _ _ hv') ?_; intro v h6 w6 hle6 hp6 hs)
        subst hp6
        have hl' := hl'.mono hle6
        have hv' := hv'.mono hR hle6
        have hl5 := hl5.mono hle6
        (refine RW.nil ?_; refine heldQ_normal ⟨_, _, 1, hs, rfl⟩ ?_)
        refine HW.take (fuel := 2) 6 rfl (v := .agg [.slice ad5 a.shape.length cp5, .slice none 0 0, .int .i64 a.vec.cls].toArray) ?_ ?_ rfl (by kernel_rfl) (by kernel_rfl) (by kernel_rfl) ?_
        · intro w' _; exact Y.build T rfl rfl rfl rfl rfl rfl rfl
        · exact ⟨_, _, 1, hs, rfl⟩
        refine HW.one (fuel := 1) 7 rfl (by kernel_rfl) ?_
        (refine RW.allocN T hs rfl rfl rfl rfl ?_; intro b7 w7 hs)
        (refine RW.nil ?_; refine heldQ_normal ⟨_, _, 2, hs, rfl⟩ ?_)
        refine HW.one (fuel := 0) 8 rfl (by kernel_rfl) ?_
        (refine RW.storeAll T hs 0 rfl rfl rfl rfl rfl rfl rfl rfl ?_; intro w8 hs)
        (refine RW.nil ?_; refine heldQ_normal ⟨_, _, 2, hs, rfl⟩ ?_)
        refine HW.done (by kernel_rfl) ?_
        refine calmQ_normal ?_
        exact joinQ_meet (b7, ad5, cp5, h6) ⟨rfl, rfl, rfl, trivial⟩ ⟨hl5, hv', hs⟩
      · (refine RW.allocN T hs rfl rfl rfl rfl ?_; intro b7 w7 hs)
        (refine RW.nil ?_; refine heldQ_normal ⟨_, _, 2, hs, rfl⟩ ?_)
        refine HW.one (fuel := 2) 5 rfl (by kernel_rfl) ?_
        (refine RW.call T hs rfl rfl rfl (vecClass_con _ a.vec _ _ hv') ?_; intro v h6 w6 hle6 hp6 hs)
        subst hp6
        have hl' := hl'.mono hle6
        have hv' := hv'.mono hR hle6
        have hl5 := hl5.mono hle6
        (refine RW.nil ?_; refine heldQ_normal ⟨_, _, 2, hs, rfl⟩ ?_)
        refine HW.take (fuel := 1) 6 rfl (v := .agg [.slice ad5 a.shape.length cp5, .slice none 0 0, .int .i64 a.vec.cls].toArray) ?_ ?_ rfl (by kernel_rfl) (by kernel_rfl) (by kernel_rfl) ?_
        · intro w' _; exact Y.build T rfl rfl rfl rfl rfl rfl rfl
        · exact ⟨_, _, 2, hs, rfl⟩
        refine HW.one (fuel := 0) 8 rfl (by kernel_rfl) ?_
        (refine RW.storeAll T hs 0 rfl rfl rfl rfl rfl rfl rfl rfl ?_; intro w8 hs)
        (refine RW.nil ?_; refine heldQ_normal ⟨_, _, 2, hs, rfl⟩ ?_)
        refine HW.done (by kernel_rfl) ?_
        refine calmQ_normal ?_
        exact joinQ_meet (b7, ad5, cp5, h6) ⟨rfl, rfl, rfl, trivial⟩ ⟨hl5, hv', hs⟩
    · (refine RW.allocN T hs rfl rfl rfl rfl ?_; intro b7 w7 hs)
      (refine RW.nil ?_; refine heldQ_normal ⟨_, _, 2, hs, rfl⟩ ?_)
      refine HW.one (fuel := 3) 2 rfl (by kernel_rfl) ?_
      (refine RW.call T hs rfl rfl rfl (cloneInts_con _ a.shape _ _ hl' (by omega)) ?_; intro v h5 w5 hle5 hp5 hs)
      have hl5 := hp5
      obtain ⟨ad5, cp5, rfl, _⟩ := hp5
      have hl' := hl'.mono hle5
      have hv' := hv'.mono hR hle5
      (refine RW.nil ?_; refine heldQ_normal ⟨_, _, 2, hs, rfl⟩ ?_)
      refine HW.one (fuel := 2) 5 rfl (by kernel_rfl) ?_
      (refine RW.call T hs rfl rfl rfl (vecClass_con _ a.vec _ _ hv') ?_; intro v h6 w6 hle6 hp6 hs)
      subst hp6
      have hl' := hl'.mono hle6
      have hv' := hv'.mono hR hle6
      have hl5 := hl5.mono hle6
      (refine RW.nil ?_; refine heldQ_normal ⟨_, _, 2, hs, rfl⟩ ?_)
      refine HW.take (fuel := 1) 6 rfl (v := .agg [.slice ad5 a.shape.length cp5, .slice none 0 0, .int .i64 a.vec.cls].toArray) ?_ ?_ rfl (by kernel_rfl) (by kernel_rfl) (by kernel_rfl) ?_
      · intro w' _; exact Y.build T rfl rfl rfl rfl rfl rfl rfl
      · exact ⟨_, _, 2, hs, rfl⟩
      refine HW.one (fuel := 0) 8 rfl (by kernel_rfl) ?_
      (refine RW.storeAll T hs 0 rfl rfl rfl rfl rfl rfl rfl rfl ?_; intro w8 hs)
      (refine RW.nil ?_; refine heldQ_normal ⟨_, _, 2, hs, rfl⟩ ?_)
      refine HW.done (by kernel_rfl) ?_
      refine calmQ_normal ?_
      exact joinQ_meet (b7, ad5, cp5, h6) ⟨rfl, rfl, rfl, trivial⟩ ⟨hl5, hv', hs⟩
  rintro ⟨b3, ad5, cp5, h5⟩ w5 ⟨hl5, hv', hs⟩
  dsimp only at hl5 hv' hs ⊢
  refine Zerun ?_
  (refine RW.call T hs rfl rfl rfl (vecLen_con _ a.vec _ _ hv') ?_; intro v h6 w6 hle6 hp6 hs)
  subst hp6
  have hv' := hv'.mono hR hle6
  refine Zerun ?_
  have hs := hs.nilRow 69 4
  refine CW.loop (fun u : Nat × Option Addr × Nat × List Value × GHeap => [(1, .pointer (some ⟨b1, 0, none⟩)), (2, .pointer (some ⟨b2, 0, none⟩)), (3, .pointer (some ⟨b3, 0, none⟩)), (15, .int .i64 a.vec.len), (16, .int .i64 u.1)]) (fun u w' => u.1 ≤ a.vec.len ∧ GLe h6 u.2.2.2.2 ∧ AllN 4 (ItemAt RB u.2.2.2.2) u.2.2.2.1 ((itemsV f a.vec).take u.1) ∧ Sees w h u.2.2.2.2 [⟨u.2.1, u.1, u.2.2.1, 69, 4, u.2.2.2.1⟩, ⟨some ⟨b3, 0, none⟩, 1, 1, 25, 3, [.slice ad5 a.shape.length cp5, .slice u.2.1 u.1 u.2.2.1, .int .i64 a.vec.cls]⟩, ⟨some ⟨b2, 0, none⟩, 1, 1, 25, 3, [.slice none 0 0, .slice none 0 0, .int .i64 0]⟩, ⟨some ⟨b1, 0, none⟩, 1, 1, 39, 9, .slice ad a.shape.length cp :: vecCells a.vec.kind wv nv sm il fl ch bx⟩] w') (fun u => a.vec.len - u.1) (0, none, 0, [], h6) ⟨rfl, rfl, rfl, rfl, rfl, trivial⟩ ⟨by omega, GLe.refl _, rfl, hs⟩ ?_
  rintro ⟨i, ra, rc, vs, hh⟩ w7 ⟨hi, hg, hAv, hs⟩
  dsimp only at hi hg hAv hs ⊢
  by_cases hlt : i < a.vec.len
  · have hv' := hv'.mono hR hg
    have htk := take_succ_getD (itemsV f a.vec) i noItem (by omega)
    have done : ∀ (h6 : GHeap) (cs6 : List Value) (x : ItemD β), GLe hh h6 → (itemsV f a.vec).getD i noItem = x → ItemAt RB h6 cs6 x → AllN 4 (ItemAt RB h6) (vs ++ cs6) ((itemsV f a.vec).take (i + 1)) := by
      intro h6 cs6 x hle6 hx hi6
      rw [htk, hx]
      exact (hAv.mono (fun u a => ItemAt.mono hRB _ _ u a hle6)).append (AllN.one (by obtain ⟨_, rfl, _⟩ := hi6; rfl) hi6)
    refine Zerun ?_
    refine RW.val (Y.build T rfl rfl rfl rfl rfl rfl rfl) rfl ?_
    (refine RW.allocN T hs rfl rfl rfl rfl ?_; intro b8 w8 hs)
    (refine RW.storeAll T hs 0 rfl rfl rfl rfl rfl rfl rfl rfl ?_; intro w9 hs)
    refine Zerun ?_
    rcases hsort with ⟨hc, hn⟩ | ⟨hc, hn⟩ | ⟨hc, hn⟩
    · have hx : (itemsV f a.vec).getD i noItem = ⟨0, a.vec.num i, 0, []⟩ := by
        unfold itemsV; rw [if_neg (by omega), if_neg (by omega), getD_map' _ _ _ _ (by omega)]
        unfold VecD.num; rw [if_pos (by omega), Int.toNat_natCast, List.getD_eq_getElem?_getD, List.getElem?_eq_getElem (by omega)]; rfl
      have hnm : a.vec.num i < 18446744073709551616 := by
        unfold VecD.num; rw [if_pos (by omega), Int.toNat_natCast]
        exact (hv'.tidy _ (mem_getD _ _ _ (by omega))).1
      rw [hc] at hs ⊢
      refine Zerun ?_
      (refine RW.call T hs rfl rfl rfl (vecNum_con _ a.vec i _ _ hv') ?_; intro v h10 w10 hle10 hp10 hs)
      subst hp10
      refine Zerun ?_
      (refine RW.store1 T hs 0 rfl rfl rfl rfl rfl rfl rfl rfl ?_; intro w11 hs)
      refine Zerun ?_
      (refine RW.lit T hs (vs := [.agg [.int .i64 0, .float .f64 (a.vec.num i), .int .i32 0, .slice none 0 0].toArray]) (cs := [.int .i64 0, .float .f64 (a.vec.num i), .int .i32 0, .slice none 0 0]) rfl rfl rfl rfl (by simp [Value.cells]) rfl rfl rfl rfl rfl ?_; intro b12 w12 hs)
      (refine RW.append T hs 2 rfl rfl (m := 1) (news := [.int .i64 0, .float .f64 (a.vec.num i), .int .i32 0, .slice none 0 0]) rfl rfl rfl rfl rfl rfl (hs.src0 rfl (by simp [Value.oneCell'])) (by simp) (by dsimp only; omega) (by omega) ?_; intro ad13 cp13 w13 hs; replace hs := hs.drop)
      refine Zerun ?_
      (refine RW.store1 T hs 2 rfl rfl rfl rfl rfl rfl rfl rfl ?_; intro w14 hs)
      refine Zerun ?_
      exact loopQ_round (i + 1, ad13, cp13, _, h10) ⟨rfl, rfl, rfl, rfl, rfl, trivial⟩ ⟨by dsimp only; omega, hg.trans hle10, done h10 _ _ hle10 hx (ItemAt.mk' (x := ⟨0, a.vec.num i, 0, []⟩) (RowsAt.nil _) hnm), hs.drop⟩ (by dsimp only; omega)
    · have hx : (itemsV f a.vec).getD i noItem = ⟨1, 0, a.vec.chr i, []⟩ := by
        unfold itemsV; rw [if_pos hc, getD_map' _ _ _ _ (by omega)]
        unfold VecD.chr; rw [if_pos (by omega), Int.toNat_natCast, List.getD_eq_getElem?_getD, List.getElem?_eq_getElem (by omega)]; rfl
      rw [hc] at hs ⊢
      refine Zerun ?_
      (refine RW.call T hs rfl rfl rfl (vecChar_con _ a.vec i _ _ hv') ?_; intro v h10 w10 hle10 hp10 hs)
      subst hp10
      refine Zerun ?_
      (refine RW.store1 T hs 0 rfl rfl rfl rfl rfl rfl rfl rfl ?_; intro w11 hs)
      refine Zerun ?_
      (refine RW.lit T hs (vs := [.agg [.int .i64 1, .float .f64 0, .int .i32 (a.vec.chr i), .slice none 0 0].toArray]) (cs := [.int .i64 1, .float .f64 0, .int .i32 (a.vec.chr i), .slice none 0 0]) rfl rfl rfl rfl (by simp [Value.cells]) rfl rfl rfl rfl rfl ?_; intro b12 w12 hs)
      (refine RW.append T hs 2 rfl rfl (m := 1) (news := [.int .i64 1, .float .f64 0, .int .i32 (a.vec.chr i), .slice none 0 0]) rfl rfl rfl rfl rfl rfl (hs.src0 rfl (by simp [Value.oneCell'])) (by simp) (by dsimp only; omega) (by omega) ?_; intro ad13 cp13 w13 hs; replace hs := hs.drop)
      refine Zerun ?_
      (refine RW.store1 T hs 2 rfl rfl rfl rfl rfl rfl rfl rfl ?_; intro w14 hs)
      refine Zerun ?_
      exact loopQ_round (i + 1, ad13, cp13, _, h10) ⟨rfl, rfl, rfl, rfl, rfl, trivial⟩ ⟨by dsimp only; omega, hg.trans hle10, done h10 _ _ hle10 hx (ItemAt.mk' (x := ⟨1, 0, a.vec.chr i, []⟩) (RowsAt.nil _) (Nat.succ_pos _)), hs.drop⟩ (by dsimp only; omega)
    · have hib : i < a.vec.boxes.length := by omega
      have hx : (itemsV f a.vec).getD i noItem = ⟨2, 0, 0, [f a.vec.boxes[i]]⟩ := by
        unfold itemsV; rw [if_neg (by omega), if_pos hc, getD_map' _ _ _ _ hib]
      rw [hc] at hs ⊢
      refine Zerun ?_
      (refine RW.call T hs rfl rfl rfl (vecBox_con hR h1 _ a.vec i a.vec.boxes[i] _ _ hv' hib) ?_; intro v h10 w10 hle10 hp10 hs)
      obtain ⟨cs10, rfl, hl10, hR10⟩ := hp10
      rw [List.getD_eq_getElem?_getD, List.getElem?_eq_getElem hib] at hR10
      (refine RW.call T hs rfl rfl rfl (ih _ a.vec.boxes[i] _ _ hR10 (hq _ (List.getElem_mem hib))) ?_; intro v h11 w11 hle11 hp11 hs)
      obtain ⟨cs11, rfl, hR11⟩ := hp11
      have hl11 := h3 _ _ _ hR11
      have ho11 := h1B _ _ _ hR11
      (refine RW.lit T hs (vs := [.agg cs11.toArray]) (cs := cs11) rfl rfl rfl rfl (by simp [Value.cells, hl11]) rfl (by simp [Value.cells]) rfl rfl rfl ?_; intro b12 w12 hs)
      refine Zerun ?_
      (refine RW.store1 T hs 1 rfl rfl rfl rfl rfl rfl rfl rfl ?_; intro w13 hs)
      obtain ⟨h14, hle14, hs, hS14⟩ := hs.freeze
      have hR14 : RowsAt 3 (RB h14) h14 (.slice (some ⟨b12, 0, none⟩) 1 1) [f a.vec.boxes[i]] := RowsAt.single hS14 (hRB _ _ _ _ hle14 hR11)
      refine Zerun ?_
      (refine RW.lit T hs (vs := [.agg [.int .i64 2, .float .f64 0, .int .i32 0, .slice (some ⟨b12, 0, none⟩) 1 1].toArray]) (cs := [.int .i64 2, .float .f64 0, .int .i32 0, .slice (some ⟨b12, 0, none⟩) 1 1]) rfl rfl rfl rfl (by simp [Value.cells]) rfl rfl rfl rfl rfl ?_; intro b15 w15 hs)
      (refine RW.append T hs 2 rfl rfl (m := 1) (news := [.int .i64 2, .float .f64 0, .int .i32 0, .slice (some ⟨b12, 0, none⟩) 1 1]) rfl rfl rfl rfl rfl rfl (hs.src0 rfl (by simp [Value.oneCell'])) (by simp) (by dsimp only; omega) (by omega) ?_; intro ad16 cp16 w16 hs; replace hs := hs.drop)
      refine Zerun ?_
      (refine RW.store1 T hs 2 rfl rfl rfl rfl rfl rfl rfl rfl ?_; intro w17 hs)
      refine Zerun ?_
      exact loopQ_round (i + 1, ad16, cp16, _, h14) ⟨rfl, rfl, rfl, rfl, rfl, trivial⟩ ⟨by dsimp only; omega, hg.trans (hle10.trans (hle11.trans hle14)), done h14 _ _ (hle10.trans (hle11.trans hle14)) hx (ItemAt.mk' (x := ⟨2, 0, 0, [f a.vec.boxes[i]]⟩) hR14 (Nat.succ_pos _)), hs.drop⟩ (by dsimp only; omega)
  · obtain rfl : i = a.vec.len := by omega
    rw [← hil, List.take_length] at hAv
    obtain ⟨h8, hle8, hs, hS8⟩ := hs.freeze
    refine Zerun ?_
    (refine RW.storeAll T hs 1 rfl rfl rfl rfl rfl rfl rfl rfl ?_; intro w9 hs)
    refine Zerun ?_
    refine retQ_ret [_] h8 ⟨resN T hs 1 rfl rfl rfl rfl rfl rfl, trivial⟩ hs.dropAll ⟨_, rfl, _, _, rfl, hl5.mono (hle6.trans (hg.trans hle8)), ra, rc, vs, by simp [plainA, hil], ?_, hAv.mono (fun u a => ItemAt.mono hRB _ _ u a hle8)⟩
    show Sl h8 4 ra (itemsV f a.vec).length rc vs
    rw [hil]
    exact hS8
end
theorem plainV_con : ∀ (k : Nat) (cs : List Value) (a : AD k) (w : World) (h : GHeap), ArrAt k h cs a → sml k a → Con Tryz.prog 54 [.agg cs.toArray] w h (fun h' u => ∃ cs', u = .agg cs'.toArray ∧ PlainAt k h' cs' (plain k a))
  | 0, _, _, _, _, ha, _ => ha.elim
  | k + 1, cs, a, w, h, ha, hs => plain_step (ArrAt.mono k) (PlainAt.mono k) (ArrAt.one k) (PlainAt.one k) (PlainAt.siz k) (plain k) (sml k) (fun cs a w h ha hs => plainV_con k cs a w h ha hs) cs a w h ha hs.2.2 hs.1 hs.2.1
end Go.Proofs.YtmojpbfkpggjhaaGreat

/-
  The program logic, seventeenth part: regions that draw their order, the call's own rows fixed. No statement is proved here.
-/
namespace Go.Proofs.YtmojpbfkpggjhaaGreat
open Go Go.RowKit
set_option linter.unusedVariables false
set_option linter.unusedSimpArgs false
set_option linter.unusedVariables false
section
variable {P : Program} {n : Nat} {Q : Post} {L : Env} {w0 w : World} {h0 h : GHeap} {O : List Row} {ops rest : List Oper} {x y : Operand} {t : TypeId}
variable {d : Option Tmp} {ty yt : TypeId} {pos : String} {aft : Array Edge} {fuel : Nat} {listed : Array Bool}
def SO (w0 : World) (h0 : GHeap) (O : List Row) (w : World) : Prop := ∃ h', Sees w0 h0 h' O w
theorem CW.regionO (T' : Tab P) (hs : Sees w0 h0 h O w) {id : Nat} {l : List Oper} (K : ∀ w', Sees w0 h0 h O w' → HW P n l (calmQ Q) (SO w0 h0 O) l.length (Array.replicate l.length false) L w') : CW P n Q (.region id l.toArray true) L w :=
  CW.regionH T' (SO w0 h0 O) (fun w' e => by subst e; exact K _ hs.drew)
theorem HW.takeS (i : Nat) {op : Op} {v : Value} (hi : ops.toArray[i]? = some ⟨d, op, ty, pos, aft, none⟩) (hy : ∀ h' w', Sees w0 h0 h' O w' → Yields P n L w' op ty v) (hS : Sees w0 h0 h O w) (hd : dstOk n d = true)
    (hs : Region.noSelect ops.toArray = true) (hf : Region.free .any ops.toArray listed i = true) (hr : (Region.ready .any ops.toArray listed).contains i = true)
    (hh : HW P n ops (calmQ Q) (SO w0 h0 O) fuel (listed.setIfInBounds i true) (updo d v L) w) : HW P n ops (calmQ Q) (SO w0 h0 O) (fuel + 1) listed L w :=
  HW.take i hi (fun w' ⟨h', s⟩ => hy h' w' s) ⟨h, hS⟩ hd hs hf hr hh
theorem HW.takeSY (i : Nat) {op : Op} {v : Value} {j : Nat} {want : Bool} {t : Tmp} (hi : ops.toArray[i]? = some ⟨d, op, ty, pos, aft, some (j, want)⟩) (hj : gdst ops j = some t) (ht : get L t = some (.bool want)) (hy : ∀ h' w', Sees w0 h0 h' O w' → Yields P n L w' op ty v) (hS : Sees w0 h0 h O w) (hd : dstOk n d = true)
    (hs : Region.noSelect ops.toArray = true) (hf : Region.free .any ops.toArray listed i = true) (hr : (Region.ready .any ops.toArray listed).contains i = true)
    (hh : HW P n ops (calmQ Q) (SO w0 h0 O) fuel (listed.setIfInBounds i true) (updo d v L) w) : HW P n ops (calmQ Q) (SO w0 h0 O) (fuel + 1) listed L w :=
  HW.takeYes i hi hj ht (fun w' ⟨h', s⟩ => hy h' w' s) ⟨h, hS⟩ hd hs hf hr hh
theorem HW.takeSN (i : Nat) {op : Op} {j : Nat} {want b : Bool} {t : Tmp} (hi : ops.toArray[i]? = some ⟨d, op, ty, pos, aft, some (j, want)⟩) (hj : gdst ops j = some t) (ht : get L t = some (.bool b)) (hb : (b == want) = false) (hS : Sees w0 h0 h O w) (hd : dstOk n d = true)
    (hs : Region.noSelect ops.toArray = true) (hf : Region.free .any ops.toArray listed i = true) (hr : (Region.ready .any ops.toArray listed).contains i = true)
    (hh : HW P n ops (calmQ Q) (SO w0 h0 O) fuel (listed.setIfInBounds i true) (updo d undef L) w) : HW P n ops (calmQ Q) (SO w0 h0 O) (fuel + 1) listed L w :=
  HW.takeNo i hi hj ht hb ⟨h, hS⟩ hd hs hf hr hh
theorem Y.eqT {k : IntKind} {u v : Int} (hx : opv L x = some (.int k u)) (hy : opv L y = some (.int k v)) (h : u = v) : Yields P n L w (.binOp .eql t x y yt) ty (.bool true) := by
  have := Y.eql (P := P) (n := n) (w := w) (ty := ty) (t := t) (yt := yt) hx hy
  rwa [decide_eq_true h] at this
end
end Go.Proofs.YtmojpbfkpggjhaaGreat

/-
  Contracts of the law's own functions of layer 7: the chapter's example; the array of a plain one. No statement is proved here.
-/
namespace Go.Proofs.YtmojpbfkpggjhaaGreat
open Go Go.RowKit
set_option linter.unusedVariables false
set_option linter.unusedSimpArgs false
set_option maxHeartbeats 4000000
attribute [local irreducible] CW RW QW SW HW ConM retM heldQ calmQ elemP thenQ blockQ loopQ joinQ retQ Yields Con Sl zF magR unitF truncF fwF wholeF tidySpec elemQ rankF leastN tidyW

/-! ## Plain facts -/
theorem AllN.mem {α : Type} {sz : Nat} {R : List Value → α → Prop} : ∀ {xs : List Value} {l : List α}, AllN sz R xs l → ∀ a ∈ l, ∃ cs, R cs a
  | _, [], _, _, h => by cases h
  | xs, b :: l, h, a, ha => by
    rcases List.mem_cons.1 ha with rfl | ha
    · exact ⟨_, h.2.1⟩
    · exact AllN.mem h.2.2 a ha
theorem tidy_tdy : ∀ (k : Nat) (d : Int) (p : PD k) (h : GHeap) (cs : List Value), PlainAt k h cs p → chk k d p = 0 → tdy k (tidy k p)
  | 0, _, _, _, _, _, _ => trivial
  | k + 1, d, p, h, cs, hp, hc => by
    obtain ⟨h1, h2, h3, h4, h5⟩ := (chkP_ok (α := PD k) _ _ _).1 hc
    obtain ⟨s, it, rfl, hl, ⟨ad2, cp2, xs, rfl, hS2, hA⟩⟩ := hp
    show tdyP (tdy k) (tidyP (tidy k) p)
    intro y hy
    obtain ⟨x, hx, rfl⟩ := List.mem_map.1 hy
    obtain ⟨cx, bx, rfl, ⟨ad3, cp3, ys, rfl, hS3, hA3⟩, hn⟩ := hA.mem x hx
    obtain ⟨o1, o2, o3⟩ := h5 x hx
    unfold tidyIt
    by_cases k0 : x.kind = 0
    · rw [if_pos k0]
      exact ⟨tidyW_tidy hn (o3 k0), by simp⟩
    rw [if_neg k0]
    by_cases k1 : x.kind = 1
    · rw [if_pos k1]
      exact ⟨tidy0, by simp⟩
    rw [if_neg k1]
    by_cases k2 : x.kind = 2
    · rw [if_pos k2]
      refine ⟨tidy0, ?_⟩
      obtain ⟨b, hb, hcb⟩ := o2 k2
      intro b' hb'
      dsimp only at hb'
      rw [hb] at hb' hA3
      simp at hb'
      subst hb'
      obtain ⟨cb, hRb⟩ := hA3.mem b (by simp)
      exact tidy_tdy k (d - 1) b h cb hRb hcb
    · rw [if_neg k2]
      exact ⟨tidy0, by simp⟩
theorem tidy1 : tidyF 4607182418800017408 := ⟨by omega, fin1, by omega⟩
theorem of07_con (k : Nat) (cs : List Value) (p : PD k) (w : World) (h : GHeap) (hp : PlainAt k h cs p) (hc : chk k 40 p = 0) : Con Tryz.prog 11 [.agg cs.toArray] w h (fun h' u => ∃ cs', u = .agg cs'.toArray ∧ cs'.length = 9 ∧ (∀ u ∈ cs', u.oneCell' = true) ∧ ArrAt k h' cs' (arr k p)) := by
  have hp' := hp
  cases k with
  | zero => exact hp.elim
  | succ k =>
    obtain ⟨s, it, rfl, _⟩ := hp
    refine Con.of_body Tryz.func11 rfl Tryz.ntmps11 rfl rfl ?_
    intro hs
    refine Zrun ?_
    (refine RW.boxN hs rfl rfl ?_; intro b1 w1 hs)
    (refine RW.allocN T hs rfl rfl rfl rfl ?_; intro b2 w2 hs)
    refine Zerun ?_
    (refine RW.call T hs rfl rfl rfl (valueOf_con _ _ _ _ _ hp') ?_; intro v h3 w3 hle3 hp3 hs)
    rw [hc] at hp3
    obtain ⟨cs3, rfl, hl3, ho3, hz3, hn3⟩ := hp3
    refine Zerun ?_
    (refine RW.allocN T hs rfl rfl rfl rfl ?_; intro b4 w4 hs)
    refine RW.storeAll T hs 0 rfl rfl rfl rfl rfl hl3 (List.all_eq_true.2 ho3) hl3 ?_
    intro w5 hs
    refine Zerun ?_
    refine RW.val (Y.loadRowN (cs := cs3) T hs 0 rfl rfl rfl rfl rfl (List.take_of_length_le (by rw [List.drop_zero]; exact Nat.le_of_eq hl3)) hl3) rfl ?_
    refine RW.storeAll T hs 1 rfl rfl rfl rfl rfl hl3 (List.all_eq_true.2 ho3) hl3 ?_
    intro w6 hs
    refine Zerun ?_
    exact retQ_ret [_] h3 ⟨resN T hs 1 rfl rfl rfl rfl rfl hl3, trivial⟩ hs.dropAll ⟨_, rfl, hl3, ho3, hz3 rfl⟩
end Go.Proofs.YtmojpbfkpggjhaaGreat

/-
  Contracts of the law's own functions of layer 7: which plain arrays are arrays. No statement is proved here.
-/
namespace Go.Proofs.YtmojpbfkpggjhaaGreat
open Go Go.RowKit
set_option linter.unusedVariables false
set_option linter.unusedSimpArgs false
set_option maxHeartbeats 4000000
attribute [local irreducible] CW RW QW SW HW ConM retM heldQ calmQ elemP thenQ blockQ loopQ joinQ retQ Yields Con Sl zF magR unitF truncF fwF wholeF tidySpec elemQ rankF leastN tidyW

end Go.Proofs.YtmojpbfkpggjhaaGreat

/-
  Contracts of functions of package value: arrays made of elements, a number, a character, a box alone. No statement is proved here.
-/
namespace Go.Proofs.YtmojpbfkpggjhaaGreat
open Go Go.RowKit
set_option linter.unusedVariables false
set_option linter.unusedSimpArgs false
set_option maxHeartbeats 4000000
attribute [local irreducible] CW RW QW SW HW ConM retM heldQ calmQ elemP thenQ blockQ loopQ joinQ retQ Yields Con Sl zF magR unitF truncF fwF wholeF tidySpec elemQ rankF leastN tidyW

section
variable {α : Type} {R : GHeap → List Value → α → Prop}
/-- what is wrong with elements of a shape -/
def newE (l : List Int) (v : VecD α) : Int := if (product l 1048576).2 ≠ 0 then (product l 1048576).2 else if v.kind = 0 then 1 else if (product l 1048576).1 ≠ v.len then 23 else 0
theorem valueNew_con (hR : Mono R) (s : Value) (l : List Int) (cs : List Value) (v : VecD α) (w : World) (h : GHeap) (hl : IntsAt h s l) (hv : VecAt R h cs v) : Con Tryz.prog 69 [s, .agg cs.toArray] w h (OfPost (ArrR R) (newE l v) ⟨l, v.sq⟩) := by
  have hl' := hl
  obtain ⟨ad, cp, rfl, hS⟩ := hl
  have hsl : l.length ≤ 9223372036854775807 := by have := hS.caps; omega
  have hv' := hv
  obtain ⟨wv, nv, sm, il, fl, ch, bx, ⟨rfl, hoc⟩, hk⟩ := hv
  clear hk
  unfold newE
  refine Con.of_body Tryz.func69 rfl Tryz.ntmps69 rfl rfl ?_
  intro hs
  refine Zrun ?_
  (refine RW.boxN hs rfl rfl ?_; intro b1 w1 hs)
  (refine RW.allocN T hs rfl rfl rfl rfl ?_; intro b2 w2 hs)
  refine Zerun ?_
  (refine RW.call T hs rfl rfl rfl (product_con _ l 1048576 _ _ hl' hsl) ?_; intro v h3 w3 hle3 hp3 hs)
  subst hp3
  have hl' := hl'.mono hle3
  have hv' := hv'.mono hR hle3
  generalize hpr : product l 1048576 = r
  obtain ⟨n, e⟩ := r
  dsimp only
  by_cases c1 : e ≠ 0
  · rw [if_pos c1]
    refine Zerun ?_
    refine RW.val (Y.build T rfl rfl rfl rfl rfl rfl rfl) rfl ?_
    refine Zerun ?_
    (refine RW.storeAll T hs 0 rfl rfl rfl rfl rfl rfl rfl rfl ?_; intro w4 hs)
    refine Zerun ?_
    exact retQ_ret [_, _] h3 ⟨resN T hs 0 rfl rfl rfl rfl rfl rfl, rfl, trivial⟩ hs.dropAll (OfPost.bad c1)
  rw [if_neg c1]
  refine Zerun ?_
  (refine RW.call T hs rfl rfl rfl (vecKind_con _ v _ _ hv') ?_; intro v h4 w4 hle4 hp4 hs)
  subst hp4
  have hl' := hl'.mono hle4
  have hv' := hv'.mono hR hle4
  by_cases c2 : v.kind = 0
  · rw [if_pos c2]
    refine Zerun ?_
    refine RW.val (Y.build T rfl rfl rfl rfl rfl rfl rfl) rfl ?_
    (refine RW.storeAll T hs 0 rfl rfl rfl rfl rfl rfl rfl rfl ?_; intro w5 hs)
    refine Zerun ?_
    exact retQ_ret [_, _] h4 ⟨resN T hs 0 rfl rfl rfl rfl rfl rfl, rfl, trivial⟩ hs.dropAll (OfPost.bad (by omega))
  rw [if_neg c2]
  refine Zerun ?_
  (refine RW.call T hs rfl rfl rfl (vecLen_con _ v _ _ hv') ?_; intro v h5 w5 hle5 hp5 hs)
  subst hp5
  have hl' := hl'.mono hle5
  have hv' := hv'.mono hR hle5
  by_cases c3 : n ≠ v.len
  · rw [if_pos c3]
    refine Zerun ?_
    refine RW.val (Y.build T rfl rfl rfl rfl rfl rfl rfl) rfl ?_
    (refine RW.storeAll T hs 0 rfl rfl rfl rfl rfl rfl rfl rfl ?_; intro w6 hs)
    refine Zerun ?_
    exact retQ_ret [_, _] h5 ⟨resN T hs 0 rfl rfl rfl rfl rfl rfl, rfl, trivial⟩ hs.dropAll (OfPost.bad (by omega))
  rw [if_neg c3]
  have hpr2 : product l 1048576 = ((v.len : Int), 0) := by rw [hpr, Decidable.of_not_not c1, Decidable.of_not_not c3]
  have hln := product_le hpr2
  have hlen := hln.2
  refine Zerun ?_
  refine CW.regionH T (fun w' : World => ∃ (h' : GHeap) (O : List Row) (k : Nat), Sees w h h' O w' ∧ O[k]? = some (Row.mk (some ⟨b1, 0, none⟩) 1 1 37 8 (vecCells v.kind wv nv sm il fl ch bx))) ?_
  rintro w4 rfl
  have hs := hs.drew
  refine HW.take (fuel := 6) 0 rfl (v := .slice ad l.length cp) ?_ ?_ rfl (by kernel_rfl) (by kernel_rfl) (by kernel_rfl) ?_
  · intro w' _; exact Y.move rfl
  · exact ⟨_, _, 1, hs, rfl⟩
  refine HW.take (fuel := 5) 2 rfl (v := .agg (vecCells v.kind wv nv sm il fl ch bx).toArray) ?_ ?_ rfl (by kernel_rfl) (by kernel_rfl) (by kernel_rfl) ?_
  · rintro w' ⟨h', O, k, hs', e0⟩; exact Y.loadRowN T hs' k e0 rfl rfl rfl rfl rfl rfl
  · exact ⟨_, _, 1, hs, rfl⟩
  refine HW.one (fuel := 4) 1 rfl (by kernel_rfl) ?_
  (refine RW.call T hs rfl rfl rfl (cloneInts_con _ l _ _ hl' (by omega)) ?_; intro v h5 w5 hle5 hp5 hs)
  have hl5 := hp5
  obtain ⟨ad5, cp5, rfl, _⟩ := hp5
  have hv' := hv'.mono hR hle5
  refine RW.nil ?_
  refine heldQ_normal ⟨_, _, 1, hs, rfl⟩ ?_
  refine HW.one (fuel := 3) 3 rfl (by kernel_rfl) ?_
  (refine RW.call T hs rfl rfl rfl (sqSqueeze_con hR _ v _ _ hv' hlen) ?_; intro v h6 w6 hle6 hp6 hs)
  obtain ⟨cs6, rfl, hv6⟩ := hp6
  have hl5 := hl5.mono hle6
  have hv6' := hv6
  obtain ⟨wv', nv', sm', il', fl', ch', bx', ⟨rfl, hoc6⟩, _⟩ := hv6
  generalize v.sq.kind = vk at *
  refine RW.nil ?_
  refine heldQ_normal ⟨_, _, 1, hs, rfl⟩ ?_
  refine HW.take (fuel := 2) 4 rfl (v := .agg (.slice ad5 l.length cp5 :: vecCells vk wv' nv' sm' il' fl' ch' bx').toArray) ?_ ?_ rfl (by kernel_rfl) (by kernel_rfl) (by kernel_rfl) ?_
  · intro w' _; exact Y.build T rfl rfl rfl rfl rfl rfl rfl
  · exact ⟨_, _, 1, hs, rfl⟩
  refine HW.one (fuel := 1) 5 rfl (by kernel_rfl) ?_
  (refine RW.storeAll T hs 0 rfl rfl rfl rfl rfl rfl hoc6 rfl ?_; intro w7 hs)
  refine RW.nil ?_
  refine heldQ_normal ⟨_, _, 1, hs, rfl⟩ ?_
  refine HW.one (fuel := 0) 6 rfl (by kernel_rfl) ?_
  refine RW.val (Y.assign rfl) rfl ?_
  refine RW.nil ?_
  refine heldQ_normal ⟨_, _, 1, hs, rfl⟩ ?_
  refine HW.done (by kernel_rfl) ?_
  refine calmQ_normal ?_
  refine Zerun ?_
  refine retQ_ret [_, _] h6 ⟨resN T hs 0 rfl rfl rfl rfl rfl rfl, rfl, trivial⟩ hs.dropAll ⟨_, rfl, rfl, ?_, fun _ => ⟨_, _, rfl, hl5, hv6'⟩, fun e => absurd rfl e⟩
  intro u hu
  rcases List.mem_cons.1 hu with rfl | hu
  · rfl
  · exact List.all_eq_true.1 hoc6 u hu
theorem valueList_con (hR : Mono R) (cs : List Value) (v : VecD α) (w : World) (h : GHeap) (hv : VecAt R h cs v) (hm : v.len ≤ 1048576) : Con Tryz.prog 56 [.agg cs.toArray] w h (fun h' u => ∃ cs', u = .agg cs'.toArray ∧ ArrR R h' cs' ⟨[(v.len : Int)], v.sq⟩) := by
  have hv' := hv
  obtain ⟨wv, nv, sm, il, fl, ch, bx, ⟨rfl, hoc⟩, hk⟩ := hv
  clear hk
  refine Con.of_body Tryz.func56 rfl Tryz.ntmps56 rfl rfl ?_
  intro hs
  refine Zrun ?_
  (refine RW.boxN hs rfl rfl ?_; intro b1 w1 hs)
  (refine RW.allocN T hs rfl rfl rfl rfl ?_; intro b2 w2 hs)
  refine Zerun ?_
  refine CW.regionH T (fun w' : World => ∃ (h' : GHeap) (O : List Row) (k : Nat), Sees w h h' O w' ∧ O[k]? = some (Row.mk (some ⟨b1, 0, none⟩) 1 1 37 8 (vecCells v.kind wv nv sm il fl ch bx))) ?_
  rintro w4 rfl
  have hs := hs.drew
  refine HW.take (fuel := 6) 0 rfl (v := .agg (vecCells v.kind wv nv sm il fl ch bx).toArray) ?_ ?_ rfl (by kernel_rfl) (by kernel_rfl) (by kernel_rfl) ?_
  · rintro w' ⟨h', O, k, hs', e0⟩; exact Y.loadRowN T hs' k e0 rfl rfl rfl rfl rfl rfl
  · exact ⟨_, _, 1, hs, rfl⟩
  refine HW.take (fuel := 5) 3 rfl (v := .agg (vecCells v.kind wv nv sm il fl ch bx).toArray) ?_ ?_ rfl (by kernel_rfl) (by kernel_rfl) (by kernel_rfl) ?_
  · rintro w' ⟨h', O, k, hs', e0⟩; exact Y.loadRowN T hs' k e0 rfl rfl rfl rfl rfl rfl
  · exact ⟨_, _, 1, hs, rfl⟩
  refine HW.one (fuel := 4) 1 rfl (by kernel_rfl) ?_
  (refine RW.call T hs rfl rfl rfl (vecLen_con _ v _ _ hv') ?_; intro v h5 w5 hle5 hp5 hs)
  subst hp5
  have hv' := hv'.mono hR hle5
  refine RW.nil ?_
  refine heldQ_normal ⟨_, _, 1, hs, rfl⟩ ?_
  refine HW.two (fuel := 3) 2 4 rfl rfl (by kernel_rfl) ?_ ?_
  · (refine RW.lit T hs (vs := [.int .i64 v.len]) (cs := [.int .i64 v.len]) rfl rfl rfl rfl (by simp [Value.cells]) rfl rfl rfl rfl rfl ?_; intro b7 w7 hs)
    refine RW.nil ?_
    refine heldQ_normal ⟨_, _, 2, hs, rfl⟩ ?_
    refine HW.one (fuel := 2) 4 rfl (by kernel_rfl) ?_
    (refine RW.call T hs rfl rfl rfl (sqSqueeze_con hR _ v _ _ hv' hm) ?_; intro v h6 w6 hle6 hp6 hs)
    obtain ⟨cs6, rfl, hv6⟩ := hp6
    have hv6' := hv6
    obtain ⟨wv', nv', sm', il', fl', ch', bx', ⟨rfl, hoc6⟩, _⟩ := hv6
    generalize v.sq.kind = vk at *
    refine RW.nil ?_
    refine heldQ_normal ⟨_, _, 2, hs, rfl⟩ ?_
    refine HW.take (fuel := 1) 5 rfl (v := .agg (.slice (some ⟨b7, 0, none⟩) 1 1 :: vecCells vk wv' nv' sm' il' fl' ch' bx').toArray) ?_ ?_ rfl (by kernel_rfl) (by kernel_rfl) (by kernel_rfl) ?_
    · intro w' _; exact Y.build T rfl rfl rfl rfl rfl rfl rfl
    · exact ⟨_, _, 2, hs, rfl⟩
    refine HW.one (fuel := 0) 6 rfl (by kernel_rfl) ?_
    (refine RW.storeAll T hs 1 rfl rfl rfl rfl rfl rfl hoc6 rfl ?_; intro w8 hs)
    refine RW.nil ?_
    refine heldQ_normal ⟨_, _, 2, hs, rfl⟩ ?_
    refine HW.done (by kernel_rfl) ?_
    refine calmQ_normal ?_
    refine Zerun ?_
    obtain ⟨h9, hle9, hs, hS9⟩ := hs.freeze
    exact retQ_ret [_] h9 ⟨resN T hs 0 rfl rfl rfl rfl rfl rfl, trivial⟩ hs.dropAll ⟨_, rfl, _, _, rfl, IntsAt.of_sl hS9, hv6'.mono hR hle9⟩
  · (refine RW.call T hs rfl rfl rfl (sqSqueeze_con hR _ v _ _ hv' hm) ?_; intro v h6 w6 hle6 hp6 hs)
    obtain ⟨cs6, rfl, hv6⟩ := hp6
    have hv6' := hv6
    obtain ⟨wv', nv', sm', il', fl', ch', bx', ⟨rfl, hoc6⟩, _⟩ := hv6
    generalize v.sq.kind = vk at *
    refine RW.nil ?_
    refine heldQ_normal ⟨_, _, 1, hs, rfl⟩ ?_
    refine HW.one (fuel := 2) 2 rfl (by kernel_rfl) ?_
    (refine RW.lit T hs (vs := [.int .i64 v.len]) (cs := [.int .i64 v.len]) rfl rfl rfl rfl (by simp [Value.cells]) rfl rfl rfl rfl rfl ?_; intro b7 w7 hs)
    refine RW.nil ?_
    refine heldQ_normal ⟨_, _, 2, hs, rfl⟩ ?_
    refine HW.take (fuel := 1) 5 rfl (v := .agg (.slice (some ⟨b7, 0, none⟩) 1 1 :: vecCells vk wv' nv' sm' il' fl' ch' bx').toArray) ?_ ?_ rfl (by kernel_rfl) (by kernel_rfl) (by kernel_rfl) ?_
    · intro w' _; exact Y.build T rfl rfl rfl rfl rfl rfl rfl
    · exact ⟨_, _, 2, hs, rfl⟩
    refine HW.one (fuel := 0) 6 rfl (by kernel_rfl) ?_
    (refine RW.storeAll T hs 1 rfl rfl rfl rfl rfl rfl hoc6 rfl ?_; intro w8 hs)
    refine RW.nil ?_
    refine heldQ_normal ⟨_, _, 2, hs, rfl⟩ ?_
    refine HW.done (by kernel_rfl) ?_
    refine calmQ_normal ?_
    refine Zerun ?_
    obtain ⟨h9, hle9, hs, hS9⟩ := hs.freeze
    exact retQ_ret [_] h9 ⟨resN T hs 0 rfl rfl rfl rfl rfl rfl, trivial⟩ hs.dropAll ⟨_, rfl, _, _, rfl, IntsAt.of_sl hS9, hv6'.mono hR hle9⟩
theorem valueBox_con (hR : Mono R) (h1 : One R) (h9 : Siz 9 R) (cs : List Value) (a : α) (w : World) (h : GHeap) (ha : R h cs a) : Con Tryz.prog 77 [.agg cs.toArray] w h (fun h' u => ∃ cs', u = .agg cs'.toArray ∧ ArrR R h' cs' ⟨[], ⟨6, [], [], [a]⟩⟩) := by
  have hl9 := h9 _ _ _ ha
  refine Con.of_body Tryz.func77 rfl Tryz.ntmps77 rfl rfl ?_
  intro hs
  refine Zrun ?_
  (refine RW.boxN hs rfl rfl ?_; intro b1 w1 hs)
  (refine RW.allocN T hs rfl rfl rfl rfl ?_; intro b2 w2 hs)
  refine Zerun ?_
  refine RW.val (Y.loadRowN (cs := cs) T hs 1 rfl rfl rfl rfl rfl (List.take_of_length_le (by rw [List.drop_zero]; exact Nat.le_of_eq hl9)) hl9) rfl ?_
  (refine RW.lit T hs (vs := [.agg cs.toArray]) (cs := cs) rfl rfl rfl rfl (by simp [Value.cells, hl9]) rfl (by simp [Value.cells]) rfl rfl rfl ?_; intro b3 w3 hs)
  obtain ⟨h4, hle4, hs, hS4⟩ := hs.freeze
  have hB4 : RowsAt 9 (R h4) h4 (.slice (some ⟨b3, 0, none⟩) 1 1) [a] := RowsAt.single hS4 (hR _ _ _ _ hle4 ha)
  (refine RW.call T hs rfl rfl rfl (vecBoxes_con (R := R) hR h1 _ [a] _ _ hB4 (by simp)) ?_; intro v h5 w5 hle5 hp5 hs)
  obtain ⟨cs5, rfl, hv5⟩ := hp5
  have hv5' := hv5
  obtain ⟨wv, nv, sm, il, fl, ch, bx, ⟨rfl, hoc5⟩, _⟩ := hv5
  refine RW.val (Y.build T rfl rfl rfl rfl rfl rfl rfl) rfl ?_
  (refine RW.storeAll T hs 0 rfl rfl rfl rfl rfl rfl hoc5 rfl ?_; intro w6 hs)
  refine Zerun ?_
  exact retQ_ret [_] h5 ⟨resN T hs 0 rfl rfl rfl rfl rfl rfl, trivial⟩ hs.dropAll ⟨_, rfl, _, _, rfl, RowAt.nil _, hv5'⟩
end
end Go.Proofs.YtmojpbfkpggjhaaGreat

/-
  Contracts of the law's own functions of layer 7: which shapes elements can have. No statement is proved here.
-/
namespace Go.Proofs.YtmojpbfkpggjhaaGreat
open Go Go.RowKit
set_option linter.unusedVariables false
set_option linter.unusedSimpArgs false
set_option maxHeartbeats 4000000
attribute [local irreducible] CW RW QW SW HW ConM retM heldQ calmQ elemP thenQ blockQ loopQ joinQ retQ Yields Con Sl zF magR unitF truncF fwF wholeF tidySpec elemQ rankF leastN tidyW

/-- the plain array of numbers -/
def numsP {α : Type} (l : List Nat) : PlainD α := ⟨[(l.length : Int)], l.map fun x => ⟨0, x, 0, []⟩, 0⟩
theorem refNums_con {α : Type} {R : GHeap → List Value → α → Prop} (hR : Mono R) (s : Value) (l : List Nat) (w : World) (h : GHeap) (hl : FAt h s l) (hx : ∀ u ∈ l, u < 18446744073709551616) (hm : l.length ≤ 1048576) : Con Tryz.prog 48 [s] w h (fun h' u => ∃ cs', u = .agg cs'.toArray ∧ PlainR R h' cs' (numsP l)) := by
  obtain ⟨ad, cp, rfl, hS⟩ := hl
  refine Con.of_body Tryz.func48 rfl Tryz.ntmps48 rfl rfl ?_
  intro hs
  refine Zrun ?_
  (refine RW.allocN T hs rfl rfl rfl rfl ?_; intro b1 w1 hs)
  refine Zerun ?_
  (refine RW.lit T hs (vs := [.int .i64 l.length]) (cs := [.int .i64 l.length]) rfl rfl rfl rfl (by simp [Value.cells]) rfl rfl rfl rfl rfl ?_; intro b2 w2 hs)
  obtain ⟨h3, hle3, hs, hS3⟩ := hs.freeze
  have hI3 : IntsAt h3 (.slice (some ⟨b2, 0, none⟩) 1 1) [(l.length : Int)] := IntsAt.of_sl hS3
  refine RW.val (Y.build T rfl rfl rfl rfl rfl rfl rfl) rfl ?_
  (refine RW.allocN T hs rfl rfl rfl rfl ?_; intro b3 w3 hs)
  (refine RW.storeAll T hs 0 rfl rfl rfl rfl rfl rfl rfl rfl ?_; intro w4 hs)
  refine Zerun ?_
  have hs := hs.nilRow 69 4
  refine CW.loop (fun u : Nat × Option Addr × Nat × List Value => [(0, .slice ad l.length cp), (2, .pointer (some ⟨b1, 0, none⟩)), (3, .pointer (some ⟨b3, 0, none⟩)), (4, .int .i64 u.1)]) (fun u w' => u.1 ≤ l.length ∧ AllN 4 (ItemAt R h3) u.2.2.2 ((l.take u.1).map fun x => ⟨0, x, 0, []⟩) ∧ Sees w h h3 [⟨u.2.1, u.1, u.2.2.1, 69, 4, u.2.2.2⟩, ⟨some ⟨b3, 0, none⟩, 1, 1, 25, 3, [.slice (some ⟨b2, 0, none⟩) 1 1, .slice u.2.1 u.1 u.2.2.1, .int .i64 0]⟩, ⟨some ⟨b1, 0, none⟩, 1, 1, 25, 3, [.slice none 0 0, .slice none 0 0, .int .i64 0]⟩] w') (fun u => l.length - u.1) (0, none, 0, []) ⟨rfl, rfl, rfl, rfl, trivial⟩ ⟨by omega, rfl, hs⟩ ?_
  rintro ⟨i, ra, rc, vs⟩ w5 ⟨hi, hAv, hs⟩
  dsimp only at hi hAv hs ⊢
  by_cases hlt : i < l.length
  · have htk := take_succ_getD l i 0 hlt
    refine Zerun ?_
    refine CW.regionH T (fun w' : World => ∃ (h' : GHeap) (O : List Row), Sees w h h' O w') ?_
    rintro w7 rfl
    have hs := hs.drew
    refine HW.take (fuel := 10) 0 rfl (v := .pointer (some ⟨b3, 0 + 1, none⟩)) ?_ ?_ rfl (by kernel_rfl) (by kernel_rfl) (by kernel_rfl) ?_
    · intro w' _; exact Y.fieldAddr T rfl rfl rfl rfl rfl
    · exact ⟨_, _, hs⟩
    refine HW.take (fuel := 9) 2 rfl (v := .slice ad l.length cp) ?_ ?_ rfl (by kernel_rfl) (by kernel_rfl) (by kernel_rfl) ?_
    · intro w' _; exact Y.move rfl
    · exact ⟨_, _, hs⟩
    refine HW.take (fuel := 8) 3 rfl (v := .int .i64 i) ?_ ?_ rfl (by kernel_rfl) (by kernel_rfl) (by kernel_rfl) ?_
    · intro w' _; exact Y.move rfl
    · exact ⟨_, _, hs⟩
    refine HW.take (fuel := 7) 4 rfl (v := elemP ad i 1) ?_ ?_ rfl (by kernel_rfl) (by kernel_rfl) (by kernel_rfl) ?_
    · rintro w' ⟨h', O, hs'⟩; exact Y.idxSN T rfl rfl (hS.mono hs'.le) rfl rfl rfl hlt
    · exact ⟨_, _, hs⟩
    refine HW.take (fuel := 6) 5 rfl (v := .float .f64 (l.getD i 0)) ?_ ?_ rfl (by kernel_rfl) (by kernel_rfl) (by kernel_rfl) ?_
    · rintro w' ⟨h', O, hs'⟩; exact Y.ldS T hs' rfl (hS.mono hs'.le) rfl rfl hlt (map_get _ _ _ _ hlt)
    · exact ⟨_, _, hs⟩
    refine HW.take (fuel := 5) 6 rfl (v := .agg [.int .i64 0, .float .f64 (l.getD i 0), .int .i32 0, .slice none 0 0].toArray) ?_ ?_ rfl (by kernel_rfl) (by kernel_rfl) (by kernel_rfl) ?_
    · intro w' _; exact Y.build T rfl rfl rfl rfl rfl rfl rfl
    · exact ⟨_, _, hs⟩
    refine HW.two (fuel := 4) 1 7 rfl rfl (by kernel_rfl) ?_ ?_
    · refine RW.val (Y.loadRow1 T hs 1 rfl rfl rfl rfl rfl) rfl ?_
      refine RW.nil ?_
      refine heldQ_normal ⟨_, _, hs⟩ ?_
      refine HW.one (fuel := 3) 7 rfl (by kernel_rfl) ?_
      (refine RW.lit T hs (vs := [.agg [.int .i64 0, .float .f64 (l.getD i 0), .int .i32 0, .slice none 0 0].toArray]) (cs := [.int .i64 0, .float .f64 (l.getD i 0), .int .i32 0, .slice none 0 0]) rfl rfl rfl rfl (by simp [Value.cells]) rfl rfl rfl rfl rfl ?_; intro b8 w8 hs)
      refine RW.nil ?_
      refine heldQ_normal ⟨_, _, hs⟩ ?_
      refine HW.one (fuel := 2) 8 rfl (by kernel_rfl) ?_
      (refine RW.append T hs 1 rfl rfl (m := 1) (news := [.int .i64 0, .float .f64 (l.getD i 0), .int .i32 0, .slice none 0 0]) rfl rfl rfl rfl rfl rfl (hs.src0 rfl (by simp [Value.oneCell'])) (by simp) (by dsimp only; omega) (by omega) ?_; intro ad9 cp9 w9 hs; replace hs := hs.drop)
      refine RW.nil ?_
      refine heldQ_normal ⟨_, _, hs⟩ ?_
      refine HW.take (fuel := 1) 9 rfl (v := .pointer (some ⟨b3, 0 + 1, none⟩)) ?_ ?_ rfl (by kernel_rfl) (by kernel_rfl) (by kernel_rfl) ?_
      · intro w' _; exact Y.fieldAddr T rfl rfl rfl rfl rfl
      · exact ⟨_, _, hs⟩
      refine HW.one (fuel := 0) 10 rfl (by kernel_rfl) ?_
      (refine RW.store1 T hs 1 rfl rfl rfl rfl rfl rfl rfl rfl ?_; intro w10 hs)
      refine RW.nil ?_
      refine heldQ_normal ⟨_, _, hs⟩ ?_
      refine HW.done (by kernel_rfl) ?_
      refine calmQ_normal ?_
      refine Zerun ?_
      refine loopQ_round (i + 1, ad9, cp9, _) ⟨rfl, rfl, rfl, rfl, trivial⟩ ⟨by dsimp only; omega, ?_, hs⟩ (by dsimp only; omega)
      dsimp only
      rw [htk, List.map_append]
      exact hAv.append (AllN.one rfl (ItemAt.mk' (x := ⟨0, l.getD i 0, 0, []⟩) (RowsAt.nil _) (hx _ (mem_getD _ _ _ hlt))))
    · (refine RW.lit T hs (vs := [.agg [.int .i64 0, .float .f64 (l.getD i 0), .int .i32 0, .slice none 0 0].toArray]) (cs := [.int .i64 0, .float .f64 (l.getD i 0), .int .i32 0, .slice none 0 0]) rfl rfl rfl rfl (by simp [Value.cells]) rfl rfl rfl rfl rfl ?_; intro b8 w8 hs)
      refine RW.nil ?_
      refine heldQ_normal ⟨_, _, hs⟩ ?_
      refine HW.one (fuel := 3) 1 rfl (by kernel_rfl) ?_
      refine RW.val (Y.loadRow1 T hs 2 rfl rfl rfl rfl rfl) rfl ?_
      refine RW.nil ?_
      refine heldQ_normal ⟨_, _, hs⟩ ?_
      refine HW.one (fuel := 2) 8 rfl (by kernel_rfl) ?_
      (refine RW.append T hs 1 rfl rfl (m := 1) (news := [.int .i64 0, .float .f64 (l.getD i 0), .int .i32 0, .slice none 0 0]) rfl rfl rfl rfl rfl rfl (hs.src0 rfl (by simp [Value.oneCell'])) (by simp) (by dsimp only; omega) (by omega) ?_; intro ad9 cp9 w9 hs; replace hs := hs.drop)
      refine RW.nil ?_
      refine heldQ_normal ⟨_, _, hs⟩ ?_
      refine HW.take (fuel := 1) 9 rfl (v := .pointer (some ⟨b3, 0 + 1, none⟩)) ?_ ?_ rfl (by kernel_rfl) (by kernel_rfl) (by kernel_rfl) ?_
      · intro w' _; exact Y.fieldAddr T rfl rfl rfl rfl rfl
      · exact ⟨_, _, hs⟩
      refine HW.one (fuel := 0) 10 rfl (by kernel_rfl) ?_
      (refine RW.store1 T hs 1 rfl rfl rfl rfl rfl rfl rfl rfl ?_; intro w10 hs)
      refine RW.nil ?_
      refine heldQ_normal ⟨_, _, hs⟩ ?_
      refine HW.done (by kernel_rfl) ?_
      refine calmQ_normal ?_
      refine Zerun ?_
      refine loopQ_round (i + 1, ad9, cp9, _) ⟨rfl, rfl, rfl, rfl, trivial⟩ ⟨by dsimp only; omega, ?_, hs⟩ (by dsimp only; omega)
      dsimp only
      rw [htk, List.map_append]
      exact hAv.append (AllN.one rfl (ItemAt.mk' (x := ⟨0, l.getD i 0, 0, []⟩) (RowsAt.nil _) (hx _ (mem_getD _ _ _ hlt))))
  · obtain rfl : i = l.length := by omega
    rw [List.take_length] at hAv
    obtain ⟨h6, hle6, hs, hS6⟩ := hs.freeze
    refine Zerun ?_
    (refine RW.storeAll T hs 1 rfl rfl rfl rfl rfl rfl rfl rfl ?_; intro w7 hs)
    refine Zerun ?_
    refine retQ_ret [_] h6 ⟨resN T hs 1 rfl rfl rfl rfl rfl rfl, trivial⟩ hs.dropAll ⟨_, rfl, _, _, rfl, hI3.mono hle6, ra, rc, vs, by simp [numsP], ?_, hAv.mono (fun u a => ItemAt.mono hR _ _ u a hle6)⟩
    simpa [numsP] using hS6
theorem sq_nums {α : Type} (vk : Int) (N : List Nat) (h1 : 1 ≤ vk) (h4 : vk ≤ 4) : (⟨vk, N, [], []⟩ : VecD α).sq = ⟨leastN N, N, [], []⟩ := by
  unfold VecD.sq VecD.cls
  have e5 : ¬ vk = 5 := by omega
  have e6 : ¬ vk = 6 := by omega
  simp only [if_neg e5, if_neg e6]
  rw [if_pos ⟨trivial, by omega⟩]
end Go.Proofs.YtmojpbfkpggjhaaGreat
