/-
  Plain facts on shapes: places and indexes, all of them in order. No program is in sight, and no statement is proved here.
-/
import Derived.Test.YtdpkioffihebnaaPlainA
namespace Go.Proofs.Ytdpkioffihebnaa

theorem emod_split (a p d : Int) (hp : 0 < p) (hd : 0 < d) : a % (d * p) = ((a / p) % d) * p + a % p := by
  have h1 : p * (a / p) + a % p = a := Int.mul_ediv_add_emod a p
  have h2 : d * ((a / p) / d) + (a / p) % d = a / p := Int.mul_ediv_add_emod (a / p) d
  have b1 := Int.emod_nonneg a (show p ≠ 0 by omega)
  have b2 := Int.emod_lt_of_pos a hp
  have b3 := Int.emod_nonneg (a / p) (show d ≠ 0 by omega)
  have b4 := Int.emod_lt_of_pos (a / p) hd
  generalize a % p = s at *
  generalize (a / p) % d = r at *
  generalize (a / p) / d = q at *
  have e : a = (r * p + s) + (d * p) * q := by
    rw [← h1, ← h2, Int.mul_add, Int.mul_comm p r, Int.mul_comm d p, Int.mul_assoc]; omega
  have c1 : 0 ≤ r * p := Int.mul_nonneg b3 (by omega)
  have c2 : (r + 1) * p ≤ d * p := Int.mul_le_mul_of_nonneg_right (by omega) (by omega)
  rw [Int.add_mul] at c2
  rw [e, Int.add_mul_emod_self_left, Int.emod_eq_of_lt (by omega) (by omega)]
theorem off_idxOf : ∀ (s : List Int) (a : Int), (∀ d ∈ s, 1 ≤ d) → off s (idxOf s a) = a % prn s
  | [], a, _ => by simp [off, prn, Int.emod_one]
  | d :: s, a, h => by
    have hs : ∀ x ∈ s, 1 ≤ x := fun x hx => h x (List.mem_cons_of_mem _ hx)
    have hd := h d List.mem_cons_self
    have hp := prn_pos s hs
    simp only [idxOf, off, prn, off_idxOf s a hs]
    rw [emod_split a (prn s) d (by omega) (by omega)]
theorem inR_idxOf : ∀ (s : List Int) (a : Int), (∀ d ∈ s, 1 ≤ d) → inR s (idxOf s a) = true
  | [], a, _ => rfl
  | d :: s, a, h => by
    have hd := h d List.mem_cons_self
    simp only [idxOf, inR, Bool.and_eq_true, decide_eq_true_eq]
    exact ⟨⟨Int.emod_nonneg _ (by omega), Int.emod_lt_of_pos _ (by omega)⟩, inR_idxOf s a (fun x hx => h x (List.mem_cons_of_mem _ hx))⟩
theorem at_index (s : List Int) (a : Int) (hg : goodS s = true) (ha : 0 ≤ a ∧ a < (product s 1048576).1) : atSpec s (idxOf s a) = (a, true) := by
  obtain ⟨hpos, hp⟩ := idx_pos s a hg ha
  unfold atSpec
  rw [if_pos ⟨hg, inR_idxOf s a hpos⟩, off_idxOf s a hpos, prn_eq_pr s hpos, Int.emod_eq_of_lt ha.1 (by omega)]
theorem at_cases (s i : List Int) : (∃ x, 0 ≤ x ∧ atSpec s i = (x, true)) ∨ atSpec s i = (0, false) := by
  unfold atSpec
  by_cases h : goodS s = true ∧ inR s i = true
  · rw [if_pos h]; exact .inl ⟨_, (off_bound s i h.2).1, rfl⟩
  · rw [if_neg h]; exact .inr rfl
theorem index_cases (s : List Int) (a : Int) : (((product s 1048576).2 = 0 ∧ 0 ≤ a ∧ a < (product s 1048576).1) ∧ ∃ x, indexSpec s a = (x, true) ∧ atSpec s x = (a, true)) ∨ (¬ ((product s 1048576).2 = 0 ∧ 0 ≤ a ∧ a < (product s 1048576).1) ∧ indexSpec s a = ([], false)) := by
  unfold indexSpec
  by_cases h : goodS s = true ∧ 0 ≤ a ∧ a < (product s 1048576).1
  · rw [if_pos h]; exact .inl ⟨⟨(goodS_iff s).1 h.1, h.2⟩, _, rfl, at_index s a h.1 h.2⟩
  · rw [if_neg h]; exact .inr ⟨fun e => h ⟨(goodS_iff s).2 e.1, e.2⟩, rfl⟩
/-! ## All indexes, in order -/
def allRow (d : Int) (x : List Int) : List (List Int) := (List.range d.toNat).map fun (j : Nat) => x ++ [(j : Int)]
def allStep (most : Nat) (ls : List (List Int)) (d : Int) : List (List Int) := (ls.flatMap (allRow d)).take most
def allSpec (most : Nat) (s : List Int) : List (List Int) := s.foldl (allStep most) [[]]
theorem allSpec_take_succ (most : Nat) (s : List Int) (k : Nat) (h : k < s.length) : allSpec most (s.take (k + 1)) = allStep most (allSpec most (s.take k)) (s.getD k 0) := by
  unfold allSpec
  rw [take_snoc s k 0 h, List.foldl_append]; rfl
theorem take_full {α : Type} (a b : List α) (m : Nat) (h : ¬ (a.take m).length < m) : (a ++ b).take m = a.take m := by
  rw [List.length_take] at h
  exact List.take_append_of_le_length (by omega)
theorem take_short {α : Type} (a : List α) (m : Nat) (h : (a.take m).length < m) : a.take m = a := by
  rw [List.length_take] at h
  exact List.take_of_length_le (by omega)
theorem flat_range {β : Type} (d : Nat) (hd : 0 < d) (f : Nat → Nat → β) : ∀ p : Nat, (List.range p).flatMap (fun i => (List.range d).map (f i)) = (List.range (p * d)).map (fun a => f (a / d) (a % d))
  | 0 => by simp
  | p + 1 => by
    rw [List.range_succ, List.flatMap_append, flat_range d hd f p, Nat.add_mul, Nat.one_mul, List.range_add, List.map_append]
    congr 1
    simp only [List.flatMap_cons, List.flatMap_nil, List.append_nil, List.map_map]
    apply List.map_congr_left
    intro j hj
    have hj := List.mem_range.1 hj
    have e1 : (p * d + j) / d = p := by rw [Nat.mul_comm, Nat.mul_add_div hd, Nat.div_eq_of_lt hj, Nat.add_zero]
    have e2 : (p * d + j) % d = j := by rw [Nat.mul_comm, Nat.mul_add_mod, Nat.mod_eq_of_lt hj]
    simp only [Function.comp, e1, e2]
theorem idxOf_snoc (d : Int) (hd : 1 ≤ d) : ∀ (s : List Int) (a : Int), (∀ x ∈ s, 1 ≤ x) → 0 ≤ a → idxOf (s ++ [d]) a = idxOf s (a / d) ++ [a % d]
  | [], a, _, _ => by simp [idxOf, prn]
  | e :: s, a, h, ha => by
    have hs : ∀ x ∈ s, 1 ≤ x := fun x hx => h x (List.mem_cons_of_mem _ hx)
    have hp := prn_pos s hs
    simp only [List.cons_append, idxOf, idxOf_snoc d hd s a hs ha, prn_append, prn, Int.mul_one]
    rw [Int.mul_comm, ← Int.ediv_ediv_of_nonneg (by omega)]
theorem all_take (most : Nat) (s : List Int) (hpos : ∀ d ∈ s, 1 ≤ d) (hp : pr s ≤ most) : ∀ k, k ≤ s.length → allSpec most (s.take k) = (List.range (prn (s.take k)).toNat).map fun (i : Nat) => idxOf (s.take k) i
  | 0, _ => by simp [allSpec, prn, idxOf, List.range_succ]
  | k + 1, hk => by
    have hposk : ∀ d ∈ s.take k, 1 ≤ d := fun d hd => hpos d (List.mem_of_mem_take hd)
    have hposk1 : ∀ d ∈ s.take (k + 1), 1 ≤ d := fun d hd => hpos d (List.mem_of_mem_take hd)
    have hd : 1 ≤ s.getD k 0 := hpos _ (by simp [List.getD_eq_getElem?_getD, show k < s.length by omega])
    have hle := pr_take_le s (k + 1)
    rw [← prn_eq_pr _ hposk1] at hle
    have hpk := prn_pos _ hposk
    rw [allSpec_take_succ most s k (by omega), all_take most s hpos hp k (by omega)]
    unfold allStep
    rw [take_snoc s k 0 (by omega)] at hle ⊢
    rw [prn_append] at hle ⊢
    simp only [prn, Int.mul_one] at hle ⊢
    generalize s.getD k 0 = d at hd hle ⊢
    generalize hP : prn (s.take k) = p at hpk hle ⊢
    obtain ⟨D, rfl⟩ := Int.eq_ofNat_of_zero_le (show 0 ≤ d by omega)
    obtain ⟨P, rfl⟩ := Int.eq_ofNat_of_zero_le (show 0 ≤ p by omega)
    have e : ((P : Int) * (D : Int)).toNat = P * D := by rw [← Int.natCast_mul, Int.toNat_natCast]
    rw [e, List.flatMap_map]
    unfold allRow
    simp only [Int.toNat_natCast]
    have hD : 0 < D := by omega
    rw [flat_range D hD (fun i j => idxOf (s.take k) (i : Int) ++ [(j : Int)])]
    have hPD : P * D ≤ most := by
      have : (P : Int) * (D : Int) ≤ most := by omega
      rw [← Int.natCast_mul] at this; omega
    rw [List.take_of_length_le (by simp; omega)]
    apply List.map_congr_left
    intro a _
    rw [idxOf_snoc _ (by omega) _ _ hposk (by omega)]
    simp
theorem all_nil (most : Nat) : ∀ s : List Int, s.foldl (allStep most) [] = []
  | [] => rfl
  | d :: s => by simpa [allStep] using all_nil most s
theorem all_zero (most : Nat) (s : List Int) (h : 0 ∈ s) : allSpec most s = [] := by
  obtain ⟨a, b, rfl⟩ := List.append_of_mem h
  unfold allSpec
  rw [List.foldl_append, List.foldl_cons]
  have : allStep most (a.foldl (allStep most) [[]]) 0 = [] := by
    unfold allStep allRow
    simp
  rw [this, all_nil]
theorem product_fits (s : List Int) (most n : Int) (h : product s most = (n, 0)) : goodS s = true ∧ product s 1048576 = (n, 0) ∧ 0 ≤ n ∧ n ≤ most ∧ n = (if 0 ∈ s then 0 else pr s) := by
  unfold product at h
  by_cases h8 : 8 < s.length
  · rw [if_pos h8] at h; simp at h
  rw [if_neg h8] at h
  by_cases hn : ∃ d ∈ s, d < 0
  · rw [if_pos hn] at h; simp at h
  rw [if_neg hn] at h
  by_cases hp : 1048576 < pr s
  · rw [if_pos hp] at h; simp at h
  rw [if_neg hp] at h
  by_cases hm : most < (if 0 ∈ s then 0 else pr s)
  · rw [if_pos hm] at h; simp at h
  rw [if_neg hm] at h
  simp only [Prod.mk.injEq, and_true] at h
  have h0 : ∀ d ∈ s, 0 ≤ d := fun d hd => by
    rcases Int.lt_or_le d 0 with h | h
    · exact absurd ⟨d, hd, h⟩ hn
    · exact h
  have hg : goodS s = true := (goodS_spec s).2 ⟨by omega, h0, by omega⟩
  have hpos := pr_pos s
  refine ⟨hg, by rw [product_good s hg, h], ?_, by omega, h.symm⟩
  rw [← h]; split <;> omega
theorem all_eq (most : Nat) (s : List Int) (n : Int) (hm : n ≤ most) (hn : n = (if 0 ∈ s then 0 else pr s)) (h0 : ∀ d ∈ s, 0 ≤ d) : allSpec most s = (List.range n.toNat).map fun (i : Nat) => idxOf s i := by
  by_cases hz : 0 ∈ s
  · rw [if_pos hz] at hn
    rw [all_zero most s hz, hn]; rfl
  · rw [if_neg hz] at hn
    have hpos : ∀ d ∈ s, 1 ≤ d := fun d hd => by
      have := h0 d hd
      have : d ≠ 0 := fun e => hz (e ▸ hd)
      omega
    have := all_take most s hpos (by omega) s.length (Nat.le_refl _)
    rw [List.take_length] at this
    rw [this, prn_eq_pr s hpos, hn]
theorem all_len_go (most : Nat) : ∀ (s : List Int) (ls : List (List Int)) (n : Nat), (∀ x ∈ ls, x.length = n) → ∀ x ∈ s.foldl (allStep most) ls, x.length = n + s.length
  | [], ls, n, h, x, hx => by simpa using h x hx
  | d :: s, ls, n, h, x, hx => by
    have := all_len_go most s (allStep most ls d) (n + 1) (fun y hy => by
      unfold allStep at hy
      have hy := List.mem_of_mem_take hy
      rw [List.mem_flatMap] at hy
      obtain ⟨z, hz, hy⟩ := hy
      unfold allRow at hy
      rw [List.mem_map] at hy
      obtain ⟨j, _, rfl⟩ := hy
      simp [h z hz]) x hx
    rw [this, List.length_cons]; omega
theorem all_len (most : Nat) (s : List Int) : ∀ x ∈ allSpec most s, x.length = s.length := by
  intro x hx
  have := all_len_go most s [[]] 0 (by simp) x hx
  omega
end Go.Proofs.Ytdpkioffihebnaa
