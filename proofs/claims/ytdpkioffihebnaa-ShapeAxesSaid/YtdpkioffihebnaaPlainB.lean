/-
  Plain facts on shapes: places and indexes, all of them in order. No program is in sight, and no statement is proved here.
-/
import Derived.Test.YtdpkioffihebnaaPlainA
namespace Go.Proofs.Ytdpkioffihebnaa

theorem emod_split (a p d : Int) (hp : 0 < p) (hd : 0 < d) : a % (d * p) = ((a / p) % d) * p + a % p := by
  have h1 : p * (a / p) + a % p = a := Int.mul_ediv_add_emod a p
  have h2 : d * ((a / p) / d) + (a / p) % d = a / p := Int.mul_ediv_add_emod (a / p) d
  have b1 := Int.emod_nonneg a (show p ≠ 0 by omega)
  have b2 := Int.emod_lt_of_pos a hp
  have b3 := Int.emod_nonneg (a / p) (show d ≠ 0 by omega)
  have b4 := Int.emod_lt_of_pos (a / p) hd
  generalize a % p = s at *
  generalize (a / p) % d = r at *
  generalize (a / p) / d = q at *
  have e : a = (r * p + s) + (d * p) * q := by
    rw [← h1, ← h2, Int.mul_add, Int.mul_comm p r, Int.mul_comm d p, Int.mul_assoc]; omega
  have c1 : 0 ≤ r * p := Int.mul_nonneg b3 (by omega)
  have c2 : (r + 1) * p ≤ d * p := Int.mul_le_mul_of_nonneg_right (by omega) (by omega)
  rw [Int.add_mul] at c2
  rw [e, Int.add_mul_emod_self_left, Int.emod_eq_of_lt (by omega) (by omega)]
theorem off_idxOf : ∀ (s : List Int) (a : Int), (∀ d ∈ s, 1 ≤ d) → off s (idxOf s a) = a % prn s
  | [], a, _ => by simp [off, prn, Int.emod_one]
  | d :: s, a, h => by
    have hs : ∀ x ∈ s, 1 ≤ x := fun x hx => h x (List.mem_cons_of_mem _ hx)
    have hd := h d List.mem_cons_self
    have hp := prn_pos s hs
    simp only [idxOf, off, prn, off_idxOf s a hs]
    rw [emod_split a (prn s) d (by omega) (by omega)]
theorem inR_idxOf : ∀ (s : List Int) (a : Int), (∀ d ∈ s, 1 ≤ d) → inR s (idxOf s a) = true
  | [], a, _ => rfl
  | d :: s, a, h => by
    have hd := h d List.mem_cons_self
    simp only [idxOf, inR, Bool.and_eq_true, decide_eq_true_eq]
    exact ⟨⟨Int.emod_nonneg _ (by omega), Int.emod_lt_of_pos _ (by omega)⟩, inR_idxOf s a (fun x hx => h x (List.mem_cons_of_mem _ hx))⟩
theorem at_index (s : List Int) (a : Int) (hg : goodS s = true) (ha : 0 ≤ a ∧ a < (product s 1048576).1) : atSpec s (idxOf s a) = (a, true) := by
  obtain ⟨hpos, hp⟩ := idx_pos s a hg ha
  unfold atSpec
  rw [if_pos ⟨hg, inR_idxOf s a hpos⟩, off_idxOf s a hpos, prn_eq_pr s hpos, Int.emod_eq_of_lt ha.1 (by omega)]
theorem at_cases (s i : List Int) : (∃ x, 0 ≤ x ∧ atSpec s i = (x, true)) ∨ atSpec s i = (0, false) := by
  unfold atSpec
  by_cases h : goodS s = true ∧ inR s i = true
  · rw [if_pos h]; exact .inl ⟨_, (off_bound s i h.2).1, rfl⟩
  · rw [if_neg h]; exact .inr rfl
theorem index_cases (s : List Int) (a : Int) : (((product s 1048576).2 = 0 ∧ 0 ≤ a ∧ a < (product s 1048576).1) ∧ ∃ x, indexSpec s a = (x, true) ∧ atSpec s x = (a, true)) ∨ (¬ ((product s 1048576).2 = 0 ∧ 0 ≤ a ∧ a < (product s 1048576).1) ∧ indexSpec s a = ([], false)) := by
  unfold indexSpec
  by_cases h : goodS s = true ∧ 0 ≤ a ∧ a < (product s 1048576).1
  · rw [if_pos h]; exact .inl ⟨⟨(goodS_iff s).1 h.1, h.2⟩, _, rfl, at_index s a h.1 h.2⟩
  · rw [if_neg h]; exact .inr ⟨fun e => h ⟨(goodS_iff s).2 e.1, e.2⟩, rfl⟩
end Go.Proofs.Ytdpkioffihebnaa
