/-
  Plain facts on shapes: products of lengths. No program is in sight, and no statement is proved here.
-/
namespace Go.Proofs.Ytdpkioffihebnaa

/-- the product of lengths, an axis of none counted as one -/
def pr : List Int → Int
  | [] => 1
  | d :: r => max 1 d * pr r
theorem pr_pos : ∀ s : List Int, 1 ≤ pr s
  | [] => by simp [pr]
  | d :: r => by
    have := pr_pos r
    have h1 : (1 : Int) ≤ max 1 d := by omega
    simp only [pr]
    calc (1 : Int) = 1 * 1 := rfl
      _ ≤ max 1 d * pr r := Int.mul_le_mul h1 this (by omega) (by omega)
theorem pr_append : ∀ s t : List Int, pr (s ++ t) = pr s * pr t
  | [], t => by simp [pr]
  | d :: r, t => by simp only [List.cons_append, pr, pr_append r t, Int.mul_assoc]
theorem pr_snoc (s : List Int) (d : Int) : pr (s ++ [d]) = pr s * max 1 d := by simp [pr_append, pr]
theorem take_snoc {α : Type} [Inhabited α] (l : List α) (k : Nat) (d : α) (h : k < l.length) : l.take (k + 1) = l.take k ++ [l.getD k d] := by
  rw [List.take_succ_eq_append_getElem h]
  simp [List.getD_eq_getElem?_getD, h]
theorem pr_take_succ (s : List Int) (k : Nat) (h : k < s.length) : pr (s.take (k + 1)) = pr (s.take k) * max 1 (s.getD k 0) := by
  rw [take_snoc s k 0 h, pr_snoc]
theorem pr_take_le (s : List Int) (k : Nat) : pr (s.take k) ≤ pr s := by
  have h : pr s = pr (s.take k) * pr (s.drop k) := by rw [← pr_append, List.take_append_drop]
  have h1 := pr_pos (s.drop k)
  have h2 := pr_pos (s.take k)
  calc pr (s.take k) = pr (s.take k) * 1 := by rw [Int.mul_one]
    _ ≤ pr (s.take k) * pr (s.drop k) := Int.mul_le_mul_of_nonneg_left h1 (by omega)
    _ = pr s := h.symm
/-- how many elements a shape has, or why it may not be -/
def product (s : List Int) (most : Int) : Int × Int :=
  if 8 < s.length then (0, 26)
  else if ∃ d ∈ s, d < 0 then (0, 24)
  else if 1048576 < pr s then (0, 26)
  else if most < (if 0 ∈ s then 0 else pr s) then (0, 26)
  else ((if 0 ∈ s then 0 else pr s), 0)
def within (n most : Int) : Int × Int := if most < n ∨ 1048576 < n then (0, 26) else (n, 0)
theorem lt_div {d n m : Int} (hn : 1 ≤ n) : m / n < d ↔ m < n * d := by
  rw [Int.ediv_lt_iff_lt_mul (by omega), Int.mul_comm]
theorem product_over (s : List Int) (most : Int) (h8 : ¬ 8 < s.length) (h0 : ∀ d ∈ s, 0 ≤ d) (k : Nat) (hk : k < s.length) (h : 1048576 < pr (s.take k) * s.getD k 0) : product s most = (0, 26) := by
  have h1 : ¬ ∃ d ∈ s, d < 0 := fun ⟨d, hd, hl⟩ => by have := h0 d hd; omega
  have hp := pr_pos (s.take k)
  have h2 : 1048576 < pr s := by
    have a := pr_take_le s (k + 1)
    rw [pr_take_succ s k hk] at a
    have b : pr (s.take k) * s.getD k 0 ≤ pr (s.take k) * max 1 (s.getD k 0) := Int.mul_le_mul_of_nonneg_left (by omega) (by omega)
    omega
  simp [product, h8, h1, h2]
theorem product_neg (s : List Int) (most : Int) (h8 : ¬ 8 < s.length) (k : Nat) (hk : k < s.length) (h : s.getD k 0 < 0) : product s most = (0, 24) := by
  have h1 : ∃ d ∈ s, d < 0 := ⟨s.getD k 0, by simp [List.getD_eq_getElem?_getD, hk], h⟩
  unfold product
  rw [if_neg h8, if_pos h1]
theorem product_in (s : List Int) (most : Int) (h8 : ¬ 8 < s.length) (h0 : ∀ d ∈ s, 0 ≤ d) (h : pr s ≤ 1048576) : product s most = within (if 0 ∈ s then 0 else pr s) most := by
  have h1 : ¬ ∃ d ∈ s, d < 0 := fun ⟨d, hd, hl⟩ => by have := h0 d hd; omega
  have h2 : ¬ 1048576 < pr s := by omega
  unfold product within
  rw [if_neg h8, if_neg h1, if_neg h2]
  by_cases hz : 0 ∈ s
  · simp [hz]
  · simp [hz, h2]
theorem bound_step {n d : Int} (hn : 1 ≤ n ∧ n ≤ 1048576) (h : ¬ 1048576 < n * d) : 1 ≤ n * max 1 d ∧ n * max 1 d ≤ 1048576 := by
  by_cases hd : d ≤ 1
  · have : max 1 d = 1 := by omega
    rw [this]; omega
  · have : max 1 d = d := by omega
    rw [this]
    refine ⟨?_, by omega⟩
    calc (1 : Int) = 1 * 1 := rfl
      _ ≤ n * d := Int.mul_le_mul hn.1 (by omega) (by omega) (by omega)

/-! ## Places -/
def prn : List Int → Int
  | [] => 1
  | d :: r => d * prn r
theorem prn_append : ∀ s t : List Int, prn (s ++ t) = prn s * prn t
  | [], t => by simp [prn]
  | d :: r, t => by simp only [List.cons_append, prn, prn_append r t, Int.mul_assoc]
theorem prn_pos : ∀ s : List Int, (∀ d ∈ s, 1 ≤ d) → 1 ≤ prn s
  | [], _ => by simp [prn]
  | d :: r, h => by
    have h1 := prn_pos r (fun x hx => h x (List.mem_cons_of_mem _ hx))
    have h2 := h d List.mem_cons_self
    simp only [prn]
    calc (1 : Int) = 1 * 1 := rfl
      _ ≤ d * prn r := Int.mul_le_mul h2 h1 (by omega) (by omega)
theorem prn_eq_pr : ∀ s : List Int, (∀ d ∈ s, 1 ≤ d) → prn s = pr s
  | [], _ => rfl
  | d :: r, h => by
    have h2 := h d List.mem_cons_self
    simp only [prn, pr, prn_eq_pr r (fun x hx => h x (List.mem_cons_of_mem _ hx))]
    rw [show max 1 d = d by omega]
def goodS (s : List Int) : Bool := (product s 1048576).2 == 0
theorem goodS_spec (s : List Int) : goodS s = true ↔ s.length ≤ 8 ∧ (∀ d ∈ s, 0 ≤ d) ∧ pr s ≤ 1048576 := by
  unfold goodS product
  by_cases h8 : 8 < s.length
  · rw [if_pos h8]; simp; omega
  · rw [if_neg h8]
    by_cases hn : ∃ d ∈ s, d < 0
    · rw [if_pos hn]
      obtain ⟨d, hd, hl⟩ := hn
      simp
      intro _ h0
      have := h0 d hd
      omega
    · rw [if_neg hn]
      have h0 : ∀ d ∈ s, 0 ≤ d := fun d hd => by
        rcases Int.lt_or_le d 0 with h | h
        · exact absurd ⟨d, hd, h⟩ hn
        · exact h
      by_cases hp : 1048576 < pr s
      · rw [if_pos hp]; simp; intro _ _; omega
      · rw [if_neg hp]
        have := pr_pos s
        have h2 : ¬ (1048576 : Int) < (if 0 ∈ s then 0 else pr s) := by split <;> omega
        rw [if_neg h2]
        simp
        exact ⟨by omega, h0, by omega⟩
theorem product_good (s : List Int) (h : goodS s = true) : product s 1048576 = ((if 0 ∈ s then 0 else pr s), 0) := by
  obtain ⟨h8, h0, hp⟩ := (goodS_spec s).1 h
  have hpos := pr_pos s
  rw [product_in s _ (by omega) h0 hp]
  unfold within
  by_cases hz : 0 ∈ s
  · simp [hz]
  · simp only [hz, if_false]
    rw [if_neg (by omega)]
theorem good_le (s : List Int) (h : goodS s = true) : ∀ d ∈ s, 0 ≤ d ∧ d ≤ 1048576 := by
  obtain ⟨h8, h0, hp⟩ := (goodS_spec s).1 h
  intro d hd
  refine ⟨h0 d hd, ?_⟩
  obtain ⟨a, b, rfl⟩ := List.append_of_mem hd
  rw [pr_append] at hp
  simp only [pr] at hp
  have ha := pr_pos a
  have hb := pr_pos b
  have h1 : d ≤ max 1 d := by omega
  have h2 : max 1 d * 1 ≤ max 1 d * pr b := Int.mul_le_mul_of_nonneg_left hb (by omega)
  have h3 : 1 * (max 1 d * pr b) ≤ pr a * (max 1 d * pr b) := Int.mul_le_mul_of_nonneg_right ha (by
    have : 0 ≤ max 1 d * pr b := Int.mul_nonneg (by omega) (by omega)
    exact this)
  omega
/-- where the element with some indexes lies -/
def off : List Int → List Int → Int
  | _ :: s, i :: r => i * prn s + off s r
  | _, _ => 0
def inR : List Int → List Int → Bool
  | [], [] => true
  | d :: s, i :: r => decide (0 ≤ i ∧ i < d) && inR s r
  | _, _ => false
theorem inR_length : ∀ s i : List Int, inR s i = true → i.length = s.length
  | [], [], _ => rfl
  | [], _ :: _, h => by simp [inR] at h
  | _ :: _, [], h => by simp [inR] at h
  | d :: s, i :: r, h => by
    simp only [inR, Bool.and_eq_true] at h
    simp [inR_length s r h.2]
theorem inR_iff : ∀ s i : List Int, inR s i = true ↔ i.length = s.length ∧ ∀ k, k < s.length → 0 ≤ i.getD k 0 ∧ i.getD k 0 < s.getD k 0
  | [], [] => by simp [inR]
  | [], _ :: _ => by simp [inR]
  | _ :: _, [] => by simp [inR]
  | d :: s, i :: r => by
    simp only [inR, Bool.and_eq_true, decide_eq_true_eq, inR_iff s r, List.length_cons]
    constructor
    · rintro ⟨h1, h2, h3⟩
      refine ⟨by omega, fun k hk => ?_⟩
      cases k with
      | zero => simpa using h1
      | succ k => simpa using h3 k (by omega)
    · rintro ⟨h1, h2⟩
      exact ⟨by simpa using h2 0 (by omega), by omega, fun k hk => by simpa using h2 (k + 1) (by omega)⟩
theorem inR_pos : ∀ s i : List Int, inR s i = true → ∀ d ∈ s, 1 ≤ d
  | [], _, _, d, hd => by cases hd
  | _ :: _, [], h, _, _ => by simp [inR] at h
  | d :: s, i :: r, h, x, hx => by
    simp only [inR, Bool.and_eq_true, decide_eq_true_eq] at h
    rcases List.mem_cons.1 hx with rfl | hx
    · omega
    · exact inR_pos s r h.2 x hx
theorem off_bound : ∀ s i : List Int, inR s i = true → 0 ≤ off s i ∧ off s i < prn s
  | [], [], _ => by simp [off, prn]
  | [], _ :: _, h => by simp [inR] at h
  | _ :: _, [], h => by simp [inR] at h
  | d :: s, i :: r, h => by
    have hp := prn_pos s (fun x hx => inR_pos (d :: s) (i :: r) h x (List.mem_cons_of_mem _ hx))
    simp only [inR, Bool.and_eq_true, decide_eq_true_eq] at h
    have hb := off_bound s r h.2
    simp only [off, prn]
    have h1 : 0 ≤ i * prn s := Int.mul_nonneg h.1.1 (by omega)
    have h2 : (i + 1) * prn s ≤ d * prn s := Int.mul_le_mul_of_nonneg_right (by omega) (by omega)
    rw [Int.add_mul] at h2
    omega
/-- what At tells -/
def atSpec (s i : List Int) : Int × Bool := if goodS s = true ∧ inR s i = true then (off s i, true) else (0, false)
/-- the indexes of a place -/
def idxOf : List Int → Int → List Int
  | [], _ => []
  | d :: s, a => (a / prn s) % d :: idxOf s a
theorem length_idxOf : ∀ (s : List Int) (a : Int), (idxOf s a).length = s.length
  | [], _ => rfl
  | d :: s, a => by simp [idxOf, length_idxOf s a]
theorem getD_idxOf : ∀ (s : List Int) (a : Int) (k : Nat), k < s.length → (idxOf s a).getD k 0 = (a / prn (s.drop (k + 1))) % s.getD k 0
  | d :: s, a, 0, _ => by simp [idxOf]
  | d :: s, a, k + 1, h => by simpa [idxOf] using getD_idxOf s a k (by simpa using h)
def indexSpec (s : List Int) (a : Int) : List Int × Bool := if goodS s = true ∧ 0 ≤ a ∧ a < (product s 1048576).1 then (idxOf s a, true) else ([], false)
/-- how far neighbours lie apart -/
def stridesOf : List Int → List Int
  | [] => []
  | _ :: s => pr s :: stridesOf s
theorem length_stridesOf : ∀ s : List Int, (stridesOf s).length = s.length
  | [] => rfl
  | d :: s => by simp [stridesOf, length_stridesOf s]
theorem getD_stridesOf : ∀ (s : List Int) (k : Nat), k < s.length → (stridesOf s).getD k 0 = pr (s.drop (k + 1))
  | d :: s, 0, _ => by simp [stridesOf]
  | d :: s, k + 1, h => by simpa [stridesOf] using getD_stridesOf s k (by simpa using h)
theorem drop_pred (s : List Int) (k : Nat) (h : k < s.length) : s.drop k = s.getD k 0 :: s.drop (k + 1) := by
  rw [List.drop_eq_getElem_cons h]
  simp [List.getD_eq_getElem?_getD, h]
theorem idx_pos (s : List Int) (a : Int) (hg : goodS s = true) (ha : 0 ≤ a ∧ a < (product s 1048576).1) : (∀ d ∈ s, 1 ≤ d) ∧ (product s 1048576).1 = pr s := by
  rw [product_good s hg] at ha ⊢
  simp only at ha ⊢
  by_cases hz : 0 ∈ s
  · rw [if_pos hz] at ha; omega
  · rw [if_neg hz]
    refine ⟨fun d hd => ?_, rfl⟩
    have := (good_le s hg d hd).1
    have : d ≠ 0 := fun e => hz (e ▸ hd)
    omega

theorem goodS_iff (s : List Int) : goodS s = true ↔ (product s 1048576).2 = 0 := by simp [goodS]
theorem off_snoc : ∀ (s i : List Int) (d x : Int), s.length = i.length → off (s ++ [d]) (i ++ [x]) = off s i * d + x
  | [], [], d, x, _ => by simp [off, prn]
  | [], _ :: _, _, _, h => by simp at h
  | _ :: _, [], _, _, h => by simp at h
  | e :: s, y :: i, d, x, h => by
    simp only [List.cons_append, off, off_snoc s i d x (by simpa using h), prn_append, prn, Int.mul_one]
    rw [Int.add_mul, Int.mul_assoc, Int.add_assoc]
theorem off_take_succ (s i : List Int) (k : Nat) (hl : s.length = i.length) (h : k < s.length) : off (s.take (k + 1)) (i.take (k + 1)) = off (s.take k) (i.take k) * s.getD k 0 + i.getD k 0 := by
  rw [take_snoc s k 0 h, take_snoc i k 0 (by omega), off_snoc _ _ _ _ (by simp [hl])]
theorem getD_take {α : Type} (l : List α) (k j : Nat) (d : α) (h : j < k) : (l.take k).getD j d = l.getD j d := by
  simp [List.getD_eq_getElem?_getD, h]
theorem inR_take (s i : List Int) (k : Nat) (hk : k ≤ s.length) (hl : s.length = i.length) (h : ∀ j, j < k → 0 ≤ i.getD j 0 ∧ i.getD j 0 < s.getD j 0) : inR (s.take k) (i.take k) = true := by
  rw [inR_iff]
  refine ⟨by simp [hl], fun j hj => ?_⟩
  have hjk : j < k := by simp at hj; omega
  rw [getD_take _ _ _ _ hjk, getD_take _ _ _ _ hjk]
  exact h j hjk
theorem at_out (s i : List Int) (k : Nat) (hk : k < s.length) (h : ¬ (0 ≤ i.getD k 0 ∧ i.getD k 0 < s.getD k 0)) : atSpec s i = (0, false) := by
  unfold atSpec
  rw [if_neg]
  rintro ⟨_, h2⟩
  exact h (((inR_iff s i).1 h2).2 k hk)
theorem at_len (s i : List Int) (h : i.length ≠ s.length) : atSpec s i = (0, false) := by
  unfold atSpec
  rw [if_neg]
  rintro ⟨_, h2⟩
  exact h (inR_length s i h2)
theorem at_bad (s i : List Int) (h : ¬ (product s 1048576).2 = 0) : atSpec s i = (0, false) := by
  unfold atSpec
  rw [if_neg]
  rintro ⟨h1, _⟩
  exact h ((goodS_iff s).1 h1)
theorem at_in (s i : List Int) (h : (product s 1048576).2 = 0) (hl : s.length = i.length) (hh : ∀ j, j < s.length → 0 ≤ i.getD j 0 ∧ i.getD j 0 < s.getD j 0) : atSpec s i = (off s i, true) := by
  unfold atSpec
  rw [if_pos ⟨(goodS_iff s).2 h, (inR_iff s i).2 ⟨hl.symm, hh⟩⟩]
theorem off_take_bound (s i : List Int) (k : Nat) (hg : (product s 1048576).2 = 0) (hk : k ≤ s.length) (hl : s.length = i.length) (h : ∀ j, j < k → 0 ≤ i.getD j 0 ∧ i.getD j 0 < s.getD j 0) : 0 ≤ off (s.take k) (i.take k) ∧ off (s.take k) (i.take k) < 1048576 := by
  have hr := inR_take s i k hk hl h
  have hb := off_bound _ _ hr
  have hp := prn_eq_pr (s.take k) (inR_pos _ _ hr)
  have hle := pr_take_le s k
  have := ((goodS_spec s).1 ((goodS_iff s).2 hg)).2.2
  omega
theorem good_getD (s : List Int) (hg : (product s 1048576).2 = 0) (k : Nat) (h : k < s.length) : 0 ≤ s.getD k 0 ∧ s.getD k 0 ≤ 1048576 :=
  good_le s ((goodS_iff s).2 hg) _ (by simp [List.getD_eq_getElem?_getD, h])
theorem mul_bound {a b : Int} (ha : 0 ≤ a ∧ a ≤ 1048576) (hb : 0 ≤ b ∧ b ≤ 1048576) : 0 ≤ a * b ∧ a * b ≤ 1099511627776 :=
  ⟨Int.mul_nonneg ha.1 hb.1, by have := Int.mul_le_mul ha.2 hb.2 hb.1 (by omega); omega⟩
/-! from the last axis on -/
theorem off_drop (s i : List Int) (k : Nat) (hl : s.length = i.length) (h : k < s.length) : off (s.drop k) (i.drop k) = i.getD k 0 * prn (s.drop (k + 1)) + off (s.drop (k + 1)) (i.drop (k + 1)) := by
  rw [drop_pred s k h, drop_pred i k (by omega)]
  simp [off]
theorem prn_drop (s : List Int) (k : Nat) (h : k < s.length) : prn (s.drop k) = s.getD k 0 * prn (s.drop (k + 1)) := by
  rw [drop_pred s k h]; simp [prn]
theorem pr_drop (s : List Int) (k : Nat) (h : k < s.length) : pr (s.drop k) = max 1 (s.getD k 0) * pr (s.drop (k + 1)) := by
  rw [drop_pred s k h]; simp [pr]
theorem pr_drop_le (s : List Int) (k : Nat) : pr (s.drop k) ≤ pr s := by
  have h : pr s = pr (s.take k) * pr (s.drop k) := by rw [← pr_append, List.take_append_drop]
  have h1 := pr_pos (s.drop k)
  have h2 := pr_pos (s.take k)
  calc pr (s.drop k) = 1 * pr (s.drop k) := by rw [Int.one_mul]
    _ ≤ pr (s.take k) * pr (s.drop k) := Int.mul_le_mul_of_nonneg_right h2 (by omega)
    _ = pr s := h.symm
theorem getD_drop {α : Type} (l : List α) (k j : Nat) (d : α) : (l.drop k).getD j d = l.getD (k + j) d := by
  simp [List.getD_eq_getElem?_getD, List.getElem?_drop]
theorem inR_drop (s i : List Int) (k : Nat) (hl : s.length = i.length) (h : ∀ j, k ≤ j → j < s.length → 0 ≤ i.getD j 0 ∧ i.getD j 0 < s.getD j 0) : inR (s.drop k) (i.drop k) = true := by
  rw [inR_iff]
  refine ⟨by simp [hl], fun j hj => ?_⟩
  rw [getD_drop, getD_drop]
  exact h (k + j) (by omega) (by simp at hj; omega)
theorem off_drop_bound (s i : List Int) (k : Nat) (hg : (product s 1048576).2 = 0) (hl : s.length = i.length) (h : ∀ j, k ≤ j → j < s.length → 0 ≤ i.getD j 0 ∧ i.getD j 0 < s.getD j 0) : (0 ≤ off (s.drop k) (i.drop k) ∧ off (s.drop k) (i.drop k) < prn (s.drop k)) ∧ 1 ≤ prn (s.drop k) ∧ prn (s.drop k) ≤ 1048576 := by
  have hr := inR_drop s i k hl h
  have hb := off_bound _ _ hr
  have hp := prn_eq_pr (s.drop k) (inR_pos _ _ hr)
  have hle := pr_drop_le s k
  have := ((goodS_spec s).1 ((goodS_iff s).2 hg)).2.2
  exact ⟨hb, by omega, by omega⟩

def withSpec (l : List Int) (axis n : Int) : List Int × Bool := if 0 ≤ axis ∧ axis < l.length ∧ goodS (l.set axis.toNat n) = true then (l.set axis.toNat n, true) else ([], false)
def withoutSpec (l : List Int) (axis : Int) : List Int × Bool := if 0 ≤ axis ∧ axis < l.length then (l.eraseIdx axis.toNat, true) else ([], false)
def splitOk (l : List Int) (axis : Int) : Prop := goodS l = true ∧ 0 ≤ axis ∧ axis < l.length ∧ (product (l.take axis.toNat) 1048576).2 = 0 ∧ (product (l.drop (axis.toNat + 1)) 1048576).2 = 0
instance (l : List Int) (axis : Int) : Decidable (splitOk l axis) := by unfold splitOk; exact inferInstance
def splitSpec (l : List Int) (axis : Int) : Int × Int × Int × Bool := if splitOk l axis then ((product (l.take axis.toNat) 1048576).1, l.getD axis.toNat 0, (product (l.drop (axis.toNat + 1)) 1048576).1, true) else (0, 0, 0, false)
theorem eraseIdx_eq (l : List Int) (i : Nat) : l.take i ++ l.drop (i + 1) = l.eraseIdx i := by
  rw [List.eraseIdx_eq_take_drop_succ]
end Go.Proofs.Ytdpkioffihebnaa
