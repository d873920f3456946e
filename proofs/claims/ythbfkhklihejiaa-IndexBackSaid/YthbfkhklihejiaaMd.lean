/-
  Own texts of the claim, merged: Qe, PlainB, PlainN, Pa, Fc, Fd, Fe, Ff, Pb, LibY, Pc, Qf, Kf, Kg, Kh, Qg, PlainO, Pd, Qh, Qi. Lemmas of the proof; no statement is proved here.
-/
import Derived.Test.YthbfkhklihejiaaMc
import Derived.Laws.Externs
/-
  Contracts of functions of package index: indexes along an axis, as places. No statement is proved here.
-/
namespace Go.Proofs.Ythbfkhklihejiaa
open Go Go.RowKit
set_option linter.unusedVariables false
set_option linter.unusedSimpArgs false
set_option maxHeartbeats 4000000
attribute [local irreducible] CW RW QW SW HW ConM retM heldQ calmQ elemP thenQ blockQ loopQ joinQ retQ Yields Con Sl zF magR unitF truncF fwF wholeF tidySpec elemQ rankF leastN tidyW
set_option maxHeartbeats 4000000

section
variable {α : Type} {R : GHeap → List Value → α → Prop}
theorem indexPlaces_con (hR : Mono R) (s : Value) (vc : List Value) (sh : List Int) (v : VecD α) (n o : Int) (w : World) (h : GHeap) (hsh : IntsAt h s sh) (hv : VecAt R h vc v) (hk : v.kind = 1 ∨ v.kind = 2 ∨ v.kind = 3) (hm : v.nums.length ≤ 1048576) (hml : v.len ≤ 1048576) (hn : 0 ≤ n ∧ n ≤ 1048576) (ho : 0 ≤ o ∧ o ≤ 1)
    (hr : ∀ x ∈ v.nums, o ≤ (wholeF x).1 ∧ (wholeF x).1 < o + n) : Con Try.prog 169 [.agg (.bool false :: s :: vc).toArray, .int .i64 n, .int .i64 o] w h (fun h' u => ∃ s1 s2, u = .tuple #[s1, s2, .int .i64 0] ∧ IntsAt h' s1 (v.nums.map fun x => (wholeF x).1 - o) ∧ IntsAt h' s2 sh) := by
  have hv' := hv
  have hsh' := hsh
  obtain ⟨ads, cps, rfl, hSs⟩ := hsh
  obtain ⟨wv, nv, sm, il, fl, ch, bx, ⟨rfl, hoc⟩, _⟩ := hv
  obtain ⟨l, hl⟩ : ∃ l, v.nums.map (fun x => (wholeF x).1) = l := ⟨_, rfl⟩
  have hll : l.length = v.nums.length := by rw [← hl, List.length_map]
  have hlr : ∀ z ∈ l, o ≤ z ∧ z < o + n := by
    rw [← hl]; intro z hz
    obtain ⟨x, hx, rfl⟩ := List.mem_map.1 hz
    exact hr x hx
  have hlo : (v.nums.map fun x => (wholeF x).1 - o) = l.map (· - o) := by rw [← hl, List.map_map]; rfl
  rw [hlo]
  refine Con.of_body Try.func169 rfl Try.ntmps169 rfl rfl ?_
  intro hs
  refine Zrun ?_
  (refine RW.boxN hs rfl rfl ?_; intro b1 w1 hs)
  refine Zerun ?_
  refine Zerun ?_
  (refine RW.call T hs rfl rfl rfl (vecWholes_con hR _ v _ _ hv' (by omega)) ?_; intro v h2 w2 hle2 hp2 hs)
  obtain ⟨sl, rfl, hK⟩ := hp2
  rw [if_pos hk, hl] at hK
  rw [decide_eq_true hk]
  obtain ⟨adl, cpl, rfl, hS⟩ := id hK
  have hsh' := hsh'.mono hle2
  refine Zerun ?_
  (refine RW.make1 T hs rfl rfl rfl rfl rfl rfl rfl (by dsimp only; omega) (by omega) ?_; intro b3 w3 hs)
  refine Zerun ?_
  refine CW.loop (fun i : Nat => [(1, .int .i64 n), (2, .int .i64 o), (3, .pointer (some ⟨b1, 0, none⟩)), (6, .slice none 0 0), (7, .slice none 0 0), (8, .int .i64 0), (13, .slice (some ⟨b3, 0, none⟩) l.length l.length), (59, .slice adl l.length cpl), (60, .int .i64 l.length), (61, .int .i64 i)]) (fun i w' => i ≤ l.length ∧ Sees w h h2 [⟨some ⟨b3, 0, none⟩, l.length, l.length, 3, 1, ((List.range i).map fun y => l.getD y 0 - o).map (Value.int .i64) ++ List.replicate (l.length - i) (.int .i64 0)⟩, ⟨some ⟨b1, 0, none⟩, 1, 1, 138, 10, .bool false :: .slice ads sh.length cps :: vecCells v.kind wv nv sm il fl ch bx⟩] w') (fun i => l.length - i) 0 ⟨rfl, rfl, rfl, rfl, rfl, rfl, rfl, rfl, rfl, rfl, trivial⟩ ⟨Nat.zero_le _, hs⟩ ?_
  rintro i w5 ⟨hi, hs⟩
  by_cases hlt : i < l.length
  · have hz := hlr _ (mem_getD l i 0 hlt)
    refine Zerun ?_
    refine RW.val (Y.idxRN T hs 0 rfl rfl rfl rfl rfl rfl hlt) rfl ?_
    refine RW.st1 T hs 0 rfl rfl rfl rfl rfl rfl rfl hlt ?_
    intro w7 hs
    replace hs := hs.re (fill_snoc (fun y => l.getD y 0 - o) i l.length hlt _)
    refine Zerun ?_
    exact loopQ_round (i + 1) ⟨rfl, rfl, rfl, rfl, rfl, rfl, rfl, rfl, rfl, rfl, trivial⟩ ⟨by omega, hs⟩ (by omega)
  obtain rfl : i = l.length := by omega
  rw [Nat.sub_self, List.replicate_zero, List.append_nil] at hs
  obtain ⟨h9, hle9, hs, hS9⟩ := hs.freeze
  have hI9 : IntsAt h9 (.slice (some ⟨b3, 0, none⟩) l.length l.length) (l.map (· - o)) := by
    have e : (List.range l.length).map (fun y => l.getD y 0 - o) = l.map (· - o) := by
      apply List.ext_getElem
      · simp
      · intro j h1 h2
        simp only [List.length_map, List.length_range] at h1
        simp [h1]
    rw [← e]
    exact IntsAt.of_sl hS9
  have hsh' := hsh'.mono hle9
  refine Zerun ?_
  refine CW.regionR T 0 0 hs rfl rfl ?_
  intro w10 hs
  refine HW.takeR (fuel := 6) 0 rfl (fun _ _ ka kb _ hs hka hkb => Y.move rfl) ⟨_, _, 0, 0, hs, rfl, rfl⟩ rfl (by kernel_rfl) (by kernel_rfl) (by kernel_rfl) ?_
  refine HW.takeR (fuel := 5) 1 rfl (fun _ _ ka kb _ hs hka hkb => Y.fieldAddr T rfl rfl rfl rfl rfl) ⟨_, _, 0, 0, hs, rfl, rfl⟩ rfl (by kernel_rfl) (by kernel_rfl) (by kernel_rfl) ?_
  refine HW.takeR (fuel := 4) 2 rfl (fun _ _ ka kb _ hs hka hkb => Y.fieldAddr T rfl rfl rfl rfl rfl) ⟨_, _, 0, 0, hs, rfl, rfl⟩ rfl (by kernel_rfl) (by kernel_rfl) (by kernel_rfl) ?_
  refine HW.takeR (fuel := 3) 3 rfl (fun _ _ ka kb _ hs hka hkb => Y.loadRow1 T hs ka hka rfl rfl rfl rfl) ⟨_, _, 0, 0, hs, rfl, rfl⟩ rfl (by kernel_rfl) (by kernel_rfl) (by kernel_rfl) ?_
  refine HW.takeR (fuel := 2) 4 rfl (fun _ _ ka kb _ hs hka hkb => Y.assign rfl) ⟨_, _, 0, 0, hs, rfl, rfl⟩ rfl (by kernel_rfl) (by kernel_rfl) (by kernel_rfl) ?_
  refine HW.takeR (fuel := 1) 5 rfl (fun _ _ ka kb _ hs hka hkb => Y.assign rfl) ⟨_, _, 0, 0, hs, rfl, rfl⟩ rfl (by kernel_rfl) (by kernel_rfl) (by kernel_rfl) ?_
  refine HW.takeR (fuel := 0) 6 rfl (fun _ _ ka kb _ hs hka hkb => Y.assign rfl) ⟨_, _, 0, 0, hs, rfl, rfl⟩ rfl (by kernel_rfl) (by kernel_rfl) (by kernel_rfl) ?_
  refine HW.done (by kernel_rfl) ?_
  refine calmQ_normal ?_
  refine Zerun ?_
  exact retQ_ret [_, _, _] _ ⟨rfl, rfl, rfl, trivial⟩ hs.dropAll ⟨_, _, rfl, hI9, hsh'⟩
end
/-- the places of a list's elements: those of one axis -/
theorem indexCross_con (b cp : Nat) (s sl : Value) (n : Int) (L : List Int) (w : World) (h : GHeap) (hS : Sl h 1 (some ⟨b, 0, none⟩) 1 cp [sl]) (hL : IntsAt h sl L) (hs1 : IntsAt h s [n]) (hm : L.length ≤ 1048576) (hn : 0 ≤ n ∧ n ≤ 1048576) (hr : ∀ x ∈ L, 0 ≤ x ∧ x < 1048576) : Con Try.prog 171 [.slice (some ⟨b, 0, none⟩) 1 cp, s] w h (fun h' u => IntsAt h' u L) := by
  obtain ⟨ads, cps, rfl, hSs⟩ := hs1
  obtain ⟨adl, cpl, rfl, hSl⟩ := hL
  have hcS := hS.caps
  have hSs : Sl h 1 ads 1 cps ([n].map (Value.int .i64)) := hSs
  refine Con.of_body Try.func171 rfl Try.ntmps171 rfl rfl ?_
  intro hs
  refine Zrun ?_
  (refine RW.lit T hs (vs := [.int .i64 0]) (cs := [.int .i64 0]) rfl rfl rfl rfl (by simp [Value.cells]) rfl rfl rfl rfl rfl ?_; intro b1 w1 hs)
  obtain ⟨h2, hle2, hs, hS2⟩ := hs.freeze
  have hI2 : IntsAt h2 (.slice (some ⟨b1, 0, none⟩) 1 1) [0] := IntsAt.of_sl hS2
  refine Zerun ?_
  refine CW.loop (fun u : Nat × Option Addr × Nat × Nat × GHeap => [(0, .slice (some ⟨b, 0, none⟩) 1 cp), (1, .slice ads 1 cps), (5, .slice u.2.1 u.2.2.1 u.2.2.2.1), (14, .slice (some ⟨b, 0, none⟩) 1 cp), (15, .int .i64 1), (16, .int .i64 u.1)]) (fun u w' => u.1 ≤ 1 ∧ GLe h2 u.2.2.2.2 ∧ Sl u.2.2.2.2 1 u.2.1 u.2.2.1 u.2.2.2.1 ((if u.1 = 0 then [0] else L).map (Value.int .i64)) ∧ Sees w h u.2.2.2.2 [] w') (fun u => 1 - u.1) (0, some ⟨b1, 0, none⟩, 1, 1, h2) ⟨rfl, rfl, rfl, rfl, rfl, rfl, trivial⟩ ⟨by dsimp only; omega, GLe.refl _, hS2, hs⟩ ?_
  rintro ⟨i, ada, na, cpa, hh⟩ w5 ⟨hi, hg, hA, hs⟩
  dsimp only at hi hg hA hs ⊢
  have hcA := hA.caps
  by_cases hlt : i < 1
  · obtain rfl : i = 0 := by omega
    rw [if_pos rfl] at hA
    have hna : na = 1 := by have := hA.length; simpa using this.symm
    subst hna
    have hS' := hS.mono (hle2.trans hg)
    have hSs' := hSs.mono (hle2.trans hg)
    have hSl' := hSl.mono (hle2.trans hg)
    have e0 : ([Value.slice adl L.length cpl] : List Value)[0]? = some (.slice adl L.length cpl) := rfl
    have hlL : ((1 : Nat) : Int) * (L.length : Int) = (L.length : Int) := by omega
    refine Zerun ?_
    refine RW.val (Y.mul rfl rfl (by omega)) rfl ?_
    rw [hlL]
    (refine RW.make T hs rfl rfl rfl rfl rfl ?_ ?_ ?_ ?_ ?_; omega; omega; (dsimp only; omega); omega; intro b3 w3 hs)
    have hm0 : (madeCells #[Value.int .i64 0] (0 * 1)).toList = [] := by rw [made_one]; rfl
    have hs := hs.cast (show _ = [⟨some ⟨b3, 0, none⟩, 0, L.length, 3, 1, []⟩] from by
      show [(⟨some ⟨b3, 0, none⟩, 0, L.length, 3, 1, (madeCells #[Value.int .i64 0] (0 * 1)).toList⟩ : Row)] = _
      rw [hm0])
    refine Zerun ?_
    refine CW.loop (fun u : Nat × Option Addr × Nat × List Int => [(0, .slice (some ⟨b, 0, none⟩) 1 cp), (1, .slice ads 1 cps), (5, .slice ada 1 cpa), (6, .int .i64 0), (7, .slice adl L.length cpl), (8, .slice u.2.1 u.2.2.2.length u.2.2.1), (14, .slice (some ⟨b, 0, none⟩) 1 cp), (15, .int .i64 1), (16, .int .i64 0), (27, .slice ada 1 cpa), (28, .int .i64 1), (29, .int .i64 u.1)]) (fun u w' => u.1 ≤ 1 ∧ u.2.2.2 = (if u.1 = 0 then [] else L) ∧ Sees w h hh [⟨u.2.1, u.2.2.2.length, u.2.2.1, 3, 1, u.2.2.2.map (Value.int .i64)⟩] w') (fun u => 1 - u.1) (0, some ⟨b3, 0, none⟩, L.length, []) ⟨rfl, rfl, rfl, rfl, rfl, rfl, rfl, rfl, rfl, rfl, rfl, rfl, trivial⟩ ⟨by dsimp only; omega, rfl, hs⟩ ?_
    rintro ⟨j, adn, cpn, N⟩ w7 ⟨hj, hN, hs⟩
    dsimp only at hj hN hs ⊢
    by_cases hjt : j < 1
    · obtain rfl : j = 0 := by omega
      rw [if_pos rfl] at hN
      subst hN
      refine Zerun ?_
      refine CW.loop (fun u : Nat × Option Addr × Nat => [(0, .slice (some ⟨b, 0, none⟩) 1 cp), (1, .slice ads 1 cps), (5, .slice ada 1 cpa), (6, .int .i64 0), (7, .slice adl L.length cpl), (8, .slice u.2.1 u.1 u.2.2), (10, .int .i64 0), (14, .slice (some ⟨b, 0, none⟩) 1 cp), (15, .int .i64 1), (16, .int .i64 0), (27, .slice ada 1 cpa), (28, .int .i64 1), (29, .int .i64 0), (33, .slice adl L.length cpl), (34, .int .i64 L.length), (35, .int .i64 u.1)]) (fun u w' => u.1 ≤ L.length ∧ Sees w h hh [⟨u.2.1, u.1, u.2.2, 3, 1, (L.take u.1).map (Value.int .i64)⟩] w') (fun u => L.length - u.1) (0, adn, cpn) ⟨rfl, rfl, rfl, rfl, rfl, rfl, rfl, rfl, rfl, rfl, rfl, rfl, rfl, rfl, rfl, rfl, trivial⟩ ⟨Nat.zero_le _, hs⟩ ?_
      rintro ⟨k, adn', cpn'⟩ w8 ⟨hk, hs⟩
      dsimp only at hk hs ⊢
      by_cases hkt : k < L.length
      · have htk := take_succ_getD L k 0 hkt
        have hz := hr _ (mem_getD L k 0 hkt)
        have e1 : ([n].map (Value.int .i64))[0]? = some (.int .i64 n) := rfl
        refine Zerun ?_
        refine RW.val (Y.mul rfl rfl (by rw [Int.zero_mul]; omega)) rfl ?_
        rw [Int.zero_mul]
        refine Zerun ?_
        rw [Int.zero_add]
        (refine RW.lit T hs (vs := [.int .i64 (L.getD k 0)]) (cs := [.int .i64 (L.getD k 0)]) rfl rfl rfl rfl (by simp [Value.cells]) rfl rfl rfl rfl rfl ?_; intro b9 w9 hs)
        (refine RW.append T hs 1 rfl rfl (m := 1) (news := [.int .i64 (L.getD k 0)]) rfl rfl rfl rfl rfl rfl (hs.src0 rfl (by simp [Value.oneCell'])) (by simp) (by dsimp only; omega) (by omega) ?_; intro ad10 cp10 w10 hs; replace hs := hs.drop)
        refine Zerun ?_
        refine loopQ_round (k + 1, ad10, cp10) ⟨rfl, rfl, rfl, rfl, rfl, rfl, rfl, rfl, rfl, rfl, rfl, rfl, rfl, rfl, rfl, rfl, trivial⟩ ⟨by dsimp only; omega, ?_⟩ (by dsimp only; omega)
        refine hs.cast ?_
        dsimp only
        rw [htk, List.map_append]
        rfl
      obtain rfl : k = L.length := by omega
      rw [List.take_length] at hs
      refine Zerun ?_
      exact loopQ_round (1, adn', cpn', L) ⟨rfl, rfl, rfl, rfl, rfl, rfl, rfl, rfl, rfl, rfl, rfl, rfl, trivial⟩ ⟨by dsimp only; omega, rfl, hs⟩ (by dsimp only; omega)
    obtain rfl : j = 1 := by omega
    rw [if_neg (by omega)] at hN
    rw [hN] at hs ⊢
    obtain ⟨h9, hle9, hs, hS9⟩ := hs.freeze
    refine Zerun ?_
    exact loopQ_round (1, adn, L.length, cpn, h9) ⟨rfl, rfl, rfl, rfl, rfl, rfl, trivial⟩ ⟨by dsimp only; omega, hg.trans hle9, hS9, hs⟩ (by dsimp only; omega)
  obtain rfl : i = 1 := by omega
  rw [if_neg (by omega)] at hA
  refine Zerun ?_
  exact retQ_ret [_] _ ⟨rfl, trivial⟩ hs (IntsAt.of_sl hA)
end Go.Proofs.Ythbfkhklihejiaa

/-
  Plain facts on shapes: places and indexes, all of them in order. No program is in sight, and no statement is proved here.
-/
namespace Go.Proofs.Ythbfkhklihejiaa

theorem emod_split (a p d : Int) (hp : 0 < p) (hd : 0 < d) : a % (d * p) = ((a / p) % d) * p + a % p := by
  have h1 : p * (a / p) + a % p = a := Int.mul_ediv_add_emod a p
  have h2 : d * ((a / p) / d) + (a / p) % d = a / p := Int.mul_ediv_add_emod (a / p) d
  have b1 := Int.emod_nonneg a (show p ≠ 0 by omega)
  have b2 := Int.emod_lt_of_pos a hp
  have b3 := Int.emod_nonneg (a / p) (show d ≠ 0 by omega)
  have b4 := Int.emod_lt_of_pos (a / p) hd
  generalize a % p = s at *
  generalize (a / p) % d = r at *
  generalize (a / p) / d = q at *
  have e : a = (r * p + s) + (d * p) * q := by
    rw [← h1, ← h2, Int.mul_add, Int.mul_comm p r, Int.mul_comm d p, Int.mul_assoc]; omega
  have c1 : 0 ≤ r * p := Int.mul_nonneg b3 (by omega)
  have c2 : (r + 1) * p ≤ d * p := Int.mul_le_mul_of_nonneg_right (by omega) (by omega)
  rw [Int.add_mul] at c2
  rw [e, Int.add_mul_emod_self_left, Int.emod_eq_of_lt (by omega) (by omega)]
theorem off_idxOf : ∀ (s : List Int) (a : Int), (∀ d ∈ s, 1 ≤ d) → off s (idxOf s a) = a % prn s
  | [], a, _ => by simp [off, prn, Int.emod_one]
  | d :: s, a, h => by
    have hs : ∀ x ∈ s, 1 ≤ x := fun x hx => h x (List.mem_cons_of_mem _ hx)
    have hd := h d List.mem_cons_self
    have hp := prn_pos s hs
    simp only [idxOf, off, prn, off_idxOf s a hs]
    rw [emod_split a (prn s) d (by omega) (by omega)]
theorem inR_idxOf : ∀ (s : List Int) (a : Int), (∀ d ∈ s, 1 ≤ d) → inR s (idxOf s a) = true
  | [], a, _ => rfl
  | d :: s, a, h => by
    have hd := h d List.mem_cons_self
    simp only [idxOf, inR, Bool.and_eq_true, decide_eq_true_eq]
    exact ⟨⟨Int.emod_nonneg _ (by omega), Int.emod_lt_of_pos _ (by omega)⟩, inR_idxOf s a (fun x hx => h x (List.mem_cons_of_mem _ hx))⟩
theorem at_index (s : List Int) (a : Int) (hg : goodS s = true) (ha : 0 ≤ a ∧ a < (product s 1048576).1) : atSpec s (idxOf s a) = (a, true) := by
  obtain ⟨hpos, hp⟩ := idx_pos s a hg ha
  unfold atSpec
  rw [if_pos ⟨hg, inR_idxOf s a hpos⟩, off_idxOf s a hpos, prn_eq_pr s hpos, Int.emod_eq_of_lt ha.1 (by omega)]
theorem at_cases (s i : List Int) : (∃ x, 0 ≤ x ∧ atSpec s i = (x, true)) ∨ atSpec s i = (0, false) := by
  unfold atSpec
  by_cases h : goodS s = true ∧ inR s i = true
  · rw [if_pos h]; exact .inl ⟨_, (off_bound s i h.2).1, rfl⟩
  · rw [if_neg h]; exact .inr rfl
theorem index_cases (s : List Int) (a : Int) : (((product s 1048576).2 = 0 ∧ 0 ≤ a ∧ a < (product s 1048576).1) ∧ ∃ x, indexSpec s a = (x, true) ∧ atSpec s x = (a, true)) ∨ (¬ ((product s 1048576).2 = 0 ∧ 0 ≤ a ∧ a < (product s 1048576).1) ∧ indexSpec s a = ([], false)) := by
  unfold indexSpec
  by_cases h : goodS s = true ∧ 0 ≤ a ∧ a < (product s 1048576).1
  · rw [if_pos h]; exact .inl ⟨⟨(goodS_iff s).1 h.1, h.2⟩, _, rfl, at_index s a h.1 h.2⟩
  · rw [if_neg h]; exact .inr ⟨fun e => h ⟨(goodS_iff s).2 e.1, e.2⟩, rfl⟩
/-! ## All indexes, in order -/
def allRow (d : Int) (x : List Int) : List (List Int) := (List.range d.toNat).map fun (j : Nat) => x ++ [(j : Int)]
def allStep (most : Nat) (ls : List (List Int)) (d : Int) : List (List Int) := (ls.flatMap (allRow d)).take most
def allSpec (most : Nat) (s : List Int) : List (List Int) := s.foldl (allStep most) [[]]
theorem allSpec_take_succ (most : Nat) (s : List Int) (k : Nat) (h : k < s.length) : allSpec most (s.take (k + 1)) = allStep most (allSpec most (s.take k)) (s.getD k 0) := by
  unfold allSpec
  rw [take_snoc s k 0 h, List.foldl_append]; rfl
theorem take_full {α : Type} (a b : List α) (m : Nat) (h : ¬ (a.take m).length < m) : (a ++ b).take m = a.take m := by
  rw [List.length_take] at h
  exact List.take_append_of_le_length (by omega)
theorem take_short {α : Type} (a : List α) (m : Nat) (h : (a.take m).length < m) : a.take m = a := by
  rw [List.length_take] at h
  exact List.take_of_length_le (by omega)
theorem flat_range {β : Type} (d : Nat) (hd : 0 < d) (f : Nat → Nat → β) : ∀ p : Nat, (List.range p).flatMap (fun i => (List.range d).map (f i)) = (List.range (p * d)).map (fun a => f (a / d) (a % d))
  | 0 => by simp
  | p + 1 => by
    rw [List.range_succ, List.flatMap_append, flat_range d hd f p, Nat.add_mul, Nat.one_mul, List.range_add, List.map_append]
    congr 1
    simp only [List.flatMap_cons, List.flatMap_nil, List.append_nil, List.map_map]
    apply List.map_congr_left
    intro j hj
    have hj := List.mem_range.1 hj
    have e1 : (p * d + j) / d = p := by rw [Nat.mul_comm, Nat.mul_add_div hd, Nat.div_eq_of_lt hj, Nat.add_zero]
    have e2 : (p * d + j) % d = j := by rw [Nat.mul_comm, Nat.mul_add_mod, Nat.mod_eq_of_lt hj]
    simp only [Function.comp, e1, e2]
theorem idxOf_snoc (d : Int) (hd : 1 ≤ d) : ∀ (s : List Int) (a : Int), (∀ x ∈ s, 1 ≤ x) → 0 ≤ a → idxOf (s ++ [d]) a = idxOf s (a / d) ++ [a % d]
  | [], a, _, _ => by simp [idxOf, prn]
  | e :: s, a, h, ha => by
    have hs : ∀ x ∈ s, 1 ≤ x := fun x hx => h x (List.mem_cons_of_mem _ hx)
    have hp := prn_pos s hs
    simp only [List.cons_append, idxOf, idxOf_snoc d hd s a hs ha, prn_append, prn, Int.mul_one]
    rw [Int.mul_comm, ← Int.ediv_ediv_of_nonneg (by omega)]
theorem all_take (most : Nat) (s : List Int) (hpos : ∀ d ∈ s, 1 ≤ d) (hp : pr s ≤ most) : ∀ k, k ≤ s.length → allSpec most (s.take k) = (List.range (prn (s.take k)).toNat).map fun (i : Nat) => idxOf (s.take k) i
  | 0, _ => by simp [allSpec, prn, idxOf, List.range_succ]
  | k + 1, hk => by
    have hposk : ∀ d ∈ s.take k, 1 ≤ d := fun d hd => hpos d (List.mem_of_mem_take hd)
    have hposk1 : ∀ d ∈ s.take (k + 1), 1 ≤ d := fun d hd => hpos d (List.mem_of_mem_take hd)
    have hd : 1 ≤ s.getD k 0 := hpos _ (by simp [List.getD_eq_getElem?_getD, show k < s.length by omega])
    have hle := pr_take_le s (k + 1)
    rw [← prn_eq_pr _ hposk1] at hle
    have hpk := prn_pos _ hposk
    rw [allSpec_take_succ most s k (by omega), all_take most s hpos hp k (by omega)]
    unfold allStep
    rw [take_snoc s k 0 (by omega)] at hle ⊢
    rw [prn_append] at hle ⊢
    simp only [prn, Int.mul_one] at hle ⊢
    generalize s.getD k 0 = d at hd hle ⊢
    generalize hP : prn (s.take k) = p at hpk hle ⊢
    obtain ⟨D, rfl⟩ := Int.eq_ofNat_of_zero_le (show 0 ≤ d by omega)
    obtain ⟨P, rfl⟩ := Int.eq_ofNat_of_zero_le (show 0 ≤ p by omega)
    have e : ((P : Int) * (D : Int)).toNat = P * D := by rw [← Int.natCast_mul, Int.toNat_natCast]
    rw [e, List.flatMap_map]
    unfold allRow
    simp only [Int.toNat_natCast]
    have hD : 0 < D := by omega
    rw [flat_range D hD (fun i j => idxOf (s.take k) (i : Int) ++ [(j : Int)])]
    have hPD : P * D ≤ most := by
      have : (P : Int) * (D : Int) ≤ most := by omega
      rw [← Int.natCast_mul] at this; omega
    rw [List.take_of_length_le (by simp; omega)]
    apply List.map_congr_left
    intro a _
    rw [idxOf_snoc _ (by omega) _ _ hposk (by omega)]
    simp
theorem all_nil (most : Nat) : ∀ s : List Int, s.foldl (allStep most) [] = []
  | [] => rfl
  | d :: s => by simpa [allStep] using all_nil most s
theorem all_zero (most : Nat) (s : List Int) (h : 0 ∈ s) : allSpec most s = [] := by
  obtain ⟨a, b, rfl⟩ := List.append_of_mem h
  unfold allSpec
  rw [List.foldl_append, List.foldl_cons]
  have : allStep most (a.foldl (allStep most) [[]]) 0 = [] := by
    unfold allStep allRow
    simp
  rw [this, all_nil]
theorem product_fits (s : List Int) (most n : Int) (h : product s most = (n, 0)) : goodS s = true ∧ product s 1048576 = (n, 0) ∧ 0 ≤ n ∧ n ≤ most ∧ n = (if 0 ∈ s then 0 else pr s) := by
  unfold product at h
  by_cases h8 : 8 < s.length
  · rw [if_pos h8] at h; simp at h
  rw [if_neg h8] at h
  by_cases hn : ∃ d ∈ s, d < 0
  · rw [if_pos hn] at h; simp at h
  rw [if_neg hn] at h
  by_cases hp : 1048576 < pr s
  · rw [if_pos hp] at h; simp at h
  rw [if_neg hp] at h
  by_cases hm : most < (if 0 ∈ s then 0 else pr s)
  · rw [if_pos hm] at h; simp at h
  rw [if_neg hm] at h
  simp only [Prod.mk.injEq, and_true] at h
  have h0 : ∀ d ∈ s, 0 ≤ d := fun d hd => by
    rcases Int.lt_or_le d 0 with h | h
    · exact absurd ⟨d, hd, h⟩ hn
    · exact h
  have hg : goodS s = true := (goodS_spec s).2 ⟨by omega, h0, by omega⟩
  have hpos := pr_pos s
  refine ⟨hg, by rw [product_good s hg, h], ?_, by omega, h.symm⟩
  rw [← h]; split <;> omega
theorem all_eq (most : Nat) (s : List Int) (n : Int) (hm : n ≤ most) (hn : n = (if 0 ∈ s then 0 else pr s)) (h0 : ∀ d ∈ s, 0 ≤ d) : allSpec most s = (List.range n.toNat).map fun (i : Nat) => idxOf s i := by
  by_cases hz : 0 ∈ s
  · rw [if_pos hz] at hn
    rw [all_zero most s hz, hn]; rfl
  · rw [if_neg hz] at hn
    have hpos : ∀ d ∈ s, 1 ≤ d := fun d hd => by
      have := h0 d hd
      have : d ≠ 0 := fun e => hz (e ▸ hd)
      omega
    have := all_take most s hpos (by omega) s.length (Nat.le_refl _)
    rw [List.take_length] at this
    rw [this, prn_eq_pr s hpos, hn]
theorem all_len_go (most : Nat) : ∀ (s : List Int) (ls : List (List Int)) (n : Nat), (∀ x ∈ ls, x.length = n) → ∀ x ∈ s.foldl (allStep most) ls, x.length = n + s.length
  | [], ls, n, h, x, hx => by simpa using h x hx
  | d :: s, ls, n, h, x, hx => by
    have := all_len_go most s (allStep most ls d) (n + 1) (fun y hy => by
      unfold allStep at hy
      have hy := List.mem_of_mem_take hy
      rw [List.mem_flatMap] at hy
      obtain ⟨z, hz, hy⟩ := hy
      unfold allRow at hy
      rw [List.mem_map] at hy
      obtain ⟨j, _, rfl⟩ := hy
      simp [h z hz]) x hx
    rw [this, List.length_cons]; omega
theorem all_len (most : Nat) (s : List Int) : ∀ x ∈ allSpec most s, x.length = s.length := by
  intro x hx
  have := all_len_go most s [[]] 0 (by simp) x hx
  omega
end Go.Proofs.Ythbfkhklihejiaa

/-
  Plain Lean on elements along an axis: places turned, and turned back. No statement is proved here.
-/
namespace Go.Proofs.Ythbfkhklihejiaa
open Go Go.RowKit
set_option linter.unusedVariables false
set_option linter.unusedSimpArgs false

theorem le_mul1 {a b : Int} (ha : 0 ≤ a) (hb : 1 ≤ b) : a ≤ a * b := by
  calc a = a * 1 := (Int.mul_one a).symm
    _ ≤ a * b := Int.mul_le_mul_of_nonneg_left hb ha
theorem sum_const {δ : Type} (c : Nat) : ∀ l : List δ, (l.map fun _ => c).sum = l.length * c
  | [] => by simp
  | a :: l => by rw [List.map_cons, List.sum_cons, sum_const c l, List.length_cons, Nat.add_mul, Nat.one_mul, Nat.add_comm]
theorem flatMap_eqN {γ δ : Type} {f g : γ → List δ} : ∀ {l : List γ}, (∀ x ∈ l, f x = g x) → l.flatMap f = l.flatMap g
  | [], _ => rfl
  | a :: l, h => by rw [List.flatMap_cons, List.flatMap_cons, h a (by simp), flatMap_eqN (fun x hx => h x (List.mem_cons_of_mem _ hx))]
theorem product_parts {s t : List Int} {d : Int} {n : Nat} (h : product (s ++ d :: t) 1048576 = ((n : Int), 0)) (hn : 0 < n) : product s 1048576 = (pr s, 0) ∧ product t 1048576 = (pr t, 0) ∧ 1 ≤ d ∧ pr s * d * pr t = n ∧ goodS (s ++ d :: t) = true := by
  obtain ⟨hg, _, _, _, hv⟩ := product_fits _ _ _ h
  obtain ⟨h8, h0, hp⟩ := (goodS_spec _).1 hg
  have hz : ¬ (0 : Int) ∈ s ++ d :: t := fun e => by rw [if_pos e] at hv; omega
  rw [if_neg hz] at hv
  have hd : 1 ≤ d := by
    have := h0 d (by simp)
    have h1 : d ≠ 0 := fun e => hz (by rw [← e]; simp)
    omega
  have hpr : pr (s ++ d :: t) = pr s * d * pr t := by
    rw [pr_append]
    show pr s * (max 1 d * pr t) = _
    rw [show max 1 d = d by omega, Int.mul_assoc]
  have hs1 := pr_pos s
  have ht1 := pr_pos t
  have hsle : pr s ≤ pr (s ++ d :: t) := by
    rw [pr_append]
    exact le_mul1 (by omega) (pr_pos _)
  have htle : pr t ≤ pr (s ++ d :: t) := by
    rw [hpr]
    have h2 : 1 ≤ pr s * d := Int.le_trans hs1 (le_mul1 (by omega) hd)
    exact Int.le_trans (Int.le_of_eq (Int.one_mul _).symm) (Int.mul_le_mul_of_nonneg_right h2 (by omega))
  have sub : ∀ u : List Int, (∀ x ∈ u, x ∈ s ++ d :: t) → u.length ≤ (s ++ d :: t).length → pr u ≤ pr (s ++ d :: t) → product u 1048576 = (pr u, 0) := by
    intro u hu hul hpu
    have hgu : goodS u = true := (goodS_spec _).2 ⟨by omega, fun x hx => h0 x (hu x hx), by omega⟩
    rw [product_good u hgu, if_neg (fun e => hz (hu 0 e))]
  refine ⟨sub s (fun x hx => by simp [hx]) (by simp) hsle, sub t (fun x hx => by simp [hx]) (by simp; omega) htle, hd, ?_, hg⟩
  rw [← hpr, hv]
theorem split_of {l : List Int} {n k : Nat} (h : product l 1048576 = ((n : Int), 0)) (hn : 0 < n) (hk : k < l.length) : ∃ o d i : Nat, splitSpec l (k : Int) = ((o : Int), (d : Int), (i : Int), true) ∧ l.getD k 0 = (d : Int) ∧ o * d * i = n ∧ 0 < o ∧ 0 < d ∧ 0 < i := by
  have e : l = l.take k ++ l[k] :: l.drop (k + 1) := by
    rw [← List.drop_eq_getElem_cons hk, List.take_append_drop]
  rw [e] at h
  obtain ⟨h1, h2, h3, h4, h5⟩ := product_parts h hn
  rw [← e] at h5
  have hs1 := pr_pos (l.take k)
  have ht1 := pr_pos (l.drop (k + 1))
  have hg : l.getD k 0 = l[k] := by rw [List.getD_eq_getElem?_getD, List.getElem?_eq_getElem hk]; rfl
  refine ⟨(pr (l.take k)).toNat, l[k].toNat, (pr (l.drop (k + 1))).toNat, ?_, by rw [hg]; omega, ?_, by omega, by omega, by omega⟩
  · unfold splitSpec
    rw [if_pos]
    · rw [Int.toNat_natCast, h1, h2, hg, Int.toNat_of_nonneg (by omega), Int.toNat_of_nonneg (by omega), Int.toNat_of_nonneg (by omega)]
    · unfold splitOk
      rw [Int.toNat_natCast, h1, h2]
      exact ⟨h5, by omega, by omega, rfl, rfl⟩
  · have e2 : (((pr (l.take k)).toNat * l[k].toNat * (pr (l.drop (k + 1))).toNat : Nat) : Int) = (n : Int) := by
      rw [Int.natCast_mul, Int.natCast_mul, Int.toNat_of_nonneg (by omega), Int.toNat_of_nonneg (by omega), Int.toNat_of_nonneg (by omega)]
      exact h4
    exact Int.ofNat.inj e2

/-- the place of an element along an axis; below 0: there's none -/
def alongI (n inner o : Nat) (i : Int) (k : Nat) : Int := if 0 ≤ i ∧ i < n then ((o * n + i.toNat) * inner + k : Nat) else -1
def alongL (outer n inner : Nat) (at_ : List Int) : List Int := (List.range outer).flatMap fun o => at_.flatMap fun i => (List.range inner).map fun k => alongI n inner o i k
theorem alongL_len (outer n inner : Nat) (at_ : List Int) : (alongL outer n inner at_).length = outer * (at_.length * inner) := by
  unfold alongL
  rw [List.length_flatMap]
  have e : ∀ o, (at_.flatMap fun i => (List.range inner).map fun k => alongI n inner o i k).length = at_.length * inner := by
    intro o
    rw [List.length_flatMap]
    simp only [List.length_map, List.length_range]
    exact sum_const _ _
  simp only [e]
  rw [sum_const, List.length_range]
/-- places along an axis whose own places are given one by one -/
theorem along_range (outer d inner : Nat) (f : Nat → Nat) (hi : 0 < inner) (hd : 0 < d) (hf : ∀ y, y < d → f y < d) : alongL outer d inner ((List.range d).map fun y => ((f y : Nat) : Int)) = (List.range (outer * d * inner)).map fun p => (((p / inner / d * d + f (p / inner % d)) * inner + p % inner : Nat) : Int) := by
  unfold alongL
  have h1 : ∀ o, ((List.range d).map fun y => ((f y : Nat) : Int)).flatMap (fun i => (List.range inner).map fun k => alongI d inner o i k) = (List.range (d * inner)).map fun q => (((o * d + f (q / inner)) * inner + q % inner : Nat) : Int) := by
    intro o
    rw [← flat_range inner hi (fun y k => (((o * d + f y) * inner + k : Nat) : Int)) d, List.flatMap_map]
    apply flatMap_eqN
    intro y hy
    have hy := hf y (List.mem_range.1 hy)
    apply List.map_congr_left
    intro k _
    unfold alongI
    rw [if_pos (by omega), Int.toNat_natCast]
  simp only [h1]
  rw [flat_range (d * inner) (Nat.mul_pos hd hi) (fun o q => (((o * d + f (q / inner)) * inner + q % inner : Nat) : Int)) outer, ← Nat.mul_assoc]
  apply List.map_congr_left
  intro p _
  have e1 : p / (d * inner) = p / inner / d := by rw [Nat.mul_comm d inner, Nat.div_div_eq_div_mul]
  have e2 : p % (d * inner) / inner = p / inner % d := by rw [Nat.mul_comm d inner, Nat.mod_mul_right_div_self]
  have e3 : p % (d * inner) % inner = p % inner := Nat.mod_mod_of_dvd p (Nat.dvd_mul_left inner d)
  rw [e1, e2, e3]
theorem idx_lt {outer d inner p g : Nat} (hi : 0 < inner) (hd : 0 < d) (hp : p < outer * d * inner) (hg : g < d) : (p / inner / d * d + g) * inner + p % inner < outer * d * inner := by
  have h1 : p / inner < outer * d := Nat.div_lt_of_lt_mul (by rw [Nat.mul_comm]; exact hp)
  have h2 : p / inner / d < outer := Nat.div_lt_of_lt_mul (by rw [Nat.mul_comm]; exact h1)
  have h3 : p / inner / d * d + g < outer * d := by
    have : (p / inner / d + 1) * d ≤ outer * d := Nat.mul_le_mul_right d h2
    rw [Nat.add_mul, Nat.one_mul] at this
    omega
  have h4 := Nat.mod_lt p hi
  have : (p / inner / d * d + g + 1) * inner ≤ outer * d * inner := Nat.mul_le_mul_right inner h3
  rw [Nat.add_mul, Nat.one_mul] at this
  omega
theorem idx_parts {d inner x g z : Nat} (hi : z < inner) (hg : g < d) : ((x * d + g) * inner + z) % inner = z ∧ ((x * d + g) * inner + z) / inner % d = g ∧ ((x * d + g) * inner + z) / inner / d = x := by
  have h1 : ((x * d + g) * inner + z) / inner = x * d + g := by
    rw [Nat.add_comm, Nat.add_mul_div_right _ _ (by omega), Nat.div_eq_of_lt hi, Nat.zero_add]
  have h2 : ((x * d + g) * inner + z) % inner = z := by
    rw [Nat.add_comm, Nat.add_mul_mod_self_right, Nat.mod_eq_of_lt hi]
  refine ⟨h2, ?_, ?_⟩
  · rw [h1, Nat.add_comm, Nat.add_mul_mod_self_right, Nat.mod_eq_of_lt hg]
  · rw [h1, Nat.add_comm, Nat.add_mul_div_right _ _ (by omega), Nat.div_eq_of_lt hg, Nat.zero_add]
theorem atD_natP {γ : Type} (l : List γ) (i : Nat) (d : γ) : atD l (i : Int) d = l.getD i d := by unfold atD; rw [if_pos (by omega), Int.toNat_natCast]
/-- turned by f along an axis, and then by g: where g undoes f, all is as it was -/
theorem along_back {γ : Type} (L : List γ) (b : γ) (outer d inner : Nat) (f g : Nat → Nat) (hi : 0 < inner) (hd : 0 < d) (hf : ∀ y, y < d → f y < d) (hg : ∀ y, y < d → g y < d) (hfg : ∀ y, y < d → f (g y) = y) (hL : L.length = outer * d * inner) :
    (alongL outer d inner ((List.range d).map fun y => ((g y : Nat) : Int))).map (fun i => atD ((alongL outer d inner ((List.range d).map fun y => ((f y : Nat) : Int))).map fun i => atD L i b) i b) = L := by
  rw [along_range outer d inner f hi hd hf, along_range outer d inner g hi hd hg, List.map_map, List.map_map]
  apply List.ext_getElem?
  intro p
  rw [List.getElem?_map]
  by_cases hp : p < outer * d * inner
  · rw [List.getElem?_range hp, Option.map_some]
    have hm := Nat.mod_lt (p / inner) hd
    have hz := Nat.mod_lt p hi
    have hgl := hg _ hm
    have hq := idx_lt (outer := outer) hi hd hp hgl
    simp only [Function.comp]
    obtain ⟨e1, e2, e3⟩ := idx_parts (x := p / inner / d) hz hgl
    rw [atD_natP, List.getD_eq_getElem?_getD, List.getElem?_map, List.getElem?_range hq, Option.map_some, Option.getD_some]
    simp only [Function.comp]
    rw [e1, e2, e3, hfg _ hm, atD_natP]
    have e4 : (p / inner / d * d + p / inner % d) * inner + p % inner = p := by
      rw [Nat.mul_comm (p / inner / d) d, Nat.div_add_mod (p / inner) d, Nat.mul_comm, Nat.div_add_mod]
    rw [e4]
    have hpl : p < L.length := by omega
    rw [List.getD_eq_getElem?_getD, List.getElem?_eq_getElem hpl]
    rfl
  · rw [List.getElem?_eq_none (by rw [List.length_range]; omega), List.getElem?_eq_none (by omega)]
    rfl
/-- an axis turned on by so many -/
def rolledN (n : Nat) (by_ : Int) (y : Nat) : Nat := (((y : Int) + by_ % n) % n).toNat
def rolledL (n : Nat) (by_ : Int) : List Int := (List.range n).map fun y => ((rolledN n by_ y : Nat) : Int)
theorem rolledN_lt (n : Nat) (by_ : Int) (h : 0 < n) (y : Nat) : rolledN n by_ y < n := by
  unfold rolledN
  have h1 := Int.emod_nonneg ((y : Int) + by_ % n) (show (n : Int) ≠ 0 by omega)
  have h2 := Int.emod_lt_of_pos ((y : Int) + by_ % n) (show (0 : Int) < n by omega)
  omega
theorem rolledN_back (n : Nat) (by_ : Int) (y : Nat) (h : y < n) : rolledN n by_ (rolledN n (-by_) y) = y := by
  have h0 : 0 < n := by omega
  unfold rolledN
  have h1 := Int.emod_nonneg ((y : Int) + -by_ % n) (show (n : Int) ≠ 0 by omega)
  rw [Int.toNat_of_nonneg h1]
  have e0 : ((y : Int) + -by_ % n) % n + by_ % n = y + n * (-((-by_) / n) - (((y : Int) + -by_ % n) / n) - by_ / n) := by
    rw [Int.emod_def ((y : Int) + -by_ % n) n, Int.mul_sub, Int.mul_sub, Int.mul_neg]
    have h2 := Int.emod_def (-by_) (n : Int)
    have h3 := Int.emod_def by_ (n : Int)
    omega
  have e : (((y : Int) + -by_ % n) % n + by_ % n) % n = y := by
    rw [e0, Int.add_mul_emod_self_left]
    exact Int.emod_eq_of_lt (by omega) (by omega)
  rw [e]
  omega
theorem turnN_lt {n y : Nat} (h : y < n) : n - 1 - y < n := by omega
end Go.Proofs.Ythbfkhklihejiaa

/-
  Contracts of functions of package pick: places along an axis, turned on. No statement is proved here.
-/
namespace Go.Proofs.Ythbfkhklihejiaa
open Go Go.RowKit
set_option linter.unusedVariables false
set_option linter.unusedSimpArgs false
set_option maxHeartbeats 4000000
attribute [local irreducible] CW RW QW SW HW ConM retM heldQ calmQ elemP thenQ blockQ loopQ joinQ retQ Yields Con Sl zF magR unitF truncF fwF wholeF tidySpec elemQ rankF leastN tidyW
set_option maxHeartbeats 4000000

theorem tmod_emod (a : Int) (n : Nat) (hn : 0 < n) : -(n : Int) < a.tmod n ∧ a.tmod n < n ∧ (if a.tmod n < 0 then a.tmod n + n else a.tmod n) = a % n := by
  have h1 : a.tmod n < n := Int.tmod_lt_of_pos a (by omega)
  have h2 : -(n : Int) < a.tmod n := by
    rcases Int.le_total 0 a with h | h
    · have := Int.tmod_nonneg (n : Int) h
      omega
    · have h5 := Int.tmod_lt_of_pos (-a) (show (0 : Int) < n by omega)
      rw [Int.neg_tmod] at h5
      omega
  have h3 : a = (n : Int) * a.tdiv n + a.tmod n := (Int.mul_tdiv_add_tmod a n).symm
  have h4 : a % n = a.tmod n % n := by
    conv => lhs; rw [h3]
    rw [Int.add_comm, Int.add_mul_emod_self_left]
  refine ⟨h2, h1, ?_⟩
  rw [h4]
  split
  · rw [← Int.add_emod_right, Int.emod_eq_of_lt (by omega) (by omega)]
  · rw [Int.emod_eq_of_lt (by omega) (by omega)]
theorem fillA' {δ : Type} {A : List δ} {i n : Nat} (hA : A.length = i) (h : i < n) (b z : δ) : (A ++ List.replicate (n - i) b).set i z = (A ++ [z]) ++ List.replicate (n - (i + 1)) b := by
  obtain ⟨r, hr⟩ : ∃ r, n - i = r + 1 := ⟨n - i - 1, by omega⟩
  have e : n - (i + 1) = r := by omega
  rw [hr, e, List.replicate_succ, List.set_append_right _ _ (by omega), ← hA]
  simp
theorem setA' {δ : Type} {A Rr : List δ} {i : Nat} (hA : A.length = i) (z y : δ) : ((A ++ [z]) ++ Rr).set i y = (A ++ [y]) ++ Rr := by
  subst hA
  simp
theorem pickRolled_con (n : Nat) (by_ : Int) (w : World) (h : GHeap) (hn : n ≤ 1048576) : Con Try.prog 167 [.int .i64 n, .int .i64 by_] w h (fun h' u => IntsAt h' u (rolledL n by_)) := by
  refine Con.of_body Try.func167 rfl Try.ntmps167 rfl rfl ?_
  intro hs
  refine Zerun ?_
  (refine RW.make1 T hs rfl rfl rfl rfl rfl rfl rfl (by dsimp only; omega) (by omega) ?_; intro b1 w1 hs)
  by_cases c0 : n = 0
  · subst c0
    refine Zerun ?_
    obtain ⟨h2, hle2, hs, hS2⟩ := hs.freeze
    exact retQ_ret [_] h2 ⟨rfl, trivial⟩ hs.dropAll (IntsAt.of_sl (l := []) hS2)
  obtain ⟨ht1, ht2, ht3⟩ := tmod_emod by_ n (by omega)
  have hfr : 0 ≤ by_ % (n : Int) ∧ by_ % (n : Int) < n := ⟨Int.emod_nonneg _ (by omega), Int.emod_lt_of_pos _ (by omega)⟩
  refine Zerun ?_
  refine RW.val (Y.rem' rfl rfl (by omega)) rfl ?_
  by_cases c : by_.tmod n < 0
  · rw [if_pos c] at ht3
    refine Zerun ?_
    rw [ht3]
    obtain ⟨fr, hfe⟩ : ∃ fr, by_ % (n : Int) = fr := ⟨_, rfl⟩
    rw [hfe] at hfr ⊢
    refine CW.loop (fun i : Nat => [(0, .int .i64 n), (5, .slice (some ⟨b1, 0, none⟩) n n), (6, .int .i64 fr), (22, .int .i64 n), (23, .int .i64 i)]) (fun i w' => i ≤ n ∧ Sees w h h [⟨some ⟨b1, 0, none⟩, n, n, 3, 1, ((List.range i).map fun y => ((rolledN n by_ y : Nat) : Int)).map (Value.int .i64) ++ List.replicate (n - i) (.int .i64 0)⟩] w') (fun i => n - i) 0 ⟨rfl, rfl, rfl, rfl, rfl, trivial⟩ ⟨by omega, hs⟩ ?_
    rintro i w5 ⟨hi, hs⟩
    by_cases hlt : i < n
    · have hv : ((i : Int) + fr) % n = ((rolledN n by_ i : Nat) : Int) := by
        unfold rolledN
        rw [hfe, Int.toNat_of_nonneg (Int.emod_nonneg _ (by omega))]
      refine Zerun ?_
      rw [hv]
      refine RW.val (Y.idxRN T hs 0 rfl rfl rfl rfl rfl rfl hlt) rfl ?_
      refine RW.st1 T hs 0 rfl rfl rfl rfl rfl rfl rfl hlt ?_
      intro w7 hs
      replace hs := hs.re (fill_snoc (fun y => ((rolledN n by_ y : Nat) : Int)) i n hlt _)
      refine Zerun ?_
      exact loopQ_round (i + 1) ⟨rfl, rfl, rfl, rfl, rfl, trivial⟩ ⟨by omega, hs⟩ (by omega)
    obtain rfl : i = n := by omega
    rw [Nat.sub_self, List.replicate_zero, List.append_nil] at hs
    obtain ⟨h8, hle8, hs, hS8⟩ := hs.freeze
    refine Zerun ?_
    exact retQ_ret [_] h8 ⟨rfl, trivial⟩ hs.dropAll (IntsAt.of_sl (l := rolledL i by_) hS8)
  · rw [if_neg c] at ht3
    rw [ht3] at c ⊢
    refine Zerun ?_
    obtain ⟨fr, hfe⟩ : ∃ fr, by_ % (n : Int) = fr := ⟨_, rfl⟩
    rw [hfe] at hfr ⊢
    refine CW.loop (fun i : Nat => [(0, .int .i64 n), (5, .slice (some ⟨b1, 0, none⟩) n n), (6, .int .i64 fr), (22, .int .i64 n), (23, .int .i64 i)]) (fun i w' => i ≤ n ∧ Sees w h h [⟨some ⟨b1, 0, none⟩, n, n, 3, 1, ((List.range i).map fun y => ((rolledN n by_ y : Nat) : Int)).map (Value.int .i64) ++ List.replicate (n - i) (.int .i64 0)⟩] w') (fun i => n - i) 0 ⟨rfl, rfl, rfl, rfl, rfl, trivial⟩ ⟨by omega, hs⟩ ?_
    rintro i w5 ⟨hi, hs⟩
    by_cases hlt : i < n
    · have hv : ((i : Int) + fr) % n = ((rolledN n by_ i : Nat) : Int) := by
        unfold rolledN
        rw [hfe, Int.toNat_of_nonneg (Int.emod_nonneg _ (by omega))]
      refine Zerun ?_
      rw [hv]
      refine RW.val (Y.idxRN T hs 0 rfl rfl rfl rfl rfl rfl hlt) rfl ?_
      refine RW.st1 T hs 0 rfl rfl rfl rfl rfl rfl rfl hlt ?_
      intro w7 hs
      replace hs := hs.re (fill_snoc (fun y => ((rolledN n by_ y : Nat) : Int)) i n hlt _)
      refine Zerun ?_
      exact loopQ_round (i + 1) ⟨rfl, rfl, rfl, rfl, rfl, trivial⟩ ⟨by omega, hs⟩ (by omega)
    obtain rfl : i = n := by omega
    rw [Nat.sub_self, List.replicate_zero, List.append_nil] at hs
    obtain ⟨h8, hle8, hs, hS8⟩ := hs.freeze
    refine Zerun ?_
    exact retQ_ret [_] h8 ⟨rfl, trivial⟩ hs.dropAll (IntsAt.of_sl (l := rolledL i by_) hS8)
/-- a place that isn't there -/
def noneI (n : Nat) (i : Int) : Int := if i < 0 ∨ (n : Int) ≤ i then -1 else i
theorem pickNone_con (v1 : Value) (at_ : List Int) (n : Nat) (w : World) (h : GHeap) (ha : IntsAt h v1 at_) (hm : at_.length ≤ 1048576) : Con Try.prog 198 [v1, .int .i64 n] w h (fun h' u => IntsAt h' u (at_.map (noneI n))) := by
  obtain ⟨ad, cp, rfl, hS⟩ := ha
  refine Con.of_body Try.func198 rfl Try.ntmps198 rfl rfl ?_
  intro hs
  refine Zerun ?_
  (refine RW.make1 T hs rfl rfl rfl rfl rfl rfl rfl (by dsimp only; omega) (by omega) ?_; intro b1 w1 hs)
  refine Zerun ?_
  refine CW.loop (fun i : Nat => [(1, .int .i64 n), (5, .slice (some ⟨b1, 0, none⟩) at_.length at_.length), (11, .slice ad at_.length cp), (12, .int .i64 at_.length), (13, .int .i64 i)]) (fun i w' => i ≤ at_.length ∧ Sees w h h [⟨some ⟨b1, 0, none⟩, at_.length, at_.length, 3, 1, (((at_.take i).map (noneI n)) ++ List.replicate (at_.length - i) 0).map (Value.int .i64)⟩] w') (fun i => at_.length - i) 0 ⟨rfl, rfl, rfl, rfl, rfl, trivial⟩ ⟨by omega, by simp only [List.take_zero, List.map_nil, List.nil_append, Nat.sub_zero, List.map_replicate]; exact hs⟩ ?_
  rintro i w2 ⟨hi, hs⟩
  by_cases hlt : i < at_.length
  · have hAl : ((at_.take i).map (noneI n)).length = i := by rw [List.length_map, List.length_take]; omega
    have htm : (at_.take (i + 1)).map (noneI n) = (at_.take i).map (noneI n) ++ [noneI n (at_.getD i 0)] := by
      rw [take_succ_getD at_ i 0 hlt, List.map_append]; rfl
    refine Zerun ?_
    refine RW.val (Y.idxRN T hs 0 rfl rfl rfl rfl rfl rfl hlt) rfl ?_
    refine RW.st1 T hs 0 rfl rfl rfl rfl rfl rfl rfl hlt ?_
    intro w3 hs
    dsimp only [List.set_cons_zero, List.set_cons_succ] at hs
    rw [map_set_int, fillA' hAl hlt] at hs
    by_cases c1 : at_.getD i 0 < 0
    · have hv : noneI n (at_.getD i 0) = -1 := by unfold noneI; rw [if_pos (.inl c1)]
      refine Zerun ?_
      refine RW.val (Y.idxRN T hs 0 rfl rfl rfl rfl rfl rfl hlt) rfl ?_
      refine RW.st1 T hs 0 rfl rfl rfl rfl rfl rfl rfl hlt ?_
      intro w3 hs
      dsimp only [List.set_cons_zero, List.set_cons_succ] at hs
      rw [map_set_int, setA' hAl, ← hv, ← htm] at hs
      refine Zerun ?_
      exact loopQ_round (i + 1) ⟨rfl, rfl, rfl, rfl, rfl, trivial⟩ ⟨by omega, hs⟩ (by omega)
    by_cases c2 : (n : Int) ≤ at_.getD i 0
    · have hv : noneI n (at_.getD i 0) = -1 := by unfold noneI; rw [if_pos (.inr c2)]
      refine Zerun ?_
      refine RW.val (Y.idxRN T hs 0 rfl rfl rfl rfl rfl rfl hlt) rfl ?_
      refine RW.st1 T hs 0 rfl rfl rfl rfl rfl rfl rfl hlt ?_
      intro w3 hs
      dsimp only [List.set_cons_zero, List.set_cons_succ] at hs
      rw [map_set_int, setA' hAl, ← hv, ← htm] at hs
      refine Zerun ?_
      exact loopQ_round (i + 1) ⟨rfl, rfl, rfl, rfl, rfl, trivial⟩ ⟨by omega, hs⟩ (by omega)
    have hv : noneI n (at_.getD i 0) = at_.getD i 0 := by unfold noneI; rw [if_neg (by omega)]
    rw [hv] at htm
    rw [← htm] at hs
    refine Zerun ?_
    exact loopQ_round (i + 1) ⟨rfl, rfl, rfl, rfl, rfl, trivial⟩ ⟨by omega, hs⟩ (by omega)
  obtain rfl : i = at_.length := by omega
  rw [List.take_length, Nat.sub_self, List.replicate_zero, List.append_nil] at hs
  refine Zerun ?_
  obtain ⟨h6, hle6, hs, hS6⟩ := hs.freeze
  refine retQ_ret [_] h6 ⟨rfl, trivial⟩ hs.dropAll ?_
  have := IntsAt.of_sl hS6
  exact this
theorem flat_single {γ δ : Type} (f : γ → δ) : ∀ l : List γ, (l.flatMap fun x => [f x]) = l.map f
  | [] => rfl
  | a :: l => by rw [List.flatMap_cons, flat_single f l]; rfl
theorem alongL_one (n : Nat) (at_ : List Int) : alongL 1 n 1 at_ = at_.map (noneI n) := by
  show (List.range 1).flatMap _ = _
  rw [show List.range 1 = [0] from rfl, List.flatMap_cons, List.flatMap_nil, List.append_nil]
  rw [← flat_single (noneI n) at_]
  apply flatMap_eqN
  intro i _
  show [alongI n 1 0 i 0] = [noneI n i]
  congr 1
  unfold alongI noneI
  by_cases c : 0 ≤ i ∧ i < n
  · rw [if_pos c, if_neg (by omega)]
    omega
  · rw [if_neg c, if_pos (by omega)]
section
variable {α : Type} {R : GHeap → List Value → α → Prop}
theorem pickAlong_con (hR : Mono R) (h1 : One R) (h9 : Siz 9 R) (nb : α) (hbl : ∀ w h, Con Try.prog 68 [] w h (fun h' u => ∃ cs', u = .agg cs'.toArray ∧ R h' cs' nb)) (cs : List Value) (v : VecD α) (v1 : Value) (outer n inner : Nat) (at_ : List Int) (w : World) (h : GHeap) (hv : VecAt R h cs v) (ha : IntsAt h v1 at_) (hal : at_.length ≤ 1048576) (hou : outer ≤ 1048576) (hm : outer * (at_.length * inner) ≤ 1048576) (hB : outer * n * inner ≤ 1099511627776) (hBn : outer * n ≤ 1099511627776) (hvm : v.len ≤ 1048576) (hk0 : v.kind ≠ 0) :
    Con Try.prog 193 [.agg cs.toArray, .int .i64 outer, .int .i64 n, .int .i64 inner, v1] w h (fun h' u => ∃ cs', u = .agg cs'.toArray ∧ VecAt R h' cs' (v.pick (alongL outer n inner at_) nb)) := by
  have hv' := hv
  have ha' := ha
  obtain ⟨ad, cp, rfl, hS⟩ := ha
  obtain ⟨wv, nv, sm, il, fl, ch, bx, ⟨rfl, hoc⟩, _⟩ := hv
  refine Con.of_body Try.func193 rfl Try.ntmps193 rfl rfl ?_
  intro hs
  refine Zrun ?_
  (refine RW.boxN hs rfl rfl ?_; intro b1 w1 hs)
  (refine RW.allocN T hs rfl rfl rfl rfl ?_; intro b2 w2 hs)
  by_cases c : outer = 1 ∧ inner = 1
  · obtain ⟨rfl, rfl⟩ := c
    refine Zerun ?_
    refine CW.regionR T 1 1 hs rfl rfl ?_
    intro w4 hs
    refine HW.takeR (fuel := 5) 0 rfl (fun _ _ ka kb _ hs hka hkb => Y.loadRowN T hs ka hka rfl rfl rfl rfl rfl rfl) ⟨_, _, 1, 1, hs, rfl, rfl⟩ rfl (by kernel_rfl) (by kernel_rfl) (by kernel_rfl) ?_
    refine HW.takeR (fuel := 4) 1 rfl (fun _ _ ka kb _ hs hka hkb => Y.move rfl) ⟨_, _, 1, 1, hs, rfl, rfl⟩ rfl (by kernel_rfl) (by kernel_rfl) (by kernel_rfl) ?_
    refine HW.takeR (fuel := 3) 2 rfl (fun _ _ ka kb _ hs hka hkb => Y.move rfl) ⟨_, _, 1, 1, hs, rfl, rfl⟩ rfl (by kernel_rfl) (by kernel_rfl) (by kernel_rfl) ?_
    refine HW.one (fuel := 2) 3 rfl (by kernel_rfl) ?_
    (refine RW.call T hs rfl rfl rfl (pickNone_con _ _ n _ _ ha' (by omega)) ?_; intro v h25 w25 hle25 hp25 hs)
    have hv' := hv'.mono hR hle25
    have ha' := ha'.mono hle25
    refine RW.nil ?_
    refine heldQ_normal ⟨_, _, 1, 1, hs, rfl, rfl⟩ ?_
    refine HW.one (fuel := 1) 4 rfl (by kernel_rfl) ?_
    (refine RW.call T hs rfl rfl rfl (flatPick_con hR h1 h9 nb hbl _ _ _ (at_.map (noneI n)) _ _ hv' hp25 (by rw [List.length_map]; omega) hvm hk0) ?_; intro v h26 w26 hle26 hp26 hs)
    obtain ⟨cs26, rfl, hv26⟩ := hp26
    obtain ⟨wv6, nv6, sm6, il6, fl6, ch6, bx6, ⟨rfl, hoc6⟩, _⟩ := id hv26
    have hv' := hv'.mono hR hle26
    have ha' := ha'.mono hle26
    refine RW.nil ?_
    refine heldQ_normal ⟨_, _, 1, 1, hs, rfl, rfl⟩ ?_
    refine HW.one (fuel := 0) 5 rfl (by kernel_rfl) ?_
    (refine RW.storeAll T hs 0 rfl rfl rfl rfl rfl rfl hoc6 rfl ?_; intro w27 hs)
    refine RW.nil ?_
    refine heldQ_normal ⟨_, _, 1, 1, hs, rfl, rfl⟩ ?_
    refine HW.done (by kernel_rfl) ?_
    refine calmQ_normal ?_
    refine Zerun ?_
    exact retQ_ret [_] h26 ⟨resN T hs 0 rfl rfl rfl rfl rfl rfl, trivial⟩ hs.dropAll ⟨_, rfl, by rw [alongL_one]; exact hv26⟩
  have hlm : ∀ a b : Nat, ((a : Int) * (b : Int)) = ((a * b : Nat) : Int) := fun a b => (Int.natCast_mul a b).symm
  have hoa : outer * at_.length ≤ 1099511627776 := Nat.le_trans (Nat.mul_le_mul hou hal) (by omega)
  have hoai : outer * at_.length * inner ≤ 1048576 := by rw [Nat.mul_assoc]; exact hm
  first | (refine A0 ?_; first | refine R1 rfl rfl ?_ | refine R2 rfl rfl ?_ | (refine A1 ?_; first | refine D3 rfl rfl ?_ | refine D4 rfl rfl rfl rfl ?_ | refine D5 rfl rfl rfl ?_ | refine E6 ?_ rfl rfl | refine E7 ?_ rfl rfl) | refine Zb ?_ rfl | (refine A3 ?_; first | refine R34 T hs 0 rfl rfl rfl rfl rfl rfl ?_ | refine R34 T hs 1 rfl rfl rfl rfl rfl rfl ?_ | refine Zl ?_ rfl) | refine Zi ?_ rfl | refine Zo ?_ rfl | refine A8 ?_) | (refine B0 ?_; first | refine B1 ?_ | refine B2 ?_ | refine B3 ?_ | refine B4 ?_ | refine B5 ?_ | refine B6 ?_ | refine B7 rfl ?_ | refine B8 rfl ?_ | refine E8 ?_ rfl | refine E9 ?_ rfl) | refine C1 ?_ | refine C2 ?_ | refine C3 ?_ | refine C4 ?_ | refine C5 ?_ | refine C6 ?_ | refine C7 ?_ | refine C8 ?_ | refine C9 ?_ | refine D1 rfl ?_ | refine D2 rfl ?_
  first | (refine A0 ?_; first | refine R1 rfl rfl ?_ | refine R2 rfl rfl ?_ | (refine A1 ?_; first | refine D3 rfl rfl ?_ | refine D4 rfl rfl rfl rfl ?_ | refine D5 rfl rfl rfl ?_ | refine E6 ?_ rfl rfl | refine E7 ?_ rfl rfl) | refine Zb ?_ rfl | (refine A3 ?_; first | refine R34 T hs 0 rfl rfl rfl rfl rfl rfl ?_ | refine R34 T hs 1 rfl rfl rfl rfl rfl rfl ?_ | refine Zl ?_ rfl) | refine Zi ?_ rfl | refine Zo ?_ rfl | refine A8 ?_) | (refine B0 ?_; first | refine B1 ?_ | refine B2 ?_ | refine B3 ?_ | refine B4 ?_ | refine B5 ?_ | refine B6 ?_ | refine B7 rfl ?_ | refine B8 rfl ?_ | refine E8 ?_ rfl | refine E9 ?_ rfl) | refine C1 ?_ | refine C2 ?_ | refine C3 ?_ | refine C4 ?_ | refine C5 ?_ | refine C6 ?_ | refine C7 ?_ | refine C8 ?_ | refine C9 ?_ | refine D1 rfl ?_ | refine D2 rfl ?_
  first | (refine A0 ?_; first | refine R1 rfl rfl ?_ | refine R2 rfl rfl ?_ | (refine A1 ?_; first | refine D3 rfl rfl ?_ | refine D4 rfl rfl rfl rfl ?_ | refine D5 rfl rfl rfl ?_ | refine E6 ?_ rfl rfl | refine E7 ?_ rfl rfl) | refine Zb ?_ rfl | (refine A3 ?_; first | refine R34 T hs 0 rfl rfl rfl rfl rfl rfl ?_ | refine R34 T hs 1 rfl rfl rfl rfl rfl rfl ?_ | refine Zl ?_ rfl) | refine Zi ?_ rfl | refine Zo ?_ rfl | refine A8 ?_) | (refine B0 ?_; first | refine B1 ?_ | refine B2 ?_ | refine B3 ?_ | refine B4 ?_ | refine B5 ?_ | refine B6 ?_ | refine B7 rfl ?_ | refine B8 rfl ?_ | refine E8 ?_ rfl | refine E9 ?_ rfl) | refine C1 ?_ | refine C2 ?_ | refine C3 ?_ | refine C4 ?_ | refine C5 ?_ | refine C6 ?_ | refine C7 ?_ | refine C8 ?_ | refine C9 ?_ | refine D1 rfl ?_ | refine D2 rfl ?_
  refine CW.meet (fun _ : Unit => [(1, .int .i64 outer), (2, .int .i64 n), (3, .int .i64 inner), (4, .slice ad at_.length cp), (5, .pointer (some ⟨b1, 0, none⟩)), (10, .pointer (some ⟨b2, 0, none⟩)), (21, .bool false)]) (fun _ w' => Sees w h h [⟨some ⟨b2, 0, none⟩, 1, 1, 61, 8, vecCells 0 (.slice none 0 0) 0 (.slice none 0 0) (.slice none 0 0) (.slice none 0 0) (.slice none 0 0) (.slice none 0 0)⟩, ⟨some ⟨b1, 0, none⟩, 1, 1, 61, 8, vecCells v.kind wv nv sm il fl ch bx⟩] w') ?_ ?_
  · by_cases c1 : outer = 1
    · have c2 : ¬ inner = 1 := fun e => c ⟨c1, e⟩
      refine Zerun ?_
      exact joinQ_meet () ⟨rfl, rfl, rfl, rfl, rfl, rfl, setb (decide_eq_false (by omega)), trivial⟩ hs
    · refine Zerun ?_
      exact joinQ_meet () ⟨rfl, rfl, rfl, rfl, rfl, rfl, rfl, trivial⟩ hs
  rintro _ w3 hs
  refine Zerun ?_
  refine RW.val (Y.mul rfl rfl ?_) rfl ?_
  · rw [hlm]; omega
  rw [hlm]
  refine Zerun ?_
  refine RW.val (Y.mul rfl rfl ?_) rfl ?_
  · rw [hlm]; omega
  rw [hlm]
  obtain ⟨N, hN⟩ : ∃ N, outer * at_.length * inner = N := ⟨_, rfl⟩
  rw [hN] at hoai ⊢
  (refine RW.make T hs rfl rfl rfl rfl rfl ?_ ?_ ?_ ?_ ?_; omega; omega; (dsimp only; omega); omega; intro b4 w4 hs)
  have hs : Sees w h h [⟨some ⟨b4, 0, none⟩, 0, N, 3, 1, []⟩, ⟨some ⟨b2, 0, none⟩, 1, 1, 61, 8, vecCells 0 (.slice none 0 0) 0 (.slice none 0 0) (.slice none 0 0) (.slice none 0 0) (.slice none 0 0) (.slice none 0 0)⟩, ⟨some ⟨b1, 0, none⟩, 1, 1, 61, 8, vecCells v.kind wv nv sm il fl ch bx⟩] w4 := by
    have e : ((N : Int)).toNat = N := Int.toNat_natCast _
    rw [e] at hs
    exact hs.re (made_one _ _)
  have e : ((N : Int)).toNat = N := Int.toNat_natCast _
  rw [e]
  refine Zerun ?_
  refine CW.loop (fun u : Nat × Nat × (Option Addr × Nat) => [(1, .int .i64 outer), (2, .int .i64 n), (3, .int .i64 inner), (4, .slice ad at_.length cp), (5, .pointer (some ⟨b1, 0, none⟩)), (10, .pointer (some ⟨b2, 0, none⟩)), (11, .slice u.2.2.1 u.2.1 u.2.2.2), (34, .int .i64 outer), (35, .int .i64 u.1)]) (fun u w' => u.1 ≤ outer ∧ u.2.1 = (alongL u.1 n inner at_).length ∧ Sees w h h [⟨u.2.2.1, u.2.1, u.2.2.2, 3, 1, (alongL u.1 n inner at_).map (Value.int .i64)⟩, ⟨some ⟨b2, 0, none⟩, 1, 1, 61, 8, vecCells 0 (.slice none 0 0) 0 (.slice none 0 0) (.slice none 0 0) (.slice none 0 0) (.slice none 0 0) (.slice none 0 0)⟩, ⟨some ⟨b1, 0, none⟩, 1, 1, 61, 8, vecCells v.kind wv nv sm il fl ch bx⟩] w') (fun u => outer - u.1) (0, 0, (some ⟨b4, 0, none⟩, N)) ⟨rfl, rfl, rfl, rfl, rfl, rfl, rfl, rfl, rfl, trivial⟩ ⟨by omega, rfl, hs⟩ ?_
  rintro ⟨o, nn, ⟨ab, cb⟩⟩ w5 ⟨ho, hnn, hs⟩
  dsimp only at ho hnn hs ⊢
  have hal2 := alongL_len o n inner at_
  by_cases hlt : o < outer
  · have hon : o * n ≤ outer * n := Nat.mul_le_mul_right n (by omega)
    have hob : o * (at_.length * inner) ≤ outer * (at_.length * inner) := Nat.mul_le_mul_right _ (by omega)
    have hob1 : o * (at_.length * inner) + at_.length * inner ≤ outer * (at_.length * inner) := by
      have := Nat.mul_le_mul_right (at_.length * inner) (show o + 1 ≤ outer by omega)
      rw [Nat.add_mul, Nat.one_mul] at this
      exact this
    refine Zerun ?_
    refine CW.loop (fun u : Nat × Nat × (Option Addr × Nat) => [(1, .int .i64 outer), (2, .int .i64 n), (3, .int .i64 inner), (4, .slice ad at_.length cp), (5, .pointer (some ⟨b1, 0, none⟩)), (10, .pointer (some ⟨b2, 0, none⟩)), (11, .slice u.2.2.1 u.2.1 u.2.2.2), (12, .int .i64 o), (34, .int .i64 outer), (35, .int .i64 o), (38, .slice ad at_.length cp), (39, .int .i64 at_.length), (40, .int .i64 u.1)]) (fun u w' => u.1 ≤ at_.length ∧ u.2.1 = o * (at_.length * inner) + u.1 * inner ∧ Sees w h h [⟨u.2.2.1, u.2.1, u.2.2.2, 3, 1, (alongL o n inner at_ ++ (at_.take u.1).flatMap (fun i => (List.range inner).map fun k => alongI n inner o i k)).map (Value.int .i64)⟩, ⟨some ⟨b2, 0, none⟩, 1, 1, 61, 8, vecCells 0 (.slice none 0 0) 0 (.slice none 0 0) (.slice none 0 0) (.slice none 0 0) (.slice none 0 0) (.slice none 0 0)⟩, ⟨some ⟨b1, 0, none⟩, 1, 1, 61, 8, vecCells v.kind wv nv sm il fl ch bx⟩] w') (fun u => at_.length - u.1) (0, nn, (ab, cb)) ⟨rfl, rfl, rfl, rfl, rfl, rfl, rfl, rfl, rfl, rfl, rfl, rfl, rfl, trivial⟩ ⟨by omega, by dsimp only; omega, by simp only [List.take_zero, List.flatMap_nil, List.append_nil]; exact hs⟩ ?_
    rintro ⟨j, nj, ⟨aj, cj⟩⟩ w6 ⟨hj, hnj, hs⟩
    dsimp only at hj hnj hs ⊢
    by_cases hlj : j < at_.length
    · have hji : j * inner + inner ≤ at_.length * inner := by
        have := Nat.mul_le_mul_right inner (show j + 1 ≤ at_.length by omega)
        rw [Nat.add_mul, Nat.one_mul] at this
        exact this
      have htk : (at_.take (j + 1)).flatMap (fun i => (List.range inner).map fun k => alongI n inner o i k) = (at_.take j).flatMap (fun i => (List.range inner).map fun k => alongI n inner o i k) ++ (List.range inner).map fun k => alongI n inner o (at_.getD j 0) k := by
        rw [take_succ_getD at_ j 0 hlj, List.flatMap_append]
        simp
      refine Zerun ?_
      obtain ⟨x, hxe⟩ : ∃ x, at_.getD j 0 = x := ⟨_, rfl⟩
      rw [hxe] at htk ⊢
      refine CW.loop (fun u : Nat × Nat × (Option Addr × Nat) => [(1, .int .i64 outer), (2, .int .i64 n), (3, .int .i64 inner), (4, .slice ad at_.length cp), (5, .pointer (some ⟨b1, 0, none⟩)), (10, .pointer (some ⟨b2, 0, none⟩)), (11, .slice u.2.2.1 u.2.1 u.2.2.2), (12, .int .i64 o), (14, .int .i64 x), (34, .int .i64 outer), (35, .int .i64 o), (38, .slice ad at_.length cp), (39, .int .i64 at_.length), (40, .int .i64 j), (44, .int .i64 inner), (45, .int .i64 u.1)]) (fun u w' => u.1 ≤ inner ∧ u.2.1 = o * (at_.length * inner) + j * inner + u.1 ∧ Sees w h h [⟨u.2.2.1, u.2.1, u.2.2.2, 3, 1, (alongL o n inner at_ ++ (at_.take j).flatMap (fun i => (List.range inner).map fun k => alongI n inner o i k) ++ (List.range u.1).map (fun k => alongI n inner o x k)).map (Value.int .i64)⟩, ⟨some ⟨b2, 0, none⟩, 1, 1, 61, 8, vecCells 0 (.slice none 0 0) 0 (.slice none 0 0) (.slice none 0 0) (.slice none 0 0) (.slice none 0 0) (.slice none 0 0)⟩, ⟨some ⟨b1, 0, none⟩, 1, 1, 61, 8, vecCells v.kind wv nv sm il fl ch bx⟩] w') (fun u => inner - u.1) (0, nj, (aj, cj)) ⟨rfl, rfl, rfl, rfl, rfl, rfl, rfl, rfl, rfl, rfl, rfl, rfl, rfl, rfl, rfl, rfl, trivial⟩ ⟨by omega, hnj, by simp only [List.range_zero, List.map_nil, List.append_nil]; exact hs⟩ ?_
      rintro ⟨m, nm, ⟨am, cm⟩⟩ w7 ⟨hmm, hnm, hs⟩
      dsimp only at hmm hnm hs ⊢
      by_cases hlm2 : m < inner
      · have hrs : (List.range (m + 1)).map (fun k => alongI n inner o x k) = (List.range m).map (fun k => alongI n inner o x k) ++ [alongI n inner o x m] := by
          rw [List.range_succ, List.map_append]; rfl
        by_cases c1 : x < 0 ∨ (n : Int) ≤ x
        · have hv : alongI n inner o x m = -1 := by unfold alongI; rw [if_neg (by omega)]
          by_cases c2 : x < 0
          · refine Zerun ?_
            (refine RW.lit T hs (vs := [.int .i64 (-1)]) (cs := [.int .i64 (-1)]) rfl rfl rfl rfl (by simp [Value.cells]) rfl rfl rfl rfl rfl ?_; intro b8 w8 hs)
            (refine RW.append T hs 1 rfl rfl (m := 1) (news := [.int .i64 (-1)]) rfl rfl rfl rfl rfl rfl (hs.src0 rfl (by simp [Value.oneCell'])) (by simp) (by dsimp only; omega) (by omega) ?_; intro ad9 cp9 w9 hs; replace hs := hs.drop)
            refine Zerun ?_
            refine loopQ_round (m + 1, nm + 1, (ad9, cp9)) ⟨rfl, rfl, rfl, rfl, rfl, rfl, rfl, rfl, rfl, rfl, rfl, rfl, rfl, rfl, rfl, rfl, trivial⟩ ⟨by dsimp only; omega, by dsimp only; omega, ?_⟩ (by dsimp only; omega)
            dsimp only
            rw [hrs, hv, ← List.append_assoc, List.map_append]
            exact hs
          · have c3 : (n : Int) ≤ x := by omega
            refine Zerun ?_
            (refine RW.lit T hs (vs := [.int .i64 (-1)]) (cs := [.int .i64 (-1)]) rfl rfl rfl rfl (by simp [Value.cells]) rfl rfl rfl rfl rfl ?_; intro b8 w8 hs)
            (refine RW.append T hs 1 rfl rfl (m := 1) (news := [.int .i64 (-1)]) rfl rfl rfl rfl rfl rfl (hs.src0 rfl (by simp [Value.oneCell'])) (by simp) (by dsimp only; omega) (by omega) ?_; intro ad9 cp9 w9 hs; replace hs := hs.drop)
            refine Zerun ?_
            refine loopQ_round (m + 1, nm + 1, (ad9, cp9)) ⟨rfl, rfl, rfl, rfl, rfl, rfl, rfl, rfl, rfl, rfl, rfl, rfl, rfl, rfl, rfl, rfl, trivial⟩ ⟨by dsimp only; omega, by dsimp only; omega, ?_⟩ (by dsimp only; omega)
            dsimp only
            rw [hrs, hv, ← List.append_assoc, List.map_append]
            exact hs
        · have hx0 : 0 ≤ x ∧ x < n := by omega
          have hv : alongI n inner o x m = (((o * n + x.toNat) * inner + m : Nat) : Int) := by unfold alongI; rw [if_pos hx0]
          have hox : o * n + x.toNat < outer * n := by
            have := Nat.mul_le_mul_right n (show o + 1 ≤ outer by omega)
            rw [Nat.add_mul, Nat.one_mul] at this
            omega
          have hoxi : (o * n + x.toNat) * inner + m < outer * n * inner := by
            have := Nat.mul_le_mul_right inner (show o * n + x.toNat + 1 ≤ outer * n by omega)
            rw [Nat.add_mul, Nat.one_mul] at this
            omega
          refine Zerun ?_
          refine RW.val (Y.mul rfl rfl ?_) rfl ?_
          · rw [hlm]; omega
          rw [hlm]
          refine Zerun ?_
          rw [show ((o * n : Nat) : Int) + x = ((o * n + x.toNat : Nat) : Int) by omega]
          refine RW.val (Y.mul rfl rfl ?_) rfl ?_
          · rw [hlm]; omega
          rw [hlm]
          refine Zerun ?_
          (refine RW.lit T hs (vs := [.int .i64 ((((o * n + x.toNat) * inner : Nat) : Int) + m)]) (cs := [.int .i64 ((((o * n + x.toNat) * inner : Nat) : Int) + m)]) rfl rfl rfl rfl (by simp [Value.cells]) rfl rfl rfl rfl rfl ?_; intro b8 w8 hs)
          (refine RW.append T hs 1 rfl rfl (m := 1) (news := [.int .i64 ((((o * n + x.toNat) * inner : Nat) : Int) + m)]) rfl rfl rfl rfl rfl rfl (hs.src0 rfl (by simp [Value.oneCell'])) (by simp) (by dsimp only; omega) (by omega) ?_; intro ad9 cp9 w9 hs; replace hs := hs.drop)
          refine Zerun ?_
          refine loopQ_round (m + 1, nm + 1, (ad9, cp9)) ⟨rfl, rfl, rfl, rfl, rfl, rfl, rfl, rfl, rfl, rfl, rfl, rfl, rfl, rfl, rfl, rfl, trivial⟩ ⟨by dsimp only; omega, by dsimp only; omega, ?_⟩ (by dsimp only; omega)
          dsimp only
          rw [hrs, hv, ← List.append_assoc, List.map_append]
          exact hs
      obtain rfl : m = inner := by omega
      rw [List.append_assoc, ← htk] at hs
      refine Zerun ?_
      refine loopQ_round (j + 1, nm, (am, cm)) ⟨rfl, rfl, rfl, rfl, rfl, rfl, rfl, rfl, rfl, rfl, rfl, rfl, rfl, trivial⟩ ⟨by dsimp only; omega, ?_, hs⟩ (by dsimp only; omega)
      dsimp only
      rw [Nat.add_mul, Nat.one_mul]
      omega
    obtain rfl : j = at_.length := by omega
    have hsn : alongL (o + 1) n inner at_ = alongL o n inner at_ ++ at_.flatMap (fun i => (List.range inner).map fun k => alongI n inner o i k) := by
      unfold alongL
      rw [List.range_succ, List.flatMap_append]
      simp
    rw [List.take_length, ← hsn] at hs
    refine Zerun ?_
    refine loopQ_round (o + 1, nj, (aj, cj)) ⟨rfl, rfl, rfl, rfl, rfl, rfl, rfl, rfl, rfl, trivial⟩ ⟨by dsimp only; omega, ?_, hs⟩ (by dsimp only; omega)
    dsimp only
    rw [alongL_len, Nat.add_mul, Nat.one_mul]
    omega
  obtain rfl : o = outer := by omega
  obtain ⟨h6, hle6, hs, hS6⟩ := hs.freeze
  have hI6 : IntsAt h6 (.slice ab nn cb) (alongL o n inner at_) := IntsAt.of_sl hS6
  have hv' := hv'.mono hR hle6
  refine Zerun ?_
  (refine RW.call T hs rfl rfl rfl (flatPick_con hR h1 h9 nb hbl _ _ _ (alongL o n inner at_) _ _ hv' hI6 (by omega) hvm hk0) ?_; intro v h11 w11 hle11 hp11 hs)
  obtain ⟨cs11, rfl, hv11⟩ := hp11
  obtain ⟨wv6, nv6, sm6, il6, fl6, ch6, bx6, ⟨rfl, hoc6⟩, _⟩ := id hv11
  (refine RW.storeAll T hs 0 rfl rfl rfl rfl rfl rfl hoc6 rfl ?_; intro w12 hs)
  refine Zerun ?_
  exact retQ_ret [_] h11 ⟨resN T hs 0 rfl rfl rfl rfl rfl rfl, trivial⟩ hs.dropAll ⟨_, rfl, hv11⟩
end
end Go.Proofs.Ythbfkhklihejiaa

/-
  Contracts of functions of package shape and of its reference, third part: places and indexes. No statement is proved here.
-/
namespace Go.Proofs.Ythbfkhklihejiaa
open Go Go.RowKit
set_option linter.unusedVariables false
set_option linter.unusedSimpArgs false
set_option maxHeartbeats 4000000
attribute [local irreducible] CW RW QW SW HW ConM retM heldQ calmQ elemP thenQ blockQ loopQ joinQ retQ Yields Con Sl

theorem at_con (s t : Value) (l m : List Int) (w : World) (h : GHeap) (hl : IntsAt h s l) (ht : IntsAt h t m) (hm : l.length ≤ 9223372036854775807) : Con Try.prog 27 [s, t] w h
    (fun _ v => v = .tuple #[.int .i64 (atSpec l m).1, .bool (atSpec l m).2]) := by
  have hl' := hl
  obtain ⟨ad, cp, rfl, hS⟩ := hl
  obtain ⟨ad2, cp2, rfl, hS2⟩ := ht
  refine Con.of_body Try.func27 rfl Try.ntmps27 rfl rfl ?_
  intro hs
  refine Zrun ?_
  (refine RW.call T hs rfl rfl rfl (good_con _ l _ _ hl' hm) ?_; intro v h1 w1 hle1 hp1 hs)
  subst hp1
  have hS := hS.mono hle1
  have hS2 := hS2.mono hle1
  refine Zrun ?_
  refine RW.gd rfl rfl (fun hg => ?_) (fun hg => ?_)
  · refine Zrun ?_
    exact retQ_ret [_, _] h1 ⟨rfl, rfl, trivial⟩ hs (by simp [packv, at_bad l m hg])
  have hg := Decidable.of_not_not hg
  refine Zrun ?_
  refine CW.condD rfl (fun h8 => ?_) (fun h8 => ?_)
  · refine Zrun ?_
    exact retQ_ret [_, _] h1 ⟨rfl, rfl, trivial⟩ hs (by simp [packv, at_len l m (by omega)])
  have hlen : l.length = m.length := by omega
  refine Zrun ?_
  refine CW.loop (fun k : Nat => [(0, .slice ad l.length cp), (1, .slice ad2 m.length cp2), (6, .int .i64 (off (l.take k) (m.take k))), (19, .slice ad l.length cp), (20, .int .i64 l.length), (21, .int .i64 k)]) (fun k w' => k ≤ l.length ∧ (∀ j, j < k → 0 ≤ m.getD j 0 ∧ m.getD j 0 < l.getD j 0) ∧ Sees w h h1 [] w') (fun k => l.length - k) 0 ⟨rfl, rfl, by simp [off]; rfl, rfl, rfl, rfl, trivial⟩ ⟨by omega, by omega, hs⟩ ?_
  rintro k w' ⟨hk, hno, hs⟩
  have hob := off_take_bound l m k hg hk hlen hno
  by_cases hlt : k < l.length
  · have hgd := good_getD l hg k hlt
    have hsn := off_take_succ l m k hlen hlt
    have hmb := mul_bound ⟨hob.1, by omega⟩ hgd
    refine Zrun ?_
    refine RW.gd rfl rfl (fun h2 => ?_) (fun h2 => ?_)
    · refine Zrun ?_
      exact retQ_ret [_, _] h1 ⟨rfl, rfl, trivial⟩ hs (by simp [packv, at_out l m k hlt (by omega)])
    · refine Zrun ?_
      refine CW.condD rfl (fun h3 => ?_) (fun h3 => ?_)
      · refine Zrun ?_
        exact retQ_ret [_, _] h1 ⟨rfl, rfl, trivial⟩ hs (by simp [packv, at_out l m k hlt (by omega)])
      · refine Zrun ?_
        refine RW.val (Y.mul rfl rfl ⟨by omega, by omega⟩) rfl ?_
        refine Zrun ?_
        refine loopQ_round (k + 1) ⟨rfl, rfl, by rw [hsn]; rfl, rfl, rfl, rfl, trivial⟩ ⟨by omega, ?_, hs⟩ (by omega)
        intro j hj
        by_cases e : j = k
        · subst e; omega
        · exact hno j (by omega)
  obtain rfl : k = l.length := by omega
  refine Zrun ?_
  refine retQ_ret [_, _] h1 ⟨rfl, rfl, trivial⟩ hs ?_
  rw [List.take_of_length_le (Nat.le_refl _), List.take_of_length_le (by omega)]
  simp [packv, at_in l m hg hlen hno]

theorem place_con (s t : Value) (l m : List Int) (w : World) (h : GHeap) (hl : IntsAt h s l) (ht : IntsAt h t m) (hm : l.length ≤ 9223372036854775807) : Con Try.prog 28 [s, t] w h
    (fun _ v => v = .int .i64 (if (atSpec l m).2 = true then (atSpec l m).1 else -1)) := by
  have hl' := hl
  obtain ⟨ad, cp, rfl, hS⟩ := hl
  obtain ⟨ad2, cp2, rfl, hS2⟩ := ht
  refine Con.of_body Try.func28 rfl Try.ntmps28 rfl rfl ?_
  intro hs
  refine Zrun ?_
  (refine RW.call T hs rfl rfl rfl (refGood_con _ l _ _ hl' hm) ?_; intro v h1 w1 hle1 hp1 hs)
  subst hp1
  have hS := hS.mono hle1
  have hS2 := hS2.mono hle1
  refine Zrun ?_
  refine RW.gd rfl rfl (fun hg => ?_) (fun hg => ?_)
  · refine Zrun ?_
    exact retQ_ret [_] h1 ⟨rfl, trivial⟩ hs (by simp [packv, at_bad l m hg])
  have hg := Decidable.of_not_not hg
  refine Zrun ?_
  refine CW.condD rfl (fun h8 => ?_) (fun h8 => ?_)
  · refine Zrun ?_
    exact retQ_ret [_] h1 ⟨rfl, trivial⟩ hs (by simp [packv, at_len l m (by omega)])
  have hlen : l.length = m.length := by omega
  refine Zrun ?_
  refine CW.loop (fun k : Nat => [(0, .slice ad l.length cp), (1, .slice ad2 m.length cp2), (5, .int .i64 (off (l.drop k) (m.drop k))), (6, .int .i64 (prn (l.drop k))), (7, .int .i64 ((k : Int) - 1))]) (fun k w' => k ≤ l.length ∧ (∀ j, k ≤ j → j < l.length → 0 ≤ m.getD j 0 ∧ m.getD j 0 < l.getD j 0) ∧ Sees w h h1 [] w') (fun k => k) l.length ⟨rfl, rfl, by simp [off]; rfl, by simp [prn]; rfl, rfl, trivial⟩ ⟨by omega, by omega, hs⟩ ?_
  rintro k w' ⟨hk, hno, hs⟩
  have hob := off_drop_bound l m k hg hlen hno
  rcases k with _ | k
  · refine Zrun ?_
    refine retQ_ret [_] h1 ⟨rfl, trivial⟩ hs ?_
    simp [packv, at_in l m hg hlen (fun j hj => hno j (by omega) hj)]
  · have e1 : ((k + 1 : Nat) : Int) - 1 = (k : Int) := by omega
    rw [e1]
    have hgd := good_getD l hg k (by omega)
    refine Zrun ?_
    refine CW.regionQ T hs (Zqrun ?_) (by kernel_rfl)
    refine QW.gd rfl rfl (fun h2 => ?_) (fun h2 => ?_)
    · repeat
        first | with_reducible refine QW.nil ?_ | refine Qz ?_ rfl | refine QW.guardYes rfl rfl ?_ | refine QW.guardNo rfl rfl rfl rfl ?_ | refine QW.guardUndef rfl rfl rfl ?_ | (refine QW.gdY rfl rfl ?_ ?_; omega) | (refine QW.gdN rfl rfl ?_ ?_; omega)
      intro w' hs
      refine Zrun ?_
      exact retQ_ret [_] h1 ⟨rfl, trivial⟩ hs (by simp [packv, at_out l m k (by omega) (by omega)])
    · repeat
        first | with_reducible refine QW.nil ?_ | refine Qz ?_ rfl | refine QW.guardYes rfl rfl ?_ | refine QW.guardNo rfl rfl rfl rfl ?_ | refine QW.guardUndef rfl rfl rfl ?_ | (refine QW.gdY rfl rfl ?_ ?_; omega) | (refine QW.gdN rfl rfl ?_ ?_; omega)
      intro w' hs
      refine Zrun ?_
      refine CW.condD rfl (fun h3 => ?_) (fun h3 => ?_)
      · refine Zrun ?_
        exact retQ_ret [_] h1 ⟨rfl, trivial⟩ hs (by simp [packv, at_out l m k (by omega) (by omega)])
      · have hmb := mul_bound (a := prn (l.drop (k + 1))) (b := m.getD k 0) (by omega) (by omega)
        have hmb2 := mul_bound (a := prn (l.drop (k + 1))) (b := l.getD k 0) (by omega) (by omega)
        refine Zrun ?_
        refine RW.val (Y.mul rfl rfl ⟨by omega, by omega⟩) rfl ?_
        refine Zrun ?_
        refine RW.val (Y.mul rfl rfl ⟨by omega, by omega⟩) rfl ?_
        refine Zrun ?_
        refine loopQ_round k ⟨rfl, rfl, seti (by rw [off_drop l m k hlen (by omega), Int.mul_comm, Int.add_comm]), seti (by rw [prn_drop l k (by omega), Int.mul_comm]), rfl, trivial⟩ ⟨by omega, ?_, hs⟩ (by omega)
        intro j hj hj2
        by_cases e : j = k
        · subst e; omega
        · exact hno j (by omega) hj2
end Go.Proofs.Ythbfkhklihejiaa

/-
  Contracts of functions of package shape and of its reference, fourth part: new shapes. No statement is proved here.
-/
namespace Go.Proofs.Ythbfkhklihejiaa
open Go Go.RowKit
set_option linter.unusedVariables false
set_option linter.unusedSimpArgs false
set_option maxHeartbeats 4000000
attribute [local irreducible] CW RW QW SW HW ConM retM heldQ calmQ elemP thenQ blockQ loopQ joinQ retQ Yields Con Sl

/-- a clone of a slice of int: the caller's own -/
theorem cloneInt_conM (ad : Option Addr) (cp : Nat) (l : List Int) (w0 w : World) (h0 h : GHeap) (O : List Row) (hS : Sl h 1 ad l.length cp (l.map (Value.int .i64))) (hm : l.length ≤ 17592186044416) :
    ConM Try.prog 112 [.slice ad l.length cp] w0 h0 h O w (fun h' O' v => h' = h ∧ ∃ ad' cp', v = .slice ad' l.length cp' ∧ O' = ⟨ad', l.length, cp', 3, 1, l.map (Value.int .i64)⟩ :: O) := by
  refine ConM.of_body Try.func112 rfl Try.ntmps112 rfl rfl ?_
  intro hs
  refine Zrun ?_
  refine RW.val (Y.sliceNil T rfl rfl rfl) rfl ?_
  refine Zrun ?_
  cases ad with
  | none =>
    have h4 : l = [] := List.eq_nil_of_length_eq_zero hS.nil0.1
    subst h4
    refine Zrun ?_
    exact retM_ret [_] h _ ⟨rfl, trivial⟩ (GLe.refl _) (hs.nilRow 3 1) ⟨rfl, none, 0, rfl, rfl⟩
  | some p =>
    refine Zrun ?_
    (refine RW.lit T hs (vs := []) rfl rfl rfl rfl (by simp [Value.cells]) rfl rfl rfl rfl rfl ?_; intro b1 w1 hs)
    refine Zrun ?_
    refine RW.append T hs 0 rfl rfl (m := l.length) (news := l.map (Value.int .i64)) rfl rfl rfl rfl rfl rfl (hS.src hs.agree (one_ints _ _)) (by simp) (by dsimp only; omega) (by omega) ?_
    intro ad' cp' w2 hs
    refine Zrun ?_
    exact retM_ret [_] h _ ⟨rfl, trivial⟩ (GLe.refl _) hs ⟨rfl, ad', cp', by rw [Nat.zero_add]; rfl, by simp⟩

theorem equalInt_con (s t : Value) (l m : List Int) (w : World) (h : GHeap) (hl : IntsAt h s l) (ht : IntsAt h t m) (hm : l.length ≤ 9223372036854775807) : Con Try.prog 114 [s, t] w h (fun _ v => v = .bool (decide (l = m))) := by
  obtain ⟨ad, cp, rfl, hS⟩ := hl
  obtain ⟨ad2, cp2, rfl, hS2⟩ := ht
  refine Con.of_body Try.func114 rfl Try.ntmps114 rfl rfl ?_
  intro hs
  refine Zrun ?_
  refine CW.condD rfl (fun h8 => ?_) (fun h8 => ?_)
  · refine Zrun ?_
    refine retQ_ret [_] h ⟨rfl, trivial⟩ hs ?_
    have : l ≠ m := fun e => h8 (by rw [e])
    simp [packv, this]
  have hlen : l.length = m.length := by omega
  refine Zrun ?_
  refine CW.loop (fun k : Nat => [(0, .slice ad l.length cp), (1, .slice ad2 m.length cp2), (12, .int .i64 l.length), (13, .int .i64 k)]) (fun k w' => k ≤ l.length ∧ (∀ j, j < k → l.getD j 0 = m.getD j 0) ∧ Sees w h h [] w') (fun k => l.length - k) 0 ⟨rfl, rfl, rfl, rfl, trivial⟩ ⟨by omega, by omega, hs⟩ ?_
  rintro k w' ⟨hk, hno, hs⟩
  by_cases hlt : k < l.length
  · refine Zrun ?_
    refine CW.regionQ T hs (Zqrun ?_) (by kernel_rfl)
    intro w' hs
    refine Zrun ?_
    refine CW.condD rfl (fun h2 => ?_) (fun h2 => ?_)
    · refine Zrun ?_
      refine retQ_ret [_] h ⟨rfl, trivial⟩ hs ?_
      have : l ≠ m := fun e => h2 (by rw [e])
      simp [packv, this]
    · refine Zrun ?_
      refine loopQ_round (k + 1) ⟨rfl, rfl, rfl, rfl, trivial⟩ ⟨by omega, ?_, hs⟩ (by omega)
      intro j hj
      by_cases e : j = k
      · subst e; exact Decidable.of_not_not h2
      · exact hno j (by omega)
  obtain rfl : k = l.length := by omega
  refine Zrun ?_
  refine retQ_ret [_] h ⟨rfl, trivial⟩ hs ?_
  have : l = m := by
    apply List.ext_getElem hlen
    intro j h1 h2
    have := hno j h1
    simpa [List.getD_eq_getElem?_getD, h1, h2] using this
  simp [packv, this]

theorem same_con (s t : Value) (l m : List Int) (w : World) (h : GHeap) (hl : IntsAt h s l) (ht : IntsAt h t m) (hm : l.length ≤ 9223372036854775807) : Con Try.prog 37 [s, t] w h (fun _ v => v = .bool (decide (l = m))) := by
  refine Con.of_body Try.func37 rfl Try.ntmps37 rfl rfl ?_
  intro hs
  refine Zrun ?_
  (refine RW.call T hs rfl rfl rfl (equalInt_con s t l m _ _ hl ht hm) ?_; intro v h1 w1 hle1 hp1 hs)
  subst hp1
  refine Zrun ?_
  exact retQ_ret [_] h1 ⟨rfl, trivial⟩ hs rfl

/-- the indexes of a place: made -/
theorem index_con (s : Value) (l : List Int) (a : Int) (w : World) (h : GHeap) (hl : IntsAt h s l) (hm : l.length ≤ 9223372036854775807) : Con Try.prog 29 [s, .int .i64 a] w h
    (fun h' v => ∃ u, v = .tuple #[u, .bool (indexSpec l a).2] ∧ IntsAt h' u (indexSpec l a).1) := by
  have hl' := hl
  obtain ⟨ad, cp, rfl, hS⟩ := hl
  refine Con.of_body Try.func29 rfl Try.ntmps29 rfl rfl ?_
  intro hs
  refine Zrun ?_
  (refine RW.call T hs rfl rfl rfl (product_con _ l 1048576 _ _ hl' hm) ?_; intro v h1 w1 hle1 hp1 hs)
  subst hp1
  have hS := hS.mono hle1
  have bad : ¬ (goodS l = true ∧ 0 ≤ a ∧ a < (product l 1048576).1) → indexSpec l a = ([], false) := fun hn => by unfold indexSpec; rw [if_neg hn]
  refine Zrun ?_
  refine RW.gd rfl rfl (fun hg => ?_) (fun hg => ?_)
  · have hb := bad (fun e => hg ((goodS_iff l).1 e.1))
    refine Zrun ?_
    exact retQ_ret [_, _] h1 ⟨rfl, rfl, trivial⟩ hs (by rw [hb]; exact ⟨_, rfl, IntsAt.nil _⟩)
  have hg := Decidable.of_not_not hg
  refine Zrun ?_
  refine RW.gd rfl rfl (fun h2 => ?_) (fun h2 => ?_)
  · have hb := bad (fun e => by omega)
    refine Zrun ?_
    exact retQ_ret [_, _] h1 ⟨rfl, rfl, trivial⟩ hs (by rw [hb]; exact ⟨_, rfl, IntsAt.nil _⟩)
  refine Zrun ?_
  refine CW.condD rfl (fun h3 => ?_) (fun h3 => ?_)
  · have hb := bad (fun e => by omega)
    refine Zrun ?_
    exact retQ_ret [_, _] h1 ⟨rfl, rfl, trivial⟩ hs (by rw [hb]; exact ⟨_, rfl, IntsAt.nil _⟩)
  have hin : indexSpec l a = (idxOf l a, true) := by
    unfold indexSpec; rw [if_pos ⟨(goodS_iff l).2 hg, by omega, by omega⟩]
  obtain ⟨hpos, hprod⟩ := idx_pos l a ((goodS_iff l).2 hg) ⟨by omega, by omega⟩
  have hgs := (goodS_spec l).1 ((goodS_iff l).2 hg)
  have ha1 : a < 1048576 := by omega
  have ha0 : 0 ≤ a := by omega
  clear bad h2 h3
  refine Zrun ?_
  (refine RW.make T hs rfl rfl rfl rfl rfl ?_ ?_ ?_ ?_ ?_; omega; omega; (dsimp only; omega); omega; intro b2 w2 hs)
  refine Zrun ?_
  refine CW.loop (fun k : Nat => [(0, .slice ad l.length cp), (1, .int .i64 (a / prn (l.drop k))), (8, .slice (some ⟨b2, 0, none⟩) l.length l.length), (9, .int .i64 ((k : Int) - 1))]) (fun k w' => k ≤ l.length ∧ Sees w h h1 [⟨some ⟨b2, 0, none⟩, l.length, l.length, 3, 1, (List.replicate k 0 ++ (idxOf l a).drop k).map (Value.int .i64)⟩] w') (fun k => k) l.length ⟨rfl, seti (by simp [prn]), rfl, rfl, trivial⟩ ⟨by omega, hs.cast (by
    simp only [Int.toNat_natCast]
    rw [List.drop_of_length_le (by rw [length_idxOf]; omega), List.append_nil, List.map_replicate]
    exact congrArg (fun z => [Row.mk (some ⟨b2, 0, none⟩) l.length l.length 3 1 z]) (made_one _ _))⟩ ?_
  rintro k w' ⟨hk, hs⟩
  rcases k with _ | k
  · refine Zrun ?_
    obtain ⟨h3, hle3, hs3, hS3⟩ := hs.freeze
    simp only [List.replicate_zero, List.nil_append, List.drop_zero] at hS3
    exact retQ_ret [_, _] h3 ⟨rfl, rfl, trivial⟩ hs3 (by rw [hin]; exact ⟨_, rfl, IntsAt.of_sl hS3⟩)
  · have e1 : ((k + 1 : Nat) : Int) - 1 = (k : Int) := by omega
    rw [e1]
    have hd := hpos (l.getD k 0) (by simp [List.getD_eq_getElem?_getD, show k < l.length by omega])
    have hpd := prn_pos (l.drop (k + 1)) (fun x hx => hpos x (List.mem_of_mem_drop hx))
    have hq0 : 0 ≤ a / prn (l.drop (k + 1)) := Int.ediv_nonneg ha0 (by omega)
    have hq1 : a / prn (l.drop (k + 1)) ≤ a := Int.ediv_le_self _ ha0
    refine Zrun ?_
    refine RW.val (Y.idxRN T hs 0 rfl rfl rfl rfl rfl rfl ?_) rfl ?_
    · omega
    refine RW.st1 T hs 0 rfl rfl rfl rfl rfl rfl rfl (by omega) ?_
    intro w2 hs
    refine Zrun ?_
    refine loopQ_round k ⟨rfl, seti (by rw [prn_drop l k (by omega), Int.mul_comm, Int.ediv_ediv_of_nonneg (by omega)]), rfl, rfl, trivial⟩ ⟨by omega, hs.cast ?_⟩ (by omega)
    rw [map_set_int]
    refine congrArg (fun (z : List Int) => [Row.mk (some ⟨b2, 0, none⟩) l.length l.length 3 1 (z.map (Value.int .i64))]) ?_
    rw [List.replicate_succ', List.append_assoc, List.set_append_right _ _ (by simp)]
    simp only [List.length_replicate, Nat.sub_self]
    rw [drop_pred (idxOf l a) k (by rw [length_idxOf]; omega), getD_idxOf l a k (by omega)]
    simp
end Go.Proofs.Ythbfkhklihejiaa

/-
  Contracts of functions of package shape and of its reference, fifth part. No statement is proved here.
-/
namespace Go.Proofs.Ythbfkhklihejiaa
open Go Go.RowKit
set_option linter.unusedVariables false
set_option linter.unusedSimpArgs false
set_option maxHeartbeats 4000000
attribute [local irreducible] CW RW QW SW HW ConM retM heldQ calmQ elemP thenQ blockQ loopQ joinQ retQ Yields Con Sl

theorem strides_con (s : Value) (l : List Int) (w : World) (h : GHeap) (hl : IntsAt h s l) (hm : l.length ≤ 9223372036854775807) : Con Try.prog 30 [s] w h
    (fun h' v => IntsAt h' v (if goodS l = true then stridesOf l else [])) := by
  have hl' := hl
  obtain ⟨ad, cp, rfl, hS⟩ := hl
  refine Con.of_body Try.func30 rfl Try.ntmps30 rfl rfl ?_
  intro hs
  refine Zrun ?_
  (refine RW.call T hs rfl rfl rfl (good_con _ l _ _ hl' hm) ?_; intro v h1 w1 hle1 hp1 hs)
  subst hp1
  have hS := hS.mono hle1
  refine Zrun ?_
  refine CW.condD rfl (fun hg => ?_) (fun hg => ?_)
  · refine Zrun ?_
    exact retQ_ret [_] h1 ⟨rfl, trivial⟩ hs (by rw [if_neg (fun e => hg ((goodS_iff l).1 e))]; exact IntsAt.nil _)
  have hg := Decidable.of_not_not hg
  have hgs := (goodS_spec l).1 ((goodS_iff l).2 hg)
  refine Zrun ?_
  (refine RW.make T hs rfl rfl rfl rfl rfl ?_ ?_ ?_ ?_ ?_; omega; omega; (dsimp only; omega); omega; intro b2 w2 hs)
  refine Zrun ?_
  refine CW.loop (fun k : Nat => [(0, .slice ad l.length cp), (3, .slice (some ⟨b2, 0, none⟩) l.length l.length), (4, .int .i64 (pr (l.drop k))), (5, .int .i64 ((k : Int) - 1))]) (fun k w' => k ≤ l.length ∧ Sees w h h1 [⟨some ⟨b2, 0, none⟩, l.length, l.length, 3, 1, (List.replicate k 0 ++ (stridesOf l).drop k).map (Value.int .i64)⟩] w') (fun k => k) l.length ⟨rfl, rfl, seti (by simp [pr]), rfl, trivial⟩ ⟨by omega, hs.cast (by
    simp only [Int.toNat_natCast]
    rw [List.drop_of_length_le (by rw [length_stridesOf]; omega), List.append_nil, List.map_replicate]
    exact congrArg (fun z => [Row.mk (some ⟨b2, 0, none⟩) l.length l.length 3 1 z]) (made_one _ _))⟩ ?_
  rintro k w' ⟨hk, hs⟩
  rcases k with _ | k
  · refine Zrun ?_
    obtain ⟨h3, hle3, hs3, hS3⟩ := hs.freeze
    simp only [List.replicate_zero, List.nil_append, List.drop_zero] at hS3
    exact retQ_ret [_] h3 ⟨rfl, trivial⟩ hs3 (by rw [if_pos ((goodS_iff l).2 hg)]; exact IntsAt.of_sl hS3)
  · have e1 : ((k + 1 : Nat) : Int) - 1 = (k : Int) := by omega
    rw [e1]
    have hgd := good_getD l hg k (by omega)
    have hpd := pr_pos (l.drop (k + 1))
    have hple := pr_drop_le l (k + 1)
    have hmb := mul_bound (a := pr (l.drop (k + 1))) (b := max 1 (l.getD k 0)) (by omega) (by omega)
    refine Zrun ?_
    refine RW.val (Y.idxRN T hs 0 rfl rfl rfl rfl rfl rfl ?_) rfl ?_
    · omega
    refine RW.st1 T hs 0 rfl rfl rfl rfl rfl rfl rfl (by omega) ?_
    intro w2 hs
    refine Zrun ?_
    refine RW.val (Y.mul rfl rfl ⟨by omega, by omega⟩) rfl ?_
    refine Zrun ?_
    refine loopQ_round k ⟨rfl, rfl, seti (by rw [pr_drop l k (by omega), Int.mul_comm]), rfl, trivial⟩ ⟨by omega, hs.cast ?_⟩ (by omega)
    rw [map_set_int]
    refine congrArg (fun (z : List Int) => [Row.mk (some ⟨b2, 0, none⟩) l.length l.length 3 1 (z.map (Value.int .i64))]) ?_
    rw [List.replicate_succ', List.append_assoc, List.set_append_right _ _ (by simp)]
    simp only [List.length_replicate, Nat.sub_self]
    rw [drop_pred (stridesOf l) k (by rw [length_stridesOf]; omega), getD_stridesOf l k (by omega)]
    simp

theorem next_con (s t : Value) (l m : List Int) (w : World) (h : GHeap) (hl : IntsAt h s l) (ht : IntsAt h t m) (hm : l.length ≤ 9223372036854775807) : Con Try.prog 32 [s, t] w h
    (fun h' v => ∃ u, v = .tuple #[u, .bool (if (atSpec l m).2 = true then (indexSpec l ((atSpec l m).1 + 1)).2 else false)] ∧ IntsAt h' u (if (atSpec l m).2 = true then (indexSpec l ((atSpec l m).1 + 1)).1 else [])) := by
  refine Con.of_body Try.func32 rfl Try.ntmps32 rfl rfl ?_
  intro hs
  refine Zrun ?_
  (refine RW.call T hs rfl rfl rfl (at_con s t l m _ _ hl ht hm) ?_; intro v h1 w1 hle1 hp1 hs)
  subst hp1
  have hl := hl.mono hle1
  have hb : 0 ≤ (atSpec l m).1 ∧ (atSpec l m).1 < 1048576 := by
    unfold atSpec
    split
    · rename_i hc
      have h1 := off_bound l m hc.2
      have h2 := prn_eq_pr l (inR_pos _ _ hc.2)
      have h3 := ((goodS_spec l).1 hc.1).2.2
      simp only; omega
    · simp
  generalize atSpec l m = r at hb ⊢
  refine Zrun ?_
  refine CW.cond rfl (fun h2 => ?_) (fun h2 => ?_)
  · have h2 : r.2 = false := by simpa using h2
    refine Zrun ?_
    exact retQ_ret [_, _] h1 ⟨rfl, rfl, trivial⟩ hs ⟨.slice none 0 0, by simp [packv, h2], by rw [if_neg (by rw [h2]; simp)]; exact IntsAt.nil _⟩
  · have h2 : r.2 = true := by simpa using h2
    refine Zrun ?_
    (refine RW.call T hs rfl rfl rfl (index_con s l _ _ _ hl hm) ?_; intro v h3 w3 hle3 hp3 hs)
    obtain ⟨u, rfl, hu⟩ := hp3
    refine Zrun ?_
    exact retQ_ret [_, _] h3 ⟨rfl, rfl, trivial⟩ hs ⟨u, by simp [packv, h2], by rw [if_pos h2]; exact hu⟩

theorem split_con (s : Value) (l : List Int) (axis : Int) (w : World) (h : GHeap) (hl : IntsAt h s l) (hm : l.length ≤ 9223372036854775807) : Con Try.prog 34 [s, .int .i64 axis] w h
    (fun _ v => v = .tuple #[.int .i64 (splitSpec l axis).1, .int .i64 (splitSpec l axis).2.1, .int .i64 (splitSpec l axis).2.2.1, .bool (splitSpec l axis).2.2.2]) := by
  have hl' := hl
  obtain ⟨ad, cp, rfl, hS⟩ := hl
  have bad : ¬ splitOk l axis → splitSpec l axis = (0, 0, 0, false) := fun hn => by unfold splitSpec; rw [if_neg hn]
  refine Con.of_body Try.func34 rfl Try.ntmps34 rfl rfl ?_
  intro hs
  refine Zrun ?_
  (refine RW.call T hs rfl rfl rfl (good_con _ l _ _ hl' hm) ?_; intro v h1 w1 hle1 hp1 hs)
  subst hp1
  have hS := hS.mono hle1
  refine Zrun ?_
  refine RW.gd rfl rfl (fun hg => ?_) (fun hg => ?_)
  · have hb := bad (fun e => hg ((goodS_iff l).1 e.1))
    refine Zrun ?_
    exact retQ_ret [_, _, _, _] h1 ⟨rfl, rfl, rfl, rfl, trivial⟩ hs (by rw [hb]; rfl)
  have hg := Decidable.of_not_not hg
  refine Zrun ?_
  refine RW.gd rfl rfl (fun h2 => ?_) (fun h2 => ?_)
  · have hb := bad (fun e => by have := e.2.1; omega)
    refine Zrun ?_
    exact retQ_ret [_, _, _, _] h1 ⟨rfl, rfl, rfl, rfl, trivial⟩ hs (by rw [hb]; rfl)
  refine Zrun ?_
  refine CW.condD rfl (fun h3 => ?_) (fun h3 => ?_)
  · have hb := bad (fun e => by have := e.2.2.1; omega)
    refine Zrun ?_
    exact retQ_ret [_, _, _, _] h1 ⟨rfl, rfl, rfl, rfl, trivial⟩ hs (by rw [hb]; rfl)
  obtain ⟨q, rfl⟩ := Int.eq_ofNat_of_zero_le (show 0 ≤ axis by omega)
  have hq : q < l.length := by omega
  have hcaps := hS.caps
  refine Zrun ?_
  refine RW.val (Y.sliceHi T rfl rfl rfl rfl ?_) rfl ?_
  · omega
  have hlt : (l.take q).length = q := by simp; omega
  have hT1 : IntsAt h1 (.slice ad q cp) (l.take q) := by
    have := hS.take q (by omega)
    rw [Nat.mul_one, ← List.map_take] at this
    exact IntsAt.of_sl this
  (refine RW.call T hs rfl rfl rfl (product_con _ (l.take q) 1048576 _ _ hT1 (by omega)) ?_; intro v h2 w2 hle2 hp2 hs)
  subst hp2
  have hS := hS.mono hle2
  refine Zrun ?_
  refine RW.val (Y.sliceLo T rfl rfl rfl rfl ?_ ?_) rfl ?_
  · omega
  · omega
  have hT2 : IntsAt h2 (.slice (subAd ad (q + 1) cp 1) (l.length - (q + 1)) (cp - (q + 1))) (l.drop (q + 1)) := by
    have := hS.from (q + 1) (by omega)
    rw [Nat.mul_one, ← List.map_drop] at this
    exact IntsAt.of_sl this
  (refine RW.call T hs rfl rfl rfl (product_con _ (l.drop (q + 1)) 1048576 _ _ hT2 (by simp; omega)) ?_; intro v h4 w4 hle4 hp4 hs)
  subst hp4
  have hS := hS.mono hle4
  refine Zrun ?_
  have hsp : splitSpec l (q : Int) = if (product (l.take q) 1048576).2 = 0 ∧ (product (l.drop (q + 1)) 1048576).2 = 0 then ((product (l.take q) 1048576).1, l.getD q 0, (product (l.drop (q + 1)) 1048576).1, true) else (0, 0, 0, false) := by
    unfold splitSpec splitOk
    simp only [Int.toNat_natCast]
    have e1 : goodS l = true := (goodS_iff l).2 hg
    have e2 : (0 : Int) ≤ (q : Int) := by omega
    have e3 : (q : Int) < (l.length : Int) := by omega
    simp only [e1, e2, e3, true_and]
  refine RW.gd rfl rfl (fun h5 => ?_) (fun h5 => ?_)
  · refine Zrun ?_
    exact retQ_ret [_, _, _, _] h4 ⟨rfl, rfl, rfl, rfl, trivial⟩ hs (by rw [hsp, if_neg (fun e => h5 e.1)]; rfl)
  have h5 := Decidable.of_not_not h5
  refine Zrun ?_
  refine CW.condD rfl (fun h6 => ?_) (fun h6 => ?_)
  · refine Zrun ?_
    exact retQ_ret [_, _, _, _] h4 ⟨rfl, rfl, rfl, rfl, trivial⟩ hs (by rw [hsp, if_neg (fun e => h6 e.2)]; rfl)
  have h6 := Decidable.of_not_not h6
  refine Zrun ?_
  refine CW.regionQ T hs (Zqrun ?_) (by kernel_rfl)
  intro w hs
  refine Zrun ?_
  exact retQ_ret [_, _, _, _] h4 ⟨rfl, rfl, rfl, rfl, trivial⟩ hs (by rw [hsp, if_pos ⟨h5, h6⟩]; rfl)

theorem with_con (s : Value) (l : List Int) (axis n : Int) (w : World) (h : GHeap) (hl : IntsAt h s l) (hm : l.length ≤ 17592186044416) : Con Try.prog 35 [s, .int .i64 axis, .int .i64 n] w h
    (fun h' v => ∃ u, v = .tuple #[u, .bool (withSpec l axis n).2] ∧ IntsAt h' u (withSpec l axis n).1) := by
  have hl' := hl
  obtain ⟨ad, cp, rfl, hS⟩ := hl
  have bad : ¬ (0 ≤ axis ∧ axis < l.length ∧ goodS (l.set axis.toNat n) = true) → withSpec l axis n = ([], false) := fun hn => by unfold withSpec; rw [if_neg hn]
  refine Con.of_body Try.func35 rfl Try.ntmps35 rfl rfl ?_
  intro hs
  refine Zrun ?_
  refine RW.gd rfl rfl (fun h2 => ?_) (fun h2 => ?_)
  · have hb := bad (fun e => by have := e.1; omega)
    refine Zrun ?_
    exact retQ_ret [_, _] h ⟨rfl, rfl, trivial⟩ hs (by rw [hb]; exact ⟨_, rfl, IntsAt.nil _⟩)
  refine Zrun ?_
  refine CW.condD rfl (fun h3 => ?_) (fun h3 => ?_)
  · have hb := bad (fun e => by have := e.2.1; omega)
    refine Zrun ?_
    exact retQ_ret [_, _] h ⟨rfl, rfl, trivial⟩ hs (by rw [hb]; exact ⟨_, rfl, IntsAt.nil _⟩)
  obtain ⟨q, rfl⟩ := Int.eq_ofNat_of_zero_le (show 0 ≤ axis by omega)
  have hq : q < l.length := by omega
  refine Zrun ?_
  (refine RW.callM T hs rfl rfl rfl (cloneInt_conM ad cp l _ _ _ _ _ hS hm) ?_; intro v h1 O1 w1 hle1 hp1 hs)
  obtain ⟨rfl, ad', cp', rfl, rfl⟩ := hp1
  refine Zrun ?_
  refine RW.val (Y.idxRN T hs 0 rfl rfl rfl rfl rfl rfl ?_) rfl ?_
  · omega
  refine RW.st1 T hs 0 rfl rfl rfl rfl rfl rfl rfl (by omega) ?_
  intro w2 hs
  obtain ⟨h3, hle3, hs, hS3⟩ := hs.freeze
  simp only [map_set_int] at hS3
  have hI3 : IntsAt h3 (.slice ad' l.length cp') (l.set q n) := IntsAt.of_sl hS3
  refine Zrun ?_
  (refine RW.call T hs rfl rfl rfl (good_con _ _ _ _ hI3 (by simp; omega)) ?_; intro v h4 w4 hle4 hp4 hs)
  subst hp4
  refine Zrun ?_
  refine CW.condD rfl (fun h5 => ?_) (fun h5 => ?_)
  · have hb := bad (fun e => h5 ((goodS_iff _).1 e.2.2))
    refine Zrun ?_
    exact retQ_ret [_, _] h4 ⟨rfl, rfl, trivial⟩ hs (by rw [hb]; exact ⟨_, rfl, IntsAt.nil _⟩)
  · have h5 := Decidable.of_not_not h5
    refine Zrun ?_
    refine retQ_ret [_, _] h4 ⟨rfl, rfl, trivial⟩ hs ?_
    have hw : withSpec l (q : Int) n = (l.set q n, true) := by
      unfold withSpec
      rw [if_pos ⟨by omega, by omega, (goodS_iff _).2 h5⟩]
      simp
    rw [hw]
    exact ⟨_, rfl, hI3.mono hle4⟩
end Go.Proofs.Ythbfkhklihejiaa

/-
  Contracts of functions of package shape and of its reference, sixth part. No statement is proved here.
-/
namespace Go.Proofs.Ythbfkhklihejiaa
open Go Go.RowKit
set_option linter.unusedVariables false
set_option linter.unusedSimpArgs false
set_option maxHeartbeats 4000000
attribute [local irreducible] CW RW QW SW HW ConM retM heldQ calmQ elemP thenQ blockQ loopQ joinQ retQ Yields Con Sl

/-- an element of a row of the caller's own is taken out, in place -/
theorem deleteInt_conM (ad : Option Addr) (cp i : Nat) (l : List Int) (w0 w : World) (h0 h : GHeap) (O : List Row) (hi : i < l.length) (hm : l.length ≤ 17592186044416) :
    ConM Try.prog 113 [.slice ad l.length cp, .int .i64 i, .int .i64 ((i : Int) + 1)] w0 h0 h (⟨ad, l.length, cp, 3, 1, l.map (Value.int .i64)⟩ :: O) w (fun h' O' v => h' = h ∧ v = .slice ad (l.length - 1) cp ∧ O' = ⟨ad, l.length - 1, cp, 3, 1, (l.eraseIdx i).map (Value.int .i64)⟩ :: O) := by
  refine ConM.of_body Try.func113 rfl Try.ntmps113 rfl rfl ?_
  intro hs
  obtain ⟨b, rfl⟩ := hs.rowAt (k := 0) rfl (by omega)
  have hcap := (hs.rowCap (k := 0) rfl)
  simp only [maxLen] at hcap
  refine Zrun ?_
  refine RW.val (Y.slice3 T rfl rfl rfl rfl rfl rfl ?_) rfl ?_
  · omega
  refine Zrun ?_
  refine CW.regionT T 6 hs ?_ (by kernel_rfl)
  intro w hs
  simp only [List.take_succ_cons, List.take_zero, List.drop_succ_cons, List.drop_zero]
  repeat
    first | with_reducible refine SW.nil ?_ | refine SW.val (Y.move rfl) rfl ?_ | refine SW.val (Y.assign rfl) rfl ?_ | (refine SW.val (Y.add rfl rfl ?_) rfl ?_; omega) | (refine SW.val (Y.sub rfl rfl ?_) rfl ?_; omega) | refine SW.val (Y.len T rfl rfl) rfl ?_ | (refine SW.val (Y.idxSN T rfl rfl (by assumption) rfl rfl rfl ?_) rfl ?_; omega) | (refine SW.val (Y.idxS T rfl rfl (by assumption) rfl rfl rfl ?_) rfl ?_; omega) | (refine SW.val (Y.ldInt T hs rfl (by assumption) rfl rfl ?_) rfl ?_; omega)
  refine SW.val (Y.sliceHi T rfl rfl rfl rfl ?_) rfl ?_
  · omega
  repeat
    first | with_reducible refine SW.nil ?_ | refine SW.val (Y.move rfl) rfl ?_ | refine SW.val (Y.assign rfl) rfl ?_ | (refine SW.val (Y.add rfl rfl ?_) rfl ?_; omega) | (refine SW.val (Y.sub rfl rfl ?_) rfl ?_; omega) | refine SW.val (Y.len T rfl rfl) rfl ?_ | (refine SW.val (Y.idxSN T rfl rfl (by assumption) rfl rfl rfl ?_) rfl ?_; omega) | (refine SW.val (Y.idxS T rfl rfl (by assumption) rfl rfl rfl ?_) rfl ?_; omega) | (refine SW.val (Y.ldInt T hs rfl (by assumption) rfl rfl ?_) rfl ?_; omega)
  refine SW.val (Y.sliceLo T rfl rfl rfl rfl ?_ ?_) rfl ?_
  · omega
  · omega
  repeat
    first | with_reducible refine SW.nil ?_ | refine SW.val (Y.move rfl) rfl ?_ | refine SW.val (Y.assign rfl) rfl ?_ | (refine SW.val (Y.add rfl rfl ?_) rfl ?_; omega) | (refine SW.val (Y.sub rfl rfl ?_) rfl ?_; omega) | refine SW.val (Y.len T rfl rfl) rfl ?_ | (refine SW.val (Y.idxSN T rfl rfl (by assumption) rfl rfl rfl ?_) rfl ?_; omega) | (refine SW.val (Y.idxS T rfl rfl (by assumption) rfl rfl rfl ?_) rfl ?_; omega) | (refine SW.val (Y.ldInt T hs rfl (by assumption) rfl rfl ?_) rfl ?_; omega)
  have e1 : ((i : Int) + 1).toNat = i + 1 := by omega
  refine RW.appendSelf T hs 0 (p := i) (q := i + 1) (m := l.length) rfl rfl rfl rfl rfl rfl ?_ ?_ ?_ ?_ rfl ?_
  · simp only [e1]
  · omega
  · omega
  · exact one_ints _ _
  intro w2 hs
  refine Zrun ?_
  refine RW.val (Y.sliceLH T rfl rfl rfl rfl rfl ?_) rfl ?_
  · omega
  refine RW.clear T hs 0 (q := l.length - 1) rfl rfl rfl rfl rfl ?_ rfl rfl ?_ ?_ ?_ ?_ ?_
  · intro u hu; simp [Value.cells] at hu; subst hu; rfl
  · have : ((↑(i + (l.length - (i + 1))) : Int)).toNat = l.length - 1 := by omega
    rw [this]
  · omega
  · omega
  · omega
  intro w3 hs
  refine Zrun ?_
  refine retM_ret [_] h _ ⟨rfl, trivial⟩ (GLe.refl _) hs ⟨rfl, ?_, ?_⟩
  · simp only [packv]
    congr 1; omega
  · have e2 : i + (l.length - (i + 1)) = l.length - 1 := by omega
    simp only [List.set_cons_zero, e2, Nat.mul_one, ← List.map_take, ← List.map_drop, ← List.map_append, eraseIdx_eq]

theorem without_con (s : Value) (l : List Int) (axis : Int) (w : World) (h : GHeap) (hl : IntsAt h s l) (hm : l.length ≤ 17592186044416) : Con Try.prog 36 [s, .int .i64 axis] w h
    (fun h' v => ∃ u, v = .tuple #[u, .bool (withoutSpec l axis).2] ∧ IntsAt h' u (withoutSpec l axis).1) := by
  obtain ⟨ad, cp, rfl, hS⟩ := hl
  have bad : ¬ (0 ≤ axis ∧ axis < l.length) → withoutSpec l axis = ([], false) := fun hn => by unfold withoutSpec; rw [if_neg hn]
  refine Con.of_body Try.func36 rfl Try.ntmps36 rfl rfl ?_
  intro hs
  refine Zrun ?_
  refine RW.gd rfl rfl (fun h2 => ?_) (fun h2 => ?_)
  · have hb := bad (fun e => by have := e.1; omega)
    refine Zrun ?_
    exact retQ_ret [_, _] h ⟨rfl, rfl, trivial⟩ hs (by rw [hb]; exact ⟨_, rfl, IntsAt.nil _⟩)
  refine Zrun ?_
  refine CW.condD rfl (fun h3 => ?_) (fun h3 => ?_)
  · have hb := bad (fun e => by have := e.2; omega)
    refine Zrun ?_
    exact retQ_ret [_, _] h ⟨rfl, rfl, trivial⟩ hs (by rw [hb]; exact ⟨_, rfl, IntsAt.nil _⟩)
  obtain ⟨q, rfl⟩ := Int.eq_ofNat_of_zero_le (show 0 ≤ axis by omega)
  have hq : q < l.length := by omega
  have hw : withoutSpec l (q : Int) = (l.eraseIdx q, true) := by
    unfold withoutSpec
    rw [if_pos ⟨by omega, by omega⟩]
    simp
  refine Zrun ?_
  (refine RW.callM T hs rfl rfl rfl (cloneInt_conM ad cp l _ _ _ _ _ hS hm) ?_; intro v h1 O1 w1 hle1 hp1 hs)
  obtain ⟨rfl, ad', cp', rfl, rfl⟩ := hp1
  refine Zrun ?_
  (refine RW.callM T hs rfl rfl rfl (deleteInt_conM ad' cp' q l _ _ _ _ _ hq hm) ?_; intro v h2 O2 w2 hle2 hp2 hs)
  obtain ⟨rfl, rfl, rfl⟩ := hp2
  obtain ⟨h3, hle3, hs, hS3⟩ := hs.freeze
  refine Zrun ?_
  exact retQ_ret [_, _] h3 ⟨rfl, rfl, trivial⟩ hs (by rw [hw]; exact ⟨_, rfl, IntsAt.of_sl hS3⟩)

theorem refWith_con (s : Value) (l : List Int) (axis : Nat) (n : Int) (w : World) (h : GHeap) (hl : IntsAt h s l) (hm : l.length ≤ 17592186044416) (ha : axis < l.length) : Con Try.prog 38 [s, .int .i64 axis, .int .i64 n] w h
    (fun h' v => IntsAt h' v (l.set axis n)) := by
  obtain ⟨ad, cp, rfl, hS⟩ := hl
  refine Con.of_body Try.func38 rfl Try.ntmps38 rfl rfl ?_
  intro hs
  refine Zrun ?_
  (refine RW.lit T hs (vs := []) rfl rfl rfl rfl (by simp [Value.cells]) rfl rfl rfl rfl rfl ?_; intro b1 w1 hs)
  refine Zrun ?_
  refine RW.append T hs 0 rfl rfl (m := l.length) (news := l.map (Value.int .i64)) rfl rfl rfl rfl rfl rfl (hS.src hs.agree (one_ints _ _)) (fun e => by subst e; exact hS.nil0.2) (by dsimp only; omega) (by omega) ?_
  intro ad' cp' w2 hs
  refine Zrun ?_
  refine RW.val (Y.idxRN T hs 0 rfl rfl rfl rfl rfl rfl ?_) rfl ?_
  · omega
  refine RW.st1 T hs 0 rfl rfl rfl rfl rfl rfl rfl (by omega) ?_
  intro w3 hs
  obtain ⟨h3, hle3, hs, hS3⟩ := hs.freeze
  refine Zrun ?_
  refine retQ_ret [_] h3 ⟨rfl, trivial⟩ hs ?_
  simp only [List.flatMap_nil, List.nil_append, map_set_int] at hS3
  exact IntsAt.of_sl hS3

theorem refWithout_con (s : Value) (l : List Int) (axis : Int) (w : World) (h : GHeap) (hl : IntsAt h s l) (hm : l.length ≤ 17592186044416) (ha : 0 ≤ axis) : Con Try.prog 39 [s, .int .i64 axis] w h
    (fun h' v => IntsAt h' v (l.eraseIdx axis.toNat)) := by
  obtain ⟨ad, cp, rfl, hS⟩ := hl
  obtain ⟨q, rfl⟩ := Int.eq_ofNat_of_zero_le ha
  refine Con.of_body Try.func39 rfl Try.ntmps39 rfl rfl ?_
  intro hs
  refine Zrun ?_
  have hs := hs.nilRow 3 1
  have et : ∀ k, k < l.length → ((l.take (k + 1)).eraseIdx q) = (l.take k).eraseIdx q ++ (if k = q then [] else [l.getD k 0]) := by
    intro k hk
    have hlk : (l.take k).length = k := by rw [List.length_take]; omega
    rw [take_snoc l k 0 hk, List.eraseIdx_append, hlk]
    by_cases hq : q < k
    · rw [if_pos hq, if_neg (by omega)]
    · rw [if_neg hq, List.eraseIdx_of_length_le (l := l.take k) (by omega)]
      by_cases e : k = q
      · subst e; simp
      · rw [if_neg e, List.eraseIdx_of_length_le (by simp; omega)]
  refine CW.loop (fun p : Nat × Option Addr × Nat => [(0, .slice ad l.length cp), (1, .int .i64 q), (5, .slice p.2.1 ((l.take p.1).eraseIdx q).length p.2.2), (6, .int .i64 p.1)]) (fun p w' => p.1 ≤ l.length ∧ Sees w h h [⟨p.2.1, ((l.take p.1).eraseIdx q).length, p.2.2, 3, 1, ((l.take p.1).eraseIdx q).map (Value.int .i64)⟩] w') (fun p => l.length - p.1) (0, none, 0) ⟨rfl, rfl, rfl, rfl, trivial⟩ ⟨by omega, hs⟩ ?_
  rintro ⟨k, ra, rc⟩ w' ⟨hk, hs⟩
  dsimp only at hk hs ⊢
  have hll : ((l.take k).eraseIdx q).length ≤ k := Nat.le_trans (List.length_eraseIdx_le ..) (by rw [List.length_take]; omega)
  by_cases hlt : k < l.length
  · have e1 := et k hlt
    by_cases hkq : k = q
    · have hkq' : ¬ ((k : Int) ≠ (q : Int)) := by omega
      rw [if_pos hkq, List.append_nil] at e1
      refine Zrun ?_
      exact loopQ_round (k + 1, ra, rc) ⟨rfl, rfl, by dsimp only; rw [e1]; rfl, rfl, trivial⟩ ⟨by dsimp only; omega, by dsimp only; rw [e1]; exact hs⟩ (by dsimp only; omega)
    · have hkq' : ((k : Int) ≠ (q : Int)) := by omega
      rw [if_neg hkq] at e1
      refine Zrun ?_
      (refine RW.lit T hs (vs := [.int .i64 (l.getD k 0)]) rfl rfl rfl rfl (by simp [Value.cells]) rfl rfl rfl rfl rfl ?_; intro b1 w1 hs)
      have hs := hs.swap
      refine RW.append T hs 0 rfl rfl (m := 1) (news := [.int .i64 (l.getD k 0)]) rfl rfl rfl rfl rfl rfl ⟨rfl, by simp [Value.oneCell'], by simp, fun p hp j u hj => ?_⟩ (by simp) (by dsimp only; omega) (by omega) ?_
      · cases hp
        rw [Addr.add_lit]
        exact hs.rowCell (k := 1) rfl (by simpa [Value.cells] using hj)
      intro ad' cp' w2 hs
      have hs := hs.swap.drop
      refine Zrun ?_
      have e2 : ((l.take (k + 1)).eraseIdx q).length = ((l.take k).eraseIdx q).length + 1 := by rw [e1]; simp
      refine loopQ_round (k + 1, ad', cp') ⟨rfl, rfl, by dsimp only; rw [e2]; rfl, rfl, trivial⟩ ⟨by dsimp only; omega, ?_⟩ (by dsimp only; omega)
      dsimp only
      rw [e2, e1, List.map_append]
      exact hs
  · obtain rfl : k = l.length := by omega
    refine Zrun ?_
    obtain ⟨h3, hle3, hs, hS3⟩ := hs.freeze
    refine retQ_ret [_] h3 ⟨rfl, trivial⟩ hs ?_
    dsimp only at hS3 ⊢
    rw [List.take_of_length_le (Nat.le_refl _)] at hS3
    simp only [packv, Int.toNat_natCast]
    rw [List.take_of_length_le (Nat.le_refl _)]
    exact IntsAt.of_sl hS3
end Go.Proofs.Ythbfkhklihejiaa

/-
  Contracts of functions of package turn: arrays along an axis, turned backwards. No statement is proved here.
-/
namespace Go.Proofs.Ythbfkhklihejiaa
open Go Go.RowKit
set_option linter.unusedVariables false
set_option linter.unusedSimpArgs false
set_option maxHeartbeats 4000000
attribute [local irreducible] CW RW QW SW HW ConM retM heldQ calmQ elemP thenQ blockQ loopQ joinQ retQ Yields Con Sl zF magR unitF truncF fwF wholeF tidySpec elemQ rankF leastN tidyW
set_option maxHeartbeats 4000000

section
variable {α : Type} {R : GHeap → List Value → α → Prop}
def axK (s : List Int) (first : Bool) : Nat := if first then 0 else s.length - 1
theorem turnAxis_con (cs : List Value) (a : ArrD α) (first : Bool) (w : World) (h : GHeap) (ha : ArrR R h cs a) : Con Try.prog 165 [.agg cs.toArray, .bool first] w h (fun _ u => u = .tuple #[.int .i64 (if a.shape.length = 0 then 0 else axK a.shape first : Nat), .bool (decide (a.shape.length ≠ 0))]) := by
  obtain ⟨s, vc, rfl, hI, hv⟩ := ha
  have hI' := hI
  have hv' := hv
  obtain ⟨ad, cp, rfl, hS⟩ := hI
  obtain ⟨wv, nv, sm, il, fl, ch, bx, ⟨rfl, hoc⟩, _⟩ := hv
  have hcap := hS.caps
  refine Con.of_body Try.func165 rfl Try.ntmps165 rfl rfl ?_
  intro hs
  refine Zrun ?_
  (refine RW.boxN hs rfl rfl ?_; intro b1 w1 hs)
  refine Zerun ?_
  by_cases c : a.shape.length = 0
  · rw [if_pos c, decide_eq_false (by simpa using c)]
    refine Zerun ?_
    exact retQ_ret [_, _] h ⟨rfl, rfl, trivial⟩ hs.dropAll rfl
  rw [if_neg c, decide_eq_true c]
  cases first with
  | true =>
    refine Zerun ?_
    exact retQ_ret [_, _] h ⟨rfl, rfl, trivial⟩ hs.dropAll rfl
  | false =>
    refine Zerun ?_
    refine retQ_ret [_, _] h ⟨rfl, rfl, trivial⟩ hs.dropAll ?_
    show Value.tuple #[.int .i64 ((a.shape.length : Int) - 1), .bool true] = .tuple #[.int .i64 ((a.shape.length - 1 : Nat) : Int), .bool true]
    rw [show (a.shape.length : Int) - 1 = ((a.shape.length - 1 : Nat) : Int) by omega]
theorem turnAlong_con (hR : Mono R) (h1 : One R) (h9 : Siz 9 R) (nb : α) (hbl : ∀ w h, Con Try.prog 68 [] w h (fun h' u => ∃ cs', u = .agg cs'.toArray ∧ R h' cs' nb)) (cs : List Value) (a : ArrD α) (v1 : Value) (k o d i : Nat) (at_ : List Int) (w : World) (h : GHeap) (ha : ArrR R h cs a) (hat : IntsAt h v1 at_) (hp : product a.shape 1048576 = ((a.vec.len : Int), 0)) (hl : 0 < a.vec.len) (hsp : splitSpec a.shape (k : Int) = ((o : Int), (d : Int), (i : Int), true)) (hod : o * d * i = a.vec.len) (hod0 : 0 < o ∧ 0 < d ∧ 0 < i) (hal : at_.length = d) (hvm : a.vec.len ≤ 1048576) (hk0 : a.vec.kind ≠ 0) :
    Con Try.prog 166 [.agg cs.toArray, .int .i64 k, v1] w h (fun h' u => ∃ cs', u = .agg cs'.toArray ∧ ArrR R h' cs' ⟨a.shape, a.vec.pick (alongL o d i at_) nb⟩) := by
  obtain ⟨s, vc, rfl, hI, hv⟩ := ha
  have hI' := hI
  have hv' := hv
  obtain ⟨ad, cp, rfl, hS⟩ := hI
  obtain ⟨wv, nv, sm, il, fl, ch, bx, ⟨rfl, hoc⟩, _⟩ := hv
  have hcap := hS.caps
  have hrank := (product_le hp).1
  have ha' := hat
  obtain ⟨adt, cpt, rfl, _⟩ := hat
  have hoB : o ≤ 1048576 := by
    have h3 : o * 1 ≤ o * (d * i) := Nat.mul_le_mul_left o (Nat.mul_pos hod0.2.1 hod0.2.2)
    rw [← Nat.mul_assoc] at h3
    omega
  have hdB : d ≤ 1048576 := by
    have h3 : d ≤ o * d := Nat.le_mul_of_pos_left d hod0.1
    have h4 : o * d ≤ o * d * i := Nat.le_mul_of_pos_right _ hod0.2.2
    omega
  have hm1 : o * (at_.length * i) ≤ 1048576 := by rw [hal, ← Nat.mul_assoc]; omega
  have hB : o * d * i ≤ 1099511627776 := by omega
  have hBn : o * d ≤ 1099511627776 := by
    have h4 : o * d ≤ o * d * i := Nat.le_mul_of_pos_right _ hod0.2.2
    omega
  refine Con.of_body Try.func166 rfl Try.ntmps166 rfl rfl ?_
  intro hs
  refine Zrun ?_
  (refine RW.boxN hs rfl rfl ?_; intro b1 w1 hs)
  (refine RW.allocN T hs rfl rfl rfl rfl ?_; intro b2 w2 hs)
  refine Zerun ?_
  (refine RW.call T hs rfl rfl rfl (split_con _ _ _ _ _ hI' (by omega)) ?_; intro v h3 w3 hle3 hp3 hs)
  subst hp3
  rw [hsp]
  have hv' := hv'.mono hR hle3
  have hI' := hI'.mono hle3
  have ha' := ha'.mono hle3
  refine Zerun ?_
  (refine RW.call T hs rfl rfl rfl (vecLen_con _ a.vec _ _ hv') ?_; intro v h4 w4 hle4 hp4 hs)
  subst hp4
  have hv' := hv'.mono hR hle4
  have hI' := hI'.mono hle4
  have ha' := ha'.mono hle4
  refine Zerun ?_
  refine CW.regionR T 1 1 hs rfl rfl ?_
  intro w5 hs
  refine HW.takeR (fuel := 11) 0 rfl (fun _ _ ka kb _ hs hka hkb => Y.fieldAddr T rfl rfl rfl rfl rfl) ⟨_, _, 1, 1, hs, rfl, rfl⟩ rfl (by kernel_rfl) (by kernel_rfl) (by kernel_rfl) ?_
  refine HW.takeR (fuel := 10) 1 rfl (fun _ _ ka kb _ hs hka hkb => Y.loadRow1 T hs ka hka rfl rfl rfl rfl) ⟨_, _, 1, 1, hs, rfl, rfl⟩ rfl (by kernel_rfl) (by kernel_rfl) (by kernel_rfl) ?_
  refine HW.takeR (fuel := 9) 3 rfl (fun _ _ ka kb _ hs hka hkb => Y.fieldAddr T rfl rfl rfl rfl rfl) ⟨_, _, 1, 1, hs, rfl, rfl⟩ rfl (by kernel_rfl) (by kernel_rfl) (by kernel_rfl) ?_
  refine HW.takeR (fuel := 8) 4 rfl (fun _ _ ka kb _ hs hka hkb => Y.loadRowN T hs ka hka rfl rfl rfl rfl rfl rfl) ⟨_, _, 1, 1, hs, rfl, rfl⟩ rfl (by kernel_rfl) (by kernel_rfl) (by kernel_rfl) ?_
  refine HW.takeR (fuel := 7) 5 rfl (fun _ _ ka kb _ hs hka hkb => Y.move rfl) ⟨_, _, 1, 1, hs, rfl, rfl⟩ rfl (by kernel_rfl) (by kernel_rfl) (by kernel_rfl) ?_
  refine HW.takeR (fuel := 6) 6 rfl (fun _ _ ka kb _ hs hka hkb => Y.move rfl) ⟨_, _, 1, 1, hs, rfl, rfl⟩ rfl (by kernel_rfl) (by kernel_rfl) (by kernel_rfl) ?_
  refine HW.takeR (fuel := 5) 7 rfl (fun _ _ ka kb _ hs hka hkb => Y.move rfl) ⟨_, _, 1, 1, hs, rfl, rfl⟩ rfl (by kernel_rfl) (by kernel_rfl) (by kernel_rfl) ?_
  refine HW.takeR (fuel := 4) 8 rfl (fun _ _ ka kb _ hs hka hkb => Y.move rfl) ⟨_, _, 1, 1, hs, rfl, rfl⟩ rfl (by kernel_rfl) (by kernel_rfl) (by kernel_rfl) ?_
  refine HW.one (fuel := 3) 2 rfl (by kernel_rfl) ?_
  (refine RW.call T hs rfl rfl rfl (cloneInts_con _ a.shape _ _ hI' (by omega)) ?_; intro v h31 w31 hle31 hp31 hs)
  obtain ⟨ad31, cp31, rfl, _⟩ := id hp31
  have hv' := hv'.mono hR hle31
  have ha' := ha'.mono hle31
  have hI' := hI'.mono hle31
  refine RW.nil ?_
  refine heldQ_normal ⟨_, _, 1, 1, hs, rfl, rfl⟩ ?_
  refine HW.one (fuel := 2) 9 rfl (by kernel_rfl) ?_
  (refine RW.call T hs rfl rfl rfl (pickAlong_con hR h1 h9 nb hbl _ a.vec _ o d i at_ _ _ hv' ha' (by omega) hoB hm1 hB hBn hvm hk0) ?_; intro v h38 w38 hle38 hp38 hs)
  obtain ⟨cs38, rfl, hv38⟩ := hp38
  obtain ⟨wv6, nv6, sm6, il6, fl6, ch6, bx6, ⟨rfl, hoc6⟩, _⟩ := id hv38
  have ha' := ha'.mono hle38
  have hI' := hI'.mono hle38
  have hp31 := hp31.mono hle38
  refine RW.nil ?_
  refine heldQ_normal ⟨_, _, 1, 1, hs, rfl, rfl⟩ ?_
  refine HW.takeR (fuel := 1) 10 rfl (fun _ _ ka kb _ hs hka hkb => Y.build T rfl rfl rfl rfl rfl rfl rfl) ⟨_, _, 1, 1, hs, rfl, rfl⟩ rfl (by kernel_rfl) (by kernel_rfl) (by kernel_rfl) ?_
  refine HW.one (fuel := 0) 11 rfl (by kernel_rfl) ?_
  refine RW.storeAll T hs 0 rfl rfl rfl rfl rfl rfl (show (Value.oneCell' (.slice ad31 a.shape.length cp31) && (vecCells (a.vec.pick (alongL o d i at_) nb).kind wv6 nv6 sm6 il6 fl6 ch6 bx6).all Value.oneCell') = true by rw [hoc6]; rfl) rfl ?_
  intro w39 hs
  refine RW.nil ?_
  refine heldQ_normal ⟨_, _, 1, 1, hs, rfl, rfl⟩ ?_
  refine HW.done (by kernel_rfl) ?_
  refine calmQ_normal ?_
  refine Zerun ?_
  exact retQ_ret [_] h38 ⟨resN T hs 0 rfl rfl rfl rfl rfl rfl, trivial⟩ hs.dropAll ⟨_, rfl, _, _, rfl, hp31, hv38⟩
/-- what comes of a turn along an axis: nothing turns where there is no axis or no element -/
def TurnPost (R : GHeap → List Value → α → Prop) (a : ArrD α) (k : Nat) (f : Nat → List Int) (nb : α) (h' : GHeap) (cs' : List Value) : Prop :=
  ((a.shape.length = 0 ∨ a.vec.len = 0) → ArrR R h' cs' a) ∧ (a.shape.length ≠ 0 → 0 < a.vec.len → ∀ o d i : Nat, splitSpec a.shape (k : Int) = ((o : Int), (d : Int), (i : Int), true) → ArrR R h' cs' ⟨a.shape, a.vec.pick (alongL o d i (f d)) nb⟩)
theorem split_axis {a : ArrD α} {k : Nat} (hp : product a.shape 1048576 = ((a.vec.len : Int), 0)) (hl : 0 < a.vec.len) (hk : k < a.shape.length) : ∃ o d i : Nat, splitSpec a.shape (k : Int) = ((o : Int), (d : Int), (i : Int), true) ∧ a.shape.getD k 0 = (d : Int) ∧ o * d * i = a.vec.len ∧ 0 < o ∧ 0 < d ∧ 0 < i := split_of hp hl hk
theorem split_inj {l : List Int} {k : Nat} {o d i o' d' i' : Nat} (h : splitSpec l (k : Int) = ((o : Int), (d : Int), (i : Int), true)) (h' : splitSpec l (k : Int) = ((o' : Int), (d' : Int), (i' : Int), true)) : o = o' ∧ d = d' ∧ i = i' := by
  rw [h] at h'
  simp only [Prod.mk.injEq] at h'
  omega
theorem turnReverse_con (hR : Mono R) (h1 : One R) (h9 : Siz 9 R) (nb : α) (hbl : ∀ w h, Con Try.prog 68 [] w h (fun h' u => ∃ cs', u = .agg cs'.toArray ∧ R h' cs' nb)) (cs : List Value) (a : ArrD α) (first : Bool) (w : World) (h : GHeap) (ha : ArrR R h cs a) (hp : product a.shape 1048576 = ((a.vec.len : Int), 0)) (hvm : a.vec.len ≤ 1048576) (hk0 : a.vec.kind ≠ 0) :
    Con Try.prog 164 [.agg cs.toArray, .bool first] w h (fun h' u => ∃ cs', u = .agg cs'.toArray ∧ TurnPost R a (axK a.shape first) turnL nb h' cs') := by
  have haR := ha
  obtain ⟨s, vc, rfl, hI, hv⟩ := ha
  have hI' := hI
  have hv' := hv
  obtain ⟨ad, cp, rfl, hS⟩ := hI
  obtain ⟨wv, nv, sm, il, fl, ch, bx, ⟨rfl, hoc⟩, _⟩ := hv
  have hcap := hS.caps
  have hall : (Value.oneCell' (.slice ad a.shape.length cp) && (vecCells a.vec.kind wv nv sm il fl ch bx).all Value.oneCell') = true := by rw [hoc]; rfl
  refine Con.of_body Try.func164 rfl Try.ntmps164 rfl rfl ?_
  intro hs
  refine Zrun ?_
  (refine RW.boxN hs rfl rfl ?_; intro b1 w1 hs)
  (refine RW.allocN T hs rfl rfl rfl rfl ?_; intro b2 w2 hs)
  refine Zerun ?_
  (refine RW.call T hs rfl rfl rfl (turnAxis_con _ a first _ _ haR) ?_; intro v h3 w3 hle3 hp3 hs)
  subst hp3
  have haR := (show ArrR R h3 _ a from ⟨_, _, rfl, hI'.mono hle3, hv'.mono hR hle3⟩)
  have hv' := hv'.mono hR hle3
  have hI' := hI'.mono hle3
  have hS := hS.mono hle3
  by_cases c : a.shape.length = 0
  · rw [if_pos c, decide_eq_false (by simpa using c)]
    refine Zerun ?_
    refine RW.storeAll T hs 0 rfl rfl rfl rfl rfl rfl hall rfl ?_
    intro w4 hs
    refine Zerun ?_
    exact retQ_ret [_] h3 ⟨resN T hs 0 rfl rfl rfl rfl rfl rfl, trivial⟩ hs.dropAll ⟨_, rfl, fun _ => haR, fun e => absurd c e⟩
  rw [if_neg c, decide_eq_true c]
  have hkl : axK a.shape first < a.shape.length := by unfold axK; split <;> omega
  obtain ⟨kx, hkx⟩ : ∃ kx, axK a.shape first = kx := ⟨_, rfl⟩
  rw [hkx] at hkl ⊢
  refine Zerun ?_
  (refine RW.call T hs rfl rfl rfl (vecLen_con _ a.vec _ _ hv') ?_; intro v h4 w4 hle4 hp4 hs)
  subst hp4
  have haR := (show ArrR R h4 _ a from ⟨_, _, rfl, hI'.mono hle4, hv'.mono hR hle4⟩)
  by_cases c2 : a.vec.len = 0
  · refine Zerun ?_
    refine RW.storeAll T hs 0 rfl rfl rfl rfl rfl rfl hall rfl ?_
    intro w5 hs
    refine Zerun ?_
    exact retQ_ret [_] h4 ⟨resN T hs 0 rfl rfl rfl rfl rfl rfl, trivial⟩ hs.dropAll ⟨_, rfl, fun _ => haR, fun _ e => by omega⟩
  obtain ⟨o, d, i, hsp, hd, hod, hod0⟩ := split_axis hp (by omega) hkl
  have hdB : d ≤ 1048576 := by
    have h3 : d ≤ o * d := Nat.le_mul_of_pos_left d hod0.1
    have h4 : o * d ≤ o * d * i := Nat.le_mul_of_pos_right _ hod0.2.2
    omega
  rw [hd]
  refine Zerun ?_
  (refine RW.make1 T hs rfl rfl rfl rfl rfl rfl rfl (by dsimp only; omega) (by omega) ?_; intro b5 w5 hs)
  refine Zerun ?_
  refine CW.loop (fun j : Nat => [(2, .pointer (some ⟨b1, 0, none⟩)), (4, .pointer (some ⟨b2, 0, none⟩)), (5, .int .i64 kx), (7, .int .i64 d), (8, .slice (some ⟨b5, 0, none⟩) d d), (32, .int .i64 d), (33, .int .i64 j)]) (fun j w' => j ≤ d ∧ Sees w h h4 [⟨some ⟨b5, 0, none⟩, d, d, 3, 1, ((List.range j).map fun y => ((d - 1 - y : Nat) : Int)).map (Value.int .i64) ++ List.replicate (d - j) (.int .i64 0)⟩, ⟨some ⟨b2, 0, none⟩, 1, 1, 63, 9, .slice none 0 0 :: vecCells 0 (.slice none 0 0) 0 (.slice none 0 0) (.slice none 0 0) (.slice none 0 0) (.slice none 0 0) (.slice none 0 0)⟩, ⟨some ⟨b1, 0, none⟩, 1, 1, 63, 9, .slice ad a.shape.length cp :: vecCells a.vec.kind wv nv sm il fl ch bx⟩] w') (fun j => d - j) 0 ⟨rfl, rfl, rfl, rfl, rfl, rfl, rfl, trivial⟩ ⟨by omega, hs⟩ ?_
  rintro j w6 ⟨hj, hs⟩
  by_cases hlt : j < d
  · have hvb : (d : Int) - 1 - j = ((d - 1 - j : Nat) : Int) := by omega
    refine Zerun ?_
    refine RW.val (Y.idxRN T hs 0 rfl rfl rfl rfl rfl rfl hlt) rfl ?_
    rw [hvb]
    refine RW.st1 T hs 0 rfl rfl rfl rfl rfl rfl rfl hlt ?_
    intro w7 hs
    replace hs := hs.re (fill_snoc (fun y => ((d - 1 - y : Nat) : Int)) j d hlt _)
    refine Zerun ?_
    exact loopQ_round (j + 1) ⟨rfl, rfl, rfl, rfl, rfl, rfl, rfl, trivial⟩ ⟨by omega, hs⟩ (by omega)
  obtain rfl : j = d := by omega
  rw [Nat.sub_self, List.replicate_zero, List.append_nil] at hs
  obtain ⟨h6, hle6, hs, hS6⟩ := hs.freeze
  have hI6 : IntsAt h6 (.slice (some ⟨b5, 0, none⟩) j j) (turnL j) := IntsAt.of_sl hS6
  have haR := (show ArrR R h6 _ a from ⟨_, _, rfl, hI'.mono (hle4.trans hle6), hv'.mono hR (hle4.trans hle6)⟩)
  refine Zerun ?_
  (refine RW.call T hs rfl rfl rfl (turnAlong_con hR h1 h9 nb hbl _ a _ kx o j i (turnL j) _ _ haR hI6 hp (by omega) hsp hod hod0 (turnL_length j) hvm hk0) ?_; intro v h8 w8 hle8 hp8 hs)
  obtain ⟨cs8, rfl, ha8⟩ := hp8
  have ha8' := ha8
  obtain ⟨s8, vc8, rfl, ⟨ad8, cp8, rfl, _⟩, hv8⟩ := ha8
  obtain ⟨wv6, nv6, sm6, il6, fl6, ch6, bx6, ⟨rfl, hoc6⟩, _⟩ := hv8
  refine RW.storeAll T hs 0 rfl rfl rfl rfl rfl rfl (show (Value.oneCell' (.slice ad8 a.shape.length cp8) && (vecCells (a.vec.pick (alongL o j i (turnL j)) nb).kind wv6 nv6 sm6 il6 fl6 ch6 bx6).all Value.oneCell') = true by rw [hoc6]; rfl) rfl ?_
  intro w9 hs
  refine Zerun ?_
  refine retQ_ret [_] h8 ⟨resN T hs 0 rfl rfl rfl rfl rfl rfl, trivial⟩ hs.dropAll ⟨_, rfl, fun e => absurd e (by omega), fun _ _ o' d' i' hsp' => ?_⟩
  obtain ⟨rfl, rfl, rfl⟩ := split_inj hsp hsp'
  exact ha8'
end
end Go.Proofs.Ythbfkhklihejiaa

/-
  The program logic, nineteenth part: frozen rows of whole structs, products of words, functions that the model stands in for. No statement is proved here.
-/
namespace Go.Proofs.Ythbfkhklihejiaa
open Go Go.RowKit
set_option linter.unusedVariables false
set_option linter.unusedSimpArgs false
set_option linter.unusedVariables false
section
variable {P : Program} (T : Tab P) {n : Nat} {Q : Post} {L : Env} {w0 w : World} {h0 h : GHeap} {O : List Row} {ops rest : List Oper} {x y : Operand} {t : TypeId}
variable {d : Option Tmp} {ty yt : TypeId} {pos : String} {aft : Array Edge}
/-- a cell of a frozen row -/
theorem Sl.cellAt (hs : Sees w0 h0 h O w) {b sz m cp o : Nat} {xs : List Value} {v : Value} (hS : Sl h sz (some ⟨b, 0, none⟩) m cp xs) (ho : o < m * sz) (hv : xs[o]? = some v) : w.cell? ⟨b, o, none⟩ = some v := by
  obtain ⟨cs, h1, h2⟩ := (hS.2.2.2.2 _ rfl).2 o ho
  refine hs.cell h1 ?_
  rw [Nat.zero_add] at h2
  rw [h2, hv]
theorem Y.ldF1 (hs : Sees w0 h0 h O w) {dd : Ty} {b sz m cp o : Nat} {xs : List Value} {v : Value} (hS : Sl h sz (some ⟨b, 0, none⟩) m cp xs) (hx : opv L x = some (.pointer (some ⟨b, o, none⟩))) (hT : T.ty t = some dd) (hd : dd.agg = false) (ho : Nat.blt o (m * sz) = true) (hv : xs[o]? = some v) : Yields P n L w (.load t x) ty v :=
  Y.load1 T hT hd hx (Sl.cellAt hs hS (Nat.le_of_ble_eq_true ho) hv)
theorem Y.ldFN (hs : Sees w0 h0 h O w) {dd : Ty} {i : Inf} {b sz m cp o : Nat} {xs cs : List Value} (hS : Sl h sz (some ⟨b, 0, none⟩) m cp xs) (hx : opv L x = some (.pointer (some ⟨b, o, none⟩))) (hT : T.ty t = some dd) (hd : dd.agg = true) (hI : T.inf t = some i) (ho : Nat.ble (o + i.size) (m * sz) = true) (hc : (xs.drop o).take i.size = cs) (hl : cs.length = i.size) : Yields P n L w (.load t x) ty (.agg cs.toArray) := by
  have ho := Nat.le_of_ble_eq_true ho
  refine Y.loadN T hT hd hI hl hx ?_
  intro j r hj
  have hjl := (List.getElem?_eq_some_iff.1 hj).1
  refine Sl.cellAt hs hS (by omega) ?_
  rw [← hc, List.getElem?_take, if_pos (by omega), List.getElem?_drop] at hj
  exact hj
/-- a whole number, as a word -/
def wrN (z : Int) : Nat := (z % 18446744073709551616).toNat
theorem wrN_lt (z : Int) : wrN z < 18446744073709551616 := by unfold wrN; omega
theorem wrap_wrN (z : Int) : IntKind.u64.wrap z = (wrN z : Int) := by
  unfold wrN
  have e : IntKind.u64.wrap z = z % 18446744073709551616 := by
    simp [IntKind.wrap, IntKind.signed, IntKind.bits]
  rw [e]; omega
def wr32 (z : Int) : Nat := (z % 4294967296).toNat
theorem wr32_lt (z : Int) : wr32 z < 4294967296 := by unfold wr32; omega
theorem wrap_wr32 (z : Int) : IntKind.u32.wrap z = (wr32 z : Int) := by
  unfold wr32
  have e : IntKind.u32.wrap z = z % 4294967296 := by
    simp [IntKind.wrap, IntKind.signed, IntKind.bits]
  rw [e]; omega
theorem Y.mulU {u v : Nat} (hx : opv L x = some (.int .u64 (u : Int))) (hy : opv L y = some (.int .u64 (v : Int))) : Yields P n L w (.binOp .mul t x y yt) ty (.int .u64 ((u * v % 18446744073709551616 : Nat) : Int)) := by
  have := Y.mul' (P := P) (n := n) (w := w) (ty := ty) (t := t) (yt := yt) hx hy
  have e : IntKind.u64.wrap ((u : Int) * (v : Int)) = ((u * v % 18446744073709551616 : Nat) : Int) := by
    rw [wrap_wrN]; unfold wrN
    rw [← Int.natCast_mul]
    omega
  rwa [e] at this
theorem Y.addU {u v : Nat} (hx : opv L x = some (.int .u64 (u : Int))) (hy : opv L y = some (.int .u64 (v : Int))) (hb : u + v < 18446744073709551616) : Yields P n L w (.binOp .add t x y yt) ty (.int .u64 ((u + v : Nat) : Int)) := by
  have := Y.add' (P := P) (n := n) (w := w) (ty := ty) (t := t) (yt := yt) hx hy
  have e : IntKind.u64.wrap ((u : Int) + (v : Int)) = ((u + v : Nat) : Int) := by
    rw [wrap_wrN]; unfold wrN; omega
  rwa [e] at this
/-- a call of a function that the model stands in for -/
theorem Y.stood {f : FuncId} {fn : Func} {e : Array Value → Sem Value} (hf : P.funcs[f]? = some fn) (hname : (fn.name == "runtime.NumGoroutine") = false) (hb : fn.body.isNone = true) (hn : Extern.findNext fn = none) (he : Extern.find fn = some e)
    {u v : Value} (hx : opv L x = some u) (hr : (e #[u]).run P w = .ok v w) {ats : Array TypeId} : Yields P n L w (.call ⟨.value (.func f), #[x], ats⟩) ty v := by
  intro a ha d pos aft g
  have h1 := run_callFunc_extern hf hname hb hn he #[u] w
  rw [hr] at h1
  have h2 : #[x].map a.eval = #[u] := by simp [ha.eval hx]
  have hcl : a.eval (.func f) = .func (.func f) #[] #[] := rfl
  simp [execOp, resolve, Deferred.ofValue, hcl, invoke, ha.eval hx, h1]
end
/-! ## Regions that draw their order and change memory: two of the call's own rows fixed, and what lies frozen -/
section
variable {P : Program} {n : Nat} {Q : Post} {L : Env} {w0 w : World} {h0 h hb : GHeap} {O : List Row} {ops rest : List Oper} {ra rb : Row}
variable {d : Option Tmp} {ty : TypeId} {pos : String} {aft : Array Edge} {fuel : Nat} {listed : Array Bool}
def SG (w0 : World) (h0 hb : GHeap) (ra rb : Row) (w : World) : Prop := ∃ (h' : GHeap) (O : List Row) (k j : Nat), GLe hb h' ∧ Sees w0 h0 h' O w ∧ O[k]? = some ra ∧ O[j]? = some rb
theorem CW.regionG (T' : Tab P) (k j : Nat) (hs : Sees w0 h0 h O w) (ha : O[k]? = some ra) (hb' : O[j]? = some rb) {id : Nat} {l : List Oper} (K : ∀ w', Sees w0 h0 h O w' → HW P n l (calmQ Q) (SG w0 h0 h ra rb) l.length (Array.replicate l.length false) L w') : CW P n Q (.region id l.toArray true) L w :=
  CW.regionH T' (SG w0 h0 h ra rb) (fun w' e => by subst e; exact K _ hs.drew)
theorem HW.takeG (i : Nat) {op : Op} {v : Value} (hi : ops.toArray[i]? = some ⟨d, op, ty, pos, aft, none⟩) (hy : ∀ (h' : GHeap) (O : List Row) (ka kb : Nat) (w' : World), GLe hb h' → Sees w0 h0 h' O w' → O[ka]? = some ra → O[kb]? = some rb → Yields P n L w' op ty v) (hS : SG w0 h0 hb ra rb w) (hd : dstOk n d = true)
    (hs : Region.noSelect ops.toArray = true) (hf : Region.free .any ops.toArray listed i = true) (hr : (Region.ready .any ops.toArray listed).contains i = true)
    (hh : HW P n ops (calmQ Q) (SG w0 h0 hb ra rb) fuel (listed.setIfInBounds i true) (updo d v L) w) : HW P n ops (calmQ Q) (SG w0 h0 hb ra rb) (fuel + 1) listed L w :=
  HW.take i hi (fun w' ⟨h', O, k, j, g, s, a, b⟩ => hy h' O k j w' g s a b) hS hd hs hf hr hh
theorem HW.takeGY (i : Nat) {op : Op} {v : Value} {j : Nat} {want : Bool} {t : Tmp} (hi : ops.toArray[i]? = some ⟨d, op, ty, pos, aft, some (j, want)⟩) (hj : gdst ops j = some t) (ht : get L t = some (.bool want)) (hy : ∀ (h' : GHeap) (O : List Row) (ka kb : Nat) (w' : World), GLe hb h' → Sees w0 h0 h' O w' → O[ka]? = some ra → O[kb]? = some rb → Yields P n L w' op ty v) (hS : SG w0 h0 hb ra rb w) (hd : dstOk n d = true)
    (hs : Region.noSelect ops.toArray = true) (hf : Region.free .any ops.toArray listed i = true) (hr : (Region.ready .any ops.toArray listed).contains i = true)
    (hh : HW P n ops (calmQ Q) (SG w0 h0 hb ra rb) fuel (listed.setIfInBounds i true) (updo d v L) w) : HW P n ops (calmQ Q) (SG w0 h0 hb ra rb) (fuel + 1) listed L w :=
  HW.takeYes i hi hj ht (fun w' ⟨h', O, k, j, g, s, a, b⟩ => hy h' O k j w' g s a b) hS hd hs hf hr hh
theorem HW.takeGN (i : Nat) {op : Op} {j : Nat} {want b : Bool} {t : Tmp} (hi : ops.toArray[i]? = some ⟨d, op, ty, pos, aft, some (j, want)⟩) (hj : gdst ops j = some t) (ht : get L t = some (.bool b)) (hb' : (b == want) = false) (hS : SG w0 h0 hb ra rb w) (hd : dstOk n d = true)
    (hs : Region.noSelect ops.toArray = true) (hf : Region.free .any ops.toArray listed i = true) (hr : (Region.ready .any ops.toArray listed).contains i = true)
    (hh : HW P n ops (calmQ Q) (SG w0 h0 hb ra rb) fuel (listed.setIfInBounds i true) (updo d undef L) w) : HW P n ops (calmQ Q) (SG w0 h0 hb ra rb) (fuel + 1) listed L w :=
  HW.takeNo i hi hj ht hb' hS hd hs hf hr hh
end
end Go.Proofs.Ythbfkhklihejiaa

/-
  Contracts of functions of package turn: arrays turned on along an axis, by one number. No statement is proved here.
-/
namespace Go.Proofs.Ythbfkhklihejiaa
open Go Go.RowKit
set_option linter.unusedVariables false
set_option linter.unusedSimpArgs false
set_option maxHeartbeats 4000000
attribute [local irreducible] CW RW QW SW HW ConM retM heldQ calmQ elemP thenQ blockQ loopQ joinQ retQ Yields Con Sl zF magR unitF truncF fwF wholeF tidySpec elemQ rankF leastN tidyW
set_option maxHeartbeats 4000000

theorem ArrR.mono' {α : Type} {R : GHeap → List Value → α → Prop} (hR : Mono R) {h h' : GHeap} {cs : List Value} {a : ArrD α} (hl : GLe h h') (ha : ArrR R h cs a) : ArrR R h' cs a := let ⟨s, vc, e, i, v⟩ := ha; ⟨s, vc, e, i.mono hl, v.mono hR hl⟩
theorem rolledL_len (n : Nat) (by_ : Int) : (rolledL n by_).length = n := by simp [rolledL]
section
variable {α : Type} {R : GHeap → List Value → α → Prop}
theorem turnRotate_con (hR : Mono R) (h1 : One R) (h9 : Siz 9 R) (nb : α) (hbl : ∀ w h, Con Try.prog 68 [] w h (fun h' u => ∃ cs', u = .agg cs'.toArray ∧ R h' cs' nb)) (cb cs : List Value) (vb : VecD α) (x : Nat) (by_ : Int) (a : ArrD α) (first : Bool) (w : World) (h : GHeap) (hb : ArrR R h cb ⟨[], vb⟩) (hnums : vb.nums = [x]) (hvl : vb.len = 1) (hkb : vb.kind = 1 ∨ vb.kind = 2 ∨ vb.kind = 3) (hw : (wholeF x).1 = by_) (ha : ArrR R h cs a) (hp : product a.shape 1048576 = ((a.vec.len : Int), 0)) (hvm : a.vec.len ≤ 1048576) (hk0 : a.vec.kind ≠ 0) :
    Con Try.prog 103 [.agg cb.toArray, .agg cs.toArray, .bool first] w h (fun h' u => ∃ cs', u = .tuple #[.agg cs'.toArray, .int .i64 0] ∧ TurnPost R a (axK a.shape first) (fun d => rolledL d by_) nb h' cs') := by
  have haR := ha
  have hbR := hb
  have hrank := (product_le hp).1
  obtain ⟨sb, vcb, rfl, ⟨adb, cpb, rfl, _⟩, hvb⟩ := hb
  have hvb' := hvb
  obtain ⟨wv2, nv2, sm2, il2, fl2, ch2, bx2, ⟨rfl, hoc2⟩, _⟩ := hvb
  obtain ⟨s, vc, rfl, hI, hv⟩ := ha
  have hI' := hI
  have hv' := hv
  obtain ⟨ad, cp, rfl, hS⟩ := hI
  obtain ⟨wv, nv, sm, il, fl, ch, bx, ⟨rfl, hoc⟩, _⟩ := hv
  have hcap := hS.caps
  have hall : (Value.oneCell' (.slice ad a.shape.length cp) && (vecCells a.vec.kind wv nv sm il fl ch bx).all Value.oneCell') = true := by rw [hoc]; rfl
  refine Con.of_body Try.func103 rfl Try.ntmps103 rfl rfl ?_
  intro hs
  refine Zrun ?_
  (refine RW.boxN hs rfl rfl ?_; intro b1 w1 hs)
  refine Zrun ?_
  (refine RW.boxN hs rfl rfl ?_; intro b2 w2 hs)
  (refine RW.allocN T hs rfl rfl rfl rfl ?_; intro b3 w3 hs)
  refine Zerun ?_
  (refine RW.call T hs rfl rfl rfl (turnAxis_con _ a first _ _ haR) ?_; intro v h4 w4 hle4 hp4 hs)
  subst hp4
  have haR := ArrR.mono' hR hle4 haR
  have hbR := ArrR.mono' hR hle4 hbR
  have hvb' := hvb'.mono hR hle4
  have hv' := hv'.mono hR hle4
  have hI' := hI'.mono hle4
  by_cases c : a.shape.length = 0
  · rw [if_pos c, decide_eq_false (by simpa using c)]
    refine Zerun ?_
    (refine RW.lit T hs (vs := []) rfl rfl rfl rfl (by simp [Value.cells]) rfl rfl rfl rfl rfl ?_; intro b5 w5 hs)
    obtain ⟨h6, hle6, hs, hS6⟩ := hs.freeze
    have haR := ArrR.mono' hR hle6 haR
    have hbR := ArrR.mono' hR hle6 hbR
    have hvb' := hvb'.mono hR hle6
    refine Zerun ?_
    (refine RW.call T hs rfl rfl rfl (valueSingle_con _ _ _ _ hbR) ?_; intro v h10 w10 hle10 hp10 hs)
    subst hp10
    rw [decide_eq_true hvl]
    have hbR := ArrR.mono' hR hle10 hbR
    refine Zerun ?_
    (refine RW.call T hs rfl rfl rfl (valueRank_con _ _ _ _ hbR) ?_; intro v h11 w11 hle11 hp11 hs)
    subst hp11
    rw [show ((([] : List Int).length : Nat) : Int) = 0 from rfl]
    have hvb' := hvb'.mono hR (hle10.trans hle11)
    refine Zerun ?_
    (refine RW.call T hs rfl rfl rfl (vecWholes_con hR _ vb _ _ hvb' (by omega)) ?_; intro v h12 w12 hle12 hp12 hs)
    obtain ⟨sl, rfl, hK⟩ := hp12
    rw [if_pos hkb, hnums] at hK
    rw [decide_eq_true hkb]
    have hK : KAt .i64 h12 sl [by_] := by rw [← hw]; exact hK
    obtain ⟨adl, cpl, rfl, hSl⟩ := hK
    have haR := ArrR.mono' hR ((hle10.trans hle11).trans hle12) haR
    refine Zerun ?_
    refine RW.storeAll T hs 0 rfl rfl rfl rfl rfl rfl hall rfl ?_
    intro w20 hs
    refine Zerun ?_
    exact retQ_ret [_, _] h12 ⟨resN T hs 0 rfl rfl rfl rfl rfl rfl, rfl, trivial⟩ hs.dropAll ⟨_, rfl, fun _ => haR, fun e => absurd c e⟩
  rw [if_neg c, decide_eq_true c]
  have hkl : axK a.shape first < a.shape.length := by unfold axK; split <;> omega
  obtain ⟨kx, hkx⟩ : ∃ kx, axK a.shape first = kx := ⟨_, rfl⟩
  rw [hkx] at hkl ⊢
  refine Zerun ?_
  (refine RW.lit T hs (vs := []) rfl rfl rfl rfl (by simp [Value.cells]) rfl rfl rfl rfl rfl ?_; intro b5 w5 hs)
  obtain ⟨h6, hle6, hs, hS6⟩ := hs.freeze
  have haR := ArrR.mono' hR hle6 haR
  have hbR := ArrR.mono' hR hle6 hbR
  have hvb' := hvb'.mono hR hle6
  have hI' := hI'.mono hle6
  refine Zerun ?_
  (refine RW.call T hs rfl rfl rfl (without_con _ _ _ _ _ hI' (by omega)) ?_; intro v h7 w7 hle7 hp7 hs)
  obtain ⟨ur, rfl, ⟨adr, cpr, hur, _⟩⟩ := hp7
  subst hur
  have haR := ArrR.mono' hR hle7 haR
  have hbR := ArrR.mono' hR hle7 hbR
  have hvb' := hvb'.mono hR hle7
  refine Zerun ?_
  (refine RW.call T hs rfl rfl rfl (valueSingle_con _ _ _ _ hbR) ?_; intro v h10 w10 hle10 hp10 hs)
  subst hp10
  rw [decide_eq_true hvl]
  have hbR := ArrR.mono' hR hle10 hbR
  refine Zerun ?_
  (refine RW.call T hs rfl rfl rfl (valueRank_con _ _ _ _ hbR) ?_; intro v h11 w11 hle11 hp11 hs)
  subst hp11
  rw [show ((([] : List Int).length : Nat) : Int) = 0 from rfl]
  have hvb' := hvb'.mono hR (hle10.trans hle11)
  refine Zerun ?_
  (refine RW.call T hs rfl rfl rfl (vecWholes_con hR _ vb _ _ hvb' (by omega)) ?_; intro v h12 w12 hle12 hp12 hs)
  obtain ⟨sl, rfl, hK⟩ := hp12
  rw [if_pos hkb, hnums] at hK
  rw [decide_eq_true hkb]
  have hK : KAt .i64 h12 sl [by_] := by rw [← hw]; exact hK
  obtain ⟨adl, cpl, rfl, hSl⟩ := hK
  have haR := ArrR.mono' hR ((hle10.trans hle11).trans hle12) haR
  refine Zerun ?_
  have hv' := (show VecAt R h12 _ a.vec from by obtain ⟨_, _, e, _, v⟩ := haR; cases e; exact v)
  (refine RW.call T hs rfl rfl rfl (vecLen_con _ a.vec _ _ hv') ?_; intro v h13 w13 hle13 hp13 hs)
  subst hp13
  have haR := ArrR.mono' hR hle13 haR
  have hSl := hSl.mono hle13
  by_cases c2 : a.vec.len = 0
  · refine Zerun ?_
    refine RW.storeAll T hs 0 rfl rfl rfl rfl rfl rfl hall rfl ?_
    intro w20 hs
    refine Zerun ?_
    exact retQ_ret [_, _] h13 ⟨resN T hs 0 rfl rfl rfl rfl rfl rfl, rfl, trivial⟩ hs.dropAll ⟨_, rfl, fun _ => haR, fun _ e => by omega⟩
  obtain ⟨o, d, i, hsp, hd, hod, hod0⟩ := split_axis hp (by omega) hkl
  have hdB : d ≤ 1048576 := by
    have h3 : d ≤ o * d := Nat.le_mul_of_pos_left d hod0.1
    have h4 : o * d ≤ o * d * i := Nat.le_mul_of_pos_right _ hod0.2.2
    omega
  have hI13 : IntsAt h13 (.slice ad a.shape.length cp) a.shape := by obtain ⟨_, _, e, i, _⟩ := haR; cases e; exact i
  refine Zerun ?_
  (refine RW.call T hs rfl rfl rfl (split_con _ _ _ _ _ hI13 (by omega)) ?_; intro v h14 w14 hle14 hp14 hs)
  subst hp14
  rw [hsp]
  have haR := ArrR.mono' hR hle14 haR
  have hSl := hSl.mono hle14
  refine Zerun ?_
  refine CW.regionG T 1 1 hs rfl rfl ?_
  intro w15 hs
  have hgl := GLe.refl h14
  refine HW.takeG (fuel := 9) 0 rfl (fun _ _ ka kb _ hg hs hka hkb => Y.loadRowN T hs ka hka rfl rfl rfl rfl rfl rfl) ⟨_, _, 1, 1, hgl, hs, rfl, rfl⟩ rfl (by kernel_rfl) (by kernel_rfl) (by kernel_rfl) ?_
  refine HW.takeG (fuel := 8) 1 rfl (fun _ _ ka kb _ hg hs hka hkb => Y.move rfl) ⟨_, _, 1, 1, hgl, hs, rfl, rfl⟩ rfl (by kernel_rfl) (by kernel_rfl) (by kernel_rfl) ?_
  refine HW.takeG (fuel := 7) 2 rfl (fun _ _ ka kb _ hg hs hka hkb => Y.move rfl) ⟨_, _, 1, 1, hgl, hs, rfl, rfl⟩ rfl (by kernel_rfl) (by kernel_rfl) (by kernel_rfl) ?_
  refine HW.takeG (fuel := 6) 3 rfl (fun _ _ ka kb _ hg hs hka hkb => Y.move rfl) ⟨_, _, 1, 1, hgl, hs, rfl, rfl⟩ rfl (by kernel_rfl) (by kernel_rfl) (by kernel_rfl) ?_
  refine HW.takeG (fuel := 5) 4 rfl (fun _ _ ka kb _ hg hs hka hkb => Y.idxSN (u := 0) T rfl rfl (hSl.mono hg) rfl rfl rfl (show 0 < 1 from Nat.one_pos)) ⟨_, _, 1, 1, hgl, hs, rfl, rfl⟩ rfl (by kernel_rfl) (by kernel_rfl) (by kernel_rfl) ?_
  refine HW.takeG (fuel := 4) 5 rfl (fun _ _ ka kb _ hg hs hka hkb => Y.ldInt (l := [by_]) T hs rfl (hSl.mono hg) rfl rfl (show 0 < 1 from Nat.one_pos)) ⟨_, _, 1, 1, hgl, hs, rfl, rfl⟩ rfl (by kernel_rfl) (by kernel_rfl) (by kernel_rfl) ?_
  refine HW.one (fuel := 3) 6 rfl (by kernel_rfl) ?_
  (refine RW.call T hs rfl rfl rfl (pickRolled_con d by_ _ _ hdB) ?_; intro v h114 w114 hle114 hp114 hs)
  obtain ⟨ad114, cp114, rfl, _⟩ := id hp114
  have haR := ArrR.mono' hR hle114 haR
  have hgl := hgl.trans hle114
  refine RW.nil ?_
  refine heldQ_normal ⟨_, _, 1, 1, hgl, hs, rfl, rfl⟩ ?_
  refine HW.one (fuel := 2) 7 rfl (by kernel_rfl) ?_
  (refine RW.call T hs rfl rfl rfl (turnAlong_con hR h1 h9 nb hbl _ a _ kx o d i (rolledL d by_) _ _ haR hp114 hp (by omega) hsp hod hod0 (rolledL_len d by_) hvm hk0) ?_; intro v h115 w115 hle115 hp115 hs)
  obtain ⟨cs115, rfl, ha115⟩ := hp115
  have ha115' := ha115
  obtain ⟨s8, vc8, rfl, ⟨ad8, cp8, rfl, _⟩, hv8⟩ := ha115
  obtain ⟨wv6, nv6, sm6, il6, fl6, ch6, bx6, ⟨rfl, hoc6⟩, _⟩ := hv8
  have hgl := hgl.trans hle115
  refine RW.nil ?_
  refine heldQ_normal ⟨_, _, 1, 1, hgl, hs, rfl, rfl⟩ ?_
  refine HW.one (fuel := 1) 8 rfl (by kernel_rfl) ?_
  refine RW.storeAll T hs 0 rfl rfl rfl rfl rfl rfl (show (Value.oneCell' (.slice ad8 a.shape.length cp8) && (vecCells (a.vec.pick (alongL o d i (rolledL d by_)) nb).kind wv6 nv6 sm6 il6 fl6 ch6 bx6).all Value.oneCell') = true by rw [hoc6]; rfl) rfl ?_
  intro w116 hs
  refine RW.nil ?_
  refine heldQ_normal ⟨_, _, 1, 1, hgl, hs, rfl, rfl⟩ ?_
  refine HW.takeG (fuel := 0) 9 rfl (fun _ _ ka kb _ hg hs hka hkb => Y.assign rfl) ⟨_, _, 1, 1, hgl, hs, rfl, rfl⟩ rfl (by kernel_rfl) (by kernel_rfl) (by kernel_rfl) ?_
  refine HW.done (by kernel_rfl) ?_
  refine calmQ_normal ?_
  refine Zerun ?_
  refine retQ_ret [_, _] h115 ⟨resN T hs 0 rfl rfl rfl rfl rfl rfl, rfl, trivial⟩ hs.dropAll ⟨_, rfl, fun e => absurd e (by omega), fun _ _ o' d' i' hsp' => ?_⟩
  obtain ⟨rfl, rfl, rfl⟩ := split_inj hsp hsp'
  exact ha115'
end
end Go.Proofs.Ythbfkhklihejiaa

/-
  Contracts of functions of package index: elements at indexes, and put there, along one axis. No statement is proved here.
-/
namespace Go.Proofs.Ythbfkhklihejiaa
open Go Go.RowKit
set_option linter.unusedVariables false
set_option linter.unusedSimpArgs false
set_option maxHeartbeats 4000000
attribute [local irreducible] CW RW QW SW HW ConM retM heldQ calmQ elemP thenQ blockQ loopQ joinQ retQ Yields Con Sl zF magR unitF truncF fwF wholeF tidySpec elemQ rankF leastN tidyW
set_option maxHeartbeats 4000000

/-- lists behind each other, of the class that they have -/
def joinedW {α : Type} (c : Int) (l : List (VecD α)) : VecD α := if c < 0 then noneV (headC l) else joinS c l
/-- all places, those told being that of the element behind the last one -/
def atL (m : Nat) (Lx : List Int) : List Int := (List.range m).map fun y : Nat => if (y : Int) ∈ Lx then (m : Int) else (y : Int)
def atF (m : Nat) (Lx : List Int) (j : Nat) (y : Nat) : Int := if (y : Int) ∈ Lx.take j then (m : Int) else (y : Int)
theorem atF_zero (m : Nat) (Lx : List Int) : (List.range m).map (atF m Lx 0) = (List.range m).map fun y : Nat => (y : Int) := by
  apply List.map_congr_left
  intro y _
  unfold atF
  rw [List.take_zero, if_neg (by simp)]
theorem atF_all (m : Nat) (Lx : List Int) : (List.range m).map (atF m Lx Lx.length) = atL m Lx := by
  unfold atL
  apply List.map_congr_left
  intro y _
  unfold atF
  rw [List.take_length]
theorem atF_set (m : Nat) (Lx : List Int) (j q : Nat) (hj : j < Lx.length) (hq : Lx.getD j 0 = (q : Int)) : (((List.range m).map (atF m Lx j)).map (Value.int .i64)).set q (.int .i64 (m : Int)) = ((List.range m).map (atF m Lx (j + 1))).map (Value.int .i64) := by
  apply List.ext_getElem
  · simp
  · intro y h1 h2
    rw [List.getElem_set]
    simp only [List.getElem_map, List.getElem_range]
    unfold atF
    rw [take_succ_getD Lx j 0 hj, hq]
    by_cases e : q = y
    · subst e
      rw [if_pos rfl, if_pos (by simp)]
    · rw [if_neg e]
      have : ((y : Int) ∈ Lx.take j ++ [(q : Int)]) ↔ (y : Int) ∈ Lx.take j := by
        rw [List.mem_append, List.mem_singleton]
        constructor
        · rintro (h | h)
          · exact h
          · exact absurd (Int.ofNat.inj h).symm e
        · exact .inl
      simp only [this]
section
variable {α : Type} {R : GHeap → List Value → α → Prop}
theorem indexBracket_con (hR : Mono R) (h1 : One R) (h9 : Siz 9 R) (nb : α) (hbl : ∀ w h, Con Try.prog 68 [] w h (fun h' u => ∃ cs', u = .agg cs'.toArray ∧ R h' cs' nb)) (cs : List Value) (a x : ArrD α) (bs cb : Nat) (xc : List Value) (n o most P : Int) (w : World) (h : GHeap) (ha : ArrR R h cs a) (hsh : a.shape = [n]) (hk0 : a.vec.kind ≠ 0) (hvm : a.vec.len ≤ 1048576)
    (hX : Sl h 10 (some ⟨bs, 0, none⟩) 1 cb (.bool false :: xc)) (hxa : ArrR R h xc x) (hxk : x.vec.kind = 1 ∨ x.vec.kind = 2 ∨ x.vec.kind = 3) (hxn : x.vec.nums.length ≤ 1048576) (hxl : x.vec.len ≤ 1048576) (hxs : x.shape.length ≤ 1048576) (hn : 0 ≤ n ∧ n ≤ 1048576) (ho : 0 ≤ o ∧ o ≤ 1) (hr : ∀ y ∈ x.vec.nums, o ≤ (wholeF y).1 ∧ (wholeF y).1 < o + n)
    (hP : product x.shape most = (P, 0)) (hne : newE x.shape (a.vec.pick (x.vec.nums.map fun y => (wholeF y).1 - o) nb) = 0) : Con Try.prog 108 [.agg cs.toArray, .slice (some ⟨bs, 0, none⟩) 1 cb, .int .i64 o, .int .i64 most] w h (fun h' u => ∃ cs', u = .tuple #[.agg cs'.toArray, .int .i64 0] ∧ ArrR R h' cs' ⟨x.shape, (a.vec.pick (x.vec.nums.map fun y => (wholeF y).1 - o) nb).sq⟩) := by
  have ha' := ha
  obtain ⟨s, vc, rfl, hIa, hva⟩ := ha
  rw [hsh] at hIa
  have hIa' := hIa
  obtain ⟨ada, cpa, rfl, hSa⟩ := hIa
  have hlen1 : a.shape.length = 1 := by rw [hsh]; rfl
  have hva' := hva
  obtain ⟨wv, nv, sm, il, fl, ch, bx, ⟨rfl, hoc⟩, _⟩ := hva
  have hSa : Sl h 1 ada 1 cpa ([n].map (Value.int .i64)) := hSa
  refine Con.of_body Try.func108 rfl Try.ntmps108 rfl rfl ?_
  intro hs
  refine Zrun ?_
  (refine RW.boxN hs rfl rfl ?_; intro b1 w1 hs)
  (refine RW.allocN T hs rfl rfl rfl rfl ?_; intro b2 w2 hs)
  refine Zerun ?_
  (refine RW.make1 T hs rfl rfl rfl rfl rfl rfl rfl (by dsimp only; omega) (by omega) ?_; intro b3 w3 hs)
  have hs := hs.nilRow 3 1
  refine Zerun ?_

  refine CW.loop (fun u : Nat × Value × Option Addr × Nat × List Int × GHeap => [(1, .slice (some ⟨bs, 0, none⟩) 1 cb), (2, .int .i64 o), (3, .int .i64 most), (4, .pointer (some ⟨b1, 0, none⟩)), (8, .pointer (some ⟨b2, 0, none⟩)), (9, .int .i64 0), (10, .slice (some ⟨b3, 0, none⟩) 1 1), (11, .slice u.2.2.1 u.2.2.2.2.1.length u.2.2.2.1), (29, .slice (some ⟨bs, 0, none⟩) 1 cb), (30, .int .i64 1), (31, .int .i64 u.1)]) (fun u w' => u.1 ≤ 1 ∧ GLe h u.2.2.2.2.2 ∧ (u.1 = 0 → u.2.2.2.2.1 = []) ∧ (u.1 = 1 → IntsAt u.2.2.2.2.2 u.2.1 (x.vec.nums.map fun y => (wholeF y).1 - o) ∧ u.2.2.2.2.1 = x.shape) ∧ u.2.1.oneCell' = true ∧ Sees w h u.2.2.2.2.2 (⟨u.2.2.1, u.2.2.2.2.1.length, u.2.2.2.1, 3, 1, u.2.2.2.2.1.map (Value.int .i64)⟩ :: ⟨some ⟨b3, 0, none⟩, 1, 1, 22, 1, [u.2.1]⟩ :: ⟨some ⟨b2, 0, none⟩, 1, 1, 63, 9, .slice none 0 0 :: vecCells 0 (.slice none 0 0) 0 (.slice none 0 0) (.slice none 0 0) (.slice none 0 0) (.slice none 0 0) (.slice none 0 0)⟩ :: ⟨some ⟨b1, 0, none⟩, 1, 1, 63, 9, .slice ada 1 cpa :: vecCells a.vec.kind wv nv sm il fl ch bx⟩ :: []) w') (fun u => 1 - u.1) (0, .slice none 0 0, none, 0, [], h) ⟨rfl, rfl, rfl, rfl, rfl, rfl, rfl, rfl, rfl, rfl, rfl, trivial⟩ ⟨by dsimp only; omega, GLe.refl _, fun _ => rfl, fun e => absurd e (by dsimp only; omega), rfl, hs⟩ ?_
  rintro ⟨i, vl, adS, cpS, S, hh⟩ w5 ⟨hi, hg, hS0, hS1, hvl, hs⟩
  dsimp only at hi hg hS0 hS1 hvl hs ⊢
  by_cases hlt : i < 1
  · obtain rfl : i = 0 := by omega
    obtain rfl := hS0 rfl
    have hgg := hg
    have hX := hX.mono hg
    have hxa := ArrR.mono' hR hg hxa
    obtain ⟨s1, vc1, rfl, hI1, hV1⟩ := id hxa
    have hI1' := hI1
    obtain ⟨adx, cpx, rfl, hSx⟩ := hI1
    have hV1' := hV1
    obtain ⟨wx, nx, sx, ix, fx, cx, yx, ⟨rfl, hox⟩, _⟩ := hV1
    have e0 : ((Value.bool false :: .slice adx x.shape.length cpx :: vecCells x.vec.kind wx nx sx ix fx cx yx).drop (0 * 10)).take 10 = .bool false :: .slice adx x.shape.length cpx :: vecCells x.vec.kind wx nx sx ix fx cx yx := rfl
    have e1 : (Value.bool false :: .slice adx x.shape.length cpx :: vecCells x.vec.kind wx nx sx ix fx cx yx).length = 10 := rfl
    refine Zerun ?_
    (refine RW.allocN T hs rfl rfl rfl rfl ?_; intro b6 w6 hs)
    refine Zerun ?_
    refine RW.storeAll T hs 0 rfl rfl rfl rfl rfl rfl (by rw [List.all_cons, List.all_cons, hox]; rfl) rfl ?_
    intro w7 hs
    refine Zerun ?_

    refine CW.meet (fun u : Value × Value × GHeap => [(1, .slice (some ⟨bs, 0, none⟩) 1 cb), (2, .int .i64 o), (3, .int .i64 most), (4, .pointer (some ⟨b1, 0, none⟩)), (8, .pointer (some ⟨b2, 0, none⟩)), (9, .int .i64 0), (10, .slice (some ⟨b3, 0, none⟩) 1 1), (11, .slice adS 0 cpS), (12, .int .i64 0), (14, u.1), (15, u.2.1), (16, .int .i64 0), (29, .slice (some ⟨bs, 0, none⟩) 1 cb), (30, .int .i64 1), (31, .int .i64 0)]) (fun u w' => GLe hh u.2.2 ∧ IntsAt u.2.2 u.1 (x.vec.nums.map fun y => (wholeF y).1 - o) ∧ IntsAt u.2.2 u.2.1 x.shape ∧ Sees w h u.2.2 (⟨some ⟨b6, 0, none⟩, 1, 1, 138, 10, Value.bool false :: .slice adx x.shape.length cpx :: vecCells x.vec.kind wx nx sx ix fx cx yx⟩ :: ⟨adS, 0, cpS, 3, 1, []⟩ :: ⟨some ⟨b3, 0, none⟩, 1, 1, 22, 1, [vl]⟩ :: ⟨some ⟨b2, 0, none⟩, 1, 1, 63, 9, .slice none 0 0 :: vecCells 0 (.slice none 0 0) 0 (.slice none 0 0) (.slice none 0 0) (.slice none 0 0) (.slice none 0 0) (.slice none 0 0)⟩ :: ⟨some ⟨b1, 0, none⟩, 1, 1, 63, 9, .slice ada 1 cpa :: vecCells a.vec.kind wv nv sm il fl ch bx⟩ :: []) w') ?_ ?_
    · refine CW.regionR T 0 4 hs rfl rfl ?_
      intro w8 hs
      refine HW.takeR (fuel := 14) 0 rfl (fun _ _ ka kb _ hs hka hkb => Y.loadRowN T hs ka hka rfl rfl rfl rfl rfl rfl) ⟨_, _, 0, 4, hs, rfl, rfl⟩ rfl (by kernel_rfl) (by kernel_rfl) (by kernel_rfl) ?_
      refine HW.takeR (fuel := 13) 1 rfl (fun _ _ ka kb _ hs hka hkb => Y.fieldAddr T rfl rfl rfl rfl rfl) ⟨_, _, 0, 4, hs, rfl, rfl⟩ rfl (by kernel_rfl) (by kernel_rfl) (by kernel_rfl) ?_
      refine HW.takeR (fuel := 12) 2 rfl (fun _ _ ka kb _ hs hka hkb => Y.loadRow1 T hs kb hkb rfl rfl rfl rfl) ⟨_, _, 0, 4, hs, rfl, rfl⟩ rfl (by kernel_rfl) (by kernel_rfl) (by kernel_rfl) ?_
      refine HW.takeR (fuel := 11) 3 rfl (fun _ _ ka kb _ hs hka hkb => Y.move rfl) ⟨_, _, 0, 4, hs, rfl, rfl⟩ rfl (by kernel_rfl) (by kernel_rfl) (by kernel_rfl) ?_
      refine HW.takeR (fuel := 10) 4 rfl (fun _ _ ka kb _ hs hka hkb => Y.idxSN T rfl rfl (hSa.mono hs.le) rfl rfl rfl (by omega)) ⟨_, _, 0, 4, hs, rfl, rfl⟩ rfl (by kernel_rfl) (by kernel_rfl) (by kernel_rfl) ?_
      refine HW.takeR (fuel := 9) 5 rfl (fun _ _ ka kb _ hs hka hkb => Y.ldS T hs rfl (hSa.mono hs.le) rfl rfl (by omega) (show ([n].map (Value.int .i64))[0]? = some (.int .i64 n) from rfl)) ⟨_, _, 0, 4, hs, rfl, rfl⟩ rfl (by kernel_rfl) (by kernel_rfl) (by kernel_rfl) ?_
      refine HW.takeR (fuel := 8) 6 rfl (fun _ _ ka kb _ hs hka hkb => Y.move rfl) ⟨_, _, 0, 4, hs, rfl, rfl⟩ rfl (by kernel_rfl) (by kernel_rfl) (by kernel_rfl) ?_
      refine HW.one (fuel := 7) 7 rfl (by kernel_rfl) ?_
      (refine RW.call T hs rfl rfl rfl (indexPlaces_con hR _ _ _ _ n o _ _ hI1' hV1' hxk hxn hxl hn ho hr) ?_; intro v h56 w56 hle56 hp56 hs)
      obtain ⟨s56, t56, rfl, hL56, hT56⟩ := hp56
      refine RW.nil ?_
      refine heldQ_normal ⟨_, _, 0, 4, hs, rfl, rfl⟩ ?_
      refine HW.takeR (fuel := 6) 8 rfl (fun _ _ ka kb _ hs hka hkb => Y.move rfl) ⟨_, _, 0, 4, hs, rfl, rfl⟩ rfl (by kernel_rfl) (by kernel_rfl) (by kernel_rfl) ?_
      refine HW.takeR (fuel := 5) 9 rfl (fun _ _ ka kb _ hs hka hkb => Y.extract rfl rfl) ⟨_, _, 0, 4, hs, rfl, rfl⟩ rfl (by kernel_rfl) (by kernel_rfl) (by kernel_rfl) ?_
      refine HW.takeR (fuel := 4) 10 rfl (fun _ _ ka kb _ hs hka hkb => Y.extract rfl rfl) ⟨_, _, 0, 4, hs, rfl, rfl⟩ rfl (by kernel_rfl) (by kernel_rfl) (by kernel_rfl) ?_
      refine HW.takeR (fuel := 3) 11 rfl (fun _ _ ka kb _ hs hka hkb => Y.extract rfl rfl) ⟨_, _, 0, 4, hs, rfl, rfl⟩ rfl (by kernel_rfl) (by kernel_rfl) (by kernel_rfl) ?_
      refine HW.takeR (fuel := 2) 12 rfl (fun _ _ ka kb _ hs hka hkb => Y.assign rfl) ⟨_, _, 0, 4, hs, rfl, rfl⟩ rfl (by kernel_rfl) (by kernel_rfl) (by kernel_rfl) ?_
      refine HW.takeR (fuel := 1) 13 rfl (fun _ _ ka kb _ hs hka hkb => Y.assign rfl) ⟨_, _, 0, 4, hs, rfl, rfl⟩ rfl (by kernel_rfl) (by kernel_rfl) (by kernel_rfl) ?_
      refine HW.takeR (fuel := 0) 14 rfl (fun _ _ ka kb _ hs hka hkb => Y.assign rfl) ⟨_, _, 0, 4, hs, rfl, rfl⟩ rfl (by kernel_rfl) (by kernel_rfl) (by kernel_rfl) ?_
      refine HW.done (by kernel_rfl) ?_
      refine calmQ_normal ?_
      exact joinQ_meet (s56, t56, h56) ⟨rfl, rfl, rfl, rfl, rfl, rfl, rfl, rfl, rfl, rfl, rfl, rfl, rfl, rfl, rfl, trivial⟩ ⟨hle56, hL56, hT56, hs⟩
    rintro ⟨v1, v2, h10⟩ w9 ⟨hg10, hL10, hT10, hs⟩
    dsimp only at hg10 hL10 hT10 hs
    have hL10' := hL10
    obtain ⟨adq, cpq, rfl, _⟩ := hL10
    obtain ⟨adt, cpt, rfl, hSt⟩ := hT10
    refine Zerun ?_
    refine RW.val (Y.idxRN T hs 2 rfl rfl rfl rfl rfl rfl (by omega)) rfl ?_
    refine RW.st1 T hs 2 rfl rfl rfl rfl rfl rfl rfl (by omega) ?_
    intro w11 hs
    have hs := hs.drop
    refine Zerun ?_
    refine RW.append T hs 0 rfl rfl (m := x.shape.length) (news := x.shape.map (Value.int .i64)) rfl rfl rfl rfl rfl rfl (hSt.src hs.agree (one_ints _ _)) (fun e => by subst e; exact hSt.nil0.2) (by dsimp only; omega) (by omega) ?_
    intro ad12 cp12 w12 hs
    refine Zerun ?_
    have hz0 : 0 + x.shape.length = x.shape.length := Nat.zero_add _
    rw [hz0] at hs ⊢
    exact loopQ_round (1, .slice adq _ cpq, ad12, cp12, x.shape, h10) ⟨rfl, rfl, rfl, rfl, rfl, rfl, rfl, rfl, rfl, rfl, rfl, trivial⟩ ⟨by dsimp only; omega, hg.trans hg10, fun e => absurd e (by dsimp only; omega), fun _ => ⟨hL10', rfl⟩, rfl, hs⟩ (by dsimp only; omega)

  obtain rfl : i = 1 := by omega
  obtain ⟨hL1, hSx⟩ := hS1 rfl
  subst hSx
  obtain ⟨h12, hle12, hs, hS12⟩ := hs.freeze
  have hIs : IntsAt h12 (.slice adS x.shape.length cpS) x.shape := IntsAt.of_sl hS12
  obtain ⟨h13, hle13, hs, hS13⟩ := hs.freeze
  have hIs := hIs.mono hle13
  refine Zerun ?_
  (refine RW.call T hs rfl rfl rfl (product_con _ x.shape most _ _ hIs (by omega)) ?_; intro v h14 w14 hle14 hp14 hs)
  subst hp14
  rw [hP]
  have hS13 : Sl h14 1 (some ⟨b3, 0, none⟩) 1 1 [vl] := hS13.mono hle14
  have hIs := hIs.mono hle14
  have hL1 := hL1.mono ((hle12.trans hle13).trans hle14)
  have hIa' : IntsAt h14 (.slice ada 1 cpa) [n] := hIa'.mono (((hg.trans hle12).trans hle13).trans hle14)
  have hva' := hva'.mono hR (((hg.trans hle12).trans hle13).trans hle14)
  obtain ⟨Lx, hLx⟩ : ∃ Lx, (x.vec.nums.map fun y => (wholeF y).1 - o) = Lx := ⟨_, rfl⟩
  have hLn : Lx.length ≤ 1048576 := by rw [← hLx, List.length_map]; exact hxn
  have hLr : ∀ z ∈ Lx, 0 ≤ z ∧ z < 1048576 := by
    rw [← hLx]; intro z hz
    obtain ⟨y, hy, rfl⟩ := List.mem_map.1 hz
    have := hr y hy
    omega
  rw [hLx] at hL1 hne ⊢
  refine Zerun ?_
  refine CW.regionR T 1 1 hs rfl rfl ?_
  intro w15 hs
  refine HW.takeR (fuel := 12) 0 rfl (fun _ _ ka kb _ hs hka hkb => Y.move rfl) ⟨_, _, 1, 1, hs, rfl, rfl⟩ rfl (by kernel_rfl) (by kernel_rfl) (by kernel_rfl) ?_
  refine HW.takeR (fuel := 11) 1 rfl (fun _ _ ka kb _ hs hka hkb => Y.fieldAddr T rfl rfl rfl rfl rfl) ⟨_, _, 1, 1, hs, rfl, rfl⟩ rfl (by kernel_rfl) (by kernel_rfl) (by kernel_rfl) ?_
  refine HW.takeR (fuel := 10) 2 rfl (fun _ _ ka kb _ hs hka hkb => Y.loadRowN T hs ka hka rfl rfl rfl rfl rfl rfl) ⟨_, _, 1, 1, hs, rfl, rfl⟩ rfl (by kernel_rfl) (by kernel_rfl) (by kernel_rfl) ?_
  refine HW.takeR (fuel := 9) 3 rfl (fun _ _ ka kb _ hs hka hkb => Y.move rfl) ⟨_, _, 1, 1, hs, rfl, rfl⟩ rfl (by kernel_rfl) (by kernel_rfl) (by kernel_rfl) ?_
  refine HW.takeR (fuel := 8) 4 rfl (fun _ _ ka kb _ hs hka hkb => Y.fieldAddr T rfl rfl rfl rfl rfl) ⟨_, _, 1, 1, hs, rfl, rfl⟩ rfl (by kernel_rfl) (by kernel_rfl) (by kernel_rfl) ?_
  refine HW.takeR (fuel := 7) 5 rfl (fun _ _ ka kb _ hs hka hkb => Y.loadRow1 T hs ka hka rfl rfl rfl rfl) ⟨_, _, 1, 1, hs, rfl, rfl⟩ rfl (by kernel_rfl) (by kernel_rfl) (by kernel_rfl) ?_
  refine HW.one (fuel := 6) 6 rfl (by kernel_rfl) ?_
  (refine RW.call T hs rfl rfl rfl (indexCross_con b3 1 _ vl n Lx _ _ hS13 hL1 hIa' hLn hn hLr) ?_; intro v h88 w88 hle88 hp88 hs)
  have hva' := hva'.mono hR hle88
  have hIs := hIs.mono hle88
  refine RW.nil ?_
  refine heldQ_normal ⟨_, _, 1, 1, hs, rfl, rfl⟩ ?_
  refine HW.one (fuel := 5) 7 rfl (by kernel_rfl) ?_
  (refine RW.call T hs rfl rfl rfl (flatPick_con hR h1 h9 nb hbl _ a.vec _ Lx _ _ hva' hp88 hLn hvm hk0) ?_; intro v h89 w89 hle89 hp89 hs)
  obtain ⟨cs89, rfl, hv89⟩ := hp89
  have hIs := hIs.mono hle89
  refine RW.nil ?_
  refine heldQ_normal ⟨_, _, 1, 1, hs, rfl, rfl⟩ ?_
  refine HW.one (fuel := 4) 8 rfl (by kernel_rfl) ?_
  (refine RW.call T hs rfl rfl rfl (valueNew_con hR _ x.shape _ _ _ _ hIs hv89) ?_; intro v h90 w90 hle90 hp90 hs)
  rw [hne] at hp90
  obtain ⟨cs90, rfl, hl90, ho90, hA90, _⟩ := hp90
  refine RW.nil ?_
  refine heldQ_normal ⟨_, _, 1, 1, hs, rfl, rfl⟩ ?_
  refine HW.takeR (fuel := 3) 9 rfl (fun _ _ ka kb _ hs hka hkb => Y.extract rfl rfl) ⟨_, _, 1, 1, hs, rfl, rfl⟩ rfl (by kernel_rfl) (by kernel_rfl) (by kernel_rfl) ?_
  refine HW.takeR (fuel := 2) 10 rfl (fun _ _ ka kb _ hs hka hkb => Y.extract rfl rfl) ⟨_, _, 1, 1, hs, rfl, rfl⟩ rfl (by kernel_rfl) (by kernel_rfl) (by kernel_rfl) ?_
  refine HW.one (fuel := 1) 11 rfl (by kernel_rfl) ?_
  refine RW.storeAll T hs 0 rfl rfl rfl rfl rfl hl90 (List.all_eq_true.2 ho90) hl90 ?_
  intro w91 hs
  refine RW.nil ?_
  refine heldQ_normal ⟨_, _, 1, 1, hs, rfl, rfl⟩ ?_
  refine HW.takeR (fuel := 0) 12 rfl (fun _ _ ka kb _ hs hka hkb => Y.assign rfl) ⟨_, _, 1, 1, hs, rfl, rfl⟩ rfl (by kernel_rfl) (by kernel_rfl) (by kernel_rfl) ?_
  refine HW.done (by kernel_rfl) ?_
  refine calmQ_normal ?_
  refine Zerun ?_
  exact retQ_ret [_, _] h90 ⟨resN T hs 0 rfl rfl rfl rfl rfl hl90, rfl, trivial⟩ hs.dropAll ⟨_, rfl, hA90 rfl⟩
theorem atL_len (m : Nat) (Lx : List Int) : (atL m Lx).length = m := by simp [atL]
theorem indexSet_con (hR : Mono R) (h1 : One R) (h9 : Siz 9 R) (nb : α) (hbl : ∀ w h, Con Try.prog 68 [] w h (fun h' u => ∃ cs', u = .agg cs'.toArray ∧ R h' cs' nb)) (cs bc : List Value) (a b x : ArrD α) (bs cb m : Nat) (xc : List Value) (o most P c : Int) (w : World) (h : GHeap) (ha : ArrR R h cs a) (hb : ArrR R h bc b) (hsh : a.shape = [(m : Int)]) (hml : a.vec.len = m) (hk0 : a.vec.kind ≠ 0) (hvm : m ≤ 1048575) (hb1 : b.vec.len = 1)
    (hX : Sl h 10 (some ⟨bs, 0, none⟩) 1 cb (.bool false :: xc)) (hxa : ArrR R h xc x) (hxk : x.vec.kind = 1 ∨ x.vec.kind = 2 ∨ x.vec.kind = 3) (hxn : x.vec.nums.length ≤ 1048576) (hxl : x.vec.len ≤ 1048576) (hxs : x.shape.length ≤ 1048576) (ho : 0 ≤ o ∧ o ≤ 1) (hr : ∀ y ∈ x.vec.nums, o ≤ (wholeF y).1 ∧ (wholeF y).1 < o + m)
    (hP : product x.shape most = (P, 0)) (hP0 : P ≠ 0) (hj : joinC (-1) [a.vec, b.vec] = some c) (hVk : (joinedW c [a.vec, b.vec]).kind ≠ 0) (hVl : (joinedW c [a.vec, b.vec]).len ≤ 1048576) (hne : newE a.shape ((joinedW c [a.vec, b.vec]).pick (atL m (x.vec.nums.map fun y => (wholeF y).1 - o)) nb) = 0) : Con Try.prog 107 [.agg cs.toArray, .slice (some ⟨bs, 0, none⟩) 1 cb, .agg bc.toArray, .int .i64 o, .int .i64 most] w h (fun h' u => ∃ cs', u = .tuple #[.agg cs'.toArray, .int .i64 0] ∧ ArrR R h' cs' ⟨a.shape, ((joinedW c [a.vec, b.vec]).pick (atL m (x.vec.nums.map fun y => (wholeF y).1 - o)) nb).sq⟩) := by
  have ha' := ha
  have hn : 0 ≤ (m : Int) ∧ (m : Int) ≤ 1048576 := by omega
  obtain ⟨n, hnm⟩ : ∃ n : Int, (m : Int) = n := ⟨_, rfl⟩
  rw [hnm] at hn hr hsh
  obtain ⟨s, vc, rfl, hIa, hva⟩ := ha
  rw [hsh] at hIa
  have hIa' := hIa
  obtain ⟨ada, cpa, rfl, hSa⟩ := hIa
  have hlen1 : a.shape.length = 1 := by rw [hsh]; rfl
  have hva' := hva
  obtain ⟨wv, nv, sm, il, fl, ch, bx, ⟨rfl, hoc⟩, _⟩ := hva
  have hSa : Sl h 1 ada 1 cpa ([n].map (Value.int .i64)) := hSa
  have hb' := hb
  obtain ⟨sb, vcb, rfl, ⟨adb, cpb, rfl, _⟩, hvb⟩ := hb
  have hvb' := hvb
  obtain ⟨wq, nq, sq, iq, fq, cq, bq, ⟨rfl, hoq⟩, _⟩ := hvb
  refine Con.of_body Try.func107 rfl Try.ntmps107 rfl rfl ?_
  intro hs
  refine Zrun ?_
  (refine RW.boxN hs rfl rfl ?_; intro b1 w1 hs)
  refine Zerun ?_
  (refine RW.boxN hs rfl rfl ?_; intro b2 w2 hs)
  refine Zerun ?_
  (refine RW.allocN T hs rfl rfl rfl rfl ?_; intro b4 w4 hs)
  refine Zerun ?_
  (refine RW.make1 T hs rfl rfl rfl rfl rfl rfl rfl (by dsimp only; omega) (by omega) ?_; intro b3 w3 hs)
  have hs := hs.nilRow 3 1
  refine Zerun ?_

  refine CW.loop (fun u : Nat × Value × Option Addr × Nat × List Int × GHeap => [(1, .slice (some ⟨bs, 0, none⟩) 1 cb), (3, .int .i64 o), (4, .int .i64 most), (5, .pointer (some ⟨b1, 0, none⟩)), (7, .pointer (some ⟨b2, 0, none⟩)), (10, .pointer (some ⟨b4, 0, none⟩)), (11, .int .i64 0), (12, .slice (some ⟨b3, 0, none⟩) 1 1), (13, .slice u.2.2.1 u.2.2.2.2.1.length u.2.2.2.1), (37, .slice (some ⟨bs, 0, none⟩) 1 cb), (38, .int .i64 1), (39, .int .i64 u.1)]) (fun u w' => u.1 ≤ 1 ∧ GLe h u.2.2.2.2.2 ∧ (u.1 = 0 → u.2.2.2.2.1 = []) ∧ (u.1 = 1 → IntsAt u.2.2.2.2.2 u.2.1 (x.vec.nums.map fun y => (wholeF y).1 - o) ∧ u.2.2.2.2.1 = x.shape) ∧ u.2.1.oneCell' = true ∧ Sees w h u.2.2.2.2.2 (⟨u.2.2.1, u.2.2.2.2.1.length, u.2.2.2.1, 3, 1, u.2.2.2.2.1.map (Value.int .i64)⟩ :: ⟨some ⟨b3, 0, none⟩, 1, 1, 22, 1, [u.2.1]⟩ :: ⟨some ⟨b4, 0, none⟩, 1, 1, 63, 9, .slice none 0 0 :: vecCells 0 (.slice none 0 0) 0 (.slice none 0 0) (.slice none 0 0) (.slice none 0 0) (.slice none 0 0) (.slice none 0 0)⟩ :: ⟨some ⟨b2, 0, none⟩, 1, 1, 63, 9, .slice adb b.shape.length cpb :: vecCells b.vec.kind wq nq sq iq fq cq bq⟩ :: ⟨some ⟨b1, 0, none⟩, 1, 1, 63, 9, .slice ada 1 cpa :: vecCells a.vec.kind wv nv sm il fl ch bx⟩ :: []) w') (fun u => 1 - u.1) (0, .slice none 0 0, none, 0, [], h) ⟨rfl, rfl, rfl, rfl, rfl, rfl, rfl, rfl, rfl, rfl, rfl, rfl, trivial⟩ ⟨by dsimp only; omega, GLe.refl _, fun _ => rfl, fun e => absurd e (by dsimp only; omega), rfl, hs⟩ ?_
  rintro ⟨i, vl, adS, cpS, S, hh⟩ w5 ⟨hi, hg, hS0, hS1, hvl, hs⟩
  dsimp only at hi hg hS0 hS1 hvl hs ⊢
  by_cases hlt : i < 1
  · obtain rfl : i = 0 := by omega
    obtain rfl := hS0 rfl
    have hgg := hg
    have hX := hX.mono hg
    have hxa := ArrR.mono' hR hg hxa
    obtain ⟨s1, vc1, rfl, hI1, hV1⟩ := id hxa
    have hI1' := hI1
    obtain ⟨adx, cpx, rfl, hSx⟩ := hI1
    have hV1' := hV1
    obtain ⟨wx, nx, sx, ix, fx, cx, yx, ⟨rfl, hox⟩, _⟩ := hV1
    have e0 : ((Value.bool false :: .slice adx x.shape.length cpx :: vecCells x.vec.kind wx nx sx ix fx cx yx).drop (0 * 10)).take 10 = .bool false :: .slice adx x.shape.length cpx :: vecCells x.vec.kind wx nx sx ix fx cx yx := rfl
    have e1 : (Value.bool false :: .slice adx x.shape.length cpx :: vecCells x.vec.kind wx nx sx ix fx cx yx).length = 10 := rfl
    refine Zerun ?_
    (refine RW.allocN T hs rfl rfl rfl rfl ?_; intro b6 w6 hs)
    refine Zerun ?_
    refine RW.storeAll T hs 0 rfl rfl rfl rfl rfl rfl (by rw [List.all_cons, List.all_cons, hox]; rfl) rfl ?_
    intro w7 hs
    refine Zerun ?_

    refine CW.meet (fun u : Value × Value × GHeap => [(1, .slice (some ⟨bs, 0, none⟩) 1 cb), (3, .int .i64 o), (4, .int .i64 most), (5, .pointer (some ⟨b1, 0, none⟩)), (7, .pointer (some ⟨b2, 0, none⟩)), (10, .pointer (some ⟨b4, 0, none⟩)), (11, .int .i64 0), (12, .slice (some ⟨b3, 0, none⟩) 1 1), (13, .slice adS 0 cpS), (14, .int .i64 0), (16, u.1), (17, u.2.1), (18, .int .i64 0), (37, .slice (some ⟨bs, 0, none⟩) 1 cb), (38, .int .i64 1), (39, .int .i64 0)]) (fun u w' => GLe hh u.2.2 ∧ IntsAt u.2.2 u.1 (x.vec.nums.map fun y => (wholeF y).1 - o) ∧ IntsAt u.2.2 u.2.1 x.shape ∧ Sees w h u.2.2 (⟨some ⟨b6, 0, none⟩, 1, 1, 138, 10, Value.bool false :: .slice adx x.shape.length cpx :: vecCells x.vec.kind wx nx sx ix fx cx yx⟩ :: ⟨adS, 0, cpS, 3, 1, []⟩ :: ⟨some ⟨b3, 0, none⟩, 1, 1, 22, 1, [vl]⟩ :: ⟨some ⟨b4, 0, none⟩, 1, 1, 63, 9, .slice none 0 0 :: vecCells 0 (.slice none 0 0) 0 (.slice none 0 0) (.slice none 0 0) (.slice none 0 0) (.slice none 0 0) (.slice none 0 0)⟩ :: ⟨some ⟨b2, 0, none⟩, 1, 1, 63, 9, .slice adb b.shape.length cpb :: vecCells b.vec.kind wq nq sq iq fq cq bq⟩ :: ⟨some ⟨b1, 0, none⟩, 1, 1, 63, 9, .slice ada 1 cpa :: vecCells a.vec.kind wv nv sm il fl ch bx⟩ :: []) w') ?_ ?_
    · refine CW.regionR T 0 5 hs rfl rfl ?_
      intro w8 hs
      refine HW.takeR (fuel := 14) 0 rfl (fun _ _ ka kb _ hs hka hkb => Y.loadRowN T hs ka hka rfl rfl rfl rfl rfl rfl) ⟨_, _, 0, 5, hs, rfl, rfl⟩ rfl (by kernel_rfl) (by kernel_rfl) (by kernel_rfl) ?_
      refine HW.takeR (fuel := 13) 1 rfl (fun _ _ ka kb _ hs hka hkb => Y.fieldAddr T rfl rfl rfl rfl rfl) ⟨_, _, 0, 5, hs, rfl, rfl⟩ rfl (by kernel_rfl) (by kernel_rfl) (by kernel_rfl) ?_
      refine HW.takeR (fuel := 12) 2 rfl (fun _ _ ka kb _ hs hka hkb => Y.loadRow1 T hs kb hkb rfl rfl rfl rfl) ⟨_, _, 0, 5, hs, rfl, rfl⟩ rfl (by kernel_rfl) (by kernel_rfl) (by kernel_rfl) ?_
      refine HW.takeR (fuel := 11) 3 rfl (fun _ _ ka kb _ hs hka hkb => Y.move rfl) ⟨_, _, 0, 5, hs, rfl, rfl⟩ rfl (by kernel_rfl) (by kernel_rfl) (by kernel_rfl) ?_
      refine HW.takeR (fuel := 10) 4 rfl (fun _ _ ka kb _ hs hka hkb => Y.idxSN T rfl rfl (hSa.mono hs.le) rfl rfl rfl (by omega)) ⟨_, _, 0, 5, hs, rfl, rfl⟩ rfl (by kernel_rfl) (by kernel_rfl) (by kernel_rfl) ?_
      refine HW.takeR (fuel := 9) 5 rfl (fun _ _ ka kb _ hs hka hkb => Y.ldS T hs rfl (hSa.mono hs.le) rfl rfl (by omega) (show ([n].map (Value.int .i64))[0]? = some (.int .i64 n) from rfl)) ⟨_, _, 0, 5, hs, rfl, rfl⟩ rfl (by kernel_rfl) (by kernel_rfl) (by kernel_rfl) ?_
      refine HW.takeR (fuel := 8) 6 rfl (fun _ _ ka kb _ hs hka hkb => Y.move rfl) ⟨_, _, 0, 5, hs, rfl, rfl⟩ rfl (by kernel_rfl) (by kernel_rfl) (by kernel_rfl) ?_
      refine HW.one (fuel := 7) 7 rfl (by kernel_rfl) ?_
      (refine RW.call T hs rfl rfl rfl (indexPlaces_con hR _ _ _ _ n o _ _ hI1' hV1' hxk hxn hxl hn ho hr) ?_; intro v h64 w64 hle64 hp64 hs)
      obtain ⟨s64, t64, rfl, hL64, hT64⟩ := hp64
      refine RW.nil ?_
      refine heldQ_normal ⟨_, _, 0, 5, hs, rfl, rfl⟩ ?_
      refine HW.takeR (fuel := 6) 8 rfl (fun _ _ ka kb _ hs hka hkb => Y.move rfl) ⟨_, _, 0, 5, hs, rfl, rfl⟩ rfl (by kernel_rfl) (by kernel_rfl) (by kernel_rfl) ?_
      refine HW.takeR (fuel := 5) 9 rfl (fun _ _ ka kb _ hs hka hkb => Y.extract rfl rfl) ⟨_, _, 0, 5, hs, rfl, rfl⟩ rfl (by kernel_rfl) (by kernel_rfl) (by kernel_rfl) ?_
      refine HW.takeR (fuel := 4) 10 rfl (fun _ _ ka kb _ hs hka hkb => Y.extract rfl rfl) ⟨_, _, 0, 5, hs, rfl, rfl⟩ rfl (by kernel_rfl) (by kernel_rfl) (by kernel_rfl) ?_
      refine HW.takeR (fuel := 3) 11 rfl (fun _ _ ka kb _ hs hka hkb => Y.extract rfl rfl) ⟨_, _, 0, 5, hs, rfl, rfl⟩ rfl (by kernel_rfl) (by kernel_rfl) (by kernel_rfl) ?_
      refine HW.takeR (fuel := 2) 12 rfl (fun _ _ ka kb _ hs hka hkb => Y.assign rfl) ⟨_, _, 0, 5, hs, rfl, rfl⟩ rfl (by kernel_rfl) (by kernel_rfl) (by kernel_rfl) ?_
      refine HW.takeR (fuel := 1) 13 rfl (fun _ _ ka kb _ hs hka hkb => Y.assign rfl) ⟨_, _, 0, 5, hs, rfl, rfl⟩ rfl (by kernel_rfl) (by kernel_rfl) (by kernel_rfl) ?_
      refine HW.takeR (fuel := 0) 14 rfl (fun _ _ ka kb _ hs hka hkb => Y.assign rfl) ⟨_, _, 0, 5, hs, rfl, rfl⟩ rfl (by kernel_rfl) (by kernel_rfl) (by kernel_rfl) ?_
      refine HW.done (by kernel_rfl) ?_
      refine calmQ_normal ?_
      exact joinQ_meet (s64, t64, h64) ⟨rfl, rfl, rfl, rfl, rfl, rfl, rfl, rfl, rfl, rfl, rfl, rfl, rfl, rfl, rfl, rfl, trivial⟩ ⟨hle64, hL64, hT64, hs⟩
    rintro ⟨v1, v2, h10⟩ w9 ⟨hg10, hL10, hT10, hs⟩
    dsimp only at hg10 hL10 hT10 hs
    have hL10' := hL10
    obtain ⟨adq, cpq, rfl, _⟩ := hL10
    obtain ⟨adt, cpt, rfl, hSt⟩ := hT10
    refine Zerun ?_
    refine RW.val (Y.idxRN T hs 2 rfl rfl rfl rfl rfl rfl (by omega)) rfl ?_
    refine RW.st1 T hs 2 rfl rfl rfl rfl rfl rfl rfl (by omega) ?_
    intro w11 hs
    have hs := hs.drop
    refine Zerun ?_
    refine RW.append T hs 0 rfl rfl (m := x.shape.length) (news := x.shape.map (Value.int .i64)) rfl rfl rfl rfl rfl rfl (hSt.src hs.agree (one_ints _ _)) (fun e => by subst e; exact hSt.nil0.2) (by dsimp only; omega) (by omega) ?_
    intro ad12 cp12 w12 hs
    refine Zerun ?_
    have hz0 : 0 + x.shape.length = x.shape.length := Nat.zero_add _
    rw [hz0] at hs ⊢
    exact loopQ_round (1, .slice adq _ cpq, ad12, cp12, x.shape, h10) ⟨rfl, rfl, rfl, rfl, rfl, rfl, rfl, rfl, rfl, rfl, rfl, rfl, trivial⟩ ⟨by dsimp only; omega, hg.trans hg10, fun e => absurd e (by dsimp only; omega), fun _ => ⟨hL10', rfl⟩, rfl, hs⟩ (by dsimp only; omega)

  obtain rfl : i = 1 := by omega
  obtain ⟨hL1, hSx⟩ := hS1 rfl
  subst hSx
  obtain ⟨h12, hle12, hs, hS12⟩ := hs.freeze
  have hIs : IntsAt h12 (.slice adS x.shape.length cpS) x.shape := IntsAt.of_sl hS12
  obtain ⟨h13, hle13, hs, hS13⟩ := hs.freeze
  have hIs := hIs.mono hle13
  refine Zerun ?_
  (refine RW.call T hs rfl rfl rfl (product_con _ x.shape most _ _ hIs (by omega)) ?_; intro v h14 w14 hle14 hp14 hs)
  subst hp14
  rw [hP]
  have hS13 : Sl h14 1 (some ⟨b3, 0, none⟩) 1 1 [vl] := hS13.mono hle14
  have hL1 := hL1.mono ((hle12.trans hle13).trans hle14)
  have hIa' : IntsAt h14 (.slice ada 1 cpa) [n] := hIa'.mono (((hg.trans hle12).trans hle13).trans hle14)
  have hva' := hva'.mono hR (((hg.trans hle12).trans hle13).trans hle14)
  have hvb' := hvb'.mono hR (((hg.trans hle12).trans hle13).trans hle14)
  have hb' := ArrR.mono' hR (((hg.trans hle12).trans hle13).trans hle14) hb'
  obtain ⟨Lx, hLx⟩ : ∃ Lx, (x.vec.nums.map fun y => (wholeF y).1 - o) = Lx := ⟨_, rfl⟩
  have hLn : Lx.length ≤ 1048576 := by rw [← hLx, List.length_map]; exact hxn
  have hLr : ∀ z ∈ Lx, 0 ≤ z ∧ z < n := by
    rw [← hLx]; intro z hz
    obtain ⟨y, hy, rfl⟩ := List.mem_map.1 hz
    have := hr y hy
    omega
  rw [hLx] at hL1 hne ⊢
  refine Zerun ?_
  (refine RW.call T hs rfl rfl rfl (valueSingle_con _ b _ _ hb') ?_; intro v h15 w15 hle15 hp15 hs)
  subst hp15
  rw [decide_eq_true hb1]
  have hva' := hva'.mono hR hle15
  have hvb' := hvb'.mono hR hle15
  refine Zerun ?_
  (refine RW.lit T hs (vs := [.agg (vecCells a.vec.kind wv nv sm il fl ch bx).toArray, .agg (vecCells b.vec.kind wq nq sq iq fq cq bq).toArray]) (cs := (vecCells a.vec.kind wv nv sm il fl ch bx) ++ (vecCells b.vec.kind wq nq sq iq fq cq bq)) rfl rfl rfl rfl (by simp [Value.cells, vecCells]) rfl rfl rfl rfl rfl ?_; intro b16 w16 hs)
  obtain ⟨h16, hle16, hs, hS16⟩ := hs.freeze
  have hva' := hva'.mono hR hle16
  have hvb' := hvb'.mono hR hle16
  have hRows : RowsAt 8 (VecAt R h16) h16 (.slice (some ⟨b16, 0, none⟩) 2 2) [a.vec, b.vec] := ⟨_, _, _, rfl, hS16, ⟨rfl, hva', rfl, hvb', rfl⟩⟩
  refine Zerun ?_
  (refine RW.call T hs rfl rfl rfl (flatJoin_con hR h1 _ [a.vec, b.vec] _ _ hRows (by show a.vec.len + (b.vec.len + 0) ≤ _; omega)) ?_; intro v h17 w17 hle17 hp17 hs)
  obtain ⟨cs17, ok17, rfl, _, hp17⟩ := hp17
  obtain ⟨rfl, hV17⟩ := hp17 c hj
  change VecAt R h17 cs17 (joinedW c [a.vec, b.vec]) at hV17
  obtain ⟨V, hVe⟩ : ∃ V, joinedW c [a.vec, b.vec] = V := ⟨_, rfl⟩
  rw [hVe] at hV17 hVk hVl hne ⊢
  have hV' := hV17
  obtain ⟨w3, n3, s3, i3, f3, c3, x3, ⟨rfl, hoc3⟩, _⟩ := hV17
  have hva' := hva'.mono hR hle17
  have hS13 := hS13.mono ((hle15.trans hle16).trans hle17)
  have hL1 := hL1.mono ((hle15.trans hle16).trans hle17)
  have hIa' := hIa'.mono ((hle15.trans hle16).trans hle17)
  have hb' := ArrR.mono' hR ((hle15.trans hle16).trans hle17) hb'
  refine Zerun ?_
  (refine RW.allocN T hs rfl rfl rfl rfl ?_; intro b18 w18 hs)
  (refine RW.storeAll T hs 0 rfl rfl rfl rfl rfl rfl hoc3 rfl ?_; intro w19 hs)
  refine Zerun ?_
  (refine RW.call T hs rfl rfl rfl (vecLen_con _ a.vec _ _ hva') ?_; intro v h20 w20 hle20 hp20 hs)
  subst hp20
  rw [hml]
  refine Zerun ?_
  (refine RW.make1 T hs rfl rfl rfl rfl rfl rfl rfl (by dsimp only; omega) (by omega) ?_; intro b21 w21 hs)
  refine Zerun ?_
  refine CW.loop (fun i : Nat => [(5, .pointer (some ⟨b1, 0, none⟩)), (7, .pointer (some ⟨b2, 0, none⟩)), (10, .pointer (some ⟨b4, 0, none⟩)), (11, .int .i64 0), (12, .slice (some ⟨b3, 0, none⟩) 1 1), (21, .pointer (some ⟨b18, 0, none⟩)), (23, .slice (some ⟨b21, 0, none⟩) m m), (126, .slice (some ⟨b21, 0, none⟩) m m), (127, .int .i64 m), (128, .int .i64 i)]) (fun i w' => i ≤ m ∧ Sees w h h20 (⟨some ⟨b21, 0, none⟩, m, m, 3, 1, ((List.range i).map fun y : Nat => (y : Int)).map (Value.int .i64) ++ List.replicate (m - i) (.int .i64 0)⟩ :: ⟨some ⟨b18, 0, none⟩, 1, 1, 61, 8, vecCells V.kind w3 n3 s3 i3 f3 c3 x3⟩ :: ⟨some ⟨b4, 0, none⟩, 1, 1, 63, 9, .slice none 0 0 :: vecCells 0 (.slice none 0 0) 0 (.slice none 0 0) (.slice none 0 0) (.slice none 0 0) (.slice none 0 0) (.slice none 0 0)⟩ :: ⟨some ⟨b2, 0, none⟩, 1, 1, 63, 9, .slice adb b.shape.length cpb :: vecCells b.vec.kind wq nq sq iq fq cq bq⟩ :: ⟨some ⟨b1, 0, none⟩, 1, 1, 63, 9, .slice ada 1 cpa :: vecCells a.vec.kind wv nv sm il fl ch bx⟩ :: []) w') (fun i => m - i) 0 ⟨rfl, rfl, rfl, rfl, rfl, rfl, rfl, rfl, rfl, rfl, trivial⟩ ⟨Nat.zero_le _, hs⟩ ?_
  · rintro i w22 ⟨hi, hs⟩
    by_cases hlt : i < m
    · refine Zerun ?_
      refine RW.val (Y.idxRN T hs 0 rfl rfl rfl rfl rfl rfl hlt) rfl ?_
      refine RW.st1 T hs 0 rfl rfl rfl rfl rfl rfl rfl hlt ?_
      intro w23 hs
      replace hs := hs.re (fill_snoc (fun y : Nat => (y : Int)) i m hlt _)
      refine Zerun ?_
      exact loopQ_round (i + 1) ⟨rfl, rfl, rfl, rfl, rfl, rfl, rfl, rfl, rfl, rfl, trivial⟩ ⟨by omega, hs⟩ (by omega)
    obtain rfl : m = i := by omega
    replace hs := hs.re (show _ = ((List.range m).map (atF m Lx 0)).map (Value.int .i64) by rw [Nat.sub_self, List.replicate_zero, List.append_nil, atF_zero])
    refine Zerun ?_
    have hva' := hva'.mono hR hle20
    have hb' := ArrR.mono' hR hle20 hb'
    (refine RW.call T hs rfl rfl rfl (indexCross_con b3 1 _ vl n Lx _ _ (hS13.mono hle20) (hL1.mono hle20) (hIa'.mono hle20) hLn hn (fun z hz => by have := hLr z hz; omega)) ?_; intro v h23 w23 hle23 hp23 hs)
    obtain ⟨adz, cpz, rfl, hSz⟩ := hp23
    have hva' := hva'.mono hR hle23
    have hb' := ArrR.mono' hR hle23 hb'
    refine Zerun ?_
    refine CW.loop (fun u : Nat × GHeap => [(5, .pointer (some ⟨b1, 0, none⟩)), (7, .pointer (some ⟨b2, 0, none⟩)), (10, .pointer (some ⟨b4, 0, none⟩)), (11, .int .i64 0), (21, .pointer (some ⟨b18, 0, none⟩)), (23, .slice (some ⟨b21, 0, none⟩) m m), (139, .slice adz Lx.length cpz), (140, .int .i64 Lx.length), (141, .int .i64 u.1)]) (fun u w' => u.1 ≤ Lx.length ∧ GLe h23 u.2 ∧ Sees w h u.2 (⟨some ⟨b21, 0, none⟩, m, m, 3, 1, ((List.range m).map (atF m Lx u.1)).map (Value.int .i64)⟩ :: ⟨some ⟨b18, 0, none⟩, 1, 1, 61, 8, vecCells V.kind w3 n3 s3 i3 f3 c3 x3⟩ :: ⟨some ⟨b4, 0, none⟩, 1, 1, 63, 9, .slice none 0 0 :: vecCells 0 (.slice none 0 0) 0 (.slice none 0 0) (.slice none 0 0) (.slice none 0 0) (.slice none 0 0) (.slice none 0 0)⟩ :: ⟨some ⟨b2, 0, none⟩, 1, 1, 63, 9, .slice adb b.shape.length cpb :: vecCells b.vec.kind wq nq sq iq fq cq bq⟩ :: ⟨some ⟨b1, 0, none⟩, 1, 1, 63, 9, .slice ada 1 cpa :: vecCells a.vec.kind wv nv sm il fl ch bx⟩ :: []) w') (fun u => Lx.length - u.1) (0, h23) ⟨rfl, rfl, rfl, rfl, rfl, rfl, rfl, rfl, rfl, trivial⟩ ⟨Nat.zero_le _, GLe.refl _, hs⟩ ?_
    rintro ⟨j, h24⟩ w24 ⟨hj, hg24, hs⟩
    dsimp only at hj hg24 hs ⊢
    have hva' := hva'.mono hR hg24
    have hb' := ArrR.mono' hR hg24 hb'
    have hSz := hSz.mono hg24
    by_cases hjt : j < Lx.length
    · have hz := hLr _ (mem_getD Lx j 0 hjt)
      obtain ⟨q, hq⟩ : ∃ q : Nat, Lx.getD j 0 = (q : Int) := ⟨(Lx.getD j 0).toNat, by omega⟩
      have hqm : q < m := by omega
      refine Zerun ?_
      (refine RW.call T hs rfl rfl rfl (vecLen_con _ a.vec _ _ hva') ?_; intro v h25 w25 hle25 hp25 hs)
      subst hp25
      rw [hml, hq]
      have hb' := ArrR.mono' hR hle25 hb'
      refine Zerun ?_
      refine RW.val (Y.idxRN T hs 0 rfl rfl rfl rfl rfl rfl hqm) rfl ?_
      refine RW.st1 T hs 0 rfl rfl rfl rfl rfl rfl rfl hqm ?_
      intro w26 hs
      replace hs := hs.re (atF_set m Lx j q hjt hq)
      refine Zerun ?_
      (refine RW.call T hs rfl rfl rfl (valueSingle_con _ b _ _ hb') ?_; intro v h27 w27 hle27 hp27 hs)
      subst hp27
      rw [decide_eq_true hb1]
      refine Zerun ?_
      exact loopQ_round (j + 1, h27) ⟨rfl, rfl, rfl, rfl, rfl, rfl, rfl, rfl, rfl, trivial⟩ ⟨by dsimp only; omega, (hg24.trans hle25).trans hle27, hs⟩ (by dsimp only; omega)
    obtain rfl : j = Lx.length := by omega
    rw [atF_all] at hs
    obtain ⟨h28, hle28, hs, hS28⟩ := hs.freeze
    have hI28 : IntsAt h28 (.slice (some ⟨b21, 0, none⟩) m m) (atL m Lx) := IntsAt.of_sl hS28
    have hV' := hV'.mono hR (((hle20.trans hle23).trans hg24).trans hle28)
    have hIa' := hIa'.mono (((hle20.trans hle23).trans hg24).trans hle28)
    refine Zerun ?_
    rw [hsh] at hne ⊢
    refine CW.regionR T 3 0 hs rfl rfl ?_
    intro w29 hs
    refine HW.takeR (fuel := 10) 0 rfl (fun _ _ ka kb _ hs hka hkb => Y.fieldAddr T rfl rfl rfl rfl rfl) ⟨_, _, 3, 0, hs, rfl, rfl⟩ rfl (by kernel_rfl) (by kernel_rfl) (by kernel_rfl) ?_
    refine HW.takeR (fuel := 9) 1 rfl (fun _ _ ka kb _ hs hka hkb => Y.loadRow1 T hs ka hka rfl rfl rfl rfl) ⟨_, _, 3, 0, hs, rfl, rfl⟩ rfl (by kernel_rfl) (by kernel_rfl) (by kernel_rfl) ?_
    refine HW.takeR (fuel := 8) 3 rfl (fun _ _ ka kb _ hs hka hkb => Y.loadRowN T hs kb hkb rfl rfl rfl rfl rfl rfl) ⟨_, _, 3, 0, hs, rfl, rfl⟩ rfl (by kernel_rfl) (by kernel_rfl) (by kernel_rfl) ?_
    refine HW.takeR (fuel := 7) 4 rfl (fun _ _ ka kb _ hs hka hkb => Y.move rfl) ⟨_, _, 3, 0, hs, rfl, rfl⟩ rfl (by kernel_rfl) (by kernel_rfl) (by kernel_rfl) ?_
    refine HW.one (fuel := 6) 2 rfl (by kernel_rfl) ?_
    (refine RW.call T hs rfl rfl rfl (cloneInts_con _ [n] _ _ hIa' (show 1 ≤ 1099511627776 by decide)) ?_; intro v h165 w165 hle165 hp165 hs)
    have hV' := hV'.mono hR hle165
    have hI28 := hI28.mono hle165
    refine RW.nil ?_
    refine heldQ_normal ⟨_, _, 3, 0, hs, rfl, rfl⟩ ?_
    refine HW.one (fuel := 5) 5 rfl (by kernel_rfl) ?_
    (refine RW.call T hs rfl rfl rfl (flatPick_con hR h1 h9 nb hbl _ V _ (atL m Lx) _ _ hV' hI28 (by rw [atL_len]; omega) hVl hVk) ?_; intro v h168 w168 hle168 hp168 hs)
    obtain ⟨cs168, rfl, hv168⟩ := hp168
    have hp165 := hp165.mono hle168
    refine RW.nil ?_
    refine heldQ_normal ⟨_, _, 3, 0, hs, rfl, rfl⟩ ?_
    refine HW.one (fuel := 4) 6 rfl (by kernel_rfl) ?_
    (refine RW.call T hs rfl rfl rfl (valueNew_con hR _ [n] _ _ _ _ (show IntsAt _ _ [n] from hp165) hv168) ?_; intro v h169 w169 hle169 hp169 hs)
    rw [hne] at hp169
    obtain ⟨cs169, rfl, hl169, ho169, hA169, _⟩ := hp169
    refine RW.nil ?_
    refine heldQ_normal ⟨_, _, 3, 0, hs, rfl, rfl⟩ ?_
    refine HW.takeR (fuel := 3) 7 rfl (fun _ _ ka kb _ hs hka hkb => Y.extract rfl rfl) ⟨_, _, 3, 0, hs, rfl, rfl⟩ rfl (by kernel_rfl) (by kernel_rfl) (by kernel_rfl) ?_
    refine HW.takeR (fuel := 2) 8 rfl (fun _ _ ka kb _ hs hka hkb => Y.extract rfl rfl) ⟨_, _, 3, 0, hs, rfl, rfl⟩ rfl (by kernel_rfl) (by kernel_rfl) (by kernel_rfl) ?_
    refine HW.one (fuel := 1) 9 rfl (by kernel_rfl) ?_
    refine RW.storeAll T hs 1 rfl rfl rfl rfl rfl hl169 (List.all_eq_true.2 ho169) hl169 ?_
    intro w170 hs
    refine RW.nil ?_
    refine heldQ_normal ⟨_, _, 3, 0, hs, rfl, rfl⟩ ?_
    refine HW.takeR (fuel := 0) 10 rfl (fun _ _ ka kb _ hs hka hkb => Y.assign rfl) ⟨_, _, 3, 0, hs, rfl, rfl⟩ rfl (by kernel_rfl) (by kernel_rfl) (by kernel_rfl) ?_
    refine HW.done (by kernel_rfl) ?_
    refine calmQ_normal ?_
    refine Zerun ?_
    exact retQ_ret [_, _] h169 ⟨resN T hs 1 rfl rfl rfl rfl rfl hl169, rfl, trivial⟩ hs.dropAll ⟨_, rfl, hA169 rfl⟩
end
end Go.Proofs.Ythbfkhklihejiaa

/-
  Contracts of the document's answer of layer 8: items again and again, turned, behind each other; a number brought between two. No statement is proved here.
-/
namespace Go.Proofs.Ythbfkhklihejiaa
open Go Go.RowKit
set_option linter.unusedVariables false
set_option linter.unusedSimpArgs false
set_option maxHeartbeats 4000000
attribute [local irreducible] CW RW QW SW HW ConM retM heldQ calmQ elemP thenQ blockQ loopQ joinQ retQ Yields Con Sl zF magR unitF truncF fwF wholeF tidySpec elemQ rankF leastN tidyW
set_option maxHeartbeats 4000000

theorem turnL_getD {n j : Nat} (h : j < n) : (turnL n).getD j 0 = ((n - 1 - j : Nat) : Int) := by simp [turnL, List.getD_eq_getElem?_getD, h]
theorem againL_getD {n m j : Nat} (h : j < n) : (againL n m).getD j 0 = againI m j := by simp [againL, List.getD_eq_getElem?_getD, h]
def intoI (n a b : Int) : Int := if n < a then a else if b < n then b else n
theorem refInto_con (n a b : Int) (w : World) (h : GHeap) : Con Try.prog 82 [.int .i64 n, .int .i64 a, .int .i64 b] w h (fun _ u => u = .int .i64 (intoI n a b)) := by
  refine Con.of_body Try.func82 rfl Try.ntmps82 rfl rfl ?_
  intro hs
  unfold intoI
  by_cases c1 : n < a
  · rw [if_pos c1]
    refine Zerun ?_
    exact retQ_ret [_] h ⟨rfl, trivial⟩ hs rfl
  rw [if_neg c1]
  by_cases c2 : b < n
  · rw [if_pos c2]
    refine Zerun ?_
    exact retQ_ret [_] h ⟨rfl, trivial⟩ hs rfl
  rw [if_neg c2]
  refine Zerun ?_
  exact retQ_ret [_] h ⟨rfl, trivial⟩ hs rfl
section
variable {γ : Type} {RC : GHeap → List Value → γ → Prop}
theorem refTurn08_con (hRC : Mono RC) (v : Value) (l : List (ItemD γ)) (w : World) (h : GHeap) (hl : RowsAt 4 (ItemAt RC h) h v l) (hm : l.length ≤ 1048576) : Con Try.prog 87 [v] w h (fun h' u => RowsAt 4 (ItemAt RC h') h' u ((turnL l.length).map fun i => atD l i noItem)) := by
  have hRI := ItemAt.mono hRC
  obtain ⟨ad, cp, xs, rfl, hS, hA⟩ := hl
  refine Con.of_body Try.func87 rfl Try.ntmps87 rfl rfl ?_
  intro hs
  refine Zerun ?_
  have hs := hs.nilRow 83 4
  refine CW.loop (fun u : Nat × Option Addr × Nat × List Value => [(0, .slice ad l.length cp), (3, .slice u.2.1 u.1 u.2.2.1), (4, .int .i64 ((l.length : Int) - 1 - u.1))]) (fun u w' => u.1 ≤ l.length ∧ AllN 4 (ItemAt RC h) u.2.2.2 (((turnL l.length).take u.1).map fun i => atD l i noItem) ∧ Sees w h h [⟨u.2.1, u.1, u.2.2.1, 83, 4, u.2.2.2⟩] w') (fun u => l.length - u.1) (0, none, 0, []) ⟨rfl, rfl, seti (by dsimp only; omega), trivial⟩ ⟨by omega, rfl, hs⟩ ?_
  rintro ⟨i, ra, rc, vs⟩ w5 ⟨hi, hAv, hs⟩
  dsimp only at hi hAv hs ⊢
  by_cases hlt : i < l.length
  · have htk := take_succ_getD (turnL l.length) i 0 (by rw [turnL_length]; exact hlt)
    rw [turnL_getD hlt] at htk
    have hlk : ((l.length : Int) - 1 - i).toNat < l.length := by omega
    obtain ⟨y, hy, hyl, hRy⟩ := hA.elem _ hlk
    have hoy := ItemAt.one _ _ _ hRy
    have hnx : AllN 4 (ItemAt RC h) (vs ++ y) (((turnL l.length).take (i + 1)).map fun i => atD l i noItem) := by
      rw [htk, List.map_append]
      refine hAv.append (AllN.one hyl ?_)
      show ItemAt RC h y (atD l ((l.length - 1 - i : Nat) : Int) noItem)
      rw [atD_in ⟨by omega, by omega⟩, ← getElem_getD l _ noItem (by omega)]
      have e : ((l.length : Int) - 1 - i).toNat = ((l.length - 1 - i : Nat) : Int).toNat := by omega
      simpa only [e] using hRy
    refine Zerun ?_
    (refine RW.lit T hs (vs := [.agg y.toArray]) (cs := y) rfl rfl rfl rfl (by simp [Value.cells, hyl]) rfl (by simp [Value.cells]) rfl rfl rfl ?_; intro b7 w7 hs)
    (refine RW.append T hs 1 rfl rfl (m := 1) (news := y) rfl rfl rfl rfl rfl rfl (hs.src0 (by simpa using hyl) hoy) (by simp) (by dsimp only; omega) (by omega) ?_; intro ad8 cp8 w8 hs; replace hs := hs.drop)
    refine Zerun ?_
    exact loopQ_round (i + 1, ad8, cp8, vs ++ y) ⟨rfl, rfl, seti (by dsimp only; omega), trivial⟩ ⟨by dsimp only; omega, hnx, hs⟩ (by dsimp only; omega)
  · obtain rfl : i = l.length := by omega
    rw [List.take_of_length_le (by rw [turnL_length]; exact Nat.le_refl _)] at hAv
    obtain ⟨h6, hle6, hs, hS6⟩ := hs.freeze
    refine Zerun ?_
    exact retQ_ret [_] h6 ⟨rfl, trivial⟩ hs.dropAll ⟨ra, rc, vs, by simp [packv, turnL_length], by simpa [turnL_length] using hS6, hAv.mono (fun u a => hRI _ _ u a hle6)⟩
end
section
variable {β : Type} {R : GHeap → List Value → β → Prop}
theorem refAgain08_con (hR : Mono R) (v : Value) (l : List (ItemD (PlainD β))) (c n : Int) (w : World) (h : GHeap) (hl : RowsAt 4 (ItemAt (PlainR R) h) h v l) (hn : n ≤ 1048576) : Con Try.prog 85 [v, .int .i64 c, .int .i64 n] w h (fun h' u => RowsAt 4 (ItemAt (PlainR R) h') h' u ((againL n.toNat l.length).map fun i => atD l i (blankI c))) := by
  have hRI := ItemAt.mono (PlainR.mono hR)
  obtain ⟨ad, cp, xs, rfl, hS, hA⟩ := hl
  have hlen : l.length ≤ 9223372036854775807 := by have := hS.caps; omega
  refine Con.of_body Try.func85 rfl Try.ntmps85 rfl rfl ?_
  intro hs
  refine Zerun ?_
  have hs := hs.nilRow 83 4
  refine CW.loop (fun u : Nat × Option Addr × Nat × List Value × GHeap => [(0, .slice ad l.length cp), (1, .int .i64 c), (2, .int .i64 n), (7, .slice u.2.1 u.1 u.2.2.1), (8, .int .i64 u.1)]) (fun u w' => u.1 ≤ n.toNat ∧ GLe h u.2.2.2.2 ∧ AllN 4 (ItemAt (PlainR R) u.2.2.2.2) u.2.2.2.1 (((againL n.toNat l.length).take u.1).map fun i => atD l i (blankI c)) ∧ Sees w h u.2.2.2.2 [⟨u.2.1, u.1, u.2.2.1, 83, 4, u.2.2.2.1⟩] w') (fun u => n.toNat - u.1) (0, none, 0, [], h) ⟨rfl, rfl, rfl, rfl, rfl, trivial⟩ ⟨by omega, GLe.refl _, rfl, hs⟩ ?_
  rintro ⟨i, ra, rc, vs, hh⟩ w5 ⟨hi, hg, hAv, hs⟩
  dsimp only at hi hg hAv hs ⊢
  have hS := hS.mono hg
  by_cases hlt : i < n.toNat
  · have htk := take_succ_getD (againL n.toNat l.length) i 0 (by rw [againL_length]; exact hlt)
    rw [againL_getD hlt] at htk
    have done : ∀ (h6 : GHeap) (cs6 : List Value) (x : ItemD (PlainD β)), GLe hh h6 → cs6.length = 4 → ItemAt (PlainR R) h6 cs6 x → x = atD l (againI l.length i) (blankI c) → AllN 4 (ItemAt (PlainR R) h6) (vs ++ cs6) (((againL n.toNat l.length).take (i + 1)).map fun i => atD l i (blankI c)) := by
      intro h6 cs6 x hle6 hl6 hi6 hx
      rw [htk, List.map_append]
      show AllN 4 _ (vs ++ cs6) (_ ++ [atD l (againI l.length i) (blankI c)])
      rw [← hx]
      exact (hAv.mono (fun u a => hRI _ _ u a hle6)).append (AllN.one hl6 hi6)
    by_cases c1 : l.length = 0
    · refine Zerun ?_
      (refine RW.call T hs rfl rfl rfl (refBlank08_con hR c _ _) ?_; intro v h6 w6 hle6 hp6 hs)
      obtain ⟨cs6, rfl, hi6⟩ := hp6
      have hl6 : cs6.length = 4 := by obtain ⟨_, rfl, _⟩ := hi6; rfl
      have ho6 := ItemAt.one _ _ _ hi6
      (refine RW.lit T hs (vs := [.agg cs6.toArray]) (cs := cs6) rfl rfl rfl rfl (by simp [Value.cells, hl6]) rfl (by simp [Value.cells]) rfl rfl rfl ?_; intro b7 w7 hs)
      (refine RW.append T hs 1 rfl rfl (m := 1) (news := cs6) rfl rfl rfl rfl rfl rfl (hs.src0 (by simpa using hl6) ho6) (by simp) (by dsimp only; omega) (by omega) ?_; intro ad8 cp8 w8 hs; replace hs := hs.drop)
      refine Zerun ?_
      exact loopQ_round (i + 1, ad8, cp8, vs ++ cs6, h6) ⟨rfl, rfl, rfl, rfl, rfl, trivial⟩ ⟨by dsimp only; omega, hg.trans hle6, done h6 cs6 _ hle6 hl6 hi6 (by unfold againI; rw [if_neg (by omega)]; rfl), hs⟩ (by dsimp only; omega)
    have hmp : 0 < l.length := by omega
    have hmod := Nat.mod_lt i hmp
    have hlk : ((i : Int) % (l.length : Int)).toNat < l.length := by omega
    obtain ⟨y, hy, hyl, hRy⟩ := hA.elem _ hlk
    have hoy := ItemAt.one _ _ _ hRy
    have hRy := hRI _ _ _ _ hg hRy
    refine Zerun ?_
    (refine RW.lit T hs (vs := [.agg y.toArray]) (cs := y) rfl rfl rfl rfl (by simp [Value.cells, hyl]) rfl (by simp [Value.cells]) rfl rfl rfl ?_; intro b7 w7 hs)
    (refine RW.append T hs 1 rfl rfl (m := 1) (news := y) rfl rfl rfl rfl rfl rfl (hs.src0 (by simpa using hyl) hoy) (by simp) (by dsimp only; omega) (by omega) ?_; intro ad8 cp8 w8 hs; replace hs := hs.drop)
    refine Zerun ?_
    have ea : againI l.length i = (i : Int) % (l.length : Int) := by unfold againI; rw [if_pos hmp]; omega
    exact loopQ_round (i + 1, ad8, cp8, vs ++ y, hh) ⟨rfl, rfl, rfl, rfl, rfl, trivial⟩ ⟨by dsimp only; omega, hg, done hh y _ (GLe.refl _) hyl hRy (by rw [ea]; exact (getElem_getD l _ _ hlk).trans (atD_in (by omega)).symm), hs⟩ (by dsimp only; omega)
  · obtain rfl : i = n.toNat := by omega
    rw [List.take_of_length_le (by rw [againL_length]; exact Nat.le_refl _)] at hAv
    obtain ⟨h6, hle6, hs, hS6⟩ := hs.freeze
    refine Zerun ?_
    exact retQ_ret [_] h6 ⟨rfl, trivial⟩ hs.dropAll ⟨ra, rc, vs, by simp [packv, againL_length], by simpa [againL_length] using hS6, hAv.mono (fun u a => hRI _ _ u a hle6)⟩
end
section
variable {γ : Type} {RC : GHeap → List Value → γ → Prop}
def joinP (c : Int) : List (PlainD γ) → Option Int
  | [] => some c
  | p :: l => if 0 < p.items.length ∧ 0 ≤ c ∧ c ≠ p.fill then none else joinP (if 0 < p.items.length then p.fill else c) l
def headF : List (PlainD γ) → Int
  | [] => 0
  | p :: _ => p.fill
theorem fmi_len' : ∀ (l : List (PlainD γ)) (i : Nat), ((l.take i).flatMap (·.items)).length ≤ (l.map (·.items.length)).sum
  | [], i => by simp
  | v :: l, 0 => by simp
  | v :: l, i + 1 => by
    have := fmi_len' l i
    simp only [List.take_succ_cons, List.map_cons, List.sum_cons, List.flatMap_cons, List.length_append]
    omega
theorem refJoin08_con (hRC : Mono RC) (s : Value) (l : List (PlainD γ)) (w : World) (h : GHeap) (hl : RowsAt 3 (PlainR RC h) h s l) (hm : (l.map (·.items.length)).sum ≤ 1048576) (hf : ∀ p ∈ l, 0 ≤ p.fill) : Con Try.prog 73 [s] w h (fun h' u => ∃ s' cl, u = .tuple #[s', .int .i64 cl] ∧ (joinP (-1) l = none → cl = -1) ∧ ∀ c, joinP (-1) l = some c → cl = (if 0 ≤ c then c else headF l) ∧ RowsAt 4 (ItemAt RC h') h' s' (l.flatMap (·.items))) := by
  have hRI := ItemAt.mono hRC
  obtain ⟨ad, cp, xs, rfl, hS, hA⟩ := hl
  have hlen : l.length ≤ 9223372036854775807 := by have := hS.caps; omega
  refine Con.of_body Try.func73 rfl Try.ntmps73 rfl rfl ?_
  intro hs
  refine Zerun ?_
  have hs := hs.nilRow 83 4
  refine CW.loop (fun u : Nat × Int × (Option Addr × Nat × Nat) × List Value => [(0, .slice ad l.length cp), (4, .slice u.2.2.1.1 u.2.2.1.2.1 u.2.2.1.2.2), (5, .int .i64 u.2.1), (6, .int .i64 u.1)]) (fun u w' => u.1 ≤ l.length ∧ AllN 4 (ItemAt RC h) u.2.2.2 ((l.take u.1).flatMap (·.items)) ∧ u.2.2.1.2.1 = ((l.take u.1).flatMap (·.items)).length ∧ joinP (-1) l = joinP u.2.1 (l.drop u.1) ∧ -1 ≤ u.2.1 ∧ Sees w h h [⟨u.2.2.1.1, u.2.2.1.2.1, u.2.2.1.2.2, 83, 4, u.2.2.2⟩] w') (fun u => l.length - u.1) (0, -1, (none, 0, 0), []) ⟨rfl, rfl, rfl, rfl, trivial⟩ ⟨by omega, rfl, rfl, rfl, by dsimp only; omega, hs⟩ ?_
  rintro ⟨i, c, ⟨ra, rn, rc⟩, vs⟩ w5 ⟨hi, hAv, hn, hJ, hcm, hs⟩
  dsimp only at hi hAv hn hJ hcm hs ⊢
  by_cases hlt : i < l.length
  · obtain ⟨y, hy, hyl, hRy⟩ := hA.elem _ hlt
    have htk := fm_take_succ (·.items) l i hlt
    have hlen2 := fmi_len' l (i + 1)
    have hd := List.drop_eq_getElem_cons hlt
    rw [hd] at hJ
    have hf0 := hf _ (List.getElem_mem hlt)
    rw [htk, List.length_append, ← hn] at hlen2
    generalize hve : l[i] = p at *
    obtain ⟨sv, it, rfl, hsh, ⟨ad2, cp2, xs2, rfl, hS2, hA2⟩⟩ := hRy
    have hx1 : xs[i * 3 + 1]? = some (.slice ad2 p.items.length cp2) := by rw [AllN.get4 hy 1 (by omega)]; rfl
    have hx2 : xs[i * 3 + 2]? = some (.int .i64 p.fill) := by rw [AllN.get4 hy 2 (by omega)]; rfl
    have ho2 := hA2.ones (ItemAt.one h)
    have hnx : AllN 4 (ItemAt RC h) (vs ++ xs2) ((l.take (i + 1)).flatMap (·.items)) := by rw [htk]; exact hAv.append hA2
    have hnn : rn + p.items.length = ((l.take (i + 1)).flatMap (·.items)).length := by rw [htk, List.length_append, hn]
    by_cases c1 : 0 < p.items.length
    · have hstep : (0 ≤ c → c = p.fill) → joinP c (p :: l.drop (i + 1)) = joinP p.fill (l.drop (i + 1)) := fun e => by
        rw [joinP, if_neg (fun e2 => e2.2.2 (e e2.2.1)), if_pos c1]
      by_cases c2 : 0 ≤ c
      · by_cases c3 : c = p.fill
        · refine Zerun ?_
          refine RW.append T hs 0 rfl rfl (m := p.items.length) (news := xs2) rfl rfl rfl rfl rfl rfl (hS2.src hs.agree ho2) (fun e => by subst e; exact hS2.nil0.2) (by dsimp only; omega) (by omega) ?_
          intro ad9 cp9 w9 hs
          refine Zerun ?_
          exact loopQ_round (i + 1, p.fill, (ad9, rn + p.items.length, cp9), vs ++ xs2) ⟨rfl, rfl, rfl, rfl, trivial⟩ ⟨by dsimp only; omega, hnx, hnn, hJ.trans (hstep (fun _ => c3)), by dsimp only; omega, hs⟩ (by dsimp only; omega)
        · refine Zerun ?_
          refine retQ_ret [_, _] h ⟨rfl, rfl, trivial⟩ hs.dropAll ⟨_, -1, rfl, fun _ => rfl, fun c' e => ?_⟩
          rw [hJ, joinP, if_pos ⟨c1, c2, c3⟩] at e
          cases e
      · refine Zerun ?_
        refine RW.append T hs 0 rfl rfl (m := p.items.length) (news := xs2) rfl rfl rfl rfl rfl rfl (hS2.src hs.agree ho2) (fun e => by subst e; exact hS2.nil0.2) (by dsimp only; omega) (by omega) ?_
        intro ad9 cp9 w9 hs
        refine Zerun ?_
        exact loopQ_round (i + 1, p.fill, (ad9, rn + p.items.length, cp9), vs ++ xs2) ⟨rfl, rfl, rfl, rfl, trivial⟩ ⟨by dsimp only; omega, hnx, hnn, hJ.trans (hstep (fun e => absurd e c2)), by dsimp only; omega, hs⟩ (by dsimp only; omega)
    · have hstep : joinP c (p :: l.drop (i + 1)) = joinP c (l.drop (i + 1)) := by rw [joinP, if_neg (fun e => c1 e.1), if_neg c1]
      refine Zerun ?_
      refine RW.append T hs 0 rfl rfl (m := p.items.length) (news := xs2) rfl rfl rfl rfl rfl rfl (hS2.src hs.agree ho2) (fun e => by subst e; exact hS2.nil0.2) (by dsimp only; omega) (by omega) ?_
      intro ad9 cp9 w9 hs
      refine Zerun ?_
      exact loopQ_round (i + 1, c, (ad9, rn + p.items.length, cp9), vs ++ xs2) ⟨rfl, rfl, rfl, rfl, trivial⟩ ⟨by dsimp only; omega, hnx, hnn, hJ.trans hstep, hcm, hs⟩ (by dsimp only; omega)
  · obtain rfl : i = l.length := by omega
    rw [List.take_length] at hAv hn
    rw [List.drop_length] at hJ
    have hJ : joinP (-1) l = some c := hJ
    subst hn
    obtain ⟨h6, hle6, hs, hS6⟩ := hs.freeze
    have hS := hS.mono hle6
    have hres : ∀ cl, cl = (if 0 ≤ c then c else headF l) → ∃ s' cl', Value.tuple #[.slice ra (l.flatMap (·.items)).length rc, .int .i64 cl] = .tuple #[s', .int .i64 cl'] ∧ (joinP (-1) l = none → cl' = -1) ∧ ∀ c, joinP (-1) l = some c → cl' = (if 0 ≤ c then c else headF l) ∧ RowsAt 4 (ItemAt RC h6) h6 s' (l.flatMap (·.items)) := by
      intro cl hcl
      refine ⟨_, cl, rfl, (fun e => by rw [hJ] at e; cases e), fun c' e => ?_⟩
      rw [hJ] at e
      cases e
      exact ⟨hcl, ra, rc, vs, rfl, hS6, hAv.mono (fun u a => hRI _ _ u a hle6)⟩
    by_cases c1 : 0 ≤ c
    · refine Zerun ?_
      exact retQ_ret [_, _] h6 ⟨rfl, rfl, trivial⟩ hs.dropAll (hres c (by rw [if_pos c1]))
    · rw [if_neg c1] at hres
      by_cases c2 : 0 < l.length
      · obtain ⟨y, hy, hyl, hRy⟩ := hA.elem 0 c2
        have hf0 := hf _ (List.getElem_mem c2)
        have hhd : headF l = l[0].fill := by cases l with | nil => cases c2 | cons a l => rfl
        generalize hve : l[0] = p at *
        obtain ⟨sv, it, rfl, hsh, ⟨ad2, cp2, xs2, rfl, hS2, hA2⟩⟩ := hRy
        have hx2 : xs[0 * 3 + 2]? = some (.int .i64 p.fill) := by rw [AllN.get4 hy 2 (by omega)]; rfl
        refine Zerun ?_
        exact retQ_ret [_, _] h6 ⟨rfl, rfl, trivial⟩ hs.dropAll (hres p.fill hhd.symm)
      · have hhd : headF l = 0 := by cases l with | nil => rfl | cons a l => exact absurd (Nat.succ_pos _) c2
        refine Zerun ?_
        exact retQ_ret [_, _] h6 ⟨rfl, rfl, trivial⟩ hs.dropAll (hres 0 hhd.symm)
end
end Go.Proofs.Ythbfkhklihejiaa

/-
  Contracts of the document's answer and of the laws: how many items a good plain array has. No statement is proved here.
-/
namespace Go.Proofs.Ythbfkhklihejiaa
open Go Go.RowKit
set_option linter.unusedVariables false
set_option linter.unusedSimpArgs false
set_option maxHeartbeats 4000000
attribute [local irreducible] CW RW QW SW HW ConM retM heldQ calmQ elemP thenQ blockQ loopQ joinQ retQ Yields Con Sl zF magR unitF truncF fwF wholeF tidySpec elemQ rankF leastN tidyW
set_option maxHeartbeats 4000000

section
variable {α : Type} {R : GHeap → List Value → α → Prop}
theorem refCountB_step (hR : Mono R) (most : Int) (ih : ∀ cs a w h, R h cs a → Con Try.prog 40 [.agg cs.toArray, .int .i64 most] w h (fun _ u => ∃ r, u = .int .i64 r))
    (cs : List Value) (p : PlainD α) (w : World) (h : GHeap) (hp : PlainR R h cs p) : Con Try.prog 40 [.agg cs.toArray, .int .i64 most] w h (fun _ u => ∃ r, u = .int .i64 r ∧ (p.shape.length ≤ 8 → p.items.length ≤ 1048576 → r ≤ most → (p.items.length : Int) + p.shape.length + 1 ≤ most)) := by
  obtain ⟨s, it, rfl, ⟨ad, cp, rfl, hS⟩, ⟨ad2, cp2, xs, rfl, hS2, hA⟩⟩ := hp
  have hlen : p.items.length ≤ 9223372036854775807 := by have := hS2.caps; omega
  refine Con.of_body Try.func40 rfl Try.ntmps40 rfl rfl ?_
  intro hs
  refine Zrun ?_
  (refine RW.boxN hs rfl rfl ?_; intro b1 w1 hs)
  refine Zerun ?_
  refine RW.val (Y.add' rfl rfl) rfl ?_
  refine RW.val (Y.add' rfl rfl) rfl ?_
  have hr0' : p.shape.length ≤ 8 → p.items.length ≤ 1048576 → IntKind.i64.wrap (IntKind.i64.wrap ((p.items.length : Int) + p.shape.length) + 1) = (p.items.length : Int) + p.shape.length + 1 := by
    intro h1 h2
    have e1 : IntKind.i64.wrap ((p.items.length : Int) + p.shape.length) = (p.items.length : Int) + p.shape.length := wrap64 (by omega)
    rw [e1, wrap64 (by omega)]
  generalize IntKind.i64.wrap (IntKind.i64.wrap _ + 1) = r0 at hr0' ⊢
  refine Zerun ?_
  refine CW.loop (fun q : Nat × Int × GHeap => [(1, .int .i64 most), (2, .pointer (some ⟨b1, 0, none⟩)), (5, .int .i64 q.2.1), (6, .int .i64 q.1)]) (fun q w' => q.1 ≤ p.items.length ∧ GLe h q.2.2 ∧ (most < r0 → q.2.1 = r0) ∧ Sees w h q.2.2 [⟨some ⟨b1, 0, none⟩, 1, 1, 50, 3, [.slice ad p.shape.length cp, .slice ad2 p.items.length cp2, .int .i64 p.fill]⟩] w') (fun q => p.items.length - q.1) (0, r0, h) ⟨rfl, rfl, rfl, rfl, trivial⟩ ⟨by omega, GLe.refl _, fun _ => rfl, hs⟩ ?_
  rintro ⟨i, r, hh⟩ w2 ⟨hi, hg, hr, hs⟩
  dsimp only at hi hg hr hs ⊢
  have hS2 := hS2.mono hg
  by_cases hlt : i < p.items.length
  · obtain ⟨bx, hx4, hx1, ⟨ad3, cp3, ys, rfl, hS3, hA3⟩, hx2, hq0, hq1, hq2, hq3⟩ := ItemAt.cells hA i hlt
    have hS3 := hS3.mono hg
    generalize p.items.getD i noItem = x at *
    by_cases hle : r ≤ most
    · refine Zerun ?_
      refine CW.loop (fun q : Nat × Int × GHeap => [(1, .int .i64 most), (2, .pointer (some ⟨b1, 0, none⟩)), (5, .int .i64 q.2.1), (6, .int .i64 i), (7, .int .i64 q.1)]) (fun q w' => q.1 ≤ x.box.length ∧ GLe hh q.2.2 ∧ Sees w h q.2.2 [⟨some ⟨b1, 0, none⟩, 1, 1, 50, 3, [.slice ad p.shape.length cp, .slice ad2 p.items.length cp2, .int .i64 p.fill]⟩] w') (fun q => x.box.length - q.1) (0, r, hh) ⟨rfl, rfl, rfl, rfl, rfl, trivial⟩ ⟨by omega, GLe.refl _, hs⟩ ?_
      rintro ⟨j, r2, h3⟩ w3 ⟨hj, hg3, hs⟩
      dsimp only at hj hg3 hs ⊢
      have hS2 := hS2.mono hg3
      have hS3 := hS3.mono hg3
      have hbl : x.box.length ≤ 9223372036854775807 := by have := hS3.caps; omega
      by_cases hlt3 : j < x.box.length
      · by_cases hle3 : r2 ≤ most
        · obtain ⟨y, hy, hR3, hR3l⟩ : ∃ y, (ys.drop (j * 3)).take 3 = y ∧ (∃ a, R h y a) ∧ y.length = 3 := by
            obtain ⟨h1, h2⟩ := hA3.get (x.box[j]) j hlt3
            exact ⟨_, rfl, ⟨_, h1⟩, h2⟩
          obtain ⟨a, hRa⟩ := hR3
          have hRa := hR _ _ _ _ (hg.trans hg3) hRa
          refine Zerun ?_
          (refine RW.call T hs rfl rfl rfl (ih _ a _ _ hRa) ?_; intro v h4 w4 hle4 hp4 hs)
          obtain ⟨r4, rfl⟩ := hp4
          refine RW.val (Y.add' rfl rfl) rfl ?_
          generalize IntKind.i64.wrap (r2 + r4) = r5
          refine Zerun ?_
          exact loopQ_round (j + 1, r5, h4) ⟨rfl, rfl, rfl, rfl, rfl, trivial⟩ ⟨by dsimp only; omega, hg3.trans hle4, hs⟩ (by dsimp only; omega)
        · refine Zerun ?_
          exact loopQ_round (i + 1, r2, h3) ⟨rfl, rfl, rfl, rfl, trivial⟩ ⟨by dsimp only; omega, hg.trans hg3, fun e => by have := hr e; omega, hs⟩ (by dsimp only; omega)
      · refine Zerun ?_
        exact loopQ_round (i + 1, r2, h3) ⟨rfl, rfl, rfl, rfl, trivial⟩ ⟨by dsimp only; omega, hg.trans hg3, fun e => by have := hr e; omega, hs⟩ (by dsimp only; omega)
    · refine Zerun ?_
      exact retQ_ret [_] hh ⟨rfl, trivial⟩ hs.dropAll ⟨_, rfl, fun h1 h2 h3 => by have e := hr0' h1 h2; by_cases c : most < r0; have := hr c; omega; omega⟩
  · refine Zerun ?_
    exact retQ_ret [_] hh ⟨rfl, trivial⟩ hs.dropAll ⟨_, rfl, fun h1 h2 h3 => by have e := hr0' h1 h2; by_cases c : most < r0; have := hr c; omega; omega⟩
end
theorem refCountB_con (most : Int) (k : Nat) (cs : List Value) (p : PD (k + 1)) (w : World) (h : GHeap) (hp : PlainAt (k + 1) h cs p) : Con Try.prog 40 [.agg cs.toArray, .int .i64 most] w h (fun _ u => ∃ r, u = .int .i64 r ∧ (chk (k + 1) 40 p = 0 → r ≤ most → (PlainD.items (α := PD k) p).length ≤ most)) := by
  have := refCountB_step (PlainAt.mono k) most (refCount_con most k) cs p w h hp
  refine this.mono ?_
  rintro h' u _ ⟨r, rfl, hr⟩
  refine ⟨r, rfl, fun hc hle => ?_⟩
  obtain ⟨_, _, _, hpr, hok⟩ := (chkP_ok (α := PD k) _ _ _).1 hc
  have h1 : (PlainD.shape (α := PD k) p).length ≤ 8 := by
    by_cases c : 8 < (PlainD.shape (α := PD k) p).length
    · unfold product at hpr
      rw [if_pos c] at hpr
      exact absurd (congrArg Prod.snd hpr) (show (26 : Int) ≠ 0 by decide)
    · omega
  have h2 := (good_sml (k + 1) 40 _ (good_arr (k + 1) 40 p hc)).2.1
  have h3 : (ArrD.vec (α := AD k) (arr (k + 1) p)).len = (PlainD.items (α := PD k) p).length := len_arrV (arr k) _ _ _ hok
  have := hr h1 (by omega) hle
  omega
theorem good08B_con (k : Nat) (cs : List Value) (p : PD (k + 1)) (w : World) (h : GHeap) (hp : PlainAt (k + 1) h cs p) : Con Try.prog 63 [.agg cs.toArray] w h (fun _ u => ∃ b, u = .bool b ∧ (b = true → chk (k + 1) 40 p = 0 ∧ (PlainD.items (α := PD k) p).length ≤ 3000)) := by
  have hp' := hp
  obtain ⟨s, it, rfl, _⟩ := hp
  refine Con.of_body Try.func63 rfl Try.ntmps63 rfl rfl ?_
  intro hs
  refine Zrun ?_
  (refine RW.boxN hs rfl rfl ?_; intro b1 w1 hs)
  refine Zerun ?_
  (refine RW.call T hs rfl rfl rfl (refCountB_con 3000 k _ p _ _ hp') ?_; intro v h2 w2 hle2 hp2 hs)
  obtain ⟨r, rfl, hr⟩ := hp2
  by_cases c1 : r ≤ 2000
  · refine Zerun ?_
    (refine RW.call T hs rfl rfl rfl (refCheck_con (k + 1) _ p _ _ (PlainAt.mono (k + 1) _ _ _ _ hle2 hp')) ?_; intro v h3 w3 hle3 hp3 hs)
    subst hp3
    refine Zerun ?_
    refine retQ_ret [_] h3 ⟨rfl, trivial⟩ hs.dropAll ⟨_, rfl, fun e => ?_⟩
    have hc := of_decide_eq_true e
    have := hr hc (by omega)
    exact ⟨hc, by omega⟩
  · refine Zerun ?_
    exact retQ_ret [_] h2 ⟨rfl, trivial⟩ hs.dropAll ⟨_, rfl, fun e => by cases e⟩
end Go.Proofs.Ythbfkhklihejiaa

/-
  Plain facts on lists of elements picked, cut, turned and put behind each other, and what they show. No statement is proved here.
-/
namespace Go.Proofs.Ythbfkhklihejiaa
open Go Go.RowKit
set_option linter.unusedVariables false
set_option linter.unusedSimpArgs false
set_option maxHeartbeats 4000000
attribute [local irreducible] CW RW QW SW HW ConM retM heldQ calmQ elemP thenQ blockQ loopQ joinQ retQ Yields Con Sl zF magR unitF truncF fwF wholeF tidySpec elemQ rankF leastN tidyW
set_option maxHeartbeats 4000000

structure Shown (k : Nat) (v : VecD (AD k)) (l : List (ItemD (PD k))) (c : Int) : Prop where
  hc : v.cls = c
  k0 : v.kind ≠ 0
  kl : v.kind = v.least
  vm : v.len ≤ 1048576
  sm : ∀ b ∈ v.boxes, sml k b
  he : itemsV (plain k) v = l
  td : ∀ x ∈ l, tdyIt (tdy k) x
theorem shown_of (k : Nat) (p : PD (k + 2)) (h : GHeap) (cs : List Value) (hp : PlainAt (k + 2) h cs p) (hc : chk (k + 2) 40 p = 0) : Shown (k + 1) (ArrD.vec (α := AD (k + 1)) (arr (k + 2) p)) (PlainD.items (α := PD (k + 1)) (tidy (k + 2) p)) (PlainD.fill (α := PD (k + 1)) p) := by
  have hgood := good_arr (k + 2) 40 p hc
  have hsml := good_sml (k + 2) 40 _ hgood
  refine ⟨?_, hgood.2.1, hgood.2.2.1, hsml.2.1, hsml.2.2, congrArg (PlainD.items (α := PD (k + 1))) (plain_arr (k + 2) 40 p hc), tidy_tdy (k + 2) 40 p _ _ hp hc⟩
  obtain ⟨_, h2, h3, _, _⟩ := (chkP_ok (α := PD (k + 1)) _ _ _).1 hc
  exact cls_arrV (arr (k + 1)) _ _ h2 h3
theorem Shown.pick {k : Nat} {v : VecD (AD (k + 1))} {L : List (ItemD (PD (k + 1)))} {c : Int} (H : Shown (k + 1) v L c) (at_ : List Int) (hm : at_.length ≤ 1048576) : Shown (k + 1) (v.pick at_ (blankA k)) (at_.map fun i => atD L i (blankI c : ItemD (PlainD (PD k)))) c := by
  have hpf := pick_facts v at_ (blankA k)
  refine ⟨by rw [pick_cls, H.hc], hpf.1, hpf.2.1, by rw [hpf.2.2.1]; exact hm, ?_, pick_items' (β := PD k) (plain (k + 1)) _ at_ (blankA k) _ _ H.he H.hc rfl, ?_⟩
  · intro b hb
    rcases hpf.2.2.2 b hb with e | e
    · exact H.sm b e
    · rw [e]; exact blankA_sml k
  · intro x hx
    obtain ⟨i, _, rfl⟩ := List.mem_map.1 hx
    rcases atD_mem L i (blankI c : ItemD (PlainD (PD k))) with e | e
    · exact H.td _ e
    · rw [e]; exact blankI_tdy k _
theorem span_items {γ : Type} (L : List γ) (f t_ : Nat) (hf : f ≤ t_) (ht : t_ ≤ L.length) (d : γ) : (spanL f t_).map (fun i => atD L i d) = (L.drop f).take (t_ - f) := by
  apply List.ext_getElem?
  intro j
  simp only [spanL, List.map_map, List.getElem?_map, List.getElem?_take, List.getElem?_drop]
  by_cases c : j < t_ - f
  · rw [List.getElem?_range c, if_pos c]
    simp only [Option.map_some, Function.comp]
    rw [atD_in ⟨by omega, by omega⟩, Int.toNat_natCast]
    have : f + j < L.length := by omega
    simp [List.getD_eq_getElem?_getD, this]
  · rw [if_neg c]
    simp [c]
theorem turn_items {γ : Type} (L : List γ) (d : γ) : (turnL L.length).map (fun i => atD L i d) = L.reverse := by
  apply List.ext_getElem?
  intro j
  simp only [turnL, List.map_map, List.getElem?_map]
  by_cases c : j < L.length
  · rw [List.getElem?_range c, List.getElem?_reverse c]
    simp only [Option.map_some, Function.comp]
    rw [atD_in ⟨by omega, by omega⟩, Int.toNat_natCast]
    have : L.length - 1 - j < L.length := by omega
    simp [List.getD_eq_getElem?_getD, this]
  · simp [c]
section
variable {α β : Type}
theorem len0 {v : VecD α} (h : v.len = 0) : v.nums = [] ∧ v.chars = [] ∧ v.boxes = [] := by
  unfold VecD.len at h
  exact ⟨List.eq_nil_of_length_eq_zero (by omega), List.eq_nil_of_length_eq_zero (by omega), List.eq_nil_of_length_eq_zero (by omega)⟩
theorem itemsV_len0 (f : α → β) {v : VecD α} (h : v.len = 0) : itemsV f v = [] := by
  obtain ⟨h1, h2, h3⟩ := len0 h
  unfold itemsV
  rw [h1, h2, h3]
  split <;> (try split) <;> rfl
theorem flatMap_map' {γ δ ε : Type} (g : δ → ε) (f : γ → List δ) : ∀ l : List γ, (l.flatMap f).map g = l.flatMap fun x => (f x).map g
  | [] => rfl
  | a :: l => by rw [List.flatMap_cons, List.map_append, flatMap_map' g f l, List.flatMap_cons]
theorem flatMap_eq {γ δ : Type} {f g : γ → List δ} : ∀ {l : List γ}, (∀ x ∈ l, f x = g x) → l.flatMap f = l.flatMap g
  | [], _ => rfl
  | a :: l, h => by rw [List.flatMap_cons, List.flatMap_cons, h a (by simp), flatMap_eq (fun x hx => h x (List.mem_cons_of_mem _ hx))]
theorem joinS_cls {c : Int} (hc : c = 0 ∨ c = 1 ∨ c = 2) (l : List (VecD α)) : (joinS c l).cls = c := by
  unfold joinS VecD.cls
  rcases hc with rfl | rfl | rfl
  · have := leastN_bounds (l.flatMap (·.nums))
    rw [if_neg (show ¬ (0 : Int) = 1 by decide), if_neg (show ¬ (0 : Int) = 2 by decide)]
    dsimp only
    rw [if_neg (by omega), if_neg (by omega)]
  · rfl
  · rfl
theorem itemsV_join (f : α → β) {c : Int} {l : List (VecD α)} (hc : c = 0 ∨ c = 1 ∨ c = 2) (h : ∀ v ∈ l, v.len ≠ 0 → v.cls = c) : itemsV f (joinS c l) = l.flatMap (itemsV f) := by
  have hcl := joinS_cls hc l
  rcases hc with rfl | rfl | rfl
  · rw [itemsV_c0 f hcl]
    show (l.flatMap (·.nums)).map _ = _
    rw [flatMap_map']
    apply flatMap_eq
    intro v hv
    by_cases e : v.len = 0
    · rw [itemsV_len0 f e, (len0 e).1]; rfl
    · rw [itemsV_c0 f (h v hv e)]
  · rw [itemsV_c1 f hcl]
    show (l.flatMap (·.chars)).map _ = _
    rw [flatMap_map']
    apply flatMap_eq
    intro v hv
    by_cases e : v.len = 0
    · rw [itemsV_len0 f e, (len0 e).2.1]; rfl
    · rw [itemsV_c1 f (h v hv e)]
  · rw [itemsV_c2 f hcl]
    show (l.flatMap (·.boxes)).map _ = _
    rw [flatMap_map']
    apply flatMap_eq
    intro v hv
    by_cases e : v.len = 0
    · rw [itemsV_len0 f e, (len0 e).2.2]; rfl
    · rw [itemsV_c2 f (h v hv e)]
theorem joinS_len (c : Int) (l : List (VecD α)) : (joinS c l).len ≤ (l.map VecD.len).sum := by
  unfold joinS
  split
  · have := fm_len (f := fun v : VecD α => v.chars) (fun v => by unfold VecD.len; omega) l
    simpa [VecD.len] using this
  · split
    · have := fm_len (f := fun v : VecD α => v.boxes) (fun v => by unfold VecD.len; omega) l
      simpa [VecD.len] using this
    · have := fm_len (f := fun v : VecD α => v.nums) (fun v => by unfold VecD.len; omega) l
      simpa [VecD.len] using this
theorem joinS_boxes {c : Int} {l : List (VecD α)} {b : α} (h : b ∈ (joinS c l).boxes) : ∃ v ∈ l, b ∈ v.boxes := by
  unfold joinS at h
  split at h
  · cases h
  · split at h
    · exact List.mem_flatMap.1 h
    · cases h
theorem joinS_kind (c : Int) (hc : c = 0 ∨ c = 1 ∨ c = 2) (l : List (VecD α)) : (joinS c l).kind ≠ 0 ∧ (joinS c l).kind = (joinS c l).least := by
  have hcl := joinS_cls hc l
  unfold VecD.least
  rw [hcl]
  rcases hc with rfl | rfl | rfl
  · have := leastN_bounds (l.flatMap (·.nums))
    have hk : (joinS 0 l).kind = leastN (l.flatMap (·.nums)) := rfl
    have hn : (joinS 0 l).nums = l.flatMap (·.nums) := rfl
    rw [hk, hn]
    exact ⟨by omega, by rw [if_pos ⟨rfl, by omega⟩]⟩
  · exact ⟨show (5 : Int) ≠ 0 by decide, rfl⟩
  · exact ⟨show (6 : Int) ≠ 0 by decide, rfl⟩
theorem noneV_facts (c : Int) (hc : c = 0 ∨ c = 1 ∨ c = 2) (f : α → β) : (noneV c : VecD α).cls = c ∧ (noneV c : VecD α).kind ≠ 0 ∧ (noneV c : VecD α).kind = (noneV c : VecD α).least ∧ (noneV c : VecD α).len = 0 ∧ (noneV c : VecD α).boxes = [] ∧ itemsV f (noneV c : VecD α) = [] := by
  rcases hc with rfl | rfl | rfl
  · have e : leastN [] = 1 := by have := leastN_bits []; simpa using this
    refine ⟨rfl, show (1 : Int) ≠ 0 by decide, ?_, rfl, rfl, rfl⟩
    show (1 : Int) = if (0 : Int) = 0 ∧ (1 : Int) ≠ 0 then leastN [] else 1
    rw [e]
    rfl
  · exact ⟨rfl, show (5 : Int) ≠ 0 by decide, rfl, rfl, rfl, rfl⟩
  · exact ⟨rfl, show (6 : Int) ≠ 0 by decide, rfl, rfl, rfl, rfl⟩
theorem joinC_some : ∀ (l : List (VecD α)) (c0 c : Int), joinC c0 l = some c → (0 ≤ c0 → c = c0) ∧ (c = c0 ∨ c = 0 ∨ c = 1 ∨ c = 2) ∧ ∀ v ∈ l, v.len ≠ 0 → v.cls = c
  | [], c0, c, h => by
    cases h
    exact ⟨fun _ => rfl, .inl rfl, fun v hv => by cases hv⟩
  | v :: l, c0, c, h => by
    by_cases h0 : v.len = 0
    · rw [joinC_skip h0] at h
      obtain ⟨h1, h2, h3⟩ := joinC_some l c0 c h
      refine ⟨h1, h2, fun u hu hn => ?_⟩
      rcases List.mem_cons.1 hu with rfl | hu
      · exact absurd h0 hn
      · exact h3 u hu hn
    · by_cases hb : 0 ≤ c0 ∧ c0 ≠ v.cls
      · rw [joinC, if_neg h0, if_pos hb] at h; cases h
      · rw [joinC, if_neg h0, if_neg hb] at h
        obtain ⟨h1, h2, h3⟩ := joinC_some l v.cls c h
        have hcl := cls_rng v
        have hcv := h1 (by omega)
        refine ⟨fun e => ?_, by omega, fun u hu hn => ?_⟩
        · rw [hcv]
          exact (Decidable.of_not_not (fun e2 => hb ⟨e, fun e3 => e2 e3.symm⟩))
        · rcases List.mem_cons.1 hu with rfl | hu
          · exact hcv.symm
          · exact h3 u hu hn
end
theorem shown_join {k : Nat} {vs : List (VecD (AD k))} {c : Int} (hJ : joinC (-1) vs = some c) (hA : ∀ v ∈ vs, Shown k v (itemsV (plain k) v) v.cls) (hm : (vs.map VecD.len).sum ≤ 1048576) : Shown k (if c < 0 then noneV (headC vs) else joinS c vs) (vs.flatMap (itemsV (plain k))) (if 0 ≤ c then c else headC vs) := by
  obtain ⟨_, hr, hall⟩ := joinC_some vs (-1) c hJ
  have htd : ∀ x ∈ vs.flatMap (itemsV (plain k)), tdyIt (tdy k) x := by
    intro x hx
    obtain ⟨v, hv, hx⟩ := List.mem_flatMap.1 hx
    exact (hA v hv).td x hx
  by_cases hc : c < 0
  · rw [if_pos hc, if_neg (by omega)]
    have hh : headC vs = 0 ∨ headC vs = 1 ∨ headC vs = 2 := by
      cases vs with
      | nil => exact .inl rfl
      | cons v l => exact cls_rng v
    have he : vs.flatMap (itemsV (plain k)) = [] := by
      rw [flatMap_eq (g := fun _ => [])]
      · simp
      · intro v hv
        apply itemsV_len0
        by_cases e : v.len = 0
        · exact e
        · have := hall v hv e; have := cls_rng v; omega
    obtain ⟨h1, h2, h3, h4, h5, h6⟩ := noneV_facts (headC vs) hh (plain k)
    exact ⟨h1, h2, h3, by omega, (by rw [h5]; intro b hb; cases hb), h6.trans he.symm, htd⟩
  · rw [if_neg hc, if_pos (by omega)]
    have hc3 : c = 0 ∨ c = 1 ∨ c = 2 := by omega
    obtain ⟨h1, h2⟩ := joinS_kind c hc3 vs
    refine ⟨joinS_cls hc3 vs, h1, h2, Nat.le_trans (joinS_len c vs) hm, ?_, itemsV_join _ hc3 hall, htd⟩
    intro b hb
    obtain ⟨v, hv, hb⟩ := joinS_boxes hb
    exact (hA v hv).sm b hb
theorem joinC_joinP {δ α γ : Type} (fv : δ → VecD α) (fp : δ → PlainD γ) : ∀ (l : List δ) (c : Int), (∀ x ∈ l, (fv x).len = (fp x).items.length ∧ (fv x).cls = (fp x).fill) → joinC c (l.map fv) = joinP c (l.map fp) ∧ headC (l.map fv) = headF (l.map fp)
  | [], c, _ => ⟨rfl, rfl⟩
  | x :: l, c, h => by
    obtain ⟨h1, h2⟩ := h x (by simp)
    refine ⟨?_, h2⟩
    have ih := fun c => (joinC_joinP fv fp l c (fun y hy => h y (List.mem_cons_of_mem _ hy))).1
    rw [List.map_cons, List.map_cons, joinC, joinP, h1, h2]
    by_cases e : (fp x).items.length = 0
    · rw [if_pos e, if_neg (by omega), if_neg (by omega)]; exact ih c
    · rw [if_neg e]
      by_cases e2 : 0 ≤ c ∧ c ≠ (fp x).fill
      · rw [if_pos e2, if_pos ⟨by omega, e2⟩]
      · rw [if_neg e2, if_neg (fun e3 => e2 e3.2), if_pos (by omega)]; exact ih _
end Go.Proofs.Ythbfkhklihejiaa

/-
  Contracts of the law's own functions of layer 23: arrays shown, and whether they are fine. No statement is proved here.
-/
namespace Go.Proofs.Ythbfkhklihejiaa
open Go Go.RowKit
set_option linter.unusedVariables false
set_option linter.unusedSimpArgs false
set_option maxHeartbeats 4000000
attribute [local irreducible] CW RW QW SW HW ConM retM heldQ calmQ elemP thenQ blockQ loopQ joinQ retQ Yields Con Sl zF magR unitF truncF fwF wholeF tidySpec elemQ rankF leastN tidyW
set_option maxHeartbeats 4000000
theorem shows23_con (k : Nat) (cs cp : List Value) (a : AD (k + 1)) (p : PD (k + 1)) (w : World) (h : GHeap) (ha : ArrAt (k + 1) h cs a) (hp : PlainAt (k + 1) h cp p) (hg : good (k + 1) 40 a) (he : plain (k + 1) a = p) (ht : tdy (k + 1) p) : Con Try.prog 109 [.agg cs.toArray, .int .i64 0, .agg cp.toArray, .int .i64 0] w h (fun _ u => u = .bool true) := by
  have ha' := ha
  have hp' := hp
  obtain ⟨s, vc, rfl, ⟨ad, cap, rfl, _⟩, hv⟩ := ha
  obtain ⟨wv, nv, sm, il, fl, ch, bx, ⟨rfl, hoc⟩, _⟩ := hv
  obtain ⟨s2, it2, rfl, ⟨ad2, cp2, rfl, _⟩, ⟨ad3, cp3, xs3, rfl, _, _⟩⟩ := hp
  refine Con.of_body Try.func109 rfl Try.ntmps109 rfl rfl ?_
  intro hs
  refine Zrun ?_
  (refine RW.boxN hs rfl rfl ?_; intro b1 w1 hs)
  refine Zrun ?_
  (refine RW.boxN hs rfl rfl ?_; intro b2 w2 hs)
  refine Zerun ?_
  refine CW.regionO T hs ?_
  intro w5 hs
  refine HW.takeS (fuel := 8) 0 rfl (fun _ _ hs => Y.loadRowN T hs 1 rfl rfl rfl rfl rfl rfl rfl) hs rfl (by kernel_rfl) (by kernel_rfl) (by kernel_rfl) ?_
  refine HW.one (fuel := 7) 1 rfl (by kernel_rfl) ?_
  (refine RW.call T hs rfl rfl rfl (valueGood_con (k + 1) _ a _ _ ha') ?_; intro v h25 w25 hle25 hp25 hs)
  subst hp25
  rw [decB_of hg]
  have ha' := ArrAt.mono (k + 1) _ _ _ _ hle25 ha'
  have hp' := PlainAt.mono (k + 1) _ _ _ _ hle25 hp'
  refine RW.nil ?_
  refine heldQ_normal ⟨_, hs⟩ ?_
  refine HW.takeS (fuel := 6) 2 rfl (fun _ _ hs => Y.move rfl) hs rfl (by kernel_rfl) (by kernel_rfl) (by kernel_rfl) ?_
  refine HW.takeSY (fuel := 5) 3 rfl rfl rfl (fun _ _ hs => Y.loadRowN T hs 1 rfl rfl rfl rfl rfl rfl rfl) hs rfl (by kernel_rfl) (by kernel_rfl) (by kernel_rfl) ?_
  refine HW.takeSY (fuel := 4) 5 rfl rfl rfl (fun _ _ hs => Y.loadRowN T hs 0 rfl rfl rfl rfl rfl rfl rfl) hs rfl (by kernel_rfl) (by kernel_rfl) (by kernel_rfl) ?_
  refine HW.one (fuel := 3) 4 rfl (by kernel_rfl) ?_
  refine RW.guardYes rfl rfl ?_
  (refine RW.call T hs rfl rfl rfl (plainV_con (k + 1) _ a _ _ ha' (good_sml (k + 1) 40 a hg)) ?_; intro v h28 w28 hle28 hp28 hs)
  obtain ⟨cs28, rfl, hq28⟩ := hp28
  rw [he] at hq28
  have hp' := PlainAt.mono (k + 1) _ _ _ _ hle28 hp'
  refine RW.nil ?_
  refine heldQ_normal ⟨_, hs⟩ ?_
  refine HW.one (fuel := 2) 6 rfl (by kernel_rfl) ?_
  refine RW.guardYes rfl rfl ?_
  (refine RW.call T hs rfl rfl rfl (refSame_con (k + 1) _ _ p p _ _ hq28 hp' ht ht) ?_; intro v h30 w30 hle30 hp30 hs)
  subst hp30
  rw [eqB_of (show p = p from rfl)]
  have hp' := PlainAt.mono (k + 1) _ _ _ _ hle30 hp'
  refine RW.nil ?_
  refine heldQ_normal ⟨_, hs⟩ ?_
  refine HW.takeS (fuel := 1) 7 rfl (fun _ _ hs => Y.pickT rfl rfl) hs rfl (by kernel_rfl) (by kernel_rfl) (by kernel_rfl) ?_
  refine HW.takeS (fuel := 0) 8 rfl (fun _ _ hs => Y.assign rfl) hs rfl (by kernel_rfl) (by kernel_rfl) (by kernel_rfl) ?_
  refine HW.done (by kernel_rfl) ?_
  refine calmQ_normal ?_
  refine Zerun ?_
  exact retQ_ret [_] h30 ⟨rfl, trivial⟩ hs.dropAll rfl
theorem fine23_con (k : Nat) (cs : List Value) (p : PD (k + 1)) (w : World) (h : GHeap) (hp : PlainAt (k + 1) h cs p) : Con Try.prog 105 [.agg cs.toArray] w h (fun _ u => ∃ b, u = .bool b ∧ (b = true → chk (k + 1) 40 p = 0 ∧ (PlainD.shape (α := PD k) p).length ≤ 8 ∧ (PlainD.items (α := PD k) p).length ≤ 3000)) := by
  have hp' := hp
  obtain ⟨s, it, rfl, ⟨ad0, cp0, rfl, hS0⟩, ⟨ad, cp, xs, rfl, hS, _⟩⟩ := hp
  have hcap := hS0.caps
  refine Con.of_body Try.func105 rfl Try.ntmps105 rfl rfl ?_
  intro hs
  refine Zrun ?_
  (refine RW.boxN hs rfl rfl ?_; intro b1 w1 hs)
  refine Zerun ?_
  (refine RW.call T hs rfl rfl rfl (refCountB_con 3000 k _ p _ _ hp') ?_; intro v h2 w2 hle2 hp2 hs)
  obtain ⟨r, rfl, hr⟩ := hp2
  by_cases c1 : r ≤ 1500
  · by_cases c2 : (PlainD.shape (α := PD k) p).length ≤ 8
    · refine Zerun ?_
      (refine RW.call T hs rfl rfl rfl (refCheck_con (k + 1) _ p _ _ (PlainAt.mono (k + 1) _ _ _ _ hle2 hp')) ?_; intro v h3 w3 hle3 hp3 hs)
      subst hp3
      refine Zerun ?_
      refine retQ_ret [_] h3 ⟨rfl, trivial⟩ hs.dropAll ⟨_, rfl, fun e => ?_⟩
      have hc := of_decide_eq_true e
      have hh := hr hc (by omega)
      exact ⟨hc, c2, by omega⟩
    · refine Zerun ?_
      exact retQ_ret [_] h2 ⟨rfl, trivial⟩ hs.dropAll ⟨_, rfl, fun e => by cases e⟩
  · refine Zerun ?_
    exact retQ_ret [_] h2 ⟨rfl, trivial⟩ hs.dropAll ⟨_, rfl, fun e => by cases e⟩

end Go.Proofs.Ythbfkhklihejiaa

/-
  Plain Lean on floats: a word's own number is rounded to that word; nought less a number. No statement is proved here.
-/
namespace Go.Proofs.Ythbfkhklihejiaa
open Go Go.RowKit Ieee
set_option linter.unusedVariables false
set_option linter.unusedSimpArgs false

theorem log2_of {n L : Nat} (h1 : 2 ^ L ≤ n) (h2 : n < 2 ^ (L + 1)) : n.log2 = L := by
  have h0 : n ≠ 0 := by have := Nat.pow_pos (n := L) (show 0 < 2 by omega); omega
  have l1 : 2 ^ n.log2 ≤ n := Nat.log2_self_le h0
  have l2 : n < 2 ^ (n.log2 + 1) := Nat.lt_log2_self
  rcases Nat.lt_trichotomy n.log2 L with h | h | h
  · have := Nat.pow_le_pow_right (show 0 < 2 by omega) (show n.log2 + 1 ≤ L by omega)
    omega
  · exact h
  · have := Nat.pow_le_pow_right (show 0 < 2 by omega) (show L + 1 ≤ n.log2 by omega)
    omega
theorem cut_exact (neg : Bool) (K d : Nat) (hK : 0 < K) : Toward.even.cut neg (K * 2 ^ d) d = K := by
  have hp := Nat.pow_pos (n := d) (show 0 < 2 by omega)
  have hn0 : K * 2 ^ d ≠ 0 := by have := Nat.mul_pos hK hp; omega
  have hlog : d ≤ (K * 2 ^ d).log2 := by
    rcases Nat.lt_or_ge (K * 2 ^ d).log2 d with h | h
    · exfalso
      have l2 : K * 2 ^ d < 2 ^ ((K * 2 ^ d).log2 + 1) := Nat.lt_log2_self
      have h3 := Nat.pow_le_pow_right (show 0 < 2 by omega) (show (K * 2 ^ d).log2 + 1 ≤ d by omega)
      have h4 : 1 * 2 ^ d ≤ K * 2 ^ d := Nat.mul_le_mul_right _ hK
      omega
    · exact h
  unfold Toward.cut
  have hm : min d ((K * 2 ^ d).log2 + 2) = d := by omega
  rw [hm]
  simp only [Nat.one_shiftLeft]
  rw [Nat.mul_div_cancel _ hp, Nat.mul_mod_left]
  have e1 : decide (2 ^ d < 2 * 0) = false := decide_eq_false (by omega)
  have e2 : ((2 ^ d == 2 * 0) : Bool) = false := by
    rw [beq_eq_false_iff_ne]
    omega
  rw [e1, e2]
  rfl
theorem rung_eq (E K r : Nat) (hE : r / 4503599627370496 = E + 1) (hK : 4503599627370496 + r % 4503599627370496 = K) : E * 4503599627370496 + K = r := by omega
theorem rung_join (neg : Bool) (E K r : Nat) (hE : r / 4503599627370496 = E + 1) (hK : 4503599627370496 + r % 4503599627370496 = K) (hr : r < 9218868437227405312) : double.word neg (min (E * 4503599627370496 + K) 9218868437227405312) = double.word neg r :=
  congrArg (double.word neg) ((congrArg (fun z => min z 9218868437227405312) (rung_eq E K r hE hK)).trans (Nat.min_eq_left (Nat.le_of_lt hr)))
theorem nearest_rung (neg : Bool) (r : Nat) (hr : r < 9218868437227405312) : double.nearest neg (magR r) (-1074) = double.word neg r := by
  have e1 : double.fractionBits = 52 := rfl
  have e2 : double.binade = 4503599627370496 := by decide
  have e3 : double.infRung = 9218868437227405312 := by decide
  have e4 : double.leastPlace = -1074 := by decide
  have p52 : (2 : Nat) ^ 52 = 4503599627370496 := by decide
  have p53 : (2 : Nat) ^ 53 = 9007199254740992 := by decide
  unfold Format.nearest
  rw [e1, e2, e3, e4]
  by_cases c0 : r = 0
  · subst c0
    rw [if_pos (by decide)]
  by_cases c : r < 4503599627370496
  · have hm : magR r = r := by unfold magR; rw [if_pos c]
    rw [hm, if_neg c0]
    have hL : r.log2 < 52 := by
      rcases Nat.lt_or_ge r.log2 52 with h | h
      · exact h
      · have l1 : 2 ^ r.log2 ≤ r := Nat.log2_self_le c0
        have := Nat.pow_le_pow_right (show 0 < 2 by omega) h
        omega
    have a1 : max ((-1074 : Int) + (r.log2 : Int) - ((52 : Nat) : Int)) (-1074) = -1074 := by omega
    simp only [a1]
    rw [show ((-1074 : Int) - -1074).toNat = 0 from rfl, cut_zero, Nat.shiftLeft_zero, Nat.zero_mul, Nat.zero_add]
    congr 1
    omega
  · obtain ⟨E, hE⟩ : ∃ E, r / 4503599627370496 = E + 1 := ⟨r / 4503599627370496 - 1, by omega⟩
    obtain ⟨K, hK⟩ : ∃ K, 4503599627370496 + r % 4503599627370496 = K := ⟨_, rfl⟩
    have hm : magR r = K * 2 ^ E := by
      unfold magR
      rw [if_neg c, hK, hE]
      rfl
    have hp := Nat.pow_pos (n := E) (show 0 < 2 by omega)
    have hKb : 4503599627370496 ≤ K ∧ K < 9007199254740992 := by omega
    have hlog : (K * 2 ^ E).log2 = 52 + E := by
      refine log2_of ?_ ?_
      · rw [Nat.pow_add, p52]
        exact Nat.mul_le_mul_right _ hKb.1
      · rw [show 52 + E + 1 = 53 + E by omega, Nat.pow_add, p53]
        exact Nat.mul_lt_mul_of_pos_right hKb.2 hp
    have hn0 : K * 2 ^ E ≠ 0 := by have := Nat.mul_pos (show 0 < K by omega) hp; omega
    rw [hm, if_neg hn0, hlog]
    have a1 : max ((-1074 : Int) + ((52 + E : Nat) : Int) - ((52 : Nat) : Int)) (-1074) = (E : Int) - 1074 := by omega
    simp only [a1]
    have a2 : ((-1074 : Int) - ((E : Int) - 1074)).toNat = 0 := by omega
    have a3 : ((E : Int) - 1074 - -1074).toNat = E := by omega
    rw [a2, a3, Nat.shiftLeft_zero, cut_exact neg K E (by omega)]
    exact rung_join neg E K r hE hK hr
theorem read_zero : double.read 0 = .number false 0 (-1074) := by decide
/-- nought less a whole number -/
theorem sub_fw (n : Int) (h : -9007199254740992 ≤ n ∧ n ≤ 9007199254740992) : double.sub 0 (fwF n) = some (fwF (-n)) := by
  obtain ⟨⟨ht1, ht2, ht3⟩, hz⟩ := fwF_spec n h
  obtain ⟨tn, hzn⟩ := fwF_spec (-n) (by omega)
  have hu := unitF_pos
  obtain ⟨m, k, hrd, hmk⟩ := read_fin (fwF n) ht2
  have hrb : rungF (fwF n) < 9218868437227405312 := ht2
  unfold Format.sub
  rw [read_zero, hrd]
  show some (double.write (Datum.number _ _ _)) = _
  congr 1
  have hb : min (-1074 : Int) ((k : Int) - 1074) = -1074 := by omega
  simp only [hb]
  have hk : ((k : Int) - 1074 - -1074).toNat = k := by omega
  rw [hk]
  have hs0 : signed false 0 ((-1074 : Int) - -1074).toNat = 0 := by decide
  rw [hs0, Int.zero_add]
  have hsg : signed (!sgF (fwF n)) m k = -zF (fwF n) := by
    rw [zF_signed (fwF n) m k hmk]
    unfold signed
    cases sgF (fwF n) <;> simp
  rw [hsg]
  show double.nearest _ _ _ = _
  have hna : (-zF (fwF n)).natAbs = magR (rungF (fwF n)) := by
    rw [Int.natAbs_neg]
    unfold zF
    split
    · rw [Int.natAbs_neg]; exact Int.natAbs_natCast _
    · exact Int.natAbs_natCast _
  rw [hna, nearest_rung _ _ hrb]
  obtain ⟨ng, hng⟩ : ∃ ng : Bool, (if -zF (fwF n) = 0 then false && !sgF (fwF n) else decide (-zF (fwF n) < 0)) = ng := ⟨_, rfl⟩
  rw [hng]
  obtain ⟨w1, w2, w3, w4⟩ := zF_word ng (rungF (fwF n)) hrb
  have hz3 : zF (double.word ng (rungF (fwF n))) = -zF (fwF n) := by
    unfold zF at hng ⊢
    rw [w2, w3]
    by_cases c : (-(if sgF (fwF n) = true then -((magR (rungF (fwF n)) : Nat) : Int) else (magR (rungF (fwF n)) : Int))) = 0
    · rw [if_pos c] at hng
      subst hng
      simp only [Bool.false_and]
      rw [c]
      split at c <;> simp <;> omega
    · rw [if_neg c] at hng
      subst hng
      cases sgF (fwF n)
      · simp only [Bool.false_eq_true, if_false] at c ⊢
        rw [if_pos (decide_eq_true (by omega))]
      · simp only [if_true] at c ⊢
        rw [if_neg (by simp <;> omega)]
        try omega
  refine zF_inj ⟨w4, w1, ?_⟩ tn (by rw [hz3, hz, hzn, Int.neg_mul])
  intro e
  have hzz : zF (double.word ng (rungF (fwF n))) = 0 := by rw [e]; decide
  rw [hz3] at hzz
  have : ng = false := by
    rw [← hng, if_pos hzz]; rfl
  rw [e] at w2
  rw [this] at w2
  revert w2
  decide
section
variable {P : Program} {n : Nat} {L : Env} {w : World} {ty t yt : TypeId} {x y : Operand}
theorem Y.fSub {u v r : Nat} (hx : opv L x = some (.float .f64 u)) (hy : opv L y = some (.float .f64 v)) (hr : double.sub u v = some r) : Yields P n L w (.binOp .sub t x y yt) ty (.float .f64 r) := by
  have hr' : (Op.floatArith .sub .f64 u v : Sem Value) = pure (.float .f64 r) := by
    unfold Op.floatArith
    have e : FloatKind.f64.format.sub u v = some r := hr
    simp [e]
  exact run_binF (by simp) hx hy (by unfold floatOp; simp only [hr']; rfl)
end
end Go.Proofs.Ythbfkhklihejiaa

/-
  Contracts of the law's own functions of layer 21: the example; what is turned on, and then back. No statement is proved here.
-/
namespace Go.Proofs.Ythbfkhklihejiaa
open Go Go.RowKit
set_option linter.unusedVariables false
set_option linter.unusedSimpArgs false
set_option maxHeartbeats 4000000
attribute [local irreducible] CW RW QW SW HW ConM retM heldQ calmQ elemP thenQ blockQ loopQ joinQ retQ Yields Con Sl zF magR unitF truncF fwF wholeF tidySpec elemQ rankF leastN tidyW
set_option maxHeartbeats 4000000

theorem shows21_con (k : Nat) (cs cp : List Value) (a : AD (k + 1)) (p : PD (k + 1)) (w : World) (h : GHeap) (ha : ArrAt (k + 1) h cs a) (hp : PlainAt (k + 1) h cp p) (hg : good (k + 1) 40 a) (he : plain (k + 1) a = p) (ht : tdy (k + 1) p) : Con Try.prog 104 [.agg cs.toArray, .int .i64 0, .agg cp.toArray, .int .i64 0] w h (fun _ u => u = .bool true) := by
  have ha' := ha
  have hp' := hp
  obtain ⟨s, vc, rfl, ⟨ad, cap, rfl, _⟩, hv⟩ := ha
  obtain ⟨wv, nv, sm, il, fl, ch, bx, ⟨rfl, hoc⟩, _⟩ := hv
  obtain ⟨s2, it2, rfl, ⟨ad2, cp2, rfl, _⟩, ⟨ad3, cp3, xs3, rfl, _, _⟩⟩ := hp
  refine Con.of_body Try.func104 rfl Try.ntmps104 rfl rfl ?_
  intro hs
  refine Zrun ?_
  (refine RW.boxN hs rfl rfl ?_; intro b1 w1 hs)
  refine Zrun ?_
  (refine RW.boxN hs rfl rfl ?_; intro b2 w2 hs)
  refine Zerun ?_
  refine CW.regionO T hs ?_
  intro w5 hs
  refine HW.takeS (fuel := 8) 0 rfl (fun _ _ hs => Y.loadRowN T hs 1 rfl rfl rfl rfl rfl rfl rfl) hs rfl (by kernel_rfl) (by kernel_rfl) (by kernel_rfl) ?_
  refine HW.one (fuel := 7) 1 rfl (by kernel_rfl) ?_
  (refine RW.call T hs rfl rfl rfl (valueGood_con (k + 1) _ a _ _ ha') ?_; intro v h25 w25 hle25 hp25 hs)
  subst hp25
  rw [decB_of hg]
  have ha' := ArrAt.mono (k + 1) _ _ _ _ hle25 ha'
  have hp' := PlainAt.mono (k + 1) _ _ _ _ hle25 hp'
  refine RW.nil ?_
  refine heldQ_normal ⟨_, hs⟩ ?_
  refine HW.takeS (fuel := 6) 2 rfl (fun _ _ hs => Y.move rfl) hs rfl (by kernel_rfl) (by kernel_rfl) (by kernel_rfl) ?_
  refine HW.takeSY (fuel := 5) 3 rfl rfl rfl (fun _ _ hs => Y.loadRowN T hs 1 rfl rfl rfl rfl rfl rfl rfl) hs rfl (by kernel_rfl) (by kernel_rfl) (by kernel_rfl) ?_
  refine HW.takeSY (fuel := 4) 5 rfl rfl rfl (fun _ _ hs => Y.loadRowN T hs 0 rfl rfl rfl rfl rfl rfl rfl) hs rfl (by kernel_rfl) (by kernel_rfl) (by kernel_rfl) ?_
  refine HW.one (fuel := 3) 4 rfl (by kernel_rfl) ?_
  refine RW.guardYes rfl rfl ?_
  (refine RW.call T hs rfl rfl rfl (plainV_con (k + 1) _ a _ _ ha' (good_sml (k + 1) 40 a hg)) ?_; intro v h28 w28 hle28 hp28 hs)
  obtain ⟨cs28, rfl, hq28⟩ := hp28
  rw [he] at hq28
  have hp' := PlainAt.mono (k + 1) _ _ _ _ hle28 hp'
  refine RW.nil ?_
  refine heldQ_normal ⟨_, hs⟩ ?_
  refine HW.one (fuel := 2) 6 rfl (by kernel_rfl) ?_
  refine RW.guardYes rfl rfl ?_
  (refine RW.call T hs rfl rfl rfl (refSame_con (k + 1) _ _ p p _ _ hq28 hp' ht ht) ?_; intro v h30 w30 hle30 hp30 hs)
  subst hp30
  rw [eqB_of (show p = p from rfl)]
  have hp' := PlainAt.mono (k + 1) _ _ _ _ hle30 hp'
  refine RW.nil ?_
  refine heldQ_normal ⟨_, hs⟩ ?_
  refine HW.takeS (fuel := 1) 7 rfl (fun _ _ hs => Y.pickT rfl rfl) hs rfl (by kernel_rfl) (by kernel_rfl) (by kernel_rfl) ?_
  refine HW.takeS (fuel := 0) 8 rfl (fun _ _ hs => Y.assign rfl) hs rfl (by kernel_rfl) (by kernel_rfl) (by kernel_rfl) ?_
  refine HW.done (by kernel_rfl) ?_
  refine calmQ_normal ?_
  refine Zerun ?_
  exact retQ_ret [_] h30 ⟨rfl, trivial⟩ hs.dropAll rfl
theorem fine21_con (k : Nat) (cs : List Value) (p : PD (k + 1)) (w : World) (h : GHeap) (hp : PlainAt (k + 1) h cs p) : Con Try.prog 101 [.agg cs.toArray] w h (fun _ u => ∃ b, u = .bool b ∧ (b = true → chk (k + 1) 40 p = 0 ∧ (PlainD.shape (α := PD k) p).length ≤ 8 ∧ (PlainD.items (α := PD k) p).length ≤ 3000)) := by
  have hp' := hp
  obtain ⟨s, it, rfl, ⟨ad0, cp0, rfl, hS0⟩, ⟨ad, cp, xs, rfl, hS, _⟩⟩ := hp
  have hcap := hS0.caps
  refine Con.of_body Try.func101 rfl Try.ntmps101 rfl rfl ?_
  intro hs
  refine Zrun ?_
  (refine RW.boxN hs rfl rfl ?_; intro b1 w1 hs)
  refine Zerun ?_
  (refine RW.call T hs rfl rfl rfl (refCountB_con 3000 k _ p _ _ hp') ?_; intro v h2 w2 hle2 hp2 hs)
  obtain ⟨r, rfl, hr⟩ := hp2
  by_cases c1 : r ≤ 1500
  · by_cases c2 : (PlainD.shape (α := PD k) p).length ≤ 8
    · refine Zerun ?_
      (refine RW.call T hs rfl rfl rfl (refCheck_con (k + 1) _ p _ _ (PlainAt.mono (k + 1) _ _ _ _ hle2 hp')) ?_; intro v h3 w3 hle3 hp3 hs)
      subst hp3
      refine Zerun ?_
      refine retQ_ret [_] h3 ⟨rfl, trivial⟩ hs.dropAll ⟨_, rfl, fun e => ?_⟩
      have hc := of_decide_eq_true e
      have hh := hr hc (by omega)
      exact ⟨hc, c2, by omega⟩
    · refine Zerun ?_
      exact retQ_ret [_] h2 ⟨rfl, trivial⟩ hs.dropAll ⟨_, rfl, fun e => by cases e⟩
  · refine Zerun ?_
    exact retQ_ret [_] h2 ⟨rfl, trivial⟩ hs.dropAll ⟨_, rfl, fun e => by cases e⟩
theorem tidyW_of {x : Nat} (h : tidyF x) : tidyW x = x := by unfold tidyW; rw [tidySpec_of _ h]
theorem one_kind {α : Type} (n : Int) (h : -9007199254740992 ≤ n ∧ n ≤ 9007199254740992) : (⟨leastN [fwF n], [fwF n], [], []⟩ : VecD α).kind = 1 ∨ (⟨leastN [fwF n], [fwF n], [], []⟩ : VecD α).kind = 2 ∨ (⟨leastN [fwF n], [fwF n], [], []⟩ : VecD α).kind = 3 := by
  have hb := leastN_bounds [fwF n]
  have h3 := fw_rank [n] (fun m hm => by rw [List.mem_singleton.1 hm]; exact h)
  have h3 : leastN [fwF n] ≤ 3 := h3
  dsimp only
  omega
theorem blankA_good (k : Nat) (d : Int) (hd : d ≠ 0) : good (k + 1) d (blankA k) := by
  refine ⟨(by show product [0] 1048576 = (((0 : Nat) : Int), 0); decide), (by show (1 : Int) ≠ 0; omega), ?_, hd, fun b hb => nomatch hb⟩
  show (1 : Int) = VecD.least (⟨1, [], [], []⟩ : VecD (AD k))
  unfold VecD.least
  rw [if_pos ⟨rfl, by dsimp only; omega⟩]
  exact (show (1 : Int) = leastN [] by unfold leastN; rfl)
/-- elements picked, as many as there were: a good array stays one -/
theorem pick_good {k : Nat} {a : AD (k + 2)} (hg : good (k + 2) 40 a) (at_ : List Int) (hl : at_.length = (ArrD.vec (α := AD (k + 1)) a).len) : good (k + 2) 40 (⟨ArrD.shape (α := AD (k + 1)) a, (ArrD.vec (α := AD (k + 1)) a).pick at_ (blankA k)⟩ : ArrD (AD (k + 1))) := by
  obtain ⟨h1, h2, h3, h4, h5⟩ := hg
  obtain ⟨f1, f2, f3, f4⟩ := pick_facts (ArrD.vec (α := AD (k + 1)) a) at_ (blankA k)
  refine ⟨?_, f1, f2, h4, fun b hb => ?_⟩
  · show product (ArrD.shape (α := AD (k + 1)) a) 1048576 = ((((ArrD.vec (α := AD (k + 1)) a).pick at_ (blankA k)).len : Int), 0)
    rw [f3, hl]
    exact h1
  · rcases f4 b hb with e | e
    · exact h5 b e
    · rw [e]; exact blankA_good k _ (by omega)
theorem pick_plain {k : Nat} (s : List Int) (v : VecD (AD (k + 1))) (at_ : List Int) (L : List (ItemD (PD (k + 1)))) (c : Int) (hL : itemsV (plain (k + 1)) v = L) (hc : v.cls = c) : plain (k + 2) (⟨s, v.pick at_ (blankA k)⟩ : ArrD (AD (k + 1))) = (⟨s, at_.map (fun i => atD L i (blankI c : ItemD (PlainD (PD k)))), c⟩ : PlainD (PD (k + 1))) := by
  show (⟨s, itemsV (plain (k + 1)) (v.pick at_ (blankA k)), (v.pick at_ (blankA k)).cls⟩ : PlainD (PD (k + 1))) = _
  rw [pick_cls, hc]
  have := pick_items' (β := PD k) (plain (k + 1)) v at_ (blankA k) L c hL hc rfl
  exact congrArg (fun z => (⟨s, z, c⟩ : PlainD (PD (k + 1)))) this
/-- what a turn comes to, as an array -/
theorem turn_arr {α : Type} {R : GHeap → List Value → α → Prop} {a : ArrD α} {k : Nat} {f : Nat → List Int} {nb : α} {h : GHeap} {cs : List Value} (hT : TurnPost R a k f nb h cs) (hp : product a.shape 1048576 = ((a.vec.len : Int), 0)) (hk : a.shape.length ≠ 0 → k < a.shape.length) :
    ∃ a1 : ArrD α, ArrR R h cs a1 ∧ ((a1 = a ∧ (a.shape.length = 0 ∨ a.vec.len = 0)) ∨ ∃ o d i : Nat, splitSpec a.shape (k : Int) = ((o : Int), (d : Int), (i : Int), true) ∧ o * d * i = a.vec.len ∧ 0 < d ∧ 0 < i ∧ a.shape.length ≠ 0 ∧ 0 < a.vec.len ∧ a1 = ⟨a.shape, a.vec.pick (alongL o d i (f d)) nb⟩) := by
  by_cases c : a.shape.length = 0 ∨ a.vec.len = 0
  · exact ⟨a, hT.1 c, .inl ⟨rfl, c⟩⟩
  · have c1 : a.shape.length ≠ 0 := fun e => c (.inl e)
    have c2 : 0 < a.vec.len := by
      have : a.vec.len ≠ 0 := fun e => c (.inr e)
      omega
    obtain ⟨o, d, i, hsp, _, hod, hod0⟩ := split_axis hp c2 (hk c1)
    exact ⟨_, hT.2 c1 c2 o d i hsp, .inr ⟨o, d, i, hsp, hod, hod0.2.1, hod0.2.2, c1, c2, rfl⟩⟩
theorem axK_lt (s : List Int) (first : Bool) (h : s.length ≠ 0) : axK s first < s.length := by unfold axK; split <;> omega
theorem rolled_len {o d i : Nat} (n : Int) : (alongL o d i (rolledL d n)).length = o * d * i := by rw [alongL_len, rolledL_len, Nat.mul_assoc]
/-- an array turned on, and then back -/
theorem turned_back {k : Nat} {a : AD (k + 2)} (hg : good (k + 2) 40 a) (hIL : (itemsV (plain (k + 1)) (ArrD.vec (α := AD (k + 1)) a)).length = (ArrD.vec (α := AD (k + 1)) a).len) {x : Nat} {n : Int} {a1 a2 : ArrD (AD (k + 1))}
    (h1 : (a1 = a ∧ ((ArrD.shape (α := AD (k + 1)) a).length = 0 ∨ (ArrD.vec (α := AD (k + 1)) a).len = 0)) ∨ ∃ o d i : Nat, splitSpec (ArrD.shape (α := AD (k + 1)) a) (x : Int) = ((o : Int), (d : Int), (i : Int), true) ∧ o * d * i = (ArrD.vec (α := AD (k + 1)) a).len ∧ 0 < d ∧ 0 < i ∧ (ArrD.shape (α := AD (k + 1)) a).length ≠ 0 ∧ 0 < (ArrD.vec (α := AD (k + 1)) a).len ∧ a1 = ⟨ArrD.shape (α := AD (k + 1)) a, (ArrD.vec (α := AD (k + 1)) a).pick (alongL o d i (rolledL d n)) (blankA k)⟩) :
    (product a1.shape 1048576 = ((a1.vec.len : Int), 0) ∧ a1.vec.len ≤ 1048576 ∧ a1.vec.kind ≠ 0 ∧ a1.shape = ArrD.shape (α := AD (k + 1)) a) ∧
    (((a2 = a1 ∧ (a1.shape.length = 0 ∨ a1.vec.len = 0)) ∨ ∃ o d i : Nat, splitSpec a1.shape (x : Int) = ((o : Int), (d : Int), (i : Int), true) ∧ o * d * i = a1.vec.len ∧ 0 < d ∧ 0 < i ∧ a1.shape.length ≠ 0 ∧ 0 < a1.vec.len ∧ a2 = ⟨a1.shape, a1.vec.pick (alongL o d i (rolledL d (-n))) (blankA k)⟩) → good (k + 2) 40 (a2 : AD (k + 2)) ∧ (plain (k + 2) (a2 : AD (k + 2)) = plain (k + 2) a)) := by
  have hsm := (good_sml (k + 2) 40 a hg).2.1
  rcases h1 with ⟨rfl, he⟩ | ⟨o, d, i, hsp, hod, hd, hi, hr, hlen, rfl⟩
  · refine ⟨⟨hg.1, hsm, hg.2.1, rfl⟩, ?_⟩
    rintro (⟨rfl, _⟩ | ⟨o, d, i, _, _, _, _, hr, hl, _⟩)
    · exact ⟨hg, rfl⟩
    · rcases he with e | e
      · exact absurd e hr
      · omega
  · obtain ⟨f1, f2, f3, f4⟩ := pick_facts (ArrD.vec (α := AD (k + 1)) a) (alongL o d i (rolledL d n)) (blankA k)
    rw [rolled_len, hod] at f3
    have hg1 := pick_good hg (alongL o d i (rolledL d n)) (by rw [rolled_len, hod])
    refine ⟨⟨hg1.1, (by dsimp only; rw [f3]; exact hsm), f1, rfl⟩, ?_⟩
    dsimp only
    rintro (⟨_, e | e⟩ | ⟨o', d', i', hsp', hod', hd', hi', hr', hl', rfl⟩)
    · exact absurd e hr
    · omega
    · obtain ⟨rfl, rfl, rfl⟩ := split_inj hsp hsp'
      have hg2 := pick_good (k := k) (a := (⟨ArrD.shape (α := AD (k + 1)) a, (ArrD.vec (α := AD (k + 1)) a).pick (alongL o d i (rolledL d n)) (blankA k)⟩ : ArrD (AD (k + 1)))) hg1 (alongL o d i (rolledL d (-n))) (by rw [rolled_len, hod]; exact f3.symm)
      refine ⟨hg2, ?_⟩
      have hL := pick_items' (β := PD k) (plain (k + 1)) (ArrD.vec (α := AD (k + 1)) a) (alongL o d i (rolledL d n)) (blankA k) _ _ rfl rfl rfl
      rw [pick_plain (ArrD.shape (α := AD (k + 1)) a) _ _ _ _ hL (pick_cls _ _ _)]
      show _ = (⟨ArrD.shape (α := AD (k + 1)) a, itemsV (plain (k + 1)) (ArrD.vec (α := AD (k + 1)) a), (ArrD.vec (α := AD (k + 1)) a).cls⟩ : PlainD (PD (k + 1)))
      have hlen2 : (itemsV (plain (k + 1)) (ArrD.vec (α := AD (k + 1)) a)).length = o * d * i := by rw [hod]; exact hIL
      have := along_back (itemsV (plain (k + 1)) (ArrD.vec (α := AD (k + 1)) a)) (blankI (ArrD.vec (α := AD (k + 1)) a).cls : ItemD (PlainD (PD k))) o d i (rolledN d n) (rolledN d (-n)) hi hd (fun y _ => rolledN_lt d n hd y) (fun y _ => rolledN_lt d (-n) hd y) (fun y hy => rolledN_back d n y hy) hlen2
      exact congrArg (fun z => (⟨ArrD.shape (α := AD (k + 1)) a, z, (ArrD.vec (α := AD (k + 1)) a).cls⟩ : PlainD (PD (k + 1)))) this
end Go.Proofs.Ythbfkhklihejiaa

/-
  What was put at a place of a list is told there, and what lies elsewhere stays. No statement is proved here.
-/
namespace Go.Proofs.Ythbfkhklihejiaa
open Go Go.RowKit
set_option linter.unusedVariables false
set_option linter.unusedSimpArgs false
set_option maxHeartbeats 4000000
attribute [local irreducible] CW RW QW SW HW ConM retM heldQ calmQ elemP thenQ blockQ loopQ joinQ retQ Yields Con Sl zF magR unitF truncF fwF wholeF tidySpec elemQ rankF leastN tidyW
set_option maxHeartbeats 2000000

theorem joinC_one {α : Type} {c : Int} : ∀ (l : List (VecD α)) (c0 : Int), (∀ v ∈ l, v.cls = c) → (c0 = -1 ∨ c0 = c) → ∃ c3, joinC c0 l = some c3 ∧ (c3 = -1 ∨ c3 = c)
  | [], c0, _, h => ⟨c0, rfl, h⟩
  | v :: l, c0, hv, h => by
    by_cases h0 : v.len = 0
    · rw [joinC_skip h0]; exact joinC_one l c0 (fun u hu => hv u (List.mem_cons_of_mem _ hu)) h
    · have hc := hv v (by simp)
      rw [joinC_step h0 (by omega)]
      exact joinC_one l v.cls (fun u hu => hv u (List.mem_cons_of_mem _ hu)) (.inr hc)
theorem sq_cls {α : Type} {v : VecD α} (h : v.cls ≠ 0) : v.sq = v := by
  unfold VecD.sq
  rw [if_neg (fun e => h e.1)]
theorem pick_sq {α : Type} (v : VecD α) (at_ : List Int) (nb : α) : (v.pick at_ nb).sq = v.pick at_ nb := by
  have hb := leastN_bounds (at_.map v.num)
  unfold VecD.pick
  split
  · exact sq_cls (show (1 : Int) ≠ 0 by decide)
  · split
    · exact sq_cls (show (2 : Int) ≠ 0 by decide)
    · exact sq_nums _ _ (by omega) (by omega)
theorem getD_atL {m y : Nat} (Lx : List Int) (h : y < m) : (atL m Lx).getD y 0 = if (y : Int) ∈ Lx then (m : Int) else (y : Int) := by
  unfold atL
  rw [getD_map' _ _ _ _ (by rw [List.length_range]; exact h), List.getElem_range]
theorem idx_item {γ : Type} {m i j : Nat} (La Lb : List γ) (d d2 : γ) (hi : i < m) (hj : j < m) (hLa : La.length = m) (hLb : Lb.length = 1) : atD ((atL m [(i : Int)]).map fun z => atD (La ++ Lb) z d) (j : Int) d = if j = i then Lb.getD 0 d2 else La.getD j d2 := by
  have hal : (atL m [(i : Int)]).length = m := atL_len m _
  have hLL' : (La ++ Lb).length = m + 1 := by rw [List.length_append, hLa, hLb]
  rw [atD_in ⟨by omega, by rw [List.length_map, hal]; omega⟩]
  rw [Int.toNat_natCast, getD_map' _ _ _ _ (by rw [hal]; exact hj)]
  have e1 : (atL m [(i : Int)])[j]'(by rw [hal]; exact hj) = if (j : Int) ∈ [(i : Int)] then (m : Int) else (j : Int) := by
    have := getD_atL [(i : Int)] hj
    rw [List.getD_eq_getElem?_getD, List.getElem?_eq_getElem (by rw [hal]; exact hj)] at this
    exact this
  rw [e1]
  by_cases e : j = i
  · rw [if_pos (by rw [e]; simp), if_pos e, atD_in ⟨by omega, by rw [hLL']; omega⟩, Int.toNat_natCast]
    rw [List.getD_eq_getElem?_getD, List.getElem?_append_right (by omega), hLa, Nat.sub_self, ← List.getD_eq_getElem?_getD]
    rw [List.getD_eq_getElem?_getD, List.getD_eq_getElem?_getD, List.getElem?_eq_getElem (by omega)]
    rfl
  · rw [if_neg (by simp; omega), if_neg e, atD_in ⟨by omega, by rw [hLL']; omega⟩, Int.toNat_natCast]
    rw [List.getD_eq_getElem?_getD, List.getD_eq_getElem?_getD, List.getElem?_append_left (by omega), List.getElem?_eq_getElem (by omega)]
    rfl
structure IdxFacts (k m i j : Nat) (va vb : VecD (AD (k + 1))) (La Lb : List (ItemD (PD (k + 1)))) (c c' : Int) : Prop where
  hj : joinC (-1) [va, vb] = some c'
  k1 : (joinedW c' [va, vb]).kind ≠ 0
  l1 : (joinedW c' [va, vb]).len ≤ 1048576
  n1 : newE [(m : Int)] ((joinedW c' [va, vb]).pick (atL m [(i : Int)]) (blankA k)) = 0
  s1 : Shown (k + 1) ((joinedW c' [va, vb]).pick (atL m [(i : Int)]) (blankA k)) ((atL m [(i : Int)]).map fun z => atD (La ++ Lb) z (blankI c : ItemD (PlainD (PD k)))) c
  n2 : newE [] (((joinedW c' [va, vb]).pick (atL m [(i : Int)]) (blankA k)).pick [(j : Int)] (blankA k)) = 0
  g2 : good (k + 2) 40 (⟨[], ((joinedW c' [va, vb]).pick (atL m [(i : Int)]) (blankA k)).pick [(j : Int)] (blankA k)⟩ : ArrD (AD (k + 1)))
  p2 : plain (k + 2) (⟨[], ((joinedW c' [va, vb]).pick (atL m [(i : Int)]) (blankA k)).pick [(j : Int)] (blankA k)⟩ : ArrD (AD (k + 1))) = (⟨[], [if j = i then Lb.getD 0 noItem else La.getD j noItem], c⟩ : PlainD (PD (k + 1)))
theorem idx_facts {k m i j : Nat} {va vb : VecD (AD (k + 1))} {La Lb : List (ItemD (PD (k + 1)))} {c : Int} (Ha : Shown (k + 1) va La c) (Hb : Shown (k + 1) vb Lb c) (hma : va.len = m) (hmb : vb.len = 1) (hm : m ≤ 3000) (hga : ∀ b ∈ va.boxes, good (k + 1) (40 - 1) b) (hgb : ∀ b ∈ vb.boxes, good (k + 1) (40 - 1) b)
    (hi : i < m) (hj : j < m) (hLa : La.length = m) (hLb : Lb.length = 1) : ∃ c', IdxFacts k m i j va vb La Lb c c' := by
  have hall : ∀ v ∈ [va, vb], Shown (k + 1) v (itemsV (plain (k + 1)) v) c := by
    intro v hv
    simp only [List.mem_cons, List.not_mem_nil, or_false] at hv
    rcases hv with rfl | rfl
    · rw [Ha.he]; exact Ha
    · rw [Hb.he]; exact Hb
  have hsum : ([va, vb].map VecD.len).sum ≤ 1048576 := by show va.len + (vb.len + 0) ≤ _; omega
  obtain ⟨c3, hj3, hc3⟩ := joinC_one _ (-1) (fun v hv => (hall v hv).hc) (.inl rfl)
  have hJ := shown_join hj3 (fun v hv => by rw [(hall v hv).hc]; exact hall v hv) hsum
  have hcc : (if 0 ≤ c3 then c3 else headC [va, vb]) = c := by
    rcases hc3 with rfl | rfl
    · exact Ha.hc
    · have := cls_rng va; rw [Ha.hc] at this; rw [if_pos (by omega)]
  have hLL : [va, vb].flatMap (itemsV (plain (k + 1))) = La ++ Lb := by
    simp only [List.flatMap_cons, List.flatMap_nil, Ha.he, Hb.he, List.append_nil]
  rw [hcc, hLL] at hJ
  have hJ : Shown (k + 1) (joinedW c3 [va, vb]) (La ++ Lb) c := hJ
  have hbx : ∀ b ∈ (joinedW c3 [va, vb]).boxes, good (k + 1) (40 - 1) b := by
    intro b hb
    unfold joinedW at hb
    split at hb
    · unfold noneV at hb
      split at hb
      · cases hb
      · split at hb <;> cases hb
    · obtain ⟨v, hv, hbv⟩ := joinS_boxes hb
      simp only [List.mem_cons, List.not_mem_nil, or_false] at hv
      rcases hv with rfl | rfl
      · exact hga b hbv
      · exact hgb b hbv
  obtain ⟨V, hV⟩ : ∃ V, joinedW c3 [va, vb] = V := ⟨_, rfl⟩
  have hal : (atL m [(i : Int)]).length = m := atL_len m _
  have H1 := hJ.pick (atL m [(i : Int)]) (by omega)
  have H2 := H1.pick [(j : Int)] (show 1 ≤ 1048576 by decide)
  have f1 := pick_facts V (atL m [(i : Int)]) (blankA k)
  refine ⟨c3, hj3, hJ.k0, hJ.vm, ?_, H1, ?_, ?_, ?_⟩
  · rw [hV]
    unfold newE
    rw [product_len1 m (by omega), if_neg (by simp), if_neg f1.1, if_neg (by rw [f1.2.2.1, hal]; simp)]
  · rw [hV]
    obtain ⟨V1, hV1⟩ : ∃ V1, V.pick (atL m [(i : Int)]) (blankA k) = V1 := ⟨_, rfl⟩
    rw [hV1]
    have f2 := pick_facts V1 [(j : Int)] (blankA k)
    unfold newE
    rw [product_0, if_neg (by simp), if_neg f2.1, if_neg (by rw [f2.2.2.1]; simp)]
  · rw [hV] at hbx ⊢
    obtain ⟨V1, hV1⟩ : ∃ V1, V.pick (atL m [(i : Int)]) (blankA k) = V1 := ⟨_, rfl⟩
    rw [hV1] at f1 ⊢
    have f2 := pick_facts V1 [(j : Int)] (blankA k)
    refine ⟨?_, f2.1, f2.2.1, by omega, fun b hb => ?_⟩
    · show product [] 1048576 = (((V1.pick [(j : Int)] (blankA k)).len : Int), 0)
      rw [f2.2.2.1]; exact product_0
    · rcases f2.2.2.2 b hb with e | e
      · rcases f1.2.2.2 b e with e | e
        · exact hbx b e
        · rw [e]; exact blankA_good k _ (by omega)
      · rw [e]; exact blankA_good k _ (by omega)
  · have e := H2.he
    have ec := H2.hc
    obtain ⟨V2, hV2⟩ : ∃ V2, ((joinedW c3 [va, vb]).pick (atL m [(i : Int)]) (blankA k)).pick [(j : Int)] (blankA k) = V2 := ⟨_, rfl⟩
    rw [hV2] at e ec ⊢
    show (⟨[], itemsV (plain (k + 1)) V2, V2.cls⟩ : PlainD (PD (k + 1))) = _
    rw [e, ec]
    have hx : ([(j : Int)].map fun z => atD ((atL m [(i : Int)]).map fun z => atD (La ++ Lb) z (blankI c : ItemD (PlainD (PD k)))) z (blankI c : ItemD (PlainD (PD k)))) = [if j = i then Lb.getD 0 noItem else La.getD j noItem] := by
      exact congrArg (fun z => [z]) (idx_item La Lb _ noItem hi hj hLa hLb)
    rw [hx]
end Go.Proofs.Ythbfkhklihejiaa

/-
  Numbers picked, and put at a place: facts of the example of layer 23. No statement is proved here.
-/
namespace Go.Proofs.Ythbfkhklihejiaa
open Go Go.RowKit
set_option linter.unusedVariables false
set_option linter.unusedSimpArgs false
set_option maxHeartbeats 4000000
attribute [local irreducible] CW RW QW SW HW ConM retM heldQ calmQ elemP thenQ blockQ loopQ joinQ retQ Yields Con Sl zF magR unitF truncF fwF wholeF tidySpec elemQ rankF leastN tidyW
set_option maxHeartbeats 2000000

theorem nums_pick {α : Type} (N : List Nat) (at_ : List Int) (nb : α) : (⟨leastN N, N, [], []⟩ : VecD α).pick at_ nb = ⟨leastN (at_.map (VecD.num (⟨leastN N, N, [], []⟩ : VecD α))), at_.map (VecD.num (⟨leastN N, N, [], []⟩ : VecD α)), [], []⟩ := by
  have hb := leastN_bounds N
  unfold VecD.pick
  rw [if_neg (by dsimp only; omega), if_neg (by dsimp only; omega)]
theorem nums_newE {α : Type} (s : List Int) (N : List Nat) (h : product s 1048576 = ((N.length : Int), 0)) : newE s (⟨leastN N, N, [], []⟩ : VecD α) = 0 := by
  have hb := leastN_bounds N
  unfold newE
  rw [h, if_neg (by simp), if_neg (by dsimp only; omega), if_neg (by
    show ¬ ((N.length : Int) ≠ ((N.length + 0 + 0 : Nat) : Int))
    omega)]
theorem nums_joined {α : Type} (M N : List Nat) (hm : M.length ≠ 0) (hn : N.length ≠ 0) : joinC (-1) [(⟨leastN M, M, [], []⟩ : VecD α), ⟨leastN N, N, [], []⟩] = some 0 ∧ joinedW 0 [(⟨leastN M, M, [], []⟩ : VecD α), ⟨leastN N, N, [], []⟩] = ⟨leastN (M ++ N), M ++ N, [], []⟩ := by
  have h1 := numV_cls (α := α) M
  have h2 := numV_cls (α := α) N
  constructor
  · rw [joinC_step (by show M.length + 0 + 0 ≠ 0; omega) (by omega), h1, joinC_step (by show N.length + 0 + 0 ≠ 0; omega) (by rw [h2]; omega), h2]
    rfl
  · unfold joinedW joinS
    rw [if_neg (by omega), if_neg (by omega), if_neg (by omega)]
    simp only [List.flatMap_cons, List.flatMap_nil, List.append_nil]
/-- whole numbers from 0 to 7, as words -/
def e567 : List Int := [5, 6, 7]
theorem e_in {l : List Int} (h : l.all (fun n => decide (0 ≤ n ∧ n ≤ 7)) = true) : ∀ n ∈ l, -9007199254740992 ≤ n ∧ n ≤ 9007199254740992 := by
  intro n hn
  have := List.all_eq_true.1 h n hn
  simp at this
  omega
theorem e_word : [fwF 0, fwF 1, fwF 2, fwF 3, fwF 5, fwF 6, fwF 7] = [0, 4607182418800017408, 4611686018427387904, 4613937818241073152, 4617315517961601024, 4618441417868443648, 4619567317775286272] := by
  unfold fwF; decide
end Go.Proofs.Ythbfkhklihejiaa
