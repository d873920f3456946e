/-
  Own texts of the claim, merged: Ja, Jb, Jc, Jd, Je, Ka, PlainN, LibX, Pa, Fc, Fd, Fe, Ff, Pb, LibY, Pc, Il, Im, On, Kb, Kc, Kd, Ke, Kf, Kg, Kh, PlainO, Pd, PlainP, Ra, PlainQ, Rb, Ga, Ge, Rc, Re, Rf. Lemmas of the proof; no statement is proved here.
-/
import Derived.Test.YtmfealaaacmohaaGreatMb
import Derived.Laws.Externs
/-
  Contracts of functions of packages vec and flat: no elements, what stands for none, elements of a list at some places. No statement is proved here.
-/
namespace Go.Proofs.YtmfealaaacmohaaGreat
open Go Go.RowKit
set_option linter.unusedVariables false
set_option linter.unusedSimpArgs false
set_option maxHeartbeats 4000000
attribute [local irreducible] CW RW QW SW HW ConM retM heldQ calmQ elemP thenQ blockQ loopQ joinQ retQ Yields Con Sl zF magR unitF truncF fwF wholeF tidySpec elemQ rankF leastN tidyW

theorem bits_none (h : GHeap) : BitsAt h (.slice none 0 0) [] := ⟨Nat.zero_le _, [], RowAt.nil h, ⟨rfl, ⟨fun u hu => (by cases hu), fun i => (by simp)⟩⟩⟩
theorem putCells_mid : ∀ (cs pre mid suf : List Value), mid.length = cs.length → putCells (pre ++ (mid ++ suf)) pre.length cs = pre ++ (cs ++ suf)
  | [], pre, mid, suf, h => by
    have : mid = [] := List.eq_nil_of_length_eq_zero h
    subst this; rfl
  | c :: r, pre, [], suf, h => by simp at h
  | c :: r, pre, m :: mid, suf, h => by
    simp only [putCells]
    have e : (pre ++ (m :: mid ++ suf)).set pre.length c = (pre ++ [c]) ++ (mid ++ suf) := by simp
    rw [e]
    have := putCells_mid r (pre ++ [c]) mid suf (by simpa using h)
    simp only [List.length_append, List.length_singleton] at this
    rw [this]
    simp
section
variable {α : Type} {R : GHeap → List Value → α → Prop}
/-- no elements of a class -/
def noneV (c : Int) : VecD α := if c = 1 then ⟨5, [], [], []⟩ else if c = 2 then ⟨6, [], [], []⟩ else ⟨1, [], [], []⟩
theorem vecNone_con (hR : Mono R) (h1 : One R) (c : Int) (w : World) (h : GHeap) : Con Tryz.prog 82 [.int .i64 c] w h (fun h' u => ∃ cs', u = .agg cs'.toArray ∧ VecAt R h' cs' (noneV c)) := by
  refine Con.of_body Tryz.func82 rfl Tryz.ntmps82 rfl rfl ?_
  intro hs
  refine Zrun ?_
  (refine RW.allocN T hs rfl rfl rfl rfl ?_; intro b1 w1 hs)
  refine Zerun ?_
  unfold noneV
  by_cases c1 : c = 1
  · rw [if_pos c1]
    refine Zerun ?_
    (refine RW.call T hs rfl rfl rfl (vecChars_con (R := R) _ [] _ _ (RowAt.nil _) (by simp)) ?_; intro v h2 w2 hle2 hp2 hs)
    obtain ⟨cs2, rfl, hv2⟩ := hp2
    have hv2' := hv2
    obtain ⟨wv, nv, sm, il, fl, ch, bx, ⟨rfl, hoc⟩, _⟩ := hv2
    (refine RW.storeAll T hs 0 rfl rfl rfl rfl rfl rfl hoc rfl ?_; intro w3 hs)
    refine Zerun ?_
    exact retQ_ret [_] h2 ⟨resN T hs 0 rfl rfl rfl rfl rfl rfl, trivial⟩ hs.dropAll ⟨_, rfl, hv2'⟩
  rw [if_neg c1]
  by_cases c2 : c = 2
  · rw [if_pos c2]
    refine Zerun ?_
    (refine RW.call T hs rfl rfl rfl (vecBoxes_con (R := R) hR h1 _ [] _ _ (RowsAt.nil _) (by simp)) ?_; intro v h2 w2 hle2 hp2 hs)
    obtain ⟨cs2, rfl, hv2⟩ := hp2
    have hv2' := hv2
    obtain ⟨wv, nv, sm, il, fl, ch, bx, ⟨rfl, hoc⟩, _⟩ := hv2
    (refine RW.storeAll T hs 0 rfl rfl rfl rfl rfl rfl hoc rfl ?_; intro w3 hs)
    refine Zerun ?_
    exact retQ_ret [_] h2 ⟨resN T hs 0 rfl rfl rfl rfl rfl rfl, trivial⟩ hs.dropAll ⟨_, rfl, hv2'⟩
  rw [if_neg c2]
  refine Zerun ?_
  refine RW.val (Y.build T rfl rfl rfl rfl rfl rfl rfl) rfl ?_
  (refine RW.call T hs rfl rfl rfl (vecBits_con (R := R) _ [] _ _ (bits_none _)) ?_; intro v h2 w2 hle2 hp2 hs)
  obtain ⟨cs2, rfl, hv2⟩ := hp2
  have hv2' := hv2
  obtain ⟨wv, nv, sm, il, fl, ch, bx, ⟨rfl, hoc⟩, _⟩ := hv2
  (refine RW.storeAll T hs 0 rfl rfl rfl rfl rfl rfl hoc rfl ?_; intro w3 hs)
  refine Zerun ?_
  exact retQ_ret [_] h2 ⟨resN T hs 0 rfl rfl rfl rfl rfl rfl, trivial⟩ hs.dropAll ⟨_, rfl, hv2'⟩
theorem flatBlank_con (hR : Mono R) (h1 : One R) (w : World) (h : GHeap) : Con Tryz.prog 159 [] w h (fun h' u => ∃ cs', u = .agg cs'.toArray ∧ ArrR R h' cs' ⟨[0], ⟨1, [], [], []⟩⟩) := by
  refine Con.of_body Tryz.func159 rfl Tryz.ntmps159 rfl rfl ?_
  intro hs
  refine Zrun ?_
  (refine RW.allocN T hs rfl rfl rfl rfl ?_; intro b1 w1 hs)
  refine Zerun ?_
  (refine RW.lit T hs (vs := [.int .i64 0]) (cs := [.int .i64 0]) rfl rfl rfl rfl (by simp [Value.cells]) rfl rfl rfl rfl rfl ?_; intro b2 w2 hs)
  obtain ⟨h3, hle3, hs, hS3⟩ := hs.freeze
  have hI3 : IntsAt h3 (.slice (some ⟨b2, 0, none⟩) 1 1) [0] := IntsAt.of_sl hS3
  (refine RW.call T hs rfl rfl rfl (vecNone_con (R := R) hR h1 0 _ _) ?_; intro v h4 w4 hle4 hp4 hs)
  obtain ⟨cs4, rfl, hv4⟩ := hp4
  have hv4' : VecAt R h4 cs4 ⟨1, [], [], []⟩ := hv4
  have hv5 := hv4'
  obtain ⟨wv, nv, sm, il, fl, ch, bx, ⟨rfl, hoc⟩, _⟩ := hv5
  refine RW.val (Y.build T rfl rfl rfl rfl rfl rfl rfl) rfl ?_
  (refine RW.storeAll T hs 0 rfl rfl rfl rfl rfl rfl hoc rfl ?_; intro w5 hs)
  refine Zerun ?_
  exact retQ_ret [_] h4 ⟨resN T hs 0 rfl rfl rfl rfl rfl rfl, trivial⟩ hs.dropAll ⟨_, rfl, _, _, rfl, hI3.mono hle4, hv4'⟩
theorem flatFrom_con (cs : List Value) (v : VecD α) (i : Int) (w : World) (h : GHeap) (hv : VecAt R h cs v) : Con Tryz.prog 155 [.agg cs.toArray, .int .i64 i] w h (fun _ u => u = .float .f64 (v.num i)) := by
  have hv' := hv
  obtain ⟨wv, nv, sm, il, fl, ch, bx, ⟨rfl, hoc⟩, _⟩ := hv
  refine Con.of_body Tryz.func155 rfl Tryz.ntmps155 rfl rfl ?_
  intro hs
  refine Zrun ?_
  (refine RW.boxN hs rfl rfl ?_; intro b1 w1 hs)
  refine Zerun ?_
  (refine RW.call T hs rfl rfl rfl (vecNum_con _ v i _ _ hv') ?_; intro v h2 w2 hle2 hp2 hs)
  subst hp2
  refine Zerun ?_
  exact retQ_ret [_] h2 ⟨rfl, trivial⟩ hs.dropAll rfl
end
/-- the elements of a list at a place; another one, where there is no such place -/
def atD {γ : Type} (l : List γ) (i : Int) (d : γ) : γ := if 0 ≤ i then l.getD i.toNat d else d
theorem atD_in {γ : Type} {l : List γ} {i : Int} {d : γ} (h : 0 ≤ i ∧ i < l.length) : atD l i d = l.getD i.toNat d := by unfold atD; rw [if_pos h.1]
theorem atD_out {γ : Type} {l : List γ} {i : Int} {d : γ} (h : ¬ (0 ≤ i ∧ i < l.length)) : atD l i d = d := by
  unfold atD
  by_cases c : 0 ≤ i
  · rw [if_pos c, List.getD_eq_getElem?_getD, List.getElem?_eq_none (by omega)]; rfl
  · rw [if_neg c]
theorem getD_any {γ : Type} (l : List γ) (k : Nat) (a b : γ) (h : k < l.length) : l.getD k a = l.getD k b := by simp [List.getD_eq_getElem?_getD, h]
theorem getElem_getD {γ : Type} (l : List γ) (k : Nat) (d : γ) (h : k < l.length) : l[k] = l.getD k d := by simp [List.getD_eq_getElem?_getD, h]
theorem set_again {β : Type} (a r : List β) (z v : β) : ((a ++ [z]) ++ r).set a.length v = (a ++ [v]) ++ r := by simp
theorem thoseRune_con (v v1 : Value) (l at_ : List Int) (d : Int) (w : World) (h : GHeap) (hl : KAt .i32 h v l) (ha : IntsAt h v1 at_) (hm : at_.length ≤ 1048576) : Con Tryz.prog 156 [v, v1, .int .i32 d] w h (fun h' u => KAt .i32 h' u (at_.map fun i => atD l i d)) := by
  obtain ⟨ad, cp, rfl, hS⟩ := hl
  obtain ⟨ad1, cp1, rfl, hS1⟩ := ha
  have hlen : l.length ≤ 9223372036854775807 := by have := hS.caps; omega
  refine Con.of_body Tryz.func156 rfl Tryz.ntmps156 rfl rfl ?_
  intro hs
  refine Zerun ?_
  (refine RW.make1 T hs rfl rfl rfl rfl rfl rfl rfl (by dsimp only; omega) (by omega) ?_; intro b3 w3 hs)
  refine Zerun ?_
  refine CW.loop (fun i : Nat => [(0, .slice ad l.length cp), (1, .slice ad1 at_.length cp1), (2, .int .i32 d), (7, .slice (some ⟨b3, 0, none⟩) at_.length at_.length), (13, .slice ad1 at_.length cp1), (14, .int .i64 at_.length), (15, .int .i64 i)]) (fun i w' => i ≤ at_.length ∧ Sees w h h [⟨some ⟨b3, 0, none⟩, at_.length, at_.length, 21, 1, ((at_.take i).map fun i => atD l i d).map (Value.int .i32) ++ List.replicate (at_.length - i) (.int .i32 0)⟩] w') (fun i => at_.length - i) 0 ⟨rfl, rfl, rfl, rfl, rfl, rfl, rfl, trivial⟩ ⟨by omega, by simpa using hs⟩ ?_
  rintro i w5 ⟨hi, hs⟩
  by_cases hlt : i < at_.length
  · have htk := take_succ_getD at_ i 0 hlt
    have ga := map_get (Value.int .i64) at_ i 0 hlt
    have fin : ∀ x : Int, x = atD l (at_.getD i 0) d → ((at_.take i).map fun i => atD l i d).map (Value.int .i32) ++ [Value.int .i32 x] ++ List.replicate (at_.length - i - 1) (.int .i32 0) = ((at_.take (i + 1)).map fun i => atD l i d).map (Value.int .i32) ++ List.replicate (at_.length - (i + 1)) (.int .i32 0) := by
      intro x hx
      rw [htk, List.map_append, List.map_append, hx, show at_.length - (i + 1) = at_.length - i - 1 by omega]; rfl
    have e1 := set_snoc (((at_.take i).map fun i => atD l i d).map (Value.int .i32)) (at_.length - i) (Value.int .i32 0) (Value.int .i32 d) (by omega)
    simp only [List.length_map, List.length_take, Nat.min_eq_left hi] at e1
    refine Zerun ?_
    refine RW.val (Y.idxRN T hs 0 rfl rfl rfl rfl rfl rfl ?_) rfl ?_
    · omega
    refine RW.st1 T hs 0 rfl rfl rfl rfl rfl rfl rfl (by omega) ?_
    intro w6 hs
    replace hs := hs.re e1
    refine Zerun ?_
    have done : ∀ (x : Int) (w' : World), x = atD l (at_.getD i 0) d → Sees w h h [⟨some ⟨b3, 0, none⟩, at_.length, at_.length, 21, 1, ((at_.take i).map fun i => atD l i d).map (Value.int .i32) ++ [Value.int .i32 x] ++ List.replicate (at_.length - i - 1) (.int .i32 0)⟩] w' → Sees w h h [⟨some ⟨b3, 0, none⟩, at_.length, at_.length, 21, 1, ((at_.take (i + 1)).map fun i => atD l i d).map (Value.int .i32) ++ List.replicate (at_.length - (i + 1)) (.int .i32 0)⟩] w' := fun x w' hx hs => hs.re (fin x hx)
    by_cases c1 : at_.getD i 0 < 0
    · refine Zerun ?_
      exact loopQ_round (i + 1) ⟨rfl, rfl, rfl, rfl, rfl, rfl, rfl, trivial⟩ ⟨by omega, done d _ (atD_out (by omega)).symm hs⟩ (by omega)
    by_cases c2 : ¬ at_.getD i 0 < l.length
    · refine Zerun ?_
      exact loopQ_round (i + 1) ⟨rfl, rfl, rfl, rfl, rfl, rfl, rfl, trivial⟩ ⟨by omega, done d _ (atD_out (by omega)).symm hs⟩ (by omega)
    have hlk : (at_.getD i 0).toNat < l.length := by omega
    refine Zerun ?_
    refine RW.val (Y.idxRN T hs 0 rfl rfl rfl rfl rfl rfl ?_) rfl ?_
    · omega
    refine RW.st1 T hs 0 rfl rfl rfl rfl rfl rfl rfl (by omega) ?_
    intro w7 hs
    have e2 := set_again (((at_.take i).map fun i => atD l i d).map (Value.int .i32)) (List.replicate (at_.length - i - 1) (.int .i32 0)) (Value.int .i32 d) (Value.int .i32 (l.getD (at_.getD i 0).toNat 0))
    simp only [List.length_map, List.length_take, Nat.min_eq_left hi] at e2
    replace hs := hs.re e2
    refine Zerun ?_
    refine loopQ_round (i + 1) ⟨rfl, rfl, rfl, rfl, rfl, rfl, rfl, trivial⟩ ⟨by omega, done _ _ ?_ hs⟩ (by omega)
    rw [atD_in (by omega)]
    exact getD_any l _ 0 d hlk
  · obtain rfl : i = at_.length := by omega
    rw [List.take_length, Nat.sub_self, List.replicate_zero, List.append_nil] at hs
    obtain ⟨h6, hle6, hs, hS6⟩ := hs.freeze
    refine Zerun ?_
    refine retQ_ret [_] h6 ⟨rfl, trivial⟩ hs.dropAll ?_
    have := RowAt.of_sl (mk := Value.int .i32) hS6
    exact this
theorem length_zeros (n : Nat) : (madeCells (#[.slice none 0 0, .int .i64 0, .slice none 0 0, .int .i64 0, .slice none 0 0, .slice none 0 0, .slice none 0 0, .slice none 0 0, .slice none 0 0] : Array Value) (n * 9)).toList.length = n * 9 := by
  simp [madeCells]
section
variable {α : Type} {R : GHeap → List Value → α → Prop}
theorem thoseArr_con (hR : Mono R) (h1 : One R) (h9 : Siz 9 R) (v v1 : Value) (l : List α) (at_ : List Int) (cs : List Value) (d : α) (w : World) (h : GHeap) (hl : RowsAt 9 (R h) h v l) (ha : IntsAt h v1 at_) (hd : R h cs d) (hm : at_.length ≤ 1048576) : Con Tryz.prog 158 [v, v1, .agg cs.toArray] w h (fun h' u => RowsAt 9 (R h') h' u (at_.map fun i => atD l i d)) := by
  obtain ⟨ad, cp, xs, rfl, hS, hA⟩ := hl
  obtain ⟨ad1, cp1, rfl, hS1⟩ := ha
  have hlen : l.length ≤ 9223372036854775807 := by have := hS.caps; omega
  have hl9 := h9 _ _ _ hd
  have ho9 := h1 _ _ _ hd
  refine Con.of_body Tryz.func158 rfl Tryz.ntmps158 rfl rfl ?_
  intro hs
  refine Zrun ?_
  (refine RW.boxN hs rfl rfl ?_; intro b1 w1 hs)
  refine Zerun ?_
  (refine RW.make T hs rfl rfl rfl rfl rfl ?_ ?_ ?_ ?_ ?_; omega; omega; (dsimp only; omega); omega; intro b3 w3 hs)
  rw [Int.toNat_natCast] at hs ⊢
  have hzl := length_zeros at_.length
  generalize hz : (madeCells (#[.slice none 0 0, .int .i64 0, .slice none 0 0, .int .i64 0, .slice none 0 0, .slice none 0 0, .slice none 0 0, .slice none 0 0, .slice none 0 0] : Array Value) (at_.length * 9)).toList = zs at hzl
  have hs : Sees w h h [⟨some ⟨b3, 0, none⟩, at_.length, at_.length, 39, 9, [] ++ zs⟩, ⟨some ⟨b1, 0, none⟩, 1, 1, 39, cs.length, cs⟩] w3 := by rw [← hz]; exact hs
  refine Zerun ?_
  refine CW.loop (fun u : Nat × List Value × List Value => [(0, .slice ad l.length cp), (1, .slice ad1 at_.length cp1), (5, .pointer (some ⟨b1, 0, none⟩)), (7, .slice (some ⟨b3, 0, none⟩) at_.length at_.length), (13, .slice ad1 at_.length cp1), (14, .int .i64 at_.length), (15, .int .i64 u.1)]) (fun u w' => u.1 ≤ at_.length ∧ u.2.2.length = (at_.length - u.1) * 9 ∧ AllN 9 (R h) u.2.1 ((at_.take u.1).map fun i => atD l i d) ∧ Sees w h h [⟨some ⟨b3, 0, none⟩, at_.length, at_.length, 39, 9, u.2.1 ++ u.2.2⟩, ⟨some ⟨b1, 0, none⟩, 1, 1, 39, cs.length, cs⟩] w') (fun u => at_.length - u.1) (0, [], zs) ⟨rfl, rfl, rfl, rfl, rfl, rfl, rfl, trivial⟩ ⟨by omega, by simpa using hzl, rfl, hs⟩ ?_
  rintro ⟨i, vs, zs⟩ w5 ⟨hi, hzl, hAv, hs⟩
  dsimp only at hi hzl hAv hs ⊢
  by_cases hlt : i < at_.length
  · have htk := take_succ_getD at_ i 0 hlt
    have ga := map_get (Value.int .i64) at_ i 0 hlt
    have hvl : vs.length = i * 9 := by rw [hAv.length]; simp [Nat.min_eq_left hi]
    have hz9 : (zs.take 9).length = 9 := by rw [List.length_take]; have : 9 ≤ zs.length := by rw [hzl]; omega
                                            omega
    have hput := putCells_mid cs vs (zs.take 9) (zs.drop 9) (by rw [hz9, hl9])
    rw [List.take_append_drop, hvl] at hput
    have hzd : (zs.drop 9).length = (at_.length - (i + 1)) * 9 := by rw [List.length_drop, hzl]; omega
    refine Zerun ?_
    refine RW.val (Y.loadRowN (cs := cs) T hs 1 rfl rfl rfl rfl rfl (List.take_of_length_le (by rw [List.drop_zero]; exact Nat.le_of_eq hl9)) hl9) rfl ?_
    refine RW.val (Y.idxRN T hs 0 rfl rfl rfl rfl rfl rfl ?_) rfl ?_
    · omega
    refine RW.stN T hs 0 rfl rfl rfl rfl rfl (by simpa using hl9) (by simpa using ho9) rfl (by omega) ?_
    intro w6 hs
    have hs : Sees w h h [⟨some ⟨b3, 0, none⟩, at_.length, at_.length, 39, 9, vs ++ (cs ++ zs.drop 9)⟩, ⟨some ⟨b1, 0, none⟩, 1, 1, 39, cs.length, cs⟩] w6 := by rw [← hput]; exact hs
    have hlen2 : ∀ ys : List Value, ys.length = 9 → (vs ++ (ys ++ zs.drop 9)) = (vs ++ ys) ++ zs.drop 9 := fun ys _ => by simp
    have done : ∀ (ys : List Value) (x : α), R h ys x → x = atD l (at_.getD i 0) d → AllN 9 (R h) (vs ++ ys) ((at_.take (i + 1)).map fun i => atD l i d) := by
      intro ys x hy hx
      rw [htk, List.map_append]
      show AllN 9 (R h) (vs ++ ys) (_ ++ [atD l (at_.getD i 0) d])
      rw [← hx]
      exact hAv.append (AllN.one (h9 _ _ _ hy) hy)
    refine Zerun ?_
    by_cases c1 : at_.getD i 0 < 0
    · refine Zerun ?_
      exact loopQ_round (i + 1, vs ++ cs, zs.drop 9) ⟨rfl, rfl, rfl, rfl, rfl, rfl, rfl, trivial⟩ ⟨by dsimp only; omega, hzd, done cs d hd (atD_out (by omega)).symm, by dsimp only; rw [← hlen2 cs hl9]; exact hs⟩ (by dsimp only; omega)
    by_cases c2 : ¬ at_.getD i 0 < l.length
    · refine Zerun ?_
      exact loopQ_round (i + 1, vs ++ cs, zs.drop 9) ⟨rfl, rfl, rfl, rfl, rfl, rfl, rfl, trivial⟩ ⟨by dsimp only; omega, hzd, done cs d hd (atD_out (by omega)).symm, by dsimp only; rw [← hlen2 cs hl9]; exact hs⟩ (by dsimp only; omega)
    have hlk : (at_.getD i 0).toNat < l.length := by omega
    obtain ⟨y, hy, hyl, hRy⟩ := hA.elem _ hlk
    have hoy := h1 _ _ _ hRy
    refine Zerun ?_
    refine RW.val (Y.idxRN T hs 0 rfl rfl rfl rfl rfl rfl ?_) rfl ?_
    · omega
    refine RW.stN T hs 0 rfl rfl rfl rfl rfl (by simpa using hyl) (by simpa using hoy) rfl (by omega) ?_
    intro w7 hs
    have hput2 := putCells_mid y vs cs (zs.drop 9) (by rw [hl9, hyl])
    rw [hvl] at hput2
    have hs : Sees w h h [⟨some ⟨b3, 0, none⟩, at_.length, at_.length, 39, 9, vs ++ (y ++ zs.drop 9)⟩, ⟨some ⟨b1, 0, none⟩, 1, 1, 39, cs.length, cs⟩] w7 := by rw [← hput2]; exact hs
    refine Zerun ?_
    refine loopQ_round (i + 1, vs ++ y, zs.drop 9) ⟨rfl, rfl, rfl, rfl, rfl, rfl, rfl, trivial⟩ ⟨by dsimp only; omega, hzd, done y _ hRy ?_, by dsimp only; rw [← hlen2 y hyl]; exact hs⟩ (by dsimp only; omega)
    exact (getElem_getD l _ d hlk).trans (atD_in (by omega)).symm
  · obtain rfl : i = at_.length := by omega
    rw [List.take_length] at hAv
    have hz0 : zs = [] := List.eq_nil_of_length_eq_zero (by rw [hzl]; omega)
    subst hz0
    obtain ⟨h6, hle6, hs, hS6⟩ := hs.freeze
    refine Zerun ?_
    refine retQ_ret [_] h6 ⟨rfl, trivial⟩ hs.dropAll ⟨some ⟨b3, 0, none⟩, at_.length, vs, by simp [packv], ?_, hAv.mono (fun u a => hR _ _ u a hle6)⟩
    simpa using hS6
end
end Go.Proofs.YtmfealaaacmohaaGreat

/-
  Contracts of functions of package flat: elements picked. No statement is proved here.
-/
namespace Go.Proofs.YtmfealaaacmohaaGreat
open Go Go.RowKit
set_option linter.unusedVariables false
set_option linter.unusedSimpArgs false
set_option maxHeartbeats 4000000
attribute [local irreducible] CW RW QW SW HW ConM retM heldQ calmQ elemP thenQ blockQ loopQ joinQ retQ Yields Con Sl zF magR unitF truncF fwF wholeF tidySpec elemQ rankF leastN tidyW
set_option maxHeartbeats 4000000

theorem wholeF_bounds (x : Nat) : -9007199254740992 ≤ (wholeF x).1 ∧ (wholeF x).1 ≤ 9007199254740992 := by
  unfold wholeF
  split
  · rename_i h; exact trunc_bounds x h
  · constructor <;> decide
section
variable {α : Type} {R : GHeap → List Value → α → Prop}
theorem flatPickBits_con (hR : Mono R) (cs : List Value) (v : VecD α) (v1 : Value) (at_ : List Int) (bs : List Bool) (w : World) (h : GHeap) (hv : VecAt R h cs v) (hbs : v = ⟨1, bs.map bitF, [], []⟩) (ha : IntsAt h v1 at_) (hm : at_.length ≤ 1048576) : Con Tryz.prog 153 [.agg cs.toArray, v1] w h (fun h' u => ∃ cs', u = .agg cs'.toArray ∧ VecAt R h' cs' ⟨1, (at_.map fun i => bitAt bs i).map bitF, [], []⟩) := by
  obtain ⟨ad1, cp1, rfl, hS1⟩ := ha
  have hv' := hv
  obtain ⟨wv, nv, sm, il, fl, ch, bx, ⟨rfl, hoc⟩, hk⟩ := hv
  clear hk
  refine Con.of_body Tryz.func153 rfl Tryz.ntmps153 rfl rfl ?_
  intro hs
  refine Zrun ?_
  (refine RW.boxN hs rfl rfl ?_; intro b1 w1 hs)
  (refine RW.allocN T hs rfl rfl rfl rfl ?_; intro b2 w2 hs)
  refine Zerun ?_
  (refine RW.call T hs rfl rfl rfl (vecPacked_con _ v _ _ hv') ?_; intro v h3 w3 hle3 hp3 hs)
  obtain ⟨wv3, bs3, rfl, hb3, hb3', _⟩ := hp3
  have hbb : bs3 = bs := by
    have e := hb3' (by rw [hbs])
    rw [hbs] at e
    have e2 : bs.map bitF = bs3.map bitF := by injection e
    have inj : ∀ a b : Bool, bitF a = bitF b → a = b := by decide
    have key : ∀ (a b : List Bool), a.map bitF = b.map bitF → a = b := by
      intro a
      induction a with
      | nil => intro b hb; cases b with
        | nil => rfl
        | cons => simp at hb
      | cons x a ih => intro b hb; cases b with
        | nil => simp at hb
        | cons y b =>
          simp only [List.map_cons, List.cons.injEq] at hb
          rw [inj x y hb.1, ih b hb.2]
    exact (key _ _ e2).symm
  subst hbb
  have hb3'' := hb3
  obtain ⟨_, ws3, ⟨ad3, cp3, rfl, _⟩, _⟩ := hb3
  have hS1 := hS1.mono hle3
  refine Zerun ?_
  (refine RW.allocN T hs rfl rfl rfl rfl ?_; intro b4 w4 hs)
  (refine RW.storeAll T hs 0 rfl rfl rfl rfl rfl rfl rfl rfl ?_; intro w5 hs)
  refine Zerun ?_
  (refine RW.make1 T hs rfl rfl rfl rfl rfl rfl rfl (by dsimp only; omega) (by omega) ?_; intro b6 w6 hs)
  refine Zerun ?_
  refine CW.loop (fun u : Nat × GHeap => [(1, .slice ad1 at_.length cp1), (2, .pointer (some ⟨b1, 0, none⟩)), (4, .pointer (some ⟨b2, 0, none⟩)), (5, .pointer (some ⟨b4, 0, none⟩)), (7, .slice (some ⟨b6, 0, none⟩) at_.length at_.length), (18, .slice ad1 at_.length cp1), (19, .int .i64 at_.length), (20, .int .i64 u.1)]) (fun u w' => u.1 ≤ at_.length ∧ GLe h3 u.2 ∧ Sees w h u.2 [⟨some ⟨b6, 0, none⟩, at_.length, at_.length, 4, 1, ((at_.take u.1).map fun i => bitAt bs3 i).map Value.bool ++ List.replicate (at_.length - u.1) (.bool false)⟩, ⟨some ⟨b4, 0, none⟩, 1, 1, 30, 2, [.slice ad3 ws3.length cp3, .int .i64 bs3.length]⟩, ⟨some ⟨b2, 0, none⟩, 1, 1, 37, 8, vecCells 0 (.slice none 0 0) 0 (.slice none 0 0) (.slice none 0 0) (.slice none 0 0) (.slice none 0 0) (.slice none 0 0)⟩, ⟨some ⟨b1, 0, none⟩, 1, 1, 37, 8, vecCells v.kind wv nv sm il fl ch bx⟩] w') (fun u => at_.length - u.1) (0, h3) ⟨rfl, rfl, rfl, rfl, rfl, rfl, rfl, rfl, trivial⟩ ⟨by omega, GLe.refl _, by simp only [List.take_zero, List.map_nil, List.nil_append, Nat.sub_zero]; exact hs⟩ ?_
  rintro ⟨i, hh⟩ w7 ⟨hi, hg, hs⟩
  dsimp only at hi hg hs ⊢
  have hS1 := hS1.mono hg
  have hb' := hb3''.mono hg
  by_cases hlt : i < at_.length
  · have htk := take_succ_getD at_ i 0 hlt
    refine Zerun ?_
    (refine RW.call T hs rfl rfl rfl (bitsAt_con _ bs3 (at_.getD i 0) _ _ hb') ?_; intro v h8 w8 hle8 hp8 hs)
    subst hp8
    refine RW.val (Y.idxRN T hs 0 rfl rfl rfl rfl rfl rfl ?_) rfl ?_
    · omega
    refine RW.st1 T hs 0 rfl rfl rfl rfl rfl rfl rfl (by omega) ?_
    intro w9 hs
    have e1 := set_snoc (((at_.take i).map fun i => bitAt bs3 i).map Value.bool) (at_.length - i) (Value.bool false) (Value.bool (bitAt bs3 (at_.getD i 0))) (by omega)
    simp only [List.length_map, List.length_take, Nat.min_eq_left hi] at e1
    have e2 : ((at_.take i).map fun i => bitAt bs3 i).map Value.bool ++ [Value.bool (bitAt bs3 (at_.getD i 0))] ++ List.replicate (at_.length - i - 1) (.bool false) = ((at_.take (i + 1)).map fun i => bitAt bs3 i).map Value.bool ++ List.replicate (at_.length - (i + 1)) (.bool false) := by
      rw [htk, List.map_append, List.map_append, show at_.length - (i + 1) = at_.length - i - 1 by omega]; rfl
    replace hs := hs.re (e1.trans e2)
    refine Zerun ?_
    exact loopQ_round (i + 1, h8) ⟨rfl, rfl, rfl, rfl, rfl, rfl, rfl, rfl, trivial⟩ ⟨by dsimp only; omega, hg.trans hle8, hs⟩ (by dsimp only; omega)
  · obtain rfl : i = at_.length := by omega
    rw [List.take_length, Nat.sub_self, List.replicate_zero, List.append_nil] at hs
    obtain ⟨h8, hle8, hs, hS8⟩ := hs.freeze
    have hT8 : TAt h8 (.slice (some ⟨b6, 0, none⟩) at_.length at_.length) (at_.map fun i => bitAt bs3 i) := RowAt.of_sl hS8
    refine Zerun ?_
    (refine RW.call T hs rfl rfl rfl (bitsPack_con _ _ _ _ hT8 (by simpa using hm)) ?_; intro v h9 w9 hle9 hp9 hs)
    obtain ⟨wv9, rfl, hb9⟩ := hp9
    (refine RW.call T hs rfl rfl rfl (vecBits_con (R := R) _ _ _ _ hb9) ?_; intro v h10 w10 hle10 hp10 hs)
    obtain ⟨cs10, rfl, hv10⟩ := hp10
    have hv10' := hv10
    obtain ⟨wv', nv', sm', il', fl', ch', bx', ⟨rfl, hoc'⟩, _⟩ := hv10
    (refine RW.storeAll T hs 1 rfl rfl rfl rfl rfl rfl hoc' rfl ?_; intro w11 hs)
    refine Zerun ?_
    exact retQ_ret [_] h10 ⟨resN T hs 1 rfl rfl rfl rfl rfl rfl, trivial⟩ hs.dropAll ⟨_, rfl, hv10'⟩
/-- the elements at some places -/
def VecD.pick (v : VecD α) (at_ : List Int) (nb : α) : VecD α :=
  if v.kind = 5 then ⟨5, [], at_.map (fun i => atD v.chars i 32), []⟩
  else if v.kind = 6 then ⟨6, [], [], at_.map (fun i => atD v.boxes i nb)⟩
  else ⟨leastN (at_.map v.num), at_.map v.num, [], []⟩
theorem num_tidy {h : GHeap} {cs : List Value} {v : VecD α} (hv : VecAt R h cs v) (i : Int) : tidyF (v.num i) := by
  unfold VecD.num
  split
  · by_cases c : i.toNat < v.nums.length
    · exact hv.tidy _ (mem_getD _ _ _ c)
    · rw [List.getD_eq_getElem?_getD, List.getElem?_eq_none (by omega)]; exact tidy0
  · exact tidy0
theorem whole_num {h : GHeap} {cs : List Value} {v : VecD α} (hv : VecAt R h cs v) (hk : v.kind = 1 ∨ v.kind = 2 ∨ v.kind = 3) (i : Int) : fwF (v.whole i).1 = v.num i := by
  have hw := hv.wholes hk
  have hn : v.nums.length = v.len := hv.nums_len (by unfold VecD.cls; rw [if_neg (by omega), if_neg (by omega)])
  unfold VecD.whole VecD.num
  by_cases c : 0 ≤ i ∧ i < v.len
  · rw [if_pos ⟨hk, c⟩, if_pos c.1]
    have hm := mem_getD v.nums i.toNat 0 (by omega)
    exact (fw_whole _ _ (hv.tidy _ hm) (by rw [← hw _ hm])).symm
  · rw [if_neg (fun e => c e.2)]
    show fwF 0 = _
    rw [fw0]
    split
    · rw [List.getD_eq_getElem?_getD, List.getElem?_eq_none (by omega)]; rfl
    · rfl
theorem pick_wholes {h : GHeap} {cs : List Value} {v : VecD α} (hv : VecAt R h cs v) (hk : v.kind = 1 ∨ v.kind = 2 ∨ v.kind = 3) (at_ : List Int) (nb : α) : (⟨leastN ((at_.map fun i => (v.whole i).1).map fwF), (at_.map fun i => (v.whole i).1).map fwF, [], []⟩ : VecD α) = v.pick at_ nb := by
  have e : (at_.map fun i => (v.whole i).1).map fwF = at_.map v.num := by
    rw [List.map_map]
    apply List.map_congr_left
    intro i _
    exact whole_num hv hk i
  rw [e]
  unfold VecD.pick
  rw [if_neg (by omega), if_neg (by omega)]
theorem sq_nums3 (N : List Nat) : (⟨3, N, [], []⟩ : VecD α).sq = ⟨leastN N, N, [], []⟩ := by
  unfold VecD.sq VecD.cls
  simp
theorem pick_bits (bs : List Bool) (at_ : List Int) (nb : α) : (⟨1, (at_.map fun i => bitAt bs i).map bitF, [], []⟩ : VecD α) = VecD.pick ⟨1, bs.map bitF, [], []⟩ at_ nb := by
  have e : (at_.map fun i => bitAt bs i).map bitF = at_.map (VecD.num (⟨1, bs.map bitF, [], []⟩ : VecD α)) := by
    rw [List.map_map]
    apply List.map_congr_left
    intro i _
    simp only [Function.comp, bitAt, VecD.num]
    split
    · by_cases c : i.toNat < bs.length
      · rw [getD_map bitF bs i.toNat false 0 c]
      · rw [List.getD_eq_getElem?_getD, List.getElem?_eq_none (by omega), List.getD_eq_getElem?_getD, List.getElem?_eq_none (by simp; omega)]; rfl
    · rfl
  have el : leastN ((at_.map fun i => bitAt bs i).map bitF) = 1 := by
    have h1 := (leastN_bounds ((at_.map fun i => bitAt bs i).map bitF)).1
    have h2 : leastN ((at_.map fun i => bitAt bs i).map bitF) ≤ 1 := by
      rw [leastN.eq_1]
      refine fold_le _ 1 1 (by omega) ?_
      intro x hx
      obtain ⟨b, _, rfl⟩ := List.mem_map.1 hx
      cases b
      · exact (rank_bit _ tidy0).2 (.inl fw0.symm)
      · exact (rank_bit _ tidy1).2 (.inr fw1.symm)
    omega
  unfold VecD.pick
  rw [if_neg (show ¬ (1 : Int) = 5 by decide), if_neg (show ¬ (1 : Int) = 6 by decide), ← e, el]
theorem flatPick_con (hR : Mono R) (h1 : One R) (h9 : Siz 9 R) (nb : α) (hbl : ∀ w h, Con Tryz.prog 159 [] w h (fun h' u => ∃ cs', u = .agg cs'.toArray ∧ R h' cs' nb))
    (cs : List Value) (v : VecD α) (v1 : Value) (at_ : List Int) (w : World) (h : GHeap) (hv : VecAt R h cs v) (ha : IntsAt h v1 at_) (hm : at_.length ≤ 1048576) (hvm : v.len ≤ 1048576) (hk0 : v.kind ≠ 0) : Con Tryz.prog 102 [.agg cs.toArray, v1] w h (fun h' u => ∃ cs', u = .agg cs'.toArray ∧ VecAt R h' cs' (v.pick at_ nb)) := by
  have ha' := ha
  obtain ⟨ad1, cp1, rfl, hS1⟩ := ha
  have hv' := hv
  have hv0 := hv
  obtain ⟨wv, nv, sm, il, fl, ch, bx, ⟨rfl, hoc⟩, hk⟩ := hv
  have hkk : (v.kind = 1 ∧ ∃ bs : List Bool, v = ⟨1, bs.map bitF, [], []⟩) ∨ (v.kind = 2 ∨ v.kind = 3) ∨ v.kind = 4 ∨ v.kind = 5 ∨ v.kind = 6 := by
    rcases hk with ⟨e, _⟩ | ⟨e, bs, _, _, e2⟩ | ⟨e, _⟩ | ⟨e, _⟩ | ⟨e, _⟩ | ⟨e, _⟩ | ⟨e, _⟩
    · exact absurd e hk0
    · exact .inl ⟨e, bs, e2⟩
    · exact .inr (.inl (.inl e))
    · exact .inr (.inl (.inr e))
    · exact .inr (.inr (.inl e))
    · exact .inr (.inr (.inr (.inl e)))
    · exact .inr (.inr (.inr (.inr e)))
  clear hk
  refine Con.of_body Tryz.func102 rfl Tryz.ntmps102 rfl rfl ?_
  intro hs
  refine Zrun ?_
  (refine RW.boxN hs rfl rfl ?_; intro b1 w1 hs)
  (refine RW.allocN T hs rfl rfl rfl rfl ?_; intro b2 w2 hs)
  refine Zerun ?_
  (refine RW.call T hs rfl rfl rfl (vecKind_con _ v _ _ hv') ?_; intro v h3 w3 hle3 hp3 hs)
  subst hp3
  have hv' := hv'.mono hR hle3
  have ha' := ha'.mono hle3
  have hS1 := hS1.mono hle3
  rcases hkk with ⟨k1, bs, hbs⟩ | k23 | k4 | k5 | k6
  · have hsp := pick_bits bs at_ nb
    rw [← hbs] at hsp
    refine Zerun ?_
    (refine RW.call T hs rfl rfl rfl (flatPickBits_con hR _ v _ at_ bs _ _ hv' hbs ha' hm) ?_; intro v h4 w4 hle4 hp4 hs)
    obtain ⟨cs4, rfl, hv4⟩ := hp4
    rw [hsp] at hv4
    have hv4' := hv4
    obtain ⟨wv', nv', sm', il', fl', ch', bx', ⟨rfl, hoc'⟩, _⟩ := hv4
    (refine RW.storeAll T hs 0 rfl rfl rfl rfl rfl rfl hoc' rfl ?_; intro w5 hs)
    refine Zerun ?_
    exact retQ_ret [_] h4 ⟨resN T hs 0 rfl rfl rfl rfl rfl rfl, trivial⟩ hs.dropAll ⟨_, rfl, hv4'⟩
  · rcases k23 with k2 | k3
    ·
      have hsp := pick_wholes hv0 (by omega) at_ nb
      refine Zerun ?_
      (refine RW.make1 T hs rfl rfl rfl rfl rfl rfl rfl (by dsimp only; omega) (by omega) ?_; intro b6 w6 hs)
      refine Zerun ?_
      refine CW.loop (fun u : Nat × GHeap => [(2, .pointer (some ⟨b1, 0, none⟩)), (4, .pointer (some ⟨b2, 0, none⟩)), (5, .slice (some ⟨b6, 0, none⟩) at_.length at_.length), (28, .slice ad1 at_.length cp1), (29, .int .i64 at_.length), (30, .int .i64 u.1)]) (fun u w' => u.1 ≤ at_.length ∧ GLe h3 u.2 ∧ Sees w h u.2 [⟨some ⟨b6, 0, none⟩, at_.length, at_.length, 2, 1, ((at_.take u.1).map fun i => (v.whole i).1).map (Value.int .i64) ++ List.replicate (at_.length - u.1) (.int .i64 0)⟩, ⟨some ⟨b2, 0, none⟩, 1, 1, 37, 8, vecCells 0 (.slice none 0 0) 0 (.slice none 0 0) (.slice none 0 0) (.slice none 0 0) (.slice none 0 0) (.slice none 0 0)⟩, ⟨some ⟨b1, 0, none⟩, 1, 1, 37, 8, vecCells v.kind wv nv sm il fl ch bx⟩] w') (fun u => at_.length - u.1) (0, h3) ⟨rfl, rfl, rfl, rfl, rfl, rfl, trivial⟩ ⟨by omega, GLe.refl _, by simp only [List.take_zero, List.map_nil, List.nil_append, Nat.sub_zero]; exact hs⟩ ?_
      rintro ⟨i, hh⟩ w7 ⟨hi, hg, hs⟩
      dsimp only at hi hg hs ⊢
      have hS1 := hS1.mono hg
      have hv' := hv'.mono hR hg
      by_cases hlt : i < at_.length
      · have htk := take_succ_getD at_ i 0 hlt
        refine Zerun ?_
        (refine RW.call T hs rfl rfl rfl (vecWhole_con _ v (at_.getD i 0) _ _ hv') ?_; intro v h8 w8 hle8 hp8 hs)
        subst hp8
        refine Zerun ?_
        refine RW.val (Y.idxRN T hs 0 rfl rfl rfl rfl rfl rfl ?_) rfl ?_
        · omega
        refine RW.st1 T hs 0 rfl rfl rfl rfl rfl rfl rfl (by omega) ?_
        intro w9 hs
        have e1 := set_snoc (((at_.take i).map fun i => (v.whole i).1).map (Value.int .i64)) (at_.length - i) (.int .i64 0) (Value.int .i64 ((v.whole (at_.getD i 0)).1)) (by omega)
        simp only [List.length_map, List.length_take, Nat.min_eq_left hi] at e1
        have e2 : ((at_.take i).map fun i => (v.whole i).1).map (Value.int .i64) ++ [Value.int .i64 ((v.whole (at_.getD i 0)).1)] ++ List.replicate (at_.length - i - 1) (.int .i64 0) = ((at_.take (i + 1)).map fun i => (v.whole i).1).map (Value.int .i64) ++ List.replicate (at_.length - (i + 1)) (.int .i64 0) := by
          rw [htk, List.map_append, List.map_append, show at_.length - (i + 1) = at_.length - i - 1 by omega]; rfl
        replace hs := hs.re (e1.trans e2)
        refine Zerun ?_
        exact loopQ_round (i + 1, h8) ⟨rfl, rfl, rfl, rfl, rfl, rfl, trivial⟩ ⟨by dsimp only; omega, hg.trans hle8, hs⟩ (by dsimp only; omega)
      obtain rfl : i = at_.length := by omega
      rw [List.take_length, Nat.sub_self, List.replicate_zero, List.append_nil] at hs
      obtain ⟨h8, hle8, hs, hS8⟩ := hs.freeze
      have hT8 : KAt .i64 h8 (.slice (some ⟨b6, 0, none⟩) at_.length at_.length) (at_.map fun i => (v.whole i).1) := RowAt.of_sl hS8
      refine Zerun ?_
      (refine RW.call T hs rfl rfl rfl (vecInts_con (R := R) _ _ _ _ hT8 (by simp; omega)) ?_; intro v h9 w9 hle9 hp9 hs)
      obtain ⟨cs9, ok, rfl, hok, hv9⟩ := hp9
      obtain rfl : ok = true := by
        rw [hok]
        refine decide_eq_true ?_
        intro u hu
        obtain ⟨i, _, rfl⟩ := List.mem_map.1 hu
        unfold VecD.whole
        split
        · exact wholeF_bounds _
        · constructor <;> decide
      rw [if_pos rfl] at hv9
      have hv9' := hv9
      obtain ⟨wv', nv', sm', il', fl', ch', bx', ⟨rfl, hoc'⟩, _⟩ := hv9
      refine Zerun ?_
      (refine RW.allocN T hs rfl rfl rfl rfl ?_; intro b10 w10 hs)
      (refine RW.storeAll T hs 0 rfl rfl rfl rfl rfl rfl hoc' rfl ?_; intro w11 hs)
      refine Zerun ?_
      (refine RW.call T hs rfl rfl rfl (sqSqueeze_con hR _ _ _ _ hv9' (by simp [VecD.len]; omega)) ?_; intro v h12 w12 hle12 hp12 hs)
      obtain ⟨cs12, rfl, hv12⟩ := hp12
      rw [sq_nums3, hsp] at hv12
      have hv12' := hv12
      obtain ⟨wv2, nv2, sm2, il2, fl2, ch2, bx2, ⟨rfl, hoc2⟩, _⟩ := hv12
      (refine RW.storeAll T hs 1 rfl rfl rfl rfl rfl rfl hoc2 rfl ?_; intro w13 hs)
      refine Zerun ?_
      exact retQ_ret [_] h12 ⟨resN T hs 1 rfl rfl rfl rfl rfl rfl, trivial⟩ hs.dropAll ⟨_, rfl, hv12'⟩
    ·
      have hsp := pick_wholes hv0 (by omega) at_ nb
      refine Zerun ?_
      (refine RW.make1 T hs rfl rfl rfl rfl rfl rfl rfl (by dsimp only; omega) (by omega) ?_; intro b6 w6 hs)
      refine Zerun ?_
      refine CW.loop (fun u : Nat × GHeap => [(2, .pointer (some ⟨b1, 0, none⟩)), (4, .pointer (some ⟨b2, 0, none⟩)), (5, .slice (some ⟨b6, 0, none⟩) at_.length at_.length), (28, .slice ad1 at_.length cp1), (29, .int .i64 at_.length), (30, .int .i64 u.1)]) (fun u w' => u.1 ≤ at_.length ∧ GLe h3 u.2 ∧ Sees w h u.2 [⟨some ⟨b6, 0, none⟩, at_.length, at_.length, 2, 1, ((at_.take u.1).map fun i => (v.whole i).1).map (Value.int .i64) ++ List.replicate (at_.length - u.1) (.int .i64 0)⟩, ⟨some ⟨b2, 0, none⟩, 1, 1, 37, 8, vecCells 0 (.slice none 0 0) 0 (.slice none 0 0) (.slice none 0 0) (.slice none 0 0) (.slice none 0 0) (.slice none 0 0)⟩, ⟨some ⟨b1, 0, none⟩, 1, 1, 37, 8, vecCells v.kind wv nv sm il fl ch bx⟩] w') (fun u => at_.length - u.1) (0, h3) ⟨rfl, rfl, rfl, rfl, rfl, rfl, trivial⟩ ⟨by omega, GLe.refl _, by simp only [List.take_zero, List.map_nil, List.nil_append, Nat.sub_zero]; exact hs⟩ ?_
      rintro ⟨i, hh⟩ w7 ⟨hi, hg, hs⟩
      dsimp only at hi hg hs ⊢
      have hS1 := hS1.mono hg
      have hv' := hv'.mono hR hg
      by_cases hlt : i < at_.length
      · have htk := take_succ_getD at_ i 0 hlt
        refine Zerun ?_
        (refine RW.call T hs rfl rfl rfl (vecWhole_con _ v (at_.getD i 0) _ _ hv') ?_; intro v h8 w8 hle8 hp8 hs)
        subst hp8
        refine Zerun ?_
        refine RW.val (Y.idxRN T hs 0 rfl rfl rfl rfl rfl rfl ?_) rfl ?_
        · omega
        refine RW.st1 T hs 0 rfl rfl rfl rfl rfl rfl rfl (by omega) ?_
        intro w9 hs
        have e1 := set_snoc (((at_.take i).map fun i => (v.whole i).1).map (Value.int .i64)) (at_.length - i) (.int .i64 0) (Value.int .i64 ((v.whole (at_.getD i 0)).1)) (by omega)
        simp only [List.length_map, List.length_take, Nat.min_eq_left hi] at e1
        have e2 : ((at_.take i).map fun i => (v.whole i).1).map (Value.int .i64) ++ [Value.int .i64 ((v.whole (at_.getD i 0)).1)] ++ List.replicate (at_.length - i - 1) (.int .i64 0) = ((at_.take (i + 1)).map fun i => (v.whole i).1).map (Value.int .i64) ++ List.replicate (at_.length - (i + 1)) (.int .i64 0) := by
          rw [htk, List.map_append, List.map_append, show at_.length - (i + 1) = at_.length - i - 1 by omega]; rfl
        replace hs := hs.re (e1.trans e2)
        refine Zerun ?_
        exact loopQ_round (i + 1, h8) ⟨rfl, rfl, rfl, rfl, rfl, rfl, trivial⟩ ⟨by dsimp only; omega, hg.trans hle8, hs⟩ (by dsimp only; omega)
      obtain rfl : i = at_.length := by omega
      rw [List.take_length, Nat.sub_self, List.replicate_zero, List.append_nil] at hs
      obtain ⟨h8, hle8, hs, hS8⟩ := hs.freeze
      have hT8 : KAt .i64 h8 (.slice (some ⟨b6, 0, none⟩) at_.length at_.length) (at_.map fun i => (v.whole i).1) := RowAt.of_sl hS8
      refine Zerun ?_
      (refine RW.call T hs rfl rfl rfl (vecInts_con (R := R) _ _ _ _ hT8 (by simp; omega)) ?_; intro v h9 w9 hle9 hp9 hs)
      obtain ⟨cs9, ok, rfl, hok, hv9⟩ := hp9
      obtain rfl : ok = true := by
        rw [hok]
        refine decide_eq_true ?_
        intro u hu
        obtain ⟨i, _, rfl⟩ := List.mem_map.1 hu
        unfold VecD.whole
        split
        · exact wholeF_bounds _
        · constructor <;> decide
      rw [if_pos rfl] at hv9
      have hv9' := hv9
      obtain ⟨wv', nv', sm', il', fl', ch', bx', ⟨rfl, hoc'⟩, _⟩ := hv9
      refine Zerun ?_
      (refine RW.allocN T hs rfl rfl rfl rfl ?_; intro b10 w10 hs)
      (refine RW.storeAll T hs 0 rfl rfl rfl rfl rfl rfl hoc' rfl ?_; intro w11 hs)
      refine Zerun ?_
      (refine RW.call T hs rfl rfl rfl (sqSqueeze_con hR _ _ _ _ hv9' (by simp [VecD.len]; omega)) ?_; intro v h12 w12 hle12 hp12 hs)
      obtain ⟨cs12, rfl, hv12⟩ := hp12
      rw [sq_nums3, hsp] at hv12
      have hv12' := hv12
      obtain ⟨wv2, nv2, sm2, il2, fl2, ch2, bx2, ⟨rfl, hoc2⟩, _⟩ := hv12
      (refine RW.storeAll T hs 1 rfl rfl rfl rfl rfl rfl hoc2 rfl ?_; intro w13 hs)
      refine Zerun ?_
      exact retQ_ret [_] h12 ⟨resN T hs 1 rfl rfl rfl rfl rfl rfl, trivial⟩ hs.dropAll ⟨_, rfl, hv12'⟩
  ·
    have hsp : (⟨leastN ((at_.map fun i => v.num i).map tidyW), (at_.map fun i => v.num i).map tidyW, [], []⟩ : VecD α) = v.pick at_ nb := by
      have e : (at_.map fun i => v.num i).map tidyW = at_.map v.num := by
        rw [List.map_map]
        apply List.map_congr_left
        intro i _
        simp only [Function.comp]
        unfold tidyW
        rw [tidySpec_of _ (num_tidy hv0 i)]
      rw [e]
      unfold VecD.pick
      rw [if_neg (by omega), if_neg (by omega)]
    refine Zerun ?_
    (refine RW.make1 T hs rfl rfl rfl rfl rfl rfl rfl (by dsimp only; omega) (by omega) ?_; intro b6 w6 hs)
    refine Zerun ?_
    refine CW.loop (fun u : Nat × GHeap => [(2, .pointer (some ⟨b1, 0, none⟩)), (4, .pointer (some ⟨b2, 0, none⟩)), (10, .slice (some ⟨b6, 0, none⟩) at_.length at_.length), (57, .slice ad1 at_.length cp1), (58, .int .i64 at_.length), (59, .int .i64 u.1)]) (fun u w' => u.1 ≤ at_.length ∧ GLe h3 u.2 ∧ Sees w h u.2 [⟨some ⟨b6, 0, none⟩, at_.length, at_.length, 49, 1, ((at_.take u.1).map fun i => v.num i).map (Value.float .f64) ++ List.replicate (at_.length - u.1) (.float .f64 0)⟩, ⟨some ⟨b2, 0, none⟩, 1, 1, 37, 8, vecCells 0 (.slice none 0 0) 0 (.slice none 0 0) (.slice none 0 0) (.slice none 0 0) (.slice none 0 0) (.slice none 0 0)⟩, ⟨some ⟨b1, 0, none⟩, 1, 1, 37, 8, vecCells v.kind wv nv sm il fl ch bx⟩] w') (fun u => at_.length - u.1) (0, h3) ⟨rfl, rfl, rfl, rfl, rfl, rfl, trivial⟩ ⟨by omega, GLe.refl _, by simp only [List.take_zero, List.map_nil, List.nil_append, Nat.sub_zero]; exact hs⟩ ?_
    rintro ⟨i, hh⟩ w7 ⟨hi, hg, hs⟩
    dsimp only at hi hg hs ⊢
    have hS1 := hS1.mono hg
    have hv' := hv'.mono hR hg
    by_cases hlt : i < at_.length
    · have htk := take_succ_getD at_ i 0 hlt
      refine Zerun ?_
      (refine RW.call T hs rfl rfl rfl (flatFrom_con _ v (at_.getD i 0) _ _ hv') ?_; intro v h8 w8 hle8 hp8 hs)
      subst hp8
      skip
      refine RW.val (Y.idxRN T hs 0 rfl rfl rfl rfl rfl rfl ?_) rfl ?_
      · omega
      refine RW.st1 T hs 0 rfl rfl rfl rfl rfl rfl rfl (by omega) ?_
      intro w9 hs
      have e1 := set_snoc (((at_.take i).map fun i => v.num i).map (Value.float .f64)) (at_.length - i) (.float .f64 0) (Value.float .f64 (v.num (at_.getD i 0))) (by omega)
      simp only [List.length_map, List.length_take, Nat.min_eq_left hi] at e1
      have e2 : ((at_.take i).map fun i => v.num i).map (Value.float .f64) ++ [Value.float .f64 (v.num (at_.getD i 0))] ++ List.replicate (at_.length - i - 1) (.float .f64 0) = ((at_.take (i + 1)).map fun i => v.num i).map (Value.float .f64) ++ List.replicate (at_.length - (i + 1)) (.float .f64 0) := by
        rw [htk, List.map_append, List.map_append, show at_.length - (i + 1) = at_.length - i - 1 by omega]; rfl
      replace hs := hs.re (e1.trans e2)
      refine Zerun ?_
      exact loopQ_round (i + 1, h8) ⟨rfl, rfl, rfl, rfl, rfl, rfl, trivial⟩ ⟨by dsimp only; omega, hg.trans hle8, hs⟩ (by dsimp only; omega)
    obtain rfl : i = at_.length := by omega
    rw [List.take_length, Nat.sub_self, List.replicate_zero, List.append_nil] at hs
    obtain ⟨h8, hle8, hs, hS8⟩ := hs.freeze
    have hT8 : FAt h8 (.slice (some ⟨b6, 0, none⟩) at_.length at_.length) (at_.map fun i => v.num i) := RowAt.of_sl hS8
    refine Zerun ?_
    (refine RW.call T hs rfl rfl rfl (sqNumbers_con (R := R) hR _ _ _ _ hT8 (by intro u hu; obtain ⟨i, _, rfl⟩ := List.mem_map.1 hu; exact (num_tidy hv0 i).1) (by simp; omega)) ?_; intro v h9 w9 hle9 hp9 hs)
    obtain ⟨cs9, ok, rfl, hok, hv9⟩ := hp9
    obtain rfl : ok = true := by
      rw [hok]
      refine decide_eq_true ?_
      intro u hu
      obtain ⟨i, _, rfl⟩ := List.mem_map.1 hu
      exact (num_tidy hv0 i).2.1
    rw [if_pos rfl, hsp] at hv9
    have hv9' := hv9
    obtain ⟨wv', nv', sm', il', fl', ch', bx', ⟨rfl, hoc'⟩, _⟩ := hv9
    refine Zerun ?_
    (refine RW.allocN T hs rfl rfl rfl rfl ?_; intro b10 w10 hs)
    (refine RW.storeAll T hs 0 rfl rfl rfl rfl rfl rfl hoc' rfl ?_; intro w11 hs)
    refine Zerun ?_
    (refine RW.storeAll T hs 1 rfl rfl rfl rfl rfl rfl hoc' rfl ?_; intro w12 hs)
    refine Zerun ?_
    exact retQ_ret [_] h9 ⟨resN T hs 1 rfl rfl rfl rfl rfl rfl, trivial⟩ hs.dropAll ⟨_, rfl, hv9'⟩
  · have hsp : (⟨5, [], at_.map (fun i => atD v.chars i 32), []⟩ : VecD α) = v.pick at_ nb := by unfold VecD.pick; rw [if_pos k5]
    refine Zerun ?_
    (refine RW.call T hs rfl rfl rfl (vecText_con _ v _ _ hv' (by omega)) ?_; intro v h4 w4 hle4 hp4 hs)
    refine Zerun ?_
    (refine RW.call T hs rfl rfl rfl (thoseRune_con _ _ _ at_ 32 _ _ hp4 (ha'.mono hle4) hm) ?_; intro v h5 w5 hle5 hp5 hs)
    (refine RW.call T hs rfl rfl rfl (vecChars_con (R := R) _ _ _ _ hp5 (by simp; omega)) ?_; intro v h6 w6 hle6 hp6 hs)
    obtain ⟨cs6, rfl, hv6⟩ := hp6
    rw [hsp] at hv6
    have hv6' := hv6
    obtain ⟨wv', nv', sm', il', fl', ch', bx', ⟨rfl, hoc'⟩, _⟩ := hv6
    (refine RW.storeAll T hs 0 rfl rfl rfl rfl rfl rfl hoc' rfl ?_; intro w7 hs)
    refine Zerun ?_
    exact retQ_ret [_] h6 ⟨resN T hs 0 rfl rfl rfl rfl rfl rfl, trivial⟩ hs.dropAll ⟨_, rfl, hv6'⟩
  · have hsp : (⟨6, [], [], at_.map (fun i => atD v.boxes i nb)⟩ : VecD α) = v.pick at_ nb := by unfold VecD.pick; rw [if_neg (by omega), if_pos k6]
    refine Zerun ?_
    (refine RW.call T hs rfl rfl rfl (vecArrays_con hR h1 _ v _ _ hv' (by omega)) ?_; intro v h4 w4 hle4 hp4 hs)
    refine Zerun ?_
    (refine RW.call T hs rfl rfl rfl (hbl _ _) ?_; intro v h5 w5 hle5 hp5 hs)
    obtain ⟨cs5, rfl, hb5⟩ := hp5
    (refine RW.call T hs rfl rfl rfl (thoseArr_con hR h1 h9 _ _ _ at_ _ nb _ _ (hp4.mono hle5 (fun u a => hR _ _ u a hle5)) (ha'.mono (hle4.trans hle5)) hb5 hm) ?_; intro v h6 w6 hle6 hp6 hs)
    (refine RW.call T hs rfl rfl rfl (vecBoxes_con hR h1 _ _ _ _ hp6 (by simp; omega)) ?_; intro v h7 w7 hle7 hp7 hs)
    obtain ⟨cs7, rfl, hv7⟩ := hp7
    rw [hsp] at hv7
    have hv7' := hv7
    obtain ⟨wv', nv', sm', il', fl', ch', bx', ⟨rfl, hoc'⟩, _⟩ := hv7
    (refine RW.storeAll T hs 0 rfl rfl rfl rfl rfl rfl hoc' rfl ?_; intro w8 hs)
    refine Zerun ?_
    exact retQ_ret [_] h7 ⟨resN T hs 0 rfl rfl rfl rfl rfl rfl, trivial⟩ hs.dropAll ⟨_, rfl, hv7'⟩
end
end Go.Proofs.YtmfealaaacmohaaGreat

/-
  Contracts of the document's answer and of the law's own functions of layer 8: items picked, lists shown. No statement is proved here.
-/
namespace Go.Proofs.YtmfealaaacmohaaGreat
open Go Go.RowKit
set_option linter.unusedVariables false
set_option linter.unusedSimpArgs false
set_option maxHeartbeats 4000000
attribute [local irreducible] CW RW QW SW HW ConM retM heldQ calmQ elemP thenQ blockQ loopQ joinQ retQ Yields Con Sl zF magR unitF truncF fwF wholeF tidySpec elemQ rankF leastN tidyW
set_option maxHeartbeats 4000000

section
variable {β : Type} {R : GHeap → List Value → β → Prop}
/-- what stands for none, of a class -/
def blankI (c : Int) : ItemD (PlainD β) := ⟨c, 0, if c = 1 then 32 else 0, if c = 2 then [⟨[0], [], 0⟩] else []⟩
end
end Go.Proofs.YtmfealaaacmohaaGreat

/-
  Contracts of the law's own functions of layer 8: good plain arrays, the chapter's example, elements at all places. No statement is proved here.
-/
namespace Go.Proofs.YtmfealaaacmohaaGreat
open Go Go.RowKit
set_option linter.unusedVariables false
set_option linter.unusedSimpArgs false
set_option maxHeartbeats 4000000
attribute [local irreducible] CW RW QW SW HW ConM retM heldQ calmQ elemP thenQ blockQ loopQ joinQ retQ Yields Con Sl zF magR unitF truncF fwF wholeF tidySpec elemQ rankF leastN tidyW
set_option maxHeartbeats 4000000

/-! ## Plain facts -/
theorem atD_map {γ δ : Type} (g : γ → δ) (l : List γ) (i : Int) (d : γ) : atD (l.map g) i (g d) = g (atD l i d) := by
  unfold atD
  split
  · by_cases c : i.toNat < l.length
    · simp [List.getD_eq_getElem?_getD, c]
    · simp [List.getD_eq_getElem?_getD, c]
  · rfl
theorem atD_mem {γ : Type} (l : List γ) (i : Int) (d : γ) : atD l i d ∈ l ∨ atD l i d = d := by
  unfold atD
  split
  · by_cases c : i.toNat < l.length
    · exact .inl (mem_getD _ _ _ c)
    · right; simp [List.getD_eq_getElem?_getD, c]
  · exact .inr rfl
section
variable {α β : Type} {R : GHeap → List Value → α → Prop}
theorem pick_cls (v : VecD α) (at_ : List Int) (nb : α) : (v.pick at_ nb).cls = v.cls := by
  unfold VecD.pick
  by_cases k5 : v.kind = 5
  · rw [if_pos k5]; unfold VecD.cls; rw [if_pos rfl, if_pos k5]
  · rw [if_neg k5]
    by_cases k6 : v.kind = 6
    · rw [if_pos k6]; unfold VecD.cls; rw [if_neg (show ¬ (6 : Int) = 5 by decide), if_pos rfl, if_neg k5, if_pos k6]
    · rw [if_neg k6]
      have := leastN_bounds (at_.map v.num)
      unfold VecD.cls
      rw [if_neg k5, if_neg k6]
      dsimp only
      rw [if_neg (by omega), if_neg (by omega)]
theorem pick_facts (v : VecD α) (at_ : List Int) (nb : α) : (v.pick at_ nb).kind ≠ 0 ∧ (v.pick at_ nb).kind = (v.pick at_ nb).least ∧ (v.pick at_ nb).len = at_.length ∧ ∀ b ∈ (v.pick at_ nb).boxes, b ∈ v.boxes ∨ b = nb := by
  have hc := pick_cls v at_ nb
  unfold VecD.least
  rw [hc]
  unfold VecD.cls VecD.pick
  by_cases k5 : v.kind = 5
  · rw [if_pos k5, if_pos k5]; simp [VecD.len]
  · rw [if_neg k5, if_neg k5]
    by_cases k6 : v.kind = 6
    · rw [if_pos k6, if_pos k6]
      refine ⟨show (6 : Int) ≠ 0 by decide, by simp, by simp [VecD.len], ?_⟩
      intro b hb
      obtain ⟨i, _, rfl⟩ := List.mem_map.1 hb
      exact atD_mem _ _ _
    · rw [if_neg k6, if_neg k6]
      have := leastN_bounds (at_.map v.num)
      exact ⟨by dsimp only; omega, by dsimp only; rw [if_pos ⟨rfl, by omega⟩], by simp [VecD.len], fun b hb => by cases hb⟩
theorem itemsV_c1 (f : α → β) {v : VecD α} (hc : v.cls = 1) : itemsV f v = v.chars.map fun c => ⟨1, 0, c, []⟩ := by unfold itemsV; rw [if_pos hc]
theorem itemsV_c2 (f : α → β) {v : VecD α} (hc : v.cls = 2) : itemsV f v = v.boxes.map fun b => ⟨2, 0, 0, [f b]⟩ := by unfold itemsV; rw [if_neg (by omega), if_pos hc]
theorem itemsV_c0 (f : α → β) {v : VecD α} (hc : v.cls = 0) : itemsV f v = v.nums.map fun x => ⟨0, x, 0, []⟩ := by unfold itemsV; rw [if_neg (by omega), if_neg (by omega)]
theorem pick_items (f : α → PlainD β) (v : VecD α) (at_ : List Int) (nb : α) (hnb : f nb = ⟨[0], [], 0⟩) : itemsV f (v.pick at_ nb) = at_.map (fun i => atD (itemsV f v) i (blankI v.cls)) := by
  have hpc := pick_cls v at_ nb
  have hcl : v.cls = if v.kind = 5 then 1 else if v.kind = 6 then 2 else 0 := rfl
  by_cases k5 : v.kind = 5
  · rw [if_pos k5] at hcl
    have e : (v.pick at_ nb).chars = at_.map (fun i => atD v.chars i 32) := by unfold VecD.pick; rw [if_pos k5]
    rw [itemsV_c1 f (hpc.trans hcl), itemsV_c1 f hcl, hcl, e, List.map_map]
    apply List.map_congr_left
    intro i _
    exact (atD_map (fun c => (⟨1, 0, c, []⟩ : ItemD (PlainD β))) v.chars i 32).symm
  · rw [if_neg k5] at hcl
    by_cases k6 : v.kind = 6
    · rw [if_pos k6] at hcl
      have e : (v.pick at_ nb).boxes = at_.map (fun i => atD v.boxes i nb) := by unfold VecD.pick; rw [if_neg k5, if_pos k6]
      rw [itemsV_c2 f (hpc.trans hcl), itemsV_c2 f hcl, hcl, e, List.map_map]
      apply List.map_congr_left
      intro i _
      have e := (atD_map (fun b => (⟨2, 0, 0, [f b]⟩ : ItemD (PlainD β))) v.boxes i nb).symm
      rw [hnb] at e
      exact e
    · rw [if_neg k6] at hcl
      have e : (v.pick at_ nb).nums = at_.map v.num := by unfold VecD.pick; rw [if_neg k5, if_neg k6]
      rw [itemsV_c0 f (hpc.trans hcl), itemsV_c0 f hcl, hcl, e, List.map_map]
      apply List.map_congr_left
      intro i _
      exact (atD_map (fun x => (⟨0, x, 0, []⟩ : ItemD (PlainD β))) v.nums i 0).symm
theorem pick_items' (f : α → PlainD β) (v : VecD α) (at_ : List Int) (nb : α) (L : List (ItemD (PlainD β))) (c : Int) (hL : itemsV f v = L) (hc : v.cls = c) (hnb : f nb = ⟨[0], [], 0⟩) : itemsV f (v.pick at_ nb) = at_.map (fun i => atD L i (blankI c)) := by
  subst hL hc
  exact pick_items f v at_ nb hnb
end
def blankA (k : Nat) : AD (k + 1) := (⟨[0], ⟨1, [], [], []⟩⟩ : ArrD (AD k))
def blankP (k : Nat) : PD (k + 1) := (⟨[0], [], 0⟩ : PlainD (PD k))
theorem blankA_sml (k : Nat) : sml (k + 1) (blankA k) := ⟨by show 1 ≤ 8; omega, Nat.zero_le _, fun b hb => by cases hb⟩
theorem blankP_tdy (k : Nat) : tdy (k + 1) (blankP k) := fun x hx => by cases hx
theorem blankI_tdy (k : Nat) (c : Int) : tdyIt (tdy (k + 1)) (blankI c : ItemD (PlainD (PD k))) := by
  refine ⟨tidy0, fun b hb => ?_⟩
  unfold blankI at hb
  dsimp only at hb
  split at hb
  · rw [List.mem_singleton.1 hb]; exact blankP_tdy k
  · cases hb
theorem tidy5 : tidyF 4617315517961601024 := ⟨by omega, by decide, by omega⟩
theorem tidy6 : tidyF 4618441417868443648 := ⟨by omega, by decide, by omega⟩
theorem tidy7 : tidyF 4619567317775286272 := ⟨by omega, by decide, by omega⟩
end Go.Proofs.YtmfealaaacmohaaGreat

/-
  Contracts of the law's own functions of layer 8: elements picked, and picked again. No statement is proved here.
-/
namespace Go.Proofs.YtmfealaaacmohaaGreat
open Go Go.RowKit
set_option linter.unusedVariables false
set_option linter.unusedSimpArgs false
set_option maxHeartbeats 4000000
attribute [local irreducible] CW RW QW SW HW ConM retM heldQ calmQ elemP thenQ blockQ loopQ joinQ retQ Yields Con Sl zF magR unitF truncF fwF wholeF tidySpec elemQ rankF leastN tidyW
set_option maxHeartbeats 4000000

end Go.Proofs.YtmfealaaacmohaaGreat

/-
  Contracts of functions of package flat: numbers from one up to another, elements backwards, and again and again. No statement is proved here.
-/
namespace Go.Proofs.YtmfealaaacmohaaGreat
open Go Go.RowKit
set_option linter.unusedVariables false
set_option linter.unusedSimpArgs false
set_option maxHeartbeats 4000000
attribute [local irreducible] CW RW QW SW HW ConM retM heldQ calmQ elemP thenQ blockQ loopQ joinQ retQ Yields Con Sl zF magR unitF truncF fwF wholeF tidySpec elemQ rankF leastN tidyW
set_option maxHeartbeats 4000000

def turnL (n : Nat) : List Int := (List.range n).map fun i => ((n - 1 - i : Nat) : Int)
theorem turnL_length (n : Nat) : (turnL n).length = n := by simp [turnL]
theorem range_snoc (f : Nat → Int) (i : Nat) : (((List.range (i + 1)).map f).map (Value.int .i64)) = (((List.range i).map f).map (Value.int .i64)) ++ [.int .i64 (f i)] := by rw [List.range_succ, List.map_append, List.map_append]; rfl
theorem fill_snoc (f : Nat → Int) (i n : Nat) (h : i < n) (z : Value) : (((List.range i).map f).map (Value.int .i64) ++ List.replicate (n - i) z).set i (.int .i64 (f i)) = ((List.range (i + 1)).map f).map (Value.int .i64) ++ List.replicate (n - (i + 1)) z := by
  have e1 := set_snoc (((List.range i).map f).map (Value.int .i64)) (n - i) z (.int .i64 (f i)) (by omega)
  simp only [List.length_map, List.length_range] at e1
  rw [e1, range_snoc, show n - (i + 1) = n - i - 1 by omega]
section
variable {α : Type} {R : GHeap → List Value → α → Prop}
end
end Go.Proofs.YtmfealaaacmohaaGreat

/-
  Plain Lean on elements along an axis: places turned, and turned back. No statement is proved here.
-/
namespace Go.Proofs.YtmfealaaacmohaaGreat
open Go Go.RowKit
set_option linter.unusedVariables false
set_option linter.unusedSimpArgs false

theorem le_mul1 {a b : Int} (ha : 0 ≤ a) (hb : 1 ≤ b) : a ≤ a * b := by
  calc a = a * 1 := (Int.mul_one a).symm
    _ ≤ a * b := Int.mul_le_mul_of_nonneg_left hb ha
theorem sum_const {δ : Type} (c : Nat) : ∀ l : List δ, (l.map fun _ => c).sum = l.length * c
  | [] => by simp
  | a :: l => by rw [List.map_cons, List.sum_cons, sum_const c l, List.length_cons, Nat.add_mul, Nat.one_mul, Nat.add_comm]
theorem flatMap_eqN {γ δ : Type} {f g : γ → List δ} : ∀ {l : List γ}, (∀ x ∈ l, f x = g x) → l.flatMap f = l.flatMap g
  | [], _ => rfl
  | a :: l, h => by rw [List.flatMap_cons, List.flatMap_cons, h a (by simp), flatMap_eqN (fun x hx => h x (List.mem_cons_of_mem _ hx))]
theorem product_parts {s t : List Int} {d : Int} {n : Nat} (h : product (s ++ d :: t) 1048576 = ((n : Int), 0)) (hn : 0 < n) : product s 1048576 = (pr s, 0) ∧ product t 1048576 = (pr t, 0) ∧ 1 ≤ d ∧ pr s * d * pr t = n ∧ goodS (s ++ d :: t) = true := by
  obtain ⟨hg, _, _, _, hv⟩ := product_fits _ _ _ h
  obtain ⟨h8, h0, hp⟩ := (goodS_spec _).1 hg
  have hz : ¬ (0 : Int) ∈ s ++ d :: t := fun e => by rw [if_pos e] at hv; omega
  rw [if_neg hz] at hv
  have hd : 1 ≤ d := by
    have := h0 d (by simp)
    have h1 : d ≠ 0 := fun e => hz (by rw [← e]; simp)
    omega
  have hpr : pr (s ++ d :: t) = pr s * d * pr t := by
    rw [pr_append]
    show pr s * (max 1 d * pr t) = _
    rw [show max 1 d = d by omega, Int.mul_assoc]
  have hs1 := pr_pos s
  have ht1 := pr_pos t
  have hsle : pr s ≤ pr (s ++ d :: t) := by
    rw [pr_append]
    exact le_mul1 (by omega) (pr_pos _)
  have htle : pr t ≤ pr (s ++ d :: t) := by
    rw [hpr]
    have h2 : 1 ≤ pr s * d := Int.le_trans hs1 (le_mul1 (by omega) hd)
    exact Int.le_trans (Int.le_of_eq (Int.one_mul _).symm) (Int.mul_le_mul_of_nonneg_right h2 (by omega))
  have sub : ∀ u : List Int, (∀ x ∈ u, x ∈ s ++ d :: t) → u.length ≤ (s ++ d :: t).length → pr u ≤ pr (s ++ d :: t) → product u 1048576 = (pr u, 0) := by
    intro u hu hul hpu
    have hgu : goodS u = true := (goodS_spec _).2 ⟨by omega, fun x hx => h0 x (hu x hx), by omega⟩
    rw [product_good u hgu, if_neg (fun e => hz (hu 0 e))]
  refine ⟨sub s (fun x hx => by simp [hx]) (by simp) hsle, sub t (fun x hx => by simp [hx]) (by simp; omega) htle, hd, ?_, hg⟩
  rw [← hpr, hv]
theorem split_of {l : List Int} {n k : Nat} (h : product l 1048576 = ((n : Int), 0)) (hn : 0 < n) (hk : k < l.length) : ∃ o d i : Nat, splitSpec l (k : Int) = ((o : Int), (d : Int), (i : Int), true) ∧ l.getD k 0 = (d : Int) ∧ o * d * i = n ∧ 0 < o ∧ 0 < d ∧ 0 < i := by
  have e : l = l.take k ++ l[k] :: l.drop (k + 1) := by
    rw [← List.drop_eq_getElem_cons hk, List.take_append_drop]
  rw [e] at h
  obtain ⟨h1, h2, h3, h4, h5⟩ := product_parts h hn
  rw [← e] at h5
  have hs1 := pr_pos (l.take k)
  have ht1 := pr_pos (l.drop (k + 1))
  have hg : l.getD k 0 = l[k] := by rw [List.getD_eq_getElem?_getD, List.getElem?_eq_getElem hk]; rfl
  refine ⟨(pr (l.take k)).toNat, l[k].toNat, (pr (l.drop (k + 1))).toNat, ?_, by rw [hg]; omega, ?_, by omega, by omega, by omega⟩
  · unfold splitSpec
    rw [if_pos]
    · rw [Int.toNat_natCast, h1, h2, hg, Int.toNat_of_nonneg (by omega), Int.toNat_of_nonneg (by omega), Int.toNat_of_nonneg (by omega)]
    · unfold splitOk
      rw [Int.toNat_natCast, h1, h2]
      exact ⟨h5, by omega, by omega, rfl, rfl⟩
  · have e2 : (((pr (l.take k)).toNat * l[k].toNat * (pr (l.drop (k + 1))).toNat : Nat) : Int) = (n : Int) := by
      rw [Int.natCast_mul, Int.natCast_mul, Int.toNat_of_nonneg (by omega), Int.toNat_of_nonneg (by omega), Int.toNat_of_nonneg (by omega)]
      exact h4
    exact Int.ofNat.inj e2

/-- the place of an element along an axis; below 0: there's none -/
def alongI (n inner o : Nat) (i : Int) (k : Nat) : Int := if 0 ≤ i ∧ i < n then ((o * n + i.toNat) * inner + k : Nat) else -1
def alongL (outer n inner : Nat) (at_ : List Int) : List Int := (List.range outer).flatMap fun o => at_.flatMap fun i => (List.range inner).map fun k => alongI n inner o i k
theorem alongL_len (outer n inner : Nat) (at_ : List Int) : (alongL outer n inner at_).length = outer * (at_.length * inner) := by
  unfold alongL
  rw [List.length_flatMap]
  have e : ∀ o, (at_.flatMap fun i => (List.range inner).map fun k => alongI n inner o i k).length = at_.length * inner := by
    intro o
    rw [List.length_flatMap]
    simp only [List.length_map, List.length_range]
    exact sum_const _ _
  simp only [e]
  rw [sum_const, List.length_range]
/-- an axis turned on by so many -/
def rolledN (n : Nat) (by_ : Int) (y : Nat) : Nat := (((y : Int) + by_ % n) % n).toNat
def rolledL (n : Nat) (by_ : Int) : List Int := (List.range n).map fun y => ((rolledN n by_ y : Nat) : Int)
end Go.Proofs.YtmfealaaacmohaaGreat

/-
  The program logic, eighteenth part: regions that draw their order and change memory, two of the call's own rows fixed. No statement is proved here.
-/
namespace Go.Proofs.YtmfealaaacmohaaGreat
open Go Go.RowKit
set_option linter.unusedVariables false
set_option linter.unusedSimpArgs false
set_option linter.unusedVariables false
section
variable {P : Program} {n : Nat} {Q : Post} {L : Env} {w0 w : World} {h0 h : GHeap} {O : List Row} {ops rest : List Oper} {x y : Operand} {t : TypeId} {ra rb : Row}
variable {d : Option Tmp} {ty yt : TypeId} {pos : String} {aft : Array Edge} {fuel : Nat} {listed : Array Bool}
def SR (w0 : World) (h0 : GHeap) (ra rb : Row) (w : World) : Prop := ∃ (h' : GHeap) (O : List Row) (k j : Nat), Sees w0 h0 h' O w ∧ O[k]? = some ra ∧ O[j]? = some rb
theorem CW.regionR (T' : Tab P) (k j : Nat) (hs : Sees w0 h0 h O w) (ha : O[k]? = some ra) (hb : O[j]? = some rb) {id : Nat} {l : List Oper} (K : ∀ w', Sees w0 h0 h O w' → HW P n l (calmQ Q) (SR w0 h0 ra rb) l.length (Array.replicate l.length false) L w') : CW P n Q (.region id l.toArray true) L w :=
  CW.regionH T' (SR w0 h0 ra rb) (fun w' e => by subst e; exact K _ hs.drew)
theorem HW.takeR (i : Nat) {op : Op} {v : Value} (hi : ops.toArray[i]? = some ⟨d, op, ty, pos, aft, none⟩) (hy : ∀ (h' : GHeap) (O : List Row) (ka kb : Nat) (w' : World), Sees w0 h0 h' O w' → O[ka]? = some ra → O[kb]? = some rb → Yields P n L w' op ty v) (hS : SR w0 h0 ra rb w) (hd : dstOk n d = true)
    (hs : Region.noSelect ops.toArray = true) (hf : Region.free .any ops.toArray listed i = true) (hr : (Region.ready .any ops.toArray listed).contains i = true)
    (hh : HW P n ops (calmQ Q) (SR w0 h0 ra rb) fuel (listed.setIfInBounds i true) (updo d v L) w) : HW P n ops (calmQ Q) (SR w0 h0 ra rb) (fuel + 1) listed L w :=
  HW.take i hi (fun w' ⟨h', O, k, j, s, a, b⟩ => hy h' O k j w' s a b) hS hd hs hf hr hh
end
end Go.Proofs.YtmfealaaacmohaaGreat

/-
  Contracts of functions of package pick: places along an axis, turned on. No statement is proved here.
-/
namespace Go.Proofs.YtmfealaaacmohaaGreat
open Go Go.RowKit
set_option linter.unusedVariables false
set_option linter.unusedSimpArgs false
set_option maxHeartbeats 4000000
attribute [local irreducible] CW RW QW SW HW ConM retM heldQ calmQ elemP thenQ blockQ loopQ joinQ retQ Yields Con Sl zF magR unitF truncF fwF wholeF tidySpec elemQ rankF leastN tidyW
set_option maxHeartbeats 4000000

theorem tmod_emod (a : Int) (n : Nat) (hn : 0 < n) : -(n : Int) < a.tmod n ∧ a.tmod n < n ∧ (if a.tmod n < 0 then a.tmod n + n else a.tmod n) = a % n := by
  have h1 : a.tmod n < n := Int.tmod_lt_of_pos a (by omega)
  have h2 : -(n : Int) < a.tmod n := by
    rcases Int.le_total 0 a with h | h
    · have := Int.tmod_nonneg (n : Int) h
      omega
    · have h5 := Int.tmod_lt_of_pos (-a) (show (0 : Int) < n by omega)
      rw [Int.neg_tmod] at h5
      omega
  have h3 : a = (n : Int) * a.tdiv n + a.tmod n := (Int.mul_tdiv_add_tmod a n).symm
  have h4 : a % n = a.tmod n % n := by
    conv => lhs; rw [h3]
    rw [Int.add_comm, Int.add_mul_emod_self_left]
  refine ⟨h2, h1, ?_⟩
  rw [h4]
  split
  · rw [← Int.add_emod_right, Int.emod_eq_of_lt (by omega) (by omega)]
  · rw [Int.emod_eq_of_lt (by omega) (by omega)]
theorem fillA' {δ : Type} {A : List δ} {i n : Nat} (hA : A.length = i) (h : i < n) (b z : δ) : (A ++ List.replicate (n - i) b).set i z = (A ++ [z]) ++ List.replicate (n - (i + 1)) b := by
  obtain ⟨r, hr⟩ : ∃ r, n - i = r + 1 := ⟨n - i - 1, by omega⟩
  have e : n - (i + 1) = r := by omega
  rw [hr, e, List.replicate_succ, List.set_append_right _ _ (by omega), ← hA]
  simp
theorem setA' {δ : Type} {A Rr : List δ} {i : Nat} (hA : A.length = i) (z y : δ) : ((A ++ [z]) ++ Rr).set i y = (A ++ [y]) ++ Rr := by
  subst hA
  simp
theorem pickRolled_con (n : Nat) (by_ : Int) (w : World) (h : GHeap) (hn : n ≤ 1048576) : Con Tryz.prog 124 [.int .i64 n, .int .i64 by_] w h (fun h' u => IntsAt h' u (rolledL n by_)) := by
  refine Con.of_body Tryz.func124 rfl Tryz.ntmps124 rfl rfl ?_
  intro hs
  refine Zerun ?_
  (refine RW.make1 T hs rfl rfl rfl rfl rfl rfl rfl (by dsimp only; omega) (by omega) ?_; intro b1 w1 hs)
  by_cases c0 : n = 0
  · subst c0
    refine Zerun ?_
    obtain ⟨h2, hle2, hs, hS2⟩ := hs.freeze
    exact retQ_ret [_] h2 ⟨rfl, trivial⟩ hs.dropAll (IntsAt.of_sl (l := []) hS2)
  obtain ⟨ht1, ht2, ht3⟩ := tmod_emod by_ n (by omega)
  have hfr : 0 ≤ by_ % (n : Int) ∧ by_ % (n : Int) < n := ⟨Int.emod_nonneg _ (by omega), Int.emod_lt_of_pos _ (by omega)⟩
  refine Zerun ?_
  refine RW.val (Y.rem' rfl rfl (by omega)) rfl ?_
  by_cases c : by_.tmod n < 0
  · rw [if_pos c] at ht3
    refine Zerun ?_
    rw [ht3]
    obtain ⟨fr, hfe⟩ : ∃ fr, by_ % (n : Int) = fr := ⟨_, rfl⟩
    rw [hfe] at hfr ⊢
    refine CW.loop (fun i : Nat => [(0, .int .i64 n), (5, .slice (some ⟨b1, 0, none⟩) n n), (6, .int .i64 fr), (22, .int .i64 n), (23, .int .i64 i)]) (fun i w' => i ≤ n ∧ Sees w h h [⟨some ⟨b1, 0, none⟩, n, n, 3, 1, ((List.range i).map fun y => ((rolledN n by_ y : Nat) : Int)).map (Value.int .i64) ++ List.replicate (n - i) (.int .i64 0)⟩] w') (fun i => n - i) 0 ⟨rfl, rfl, rfl, rfl, rfl, trivial⟩ ⟨by omega, hs⟩ ?_
    rintro i w5 ⟨hi, hs⟩
    by_cases hlt : i < n
    · have hv : ((i : Int) + fr) % n = ((rolledN n by_ i : Nat) : Int) := by
        unfold rolledN
        rw [hfe, Int.toNat_of_nonneg (Int.emod_nonneg _ (by omega))]
      refine Zerun ?_
      rw [hv]
      refine RW.val (Y.idxRN T hs 0 rfl rfl rfl rfl rfl rfl hlt) rfl ?_
      refine RW.st1 T hs 0 rfl rfl rfl rfl rfl rfl rfl hlt ?_
      intro w7 hs
      replace hs := hs.re (fill_snoc (fun y => ((rolledN n by_ y : Nat) : Int)) i n hlt _)
      refine Zerun ?_
      exact loopQ_round (i + 1) ⟨rfl, rfl, rfl, rfl, rfl, trivial⟩ ⟨by omega, hs⟩ (by omega)
    obtain rfl : i = n := by omega
    rw [Nat.sub_self, List.replicate_zero, List.append_nil] at hs
    obtain ⟨h8, hle8, hs, hS8⟩ := hs.freeze
    refine Zerun ?_
    exact retQ_ret [_] h8 ⟨rfl, trivial⟩ hs.dropAll (IntsAt.of_sl (l := rolledL i by_) hS8)
  · rw [if_neg c] at ht3
    rw [ht3] at c ⊢
    refine Zerun ?_
    obtain ⟨fr, hfe⟩ : ∃ fr, by_ % (n : Int) = fr := ⟨_, rfl⟩
    rw [hfe] at hfr ⊢
    refine CW.loop (fun i : Nat => [(0, .int .i64 n), (5, .slice (some ⟨b1, 0, none⟩) n n), (6, .int .i64 fr), (22, .int .i64 n), (23, .int .i64 i)]) (fun i w' => i ≤ n ∧ Sees w h h [⟨some ⟨b1, 0, none⟩, n, n, 3, 1, ((List.range i).map fun y => ((rolledN n by_ y : Nat) : Int)).map (Value.int .i64) ++ List.replicate (n - i) (.int .i64 0)⟩] w') (fun i => n - i) 0 ⟨rfl, rfl, rfl, rfl, rfl, trivial⟩ ⟨by omega, hs⟩ ?_
    rintro i w5 ⟨hi, hs⟩
    by_cases hlt : i < n
    · have hv : ((i : Int) + fr) % n = ((rolledN n by_ i : Nat) : Int) := by
        unfold rolledN
        rw [hfe, Int.toNat_of_nonneg (Int.emod_nonneg _ (by omega))]
      refine Zerun ?_
      rw [hv]
      refine RW.val (Y.idxRN T hs 0 rfl rfl rfl rfl rfl rfl hlt) rfl ?_
      refine RW.st1 T hs 0 rfl rfl rfl rfl rfl rfl rfl hlt ?_
      intro w7 hs
      replace hs := hs.re (fill_snoc (fun y => ((rolledN n by_ y : Nat) : Int)) i n hlt _)
      refine Zerun ?_
      exact loopQ_round (i + 1) ⟨rfl, rfl, rfl, rfl, rfl, trivial⟩ ⟨by omega, hs⟩ (by omega)
    obtain rfl : i = n := by omega
    rw [Nat.sub_self, List.replicate_zero, List.append_nil] at hs
    obtain ⟨h8, hle8, hs, hS8⟩ := hs.freeze
    refine Zerun ?_
    exact retQ_ret [_] h8 ⟨rfl, trivial⟩ hs.dropAll (IntsAt.of_sl (l := rolledL i by_) hS8)
/-- a place that isn't there -/
def noneI (n : Nat) (i : Int) : Int := if i < 0 ∨ (n : Int) ≤ i then -1 else i
theorem pickNone_con (v1 : Value) (at_ : List Int) (n : Nat) (w : World) (h : GHeap) (ha : IntsAt h v1 at_) (hm : at_.length ≤ 1048576) : Con Tryz.prog 168 [v1, .int .i64 n] w h (fun h' u => IntsAt h' u (at_.map (noneI n))) := by
  obtain ⟨ad, cp, rfl, hS⟩ := ha
  refine Con.of_body Tryz.func168 rfl Tryz.ntmps168 rfl rfl ?_
  intro hs
  refine Zerun ?_
  (refine RW.make1 T hs rfl rfl rfl rfl rfl rfl rfl (by dsimp only; omega) (by omega) ?_; intro b1 w1 hs)
  refine Zerun ?_
  refine CW.loop (fun i : Nat => [(1, .int .i64 n), (5, .slice (some ⟨b1, 0, none⟩) at_.length at_.length), (11, .slice ad at_.length cp), (12, .int .i64 at_.length), (13, .int .i64 i)]) (fun i w' => i ≤ at_.length ∧ Sees w h h [⟨some ⟨b1, 0, none⟩, at_.length, at_.length, 3, 1, (((at_.take i).map (noneI n)) ++ List.replicate (at_.length - i) 0).map (Value.int .i64)⟩] w') (fun i => at_.length - i) 0 ⟨rfl, rfl, rfl, rfl, rfl, trivial⟩ ⟨by omega, by simp only [List.take_zero, List.map_nil, List.nil_append, Nat.sub_zero, List.map_replicate]; exact hs⟩ ?_
  rintro i w2 ⟨hi, hs⟩
  by_cases hlt : i < at_.length
  · have hAl : ((at_.take i).map (noneI n)).length = i := by rw [List.length_map, List.length_take]; omega
    have htm : (at_.take (i + 1)).map (noneI n) = (at_.take i).map (noneI n) ++ [noneI n (at_.getD i 0)] := by
      rw [take_succ_getD at_ i 0 hlt, List.map_append]; rfl
    refine Zerun ?_
    refine RW.val (Y.idxRN T hs 0 rfl rfl rfl rfl rfl rfl hlt) rfl ?_
    refine RW.st1 T hs 0 rfl rfl rfl rfl rfl rfl rfl hlt ?_
    intro w3 hs
    dsimp only [List.set_cons_zero, List.set_cons_succ] at hs
    rw [map_set_int, fillA' hAl hlt] at hs
    by_cases c1 : at_.getD i 0 < 0
    · have hv : noneI n (at_.getD i 0) = -1 := by unfold noneI; rw [if_pos (.inl c1)]
      refine Zerun ?_
      refine RW.val (Y.idxRN T hs 0 rfl rfl rfl rfl rfl rfl hlt) rfl ?_
      refine RW.st1 T hs 0 rfl rfl rfl rfl rfl rfl rfl hlt ?_
      intro w3 hs
      dsimp only [List.set_cons_zero, List.set_cons_succ] at hs
      rw [map_set_int, setA' hAl, ← hv, ← htm] at hs
      refine Zerun ?_
      exact loopQ_round (i + 1) ⟨rfl, rfl, rfl, rfl, rfl, trivial⟩ ⟨by omega, hs⟩ (by omega)
    by_cases c2 : (n : Int) ≤ at_.getD i 0
    · have hv : noneI n (at_.getD i 0) = -1 := by unfold noneI; rw [if_pos (.inr c2)]
      refine Zerun ?_
      refine RW.val (Y.idxRN T hs 0 rfl rfl rfl rfl rfl rfl hlt) rfl ?_
      refine RW.st1 T hs 0 rfl rfl rfl rfl rfl rfl rfl hlt ?_
      intro w3 hs
      dsimp only [List.set_cons_zero, List.set_cons_succ] at hs
      rw [map_set_int, setA' hAl, ← hv, ← htm] at hs
      refine Zerun ?_
      exact loopQ_round (i + 1) ⟨rfl, rfl, rfl, rfl, rfl, trivial⟩ ⟨by omega, hs⟩ (by omega)
    have hv : noneI n (at_.getD i 0) = at_.getD i 0 := by unfold noneI; rw [if_neg (by omega)]
    rw [hv] at htm
    rw [← htm] at hs
    refine Zerun ?_
    exact loopQ_round (i + 1) ⟨rfl, rfl, rfl, rfl, rfl, trivial⟩ ⟨by omega, hs⟩ (by omega)
  obtain rfl : i = at_.length := by omega
  rw [List.take_length, Nat.sub_self, List.replicate_zero, List.append_nil] at hs
  refine Zerun ?_
  obtain ⟨h6, hle6, hs, hS6⟩ := hs.freeze
  refine retQ_ret [_] h6 ⟨rfl, trivial⟩ hs.dropAll ?_
  have := IntsAt.of_sl hS6
  exact this
theorem flat_single {γ δ : Type} (f : γ → δ) : ∀ l : List γ, (l.flatMap fun x => [f x]) = l.map f
  | [] => rfl
  | a :: l => by rw [List.flatMap_cons, flat_single f l]; rfl
theorem alongL_one (n : Nat) (at_ : List Int) : alongL 1 n 1 at_ = at_.map (noneI n) := by
  show (List.range 1).flatMap _ = _
  rw [show List.range 1 = [0] from rfl, List.flatMap_cons, List.flatMap_nil, List.append_nil]
  rw [← flat_single (noneI n) at_]
  apply flatMap_eqN
  intro i _
  show [alongI n 1 0 i 0] = [noneI n i]
  congr 1
  unfold alongI noneI
  by_cases c : 0 ≤ i ∧ i < n
  · rw [if_pos c, if_neg (by omega)]
    omega
  · rw [if_neg c, if_pos (by omega)]
section
variable {α : Type} {R : GHeap → List Value → α → Prop}
theorem pickAlong_con (hR : Mono R) (h1 : One R) (h9 : Siz 9 R) (nb : α) (hbl : ∀ w h, Con Tryz.prog 159 [] w h (fun h' u => ∃ cs', u = .agg cs'.toArray ∧ R h' cs' nb)) (cs : List Value) (v : VecD α) (v1 : Value) (outer n inner : Nat) (at_ : List Int) (w : World) (h : GHeap) (hv : VecAt R h cs v) (ha : IntsAt h v1 at_) (hal : at_.length ≤ 1048576) (hou : outer ≤ 1048576) (hm : outer * (at_.length * inner) ≤ 1048576) (hB : outer * n * inner ≤ 1099511627776) (hBn : outer * n ≤ 1099511627776) (hvm : v.len ≤ 1048576) (hk0 : v.kind ≠ 0) :
    Con Tryz.prog 129 [.agg cs.toArray, .int .i64 outer, .int .i64 n, .int .i64 inner, v1] w h (fun h' u => ∃ cs', u = .agg cs'.toArray ∧ VecAt R h' cs' (v.pick (alongL outer n inner at_) nb)) := by
  have hv' := hv
  have ha' := ha
  obtain ⟨ad, cp, rfl, hS⟩ := ha
  obtain ⟨wv, nv, sm, il, fl, ch, bx, ⟨rfl, hoc⟩, _⟩ := hv
  refine Con.of_body Tryz.func129 rfl Tryz.ntmps129 rfl rfl ?_
  intro hs
  refine Zrun ?_
  (refine RW.boxN hs rfl rfl ?_; intro b1 w1 hs)
  (refine RW.allocN T hs rfl rfl rfl rfl ?_; intro b2 w2 hs)
  by_cases c : outer = 1 ∧ inner = 1
  · obtain ⟨rfl, rfl⟩ := c
    refine Zerun ?_
    refine CW.regionR T 1 1 hs rfl rfl ?_
    intro w4 hs
    refine HW.takeR (fuel := 5) 0 rfl (fun _ _ ka kb _ hs hka hkb => Y.loadRowN T hs ka hka rfl rfl rfl rfl rfl rfl) ⟨_, _, 1, 1, hs, rfl, rfl⟩ rfl (by kernel_rfl) (by kernel_rfl) (by kernel_rfl) ?_
    refine HW.takeR (fuel := 4) 1 rfl (fun _ _ ka kb _ hs hka hkb => Y.move rfl) ⟨_, _, 1, 1, hs, rfl, rfl⟩ rfl (by kernel_rfl) (by kernel_rfl) (by kernel_rfl) ?_
    refine HW.takeR (fuel := 3) 2 rfl (fun _ _ ka kb _ hs hka hkb => Y.move rfl) ⟨_, _, 1, 1, hs, rfl, rfl⟩ rfl (by kernel_rfl) (by kernel_rfl) (by kernel_rfl) ?_
    refine HW.one (fuel := 2) 3 rfl (by kernel_rfl) ?_
    (refine RW.call T hs rfl rfl rfl (pickNone_con _ _ n _ _ ha' (by omega)) ?_; intro v h25 w25 hle25 hp25 hs)
    have hv' := hv'.mono hR hle25
    have ha' := ha'.mono hle25
    refine RW.nil ?_
    refine heldQ_normal ⟨_, _, 1, 1, hs, rfl, rfl⟩ ?_
    refine HW.one (fuel := 1) 4 rfl (by kernel_rfl) ?_
    (refine RW.call T hs rfl rfl rfl (flatPick_con hR h1 h9 nb hbl _ _ _ (at_.map (noneI n)) _ _ hv' hp25 (by rw [List.length_map]; omega) hvm hk0) ?_; intro v h26 w26 hle26 hp26 hs)
    obtain ⟨cs26, rfl, hv26⟩ := hp26
    obtain ⟨wv6, nv6, sm6, il6, fl6, ch6, bx6, ⟨rfl, hoc6⟩, _⟩ := id hv26
    have hv' := hv'.mono hR hle26
    have ha' := ha'.mono hle26
    refine RW.nil ?_
    refine heldQ_normal ⟨_, _, 1, 1, hs, rfl, rfl⟩ ?_
    refine HW.one (fuel := 0) 5 rfl (by kernel_rfl) ?_
    (refine RW.storeAll T hs 0 rfl rfl rfl rfl rfl rfl hoc6 rfl ?_; intro w27 hs)
    refine RW.nil ?_
    refine heldQ_normal ⟨_, _, 1, 1, hs, rfl, rfl⟩ ?_
    refine HW.done (by kernel_rfl) ?_
    refine calmQ_normal ?_
    refine Zerun ?_
    exact retQ_ret [_] h26 ⟨resN T hs 0 rfl rfl rfl rfl rfl rfl, trivial⟩ hs.dropAll ⟨_, rfl, by rw [alongL_one]; exact hv26⟩
  have hlm : ∀ a b : Nat, ((a : Int) * (b : Int)) = ((a * b : Nat) : Int) := fun a b => (Int.natCast_mul a b).symm
  have hoa : outer * at_.length ≤ 1099511627776 := Nat.le_trans (Nat.mul_le_mul hou hal) (by omega)
  have hoai : outer * at_.length * inner ≤ 1048576 := by rw [Nat.mul_assoc]; exact hm
  first | (refine A0 ?_; first | refine R1 rfl rfl ?_ | refine R2 rfl rfl ?_ | (refine A1 ?_; first | refine D3 rfl rfl ?_ | refine D4 rfl rfl rfl rfl ?_ | refine D5 rfl rfl rfl ?_ | refine E6 ?_ rfl rfl | refine E7 ?_ rfl rfl) | refine Zb ?_ rfl | (refine A3 ?_; first | refine R34 T hs 0 rfl rfl rfl rfl rfl rfl ?_ | refine R34 T hs 1 rfl rfl rfl rfl rfl rfl ?_ | refine Zl ?_ rfl) | refine Zi ?_ rfl | refine Zo ?_ rfl | refine A8 ?_) | (refine B0 ?_; first | refine B1 ?_ | refine B2 ?_ | refine B3 ?_ | refine B4 ?_ | refine B5 ?_ | refine B6 ?_ | refine B7 rfl ?_ | refine B8 rfl ?_ | refine E8 ?_ rfl | refine E9 ?_ rfl) | refine C1 ?_ | refine C2 ?_ | refine C3 ?_ | refine C4 ?_ | refine C5 ?_ | refine C6 ?_ | refine C7 ?_ | refine C8 ?_ | refine C9 ?_ | refine D1 rfl ?_ | refine D2 rfl ?_
  first | (refine A0 ?_; first | refine R1 rfl rfl ?_ | refine R2 rfl rfl ?_ | (refine A1 ?_; first | refine D3 rfl rfl ?_ | refine D4 rfl rfl rfl rfl ?_ | refine D5 rfl rfl rfl ?_ | refine E6 ?_ rfl rfl | refine E7 ?_ rfl rfl) | refine Zb ?_ rfl | (refine A3 ?_; first | refine R34 T hs 0 rfl rfl rfl rfl rfl rfl ?_ | refine R34 T hs 1 rfl rfl rfl rfl rfl rfl ?_ | refine Zl ?_ rfl) | refine Zi ?_ rfl | refine Zo ?_ rfl | refine A8 ?_) | (refine B0 ?_; first | refine B1 ?_ | refine B2 ?_ | refine B3 ?_ | refine B4 ?_ | refine B5 ?_ | refine B6 ?_ | refine B7 rfl ?_ | refine B8 rfl ?_ | refine E8 ?_ rfl | refine E9 ?_ rfl) | refine C1 ?_ | refine C2 ?_ | refine C3 ?_ | refine C4 ?_ | refine C5 ?_ | refine C6 ?_ | refine C7 ?_ | refine C8 ?_ | refine C9 ?_ | refine D1 rfl ?_ | refine D2 rfl ?_
  first | (refine A0 ?_; first | refine R1 rfl rfl ?_ | refine R2 rfl rfl ?_ | (refine A1 ?_; first | refine D3 rfl rfl ?_ | refine D4 rfl rfl rfl rfl ?_ | refine D5 rfl rfl rfl ?_ | refine E6 ?_ rfl rfl | refine E7 ?_ rfl rfl) | refine Zb ?_ rfl | (refine A3 ?_; first | refine R34 T hs 0 rfl rfl rfl rfl rfl rfl ?_ | refine R34 T hs 1 rfl rfl rfl rfl rfl rfl ?_ | refine Zl ?_ rfl) | refine Zi ?_ rfl | refine Zo ?_ rfl | refine A8 ?_) | (refine B0 ?_; first | refine B1 ?_ | refine B2 ?_ | refine B3 ?_ | refine B4 ?_ | refine B5 ?_ | refine B6 ?_ | refine B7 rfl ?_ | refine B8 rfl ?_ | refine E8 ?_ rfl | refine E9 ?_ rfl) | refine C1 ?_ | refine C2 ?_ | refine C3 ?_ | refine C4 ?_ | refine C5 ?_ | refine C6 ?_ | refine C7 ?_ | refine C8 ?_ | refine C9 ?_ | refine D1 rfl ?_ | refine D2 rfl ?_
  refine CW.meet (fun _ : Unit => [(1, .int .i64 outer), (2, .int .i64 n), (3, .int .i64 inner), (4, .slice ad at_.length cp), (5, .pointer (some ⟨b1, 0, none⟩)), (10, .pointer (some ⟨b2, 0, none⟩)), (21, .bool false)]) (fun _ w' => Sees w h h [⟨some ⟨b2, 0, none⟩, 1, 1, 37, 8, vecCells 0 (.slice none 0 0) 0 (.slice none 0 0) (.slice none 0 0) (.slice none 0 0) (.slice none 0 0) (.slice none 0 0)⟩, ⟨some ⟨b1, 0, none⟩, 1, 1, 37, 8, vecCells v.kind wv nv sm il fl ch bx⟩] w') ?_ ?_
  · by_cases c1 : outer = 1
    · have c2 : ¬ inner = 1 := fun e => c ⟨c1, e⟩
      refine Zerun ?_
      exact joinQ_meet () ⟨rfl, rfl, rfl, rfl, rfl, rfl, setb (decide_eq_false (by omega)), trivial⟩ hs
    · refine Zerun ?_
      exact joinQ_meet () ⟨rfl, rfl, rfl, rfl, rfl, rfl, rfl, trivial⟩ hs
  rintro _ w3 hs
  refine Zerun ?_
  refine RW.val (Y.mul rfl rfl ?_) rfl ?_
  · rw [hlm]; omega
  rw [hlm]
  refine Zerun ?_
  refine RW.val (Y.mul rfl rfl ?_) rfl ?_
  · rw [hlm]; omega
  rw [hlm]
  obtain ⟨N, hN⟩ : ∃ N, outer * at_.length * inner = N := ⟨_, rfl⟩
  rw [hN] at hoai ⊢
  (refine RW.make T hs rfl rfl rfl rfl rfl ?_ ?_ ?_ ?_ ?_; omega; omega; (dsimp only; omega); omega; intro b4 w4 hs)
  have hs : Sees w h h [⟨some ⟨b4, 0, none⟩, 0, N, 3, 1, []⟩, ⟨some ⟨b2, 0, none⟩, 1, 1, 37, 8, vecCells 0 (.slice none 0 0) 0 (.slice none 0 0) (.slice none 0 0) (.slice none 0 0) (.slice none 0 0) (.slice none 0 0)⟩, ⟨some ⟨b1, 0, none⟩, 1, 1, 37, 8, vecCells v.kind wv nv sm il fl ch bx⟩] w4 := by
    have e : ((N : Int)).toNat = N := Int.toNat_natCast _
    rw [e] at hs
    exact hs.re (made_one _ _)
  have e : ((N : Int)).toNat = N := Int.toNat_natCast _
  rw [e]
  refine Zerun ?_
  refine CW.loop (fun u : Nat × Nat × (Option Addr × Nat) => [(1, .int .i64 outer), (2, .int .i64 n), (3, .int .i64 inner), (4, .slice ad at_.length cp), (5, .pointer (some ⟨b1, 0, none⟩)), (10, .pointer (some ⟨b2, 0, none⟩)), (11, .slice u.2.2.1 u.2.1 u.2.2.2), (34, .int .i64 outer), (35, .int .i64 u.1)]) (fun u w' => u.1 ≤ outer ∧ u.2.1 = (alongL u.1 n inner at_).length ∧ Sees w h h [⟨u.2.2.1, u.2.1, u.2.2.2, 3, 1, (alongL u.1 n inner at_).map (Value.int .i64)⟩, ⟨some ⟨b2, 0, none⟩, 1, 1, 37, 8, vecCells 0 (.slice none 0 0) 0 (.slice none 0 0) (.slice none 0 0) (.slice none 0 0) (.slice none 0 0) (.slice none 0 0)⟩, ⟨some ⟨b1, 0, none⟩, 1, 1, 37, 8, vecCells v.kind wv nv sm il fl ch bx⟩] w') (fun u => outer - u.1) (0, 0, (some ⟨b4, 0, none⟩, N)) ⟨rfl, rfl, rfl, rfl, rfl, rfl, rfl, rfl, rfl, trivial⟩ ⟨by omega, rfl, hs⟩ ?_
  rintro ⟨o, nn, ⟨ab, cb⟩⟩ w5 ⟨ho, hnn, hs⟩
  dsimp only at ho hnn hs ⊢
  have hal2 := alongL_len o n inner at_
  by_cases hlt : o < outer
  · have hon : o * n ≤ outer * n := Nat.mul_le_mul_right n (by omega)
    have hob : o * (at_.length * inner) ≤ outer * (at_.length * inner) := Nat.mul_le_mul_right _ (by omega)
    have hob1 : o * (at_.length * inner) + at_.length * inner ≤ outer * (at_.length * inner) := by
      have := Nat.mul_le_mul_right (at_.length * inner) (show o + 1 ≤ outer by omega)
      rw [Nat.add_mul, Nat.one_mul] at this
      exact this
    refine Zerun ?_
    refine CW.loop (fun u : Nat × Nat × (Option Addr × Nat) => [(1, .int .i64 outer), (2, .int .i64 n), (3, .int .i64 inner), (4, .slice ad at_.length cp), (5, .pointer (some ⟨b1, 0, none⟩)), (10, .pointer (some ⟨b2, 0, none⟩)), (11, .slice u.2.2.1 u.2.1 u.2.2.2), (12, .int .i64 o), (34, .int .i64 outer), (35, .int .i64 o), (38, .slice ad at_.length cp), (39, .int .i64 at_.length), (40, .int .i64 u.1)]) (fun u w' => u.1 ≤ at_.length ∧ u.2.1 = o * (at_.length * inner) + u.1 * inner ∧ Sees w h h [⟨u.2.2.1, u.2.1, u.2.2.2, 3, 1, (alongL o n inner at_ ++ (at_.take u.1).flatMap (fun i => (List.range inner).map fun k => alongI n inner o i k)).map (Value.int .i64)⟩, ⟨some ⟨b2, 0, none⟩, 1, 1, 37, 8, vecCells 0 (.slice none 0 0) 0 (.slice none 0 0) (.slice none 0 0) (.slice none 0 0) (.slice none 0 0) (.slice none 0 0)⟩, ⟨some ⟨b1, 0, none⟩, 1, 1, 37, 8, vecCells v.kind wv nv sm il fl ch bx⟩] w') (fun u => at_.length - u.1) (0, nn, (ab, cb)) ⟨rfl, rfl, rfl, rfl, rfl, rfl, rfl, rfl, rfl, rfl, rfl, rfl, rfl, trivial⟩ ⟨by omega, by dsimp only; omega, by simp only [List.take_zero, List.flatMap_nil, List.append_nil]; exact hs⟩ ?_
    rintro ⟨j, nj, ⟨aj, cj⟩⟩ w6 ⟨hj, hnj, hs⟩
    dsimp only at hj hnj hs ⊢
    by_cases hlj : j < at_.length
    · have hji : j * inner + inner ≤ at_.length * inner := by
        have := Nat.mul_le_mul_right inner (show j + 1 ≤ at_.length by omega)
        rw [Nat.add_mul, Nat.one_mul] at this
        exact this
      have htk : (at_.take (j + 1)).flatMap (fun i => (List.range inner).map fun k => alongI n inner o i k) = (at_.take j).flatMap (fun i => (List.range inner).map fun k => alongI n inner o i k) ++ (List.range inner).map fun k => alongI n inner o (at_.getD j 0) k := by
        rw [take_succ_getD at_ j 0 hlj, List.flatMap_append]
        simp
      refine Zerun ?_
      obtain ⟨x, hxe⟩ : ∃ x, at_.getD j 0 = x := ⟨_, rfl⟩
      rw [hxe] at htk ⊢
      refine CW.loop (fun u : Nat × Nat × (Option Addr × Nat) => [(1, .int .i64 outer), (2, .int .i64 n), (3, .int .i64 inner), (4, .slice ad at_.length cp), (5, .pointer (some ⟨b1, 0, none⟩)), (10, .pointer (some ⟨b2, 0, none⟩)), (11, .slice u.2.2.1 u.2.1 u.2.2.2), (12, .int .i64 o), (14, .int .i64 x), (34, .int .i64 outer), (35, .int .i64 o), (38, .slice ad at_.length cp), (39, .int .i64 at_.length), (40, .int .i64 j), (44, .int .i64 inner), (45, .int .i64 u.1)]) (fun u w' => u.1 ≤ inner ∧ u.2.1 = o * (at_.length * inner) + j * inner + u.1 ∧ Sees w h h [⟨u.2.2.1, u.2.1, u.2.2.2, 3, 1, (alongL o n inner at_ ++ (at_.take j).flatMap (fun i => (List.range inner).map fun k => alongI n inner o i k) ++ (List.range u.1).map (fun k => alongI n inner o x k)).map (Value.int .i64)⟩, ⟨some ⟨b2, 0, none⟩, 1, 1, 37, 8, vecCells 0 (.slice none 0 0) 0 (.slice none 0 0) (.slice none 0 0) (.slice none 0 0) (.slice none 0 0) (.slice none 0 0)⟩, ⟨some ⟨b1, 0, none⟩, 1, 1, 37, 8, vecCells v.kind wv nv sm il fl ch bx⟩] w') (fun u => inner - u.1) (0, nj, (aj, cj)) ⟨rfl, rfl, rfl, rfl, rfl, rfl, rfl, rfl, rfl, rfl, rfl, rfl, rfl, rfl, rfl, rfl, trivial⟩ ⟨by omega, hnj, by simp only [List.range_zero, List.map_nil, List.append_nil]; exact hs⟩ ?_
      rintro ⟨m, nm, ⟨am, cm⟩⟩ w7 ⟨hmm, hnm, hs⟩
      dsimp only at hmm hnm hs ⊢
      by_cases hlm2 : m < inner
      · have hrs : (List.range (m + 1)).map (fun k => alongI n inner o x k) = (List.range m).map (fun k => alongI n inner o x k) ++ [alongI n inner o x m] := by
          rw [List.range_succ, List.map_append]; rfl
        by_cases c1 : x < 0 ∨ (n : Int) ≤ x
        · have hv : alongI n inner o x m = -1 := by unfold alongI; rw [if_neg (by omega)]
          by_cases c2 : x < 0
          · refine Zerun ?_
            (refine RW.lit T hs (vs := [.int .i64 (-1)]) (cs := [.int .i64 (-1)]) rfl rfl rfl rfl (by simp [Value.cells]) rfl rfl rfl rfl rfl ?_; intro b8 w8 hs)
            (refine RW.append T hs 1 rfl rfl (m := 1) (news := [.int .i64 (-1)]) rfl rfl rfl rfl rfl rfl (hs.src0 rfl (by simp [Value.oneCell'])) (by simp) (by dsimp only; omega) (by omega) ?_; intro ad9 cp9 w9 hs; replace hs := hs.drop)
            refine Zerun ?_
            refine loopQ_round (m + 1, nm + 1, (ad9, cp9)) ⟨rfl, rfl, rfl, rfl, rfl, rfl, rfl, rfl, rfl, rfl, rfl, rfl, rfl, rfl, rfl, rfl, trivial⟩ ⟨by dsimp only; omega, by dsimp only; omega, ?_⟩ (by dsimp only; omega)
            dsimp only
            rw [hrs, hv, ← List.append_assoc, List.map_append]
            exact hs
          · have c3 : (n : Int) ≤ x := by omega
            refine Zerun ?_
            (refine RW.lit T hs (vs := [.int .i64 (-1)]) (cs := [.int .i64 (-1)]) rfl rfl rfl rfl (by simp [Value.cells]) rfl rfl rfl rfl rfl ?_; intro b8 w8 hs)
            (refine RW.append T hs 1 rfl rfl (m := 1) (news := [.int .i64 (-1)]) rfl rfl rfl rfl rfl rfl (hs.src0 rfl (by simp [Value.oneCell'])) (by simp) (by dsimp only; omega) (by omega) ?_; intro ad9 cp9 w9 hs; replace hs := hs.drop)
            refine Zerun ?_
            refine loopQ_round (m + 1, nm + 1, (ad9, cp9)) ⟨rfl, rfl, rfl, rfl, rfl, rfl, rfl, rfl, rfl, rfl, rfl, rfl, rfl, rfl, rfl, rfl, trivial⟩ ⟨by dsimp only; omega, by dsimp only; omega, ?_⟩ (by dsimp only; omega)
            dsimp only
            rw [hrs, hv, ← List.append_assoc, List.map_append]
            exact hs
        · have hx0 : 0 ≤ x ∧ x < n := by omega
          have hv : alongI n inner o x m = (((o * n + x.toNat) * inner + m : Nat) : Int) := by unfold alongI; rw [if_pos hx0]
          have hox : o * n + x.toNat < outer * n := by
            have := Nat.mul_le_mul_right n (show o + 1 ≤ outer by omega)
            rw [Nat.add_mul, Nat.one_mul] at this
            omega
          have hoxi : (o * n + x.toNat) * inner + m < outer * n * inner := by
            have := Nat.mul_le_mul_right inner (show o * n + x.toNat + 1 ≤ outer * n by omega)
            rw [Nat.add_mul, Nat.one_mul] at this
            omega
          refine Zerun ?_
          refine RW.val (Y.mul rfl rfl ?_) rfl ?_
          · rw [hlm]; omega
          rw [hlm]
          refine Zerun ?_
          rw [show ((o * n : Nat) : Int) + x = ((o * n + x.toNat : Nat) : Int) by omega]
          refine RW.val (Y.mul rfl rfl ?_) rfl ?_
          · rw [hlm]; omega
          rw [hlm]
          refine Zerun ?_
          (refine RW.lit T hs (vs := [.int .i64 ((((o * n + x.toNat) * inner : Nat) : Int) + m)]) (cs := [.int .i64 ((((o * n + x.toNat) * inner : Nat) : Int) + m)]) rfl rfl rfl rfl (by simp [Value.cells]) rfl rfl rfl rfl rfl ?_; intro b8 w8 hs)
          (refine RW.append T hs 1 rfl rfl (m := 1) (news := [.int .i64 ((((o * n + x.toNat) * inner : Nat) : Int) + m)]) rfl rfl rfl rfl rfl rfl (hs.src0 rfl (by simp [Value.oneCell'])) (by simp) (by dsimp only; omega) (by omega) ?_; intro ad9 cp9 w9 hs; replace hs := hs.drop)
          refine Zerun ?_
          refine loopQ_round (m + 1, nm + 1, (ad9, cp9)) ⟨rfl, rfl, rfl, rfl, rfl, rfl, rfl, rfl, rfl, rfl, rfl, rfl, rfl, rfl, rfl, rfl, trivial⟩ ⟨by dsimp only; omega, by dsimp only; omega, ?_⟩ (by dsimp only; omega)
          dsimp only
          rw [hrs, hv, ← List.append_assoc, List.map_append]
          exact hs
      obtain rfl : m = inner := by omega
      rw [List.append_assoc, ← htk] at hs
      refine Zerun ?_
      refine loopQ_round (j + 1, nm, (am, cm)) ⟨rfl, rfl, rfl, rfl, rfl, rfl, rfl, rfl, rfl, rfl, rfl, rfl, rfl, trivial⟩ ⟨by dsimp only; omega, ?_, hs⟩ (by dsimp only; omega)
      dsimp only
      rw [Nat.add_mul, Nat.one_mul]
      omega
    obtain rfl : j = at_.length := by omega
    have hsn : alongL (o + 1) n inner at_ = alongL o n inner at_ ++ at_.flatMap (fun i => (List.range inner).map fun k => alongI n inner o i k) := by
      unfold alongL
      rw [List.range_succ, List.flatMap_append]
      simp
    rw [List.take_length, ← hsn] at hs
    refine Zerun ?_
    refine loopQ_round (o + 1, nj, (aj, cj)) ⟨rfl, rfl, rfl, rfl, rfl, rfl, rfl, rfl, rfl, trivial⟩ ⟨by dsimp only; omega, ?_, hs⟩ (by dsimp only; omega)
    dsimp only
    rw [alongL_len, Nat.add_mul, Nat.one_mul]
    omega
  obtain rfl : o = outer := by omega
  obtain ⟨h6, hle6, hs, hS6⟩ := hs.freeze
  have hI6 : IntsAt h6 (.slice ab nn cb) (alongL o n inner at_) := IntsAt.of_sl hS6
  have hv' := hv'.mono hR hle6
  refine Zerun ?_
  (refine RW.call T hs rfl rfl rfl (flatPick_con hR h1 h9 nb hbl _ _ _ (alongL o n inner at_) _ _ hv' hI6 (by omega) hvm hk0) ?_; intro v h11 w11 hle11 hp11 hs)
  obtain ⟨cs11, rfl, hv11⟩ := hp11
  obtain ⟨wv6, nv6, sm6, il6, fl6, ch6, bx6, ⟨rfl, hoc6⟩, _⟩ := id hv11
  (refine RW.storeAll T hs 0 rfl rfl rfl rfl rfl rfl hoc6 rfl ?_; intro w12 hs)
  refine Zerun ?_
  exact retQ_ret [_] h11 ⟨resN T hs 0 rfl rfl rfl rfl rfl rfl, trivial⟩ hs.dropAll ⟨_, rfl, hv11⟩
end
end Go.Proofs.YtmfealaaacmohaaGreat

/-
  Contracts of functions of package shape and of its reference, third part: places and indexes. No statement is proved here.
-/
namespace Go.Proofs.YtmfealaaacmohaaGreat
open Go Go.RowKit
set_option linter.unusedVariables false
set_option linter.unusedSimpArgs false
set_option maxHeartbeats 4000000
attribute [local irreducible] CW RW QW SW HW ConM retM heldQ calmQ elemP thenQ blockQ loopQ joinQ retQ Yields Con Sl

theorem place_con (s t : Value) (l m : List Int) (w : World) (h : GHeap) (hl : IntsAt h s l) (ht : IntsAt h t m) (hm : l.length ≤ 9223372036854775807) : Con Tryz.prog 113 [s, t] w h
    (fun _ v => v = .int .i64 (if (atSpec l m).2 = true then (atSpec l m).1 else -1)) := by
  have hl' := hl
  obtain ⟨ad, cp, rfl, hS⟩ := hl
  obtain ⟨ad2, cp2, rfl, hS2⟩ := ht
  refine Con.of_body Tryz.func113 rfl Tryz.ntmps113 rfl rfl ?_
  intro hs
  refine Zrun ?_
  (refine RW.call T hs rfl rfl rfl (refGood_con _ l _ _ hl' hm) ?_; intro v h1 w1 hle1 hp1 hs)
  subst hp1
  have hS := hS.mono hle1
  have hS2 := hS2.mono hle1
  refine Zrun ?_
  refine RW.gd rfl rfl (fun hg => ?_) (fun hg => ?_)
  · refine Zrun ?_
    exact retQ_ret [_] h1 ⟨rfl, trivial⟩ hs (by simp [packv, at_bad l m hg])
  have hg := Decidable.of_not_not hg
  refine Zrun ?_
  refine CW.condD rfl (fun h8 => ?_) (fun h8 => ?_)
  · refine Zrun ?_
    exact retQ_ret [_] h1 ⟨rfl, trivial⟩ hs (by simp [packv, at_len l m (by omega)])
  have hlen : l.length = m.length := by omega
  refine Zrun ?_
  refine CW.loop (fun k : Nat => [(0, .slice ad l.length cp), (1, .slice ad2 m.length cp2), (5, .int .i64 (off (l.drop k) (m.drop k))), (6, .int .i64 (prn (l.drop k))), (7, .int .i64 ((k : Int) - 1))]) (fun k w' => k ≤ l.length ∧ (∀ j, k ≤ j → j < l.length → 0 ≤ m.getD j 0 ∧ m.getD j 0 < l.getD j 0) ∧ Sees w h h1 [] w') (fun k => k) l.length ⟨rfl, rfl, by simp [off]; rfl, by simp [prn]; rfl, rfl, trivial⟩ ⟨by omega, by omega, hs⟩ ?_
  rintro k w' ⟨hk, hno, hs⟩
  have hob := off_drop_bound l m k hg hlen hno
  rcases k with _ | k
  · refine Zrun ?_
    refine retQ_ret [_] h1 ⟨rfl, trivial⟩ hs ?_
    simp [packv, at_in l m hg hlen (fun j hj => hno j (by omega) hj)]
  · have e1 : ((k + 1 : Nat) : Int) - 1 = (k : Int) := by omega
    rw [e1]
    have hgd := good_getD l hg k (by omega)
    refine Zrun ?_
    refine CW.regionQ T hs (Zqrun ?_) (by kernel_rfl)
    refine QW.gd rfl rfl (fun h2 => ?_) (fun h2 => ?_)
    · repeat
        first | with_reducible refine QW.nil ?_ | refine Qz ?_ rfl | refine QW.guardYes rfl rfl ?_ | refine QW.guardNo rfl rfl rfl rfl ?_ | refine QW.guardUndef rfl rfl rfl ?_ | (refine QW.gdY rfl rfl ?_ ?_; omega) | (refine QW.gdN rfl rfl ?_ ?_; omega)
      intro w' hs
      refine Zrun ?_
      exact retQ_ret [_] h1 ⟨rfl, trivial⟩ hs (by simp [packv, at_out l m k (by omega) (by omega)])
    · repeat
        first | with_reducible refine QW.nil ?_ | refine Qz ?_ rfl | refine QW.guardYes rfl rfl ?_ | refine QW.guardNo rfl rfl rfl rfl ?_ | refine QW.guardUndef rfl rfl rfl ?_ | (refine QW.gdY rfl rfl ?_ ?_; omega) | (refine QW.gdN rfl rfl ?_ ?_; omega)
      intro w' hs
      refine Zrun ?_
      refine CW.condD rfl (fun h3 => ?_) (fun h3 => ?_)
      · refine Zrun ?_
        exact retQ_ret [_] h1 ⟨rfl, trivial⟩ hs (by simp [packv, at_out l m k (by omega) (by omega)])
      · have hmb := mul_bound (a := prn (l.drop (k + 1))) (b := m.getD k 0) (by omega) (by omega)
        have hmb2 := mul_bound (a := prn (l.drop (k + 1))) (b := l.getD k 0) (by omega) (by omega)
        refine Zrun ?_
        refine RW.val (Y.mul rfl rfl ⟨by omega, by omega⟩) rfl ?_
        refine Zrun ?_
        refine RW.val (Y.mul rfl rfl ⟨by omega, by omega⟩) rfl ?_
        refine Zrun ?_
        refine loopQ_round k ⟨rfl, rfl, seti (by rw [off_drop l m k hlen (by omega), Int.mul_comm, Int.add_comm]), seti (by rw [prn_drop l k (by omega), Int.mul_comm]), rfl, trivial⟩ ⟨by omega, ?_, hs⟩ (by omega)
        intro j hj hj2
        by_cases e : j = k
        · subst e; omega
        · exact hno j (by omega) hj2
end Go.Proofs.YtmfealaaacmohaaGreat

/-
  Contracts of functions of package shape and of its reference, fourth part: new shapes. No statement is proved here.
-/
namespace Go.Proofs.YtmfealaaacmohaaGreat
open Go Go.RowKit
set_option linter.unusedVariables false
set_option linter.unusedSimpArgs false
set_option maxHeartbeats 4000000
attribute [local irreducible] CW RW QW SW HW ConM retM heldQ calmQ elemP thenQ blockQ loopQ joinQ retQ Yields Con Sl

/-- a clone of a slice of int: the caller's own -/
theorem cloneInt_conM (ad : Option Addr) (cp : Nat) (l : List Int) (w0 w : World) (h0 h : GHeap) (O : List Row) (hS : Sl h 1 ad l.length cp (l.map (Value.int .i64))) (hm : l.length ≤ 17592186044416) :
    ConM Tryz.prog 81 [.slice ad l.length cp] w0 h0 h O w (fun h' O' v => h' = h ∧ ∃ ad' cp', v = .slice ad' l.length cp' ∧ O' = ⟨ad', l.length, cp', 3, 1, l.map (Value.int .i64)⟩ :: O) := by
  refine ConM.of_body Tryz.func81 rfl Tryz.ntmps81 rfl rfl ?_
  intro hs
  refine Zrun ?_
  refine RW.val (Y.sliceNil T rfl rfl rfl) rfl ?_
  refine Zrun ?_
  cases ad with
  | none =>
    have h4 : l = [] := List.eq_nil_of_length_eq_zero hS.nil0.1
    subst h4
    refine Zrun ?_
    exact retM_ret [_] h _ ⟨rfl, trivial⟩ (GLe.refl _) (hs.nilRow 3 1) ⟨rfl, none, 0, rfl, rfl⟩
  | some p =>
    refine Zrun ?_
    (refine RW.lit T hs (vs := []) rfl rfl rfl rfl (by simp [Value.cells]) rfl rfl rfl rfl rfl ?_; intro b1 w1 hs)
    refine Zrun ?_
    refine RW.append T hs 0 rfl rfl (m := l.length) (news := l.map (Value.int .i64)) rfl rfl rfl rfl rfl rfl (hS.src hs.agree (one_ints _ _)) (by simp) (by dsimp only; omega) (by omega) ?_
    intro ad' cp' w2 hs
    refine Zrun ?_
    exact retM_ret [_] h _ ⟨rfl, trivial⟩ (GLe.refl _) hs ⟨rfl, ad', cp', by rw [Nat.zero_add]; rfl, by simp⟩

end Go.Proofs.YtmfealaaacmohaaGreat

/-
  Contracts of functions of package shape and of its reference, fifth part. No statement is proved here.
-/
namespace Go.Proofs.YtmfealaaacmohaaGreat
open Go Go.RowKit
set_option linter.unusedVariables false
set_option linter.unusedSimpArgs false
set_option maxHeartbeats 4000000
attribute [local irreducible] CW RW QW SW HW ConM retM heldQ calmQ elemP thenQ blockQ loopQ joinQ retQ Yields Con Sl

theorem strides_con (s : Value) (l : List Int) (w : World) (h : GHeap) (hl : IntsAt h s l) (hm : l.length ≤ 9223372036854775807) : Con Tryz.prog 139 [s] w h
    (fun h' v => IntsAt h' v (if goodS l = true then stridesOf l else [])) := by
  have hl' := hl
  obtain ⟨ad, cp, rfl, hS⟩ := hl
  refine Con.of_body Tryz.func139 rfl Tryz.ntmps139 rfl rfl ?_
  intro hs
  refine Zrun ?_
  (refine RW.call T hs rfl rfl rfl (good_con _ l _ _ hl' hm) ?_; intro v h1 w1 hle1 hp1 hs)
  subst hp1
  have hS := hS.mono hle1
  refine Zrun ?_
  refine CW.condD rfl (fun hg => ?_) (fun hg => ?_)
  · refine Zrun ?_
    exact retQ_ret [_] h1 ⟨rfl, trivial⟩ hs (by rw [if_neg (fun e => hg ((goodS_iff l).1 e))]; exact IntsAt.nil _)
  have hg := Decidable.of_not_not hg
  have hgs := (goodS_spec l).1 ((goodS_iff l).2 hg)
  refine Zrun ?_
  (refine RW.make T hs rfl rfl rfl rfl rfl ?_ ?_ ?_ ?_ ?_; omega; omega; (dsimp only; omega); omega; intro b2 w2 hs)
  refine Zrun ?_
  refine CW.loop (fun k : Nat => [(0, .slice ad l.length cp), (3, .slice (some ⟨b2, 0, none⟩) l.length l.length), (4, .int .i64 (pr (l.drop k))), (5, .int .i64 ((k : Int) - 1))]) (fun k w' => k ≤ l.length ∧ Sees w h h1 [⟨some ⟨b2, 0, none⟩, l.length, l.length, 3, 1, (List.replicate k 0 ++ (stridesOf l).drop k).map (Value.int .i64)⟩] w') (fun k => k) l.length ⟨rfl, rfl, seti (by simp [pr]), rfl, trivial⟩ ⟨by omega, hs.cast (by
    simp only [Int.toNat_natCast]
    rw [List.drop_of_length_le (by rw [length_stridesOf]; omega), List.append_nil, List.map_replicate]
    exact congrArg (fun z => [Row.mk (some ⟨b2, 0, none⟩) l.length l.length 3 1 z]) (made_one _ _))⟩ ?_
  rintro k w' ⟨hk, hs⟩
  rcases k with _ | k
  · refine Zrun ?_
    obtain ⟨h3, hle3, hs3, hS3⟩ := hs.freeze
    simp only [List.replicate_zero, List.nil_append, List.drop_zero] at hS3
    exact retQ_ret [_] h3 ⟨rfl, trivial⟩ hs3 (by rw [if_pos ((goodS_iff l).2 hg)]; exact IntsAt.of_sl hS3)
  · have e1 : ((k + 1 : Nat) : Int) - 1 = (k : Int) := by omega
    rw [e1]
    have hgd := good_getD l hg k (by omega)
    have hpd := pr_pos (l.drop (k + 1))
    have hple := pr_drop_le l (k + 1)
    have hmb := mul_bound (a := pr (l.drop (k + 1))) (b := max 1 (l.getD k 0)) (by omega) (by omega)
    refine Zrun ?_
    refine RW.val (Y.idxRN T hs 0 rfl rfl rfl rfl rfl rfl ?_) rfl ?_
    · omega
    refine RW.st1 T hs 0 rfl rfl rfl rfl rfl rfl rfl (by omega) ?_
    intro w2 hs
    refine Zrun ?_
    refine RW.val (Y.mul rfl rfl ⟨by omega, by omega⟩) rfl ?_
    refine Zrun ?_
    refine loopQ_round k ⟨rfl, rfl, seti (by rw [pr_drop l k (by omega), Int.mul_comm]), rfl, trivial⟩ ⟨by omega, hs.cast ?_⟩ (by omega)
    rw [map_set_int]
    refine congrArg (fun (z : List Int) => [Row.mk (some ⟨b2, 0, none⟩) l.length l.length 3 1 (z.map (Value.int .i64))]) ?_
    rw [List.replicate_succ', List.append_assoc, List.set_append_right _ _ (by simp)]
    simp only [List.length_replicate, Nat.sub_self]
    rw [drop_pred (stridesOf l) k (by rw [length_stridesOf]; omega), getD_stridesOf l k (by omega)]
    simp

theorem split_con (s : Value) (l : List Int) (axis : Int) (w : World) (h : GHeap) (hl : IntsAt h s l) (hm : l.length ≤ 9223372036854775807) : Con Tryz.prog 97 [s, .int .i64 axis] w h
    (fun _ v => v = .tuple #[.int .i64 (splitSpec l axis).1, .int .i64 (splitSpec l axis).2.1, .int .i64 (splitSpec l axis).2.2.1, .bool (splitSpec l axis).2.2.2]) := by
  have hl' := hl
  obtain ⟨ad, cp, rfl, hS⟩ := hl
  have bad : ¬ splitOk l axis → splitSpec l axis = (0, 0, 0, false) := fun hn => by unfold splitSpec; rw [if_neg hn]
  refine Con.of_body Tryz.func97 rfl Tryz.ntmps97 rfl rfl ?_
  intro hs
  refine Zrun ?_
  (refine RW.call T hs rfl rfl rfl (good_con _ l _ _ hl' hm) ?_; intro v h1 w1 hle1 hp1 hs)
  subst hp1
  have hS := hS.mono hle1
  refine Zrun ?_
  refine RW.gd rfl rfl (fun hg => ?_) (fun hg => ?_)
  · have hb := bad (fun e => hg ((goodS_iff l).1 e.1))
    refine Zrun ?_
    exact retQ_ret [_, _, _, _] h1 ⟨rfl, rfl, rfl, rfl, trivial⟩ hs (by rw [hb]; rfl)
  have hg := Decidable.of_not_not hg
  refine Zrun ?_
  refine RW.gd rfl rfl (fun h2 => ?_) (fun h2 => ?_)
  · have hb := bad (fun e => by have := e.2.1; omega)
    refine Zrun ?_
    exact retQ_ret [_, _, _, _] h1 ⟨rfl, rfl, rfl, rfl, trivial⟩ hs (by rw [hb]; rfl)
  refine Zrun ?_
  refine CW.condD rfl (fun h3 => ?_) (fun h3 => ?_)
  · have hb := bad (fun e => by have := e.2.2.1; omega)
    refine Zrun ?_
    exact retQ_ret [_, _, _, _] h1 ⟨rfl, rfl, rfl, rfl, trivial⟩ hs (by rw [hb]; rfl)
  obtain ⟨q, rfl⟩ := Int.eq_ofNat_of_zero_le (show 0 ≤ axis by omega)
  have hq : q < l.length := by omega
  have hcaps := hS.caps
  refine Zrun ?_
  refine RW.val (Y.sliceHi T rfl rfl rfl rfl ?_) rfl ?_
  · omega
  have hlt : (l.take q).length = q := by simp; omega
  have hT1 : IntsAt h1 (.slice ad q cp) (l.take q) := by
    have := hS.take q (by omega)
    rw [Nat.mul_one, ← List.map_take] at this
    exact IntsAt.of_sl this
  (refine RW.call T hs rfl rfl rfl (product_con _ (l.take q) 1048576 _ _ hT1 (by omega)) ?_; intro v h2 w2 hle2 hp2 hs)
  subst hp2
  have hS := hS.mono hle2
  refine Zrun ?_
  refine RW.val (Y.sliceLo T rfl rfl rfl rfl ?_ ?_) rfl ?_
  · omega
  · omega
  have hT2 : IntsAt h2 (.slice (subAd ad (q + 1) cp 1) (l.length - (q + 1)) (cp - (q + 1))) (l.drop (q + 1)) := by
    have := hS.from (q + 1) (by omega)
    rw [Nat.mul_one, ← List.map_drop] at this
    exact IntsAt.of_sl this
  (refine RW.call T hs rfl rfl rfl (product_con _ (l.drop (q + 1)) 1048576 _ _ hT2 (by simp; omega)) ?_; intro v h4 w4 hle4 hp4 hs)
  subst hp4
  have hS := hS.mono hle4
  refine Zrun ?_
  have hsp : splitSpec l (q : Int) = if (product (l.take q) 1048576).2 = 0 ∧ (product (l.drop (q + 1)) 1048576).2 = 0 then ((product (l.take q) 1048576).1, l.getD q 0, (product (l.drop (q + 1)) 1048576).1, true) else (0, 0, 0, false) := by
    unfold splitSpec splitOk
    simp only [Int.toNat_natCast]
    have e1 : goodS l = true := (goodS_iff l).2 hg
    have e2 : (0 : Int) ≤ (q : Int) := by omega
    have e3 : (q : Int) < (l.length : Int) := by omega
    simp only [e1, e2, e3, true_and]
  refine RW.gd rfl rfl (fun h5 => ?_) (fun h5 => ?_)
  · refine Zrun ?_
    exact retQ_ret [_, _, _, _] h4 ⟨rfl, rfl, rfl, rfl, trivial⟩ hs (by rw [hsp, if_neg (fun e => h5 e.1)]; rfl)
  have h5 := Decidable.of_not_not h5
  refine Zrun ?_
  refine CW.condD rfl (fun h6 => ?_) (fun h6 => ?_)
  · refine Zrun ?_
    exact retQ_ret [_, _, _, _] h4 ⟨rfl, rfl, rfl, rfl, trivial⟩ hs (by rw [hsp, if_neg (fun e => h6 e.2)]; rfl)
  have h6 := Decidable.of_not_not h6
  refine Zrun ?_
  refine CW.regionQ T hs (Zqrun ?_) (by kernel_rfl)
  intro w hs
  refine Zrun ?_
  exact retQ_ret [_, _, _, _] h4 ⟨rfl, rfl, rfl, rfl, trivial⟩ hs (by rw [hsp, if_pos ⟨h5, h6⟩]; rfl)

end Go.Proofs.YtmfealaaacmohaaGreat

/-
  Contracts of functions of package shape and of its reference, sixth part. No statement is proved here.
-/
namespace Go.Proofs.YtmfealaaacmohaaGreat
open Go Go.RowKit
set_option linter.unusedVariables false
set_option linter.unusedSimpArgs false
set_option maxHeartbeats 4000000
attribute [local irreducible] CW RW QW SW HW ConM retM heldQ calmQ elemP thenQ blockQ loopQ joinQ retQ Yields Con Sl

/-- an element of a row of the caller's own is taken out, in place -/
theorem deleteInt_conM (ad : Option Addr) (cp i : Nat) (l : List Int) (w0 w : World) (h0 h : GHeap) (O : List Row) (hi : i < l.length) (hm : l.length ≤ 17592186044416) :
    ConM Tryz.prog 152 [.slice ad l.length cp, .int .i64 i, .int .i64 ((i : Int) + 1)] w0 h0 h (⟨ad, l.length, cp, 3, 1, l.map (Value.int .i64)⟩ :: O) w (fun h' O' v => h' = h ∧ v = .slice ad (l.length - 1) cp ∧ O' = ⟨ad, l.length - 1, cp, 3, 1, (l.eraseIdx i).map (Value.int .i64)⟩ :: O) := by
  refine ConM.of_body Tryz.func152 rfl Tryz.ntmps152 rfl rfl ?_
  intro hs
  obtain ⟨b, rfl⟩ := hs.rowAt (k := 0) rfl (by omega)
  have hcap := (hs.rowCap (k := 0) rfl)
  simp only [maxLen] at hcap
  refine Zrun ?_
  refine RW.val (Y.slice3 T rfl rfl rfl rfl rfl rfl ?_) rfl ?_
  · omega
  refine Zrun ?_
  refine CW.regionT T 6 hs ?_ (by kernel_rfl)
  intro w hs
  simp only [List.take_succ_cons, List.take_zero, List.drop_succ_cons, List.drop_zero]
  repeat
    first | with_reducible refine SW.nil ?_ | refine SW.val (Y.move rfl) rfl ?_ | refine SW.val (Y.assign rfl) rfl ?_ | (refine SW.val (Y.add rfl rfl ?_) rfl ?_; omega) | (refine SW.val (Y.sub rfl rfl ?_) rfl ?_; omega) | refine SW.val (Y.len T rfl rfl) rfl ?_ | (refine SW.val (Y.idxSN T rfl rfl (by assumption) rfl rfl rfl ?_) rfl ?_; omega) | (refine SW.val (Y.idxS T rfl rfl (by assumption) rfl rfl rfl ?_) rfl ?_; omega) | (refine SW.val (Y.ldInt T hs rfl (by assumption) rfl rfl ?_) rfl ?_; omega)
  refine SW.val (Y.sliceHi T rfl rfl rfl rfl ?_) rfl ?_
  · omega
  repeat
    first | with_reducible refine SW.nil ?_ | refine SW.val (Y.move rfl) rfl ?_ | refine SW.val (Y.assign rfl) rfl ?_ | (refine SW.val (Y.add rfl rfl ?_) rfl ?_; omega) | (refine SW.val (Y.sub rfl rfl ?_) rfl ?_; omega) | refine SW.val (Y.len T rfl rfl) rfl ?_ | (refine SW.val (Y.idxSN T rfl rfl (by assumption) rfl rfl rfl ?_) rfl ?_; omega) | (refine SW.val (Y.idxS T rfl rfl (by assumption) rfl rfl rfl ?_) rfl ?_; omega) | (refine SW.val (Y.ldInt T hs rfl (by assumption) rfl rfl ?_) rfl ?_; omega)
  refine SW.val (Y.sliceLo T rfl rfl rfl rfl ?_ ?_) rfl ?_
  · omega
  · omega
  repeat
    first | with_reducible refine SW.nil ?_ | refine SW.val (Y.move rfl) rfl ?_ | refine SW.val (Y.assign rfl) rfl ?_ | (refine SW.val (Y.add rfl rfl ?_) rfl ?_; omega) | (refine SW.val (Y.sub rfl rfl ?_) rfl ?_; omega) | refine SW.val (Y.len T rfl rfl) rfl ?_ | (refine SW.val (Y.idxSN T rfl rfl (by assumption) rfl rfl rfl ?_) rfl ?_; omega) | (refine SW.val (Y.idxS T rfl rfl (by assumption) rfl rfl rfl ?_) rfl ?_; omega) | (refine SW.val (Y.ldInt T hs rfl (by assumption) rfl rfl ?_) rfl ?_; omega)
  have e1 : ((i : Int) + 1).toNat = i + 1 := by omega
  refine RW.appendSelf T hs 0 (p := i) (q := i + 1) (m := l.length) rfl rfl rfl rfl rfl rfl ?_ ?_ ?_ ?_ rfl ?_
  · simp only [e1]
  · omega
  · omega
  · exact one_ints _ _
  intro w2 hs
  refine Zrun ?_
  refine RW.val (Y.sliceLH T rfl rfl rfl rfl rfl ?_) rfl ?_
  · omega
  refine RW.clear T hs 0 (q := l.length - 1) rfl rfl rfl rfl rfl ?_ rfl rfl ?_ ?_ ?_ ?_ ?_
  · intro u hu; simp [Value.cells] at hu; subst hu; rfl
  · have : ((↑(i + (l.length - (i + 1))) : Int)).toNat = l.length - 1 := by omega
    rw [this]
  · omega
  · omega
  · omega
  intro w3 hs
  refine Zrun ?_
  refine retM_ret [_] h _ ⟨rfl, trivial⟩ (GLe.refl _) hs ⟨rfl, ?_, ?_⟩
  · simp only [packv]
    congr 1; omega
  · have e2 : i + (l.length - (i + 1)) = l.length - 1 := by omega
    simp only [List.set_cons_zero, e2, Nat.mul_one, ← List.map_take, ← List.map_drop, ← List.map_append, eraseIdx_eq]

theorem without_con (s : Value) (l : List Int) (axis : Int) (w : World) (h : GHeap) (hl : IntsAt h s l) (hm : l.length ≤ 17592186044416) : Con Tryz.prog 99 [s, .int .i64 axis] w h
    (fun h' v => ∃ u, v = .tuple #[u, .bool (withoutSpec l axis).2] ∧ IntsAt h' u (withoutSpec l axis).1) := by
  obtain ⟨ad, cp, rfl, hS⟩ := hl
  have bad : ¬ (0 ≤ axis ∧ axis < l.length) → withoutSpec l axis = ([], false) := fun hn => by unfold withoutSpec; rw [if_neg hn]
  refine Con.of_body Tryz.func99 rfl Tryz.ntmps99 rfl rfl ?_
  intro hs
  refine Zrun ?_
  refine RW.gd rfl rfl (fun h2 => ?_) (fun h2 => ?_)
  · have hb := bad (fun e => by have := e.1; omega)
    refine Zrun ?_
    exact retQ_ret [_, _] h ⟨rfl, rfl, trivial⟩ hs (by rw [hb]; exact ⟨_, rfl, IntsAt.nil _⟩)
  refine Zrun ?_
  refine CW.condD rfl (fun h3 => ?_) (fun h3 => ?_)
  · have hb := bad (fun e => by have := e.2; omega)
    refine Zrun ?_
    exact retQ_ret [_, _] h ⟨rfl, rfl, trivial⟩ hs (by rw [hb]; exact ⟨_, rfl, IntsAt.nil _⟩)
  obtain ⟨q, rfl⟩ := Int.eq_ofNat_of_zero_le (show 0 ≤ axis by omega)
  have hq : q < l.length := by omega
  have hw : withoutSpec l (q : Int) = (l.eraseIdx q, true) := by
    unfold withoutSpec
    rw [if_pos ⟨by omega, by omega⟩]
    simp
  refine Zrun ?_
  (refine RW.callM T hs rfl rfl rfl (cloneInt_conM ad cp l _ _ _ _ _ hS hm) ?_; intro v h1 O1 w1 hle1 hp1 hs)
  obtain ⟨rfl, ad', cp', rfl, rfl⟩ := hp1
  refine Zrun ?_
  (refine RW.callM T hs rfl rfl rfl (deleteInt_conM ad' cp' q l _ _ _ _ _ hq hm) ?_; intro v h2 O2 w2 hle2 hp2 hs)
  obtain ⟨rfl, rfl, rfl⟩ := hp2
  obtain ⟨h3, hle3, hs, hS3⟩ := hs.freeze
  refine Zrun ?_
  exact retQ_ret [_, _] h3 ⟨rfl, rfl, trivial⟩ hs (by rw [hw]; exact ⟨_, rfl, IntsAt.of_sl hS3⟩)

end Go.Proofs.YtmfealaaacmohaaGreat

/-
  Contracts of functions of package turn: arrays along an axis, turned backwards. No statement is proved here.
-/
namespace Go.Proofs.YtmfealaaacmohaaGreat
open Go Go.RowKit
set_option linter.unusedVariables false
set_option linter.unusedSimpArgs false
set_option maxHeartbeats 4000000
attribute [local irreducible] CW RW QW SW HW ConM retM heldQ calmQ elemP thenQ blockQ loopQ joinQ retQ Yields Con Sl zF magR unitF truncF fwF wholeF tidySpec elemQ rankF leastN tidyW
set_option maxHeartbeats 4000000

section
variable {α : Type} {R : GHeap → List Value → α → Prop}
def axK (s : List Int) (first : Bool) : Nat := if first then 0 else s.length - 1
theorem turnAxis_con (cs : List Value) (a : ArrD α) (first : Bool) (w : World) (h : GHeap) (ha : ArrR R h cs a) : Con Tryz.prog 60 [.agg cs.toArray, .bool first] w h (fun _ u => u = .tuple #[.int .i64 (if a.shape.length = 0 then 0 else axK a.shape first : Nat), .bool (decide (a.shape.length ≠ 0))]) := by
  obtain ⟨s, vc, rfl, hI, hv⟩ := ha
  have hI' := hI
  have hv' := hv
  obtain ⟨ad, cp, rfl, hS⟩ := hI
  obtain ⟨wv, nv, sm, il, fl, ch, bx, ⟨rfl, hoc⟩, _⟩ := hv
  have hcap := hS.caps
  refine Con.of_body Tryz.func60 rfl Tryz.ntmps60 rfl rfl ?_
  intro hs
  refine Zrun ?_
  (refine RW.boxN hs rfl rfl ?_; intro b1 w1 hs)
  refine Zerun ?_
  by_cases c : a.shape.length = 0
  · rw [if_pos c, decide_eq_false (by simpa using c)]
    refine Zerun ?_
    exact retQ_ret [_, _] h ⟨rfl, rfl, trivial⟩ hs.dropAll rfl
  rw [if_neg c, decide_eq_true c]
  cases first with
  | true =>
    refine Zerun ?_
    exact retQ_ret [_, _] h ⟨rfl, rfl, trivial⟩ hs.dropAll rfl
  | false =>
    refine Zerun ?_
    refine retQ_ret [_, _] h ⟨rfl, rfl, trivial⟩ hs.dropAll ?_
    show Value.tuple #[.int .i64 ((a.shape.length : Int) - 1), .bool true] = .tuple #[.int .i64 ((a.shape.length - 1 : Nat) : Int), .bool true]
    rw [show (a.shape.length : Int) - 1 = ((a.shape.length - 1 : Nat) : Int) by omega]
theorem turnAlong_con (hR : Mono R) (h1 : One R) (h9 : Siz 9 R) (nb : α) (hbl : ∀ w h, Con Tryz.prog 159 [] w h (fun h' u => ∃ cs', u = .agg cs'.toArray ∧ R h' cs' nb)) (cs : List Value) (a : ArrD α) (v1 : Value) (k o d i : Nat) (at_ : List Int) (w : World) (h : GHeap) (ha : ArrR R h cs a) (hat : IntsAt h v1 at_) (hp : product a.shape 1048576 = ((a.vec.len : Int), 0)) (hl : 0 < a.vec.len) (hsp : splitSpec a.shape (k : Int) = ((o : Int), (d : Int), (i : Int), true)) (hod : o * d * i = a.vec.len) (hod0 : 0 < o ∧ 0 < d ∧ 0 < i) (hal : at_.length = d) (hvm : a.vec.len ≤ 1048576) (hk0 : a.vec.kind ≠ 0) :
    Con Tryz.prog 62 [.agg cs.toArray, .int .i64 k, v1] w h (fun h' u => ∃ cs', u = .agg cs'.toArray ∧ ArrR R h' cs' ⟨a.shape, a.vec.pick (alongL o d i at_) nb⟩) := by
  obtain ⟨s, vc, rfl, hI, hv⟩ := ha
  have hI' := hI
  have hv' := hv
  obtain ⟨ad, cp, rfl, hS⟩ := hI
  obtain ⟨wv, nv, sm, il, fl, ch, bx, ⟨rfl, hoc⟩, _⟩ := hv
  have hcap := hS.caps
  have hrank := (product_le hp).1
  have ha' := hat
  obtain ⟨adt, cpt, rfl, _⟩ := hat
  have hoB : o ≤ 1048576 := by
    have h3 : o * 1 ≤ o * (d * i) := Nat.mul_le_mul_left o (Nat.mul_pos hod0.2.1 hod0.2.2)
    rw [← Nat.mul_assoc] at h3
    omega
  have hdB : d ≤ 1048576 := by
    have h3 : d ≤ o * d := Nat.le_mul_of_pos_left d hod0.1
    have h4 : o * d ≤ o * d * i := Nat.le_mul_of_pos_right _ hod0.2.2
    omega
  have hm1 : o * (at_.length * i) ≤ 1048576 := by rw [hal, ← Nat.mul_assoc]; omega
  have hB : o * d * i ≤ 1099511627776 := by omega
  have hBn : o * d ≤ 1099511627776 := by
    have h4 : o * d ≤ o * d * i := Nat.le_mul_of_pos_right _ hod0.2.2
    omega
  refine Con.of_body Tryz.func62 rfl Tryz.ntmps62 rfl rfl ?_
  intro hs
  refine Zrun ?_
  (refine RW.boxN hs rfl rfl ?_; intro b1 w1 hs)
  (refine RW.allocN T hs rfl rfl rfl rfl ?_; intro b2 w2 hs)
  refine Zerun ?_
  (refine RW.call T hs rfl rfl rfl (split_con _ _ _ _ _ hI' (by omega)) ?_; intro v h3 w3 hle3 hp3 hs)
  subst hp3
  rw [hsp]
  have hv' := hv'.mono hR hle3
  have hI' := hI'.mono hle3
  have ha' := ha'.mono hle3
  refine Zerun ?_
  (refine RW.call T hs rfl rfl rfl (vecLen_con _ a.vec _ _ hv') ?_; intro v h4 w4 hle4 hp4 hs)
  subst hp4
  have hv' := hv'.mono hR hle4
  have hI' := hI'.mono hle4
  have ha' := ha'.mono hle4
  refine Zerun ?_
  refine CW.regionR T 1 1 hs rfl rfl ?_
  intro w5 hs
  refine HW.takeR (fuel := 11) 0 rfl (fun _ _ ka kb _ hs hka hkb => Y.fieldAddr T rfl rfl rfl rfl rfl) ⟨_, _, 1, 1, hs, rfl, rfl⟩ rfl (by kernel_rfl) (by kernel_rfl) (by kernel_rfl) ?_
  refine HW.takeR (fuel := 10) 1 rfl (fun _ _ ka kb _ hs hka hkb => Y.loadRow1 T hs ka hka rfl rfl rfl rfl) ⟨_, _, 1, 1, hs, rfl, rfl⟩ rfl (by kernel_rfl) (by kernel_rfl) (by kernel_rfl) ?_
  refine HW.takeR (fuel := 9) 3 rfl (fun _ _ ka kb _ hs hka hkb => Y.fieldAddr T rfl rfl rfl rfl rfl) ⟨_, _, 1, 1, hs, rfl, rfl⟩ rfl (by kernel_rfl) (by kernel_rfl) (by kernel_rfl) ?_
  refine HW.takeR (fuel := 8) 4 rfl (fun _ _ ka kb _ hs hka hkb => Y.loadRowN T hs ka hka rfl rfl rfl rfl rfl rfl) ⟨_, _, 1, 1, hs, rfl, rfl⟩ rfl (by kernel_rfl) (by kernel_rfl) (by kernel_rfl) ?_
  refine HW.takeR (fuel := 7) 5 rfl (fun _ _ ka kb _ hs hka hkb => Y.move rfl) ⟨_, _, 1, 1, hs, rfl, rfl⟩ rfl (by kernel_rfl) (by kernel_rfl) (by kernel_rfl) ?_
  refine HW.takeR (fuel := 6) 6 rfl (fun _ _ ka kb _ hs hka hkb => Y.move rfl) ⟨_, _, 1, 1, hs, rfl, rfl⟩ rfl (by kernel_rfl) (by kernel_rfl) (by kernel_rfl) ?_
  refine HW.takeR (fuel := 5) 7 rfl (fun _ _ ka kb _ hs hka hkb => Y.move rfl) ⟨_, _, 1, 1, hs, rfl, rfl⟩ rfl (by kernel_rfl) (by kernel_rfl) (by kernel_rfl) ?_
  refine HW.takeR (fuel := 4) 8 rfl (fun _ _ ka kb _ hs hka hkb => Y.move rfl) ⟨_, _, 1, 1, hs, rfl, rfl⟩ rfl (by kernel_rfl) (by kernel_rfl) (by kernel_rfl) ?_
  refine HW.one (fuel := 3) 2 rfl (by kernel_rfl) ?_
  (refine RW.call T hs rfl rfl rfl (cloneInts_con _ a.shape _ _ hI' (by omega)) ?_; intro v h31 w31 hle31 hp31 hs)
  obtain ⟨ad31, cp31, rfl, _⟩ := id hp31
  have hv' := hv'.mono hR hle31
  have ha' := ha'.mono hle31
  have hI' := hI'.mono hle31
  refine RW.nil ?_
  refine heldQ_normal ⟨_, _, 1, 1, hs, rfl, rfl⟩ ?_
  refine HW.one (fuel := 2) 9 rfl (by kernel_rfl) ?_
  (refine RW.call T hs rfl rfl rfl (pickAlong_con hR h1 h9 nb hbl _ a.vec _ o d i at_ _ _ hv' ha' (by omega) hoB hm1 hB hBn hvm hk0) ?_; intro v h38 w38 hle38 hp38 hs)
  obtain ⟨cs38, rfl, hv38⟩ := hp38
  obtain ⟨wv6, nv6, sm6, il6, fl6, ch6, bx6, ⟨rfl, hoc6⟩, _⟩ := id hv38
  have ha' := ha'.mono hle38
  have hI' := hI'.mono hle38
  have hp31 := hp31.mono hle38
  refine RW.nil ?_
  refine heldQ_normal ⟨_, _, 1, 1, hs, rfl, rfl⟩ ?_
  refine HW.takeR (fuel := 1) 10 rfl (fun _ _ ka kb _ hs hka hkb => Y.build T rfl rfl rfl rfl rfl rfl rfl) ⟨_, _, 1, 1, hs, rfl, rfl⟩ rfl (by kernel_rfl) (by kernel_rfl) (by kernel_rfl) ?_
  refine HW.one (fuel := 0) 11 rfl (by kernel_rfl) ?_
  refine RW.storeAll T hs 0 rfl rfl rfl rfl rfl rfl (show (Value.oneCell' (.slice ad31 a.shape.length cp31) && (vecCells (a.vec.pick (alongL o d i at_) nb).kind wv6 nv6 sm6 il6 fl6 ch6 bx6).all Value.oneCell') = true by rw [hoc6]; rfl) rfl ?_
  intro w39 hs
  refine RW.nil ?_
  refine heldQ_normal ⟨_, _, 1, 1, hs, rfl, rfl⟩ ?_
  refine HW.done (by kernel_rfl) ?_
  refine calmQ_normal ?_
  refine Zerun ?_
  exact retQ_ret [_] h38 ⟨resN T hs 0 rfl rfl rfl rfl rfl rfl, trivial⟩ hs.dropAll ⟨_, rfl, _, _, rfl, hp31, hv38⟩
/-- what comes of a turn along an axis: nothing turns where there is no axis or no element -/
def TurnPost (R : GHeap → List Value → α → Prop) (a : ArrD α) (k : Nat) (f : Nat → List Int) (nb : α) (h' : GHeap) (cs' : List Value) : Prop :=
  ((a.shape.length = 0 ∨ a.vec.len = 0) → ArrR R h' cs' a) ∧ (a.shape.length ≠ 0 → 0 < a.vec.len → ∀ o d i : Nat, splitSpec a.shape (k : Int) = ((o : Int), (d : Int), (i : Int), true) → ArrR R h' cs' ⟨a.shape, a.vec.pick (alongL o d i (f d)) nb⟩)
theorem split_axis {a : ArrD α} {k : Nat} (hp : product a.shape 1048576 = ((a.vec.len : Int), 0)) (hl : 0 < a.vec.len) (hk : k < a.shape.length) : ∃ o d i : Nat, splitSpec a.shape (k : Int) = ((o : Int), (d : Int), (i : Int), true) ∧ a.shape.getD k 0 = (d : Int) ∧ o * d * i = a.vec.len ∧ 0 < o ∧ 0 < d ∧ 0 < i := split_of hp hl hk
theorem split_inj {l : List Int} {k : Nat} {o d i o' d' i' : Nat} (h : splitSpec l (k : Int) = ((o : Int), (d : Int), (i : Int), true)) (h' : splitSpec l (k : Int) = ((o' : Int), (d' : Int), (i' : Int), true)) : o = o' ∧ d = d' ∧ i = i' := by
  rw [h] at h'
  simp only [Prod.mk.injEq] at h'
  omega
theorem turnReverse_con (hR : Mono R) (h1 : One R) (h9 : Siz 9 R) (nb : α) (hbl : ∀ w h, Con Tryz.prog 159 [] w h (fun h' u => ∃ cs', u = .agg cs'.toArray ∧ R h' cs' nb)) (cs : List Value) (a : ArrD α) (first : Bool) (w : World) (h : GHeap) (ha : ArrR R h cs a) (hp : product a.shape 1048576 = ((a.vec.len : Int), 0)) (hvm : a.vec.len ≤ 1048576) (hk0 : a.vec.kind ≠ 0) :
    Con Tryz.prog 15 [.agg cs.toArray, .bool first] w h (fun h' u => ∃ cs', u = .agg cs'.toArray ∧ TurnPost R a (axK a.shape first) turnL nb h' cs') := by
  have haR := ha
  obtain ⟨s, vc, rfl, hI, hv⟩ := ha
  have hI' := hI
  have hv' := hv
  obtain ⟨ad, cp, rfl, hS⟩ := hI
  obtain ⟨wv, nv, sm, il, fl, ch, bx, ⟨rfl, hoc⟩, _⟩ := hv
  have hcap := hS.caps
  have hall : (Value.oneCell' (.slice ad a.shape.length cp) && (vecCells a.vec.kind wv nv sm il fl ch bx).all Value.oneCell') = true := by rw [hoc]; rfl
  refine Con.of_body Tryz.func15 rfl Tryz.ntmps15 rfl rfl ?_
  intro hs
  refine Zrun ?_
  (refine RW.boxN hs rfl rfl ?_; intro b1 w1 hs)
  (refine RW.allocN T hs rfl rfl rfl rfl ?_; intro b2 w2 hs)
  refine Zerun ?_
  (refine RW.call T hs rfl rfl rfl (turnAxis_con _ a first _ _ haR) ?_; intro v h3 w3 hle3 hp3 hs)
  subst hp3
  have haR := (show ArrR R h3 _ a from ⟨_, _, rfl, hI'.mono hle3, hv'.mono hR hle3⟩)
  have hv' := hv'.mono hR hle3
  have hI' := hI'.mono hle3
  have hS := hS.mono hle3
  by_cases c : a.shape.length = 0
  · rw [if_pos c, decide_eq_false (by simpa using c)]
    refine Zerun ?_
    refine RW.storeAll T hs 0 rfl rfl rfl rfl rfl rfl hall rfl ?_
    intro w4 hs
    refine Zerun ?_
    exact retQ_ret [_] h3 ⟨resN T hs 0 rfl rfl rfl rfl rfl rfl, trivial⟩ hs.dropAll ⟨_, rfl, fun _ => haR, fun e => absurd c e⟩
  rw [if_neg c, decide_eq_true c]
  have hkl : axK a.shape first < a.shape.length := by unfold axK; split <;> omega
  obtain ⟨kx, hkx⟩ : ∃ kx, axK a.shape first = kx := ⟨_, rfl⟩
  rw [hkx] at hkl ⊢
  refine Zerun ?_
  (refine RW.call T hs rfl rfl rfl (vecLen_con _ a.vec _ _ hv') ?_; intro v h4 w4 hle4 hp4 hs)
  subst hp4
  have haR := (show ArrR R h4 _ a from ⟨_, _, rfl, hI'.mono hle4, hv'.mono hR hle4⟩)
  by_cases c2 : a.vec.len = 0
  · refine Zerun ?_
    refine RW.storeAll T hs 0 rfl rfl rfl rfl rfl rfl hall rfl ?_
    intro w5 hs
    refine Zerun ?_
    exact retQ_ret [_] h4 ⟨resN T hs 0 rfl rfl rfl rfl rfl rfl, trivial⟩ hs.dropAll ⟨_, rfl, fun _ => haR, fun _ e => by omega⟩
  obtain ⟨o, d, i, hsp, hd, hod, hod0⟩ := split_axis hp (by omega) hkl
  have hdB : d ≤ 1048576 := by
    have h3 : d ≤ o * d := Nat.le_mul_of_pos_left d hod0.1
    have h4 : o * d ≤ o * d * i := Nat.le_mul_of_pos_right _ hod0.2.2
    omega
  rw [hd]
  refine Zerun ?_
  (refine RW.make1 T hs rfl rfl rfl rfl rfl rfl rfl (by dsimp only; omega) (by omega) ?_; intro b5 w5 hs)
  refine Zerun ?_
  refine CW.loop (fun j : Nat => [(2, .pointer (some ⟨b1, 0, none⟩)), (4, .pointer (some ⟨b2, 0, none⟩)), (5, .int .i64 kx), (7, .int .i64 d), (8, .slice (some ⟨b5, 0, none⟩) d d), (32, .int .i64 d), (33, .int .i64 j)]) (fun j w' => j ≤ d ∧ Sees w h h4 [⟨some ⟨b5, 0, none⟩, d, d, 3, 1, ((List.range j).map fun y => ((d - 1 - y : Nat) : Int)).map (Value.int .i64) ++ List.replicate (d - j) (.int .i64 0)⟩, ⟨some ⟨b2, 0, none⟩, 1, 1, 39, 9, .slice none 0 0 :: vecCells 0 (.slice none 0 0) 0 (.slice none 0 0) (.slice none 0 0) (.slice none 0 0) (.slice none 0 0) (.slice none 0 0)⟩, ⟨some ⟨b1, 0, none⟩, 1, 1, 39, 9, .slice ad a.shape.length cp :: vecCells a.vec.kind wv nv sm il fl ch bx⟩] w') (fun j => d - j) 0 ⟨rfl, rfl, rfl, rfl, rfl, rfl, rfl, trivial⟩ ⟨by omega, hs⟩ ?_
  rintro j w6 ⟨hj, hs⟩
  by_cases hlt : j < d
  · have hvb : (d : Int) - 1 - j = ((d - 1 - j : Nat) : Int) := by omega
    refine Zerun ?_
    refine RW.val (Y.idxRN T hs 0 rfl rfl rfl rfl rfl rfl hlt) rfl ?_
    rw [hvb]
    refine RW.st1 T hs 0 rfl rfl rfl rfl rfl rfl rfl hlt ?_
    intro w7 hs
    replace hs := hs.re (fill_snoc (fun y => ((d - 1 - y : Nat) : Int)) j d hlt _)
    refine Zerun ?_
    exact loopQ_round (j + 1) ⟨rfl, rfl, rfl, rfl, rfl, rfl, rfl, trivial⟩ ⟨by omega, hs⟩ (by omega)
  obtain rfl : j = d := by omega
  rw [Nat.sub_self, List.replicate_zero, List.append_nil] at hs
  obtain ⟨h6, hle6, hs, hS6⟩ := hs.freeze
  have hI6 : IntsAt h6 (.slice (some ⟨b5, 0, none⟩) j j) (turnL j) := IntsAt.of_sl hS6
  have haR := (show ArrR R h6 _ a from ⟨_, _, rfl, hI'.mono (hle4.trans hle6), hv'.mono hR (hle4.trans hle6)⟩)
  refine Zerun ?_
  (refine RW.call T hs rfl rfl rfl (turnAlong_con hR h1 h9 nb hbl _ a _ kx o j i (turnL j) _ _ haR hI6 hp (by omega) hsp hod hod0 (turnL_length j) hvm hk0) ?_; intro v h8 w8 hle8 hp8 hs)
  obtain ⟨cs8, rfl, ha8⟩ := hp8
  have ha8' := ha8
  obtain ⟨s8, vc8, rfl, ⟨ad8, cp8, rfl, _⟩, hv8⟩ := ha8
  obtain ⟨wv6, nv6, sm6, il6, fl6, ch6, bx6, ⟨rfl, hoc6⟩, _⟩ := hv8
  refine RW.storeAll T hs 0 rfl rfl rfl rfl rfl rfl (show (Value.oneCell' (.slice ad8 a.shape.length cp8) && (vecCells (a.vec.pick (alongL o j i (turnL j)) nb).kind wv6 nv6 sm6 il6 fl6 ch6 bx6).all Value.oneCell') = true by rw [hoc6]; rfl) rfl ?_
  intro w9 hs
  refine Zerun ?_
  refine retQ_ret [_] h8 ⟨resN T hs 0 rfl rfl rfl rfl rfl rfl, trivial⟩ hs.dropAll ⟨_, rfl, fun e => absurd e (by omega), fun _ _ o' d' i' hsp' => ?_⟩
  obtain ⟨rfl, rfl, rfl⟩ := split_inj hsp hsp'
  exact ha8'
end
end Go.Proofs.YtmfealaaacmohaaGreat

/-
  The program logic, nineteenth part: frozen rows of whole structs, products of words, functions that the model stands in for. No statement is proved here.
-/
namespace Go.Proofs.YtmfealaaacmohaaGreat
open Go Go.RowKit
set_option linter.unusedVariables false
set_option linter.unusedSimpArgs false
set_option linter.unusedVariables false
section
variable {P : Program} (T : Tab P) {n : Nat} {Q : Post} {L : Env} {w0 w : World} {h0 h : GHeap} {O : List Row} {ops rest : List Oper} {x y : Operand} {t : TypeId}
variable {d : Option Tmp} {ty yt : TypeId} {pos : String} {aft : Array Edge}
/-- a cell of a frozen row -/
theorem Sl.cellAt (hs : Sees w0 h0 h O w) {b sz m cp o : Nat} {xs : List Value} {v : Value} (hS : Sl h sz (some ⟨b, 0, none⟩) m cp xs) (ho : o < m * sz) (hv : xs[o]? = some v) : w.cell? ⟨b, o, none⟩ = some v := by
  obtain ⟨cs, h1, h2⟩ := (hS.2.2.2.2 _ rfl).2 o ho
  refine hs.cell h1 ?_
  rw [Nat.zero_add] at h2
  rw [h2, hv]
end
/-! ## Regions that draw their order and change memory: two of the call's own rows fixed, and what lies frozen -/
section
variable {P : Program} {n : Nat} {Q : Post} {L : Env} {w0 w : World} {h0 h hb : GHeap} {O : List Row} {ops rest : List Oper} {ra rb : Row}
variable {d : Option Tmp} {ty : TypeId} {pos : String} {aft : Array Edge} {fuel : Nat} {listed : Array Bool}
def SG (w0 : World) (h0 hb : GHeap) (ra rb : Row) (w : World) : Prop := ∃ (h' : GHeap) (O : List Row) (k j : Nat), GLe hb h' ∧ Sees w0 h0 h' O w ∧ O[k]? = some ra ∧ O[j]? = some rb
theorem CW.regionG (T' : Tab P) (k j : Nat) (hs : Sees w0 h0 h O w) (ha : O[k]? = some ra) (hb' : O[j]? = some rb) {id : Nat} {l : List Oper} (K : ∀ w', Sees w0 h0 h O w' → HW P n l (calmQ Q) (SG w0 h0 h ra rb) l.length (Array.replicate l.length false) L w') : CW P n Q (.region id l.toArray true) L w :=
  CW.regionH T' (SG w0 h0 h ra rb) (fun w' e => by subst e; exact K _ hs.drew)
theorem HW.takeG (i : Nat) {op : Op} {v : Value} (hi : ops.toArray[i]? = some ⟨d, op, ty, pos, aft, none⟩) (hy : ∀ (h' : GHeap) (O : List Row) (ka kb : Nat) (w' : World), GLe hb h' → Sees w0 h0 h' O w' → O[ka]? = some ra → O[kb]? = some rb → Yields P n L w' op ty v) (hS : SG w0 h0 hb ra rb w) (hd : dstOk n d = true)
    (hs : Region.noSelect ops.toArray = true) (hf : Region.free .any ops.toArray listed i = true) (hr : (Region.ready .any ops.toArray listed).contains i = true)
    (hh : HW P n ops (calmQ Q) (SG w0 h0 hb ra rb) fuel (listed.setIfInBounds i true) (updo d v L) w) : HW P n ops (calmQ Q) (SG w0 h0 hb ra rb) (fuel + 1) listed L w :=
  HW.take i hi (fun w' ⟨h', O, k, j, g, s, a, b⟩ => hy h' O k j w' g s a b) hS hd hs hf hr hh
end
end Go.Proofs.YtmfealaaacmohaaGreat

/-
  Contracts of functions of package turn: arrays turned on along an axis, by one number. No statement is proved here.
-/
namespace Go.Proofs.YtmfealaaacmohaaGreat
open Go Go.RowKit
set_option linter.unusedVariables false
set_option linter.unusedSimpArgs false
set_option maxHeartbeats 4000000
attribute [local irreducible] CW RW QW SW HW ConM retM heldQ calmQ elemP thenQ blockQ loopQ joinQ retQ Yields Con Sl zF magR unitF truncF fwF wholeF tidySpec elemQ rankF leastN tidyW
set_option maxHeartbeats 4000000

theorem ArrR.mono' {α : Type} {R : GHeap → List Value → α → Prop} (hR : Mono R) {h h' : GHeap} {cs : List Value} {a : ArrD α} (hl : GLe h h') (ha : ArrR R h cs a) : ArrR R h' cs a := let ⟨s, vc, e, i, v⟩ := ha; ⟨s, vc, e, i.mono hl, v.mono hR hl⟩
theorem rolledL_len (n : Nat) (by_ : Int) : (rolledL n by_).length = n := by simp [rolledL]
section
variable {α : Type} {R : GHeap → List Value → α → Prop}
theorem turnRotate_con (hR : Mono R) (h1 : One R) (h9 : Siz 9 R) (nb : α) (hbl : ∀ w h, Con Tryz.prog 159 [] w h (fun h' u => ∃ cs', u = .agg cs'.toArray ∧ R h' cs' nb)) (cb cs : List Value) (vb : VecD α) (x : Nat) (by_ : Int) (a : ArrD α) (first : Bool) (w : World) (h : GHeap) (hb : ArrR R h cb ⟨[], vb⟩) (hnums : vb.nums = [x]) (hvl : vb.len = 1) (hkb : vb.kind = 1 ∨ vb.kind = 2 ∨ vb.kind = 3) (hw : (wholeF x).1 = by_) (ha : ArrR R h cs a) (hp : product a.shape 1048576 = ((a.vec.len : Int), 0)) (hvm : a.vec.len ≤ 1048576) (hk0 : a.vec.kind ≠ 0) :
    Con Tryz.prog 57 [.agg cb.toArray, .agg cs.toArray, .bool first] w h (fun h' u => ∃ cs', u = .tuple #[.agg cs'.toArray, .int .i64 0] ∧ TurnPost R a (axK a.shape first) (fun d => rolledL d by_) nb h' cs') := by
  have haR := ha
  have hbR := hb
  have hrank := (product_le hp).1
  obtain ⟨sb, vcb, rfl, ⟨adb, cpb, rfl, _⟩, hvb⟩ := hb
  have hvb' := hvb
  obtain ⟨wv2, nv2, sm2, il2, fl2, ch2, bx2, ⟨rfl, hoc2⟩, _⟩ := hvb
  obtain ⟨s, vc, rfl, hI, hv⟩ := ha
  have hI' := hI
  have hv' := hv
  obtain ⟨ad, cp, rfl, hS⟩ := hI
  obtain ⟨wv, nv, sm, il, fl, ch, bx, ⟨rfl, hoc⟩, _⟩ := hv
  have hcap := hS.caps
  have hall : (Value.oneCell' (.slice ad a.shape.length cp) && (vecCells a.vec.kind wv nv sm il fl ch bx).all Value.oneCell') = true := by rw [hoc]; rfl
  refine Con.of_body Tryz.func57 rfl Tryz.ntmps57 rfl rfl ?_
  intro hs
  refine Zrun ?_
  (refine RW.boxN hs rfl rfl ?_; intro b1 w1 hs)
  refine Zrun ?_
  (refine RW.boxN hs rfl rfl ?_; intro b2 w2 hs)
  (refine RW.allocN T hs rfl rfl rfl rfl ?_; intro b3 w3 hs)
  refine Zerun ?_
  (refine RW.call T hs rfl rfl rfl (turnAxis_con _ a first _ _ haR) ?_; intro v h4 w4 hle4 hp4 hs)
  subst hp4
  have haR := ArrR.mono' hR hle4 haR
  have hbR := ArrR.mono' hR hle4 hbR
  have hvb' := hvb'.mono hR hle4
  have hv' := hv'.mono hR hle4
  have hI' := hI'.mono hle4
  by_cases c : a.shape.length = 0
  · rw [if_pos c, decide_eq_false (by simpa using c)]
    refine Zerun ?_
    (refine RW.lit T hs (vs := []) rfl rfl rfl rfl (by simp [Value.cells]) rfl rfl rfl rfl rfl ?_; intro b5 w5 hs)
    obtain ⟨h6, hle6, hs, hS6⟩ := hs.freeze
    have haR := ArrR.mono' hR hle6 haR
    have hbR := ArrR.mono' hR hle6 hbR
    have hvb' := hvb'.mono hR hle6
    refine Zerun ?_
    (refine RW.call T hs rfl rfl rfl (valueSingle_con _ _ _ _ hbR) ?_; intro v h10 w10 hle10 hp10 hs)
    subst hp10
    rw [decide_eq_true hvl]
    have hbR := ArrR.mono' hR hle10 hbR
    refine Zerun ?_
    (refine RW.call T hs rfl rfl rfl (valueRank_con _ _ _ _ hbR) ?_; intro v h11 w11 hle11 hp11 hs)
    subst hp11
    rw [show ((([] : List Int).length : Nat) : Int) = 0 from rfl]
    have hvb' := hvb'.mono hR (hle10.trans hle11)
    refine Zerun ?_
    (refine RW.call T hs rfl rfl rfl (vecWholes_con hR _ vb _ _ hvb' (by omega)) ?_; intro v h12 w12 hle12 hp12 hs)
    obtain ⟨sl, rfl, hK⟩ := hp12
    rw [if_pos hkb, hnums] at hK
    rw [decide_eq_true hkb]
    have hK : KAt .i64 h12 sl [by_] := by rw [← hw]; exact hK
    obtain ⟨adl, cpl, rfl, hSl⟩ := hK
    have haR := ArrR.mono' hR ((hle10.trans hle11).trans hle12) haR
    refine Zerun ?_
    refine RW.storeAll T hs 0 rfl rfl rfl rfl rfl rfl hall rfl ?_
    intro w20 hs
    refine Zerun ?_
    exact retQ_ret [_, _] h12 ⟨resN T hs 0 rfl rfl rfl rfl rfl rfl, rfl, trivial⟩ hs.dropAll ⟨_, rfl, fun _ => haR, fun e => absurd c e⟩
  rw [if_neg c, decide_eq_true c]
  have hkl : axK a.shape first < a.shape.length := by unfold axK; split <;> omega
  obtain ⟨kx, hkx⟩ : ∃ kx, axK a.shape first = kx := ⟨_, rfl⟩
  rw [hkx] at hkl ⊢
  refine Zerun ?_
  (refine RW.lit T hs (vs := []) rfl rfl rfl rfl (by simp [Value.cells]) rfl rfl rfl rfl rfl ?_; intro b5 w5 hs)
  obtain ⟨h6, hle6, hs, hS6⟩ := hs.freeze
  have haR := ArrR.mono' hR hle6 haR
  have hbR := ArrR.mono' hR hle6 hbR
  have hvb' := hvb'.mono hR hle6
  have hI' := hI'.mono hle6
  refine Zerun ?_
  (refine RW.call T hs rfl rfl rfl (without_con _ _ _ _ _ hI' (by omega)) ?_; intro v h7 w7 hle7 hp7 hs)
  obtain ⟨ur, rfl, ⟨adr, cpr, hur, _⟩⟩ := hp7
  subst hur
  have haR := ArrR.mono' hR hle7 haR
  have hbR := ArrR.mono' hR hle7 hbR
  have hvb' := hvb'.mono hR hle7
  refine Zerun ?_
  (refine RW.call T hs rfl rfl rfl (valueSingle_con _ _ _ _ hbR) ?_; intro v h10 w10 hle10 hp10 hs)
  subst hp10
  rw [decide_eq_true hvl]
  have hbR := ArrR.mono' hR hle10 hbR
  refine Zerun ?_
  (refine RW.call T hs rfl rfl rfl (valueRank_con _ _ _ _ hbR) ?_; intro v h11 w11 hle11 hp11 hs)
  subst hp11
  rw [show ((([] : List Int).length : Nat) : Int) = 0 from rfl]
  have hvb' := hvb'.mono hR (hle10.trans hle11)
  refine Zerun ?_
  (refine RW.call T hs rfl rfl rfl (vecWholes_con hR _ vb _ _ hvb' (by omega)) ?_; intro v h12 w12 hle12 hp12 hs)
  obtain ⟨sl, rfl, hK⟩ := hp12
  rw [if_pos hkb, hnums] at hK
  rw [decide_eq_true hkb]
  have hK : KAt .i64 h12 sl [by_] := by rw [← hw]; exact hK
  obtain ⟨adl, cpl, rfl, hSl⟩ := hK
  have haR := ArrR.mono' hR ((hle10.trans hle11).trans hle12) haR
  refine Zerun ?_
  have hv' := (show VecAt R h12 _ a.vec from by obtain ⟨_, _, e, _, v⟩ := haR; cases e; exact v)
  (refine RW.call T hs rfl rfl rfl (vecLen_con _ a.vec _ _ hv') ?_; intro v h13 w13 hle13 hp13 hs)
  subst hp13
  have haR := ArrR.mono' hR hle13 haR
  have hSl := hSl.mono hle13
  by_cases c2 : a.vec.len = 0
  · refine Zerun ?_
    refine RW.storeAll T hs 0 rfl rfl rfl rfl rfl rfl hall rfl ?_
    intro w20 hs
    refine Zerun ?_
    exact retQ_ret [_, _] h13 ⟨resN T hs 0 rfl rfl rfl rfl rfl rfl, rfl, trivial⟩ hs.dropAll ⟨_, rfl, fun _ => haR, fun _ e => by omega⟩
  obtain ⟨o, d, i, hsp, hd, hod, hod0⟩ := split_axis hp (by omega) hkl
  have hdB : d ≤ 1048576 := by
    have h3 : d ≤ o * d := Nat.le_mul_of_pos_left d hod0.1
    have h4 : o * d ≤ o * d * i := Nat.le_mul_of_pos_right _ hod0.2.2
    omega
  have hI13 : IntsAt h13 (.slice ad a.shape.length cp) a.shape := by obtain ⟨_, _, e, i, _⟩ := haR; cases e; exact i
  refine Zerun ?_
  (refine RW.call T hs rfl rfl rfl (split_con _ _ _ _ _ hI13 (by omega)) ?_; intro v h14 w14 hle14 hp14 hs)
  subst hp14
  rw [hsp]
  have haR := ArrR.mono' hR hle14 haR
  have hSl := hSl.mono hle14
  refine Zerun ?_
  refine CW.regionG T 1 1 hs rfl rfl ?_
  intro w15 hs
  have hgl := GLe.refl h14
  refine HW.takeG (fuel := 9) 0 rfl (fun _ _ ka kb _ hg hs hka hkb => Y.loadRowN T hs ka hka rfl rfl rfl rfl rfl rfl) ⟨_, _, 1, 1, hgl, hs, rfl, rfl⟩ rfl (by kernel_rfl) (by kernel_rfl) (by kernel_rfl) ?_
  refine HW.takeG (fuel := 8) 1 rfl (fun _ _ ka kb _ hg hs hka hkb => Y.move rfl) ⟨_, _, 1, 1, hgl, hs, rfl, rfl⟩ rfl (by kernel_rfl) (by kernel_rfl) (by kernel_rfl) ?_
  refine HW.takeG (fuel := 7) 2 rfl (fun _ _ ka kb _ hg hs hka hkb => Y.move rfl) ⟨_, _, 1, 1, hgl, hs, rfl, rfl⟩ rfl (by kernel_rfl) (by kernel_rfl) (by kernel_rfl) ?_
  refine HW.takeG (fuel := 6) 3 rfl (fun _ _ ka kb _ hg hs hka hkb => Y.move rfl) ⟨_, _, 1, 1, hgl, hs, rfl, rfl⟩ rfl (by kernel_rfl) (by kernel_rfl) (by kernel_rfl) ?_
  refine HW.takeG (fuel := 5) 4 rfl (fun _ _ ka kb _ hg hs hka hkb => Y.idxSN (u := 0) T rfl rfl (hSl.mono hg) rfl rfl rfl (show 0 < 1 from Nat.one_pos)) ⟨_, _, 1, 1, hgl, hs, rfl, rfl⟩ rfl (by kernel_rfl) (by kernel_rfl) (by kernel_rfl) ?_
  refine HW.takeG (fuel := 4) 5 rfl (fun _ _ ka kb _ hg hs hka hkb => Y.ldInt (l := [by_]) T hs rfl (hSl.mono hg) rfl rfl (show 0 < 1 from Nat.one_pos)) ⟨_, _, 1, 1, hgl, hs, rfl, rfl⟩ rfl (by kernel_rfl) (by kernel_rfl) (by kernel_rfl) ?_
  refine HW.one (fuel := 3) 6 rfl (by kernel_rfl) ?_
  (refine RW.call T hs rfl rfl rfl (pickRolled_con d by_ _ _ hdB) ?_; intro v h114 w114 hle114 hp114 hs)
  obtain ⟨ad114, cp114, rfl, _⟩ := id hp114
  have haR := ArrR.mono' hR hle114 haR
  have hgl := hgl.trans hle114
  refine RW.nil ?_
  refine heldQ_normal ⟨_, _, 1, 1, hgl, hs, rfl, rfl⟩ ?_
  refine HW.one (fuel := 2) 7 rfl (by kernel_rfl) ?_
  (refine RW.call T hs rfl rfl rfl (turnAlong_con hR h1 h9 nb hbl _ a _ kx o d i (rolledL d by_) _ _ haR hp114 hp (by omega) hsp hod hod0 (rolledL_len d by_) hvm hk0) ?_; intro v h115 w115 hle115 hp115 hs)
  obtain ⟨cs115, rfl, ha115⟩ := hp115
  have ha115' := ha115
  obtain ⟨s8, vc8, rfl, ⟨ad8, cp8, rfl, _⟩, hv8⟩ := ha115
  obtain ⟨wv6, nv6, sm6, il6, fl6, ch6, bx6, ⟨rfl, hoc6⟩, _⟩ := hv8
  have hgl := hgl.trans hle115
  refine RW.nil ?_
  refine heldQ_normal ⟨_, _, 1, 1, hgl, hs, rfl, rfl⟩ ?_
  refine HW.one (fuel := 1) 8 rfl (by kernel_rfl) ?_
  refine RW.storeAll T hs 0 rfl rfl rfl rfl rfl rfl (show (Value.oneCell' (.slice ad8 a.shape.length cp8) && (vecCells (a.vec.pick (alongL o d i (rolledL d by_)) nb).kind wv6 nv6 sm6 il6 fl6 ch6 bx6).all Value.oneCell') = true by rw [hoc6]; rfl) rfl ?_
  intro w116 hs
  refine RW.nil ?_
  refine heldQ_normal ⟨_, _, 1, 1, hgl, hs, rfl, rfl⟩ ?_
  refine HW.takeG (fuel := 0) 9 rfl (fun _ _ ka kb _ hg hs hka hkb => Y.assign rfl) ⟨_, _, 1, 1, hgl, hs, rfl, rfl⟩ rfl (by kernel_rfl) (by kernel_rfl) (by kernel_rfl) ?_
  refine HW.done (by kernel_rfl) ?_
  refine calmQ_normal ?_
  refine Zerun ?_
  refine retQ_ret [_, _] h115 ⟨resN T hs 0 rfl rfl rfl rfl rfl rfl, rfl, trivial⟩ hs.dropAll ⟨_, rfl, fun e => absurd e (by omega), fun _ _ o' d' i' hsp' => ?_⟩
  obtain ⟨rfl, rfl, rfl⟩ := split_inj hsp hsp'
  exact ha115'
end
end Go.Proofs.YtmfealaaacmohaaGreat

/-
  Contracts of functions of package value: arrays made of elements, a number, a character, a box alone. No statement is proved here.
-/
namespace Go.Proofs.YtmfealaaacmohaaGreat
open Go Go.RowKit
set_option linter.unusedVariables false
set_option linter.unusedSimpArgs false
set_option maxHeartbeats 4000000
attribute [local irreducible] CW RW QW SW HW ConM retM heldQ calmQ elemP thenQ blockQ loopQ joinQ retQ Yields Con Sl zF magR unitF truncF fwF wholeF tidySpec elemQ rankF leastN tidyW

section
variable {α : Type} {R : GHeap → List Value → α → Prop}
end
end Go.Proofs.YtmfealaaacmohaaGreat

/-
  Contracts of the law's own functions of layer 7: which shapes elements can have. No statement is proved here.
-/
namespace Go.Proofs.YtmfealaaacmohaaGreat
open Go Go.RowKit
set_option linter.unusedVariables false
set_option linter.unusedSimpArgs false
set_option maxHeartbeats 4000000
attribute [local irreducible] CW RW QW SW HW ConM retM heldQ calmQ elemP thenQ blockQ loopQ joinQ retQ Yields Con Sl zF magR unitF truncF fwF wholeF tidySpec elemQ rankF leastN tidyW

/-- the plain array of numbers -/
def numsP {α : Type} (l : List Nat) : PlainD α := ⟨[(l.length : Int)], l.map fun x => ⟨0, x, 0, []⟩, 0⟩
theorem refNums_con {α : Type} {R : GHeap → List Value → α → Prop} (hR : Mono R) (s : Value) (l : List Nat) (w : World) (h : GHeap) (hl : FAt h s l) (hx : ∀ u ∈ l, u < 18446744073709551616) (hm : l.length ≤ 1048576) : Con Tryz.prog 56 [s] w h (fun h' u => ∃ cs', u = .agg cs'.toArray ∧ PlainR R h' cs' (numsP l)) := by
  obtain ⟨ad, cp, rfl, hS⟩ := hl
  refine Con.of_body Tryz.func56 rfl Tryz.ntmps56 rfl rfl ?_
  intro hs
  refine Zrun ?_
  (refine RW.allocN T hs rfl rfl rfl rfl ?_; intro b1 w1 hs)
  refine Zerun ?_
  (refine RW.lit T hs (vs := [.int .i64 l.length]) (cs := [.int .i64 l.length]) rfl rfl rfl rfl (by simp [Value.cells]) rfl rfl rfl rfl rfl ?_; intro b2 w2 hs)
  obtain ⟨h3, hle3, hs, hS3⟩ := hs.freeze
  have hI3 : IntsAt h3 (.slice (some ⟨b2, 0, none⟩) 1 1) [(l.length : Int)] := IntsAt.of_sl hS3
  refine RW.val (Y.build T rfl rfl rfl rfl rfl rfl rfl) rfl ?_
  (refine RW.allocN T hs rfl rfl rfl rfl ?_; intro b3 w3 hs)
  (refine RW.storeAll T hs 0 rfl rfl rfl rfl rfl rfl rfl rfl ?_; intro w4 hs)
  refine Zerun ?_
  have hs := hs.nilRow 73 4
  refine CW.loop (fun u : Nat × Option Addr × Nat × List Value => [(0, .slice ad l.length cp), (2, .pointer (some ⟨b1, 0, none⟩)), (3, .pointer (some ⟨b3, 0, none⟩)), (4, .int .i64 u.1)]) (fun u w' => u.1 ≤ l.length ∧ AllN 4 (ItemAt R h3) u.2.2.2 ((l.take u.1).map fun x => ⟨0, x, 0, []⟩) ∧ Sees w h h3 [⟨u.2.1, u.1, u.2.2.1, 73, 4, u.2.2.2⟩, ⟨some ⟨b3, 0, none⟩, 1, 1, 25, 3, [.slice (some ⟨b2, 0, none⟩) 1 1, .slice u.2.1 u.1 u.2.2.1, .int .i64 0]⟩, ⟨some ⟨b1, 0, none⟩, 1, 1, 25, 3, [.slice none 0 0, .slice none 0 0, .int .i64 0]⟩] w') (fun u => l.length - u.1) (0, none, 0, []) ⟨rfl, rfl, rfl, rfl, trivial⟩ ⟨by omega, rfl, hs⟩ ?_
  rintro ⟨i, ra, rc, vs⟩ w5 ⟨hi, hAv, hs⟩
  dsimp only at hi hAv hs ⊢
  by_cases hlt : i < l.length
  · have htk := take_succ_getD l i 0 hlt
    refine Zerun ?_
    refine CW.regionH T (fun w' : World => ∃ (h' : GHeap) (O : List Row), Sees w h h' O w') ?_
    rintro w7 rfl
    have hs := hs.drew
    refine HW.take (fuel := 10) 0 rfl (v := .pointer (some ⟨b3, 0 + 1, none⟩)) ?_ ?_ rfl (by kernel_rfl) (by kernel_rfl) (by kernel_rfl) ?_
    · intro w' _; exact Y.fieldAddr T rfl rfl rfl rfl rfl
    · exact ⟨_, _, hs⟩
    refine HW.take (fuel := 9) 2 rfl (v := .slice ad l.length cp) ?_ ?_ rfl (by kernel_rfl) (by kernel_rfl) (by kernel_rfl) ?_
    · intro w' _; exact Y.move rfl
    · exact ⟨_, _, hs⟩
    refine HW.take (fuel := 8) 3 rfl (v := .int .i64 i) ?_ ?_ rfl (by kernel_rfl) (by kernel_rfl) (by kernel_rfl) ?_
    · intro w' _; exact Y.move rfl
    · exact ⟨_, _, hs⟩
    refine HW.take (fuel := 7) 4 rfl (v := elemP ad i 1) ?_ ?_ rfl (by kernel_rfl) (by kernel_rfl) (by kernel_rfl) ?_
    · rintro w' ⟨h', O, hs'⟩; exact Y.idxSN T rfl rfl (hS.mono hs'.le) rfl rfl rfl hlt
    · exact ⟨_, _, hs⟩
    refine HW.take (fuel := 6) 5 rfl (v := .float .f64 (l.getD i 0)) ?_ ?_ rfl (by kernel_rfl) (by kernel_rfl) (by kernel_rfl) ?_
    · rintro w' ⟨h', O, hs'⟩; exact Y.ldS T hs' rfl (hS.mono hs'.le) rfl rfl hlt (map_get _ _ _ _ hlt)
    · exact ⟨_, _, hs⟩
    refine HW.take (fuel := 5) 6 rfl (v := .agg [.int .i64 0, .float .f64 (l.getD i 0), .int .i32 0, .slice none 0 0].toArray) ?_ ?_ rfl (by kernel_rfl) (by kernel_rfl) (by kernel_rfl) ?_
    · intro w' _; exact Y.build T rfl rfl rfl rfl rfl rfl rfl
    · exact ⟨_, _, hs⟩
    refine HW.two (fuel := 4) 1 7 rfl rfl (by kernel_rfl) ?_ ?_
    · refine RW.val (Y.loadRow1 T hs 1 rfl rfl rfl rfl rfl) rfl ?_
      refine RW.nil ?_
      refine heldQ_normal ⟨_, _, hs⟩ ?_
      refine HW.one (fuel := 3) 7 rfl (by kernel_rfl) ?_
      (refine RW.lit T hs (vs := [.agg [.int .i64 0, .float .f64 (l.getD i 0), .int .i32 0, .slice none 0 0].toArray]) (cs := [.int .i64 0, .float .f64 (l.getD i 0), .int .i32 0, .slice none 0 0]) rfl rfl rfl rfl (by simp [Value.cells]) rfl rfl rfl rfl rfl ?_; intro b8 w8 hs)
      refine RW.nil ?_
      refine heldQ_normal ⟨_, _, hs⟩ ?_
      refine HW.one (fuel := 2) 8 rfl (by kernel_rfl) ?_
      (refine RW.append T hs 1 rfl rfl (m := 1) (news := [.int .i64 0, .float .f64 (l.getD i 0), .int .i32 0, .slice none 0 0]) rfl rfl rfl rfl rfl rfl (hs.src0 rfl (by simp [Value.oneCell'])) (by simp) (by dsimp only; omega) (by omega) ?_; intro ad9 cp9 w9 hs; replace hs := hs.drop)
      refine RW.nil ?_
      refine heldQ_normal ⟨_, _, hs⟩ ?_
      refine HW.take (fuel := 1) 9 rfl (v := .pointer (some ⟨b3, 0 + 1, none⟩)) ?_ ?_ rfl (by kernel_rfl) (by kernel_rfl) (by kernel_rfl) ?_
      · intro w' _; exact Y.fieldAddr T rfl rfl rfl rfl rfl
      · exact ⟨_, _, hs⟩
      refine HW.one (fuel := 0) 10 rfl (by kernel_rfl) ?_
      (refine RW.store1 T hs 1 rfl rfl rfl rfl rfl rfl rfl rfl ?_; intro w10 hs)
      refine RW.nil ?_
      refine heldQ_normal ⟨_, _, hs⟩ ?_
      refine HW.done (by kernel_rfl) ?_
      refine calmQ_normal ?_
      refine Zerun ?_
      refine loopQ_round (i + 1, ad9, cp9, _) ⟨rfl, rfl, rfl, rfl, trivial⟩ ⟨by dsimp only; omega, ?_, hs⟩ (by dsimp only; omega)
      dsimp only
      rw [htk, List.map_append]
      exact hAv.append (AllN.one rfl (ItemAt.mk' (x := ⟨0, l.getD i 0, 0, []⟩) (RowsAt.nil _) (hx _ (mem_getD _ _ _ hlt))))
    · (refine RW.lit T hs (vs := [.agg [.int .i64 0, .float .f64 (l.getD i 0), .int .i32 0, .slice none 0 0].toArray]) (cs := [.int .i64 0, .float .f64 (l.getD i 0), .int .i32 0, .slice none 0 0]) rfl rfl rfl rfl (by simp [Value.cells]) rfl rfl rfl rfl rfl ?_; intro b8 w8 hs)
      refine RW.nil ?_
      refine heldQ_normal ⟨_, _, hs⟩ ?_
      refine HW.one (fuel := 3) 1 rfl (by kernel_rfl) ?_
      refine RW.val (Y.loadRow1 T hs 2 rfl rfl rfl rfl rfl) rfl ?_
      refine RW.nil ?_
      refine heldQ_normal ⟨_, _, hs⟩ ?_
      refine HW.one (fuel := 2) 8 rfl (by kernel_rfl) ?_
      (refine RW.append T hs 1 rfl rfl (m := 1) (news := [.int .i64 0, .float .f64 (l.getD i 0), .int .i32 0, .slice none 0 0]) rfl rfl rfl rfl rfl rfl (hs.src0 rfl (by simp [Value.oneCell'])) (by simp) (by dsimp only; omega) (by omega) ?_; intro ad9 cp9 w9 hs; replace hs := hs.drop)
      refine RW.nil ?_
      refine heldQ_normal ⟨_, _, hs⟩ ?_
      refine HW.take (fuel := 1) 9 rfl (v := .pointer (some ⟨b3, 0 + 1, none⟩)) ?_ ?_ rfl (by kernel_rfl) (by kernel_rfl) (by kernel_rfl) ?_
      · intro w' _; exact Y.fieldAddr T rfl rfl rfl rfl rfl
      · exact ⟨_, _, hs⟩
      refine HW.one (fuel := 0) 10 rfl (by kernel_rfl) ?_
      (refine RW.store1 T hs 1 rfl rfl rfl rfl rfl rfl rfl rfl ?_; intro w10 hs)
      refine RW.nil ?_
      refine heldQ_normal ⟨_, _, hs⟩ ?_
      refine HW.done (by kernel_rfl) ?_
      refine calmQ_normal ?_
      refine Zerun ?_
      refine loopQ_round (i + 1, ad9, cp9, _) ⟨rfl, rfl, rfl, rfl, trivial⟩ ⟨by dsimp only; omega, ?_, hs⟩ (by dsimp only; omega)
      dsimp only
      rw [htk, List.map_append]
      exact hAv.append (AllN.one rfl (ItemAt.mk' (x := ⟨0, l.getD i 0, 0, []⟩) (RowsAt.nil _) (hx _ (mem_getD _ _ _ hlt))))
  · obtain rfl : i = l.length := by omega
    rw [List.take_length] at hAv
    obtain ⟨h6, hle6, hs, hS6⟩ := hs.freeze
    refine Zerun ?_
    (refine RW.storeAll T hs 1 rfl rfl rfl rfl rfl rfl rfl rfl ?_; intro w7 hs)
    refine Zerun ?_
    refine retQ_ret [_] h6 ⟨resN T hs 1 rfl rfl rfl rfl rfl rfl, trivial⟩ hs.dropAll ⟨_, rfl, _, _, rfl, hI3.mono hle6, ra, rc, vs, by simp [numsP], ?_, hAv.mono (fun u a => ItemAt.mono hR _ _ u a hle6)⟩
    simpa [numsP] using hS6
end Go.Proofs.YtmfealaaacmohaaGreat

/-
  Plain Lean on arrays of numbers, and of one number: good ones, told plainly. No statement is proved here.
-/
namespace Go.Proofs.YtmfealaaacmohaaGreat
open Go Go.RowKit
set_option linter.unusedVariables false
set_option linter.unusedSimpArgs false
set_option maxHeartbeats 4000000
attribute [local irreducible] CW RW QW SW HW ConM retM heldQ calmQ elemP thenQ blockQ loopQ joinQ retQ Yields Con Sl zF magR unitF truncF fwF wholeF tidySpec elemQ rankF leastN tidyW

theorem product_len1 (n : Nat) (h : n ≤ 1048576) : product [(n : Int)] 1048576 = ((n : Int), 0) := by
  have hg : goodS [(n : Int)] = true := (goodS_spec _).2 ⟨by simp, by intro d hd; rw [List.mem_singleton.1 hd]; omega, by simp [pr]; omega⟩
  rw [product_good _ hg]
  by_cases c : n = 0
  · subst c; simp
  · rw [if_neg (by simp; omega)]
    simp [pr]; omega
theorem product_0 : product [] 1048576 = (1, 0) := by decide
def numsA (k : Nat) (N : List Nat) : AD (k + 1) := (⟨[(N.length : Int)], ⟨leastN N, N, [], []⟩⟩ : ArrD (AD k))
theorem numsP_chk (k : Nat) (l : List Nat) (hf : ∀ x ∈ l, finF x) (hm : l.length ≤ 1048576) : chk (k + 1) 40 (numsP l : PlainD (PD k)) = 0 := by
  refine (chkP_ok (α := PD k) _ _ _).2 ⟨by omega, Int.le_refl _, (by show (0 : Int) ≤ 2; omega), ?_, fun x hx => ?_⟩
  · show product [(l.length : Int)] 1048576 = (((l.map fun x => (⟨0, x, 0, []⟩ : ItemD (PD k))).length : Int), 0)
    rw [product_len1 _ hm, List.length_map]
  · obtain ⟨y, hy, rfl⟩ := List.mem_map.1 hx
    exact ⟨rfl, fun e => absurd (show (0 : Int) = 2 from e) (by decide), fun _ => hf y hy⟩
theorem numsP_arr (k : Nat) (l : List Nat) : arr (k + 1) (numsP l : PlainD (PD k)) = numsA k (l.map tidyW) := by
  show (⟨[(l.length : Int)], arrV (arr k) 0 (l.map fun x => (⟨0, x, 0, []⟩ : ItemD (PD k)))⟩ : ArrD (AD k)) = _
  unfold arrV numsA
  rw [if_neg (by omega), if_neg (by omega), List.map_map, List.length_map]
  rfl
/-- small whole numbers, as words -/
theorem fw_rank (l : List Int) (h : ∀ n ∈ l, -9007199254740992 ≤ n ∧ n ≤ 9007199254740992) : leastN (l.map fwF) ≤ 3 := by
  unfold leastN
  refine fold_le _ _ _ (by omega) (fun x hx => ?_)
  obtain ⟨n, hn, rfl⟩ := List.mem_map.1 hx
  rw [rank_int, wholeF_fw n (h n hn)]
def numA (k : Nat) (x : Nat) : AD (k + 1) := (⟨[], ⟨leastN [x], [x], [], []⟩⟩ : ArrD (AD k))
def numQ (k : Nat) (x : Nat) : PD (k + 1) := (⟨[], [⟨0, x, 0, []⟩], 0⟩ : PlainD (PD k))
theorem numV_cls {α : Type} (N : List Nat) : (⟨leastN N, N, [], []⟩ : VecD α).cls = 0 := by
  have hb := leastN_bounds N
  unfold VecD.cls; dsimp only; rw [if_neg (by omega), if_neg (by omega)]
theorem refOne_con {α : Type} {R : GHeap → List Value → α → Prop} (x : Nat) (w : World) (h : GHeap) (hx : x < 18446744073709551616) : Con Tryz.prog 24 [.float .f64 x] w h (fun h' u => ∃ cs', u = .agg cs'.toArray ∧ PlainR R h' cs' (⟨[], [⟨0, x, 0, []⟩], 0⟩ : PlainD α)) := by
  refine Con.of_body Tryz.func24 rfl Tryz.ntmps24 rfl rfl ?_
  intro hs
  refine Zrun ?_
  (refine RW.allocN T hs rfl rfl rfl rfl ?_; intro b1 w1 hs)
  refine Zerun ?_
  refine RW.val (Y.build T rfl rfl rfl rfl rfl rfl rfl) rfl ?_
  (refine RW.lit T hs (vs := [.agg [.int .i64 0, .float .f64 x, .int .i32 0, .slice none 0 0].toArray]) (cs := [.int .i64 0, .float .f64 x, .int .i32 0, .slice none 0 0]) rfl rfl rfl rfl (by simp [Value.cells]) rfl rfl rfl rfl rfl ?_; intro b2 w2 hs)
  obtain ⟨h3, hle3, hs, hS3⟩ := hs.freeze
  refine RW.val (Y.build T rfl rfl rfl rfl rfl rfl rfl) rfl ?_
  (refine RW.storeAll T hs 0 rfl rfl rfl rfl rfl rfl rfl rfl ?_; intro w4 hs)
  refine Zerun ?_
  exact retQ_ret [_] h3 ⟨resN T hs 0 rfl rfl rfl rfl rfl rfl, trivial⟩ hs.dropAll ⟨_, rfl, _, _, rfl, RowAt.nil _, RowsAt.single hS3 (ItemAt.mk' (x := ⟨0, x, 0, []⟩) (RowsAt.nil _) hx)⟩
theorem numQ_chk (k x : Nat) (h : finF x) : chk (k + 1) 40 (numQ k x) = 0 := by
  refine (chkP_ok (α := PD k) _ _ _).2 ⟨by omega, Int.le_refl _, (by show (0 : Int) ≤ 2; omega), product_0, fun y hy => ?_⟩
  rw [List.mem_singleton.1 hy]
  exact ⟨rfl, fun e => absurd (show (0 : Int) = 2 from e) (by decide), fun _ => h⟩
theorem numQ_arr (k x : Nat) : arr (k + 1) (numQ k x) = numA k (tidyW x) := by
  show (⟨[], arrV (arr k) 0 [(⟨0, x, 0, []⟩ : ItemD (PD k))]⟩ : ArrD (AD k)) = _
  unfold arrV numA
  rw [if_neg (by omega), if_neg (by omega)]
  rfl
theorem numsA_good (k : Nat) (N : List Nat) (d : Int) (hd : d ≠ 0) (hm : N.length ≤ 1048576) : good (k + 1) d (numsA k N) := by
  have hb := leastN_bounds N
  refine ⟨?_, (by show leastN N ≠ 0; omega), ?_, hd, fun b hb => nomatch hb⟩
  · show product [(N.length : Int)] 1048576 = (((N.length + 0 + 0 : Nat) : Int), 0)
    rw [product_len1 _ hm]; rfl
  · show leastN N = VecD.least (⟨leastN N, N, [], []⟩ : VecD (AD k))
    unfold VecD.least
    rw [if_pos ⟨numV_cls _, by dsimp only; omega⟩]
theorem numsA_plain (k : Nat) (N : List Nat) : plain (k + 1) (numsA k N) = (numsP N : PlainD (PD k)) := by
  show (⟨[(N.length : Int)], itemsV (plain k) (⟨leastN N, N, [], []⟩ : VecD (AD k)), VecD.cls (⟨leastN N, N, [], []⟩ : VecD (AD k))⟩ : PlainD (PD k)) = _
  rw [itemsV_c0 (plain k) (numV_cls _), numV_cls]
  rfl
theorem numsP_tdy (k : Nat) (N : List Nat) (h : ∀ x ∈ N, tidyF x) : tdy (k + 1) (numsP N : PlainD (PD k)) := by
  intro y hy
  obtain ⟨x, hx, rfl⟩ := List.mem_map.1 hy
  exact ⟨h x hx, fun b hb => nomatch hb⟩
end Go.Proofs.YtmfealaaacmohaaGreat

/-
  Contracts of functions of package bitvec: bits behind the last one away, and truths cut. No statement is proved here.
-/
namespace Go.Proofs.YtmfealaaacmohaaGreat
open Go Go.RowKit
set_option linter.unusedVariables false
set_option linter.unusedSimpArgs false
set_option maxHeartbeats 4000000
attribute [local irreducible] CW RW QW SW HW ConM retM heldQ calmQ elemP thenQ blockQ loopQ joinQ retQ Yields Con Sl zF magR unitF truncF fwF wholeF tidySpec elemQ rankF leastN tidyW
set_option maxHeartbeats 4000000

section
variable {P : Program} {n : Nat} {L : Env} {w : World} {ty : TypeId} {x y : Operand} {t yt : TypeId}
end
section
variable {P : Program} {L : Env} {w0 w : World} {h0 h : GHeap}
end
/-! ## Plain facts -/
def BitsUp (m : Nat) (ws : List Int) (g : Nat → Bool) : Prop := ws.length = m ∧ (∀ u ∈ ws, 0 ≤ u ∧ u < 18446744073709551616) ∧ ∀ i, i < m * 64 → (ws.getD (i / 64) 0).toNat.testBit (i % 64) = g i
def cutW (ws : List Int) (f i : Nat) : Nat := ((ws.getD ((f + i * 64) / 64) 0).toNat >>> ((f + i * 64) % 64)) ||| (if 0 < (f + i * 64) % 64 ∧ (f + i * 64) / 64 + 1 < ws.length then (ws.getD ((f + i * 64) / 64 + 1) 0).toNat <<< (64 - (f + i * 64) % 64) % 18446744073709551616 else 0)
theorem word_lt {ws : List Int} (h : ∀ u ∈ ws, 0 ≤ u ∧ u < 18446744073709551616) (i : Nat) : (ws.getD i 0).toNat < 18446744073709551616 := by
  by_cases c : i < ws.length
  · have := h _ (mem_getD ws i 0 c); omega
  · simp [List.getD_eq_getElem?_getD, c]
theorem shl_lt (u v : Nat) : u <<< v % 18446744073709551616 < 18446744073709551616 := Nat.mod_lt _ (by decide)
theorem cutW_lt {ws : List Int} (h : ∀ u ∈ ws, 0 ≤ u ∧ u < 18446744073709551616) (f i : Nat) : cutW ws f i < 18446744073709551616 := by
  unfold cutW
  refine Nat.or_lt_two_pow (n := 64) (Nat.lt_of_le_of_lt (Nat.shiftRight_le _ _) (word_lt h _)) ?_
  split
  · exact shl_lt _ _
  · decide
theorem cutW_bit {ws : List Int} {bs : List Bool} (hb : BitsOf ws bs) (f i j : Nat) (hj : j < 64) : (cutW ws f i).testBit j = bs.getD (f + i * 64 + j) false := by
  obtain ⟨hl, hr, hb⟩ := hb
  have h1 := hb (f + i * 64 + j)
  rw [← h1]
  unfold cutW
  rw [Nat.testBit_or, Nat.testBit_shiftRight]
  generalize hk : (f + i * 64) / 64 = k
  generalize hrr : (f + i * 64) % 64 = r
  have hat : f + i * 64 = k * 64 + r := by omega
  have hr64 : r < 64 := by omega
  by_cases c : r + j < 64
  · have e1 : (f + i * 64 + j) / 64 = k := by omega
    have e2 : (f + i * 64 + j) % 64 = r + j := by omega
    rw [e1, e2]
    have : (if 0 < r ∧ k + 1 < ws.length then (ws.getD (k + 1) 0).toNat <<< (64 - r) % 18446744073709551616 else 0).testBit j = false := by
      split
      · rw [show (18446744073709551616 : Nat) = 2 ^ 64 from rfl, Nat.testBit_mod_two_pow, Nat.testBit_shiftLeft]
        simp [show ¬ (j ≥ 64 - r) by omega]
      · simp
    rw [this, Bool.or_false]
  · have e1 : (f + i * 64 + j) / 64 = k + 1 := by omega
    have e2 : (f + i * 64 + j) % 64 = r + j - 64 := by omega
    rw [e1, e2]
    have h2 : (ws.getD k 0).toNat.testBit (r + j) = false := by
      apply Nat.testBit_lt_two_pow
      exact Nat.lt_of_lt_of_le (word_lt hr k) (Nat.pow_le_pow_right (n := 2) (by omega) (show 64 ≤ r + j by omega))
    rw [h2, Bool.false_or]
    by_cases c2 : k + 1 < ws.length
    · rw [if_pos ⟨by omega, c2⟩, show (18446744073709551616 : Nat) = 2 ^ 64 from rfl, Nat.testBit_mod_two_pow, Nat.testBit_shiftLeft]
      simp [hj, show j ≥ 64 - r by omega, show j - (64 - r) = r + j - 64 by omega]
    · rw [if_neg (by omega)]
      simp [List.getD_eq_getElem?_getD, c2]
theorem BitsUp.put {m : Nat} {ws : List Int} {bs : List Bool} {f i : Nat} {out : List Int} (hb : BitsOf ws bs) (ho : BitsUp m out (fun j => if j < i * 64 then bs.getD (f + j) false else false)) (hi : i < m) : BitsUp m (out.set i (cutW ws f i : Int)) (fun j => if j < (i + 1) * 64 then bs.getD (f + j) false else false) := by
  obtain ⟨hl, hr, hbo⟩ := ho
  refine ⟨by rw [List.length_set]; exact hl, fun u hu => ?_, fun j hj => ?_⟩
  · rcases List.mem_or_eq_of_mem_set hu with hu | hu
    · exact hr u hu
    · subst hu
      have := cutW_lt hb.2.1 f i
      omega
  · rw [getD_set _ _ _ _ _ (by omega)]
    by_cases e : j / 64 = i
    · rw [if_pos e, Int.toNat_natCast, cutW_bit hb f i _ (Nat.mod_lt _ (by omega))]
      dsimp only
      rw [if_pos (by omega)]
      congr 1
      omega
    · rw [if_neg e, hbo j hj]
      dsimp only
      by_cases c : j < i * 64
      · rw [if_pos c, if_pos (by omega)]
      · rw [if_neg c, if_neg (by omega)]
theorem BitsUp.zero (m : Nat) (g : Nat → Bool) : BitsUp m (List.replicate m 0) (fun j => if j < 0 * 64 then g j else false) := by
  refine ⟨by simp, fun u hu => ?_, fun j hj => ?_⟩
  · rw [List.eq_of_mem_replicate hu]; omega
  · dsimp only
    rw [if_neg (by omega)]
    have : (List.replicate m (0 : Int)).getD (j / 64) 0 = 0 := by
      rw [List.getD_eq_getElem?_getD, List.getElem?_replicate]
      split <;> rfl
    rw [this]; simp
end Go.Proofs.YtmfealaaacmohaaGreat

/-
  Contracts of functions of packages flat and bitvec: elements cut, truths one by one. No statement is proved here.
-/
namespace Go.Proofs.YtmfealaaacmohaaGreat
open Go Go.RowKit
set_option linter.unusedVariables false
set_option linter.unusedSimpArgs false
set_option maxHeartbeats 4000000
attribute [local irreducible] CW RW QW SW HW ConM retM heldQ calmQ elemP thenQ blockQ loopQ joinQ retQ Yields Con Sl zF magR unitF truncF fwF wholeF tidySpec elemQ rankF leastN tidyW
set_option maxHeartbeats 4000000

section
variable {α : Type} {R : GHeap → List Value → α → Prop}
end
end Go.Proofs.YtmfealaaacmohaaGreat

/-
  Contracts of functions of package flat: lists of a class behind each other. No statement is proved here.
-/
namespace Go.Proofs.YtmfealaaacmohaaGreat
open Go Go.RowKit
set_option linter.unusedVariables false
set_option linter.unusedSimpArgs false
set_option maxHeartbeats 4000000
attribute [local irreducible] CW RW QW SW HW ConM retM heldQ calmQ elemP thenQ blockQ loopQ joinQ retQ Yields Con Sl zF magR unitF truncF fwF wholeF tidySpec elemQ rankF leastN tidyW
set_option maxHeartbeats 4000000

section
variable {α : Type} {R : GHeap → List Value → α → Prop}
theorem AllN.ones {δ : Type} {sz : Nat} {S : List Value → δ → Prop} (hc : ∀ cs a, S cs a → ∀ u ∈ cs, u.oneCell' = true) : ∀ {l : List δ} {xs : List Value}, AllN sz S xs l → ∀ u ∈ xs, u.oneCell' = true
  | [], xs, hx, u, hu => by have : xs = [] := hx; rw [this] at hu; cases hu
  | a :: l, xs, hx, u, hu => by
    rw [← List.take_append_drop sz xs, List.mem_append] at hu
    rcases hu with hu | hu
    · exact hc _ a hx.2.1 u hu
    · exact AllN.ones hc hx.2.2 u hu
theorem leastN_bits (bs : List Bool) : leastN (bs.map bitF) = 1 := by
  have h1 := (leastN_bounds (bs.map bitF)).1
  have h2 : leastN (bs.map bitF) ≤ 1 := by
    rw [leastN.eq_1]
    refine fold_le _ 1 1 (by omega) ?_
    intro x hx
    obtain ⟨b, _, rfl⟩ := List.mem_map.1 hx
    cases b
    · exact (rank_bit _ tidy0).2 (.inl fw0.symm)
    · exact (rank_bit _ tidy1).2 (.inr fw1.symm)
  omega
end
end Go.Proofs.YtmfealaaacmohaaGreat

/-
  Contracts of functions of package flat: lists behind each other. No statement is proved here.
-/
namespace Go.Proofs.YtmfealaaacmohaaGreat
open Go Go.RowKit
set_option linter.unusedVariables false
set_option linter.unusedSimpArgs false
set_option maxHeartbeats 4000000
attribute [local irreducible] CW RW QW SW HW ConM retM heldQ calmQ elemP thenQ blockQ loopQ joinQ retQ Yields Con Sl zF magR unitF truncF fwF wholeF tidySpec elemQ rankF leastN tidyW
set_option maxHeartbeats 4000000

section
variable {α : Type} {R : GHeap → List Value → α → Prop}
structure JF (c kd : Int) (m : List (VecD α)) : Prop where
  rng : c = -1 ∨ c = 0 ∨ c = 1 ∨ c = 2
  kd1 : 1 ≤ kd ∧ kd ≤ 6
  all : ∀ v ∈ m, v.len ≠ 0 → v.cls = c ∧ v.kind ≤ kd
theorem cls_rng (v : VecD α) : v.cls = 0 ∨ v.cls = 1 ∨ v.cls = 2 := by unfold VecD.cls; split <;> (try split) <;> omega
theorem JF.skip {c kd : Int} {m : List (VecD α)} {v : VecD α} (hF : JF c kd m) (h0 : v.len = 0) : JF c kd (m ++ [v]) := by
  refine ⟨hF.rng, hF.kd1, fun u hu hn => ?_⟩
  rcases List.mem_append.1 hu with hu | hu
  · exact hF.all u hu hn
  · rw [List.mem_singleton.1 hu] at hn; exact absurd h0 hn
theorem JF.step {c kd : Int} {m : List (VecD α)} {v : VecD α} (hF : JF c kd m) (_h0 : ¬ v.len = 0) (hc : c = v.cls ∨ ∀ u ∈ m, u.len = 0) (hcl : v.cls = 0 ∨ v.cls = 1 ∨ v.cls = 2) (hkr : 0 ≤ v.kind ∧ v.kind ≤ 6) : JF v.cls (max kd v.kind) (m ++ [v]) := by
  refine ⟨by omega, by have := hF.kd1; omega, fun u hu hn => ?_⟩
  rcases List.mem_append.1 hu with hu | hu
  · rcases hc with e | e
    · have := hF.all u hu hn; exact ⟨by omega, by omega⟩
    · exact absurd (e u hu) hn
  · rw [List.mem_singleton.1 hu]; exact ⟨rfl, by omega⟩
end
end Go.Proofs.YtmfealaaacmohaaGreat

/-
  Contracts of the document's answer of layer 8: items again and again, turned, behind each other; a number brought between two. No statement is proved here.
-/
namespace Go.Proofs.YtmfealaaacmohaaGreat
open Go Go.RowKit
set_option linter.unusedVariables false
set_option linter.unusedSimpArgs false
set_option maxHeartbeats 4000000
attribute [local irreducible] CW RW QW SW HW ConM retM heldQ calmQ elemP thenQ blockQ loopQ joinQ retQ Yields Con Sl zF magR unitF truncF fwF wholeF tidySpec elemQ rankF leastN tidyW
set_option maxHeartbeats 4000000

section
variable {γ : Type} {RC : GHeap → List Value → γ → Prop}
end
section
variable {β : Type} {R : GHeap → List Value → β → Prop}
end
section
variable {γ : Type} {RC : GHeap → List Value → γ → Prop}
end
end Go.Proofs.YtmfealaaacmohaaGreat

/-
  Contracts of the document's answer and of the laws: how many items a good plain array has. No statement is proved here.
-/
namespace Go.Proofs.YtmfealaaacmohaaGreat
open Go Go.RowKit
set_option linter.unusedVariables false
set_option linter.unusedSimpArgs false
set_option maxHeartbeats 4000000
attribute [local irreducible] CW RW QW SW HW ConM retM heldQ calmQ elemP thenQ blockQ loopQ joinQ retQ Yields Con Sl zF magR unitF truncF fwF wholeF tidySpec elemQ rankF leastN tidyW
set_option maxHeartbeats 4000000

section
variable {α : Type} {R : GHeap → List Value → α → Prop}
theorem refCountB_step (hR : Mono R) (most : Int) (ih : ∀ cs a w h, R h cs a → Con Tryz.prog 54 [.agg cs.toArray, .int .i64 most] w h (fun _ u => ∃ r, u = .int .i64 r))
    (cs : List Value) (p : PlainD α) (w : World) (h : GHeap) (hp : PlainR R h cs p) : Con Tryz.prog 54 [.agg cs.toArray, .int .i64 most] w h (fun _ u => ∃ r, u = .int .i64 r ∧ (p.shape.length ≤ 8 → p.items.length ≤ 1048576 → r ≤ most → (p.items.length : Int) + p.shape.length + 1 ≤ most)) := by
  obtain ⟨s, it, rfl, ⟨ad, cp, rfl, hS⟩, ⟨ad2, cp2, xs, rfl, hS2, hA⟩⟩ := hp
  have hlen : p.items.length ≤ 9223372036854775807 := by have := hS2.caps; omega
  refine Con.of_body Tryz.func54 rfl Tryz.ntmps54 rfl rfl ?_
  intro hs
  refine Zrun ?_
  (refine RW.boxN hs rfl rfl ?_; intro b1 w1 hs)
  refine Zerun ?_
  refine RW.val (Y.add' rfl rfl) rfl ?_
  refine RW.val (Y.add' rfl rfl) rfl ?_
  have hr0' : p.shape.length ≤ 8 → p.items.length ≤ 1048576 → IntKind.i64.wrap (IntKind.i64.wrap ((p.items.length : Int) + p.shape.length) + 1) = (p.items.length : Int) + p.shape.length + 1 := by
    intro h1 h2
    have e1 : IntKind.i64.wrap ((p.items.length : Int) + p.shape.length) = (p.items.length : Int) + p.shape.length := wrap64 (by omega)
    rw [e1, wrap64 (by omega)]
  generalize IntKind.i64.wrap (IntKind.i64.wrap _ + 1) = r0 at hr0' ⊢
  refine Zerun ?_
  refine CW.loop (fun q : Nat × Int × GHeap => [(1, .int .i64 most), (2, .pointer (some ⟨b1, 0, none⟩)), (5, .int .i64 q.2.1), (6, .int .i64 q.1)]) (fun q w' => q.1 ≤ p.items.length ∧ GLe h q.2.2 ∧ (most < r0 → q.2.1 = r0) ∧ Sees w h q.2.2 [⟨some ⟨b1, 0, none⟩, 1, 1, 25, 3, [.slice ad p.shape.length cp, .slice ad2 p.items.length cp2, .int .i64 p.fill]⟩] w') (fun q => p.items.length - q.1) (0, r0, h) ⟨rfl, rfl, rfl, rfl, trivial⟩ ⟨by omega, GLe.refl _, fun _ => rfl, hs⟩ ?_
  rintro ⟨i, r, hh⟩ w2 ⟨hi, hg, hr, hs⟩
  dsimp only at hi hg hr hs ⊢
  have hS2 := hS2.mono hg
  by_cases hlt : i < p.items.length
  · obtain ⟨bx, hx4, hx1, ⟨ad3, cp3, ys, rfl, hS3, hA3⟩, hx2, hq0, hq1, hq2, hq3⟩ := ItemAt.cells hA i hlt
    have hS3 := hS3.mono hg
    generalize p.items.getD i noItem = x at *
    by_cases hle : r ≤ most
    · refine Zerun ?_
      refine CW.loop (fun q : Nat × Int × GHeap => [(1, .int .i64 most), (2, .pointer (some ⟨b1, 0, none⟩)), (5, .int .i64 q.2.1), (6, .int .i64 i), (7, .int .i64 q.1)]) (fun q w' => q.1 ≤ x.box.length ∧ GLe hh q.2.2 ∧ Sees w h q.2.2 [⟨some ⟨b1, 0, none⟩, 1, 1, 25, 3, [.slice ad p.shape.length cp, .slice ad2 p.items.length cp2, .int .i64 p.fill]⟩] w') (fun q => x.box.length - q.1) (0, r, hh) ⟨rfl, rfl, rfl, rfl, rfl, trivial⟩ ⟨by omega, GLe.refl _, hs⟩ ?_
      rintro ⟨j, r2, h3⟩ w3 ⟨hj, hg3, hs⟩
      dsimp only at hj hg3 hs ⊢
      have hS2 := hS2.mono hg3
      have hS3 := hS3.mono hg3
      have hbl : x.box.length ≤ 9223372036854775807 := by have := hS3.caps; omega
      by_cases hlt3 : j < x.box.length
      · by_cases hle3 : r2 ≤ most
        · obtain ⟨y, hy, hR3, hR3l⟩ : ∃ y, (ys.drop (j * 3)).take 3 = y ∧ (∃ a, R h y a) ∧ y.length = 3 := by
            obtain ⟨h1, h2⟩ := hA3.get (x.box[j]) j hlt3
            exact ⟨_, rfl, ⟨_, h1⟩, h2⟩
          obtain ⟨a, hRa⟩ := hR3
          have hRa := hR _ _ _ _ (hg.trans hg3) hRa
          refine Zerun ?_
          (refine RW.call T hs rfl rfl rfl (ih _ a _ _ hRa) ?_; intro v h4 w4 hle4 hp4 hs)
          obtain ⟨r4, rfl⟩ := hp4
          refine RW.val (Y.add' rfl rfl) rfl ?_
          generalize IntKind.i64.wrap (r2 + r4) = r5
          refine Zerun ?_
          exact loopQ_round (j + 1, r5, h4) ⟨rfl, rfl, rfl, rfl, rfl, trivial⟩ ⟨by dsimp only; omega, hg3.trans hle4, hs⟩ (by dsimp only; omega)
        · refine Zerun ?_
          exact loopQ_round (i + 1, r2, h3) ⟨rfl, rfl, rfl, rfl, trivial⟩ ⟨by dsimp only; omega, hg.trans hg3, fun e => by have := hr e; omega, hs⟩ (by dsimp only; omega)
      · refine Zerun ?_
        exact loopQ_round (i + 1, r2, h3) ⟨rfl, rfl, rfl, rfl, trivial⟩ ⟨by dsimp only; omega, hg.trans hg3, fun e => by have := hr e; omega, hs⟩ (by dsimp only; omega)
    · refine Zerun ?_
      exact retQ_ret [_] hh ⟨rfl, trivial⟩ hs.dropAll ⟨_, rfl, fun h1 h2 h3 => by have e := hr0' h1 h2; by_cases c : most < r0; have := hr c; omega; omega⟩
  · refine Zerun ?_
    exact retQ_ret [_] hh ⟨rfl, trivial⟩ hs.dropAll ⟨_, rfl, fun h1 h2 h3 => by have e := hr0' h1 h2; by_cases c : most < r0; have := hr c; omega; omega⟩
end
theorem refCountB_con (most : Int) (k : Nat) (cs : List Value) (p : PD (k + 1)) (w : World) (h : GHeap) (hp : PlainAt (k + 1) h cs p) : Con Tryz.prog 54 [.agg cs.toArray, .int .i64 most] w h (fun _ u => ∃ r, u = .int .i64 r ∧ (chk (k + 1) 40 p = 0 → r ≤ most → (PlainD.items (α := PD k) p).length ≤ most)) := by
  have := refCountB_step (PlainAt.mono k) most (refCount_con most k) cs p w h hp
  refine this.mono ?_
  rintro h' u _ ⟨r, rfl, hr⟩
  refine ⟨r, rfl, fun hc hle => ?_⟩
  obtain ⟨_, _, _, hpr, hok⟩ := (chkP_ok (α := PD k) _ _ _).1 hc
  have h1 : (PlainD.shape (α := PD k) p).length ≤ 8 := by
    by_cases c : 8 < (PlainD.shape (α := PD k) p).length
    · unfold product at hpr
      rw [if_pos c] at hpr
      exact absurd (congrArg Prod.snd hpr) (show (26 : Int) ≠ 0 by decide)
    · omega
  have h2 := (good_sml (k + 1) 40 _ (good_arr (k + 1) 40 p hc)).2.1
  have h3 : (ArrD.vec (α := AD k) (arr (k + 1) p)).len = (PlainD.items (α := PD k) p).length := len_arrV (arr k) _ _ _ hok
  have := hr h1 (by omega) hle
  omega
end Go.Proofs.YtmfealaaacmohaaGreat

/-
  Plain facts on lists of elements picked, cut, turned and put behind each other, and what they show. No statement is proved here.
-/
namespace Go.Proofs.YtmfealaaacmohaaGreat
open Go Go.RowKit
set_option linter.unusedVariables false
set_option linter.unusedSimpArgs false
set_option maxHeartbeats 4000000
attribute [local irreducible] CW RW QW SW HW ConM retM heldQ calmQ elemP thenQ blockQ loopQ joinQ retQ Yields Con Sl zF magR unitF truncF fwF wholeF tidySpec elemQ rankF leastN tidyW
set_option maxHeartbeats 4000000

structure Shown (k : Nat) (v : VecD (AD k)) (l : List (ItemD (PD k))) (c : Int) : Prop where
  hc : v.cls = c
  k0 : v.kind ≠ 0
  kl : v.kind = v.least
  vm : v.len ≤ 1048576
  sm : ∀ b ∈ v.boxes, sml k b
  he : itemsV (plain k) v = l
  td : ∀ x ∈ l, tdyIt (tdy k) x
theorem Shown.pick {k : Nat} {v : VecD (AD (k + 1))} {L : List (ItemD (PD (k + 1)))} {c : Int} (H : Shown (k + 1) v L c) (at_ : List Int) (hm : at_.length ≤ 1048576) : Shown (k + 1) (v.pick at_ (blankA k)) (at_.map fun i => atD L i (blankI c : ItemD (PlainD (PD k)))) c := by
  have hpf := pick_facts v at_ (blankA k)
  refine ⟨by rw [pick_cls, H.hc], hpf.1, hpf.2.1, by rw [hpf.2.2.1]; exact hm, ?_, pick_items' (β := PD k) (plain (k + 1)) _ at_ (blankA k) _ _ H.he H.hc rfl, ?_⟩
  · intro b hb
    rcases hpf.2.2.2 b hb with e | e
    · exact H.sm b e
    · rw [e]; exact blankA_sml k
  · intro x hx
    obtain ⟨i, _, rfl⟩ := List.mem_map.1 hx
    rcases atD_mem L i (blankI c : ItemD (PlainD (PD k))) with e | e
    · exact H.td _ e
    · rw [e]; exact blankI_tdy k _
section
variable {α β : Type}
theorem len0 {v : VecD α} (h : v.len = 0) : v.nums = [] ∧ v.chars = [] ∧ v.boxes = [] := by
  unfold VecD.len at h
  exact ⟨List.eq_nil_of_length_eq_zero (by omega), List.eq_nil_of_length_eq_zero (by omega), List.eq_nil_of_length_eq_zero (by omega)⟩
theorem noneV_facts (c : Int) (hc : c = 0 ∨ c = 1 ∨ c = 2) (f : α → β) : (noneV c : VecD α).cls = c ∧ (noneV c : VecD α).kind ≠ 0 ∧ (noneV c : VecD α).kind = (noneV c : VecD α).least ∧ (noneV c : VecD α).len = 0 ∧ (noneV c : VecD α).boxes = [] ∧ itemsV f (noneV c : VecD α) = [] := by
  rcases hc with rfl | rfl | rfl
  · have e : leastN [] = 1 := by have := leastN_bits []; simpa using this
    refine ⟨rfl, show (1 : Int) ≠ 0 by decide, ?_, rfl, rfl, rfl⟩
    show (1 : Int) = if (0 : Int) = 0 ∧ (1 : Int) ≠ 0 then leastN [] else 1
    rw [e]
    rfl
  · exact ⟨rfl, show (5 : Int) ≠ 0 by decide, rfl, rfl, rfl, rfl⟩
  · exact ⟨rfl, show (6 : Int) ≠ 0 by decide, rfl, rfl, rfl, rfl⟩
end
end Go.Proofs.YtmfealaaacmohaaGreat

/-
  Plain Lean on floats: a word's own number is rounded to that word; nought less a number. No statement is proved here.
-/
namespace Go.Proofs.YtmfealaaacmohaaGreat
open Go Go.RowKit Ieee
set_option linter.unusedVariables false
set_option linter.unusedSimpArgs false

section
variable {P : Program} {n : Nat} {L : Env} {w : World} {ty t yt : TypeId} {x y : Operand}
end
end Go.Proofs.YtmfealaaacmohaaGreat

/-
  Contracts of the law's own functions of layer 21: the example; what is turned on, and then back. No statement is proved here.
-/
namespace Go.Proofs.YtmfealaaacmohaaGreat
open Go Go.RowKit
set_option linter.unusedVariables false
set_option linter.unusedSimpArgs false
set_option maxHeartbeats 4000000
attribute [local irreducible] CW RW QW SW HW ConM retM heldQ calmQ elemP thenQ blockQ loopQ joinQ retQ Yields Con Sl zF magR unitF truncF fwF wholeF tidySpec elemQ rankF leastN tidyW
set_option maxHeartbeats 4000000

theorem shows21_con (k : Nat) (cs cp : List Value) (a : AD (k + 1)) (p : PD (k + 1)) (w : World) (h : GHeap) (ha : ArrAt (k + 1) h cs a) (hp : PlainAt (k + 1) h cp p) (hg : good (k + 1) 40 a) (he : plain (k + 1) a = p) (ht : tdy (k + 1) p) : Con Tryz.prog 16 [.agg cs.toArray, .int .i64 0, .agg cp.toArray, .int .i64 0] w h (fun _ u => u = .bool true) := by
  have ha' := ha
  have hp' := hp
  obtain ⟨s, vc, rfl, ⟨ad, cap, rfl, _⟩, hv⟩ := ha
  obtain ⟨wv, nv, sm, il, fl, ch, bx, ⟨rfl, hoc⟩, _⟩ := hv
  obtain ⟨s2, it2, rfl, ⟨ad2, cp2, rfl, _⟩, ⟨ad3, cp3, xs3, rfl, _, _⟩⟩ := hp
  refine Con.of_body Tryz.func16 rfl Tryz.ntmps16 rfl rfl ?_
  intro hs
  refine Zrun ?_
  (refine RW.boxN hs rfl rfl ?_; intro b1 w1 hs)
  refine Zrun ?_
  (refine RW.boxN hs rfl rfl ?_; intro b2 w2 hs)
  refine Zerun ?_
  refine CW.regionO T hs ?_
  intro w5 hs
  refine HW.takeS (fuel := 8) 0 rfl (fun _ _ hs => Y.loadRowN T hs 1 rfl rfl rfl rfl rfl rfl rfl) hs rfl (by kernel_rfl) (by kernel_rfl) (by kernel_rfl) ?_
  refine HW.one (fuel := 7) 1 rfl (by kernel_rfl) ?_
  (refine RW.call T hs rfl rfl rfl (valueGood_con (k + 1) _ a _ _ ha') ?_; intro v h25 w25 hle25 hp25 hs)
  subst hp25
  rw [decB_of hg]
  have ha' := ArrAt.mono (k + 1) _ _ _ _ hle25 ha'
  have hp' := PlainAt.mono (k + 1) _ _ _ _ hle25 hp'
  refine RW.nil ?_
  refine heldQ_normal ⟨_, hs⟩ ?_
  refine HW.takeS (fuel := 6) 2 rfl (fun _ _ hs => Y.move rfl) hs rfl (by kernel_rfl) (by kernel_rfl) (by kernel_rfl) ?_
  refine HW.takeSY (fuel := 5) 3 rfl rfl rfl (fun _ _ hs => Y.loadRowN T hs 1 rfl rfl rfl rfl rfl rfl rfl) hs rfl (by kernel_rfl) (by kernel_rfl) (by kernel_rfl) ?_
  refine HW.takeSY (fuel := 4) 5 rfl rfl rfl (fun _ _ hs => Y.loadRowN T hs 0 rfl rfl rfl rfl rfl rfl rfl) hs rfl (by kernel_rfl) (by kernel_rfl) (by kernel_rfl) ?_
  refine HW.one (fuel := 3) 4 rfl (by kernel_rfl) ?_
  refine RW.guardYes rfl rfl ?_
  (refine RW.call T hs rfl rfl rfl (plainV_con (k + 1) _ a _ _ ha' (good_sml (k + 1) 40 a hg)) ?_; intro v h28 w28 hle28 hp28 hs)
  obtain ⟨cs28, rfl, hq28⟩ := hp28
  rw [he] at hq28
  have hp' := PlainAt.mono (k + 1) _ _ _ _ hle28 hp'
  refine RW.nil ?_
  refine heldQ_normal ⟨_, hs⟩ ?_
  refine HW.one (fuel := 2) 6 rfl (by kernel_rfl) ?_
  refine RW.guardYes rfl rfl ?_
  (refine RW.call T hs rfl rfl rfl (refSame_con (k + 1) _ _ p p _ _ hq28 hp' ht ht) ?_; intro v h30 w30 hle30 hp30 hs)
  subst hp30
  rw [eqB_of (show p = p from rfl)]
  have hp' := PlainAt.mono (k + 1) _ _ _ _ hle30 hp'
  refine RW.nil ?_
  refine heldQ_normal ⟨_, hs⟩ ?_
  refine HW.takeS (fuel := 1) 7 rfl (fun _ _ hs => Y.pickT rfl rfl) hs rfl (by kernel_rfl) (by kernel_rfl) (by kernel_rfl) ?_
  refine HW.takeS (fuel := 0) 8 rfl (fun _ _ hs => Y.assign rfl) hs rfl (by kernel_rfl) (by kernel_rfl) (by kernel_rfl) ?_
  refine HW.done (by kernel_rfl) ?_
  refine calmQ_normal ?_
  refine Zerun ?_
  exact retQ_ret [_] h30 ⟨rfl, trivial⟩ hs.dropAll rfl
theorem fine21_con (k : Nat) (cs : List Value) (p : PD (k + 1)) (w : World) (h : GHeap) (hp : PlainAt (k + 1) h cs p) : Con Tryz.prog 11 [.agg cs.toArray] w h (fun _ u => ∃ b, u = .bool b ∧ (b = true → chk (k + 1) 40 p = 0 ∧ (PlainD.shape (α := PD k) p).length ≤ 8 ∧ (PlainD.items (α := PD k) p).length ≤ 3000)) := by
  have hp' := hp
  obtain ⟨s, it, rfl, ⟨ad0, cp0, rfl, hS0⟩, ⟨ad, cp, xs, rfl, hS, _⟩⟩ := hp
  have hcap := hS0.caps
  refine Con.of_body Tryz.func11 rfl Tryz.ntmps11 rfl rfl ?_
  intro hs
  refine Zrun ?_
  (refine RW.boxN hs rfl rfl ?_; intro b1 w1 hs)
  refine Zerun ?_
  (refine RW.call T hs rfl rfl rfl (refCountB_con 3000 k _ p _ _ hp') ?_; intro v h2 w2 hle2 hp2 hs)
  obtain ⟨r, rfl, hr⟩ := hp2
  by_cases c1 : r ≤ 1500
  · by_cases c2 : (PlainD.shape (α := PD k) p).length ≤ 8
    · refine Zerun ?_
      (refine RW.call T hs rfl rfl rfl (refCheck_con (k + 1) _ p _ _ (PlainAt.mono (k + 1) _ _ _ _ hle2 hp')) ?_; intro v h3 w3 hle3 hp3 hs)
      subst hp3
      refine Zerun ?_
      refine retQ_ret [_] h3 ⟨rfl, trivial⟩ hs.dropAll ⟨_, rfl, fun e => ?_⟩
      have hc := of_decide_eq_true e
      have hh := hr hc (by omega)
      exact ⟨hc, c2, by omega⟩
    · refine Zerun ?_
      exact retQ_ret [_] h2 ⟨rfl, trivial⟩ hs.dropAll ⟨_, rfl, fun e => by cases e⟩
  · refine Zerun ?_
    exact retQ_ret [_] h2 ⟨rfl, trivial⟩ hs.dropAll ⟨_, rfl, fun e => by cases e⟩
theorem tidyW_of {x : Nat} (h : tidyF x) : tidyW x = x := by unfold tidyW; rw [tidySpec_of _ h]
theorem one_kind {α : Type} (n : Int) (h : -9007199254740992 ≤ n ∧ n ≤ 9007199254740992) : (⟨leastN [fwF n], [fwF n], [], []⟩ : VecD α).kind = 1 ∨ (⟨leastN [fwF n], [fwF n], [], []⟩ : VecD α).kind = 2 ∨ (⟨leastN [fwF n], [fwF n], [], []⟩ : VecD α).kind = 3 := by
  have hb := leastN_bounds [fwF n]
  have h3 := fw_rank [n] (fun m hm => by rw [List.mem_singleton.1 hm]; exact h)
  have h3 : leastN [fwF n] ≤ 3 := h3
  dsimp only
  omega
theorem blankA_good (k : Nat) (d : Int) (hd : d ≠ 0) : good (k + 1) d (blankA k) := by
  refine ⟨(by show product [0] 1048576 = (((0 : Nat) : Int), 0); decide), (by show (1 : Int) ≠ 0; omega), ?_, hd, fun b hb => nomatch hb⟩
  show (1 : Int) = VecD.least (⟨1, [], [], []⟩ : VecD (AD k))
  unfold VecD.least
  rw [if_pos ⟨rfl, by dsimp only; omega⟩]
  exact (show (1 : Int) = leastN [] by unfold leastN; rfl)
theorem pick_plain {k : Nat} (s : List Int) (v : VecD (AD (k + 1))) (at_ : List Int) (L : List (ItemD (PD (k + 1)))) (c : Int) (hL : itemsV (plain (k + 1)) v = L) (hc : v.cls = c) : plain (k + 2) (⟨s, v.pick at_ (blankA k)⟩ : ArrD (AD (k + 1))) = (⟨s, at_.map (fun i => atD L i (blankI c : ItemD (PlainD (PD k)))), c⟩ : PlainD (PD (k + 1))) := by
  show (⟨s, itemsV (plain (k + 1)) (v.pick at_ (blankA k)), (v.pick at_ (blankA k)).cls⟩ : PlainD (PD (k + 1))) = _
  rw [pick_cls, hc]
  have := pick_items' (β := PD k) (plain (k + 1)) v at_ (blankA k) L c hL hc rfl
  exact congrArg (fun z => (⟨s, z, c⟩ : PlainD (PD (k + 1)))) this
end Go.Proofs.YtmfealaaacmohaaGreat

/-
  Plain laws of arrays turned backwards: where each element lies. No statement is proved here.
-/
namespace Go.Proofs.YtmfealaaacmohaaGreat
open Go Go.RowKit
set_option linter.unusedVariables false
set_option linter.unusedSimpArgs false

end Go.Proofs.YtmfealaaacmohaaGreat

/-
  What the document's answer to a turn backwards is, and that it is what the program's turn comes to; twice is as it was. No statement is proved here.
-/
namespace Go.Proofs.YtmfealaaacmohaaGreat
open Go Go.RowKit
set_option linter.unusedVariables false
set_option linter.unusedSimpArgs false
set_option maxHeartbeats 4000000
attribute [local irreducible] CW RW QW SW HW ConM retM heldQ calmQ elemP thenQ blockQ loopQ joinQ retQ Yields Con Sl zF magR unitF truncF fwF wholeF tidySpec elemQ rankF leastN tidyW
set_option maxHeartbeats 2000000

end Go.Proofs.YtmfealaaacmohaaGreat

/-
  Plain laws of arrays with their axes in the other order. No statement is proved here.
-/
namespace Go.Proofs.YtmfealaaacmohaaGreat
open Go Go.RowKit
set_option linter.unusedVariables false
set_option linter.unusedSimpArgs false

theorem idxOf_add : ∀ (s : List Int) (a c : Int), (∀ d ∈ s, 1 ≤ d) → idxOf s (a + c * prn s) = idxOf s a
  | [], _, _, _ => rfl
  | d :: s, a, c, h => by
    have hs : ∀ x ∈ s, 1 ≤ x := fun x hx => h x (List.mem_cons_of_mem _ hx)
    have hp := prn_pos s hs
    have hd := h d (by simp)
    simp only [idxOf, prn]
    have e : a + c * (d * prn s) = a + (c * d) * prn s := by rw [Int.mul_assoc]
    rw [e, idxOf_add s a (c * d) hs, Int.add_mul_ediv_right _ _ (by omega), Int.add_mul_emod_self_right]
theorem idxOf_off : ∀ (s j : List Int), inR s j = true → idxOf s (off s j) = j
  | [], [], _ => rfl
  | [], _ :: _, h => by simp [inR] at h
  | _ :: _, [], h => by simp [inR] at h
  | d :: s, i :: r, h => by
    have hpos := inR_pos (d :: s) (i :: r) h
    have hs : ∀ x ∈ s, 1 ≤ x := fun x hx => hpos x (List.mem_cons_of_mem _ hx)
    have hp := prn_pos s hs
    simp only [inR, Bool.and_eq_true, decide_eq_true_eq] at h
    have hb := off_bound s r h.2
    have ih := idxOf_off s r h.2
    simp only [idxOf, off]
    have e : (i * prn s + off s r) / prn s = i := by
      rw [Int.add_comm, Int.add_mul_ediv_right _ _ (by omega), Int.ediv_eq_zero_of_lt hb.1 hb.2, Int.zero_add]
    rw [e, Int.emod_eq_of_lt h.1.1 h.1.2]
    have e2 : idxOf s (i * prn s + off s r) = idxOf s (off s r) := by rw [Int.add_comm]; exact idxOf_add s _ i hs
    rw [e2, ih]
theorem pr_reverse : ∀ s : List Int, pr s.reverse = pr s
  | [] => rfl
  | d :: s => by
    rw [List.reverse_cons, pr_snoc, pr_reverse s]
    simp only [pr]
    exact Int.mul_comm _ _
theorem product_reverse (s : List Int) (most : Int) : product s.reverse most = product s most := by
  unfold product
  simp only [List.length_reverse, List.mem_reverse, pr_reverse]
theorem getD_reverse (l : List Int) (k : Nat) (h : k < l.length) : l.reverse.getD k 0 = l.getD (l.length - 1 - k) 0 := by
  rw [List.getD_eq_getElem?_getD, List.getD_eq_getElem?_getD, List.getElem?_reverse h]
theorem inR_reverse (s j : List Int) (h : inR s j = true) : inR s.reverse j.reverse = true := by
  obtain ⟨h1, h2⟩ := (inR_iff _ _).1 h
  refine (inR_iff _ _).2 ⟨by rw [List.length_reverse, List.length_reverse, h1], fun k hk => ?_⟩
  rw [List.length_reverse] at hk
  rw [getD_reverse s k hk, getD_reverse j k (by omega), h1]
  exact h2 _ (by omega)
/-- where an element of an array with turned axes lies in the array -/
def trOff (s : List Int) (a : Int) : Int := off s (idxOf s.reverse a).reverse
theorem trOff_at {s : List Int} {n : Nat} (hp : product s 1048576 = ((n : Int), 0)) (a : Nat) (ha : a < n) : atSpec s (idxOf s.reverse a).reverse = (trOff s a, true) ∧ 0 ≤ trOff s a ∧ trOff s a < n := by
  have hg : goodS s = true := (goodS_iff s).2 (by rw [hp])
  obtain ⟨hpos, hpr⟩ := idx_pos s a hg ⟨by omega, by rw [hp]; dsimp only; omega⟩
  rw [hp] at hpr
  have hpr : (n : Int) = pr s := hpr
  have hposr : ∀ d ∈ s.reverse, 1 ≤ d := fun d hd => hpos d (List.mem_reverse.1 hd)
  have hin := inR_reverse _ _ (inR_idxOf s.reverse (a : Int) hposr)
  rw [List.reverse_reverse] at hin
  have hb := off_bound _ _ hin
  rw [prn_eq_pr s hpos, ← hpr] at hb
  refine ⟨?_, hb⟩
  unfold atSpec
  rw [if_pos ⟨hg, hin⟩]
  rfl
theorem trOff_back {s : List Int} {n : Nat} (hp : product s 1048576 = ((n : Int), 0)) (a : Nat) (ha : a < n) : trOff s (trOff s.reverse a) = a := by
  have hg : goodS s = true := (goodS_iff s).2 (by rw [hp])
  obtain ⟨hpos, hpr⟩ := idx_pos s a hg ⟨by omega, by rw [hp]; dsimp only; omega⟩
  rw [hp] at hpr
  have hpr : (n : Int) = pr s := hpr
  have hin := inR_reverse _ _ (inR_idxOf s (a : Int) hpos)
  unfold trOff
  rw [List.reverse_reverse, idxOf_off _ _ hin, List.reverse_reverse, off_idxOf s a hpos, prn_eq_pr s hpos, ← hpr, Int.emod_eq_of_lt (by omega) (by omega)]
/-! ## sums of products -/
def dot : List Int → List Int → Int
  | x :: l, y :: m => x * y + dot l m
  | _, _ => 0
theorem dot_snoc : ∀ (l m : List Int) (x y : Int), l.length = m.length → dot (l ++ [x]) (m ++ [y]) = dot l m + x * y
  | [], [], x, y, _ => by simp [dot]
  | [], _ :: _, _, _, h => by simp at h
  | _ :: _, [], _, _, h => by simp at h
  | a :: l, b :: m, x, y, h => by
    simp only [List.cons_append, dot]
    rw [dot_snoc l m x y (by simpa using h)]
    omega
theorem dot_reverse : ∀ (l m : List Int), l.length = m.length → dot l.reverse m.reverse = dot l m
  | [], [], _ => rfl
  | [], _ :: _, h => by simp at h
  | _ :: _, [], h => by simp at h
  | a :: l, b :: m, h => by
    have hl : l.length = m.length := by simpa using h
    rw [List.reverse_cons, List.reverse_cons, dot_snoc _ _ _ _ (by simpa using hl), dot_reverse l m hl]
    simp only [dot]
    omega
theorem dot_strides : ∀ (s j : List Int), (∀ d ∈ s, 1 ≤ d) → j.length = s.length → dot j (stridesOf s) = off s j
  | [], [], _, _ => rfl
  | [], _ :: _, _, h => by simp at h
  | _ :: _, [], _, h => by simp at h
  | d :: s, i :: r, hpos, h => by
    have hs : ∀ x ∈ s, 1 ≤ x := fun x hx => hpos x (List.mem_cons_of_mem _ hx)
    simp only [stridesOf, dot, off]
    rw [dot_strides s r hs (by simpa using h), prn_eq_pr s hs]
theorem dot_take_succ (l m : List Int) (k : Nat) (h1 : k < l.length) (h2 : l.length = m.length) : dot (l.take (k + 1)) (m.take (k + 1)) = dot (l.take k) (m.take k) + l.getD k 0 * m.getD k 0 := by
  rw [take_snoc l k 0 h1, take_snoc m k 0 (by omega), dot_snoc _ _ _ _ (by simp; omega)]
/-- the sum that the program makes is the place -/
theorem dot_tr {s : List Int} (hpos : ∀ d ∈ s, 1 ≤ d) (a : Int) : dot (idxOf s.reverse a) (stridesOf s).reverse = trOff s a := by
  have hl : (idxOf s.reverse a).length = s.length := by rw [length_idxOf, List.length_reverse]
  rw [← List.reverse_reverse (idxOf s.reverse a), dot_reverse _ _ (by rw [List.length_reverse, hl, length_stridesOf]), dot_strides s _ hpos (by rw [List.length_reverse, hl])]
  rfl
theorem dot_le (B : Int) : ∀ (l m : List Int), (∀ x ∈ l, 0 ≤ x ∧ x ≤ B) → (∀ y ∈ m, 0 ≤ y ∧ y ≤ B) → 0 ≤ B → 0 ≤ dot l m ∧ dot l m ≤ l.length * (B * B)
  | [], _, _, _, _ => by simp [dot]
  | _ :: _, [], _, _, hB => by
    simp only [dot]
    exact ⟨by omega, Int.mul_nonneg (by omega) (Int.mul_nonneg hB hB)⟩
  | x :: l, y :: m, h1, h2, hB => by
    have ih := dot_le B l m (fun z hz => h1 z (List.mem_cons_of_mem _ hz)) (fun z hz => h2 z (List.mem_cons_of_mem _ hz)) hB
    have hx := h1 x (by simp)
    have hy := h2 y (by simp)
    have h3 : 0 ≤ x * y := Int.mul_nonneg hx.1 hy.1
    have h4 : x * y ≤ B * B := Int.mul_le_mul hx.2 hy.2 hy.1 hB
    simp only [dot, List.length_cons]
    refine ⟨by omega, ?_⟩
    rw [Int.natCast_add, Int.add_mul]
    omega
/-! ## counting on -/
theorem succ_div {a P : Int} (hP : 0 < P) : (a + 1) / P = if (a + 1) % P = 0 then a / P + 1 else a / P := by
  have h1 := Int.mul_ediv_add_emod a P
  have h2 := Int.emod_nonneg a (show P ≠ 0 by omega)
  have h3 := Int.emod_lt_of_pos a hP
  by_cases c : a % P = P - 1
  · have e : a + 1 = 0 + (a / P + 1) * P := by rw [Int.add_mul, Int.mul_comm (a / P) P]; omega
    have em : (a + 1) % P = 0 := by rw [e, Int.add_mul_emod_self_right]; exact Int.zero_emod P
    rw [if_pos em]
    conv => lhs; rw [e]
    rw [Int.add_mul_ediv_right _ _ (by omega), Int.zero_ediv, Int.zero_add]
  · have e : a + 1 = (a % P + 1) + a / P * P := by rw [Int.mul_comm (a / P) P]; omega
    have em : (a + 1) % P = a % P + 1 := by rw [e, Int.add_mul_emod_self_right]; exact Int.emod_eq_of_lt (by omega) (by omega)
    rw [if_neg (by rw [em]; omega)]
    conv => lhs; rw [e]
    rw [Int.add_mul_ediv_right _ _ (by omega), Int.ediv_eq_zero_of_lt (by omega) (by omega), Int.zero_add]
/-- counting on stops: the indexes ahead stay -/
theorem idxOf_ahead : ∀ (s t : List Int) (a : Int), (∀ d ∈ s ++ t, 1 ≤ d) → (a + 1) % prn t ≠ 0 → idxOf (s ++ t) (a + 1) = (idxOf (s ++ t) a).take s.length ++ idxOf t (a + 1)
  | [], t, a, _, _ => by simp
  | d :: s, t, a, hpos, hne => by
    have hs : ∀ x ∈ s ++ t, 1 ≤ x := fun x hx => hpos x (List.mem_cons_of_mem _ hx)
    have hp := prn_pos (s ++ t) hs
    have ih := idxOf_ahead s t a hs hne
    simp only [List.cons_append, idxOf, List.length_cons, List.take_succ_cons]
    rw [ih, succ_div (by omega), if_neg ?_]
    intro h0
    apply hne
    rw [prn_append] at h0
    have : prn t ∣ a + 1 := Int.dvd_trans ⟨prn s, Int.mul_comm _ _⟩ (Int.dvd_of_emod_eq_zero h0)
    exact Int.emod_eq_zero_of_dvd this
theorem mod_step {x d : Int} (y : Int) (hd : 0 < d) (hx : y % d = x) : (y + 1) % d = if x + 1 < d then x + 1 else 0 := by
  have h1 := Int.emod_nonneg y (show d ≠ 0 by omega)
  have h2 := Int.emod_lt_of_pos y hd
  have h3 := Int.mul_ediv_add_emod y d
  by_cases c : x + 1 < d
  · have e : y + 1 = (x + 1) + y / d * d := by rw [Int.mul_comm (y / d) d]; omega
    rw [if_pos c, e, Int.add_mul_emod_self_right]
    exact Int.emod_eq_of_lt (by omega) (by omega)
  · have e : y + 1 = 0 + (y / d + 1) * d := by rw [Int.add_mul, Int.mul_comm (y / d) d]; omega
    rw [if_neg c, e, Int.add_mul_emod_self_right]
    exact Int.zero_emod d
/-- the indexes while one is counted on from behind: those from k' on are new -/
def odo (s : List Int) (a : Int) (k : Nat) : List Int := (idxOf s a).take k ++ idxOf (s.drop k) (a + 1)
theorem odo_len (s : List Int) (a : Int) (k : Nat) (h : k ≤ s.length) : (odo s a k).length = s.length := by
  unfold odo
  rw [List.length_append, List.length_take, length_idxOf, length_idxOf, List.length_drop]
  omega
theorem odo_all (s : List Int) (a : Int) : odo s a s.length = idxOf s a := by
  unfold odo
  rw [List.take_of_length_le (by rw [length_idxOf]; exact Nat.le_refl _), List.drop_length]
  simp [idxOf]
theorem odo_none (s : List Int) (a : Int) : odo s a 0 = idxOf s (a + 1) := by simp [odo]
theorem odo_step {s : List Int} {a : Int} {k : Nat} (hpos : ∀ d ∈ s, 1 ≤ d) (hk : k < s.length) (h0 : (a + 1) % prn (s.drop (k + 1)) = 0) :
    (odo s a (k + 1)).getD k 0 = (idxOf s a).getD k 0 ∧ 0 ≤ (idxOf s a).getD k 0 ∧ (idxOf s a).getD k 0 < s.getD k 0 ∧
    ((idxOf s a).getD k 0 + 1 < s.getD k 0 → (odo s a (k + 1)).set k ((idxOf s a).getD k 0 + 1) = idxOf s (a + 1)) ∧
    (¬ (idxOf s a).getD k 0 + 1 < s.getD k 0 → ((odo s a (k + 1)).set k ((idxOf s a).getD k 0 + 1)).set k 0 = odo s a k ∧ (a + 1) % prn (s.drop k) = 0) := by
  have hlen := length_idxOf s a
  have hin := ((inR_iff _ _).1 (inR_idxOf s a hpos)).2 k hk
  have hposd : ∀ d ∈ s.drop (k + 1), 1 ≤ d := fun d hd => hpos d (List.mem_of_mem_drop hd)
  have hP := prn_pos _ hposd
  have hxe := getD_idxOf s a k hk
  have htk : (idxOf s a).take (k + 1) = (idxOf s a).take k ++ [(idxOf s a).getD k 0] := take_snoc _ k 0 (by omega)
  have hdr := drop_pred s k hk
  have hpk := prn_drop s k hk
  generalize (idxOf s a).getD k 0 = x at *
  have hd : 0 < s.getD k 0 := by omega
  have hsd : (a + 1) / prn (s.drop (k + 1)) = a / prn (s.drop (k + 1)) + 1 := by rw [succ_div (by omega), if_pos h0]
  have hms := mod_step (a / prn (s.drop (k + 1))) hd hxe.symm
  have hnew : idxOf (s.drop k) (a + 1) = (if x + 1 < s.getD k 0 then x + 1 else 0) :: idxOf (s.drop (k + 1)) (a + 1) := by
    rw [hdr]
    simp only [idxOf]
    rw [hsd, hms]
  have hmod : (a + 1) % prn (s.drop k) = 0 ↔ ¬ x + 1 < s.getD k 0 := by
    have e1 : a + 1 = (a / prn (s.drop (k + 1)) + 1) * prn (s.drop (k + 1)) := by
      have := Int.mul_ediv_add_emod (a + 1) (prn (s.drop (k + 1)))
      rw [h0, hsd, Int.mul_comm] at this
      omega
    rw [hpk, e1, Int.mul_comm (a / prn (s.drop (k + 1)) + 1), Int.mul_comm (s.getD k 0), Int.mul_emod_mul_of_pos _ _ (by omega), hms]
    constructor
    · intro h c
      rw [if_pos c] at h
      have : prn (s.drop (k + 1)) = 0 ∨ x + 1 = 0 := Int.mul_eq_zero.1 h
      omega
    · intro c
      rw [if_neg c, Int.mul_zero]
  have hset : ∀ z, (odo s a (k + 1)).set k z = (idxOf s a).take k ++ z :: idxOf (s.drop (k + 1)) (a + 1) := by
    intro z
    unfold odo
    rw [htk, List.append_assoc, List.set_append_right _ _ (by rw [List.length_take]; omega)]
    rw [show k - ((idxOf s a).take k).length = 0 by rw [List.length_take]; omega]
    rfl
  refine ⟨?_, hin.1, hin.2, fun c => ?_, fun c => ⟨?_, hmod.2 c⟩⟩
  · unfold odo
    rw [htk, List.append_assoc, List.getD_eq_getElem?_getD, List.getElem?_append_right (by rw [List.length_take]; omega), show k - ((idxOf s a).take k).length = 0 by rw [List.length_take]; omega]
    rfl
  · rw [hset, if_pos c] at *
    have hah := idxOf_ahead (s.take k) (s.drop k) a (by rw [List.take_append_drop]; exact hpos) (fun e => (hmod.1 e) c)
    rw [List.take_append_drop] at hah
    rw [hah, hnew, List.length_take, show min k s.length = k by omega]
  · rw [hset, List.set_append_right _ _ (by rw [List.length_take]; omega), show k - ((idxOf s a).take k).length = 0 by rw [List.length_take]; omega]
    unfold odo
    rw [hnew, if_neg c]
    rfl
end Go.Proofs.YtmfealaaacmohaaGreat

/-
  What the document's answer to turned axes is, and that it is what the program comes to; twice is as it was. No statement is proved here.
-/
namespace Go.Proofs.YtmfealaaacmohaaGreat
open Go Go.RowKit
set_option linter.unusedVariables false
set_option linter.unusedSimpArgs false
set_option maxHeartbeats 4000000
attribute [local irreducible] CW RW QW SW HW ConM retM heldQ calmQ elemP thenQ blockQ loopQ joinQ retQ Yields Con Sl zF magR unitF truncF fwF wholeF tidySpec elemQ rankF leastN tidyW
set_option maxHeartbeats 2000000

/-- the places of an array with its axes in the other order -/
def trL (s : List Int) (n : Nat) : List Int := (List.range n).map fun a : Nat => trOff s a
theorem trL_len (s : List Int) (n : Nat) : (trL s n).length = n := by simp [trL]
def trP {α : Type} (p : PlainD α) : PlainD α := ⟨p.shape.reverse, (List.range p.items.length).map fun a : Nat => p.items.getD (trOff p.shape a).toNat noItem, p.fill⟩
def trV {α : Type} (a : ArrD α) (nb : α) : ArrD α := ⟨a.shape.reverse, if a.vec.len = 0 then noneV a.vec.cls else a.vec.pick (trL a.shape a.vec.len) nb⟩
theorem tr_good {k : Nat} {a : AD (k + 2)} (hg : good (k + 2) 40 a) : good (k + 2) 40 (trV a (blankA k) : ArrD (AD (k + 1))) := by
  obtain ⟨h1, h2, h3, h4, h5⟩ := hg
  have hcl := cls_rng (ArrD.vec (α := AD (k + 1)) a)
  unfold trV
  by_cases c : (ArrD.vec (α := AD (k + 1)) a).len = 0
  · rw [if_pos c]
    obtain ⟨_, n2, n3, n4, n5, _⟩ := noneV_facts (β := PlainD (PD k)) (ArrD.vec (α := AD (k + 1)) a).cls (by omega) (plain (k + 1))
    refine ⟨?_, n2, n3, h4, fun b hb => ?_⟩
    · show product (ArrD.shape (α := AD (k + 1)) a).reverse 1048576 = (((noneV (ArrD.vec (α := AD (k + 1)) a).cls : VecD (AD (k + 1))).len : Int), 0)
      rw [product_reverse, h1, n4, c]
    · have hb : b ∈ (noneV (ArrD.vec (α := AD (k + 1)) a).cls : VecD (AD (k + 1))).boxes := hb
      rw [n5] at hb; cases hb
  · rw [if_neg c]
    obtain ⟨f1, f2, f3, f4⟩ := pick_facts (ArrD.vec (α := AD (k + 1)) a) (trL (ArrD.shape (α := AD (k + 1)) a) (ArrD.vec (α := AD (k + 1)) a).len) (blankA k)
    rw [trL_len] at f3
    refine ⟨?_, f1, f2, h4, fun b hb => ?_⟩
    · show product (ArrD.shape (α := AD (k + 1)) a).reverse 1048576 = ((((ArrD.vec (α := AD (k + 1)) a).pick (trL (ArrD.shape (α := AD (k + 1)) a) (ArrD.vec (α := AD (k + 1)) a).len) (blankA k)).len : Int), 0)
      rw [product_reverse, h1, f3]
    · rcases f4 b hb with e | e
      · exact h5 b e
      · rw [e]; exact blankA_good k _ (by omega)
theorem tr_plain {k : Nat} {a : AD (k + 2)} (hg : good (k + 2) 40 a) (hIL : (itemsV (plain (k + 1)) (ArrD.vec (α := AD (k + 1)) a)).length = (ArrD.vec (α := AD (k + 1)) a).len) : plain (k + 2) (trV a (blankA k) : ArrD (AD (k + 1))) = (trP (plain (k + 2) a : PlainD (PD (k + 1))) : PlainD (PD (k + 1))) := by
  have hcl := cls_rng (ArrD.vec (α := AD (k + 1)) a)
  have hpl : plain (k + 2) a = (⟨ArrD.shape (α := AD (k + 1)) a, itemsV (plain (k + 1)) (ArrD.vec (α := AD (k + 1)) a), (ArrD.vec (α := AD (k + 1)) a).cls⟩ : PlainD (PD (k + 1))) := rfl
  rw [hpl]
  unfold trV trP
  dsimp only
  rw [hIL]
  by_cases c : (ArrD.vec (α := AD (k + 1)) a).len = 0
  · rw [if_pos c, c]
    obtain ⟨n1, _, _, _, _, n6⟩ := noneV_facts (β := PlainD (PD k)) (ArrD.vec (α := AD (k + 1)) a).cls (by omega) (plain (k + 1))
    show (⟨(ArrD.shape (α := AD (k + 1)) a).reverse, itemsV (plain (k + 1)) (noneV (ArrD.vec (α := AD (k + 1)) a).cls), (noneV (ArrD.vec (α := AD (k + 1)) a).cls : VecD (AD (k + 1))).cls⟩ : PlainD (PD (k + 1))) = _
    rw [n1]
    exact congrArg (fun z => (⟨(ArrD.shape (α := AD (k + 1)) a).reverse, z, (ArrD.vec (α := AD (k + 1)) a).cls⟩ : PlainD (PD (k + 1)))) n6
  · rw [if_neg c, pick_plain _ _ _ _ _ rfl rfl]
    refine congrArg (fun z => (⟨(ArrD.shape (α := AD (k + 1)) a).reverse, z, (ArrD.vec (α := AD (k + 1)) a).cls⟩ : PlainD (PD (k + 1)))) ?_
    unfold trL
    rw [List.map_map]
    apply List.map_congr_left
    intro j hj
    have hj := List.mem_range.1 hj
    obtain ⟨_, t1, t2⟩ := trOff_at hg.1 j hj
    simp only [Function.comp]
    exact (atD_in ⟨t1, by rw [hIL]; exact t2⟩).trans (getD_any _ _ _ _ (by rw [hIL]; omega))
theorem trP_back {α : Type} {p : PlainD α} (hp : product p.shape 1048576 = ((p.items.length : Int), 0)) : trP (trP p) = p := by
  obtain ⟨s, L, c⟩ := p
  unfold trP
  dsimp only at hp ⊢
  rw [List.reverse_reverse, List.length_map, List.length_range]
  refine congrArg (fun z => (⟨s, z, c⟩ : PlainD α)) ?_
  apply List.ext_getElem?
  intro a
  rw [List.getElem?_map]
  by_cases ha : a < L.length
  · have hpr : product s.reverse 1048576 = ((L.length : Int), 0) := by rw [product_reverse]; exact hp
    obtain ⟨_, t1, t2⟩ := trOff_at hpr a ha
    obtain ⟨b, hb⟩ : ∃ b : Nat, trOff s.reverse (a : Int) = (b : Int) := ⟨(trOff s.reverse (a : Int)).toNat, by omega⟩
    have hback := trOff_back hp a ha
    rw [hb] at t2 hback
    rw [List.getElem?_range ha, Option.map_some, hb, Int.toNat_natCast, List.getD_eq_getElem?_getD, List.getElem?_map, List.getElem?_range (by omega), Option.map_some, Option.getD_some, hback, Int.toNat_natCast, List.getD_eq_getElem?_getD, List.getElem?_eq_getElem ha]
    rfl
  · rw [List.getElem?_eq_none (by rw [List.length_range]; omega), List.getElem?_eq_none (by omega)]
    rfl
end Go.Proofs.YtmfealaaacmohaaGreat

/-
  Contracts of the law's own functions of layer 6, first part. No statement is proved here.
-/
namespace Go.Proofs.YtmfealaaacmohaaGreat
open Go Go.RowKit
set_option linter.unusedVariables false
set_option linter.unusedSimpArgs false
set_option maxHeartbeats 4000000
attribute [local irreducible] CW RW QW SW HW ConM retM heldQ calmQ elemP thenQ blockQ loopQ joinQ retQ Yields Con Sl


end Go.Proofs.YtmfealaaacmohaaGreat

/-
  Contracts of the law's own functions of layer 6, fifth part: all indexes in order. No statement is proved here.
-/
namespace Go.Proofs.YtmfealaaacmohaaGreat
open Go Go.RowKit
set_option linter.unusedVariables false
set_option linter.unusedSimpArgs false
set_option maxHeartbeats 4000000
attribute [local irreducible] CW RW QW SW HW ConM retM heldQ calmQ elemP thenQ blockQ loopQ joinQ retQ Yields Con Sl

theorem IntsAt.one {h : GHeap} {u : Value} {x : List Int} (hi : IntsAt h u x) : u.oneCell' = true := by
  obtain ⟨ad, cp, rfl, _⟩ := hi; rfl

theorem refAll_con (s : Value) (l : List Int) (most : Nat) (w : World) (h : GHeap) (hl : IntsAt h s l) (hm : l.length ≤ 8) (hmo : most ≤ 100000) (h1m : 1 ≤ most) (hg : goodS l = true) : Con Tryz.prog 112 [s, .int .i64 most] w h
    (fun h' v => ListsAt h' v (allSpec most l)) := by
  have hl' := hl
  obtain ⟨ad, cp, rfl, hS⟩ := hl
  have hS0 := hS
  have hle : ∀ k, (allSpec most (l.take k)).length ≤ most := by
    intro k
    unfold allSpec
    rcases List.eq_nil_or_concat (l.take k) with e | ⟨a, b, e⟩
    · rw [e]; simpa using h1m
    · rw [e, List.concat_eq_append, List.foldl_append]
      simp only [List.foldl_cons, List.foldl_nil, allStep, List.length_take]
      omega
  refine Con.of_body Tryz.func112 rfl Tryz.ntmps112 rfl rfl ?_
  intro hs
  refine Zrun ?_
  (refine RW.lit T hs (vs := []) rfl rfl rfl rfl (by simp [Value.cells]) rfl rfl rfl rfl rfl ?_; intro b1 w1 hs)
  obtain ⟨h1, hle1, hs, hS1⟩ := hs.freeze
  have hI1 : IntsAt h1 (.slice (some ⟨b1, 0, none⟩) 0 0) [] := IntsAt.of_sl hS1
  (refine RW.lit T hs (vs := [.slice (some ⟨b1, 0, none⟩) 0 0]) rfl rfl rfl rfl (by simp [Value.cells]) rfl rfl rfl rfl rfl ?_; intro b2 w2 hs)
  obtain ⟨h2, hle2, hs, hS2⟩ := hs.freeze
  have hL2 : ListsAt h2 (.slice (some ⟨b2, 0, none⟩) 1 1) (allSpec most (l.take 0)) := ⟨_, _, [.slice (some ⟨b1, 0, none⟩) 0 0], rfl, hS2, ⟨hI1.mono hle2, trivial⟩⟩
  have hS := (hS.mono hle1).mono hle2
  have hh2 : GLe h h2 := hle1.trans hle2
  refine Zrun ?_
  refine CW.loop (fun p : Nat × Value × GHeap => [(0, .slice ad l.length cp), (1, .int .i64 most), (5, p.2.1), (6, .int .i64 p.1)]) (fun p w' => p.1 ≤ l.length ∧ GLe h p.2.2 ∧ ListsAt p.2.2 p.2.1 (allSpec most (l.take p.1)) ∧ Sees w h p.2.2 [] w') (fun p => l.length - p.1) (0, _, h2) ⟨rfl, rfl, rfl, rfl, trivial⟩ ⟨by omega, hh2, hL2, hs⟩ ?_
  rintro ⟨k, u, hh⟩ w' ⟨hk, hhh, hL, hs⟩
  dsimp only at hk hhh hL hs ⊢
  have hLL := hL
  obtain ⟨ad5, cp5, us, rfl, hS5, hA5⟩ := hL
  by_cases hlt : k < l.length
  · have hstep := allSpec_take_succ most l k hlt
    have hls := hle k
    have hdk := good_getD l ((goodS_iff l).1 hg) k hlt
    have hxl : ∀ x ∈ allSpec most (l.take k), x.length ≤ 8 := fun x hx => by have := all_len most _ x hx; rw [this, List.length_take]; omega
    have hS := hS0.mono hhh
    generalize allSpec most (l.take k) = ls at *
    have hlu := hA5.length
    refine Zrun ?_
    have hs := hs.nilRow 22 1
    refine CW.loop (fun p : Nat × Option Addr × Nat × List Value × GHeap => [(0, .slice ad l.length cp), (1, .int .i64 most), (5, .slice ad5 ls.length cp5), (6, .int .i64 k), (7, .slice p.2.1 p.2.2.2.1.length p.2.2.1), (8, .int .i64 p.1)]) (fun p w' => p.1 ≤ ls.length ∧ GLe hh p.2.2.2.2 ∧ AllAt (IntsAt p.2.2.2.2) p.2.2.2.1 (((ls.take p.1).flatMap (allRow (l.getD k 0))).take most) ∧ Sees w h p.2.2.2.2 [⟨p.2.1, p.2.2.2.1.length, p.2.2.1, 22, 1, p.2.2.2.1⟩] w') (fun p => ls.length - p.1) (0, none, 0, [], hh) ⟨rfl, rfl, rfl, rfl, rfl, rfl, trivial⟩ ⟨by omega, GLe.refl _, by simp [AllAt], hs⟩ ?_
    rintro ⟨q, ra, rc, vs, h3⟩ w3 ⟨hq, hh3, hA3, hs⟩
    dsimp only at hq hh3 hA3 hs ⊢
    have hvl := hA3.length
    have hvm : vs.length ≤ most := by rw [hvl, List.length_take]; omega
    have hS := hS.mono hh3
    have hS5 := hS5.mono hh3
    have hA5 := hA5.mono (fun _ _ => IntsAt.mono hh3)
    by_cases hgo : q < ls.length ∧ vs.length < most
    · obtain ⟨hq1, hv1⟩ := hgo
      obtain ⟨u5, hu5, hI5⟩ := hA5.get [] q hq1
      rw [take_short _ _ (by omega)] at hA3
      have hX : (ls.take (q + 1)).flatMap (allRow (l.getD k 0)) = (ls.take q).flatMap (allRow (l.getD k 0)) ++ allRow (l.getD k 0) (ls.getD q []) := by
        rw [take_snoc ls q [] hq1, List.flatMap_append]; simp
      have hrow : allRow (l.getD k 0) (ls.getD q []) = (List.range (l.getD k 0).toNat).map fun (j : Nat) => ls.getD q [] ++ [(j : Int)] := rfl
      generalize (ls.take q).flatMap (allRow (l.getD k 0)) = xs at hA3 hX
      have hx5 : (ls.getD q []).length ≤ 8 := hxl _ (by simp [List.getD_eq_getElem?_getD, hq1])
      generalize ls.getD q [] = x5 at hI5 hX hrow hx5
      refine Zrun ?_
      refine CW.loop (fun p : Nat × Option Addr × Nat × List Value × GHeap => [(0, .slice ad l.length cp), (1, .int .i64 most), (5, .slice ad5 ls.length cp5), (6, .int .i64 k), (7, .slice p.2.1 p.2.2.2.1.length p.2.2.1), (8, .int .i64 q), (9, .int .i64 p.1)]) (fun p w' => p.1 ≤ (l.getD k 0).toNat ∧ GLe h3 p.2.2.2.2 ∧ AllAt (IntsAt p.2.2.2.2) p.2.2.2.1 ((xs ++ (List.range p.1).map fun (j : Nat) => x5 ++ [(j : Int)]).take most) ∧ Sees w h p.2.2.2.2 [⟨p.2.1, p.2.2.2.1.length, p.2.2.1, 22, 1, p.2.2.2.1⟩] w') (fun p => (l.getD k 0).toNat - p.1) (0, ra, rc, vs, h3) ⟨rfl, rfl, rfl, rfl, rfl, rfl, rfl, trivial⟩ ⟨by omega, GLe.refl _, by simp; rw [List.take_of_length_le (by have := hA3.length; omega)]; exact hA3, hs⟩ ?_
      rintro ⟨j, rb, rd, ws, h4⟩ w4 ⟨hj, hh4, hA4, hs⟩
      dsimp only at hj hh4 hA4 hs ⊢
      have hwl := hA4.length
      have hwm : ws.length ≤ most := by rw [hwl, List.length_take]; omega
      have hS := hS.mono hh4
      have hS5 := hS5.mono hh4
      have hI5 := hI5.mono hh4
      by_cases hgo2 : (j : Int) < l.getD k 0 ∧ ws.length < most
      · obtain ⟨hj1, hw1⟩ := hgo2
        refine Zrun ?_
        rw [take_short _ _ (by omega)] at hA4
        obtain ⟨ad6, cp6, rfl, hS6⟩ := hI5
        (refine RW.lit T hs (vs := []) rfl rfl rfl rfl (by simp [Value.cells]) rfl rfl rfl rfl rfl ?_; intro b5 w5 hs)
        refine Zrun ?_
        refine RW.append T hs 0 rfl rfl (m := x5.length) (news := x5.map (Value.int .i64)) rfl rfl rfl rfl rfl rfl (hS6.src hs.agree (one_ints _ _)) (fun e => by subst e; exact hS6.nil0.2) (by dsimp only; omega) (by omega) ?_
        intro ad7 cp7 w7 hs
        refine Zrun ?_
        (refine RW.lit T hs (vs := [.int .i64 j]) rfl rfl rfl rfl (by simp [Value.cells]) rfl rfl rfl rfl rfl ?_; intro b8 w8 hs)
        refine RW.append T hs 1 rfl rfl (m := 1) (news := [.int .i64 j]) rfl rfl rfl rfl rfl rfl ⟨rfl, by simp [Value.oneCell'], by simp, fun p hp j u hj => ?_⟩ (by simp) (by dsimp only; omega) (by omega) ?_
        · cases hp
          rw [Addr.add_lit]
          exact hs.rowCell (k := 0) rfl (by simpa [Value.cells] using hj)
        intro ad9 cp9 w9 hs
        replace hs := hs.drop
        obtain ⟨h9, hle9, hs, hS9⟩ := hs.freeze
        have hI9 : IntsAt h9 (.slice ad9 (0 + x5.length + 1) cp9) (x5 ++ [(j : Int)]) := by
          refine IntsAt.of_sl ?_
          rw [List.map_append]; exact hS9
        (refine RW.lit T hs (vs := [.slice ad9 (0 + x5.length + 1) cp9]) rfl rfl rfl rfl (by simp [Value.cells]) rfl rfl rfl rfl rfl ?_; intro b10 w10 hs)
        refine RW.append T hs 1 rfl rfl (m := 1) (news := [.slice ad9 (0 + x5.length + 1) cp9]) rfl rfl rfl rfl rfl rfl ⟨rfl, by simp [Value.oneCell'], by simp, fun p hp j u hj => ?_⟩ (by simp) (by dsimp only; omega) (by omega) ?_
        · cases hp
          rw [Addr.add_lit]
          exact hs.rowCell (k := 0) rfl (by simpa [Value.cells] using hj)
        intro ad11 cp11 w11 hs
        replace hs := hs.drop
        refine Zrun ?_
        have e1 : (ws ++ [Value.slice ad9 (0 + x5.length + 1) cp9]).length = ws.length + 1 := by simp
        refine loopQ_round (j + 1, ad11, cp11, ws ++ [.slice ad9 (0 + x5.length + 1) cp9], h9) ⟨rfl, rfl, rfl, rfl, by dsimp only; rw [e1]; rfl, rfl, rfl, trivial⟩ ⟨by dsimp only; omega, hh4.trans hle9, ?_, ?_⟩ (by dsimp only; omega)
        · dsimp only
          rw [List.range_succ, List.map_append, ← List.append_assoc, List.take_of_length_le (by have := hA4.length; simp only [List.length_append, List.length_map, List.length_range, List.length_cons, List.length_nil] at this ⊢; omega)]
          exact (hA4.mono (fun _ _ => IntsAt.mono hle9)).append ⟨hI9, trivial⟩
        · dsimp only
          rw [e1]; exact hs
      · have hfin : (xs ++ (List.range j).map fun (j : Nat) => x5 ++ [(j : Int)]).take most = ((ls.take (q + 1)).flatMap (allRow (l.getD k 0))).take most := by
          rw [hX, hrow]
          by_cases hjd : (j : Int) < l.getD k 0
          · have hnl : ¬ ((xs ++ (List.range j).map fun (j : Nat) => x5 ++ [(j : Int)]).take most).length < most := by rw [← hwl]; exact fun e => hgo2 ⟨hjd, e⟩
            obtain ⟨e, he⟩ : ∃ e, (l.getD k 0).toNat = j + e := ⟨(l.getD k 0).toNat - j, by omega⟩
            rw [he, List.range_add, List.map_append, ← List.append_assoc, take_full _ _ _ hnl]
          · rw [show (l.getD k 0).toNat = j by omega]
        rw [hfin] at hA4
        by_cases hjd : (j : Int) < l.getD k 0
        · have hwn : ¬ ws.length < most := fun e => hgo2 ⟨hjd, e⟩
          refine Zrun ?_
          exact loopQ_round (q + 1, rb, rd, ws, h4) ⟨rfl, rfl, rfl, rfl, rfl, rfl, trivial⟩ ⟨by dsimp only; omega, hh3.trans hh4, hA4, hs⟩ (by dsimp only; omega)
        · refine Zrun ?_
          exact loopQ_round (q + 1, rb, rd, ws, h4) ⟨rfl, rfl, rfl, rfl, rfl, rfl, trivial⟩ ⟨by dsimp only; omega, hh3.trans hh4, hA4, hs⟩ (by dsimp only; omega)
    · have hfin : ((ls.take q).flatMap (allRow (l.getD k 0))).take most = allSpec most (l.take (k + 1)) := by
        rw [hstep]
        unfold allStep
        by_cases hq1 : q < ls.length
        · have hnl : ¬ (((ls.take q).flatMap (allRow (l.getD k 0))).take most).length < most := by rw [← hvl]; exact fun e => hgo ⟨hq1, e⟩
          have e : ls.flatMap (allRow (l.getD k 0)) = (ls.take q).flatMap (allRow (l.getD k 0)) ++ (ls.drop q).flatMap (allRow (l.getD k 0)) := by rw [← List.flatMap_append, List.take_append_drop]
          rw [e, take_full _ _ _ hnl]
        · rw [List.take_of_length_le (l := ls) (by omega)]
      rw [hfin] at hA3
      obtain ⟨h12, hle12, hs, hS12⟩ := hs.freeze
      have hLn : ListsAt h12 (.slice ra vs.length rc) (allSpec most (l.take (k + 1))) := by
        have hl3 := hA3.length
        refine ⟨ra, rc, vs, by rw [hl3], ?_, hA3.mono (fun _ _ => IntsAt.mono hle12)⟩
        rw [← hl3]; exact hS12
      by_cases hq1 : q < ls.length
      · have hvn : ¬ vs.length < most := fun e => hgo ⟨hq1, e⟩
        refine Zrun ?_
        exact loopQ_round (k + 1, _, h12) ⟨rfl, rfl, rfl, rfl, trivial⟩ ⟨by dsimp only; omega, (hhh.trans hh3).trans hle12, hLn, hs⟩ (by dsimp only; omega)
      · refine Zrun ?_
        exact loopQ_round (k + 1, _, h12) ⟨rfl, rfl, rfl, rfl, trivial⟩ ⟨by dsimp only; omega, (hhh.trans hh3).trans hle12, hLn, hs⟩ (by dsimp only; omega)
  · obtain rfl : k = l.length := by omega
    refine Zrun ?_
    refine retQ_ret [_] hh ⟨rfl, trivial⟩ hs ?_
    rw [show allSpec most l = allSpec most (l.take l.length) by rw [List.take_length]]
    exact hLL
end Go.Proofs.YtmfealaaacmohaaGreat

/-
  Contracts of the document's answer to turns: an axis, an array turned backwards. No statement is proved here.
-/
namespace Go.Proofs.YtmfealaaacmohaaGreat
open Go Go.RowKit
set_option linter.unusedVariables false
set_option linter.unusedSimpArgs false
set_option maxHeartbeats 4000000
attribute [local irreducible] CW RW QW SW HW ConM retM heldQ calmQ elemP thenQ blockQ loopQ joinQ retQ Yields Con Sl zF magR unitF truncF fwF wholeF tidySpec elemQ rankF leastN tidyW
set_option maxHeartbeats 4000000

section
variable {α : Type} {R : GHeap → List Value → α → Prop}
end
end Go.Proofs.YtmfealaaacmohaaGreat

/-
  Contracts of the document's answer to turned axes. No statement is proved here.
-/
namespace Go.Proofs.YtmfealaaacmohaaGreat
open Go Go.RowKit
set_option linter.unusedVariables false
set_option linter.unusedSimpArgs false
set_option maxHeartbeats 4000000
attribute [local irreducible] CW RW QW SW HW ConM retM heldQ calmQ elemP thenQ blockQ loopQ joinQ retQ Yields Con Sl zF magR unitF truncF fwF wholeF tidySpec elemQ rankF leastN tidyW
set_option maxHeartbeats 4000000

theorem to_at {r i : Nat} (h : i < r) : ((turnL r).map (Value.int .i64))[i]? = some (.int .i64 ((r - 1 - i : Nat) : Int)) := by
  rw [List.getElem?_map]
  unfold turnL
  rw [List.getElem?_map, List.getElem?_range h]
  rfl
theorem turn_at {r i : Nat} (h : i < r) : (turnL r).getD i 0 = ((r - 1 - i : Nat) : Int) := by simp [turnL, List.getD_eq_getElem?_getD, h]
/-- the least length along an axis, as it is found -/
def leastS (s : List Int) (k i : Nat) : Int := if s.length - 1 - k < i then s.getD (s.length - 1 - k) 0 else -1
theorem rev_take_succ (s : List Int) (k : Nat) (h : k < s.length) : ((s.reverse.take k ++ List.replicate (s.length - k) 0).map (Value.int .i64)).set k (.int .i64 (leastS s k s.length)) = (s.reverse.take (k + 1) ++ List.replicate (s.length - (k + 1)) 0).map (Value.int .i64) := by
  have hl : leastS s k s.length = s.reverse.getD k 0 := by
    unfold leastS
    rw [if_pos (by omega), getD_reverse s k h]
  have hk : k < s.reverse.length := by rw [List.length_reverse]; exact h
  rw [map_set_int, hl]
  refine congrArg (List.map _) ?_
  rw [take_succ_getD _ _ 0 hk, List.append_assoc, List.set_append_right _ _ (by simp; omega), List.length_take, show k - min k s.reverse.length = 0 by omega]
  rw [show s.length - k = (s.length - (k + 1)) + 1 by omega, List.replicate_succ, List.set_cons_zero]
  rfl
section
variable {α : Type} {R : GHeap → List Value → α → Prop}
theorem refMove_con (hR : Mono R) (cs : List Value) (p : PlainD α) (tv : Value) (w : World) (h : GHeap) (hp : PlainR R h cs p) (hto : IntsAt h tv (turnL p.shape.length)) (hpr : product p.shape 1048576 = ((p.items.length : Int), 0)) (hn1 : p.items.length ≤ 100000) :
    Con Tryz.prog 76 [.agg cs.toArray, tv, .int .i64 (p.shape.length : Int)] w h (fun h' u => ∃ cs', u = .agg cs'.toArray ∧ PlainR R h' cs' (trP p)) := by
  have hRI := ItemAt.mono hR
  obtain ⟨s, it, rfl, hl, ⟨ad2, cp2, xs, rfl, hS2, hA⟩⟩ := hp
  have hl' := hl
  obtain ⟨ad, cp, rfl, hS⟩ := hl
  obtain ⟨adt, cpt, rfl, hST⟩ := hto
  rw [turnL_length] at hST
  have hcap2 := hS2.caps
  have hcap := hS.caps
  obtain ⟨hl8, _⟩ := product_le hpr
  simp only [turnL_length]
  refine Con.of_body Tryz.func76 rfl Tryz.ntmps76 rfl rfl ?_
  intro hs
  refine Zrun ?_
  (refine RW.boxN hs rfl rfl ?_; intro b1 w1 hs)
  (refine RW.allocN T hs rfl rfl rfl rfl ?_; intro b2 w2 hs)
  refine Zerun ?_
  (refine RW.make1 T hs rfl rfl rfl rfl rfl rfl rfl (by dsimp only; omega) (by omega) ?_; intro b4 w4 hs)
  refine Zerun ?_
  refine CW.loop (fun k : Nat => [(1, .slice adt p.shape.length cpt), (2, .int .i64 (p.shape.length : Int)), (3, .pointer (some ⟨b1, 0, none⟩)), (6, .pointer (some ⟨b2, 0, none⟩)), (7, .slice (some ⟨b4, 0, none⟩) p.shape.length p.shape.length), (8, .int .i64 k)]) (fun k w' => k ≤ p.shape.length ∧ Sees w h h [⟨some ⟨b4, 0, none⟩, p.shape.length, p.shape.length, 3, 1, (p.shape.reverse.take k ++ List.replicate (p.shape.length - k) 0).map (Value.int .i64)⟩, ⟨some ⟨b2, 0, none⟩, 1, 1, 25, 3, [.slice none 0 0, .slice none 0 0, .int .i64 0]⟩, ⟨some ⟨b1, 0, none⟩, 1, 1, 25, 3, [.slice ad p.shape.length cp, .slice ad2 p.items.length cp2, .int .i64 p.fill]⟩] w') (fun k => p.shape.length - k) 0 ⟨rfl, rfl, rfl, rfl, rfl, rfl, trivial⟩ ⟨by omega, hs.re (by simp)⟩ ?_
  rintro k w5 ⟨hk, hs⟩
  by_cases hlt : k < p.shape.length
  · refine Zerun ?_
    refine CW.loop (fun i : Nat => [(1, .slice adt p.shape.length cpt), (2, .int .i64 (p.shape.length : Int)), (3, .pointer (some ⟨b1, 0, none⟩)), (6, .pointer (some ⟨b2, 0, none⟩)), (7, .slice (some ⟨b4, 0, none⟩) p.shape.length p.shape.length), (8, .int .i64 k), (9, .int .i64 (leastS p.shape k i)), (10, .int .i64 i)]) (fun i w' => i ≤ p.shape.length ∧ Sees w h h [⟨some ⟨b4, 0, none⟩, p.shape.length, p.shape.length, 3, 1, (p.shape.reverse.take k ++ List.replicate (p.shape.length - k) 0).map (Value.int .i64)⟩, ⟨some ⟨b2, 0, none⟩, 1, 1, 25, 3, [.slice none 0 0, .slice none 0 0, .int .i64 0]⟩, ⟨some ⟨b1, 0, none⟩, 1, 1, 25, 3, [.slice ad p.shape.length cp, .slice ad2 p.items.length cp2, .int .i64 p.fill]⟩] w') (fun i => p.shape.length - i) 0 ⟨rfl, rfl, rfl, rfl, rfl, rfl, seti (by unfold leastS; rw [if_neg (by omega)]), rfl, trivial⟩ ⟨by omega, hs⟩ ?_
    rintro i w6 ⟨hi, hs⟩
    by_cases hlt2 : i < p.shape.length
    · have htg := turn_at hlt2
      by_cases e : p.shape.length - 1 - i = k
      · have hl1 : leastS p.shape k i = -1 := by unfold leastS; rw [if_neg (by omega)]
        have hnx : p.shape.getD i 0 = leastS p.shape k (i + 1) := by unfold leastS; rw [if_pos (by omega), show p.shape.length - 1 - k = i by omega]
        refine Zerun ?_
        exact loopQ_round (i + 1) ⟨rfl, rfl, rfl, rfl, rfl, rfl, seti hnx, rfl, trivial⟩ ⟨by omega, hs⟩ (by omega)
      · have hnx : leastS p.shape k i = leastS p.shape k (i + 1) := by
          unfold leastS
          by_cases c : p.shape.length - 1 - k < i
          · rw [if_pos c, if_pos (by omega)]
          · rw [if_neg c, if_neg (by omega)]
        refine Zerun ?_
        exact loopQ_round (i + 1) ⟨rfl, rfl, rfl, rfl, rfl, rfl, seti hnx, rfl, trivial⟩ ⟨by omega, hs⟩ (by omega)
    · obtain rfl : i = p.shape.length := by omega
      refine Zerun ?_
      refine RW.val (Y.idxRN T hs 0 rfl rfl rfl rfl rfl rfl (by omega)) rfl ?_
      refine RW.st1 T hs 0 rfl rfl rfl rfl rfl rfl rfl (by omega) ?_
      intro w7 hs
      have hs := hs.re (rev_take_succ p.shape k hlt)
      refine Zerun ?_
      exact loopQ_round (k + 1) ⟨rfl, rfl, rfl, rfl, rfl, rfl, trivial⟩ ⟨by omega, hs⟩ (by omega)
  obtain rfl : k = p.shape.length := by omega
  obtain ⟨h5, hle5, hs, hS5⟩ := hs.freeze
  have hI5 : IntsAt h5 (.slice (some ⟨b4, 0, none⟩) p.shape.length p.shape.length) p.shape.reverse := by
    have := hS5
    dsimp only at this
    rw [List.take_of_length_le (by rw [List.length_reverse]; exact Nat.le_refl _), Nat.sub_self, List.replicate_zero, List.append_nil] at this
    have e : p.shape.reverse.length = p.shape.length := List.length_reverse
    rw [← e] at this ⊢
    exact IntsAt.of_sl this
  refine Zerun ?_
  refine RW.val (Y.build T rfl rfl rfl rfl rfl rfl rfl) rfl ?_
  (refine RW.allocN T hs rfl rfl rfl rfl ?_; intro b9 w9 hs)
  (refine RW.storeAll T hs 0 rfl rfl rfl rfl rfl rfl rfl rfl ?_; intro w10 hs)
  refine Zerun ?_
  (refine RW.call T hs rfl rfl rfl (refProduct_con _ p.shape.reverse 1048576 _ _ hI5 (by rw [List.length_reverse]; omega)) ?_; intro v h11 w11 hle11 hp11 hs)
  subst hp11
  rw [product_reverse, hpr]
  by_cases c0 : p.items.length = 0
  · refine Zerun ?_
    (refine RW.storeAll T hs 1 rfl rfl rfl rfl rfl rfl rfl rfl ?_; intro w12 hs)
    refine Zerun ?_
    exact retQ_ret [_] h11 ⟨resN T hs 1 rfl rfl rfl rfl rfl rfl, trivial⟩ hs.dropAll ⟨_, rfl, _, _, rfl, hI5.mono hle11, by
      have e : (trP p).items = [] := by unfold trP; rw [c0]; rfl
      rw [e]; exact RowsAt.nil _⟩
  have hgoodr : goodS p.shape.reverse = true := (goodS_iff _).2 (by rw [product_reverse, hpr])
  have hgood : goodS p.shape = true := (goodS_iff _).2 (by rw [hpr])
  have hall : allSpec p.items.length p.shape.reverse = (List.range p.items.length).map fun (i : Nat) => idxOf p.shape.reverse i := by
    have hpg := product_good _ hgoodr
    rw [product_reverse, hpr] at hpg
    have := all_eq p.items.length p.shape.reverse (p.items.length : Int) (by omega) (congrArg Prod.fst hpg) (fun d hd => (good_le _ hgoodr d hd).1)
    rw [this, Int.toNat_natCast]
  refine Zerun ?_
  (refine RW.call T hs rfl rfl rfl (refAll_con _ p.shape.reverse p.items.length _ _ (hI5.mono hle11) (by rw [List.length_reverse]; exact hl8) hn1 (by omega) hgoodr) ?_; intro v h16 w16 hle16 hp16 hs)
  rw [hall] at hp16
  obtain ⟨ad14, cp14, us, rfl, hS14, hA14⟩ := hp16
  rw [List.length_map, List.length_range] at hS14
  simp only [List.length_map, List.length_range]
  refine Zerun ?_
  have hs := hs.nilRow 73 4
  refine CW.loop (fun u : Nat × Option Addr × Nat × List Value × GHeap => [(1, .slice adt p.shape.length cpt), (3, .pointer (some ⟨b1, 0, none⟩)), (6, .pointer (some ⟨b2, 0, none⟩)), (11, .pointer (some ⟨b9, 0, none⟩)), (12, .int .i64 (p.items.length : Int)), (14, .slice ad14 p.items.length cp14), (15, .int .i64 u.1)]) (fun u w' => u.1 ≤ p.items.length ∧ GLe h16 u.2.2.2.2 ∧ AllN 4 (ItemAt R u.2.2.2.2) u.2.2.2.1 ((List.range u.1).map fun a : Nat => p.items.getD (trOff p.shape a).toNat noItem) ∧ Sees w h u.2.2.2.2 [⟨u.2.1, u.1, u.2.2.1, 73, 4, u.2.2.2.1⟩, ⟨some ⟨b9, 0, none⟩, 1, 1, 25, 3, [.slice (some ⟨b4, 0, none⟩) p.shape.length p.shape.length, .slice u.2.1 u.1 u.2.2.1, .int .i64 p.fill]⟩, ⟨some ⟨b2, 0, none⟩, 1, 1, 25, 3, [.slice none 0 0, .slice none 0 0, .int .i64 0]⟩, ⟨some ⟨b1, 0, none⟩, 1, 1, 25, 3, [.slice ad p.shape.length cp, .slice ad2 p.items.length cp2, .int .i64 p.fill]⟩] w') (fun u => p.items.length - u.1) (0, none, 0, [], h16) ⟨rfl, rfl, rfl, rfl, rfl, rfl, rfl, trivial⟩ ⟨by omega, GLe.refl _, rfl, hs⟩ ?_
  rintro ⟨j, ra, rc, vs, hh⟩ w17 ⟨hj, hg, hAv, hs⟩
  dsimp only at hj hg hAv hs ⊢
  have hSL := hS14.mono hg
  have hSTh := hST.mono hs.le
  by_cases hlt : j < p.items.length
  · obtain ⟨u6, hu6, hI6⟩ := hA14.get [] j (by rw [List.length_map, List.length_range]; exact hlt)
    have hI6 := hI6.mono hg
    rw [getD_map' _ _ _ _ (by rw [List.length_range]; exact hlt), List.getElem_range] at hI6
    have hxl : (idxOf p.shape.reverse (j : Int)).length = p.shape.length := by rw [length_idxOf, List.length_reverse]
    obtain ⟨hat, ht1, ht2⟩ := trOff_at hpr j hlt
    obtain ⟨q, hqe⟩ : ∃ q : Nat, trOff p.shape (j : Int) = (q : Int) := ⟨(trOff p.shape (j : Int)).toNat, by omega⟩
    have hq : q < p.items.length := by omega
    have hplace : (Value.int .i64 (if (atSpec p.shape (idxOf p.shape.reverse (j : Int)).reverse).2 = true then (atSpec p.shape (idxOf p.shape.reverse (j : Int)).reverse).1 else -1)) = .int .i64 (q : Int) := by rw [hat, ← hqe]; rfl
    obtain ⟨y, hy, hyl, hRy⟩ := hA.elem q hq
    rw [getElem_getD _ _ noItem hq] at hRy
    have hoy := ItemAt.one _ _ _ hRy
    have nx : ∀ {h6 : GHeap}, AllN 4 (ItemAt R h6) vs ((List.range j).map fun a : Nat => p.items.getD (trOff p.shape a).toNat noItem) → ItemAt R h6 y (p.items.getD q noItem) → AllN 4 (ItemAt R h6) (vs ++ y) ((List.range (j + 1)).map fun a : Nat => p.items.getD (trOff p.shape a).toNat noItem) := by
      intro h6 ha hr
      rw [List.range_succ, List.map_append]
      refine ha.append (AllN.one hyl ?_)
      show ItemAt R h6 y (p.items.getD (trOff p.shape (j : Int)).toNat noItem)
      rw [hqe, Int.toNat_natCast]
      exact hr
    generalize idxOf p.shape.reverse (j : Int) = X at hI6 hxl hplace
    obtain ⟨ad6, cp6, rfl, hS6⟩ := hI6
    refine Zerun ?_
    have hs := hs.nilRow 3 1
    refine CW.loop (fun u : Nat × Option Addr × Nat => [(1, .slice adt p.shape.length cpt), (3, .pointer (some ⟨b1, 0, none⟩)), (6, .pointer (some ⟨b2, 0, none⟩)), (11, .pointer (some ⟨b9, 0, none⟩)), (12, .int .i64 (p.items.length : Int)), (14, .slice ad14 p.items.length cp14), (15, .int .i64 j), (16, .slice u.2.1 u.1 u.2.2), (17, .int .i64 u.1)]) (fun u w' => u.1 ≤ p.shape.length ∧ Sees w h hh [⟨u.2.1, u.1, u.2.2, 3, 1, (X.reverse.take u.1).map (Value.int .i64)⟩, ⟨ra, j, rc, 73, 4, vs⟩, ⟨some ⟨b9, 0, none⟩, 1, 1, 25, 3, [.slice (some ⟨b4, 0, none⟩) p.shape.length p.shape.length, .slice ra j rc, .int .i64 p.fill]⟩, ⟨some ⟨b2, 0, none⟩, 1, 1, 25, 3, [.slice none 0 0, .slice none 0 0, .int .i64 0]⟩, ⟨some ⟨b1, 0, none⟩, 1, 1, 25, 3, [.slice ad p.shape.length cp, .slice ad2 p.items.length cp2, .int .i64 p.fill]⟩] w') (fun u => p.shape.length - u.1) (0, none, 0) ⟨rfl, rfl, rfl, rfl, rfl, rfl, rfl, rfl, rfl, trivial⟩ ⟨by omega, hs⟩ ?_
    rintro ⟨i, rb, rd⟩ w18 ⟨hi, hs⟩
    dsimp only at hi hs ⊢
    by_cases hri : i < p.shape.length
    · have hto := to_at hri
      have hrj : p.shape.length - 1 - i < X.length := by omega
      have hnx : (X.reverse.take i).map (Value.int .i64) ++ [.int .i64 (X.getD (p.shape.length - 1 - i) 0)] = (X.reverse.take (i + 1)).map (Value.int .i64) := by
        rw [take_succ_getD _ _ 0 (by rw [List.length_reverse]; omega), getD_reverse _ _ (by omega), hxl, List.map_append]
        rfl
      refine Zerun ?_
      refine CW.meetB (fun r : Option Addr × Nat => [(1, .slice adt p.shape.length cpt), (3, .pointer (some ⟨b1, 0, none⟩)), (6, .pointer (some ⟨b2, 0, none⟩)), (11, .pointer (some ⟨b9, 0, none⟩)), (12, .int .i64 (p.items.length : Int)), (14, .slice ad14 p.items.length cp14), (15, .int .i64 j), (16, .slice r.1 (i + 1) r.2), (17, .int .i64 i)]) (fun r w' => Sees w h hh [⟨r.1, i + 1, r.2, 3, 1, (X.reverse.take (i + 1)).map (Value.int .i64)⟩, ⟨ra, j, rc, 73, 4, vs⟩, ⟨some ⟨b9, 0, none⟩, 1, 1, 25, 3, [.slice (some ⟨b4, 0, none⟩) p.shape.length p.shape.length, .slice ra j rc, .int .i64 p.fill]⟩, ⟨some ⟨b2, 0, none⟩, 1, 1, 25, 3, [.slice none 0 0, .slice none 0 0, .int .i64 0]⟩, ⟨some ⟨b1, 0, none⟩, 1, 1, 25, 3, [.slice ad p.shape.length cp, .slice ad2 p.items.length cp2, .int .i64 p.fill]⟩] w') ?_ ?_
      · refine CW.regionG T 4 4 hs rfl rfl ?_
        intro w19 hs
        have hgl := GLe.refl hh
        refine HW.takeG (fuel := 13) 0 rfl (fun _ _ ka kb _ hg hs hka hkb => Y.move rfl) ⟨_, _, 4, 4, hgl, hs, rfl, rfl⟩ rfl (by kernel_rfl) (by kernel_rfl) (by kernel_rfl) ?_
        refine HW.takeG (fuel := 12) 1 rfl (fun _ _ ka kb _ hg hs hka hkb => Y.move rfl) ⟨_, _, 4, 4, hgl, hs, rfl, rfl⟩ rfl (by kernel_rfl) (by kernel_rfl) (by kernel_rfl) ?_
        refine HW.takeG (fuel := 11) 2 rfl (fun _ _ ka kb _ hg hs hka hkb => Y.move rfl) ⟨_, _, 4, 4, hgl, hs, rfl, rfl⟩ rfl (by kernel_rfl) (by kernel_rfl) (by kernel_rfl) ?_
        refine HW.takeG (fuel := 10) 3 rfl (fun _ _ ka kb _ hg hs hka hkb => Y.idxSN T rfl rfl (hSL.mono hg) rfl rfl rfl hlt) ⟨_, _, 4, 4, hgl, hs, rfl, rfl⟩ rfl (by kernel_rfl) (by kernel_rfl) (by kernel_rfl) ?_
        refine HW.takeG (fuel := 9) 4 rfl (fun _ _ ka kb _ hg hs hka hkb => Y.ldS T hs rfl (hSL.mono hg) rfl rfl hlt hu6) ⟨_, _, 4, 4, hgl, hs, rfl, rfl⟩ rfl (by kernel_rfl) (by kernel_rfl) (by kernel_rfl) ?_
        refine HW.takeG (fuel := 8) 5 rfl (fun _ _ ka kb _ hg hs hka hkb => Y.move rfl) ⟨_, _, 4, 4, hgl, hs, rfl, rfl⟩ rfl (by kernel_rfl) (by kernel_rfl) (by kernel_rfl) ?_
        refine HW.takeG (fuel := 7) 6 rfl (fun _ _ ka kb _ hg hs hka hkb => Y.move rfl) ⟨_, _, 4, 4, hgl, hs, rfl, rfl⟩ rfl (by kernel_rfl) (by kernel_rfl) (by kernel_rfl) ?_
        refine HW.takeG (fuel := 6) 7 rfl (fun _ _ ka kb _ hg hs hka hkb => Y.idxSN T rfl rfl (hSTh.mono hg) rfl rfl rfl hri) ⟨_, _, 4, 4, hgl, hs, rfl, rfl⟩ rfl (by kernel_rfl) (by kernel_rfl) (by kernel_rfl) ?_
        refine HW.takeG (fuel := 5) 8 rfl (fun _ _ ka kb _ hg hs hka hkb => Y.ldS T hs rfl (hSTh.mono hg) rfl rfl hri hto) ⟨_, _, 4, 4, hgl, hs, rfl, rfl⟩ rfl (by kernel_rfl) (by kernel_rfl) (by kernel_rfl) ?_
        refine HW.takeG (fuel := 4) 9 rfl (fun _ _ ka kb _ hg hs hka hkb => Y.idxSN T rfl rfl (hS6.mono hg) rfl rfl rfl hrj) ⟨_, _, 4, 4, hgl, hs, rfl, rfl⟩ rfl (by kernel_rfl) (by kernel_rfl) (by kernel_rfl) ?_
        refine HW.takeG (fuel := 3) 10 rfl (fun _ _ ka kb _ hg hs hka hkb => Y.ldInt T hs rfl (hS6.mono hg) rfl rfl hrj) ⟨_, _, 4, 4, hgl, hs, rfl, rfl⟩ rfl (by kernel_rfl) (by kernel_rfl) (by kernel_rfl) ?_
        refine HW.one (fuel := 2) 11 rfl (by kernel_rfl) ?_
        (refine RW.lit T hs (vs := [.int .i64 (X.getD (p.shape.length - 1 - i) 0)]) (cs := [.int .i64 (X.getD (p.shape.length - 1 - i) 0)]) rfl rfl rfl rfl (by simp [Value.cells]) rfl rfl rfl rfl rfl ?_; intro b100 w100 hs)
        refine RW.nil ?_
        refine heldQ_normal ⟨_, _, 5, 5, hgl, hs, rfl, rfl⟩ ?_
        refine HW.one (fuel := 1) 12 rfl (by kernel_rfl) ?_
        (refine RW.append T hs 1 rfl rfl (m := 1) (news := [.int .i64 (X.getD (p.shape.length - 1 - i) 0)]) rfl rfl rfl rfl rfl rfl (hs.src0 rfl (by simp [Value.oneCell'])) (by simp) (by dsimp only; omega) (by omega) ?_; intro ad101 cp101 w101 hs; replace hs := hs.drop)
        refine RW.nil ?_
        refine heldQ_normal ⟨_, _, 4, 4, hgl, hs, rfl, rfl⟩ ?_
        refine HW.takeG (fuel := 0) 13 rfl (fun _ _ ka kb _ hg hs hka hkb => Y.assign rfl) ⟨_, _, 4, 4, hgl, hs, rfl, rfl⟩ rfl (by kernel_rfl) (by kernel_rfl) (by kernel_rfl) ?_
        refine HW.done (by kernel_rfl) ?_
        refine calmQ_normal ?_
        exact blockQ_normal (joinQ_meet (ad101, cp101) ⟨rfl, rfl, rfl, rfl, rfl, rfl, rfl, rfl, rfl, trivial⟩ (hs.re hnx))
      rintro ⟨rb2, rd2⟩ w20 hs
      dsimp only at hs ⊢
      refine Zerun ?_
      exact loopQ_round (i + 1, rb2, rd2) ⟨rfl, rfl, rfl, rfl, rfl, rfl, rfl, rfl, rfl, trivial⟩ ⟨by dsimp only; omega, hs⟩ (by dsimp only; omega)
    obtain rfl : i = p.shape.length := by omega
    obtain ⟨h8, hle8, hs, hS8⟩ := hs.freeze
    have hIx : IntsAt h8 (.slice rb p.shape.length rd) X.reverse := by
      have := hS8
      dsimp only at this
      rw [List.take_of_length_le (by rw [List.length_reverse]; omega)] at this
      have e : X.reverse.length = p.shape.length := by rw [List.length_reverse, hxl]
      rw [← e] at this ⊢
      exact IntsAt.of_sl this
    have hIs := hl'.mono hs.le
    have hAv := hAv.mono (fun u a => hRI _ _ u a hle8)
    refine Zerun ?_
    refine CW.meetB (fun r : Option Addr × Nat × List Value × GHeap => [(1, .slice adt p.shape.length cpt), (3, .pointer (some ⟨b1, 0, none⟩)), (6, .pointer (some ⟨b2, 0, none⟩)), (11, .pointer (some ⟨b9, 0, none⟩)), (12, .int .i64 (p.items.length : Int)), (14, .slice ad14 p.items.length cp14), (15, .int .i64 j)]) (fun r w' => GLe h16 r.2.2.2 ∧ AllN 4 (ItemAt R r.2.2.2) r.2.2.1 ((List.range (j + 1)).map fun a : Nat => p.items.getD (trOff p.shape a).toNat noItem) ∧ Sees w h r.2.2.2 [⟨r.1, j + 1, r.2.1, 73, 4, r.2.2.1⟩, ⟨some ⟨b9, 0, none⟩, 1, 1, 25, 3, [.slice (some ⟨b4, 0, none⟩) p.shape.length p.shape.length, .slice r.1 (j + 1) r.2.1, .int .i64 p.fill]⟩, ⟨some ⟨b2, 0, none⟩, 1, 1, 25, 3, [.slice none 0 0, .slice none 0 0, .int .i64 0]⟩, ⟨some ⟨b1, 0, none⟩, 1, 1, 25, 3, [.slice ad p.shape.length cp, .slice ad2 p.items.length cp2, .int .i64 p.fill]⟩] w') ?_ ?_
    · refine CW.regionR T 3 3 hs rfl rfl ?_
      intro w9 hs
      refine HW.takeR (fuel := 13) 0 rfl (fun _ _ ka kb _ hs hka hkb => Y.fieldAddr T rfl rfl rfl rfl rfl) ⟨_, _, 3, 3, hs, rfl, rfl⟩ rfl (by kernel_rfl) (by kernel_rfl) (by kernel_rfl) ?_
      refine HW.takeR (fuel := 12) 2 rfl (fun _ _ ka kb _ hs hka hkb => Y.fieldAddr T rfl rfl rfl rfl rfl) ⟨_, _, 3, 3, hs, rfl, rfl⟩ rfl (by kernel_rfl) (by kernel_rfl) (by kernel_rfl) ?_
      refine HW.takeR (fuel := 11) 3 rfl (fun _ _ ka kb _ hs hka hkb => Y.loadRow1 T hs ka hka rfl rfl rfl rfl) ⟨_, _, 3, 3, hs, rfl, rfl⟩ rfl (by kernel_rfl) (by kernel_rfl) (by kernel_rfl) ?_
      refine HW.takeR (fuel := 10) 4 rfl (fun _ _ ka kb _ hs hka hkb => Y.fieldAddr T rfl rfl rfl rfl rfl) ⟨_, _, 3, 3, hs, rfl, rfl⟩ rfl (by kernel_rfl) (by kernel_rfl) (by kernel_rfl) ?_
      refine HW.takeR (fuel := 9) 5 rfl (fun _ _ ka kb _ hs hka hkb => Y.loadRow1 T hs ka hka rfl rfl rfl rfl) ⟨_, _, 3, 3, hs, rfl, rfl⟩ rfl (by kernel_rfl) (by kernel_rfl) (by kernel_rfl) ?_
      refine HW.takeR (fuel := 8) 6 rfl (fun _ _ ka kb _ hs hka hkb => Y.move rfl) ⟨_, _, 3, 3, hs, rfl, rfl⟩ rfl (by kernel_rfl) (by kernel_rfl) (by kernel_rfl) ?_
      refine HW.two (fuel := 7) 1 7 rfl rfl (by kernel_rfl) ?_ ?_
      · refine RW.val (Y.loadRow1 T hs 1 rfl rfl rfl rfl rfl) rfl ?_
        refine RW.nil ?_
        refine heldQ_normal ⟨_, _, 3, 3, hs, rfl, rfl⟩ ?_
        refine HW.one (fuel := 6) 7 rfl (by kernel_rfl) ?_
        (refine RW.call T hs rfl rfl rfl (place_con _ _ p.shape X.reverse _ _ hIs hIx (by omega)) ?_; intro v h109 w109 hle109 hp109 hs)
        rw [hplace] at hp109
        subst hp109
        have hIs := hIs.mono hle109
        have hIx := hIx.mono hle109
        have hAv := hAv.mono (fun u a => hRI _ _ u a hle109)
        refine RW.nil ?_
        refine heldQ_normal ⟨_, _, 3, 3, hs, rfl, rfl⟩ ?_
        refine HW.takeR (fuel := 5) 8 rfl (fun _ _ ka kb _ hs hka hkb => Y.idxSN T rfl rfl (hS2.mono hs.le) rfl rfl rfl hq) ⟨_, _, 3, 3, hs, rfl, rfl⟩ rfl (by kernel_rfl) (by kernel_rfl) (by kernel_rfl) ?_
        refine HW.takeR (fuel := 4) 9 rfl (fun _ _ ka kb _ hs hka hkb => Y.ldSN T hs rfl (hS2.mono hs.le) rfl rfl rfl rfl hq hy hyl) ⟨_, _, 3, 3, hs, rfl, rfl⟩ rfl (by kernel_rfl) (by kernel_rfl) (by kernel_rfl) ?_
        refine HW.one (fuel := 3) 10 rfl (by kernel_rfl) ?_
        (refine RW.lit T hs (vs := [.agg y.toArray]) (cs := y) rfl rfl rfl rfl (by simp [Value.cells, hyl]) rfl (by simp [Value.cells]) rfl rfl rfl ?_; intro b112 w112 hs)
        refine RW.nil ?_
        refine heldQ_normal ⟨_, _, 4, 4, hs, rfl, rfl⟩ ?_
        refine HW.one (fuel := 2) 11 rfl (by kernel_rfl) ?_
        (refine RW.append T hs 1 rfl rfl (m := 1) (news := y) rfl rfl rfl rfl rfl rfl (hs.src0 (by simpa using hyl) hoy) (by simp) (by dsimp only; omega) (by omega) ?_; intro ad113 cp113 w113 hs; replace hs := hs.drop)
        refine RW.nil ?_
        refine heldQ_normal ⟨_, _, 3, 3, hs, rfl, rfl⟩ ?_
        refine HW.takeR (fuel := 1) 12 rfl (fun _ _ ka kb _ hs hka hkb => Y.fieldAddr T rfl rfl rfl rfl rfl) ⟨_, _, 3, 3, hs, rfl, rfl⟩ rfl (by kernel_rfl) (by kernel_rfl) (by kernel_rfl) ?_
        refine HW.one (fuel := 0) 13 rfl (by kernel_rfl) ?_
        (refine RW.store1 T hs 1 rfl rfl rfl rfl rfl rfl rfl rfl ?_; intro w114 hs)
        refine RW.nil ?_
        refine heldQ_normal ⟨_, _, 3, 3, hs, rfl, rfl⟩ ?_
        refine HW.done (by kernel_rfl) ?_
        refine calmQ_normal ?_
        exact blockQ_normal (joinQ_meet (ad113, cp113, vs ++ y, h109) ⟨rfl, rfl, rfl, rfl, rfl, rfl, rfl, trivial⟩ ⟨(hg.trans hle8).trans hle109, nx hAv (hRI _ _ _ _ hs.le hRy), hs⟩)
      · (refine RW.call T hs rfl rfl rfl (place_con _ _ p.shape X.reverse _ _ hIs hIx (by omega)) ?_; intro v h109 w109 hle109 hp109 hs)
        rw [hplace] at hp109
        subst hp109
        have hIs := hIs.mono hle109
        have hIx := hIx.mono hle109
        have hAv := hAv.mono (fun u a => hRI _ _ u a hle109)
        refine RW.nil ?_
        refine heldQ_normal ⟨_, _, 3, 3, hs, rfl, rfl⟩ ?_
        refine HW.takeR (fuel := 6) 8 rfl (fun _ _ ka kb _ hs hka hkb => Y.idxSN T rfl rfl (hS2.mono hs.le) rfl rfl rfl hq) ⟨_, _, 3, 3, hs, rfl, rfl⟩ rfl (by kernel_rfl) (by kernel_rfl) (by kernel_rfl) ?_
        refine HW.takeR (fuel := 5) 9 rfl (fun _ _ ka kb _ hs hka hkb => Y.ldSN T hs rfl (hS2.mono hs.le) rfl rfl rfl rfl hq hy hyl) ⟨_, _, 3, 3, hs, rfl, rfl⟩ rfl (by kernel_rfl) (by kernel_rfl) (by kernel_rfl) ?_
        refine HW.two (fuel := 4) 1 10 rfl rfl (by kernel_rfl) ?_ ?_
        · refine RW.val (Y.loadRow1 T hs 1 rfl rfl rfl rfl rfl) rfl ?_
          refine RW.nil ?_
          refine heldQ_normal ⟨_, _, 3, 3, hs, rfl, rfl⟩ ?_
          refine HW.one (fuel := 3) 10 rfl (by kernel_rfl) ?_
          (refine RW.lit T hs (vs := [.agg y.toArray]) (cs := y) rfl rfl rfl rfl (by simp [Value.cells, hyl]) rfl (by simp [Value.cells]) rfl rfl rfl ?_; intro b112 w112 hs)
          refine RW.nil ?_
          refine heldQ_normal ⟨_, _, 4, 4, hs, rfl, rfl⟩ ?_
          refine HW.one (fuel := 2) 11 rfl (by kernel_rfl) ?_
          (refine RW.append T hs 1 rfl rfl (m := 1) (news := y) rfl rfl rfl rfl rfl rfl (hs.src0 (by simpa using hyl) hoy) (by simp) (by dsimp only; omega) (by omega) ?_; intro ad113 cp113 w113 hs; replace hs := hs.drop)
          refine RW.nil ?_
          refine heldQ_normal ⟨_, _, 3, 3, hs, rfl, rfl⟩ ?_
          refine HW.takeR (fuel := 1) 12 rfl (fun _ _ ka kb _ hs hka hkb => Y.fieldAddr T rfl rfl rfl rfl rfl) ⟨_, _, 3, 3, hs, rfl, rfl⟩ rfl (by kernel_rfl) (by kernel_rfl) (by kernel_rfl) ?_
          refine HW.one (fuel := 0) 13 rfl (by kernel_rfl) ?_
          (refine RW.store1 T hs 1 rfl rfl rfl rfl rfl rfl rfl rfl ?_; intro w114 hs)
          refine RW.nil ?_
          refine heldQ_normal ⟨_, _, 3, 3, hs, rfl, rfl⟩ ?_
          refine HW.done (by kernel_rfl) ?_
          refine calmQ_normal ?_
          exact blockQ_normal (joinQ_meet (ad113, cp113, vs ++ y, h109) ⟨rfl, rfl, rfl, rfl, rfl, rfl, rfl, trivial⟩ ⟨(hg.trans hle8).trans hle109, nx hAv (hRI _ _ _ _ hs.le hRy), hs⟩)
        · (refine RW.lit T hs (vs := [.agg y.toArray]) (cs := y) rfl rfl rfl rfl (by simp [Value.cells, hyl]) rfl (by simp [Value.cells]) rfl rfl rfl ?_; intro b112 w112 hs)
          refine RW.nil ?_
          refine heldQ_normal ⟨_, _, 4, 4, hs, rfl, rfl⟩ ?_
          refine HW.one (fuel := 3) 1 rfl (by kernel_rfl) ?_
          refine RW.val (Y.loadRow1 T hs 2 rfl rfl rfl rfl rfl) rfl ?_
          refine RW.nil ?_
          refine heldQ_normal ⟨_, _, 4, 4, hs, rfl, rfl⟩ ?_
          refine HW.one (fuel := 2) 11 rfl (by kernel_rfl) ?_
          (refine RW.append T hs 1 rfl rfl (m := 1) (news := y) rfl rfl rfl rfl rfl rfl (hs.src0 (by simpa using hyl) hoy) (by simp) (by dsimp only; omega) (by omega) ?_; intro ad113 cp113 w113 hs; replace hs := hs.drop)
          refine RW.nil ?_
          refine heldQ_normal ⟨_, _, 3, 3, hs, rfl, rfl⟩ ?_
          refine HW.takeR (fuel := 1) 12 rfl (fun _ _ ka kb _ hs hka hkb => Y.fieldAddr T rfl rfl rfl rfl rfl) ⟨_, _, 3, 3, hs, rfl, rfl⟩ rfl (by kernel_rfl) (by kernel_rfl) (by kernel_rfl) ?_
          refine HW.one (fuel := 0) 13 rfl (by kernel_rfl) ?_
          (refine RW.store1 T hs 1 rfl rfl rfl rfl rfl rfl rfl rfl ?_; intro w114 hs)
          refine RW.nil ?_
          refine heldQ_normal ⟨_, _, 3, 3, hs, rfl, rfl⟩ ?_
          refine HW.done (by kernel_rfl) ?_
          refine calmQ_normal ?_
          exact blockQ_normal (joinQ_meet (ad113, cp113, vs ++ y, h109) ⟨rfl, rfl, rfl, rfl, rfl, rfl, rfl, trivial⟩ ⟨(hg.trans hle8).trans hle109, nx hAv (hRI _ _ _ _ hs.le hRy), hs⟩)
    rintro ⟨ra2, rc2, vs2, h9⟩ w9 ⟨hg9, hAv9, hs⟩
    dsimp only at hg9 hAv9 hs ⊢
    refine Zerun ?_
    exact loopQ_round (j + 1, ra2, rc2, vs2, h9) ⟨rfl, rfl, rfl, rfl, rfl, rfl, rfl, trivial⟩ ⟨by dsimp only; omega, hg9, hAv9, hs⟩ (by dsimp only; omega)
  · obtain rfl : j = p.items.length := by omega
    obtain ⟨h6, hle6, hs, hS6⟩ := hs.freeze
    refine Zerun ?_
    (refine RW.storeAll T hs 1 rfl rfl rfl rfl rfl rfl rfl rfl ?_; intro w7 hs)
    refine Zerun ?_
    exact retQ_ret [_] h6 ⟨resN T hs 1 rfl rfl rfl rfl rfl rfl, trivial⟩ hs.dropAll ⟨_, rfl, _, _, rfl, (hI5.mono hle11).mono ((hle16.trans hg).trans hle6), ra, rc, vs, by simp [trP], by simpa [trP] using hS6, hAv.mono (fun u a => hRI _ _ u a hle6)⟩
theorem refTranspose_con (hR : Mono R) (cs : List Value) (p : PlainD α) (w : World) (h : GHeap) (hp : PlainR R h cs p) (hpr : product p.shape 1048576 = ((p.items.length : Int), 0)) (hn1 : p.items.length ≤ 100000) :
    Con Tryz.prog 29 [.agg cs.toArray] w h (fun h' u => ∃ cs', u = .agg cs'.toArray ∧ PlainR R h' cs' (trP p)) := by
  have hp' := hp
  obtain ⟨s, it, rfl, hl, ⟨ad2, cp2, xs, rfl, hS2, hA⟩⟩ := hp
  obtain ⟨ad, cp, rfl, hS⟩ := hl
  have hcap2 := hS2.caps
  have hcap := hS.caps
  obtain ⟨hl8, _⟩ := product_le hpr
  refine Con.of_body Tryz.func29 rfl Tryz.ntmps29 rfl rfl ?_
  intro hs
  refine Zrun ?_
  (refine RW.boxN hs rfl rfl ?_; intro b1 w1 hs)
  (refine RW.allocN T hs rfl rfl rfl rfl ?_; intro b2 w2 hs)
  refine Zerun ?_
  have hs := hs.nilRow 3 1
  refine CW.loop (fun u : Nat × Option Addr × Nat => [(1, .pointer (some ⟨b1, 0, none⟩)), (2, .pointer (some ⟨b2, 0, none⟩)), (3, .slice u.2.1 u.1 u.2.2), (4, .int .i64 ((p.shape.length : Int) - 1 - u.1))]) (fun u w' => u.1 ≤ p.shape.length ∧ Sees w h h [⟨u.2.1, u.1, u.2.2, 3, 1, ((turnL p.shape.length).take u.1).map (Value.int .i64)⟩, ⟨some ⟨b2, 0, none⟩, 1, 1, 25, 3, [.slice none 0 0, .slice none 0 0, .int .i64 0]⟩, ⟨some ⟨b1, 0, none⟩, 1, 1, 25, 3, [.slice ad p.shape.length cp, .slice ad2 p.items.length cp2, .int .i64 p.fill]⟩] w') (fun u => p.shape.length - u.1) (0, none, 0) ⟨rfl, rfl, rfl, seti (by simp), trivial⟩ ⟨by omega, hs⟩ ?_
  rintro ⟨c, ra, rc⟩ w5 ⟨hc, hs⟩
  dsimp only at hc hs ⊢
  by_cases hlt : c < p.shape.length
  · have hnx : ((turnL p.shape.length).take c).map (Value.int .i64) ++ [.int .i64 ((p.shape.length : Int) - 1 - c)] = ((turnL p.shape.length).take (c + 1)).map (Value.int .i64) := by
      rw [take_succ_getD _ _ 0 (by rw [turnL_length]; exact hlt), turn_at hlt, List.map_append]
      rw [show ((p.shape.length - 1 - c : Nat) : Int) = (p.shape.length : Int) - 1 - c by omega]
      rfl
    refine Zerun ?_
    (refine RW.lit T hs (vs := [.int .i64 ((p.shape.length : Int) - 1 - c)]) (cs := [.int .i64 ((p.shape.length : Int) - 1 - c)]) rfl rfl rfl rfl (by simp [Value.cells]) rfl rfl rfl rfl rfl ?_; intro b6 w6 hs)
    (refine RW.append T hs 1 rfl rfl (m := 1) (news := [.int .i64 ((p.shape.length : Int) - 1 - c)]) rfl rfl rfl rfl rfl rfl (hs.src0 rfl (by simp [Value.oneCell'])) (by simp) (by dsimp only; omega) (by omega) ?_; intro ad7 cp7 w7 hs; replace hs := hs.drop)
    refine Zerun ?_
    exact loopQ_round (c + 1, ad7, cp7) ⟨rfl, rfl, rfl, seti (by dsimp only; omega), trivial⟩ ⟨by dsimp only; omega, hs.re hnx⟩ (by dsimp only; omega)
  · obtain rfl : c = p.shape.length := by omega
    rw [List.take_of_length_le (by rw [turnL_length]; exact Nat.le_refl _)] at hs
    obtain ⟨h6, hle6, hs, hS6⟩ := hs.freeze
    have hI6 : IntsAt h6 (.slice ra p.shape.length rc) (turnL p.shape.length) := by
      have := hS6
      dsimp only at this
      have e : (turnL p.shape.length).length = p.shape.length := turnL_length _
      generalize turnL p.shape.length = Z at *
      rw [← e] at this ⊢
      exact IntsAt.of_sl this
    have hp' := PlainR.mono hR _ _ _ _ hs.le hp'
    refine Zerun ?_
    (refine RW.call T hs rfl rfl rfl (refMove_con hR _ p _ _ _ hp' hI6 hpr hn1) ?_; intro v h8 w8 hle8 hp8 hs)
    obtain ⟨cs8, rfl, hq8⟩ := hp8
    obtain ⟨s8, it8, rfl, ⟨ad8, cp8, rfl, _⟩, ⟨adI8, cpI8, xsI8, rfl, _, _⟩⟩ := id hq8
    refine Zerun ?_
    (refine RW.storeAll T hs 0 rfl rfl rfl rfl rfl rfl rfl rfl ?_; intro w9 hs)
    refine Zerun ?_
    exact retQ_ret [_] h8 ⟨resN T hs 0 rfl rfl rfl rfl rfl rfl, trivial⟩ hs.dropAll ⟨_, rfl, hq8⟩
end
end Go.Proofs.YtmfealaaacmohaaGreat

/-
  Contracts of package turn: axes in the other order. No statement is proved here.
-/
namespace Go.Proofs.YtmfealaaacmohaaGreat
open Go Go.RowKit
set_option linter.unusedVariables false
set_option linter.unusedSimpArgs false
set_option maxHeartbeats 4000000
attribute [local irreducible] CW RW QW SW HW ConM retM heldQ calmQ elemP thenQ blockQ loopQ joinQ retQ Yields Con Sl zF magR unitF truncF fwF wholeF tidySpec elemQ rankF leastN tidyW
set_option maxHeartbeats 4000000

theorem back_set {γ : Type} (z x : γ) (B : List γ) (m : Nat) : (List.replicate (m + 1) z ++ B).set m x = List.replicate m z ++ x :: B := by
  rw [List.replicate_succ', List.append_assoc, List.set_append_right _ _ (by simp), List.length_replicate, Nat.sub_self]
  rfl
theorem back_at {γ : Type} (z : γ) (B : List γ) (m : Nat) : (List.replicate (m + 1) z ++ B)[m]? = some z := by
  rw [List.getElem?_append_left (by simp), List.getElem?_replicate, if_pos (by omega)]
theorem rev_cons (l : List Int) (i : Nat) (h : i < l.length) : (l.take (i + 1)).reverse = l.getD i 0 :: (l.take i).reverse := by
  rw [take_succ_getD _ _ 0 h, List.reverse_append]; rfl
theorem back_step (l : List Int) (i : Nat) (z : Int) (h : i < l.length) : ((List.replicate (l.length - i) z ++ (l.take i).reverse).map (Value.int .i64)).set (l.length - 1 - i) (.int .i64 (l.getD i 0)) = (List.replicate (l.length - (i + 1)) z ++ (l.take (i + 1)).reverse).map (Value.int .i64) := by
  rw [map_set_int, rev_cons l i h, show l.length - i = (l.length - 1 - i) + 1 by omega, back_set, show l.length - (i + 1) = l.length - 1 - i by omega]
theorem back_get (l : List Int) (i : Nat) (z : Int) (h : i < l.length) : ((List.replicate (l.length - i) z ++ (l.take i).reverse).map (Value.int .i64))[l.length - 1 - i]? = some (.int .i64 z) := by
  rw [List.getElem?_map, show l.length - i = (l.length - 1 - i) + 1 by omega, back_at]; rfl
theorem idxOf_zero : ∀ s : List Int, idxOf s 0 = List.replicate s.length 0
  | [] => rfl
  | d :: s => by simp [idxOf, idxOf_zero s, List.replicate_succ]
theorem trL_set (s : List Int) (n i : Nat) (h : i < n) : (((trL s n).take i ++ List.replicate (n - i) 0).map (Value.int .i64)).set i (.int .i64 (trOff s i)) = ((trL s n).take (i + 1) ++ List.replicate (n - (i + 1)) 0).map (Value.int .i64) := by
  have hl := trL_len s n
  rw [map_set_int, take_succ_getD _ _ 0 (by omega), List.append_assoc, List.set_append_right _ _ (by simp; omega), List.length_take, show i - min i (trL s n).length = 0 by omega, show n - i = (n - (i + 1)) + 1 by omega, List.replicate_succ, List.set_cons_zero]
  have : (trL s n).getD i 0 = trOff s i := by unfold trL; rw [getD_map' _ _ _ _ (by rw [List.length_range]; exact h), List.getElem_range]
  rw [this]
  rfl
section
variable {α : Type} {R : GHeap → List Value → α → Prop}
theorem turnMove_con (hR : Mono R) (h1 : One R) (h9 : Siz 9 R) (nb : α) (hbl : ∀ w h, Con Tryz.prog 159 [] w h (fun h' u => ∃ cs', u = .agg cs'.toArray ∧ R h' cs' nb)) (cs : List Value) (a : ArrD α) (tv : Value) (w : World) (h : GHeap) (ha : ArrR R h cs a) (hto : IntsAt h tv (turnL a.shape.length)) (hp : product a.shape 1048576 = ((a.vec.len : Int), 0)) (hvm : a.vec.len ≤ 1048576) (hk0 : a.vec.kind ≠ 0) :
    Con Tryz.prog 75 [.agg cs.toArray, tv, .int .i64 (a.shape.length : Int)] w h (fun h' u => ∃ cs', u = .agg cs'.toArray ∧ ArrR R h' cs' (trV a nb)) := by
  obtain ⟨s, vc, rfl, hI, hv⟩ := ha
  have hI' := hI
  have hv' := hv
  obtain ⟨ad, cp, rfl, hS⟩ := hI
  obtain ⟨wv, nv, sm, il, fl, ch, bx, ⟨rfl, hoc⟩, _⟩ := hv
  have hcap := hS.caps
  obtain ⟨adt, cpt, rfl, hST⟩ := hto
  rw [turnL_length] at hST
  simp only [turnL_length]
  obtain ⟨hl8, _⟩ := product_le hp
  have hgood : goodS a.shape = true := (goodS_iff _).2 (by rw [hp])
  have hprb := ((goodS_spec a.shape).1 hgood).2.2
  refine Con.of_body Tryz.func75 rfl Tryz.ntmps75 rfl rfl ?_
  intro hs
  refine Zrun ?_
  (refine RW.boxN hs rfl rfl ?_; intro b1 w1 hs)
  (refine RW.allocN T hs rfl rfl rfl rfl ?_; intro b2 w2 hs)
  refine Zerun ?_
  (refine RW.make1 T hs rfl rfl rfl rfl rfl rfl rfl (by dsimp only; omega) (by omega) ?_; intro b3 w3 hs)
  refine Zerun ?_
  (refine RW.make1 T hs rfl rfl rfl rfl rfl rfl rfl (by dsimp only; omega) (by omega) ?_; intro b4 w4 hs)
  refine Zerun ?_
  refine CW.loop (fun i : Nat => [(1, .slice adt a.shape.length cpt), (2, .int .i64 (a.shape.length : Int)), (3, .pointer (some ⟨b1, 0, none⟩)), (6, .pointer (some ⟨b2, 0, none⟩)), (7, .slice (some ⟨b3, 0, none⟩) a.shape.length a.shape.length), (8, .slice (some ⟨b4, 0, none⟩) a.shape.length a.shape.length), (27, .int .i64 (a.shape.length : Int)), (28, .int .i64 i)]) (fun i w' => i ≤ a.shape.length ∧ Sees w h h [⟨some ⟨b4, 0, none⟩, a.shape.length, a.shape.length, 3, 1, (List.replicate a.shape.length 0).map (Value.int .i64)⟩, ⟨some ⟨b3, 0, none⟩, a.shape.length, a.shape.length, 3, 1, (List.replicate i (-1) ++ List.replicate (a.shape.length - i) 0).map (Value.int .i64)⟩, ⟨some ⟨b2, 0, none⟩, 1, 1, 39, 9, [.slice none 0 0, .int .i64 0, .slice none 0 0, .int .i64 0, .slice none 0 0, .slice none 0 0, .slice none 0 0, .slice none 0 0, .slice none 0 0]⟩, ⟨some ⟨b1, 0, none⟩, 1, 1, 39, 9, .slice ad a.shape.length cp :: vecCells a.vec.kind wv nv sm il fl ch bx⟩] w') (fun i => a.shape.length - i) 0 ⟨rfl, rfl, rfl, rfl, rfl, rfl, rfl, rfl, trivial⟩ ⟨by omega, (hs.swap.re (by simp)).swap.re (by simp)⟩ ?_
  rintro i w5 ⟨hi, hs⟩
  by_cases hlt : i < a.shape.length
  · refine Zerun ?_
    refine RW.val (Y.idxRN T hs 1 rfl rfl rfl rfl rfl rfl (by omega)) rfl ?_
    refine RW.st1 T hs 1 rfl rfl rfl rfl rfl rfl rfl (by omega) ?_
    intro w6 hs
    refine Zerun ?_
    refine loopQ_round (i + 1) ⟨rfl, rfl, rfl, rfl, rfl, rfl, rfl, rfl, trivial⟩ ⟨by omega, (hs.swap.re ?_).swap⟩ (by omega)
    rw [map_set_int]
    refine congrArg (List.map _) ?_
    rw [List.set_append_right _ _ (by simp), List.length_replicate, Nat.sub_self, show a.shape.length - i = (a.shape.length - (i + 1)) + 1 by omega, List.replicate_succ, List.set_cons_zero, List.replicate_succ', List.append_assoc]
    rfl
  obtain rfl : i = a.shape.length := by omega
  refine Zerun ?_
  have hs := (hs.swap.re (ys := (List.replicate (a.shape.length - 0) (-1) ++ ((a.shape.take 0).reverse)).map (Value.int .i64)) (by simp)).swap.re (ys := (List.replicate (a.shape.length - 0) 0 ++ (((stridesOf a.shape).take 0).reverse)).map (Value.int .i64)) (by simp)
  (refine RW.call T hs rfl rfl rfl (strides_con _ a.shape _ _ hI' (by omega)) ?_; intro v h8 w8 hle8 hp8 hs)
  rw [if_pos hgood] at hp8
  obtain ⟨ad10, cp10, rfl, hS8⟩ := hp8
  rw [length_stridesOf] at hS8
  simp only [length_stridesOf]
  have hSh := hS.mono hle8
  have hSTh := hST.mono hle8
  refine Zerun ?_
  refine CW.loop (fun i : Nat => [(1, .slice adt a.shape.length cpt), (2, .int .i64 (a.shape.length : Int)), (3, .pointer (some ⟨b1, 0, none⟩)), (6, .pointer (some ⟨b2, 0, none⟩)), (7, .slice (some ⟨b3, 0, none⟩) a.shape.length a.shape.length), (8, .slice (some ⟨b4, 0, none⟩) a.shape.length a.shape.length), (10, .slice ad10 a.shape.length cp10), (38, .slice adt a.shape.length cpt), (39, .int .i64 (a.shape.length : Int)), (40, .int .i64 i)]) (fun i w' => i ≤ a.shape.length ∧ Sees w h h8 [⟨some ⟨b4, 0, none⟩, a.shape.length, a.shape.length, 3, 1, (List.replicate (a.shape.length - i) 0 ++ ((stridesOf a.shape).take i).reverse).map (Value.int .i64)⟩, ⟨some ⟨b3, 0, none⟩, a.shape.length, a.shape.length, 3, 1, (List.replicate (a.shape.length - i) (-1) ++ (a.shape.take i).reverse).map (Value.int .i64)⟩, ⟨some ⟨b2, 0, none⟩, 1, 1, 39, 9, [.slice none 0 0, .int .i64 0, .slice none 0 0, .int .i64 0, .slice none 0 0, .slice none 0 0, .slice none 0 0, .slice none 0 0, .slice none 0 0]⟩, ⟨some ⟨b1, 0, none⟩, 1, 1, 39, 9, .slice ad a.shape.length cp :: vecCells a.vec.kind wv nv sm il fl ch bx⟩] w') (fun i => a.shape.length - i) 0 ⟨rfl, rfl, rfl, rfl, rfl, rfl, rfl, rfl, rfl, rfl, trivial⟩ ⟨by omega, hs⟩ ?_
  rintro i w5 ⟨hi, hs⟩
  by_cases hlt : i < a.shape.length
  · have htg := turn_at hlt
    have hv48 := back_get a.shape i (-1) hlt
    have hnx1 := back_step a.shape i (-1) hlt
    have hv73 := back_get (stridesOf a.shape) i 0 (by rw [length_stridesOf]; exact hlt)
    have hnx2 := back_step (stridesOf a.shape) i 0 (by rw [length_stridesOf]; exact hlt)
    rw [length_stridesOf] at hv73 hnx2
    rw [← Int.zero_add ((stridesOf a.shape).getD i 0)] at hnx2
    have hstb : 1 ≤ (stridesOf a.shape).getD i 0 ∧ (stridesOf a.shape).getD i 0 ≤ 1048576 := by
      rw [getD_stridesOf a.shape i hlt]
      have h1 := pr_pos (a.shape.drop (i + 1))
      have h2 := pr_drop_le a.shape (i + 1)
      omega
    refine Zerun ?_
    refine CW.has (M := [(1, .slice adt a.shape.length cpt), (2, .int .i64 (a.shape.length : Int)), (3, .pointer (some ⟨b1, 0, none⟩)), (6, .pointer (some ⟨b2, 0, none⟩)), (7, .slice (some ⟨b3, 0, none⟩) a.shape.length a.shape.length), (8, .slice (some ⟨b4, 0, none⟩) a.shape.length a.shape.length), (10, .slice ad10 a.shape.length cp10), (11, .int .i64 i), (12, .int .i64 ((a.shape.length - 1 - i : Nat) : Int)), (38, .slice adt a.shape.length cpt), (39, .int .i64 (a.shape.length : Int)), (40, .int .i64 i)]) ⟨rfl, rfl, rfl, rfl, rfl, rfl, rfl, rfl, seti htg, rfl, rfl, rfl, trivial⟩ ?_
    refine CW.regionO T hs ?_
    intro w6 hs
    refine HW.takeS (fuel := 16) 0 rfl (fun _ _ hs => Y.move rfl) hs rfl (by kernel_rfl) (by kernel_rfl) (by kernel_rfl) ?_
    refine HW.takeS (fuel := 15) 1 rfl (fun _ _ hs => Y.move rfl) hs rfl (by kernel_rfl) (by kernel_rfl) (by kernel_rfl) ?_
    refine HW.takeS (fuel := 14) 2 rfl (fun _ _ hs => Y.idxRN T hs 1 rfl rfl rfl rfl rfl rfl (by omega)) hs rfl (by kernel_rfl) (by kernel_rfl) (by kernel_rfl) ?_
    refine HW.takeS (fuel := 13) 3 rfl (fun _ _ hs => Y.ldR T hs 1 rfl rfl rfl rfl (by omega) hv48) hs rfl (by kernel_rfl) (by kernel_rfl) (by kernel_rfl) ?_
    refine HW.takeS (fuel := 12) 4 rfl (fun _ _ hs => Y.lss rfl rfl) hs rfl (by kernel_rfl) (by kernel_rfl) (by kernel_rfl) ?_
    refine HW.takeS (fuel := 11) 5 rfl (fun _ _ hs => Y.move rfl) hs rfl (by kernel_rfl) (by kernel_rfl) (by kernel_rfl) ?_
    refine HW.takeSN (fuel := 10) 6 rfl rfl rfl rfl hs rfl (by kernel_rfl) (by kernel_rfl) (by kernel_rfl) ?_
    refine HW.takeSN (fuel := 9) 7 rfl rfl rfl rfl hs rfl (by kernel_rfl) (by kernel_rfl) (by kernel_rfl) ?_
    refine HW.takeSN (fuel := 8) 8 rfl rfl rfl rfl hs rfl (by kernel_rfl) (by kernel_rfl) (by kernel_rfl) ?_
    refine HW.takeSN (fuel := 7) 9 rfl rfl rfl rfl hs rfl (by kernel_rfl) (by kernel_rfl) (by kernel_rfl) ?_
    refine HW.takeSN (fuel := 6) 10 rfl rfl rfl rfl hs rfl (by kernel_rfl) (by kernel_rfl) (by kernel_rfl) ?_
    refine HW.takeSN (fuel := 5) 11 rfl rfl rfl rfl hs rfl (by kernel_rfl) (by kernel_rfl) (by kernel_rfl) ?_
    refine HW.takeSN (fuel := 4) 12 rfl rfl rfl rfl hs rfl (by kernel_rfl) (by kernel_rfl) (by kernel_rfl) ?_
    refine HW.takeSN (fuel := 3) 13 rfl rfl rfl rfl hs rfl (by kernel_rfl) (by kernel_rfl) (by kernel_rfl) ?_
    refine HW.takeSN (fuel := 2) 14 rfl rfl rfl rfl hs rfl (by kernel_rfl) (by kernel_rfl) (by kernel_rfl) ?_
    refine HW.takeSN (fuel := 1) 15 rfl rfl rfl rfl hs rfl (by kernel_rfl) (by kernel_rfl) (by kernel_rfl) ?_
    refine HW.takeS (fuel := 0) 16 rfl (fun _ _ hs => Y.pickT rfl rfl) hs rfl (by kernel_rfl) (by kernel_rfl) (by kernel_rfl) ?_
    refine HW.done (by kernel_rfl) ?_
    refine calmQ_normal ?_
    refine Zerun ?_
    refine RW.val (Y.idxRN T hs 1 rfl rfl rfl rfl rfl rfl (by omega)) rfl ?_
    refine RW.st1 T hs 1 rfl rfl rfl rfl rfl rfl rfl (by omega) ?_
    intro w7 hs
    have hs := (hs.swap.re hnx1).swap
    refine Zerun ?_
    refine CW.regionG T 3 3 hs rfl rfl ?_
    intro w8 hs
    have hgl := GLe.refl h8
    refine HW.takeG (fuel := 10) 0 rfl (fun _ _ ka kb _ hg hs hka hkb => Y.move rfl) ⟨_, _, 3, 3, hgl, hs, rfl, rfl⟩ rfl (by kernel_rfl) (by kernel_rfl) (by kernel_rfl) ?_
    refine HW.takeG (fuel := 9) 1 rfl (fun _ _ ka kb _ hg hs hka hkb => Y.move rfl) ⟨_, _, 3, 3, hgl, hs, rfl, rfl⟩ rfl (by kernel_rfl) (by kernel_rfl) (by kernel_rfl) ?_
    refine HW.takeG (fuel := 8) 4 rfl (fun _ _ ka kb _ hg hs hka hkb => Y.move rfl) ⟨_, _, 3, 3, hgl, hs, rfl, rfl⟩ rfl (by kernel_rfl) (by kernel_rfl) (by kernel_rfl) ?_
    refine HW.takeG (fuel := 7) 5 rfl (fun _ _ ka kb _ hg hs hka hkb => Y.move rfl) ⟨_, _, 3, 3, hgl, hs, rfl, rfl⟩ rfl (by kernel_rfl) (by kernel_rfl) (by kernel_rfl) ?_
    refine HW.takeG (fuel := 6) 6 rfl (fun _ _ ka kb _ hg hs hka hkb => Y.idxSN T rfl rfl (hS8.mono hg) rfl rfl rfl hlt) ⟨_, _, 3, 3, hgl, hs, rfl, rfl⟩ rfl (by kernel_rfl) (by kernel_rfl) (by kernel_rfl) ?_
    refine HW.takeG (fuel := 5) 7 rfl (fun _ _ ka kb _ hg hs hka hkb => Y.ldInt T hs rfl (hS8.mono hg) rfl rfl hlt) ⟨_, _, 3, 3, hgl, hs, rfl, rfl⟩ rfl (by kernel_rfl) (by kernel_rfl) (by kernel_rfl) ?_
    refine HW.one (fuel := 4) 2 rfl (by kernel_rfl) ?_
    refine RW.val (Y.idxRN T hs 0 rfl rfl rfl rfl rfl rfl (by omega)) rfl ?_
    refine RW.nil ?_
    refine heldQ_normal ⟨_, _, 3, 3, hgl, hs, rfl, rfl⟩ ?_
    refine HW.one (fuel := 3) 3 rfl (by kernel_rfl) ?_
    refine RW.val (Y.ldR T hs 0 rfl rfl rfl rfl (by omega) hv73) rfl ?_
    refine RW.nil ?_
    refine heldQ_normal ⟨_, _, 3, 3, hgl, hs, rfl, rfl⟩ ?_
    refine HW.takeG (fuel := 2) 8 rfl (fun _ _ ka kb _ hg hs hka hkb => Y.add rfl rfl ⟨by omega, by omega⟩) ⟨_, _, 3, 3, hgl, hs, rfl, rfl⟩ rfl (by kernel_rfl) (by kernel_rfl) (by kernel_rfl) ?_
    refine HW.one (fuel := 1) 9 rfl (by kernel_rfl) ?_
    refine RW.val (Y.idxRN T hs 0 rfl rfl rfl rfl rfl rfl (by omega)) rfl ?_
    refine RW.nil ?_
    refine heldQ_normal ⟨_, _, 3, 3, hgl, hs, rfl, rfl⟩ ?_
    refine HW.one (fuel := 0) 10 rfl (by kernel_rfl) ?_
    refine RW.st1 T hs 0 rfl rfl rfl rfl rfl rfl rfl (by omega) ?_
    intro w40 hs
    refine RW.nil ?_
    refine heldQ_normal ⟨_, _, 3, 3, hgl, hs, rfl, rfl⟩ ?_
    refine HW.done (by kernel_rfl) ?_
    refine calmQ_normal ?_
    refine Zerun ?_
    exact loopQ_round (i + 1) ⟨rfl, rfl, rfl, rfl, rfl, rfl, rfl, rfl, rfl, rfl, trivial⟩ ⟨by omega, hs.re hnx2⟩ (by omega)
  obtain rfl : i = a.shape.length := by omega
  rw [Nat.sub_self, List.replicate_zero, List.replicate_zero, List.nil_append, List.nil_append, List.take_length, show (stridesOf a.shape).take a.shape.length = stridesOf a.shape from List.take_of_length_le (by rw [length_stridesOf]; exact Nat.le_refl _)] at hs
  obtain ⟨hf9, hle9, hs, hSt⟩ := hs.freeze
  obtain ⟨h10, hle10, hs, hSs⟩ := hs.freeze
  have hSt : Sl h10 1 (some ⟨b4, 0, none⟩) a.shape.length a.shape.length ((stridesOf a.shape).reverse.map (Value.int .i64)) := hSt.mono hle10
  have hSs : Sl h10 1 (some ⟨b3, 0, none⟩) a.shape.length a.shape.length (a.shape.reverse.map (Value.int .i64)) := hSs
  have hIs : IntsAt h10 (.slice (some ⟨b3, 0, none⟩) a.shape.length a.shape.length) a.shape.reverse := by
    have := hSs
    have e : a.shape.reverse.length = a.shape.length := List.length_reverse
    rw [← e] at this ⊢
    exact IntsAt.of_sl this
  refine Zerun ?_
  (refine RW.call T hs rfl rfl rfl (product_con _ a.shape.reverse 1048576 _ _ hIs (by rw [List.length_reverse]; omega)) ?_; intro v h11 w11 hle11 hp11 hs)
  subst hp11
  rw [product_reverse, hp]
  have hIs := hIs.mono hle11
  have hSs := hSs.mono hle11
  have hSt := hSt.mono hle11
  by_cases c0 : a.vec.len = 0
  · refine Zerun ?_
    (refine RW.call T hs rfl rfl rfl (vecClass_con _ a.vec _ _ (hv'.mono hR hs.le)) ?_; intro v h12 w12 hle12 hp12 hs)
    subst hp12
    refine Zerun ?_
    (refine RW.call T hs rfl rfl rfl (vecNone_con hR h1 a.vec.cls _ _) ?_; intro v h13 w13 hle13 hp13 hs)
    obtain ⟨cs13, rfl, hv13⟩ := hp13
    have hv13' := hv13
    obtain ⟨wv13, nv13, sm13, il13, fl13, ch13, bx13, ⟨rfl, hoc13⟩, _⟩ := hv13
    refine Zerun ?_
    refine RW.val (Y.build T rfl rfl rfl rfl rfl rfl rfl) rfl ?_
    have hall13 : (Value.oneCell' (.slice (some ⟨b3, 0, none⟩) a.shape.length a.shape.length) && (vecCells (noneV a.vec.cls : VecD α).kind wv13 nv13 sm13 il13 fl13 ch13 bx13).all Value.oneCell') = true := by rw [hoc13]; rfl
    refine RW.storeAll T hs 0 rfl rfl rfl rfl rfl rfl hall13 rfl ?_
    intro w14 hs
    refine Zerun ?_
    exact retQ_ret [_] h13 ⟨resN T hs 0 rfl rfl rfl rfl rfl rfl, trivial⟩ hs.dropAll ⟨_, rfl, by unfold trV; rw [if_pos c0]; exact ⟨_, _, rfl, hIs.mono (hle12.trans hle13), hv13'⟩⟩
  have hpos : ∀ d ∈ a.shape, 1 ≤ d := (idx_pos a.shape 0 hgood ⟨by omega, by rw [hp]; dsimp only; omega⟩).1
  have hposr : ∀ d ∈ a.shape.reverse, 1 ≤ d := fun d hd => hpos d (List.mem_reverse.1 hd)
  have hgoodr : goodS a.shape.reverse = true := (goodS_iff _).2 (by rw [product_reverse, hp])
  refine Zerun ?_
  (refine RW.make1 T hs rfl rfl rfl rfl rfl rfl rfl (by dsimp only; omega) (by omega) ?_; intro b15 w15 hs)
  refine Zerun ?_
  (refine RW.make1 T hs rfl rfl rfl rfl rfl rfl rfl (by dsimp only; omega) (by omega) ?_; intro b16 w16 hs)
  refine Zerun ?_
  have hs := (hs.re (ys := (idxOf a.shape.reverse ((0 : Nat) : Int)).map (Value.int .i64)) (by rw [Int.natCast_zero, idxOf_zero]; simp)).swap.re (ys := ((trL a.shape a.vec.len).take 0 ++ List.replicate (a.vec.len - 0) 0).map (Value.int .i64)) (by simp)
  have hs := hs.swap
  refine CW.loop (fun i : Nat => [(2, .int .i64 (a.shape.length : Int)), (3, .pointer (some ⟨b1, 0, none⟩)), (6, .pointer (some ⟨b2, 0, none⟩)), (7, .slice (some ⟨b3, 0, none⟩) a.shape.length a.shape.length), (8, .slice (some ⟨b4, 0, none⟩) a.shape.length a.shape.length), (15, .slice (some ⟨b15, 0, none⟩) a.vec.len a.vec.len), (16, .slice (some ⟨b16, 0, none⟩) a.shape.length a.shape.length), (103, .int .i64 (a.vec.len : Int)), (104, .int .i64 i)]) (fun i w' => i ≤ a.vec.len ∧ Sees w h h11 [⟨some ⟨b16, 0, none⟩, a.shape.length, a.shape.length, 3, 1, (idxOf a.shape.reverse (i : Int)).map (Value.int .i64)⟩, ⟨some ⟨b15, 0, none⟩, a.vec.len, a.vec.len, 3, 1, ((trL a.shape a.vec.len).take i ++ List.replicate (a.vec.len - i) 0).map (Value.int .i64)⟩, ⟨some ⟨b2, 0, none⟩, 1, 1, 39, 9, [.slice none 0 0, .int .i64 0, .slice none 0 0, .int .i64 0, .slice none 0 0, .slice none 0 0, .slice none 0 0, .slice none 0 0, .slice none 0 0]⟩, ⟨some ⟨b1, 0, none⟩, 1, 1, 39, 9, .slice ad a.shape.length cp :: vecCells a.vec.kind wv nv sm il fl ch bx⟩] w') (fun i => a.vec.len - i) 0 ⟨rfl, rfl, rfl, rfl, rfl, rfl, rfl, rfl, rfl, trivial⟩ ⟨by omega, hs⟩ ?_
  rintro i w17 ⟨hi, hs⟩
  by_cases hlt : i < a.vec.len
  · refine Zerun ?_
    have hxl : (idxOf a.shape.reverse (i : Int)).length = a.shape.length := by rw [length_idxOf, List.length_reverse]
    have hyl : (stridesOf a.shape).reverse.length = a.shape.length := by rw [List.length_reverse, length_stridesOf]
    have hxin := ((inR_iff _ _).1 (inR_idxOf a.shape.reverse (i : Int) hposr)).2
    have hxb : ∀ x ∈ idxOf a.shape.reverse (i : Int), 0 ≤ x ∧ x ≤ 1048576 := by
      intro x hx
      obtain ⟨q, hq, rfl⟩ := List.getElem_of_mem hx
      have h1 := hxin q (by rw [List.length_reverse]; omega)
      rw [← getElem_getD _ _ 0 hq] at h1
      have h2 := good_le a.shape.reverse hgoodr (a.shape.reverse.getD q 0) (mem_getD _ _ _ (by rw [List.length_reverse]; omega))
      omega
    have hyb : ∀ y ∈ (stridesOf a.shape).reverse, 0 ≤ y ∧ y ≤ 1048576 := by
      intro y hy
      obtain ⟨q, hq, rfl⟩ := List.getElem_of_mem (List.mem_reverse.1 hy)
      rw [getElem_getD _ _ 0 hq, getD_stridesOf a.shape q (by rw [← length_stridesOf]; exact hq)]
      have h1 := pr_pos (a.shape.drop (q + 1))
      have h2 := pr_drop_le a.shape (q + 1)
      omega
    have hdt := dot_tr hpos (i : Int)
    refine CW.loop (fun q : Nat => [(2, .int .i64 (a.shape.length : Int)), (3, .pointer (some ⟨b1, 0, none⟩)), (6, .pointer (some ⟨b2, 0, none⟩)), (7, .slice (some ⟨b3, 0, none⟩) a.shape.length a.shape.length), (8, .slice (some ⟨b4, 0, none⟩) a.shape.length a.shape.length), (15, .slice (some ⟨b15, 0, none⟩) a.vec.len a.vec.len), (16, .slice (some ⟨b16, 0, none⟩) a.shape.length a.shape.length), (17, .int .i64 i), (18, .int .i64 (dot ((idxOf a.shape.reverse (i : Int)).take q) ((stridesOf a.shape).reverse.take q))), (103, .int .i64 (a.vec.len : Int)), (104, .int .i64 i), (107, .slice (some ⟨b16, 0, none⟩) a.shape.length a.shape.length), (108, .int .i64 (a.shape.length : Int)), (109, .int .i64 q)]) (fun q w' => q ≤ a.shape.length ∧ Sees w h h11 [⟨some ⟨b16, 0, none⟩, a.shape.length, a.shape.length, 3, 1, (idxOf a.shape.reverse (i : Int)).map (Value.int .i64)⟩, ⟨some ⟨b15, 0, none⟩, a.vec.len, a.vec.len, 3, 1, ((trL a.shape a.vec.len).take i ++ List.replicate (a.vec.len - i) 0).map (Value.int .i64)⟩, ⟨some ⟨b2, 0, none⟩, 1, 1, 39, 9, [.slice none 0 0, .int .i64 0, .slice none 0 0, .int .i64 0, .slice none 0 0, .slice none 0 0, .slice none 0 0, .slice none 0 0, .slice none 0 0]⟩, ⟨some ⟨b1, 0, none⟩, 1, 1, 39, 9, .slice ad a.shape.length cp :: vecCells a.vec.kind wv nv sm il fl ch bx⟩] w') (fun q => a.shape.length - q) 0 ⟨rfl, rfl, rfl, rfl, rfl, rfl, rfl, rfl, seti (by simp [dot]), rfl, rfl, rfl, rfl, rfl, trivial⟩ ⟨by omega, hs⟩ ?_
    rintro q w18 ⟨hq, hs⟩
    by_cases hq1 : q < a.shape.length
    · have hds := dot_take_succ (idxOf a.shape.reverse (i : Int)) (stridesOf a.shape).reverse q (by omega) (by omega)
      have hdb := dot_le 1048576 ((idxOf a.shape.reverse (i : Int)).take q) ((stridesOf a.shape).reverse.take q) (fun x hx => hxb x (List.mem_of_mem_take hx)) (fun y hy => hyb y (List.mem_of_mem_take hy)) (by omega)
      rw [List.length_take] at hdb
      have hx0 := hxb _ (mem_getD (idxOf a.shape.reverse (i : Int)) q 0 (by omega))
      have hy0 := hyb _ (mem_getD (stridesOf a.shape).reverse q 0 (by omega))
      have hmb := mul_bound hx0 hy0
      refine Zerun ?_
      refine RW.val (Y.idxRN T hs 0 rfl rfl rfl rfl rfl rfl (by omega)) rfl ?_
      refine RW.val (Y.ldRInt T hs 0 rfl rfl rfl rfl (by omega)) rfl ?_
      refine Zerun ?_
      refine RW.val (Y.mul rfl rfl ⟨by omega, by omega⟩) rfl ?_
      refine RW.val (Y.add rfl rfl ⟨by omega, by omega⟩) rfl ?_
      refine Zerun ?_
      exact loopQ_round (q + 1) ⟨rfl, rfl, rfl, rfl, rfl, rfl, rfl, rfl, seti hds.symm, rfl, rfl, rfl, rfl, rfl, trivial⟩ ⟨by omega, hs⟩ (by omega)
    obtain rfl : q = a.shape.length := by omega
    have hodo : odo a.shape.reverse (i : Int) a.shape.length = idxOf a.shape.reverse (i : Int) := by
      have := odo_all a.shape.reverse (i : Int)
      rwa [List.length_reverse] at this
    have hdt' : dot ((idxOf a.shape.reverse (i : Int)).take a.shape.length) ((stridesOf a.shape).reverse.take a.shape.length) = trOff a.shape i := by
      rw [List.take_of_length_le (by omega), List.take_of_length_le (by omega)]
      exact hdt
    refine Zerun ?_
    refine RW.val (Y.idxRN T hs 1 rfl rfl rfl rfl rfl rfl (by omega)) rfl ?_
    refine RW.st1 T hs 1 rfl rfl rfl rfl rfl rfl rfl (by omega) ?_
    intro w19 hs
    have hs := (hs.swap.re (ys := ((trL a.shape a.vec.len).take (i + 1) ++ List.replicate (a.vec.len - (i + 1)) 0).map (Value.int .i64)) (by rw [hdt']; exact trL_set a.shape a.vec.len i hlt)).swap
    have hs := hs.re (ys := (odo a.shape.reverse (i : Int) a.shape.length).map (Value.int .i64)) (by rw [hodo])
    refine Zerun ?_
    refine CW.loop (fun m : Nat => [(2, .int .i64 (a.shape.length : Int)), (3, .pointer (some ⟨b1, 0, none⟩)), (6, .pointer (some ⟨b2, 0, none⟩)), (7, .slice (some ⟨b3, 0, none⟩) a.shape.length a.shape.length), (8, .slice (some ⟨b4, 0, none⟩) a.shape.length a.shape.length), (15, .slice (some ⟨b15, 0, none⟩) a.vec.len a.vec.len), (16, .slice (some ⟨b16, 0, none⟩) a.shape.length a.shape.length), (21, .int .i64 ((m : Int) - 1)), (103, .int .i64 (a.vec.len : Int)), (104, .int .i64 i)]) (fun m w' => m ≤ a.shape.length ∧ ((i : Int) + 1) % prn (a.shape.reverse.drop m) = 0 ∧ Sees w h h11 [⟨some ⟨b16, 0, none⟩, a.shape.length, a.shape.length, 3, 1, (odo a.shape.reverse (i : Int) m).map (Value.int .i64)⟩, ⟨some ⟨b15, 0, none⟩, a.vec.len, a.vec.len, 3, 1, ((trL a.shape a.vec.len).take (i + 1) ++ List.replicate (a.vec.len - (i + 1)) 0).map (Value.int .i64)⟩, ⟨some ⟨b2, 0, none⟩, 1, 1, 39, 9, [.slice none 0 0, .int .i64 0, .slice none 0 0, .int .i64 0, .slice none 0 0, .slice none 0 0, .slice none 0 0, .slice none 0 0, .slice none 0 0]⟩, ⟨some ⟨b1, 0, none⟩, 1, 1, 39, 9, .slice ad a.shape.length cp :: vecCells a.vec.kind wv nv sm il fl ch bx⟩] w') (fun m => m) a.shape.length ⟨rfl, rfl, rfl, rfl, rfl, rfl, rfl, rfl, rfl, rfl, trivial⟩ ⟨by omega, by rw [List.drop_of_length_le (by rw [List.length_reverse]; exact Nat.le_refl _)]; exact Int.emod_one _, hs⟩ ?_
    rintro m w20 ⟨hm, hmod, hs⟩
    rcases m with _ | m
    · rw [odo_none] at hs
      refine Zerun ?_
      exact loopQ_round (i + 1) ⟨rfl, rfl, rfl, rfl, rfl, rfl, rfl, rfl, rfl, trivial⟩ ⟨by omega, hs⟩ (by omega)
    have e1 : ((m + 1 : Nat) : Int) - 1 = (m : Int) := by omega
    rw [e1]
    have hol := odo_len a.shape.reverse (i : Int) (m + 1) (by rw [List.length_reverse]; exact hm)
    rw [List.length_reverse] at hol
    obtain ⟨o1, o2, o3, o4, o5⟩ := odo_step hposr (show m < a.shape.reverse.length by rw [List.length_reverse]; omega) hmod
    have o6 := good_le a.shape.reverse hgoodr (a.shape.reverse.getD m 0) (mem_getD _ _ _ (by rw [List.length_reverse]; omega))
    generalize (idxOf a.shape.reverse (i : Int)).getD m 0 = x at o1 o2 o3 o4 o5
    have hv136 : ((odo a.shape.reverse (i : Int) (m + 1)).map (Value.int .i64))[m]? = some (.int .i64 x) := by rw [get_map_int (by omega), o1]
    refine Zerun ?_
    refine RW.val (Y.idxRN T hs 0 rfl rfl rfl rfl rfl rfl (by omega)) rfl ?_
    refine RW.val (Y.ldR T hs 0 rfl rfl rfl rfl (by omega) hv136) rfl ?_
    refine Zerun ?_
    refine RW.val (Y.idxRN T hs 0 rfl rfl rfl rfl rfl rfl (by omega)) rfl ?_
    refine RW.st1 T hs 0 rfl rfl rfl rfl rfl rfl rfl (by omega) ?_
    intro w21 hs
    have hv142 : (((odo a.shape.reverse (i : Int) (m + 1)).map (Value.int .i64)).set m (.int .i64 (x + 1)))[m]? = some (.int .i64 (x + 1)) := by
      rw [List.getElem?_set_self (by rw [List.length_map]; omega)]
    have hs := hs.re (ys := ((odo a.shape.reverse (i : Int) (m + 1)).map (Value.int .i64)).set m (.int .i64 (x + 1))) rfl
    refine Zerun ?_
    refine CW.regionG T 0 0 hs rfl rfl ?_
    intro w22 hs
    have hgl := GLe.refl h11
    refine HW.takeG (fuel := 8) 0 rfl (fun _ _ ka kb _ hg hs hka hkb => Y.move rfl) ⟨_, _, 0, 0, hgl, hs, rfl, rfl⟩ rfl (by kernel_rfl) (by kernel_rfl) (by kernel_rfl) ?_
    refine HW.takeG (fuel := 7) 1 rfl (fun _ _ ka kb _ hg hs hka hkb => Y.move rfl) ⟨_, _, 0, 0, hgl, hs, rfl, rfl⟩ rfl (by kernel_rfl) (by kernel_rfl) (by kernel_rfl) ?_
    refine HW.takeG (fuel := 6) 2 rfl (fun _ _ ka kb _ hg hs hka hkb => Y.idxRN T hs ka rfl rfl hka rfl rfl rfl (by omega)) ⟨_, _, 0, 0, hgl, hs, rfl, rfl⟩ rfl (by kernel_rfl) (by kernel_rfl) (by kernel_rfl) ?_
    refine HW.takeG (fuel := 5) 3 rfl (fun _ _ ka kb _ hg hs hka hkb => Y.ldR T hs ka rfl hka rfl rfl (by omega) hv142) ⟨_, _, 0, 0, hgl, hs, rfl, rfl⟩ rfl (by kernel_rfl) (by kernel_rfl) (by kernel_rfl) ?_
    refine HW.takeG (fuel := 4) 4 rfl (fun _ _ ka kb _ hg hs hka hkb => Y.move rfl) ⟨_, _, 0, 0, hgl, hs, rfl, rfl⟩ rfl (by kernel_rfl) (by kernel_rfl) (by kernel_rfl) ?_
    refine HW.takeG (fuel := 3) 5 rfl (fun _ _ ka kb _ hg hs hka hkb => Y.move rfl) ⟨_, _, 0, 0, hgl, hs, rfl, rfl⟩ rfl (by kernel_rfl) (by kernel_rfl) (by kernel_rfl) ?_
    refine HW.takeG (fuel := 2) 6 rfl (fun _ _ ka kb _ hg hs hka hkb => Y.idxSN T rfl rfl (hSs.mono hg) rfl rfl rfl (by omega)) ⟨_, _, 0, 0, hgl, hs, rfl, rfl⟩ rfl (by kernel_rfl) (by kernel_rfl) (by kernel_rfl) ?_
    refine HW.takeG (fuel := 1) 7 rfl (fun _ _ ka kb _ hg hs hka hkb => Y.ldInt T hs rfl (hSs.mono hg) rfl rfl (by omega)) ⟨_, _, 0, 0, hgl, hs, rfl, rfl⟩ rfl (by kernel_rfl) (by kernel_rfl) (by kernel_rfl) ?_
    refine HW.takeG (fuel := 0) 8 rfl (fun _ _ ka kb _ hg hs hka hkb => Y.lss rfl rfl) ⟨_, _, 0, 0, hgl, hs, rfl, rfl⟩ rfl (by kernel_rfl) (by kernel_rfl) (by kernel_rfl) ?_
    refine HW.done (by kernel_rfl) ?_
    refine calmQ_normal ?_
    refine Zerun ?_
    by_cases c1 : x + 1 < a.shape.reverse.getD m 0
    · have hs := hs.re (ys := (idxOf a.shape.reverse ((i : Int) + 1)).map (Value.int .i64)) (by rw [map_set_int, o4 c1])
      refine Zerun ?_
      exact loopQ_round (i + 1) ⟨rfl, rfl, rfl, rfl, rfl, rfl, rfl, rfl, rfl, trivial⟩ ⟨by omega, hs⟩ (by omega)
    · refine Zerun ?_
      refine RW.val (Y.idxRN T hs 0 rfl rfl rfl rfl rfl rfl (by omega)) rfl ?_
      refine RW.st1 T hs 0 rfl rfl rfl rfl rfl rfl rfl (by omega) ?_
      intro w23 hs
      refine Zerun ?_
      exact loopQ_round m ⟨rfl, rfl, rfl, rfl, rfl, rfl, rfl, rfl, rfl, rfl, trivial⟩ ⟨by omega, (o5 c1).2, hs.re (by rw [map_set_int, map_set_int, (o5 c1).1])⟩ (by omega)
  obtain rfl : i = a.vec.len := by omega
  have hs := hs.drop
  have hs := hs.re (ys := (trL a.shape a.vec.len).map (Value.int .i64)) (by rw [List.take_of_length_le (by rw [trL_len]; exact Nat.le_refl _), Nat.sub_self, List.replicate_zero, List.append_nil])
  obtain ⟨h24, hle24, hs, hS24⟩ := hs.freeze
  have hI24 : IntsAt h24 (.slice (some ⟨b15, 0, none⟩) a.vec.len a.vec.len) (trL a.shape a.vec.len) := by
    have := hS24
    dsimp only at this
    have e : (trL a.shape a.vec.len).length = a.vec.len := trL_len _ _
    generalize trL a.shape a.vec.len = Z at *
    rw [← e] at this ⊢
    exact IntsAt.of_sl this
  refine Zerun ?_
  (refine RW.call T hs rfl rfl rfl (flatPick_con hR h1 h9 nb hbl _ a.vec _ (trL a.shape a.vec.len) _ _ (hv'.mono hR hs.le) hI24 (by rw [trL_len]; exact hvm) hvm hk0) ?_; intro v h25 w25 hle25 hp25 hs)
  obtain ⟨cs25, rfl, hv25⟩ := hp25
  have hv25' := hv25
  obtain ⟨wv25, nv25, sm25, il25, fl25, ch25, bx25, ⟨rfl, hoc25⟩, _⟩ := hv25
  refine Zerun ?_
  refine RW.val (Y.build T rfl rfl rfl rfl rfl rfl rfl) rfl ?_
  have hall25 : (Value.oneCell' (.slice (some ⟨b3, 0, none⟩) a.shape.length a.shape.length) && (vecCells (a.vec.pick (trL a.shape a.vec.len) nb).kind wv25 nv25 sm25 il25 fl25 ch25 bx25).all Value.oneCell') = true := by rw [hoc25]; rfl
  refine RW.storeAll T hs 0 rfl rfl rfl rfl rfl rfl hall25 rfl ?_
  intro w26 hs
  refine Zerun ?_
  exact retQ_ret [_] h25 ⟨resN T hs 0 rfl rfl rfl rfl rfl rfl, trivial⟩ hs.dropAll ⟨_, rfl, by unfold trV; rw [if_neg c0]; exact ⟨_, _, rfl, hIs.mono (hle24.trans hle25), hv25'⟩⟩
end
end Go.Proofs.YtmfealaaacmohaaGreat
