/-
  Own texts of the claim, merged: Ja, Jb, Jc, Jd, Je, Ka, Kb, LibX, Kc, Kd, Ke, Kf, Kg, Kh, Oa, On, Ob, Fc, Fd, Io, Oc, PlainB, PlainN, PlainP, PlainQ, PlBa, PlBb, Qa, Qb, LibY, LibZ, Aa, Ba, Bb, Bc, Bd, PlEa, PlBc, Be, Bf. Lemmas of the proof; no statement is proved here.
-/
import Derived.Test.YtmojpbfkpggjhaaGreatMb
import Derived.Laws.Externs
import Derived.Lib.AppendZerosOnto
import Derived.Lib.Overlaps
/-
  Contracts of functions of packages vec and flat: no elements, what stands for none, elements of a list at some places. No statement is proved here.
-/
namespace Go.Proofs.YtmojpbfkpggjhaaGreat
open Go Go.RowKit
set_option linter.unusedVariables false
set_option linter.unusedSimpArgs false
set_option maxHeartbeats 4000000
attribute [local irreducible] CW RW QW SW HW ConM retM heldQ calmQ elemP thenQ blockQ loopQ joinQ retQ Yields Con Sl zF magR unitF truncF fwF wholeF tidySpec elemQ rankF leastN tidyW

theorem bits_none (h : GHeap) : BitsAt h (.slice none 0 0) [] := ⟨Nat.zero_le _, [], RowAt.nil h, ⟨rfl, ⟨fun u hu => (by cases hu), fun i => (by simp)⟩⟩⟩
theorem putCells_mid : ∀ (cs pre mid suf : List Value), mid.length = cs.length → putCells (pre ++ (mid ++ suf)) pre.length cs = pre ++ (cs ++ suf)
  | [], pre, mid, suf, h => by
    have : mid = [] := List.eq_nil_of_length_eq_zero h
    subst this; rfl
  | c :: r, pre, [], suf, h => by simp at h
  | c :: r, pre, m :: mid, suf, h => by
    simp only [putCells]
    have e : (pre ++ (m :: mid ++ suf)).set pre.length c = (pre ++ [c]) ++ (mid ++ suf) := by simp
    rw [e]
    have := putCells_mid r (pre ++ [c]) mid suf (by simpa using h)
    simp only [List.length_append, List.length_singleton] at this
    rw [this]
    simp
section
variable {α : Type} {R : GHeap → List Value → α → Prop}
/-- no elements of a class -/
def noneV (c : Int) : VecD α := if c = 1 then ⟨5, [], [], []⟩ else if c = 2 then ⟨6, [], [], []⟩ else ⟨1, [], [], []⟩
theorem vecNone_con (hR : Mono R) (h1 : One R) (c : Int) (w : World) (h : GHeap) : Con Tryz.prog 65 [.int .i64 c] w h (fun h' u => ∃ cs', u = .agg cs'.toArray ∧ VecAt R h' cs' (noneV c)) := by
  refine Con.of_body Tryz.func65 rfl Tryz.ntmps65 rfl rfl ?_
  intro hs
  refine Zrun ?_
  (refine RW.allocN T hs rfl rfl rfl rfl ?_; intro b1 w1 hs)
  refine Zerun ?_
  unfold noneV
  by_cases c1 : c = 1
  · rw [if_pos c1]
    refine Zerun ?_
    (refine RW.call T hs rfl rfl rfl (vecChars_con (R := R) _ [] _ _ (RowAt.nil _) (by simp)) ?_; intro v h2 w2 hle2 hp2 hs)
    obtain ⟨cs2, rfl, hv2⟩ := hp2
    have hv2' := hv2
    obtain ⟨wv, nv, sm, il, fl, ch, bx, ⟨rfl, hoc⟩, _⟩ := hv2
    (refine RW.storeAll T hs 0 rfl rfl rfl rfl rfl rfl hoc rfl ?_; intro w3 hs)
    refine Zerun ?_
    exact retQ_ret [_] h2 ⟨resN T hs 0 rfl rfl rfl rfl rfl rfl, trivial⟩ hs.dropAll ⟨_, rfl, hv2'⟩
  rw [if_neg c1]
  by_cases c2 : c = 2
  · rw [if_pos c2]
    refine Zerun ?_
    (refine RW.call T hs rfl rfl rfl (vecBoxes_con (R := R) hR h1 _ [] _ _ (RowsAt.nil _) (by simp)) ?_; intro v h2 w2 hle2 hp2 hs)
    obtain ⟨cs2, rfl, hv2⟩ := hp2
    have hv2' := hv2
    obtain ⟨wv, nv, sm, il, fl, ch, bx, ⟨rfl, hoc⟩, _⟩ := hv2
    (refine RW.storeAll T hs 0 rfl rfl rfl rfl rfl rfl hoc rfl ?_; intro w3 hs)
    refine Zerun ?_
    exact retQ_ret [_] h2 ⟨resN T hs 0 rfl rfl rfl rfl rfl rfl, trivial⟩ hs.dropAll ⟨_, rfl, hv2'⟩
  rw [if_neg c2]
  refine Zerun ?_
  refine RW.val (Y.build T rfl rfl rfl rfl rfl rfl rfl) rfl ?_
  (refine RW.call T hs rfl rfl rfl (vecBits_con (R := R) _ [] _ _ (bits_none _)) ?_; intro v h2 w2 hle2 hp2 hs)
  obtain ⟨cs2, rfl, hv2⟩ := hp2
  have hv2' := hv2
  obtain ⟨wv, nv, sm, il, fl, ch, bx, ⟨rfl, hoc⟩, _⟩ := hv2
  (refine RW.storeAll T hs 0 rfl rfl rfl rfl rfl rfl hoc rfl ?_; intro w3 hs)
  refine Zerun ?_
  exact retQ_ret [_] h2 ⟨resN T hs 0 rfl rfl rfl rfl rfl rfl, trivial⟩ hs.dropAll ⟨_, rfl, hv2'⟩
theorem flatBlank_con (hR : Mono R) (h1 : One R) (w : World) (h : GHeap) : Con Tryz.prog 138 [] w h (fun h' u => ∃ cs', u = .agg cs'.toArray ∧ ArrR R h' cs' ⟨[0], ⟨1, [], [], []⟩⟩) := by
  refine Con.of_body Tryz.func138 rfl Tryz.ntmps138 rfl rfl ?_
  intro hs
  refine Zrun ?_
  (refine RW.allocN T hs rfl rfl rfl rfl ?_; intro b1 w1 hs)
  refine Zerun ?_
  (refine RW.lit T hs (vs := [.int .i64 0]) (cs := [.int .i64 0]) rfl rfl rfl rfl (by simp [Value.cells]) rfl rfl rfl rfl rfl ?_; intro b2 w2 hs)
  obtain ⟨h3, hle3, hs, hS3⟩ := hs.freeze
  have hI3 : IntsAt h3 (.slice (some ⟨b2, 0, none⟩) 1 1) [0] := IntsAt.of_sl hS3
  (refine RW.call T hs rfl rfl rfl (vecNone_con (R := R) hR h1 0 _ _) ?_; intro v h4 w4 hle4 hp4 hs)
  obtain ⟨cs4, rfl, hv4⟩ := hp4
  have hv4' : VecAt R h4 cs4 ⟨1, [], [], []⟩ := hv4
  have hv5 := hv4'
  obtain ⟨wv, nv, sm, il, fl, ch, bx, ⟨rfl, hoc⟩, _⟩ := hv5
  refine RW.val (Y.build T rfl rfl rfl rfl rfl rfl rfl) rfl ?_
  (refine RW.storeAll T hs 0 rfl rfl rfl rfl rfl rfl hoc rfl ?_; intro w5 hs)
  refine Zerun ?_
  exact retQ_ret [_] h4 ⟨resN T hs 0 rfl rfl rfl rfl rfl rfl, trivial⟩ hs.dropAll ⟨_, rfl, _, _, rfl, hI3.mono hle4, hv4'⟩
theorem flatFrom_con (cs : List Value) (v : VecD α) (i : Int) (w : World) (h : GHeap) (hv : VecAt R h cs v) : Con Tryz.prog 134 [.agg cs.toArray, .int .i64 i] w h (fun _ u => u = .float .f64 (v.num i)) := by
  have hv' := hv
  obtain ⟨wv, nv, sm, il, fl, ch, bx, ⟨rfl, hoc⟩, _⟩ := hv
  refine Con.of_body Tryz.func134 rfl Tryz.ntmps134 rfl rfl ?_
  intro hs
  refine Zrun ?_
  (refine RW.boxN hs rfl rfl ?_; intro b1 w1 hs)
  refine Zerun ?_
  (refine RW.call T hs rfl rfl rfl (vecNum_con _ v i _ _ hv') ?_; intro v h2 w2 hle2 hp2 hs)
  subst hp2
  refine Zerun ?_
  exact retQ_ret [_] h2 ⟨rfl, trivial⟩ hs.dropAll rfl
end
/-- the elements of a list at a place; another one, where there is no such place -/
def atD {γ : Type} (l : List γ) (i : Int) (d : γ) : γ := if 0 ≤ i then l.getD i.toNat d else d
theorem atD_in {γ : Type} {l : List γ} {i : Int} {d : γ} (h : 0 ≤ i ∧ i < l.length) : atD l i d = l.getD i.toNat d := by unfold atD; rw [if_pos h.1]
theorem atD_out {γ : Type} {l : List γ} {i : Int} {d : γ} (h : ¬ (0 ≤ i ∧ i < l.length)) : atD l i d = d := by
  unfold atD
  by_cases c : 0 ≤ i
  · rw [if_pos c, List.getD_eq_getElem?_getD, List.getElem?_eq_none (by omega)]; rfl
  · rw [if_neg c]
theorem getD_any {γ : Type} (l : List γ) (k : Nat) (a b : γ) (h : k < l.length) : l.getD k a = l.getD k b := by simp [List.getD_eq_getElem?_getD, h]
theorem getElem_getD {γ : Type} (l : List γ) (k : Nat) (d : γ) (h : k < l.length) : l[k] = l.getD k d := by simp [List.getD_eq_getElem?_getD, h]
theorem set_again {β : Type} (a r : List β) (z v : β) : ((a ++ [z]) ++ r).set a.length v = (a ++ [v]) ++ r := by simp
theorem thoseRune_con (v v1 : Value) (l at_ : List Int) (d : Int) (w : World) (h : GHeap) (hl : KAt .i32 h v l) (ha : IntsAt h v1 at_) (hm : at_.length ≤ 1048576) : Con Tryz.prog 135 [v, v1, .int .i32 d] w h (fun h' u => KAt .i32 h' u (at_.map fun i => atD l i d)) := by
  obtain ⟨ad, cp, rfl, hS⟩ := hl
  obtain ⟨ad1, cp1, rfl, hS1⟩ := ha
  have hlen : l.length ≤ 9223372036854775807 := by have := hS.caps; omega
  refine Con.of_body Tryz.func135 rfl Tryz.ntmps135 rfl rfl ?_
  intro hs
  refine Zerun ?_
  (refine RW.make1 T hs rfl rfl rfl rfl rfl rfl rfl (by dsimp only; omega) (by omega) ?_; intro b3 w3 hs)
  refine Zerun ?_
  refine CW.loop (fun i : Nat => [(0, .slice ad l.length cp), (1, .slice ad1 at_.length cp1), (2, .int .i32 d), (7, .slice (some ⟨b3, 0, none⟩) at_.length at_.length), (13, .slice ad1 at_.length cp1), (14, .int .i64 at_.length), (15, .int .i64 i)]) (fun i w' => i ≤ at_.length ∧ Sees w h h [⟨some ⟨b3, 0, none⟩, at_.length, at_.length, 21, 1, ((at_.take i).map fun i => atD l i d).map (Value.int .i32) ++ List.replicate (at_.length - i) (.int .i32 0)⟩] w') (fun i => at_.length - i) 0 ⟨rfl, rfl, rfl, rfl, rfl, rfl, rfl, trivial⟩ ⟨by omega, by simpa using hs⟩ ?_
  rintro i w5 ⟨hi, hs⟩
  by_cases hlt : i < at_.length
  · have htk := take_succ_getD at_ i 0 hlt
    have ga := map_get (Value.int .i64) at_ i 0 hlt
    have fin : ∀ x : Int, x = atD l (at_.getD i 0) d → ((at_.take i).map fun i => atD l i d).map (Value.int .i32) ++ [Value.int .i32 x] ++ List.replicate (at_.length - i - 1) (.int .i32 0) = ((at_.take (i + 1)).map fun i => atD l i d).map (Value.int .i32) ++ List.replicate (at_.length - (i + 1)) (.int .i32 0) := by
      intro x hx
      rw [htk, List.map_append, List.map_append, hx, show at_.length - (i + 1) = at_.length - i - 1 by omega]; rfl
    have e1 := set_snoc (((at_.take i).map fun i => atD l i d).map (Value.int .i32)) (at_.length - i) (Value.int .i32 0) (Value.int .i32 d) (by omega)
    simp only [List.length_map, List.length_take, Nat.min_eq_left hi] at e1
    refine Zerun ?_
    refine RW.val (Y.idxRN T hs 0 rfl rfl rfl rfl rfl rfl ?_) rfl ?_
    · omega
    refine RW.st1 T hs 0 rfl rfl rfl rfl rfl rfl rfl (by omega) ?_
    intro w6 hs
    replace hs := hs.re e1
    refine Zerun ?_
    have done : ∀ (x : Int) (w' : World), x = atD l (at_.getD i 0) d → Sees w h h [⟨some ⟨b3, 0, none⟩, at_.length, at_.length, 21, 1, ((at_.take i).map fun i => atD l i d).map (Value.int .i32) ++ [Value.int .i32 x] ++ List.replicate (at_.length - i - 1) (.int .i32 0)⟩] w' → Sees w h h [⟨some ⟨b3, 0, none⟩, at_.length, at_.length, 21, 1, ((at_.take (i + 1)).map fun i => atD l i d).map (Value.int .i32) ++ List.replicate (at_.length - (i + 1)) (.int .i32 0)⟩] w' := fun x w' hx hs => hs.re (fin x hx)
    by_cases c1 : at_.getD i 0 < 0
    · refine Zerun ?_
      exact loopQ_round (i + 1) ⟨rfl, rfl, rfl, rfl, rfl, rfl, rfl, trivial⟩ ⟨by omega, done d _ (atD_out (by omega)).symm hs⟩ (by omega)
    by_cases c2 : ¬ at_.getD i 0 < l.length
    · refine Zerun ?_
      exact loopQ_round (i + 1) ⟨rfl, rfl, rfl, rfl, rfl, rfl, rfl, trivial⟩ ⟨by omega, done d _ (atD_out (by omega)).symm hs⟩ (by omega)
    have hlk : (at_.getD i 0).toNat < l.length := by omega
    refine Zerun ?_
    refine RW.val (Y.idxRN T hs 0 rfl rfl rfl rfl rfl rfl ?_) rfl ?_
    · omega
    refine RW.st1 T hs 0 rfl rfl rfl rfl rfl rfl rfl (by omega) ?_
    intro w7 hs
    have e2 := set_again (((at_.take i).map fun i => atD l i d).map (Value.int .i32)) (List.replicate (at_.length - i - 1) (.int .i32 0)) (Value.int .i32 d) (Value.int .i32 (l.getD (at_.getD i 0).toNat 0))
    simp only [List.length_map, List.length_take, Nat.min_eq_left hi] at e2
    replace hs := hs.re e2
    refine Zerun ?_
    refine loopQ_round (i + 1) ⟨rfl, rfl, rfl, rfl, rfl, rfl, rfl, trivial⟩ ⟨by omega, done _ _ ?_ hs⟩ (by omega)
    rw [atD_in (by omega)]
    exact getD_any l _ 0 d hlk
  · obtain rfl : i = at_.length := by omega
    rw [List.take_length, Nat.sub_self, List.replicate_zero, List.append_nil] at hs
    obtain ⟨h6, hle6, hs, hS6⟩ := hs.freeze
    refine Zerun ?_
    refine retQ_ret [_] h6 ⟨rfl, trivial⟩ hs.dropAll ?_
    have := RowAt.of_sl (mk := Value.int .i32) hS6
    exact this
theorem length_zeros (n : Nat) : (madeCells (#[.slice none 0 0, .int .i64 0, .slice none 0 0, .int .i64 0, .slice none 0 0, .slice none 0 0, .slice none 0 0, .slice none 0 0, .slice none 0 0] : Array Value) (n * 9)).toList.length = n * 9 := by
  simp [madeCells]
section
variable {α : Type} {R : GHeap → List Value → α → Prop}
theorem thoseArr_con (hR : Mono R) (h1 : One R) (h9 : Siz 9 R) (v v1 : Value) (l : List α) (at_ : List Int) (cs : List Value) (d : α) (w : World) (h : GHeap) (hl : RowsAt 9 (R h) h v l) (ha : IntsAt h v1 at_) (hd : R h cs d) (hm : at_.length ≤ 1048576) : Con Tryz.prog 137 [v, v1, .agg cs.toArray] w h (fun h' u => RowsAt 9 (R h') h' u (at_.map fun i => atD l i d)) := by
  obtain ⟨ad, cp, xs, rfl, hS, hA⟩ := hl
  obtain ⟨ad1, cp1, rfl, hS1⟩ := ha
  have hlen : l.length ≤ 9223372036854775807 := by have := hS.caps; omega
  have hl9 := h9 _ _ _ hd
  have ho9 := h1 _ _ _ hd
  refine Con.of_body Tryz.func137 rfl Tryz.ntmps137 rfl rfl ?_
  intro hs
  refine Zrun ?_
  (refine RW.boxN hs rfl rfl ?_; intro b1 w1 hs)
  refine Zerun ?_
  (refine RW.make T hs rfl rfl rfl rfl rfl ?_ ?_ ?_ ?_ ?_; omega; omega; (dsimp only; omega); omega; intro b3 w3 hs)
  rw [Int.toNat_natCast] at hs ⊢
  have hzl := length_zeros at_.length
  generalize hz : (madeCells (#[.slice none 0 0, .int .i64 0, .slice none 0 0, .int .i64 0, .slice none 0 0, .slice none 0 0, .slice none 0 0, .slice none 0 0, .slice none 0 0] : Array Value) (at_.length * 9)).toList = zs at hzl
  have hs : Sees w h h [⟨some ⟨b3, 0, none⟩, at_.length, at_.length, 39, 9, [] ++ zs⟩, ⟨some ⟨b1, 0, none⟩, 1, 1, 39, cs.length, cs⟩] w3 := by rw [← hz]; exact hs
  refine Zerun ?_
  refine CW.loop (fun u : Nat × List Value × List Value => [(0, .slice ad l.length cp), (1, .slice ad1 at_.length cp1), (5, .pointer (some ⟨b1, 0, none⟩)), (7, .slice (some ⟨b3, 0, none⟩) at_.length at_.length), (13, .slice ad1 at_.length cp1), (14, .int .i64 at_.length), (15, .int .i64 u.1)]) (fun u w' => u.1 ≤ at_.length ∧ u.2.2.length = (at_.length - u.1) * 9 ∧ AllN 9 (R h) u.2.1 ((at_.take u.1).map fun i => atD l i d) ∧ Sees w h h [⟨some ⟨b3, 0, none⟩, at_.length, at_.length, 39, 9, u.2.1 ++ u.2.2⟩, ⟨some ⟨b1, 0, none⟩, 1, 1, 39, cs.length, cs⟩] w') (fun u => at_.length - u.1) (0, [], zs) ⟨rfl, rfl, rfl, rfl, rfl, rfl, rfl, trivial⟩ ⟨by omega, by simpa using hzl, rfl, hs⟩ ?_
  rintro ⟨i, vs, zs⟩ w5 ⟨hi, hzl, hAv, hs⟩
  dsimp only at hi hzl hAv hs ⊢
  by_cases hlt : i < at_.length
  · have htk := take_succ_getD at_ i 0 hlt
    have ga := map_get (Value.int .i64) at_ i 0 hlt
    have hvl : vs.length = i * 9 := by rw [hAv.length]; simp [Nat.min_eq_left hi]
    have hz9 : (zs.take 9).length = 9 := by rw [List.length_take]; have : 9 ≤ zs.length := by rw [hzl]; omega
                                            omega
    have hput := putCells_mid cs vs (zs.take 9) (zs.drop 9) (by rw [hz9, hl9])
    rw [List.take_append_drop, hvl] at hput
    have hzd : (zs.drop 9).length = (at_.length - (i + 1)) * 9 := by rw [List.length_drop, hzl]; omega
    refine Zerun ?_
    refine RW.val (Y.loadRowN (cs := cs) T hs 1 rfl rfl rfl rfl rfl (List.take_of_length_le (by rw [List.drop_zero]; exact Nat.le_of_eq hl9)) hl9) rfl ?_
    refine RW.val (Y.idxRN T hs 0 rfl rfl rfl rfl rfl rfl ?_) rfl ?_
    · omega
    refine RW.stN T hs 0 rfl rfl rfl rfl rfl (by simpa using hl9) (by simpa using ho9) rfl (by omega) ?_
    intro w6 hs
    have hs : Sees w h h [⟨some ⟨b3, 0, none⟩, at_.length, at_.length, 39, 9, vs ++ (cs ++ zs.drop 9)⟩, ⟨some ⟨b1, 0, none⟩, 1, 1, 39, cs.length, cs⟩] w6 := by rw [← hput]; exact hs
    have hlen2 : ∀ ys : List Value, ys.length = 9 → (vs ++ (ys ++ zs.drop 9)) = (vs ++ ys) ++ zs.drop 9 := fun ys _ => by simp
    have done : ∀ (ys : List Value) (x : α), R h ys x → x = atD l (at_.getD i 0) d → AllN 9 (R h) (vs ++ ys) ((at_.take (i + 1)).map fun i => atD l i d) := by
      intro ys x hy hx
      rw [htk, List.map_append]
      show AllN 9 (R h) (vs ++ ys) (_ ++ [atD l (at_.getD i 0) d])
      rw [← hx]
      exact hAv.append (AllN.one (h9 _ _ _ hy) hy)
    refine Zerun ?_
    by_cases c1 : at_.getD i 0 < 0
    · refine Zerun ?_
      exact loopQ_round (i + 1, vs ++ cs, zs.drop 9) ⟨rfl, rfl, rfl, rfl, rfl, rfl, rfl, trivial⟩ ⟨by dsimp only; omega, hzd, done cs d hd (atD_out (by omega)).symm, by dsimp only; rw [← hlen2 cs hl9]; exact hs⟩ (by dsimp only; omega)
    by_cases c2 : ¬ at_.getD i 0 < l.length
    · refine Zerun ?_
      exact loopQ_round (i + 1, vs ++ cs, zs.drop 9) ⟨rfl, rfl, rfl, rfl, rfl, rfl, rfl, trivial⟩ ⟨by dsimp only; omega, hzd, done cs d hd (atD_out (by omega)).symm, by dsimp only; rw [← hlen2 cs hl9]; exact hs⟩ (by dsimp only; omega)
    have hlk : (at_.getD i 0).toNat < l.length := by omega
    obtain ⟨y, hy, hyl, hRy⟩ := hA.elem _ hlk
    have hoy := h1 _ _ _ hRy
    refine Zerun ?_
    refine RW.val (Y.idxRN T hs 0 rfl rfl rfl rfl rfl rfl ?_) rfl ?_
    · omega
    refine RW.stN T hs 0 rfl rfl rfl rfl rfl (by simpa using hyl) (by simpa using hoy) rfl (by omega) ?_
    intro w7 hs
    have hput2 := putCells_mid y vs cs (zs.drop 9) (by rw [hl9, hyl])
    rw [hvl] at hput2
    have hs : Sees w h h [⟨some ⟨b3, 0, none⟩, at_.length, at_.length, 39, 9, vs ++ (y ++ zs.drop 9)⟩, ⟨some ⟨b1, 0, none⟩, 1, 1, 39, cs.length, cs⟩] w7 := by rw [← hput2]; exact hs
    refine Zerun ?_
    refine loopQ_round (i + 1, vs ++ y, zs.drop 9) ⟨rfl, rfl, rfl, rfl, rfl, rfl, rfl, trivial⟩ ⟨by dsimp only; omega, hzd, done y _ hRy ?_, by dsimp only; rw [← hlen2 y hyl]; exact hs⟩ (by dsimp only; omega)
    exact (getElem_getD l _ d hlk).trans (atD_in (by omega)).symm
  · obtain rfl : i = at_.length := by omega
    rw [List.take_length] at hAv
    have hz0 : zs = [] := List.eq_nil_of_length_eq_zero (by rw [hzl]; omega)
    subst hz0
    obtain ⟨h6, hle6, hs, hS6⟩ := hs.freeze
    refine Zerun ?_
    refine retQ_ret [_] h6 ⟨rfl, trivial⟩ hs.dropAll ⟨some ⟨b3, 0, none⟩, at_.length, vs, by simp [packv], ?_, hAv.mono (fun u a => hR _ _ u a hle6)⟩
    simpa using hS6
end
end Go.Proofs.YtmojpbfkpggjhaaGreat

/-
  Contracts of functions of package flat: elements picked. No statement is proved here.
-/
namespace Go.Proofs.YtmojpbfkpggjhaaGreat
open Go Go.RowKit
set_option linter.unusedVariables false
set_option linter.unusedSimpArgs false
set_option maxHeartbeats 4000000
attribute [local irreducible] CW RW QW SW HW ConM retM heldQ calmQ elemP thenQ blockQ loopQ joinQ retQ Yields Con Sl zF magR unitF truncF fwF wholeF tidySpec elemQ rankF leastN tidyW
set_option maxHeartbeats 4000000

theorem wholeF_bounds (x : Nat) : -9007199254740992 ≤ (wholeF x).1 ∧ (wholeF x).1 ≤ 9007199254740992 := by
  unfold wholeF
  split
  · rename_i h; exact trunc_bounds x h
  · constructor <;> decide
section
variable {α : Type} {R : GHeap → List Value → α → Prop}
theorem flatPickBits_con (hR : Mono R) (cs : List Value) (v : VecD α) (v1 : Value) (at_ : List Int) (bs : List Bool) (w : World) (h : GHeap) (hv : VecAt R h cs v) (hbs : v = ⟨1, bs.map bitF, [], []⟩) (ha : IntsAt h v1 at_) (hm : at_.length ≤ 1048576) : Con Tryz.prog 132 [.agg cs.toArray, v1] w h (fun h' u => ∃ cs', u = .agg cs'.toArray ∧ VecAt R h' cs' ⟨1, (at_.map fun i => bitAt bs i).map bitF, [], []⟩) := by
  obtain ⟨ad1, cp1, rfl, hS1⟩ := ha
  have hv' := hv
  obtain ⟨wv, nv, sm, il, fl, ch, bx, ⟨rfl, hoc⟩, hk⟩ := hv
  clear hk
  refine Con.of_body Tryz.func132 rfl Tryz.ntmps132 rfl rfl ?_
  intro hs
  refine Zrun ?_
  (refine RW.boxN hs rfl rfl ?_; intro b1 w1 hs)
  (refine RW.allocN T hs rfl rfl rfl rfl ?_; intro b2 w2 hs)
  refine Zerun ?_
  (refine RW.call T hs rfl rfl rfl (vecPacked_con _ v _ _ hv') ?_; intro v h3 w3 hle3 hp3 hs)
  obtain ⟨wv3, bs3, rfl, hb3, hb3', _⟩ := hp3
  have hbb : bs3 = bs := by
    have e := hb3' (by rw [hbs])
    rw [hbs] at e
    have e2 : bs.map bitF = bs3.map bitF := by injection e
    have inj : ∀ a b : Bool, bitF a = bitF b → a = b := by decide
    have key : ∀ (a b : List Bool), a.map bitF = b.map bitF → a = b := by
      intro a
      induction a with
      | nil => intro b hb; cases b with
        | nil => rfl
        | cons => simp at hb
      | cons x a ih => intro b hb; cases b with
        | nil => simp at hb
        | cons y b =>
          simp only [List.map_cons, List.cons.injEq] at hb
          rw [inj x y hb.1, ih b hb.2]
    exact (key _ _ e2).symm
  subst hbb
  have hb3'' := hb3
  obtain ⟨_, ws3, ⟨ad3, cp3, rfl, _⟩, _⟩ := hb3
  have hS1 := hS1.mono hle3
  refine Zerun ?_
  (refine RW.allocN T hs rfl rfl rfl rfl ?_; intro b4 w4 hs)
  (refine RW.storeAll T hs 0 rfl rfl rfl rfl rfl rfl rfl rfl ?_; intro w5 hs)
  refine Zerun ?_
  (refine RW.make1 T hs rfl rfl rfl rfl rfl rfl rfl (by dsimp only; omega) (by omega) ?_; intro b6 w6 hs)
  refine Zerun ?_
  refine CW.loop (fun u : Nat × GHeap => [(1, .slice ad1 at_.length cp1), (2, .pointer (some ⟨b1, 0, none⟩)), (4, .pointer (some ⟨b2, 0, none⟩)), (5, .pointer (some ⟨b4, 0, none⟩)), (7, .slice (some ⟨b6, 0, none⟩) at_.length at_.length), (18, .slice ad1 at_.length cp1), (19, .int .i64 at_.length), (20, .int .i64 u.1)]) (fun u w' => u.1 ≤ at_.length ∧ GLe h3 u.2 ∧ Sees w h u.2 [⟨some ⟨b6, 0, none⟩, at_.length, at_.length, 4, 1, ((at_.take u.1).map fun i => bitAt bs3 i).map Value.bool ++ List.replicate (at_.length - u.1) (.bool false)⟩, ⟨some ⟨b4, 0, none⟩, 1, 1, 30, 2, [.slice ad3 ws3.length cp3, .int .i64 bs3.length]⟩, ⟨some ⟨b2, 0, none⟩, 1, 1, 37, 8, vecCells 0 (.slice none 0 0) 0 (.slice none 0 0) (.slice none 0 0) (.slice none 0 0) (.slice none 0 0) (.slice none 0 0)⟩, ⟨some ⟨b1, 0, none⟩, 1, 1, 37, 8, vecCells v.kind wv nv sm il fl ch bx⟩] w') (fun u => at_.length - u.1) (0, h3) ⟨rfl, rfl, rfl, rfl, rfl, rfl, rfl, rfl, trivial⟩ ⟨by omega, GLe.refl _, by simp only [List.take_zero, List.map_nil, List.nil_append, Nat.sub_zero]; exact hs⟩ ?_
  rintro ⟨i, hh⟩ w7 ⟨hi, hg, hs⟩
  dsimp only at hi hg hs ⊢
  have hS1 := hS1.mono hg
  have hb' := hb3''.mono hg
  by_cases hlt : i < at_.length
  · have htk := take_succ_getD at_ i 0 hlt
    refine Zerun ?_
    (refine RW.call T hs rfl rfl rfl (bitsAt_con _ bs3 (at_.getD i 0) _ _ hb') ?_; intro v h8 w8 hle8 hp8 hs)
    subst hp8
    refine RW.val (Y.idxRN T hs 0 rfl rfl rfl rfl rfl rfl ?_) rfl ?_
    · omega
    refine RW.st1 T hs 0 rfl rfl rfl rfl rfl rfl rfl (by omega) ?_
    intro w9 hs
    have e1 := set_snoc (((at_.take i).map fun i => bitAt bs3 i).map Value.bool) (at_.length - i) (Value.bool false) (Value.bool (bitAt bs3 (at_.getD i 0))) (by omega)
    simp only [List.length_map, List.length_take, Nat.min_eq_left hi] at e1
    have e2 : ((at_.take i).map fun i => bitAt bs3 i).map Value.bool ++ [Value.bool (bitAt bs3 (at_.getD i 0))] ++ List.replicate (at_.length - i - 1) (.bool false) = ((at_.take (i + 1)).map fun i => bitAt bs3 i).map Value.bool ++ List.replicate (at_.length - (i + 1)) (.bool false) := by
      rw [htk, List.map_append, List.map_append, show at_.length - (i + 1) = at_.length - i - 1 by omega]; rfl
    replace hs := hs.re (e1.trans e2)
    refine Zerun ?_
    exact loopQ_round (i + 1, h8) ⟨rfl, rfl, rfl, rfl, rfl, rfl, rfl, rfl, trivial⟩ ⟨by dsimp only; omega, hg.trans hle8, hs⟩ (by dsimp only; omega)
  · obtain rfl : i = at_.length := by omega
    rw [List.take_length, Nat.sub_self, List.replicate_zero, List.append_nil] at hs
    obtain ⟨h8, hle8, hs, hS8⟩ := hs.freeze
    have hT8 : TAt h8 (.slice (some ⟨b6, 0, none⟩) at_.length at_.length) (at_.map fun i => bitAt bs3 i) := RowAt.of_sl hS8
    refine Zerun ?_
    (refine RW.call T hs rfl rfl rfl (bitsPack_con _ _ _ _ hT8 (by simpa using hm)) ?_; intro v h9 w9 hle9 hp9 hs)
    obtain ⟨wv9, rfl, hb9⟩ := hp9
    (refine RW.call T hs rfl rfl rfl (vecBits_con (R := R) _ _ _ _ hb9) ?_; intro v h10 w10 hle10 hp10 hs)
    obtain ⟨cs10, rfl, hv10⟩ := hp10
    have hv10' := hv10
    obtain ⟨wv', nv', sm', il', fl', ch', bx', ⟨rfl, hoc'⟩, _⟩ := hv10
    (refine RW.storeAll T hs 1 rfl rfl rfl rfl rfl rfl hoc' rfl ?_; intro w11 hs)
    refine Zerun ?_
    exact retQ_ret [_] h10 ⟨resN T hs 1 rfl rfl rfl rfl rfl rfl, trivial⟩ hs.dropAll ⟨_, rfl, hv10'⟩
/-- the elements at some places -/
def VecD.pick (v : VecD α) (at_ : List Int) (nb : α) : VecD α :=
  if v.kind = 5 then ⟨5, [], at_.map (fun i => atD v.chars i 32), []⟩
  else if v.kind = 6 then ⟨6, [], [], at_.map (fun i => atD v.boxes i nb)⟩
  else ⟨leastN (at_.map v.num), at_.map v.num, [], []⟩
theorem num_tidy {h : GHeap} {cs : List Value} {v : VecD α} (hv : VecAt R h cs v) (i : Int) : tidyF (v.num i) := by
  unfold VecD.num
  split
  · by_cases c : i.toNat < v.nums.length
    · exact hv.tidy _ (mem_getD _ _ _ c)
    · rw [List.getD_eq_getElem?_getD, List.getElem?_eq_none (by omega)]; exact tidy0
  · exact tidy0
theorem whole_num {h : GHeap} {cs : List Value} {v : VecD α} (hv : VecAt R h cs v) (hk : v.kind = 1 ∨ v.kind = 2 ∨ v.kind = 3) (i : Int) : fwF (v.whole i).1 = v.num i := by
  have hw := hv.wholes hk
  have hn : v.nums.length = v.len := hv.nums_len (by unfold VecD.cls; rw [if_neg (by omega), if_neg (by omega)])
  unfold VecD.whole VecD.num
  by_cases c : 0 ≤ i ∧ i < v.len
  · rw [if_pos ⟨hk, c⟩, if_pos c.1]
    have hm := mem_getD v.nums i.toNat 0 (by omega)
    exact (fw_whole _ _ (hv.tidy _ hm) (by rw [← hw _ hm])).symm
  · rw [if_neg (fun e => c e.2)]
    show fwF 0 = _
    rw [fw0]
    split
    · rw [List.getD_eq_getElem?_getD, List.getElem?_eq_none (by omega)]; rfl
    · rfl
theorem pick_wholes {h : GHeap} {cs : List Value} {v : VecD α} (hv : VecAt R h cs v) (hk : v.kind = 1 ∨ v.kind = 2 ∨ v.kind = 3) (at_ : List Int) (nb : α) : (⟨leastN ((at_.map fun i => (v.whole i).1).map fwF), (at_.map fun i => (v.whole i).1).map fwF, [], []⟩ : VecD α) = v.pick at_ nb := by
  have e : (at_.map fun i => (v.whole i).1).map fwF = at_.map v.num := by
    rw [List.map_map]
    apply List.map_congr_left
    intro i _
    exact whole_num hv hk i
  rw [e]
  unfold VecD.pick
  rw [if_neg (by omega), if_neg (by omega)]
theorem sq_nums3 (N : List Nat) : (⟨3, N, [], []⟩ : VecD α).sq = ⟨leastN N, N, [], []⟩ := by
  unfold VecD.sq VecD.cls
  simp
theorem pick_bits (bs : List Bool) (at_ : List Int) (nb : α) : (⟨1, (at_.map fun i => bitAt bs i).map bitF, [], []⟩ : VecD α) = VecD.pick ⟨1, bs.map bitF, [], []⟩ at_ nb := by
  have e : (at_.map fun i => bitAt bs i).map bitF = at_.map (VecD.num (⟨1, bs.map bitF, [], []⟩ : VecD α)) := by
    rw [List.map_map]
    apply List.map_congr_left
    intro i _
    simp only [Function.comp, bitAt, VecD.num]
    split
    · by_cases c : i.toNat < bs.length
      · rw [getD_map bitF bs i.toNat false 0 c]
      · rw [List.getD_eq_getElem?_getD, List.getElem?_eq_none (by omega), List.getD_eq_getElem?_getD, List.getElem?_eq_none (by simp; omega)]; rfl
    · rfl
  have el : leastN ((at_.map fun i => bitAt bs i).map bitF) = 1 := by
    have h1 := (leastN_bounds ((at_.map fun i => bitAt bs i).map bitF)).1
    have h2 : leastN ((at_.map fun i => bitAt bs i).map bitF) ≤ 1 := by
      rw [leastN.eq_1]
      refine fold_le _ 1 1 (by omega) ?_
      intro x hx
      obtain ⟨b, _, rfl⟩ := List.mem_map.1 hx
      cases b
      · exact (rank_bit _ tidy0).2 (.inl fw0.symm)
      · exact (rank_bit _ tidy1).2 (.inr fw1.symm)
    omega
  unfold VecD.pick
  rw [if_neg (show ¬ (1 : Int) = 5 by decide), if_neg (show ¬ (1 : Int) = 6 by decide), ← e, el]
theorem flatPick_con (hR : Mono R) (h1 : One R) (h9 : Siz 9 R) (nb : α) (hbl : ∀ w h, Con Tryz.prog 138 [] w h (fun h' u => ∃ cs', u = .agg cs'.toArray ∧ R h' cs' nb))
    (cs : List Value) (v : VecD α) (v1 : Value) (at_ : List Int) (w : World) (h : GHeap) (hv : VecAt R h cs v) (ha : IntsAt h v1 at_) (hm : at_.length ≤ 1048576) (hvm : v.len ≤ 1048576) (hk0 : v.kind ≠ 0) : Con Tryz.prog 86 [.agg cs.toArray, v1] w h (fun h' u => ∃ cs', u = .agg cs'.toArray ∧ VecAt R h' cs' (v.pick at_ nb)) := by
  have ha' := ha
  obtain ⟨ad1, cp1, rfl, hS1⟩ := ha
  have hv' := hv
  have hv0 := hv
  obtain ⟨wv, nv, sm, il, fl, ch, bx, ⟨rfl, hoc⟩, hk⟩ := hv
  have hkk : (v.kind = 1 ∧ ∃ bs : List Bool, v = ⟨1, bs.map bitF, [], []⟩) ∨ (v.kind = 2 ∨ v.kind = 3) ∨ v.kind = 4 ∨ v.kind = 5 ∨ v.kind = 6 := by
    rcases hk with ⟨e, _⟩ | ⟨e, bs, _, _, e2⟩ | ⟨e, _⟩ | ⟨e, _⟩ | ⟨e, _⟩ | ⟨e, _⟩ | ⟨e, _⟩
    · exact absurd e hk0
    · exact .inl ⟨e, bs, e2⟩
    · exact .inr (.inl (.inl e))
    · exact .inr (.inl (.inr e))
    · exact .inr (.inr (.inl e))
    · exact .inr (.inr (.inr (.inl e)))
    · exact .inr (.inr (.inr (.inr e)))
  clear hk
  refine Con.of_body Tryz.func86 rfl Tryz.ntmps86 rfl rfl ?_
  intro hs
  refine Zrun ?_
  (refine RW.boxN hs rfl rfl ?_; intro b1 w1 hs)
  (refine RW.allocN T hs rfl rfl rfl rfl ?_; intro b2 w2 hs)
  refine Zerun ?_
  (refine RW.call T hs rfl rfl rfl (vecKind_con _ v _ _ hv') ?_; intro v h3 w3 hle3 hp3 hs)
  subst hp3
  have hv' := hv'.mono hR hle3
  have ha' := ha'.mono hle3
  have hS1 := hS1.mono hle3
  rcases hkk with ⟨k1, bs, hbs⟩ | k23 | k4 | k5 | k6
  · have hsp := pick_bits bs at_ nb
    rw [← hbs] at hsp
    refine Zerun ?_
    (refine RW.call T hs rfl rfl rfl (flatPickBits_con hR _ v _ at_ bs _ _ hv' hbs ha' hm) ?_; intro v h4 w4 hle4 hp4 hs)
    obtain ⟨cs4, rfl, hv4⟩ := hp4
    rw [hsp] at hv4
    have hv4' := hv4
    obtain ⟨wv', nv', sm', il', fl', ch', bx', ⟨rfl, hoc'⟩, _⟩ := hv4
    (refine RW.storeAll T hs 0 rfl rfl rfl rfl rfl rfl hoc' rfl ?_; intro w5 hs)
    refine Zerun ?_
    exact retQ_ret [_] h4 ⟨resN T hs 0 rfl rfl rfl rfl rfl rfl, trivial⟩ hs.dropAll ⟨_, rfl, hv4'⟩
  · rcases k23 with k2 | k3
    ·
      have hsp := pick_wholes hv0 (by omega) at_ nb
      refine Zerun ?_
      (refine RW.make1 T hs rfl rfl rfl rfl rfl rfl rfl (by dsimp only; omega) (by omega) ?_; intro b6 w6 hs)
      refine Zerun ?_
      refine CW.loop (fun u : Nat × GHeap => [(2, .pointer (some ⟨b1, 0, none⟩)), (4, .pointer (some ⟨b2, 0, none⟩)), (5, .slice (some ⟨b6, 0, none⟩) at_.length at_.length), (28, .slice ad1 at_.length cp1), (29, .int .i64 at_.length), (30, .int .i64 u.1)]) (fun u w' => u.1 ≤ at_.length ∧ GLe h3 u.2 ∧ Sees w h u.2 [⟨some ⟨b6, 0, none⟩, at_.length, at_.length, 2, 1, ((at_.take u.1).map fun i => (v.whole i).1).map (Value.int .i64) ++ List.replicate (at_.length - u.1) (.int .i64 0)⟩, ⟨some ⟨b2, 0, none⟩, 1, 1, 37, 8, vecCells 0 (.slice none 0 0) 0 (.slice none 0 0) (.slice none 0 0) (.slice none 0 0) (.slice none 0 0) (.slice none 0 0)⟩, ⟨some ⟨b1, 0, none⟩, 1, 1, 37, 8, vecCells v.kind wv nv sm il fl ch bx⟩] w') (fun u => at_.length - u.1) (0, h3) ⟨rfl, rfl, rfl, rfl, rfl, rfl, trivial⟩ ⟨by omega, GLe.refl _, by simp only [List.take_zero, List.map_nil, List.nil_append, Nat.sub_zero]; exact hs⟩ ?_
      rintro ⟨i, hh⟩ w7 ⟨hi, hg, hs⟩
      dsimp only at hi hg hs ⊢
      have hS1 := hS1.mono hg
      have hv' := hv'.mono hR hg
      by_cases hlt : i < at_.length
      · have htk := take_succ_getD at_ i 0 hlt
        refine Zerun ?_
        (refine RW.call T hs rfl rfl rfl (vecWhole_con _ v (at_.getD i 0) _ _ hv') ?_; intro v h8 w8 hle8 hp8 hs)
        subst hp8
        refine Zerun ?_
        refine RW.val (Y.idxRN T hs 0 rfl rfl rfl rfl rfl rfl ?_) rfl ?_
        · omega
        refine RW.st1 T hs 0 rfl rfl rfl rfl rfl rfl rfl (by omega) ?_
        intro w9 hs
        have e1 := set_snoc (((at_.take i).map fun i => (v.whole i).1).map (Value.int .i64)) (at_.length - i) (.int .i64 0) (Value.int .i64 ((v.whole (at_.getD i 0)).1)) (by omega)
        simp only [List.length_map, List.length_take, Nat.min_eq_left hi] at e1
        have e2 : ((at_.take i).map fun i => (v.whole i).1).map (Value.int .i64) ++ [Value.int .i64 ((v.whole (at_.getD i 0)).1)] ++ List.replicate (at_.length - i - 1) (.int .i64 0) = ((at_.take (i + 1)).map fun i => (v.whole i).1).map (Value.int .i64) ++ List.replicate (at_.length - (i + 1)) (.int .i64 0) := by
          rw [htk, List.map_append, List.map_append, show at_.length - (i + 1) = at_.length - i - 1 by omega]; rfl
        replace hs := hs.re (e1.trans e2)
        refine Zerun ?_
        exact loopQ_round (i + 1, h8) ⟨rfl, rfl, rfl, rfl, rfl, rfl, trivial⟩ ⟨by dsimp only; omega, hg.trans hle8, hs⟩ (by dsimp only; omega)
      obtain rfl : i = at_.length := by omega
      rw [List.take_length, Nat.sub_self, List.replicate_zero, List.append_nil] at hs
      obtain ⟨h8, hle8, hs, hS8⟩ := hs.freeze
      have hT8 : KAt .i64 h8 (.slice (some ⟨b6, 0, none⟩) at_.length at_.length) (at_.map fun i => (v.whole i).1) := RowAt.of_sl hS8
      refine Zerun ?_
      (refine RW.call T hs rfl rfl rfl (vecInts_con (R := R) _ _ _ _ hT8 (by simp; omega)) ?_; intro v h9 w9 hle9 hp9 hs)
      obtain ⟨cs9, ok, rfl, hok, hv9⟩ := hp9
      obtain rfl : ok = true := by
        rw [hok]
        refine decide_eq_true ?_
        intro u hu
        obtain ⟨i, _, rfl⟩ := List.mem_map.1 hu
        unfold VecD.whole
        split
        · exact wholeF_bounds _
        · constructor <;> decide
      rw [if_pos rfl] at hv9
      have hv9' := hv9
      obtain ⟨wv', nv', sm', il', fl', ch', bx', ⟨rfl, hoc'⟩, _⟩ := hv9
      refine Zerun ?_
      (refine RW.allocN T hs rfl rfl rfl rfl ?_; intro b10 w10 hs)
      (refine RW.storeAll T hs 0 rfl rfl rfl rfl rfl rfl hoc' rfl ?_; intro w11 hs)
      refine Zerun ?_
      (refine RW.call T hs rfl rfl rfl (sqSqueeze_con hR _ _ _ _ hv9' (by simp [VecD.len]; omega)) ?_; intro v h12 w12 hle12 hp12 hs)
      obtain ⟨cs12, rfl, hv12⟩ := hp12
      rw [sq_nums3, hsp] at hv12
      have hv12' := hv12
      obtain ⟨wv2, nv2, sm2, il2, fl2, ch2, bx2, ⟨rfl, hoc2⟩, _⟩ := hv12
      (refine RW.storeAll T hs 1 rfl rfl rfl rfl rfl rfl hoc2 rfl ?_; intro w13 hs)
      refine Zerun ?_
      exact retQ_ret [_] h12 ⟨resN T hs 1 rfl rfl rfl rfl rfl rfl, trivial⟩ hs.dropAll ⟨_, rfl, hv12'⟩
    ·
      have hsp := pick_wholes hv0 (by omega) at_ nb
      refine Zerun ?_
      (refine RW.make1 T hs rfl rfl rfl rfl rfl rfl rfl (by dsimp only; omega) (by omega) ?_; intro b6 w6 hs)
      refine Zerun ?_
      refine CW.loop (fun u : Nat × GHeap => [(2, .pointer (some ⟨b1, 0, none⟩)), (4, .pointer (some ⟨b2, 0, none⟩)), (5, .slice (some ⟨b6, 0, none⟩) at_.length at_.length), (28, .slice ad1 at_.length cp1), (29, .int .i64 at_.length), (30, .int .i64 u.1)]) (fun u w' => u.1 ≤ at_.length ∧ GLe h3 u.2 ∧ Sees w h u.2 [⟨some ⟨b6, 0, none⟩, at_.length, at_.length, 2, 1, ((at_.take u.1).map fun i => (v.whole i).1).map (Value.int .i64) ++ List.replicate (at_.length - u.1) (.int .i64 0)⟩, ⟨some ⟨b2, 0, none⟩, 1, 1, 37, 8, vecCells 0 (.slice none 0 0) 0 (.slice none 0 0) (.slice none 0 0) (.slice none 0 0) (.slice none 0 0) (.slice none 0 0)⟩, ⟨some ⟨b1, 0, none⟩, 1, 1, 37, 8, vecCells v.kind wv nv sm il fl ch bx⟩] w') (fun u => at_.length - u.1) (0, h3) ⟨rfl, rfl, rfl, rfl, rfl, rfl, trivial⟩ ⟨by omega, GLe.refl _, by simp only [List.take_zero, List.map_nil, List.nil_append, Nat.sub_zero]; exact hs⟩ ?_
      rintro ⟨i, hh⟩ w7 ⟨hi, hg, hs⟩
      dsimp only at hi hg hs ⊢
      have hS1 := hS1.mono hg
      have hv' := hv'.mono hR hg
      by_cases hlt : i < at_.length
      · have htk := take_succ_getD at_ i 0 hlt
        refine Zerun ?_
        (refine RW.call T hs rfl rfl rfl (vecWhole_con _ v (at_.getD i 0) _ _ hv') ?_; intro v h8 w8 hle8 hp8 hs)
        subst hp8
        refine Zerun ?_
        refine RW.val (Y.idxRN T hs 0 rfl rfl rfl rfl rfl rfl ?_) rfl ?_
        · omega
        refine RW.st1 T hs 0 rfl rfl rfl rfl rfl rfl rfl (by omega) ?_
        intro w9 hs
        have e1 := set_snoc (((at_.take i).map fun i => (v.whole i).1).map (Value.int .i64)) (at_.length - i) (.int .i64 0) (Value.int .i64 ((v.whole (at_.getD i 0)).1)) (by omega)
        simp only [List.length_map, List.length_take, Nat.min_eq_left hi] at e1
        have e2 : ((at_.take i).map fun i => (v.whole i).1).map (Value.int .i64) ++ [Value.int .i64 ((v.whole (at_.getD i 0)).1)] ++ List.replicate (at_.length - i - 1) (.int .i64 0) = ((at_.take (i + 1)).map fun i => (v.whole i).1).map (Value.int .i64) ++ List.replicate (at_.length - (i + 1)) (.int .i64 0) := by
          rw [htk, List.map_append, List.map_append, show at_.length - (i + 1) = at_.length - i - 1 by omega]; rfl
        replace hs := hs.re (e1.trans e2)
        refine Zerun ?_
        exact loopQ_round (i + 1, h8) ⟨rfl, rfl, rfl, rfl, rfl, rfl, trivial⟩ ⟨by dsimp only; omega, hg.trans hle8, hs⟩ (by dsimp only; omega)
      obtain rfl : i = at_.length := by omega
      rw [List.take_length, Nat.sub_self, List.replicate_zero, List.append_nil] at hs
      obtain ⟨h8, hle8, hs, hS8⟩ := hs.freeze
      have hT8 : KAt .i64 h8 (.slice (some ⟨b6, 0, none⟩) at_.length at_.length) (at_.map fun i => (v.whole i).1) := RowAt.of_sl hS8
      refine Zerun ?_
      (refine RW.call T hs rfl rfl rfl (vecInts_con (R := R) _ _ _ _ hT8 (by simp; omega)) ?_; intro v h9 w9 hle9 hp9 hs)
      obtain ⟨cs9, ok, rfl, hok, hv9⟩ := hp9
      obtain rfl : ok = true := by
        rw [hok]
        refine decide_eq_true ?_
        intro u hu
        obtain ⟨i, _, rfl⟩ := List.mem_map.1 hu
        unfold VecD.whole
        split
        · exact wholeF_bounds _
        · constructor <;> decide
      rw [if_pos rfl] at hv9
      have hv9' := hv9
      obtain ⟨wv', nv', sm', il', fl', ch', bx', ⟨rfl, hoc'⟩, _⟩ := hv9
      refine Zerun ?_
      (refine RW.allocN T hs rfl rfl rfl rfl ?_; intro b10 w10 hs)
      (refine RW.storeAll T hs 0 rfl rfl rfl rfl rfl rfl hoc' rfl ?_; intro w11 hs)
      refine Zerun ?_
      (refine RW.call T hs rfl rfl rfl (sqSqueeze_con hR _ _ _ _ hv9' (by simp [VecD.len]; omega)) ?_; intro v h12 w12 hle12 hp12 hs)
      obtain ⟨cs12, rfl, hv12⟩ := hp12
      rw [sq_nums3, hsp] at hv12
      have hv12' := hv12
      obtain ⟨wv2, nv2, sm2, il2, fl2, ch2, bx2, ⟨rfl, hoc2⟩, _⟩ := hv12
      (refine RW.storeAll T hs 1 rfl rfl rfl rfl rfl rfl hoc2 rfl ?_; intro w13 hs)
      refine Zerun ?_
      exact retQ_ret [_] h12 ⟨resN T hs 1 rfl rfl rfl rfl rfl rfl, trivial⟩ hs.dropAll ⟨_, rfl, hv12'⟩
  ·
    have hsp : (⟨leastN ((at_.map fun i => v.num i).map tidyW), (at_.map fun i => v.num i).map tidyW, [], []⟩ : VecD α) = v.pick at_ nb := by
      have e : (at_.map fun i => v.num i).map tidyW = at_.map v.num := by
        rw [List.map_map]
        apply List.map_congr_left
        intro i _
        simp only [Function.comp]
        unfold tidyW
        rw [tidySpec_of _ (num_tidy hv0 i)]
      rw [e]
      unfold VecD.pick
      rw [if_neg (by omega), if_neg (by omega)]
    refine Zerun ?_
    (refine RW.make1 T hs rfl rfl rfl rfl rfl rfl rfl (by dsimp only; omega) (by omega) ?_; intro b6 w6 hs)
    refine Zerun ?_
    refine CW.loop (fun u : Nat × GHeap => [(2, .pointer (some ⟨b1, 0, none⟩)), (4, .pointer (some ⟨b2, 0, none⟩)), (10, .slice (some ⟨b6, 0, none⟩) at_.length at_.length), (57, .slice ad1 at_.length cp1), (58, .int .i64 at_.length), (59, .int .i64 u.1)]) (fun u w' => u.1 ≤ at_.length ∧ GLe h3 u.2 ∧ Sees w h u.2 [⟨some ⟨b6, 0, none⟩, at_.length, at_.length, 46, 1, ((at_.take u.1).map fun i => v.num i).map (Value.float .f64) ++ List.replicate (at_.length - u.1) (.float .f64 0)⟩, ⟨some ⟨b2, 0, none⟩, 1, 1, 37, 8, vecCells 0 (.slice none 0 0) 0 (.slice none 0 0) (.slice none 0 0) (.slice none 0 0) (.slice none 0 0) (.slice none 0 0)⟩, ⟨some ⟨b1, 0, none⟩, 1, 1, 37, 8, vecCells v.kind wv nv sm il fl ch bx⟩] w') (fun u => at_.length - u.1) (0, h3) ⟨rfl, rfl, rfl, rfl, rfl, rfl, trivial⟩ ⟨by omega, GLe.refl _, by simp only [List.take_zero, List.map_nil, List.nil_append, Nat.sub_zero]; exact hs⟩ ?_
    rintro ⟨i, hh⟩ w7 ⟨hi, hg, hs⟩
    dsimp only at hi hg hs ⊢
    have hS1 := hS1.mono hg
    have hv' := hv'.mono hR hg
    by_cases hlt : i < at_.length
    · have htk := take_succ_getD at_ i 0 hlt
      refine Zerun ?_
      (refine RW.call T hs rfl rfl rfl (flatFrom_con _ v (at_.getD i 0) _ _ hv') ?_; intro v h8 w8 hle8 hp8 hs)
      subst hp8
      skip
      refine RW.val (Y.idxRN T hs 0 rfl rfl rfl rfl rfl rfl ?_) rfl ?_
      · omega
      refine RW.st1 T hs 0 rfl rfl rfl rfl rfl rfl rfl (by omega) ?_
      intro w9 hs
      have e1 := set_snoc (((at_.take i).map fun i => v.num i).map (Value.float .f64)) (at_.length - i) (.float .f64 0) (Value.float .f64 (v.num (at_.getD i 0))) (by omega)
      simp only [List.length_map, List.length_take, Nat.min_eq_left hi] at e1
      have e2 : ((at_.take i).map fun i => v.num i).map (Value.float .f64) ++ [Value.float .f64 (v.num (at_.getD i 0))] ++ List.replicate (at_.length - i - 1) (.float .f64 0) = ((at_.take (i + 1)).map fun i => v.num i).map (Value.float .f64) ++ List.replicate (at_.length - (i + 1)) (.float .f64 0) := by
        rw [htk, List.map_append, List.map_append, show at_.length - (i + 1) = at_.length - i - 1 by omega]; rfl
      replace hs := hs.re (e1.trans e2)
      refine Zerun ?_
      exact loopQ_round (i + 1, h8) ⟨rfl, rfl, rfl, rfl, rfl, rfl, trivial⟩ ⟨by dsimp only; omega, hg.trans hle8, hs⟩ (by dsimp only; omega)
    obtain rfl : i = at_.length := by omega
    rw [List.take_length, Nat.sub_self, List.replicate_zero, List.append_nil] at hs
    obtain ⟨h8, hle8, hs, hS8⟩ := hs.freeze
    have hT8 : FAt h8 (.slice (some ⟨b6, 0, none⟩) at_.length at_.length) (at_.map fun i => v.num i) := RowAt.of_sl hS8
    refine Zerun ?_
    (refine RW.call T hs rfl rfl rfl (sqNumbers_con (R := R) hR _ _ _ _ hT8 (by intro u hu; obtain ⟨i, _, rfl⟩ := List.mem_map.1 hu; exact (num_tidy hv0 i).1) (by simp; omega)) ?_; intro v h9 w9 hle9 hp9 hs)
    obtain ⟨cs9, ok, rfl, hok, hv9⟩ := hp9
    obtain rfl : ok = true := by
      rw [hok]
      refine decide_eq_true ?_
      intro u hu
      obtain ⟨i, _, rfl⟩ := List.mem_map.1 hu
      exact (num_tidy hv0 i).2.1
    rw [if_pos rfl, hsp] at hv9
    have hv9' := hv9
    obtain ⟨wv', nv', sm', il', fl', ch', bx', ⟨rfl, hoc'⟩, _⟩ := hv9
    refine Zerun ?_
    (refine RW.allocN T hs rfl rfl rfl rfl ?_; intro b10 w10 hs)
    (refine RW.storeAll T hs 0 rfl rfl rfl rfl rfl rfl hoc' rfl ?_; intro w11 hs)
    refine Zerun ?_
    (refine RW.storeAll T hs 1 rfl rfl rfl rfl rfl rfl hoc' rfl ?_; intro w12 hs)
    refine Zerun ?_
    exact retQ_ret [_] h9 ⟨resN T hs 1 rfl rfl rfl rfl rfl rfl, trivial⟩ hs.dropAll ⟨_, rfl, hv9'⟩
  · have hsp : (⟨5, [], at_.map (fun i => atD v.chars i 32), []⟩ : VecD α) = v.pick at_ nb := by unfold VecD.pick; rw [if_pos k5]
    refine Zerun ?_
    (refine RW.call T hs rfl rfl rfl (vecText_con _ v _ _ hv' (by omega)) ?_; intro v h4 w4 hle4 hp4 hs)
    refine Zerun ?_
    (refine RW.call T hs rfl rfl rfl (thoseRune_con _ _ _ at_ 32 _ _ hp4 (ha'.mono hle4) hm) ?_; intro v h5 w5 hle5 hp5 hs)
    (refine RW.call T hs rfl rfl rfl (vecChars_con (R := R) _ _ _ _ hp5 (by simp; omega)) ?_; intro v h6 w6 hle6 hp6 hs)
    obtain ⟨cs6, rfl, hv6⟩ := hp6
    rw [hsp] at hv6
    have hv6' := hv6
    obtain ⟨wv', nv', sm', il', fl', ch', bx', ⟨rfl, hoc'⟩, _⟩ := hv6
    (refine RW.storeAll T hs 0 rfl rfl rfl rfl rfl rfl hoc' rfl ?_; intro w7 hs)
    refine Zerun ?_
    exact retQ_ret [_] h6 ⟨resN T hs 0 rfl rfl rfl rfl rfl rfl, trivial⟩ hs.dropAll ⟨_, rfl, hv6'⟩
  · have hsp : (⟨6, [], [], at_.map (fun i => atD v.boxes i nb)⟩ : VecD α) = v.pick at_ nb := by unfold VecD.pick; rw [if_neg (by omega), if_pos k6]
    refine Zerun ?_
    (refine RW.call T hs rfl rfl rfl (vecArrays_con hR h1 _ v _ _ hv' (by omega)) ?_; intro v h4 w4 hle4 hp4 hs)
    refine Zerun ?_
    (refine RW.call T hs rfl rfl rfl (hbl _ _) ?_; intro v h5 w5 hle5 hp5 hs)
    obtain ⟨cs5, rfl, hb5⟩ := hp5
    (refine RW.call T hs rfl rfl rfl (thoseArr_con hR h1 h9 _ _ _ at_ _ nb _ _ (hp4.mono hle5 (fun u a => hR _ _ u a hle5)) (ha'.mono (hle4.trans hle5)) hb5 hm) ?_; intro v h6 w6 hle6 hp6 hs)
    (refine RW.call T hs rfl rfl rfl (vecBoxes_con hR h1 _ _ _ _ hp6 (by simp; omega)) ?_; intro v h7 w7 hle7 hp7 hs)
    obtain ⟨cs7, rfl, hv7⟩ := hp7
    rw [hsp] at hv7
    have hv7' := hv7
    obtain ⟨wv', nv', sm', il', fl', ch', bx', ⟨rfl, hoc'⟩, _⟩ := hv7
    (refine RW.storeAll T hs 0 rfl rfl rfl rfl rfl rfl hoc' rfl ?_; intro w8 hs)
    refine Zerun ?_
    exact retQ_ret [_] h7 ⟨resN T hs 0 rfl rfl rfl rfl rfl rfl, trivial⟩ hs.dropAll ⟨_, rfl, hv7'⟩
end
end Go.Proofs.YtmojpbfkpggjhaaGreat

/-
  Contracts of the document's answer and of the law's own functions of layer 8: items picked, lists shown. No statement is proved here.
-/
namespace Go.Proofs.YtmojpbfkpggjhaaGreat
open Go Go.RowKit
set_option linter.unusedVariables false
set_option linter.unusedSimpArgs false
set_option maxHeartbeats 4000000
attribute [local irreducible] CW RW QW SW HW ConM retM heldQ calmQ elemP thenQ blockQ loopQ joinQ retQ Yields Con Sl zF magR unitF truncF fwF wholeF tidySpec elemQ rankF leastN tidyW
set_option maxHeartbeats 4000000

section
variable {β : Type} {R : GHeap → List Value → β → Prop}
/-- what stands for none, of a class -/
def blankI (c : Int) : ItemD (PlainD β) := ⟨c, 0, if c = 1 then 32 else 0, if c = 2 then [⟨[0], [], 0⟩] else []⟩
theorem refBlank08_con (hR : Mono R) (c : Int) (w : World) (h : GHeap) : Con Tryz.prog 89 [.int .i64 c] w h (fun h' u => ∃ cs', u = .agg cs'.toArray ∧ ItemAt (PlainR R) h' cs' (blankI c)) := by
  refine Con.of_body Tryz.func89 rfl Tryz.ntmps89 rfl rfl ?_
  intro hs
  refine Zrun ?_
  (refine RW.allocN T hs rfl rfl rfl rfl ?_; intro b1 w1 hs)
  refine Zerun ?_
  refine RW.val (Y.build T rfl rfl rfl rfl rfl rfl rfl) rfl ?_
  (refine RW.allocN T hs rfl rfl rfl rfl ?_; intro b2 w2 hs)
  (refine RW.storeAll T hs 0 rfl rfl rfl rfl rfl rfl rfl rfl ?_; intro w3 hs)
  refine Zerun ?_
  unfold blankI
  by_cases c1 : c = 1
  · rw [if_pos c1, if_neg (by omega)]
    refine Zerun ?_
    (refine RW.store1 T hs 0 rfl rfl rfl rfl rfl rfl rfl rfl ?_; intro w4 hs)
    refine Zerun ?_
    (refine RW.storeAll T hs 1 rfl rfl rfl rfl rfl rfl rfl rfl ?_; intro w5 hs)
    refine Zerun ?_
    exact retQ_ret [_] h ⟨resN T hs 1 rfl rfl rfl rfl rfl rfl, trivial⟩ hs.dropAll ⟨_, rfl, ItemAt.mk' (x := ⟨c, 0, 32, []⟩) (RowsAt.nil _) (Nat.succ_pos _)⟩
  rw [if_neg c1]
  by_cases c2 : c = 2
  · rw [if_pos c2]
    refine Zerun ?_
    (refine RW.lit T hs (vs := [.int .i64 0]) (cs := [.int .i64 0]) rfl rfl rfl rfl (by simp [Value.cells]) rfl rfl rfl rfl rfl ?_; intro b4 w4 hs)
    obtain ⟨h5, hle5, hs, hS5⟩ := hs.freeze
    have hI5 : IntsAt h5 (.slice (some ⟨b4, 0, none⟩) 1 1) [0] := IntsAt.of_sl hS5
    refine RW.val (Y.build T rfl rfl rfl rfl rfl rfl rfl) rfl ?_
    (refine RW.lit T hs (vs := [.agg [.slice (some ⟨b4, 0, none⟩) 1 1, .slice none 0 0, .int .i64 0].toArray]) (cs := [.slice (some ⟨b4, 0, none⟩) 1 1, .slice none 0 0, .int .i64 0]) rfl rfl rfl rfl (by simp [Value.cells]) rfl rfl rfl rfl rfl ?_; intro b6 w6 hs)
    obtain ⟨h7, hle7, hs, hS7⟩ := hs.freeze
    have hR7 : RowsAt 3 (PlainR R h7) h7 (.slice (some ⟨b6, 0, none⟩) 1 1) [(⟨[0], [], 0⟩ : PlainD β)] := RowsAt.single hS7 ⟨_, _, rfl, hI5.mono hle7, RowsAt.nil _⟩
    refine Zerun ?_
    (refine RW.store1 T hs 0 rfl rfl rfl rfl rfl rfl rfl rfl ?_; intro w8 hs)
    refine Zerun ?_
    (refine RW.storeAll T hs 1 rfl rfl rfl rfl rfl rfl rfl rfl ?_; intro w9 hs)
    refine Zerun ?_
    exact retQ_ret [_] h7 ⟨resN T hs 1 rfl rfl rfl rfl rfl rfl, trivial⟩ hs.dropAll ⟨_, rfl, ItemAt.mk' (x := ⟨c, 0, 0, [(⟨[0], [], 0⟩ : PlainD β)]⟩) hR7 (Nat.succ_pos _)⟩
  rw [if_neg c2]
  refine Zerun ?_
  (refine RW.storeAll T hs 1 rfl rfl rfl rfl rfl rfl rfl rfl ?_; intro w5 hs)
  refine Zerun ?_
  exact retQ_ret [_] h ⟨resN T hs 1 rfl rfl rfl rfl rfl rfl, trivial⟩ hs.dropAll ⟨_, rfl, ItemAt.mk' (x := ⟨c, 0, 0, []⟩) (RowsAt.nil _) (Nat.succ_pos _)⟩
theorem refList08_con {γ : Type} {RC : GHeap → List Value → γ → Prop} (hRC : Mono RC) (v : Value) (l : List (ItemD γ)) (c : Int) (w : World) (h : GHeap) (hl : RowsAt 4 (ItemAt RC h) h v l) : Con Tryz.prog 74 [v, .int .i64 c] w h (fun h' u => ∃ cs', u = .agg cs'.toArray ∧ PlainR RC h' cs' (⟨[(l.length : Int)], l, c⟩ : PlainD γ)) := by
  have hl' := hl
  obtain ⟨ad, cp, xs, rfl, hS, hA⟩ := hl
  refine Con.of_body Tryz.func74 rfl Tryz.ntmps74 rfl rfl ?_
  intro hs
  refine Zrun ?_
  (refine RW.allocN T hs rfl rfl rfl rfl ?_; intro b1 w1 hs)
  refine Zerun ?_
  (refine RW.lit T hs (vs := [.int .i64 l.length]) (cs := [.int .i64 l.length]) rfl rfl rfl rfl (by simp [Value.cells]) rfl rfl rfl rfl rfl ?_; intro b2 w2 hs)
  obtain ⟨h3, hle3, hs, hS3⟩ := hs.freeze
  have hI3 : IntsAt h3 (.slice (some ⟨b2, 0, none⟩) 1 1) [(l.length : Int)] := IntsAt.of_sl hS3
  refine Zerun ?_
  refine RW.val (Y.build T rfl rfl rfl rfl rfl rfl rfl) rfl ?_
  (refine RW.storeAll T hs 0 rfl rfl rfl rfl rfl rfl rfl rfl ?_; intro w4 hs)
  refine Zerun ?_
  exact retQ_ret [_] h3 ⟨resN T hs 0 rfl rfl rfl rfl rfl rfl, trivial⟩ hs.dropAll ⟨_, rfl, _, _, rfl, hI3, hl'.mono hle3 (fun u a => ItemAt.mono hRC _ _ u a hle3)⟩
end
end Go.Proofs.YtmojpbfkpggjhaaGreat

/-
  Contracts of the law's own functions of layer 8: good plain arrays, the chapter's example, elements at all places. No statement is proved here.
-/
namespace Go.Proofs.YtmojpbfkpggjhaaGreat
open Go Go.RowKit
set_option linter.unusedVariables false
set_option linter.unusedSimpArgs false
set_option maxHeartbeats 4000000
attribute [local irreducible] CW RW QW SW HW ConM retM heldQ calmQ elemP thenQ blockQ loopQ joinQ retQ Yields Con Sl zF magR unitF truncF fwF wholeF tidySpec elemQ rankF leastN tidyW
set_option maxHeartbeats 4000000

/-! ## Plain facts -/
theorem atD_map {γ δ : Type} (g : γ → δ) (l : List γ) (i : Int) (d : γ) : atD (l.map g) i (g d) = g (atD l i d) := by
  unfold atD
  split
  · by_cases c : i.toNat < l.length
    · simp [List.getD_eq_getElem?_getD, c]
    · simp [List.getD_eq_getElem?_getD, c]
  · rfl
theorem atD_mem {γ : Type} (l : List γ) (i : Int) (d : γ) : atD l i d ∈ l ∨ atD l i d = d := by
  unfold atD
  split
  · by_cases c : i.toNat < l.length
    · exact .inl (mem_getD _ _ _ c)
    · right; simp [List.getD_eq_getElem?_getD, c]
  · exact .inr rfl
section
variable {α β : Type} {R : GHeap → List Value → α → Prop}
theorem pick_cls (v : VecD α) (at_ : List Int) (nb : α) : (v.pick at_ nb).cls = v.cls := by
  unfold VecD.pick
  by_cases k5 : v.kind = 5
  · rw [if_pos k5]; unfold VecD.cls; rw [if_pos rfl, if_pos k5]
  · rw [if_neg k5]
    by_cases k6 : v.kind = 6
    · rw [if_pos k6]; unfold VecD.cls; rw [if_neg (show ¬ (6 : Int) = 5 by decide), if_pos rfl, if_neg k5, if_pos k6]
    · rw [if_neg k6]
      have := leastN_bounds (at_.map v.num)
      unfold VecD.cls
      rw [if_neg k5, if_neg k6]
      dsimp only
      rw [if_neg (by omega), if_neg (by omega)]
theorem pick_facts (v : VecD α) (at_ : List Int) (nb : α) : (v.pick at_ nb).kind ≠ 0 ∧ (v.pick at_ nb).kind = (v.pick at_ nb).least ∧ (v.pick at_ nb).len = at_.length ∧ ∀ b ∈ (v.pick at_ nb).boxes, b ∈ v.boxes ∨ b = nb := by
  have hc := pick_cls v at_ nb
  unfold VecD.least
  rw [hc]
  unfold VecD.cls VecD.pick
  by_cases k5 : v.kind = 5
  · rw [if_pos k5, if_pos k5]; simp [VecD.len]
  · rw [if_neg k5, if_neg k5]
    by_cases k6 : v.kind = 6
    · rw [if_pos k6, if_pos k6]
      refine ⟨show (6 : Int) ≠ 0 by decide, by simp, by simp [VecD.len], ?_⟩
      intro b hb
      obtain ⟨i, _, rfl⟩ := List.mem_map.1 hb
      exact atD_mem _ _ _
    · rw [if_neg k6, if_neg k6]
      have := leastN_bounds (at_.map v.num)
      exact ⟨by dsimp only; omega, by dsimp only; rw [if_pos ⟨rfl, by omega⟩], by simp [VecD.len], fun b hb => by cases hb⟩
theorem itemsV_c1 (f : α → β) {v : VecD α} (hc : v.cls = 1) : itemsV f v = v.chars.map fun c => ⟨1, 0, c, []⟩ := by unfold itemsV; rw [if_pos hc]
theorem itemsV_c2 (f : α → β) {v : VecD α} (hc : v.cls = 2) : itemsV f v = v.boxes.map fun b => ⟨2, 0, 0, [f b]⟩ := by unfold itemsV; rw [if_neg (by omega), if_pos hc]
theorem itemsV_c0 (f : α → β) {v : VecD α} (hc : v.cls = 0) : itemsV f v = v.nums.map fun x => ⟨0, x, 0, []⟩ := by unfold itemsV; rw [if_neg (by omega), if_neg (by omega)]
theorem pick_items (f : α → PlainD β) (v : VecD α) (at_ : List Int) (nb : α) (hnb : f nb = ⟨[0], [], 0⟩) : itemsV f (v.pick at_ nb) = at_.map (fun i => atD (itemsV f v) i (blankI v.cls)) := by
  have hpc := pick_cls v at_ nb
  have hcl : v.cls = if v.kind = 5 then 1 else if v.kind = 6 then 2 else 0 := rfl
  by_cases k5 : v.kind = 5
  · rw [if_pos k5] at hcl
    have e : (v.pick at_ nb).chars = at_.map (fun i => atD v.chars i 32) := by unfold VecD.pick; rw [if_pos k5]
    rw [itemsV_c1 f (hpc.trans hcl), itemsV_c1 f hcl, hcl, e, List.map_map]
    apply List.map_congr_left
    intro i _
    exact (atD_map (fun c => (⟨1, 0, c, []⟩ : ItemD (PlainD β))) v.chars i 32).symm
  · rw [if_neg k5] at hcl
    by_cases k6 : v.kind = 6
    · rw [if_pos k6] at hcl
      have e : (v.pick at_ nb).boxes = at_.map (fun i => atD v.boxes i nb) := by unfold VecD.pick; rw [if_neg k5, if_pos k6]
      rw [itemsV_c2 f (hpc.trans hcl), itemsV_c2 f hcl, hcl, e, List.map_map]
      apply List.map_congr_left
      intro i _
      have e := (atD_map (fun b => (⟨2, 0, 0, [f b]⟩ : ItemD (PlainD β))) v.boxes i nb).symm
      rw [hnb] at e
      exact e
    · rw [if_neg k6] at hcl
      have e : (v.pick at_ nb).nums = at_.map v.num := by unfold VecD.pick; rw [if_neg k5, if_neg k6]
      rw [itemsV_c0 f (hpc.trans hcl), itemsV_c0 f hcl, hcl, e, List.map_map]
      apply List.map_congr_left
      intro i _
      exact (atD_map (fun x => (⟨0, x, 0, []⟩ : ItemD (PlainD β))) v.nums i 0).symm
theorem pick_items' (f : α → PlainD β) (v : VecD α) (at_ : List Int) (nb : α) (L : List (ItemD (PlainD β))) (c : Int) (hL : itemsV f v = L) (hc : v.cls = c) (hnb : f nb = ⟨[0], [], 0⟩) : itemsV f (v.pick at_ nb) = at_.map (fun i => atD L i (blankI c)) := by
  subst hL hc
  exact pick_items f v at_ nb hnb
end
def blankA (k : Nat) : AD (k + 1) := (⟨[0], ⟨1, [], [], []⟩⟩ : ArrD (AD k))
def blankP (k : Nat) : PD (k + 1) := (⟨[0], [], 0⟩ : PlainD (PD k))
theorem blankA_plain (k : Nat) : plain (k + 1) (blankA k) = blankP k := rfl
theorem blankA_sml (k : Nat) : sml (k + 1) (blankA k) := ⟨by show 1 ≤ 8; omega, Nat.zero_le _, fun b hb => by cases hb⟩
theorem blankP_tdy (k : Nat) : tdy (k + 1) (blankP k) := fun x hx => by cases hx
theorem blankI_tdy (k : Nat) (c : Int) : tdyIt (tdy (k + 1)) (blankI c : ItemD (PlainD (PD k))) := by
  refine ⟨tidy0, fun b hb => ?_⟩
  unfold blankI at hb
  dsimp only at hb
  split at hb
  · rw [List.mem_singleton.1 hb]; exact blankP_tdy k
  · cases hb
end Go.Proofs.YtmojpbfkpggjhaaGreat

/-
  Contracts of the law's own functions of layer 8: elements picked, and picked again. No statement is proved here.
-/
namespace Go.Proofs.YtmojpbfkpggjhaaGreat
open Go Go.RowKit
set_option linter.unusedVariables false
set_option linter.unusedSimpArgs false
set_option maxHeartbeats 4000000
attribute [local irreducible] CW RW QW SW HW ConM retM heldQ calmQ elemP thenQ blockQ loopQ joinQ retQ Yields Con Sl zF magR unitF truncF fwF wholeF tidySpec elemQ rankF leastN tidyW
set_option maxHeartbeats 4000000

end Go.Proofs.YtmojpbfkpggjhaaGreat

/-
  Contracts of functions of package flat: numbers from one up to another, elements backwards, and again and again. No statement is proved here.
-/
namespace Go.Proofs.YtmojpbfkpggjhaaGreat
open Go Go.RowKit
set_option linter.unusedVariables false
set_option linter.unusedSimpArgs false
set_option maxHeartbeats 4000000
attribute [local irreducible] CW RW QW SW HW ConM retM heldQ calmQ elemP thenQ blockQ loopQ joinQ retQ Yields Con Sl zF magR unitF truncF fwF wholeF tidySpec elemQ rankF leastN tidyW
set_option maxHeartbeats 4000000

def spanL (a b : Nat) : List Int := (List.range (b - a)).map fun i => ((a + i : Nat) : Int)
theorem spanL_length (a b : Nat) : (spanL a b).length = b - a := by simp [spanL]
theorem range_snoc (f : Nat → Int) (i : Nat) : (((List.range (i + 1)).map f).map (Value.int .i64)) = (((List.range i).map f).map (Value.int .i64)) ++ [.int .i64 (f i)] := by rw [List.range_succ, List.map_append, List.map_append]; rfl
theorem flatSpan_con (a b : Nat) (w : World) (h : GHeap) (hab : a ≤ b) (hb : b ≤ 1048576) : Con Tryz.prog 129 [.int .i64 a, .int .i64 b] w h (fun h' u => IntsAt h' u (spanL a b)) := by
  refine Con.of_body Tryz.func129 rfl Tryz.ntmps129 rfl rfl ?_
  intro hs
  refine Zerun ?_
  (refine RW.make T hs rfl rfl rfl rfl rfl ?_ ?_ ?_ ?_ ?_; omega; omega; (dsimp only; omega); omega; intro b1 w1 hs)
  have hs : Sees w h h [⟨some ⟨b1, 0, none⟩, 0, b - a, 3, 1, []⟩] w1 := by
    have e : ((b : Int) - a).toNat = b - a := by omega
    rw [e] at hs
    exact hs.re (made_one _ _)
  have e : ((b : Int) - a).toNat = b - a := by omega
  rw [e]
  refine Zerun ?_
  refine CW.loop (fun u : Nat × (Option Addr × Nat) => [(0, .int .i64 a), (1, .int .i64 b), (5, .slice u.2.1 u.1 u.2.2), (6, .int .i64 ((a + u.1 : Nat) : Int))]) (fun u w' => u.1 ≤ b - a ∧ Sees w h h [⟨u.2.1, u.1, u.2.2, 3, 1, ((List.range u.1).map fun i => ((a + i : Nat) : Int)).map (Value.int .i64)⟩] w') (fun u => b - a - u.1) (0, (some ⟨b1, 0, none⟩, b - a)) ⟨rfl, rfl, rfl, rfl, trivial⟩ ⟨by omega, hs⟩ ?_
  rintro ⟨i, ⟨ai, ci⟩⟩ w5 ⟨hi, hs⟩
  dsimp only at hi hs ⊢
  by_cases hlt : i < b - a
  · refine Zerun ?_
    (refine RW.lit T hs (vs := [.int .i64 ((a + i : Nat) : Int)]) (cs := [.int .i64 ((a + i : Nat) : Int)]) rfl rfl rfl rfl (by simp [Value.cells]) rfl rfl rfl rfl rfl ?_; intro b6 w6 hs)
    (refine RW.append T hs 1 rfl rfl (m := 1) (news := [.int .i64 ((a + i : Nat) : Int)]) rfl rfl rfl rfl rfl rfl (hs.src0 rfl (by simp [Value.oneCell'])) (by simp) (by dsimp only; omega) (by omega) ?_; intro ad7 cp7 w7 hs; replace hs := hs.drop)
    refine Zerun ?_
    refine loopQ_round (i + 1, (ad7, cp7)) ⟨rfl, rfl, rfl, seti (by dsimp only; omega), trivial⟩ ⟨by dsimp only; omega, ?_⟩ (by dsimp only; omega)
    dsimp only
    rw [range_snoc]
    exact hs
  · obtain rfl : i = b - a := by omega
    refine Zerun ?_
    obtain ⟨h6, hle6, hs, hS6⟩ := hs.freeze
    refine retQ_ret [_] h6 ⟨rfl, trivial⟩ hs.dropAll ?_
    have := IntsAt.of_sl (l := spanL a b) hS6
    exact this
section
variable {α : Type} {R : GHeap → List Value → α → Prop}
end
end Go.Proofs.YtmojpbfkpggjhaaGreat

/-
  Contracts of functions of package bitvec: bits behind the last one away, and truths cut. No statement is proved here.
-/
namespace Go.Proofs.YtmojpbfkpggjhaaGreat
open Go Go.RowKit
set_option linter.unusedVariables false
set_option linter.unusedSimpArgs false
set_option maxHeartbeats 4000000
attribute [local irreducible] CW RW QW SW HW ConM retM heldQ calmQ elemP thenQ blockQ loopQ joinQ retQ Yields Con Sl zF magR unitF truncF fwF wholeF tidySpec elemQ rankF leastN tidyW
set_option maxHeartbeats 4000000

section
variable {P : Program} {n : Nat} {L : Env} {w : World} {ty : TypeId} {x y : Operand} {t yt : TypeId}
theorem Y.subU {u v : Nat} (hx : opv L x = some (.int .u64 (u : Int))) (hy : opv L y = some (.int .u64 (v : Int))) (hu : u < 18446744073709551616) (hv : v ≤ u) : Yields P n L w (.binOp .sub t x y yt) ty (.int .u64 ((u - v : Nat) : Int)) := by
  have := Y.sub' (P := P) (n := n) (w := w) (ty := ty) (t := t) (yt := yt) hx hy
  rw [show (u : Int) - v = ((u - v : Nat) : Int) by omega, wrapU _ (by omega)] at this
  exact this
theorem Y.shlI {u v : Nat} {yk : IntKind} (hx : opv L x = some (.int .i64 (u : Int))) (hy : opv L y = some (.int yk (v : Int))) (hv : v ≤ 64) (hb : u * 2 ^ v < 9223372036854775808) : Yields P n L w (.binOp .shl t x y yt) ty (.int .i64 ((u * 2 ^ v : Nat) : Int)) := by
  have := Y.shl' (P := P) (n := n) (w := w) (ty := ty) (t := t) (yt := yt) hx hy (by omega)
  have e : IntKind.i64.wrap ((u : Int) * 2 ^ (min (v : Int).toNat IntKind.i64.bits)) = ((u * 2 ^ v : Nat) : Int) := by
    rw [Int.toNat_natCast, show IntKind.i64.bits = 64 from rfl, Nat.min_eq_left hv, show (u : Int) * 2 ^ v = ((u * 2 ^ v : Nat) : Int) by push_cast; rfl, wrap64 (by omega)]
  rw [e] at this
  exact this
end
section
variable {P : Program} {L : Env} {w0 w : World} {h0 h : GHeap}
theorem retM_end {rs : List ResultVar} {post : GHeap → List Row → Value → Prop} (vs : List Value) (h' : GHeap) (O' : List Row) (hr : Res P L w rs vs) (hl : GLe h h') (hs : Sees w0 h0 h' O' w) (hp : post h' O' (packv vs)) : retM P rs w0 h0 h post .normal L w := by
  unfold retM
  exact ⟨vs, h', O', hr, hl, hs, hp⟩
end
/-! ## Plain facts -/
def BitsUp (m : Nat) (ws : List Int) (g : Nat → Bool) : Prop := ws.length = m ∧ (∀ u ∈ ws, 0 ≤ u ∧ u < 18446744073709551616) ∧ ∀ i, i < m * 64 → (ws.getD (i / 64) 0).toNat.testBit (i % 64) = g i
def trimW (n : Nat) (ws : List Int) : List Int := if n % 64 = 0 then ws else ws.set (ws.length - 1) (((ws.getD (ws.length - 1) 0).toNat &&& (2 ^ (n % 64) - 1) : Nat) : Int)
def cutW (ws : List Int) (f i : Nat) : Nat := ((ws.getD ((f + i * 64) / 64) 0).toNat >>> ((f + i * 64) % 64)) ||| (if 0 < (f + i * 64) % 64 ∧ (f + i * 64) / 64 + 1 < ws.length then (ws.getD ((f + i * 64) / 64 + 1) 0).toNat <<< (64 - (f + i * 64) % 64) % 18446744073709551616 else 0)
theorem word_lt {ws : List Int} (h : ∀ u ∈ ws, 0 ≤ u ∧ u < 18446744073709551616) (i : Nat) : (ws.getD i 0).toNat < 18446744073709551616 := by
  by_cases c : i < ws.length
  · have := h _ (mem_getD ws i 0 c); omega
  · simp [List.getD_eq_getElem?_getD, c]
theorem word_cast {ws : List Int} (h : ∀ u ∈ ws, 0 ≤ u ∧ u < 18446744073709551616) (i : Nat) : ws.getD i 0 = ((ws.getD i 0).toNat : Int) := by
  by_cases c : i < ws.length
  · have := h _ (mem_getD ws i 0 c); omega
  · simp [List.getD_eq_getElem?_getD, c]
theorem shl_lt (u v : Nat) : u <<< v % 18446744073709551616 < 18446744073709551616 := Nat.mod_lt _ (by decide)
theorem cutW_lt {ws : List Int} (h : ∀ u ∈ ws, 0 ≤ u ∧ u < 18446744073709551616) (f i : Nat) : cutW ws f i < 18446744073709551616 := by
  unfold cutW
  refine Nat.or_lt_two_pow (n := 64) (Nat.lt_of_le_of_lt (Nat.shiftRight_le _ _) (word_lt h _)) ?_
  split
  · exact shl_lt _ _
  · decide
theorem cutW_bit {ws : List Int} {bs : List Bool} (hb : BitsOf ws bs) (f i j : Nat) (hj : j < 64) : (cutW ws f i).testBit j = bs.getD (f + i * 64 + j) false := by
  obtain ⟨hl, hr, hb⟩ := hb
  have h1 := hb (f + i * 64 + j)
  rw [← h1]
  unfold cutW
  rw [Nat.testBit_or, Nat.testBit_shiftRight]
  generalize hk : (f + i * 64) / 64 = k
  generalize hrr : (f + i * 64) % 64 = r
  have hat : f + i * 64 = k * 64 + r := by omega
  have hr64 : r < 64 := by omega
  by_cases c : r + j < 64
  · have e1 : (f + i * 64 + j) / 64 = k := by omega
    have e2 : (f + i * 64 + j) % 64 = r + j := by omega
    rw [e1, e2]
    have : (if 0 < r ∧ k + 1 < ws.length then (ws.getD (k + 1) 0).toNat <<< (64 - r) % 18446744073709551616 else 0).testBit j = false := by
      split
      · rw [show (18446744073709551616 : Nat) = 2 ^ 64 from rfl, Nat.testBit_mod_two_pow, Nat.testBit_shiftLeft]
        simp [show ¬ (j ≥ 64 - r) by omega]
      · simp
    rw [this, Bool.or_false]
  · have e1 : (f + i * 64 + j) / 64 = k + 1 := by omega
    have e2 : (f + i * 64 + j) % 64 = r + j - 64 := by omega
    rw [e1, e2]
    have h2 : (ws.getD k 0).toNat.testBit (r + j) = false := by
      apply Nat.testBit_lt_two_pow
      exact Nat.lt_of_lt_of_le (word_lt hr k) (Nat.pow_le_pow_right (n := 2) (by omega) (show 64 ≤ r + j by omega))
    rw [h2, Bool.false_or]
    by_cases c2 : k + 1 < ws.length
    · rw [if_pos ⟨by omega, c2⟩, show (18446744073709551616 : Nat) = 2 ^ 64 from rfl, Nat.testBit_mod_two_pow, Nat.testBit_shiftLeft]
      simp [hj, show j ≥ 64 - r by omega, show j - (64 - r) = r + j - 64 by omega]
    · rw [if_neg (by omega)]
      simp [List.getD_eq_getElem?_getD, c2]
theorem BitsUp.trim {n : Nat} {ws : List Int} {g : Nat → Bool} (h : BitsUp ((n + 63) / 64) ws g) (bs : List Bool) (hn : bs.length = n) (hg : ∀ i, i < n → g i = bs.getD i false) : BitsOf (trimW n ws) bs := by
  obtain ⟨hl, hr, hb⟩ := h
  subst hn
  have hout : ∀ i, bs.length ≤ i → bs.getD i false = false := by intro i hi; simp [List.getD_eq_getElem?_getD, hi]
  have hbig : ∀ i, ws.length ≤ i / 64 → (ws.getD (i / 64) 0).toNat.testBit (i % 64) = false := by
    intro i hi
    have : ws.getD (i / 64) 0 = 0 := by simp [List.getD_eq_getElem?_getD, hi]
    rw [this]; simp
  unfold trimW
  by_cases c : bs.length % 64 = 0
  · rw [if_pos c]
    refine ⟨hl, hr, fun i => ?_⟩
    by_cases c2 : i < bs.length
    · rw [hb i (by omega), hg i c2]
    · rw [hout i (by omega)]
      exact hbig i (by omega)
  · rw [if_neg c]
    have hlast : ws.length - 1 < ws.length := by omega
    have hlt := word_lt hr (ws.length - 1)
    refine ⟨by rw [List.length_set]; exact hl, fun u hu => ?_, fun i => ?_⟩
    · rcases List.mem_or_eq_of_mem_set hu with hu | hu
      · exact hr u hu
      · subst hu
        have := Nat.and_le_left (n := (ws.getD (ws.length - 1) 0).toNat) (m := 2 ^ (bs.length % 64) - 1)
        omega
    · rw [getD_set _ _ _ _ _ hlast]
      by_cases c2 : i / 64 = ws.length - 1
      · rw [if_pos c2, Int.toNat_natCast, Nat.testBit_and, Nat.testBit_two_pow_sub_one]
        by_cases c3 : i < bs.length
        · have := hb i (by omega)
          rw [c2] at this
          rw [this, hg i c3]
          simp [show i % 64 < bs.length % 64 by omega]
        · rw [hout i (by omega)]
          simp [show ¬ i % 64 < bs.length % 64 by omega]
      · rw [if_neg c2]
        by_cases c3 : i < bs.length
        · rw [hb i (by omega), hg i c3]
        · rw [hout i (by omega)]
          exact hbig i (by omega)
theorem BitsUp.put {m : Nat} {ws : List Int} {bs : List Bool} {f i : Nat} {out : List Int} (hb : BitsOf ws bs) (ho : BitsUp m out (fun j => if j < i * 64 then bs.getD (f + j) false else false)) (hi : i < m) : BitsUp m (out.set i (cutW ws f i : Int)) (fun j => if j < (i + 1) * 64 then bs.getD (f + j) false else false) := by
  obtain ⟨hl, hr, hbo⟩ := ho
  refine ⟨by rw [List.length_set]; exact hl, fun u hu => ?_, fun j hj => ?_⟩
  · rcases List.mem_or_eq_of_mem_set hu with hu | hu
    · exact hr u hu
    · subst hu
      have := cutW_lt hb.2.1 f i
      omega
  · rw [getD_set _ _ _ _ _ (by omega)]
    by_cases e : j / 64 = i
    · rw [if_pos e, Int.toNat_natCast, cutW_bit hb f i _ (Nat.mod_lt _ (by omega))]
      dsimp only
      rw [if_pos (by omega)]
      congr 1
      omega
    · rw [if_neg e, hbo j hj]
      dsimp only
      by_cases c : j < i * 64
      · rw [if_pos c, if_pos (by omega)]
      · rw [if_neg c, if_neg (by omega)]
theorem BitsUp.zero (m : Nat) (g : Nat → Bool) : BitsUp m (List.replicate m 0) (fun j => if j < 0 * 64 then g j else false) := by
  refine ⟨by simp, fun u hu => ?_, fun j hj => ?_⟩
  · rw [List.eq_of_mem_replicate hu]; omega
  · dsimp only
    rw [if_neg (by omega)]
    have : (List.replicate m (0 : Int)).getD (j / 64) 0 = 0 := by
      rw [List.getD_eq_getElem?_getD, List.getElem?_replicate]
      split <;> rfl
    rw [this]; simp
theorem pow_sub_lt (r : Nat) (h : r < 64) : 2 ^ r < 18446744073709551616 := Nat.pow_lt_pow_right (show 1 < 2 by omega) h
theorem bitsTrim_conM (n : Nat) (b : Nat) (ws : List Int) (x0 : Row) (w0 w : World) (h0 h : GHeap) (O : List Row) (hl : ws.length = (n + 63) / 64) (hr : ∀ u ∈ ws, 0 ≤ u ∧ u < 18446744073709551616) (hn : n ≤ 1048576) : ConM Tryz.prog 162 [.agg [.slice (some ⟨b, 0, none⟩) ws.length ws.length, .int .i64 n].toArray] w0 h0 h (x0 :: ⟨some ⟨b, 0, none⟩, ws.length, ws.length, 183, 1, ws.map (Value.int .u64)⟩ :: O) w
    (fun h' O' v => h' = h ∧ O' = x0 :: ⟨some ⟨b, 0, none⟩, ws.length, ws.length, 183, 1, (trimW n ws).map (Value.int .u64)⟩ :: O) := by
  refine ConM.of_body Tryz.func162 rfl Tryz.ntmps162 rfl rfl ?_
  intro hs
  refine Zrun ?_
  (refine RW.boxN hs rfl rfl ?_; intro b1 w1 hs)
  refine Zerun ?_
  refine RW.val (Y.andI (u := n) (v := 63) rfl rfl (by omega) (by omega)) rfl ?_
  rw [and63]
  by_cases c : n % 64 = 0
  · refine Zerun ?_
    refine retM_end [] h _ (by trivial) (GLe.refl _) hs.drop ⟨rfl, ?_⟩
    unfold trimW
    rw [if_pos c]
  · have h64 := Nat.mod_lt n (show 64 > 0 by omega)
    have hp := pow_sub_lt _ h64
    have hp1 := Nat.pow_pos (n := n % 64) (show 0 < 2 by omega)
    have hwl := word_lt hr (ws.length - 1)
    have hwc := word_cast hr (ws.length - 1)
    have e1 : (ws.length : Int) - 1 = ((ws.length - 1 : Nat) : Int) := by omega
    refine Zerun ?_
    rw [e1]
    refine RW.val (Y.idxRN T hs 2 rfl rfl rfl rfl rfl rfl ?_) rfl ?_
    · omega
    refine RW.val (Y.ldRInt T hs 2 rfl rfl rfl rfl ?_) rfl ?_
    · omega
    rw [hwc]
    refine Zerun ?_
    refine RW.val (Y.convII T rfl rfl rfl) rfl ?_
    rw [wrapU _ (by omega)]
    refine RW.val (Y.shlU (u := 1) rfl rfl (by omega)) rfl ?_
    rw [Nat.one_shiftLeft, Nat.mod_eq_of_lt hp]
    refine RW.val (Y.subU rfl rfl hp (v := 1) (by omega)) rfl ?_
    refine RW.val (Y.andU rfl rfl hwl (by omega)) rfl ?_
    refine RW.val (Y.idxRN T hs 2 rfl rfl rfl rfl rfl rfl ?_) rfl ?_
    · omega
    refine RW.st1 T hs 2 rfl rfl rfl rfl rfl rfl rfl (by omega) ?_
    intro w2 hs
    refine Zerun ?_
    refine retM_end [] h _ (by trivial) (GLe.refl _) hs.drop ⟨rfl, ?_⟩
    unfold trimW
    rw [if_neg c, ← map_set_int]
    rfl
theorem bitsCut_con (wv : Value) (bs : List Bool) (f t_ : Nat) (w : World) (h : GHeap) (hb : BitsAt h wv bs) (hft : f ≤ t_) (ht : t_ ≤ bs.length) : Con Tryz.prog 128 [.agg [wv, .int .i64 bs.length].toArray, .int .i64 f, .int .i64 t_] w h (fun h' u => ∃ wv', u = .agg [wv', .int .i64 ((t_ - f : Nat) : Int)].toArray ∧ BitsAt h' wv' ((bs.drop f).take (t_ - f))) := by
  obtain ⟨hbm, ws, ⟨ad, cp, rfl, hS⟩, hB⟩ := hb
  have hB' := hB
  obtain ⟨hwl, hwr, hwb⟩ := hB'
  refine Con.of_body Tryz.func128 rfl Tryz.ntmps128 rfl rfl ?_
  intro hs
  refine Zrun ?_
  (refine RW.boxN hs rfl rfl ?_; intro b1 w1 hs)
  (refine RW.allocN T hs rfl rfl rfl rfl ?_; intro b2 w2 hs)
  refine Zerun ?_
  have e1 : max 0 (min (f : Int) (bs.length : Int)) = f := by omega
  rw [e1]
  have e2 : max (f : Int) (min (t_ : Int) (bs.length : Int)) = t_ := by omega
  rw [e2]
  have e3 : (t_ : Int) - f = ((t_ - f : Nat) : Int) := by omega
  rw [e3]
  (refine RW.callM T hs rfl rfl rfl (bitsMake_conM (t_ - f) _ _ _ _ _ (by omega)) ?_; intro v h3 O3 w3 hle3 hp3 hs)
  obtain ⟨rfl, b4, rfl, rfl⟩ := hp3
  (refine RW.allocN T hs rfl rfl rfl rfl ?_; intro b5 w5 hs)
  (refine RW.storeAll T hs 0 rfl rfl rfl rfl rfl rfl rfl rfl ?_; intro w6 hs)
  have hz := BitsUp.zero ((t_ - f + 63) / 64) (fun j => bs.getD (f + j) false)
  generalize hkk : (t_ - f + 63) / 64 = kk at hz hs ⊢
  refine Zerun ?_
  refine CW.loop (fun p : Nat × List Int => [(1, .int .i64 f), (3, .pointer (some ⟨b1, 0, none⟩)), (6, .pointer (some ⟨b2, 0, none⟩)), (7, .pointer (some ⟨b5, 0, none⟩)), (29, .int .i64 kk), (30, .int .i64 p.1)]) (fun p w' => p.1 ≤ kk ∧ BitsUp kk p.2 (fun j => if j < p.1 * 64 then bs.getD (f + j) false else false) ∧ Sees w h3 h3 [⟨some ⟨b5, 0, none⟩, 1, 1, 30, 2, [.slice (some ⟨b4, 0, none⟩) kk kk, .int .i64 ((t_ - f : Nat) : Int)]⟩, ⟨some ⟨b4, 0, none⟩, kk, kk, 183, 1, p.2.map (Value.int .u64)⟩, ⟨some ⟨b2, 0, none⟩, 1, 1, 30, 2, [.slice none 0 0, .int .i64 0]⟩, ⟨some ⟨b1, 0, none⟩, 1, 1, 30, 2, [.slice ad ws.length cp, .int .i64 bs.length]⟩] w') (fun p => kk - p.1) (0, List.replicate kk 0) ⟨rfl, rfl, rfl, rfl, rfl, rfl, trivial⟩ ⟨by omega, hz, hs⟩ ?_
  rintro ⟨i, out⟩ w7 ⟨hi, hU, hs⟩
  dsimp only at hi hU hs ⊢
  by_cases hlt : i < kk
  · have hput := hU.put hB hlt
    have hol : out.length = kk := hU.1
    have hcw : cutW ws f i = ((ws.getD ((f + i * 64) / 64) 0).toNat >>> ((f + i * 64) % 64)) ||| (if 0 < (f + i * 64) % 64 ∧ (f + i * 64) / 64 + 1 < ws.length then (ws.getD ((f + i * 64) / 64 + 1) 0).toNat <<< (64 - (f + i * 64) % 64) % 18446744073709551616 else 0) := rfl
    refine Zerun ?_
    refine RW.val (Y.shlI (u := i) (v := 6) rfl rfl (by omega) (by omega)) rfl ?_
    rw [show i * 2 ^ 6 = i * 64 from rfl]
    refine Zerun ?_
    rw [show (f : Int) + ((i * 64 : Nat) : Int) = ((f + i * 64 : Nat) : Int) by omega]
    refine RW.val (Y.shrI (u := f + i * 64) (v := 6) rfl rfl (by omega)) rfl ?_
    rw [shr6]
    refine Zerun ?_
    refine RW.val (Y.andI (u := f + i * 64) (v := 63) rfl rfl (by omega) (by omega)) rfl ?_
    rw [and63]
    refine RW.val (Y.convII T rfl rfl rfl) rfl ?_
    rw [wrapU _ (by omega)]
    have hkl : (f + i * 64) / 64 < ws.length := by omega
    have hr64 : (f + i * 64) % 64 < 64 := Nat.mod_lt _ (by omega)
    generalize (f + i * 64) / 64 = k at hkl hcw ⊢
    generalize (f + i * 64) % 64 = r at hr64 hcw ⊢
    have hwk := word_cast hwr k
    have hwk2 := word_lt hwr k
    refine Zerun ?_
    refine CW.regionT T 11 hs (fun w hs => ?_) (by kernel_rfl)
    simp only [List.take_succ_cons, List.take_zero, List.drop_succ_cons, List.drop_zero]
    refine Zsrun ?_
    rw [hwk]
    refine SW.val (Y.shrU rfl rfl (by omega)) rfl ?_
    refine SW.val (Y.idxRN T hs 1 rfl rfl rfl rfl rfl rfl ?_) rfl ?_
    · omega
    refine SW.nil ?_
    refine RW.st1 T hs 1 rfl rfl rfl rfl rfl rfl rfl (by omega) ?_
    intro w8 hs
    dsimp only [List.set_cons_succ, List.set_cons_zero] at hs
    rw [map_set_int] at hs
    have hsh : (ws.getD k 0).toNat >>> r < 18446744073709551616 := Nat.lt_of_le_of_lt (Nat.shiftRight_le _ _) hwk2
    by_cases c1 : 0 < r
    · by_cases c2 : k + 1 < ws.length
      · rw [if_pos ⟨c1, c2⟩] at hcw
        have hwk3 := word_cast hwr (k + 1)
        have hwk4 := word_lt hwr (k + 1)
        refine Zerun ?_
        refine CW.regionT T 16 hs (fun w hs => ?_) (by kernel_rfl)
        simp only [List.take_succ_cons, List.take_zero, List.drop_succ_cons, List.drop_zero]
        refine Zsrun ?_
        refine SW.val (Y.idxRN T hs 1 rfl rfl rfl rfl rfl rfl ?_) rfl ?_
        · omega
        refine SW.val (Y.ldRInt T hs 1 rfl rfl rfl rfl ?_) rfl ?_
        · omega
        rw [getD_set _ _ _ _ _ (by omega), if_pos rfl]
        refine Zsrun ?_
        have ek : (k : Int) + 1 = ((k + 1 : Nat) : Int) := by omega
        rw [ek]
        refine Zsrun ?_
        rw [hwk3]
        refine SW.val (Y.subU (u := 64) (v := r) rfl rfl (by omega) (by omega)) rfl ?_
        refine SW.val (Y.shlU rfl rfl (by omega)) rfl ?_
        refine SW.val (Y.orU rfl rfl hsh (shl_lt _ _)) rfl ?_
        refine SW.val (Y.idxRN T hs 1 rfl rfl rfl rfl rfl rfl ?_) rfl ?_
        · omega
        refine SW.nil ?_
        refine RW.st1 T hs 1 rfl rfl rfl rfl rfl rfl rfl (by omega) ?_
        intro w9 hs
        dsimp only [List.set_cons_succ, List.set_cons_zero] at hs
        rw [map_set_int, List.set_set, ← hcw] at hs
        refine Zerun ?_
        exact loopQ_round (i + 1, out.set i (cutW ws f i : Int)) ⟨rfl, rfl, rfl, rfl, rfl, rfl, trivial⟩ ⟨by dsimp only; omega, hput, hs⟩ (by dsimp only; omega)
      · rw [if_neg (by omega), Nat.or_zero] at hcw
        rw [← hcw] at hs
        refine Zerun ?_
        exact loopQ_round (i + 1, out.set i (cutW ws f i : Int)) ⟨rfl, rfl, rfl, rfl, rfl, rfl, trivial⟩ ⟨by dsimp only; omega, hput, hs⟩ (by dsimp only; omega)
    · rw [if_neg (by omega), Nat.or_zero] at hcw
      rw [← hcw] at hs
      refine Zerun ?_
      exact loopQ_round (i + 1, out.set i (cutW ws f i : Int)) ⟨rfl, rfl, rfl, rfl, rfl, rfl, trivial⟩ ⟨by dsimp only; omega, hput, hs⟩ (by dsimp only; omega)
  · obtain rfl : i = kk := by omega
    have hol : out.length = i := hU.1
    have hfin : BitsOf (trimW (t_ - f) out) ((bs.drop f).take (t_ - f)) := by
      have hU2 : BitsUp ((t_ - f + 63) / 64) out (fun j => if j < i * 64 then bs.getD (f + j) false else false) := by rw [hkk]; exact hU
      refine hU2.trim _ (by simp; omega) ?_
      intro j hj
      rw [if_pos (by omega)]
      simp only [List.getD_eq_getElem?_getD, List.getElem?_take, List.getElem?_drop]
      rw [if_pos hj]
    have hUr := hU.2.1
    subst hol
    refine Zerun ?_
    (refine RW.callM T hs rfl rfl rfl (bitsTrim_conM (t_ - f) b4 out _ _ _ _ _ _ hkk.symm hUr (by omega)) ?_; intro v h8 O8 w8 hle8 hp8 hs)
    obtain ⟨rfl, rfl⟩ := hp8
    refine Zerun ?_
    (refine RW.storeAll T hs 2 rfl rfl rfl rfl rfl rfl rfl rfl ?_; intro w9 hs)
    refine Zerun ?_
    obtain ⟨h9, hle9, hs9, hS9⟩ := hs.drop.freeze
    refine retQ_ret [_] h9 ⟨resN T hs 2 rfl rfl rfl rfl rfl rfl, trivial⟩ hs9.dropAll ⟨_, rfl, by simp; omega, trimW (t_ - f) out, ?_, hfin⟩
    have hlt : (trimW (t_ - f) out).length = out.length := by unfold trimW; split <;> simp
    rw [← hlt] at hS9 ⊢
    exact RowAt.of_sl hS9
end Go.Proofs.YtmojpbfkpggjhaaGreat

/-
  The program logic, eighteenth part: regions that draw their order and change memory, two of the call's own rows fixed. No statement is proved here.
-/
namespace Go.Proofs.YtmojpbfkpggjhaaGreat
open Go Go.RowKit
set_option linter.unusedVariables false
set_option linter.unusedSimpArgs false
set_option linter.unusedVariables false
section
variable {P : Program} {n : Nat} {Q : Post} {L : Env} {w0 w : World} {h0 h : GHeap} {O : List Row} {ops rest : List Oper} {x y : Operand} {t : TypeId} {ra rb : Row}
variable {d : Option Tmp} {ty yt : TypeId} {pos : String} {aft : Array Edge} {fuel : Nat} {listed : Array Bool}
def SR (w0 : World) (h0 : GHeap) (ra rb : Row) (w : World) : Prop := ∃ (h' : GHeap) (O : List Row) (k j : Nat), Sees w0 h0 h' O w ∧ O[k]? = some ra ∧ O[j]? = some rb
theorem CW.regionR (T' : Tab P) (k j : Nat) (hs : Sees w0 h0 h O w) (ha : O[k]? = some ra) (hb : O[j]? = some rb) {id : Nat} {l : List Oper} (K : ∀ w', Sees w0 h0 h O w' → HW P n l (calmQ Q) (SR w0 h0 ra rb) l.length (Array.replicate l.length false) L w') : CW P n Q (.region id l.toArray true) L w :=
  CW.regionH T' (SR w0 h0 ra rb) (fun w' e => by subst e; exact K _ hs.drew)
theorem HW.takeR (i : Nat) {op : Op} {v : Value} (hi : ops.toArray[i]? = some ⟨d, op, ty, pos, aft, none⟩) (hy : ∀ (h' : GHeap) (O : List Row) (ka kb : Nat) (w' : World), Sees w0 h0 h' O w' → O[ka]? = some ra → O[kb]? = some rb → Yields P n L w' op ty v) (hS : SR w0 h0 ra rb w) (hd : dstOk n d = true)
    (hs : Region.noSelect ops.toArray = true) (hf : Region.free .any ops.toArray listed i = true) (hr : (Region.ready .any ops.toArray listed).contains i = true)
    (hh : HW P n ops (calmQ Q) (SR w0 h0 ra rb) fuel (listed.setIfInBounds i true) (updo d v L) w) : HW P n ops (calmQ Q) (SR w0 h0 ra rb) (fuel + 1) listed L w :=
  HW.take i hi (fun w' ⟨h', O, k, j, s, a, b⟩ => hy h' O k j w' s a b) hS hd hs hf hr hh
end
end Go.Proofs.YtmojpbfkpggjhaaGreat

/-
  Contracts of functions of packages flat and bitvec: elements cut, truths one by one. No statement is proved here.
-/
namespace Go.Proofs.YtmojpbfkpggjhaaGreat
open Go Go.RowKit
set_option linter.unusedVariables false
set_option linter.unusedSimpArgs false
set_option maxHeartbeats 4000000
attribute [local irreducible] CW RW QW SW HW ConM retM heldQ calmQ elemP thenQ blockQ loopQ joinQ retQ Yields Con Sl zF magR unitF truncF fwF wholeF tidySpec elemQ rankF leastN tidyW
set_option maxHeartbeats 4000000

def cutA (n : Nat) (a : Int) : Nat := (max 0 (min a n)).toNat
def cutB (n : Nat) (a b : Int) : Nat := (max (cutA n a : Int) (min b n)).toNat
theorem cutA_le (n : Nat) (a : Int) : cutA n a ≤ n := by unfold cutA; omega
theorem cutB_le (n : Nat) (a b : Int) : cutA n a ≤ cutB n a b ∧ cutB n a b ≤ n := by have := cutA_le n a; unfold cutB; omega
theorem span_bits (bs : List Bool) (f t_ : Nat) (hf : f ≤ t_) (ht : t_ ≤ bs.length) : (spanL f t_).map (fun i => bitAt bs i) = (bs.drop f).take (t_ - f) := by
  apply List.ext_getElem?
  intro j
  simp only [spanL, List.map_map, List.getElem?_map, List.getElem?_take, List.getElem?_drop]
  by_cases c : j < t_ - f
  · rw [List.getElem?_range c, if_pos c]
    simp only [Option.map_some, Function.comp]
    have : f + j < bs.length := by omega
    unfold bitAt
    rw [if_pos (by omega), Int.toNat_natCast]
    simp [List.getD_eq_getElem?_getD, this]
  · rw [if_neg c]
    simp [c]
section
variable {α : Type} {R : GHeap → List Value → α → Prop}
theorem flatCut_con (hR : Mono R) (h1 : One R) (h9 : Siz 9 R) (nb : α) (hbl : ∀ w h, Con Tryz.prog 138 [] w h (fun h' u => ∃ cs', u = .agg cs'.toArray ∧ R h' cs' nb))
    (cs : List Value) (v : VecD α) (a b : Int) (w : World) (h : GHeap) (hv : VecAt R h cs v) (hvm : v.len ≤ 1048576) (hk0 : v.kind ≠ 0) : Con Tryz.prog 81 [.agg cs.toArray, .int .i64 a, .int .i64 b] w h (fun h' u => ∃ cs', u = .agg cs'.toArray ∧ VecAt R h' cs' (v.pick (spanL (cutA v.len a) (cutB v.len a b)) nb)) := by
  have hv' := hv
  obtain ⟨wv, nv, sm, il, fl, ch, bx, ⟨rfl, hoc⟩, hk⟩ := hv
  refine Con.of_body Tryz.func81 rfl Tryz.ntmps81 rfl rfl ?_
  intro hs
  refine Zrun ?_
  (refine RW.boxN hs rfl rfl ?_; intro b1 w1 hs)
  (refine RW.allocN T hs rfl rfl rfl rfl ?_; intro b2 w2 hs)
  refine Zerun ?_
  (refine RW.call T hs rfl rfl rfl (vecLen_con _ v _ _ hv') ?_; intro v h3 w3 hle3 hp3 hs)
  subst hp3
  have hv' := hv'.mono hR hle3
  refine Zerun ?_
  have e1 : max 0 (min a (v.len : Int)) = (cutA v.len a : Int) := by unfold cutA; omega
  rw [e1]
  (refine RW.call T hs rfl rfl rfl (vecLen_con _ v _ _ hv') ?_; intro v h4 w4 hle4 hp4 hs)
  subst hp4
  have hv' := hv'.mono hR hle4
  refine Zerun ?_
  have e2 : max (cutA v.len a : Int) (min b (v.len : Int)) = (cutB v.len a b : Int) := by unfold cutB; omega
  rw [e2]
  have hfA := cutA_le v.len a
  obtain ⟨hft, htl⟩ := cutB_le v.len a b
  generalize cutA v.len a = f at hfA hft ⊢
  generalize cutB v.len a b = t_ at hft htl ⊢
  (refine RW.call T hs rfl rfl rfl (vecPacked_con _ v _ _ hv') ?_; intro v h5 w5 hle5 hp5 hs)
  obtain ⟨wv5, bs, rfl, hb5, hb51, hb50⟩ := hp5
  have hv' := hv'.mono hR hle5
  have hb5' := hb5
  obtain ⟨_, ws, ⟨ad5, cp5, rfl, _⟩, _⟩ := hb5'
  refine Zerun ?_
  (refine RW.allocN T hs rfl rfl rfl rfl ?_; intro b6 w6 hs)
  (refine RW.storeAll T hs 0 rfl rfl rfl rfl rfl rfl rfl rfl ?_; intro w7 hs)
  refine Zerun ?_
  by_cases k1 : v.kind = 1
  · rw [decide_eq_true k1]
    have hvb := hb51 k1
    have hlen : v.len = bs.length := by rw [hvb]; simp [VecD.len]
    refine Zerun ?_
    (refine RW.call T hs rfl rfl rfl (bitsCut_con _ bs f t_ _ _ hb5 hft (by omega)) ?_; intro v h8 w8 hle8 hp8 hs)
    obtain ⟨wv8, rfl, hb8⟩ := hp8
    have hl8 : ((bs.drop f).take (t_ - f)).length = t_ - f := by simp; omega
    rw [← hl8]
    (refine RW.call T hs rfl rfl rfl (vecBits_con (R := R) wv8 _ _ _ hb8) ?_; intro v h9 w9 hle9 hp9 hs)
    obtain ⟨cs9, rfl, hv9⟩ := hp9
    rw [← span_bits bs f t_ hft (by omega), pick_bits bs _ nb, ← hvb] at hv9
    have hv9' := hv9
    obtain ⟨wv', nv', sm', il', fl', ch', bx', ⟨rfl, hoc'⟩, _⟩ := hv9'
    (refine RW.storeAll T hs 1 rfl rfl rfl rfl rfl rfl hoc' rfl ?_; intro w10 hs)
    refine Zerun ?_
    refine retQ_ret [_] h9 ⟨resN T hs 1 rfl rfl rfl rfl rfl rfl, trivial⟩ hs.dropAll ⟨_, rfl, hv9⟩
  rw [decide_eq_false k1]
  refine Zerun ?_
  refine CW.regionR T 2 2 hs rfl rfl ?_
  intro w8 hs
  refine HW.takeR (fuel := 5) 0 rfl (fun _ _ ka kb _ hs hka hkb => Y.loadRowN T hs ka hka rfl rfl rfl rfl rfl rfl) ⟨_, _, 2, 2, hs, rfl, rfl⟩ rfl (by kernel_rfl) (by kernel_rfl) (by kernel_rfl) ?_
  refine HW.takeR (fuel := 4) 1 rfl (fun _ _ ka kb _ hs hka hkb => Y.move rfl) ⟨_, _, 2, 2, hs, rfl, rfl⟩ rfl (by kernel_rfl) (by kernel_rfl) (by kernel_rfl) ?_
  refine HW.takeR (fuel := 3) 2 rfl (fun _ _ ka kb _ hs hka hkb => Y.move rfl) ⟨_, _, 2, 2, hs, rfl, rfl⟩ rfl (by kernel_rfl) (by kernel_rfl) (by kernel_rfl) ?_
  refine HW.one (fuel := 2) 3 rfl (by kernel_rfl) ?_
  (refine RW.call T hs rfl rfl rfl (flatSpan_con f t_ _ _ hft (by omega)) ?_; intro v h34 w34 hle34 hp34 hs)
  have hv' := hv'.mono hR hle34
  refine RW.nil ?_
  refine heldQ_normal ⟨_, _, 2, 2, hs, rfl, rfl⟩ ?_
  refine HW.one (fuel := 1) 4 rfl (by kernel_rfl) ?_
  (refine RW.call T hs rfl rfl rfl (flatPick_con hR h1 h9 nb hbl _ _ _ (spanL f t_) _ _ hv' hp34 (by rw [spanL_length]; omega) hvm hk0) ?_; intro v h35 w35 hle35 hp35 hs)
  obtain ⟨cs35, rfl, hv35⟩ := hp35
  have hv35' := hv35
  obtain ⟨wv5, nv5, sm5, il5, fl5, ch5, bx5, ⟨rfl, hoc5⟩, _⟩ := hv35'
  refine RW.nil ?_
  refine heldQ_normal ⟨_, _, 2, 2, hs, rfl, rfl⟩ ?_
  refine HW.one (fuel := 0) 5 rfl (by kernel_rfl) ?_
  (refine RW.storeAll T hs 1 rfl rfl rfl rfl rfl rfl hoc5 rfl ?_; intro w37 hs)
  refine RW.nil ?_
  refine heldQ_normal ⟨_, _, 2, 2, hs, rfl, rfl⟩ ?_
  refine HW.done (by kernel_rfl) ?_
  refine calmQ_normal ?_
  refine Zerun ?_
  exact retQ_ret [_] h35 ⟨resN T hs 1 rfl rfl rfl rfl rfl rfl, trivial⟩ hs.dropAll ⟨_, rfl, hv35⟩
end
theorem bitsUnpack_con (wv : Value) (bs : List Bool) (w : World) (h : GHeap) (hb : BitsAt h wv bs) : Con Tryz.prog 158 [.agg [wv, .int .i64 bs.length].toArray] w h (fun h' u => TAt h' u bs) := by
  have hb' := hb
  obtain ⟨hbm, ws, ⟨ad, cp, rfl, hS⟩, hwl, hwr, hwb⟩ := hb
  refine Con.of_body Tryz.func158 rfl Tryz.ntmps158 rfl rfl ?_
  intro hs
  refine Zrun ?_
  (refine RW.boxN hs rfl rfl ?_; intro b1 w1 hs)
  refine Zerun ?_
  (refine RW.make1 T hs rfl rfl rfl rfl rfl rfl rfl (by dsimp only; omega) (by omega) ?_; intro b2 w2 hs)
  refine Zerun ?_
  refine CW.loop (fun u : Nat × GHeap => [(1, .pointer (some ⟨b1, 0, none⟩)), (3, .slice (some ⟨b2, 0, none⟩) bs.length bs.length), (9, .int .i64 bs.length), (10, .int .i64 u.1)]) (fun u w' => u.1 ≤ bs.length ∧ GLe h u.2 ∧ Sees w h u.2 [⟨some ⟨b2, 0, none⟩, bs.length, bs.length, 4, 1, (bs.take u.1).map Value.bool ++ List.replicate (bs.length - u.1) (.bool false)⟩, ⟨some ⟨b1, 0, none⟩, 1, 1, 30, 2, [.slice ad ws.length cp, .int .i64 bs.length]⟩] w') (fun u => bs.length - u.1) (0, h) ⟨rfl, rfl, rfl, rfl, trivial⟩ ⟨by omega, GLe.refl _, hs⟩ ?_
  rintro ⟨i, hh⟩ w5 ⟨hi, hg, hs⟩
  dsimp only at hi hg hs ⊢
  have hb' := hb'.mono hg
  by_cases hlt : i < bs.length
  · have htk := take_succ_getD bs i false hlt
    refine Zerun ?_
    (refine RW.call T hs rfl rfl rfl (bitsAt_con _ bs i _ _ hb') ?_; intro v h6 w6 hle6 hp6 hs)
    subst hp6
    have eb : bitAt bs (i : Int) = bs.getD i false := by unfold bitAt; rw [if_pos (by omega), Int.toNat_natCast]
    rw [eb]
    refine RW.val (Y.idxRN T hs 0 rfl rfl rfl rfl rfl rfl ?_) rfl ?_
    · omega
    refine RW.st1 T hs 0 rfl rfl rfl rfl rfl rfl rfl (by omega) ?_
    intro w7 hs
    have e1 := set_snoc ((bs.take i).map Value.bool) (bs.length - i) (Value.bool false) (Value.bool (bs.getD i false)) (by omega)
    simp only [List.length_map, List.length_take, Nat.min_eq_left hi] at e1
    have e2 : (bs.take i).map Value.bool ++ [Value.bool (bs.getD i false)] ++ List.replicate (bs.length - i - 1) (.bool false) = (bs.take (i + 1)).map Value.bool ++ List.replicate (bs.length - (i + 1)) (.bool false) := by
      rw [htk, List.map_append, show bs.length - (i + 1) = bs.length - i - 1 by omega]; rfl
    replace hs := hs.re (e1.trans e2)
    refine Zerun ?_
    exact loopQ_round (i + 1, h6) ⟨rfl, rfl, rfl, rfl, trivial⟩ ⟨by dsimp only; omega, hg.trans hle6, hs⟩ (by dsimp only; omega)
  obtain rfl : i = bs.length := by omega
  rw [List.take_length, Nat.sub_self, List.replicate_zero, List.append_nil] at hs
  obtain ⟨h8, hle8, hs, hS8⟩ := hs.freeze
  refine Zerun ?_
  exact retQ_ret [_] h8 ⟨rfl, trivial⟩ hs.dropAll (RowAt.of_sl hS8)
end Go.Proofs.YtmojpbfkpggjhaaGreat

/-
  Contracts of functions of package flat: lists of a class behind each other. No statement is proved here.
-/
namespace Go.Proofs.YtmojpbfkpggjhaaGreat
open Go Go.RowKit
set_option linter.unusedVariables false
set_option linter.unusedSimpArgs false
set_option maxHeartbeats 4000000
attribute [local irreducible] CW RW QW SW HW ConM retM heldQ calmQ elemP thenQ blockQ loopQ joinQ retQ Yields Con Sl zF magR unitF truncF fwF wholeF tidySpec elemQ rankF leastN tidyW
set_option maxHeartbeats 4000000

section
variable {α : Type} {R : GHeap → List Value → α → Prop}
theorem fm_take_succ {δ γ : Type} (f : δ → List γ) (l : List δ) (i : Nat) (h : i < l.length) : (l.take (i + 1)).flatMap f = (l.take i).flatMap f ++ f l[i] := by
  rw [List.take_add_one, List.getElem?_eq_getElem h, Option.toList_some, List.flatMap_append, List.flatMap_cons, List.flatMap_nil, List.append_nil]
theorem fm_len {γ : Type} {f : VecD α → List γ} (hf : ∀ v, (f v).length ≤ v.len) : ∀ l : List (VecD α), (l.flatMap f).length ≤ (l.map VecD.len).sum
  | [] => Nat.le_refl _
  | v :: l => by
    have := fm_len hf l
    have := hf v
    rw [List.flatMap_cons, List.length_append, List.map_cons, List.sum_cons]
    omega
theorem sum_take_le : ∀ (l : List (VecD α)) (i : Nat), ((l.take i).map VecD.len).sum ≤ (l.map VecD.len).sum
  | [], i => by simp
  | v :: l, 0 => by simp
  | v :: l, i + 1 => by
    have := sum_take_le l i
    simp only [List.take_succ_cons, List.map_cons, List.sum_cons]
    omega
theorem fm_len' {γ : Type} {f : VecD α → List γ} (hf : ∀ v, (f v).length ≤ v.len) (l : List (VecD α)) (i : Nat) : ((l.take i).flatMap f).length ≤ (l.map VecD.len).sum := Nat.le_trans (fm_len hf _) (sum_take_le l i)
theorem len_le_sum : ∀ {l : List (VecD α)} {v : VecD α}, v ∈ l → v.len ≤ (l.map VecD.len).sum
  | u :: l, v, h => by
    rw [List.map_cons, List.sum_cons]
    rcases List.mem_cons.1 h with rfl | h
    · omega
    · have := len_le_sum h; omega
theorem AllN.ones {δ : Type} {sz : Nat} {S : List Value → δ → Prop} (hc : ∀ cs a, S cs a → ∀ u ∈ cs, u.oneCell' = true) : ∀ {l : List δ} {xs : List Value}, AllN sz S xs l → ∀ u ∈ xs, u.oneCell' = true
  | [], xs, hx, u, hu => by have : xs = [] := hx; rw [this] at hu; cases hu
  | a :: l, xs, hx, u, hu => by
    rw [← List.take_append_drop sz xs, List.mem_append] at hu
    rcases hu with hu | hu
    · exact hc _ a hx.2.1 u hu
    · exact AllN.ones hc hx.2.2 u hu
theorem leastN_bits (bs : List Bool) : leastN (bs.map bitF) = 1 := by
  have h1 := (leastN_bounds (bs.map bitF)).1
  have h2 : leastN (bs.map bitF) ≤ 1 := by
    rw [leastN.eq_1]
    refine fold_le _ 1 1 (by omega) ?_
    intro x hx
    obtain ⟨b, _, rfl⟩ := List.mem_map.1 hx
    cases b
    · exact (rank_bit _ tidy0).2 (.inl fw0.symm)
    · exact (rank_bit _ tidy1).2 (.inr fw1.symm)
  omega
def joinS (c : Int) (l : List (VecD α)) : VecD α := if c = 1 then ⟨5, [], l.flatMap (·.chars), []⟩ else if c = 2 then ⟨6, [], [], l.flatMap (·.boxes)⟩ else ⟨leastN (l.flatMap (·.nums)), l.flatMap (·.nums), [], []⟩
theorem flatJoined_con (hR : Mono R) (h1 : One R) (s : Value) (l : List (VecD α)) (c kd : Int) (w : World) (h : GHeap) (hl : RowsAt 8 (VecAt R h) h s l) (hm : (l.map VecD.len).sum ≤ 1048576) (hc : c = 0 ∨ c = 1 ∨ c = 2)
    (hk1 : c = 0 → kd = 1 → ∀ v ∈ l, v.kind = 1 ∨ v.nums = []) (hk3 : c = 0 → kd ≠ 1 → kd < 4 → ∀ v ∈ l, v.kind = 1 ∨ v.kind = 2 ∨ v.kind = 3 ∨ v.nums = []) : Con Tryz.prog 125 [s, .int .i64 c, .int .i64 kd] w h (fun h' u => ∃ cs', u = .agg cs'.toArray ∧ VecAt R h' cs' (joinS c l)) := by
  obtain ⟨ads, cps, xs, rfl, hS, hA⟩ := hl
  have hcap : l.length ≤ 9223372036854775807 := by have := hS.caps; omega
  refine Con.of_body Tryz.func125 rfl Tryz.ntmps125 rfl rfl ?_
  intro hs
  refine Zrun ?_
  (refine RW.allocN T hs rfl rfl rfl rfl ?_; intro b1 w1 hs)
  have htdl : ∀ x ∈ l.flatMap (·.nums), tidyF x := by
    intro x hx
    obtain ⟨v, hv, hx⟩ := List.mem_flatMap.1 hx
    obtain ⟨j, hj, rfl⟩ := List.mem_iff_getElem.1 hv
    obtain ⟨y, _, _, hRy⟩ := hA.elem j hj
    exact hRy.tidy x hx
  unfold joinS
  by_cases c1 : c = 1
  · rw [if_pos c1]
    have hs := hs.nilRow 21 1
    refine Zerun ?_
    refine CW.loop (fun u : Nat × (Option Addr × Nat × Nat) × List Int × GHeap => [(1, .int .i64 c), (2, .int .i64 kd), (6, .pointer (some ⟨b1, 0, none⟩)), (7, .slice u.2.1.1 u.2.1.2.1 u.2.1.2.2), (22, .slice ads l.length cps), (23, .int .i64 l.length), (24, .int .i64 u.1)]) (fun u w' => u.1 ≤ l.length ∧ GLe h u.2.2.2 ∧ (u.2.2.1 = (l.take u.1).flatMap (·.chars)) ∧ u.2.1.2.1 = u.2.2.1.length ∧ Sees w h u.2.2.2 [⟨u.2.1.1, u.2.1.2.1, u.2.1.2.2, 21, 1, u.2.2.1.map (Value.int .i32)⟩, ⟨some ⟨b1, 0, none⟩, 1, 1, 37, 8, vecCells 0 (.slice none 0 0) 0 (.slice none 0 0) (.slice none 0 0) (.slice none 0 0) (.slice none 0 0) (.slice none 0 0)⟩] w') (fun u => l.length - u.1) (0, (none, 0, 0), [], h) ⟨rfl, rfl, rfl, rfl, rfl, rfl, rfl, trivial⟩ ⟨Nat.zero_le _, GLe.refl _, rfl, rfl, hs⟩ ?_
    rintro ⟨i, ⟨ad, n, cp⟩, X, hh⟩ w5 ⟨hi, hg, hX, hn, hs⟩
    dsimp only at hi hg hX hn hs ⊢
    have hS := hS.mono hg
    by_cases hlt : i < l.length
    · obtain ⟨y, hy, hyl, hRy⟩ := hA.elem i hlt
      have hRy := hRy.mono hR hg
      have hRy' := hRy
      have hmem := List.getElem_mem hlt
      have hel := len_le_sum hmem
      have htk := fun (γ : Type) (f : VecD α → List γ) => fm_take_succ f l i hlt
      generalize hve : l[i] = ve at *
      obtain ⟨wv, nv, sm, il, fl, ch, bx, ⟨rfl, hoc⟩, _⟩ := hRy
      refine Zerun ?_
      (refine RW.allocN T hs rfl rfl rfl rfl ?_; intro b6 w6 hs)
      (refine RW.storeAll T hs 0 rfl rfl rfl rfl rfl rfl hoc rfl ?_; intro w7 hs)
      refine Zerun ?_
      (refine RW.call T hs rfl rfl rfl (vecText_con _ ve _ _ hRy' (by omega)) ?_; intro v h8 w8 hle8 hp8 hs)
      obtain ⟨ad8, cp8, rfl, hS8⟩ := hp8
      have hgh := hg.trans hle8
      have hXn : X ++ ve.chars = (l.take (i + 1)).flatMap (·.chars) := by rw [hX, htk]
      have hlen := fm_len' (f := fun v : VecD α => v.chars) (fun v => by unfold VecD.len; omega) l (i + 1)
      have hve2 : X.length + ve.chars.length ≤ 1048576 := by rw [← List.length_append, hXn]; omega
      refine RW.append T hs 1 rfl rfl (m := ve.chars.length) (news := ve.chars.map (Value.int .i32)) rfl rfl rfl rfl rfl rfl (hS8.src hs.agree (one_ints _ _)) (fun e => by subst e; exact hS8.nil0.2) (by dsimp only; omega) (by omega) ?_
      intro ad9 cp9 w9 hs
      refine Zerun ?_
      refine loopQ_round (i + 1, (ad9, n + ve.chars.length, cp9), X ++ ve.chars, h8) ⟨rfl, rfl, rfl, rfl, rfl, rfl, rfl, trivial⟩ ⟨by dsimp only; omega, hgh, hXn, by simp; omega, ?_⟩ (by dsimp only; omega)
      dsimp only
      rw [List.map_append]
      exact hs.drop
    obtain rfl : i = l.length := by omega
    rw [List.take_length] at hX
    have hlen := fm_len (f := fun v : VecD α => v.chars) (fun v => by unfold VecD.len; omega) l
    rw [← hX] at hlen
    subst hn
    obtain ⟨hF, hleF, hs, hSF⟩ := hs.freeze
    have hTF : KAt .i32 hF (.slice ad X.length cp) X := RowAt.of_sl hSF
    refine Zerun ?_
    (refine RW.call T hs rfl rfl rfl (vecChars_con (R := R) _ X _ _ hTF (by omega)) ?_; intro v hF wF hleF hpF hs)
    obtain ⟨csF, rfl, hvF⟩ := hpF
    have hvF' := hvF
    obtain ⟨wvF, nvF, smF, ilF, flF, chF, bxF, ⟨rfl, hocF⟩, _⟩ := hvF'
    (refine RW.storeAll T hs 0 rfl rfl rfl rfl rfl rfl hocF rfl ?_; intro wG hs)
    refine Zerun ?_
    refine retQ_ret [_] hF ⟨resN T hs 0 rfl rfl rfl rfl rfl rfl, trivial⟩ hs.dropAll ⟨_, rfl, ?_⟩
    rw [← hX]
    exact hvF

  rw [if_neg c1]
  by_cases c2 : c = 2
  · rw [if_pos c2]
    have hs := hs.nilRow 39 9
    refine Zerun ?_
    refine CW.loop (fun u : Nat × (Option Addr × Nat × Nat) × List Value × GHeap => [(1, .int .i64 c), (2, .int .i64 kd), (6, .pointer (some ⟨b1, 0, none⟩)), (8, .slice u.2.1.1 u.2.1.2.1 u.2.1.2.2), (22, .slice ads l.length cps), (23, .int .i64 l.length), (24, .int .i64 u.1)]) (fun u w' => u.1 ≤ l.length ∧ GLe h u.2.2.2 ∧ (AllN 9 (R u.2.2.2) u.2.2.1 ((l.take u.1).flatMap (·.boxes))) ∧ u.2.1.2.1 = ((l.take u.1).flatMap (·.boxes)).length ∧ Sees w h u.2.2.2 [⟨u.2.1.1, u.2.1.2.1, u.2.1.2.2, 39, 9, u.2.2.1⟩, ⟨some ⟨b1, 0, none⟩, 1, 1, 37, 8, vecCells 0 (.slice none 0 0) 0 (.slice none 0 0) (.slice none 0 0) (.slice none 0 0) (.slice none 0 0) (.slice none 0 0)⟩] w') (fun u => l.length - u.1) (0, (none, 0, 0), [], h) ⟨rfl, rfl, rfl, rfl, rfl, rfl, rfl, trivial⟩ ⟨Nat.zero_le _, GLe.refl _, rfl, rfl, hs⟩ ?_
    rintro ⟨i, ⟨ad, n, cp⟩, X, hh⟩ w5 ⟨hi, hg, hX, hn, hs⟩
    dsimp only at hi hg hX hn hs ⊢
    have hS := hS.mono hg
    by_cases hlt : i < l.length
    · obtain ⟨y, hy, hyl, hRy⟩ := hA.elem i hlt
      have hRy := hRy.mono hR hg
      have hRy' := hRy
      have hmem := List.getElem_mem hlt
      have hel := len_le_sum hmem
      have htk := fun (γ : Type) (f : VecD α → List γ) => fm_take_succ f l i hlt
      generalize hve : l[i] = ve at *
      obtain ⟨wv, nv, sm, il, fl, ch, bx, ⟨rfl, hoc⟩, _⟩ := hRy
      refine Zerun ?_
      (refine RW.allocN T hs rfl rfl rfl rfl ?_; intro b6 w6 hs)
      (refine RW.storeAll T hs 0 rfl rfl rfl rfl rfl rfl hoc rfl ?_; intro w7 hs)
      refine Zerun ?_
      (refine RW.call T hs rfl rfl rfl (vecArrays_con hR h1 _ ve _ _ hRy' (by omega)) ?_; intro v h8 w8 hle8 hp8 hs)
      obtain ⟨ad8, cp8, xs8, rfl, hS8, hA8⟩ := hp8
      have hgh := hg.trans hle8
      have hXn : AllN 9 (R h8) (X ++ xs8) ((l.take (i + 1)).flatMap (·.boxes)) := by
        rw [htk]
        exact (hX.mono (fun u a => hR _ _ u a hle8)).append hA8
      have hlen := fm_len' (f := fun v : VecD α => v.boxes) (fun v => by unfold VecD.len; omega) l (i + 1)
      rw [htk, List.length_append] at hlen
      have hne : ((l.take (i + 1)).flatMap (·.boxes)).length = ((l.take i).flatMap (·.boxes)).length + ve.boxes.length := by rw [htk, List.length_append]
      refine RW.append T hs 1 rfl rfl (m := ve.boxes.length) (news := xs8) rfl rfl rfl rfl rfl rfl (hS8.src hs.agree (hA8.ones (h1 h8))) (fun e => by subst e; exact hS8.nil0.2) (by dsimp only; omega) (by omega) ?_
      intro ad9 cp9 w9 hs
      refine Zerun ?_
      refine loopQ_round (i + 1, (ad9, n + ve.boxes.length, cp9), X ++ xs8, h8) ⟨rfl, rfl, rfl, rfl, rfl, rfl, rfl, trivial⟩ ⟨by dsimp only; omega, hgh, hXn, by dsimp only; omega, ?_⟩ (by dsimp only; omega)
      dsimp only
      exact hs.drop
    obtain rfl : i = l.length := by omega
    rw [List.take_length] at hX
    have hlen := fm_len (f := fun v : VecD α => v.boxes) (fun v => by unfold VecD.len; omega) l
    rw [List.take_length] at hn
    subst hn
    obtain ⟨hF, hleF, hs, hSF⟩ := hs.freeze
    have hTF : RowsAt 9 (R hF) hF (.slice ad (l.flatMap (·.boxes)).length cp) (l.flatMap (·.boxes)) := ⟨_, _, X, rfl, hSF, hX.mono (fun u a => hR _ _ u a hleF)⟩
    refine Zerun ?_
    (refine RW.call T hs rfl rfl rfl (vecBoxes_con hR h1 _ _ _ _ hTF (by omega)) ?_; intro v hF wF hleF hpF hs)
    obtain ⟨csF, rfl, hvF⟩ := hpF
    have hvF' := hvF
    obtain ⟨wvF, nvF, smF, ilF, flF, chF, bxF, ⟨rfl, hocF⟩, _⟩ := hvF'
    (refine RW.storeAll T hs 0 rfl rfl rfl rfl rfl rfl hocF rfl ?_; intro wG hs)
    refine Zerun ?_
    exact retQ_ret [_] hF ⟨resN T hs 0 rfl rfl rfl rfl rfl rfl, trivial⟩ hs.dropAll ⟨_, rfl, hvF⟩

  rw [if_neg c2]
  have hc0 : c = 0 := by omega
  by_cases hkd : kd = 1
  · skip
    have hs := hs.nilRow 4 1
    refine Zerun ?_
    refine CW.loop (fun u : Nat × (Option Addr × Nat × Nat) × List Bool × GHeap => [(1, .int .i64 c), (2, .int .i64 kd), (6, .pointer (some ⟨b1, 0, none⟩)), (9, .slice u.2.1.1 u.2.1.2.1 u.2.1.2.2), (22, .slice ads l.length cps), (23, .int .i64 l.length), (24, .int .i64 u.1)]) (fun u w' => u.1 ≤ l.length ∧ GLe h u.2.2.2 ∧ (u.2.2.1.map bitF = (l.take u.1).flatMap (·.nums)) ∧ u.2.1.2.1 = u.2.2.1.length ∧ Sees w h u.2.2.2 [⟨u.2.1.1, u.2.1.2.1, u.2.1.2.2, 4, 1, u.2.2.1.map Value.bool⟩, ⟨some ⟨b1, 0, none⟩, 1, 1, 37, 8, vecCells 0 (.slice none 0 0) 0 (.slice none 0 0) (.slice none 0 0) (.slice none 0 0) (.slice none 0 0) (.slice none 0 0)⟩] w') (fun u => l.length - u.1) (0, (none, 0, 0), [], h) ⟨rfl, rfl, rfl, rfl, rfl, rfl, rfl, trivial⟩ ⟨Nat.zero_le _, GLe.refl _, rfl, rfl, hs⟩ ?_
    rintro ⟨i, ⟨ad, n, cp⟩, X, hh⟩ w5 ⟨hi, hg, hX, hn, hs⟩
    dsimp only at hi hg hX hn hs ⊢
    have hS := hS.mono hg
    by_cases hlt : i < l.length
    · obtain ⟨y, hy, hyl, hRy⟩ := hA.elem i hlt
      have hRy := hRy.mono hR hg
      have hRy' := hRy
      have hmem := List.getElem_mem hlt
      have hel := len_le_sum hmem
      have htk := fun (γ : Type) (f : VecD α → List γ) => fm_take_succ f l i hlt
      generalize hve : l[i] = ve at *
      obtain ⟨wv, nv, sm, il, fl, ch, bx, ⟨rfl, hoc⟩, _⟩ := hRy
      refine Zerun ?_
      (refine RW.allocN T hs rfl rfl rfl rfl ?_; intro b6 w6 hs)
      (refine RW.storeAll T hs 0 rfl rfl rfl rfl rfl rfl hoc rfl ?_; intro w7 hs)
      refine Zerun ?_
      (refine RW.call T hs rfl rfl rfl (vecPacked_con _ ve _ _ hRy') ?_; intro v h8 w8 hle8 hp8 hs)
      obtain ⟨wv8, bs, rfl, hb8, hb81, hb80⟩ := hp8
      have hb8' := hb8
      obtain ⟨_, ws8, ⟨adw, cpw, rfl, _⟩, _⟩ := hb8'
      have hnb : bs.map bitF = ve.nums := by
        by_cases k1 : ve.kind = 1
        · rw [hb81 k1]
        · rw [hb80 k1]; rcases hk1 hc0 hkd ve hmem with e | e
          · exact absurd e k1
          · rw [e]; rfl
      refine Zerun ?_
      (refine RW.allocN T hs rfl rfl rfl rfl ?_; intro b9 w9 hs)
      (refine RW.storeAll T hs 0 rfl rfl rfl rfl rfl rfl rfl rfl ?_; intro w10 hs)
      refine Zerun ?_
      (refine RW.call T hs rfl rfl rfl (bitsUnpack_con _ bs _ _ hb8) ?_; intro v h11 w11 hle11 hp11 hs)
      obtain ⟨ad8, cp8, rfl, hS8⟩ := hp11
      have hgh := hg.trans (hle8.trans hle11)
      have hXn : (X ++ bs).map bitF = (l.take (i + 1)).flatMap (·.nums) := by rw [List.map_append, hX, hnb, htk]
      have hlen := fm_len' (f := fun v : VecD α => v.nums) (fun v => by unfold VecD.len; omega) l (i + 1)
      rw [← hXn, List.length_map, List.length_append] at hlen
      refine RW.append T hs 2 rfl rfl (m := bs.length) (news := bs.map Value.bool) rfl rfl rfl rfl rfl rfl (hS8.src hs.agree (by intro u hu; obtain ⟨x, _, rfl⟩ := List.mem_map.1 hu; rfl)) (fun e => by subst e; exact hS8.nil0.2) (by dsimp only; omega) (by omega) ?_
      intro ad9 cp9 w9 hs
      refine Zerun ?_
      refine loopQ_round (i + 1, (ad9, n + bs.length, cp9), X ++ bs, h11) ⟨rfl, rfl, rfl, rfl, rfl, rfl, rfl, trivial⟩ ⟨by dsimp only; omega, hgh, hXn, by simp; omega, ?_⟩ (by dsimp only; omega)
      dsimp only
      rw [List.map_append]
      exact hs.drop.drop
    obtain rfl : i = l.length := by omega
    rw [List.take_length] at hX
    have hlen := fm_len (f := fun v : VecD α => v.nums) (fun v => by unfold VecD.len; omega) l
    rw [← hX, List.length_map] at hlen
    subst hn
    obtain ⟨hF, hleF, hs, hSF⟩ := hs.freeze
    have hTF : TAt hF (.slice ad X.length cp) X := RowAt.of_sl hSF
    refine Zerun ?_
    (refine RW.call T hs rfl rfl rfl (bitsPack_con _ X _ _ hTF (by omega)) ?_; intro v hP wP hleP hpP hs)
    obtain ⟨wvP, rfl, hbP⟩ := hpP
    (refine RW.call T hs rfl rfl rfl (vecBits_con (R := R) wvP _ _ _ hbP) ?_; intro v hF wF hleF hpF hs)
    obtain ⟨csF, rfl, hvF⟩ := hpF
    have hvr : (⟨1, X.map bitF, [], []⟩ : VecD α) = ⟨leastN (l.flatMap (·.nums)), l.flatMap (·.nums), [], []⟩ := by rw [← hX, leastN_bits]
    rw [hvr] at hvF
    have hvF' := hvF
    obtain ⟨wvF, nvF, smF, ilF, flF, chF, bxF, ⟨rfl, hocF⟩, _⟩ := hvF'
    (refine RW.storeAll T hs 0 rfl rfl rfl rfl rfl rfl hocF rfl ?_; intro wG hs)
    refine Zerun ?_
    exact retQ_ret [_] hF ⟨resN T hs 0 rfl rfl rfl rfl rfl rfl, trivial⟩ hs.dropAll ⟨_, rfl, hvF⟩

  have hkd1 := hkd
  by_cases hkd3 : kd < 4
  · skip
    have hs := hs.nilRow 2 1
    refine Zerun ?_
    refine CW.loop (fun u : Nat × (Option Addr × Nat × Nat) × List Int × GHeap => [(1, .int .i64 c), (2, .int .i64 kd), (6, .pointer (some ⟨b1, 0, none⟩)), (10, .slice u.2.1.1 u.2.1.2.1 u.2.1.2.2), (22, .slice ads l.length cps), (23, .int .i64 l.length), (24, .int .i64 u.1)]) (fun u w' => u.1 ≤ l.length ∧ GLe h u.2.2.2 ∧ (u.2.2.1.map fwF = (l.take u.1).flatMap (·.nums) ∧ ∀ z ∈ u.2.2.1, -9007199254740992 ≤ z ∧ z ≤ 9007199254740992) ∧ u.2.1.2.1 = u.2.2.1.length ∧ Sees w h u.2.2.2 [⟨u.2.1.1, u.2.1.2.1, u.2.1.2.2, 2, 1, u.2.2.1.map (Value.int .i64)⟩, ⟨some ⟨b1, 0, none⟩, 1, 1, 37, 8, vecCells 0 (.slice none 0 0) 0 (.slice none 0 0) (.slice none 0 0) (.slice none 0 0) (.slice none 0 0) (.slice none 0 0)⟩] w') (fun u => l.length - u.1) (0, (none, 0, 0), [], h) ⟨rfl, rfl, rfl, rfl, rfl, rfl, rfl, trivial⟩ ⟨Nat.zero_le _, GLe.refl _, ⟨rfl, fun u hu => (by cases hu)⟩, rfl, hs⟩ ?_
    rintro ⟨i, ⟨ad, n, cp⟩, X, hh⟩ w5 ⟨hi, hg, hX, hn, hs⟩
    dsimp only at hi hg hX hn hs ⊢
    have hS := hS.mono hg
    by_cases hlt : i < l.length
    · obtain ⟨y, hy, hyl, hRy⟩ := hA.elem i hlt
      have hRy := hRy.mono hR hg
      have hRy' := hRy
      have hmem := List.getElem_mem hlt
      have hel := len_le_sum hmem
      have htk := fun (γ : Type) (f : VecD α → List γ) => fm_take_succ f l i hlt
      generalize hve : l[i] = ve at *
      obtain ⟨wv, nv, sm, il, fl, ch, bx, ⟨rfl, hoc⟩, _⟩ := hRy
      refine Zerun ?_
      (refine RW.allocN T hs rfl rfl rfl rfl ?_; intro b6 w6 hs)
      (refine RW.storeAll T hs 0 rfl rfl rfl rfl rfl rfl hoc rfl ?_; intro w7 hs)
      refine Zerun ?_
      have hwk := hRy'.wholes
      have htdv := hRy'.tidy
      (refine RW.call T hs rfl rfl rfl (vecWholes_con hR _ ve _ _ hRy' (by omega)) ?_; intro v h8 w8 hle8 hp8 hs)
      obtain ⟨s8, rfl, hK8⟩ := hp8
      have hY : ((if ve.kind = 1 ∨ ve.kind = 2 ∨ ve.kind = 3 then ve.nums.map (fun x => (wholeF x).1) else []).map fwF = ve.nums) ∧ ∀ u ∈ (if ve.kind = 1 ∨ ve.kind = 2 ∨ ve.kind = 3 then ve.nums.map (fun x => (wholeF x).1) else []), -9007199254740992 ≤ u ∧ u ≤ 9007199254740992 := by
        split
        · rename_i hk
          constructor
          · rw [List.map_map]
            conv => rhs; rw [← List.map_id ve.nums]
            apply List.map_congr_left
            intro x hx
            exact (fw_whole _ _ (htdv x hx) (by rw [← hwk hk x hx])).symm
          · intro u hu
            obtain ⟨x, _, rfl⟩ := List.mem_map.1 hu
            exact wholeF_bounds x
        · rename_i hk
          refine ⟨?_, fun u hu => by cases hu⟩
          rcases hk3 hc0 hkd1 hkd3 ve hmem with e | e | e | e
          · exact absurd (.inl e) hk
          · exact absurd (.inr (.inl e)) hk
          · exact absurd (.inr (.inr e)) hk
          · rw [e]; rfl
      generalize (if ve.kind = 1 ∨ ve.kind = 2 ∨ ve.kind = 3 then ve.nums.map (fun x => (wholeF x).1) else []) = Ys at hK8 hY
      obtain ⟨hYf, hYb⟩ := hY
      obtain ⟨ad8, cp8, rfl, hS8⟩ := hK8
      refine Zerun ?_
      have hgh := hg.trans hle8
      have hXn : (X ++ Ys).map fwF = (l.take (i + 1)).flatMap (·.nums) ∧ ∀ u ∈ X ++ Ys, -9007199254740992 ≤ u ∧ u ≤ 9007199254740992 := by
        refine ⟨by rw [List.map_append, hX.1, hYf, htk], fun u hu => ?_⟩
        rcases List.mem_append.1 hu with hu | hu
        · exact hX.2 u hu
        · exact hYb u hu
      have hlen := fm_len' (f := fun v : VecD α => v.nums) (fun v => by unfold VecD.len; omega) l (i + 1)
      rw [← hXn.1, List.length_map, List.length_append] at hlen
      refine RW.append T hs 1 rfl rfl (m := Ys.length) (news := Ys.map (Value.int .i64)) rfl rfl rfl rfl rfl rfl (hS8.src hs.agree (one_ints _ _)) (fun e => by subst e; exact hS8.nil0.2) (by dsimp only; omega) (by omega) ?_
      intro ad9 cp9 w9 hs
      refine Zerun ?_
      refine loopQ_round (i + 1, (ad9, n + Ys.length, cp9), X ++ Ys, h8) ⟨rfl, rfl, rfl, rfl, rfl, rfl, rfl, trivial⟩ ⟨by dsimp only; omega, hgh, hXn, by simp; omega, ?_⟩ (by dsimp only; omega)
      dsimp only
      rw [List.map_append]
      exact hs.drop
    obtain rfl : i = l.length := by omega
    rw [List.take_length] at hX
    have hlen := fm_len (f := fun v : VecD α => v.nums) (fun v => by unfold VecD.len; omega) l
    rw [← hX.1, List.length_map] at hlen
    subst hn
    obtain ⟨hF, hleF, hs, hSF⟩ := hs.freeze
    have hTF : KAt .i64 hF (.slice ad X.length cp) X := RowAt.of_sl hSF
    refine Zerun ?_
    (refine RW.call T hs rfl rfl rfl (vecInts_con (R := R) _ X _ _ hTF (by omega)) ?_; intro v hP wP hleP hpP hs)
    obtain ⟨csP, ok, rfl, hok, hvP⟩ := hpP
    obtain rfl : ok = true := by rw [hok]; exact decide_eq_true hX.2
    rw [if_pos rfl] at hvP
    have hvP' := hvP
    obtain ⟨wvP, nvP, smP, ilP, flP, chP, bxP, ⟨rfl, hocP⟩, _⟩ := hvP
    refine Zerun ?_
    (refine RW.allocN T hs rfl rfl rfl rfl ?_; intro bQ wQ hs)
    (refine RW.storeAll T hs 0 rfl rfl rfl rfl rfl rfl hocP rfl ?_; intro wS hs)
    refine Zerun ?_
    (refine RW.call T hs rfl rfl rfl (sqSqueeze_con hR _ _ _ _ hvP' (by simp [VecD.len]; omega)) ?_; intro v hF wF hleF hpF hs)
    obtain ⟨csF, rfl, hvF⟩ := hpF
    rw [sq_nums3, hX.1] at hvF
    have hvF' := hvF
    obtain ⟨wvF, nvF, smF, ilF, flF, chF, bxF, ⟨rfl, hocF⟩, _⟩ := hvF'
    (refine RW.storeAll T hs 1 rfl rfl rfl rfl rfl rfl hocF rfl ?_; intro wG hs)
    refine Zerun ?_
    exact retQ_ret [_] hF ⟨resN T hs 1 rfl rfl rfl rfl rfl rfl, trivial⟩ hs.dropAll ⟨_, rfl, hvF⟩

  · skip
    have hs := hs.nilRow 46 1
    refine Zerun ?_
    refine CW.loop (fun u : Nat × (Option Addr × Nat × Nat) × List Nat × GHeap => [(1, .int .i64 c), (2, .int .i64 kd), (6, .pointer (some ⟨b1, 0, none⟩)), (11, .slice u.2.1.1 u.2.1.2.1 u.2.1.2.2), (22, .slice ads l.length cps), (23, .int .i64 l.length), (24, .int .i64 u.1)]) (fun u w' => u.1 ≤ l.length ∧ GLe h u.2.2.2 ∧ (u.2.2.1 = (l.take u.1).flatMap (·.nums)) ∧ u.2.1.2.1 = u.2.2.1.length ∧ Sees w h u.2.2.2 [⟨u.2.1.1, u.2.1.2.1, u.2.1.2.2, 46, 1, u.2.2.1.map (Value.float .f64)⟩, ⟨some ⟨b1, 0, none⟩, 1, 1, 37, 8, vecCells 0 (.slice none 0 0) 0 (.slice none 0 0) (.slice none 0 0) (.slice none 0 0) (.slice none 0 0) (.slice none 0 0)⟩] w') (fun u => l.length - u.1) (0, (none, 0, 0), [], h) ⟨rfl, rfl, rfl, rfl, rfl, rfl, rfl, trivial⟩ ⟨Nat.zero_le _, GLe.refl _, rfl, rfl, hs⟩ ?_
    rintro ⟨i, ⟨ad, n, cp⟩, X, hh⟩ w5 ⟨hi, hg, hX, hn, hs⟩
    dsimp only at hi hg hX hn hs ⊢
    have hS := hS.mono hg
    by_cases hlt : i < l.length
    · obtain ⟨y, hy, hyl, hRy⟩ := hA.elem i hlt
      have hRy := hRy.mono hR hg
      have hRy' := hRy
      have hmem := List.getElem_mem hlt
      have hel := len_le_sum hmem
      have htk := fun (γ : Type) (f : VecD α → List γ) => fm_take_succ f l i hlt
      generalize hve : l[i] = ve at *
      obtain ⟨wv, nv, sm, il, fl, ch, bx, ⟨rfl, hoc⟩, _⟩ := hRy
      refine Zerun ?_
      (refine RW.allocN T hs rfl rfl rfl rfl ?_; intro b6 w6 hs)
      (refine RW.storeAll T hs 0 rfl rfl rfl rfl rfl rfl hoc rfl ?_; intro w7 hs)
      refine Zerun ?_
      (refine RW.call T hs rfl rfl rfl (vecNums_con hR _ ve _ _ hRy' (by omega)) ?_; intro v h8 w8 hle8 hp8 hs)
      obtain ⟨ad8, cp8, rfl, hS8⟩ := hp8
      have hgh := hg.trans hle8
      have hXn : X ++ ve.nums = (l.take (i + 1)).flatMap (·.nums) := by rw [hX, htk]
      have hlen := fm_len' (f := fun v : VecD α => v.nums) (fun v => by unfold VecD.len; omega) l (i + 1)
      rw [← hXn, List.length_append] at hlen
      refine RW.append T hs 1 rfl rfl (m := ve.nums.length) (news := ve.nums.map (Value.float .f64)) rfl rfl rfl rfl rfl rfl (hS8.src hs.agree (by intro u hu; obtain ⟨x, _, rfl⟩ := List.mem_map.1 hu; rfl)) (fun e => by subst e; exact hS8.nil0.2) (by dsimp only; omega) (by omega) ?_
      intro ad9 cp9 w9 hs
      refine Zerun ?_
      refine loopQ_round (i + 1, (ad9, n + ve.nums.length, cp9), X ++ ve.nums, h8) ⟨rfl, rfl, rfl, rfl, rfl, rfl, rfl, trivial⟩ ⟨by dsimp only; omega, hgh, hXn, by simp; omega, ?_⟩ (by dsimp only; omega)
      dsimp only
      rw [List.map_append]
      exact hs.drop
    obtain rfl : i = l.length := by omega
    rw [List.take_length] at hX
    have hlen := fm_len (f := fun v : VecD α => v.nums) (fun v => by unfold VecD.len; omega) l
    rw [← hX] at hlen htdl ⊢
    subst hn
    obtain ⟨hF, hleF, hs, hSF⟩ := hs.freeze
    have hTF : FAt hF (.slice ad X.length cp) X := RowAt.of_sl hSF
    refine Zerun ?_
    (refine RW.call T hs rfl rfl rfl (sqNumbers_con (R := R) hR _ X _ _ hTF (fun u hu => (htdl u hu).1) (by omega)) ?_; intro v hF wF hleF hpF hs)
    obtain ⟨csF, ok, rfl, hok, hvF⟩ := hpF
    obtain rfl : ok = true := by rw [hok]; exact decide_eq_true (fun u hu => (htdl u hu).2.1)
    have htw : X.map tidyW = X := by
      conv => rhs; rw [← List.map_id X]
      apply List.map_congr_left
      intro x hx
      unfold tidyW
      rw [tidySpec_of x (htdl x hx)]
      rfl
    rw [if_pos rfl, htw] at hvF
    have hvF' := hvF
    obtain ⟨wvF, nvF, smF, ilF, flF, chF, bxF, ⟨rfl, hocF⟩, _⟩ := hvF'
    refine Zerun ?_
    (refine RW.allocN T hs rfl rfl rfl rfl ?_; intro bP wP hs)
    (refine RW.storeAll T hs 0 rfl rfl rfl rfl rfl rfl hocF rfl ?_; intro wQ hs)
    refine Zerun ?_
    (refine RW.storeAll T hs 1 rfl rfl rfl rfl rfl rfl hocF rfl ?_; intro wG hs)
    refine Zerun ?_
    exact retQ_ret [_] hF ⟨resN T hs 1 rfl rfl rfl rfl rfl rfl, trivial⟩ hs.dropAll ⟨_, rfl, hvF⟩

end
end Go.Proofs.YtmojpbfkpggjhaaGreat

/-
  Contracts of functions of package flat: lists behind each other. No statement is proved here.
-/
namespace Go.Proofs.YtmojpbfkpggjhaaGreat
open Go Go.RowKit
set_option linter.unusedVariables false
set_option linter.unusedSimpArgs false
set_option maxHeartbeats 4000000
attribute [local irreducible] CW RW QW SW HW ConM retM heldQ calmQ elemP thenQ blockQ loopQ joinQ retQ Yields Con Sl zF magR unitF truncF fwF wholeF tidySpec elemQ rankF leastN tidyW
set_option maxHeartbeats 4000000

section
variable {α : Type} {R : GHeap → List Value → α → Prop}
/-- the class of lists behind each other, those without elements apart; none: of unlike ones -/
def joinC (c : Int) : List (VecD α) → Option Int
  | [] => some c
  | v :: l => if v.len = 0 then joinC c l else if 0 ≤ c ∧ c ≠ v.cls then none else joinC v.cls l
def headC : List (VecD α) → Int
  | [] => 0
  | v :: _ => v.cls
structure JF (c kd : Int) (m : List (VecD α)) : Prop where
  rng : c = -1 ∨ c = 0 ∨ c = 1 ∨ c = 2
  kd1 : 1 ≤ kd ∧ kd ≤ 6
  all : ∀ v ∈ m, v.len ≠ 0 → v.cls = c ∧ v.kind ≤ kd
theorem cls_rng (v : VecD α) : v.cls = 0 ∨ v.cls = 1 ∨ v.cls = 2 := by unfold VecD.cls; split <;> (try split) <;> omega
theorem joinC_skip {c : Int} {v : VecD α} {l : List (VecD α)} (h0 : v.len = 0) : joinC c (v :: l) = joinC c l := by rw [joinC, if_pos h0]
theorem joinC_bad {c : Int} {v : VecD α} {l : List (VecD α)} (h0 : ¬ v.len = 0) (hc : 0 ≤ c) (hv : ¬ c = v.cls) : joinC c (v :: l) = none := by rw [joinC, if_neg h0, if_pos ⟨hc, hv⟩]
theorem joinC_step {c : Int} {v : VecD α} {l : List (VecD α)} (h0 : ¬ v.len = 0) (hc : ¬ (0 ≤ c ∧ c ≠ v.cls)) : joinC c (v :: l) = joinC v.cls l := by rw [joinC, if_neg h0, if_neg hc]
theorem JF.skip {c kd : Int} {m : List (VecD α)} {v : VecD α} (hF : JF c kd m) (h0 : v.len = 0) : JF c kd (m ++ [v]) := by
  refine ⟨hF.rng, hF.kd1, fun u hu hn => ?_⟩
  rcases List.mem_append.1 hu with hu | hu
  · exact hF.all u hu hn
  · rw [List.mem_singleton.1 hu] at hn; exact absurd h0 hn
theorem JF.step {c kd : Int} {m : List (VecD α)} {v : VecD α} (hF : JF c kd m) (_h0 : ¬ v.len = 0) (hc : c = v.cls ∨ ∀ u ∈ m, u.len = 0) (hcl : v.cls = 0 ∨ v.cls = 1 ∨ v.cls = 2) (hkr : 0 ≤ v.kind ∧ v.kind ≤ 6) : JF v.cls (max kd v.kind) (m ++ [v]) := by
  refine ⟨by omega, by have := hF.kd1; omega, fun u hu hn => ?_⟩
  rcases List.mem_append.1 hu with hu | hu
  · rcases hc with e | e
    · have := hF.all u hu hn; exact ⟨by omega, by omega⟩
    · exact absurd (e u hu) hn
  · rw [List.mem_singleton.1 hu]; exact ⟨rfl, by omega⟩
theorem VecAt.kind_rng {h : GHeap} {cs : List Value} {v : VecD α} (hv : VecAt R h cs v) : 0 ≤ v.kind ∧ v.kind ≤ 6 := by
  obtain ⟨_, _, _, _, _, _, _, _, hk⟩ := hv
  rcases hk with ⟨e, _⟩ | ⟨e, _⟩ | ⟨e, _⟩ | ⟨e, _⟩ | ⟨e, _⟩ | ⟨e, _⟩ | ⟨e, _⟩ <;> omega
theorem VecAt.kind0 {h : GHeap} {cs : List Value} {v : VecD α} (hv : VecAt R h cs v) (k : v.kind = 0) : v.len = 0 := by
  obtain ⟨_, _, _, _, _, _, _, _, hk⟩ := hv
  rcases hk with ⟨_, e⟩ | ⟨e, _⟩ | ⟨e, _⟩ | ⟨e, _⟩ | ⟨e, _⟩ | ⟨e, _⟩ | ⟨e, _⟩ <;> first | omega | (rw [e]; rfl)
theorem flatJoin_con (hR : Mono R) (h1 : One R) (s : Value) (l : List (VecD α)) (w : World) (h : GHeap) (hl : RowsAt 8 (VecAt R h) h s l) (hm : (l.map VecD.len).sum ≤ 1048576) : Con Tryz.prog 68 [s] w h (fun h' u => ∃ cs' ok, u = .tuple #[.agg cs'.toArray, .bool ok] ∧ (joinC (-1) l = none → ok = false ∧ VecAt R h' cs' VecD.none) ∧ ∀ c, joinC (-1) l = some c → ok = true ∧ VecAt R h' cs' (if c < 0 then noneV (headC l) else joinS c l)) := by
  obtain ⟨ads, cps, xs, rfl, hS, hA⟩ := hl
  have hcap : l.length ≤ 9223372036854775807 := by have := hS.caps; omega
  refine Con.of_body Tryz.func68 rfl Tryz.ntmps68 rfl rfl ?_
  intro hs
  refine Zrun ?_
  (refine RW.allocN T hs rfl rfl rfl rfl ?_; intro b1 w1 hs)
  refine Zerun ?_
  refine CW.loop (fun u : Nat × Int × Int × Nat × GHeap => [(0, .slice ads l.length cps), (2, .pointer (some ⟨b1, 0, none⟩)), (4, .int .i64 u.2.1), (5, .int .i64 u.2.2.1), (6, .int .i64 u.2.2.2.1), (9, .slice ads l.length cps), (10, .int .i64 l.length), (11, .int .i64 u.1)]) (fun u w' => u.1 ≤ l.length ∧ GLe h u.2.2.2.2 ∧ joinC (-1) l = joinC u.2.1 (l.drop u.1) ∧ u.2.2.2.1 = ((l.take u.1).map VecD.len).sum ∧ JF u.2.1 u.2.2.1 (l.take u.1) ∧ Sees w h u.2.2.2.2 [⟨some ⟨b1, 0, none⟩, 1, 1, 37, 8, vecCells 0 (.slice none 0 0) 0 (.slice none 0 0) (.slice none 0 0) (.slice none 0 0) (.slice none 0 0) (.slice none 0 0)⟩] w') (fun u => l.length - u.1) (0, -1, 1, 0, h) ⟨rfl, rfl, rfl, rfl, rfl, rfl, rfl, rfl, trivial⟩ ⟨Nat.zero_le _, GLe.refl _, rfl, rfl, ⟨.inl rfl, by dsimp only; omega, fun v hv => by cases hv⟩, hs⟩ ?_
  rintro ⟨i, c, kd, n, hh⟩ w5 ⟨hi, hg, hJ, hn, hF, hs⟩
  dsimp only at hi hg hJ hn hF hs ⊢
  have hS0 := hS
  have hS := hS.mono hg
  have hrng := hF.rng
  have hkd1 := hF.kd1
  by_cases hlt : i < l.length
  · obtain ⟨y, hy, hyl, hRy⟩ := hA.elem i hlt
    have hRy := hRy.mono hR hg
    have hRy' := hRy
    have hkr := hRy.kind_rng
    have hcl := cls_rng l[i]
    have hd := List.drop_eq_getElem_cons hlt
    have htk : l.take (i + 1) = l.take i ++ [l[i]] := by rw [List.take_add_one, List.getElem?_eq_getElem hlt, Option.toList_some]
    have hsum : ((l.take (i + 1)).map VecD.len).sum = ((l.take i).map VecD.len).sum + l[i].len := by rw [htk, List.map_append, List.sum_append, List.map_cons, List.map_nil, List.sum_cons, List.sum_nil, Nat.add_zero]
    have hsl := sum_take_le l (i + 1)
    rw [hd] at hJ
    rw [hsum] at hsl
    rw [← hn] at hsl
    have hFs : l[i].len = 0 → JF c kd (l.take (i + 1)) := fun h0 => by rw [htk]; exact hF.skip h0
    generalize hve : l[i] = ve at *
    obtain ⟨wv, nv, sm, il, fl, ch, bx, ⟨rfl, hoc⟩, _⟩ := hRy
    refine Zerun ?_
    (refine RW.allocN T hs rfl rfl rfl rfl ?_; intro b6 w6 hs)
    (refine RW.storeAll T hs 0 rfl rfl rfl rfl rfl rfl hoc rfl ?_; intro w7 hs)
    refine Zerun ?_
    (refine RW.call T hs rfl rfl rfl (vecLen_con _ ve _ _ hRy') ?_; intro v h8 w8 hle8 hp8 hs)
    subst hp8
    have hRy' := hRy'.mono hR hle8
    by_cases h0 : ve.len = 0
    · refine Zerun ?_
      refine loopQ_round (i + 1, c, kd, n, h8) ⟨rfl, rfl, rfl, rfl, rfl, rfl, rfl, rfl, trivial⟩ ⟨by dsimp only; omega, hg.trans hle8, hJ.trans (joinC_skip h0), by dsimp only; rw [hsum, hn, h0, Nat.add_zero], hFs h0, ?_⟩ (by dsimp only; omega)
      exact hs.drop
    by_cases hc0 : 0 ≤ c
    · refine Zerun ?_
      (refine RW.call T hs rfl rfl rfl (vecClass_con _ ve _ _ hRy') ?_; intro v h12 w12 hle12 hp12 hs)
      subst hp12
      have hRy' := hRy'.mono hR hle12
      by_cases hcc : c = ve.cls
      · skip
        refine Zerun ?_
        (refine RW.call T hs rfl rfl rfl (vecClass_con _ ve _ _ hRy') ?_; intro v h9 w9 hle9 hp9 hs)
        subst hp9
        have hRy' := hRy'.mono hR hle9
        refine Zerun ?_
        (refine RW.call T hs rfl rfl rfl (vecKind_con _ ve _ _ hRy') ?_; intro v h10 w10 hle10 hp10 hs)
        subst hp10
        have hRy' := hRy'.mono hR hle10
        refine Zerun ?_
        (refine RW.call T hs rfl rfl rfl (vecLen_con _ ve _ _ hRy') ?_; intro v h11 w11 hle11 hp11 hs)
        subst hp11
        refine Zerun ?_
        refine loopQ_round (i + 1, ve.cls, max kd ve.kind, n + ve.len, h11) ⟨rfl, rfl, rfl, rfl, rfl, rfl, rfl, rfl, trivial⟩ ⟨by dsimp only; omega, ((((hg.trans hle8).trans hle12).trans hle9).trans hle10).trans hle11, hJ.trans (joinC_step h0 (fun e => e.2 hcc)), by dsimp only; rw [hsum, hn], by dsimp only; rw [htk]; exact hF.step h0 (.inl hcc) hcl hkr, ?_⟩ (by dsimp only; omega)
        exact hs.drop
      · refine Zerun ?_
        refine RW.val (Y.build T rfl rfl rfl rfl rfl rfl rfl) rfl ?_
        (refine RW.storeAll T hs 1 rfl rfl rfl rfl rfl rfl rfl rfl ?_; intro w13 hs)
        refine Zerun ?_
        exact retQ_ret [_, _] h12 ⟨resN T hs 1 rfl rfl rfl rfl rfl rfl, rfl, trivial⟩ hs.dropAll ⟨_, false, rfl, fun _ => ⟨rfl, vecNone h12⟩, fun c' e => by rw [hJ, joinC_bad h0 hc0 hcc] at e; cases e⟩
    · skip
      refine Zerun ?_
      (refine RW.call T hs rfl rfl rfl (vecClass_con _ ve _ _ hRy') ?_; intro v h9 w9 hle9 hp9 hs)
      subst hp9
      have hRy' := hRy'.mono hR hle9
      refine Zerun ?_
      (refine RW.call T hs rfl rfl rfl (vecKind_con _ ve _ _ hRy') ?_; intro v h10 w10 hle10 hp10 hs)
      subst hp10
      have hRy' := hRy'.mono hR hle10
      refine Zerun ?_
      (refine RW.call T hs rfl rfl rfl (vecLen_con _ ve _ _ hRy') ?_; intro v h11 w11 hle11 hp11 hs)
      subst hp11
      refine Zerun ?_
      refine loopQ_round (i + 1, ve.cls, max kd ve.kind, n + ve.len, h11) ⟨rfl, rfl, rfl, rfl, rfl, rfl, rfl, rfl, trivial⟩ ⟨by dsimp only; omega, (((hg.trans hle8).trans hle9).trans hle10).trans hle11, hJ.trans (joinC_step h0 (fun e => hc0 e.1)), by dsimp only; rw [hsum, hn], by dsimp only; rw [htk]; exact hF.step h0 (.inr (fun u hu => by have := hF.all u hu; have hcu := cls_rng u; by_cases e : u.len = 0; exact e; have := this e; omega)) hcl hkr, ?_⟩ (by dsimp only; omega)
      exact hs.drop
  · obtain rfl : i = l.length := by omega
    rw [List.take_length] at hF hn
    rw [List.drop_length] at hJ
    have hJ : joinC (-1) l = some c := hJ
    have hres : ∀ (csr : List Value) (h' : GHeap), VecAt R h' csr (if c < 0 then noneV (headC l) else joinS c l) → ∃ cs' ok, Value.tuple #[.agg csr.toArray, .bool true] = .tuple #[.agg cs'.toArray, .bool ok] ∧ (joinC (-1) l = none → ok = false ∧ VecAt R h' cs' VecD.none) ∧ ∀ c, joinC (-1) l = some c → ok = true ∧ VecAt R h' cs' (if c < 0 then noneV (headC l) else joinS c l) := by
      intro csr h' hv
      refine ⟨csr, true, rfl, (fun e => by rw [hJ] at e; cases e), fun c' e => ?_⟩
      rw [hJ] at e
      cases e
      exact ⟨rfl, hv⟩
    by_cases hcn : c < 0
    · rw [if_pos hcn] at hres
      by_cases hl0 : 0 < l.length
      · obtain ⟨y, hy, hyl, hRy⟩ := hA.elem 0 hl0
        have hRy := hRy.mono hR hg
        have hRy' := hRy
        have hhd : headC l = l[0].cls := by cases l with | nil => cases hl0 | cons a l => rfl
        generalize hve : l[0] = ve at *
        obtain ⟨wv, nv, sm, il, fl, ch, bx, ⟨rfl, hoc⟩, _⟩ := hRy
        refine Zerun ?_
        (refine RW.call T hs rfl rfl rfl (vecClass_con _ ve _ _ hRy') ?_; intro v h8 w8 hle8 hp8 hs)
        subst hp8
        (refine RW.call T hs rfl rfl rfl (vecNone_con hR h1 ve.cls _ _) ?_; intro v h9 w9 hle9 hp9 hs)
        obtain ⟨cs9, rfl, hv9⟩ := hp9
        have hv9' := hv9
        obtain ⟨wv', nv', sm', il', fl', ch', bx', ⟨rfl, hoc'⟩, _⟩ := hv9'
        (refine RW.storeAll T hs 0 rfl rfl rfl rfl rfl rfl hoc' rfl ?_; intro w10 hs)
        refine Zerun ?_
        exact retQ_ret [_, _] h9 ⟨resN T hs 0 rfl rfl rfl rfl rfl rfl, rfl, trivial⟩ hs.dropAll (hres _ _ (by rw [hhd]; exact hv9))
      · have hhd : headC l = 0 := by cases l with | nil => rfl | cons a l => exact absurd (Nat.succ_pos _) hl0
        refine Zerun ?_
        (refine RW.call T hs rfl rfl rfl (vecNone_con hR h1 0 _ _) ?_; intro v h9 w9 hle9 hp9 hs)
        obtain ⟨cs9, rfl, hv9⟩ := hp9
        have hv9' := hv9
        obtain ⟨wv', nv', sm', il', fl', ch', bx', ⟨rfl, hoc'⟩, _⟩ := hv9'
        (refine RW.storeAll T hs 0 rfl rfl rfl rfl rfl rfl hoc' rfl ?_; intro w10 hs)
        refine Zerun ?_
        exact retQ_ret [_, _] h9 ⟨resN T hs 0 rfl rfl rfl rfl rfl rfl, rfl, trivial⟩ hs.dropAll (hres _ _ (by rw [hhd]; exact hv9))
    · rw [if_neg hcn] at hres
      rw [← hn] at hm
      have hz : ∀ v ∈ l, v.nums = [] ∨ (v.kind ≠ 0 ∧ v.cls = c ∧ v.kind ≤ kd ∧ 0 ≤ v.kind) := by
        intro v hv
        by_cases h0 : v.len = 0
        · left
          unfold VecD.len at h0
          exact List.eq_nil_of_length_eq_zero (by omega)
        · right
          obtain ⟨j, hj, rfl⟩ := List.mem_iff_getElem.1 hv
          obtain ⟨y, _, _, hRy⟩ := hA.elem j hj
          have := hF.all _ hv h0
          exact ⟨fun k0 => h0 (hRy.kind0 k0), this.1, this.2, hRy.kind_rng.1⟩
      have hk1 : c = 0 → kd = 1 → ∀ v ∈ l, v.kind = 1 ∨ v.nums = [] := by
        intro _ e v hv
        rcases hz v hv with e2 | ⟨e2, _, e3, e4⟩
        · exact .inr e2
        · left; omega
      have hk3 : c = 0 → kd ≠ 1 → kd < 4 → ∀ v ∈ l, v.kind = 1 ∨ v.kind = 2 ∨ v.kind = 3 ∨ v.nums = [] := by
        intro _ _ e v hv
        rcases hz v hv with e2 | ⟨e2, _, e3, e4⟩
        · exact .inr (.inr (.inr e2))
        · omega
      refine Zerun ?_
      (refine RW.call T hs rfl rfl rfl (flatJoined_con hR h1 _ l c kd _ _ ⟨_, _, _, rfl, hS, hA.mono (fun u a hv => hv.mono hR hg)⟩ (by rw [← hn]; exact hm) (by omega) hk1 hk3) ?_; intro v h9 w9 hle9 hp9 hs)
      obtain ⟨cs9, rfl, hv9⟩ := hp9
      have hv9' := hv9
      have hoc' : cs9.all Value.oneCell' = true := by obtain ⟨_, _, _, _, _, _, _, ⟨_, hoc⟩, _⟩ := hv9'; exact hoc
      have hl9 := hv9.size
      refine RW.storeAll T hs 0 rfl rfl rfl rfl rfl hl9 hoc' hl9 ?_
      intro w10 hs
      refine Zerun ?_
      exact retQ_ret [_, _] h9 ⟨resN T hs 0 rfl rfl rfl rfl rfl hl9, rfl, trivial⟩ hs.dropAll (hres _ _ hv9)
end
end Go.Proofs.YtmojpbfkpggjhaaGreat

/-
  Contracts of the document's answer of layer 8: items again and again, turned, behind each other; a number brought between two. No statement is proved here.
-/
namespace Go.Proofs.YtmojpbfkpggjhaaGreat
open Go Go.RowKit
set_option linter.unusedVariables false
set_option linter.unusedSimpArgs false
set_option maxHeartbeats 4000000
attribute [local irreducible] CW RW QW SW HW ConM retM heldQ calmQ elemP thenQ blockQ loopQ joinQ retQ Yields Con Sl zF magR unitF truncF fwF wholeF tidySpec elemQ rankF leastN tidyW
set_option maxHeartbeats 4000000

section
variable {γ : Type} {RC : GHeap → List Value → γ → Prop}
end
section
variable {β : Type} {R : GHeap → List Value → β → Prop}
end
section
variable {γ : Type} {RC : GHeap → List Value → γ → Prop}
def joinP (c : Int) : List (PlainD γ) → Option Int
  | [] => some c
  | p :: l => if 0 < p.items.length ∧ 0 ≤ c ∧ c ≠ p.fill then none else joinP (if 0 < p.items.length then p.fill else c) l
def headF : List (PlainD γ) → Int
  | [] => 0
  | p :: _ => p.fill
end
end Go.Proofs.YtmojpbfkpggjhaaGreat

/-
  Contracts of the document's answer and of the laws: how many items a good plain array has. No statement is proved here.
-/
namespace Go.Proofs.YtmojpbfkpggjhaaGreat
open Go Go.RowKit
set_option linter.unusedVariables false
set_option linter.unusedSimpArgs false
set_option maxHeartbeats 4000000
attribute [local irreducible] CW RW QW SW HW ConM retM heldQ calmQ elemP thenQ blockQ loopQ joinQ retQ Yields Con Sl zF magR unitF truncF fwF wholeF tidySpec elemQ rankF leastN tidyW
set_option maxHeartbeats 4000000

section
variable {α : Type} {R : GHeap → List Value → α → Prop}
theorem refCountB_step (hR : Mono R) (most : Int) (ih : ∀ cs a w h, R h cs a → Con Tryz.prog 45 [.agg cs.toArray, .int .i64 most] w h (fun _ u => ∃ r, u = .int .i64 r))
    (cs : List Value) (p : PlainD α) (w : World) (h : GHeap) (hp : PlainR R h cs p) : Con Tryz.prog 45 [.agg cs.toArray, .int .i64 most] w h (fun _ u => ∃ r, u = .int .i64 r ∧ (p.shape.length ≤ 8 → p.items.length ≤ 1048576 → r ≤ most → (p.items.length : Int) + p.shape.length + 1 ≤ most)) := by
  obtain ⟨s, it, rfl, ⟨ad, cp, rfl, hS⟩, ⟨ad2, cp2, xs, rfl, hS2, hA⟩⟩ := hp
  have hlen : p.items.length ≤ 9223372036854775807 := by have := hS2.caps; omega
  refine Con.of_body Tryz.func45 rfl Tryz.ntmps45 rfl rfl ?_
  intro hs
  refine Zrun ?_
  (refine RW.boxN hs rfl rfl ?_; intro b1 w1 hs)
  refine Zerun ?_
  refine RW.val (Y.add' rfl rfl) rfl ?_
  refine RW.val (Y.add' rfl rfl) rfl ?_
  have hr0' : p.shape.length ≤ 8 → p.items.length ≤ 1048576 → IntKind.i64.wrap (IntKind.i64.wrap ((p.items.length : Int) + p.shape.length) + 1) = (p.items.length : Int) + p.shape.length + 1 := by
    intro h1 h2
    have e1 : IntKind.i64.wrap ((p.items.length : Int) + p.shape.length) = (p.items.length : Int) + p.shape.length := wrap64 (by omega)
    rw [e1, wrap64 (by omega)]
  generalize IntKind.i64.wrap (IntKind.i64.wrap _ + 1) = r0 at hr0' ⊢
  refine Zerun ?_
  refine CW.loop (fun q : Nat × Int × GHeap => [(1, .int .i64 most), (2, .pointer (some ⟨b1, 0, none⟩)), (5, .int .i64 q.2.1), (6, .int .i64 q.1)]) (fun q w' => q.1 ≤ p.items.length ∧ GLe h q.2.2 ∧ (most < r0 → q.2.1 = r0) ∧ Sees w h q.2.2 [⟨some ⟨b1, 0, none⟩, 1, 1, 25, 3, [.slice ad p.shape.length cp, .slice ad2 p.items.length cp2, .int .i64 p.fill]⟩] w') (fun q => p.items.length - q.1) (0, r0, h) ⟨rfl, rfl, rfl, rfl, trivial⟩ ⟨by omega, GLe.refl _, fun _ => rfl, hs⟩ ?_
  rintro ⟨i, r, hh⟩ w2 ⟨hi, hg, hr, hs⟩
  dsimp only at hi hg hr hs ⊢
  have hS2 := hS2.mono hg
  by_cases hlt : i < p.items.length
  · obtain ⟨bx, hx4, hx1, ⟨ad3, cp3, ys, rfl, hS3, hA3⟩, hx2, hq0, hq1, hq2, hq3⟩ := ItemAt.cells hA i hlt
    have hS3 := hS3.mono hg
    generalize p.items.getD i noItem = x at *
    by_cases hle : r ≤ most
    · refine Zerun ?_
      refine CW.loop (fun q : Nat × Int × GHeap => [(1, .int .i64 most), (2, .pointer (some ⟨b1, 0, none⟩)), (5, .int .i64 q.2.1), (6, .int .i64 i), (7, .int .i64 q.1)]) (fun q w' => q.1 ≤ x.box.length ∧ GLe hh q.2.2 ∧ Sees w h q.2.2 [⟨some ⟨b1, 0, none⟩, 1, 1, 25, 3, [.slice ad p.shape.length cp, .slice ad2 p.items.length cp2, .int .i64 p.fill]⟩] w') (fun q => x.box.length - q.1) (0, r, hh) ⟨rfl, rfl, rfl, rfl, rfl, trivial⟩ ⟨by omega, GLe.refl _, hs⟩ ?_
      rintro ⟨j, r2, h3⟩ w3 ⟨hj, hg3, hs⟩
      dsimp only at hj hg3 hs ⊢
      have hS2 := hS2.mono hg3
      have hS3 := hS3.mono hg3
      have hbl : x.box.length ≤ 9223372036854775807 := by have := hS3.caps; omega
      by_cases hlt3 : j < x.box.length
      · by_cases hle3 : r2 ≤ most
        · obtain ⟨y, hy, hR3, hR3l⟩ : ∃ y, (ys.drop (j * 3)).take 3 = y ∧ (∃ a, R h y a) ∧ y.length = 3 := by
            obtain ⟨h1, h2⟩ := hA3.get (x.box[j]) j hlt3
            exact ⟨_, rfl, ⟨_, h1⟩, h2⟩
          obtain ⟨a, hRa⟩ := hR3
          have hRa := hR _ _ _ _ (hg.trans hg3) hRa
          refine Zerun ?_
          (refine RW.call T hs rfl rfl rfl (ih _ a _ _ hRa) ?_; intro v h4 w4 hle4 hp4 hs)
          obtain ⟨r4, rfl⟩ := hp4
          refine RW.val (Y.add' rfl rfl) rfl ?_
          generalize IntKind.i64.wrap (r2 + r4) = r5
          refine Zerun ?_
          exact loopQ_round (j + 1, r5, h4) ⟨rfl, rfl, rfl, rfl, rfl, trivial⟩ ⟨by dsimp only; omega, hg3.trans hle4, hs⟩ (by dsimp only; omega)
        · refine Zerun ?_
          exact loopQ_round (i + 1, r2, h3) ⟨rfl, rfl, rfl, rfl, trivial⟩ ⟨by dsimp only; omega, hg.trans hg3, fun e => by have := hr e; omega, hs⟩ (by dsimp only; omega)
      · refine Zerun ?_
        exact loopQ_round (i + 1, r2, h3) ⟨rfl, rfl, rfl, rfl, trivial⟩ ⟨by dsimp only; omega, hg.trans hg3, fun e => by have := hr e; omega, hs⟩ (by dsimp only; omega)
    · refine Zerun ?_
      exact retQ_ret [_] hh ⟨rfl, trivial⟩ hs.dropAll ⟨_, rfl, fun h1 h2 h3 => by have e := hr0' h1 h2; by_cases c : most < r0; have := hr c; omega; omega⟩
  · refine Zerun ?_
    exact retQ_ret [_] hh ⟨rfl, trivial⟩ hs.dropAll ⟨_, rfl, fun h1 h2 h3 => by have e := hr0' h1 h2; by_cases c : most < r0; have := hr c; omega; omega⟩
end
theorem refCountB_con (most : Int) (k : Nat) (cs : List Value) (p : PD (k + 1)) (w : World) (h : GHeap) (hp : PlainAt (k + 1) h cs p) : Con Tryz.prog 45 [.agg cs.toArray, .int .i64 most] w h (fun _ u => ∃ r, u = .int .i64 r ∧ (chk (k + 1) 40 p = 0 → r ≤ most → (PlainD.items (α := PD k) p).length ≤ most)) := by
  have := refCountB_step (PlainAt.mono k) most (refCount_con most k) cs p w h hp
  refine this.mono ?_
  rintro h' u _ ⟨r, rfl, hr⟩
  refine ⟨r, rfl, fun hc hle => ?_⟩
  obtain ⟨_, _, _, hpr, hok⟩ := (chkP_ok (α := PD k) _ _ _).1 hc
  have h1 : (PlainD.shape (α := PD k) p).length ≤ 8 := by
    by_cases c : 8 < (PlainD.shape (α := PD k) p).length
    · unfold product at hpr
      rw [if_pos c] at hpr
      exact absurd (congrArg Prod.snd hpr) (show (26 : Int) ≠ 0 by decide)
    · omega
  have h2 := (good_sml (k + 1) 40 _ (good_arr (k + 1) 40 p hc)).2.1
  have h3 : (ArrD.vec (α := AD k) (arr (k + 1) p)).len = (PlainD.items (α := PD k) p).length := len_arrV (arr k) _ _ _ hok
  have := hr h1 (by omega) hle
  omega
end Go.Proofs.YtmojpbfkpggjhaaGreat

/-
  Plain facts on lists of elements picked, cut, turned and put behind each other, and what they show. No statement is proved here.
-/
namespace Go.Proofs.YtmojpbfkpggjhaaGreat
open Go Go.RowKit
set_option linter.unusedVariables false
set_option linter.unusedSimpArgs false
set_option maxHeartbeats 4000000
attribute [local irreducible] CW RW QW SW HW ConM retM heldQ calmQ elemP thenQ blockQ loopQ joinQ retQ Yields Con Sl zF magR unitF truncF fwF wholeF tidySpec elemQ rankF leastN tidyW
set_option maxHeartbeats 4000000

structure Shown (k : Nat) (v : VecD (AD k)) (l : List (ItemD (PD k))) (c : Int) : Prop where
  hc : v.cls = c
  k0 : v.kind ≠ 0
  kl : v.kind = v.least
  vm : v.len ≤ 1048576
  sm : ∀ b ∈ v.boxes, sml k b
  he : itemsV (plain k) v = l
  td : ∀ x ∈ l, tdyIt (tdy k) x
theorem Shown.pick {k : Nat} {v : VecD (AD (k + 1))} {L : List (ItemD (PD (k + 1)))} {c : Int} (H : Shown (k + 1) v L c) (at_ : List Int) (hm : at_.length ≤ 1048576) : Shown (k + 1) (v.pick at_ (blankA k)) (at_.map fun i => atD L i (blankI c : ItemD (PlainD (PD k)))) c := by
  have hpf := pick_facts v at_ (blankA k)
  refine ⟨by rw [pick_cls, H.hc], hpf.1, hpf.2.1, by rw [hpf.2.2.1]; exact hm, ?_, pick_items' (β := PD k) (plain (k + 1)) _ at_ (blankA k) _ _ H.he H.hc rfl, ?_⟩
  · intro b hb
    rcases hpf.2.2.2 b hb with e | e
    · exact H.sm b e
    · rw [e]; exact blankA_sml k
  · intro x hx
    obtain ⟨i, _, rfl⟩ := List.mem_map.1 hx
    rcases atD_mem L i (blankI c : ItemD (PlainD (PD k))) with e | e
    · exact H.td _ e
    · rw [e]; exact blankI_tdy k _
theorem span_items {γ : Type} (L : List γ) (f t_ : Nat) (hf : f ≤ t_) (ht : t_ ≤ L.length) (d : γ) : (spanL f t_).map (fun i => atD L i d) = (L.drop f).take (t_ - f) := by
  apply List.ext_getElem?
  intro j
  simp only [spanL, List.map_map, List.getElem?_map, List.getElem?_take, List.getElem?_drop]
  by_cases c : j < t_ - f
  · rw [List.getElem?_range c, if_pos c]
    simp only [Option.map_some, Function.comp]
    rw [atD_in ⟨by omega, by omega⟩, Int.toNat_natCast]
    have : f + j < L.length := by omega
    simp [List.getD_eq_getElem?_getD, this]
  · rw [if_neg c]
    simp [c]
section
variable {α β : Type}
theorem len0 {v : VecD α} (h : v.len = 0) : v.nums = [] ∧ v.chars = [] ∧ v.boxes = [] := by
  unfold VecD.len at h
  exact ⟨List.eq_nil_of_length_eq_zero (by omega), List.eq_nil_of_length_eq_zero (by omega), List.eq_nil_of_length_eq_zero (by omega)⟩
theorem itemsV_len0 (f : α → β) {v : VecD α} (h : v.len = 0) : itemsV f v = [] := by
  obtain ⟨h1, h2, h3⟩ := len0 h
  unfold itemsV
  rw [h1, h2, h3]
  split <;> (try split) <;> rfl
theorem flatMap_map' {γ δ ε : Type} (g : δ → ε) (f : γ → List δ) : ∀ l : List γ, (l.flatMap f).map g = l.flatMap fun x => (f x).map g
  | [] => rfl
  | a :: l => by rw [List.flatMap_cons, List.map_append, flatMap_map' g f l, List.flatMap_cons]
theorem flatMap_eq {γ δ : Type} {f g : γ → List δ} : ∀ {l : List γ}, (∀ x ∈ l, f x = g x) → l.flatMap f = l.flatMap g
  | [], _ => rfl
  | a :: l, h => by rw [List.flatMap_cons, List.flatMap_cons, h a (by simp), flatMap_eq (fun x hx => h x (List.mem_cons_of_mem _ hx))]
theorem joinS_cls {c : Int} (hc : c = 0 ∨ c = 1 ∨ c = 2) (l : List (VecD α)) : (joinS c l).cls = c := by
  unfold joinS VecD.cls
  rcases hc with rfl | rfl | rfl
  · have := leastN_bounds (l.flatMap (·.nums))
    rw [if_neg (show ¬ (0 : Int) = 1 by decide), if_neg (show ¬ (0 : Int) = 2 by decide)]
    dsimp only
    rw [if_neg (by omega), if_neg (by omega)]
  · rfl
  · rfl
theorem itemsV_join (f : α → β) {c : Int} {l : List (VecD α)} (hc : c = 0 ∨ c = 1 ∨ c = 2) (h : ∀ v ∈ l, v.len ≠ 0 → v.cls = c) : itemsV f (joinS c l) = l.flatMap (itemsV f) := by
  have hcl := joinS_cls hc l
  rcases hc with rfl | rfl | rfl
  · rw [itemsV_c0 f hcl]
    show (l.flatMap (·.nums)).map _ = _
    rw [flatMap_map']
    apply flatMap_eq
    intro v hv
    by_cases e : v.len = 0
    · rw [itemsV_len0 f e, (len0 e).1]; rfl
    · rw [itemsV_c0 f (h v hv e)]
  · rw [itemsV_c1 f hcl]
    show (l.flatMap (·.chars)).map _ = _
    rw [flatMap_map']
    apply flatMap_eq
    intro v hv
    by_cases e : v.len = 0
    · rw [itemsV_len0 f e, (len0 e).2.1]; rfl
    · rw [itemsV_c1 f (h v hv e)]
  · rw [itemsV_c2 f hcl]
    show (l.flatMap (·.boxes)).map _ = _
    rw [flatMap_map']
    apply flatMap_eq
    intro v hv
    by_cases e : v.len = 0
    · rw [itemsV_len0 f e, (len0 e).2.2]; rfl
    · rw [itemsV_c2 f (h v hv e)]
theorem joinS_len (c : Int) (l : List (VecD α)) : (joinS c l).len ≤ (l.map VecD.len).sum := by
  unfold joinS
  split
  · have := fm_len (f := fun v : VecD α => v.chars) (fun v => by unfold VecD.len; omega) l
    simpa [VecD.len] using this
  · split
    · have := fm_len (f := fun v : VecD α => v.boxes) (fun v => by unfold VecD.len; omega) l
      simpa [VecD.len] using this
    · have := fm_len (f := fun v : VecD α => v.nums) (fun v => by unfold VecD.len; omega) l
      simpa [VecD.len] using this
theorem joinS_boxes {c : Int} {l : List (VecD α)} {b : α} (h : b ∈ (joinS c l).boxes) : ∃ v ∈ l, b ∈ v.boxes := by
  unfold joinS at h
  split at h
  · cases h
  · split at h
    · exact List.mem_flatMap.1 h
    · cases h
theorem joinS_kind (c : Int) (hc : c = 0 ∨ c = 1 ∨ c = 2) (l : List (VecD α)) : (joinS c l).kind ≠ 0 ∧ (joinS c l).kind = (joinS c l).least := by
  have hcl := joinS_cls hc l
  unfold VecD.least
  rw [hcl]
  rcases hc with rfl | rfl | rfl
  · have := leastN_bounds (l.flatMap (·.nums))
    have hk : (joinS 0 l).kind = leastN (l.flatMap (·.nums)) := rfl
    have hn : (joinS 0 l).nums = l.flatMap (·.nums) := rfl
    rw [hk, hn]
    exact ⟨by omega, by rw [if_pos ⟨rfl, by omega⟩]⟩
  · exact ⟨show (5 : Int) ≠ 0 by decide, rfl⟩
  · exact ⟨show (6 : Int) ≠ 0 by decide, rfl⟩
theorem noneV_facts (c : Int) (hc : c = 0 ∨ c = 1 ∨ c = 2) (f : α → β) : (noneV c : VecD α).cls = c ∧ (noneV c : VecD α).kind ≠ 0 ∧ (noneV c : VecD α).kind = (noneV c : VecD α).least ∧ (noneV c : VecD α).len = 0 ∧ (noneV c : VecD α).boxes = [] ∧ itemsV f (noneV c : VecD α) = [] := by
  rcases hc with rfl | rfl | rfl
  · have e : leastN [] = 1 := by have := leastN_bits []; simpa using this
    refine ⟨rfl, show (1 : Int) ≠ 0 by decide, ?_, rfl, rfl, rfl⟩
    show (1 : Int) = if (0 : Int) = 0 ∧ (1 : Int) ≠ 0 then leastN [] else 1
    rw [e]
    rfl
  · exact ⟨rfl, show (5 : Int) ≠ 0 by decide, rfl, rfl, rfl, rfl⟩
  · exact ⟨rfl, show (6 : Int) ≠ 0 by decide, rfl, rfl, rfl, rfl⟩
theorem joinC_some : ∀ (l : List (VecD α)) (c0 c : Int), joinC c0 l = some c → (0 ≤ c0 → c = c0) ∧ (c = c0 ∨ c = 0 ∨ c = 1 ∨ c = 2) ∧ ∀ v ∈ l, v.len ≠ 0 → v.cls = c
  | [], c0, c, h => by
    cases h
    exact ⟨fun _ => rfl, .inl rfl, fun v hv => by cases hv⟩
  | v :: l, c0, c, h => by
    by_cases h0 : v.len = 0
    · rw [joinC_skip h0] at h
      obtain ⟨h1, h2, h3⟩ := joinC_some l c0 c h
      refine ⟨h1, h2, fun u hu hn => ?_⟩
      rcases List.mem_cons.1 hu with rfl | hu
      · exact absurd h0 hn
      · exact h3 u hu hn
    · by_cases hb : 0 ≤ c0 ∧ c0 ≠ v.cls
      · rw [joinC, if_neg h0, if_pos hb] at h; cases h
      · rw [joinC, if_neg h0, if_neg hb] at h
        obtain ⟨h1, h2, h3⟩ := joinC_some l v.cls c h
        have hcl := cls_rng v
        have hcv := h1 (by omega)
        refine ⟨fun e => ?_, by omega, fun u hu hn => ?_⟩
        · rw [hcv]
          exact (Decidable.of_not_not (fun e2 => hb ⟨e, fun e3 => e2 e3.symm⟩))
        · rcases List.mem_cons.1 hu with rfl | hu
          · exact hcv.symm
          · exact h3 u hu hn
end
theorem shown_join {k : Nat} {vs : List (VecD (AD k))} {c : Int} (hJ : joinC (-1) vs = some c) (hA : ∀ v ∈ vs, Shown k v (itemsV (plain k) v) v.cls) (hm : (vs.map VecD.len).sum ≤ 1048576) : Shown k (if c < 0 then noneV (headC vs) else joinS c vs) (vs.flatMap (itemsV (plain k))) (if 0 ≤ c then c else headC vs) := by
  obtain ⟨_, hr, hall⟩ := joinC_some vs (-1) c hJ
  have htd : ∀ x ∈ vs.flatMap (itemsV (plain k)), tdyIt (tdy k) x := by
    intro x hx
    obtain ⟨v, hv, hx⟩ := List.mem_flatMap.1 hx
    exact (hA v hv).td x hx
  by_cases hc : c < 0
  · rw [if_pos hc, if_neg (by omega)]
    have hh : headC vs = 0 ∨ headC vs = 1 ∨ headC vs = 2 := by
      cases vs with
      | nil => exact .inl rfl
      | cons v l => exact cls_rng v
    have he : vs.flatMap (itemsV (plain k)) = [] := by
      rw [flatMap_eq (g := fun _ => [])]
      · simp
      · intro v hv
        apply itemsV_len0
        by_cases e : v.len = 0
        · exact e
        · have := hall v hv e; have := cls_rng v; omega
    obtain ⟨h1, h2, h3, h4, h5, h6⟩ := noneV_facts (headC vs) hh (plain k)
    exact ⟨h1, h2, h3, by omega, (by rw [h5]; intro b hb; cases hb), h6.trans he.symm, htd⟩
  · rw [if_neg hc, if_pos (by omega)]
    have hc3 : c = 0 ∨ c = 1 ∨ c = 2 := by omega
    obtain ⟨h1, h2⟩ := joinS_kind c hc3 vs
    refine ⟨joinS_cls hc3 vs, h1, h2, Nat.le_trans (joinS_len c vs) hm, ?_, itemsV_join _ hc3 hall, htd⟩
    intro b hb
    obtain ⟨v, hv, hb⟩ := joinS_boxes hb
    exact (hA v hv).sm b hb
theorem joinC_joinP {δ α γ : Type} (fv : δ → VecD α) (fp : δ → PlainD γ) : ∀ (l : List δ) (c : Int), (∀ x ∈ l, (fv x).len = (fp x).items.length ∧ (fv x).cls = (fp x).fill) → joinC c (l.map fv) = joinP c (l.map fp) ∧ headC (l.map fv) = headF (l.map fp)
  | [], c, _ => ⟨rfl, rfl⟩
  | x :: l, c, h => by
    obtain ⟨h1, h2⟩ := h x (by simp)
    refine ⟨?_, h2⟩
    have ih := fun c => (joinC_joinP fv fp l c (fun y hy => h y (List.mem_cons_of_mem _ hy))).1
    rw [List.map_cons, List.map_cons, joinC, joinP, h1, h2]
    by_cases e : (fp x).items.length = 0
    · rw [if_pos e, if_neg (by omega), if_neg (by omega)]; exact ih c
    · rw [if_neg e]
      by_cases e2 : 0 ≤ c ∧ c ≠ (fp x).fill
      · rw [if_pos e2, if_pos ⟨by omega, e2⟩]
      · rw [if_neg e2, if_neg (fun e3 => e2 e3.2), if_pos (by omega)]; exact ih _
end Go.Proofs.YtmojpbfkpggjhaaGreat

/-
  Contracts of the law's own functions of layer 28 and of what they lean on: texts, arrays shown. No statement is proved here.
-/
namespace Go.Proofs.YtmojpbfkpggjhaaGreat
open Go Go.RowKit
set_option linter.unusedVariables false
set_option linter.unusedSimpArgs false
set_option maxHeartbeats 4000000
attribute [local irreducible] CW RW QW SW HW ConM retM heldQ calmQ elemP thenQ blockQ loopQ joinQ retQ Yields Con Sl zF magR unitF truncF fwF wholeF tidySpec elemQ rankF leastN tidyW
set_option maxHeartbeats 2000000

/-- the plain array of characters -/
def textP {α : Type} (l : List Int) : PlainD α := ⟨[(l.length : Int)], l.map fun x => ⟨1, 0, x, []⟩, 1⟩
theorem refText_con {α : Type} {R : GHeap → List Value → α → Prop} (hR : Mono R) (s : Value) (l : List Int) (w : World) (h : GHeap) (hl : KAt .i32 h s l) (hm : l.length ≤ 1048576) : Con Tryz.prog 61 [s] w h (fun h' u => ∃ cs', u = .agg cs'.toArray ∧ PlainR R h' cs' (textP l)) := by
  obtain ⟨ad, cp, rfl, hS⟩ := hl
  refine Con.of_body Tryz.func61 rfl Tryz.ntmps61 rfl rfl ?_
  intro hs
  refine Zrun ?_
  (refine RW.allocN T hs rfl rfl rfl rfl ?_; intro b1 w1 hs)
  refine Zerun ?_
  (refine RW.lit T hs (vs := [.int .i64 l.length]) (cs := [.int .i64 l.length]) rfl rfl rfl rfl (by simp [Value.cells]) rfl rfl rfl rfl rfl ?_; intro b2 w2 hs)
  obtain ⟨h3, hle3, hs, hS3⟩ := hs.freeze
  have hI3 : IntsAt h3 (.slice (some ⟨b2, 0, none⟩) 1 1) [(l.length : Int)] := IntsAt.of_sl hS3
  refine RW.val (Y.build T rfl rfl rfl rfl rfl rfl rfl) rfl ?_
  (refine RW.allocN T hs rfl rfl rfl rfl ?_; intro b3 w3 hs)
  (refine RW.storeAll T hs 0 rfl rfl rfl rfl rfl rfl rfl rfl ?_; intro w4 hs)
  refine Zerun ?_
  have hs := hs.nilRow 69 4
  refine CW.loop (fun u : Nat × Option Addr × Nat × List Value => [(0, .slice ad l.length cp), (2, .pointer (some ⟨b1, 0, none⟩)), (3, .pointer (some ⟨b3, 0, none⟩)), (4, .int .i64 u.1)]) (fun u w' => u.1 ≤ l.length ∧ AllN 4 (ItemAt R h3) u.2.2.2 ((l.take u.1).map fun x => ⟨1, 0, x, []⟩) ∧ Sees w h h3 [⟨u.2.1, u.1, u.2.2.1, 69, 4, u.2.2.2⟩, ⟨some ⟨b3, 0, none⟩, 1, 1, 25, 3, [.slice (some ⟨b2, 0, none⟩) 1 1, .slice u.2.1 u.1 u.2.2.1, .int .i64 1]⟩, ⟨some ⟨b1, 0, none⟩, 1, 1, 25, 3, [.slice none 0 0, .slice none 0 0, .int .i64 0]⟩] w') (fun u => l.length - u.1) (0, none, 0, []) ⟨rfl, rfl, rfl, rfl, trivial⟩ ⟨by omega, rfl, hs⟩ ?_
  rintro ⟨i, ra, rc, vs⟩ w5 ⟨hi, hAv, hs⟩
  dsimp only at hi hAv hs ⊢
  by_cases hlt : i < l.length
  · have htk := take_succ_getD l i 0 hlt
    refine Zerun ?_
    refine CW.regionH T (fun w' : World => ∃ (h' : GHeap) (O : List Row), Sees w h h' O w') ?_
    rintro w7 rfl
    have hs := hs.drew
    refine HW.take (fuel := 10) 0 rfl (v := .pointer (some ⟨b3, 0 + 1, none⟩)) ?_ ?_ rfl (by kernel_rfl) (by kernel_rfl) (by kernel_rfl) ?_
    · intro w' _; exact Y.fieldAddr T rfl rfl rfl rfl rfl
    · exact ⟨_, _, hs⟩
    refine HW.take (fuel := 9) 2 rfl (v := .slice ad l.length cp) ?_ ?_ rfl (by kernel_rfl) (by kernel_rfl) (by kernel_rfl) ?_
    · intro w' _; exact Y.move rfl
    · exact ⟨_, _, hs⟩
    refine HW.take (fuel := 8) 3 rfl (v := .int .i64 i) ?_ ?_ rfl (by kernel_rfl) (by kernel_rfl) (by kernel_rfl) ?_
    · intro w' _; exact Y.move rfl
    · exact ⟨_, _, hs⟩
    refine HW.take (fuel := 7) 4 rfl (v := elemP ad i 1) ?_ ?_ rfl (by kernel_rfl) (by kernel_rfl) (by kernel_rfl) ?_
    · rintro w' ⟨h', O, hs'⟩; exact Y.idxSN T rfl rfl (hS.mono hs'.le) rfl rfl rfl hlt
    · exact ⟨_, _, hs⟩
    refine HW.take (fuel := 6) 5 rfl (v := .int .i32 (l.getD i 0)) ?_ ?_ rfl (by kernel_rfl) (by kernel_rfl) (by kernel_rfl) ?_
    · rintro w' ⟨h', O, hs'⟩; exact Y.ldS T hs' rfl (hS.mono hs'.le) rfl rfl hlt (map_get _ _ _ _ hlt)
    · exact ⟨_, _, hs⟩
    refine HW.take (fuel := 5) 6 rfl (v := .agg [.int .i64 1, .float .f64 0, .int .i32 (l.getD i 0), .slice none 0 0].toArray) ?_ ?_ rfl (by kernel_rfl) (by kernel_rfl) (by kernel_rfl) ?_
    · intro w' _; exact Y.build T rfl rfl rfl rfl rfl rfl rfl
    · exact ⟨_, _, hs⟩
    refine HW.two (fuel := 4) 1 7 rfl rfl (by kernel_rfl) ?_ ?_
    · refine RW.val (Y.loadRow1 T hs 1 rfl rfl rfl rfl rfl) rfl ?_
      refine RW.nil ?_
      refine heldQ_normal ⟨_, _, hs⟩ ?_
      refine HW.one (fuel := 3) 7 rfl (by kernel_rfl) ?_
      (refine RW.lit T hs (vs := [.agg [.int .i64 1, .float .f64 0, .int .i32 (l.getD i 0), .slice none 0 0].toArray]) (cs := [.int .i64 1, .float .f64 0, .int .i32 (l.getD i 0), .slice none 0 0]) rfl rfl rfl rfl (by simp [Value.cells]) rfl rfl rfl rfl rfl ?_; intro b8 w8 hs)
      refine RW.nil ?_
      refine heldQ_normal ⟨_, _, hs⟩ ?_
      refine HW.one (fuel := 2) 8 rfl (by kernel_rfl) ?_
      (refine RW.append T hs 1 rfl rfl (m := 1) (news := [.int .i64 1, .float .f64 0, .int .i32 (l.getD i 0), .slice none 0 0]) rfl rfl rfl rfl rfl rfl (hs.src0 rfl (by simp [Value.oneCell'])) (by simp) (by dsimp only; omega) (by omega) ?_; intro ad9 cp9 w9 hs; replace hs := hs.drop)
      refine RW.nil ?_
      refine heldQ_normal ⟨_, _, hs⟩ ?_
      refine HW.take (fuel := 1) 9 rfl (v := .pointer (some ⟨b3, 0 + 1, none⟩)) ?_ ?_ rfl (by kernel_rfl) (by kernel_rfl) (by kernel_rfl) ?_
      · intro w' _; exact Y.fieldAddr T rfl rfl rfl rfl rfl
      · exact ⟨_, _, hs⟩
      refine HW.one (fuel := 0) 10 rfl (by kernel_rfl) ?_
      (refine RW.store1 T hs 1 rfl rfl rfl rfl rfl rfl rfl rfl ?_; intro w10 hs)
      refine RW.nil ?_
      refine heldQ_normal ⟨_, _, hs⟩ ?_
      refine HW.done (by kernel_rfl) ?_
      refine calmQ_normal ?_
      refine Zerun ?_
      refine loopQ_round (i + 1, ad9, cp9, _) ⟨rfl, rfl, rfl, rfl, trivial⟩ ⟨by dsimp only; omega, ?_, hs⟩ (by dsimp only; omega)
      dsimp only
      rw [htk, List.map_append]
      exact hAv.append (AllN.one rfl (ItemAt.mk' (x := ⟨1, 0, l.getD i 0, []⟩) (RowsAt.nil _) (show (0 : Nat) < 18446744073709551616 by decide)))
    · (refine RW.lit T hs (vs := [.agg [.int .i64 1, .float .f64 0, .int .i32 (l.getD i 0), .slice none 0 0].toArray]) (cs := [.int .i64 1, .float .f64 0, .int .i32 (l.getD i 0), .slice none 0 0]) rfl rfl rfl rfl (by simp [Value.cells]) rfl rfl rfl rfl rfl ?_; intro b8 w8 hs)
      refine RW.nil ?_
      refine heldQ_normal ⟨_, _, hs⟩ ?_
      refine HW.one (fuel := 3) 1 rfl (by kernel_rfl) ?_
      refine RW.val (Y.loadRow1 T hs 2 rfl rfl rfl rfl rfl) rfl ?_
      refine RW.nil ?_
      refine heldQ_normal ⟨_, _, hs⟩ ?_
      refine HW.one (fuel := 2) 8 rfl (by kernel_rfl) ?_
      (refine RW.append T hs 1 rfl rfl (m := 1) (news := [.int .i64 1, .float .f64 0, .int .i32 (l.getD i 0), .slice none 0 0]) rfl rfl rfl rfl rfl rfl (hs.src0 rfl (by simp [Value.oneCell'])) (by simp) (by dsimp only; omega) (by omega) ?_; intro ad9 cp9 w9 hs; replace hs := hs.drop)
      refine RW.nil ?_
      refine heldQ_normal ⟨_, _, hs⟩ ?_
      refine HW.take (fuel := 1) 9 rfl (v := .pointer (some ⟨b3, 0 + 1, none⟩)) ?_ ?_ rfl (by kernel_rfl) (by kernel_rfl) (by kernel_rfl) ?_
      · intro w' _; exact Y.fieldAddr T rfl rfl rfl rfl rfl
      · exact ⟨_, _, hs⟩
      refine HW.one (fuel := 0) 10 rfl (by kernel_rfl) ?_
      (refine RW.store1 T hs 1 rfl rfl rfl rfl rfl rfl rfl rfl ?_; intro w10 hs)
      refine RW.nil ?_
      refine heldQ_normal ⟨_, _, hs⟩ ?_
      refine HW.done (by kernel_rfl) ?_
      refine calmQ_normal ?_
      refine Zerun ?_
      refine loopQ_round (i + 1, ad9, cp9, _) ⟨rfl, rfl, rfl, rfl, trivial⟩ ⟨by dsimp only; omega, ?_, hs⟩ (by dsimp only; omega)
      dsimp only
      rw [htk, List.map_append]
      exact hAv.append (AllN.one rfl (ItemAt.mk' (x := ⟨1, 0, l.getD i 0, []⟩) (RowsAt.nil _) (show (0 : Nat) < 18446744073709551616 by decide)))
  · obtain rfl : i = l.length := by omega
    rw [List.take_length] at hAv
    obtain ⟨h6, hle6, hs, hS6⟩ := hs.freeze
    refine Zerun ?_
    (refine RW.storeAll T hs 1 rfl rfl rfl rfl rfl rfl rfl rfl ?_; intro w7 hs)
    refine Zerun ?_
    refine retQ_ret [_] h6 ⟨resN T hs 1 rfl rfl rfl rfl rfl rfl, trivial⟩ hs.dropAll ⟨_, rfl, _, _, rfl, hI3.mono hle6, ra, rc, vs, by simp [textP], ?_, hAv.mono (fun u a => ItemAt.mono hR _ _ u a hle6)⟩
    simpa [textP] using hS6
theorem shows28_con (k : Nat) (cs cp : List Value) (a : AD (k + 1)) (p : PD (k + 1)) (w : World) (h : GHeap) (ha : ArrAt (k + 1) h cs a) (hp : PlainAt (k + 1) h cp p) (hg : good (k + 1) 40 a) (he : plain (k + 1) a = p) (ht : tdy (k + 1) p) : Con Tryz.prog 27 [.agg cs.toArray, .int .i64 0, .agg cp.toArray, .int .i64 0] w h (fun _ u => u = .bool true) := by
  have ha' := ha
  have hp' := hp
  obtain ⟨s, vc, rfl, ⟨ad, cap, rfl, _⟩, hv⟩ := ha
  obtain ⟨wv, nv, sm, il, fl, ch, bx, ⟨rfl, hoc⟩, _⟩ := hv
  obtain ⟨s2, it2, rfl, ⟨ad2, cp2, rfl, _⟩, ⟨ad3, cp3, xs3, rfl, _, _⟩⟩ := hp
  refine Con.of_body Tryz.func27 rfl Tryz.ntmps27 rfl rfl ?_
  intro hs
  refine Zrun ?_
  (refine RW.boxN hs rfl rfl ?_; intro b1 w1 hs)
  refine Zrun ?_
  (refine RW.boxN hs rfl rfl ?_; intro b2 w2 hs)
  refine Zerun ?_
  refine CW.regionO T hs ?_
  intro w5 hs
  refine HW.takeS (fuel := 8) 0 rfl (fun _ _ hs => Y.loadRowN T hs 1 rfl rfl rfl rfl rfl rfl rfl) hs rfl (by kernel_rfl) (by kernel_rfl) (by kernel_rfl) ?_
  refine HW.one (fuel := 7) 1 rfl (by kernel_rfl) ?_
  (refine RW.call T hs rfl rfl rfl (valueGood_con (k + 1) _ a _ _ ha') ?_; intro v h25 w25 hle25 hp25 hs)
  subst hp25
  rw [decB_of hg]
  have ha' := ArrAt.mono (k + 1) _ _ _ _ hle25 ha'
  have hp' := PlainAt.mono (k + 1) _ _ _ _ hle25 hp'
  refine RW.nil ?_
  refine heldQ_normal ⟨_, hs⟩ ?_
  refine HW.takeS (fuel := 6) 2 rfl (fun _ _ hs => Y.move rfl) hs rfl (by kernel_rfl) (by kernel_rfl) (by kernel_rfl) ?_
  refine HW.takeSY (fuel := 5) 3 rfl rfl rfl (fun _ _ hs => Y.loadRowN T hs 1 rfl rfl rfl rfl rfl rfl rfl) hs rfl (by kernel_rfl) (by kernel_rfl) (by kernel_rfl) ?_
  refine HW.takeSY (fuel := 4) 5 rfl rfl rfl (fun _ _ hs => Y.loadRowN T hs 0 rfl rfl rfl rfl rfl rfl rfl) hs rfl (by kernel_rfl) (by kernel_rfl) (by kernel_rfl) ?_
  refine HW.one (fuel := 3) 4 rfl (by kernel_rfl) ?_
  refine RW.guardYes rfl rfl ?_
  (refine RW.call T hs rfl rfl rfl (plainV_con (k + 1) _ a _ _ ha' (good_sml (k + 1) 40 a hg)) ?_; intro v h28 w28 hle28 hp28 hs)
  obtain ⟨cs28, rfl, hq28⟩ := hp28
  rw [he] at hq28
  have hp' := PlainAt.mono (k + 1) _ _ _ _ hle28 hp'
  refine RW.nil ?_
  refine heldQ_normal ⟨_, hs⟩ ?_
  refine HW.one (fuel := 2) 6 rfl (by kernel_rfl) ?_
  refine RW.guardYes rfl rfl ?_
  (refine RW.call T hs rfl rfl rfl (refSame_con (k + 1) _ _ p p _ _ hq28 hp' ht ht) ?_; intro v h30 w30 hle30 hp30 hs)
  subst hp30
  rw [eqB_of (show p = p from rfl)]
  have hp' := PlainAt.mono (k + 1) _ _ _ _ hle30 hp'
  refine RW.nil ?_
  refine heldQ_normal ⟨_, hs⟩ ?_
  refine HW.takeS (fuel := 1) 7 rfl (fun _ _ hs => Y.pickT rfl rfl) hs rfl (by kernel_rfl) (by kernel_rfl) (by kernel_rfl) ?_
  refine HW.takeS (fuel := 0) 8 rfl (fun _ _ hs => Y.assign rfl) hs rfl (by kernel_rfl) (by kernel_rfl) (by kernel_rfl) ?_
  refine HW.done (by kernel_rfl) ?_
  refine calmQ_normal ?_
  refine Zerun ?_
  exact retQ_ret [_] h30 ⟨rfl, trivial⟩ hs.dropAll rfl
theorem fine28_con (k : Nat) (cs : List Value) (p : PD (k + 1)) (w : World) (h : GHeap) (hp : PlainAt (k + 1) h cs p) : Con Tryz.prog 21 [.agg cs.toArray] w h (fun _ u => ∃ b, u = .bool b ∧ (b = true → chk (k + 1) 40 p = 0 ∧ (PlainD.shape (α := PD k) p).length ≤ 8 ∧ (PlainD.items (α := PD k) p).length ≤ 3000)) := by
  have hp' := hp
  obtain ⟨s, it, rfl, ⟨ad0, cp0, rfl, hS0⟩, ⟨ad, cp, xs, rfl, hS, _⟩⟩ := hp
  have hcap := hS0.caps
  refine Con.of_body Tryz.func21 rfl Tryz.ntmps21 rfl rfl ?_
  intro hs
  refine Zrun ?_
  (refine RW.boxN hs rfl rfl ?_; intro b1 w1 hs)
  refine Zerun ?_
  (refine RW.call T hs rfl rfl rfl (refCountB_con 3000 k _ p _ _ hp') ?_; intro v h2 w2 hle2 hp2 hs)
  obtain ⟨r, rfl, hr⟩ := hp2
  by_cases c1 : r ≤ 1500
  · by_cases c2 : (PlainD.shape (α := PD k) p).length ≤ 8
    · refine Zerun ?_
      (refine RW.call T hs rfl rfl rfl (refCheck_con (k + 1) _ p _ _ (PlainAt.mono (k + 1) _ _ _ _ hle2 hp')) ?_; intro v h3 w3 hle3 hp3 hs)
      subst hp3
      refine Zerun ?_
      refine retQ_ret [_] h3 ⟨rfl, trivial⟩ hs.dropAll ⟨_, rfl, fun e => ?_⟩
      have hc := of_decide_eq_true e
      have hh := hr hc (by omega)
      exact ⟨hc, c2, by omega⟩
    · refine Zerun ?_
      exact retQ_ret [_] h2 ⟨rfl, trivial⟩ hs.dropAll ⟨_, rfl, fun e => by cases e⟩
  · refine Zerun ?_
    exact retQ_ret [_] h2 ⟨rfl, trivial⟩ hs.dropAll ⟨_, rfl, fun e => by cases e⟩

section
variable {α : Type}
theorem indexFunc64_con (F : Int → Bool) (v : Value) (l : List Int) (f : FuncId) (ca : List Value) (w : World) (h : GHeap) (hf : T.call f = true) (hl : KAt .i64 h v l)
    (hc : ∀ a w h', GLe h h' → Con Tryz.prog f (.int .i64 a :: ca) w h' (fun _ u => u = .bool (F a))) :
    Con Tryz.prog 156 [v, .func (.func f) #[] ca.toArray] w h (fun _ u => ∃ r : Int, u = .int .i64 r ∧ decide (0 ≤ r) = l.any F) := by
  obtain ⟨ad, cp, rfl, hS⟩ := hl
  have hlen : l.length ≤ 9223372036854775807 := by have := hS.caps; omega
  refine Con.of_body Tryz.func156 rfl Tryz.ntmps156 rfl rfl ?_
  intro hs
  refine Zerun ?_
  refine CW.loop (fun u : Nat × GHeap => [(0, .slice ad l.length cp), (1, .func (.func f) #[] ca.toArray), (7, .int .i64 l.length), (8, .int .i64 u.1)]) (fun u w' => u.1 ≤ l.length ∧ GLe h u.2 ∧ (∀ a ∈ l.take u.1, F a = false) ∧ Sees w h u.2 [] w') (fun u => l.length - u.1) (0, h) ⟨rfl, rfl, rfl, rfl, trivial⟩ ⟨by omega, GLe.refl _, by simp, hs⟩ ?_
  rintro ⟨i, hh⟩ w2 ⟨hi, hgl, hno, hs⟩
  dsimp only at hi hgl hno hs ⊢
  have hS2 := hS.mono hgl
  by_cases hlt : i < l.length
  · have htk : l.take (i + 1) = l.take i ++ [l[i]] := by rw [List.take_add_one, List.getElem?_eq_getElem hlt]; rfl
    have hgi : l.getD i 0 = l[i] := by rw [List.getD_eq_getElem?_getD, List.getElem?_eq_getElem hlt]; rfl
    refine Zerun ?_
    refine RW.callV (fi := []) (ca := ca) T hs rfl rfl hf rfl (hc _ _ _ hgl) ?_
    intro v h4 w4 hle4 hp4 hs
    subst hp4
    rw [hgi]
    by_cases c : F l[i] = true
    · rw [c]
      refine Zerun ?_
      refine retQ_ret [_] h4 ⟨rfl, trivial⟩ hs.dropAll ⟨_, rfl, ?_⟩
      rw [decide_eq_true (show (0 : Int) ≤ i by omega)]
      exact (List.any_eq_true.2 ⟨_, List.getElem_mem hlt, c⟩).symm
    · have c := Bool.eq_false_iff.2 c
      rw [c]
      refine Zerun ?_
      refine loopQ_round (i + 1, h4) ⟨rfl, rfl, rfl, rfl, trivial⟩ ⟨by dsimp only; omega, hgl.trans hle4, ?_, hs⟩ (by dsimp only; omega)
      dsimp only
      intro a ha
      rw [htk, List.mem_append, List.mem_singleton] at ha
      rcases ha with ha | rfl
      · exact hno a ha
      · exact c
  · obtain rfl : i = l.length := by omega
    rw [List.take_length] at hno
    refine Zerun ?_
    refine retQ_ret [_] hh ⟨rfl, trivial⟩ hs.dropAll ⟨_, rfl, ?_⟩
    cases e : l.any F with
    | false => rfl
    | true =>
      obtain ⟨a, ha, hF⟩ := List.any_eq_true.1 e
      rw [hno a ha] at hF
      cases hF
theorem containsFunc64_con (F : Int → Bool) (v : Value) (l : List Int) (f : FuncId) (ca : List Value) (w : World) (h : GHeap) (hf : T.call f = true) (hl : KAt .i64 h v l)
    (hc : ∀ a w h', GLe h h' → Con Tryz.prog f (.int .i64 a :: ca) w h' (fun _ u => u = .bool (F a))) :
    Con Tryz.prog 118 [v, .func (.func f) #[] ca.toArray] w h (fun _ u => u = .bool (l.any F)) := by
  refine Con.of_body Tryz.func118 rfl Tryz.ntmps118 rfl rfl ?_
  intro hs
  refine Zerun ?_
  (refine RW.call T hs rfl rfl rfl (indexFunc64_con F v l f ca _ _ hf hl hc) ?_; intro v h1 w1 hle1 hp1 hs)
  obtain ⟨r, rfl, hr⟩ := hp1
  refine Zerun ?_
  exact retQ_ret [_] h1 ⟨rfl, trivial⟩ hs.dropAll (by rw [← hr]; rfl)
theorem negFunc_con (a : Int) (w : World) (h : GHeap) : Con Tryz.prog 119 [.int .i64 a] w h (fun _ u => u = .bool (decide (a < 0))) := by
  refine Con.of_body Tryz.func119 rfl Tryz.ntmps119 rfl rfl ?_
  intro hs
  refine Zerun ?_
  exact retQ_ret [_] h ⟨rfl, trivial⟩ hs.dropAll rfl
theorem deep_con (k : Nat) (cs : List Value) (a : AD (k + 1)) (w : World) (h : GHeap) (ha : ArrAt (k + 1) h cs a) (hg : good (k + 1) 40 a) : Con Tryz.prog 76 [.agg cs.toArray] w h (fun h' u => ∃ cs', u = .tuple #[.agg cs'.toArray, .int .i64 0] ∧ ArrAt (k + 1) h' cs' a) := by
  have ha' := ha
  obtain ⟨s, vc, rfl, ⟨ad, cap, rfl, _⟩, hv⟩ := ha
  obtain ⟨wv, nv, sm, il, fl, ch, bx, ⟨rfl, hoc⟩, _⟩ := hv
  refine Con.of_body Tryz.func76 rfl Tryz.ntmps76 rfl rfl ?_
  intro hs
  refine Zrun ?_
  (refine RW.boxN hs rfl rfl ?_; intro b1 w1 hs)
  (refine RW.allocN T hs rfl rfl rfl rfl ?_; intro b2 w2 hs)
  refine Zerun ?_
  (refine RW.call T hs rfl rfl rfl (valueGood_con (k + 1) _ a _ _ ha') ?_; intro v h3 w3 hle3 hp3 hs)
  subst hp3
  rw [decB_of hg]
  refine Zerun ?_
  refine RW.storeAll T hs 0 rfl rfl rfl rfl rfl rfl (show (Value.oneCell' (.slice ad _ cap) && (vecCells (ArrD.vec (α := AD k) a).kind wv nv sm il fl ch bx).all Value.oneCell') = true by rw [hoc]; rfl) rfl ?_
  intro w4 hs
  refine Zerun ?_
  exact retQ_ret [_, _] h3 ⟨resN T hs 0 rfl rfl rfl rfl rfl rfl, rfl, trivial⟩ hs.dropAll ⟨_, rfl, ArrAt.mono (k + 1) _ _ _ _ hle3 ha'⟩
end
end Go.Proofs.YtmojpbfkpggjhaaGreat

/-
  Plain Lean on arrays of numbers, and of one number: good ones, told plainly. No statement is proved here.
-/
namespace Go.Proofs.YtmojpbfkpggjhaaGreat
open Go Go.RowKit
set_option linter.unusedVariables false
set_option linter.unusedSimpArgs false
set_option maxHeartbeats 4000000
attribute [local irreducible] CW RW QW SW HW ConM retM heldQ calmQ elemP thenQ blockQ loopQ joinQ retQ Yields Con Sl zF magR unitF truncF fwF wholeF tidySpec elemQ rankF leastN tidyW

theorem product_len1 (n : Nat) (h : n ≤ 1048576) : product [(n : Int)] 1048576 = ((n : Int), 0) := by
  have hg : goodS [(n : Int)] = true := (goodS_spec _).2 ⟨by simp, by intro d hd; rw [List.mem_singleton.1 hd]; omega, by simp [pr]; omega⟩
  rw [product_good _ hg]
  by_cases c : n = 0
  · subst c; simp
  · rw [if_neg (by simp; omega)]
    simp [pr]; omega
def numsA (k : Nat) (N : List Nat) : AD (k + 1) := (⟨[(N.length : Int)], ⟨leastN N, N, [], []⟩⟩ : ArrD (AD k))
theorem numsP_chk (k : Nat) (l : List Nat) (hf : ∀ x ∈ l, finF x) (hm : l.length ≤ 1048576) : chk (k + 1) 40 (numsP l : PlainD (PD k)) = 0 := by
  refine (chkP_ok (α := PD k) _ _ _).2 ⟨by omega, Int.le_refl _, (by show (0 : Int) ≤ 2; omega), ?_, fun x hx => ?_⟩
  · show product [(l.length : Int)] 1048576 = (((l.map fun x => (⟨0, x, 0, []⟩ : ItemD (PD k))).length : Int), 0)
    rw [product_len1 _ hm, List.length_map]
  · obtain ⟨y, hy, rfl⟩ := List.mem_map.1 hx
    exact ⟨rfl, fun e => absurd (show (0 : Int) = 2 from e) (by decide), fun _ => hf y hy⟩
theorem numsP_arr (k : Nat) (l : List Nat) : arr (k + 1) (numsP l : PlainD (PD k)) = numsA k (l.map tidyW) := by
  show (⟨[(l.length : Int)], arrV (arr k) 0 (l.map fun x => (⟨0, x, 0, []⟩ : ItemD (PD k)))⟩ : ArrD (AD k)) = _
  unfold arrV numsA
  rw [if_neg (by omega), if_neg (by omega), List.map_map, List.length_map]
  rfl
/-- small whole numbers, as words -/
theorem fw_rank (l : List Int) (h : ∀ n ∈ l, -9007199254740992 ≤ n ∧ n ≤ 9007199254740992) : leastN (l.map fwF) ≤ 3 := by
  unfold leastN
  refine fold_le _ _ _ (by omega) (fun x hx => ?_)
  obtain ⟨n, hn, rfl⟩ := List.mem_map.1 hx
  rw [rank_int, wholeF_fw n (h n hn)]
theorem fw_wholes (l : List Int) (h : ∀ n ∈ l, -9007199254740992 ≤ n ∧ n ≤ 9007199254740992) : (l.map fwF).map (fun x => (wholeF x).1) = l := by
  rw [List.map_map]
  conv => rhs; rw [← List.map_id l]
  apply List.map_congr_left
  intro n hn
  show (wholeF (fwF n)).1 = n
  rw [wholeF_fw n (h n hn)]
theorem fw_tidyW (l : List Int) (h : ∀ n ∈ l, -9007199254740992 ≤ n ∧ n ≤ 9007199254740992) : (l.map fwF).map tidyW = l.map fwF := by
  rw [List.map_map]
  apply List.map_congr_left
  intro n hn
  show tidyW (fwF n) = fwF n
  unfold tidyW
  rw [tidySpec_of _ (fwF_spec n (h n hn)).1]
theorem fw2 : fwF 2 = 4611686018427387904 := by unfold fwF; decide
theorem numV_cls {α : Type} (N : List Nat) : (⟨leastN N, N, [], []⟩ : VecD α).cls = 0 := by
  have hb := leastN_bounds N
  unfold VecD.cls; dsimp only; rw [if_neg (by omega), if_neg (by omega)]
end Go.Proofs.YtmojpbfkpggjhaaGreat

/-
  Contracts of functions of package part: texts cut into boxes. No statement is proved here.
-/
namespace Go.Proofs.YtmojpbfkpggjhaaGreat
open Go Go.RowKit
set_option linter.unusedVariables false
set_option linter.unusedSimpArgs false
set_option maxHeartbeats 4000000
attribute [local irreducible] CW RW QW SW HW ConM retM heldQ calmQ elemP thenQ blockQ loopQ joinQ retQ Yields Con Sl zF magR unitF truncF fwF wholeF tidySpec elemQ rankF leastN tidyW
set_option maxHeartbeats 4000000

/-- where parts of a list lie: from here up to there; and where the next one begins -/
def segStep (l : List Int) (st : List (Nat × Nat) × Nat) (i : Nat) : List (Nat × Nat) × Nat :=
  if i < l.length ∧ 0 < l.getD i 0 ∧ l.getD i 0 ≤ l.getD (i - 1) 0 then st else (if 0 < l.getD st.2 0 then st.1 ++ [(st.2, i)] else st.1, i)
def segsTo (l : List Int) : Nat → List (Nat × Nat) × Nat
  | 0 => ([], 0)
  | k + 1 => segStep l (segsTo l k) (k + 1)
theorem segsTo_ok (l : List Int) : ∀ k, (segsTo l k).2 ≤ k ∧ (segsTo l k).1.length ≤ k ∧ ∀ s ∈ (segsTo l k).1, s.1 < s.2 ∧ s.2 ≤ k
  | 0 => ⟨Nat.le_refl _, Nat.le_refl _, fun s hs => by cases hs⟩
  | k + 1 => by
    obtain ⟨h1, h2, h3⟩ := segsTo_ok l k
    show (segStep l (segsTo l k) (k + 1)).2 ≤ _ ∧ (segStep l (segsTo l k) (k + 1)).1.length ≤ _ ∧ ∀ s ∈ (segStep l (segsTo l k) (k + 1)).1, _
    unfold segStep
    split
    · exact ⟨by omega, by omega, fun s hs => by obtain ⟨a, b⟩ := h3 s hs; exact ⟨a, by omega⟩⟩
    · refine ⟨Nat.le_refl _, ?_, ?_⟩
      · dsimp only
        split
        · rw [List.length_append]; show _ + 1 ≤ _; omega
        · omega
      · dsimp only
        intro s hs
        split at hs
        · rcases List.mem_append.1 hs with hs | hs
          · obtain ⟨a, b⟩ := h3 s hs; exact ⟨a, by omega⟩
          · rw [List.mem_singleton.1 hs]; exact ⟨by dsimp only; omega, Nat.le_refl _⟩
        · obtain ⟨a, b⟩ := h3 s hs; exact ⟨a, by omega⟩
def segs (l : List Int) : List (Nat × Nat) := (segsTo l l.length).1
def segT (C : List Int) (s : Nat × Nat) : List Int := (C.drop s.1).take (s.2 - s.1)
/-- a text as an array -/
def textA (k : Nat) (C : List Int) : AD (k + 1) := (⟨[(C.length : Int)], ⟨5, [], C, []⟩⟩ : ArrD (AD k))
def partsA (l C : List Int) : AD 3 := (⟨[((segs l).length : Int)], ⟨6, [], [], (segs l).map fun s => textA 1 (segT C s)⟩⟩ : ArrD (AD 2))
theorem textA_good (k : Nat) (C : List Int) (d : Int) (hd : d ≠ 0) (hm : C.length ≤ 1048576) : good (k + 1) d (textA k C) := by
  refine ⟨?_, (by show (5 : Int) ≠ 0; omega), rfl, hd, fun b hb => nomatch hb⟩
  show product [(C.length : Int)] 1048576 = (((0 + C.length + 0 : Nat) : Int), 0)
  rw [product_len1 _ hm, Nat.zero_add, Nat.add_zero]
theorem segT_len (C : List Int) (s : Nat × Nat) : (segT C s).length ≤ C.length := by
  unfold segT
  rw [List.length_take, List.length_drop]
  omega
theorem partsA_good (l C : List Int) (hl : l.length ≤ 1048576) (hm : C.length ≤ 1048576) : good 3 40 (partsA l C) := by
  refine ⟨?_, (by show (6 : Int) ≠ 0; omega), rfl, by omega, fun b hb => ?_⟩
  · have this : (segs l).length ≤ l.length := (segsTo_ok l l.length).2.1
    show product [((segs l).length : Int)] 1048576 = (((0 + 0 + ((segs l).map fun s => textA 1 (segT C s)).length : Nat) : Int), 0)
    rw [product_len1 _ (Nat.le_trans this hl)]
    simp only [List.length_map, Nat.zero_add]
  · obtain ⟨s, hs, rfl⟩ := List.mem_map.1 hb
    exact textA_good 1 _ _ (by omega) (Nat.le_trans (segT_len C s) hm)
theorem cutA_of {n x : Nat} (h : x ≤ n) : cutA n (x : Int) = x := by unfold cutA; omega
theorem cutB_of {n x y : Nat} (h : x ≤ y) (h2 : y ≤ n) : cutB n (x : Int) (y : Int) = y := by unfold cutB cutA; omega
theorem pick_text {α : Type} (C : List Int) (f t_ : Nat) (hf : f ≤ t_) (ht : t_ ≤ C.length) (nb : α) : (⟨5, [], C, []⟩ : VecD α).pick (spanL f t_) nb = ⟨5, [], (C.drop f).take (t_ - f), []⟩ := by
  unfold VecD.pick
  rw [if_pos rfl]
  dsimp only
  rw [span_items C f t_ hf ht 32]
theorem sq_text {α : Type} (C : List Int) : (⟨5, [], C, []⟩ : VecD α).sq = ⟨5, [], C, []⟩ := by
  unfold VecD.sq
  rw [if_neg]
  rintro ⟨h, _⟩
  exact absurd h (show ¬ ((if (5 : Int) = 5 then (1 : Int) else if (5 : Int) = 6 then 2 else 0) = 0) by decide)
theorem sq_boxes {α : Type} (C : List α) : (⟨6, [], [], C⟩ : VecD α).sq = ⟨6, [], [], C⟩ := by
  unfold VecD.sq
  rw [if_neg]
  rintro ⟨h, _⟩
  exact absurd h (show ¬ ((if (6 : Int) = 5 then (1 : Int) else if (6 : Int) = 6 then 2 else 0) = 0) by decide)
theorem partition_con (cs cs' : List Value) (N : List Nat) (C : List Int) (w : World) (h : GHeap) (hb : ArrAt 2 h cs (numsA 1 N)) (ha : ArrAt 2 h cs' (textA 1 C)) (hk : leastN N ≤ 3) (hz : ∀ x ∈ N, 0 ≤ (wholeF x).1) (hl : N.length = C.length) (hm : C.length ≤ 1000) :
    Con Tryz.prog 60 [.agg cs.toArray, .agg cs'.toArray] w h (fun h' u => ∃ c2, u = .tuple #[.agg c2.toArray, .int .i64 0] ∧ ArrAt 3 h' c2 (partsA (N.map fun x => (wholeF x).1) C)) := by
  have hlb := leastN_bounds N
  obtain ⟨s, vc, rfl, hsh, hv⟩ := hb
  obtain ⟨s2, vc2, rfl, hsh2, hv2⟩ := ha
  have hbR : ArrR (ArrAt 1) h (s :: vc) (⟨[(N.length : Int)], ⟨leastN N, N, [], []⟩⟩ : ArrD (AD 1)) := ⟨_, _, rfl, hsh, hv⟩
  have haR : ArrR (ArrAt 1) h (s2 :: vc2) (⟨[(C.length : Int)], ⟨5, [], C, []⟩⟩ : ArrD (AD 1)) := ⟨_, _, rfl, hsh2, hv2⟩
  change VecAt (ArrAt 1) h vc (⟨leastN N, N, [], []⟩ : VecD (AD 1)) at hv
  change VecAt (ArrAt 1) h vc2 (⟨5, [], C, []⟩ : VecD (AD 1)) at hv2
  obtain ⟨vN, hvN⟩ : ∃ v : VecD (AD 1), (⟨leastN N, N, [], []⟩ : VecD (AD 1)) = v := ⟨_, rfl⟩
  obtain ⟨vC, hvC⟩ : ∃ v : VecD (AD 1), (⟨5, [], C, []⟩ : VecD (AD 1)) = v := ⟨_, rfl⟩
  have hNk : vN.kind = 1 ∨ vN.kind = 2 ∨ vN.kind = 3 := by rw [← hvN]; dsimp only; omega
  have hNn : vN.nums = N := by rw [← hvN]
  have hNl : vN.len = N.length := by rw [← hvN]; rfl
  have hCl : vC.len = C.length := by rw [← hvC]; show 0 + C.length + 0 = _; omega
  have hCk : vC.kind ≠ 0 := by rw [← hvC]; show (5 : Int) ≠ 0; omega
  rw [hvN] at hv hbR
  rw [hvC] at hv2 haR
  have hv' := hv
  have hv2' := hv2
  obtain ⟨ad, cp, rfl, hSs⟩ := hsh
  obtain ⟨ad2, cp2, rfl, _⟩ := hsh2
  obtain ⟨wv, nv, sm, il, fl, ch, bx, ⟨rfl, hoc⟩, _⟩ := hv
  obtain ⟨wv2, nv2, sm2, il2, fl2, ch2, bx2, ⟨rfl, hoc2⟩, _⟩ := hv2
  refine Con.of_body Tryz.func60 rfl Tryz.ntmps60 rfl rfl ?_
  intro hs
  refine Zrun ?_
  (refine RW.boxN hs rfl rfl ?_; intro b1 w1 hs)
  refine Zrun ?_
  (refine RW.boxN hs rfl rfl ?_; intro b2 w2 hs)
  (refine RW.allocN T hs rfl rfl rfl rfl ?_; intro b3 w3 hs)
  refine Zerun ?_
  (refine RW.call T hs rfl rfl rfl (valueRank_con _ _ _ _ hbR) ?_; intro v h4 w4 hle4 hp4 hs)
  subst hp4
  rw [show ((([(N.length : Int)] : List Int).length : Nat) : Int) = 1 from rfl]
  have haR := haR
  obtain ⟨_, _, e9, hI9, hV9⟩ := id haR
  have haR4 : ArrR (ArrAt 1) h4 _ (⟨[(C.length : Int)], vC⟩ : ArrD (AD 1)) := ⟨_, _, e9, hI9.mono hle4, hV9.mono (ArrAt.mono 1) hle4⟩
  refine Zerun ?_
  (refine RW.call T hs rfl rfl rfl (valueRank_con _ _ _ _ haR4) ?_; intro v h5 w5 hle5 hp5 hs)
  subst hp5
  rw [show ((([(C.length : Int)] : List Int).length : Nat) : Int) = 1 from rfl]
  have hv' := hv'.mono (ArrAt.mono 1) (hle4.trans hle5)
  have hv2' := hv2'.mono (ArrAt.mono 1) (hle4.trans hle5)
  refine Zerun ?_
  (refine RW.call T hs rfl rfl rfl (vecWholes_con (ArrAt.mono 1) _ vN _ _ hv' (by omega)) ?_; intro v h6 w6 hle6 hp6 hs)
  obtain ⟨sl, rfl, hK⟩ := hp6
  rw [if_pos hNk, hNn] at hK
  rw [decide_eq_true hNk]
  have hv2' := hv2'.mono (ArrAt.mono 1) hle6
  obtain ⟨l, hle⟩ : ∃ l, N.map (fun x => (wholeF x).1) = l := ⟨_, rfl⟩
  have hll : l.length = N.length := by rw [← hle, List.length_map]
  have hl0 : ∀ a ∈ l, 0 ≤ a := by
    rw [← hle]
    intro a ha
    obtain ⟨x, hx, rfl⟩ := List.mem_map.1 ha
    exact hz x hx
  rw [hle] at hK ⊢
  obtain ⟨adl, cpl, rfl, hS⟩ := id hK
  refine Zerun ?_
  (refine RW.call T hs rfl rfl rfl (vecLen_con _ vC _ _ hv2') ?_; intro v h7 w7 hle7 hp7 hs)
  subst hp7
  have hv2' := hv2'.mono (ArrAt.mono 1) hle7
  have hK := RowAt.mono hle7 hK
  have hS := hS.mono hle7
  refine Zerun ?_
  (refine RW.call T hs rfl rfl rfl (containsFunc64_con (fun a => decide (a < 0)) _ l 119 [] _ _ rfl hK (fun a w h' _ => negFunc_con a w h')) ?_; intro v h8 w8 hle8 hp8 hs)
  subst hp8
  have hany : l.any (fun a => decide (a < 0)) = false := by
    rw [List.any_eq_false]
    intro a ha
    have := hl0 a ha
    simpa using this
  rw [hany]
  have hv2' := hv2'.mono (ArrAt.mono 1) hle8
  have hS := hS.mono hle8
  have hs := hs.nilRow 39 9
  refine Zerun ?_
  refine CW.loop (fun r : Nat × Nat × Nat × (Option Addr × Nat) × List Value × GHeap => [(2, .pointer (some ⟨b1, 0, none⟩)), (3, .pointer (some ⟨b2, 0, none⟩)), (4, .pointer (some ⟨b3, 0, none⟩)), (5, .int .i64 0), (6, .slice adl l.length cpl), (8, .slice r.2.2.2.1.1 r.2.1 r.2.2.2.1.2), (9, .int .i64 r.2.2.1), (10, .int .i64 ((r.1 + 1 : Nat) : Int))]) (fun r w' => r.1 ≤ l.length ∧ r.2.1 = (segsTo l r.1).1.length ∧ r.2.2.1 = (segsTo l r.1).2 ∧ GLe h8 r.2.2.2.2.2 ∧ AllN 9 (ArrAt 2 r.2.2.2.2.2) r.2.2.2.2.1 ((segsTo l r.1).1.map fun s => textA 1 (segT C s)) ∧ Sees w h r.2.2.2.2.2 [⟨r.2.2.2.1.1, r.2.1, r.2.2.2.1.2, 39, 9, r.2.2.2.2.1⟩, ⟨some ⟨b3, 0, none⟩, 1, 1, 39, 9, .slice none 0 0 :: vecCells 0 (.slice none 0 0) 0 (.slice none 0 0) (.slice none 0 0) (.slice none 0 0) (.slice none 0 0) (.slice none 0 0)⟩, ⟨some ⟨b2, 0, none⟩, 1, 1, 39, 9, .slice ad2 [(C.length : Int)].length cp2 :: vecCells vC.kind wv2 nv2 sm2 il2 fl2 ch2 bx2⟩, ⟨some ⟨b1, 0, none⟩, 1, 1, 39, 9, .slice ad [(N.length : Int)].length cp :: vecCells vN.kind wv nv sm il fl ch bx⟩] w') (fun r => l.length - r.1) (0, 0, 0, (none, 0), [], h8) ⟨rfl, rfl, rfl, rfl, rfl, rfl, rfl, rfl, trivial⟩ ⟨Nat.zero_le _, rfl, rfl, GLe.refl _, rfl, hs⟩ ?_
  rintro ⟨j, n, fr, ⟨ab, cb⟩, xs, hh⟩ w9 ⟨hj, hn, hfr, hg, hA, hs⟩
  dsimp only at hj hn hfr hg hA hs ⊢
  have hS := hS.mono hg
  have hv2' := hv2'.mono (ArrAt.mono 1) hg
  obtain ⟨hk1, hk2, hk3⟩ := segsTo_ok l j
  have hseg : segsTo l (j + 1) = segStep l (segsTo l j) (j + 1) := rfl
  by_cases hlt : j < l.length
  · have e1 : (((j + 1 : Nat) : Int) - 1).toNat = j := by omega
    have e2 : l.getD (((j + 1 : Nat) : Int) - 1).toNat 0 = l.getD j 0 := by rw [e1]
    by_cases c : j + 1 < l.length ∧ 0 < l.getD (j + 1) 0 ∧ l.getD (j + 1) 0 ≤ l.getD j 0
    · obtain ⟨c1, c2, c3⟩ := c
      have hst : segsTo l (j + 1) = segsTo l j := by
        rw [hseg]; unfold segStep; rw [if_pos ⟨c1, c2, c3⟩]
      refine Zerun ?_
      refine CW.regionQ T hs (Zeqrun ?_) (by kernel_rfl)
      intro w10 hs
      refine Zerun ?_
      refine loopQ_round (j + 1, n, fr, (ab, cb), xs, hh) ⟨rfl, rfl, rfl, rfl, rfl, rfl, rfl, seti (by dsimp only; omega), trivial⟩ ⟨by dsimp only; omega, ?_, ?_, hg, ?_, hs⟩ (by dsimp only; omega)
      · dsimp only; rw [hst]; exact hn
      · dsimp only; rw [hst]; exact hfr
      · dsimp only; rw [hst]; exact hA
    · have hst : segsTo l (j + 1) = (if 0 < l.getD fr 0 then (segsTo l j).1 ++ [(fr, j + 1)] else (segsTo l j).1, j + 1) := by
        rw [hseg]; unfold segStep; rw [← hfr]; exact if_neg c
      refine Zerun ?_
      have hfl0 : fr < l.length := by omega
      refine CW.meet (fun _ : Unit => [(2, .pointer (some ⟨b1, 0, none⟩)), (3, .pointer (some ⟨b2, 0, none⟩)), (4, .pointer (some ⟨b3, 0, none⟩)), (5, .int .i64 0), (6, .slice adl l.length cpl), (8, .slice ab n cb), (9, .int .i64 fr), (10, .int .i64 ((j + 1 : Nat) : Int)), (82, .bool false)]) (fun _ w' => Sees w h hh [⟨ab, n, cb, 39, 9, xs⟩, ⟨some ⟨b3, 0, none⟩, 1, 1, 39, 9, .slice none 0 0 :: vecCells 0 (.slice none 0 0) 0 (.slice none 0 0) (.slice none 0 0) (.slice none 0 0) (.slice none 0 0) (.slice none 0 0)⟩, ⟨some ⟨b2, 0, none⟩, 1, 1, 39, 9, .slice ad2 [(C.length : Int)].length cp2 :: vecCells vC.kind wv2 nv2 sm2 il2 fl2 ch2 bx2⟩, ⟨some ⟨b1, 0, none⟩, 1, 1, 39, 9, .slice ad [(N.length : Int)].length cp :: vecCells vN.kind wv nv sm il fl ch bx⟩] w') ?_ ?_
      · by_cases c1 : j + 1 < l.length
        · by_cases c2 : 0 < l.getD (j + 1) 0
          · have c3 : ¬ l.getD (j + 1) 0 ≤ l.getD j 0 := fun e => c ⟨c1, c2, e⟩
            refine CW.regionQ T hs (Zeqrun ?_) (by kernel_rfl)
            intro w10 hs
            refine joinQ_meet () ⟨rfl, rfl, rfl, rfl, rfl, rfl, rfl, rfl, ?_, trivial⟩ hs
            exact setb (decide_eq_false (by omega))
          · refine CW.regionQ T hs (Zeqrun ?_) (by kernel_rfl)
            intro w10 hs
            refine joinQ_meet () ⟨rfl, rfl, rfl, rfl, rfl, rfl, rfl, rfl, ?_, trivial⟩ hs
            first | rfl | exact setb (decide_eq_false (by omega))
        · refine CW.regionQ T hs (Zeqrun ?_) (by kernel_rfl)
          intro w10 hs
          refine joinQ_meet () ⟨rfl, rfl, rfl, rfl, rfl, rfl, rfl, rfl, ?_, trivial⟩ hs
          first | rfl | exact setb (decide_eq_false (by omega))
      rintro _ w10 hs
      refine Zerun ?_
      by_cases c4 : 0 < l.getD fr 0
      · rw [if_pos c4] at hst
        have hfl : fr < l.length := by omega
        refine Zerun ?_
        (refine RW.call T hs rfl rfl rfl (flatCut_con (ArrAt.mono 1) (ArrAt.one 1) (ArrAt.siz 1) (blankA 0) (fun w h => flatBlank_con (ArrAt.mono 0) (ArrAt.one 0) w h) _ vC (fr : Int) ((j + 1 : Nat) : Int) _ _ hv2' (by omega) hCk) ?_; intro v h20 w20 hle20 hp20 hs)
        obtain ⟨cs20, rfl, hv20⟩ := hp20
        rw [hCl, cutA_of (by omega), cutB_of (by omega) (by omega), ← hvC, pick_text C fr (j + 1) (by omega) (by omega)] at hv20
        refine Zerun ?_
        (refine RW.call T hs rfl rfl rfl (valueList_con (ArrAt.mono 1) _ _ _ _ hv20 (by have := segT_len C (fr, j + 1); show 0 + (segT C (fr, j + 1)).length + 0 ≤ _; omega)) ?_; intro v h21 w21 hle21 hp21 hs)
        obtain ⟨cs21, rfl, ha21⟩ := hp21
        rw [sq_text] at ha21
        have ha21' : ArrAt 2 h21 cs21 (textA 1 (segT C (fr, j + 1))) := by
          obtain ⟨s21, v21, e21, hi21, hv21⟩ := ha21
          refine ⟨s21, v21, e21, ?_, hv21⟩
          have : ((VecD.len (⟨5, [], (C.drop fr).take (j + 1 - fr), []⟩ : VecD (AD 1)) : Nat) : Int) = ((segT C (fr, j + 1)).length : Int) := by
            show ((0 + (segT C (fr, j + 1)).length + 0 : Nat) : Int) = _
            rw [Nat.zero_add, Nat.add_zero]
          rw [this] at hi21
          exact hi21
        have ho21 := ArrAt.one 2 _ _ _ ha21'
        have hl21 := ArrAt.siz 2 _ _ _ ha21'
        (refine RW.lit T hs (vs := [.agg cs21.toArray]) (cs := cs21) rfl rfl rfl rfl (by simp [Value.cells, hl21]) rfl (by simp [Value.cells]) rfl rfl rfl ?_; intro b22 w22 hs)
        (refine RW.append T hs 1 rfl rfl (m := 1) (news := cs21) rfl rfl rfl rfl rfl rfl (hs.src0 (by simpa using hl21) ho21) (by simp) (by dsimp only; omega) (by omega) ?_; intro ad23 cp23 w23 hs; replace hs := hs.drop)
        refine Zerun ?_
        refine loopQ_round (j + 1, n + 1, j + 1, (ad23, cp23), xs ++ cs21, h21) ⟨rfl, rfl, rfl, rfl, rfl, rfl, rfl, seti (by dsimp only; omega), trivial⟩ ⟨by dsimp only; omega, ?_, ?_, (hg.trans hle20).trans hle21, ?_, hs⟩ (by dsimp only; omega)
        · dsimp only; rw [hst, List.length_append, ← hn]; rfl
        · dsimp only; rw [hst]
        · dsimp only; rw [hst, List.map_append]
          exact (hA.mono (fun u a hv => ArrAt.mono 2 _ _ _ _ (hle20.trans hle21) hv)).append (AllN.one hl21 ha21')
      · rw [if_neg c4] at hst
        have hfl : fr < l.length := by omega
        refine Zerun ?_
        refine loopQ_round (j + 1, n, j + 1, (ab, cb), xs, hh) ⟨rfl, rfl, rfl, rfl, rfl, rfl, rfl, seti (by dsimp only; omega), trivial⟩ ⟨by dsimp only; omega, ?_, ?_, hg, ?_, hs⟩ (by dsimp only; omega)
        · dsimp only; rw [hst]; exact hn
        · dsimp only; rw [hst]
        · dsimp only; rw [hst]; exact hA
  obtain rfl : j = l.length := by omega
  obtain ⟨h9, hle9, hs, hS9⟩ := hs.freeze
  have hlen : n = ((segs l).map fun s => textA 1 (segT C s)).length := by rw [List.length_map]; exact hn
  have hRows : RowsAt 9 (ArrAt 2 h9) h9 (.slice ab n cb) ((segs l).map fun s => textA 1 (segT C s)) := ⟨ab, cb, xs, by rw [hlen], by rw [hlen] at hS9; exact hS9, hA.mono (fun u a hv => ArrAt.mono 2 _ _ _ _ hle9 hv)⟩
  refine Zerun ?_
  (refine RW.call T hs rfl rfl rfl (vecBoxes_con (ArrAt.mono 2) (ArrAt.one 2) _ _ _ _ hRows (by rw [← hlen]; omega)) ?_; intro v h10 w10 hle10 hp10 hs)
  obtain ⟨cs10, rfl, hv10⟩ := hp10
  refine Zerun ?_
  (refine RW.call T hs rfl rfl rfl (valueList_con (ArrAt.mono 2) _ _ _ _ hv10 (by show 0 + 0 + ((segs l).map fun s => textA 1 (segT C s)).length ≤ _; rw [← hlen]; omega)) ?_; intro v h11 w11 hle11 hp11 hs)
  obtain ⟨cs11, rfl, ha11⟩ := hp11
  rw [sq_boxes] at ha11
  have ha11' : ArrAt 3 h11 cs11 (partsA l C) := by
    obtain ⟨s11, v11, e11, hi11, hv11⟩ := ha11
    refine ⟨s11, v11, e11, ?_, hv11⟩
    have : ((VecD.len (⟨6, [], [], (segs l).map fun s => textA 1 (segT C s)⟩ : VecD (AD 2)) : Nat) : Int) = ((segs l).length : Int) := by
      show ((0 + 0 + ((segs l).map fun s => textA 1 (segT C s)).length : Nat) : Int) = _
      simp only [List.length_map, Nat.zero_add]
    rw [this] at hi11
    exact hi11
  refine Zerun ?_
  (refine RW.call T hs rfl rfl rfl (deep_con 2 _ _ _ _ ha11' (partsA_good l C (by omega) (by omega))) ?_; intro v h12 w12 hle12 hp12 hs)
  obtain ⟨cs12, rfl, ha12⟩ := hp12
  have ha12' := ha12
  obtain ⟨s12, vc12, rfl, ⟨ad12, cap12, rfl, _⟩, hv12⟩ := ha12
  obtain ⟨wv3, nv3, sm3, il3, fl3, ch3, bx3, ⟨rfl, hoc3⟩, _⟩ := hv12
  refine Zerun ?_
  refine RW.storeAll T hs 0 rfl rfl rfl rfl rfl rfl (show (Value.oneCell' (.slice ad12 _ cap12) && (vecCells (ArrD.vec (α := AD 2) (partsA l C)).kind wv3 nv3 sm3 il3 fl3 ch3 bx3).all Value.oneCell') = true by rw [hoc3]; rfl) rfl ?_
  intro w13 hs
  refine Zerun ?_
  exact retQ_ret [_, _] h12 ⟨resN T hs 0 rfl rfl rfl rfl rfl rfl, rfl, trivial⟩ hs.dropAll ⟨_, rfl, ha12'⟩
end Go.Proofs.YtmojpbfkpggjhaaGreat

/-
  Contracts of functions of package shape and of its reference, third part: places and indexes. No statement is proved here.
-/
namespace Go.Proofs.YtmojpbfkpggjhaaGreat
open Go Go.RowKit
set_option linter.unusedVariables false
set_option linter.unusedSimpArgs false
set_option maxHeartbeats 4000000
attribute [local irreducible] CW RW QW SW HW ConM retM heldQ calmQ elemP thenQ blockQ loopQ joinQ retQ Yields Con Sl

end Go.Proofs.YtmojpbfkpggjhaaGreat

/-
  Contracts of functions of package shape and of its reference, fourth part: new shapes. No statement is proved here.
-/
namespace Go.Proofs.YtmojpbfkpggjhaaGreat
open Go Go.RowKit
set_option linter.unusedVariables false
set_option linter.unusedSimpArgs false
set_option maxHeartbeats 4000000
attribute [local irreducible] CW RW QW SW HW ConM retM heldQ calmQ elemP thenQ blockQ loopQ joinQ retQ Yields Con Sl

/-- a clone of a slice of int: the caller's own -/
theorem cloneInt_conM (ad : Option Addr) (cp : Nat) (l : List Int) (w0 w : World) (h0 h : GHeap) (O : List Row) (hS : Sl h 1 ad l.length cp (l.map (Value.int .i64))) (hm : l.length ≤ 17592186044416) :
    ConM Tryz.prog 64 [.slice ad l.length cp] w0 h0 h O w (fun h' O' v => h' = h ∧ ∃ ad' cp', v = .slice ad' l.length cp' ∧ O' = ⟨ad', l.length, cp', 3, 1, l.map (Value.int .i64)⟩ :: O) := by
  refine ConM.of_body Tryz.func64 rfl Tryz.ntmps64 rfl rfl ?_
  intro hs
  refine Zrun ?_
  refine RW.val (Y.sliceNil T rfl rfl rfl) rfl ?_
  refine Zrun ?_
  cases ad with
  | none =>
    have h4 : l = [] := List.eq_nil_of_length_eq_zero hS.nil0.1
    subst h4
    refine Zrun ?_
    exact retM_ret [_] h _ ⟨rfl, trivial⟩ (GLe.refl _) (hs.nilRow 3 1) ⟨rfl, none, 0, rfl, rfl⟩
  | some p =>
    refine Zrun ?_
    (refine RW.lit T hs (vs := []) rfl rfl rfl rfl (by simp [Value.cells]) rfl rfl rfl rfl rfl ?_; intro b1 w1 hs)
    refine Zrun ?_
    refine RW.append T hs 0 rfl rfl (m := l.length) (news := l.map (Value.int .i64)) rfl rfl rfl rfl rfl rfl (hS.src hs.agree (one_ints _ _)) (by simp) (by dsimp only; omega) (by omega) ?_
    intro ad' cp' w2 hs
    refine Zrun ?_
    exact retM_ret [_] h _ ⟨rfl, trivial⟩ (GLe.refl _) hs ⟨rfl, ad', cp', by rw [Nat.zero_add]; rfl, by simp⟩

theorem equalInt_con (s t : Value) (l m : List Int) (w : World) (h : GHeap) (hl : IntsAt h s l) (ht : IntsAt h t m) (hm : l.length ≤ 9223372036854775807) : Con Tryz.prog 123 [s, t] w h (fun _ v => v = .bool (decide (l = m))) := by
  obtain ⟨ad, cp, rfl, hS⟩ := hl
  obtain ⟨ad2, cp2, rfl, hS2⟩ := ht
  refine Con.of_body Tryz.func123 rfl Tryz.ntmps123 rfl rfl ?_
  intro hs
  refine Zrun ?_
  refine CW.condD rfl (fun h8 => ?_) (fun h8 => ?_)
  · refine Zrun ?_
    refine retQ_ret [_] h ⟨rfl, trivial⟩ hs ?_
    have : l ≠ m := fun e => h8 (by rw [e])
    simp [packv, this]
  have hlen : l.length = m.length := by omega
  refine Zrun ?_
  refine CW.loop (fun k : Nat => [(0, .slice ad l.length cp), (1, .slice ad2 m.length cp2), (12, .int .i64 l.length), (13, .int .i64 k)]) (fun k w' => k ≤ l.length ∧ (∀ j, j < k → l.getD j 0 = m.getD j 0) ∧ Sees w h h [] w') (fun k => l.length - k) 0 ⟨rfl, rfl, rfl, rfl, trivial⟩ ⟨by omega, by omega, hs⟩ ?_
  rintro k w' ⟨hk, hno, hs⟩
  by_cases hlt : k < l.length
  · refine Zrun ?_
    refine CW.regionQ T hs (Zqrun ?_) (by kernel_rfl)
    intro w' hs
    refine Zrun ?_
    refine CW.condD rfl (fun h2 => ?_) (fun h2 => ?_)
    · refine Zrun ?_
      refine retQ_ret [_] h ⟨rfl, trivial⟩ hs ?_
      have : l ≠ m := fun e => h2 (by rw [e])
      simp [packv, this]
    · refine Zrun ?_
      refine loopQ_round (k + 1) ⟨rfl, rfl, rfl, rfl, trivial⟩ ⟨by omega, ?_, hs⟩ (by omega)
      intro j hj
      by_cases e : j = k
      · subst e; exact Decidable.of_not_not h2
      · exact hno j (by omega)
  obtain rfl : k = l.length := by omega
  refine Zrun ?_
  refine retQ_ret [_] h ⟨rfl, trivial⟩ hs ?_
  have : l = m := by
    apply List.ext_getElem hlen
    intro j h1 h2
    have := hno j h1
    simpa [List.getD_eq_getElem?_getD, h1, h2] using this
  simp [packv, this]

theorem same_con (s t : Value) (l m : List Int) (w : World) (h : GHeap) (hl : IntsAt h s l) (ht : IntsAt h t m) (hm : l.length ≤ 9223372036854775807) : Con Tryz.prog 66 [s, t] w h (fun _ v => v = .bool (decide (l = m))) := by
  refine Con.of_body Tryz.func66 rfl Tryz.ntmps66 rfl rfl ?_
  intro hs
  refine Zrun ?_
  (refine RW.call T hs rfl rfl rfl (equalInt_con s t l m _ _ hl ht hm) ?_; intro v h1 w1 hle1 hp1 hs)
  subst hp1
  refine Zrun ?_
  exact retQ_ret [_] h1 ⟨rfl, trivial⟩ hs rfl

end Go.Proofs.YtmojpbfkpggjhaaGreat

/-
  Contracts of functions of package value: whether arrays, and elements, are alike. No statement is proved here.
-/
namespace Go.Proofs.YtmojpbfkpggjhaaGreat
open Go Go.RowKit
set_option linter.unusedVariables false
set_option linter.unusedSimpArgs false
set_option maxHeartbeats 4000000
attribute [local irreducible] CW RW QW SW HW ConM retM heldQ calmQ elemP thenQ blockQ loopQ joinQ retQ Yields Con Sl zF magR unitF truncF fwF wholeF tidySpec elemQ rankF leastN tidyW

section
variable {α β : Type} {R : GHeap → List Value → α → Prop}
end
end Go.Proofs.YtmojpbfkpggjhaaGreat

/-
  Contracts of the law's own functions of layer 28: the example, which arrays are alike, as a number. No statement is proved here.
-/
namespace Go.Proofs.YtmojpbfkpggjhaaGreat
open Go Go.RowKit
set_option linter.unusedVariables false
set_option linter.unusedSimpArgs false
set_option maxHeartbeats 4000000
attribute [local irreducible] CW RW QW SW HW ConM retM heldQ calmQ elemP thenQ blockQ loopQ joinQ retQ Yields Con Sl zF magR unitF truncF fwF wholeF tidySpec elemQ rankF leastN tidyW
set_option maxHeartbeats 4000000

theorem textP_chk (k : Nat) (C : List Int) (hm : C.length ≤ 1048576) : chk (k + 1) 40 (textP C : PlainD (PD k)) = 0 := by
  refine (chkP_ok (α := PD k) _ _ _).2 ⟨by omega, (by show (0 : Int) ≤ 1; omega), (by show (1 : Int) ≤ 2; omega), ?_, fun x hx => ?_⟩
  · show product [(C.length : Int)] 1048576 = (((C.map fun x => (⟨1, 0, x, []⟩ : ItemD (PD k))).length : Int), 0)
    rw [product_len1 _ hm, List.length_map]
  · obtain ⟨y, hy, rfl⟩ := List.mem_map.1 hx
    exact ⟨rfl, fun e => absurd (show (1 : Int) = 2 from e) (by decide), fun e => absurd (show (1 : Int) = 0 from e) (by decide)⟩
theorem textP_arr (k : Nat) (C : List Int) : arr (k + 1) (textP C : PlainD (PD k)) = textA k C := by
  show (⟨[(C.length : Int)], arrV (arr k) 1 (C.map fun x => (⟨1, 0, x, []⟩ : ItemD (PD k)))⟩ : ArrD (AD k)) = _
  unfold arrV textA
  rw [if_pos rfl, List.map_map]
  have e : C.map ((fun x : ItemD (PD k) => x.char) ∘ fun x => ⟨1, 0, x, []⟩) = C := by
    conv => rhs; rw [← List.map_id C]
    rfl
  rw [e]
theorem textP_tdy (k : Nat) (C : List Int) : tdy (k + 1) (textP C : PlainD (PD k)) := by
  intro x hx
  obtain ⟨y, hy, rfl⟩ := List.mem_map.1 hx
  exact ⟨tidy0, fun b hb => nomatch hb⟩
def l4 : List Int := [1, 1, 2, 0]
theorem l4_fw : l4.map fwF = [4607182418800017408, 4607182418800017408, 4611686018427387904, 0] := by
  show [fwF 1, fwF 1, fwF 2, fwF 0] = _
  rw [fw0, fw1, fw2]
theorem l4_in : ∀ n ∈ l4, -9007199254740992 ≤ n ∧ n ≤ 9007199254740992 := by
  intro n hn
  simp only [l4, List.mem_cons, List.not_mem_nil, or_false] at hn
  omega
def abcd : List Int := [97, 98, 99, 100]
theorem l4_segs : segs l4 = [(0, 2), (2, 3)] := by decide
def want28 : PD 3 := (⟨[2], [⟨2, 0, 0, [(textP [97, 98] : PlainD (PD 1))]⟩, ⟨2, 0, 0, [(textP [99] : PlainD (PD 1))]⟩], 2⟩ : PlainD (PD 2))
theorem want28_plain : plain 3 (partsA l4 abcd) = want28 := by
  unfold partsA
  rw [l4_segs]
  rfl
theorem want28_tdy : tdy 3 want28 := by
  intro x hx
  have hx : x ∈ ([⟨2, 0, 0, [(textP [97, 98] : PlainD (PD 1))]⟩, ⟨2, 0, 0, [(textP [99] : PlainD (PD 1))]⟩] : List (ItemD (PD 2))) := hx
  simp only [List.mem_cons, List.not_mem_nil, or_false] at hx
  rcases hx with rfl | rfl
  · exact ⟨tidy0, fun b hb => by rw [List.mem_singleton.1 hb]; exact textP_tdy 1 _⟩
  · exact ⟨tidy0, fun b hb => by rw [List.mem_singleton.1 hb]; exact textP_tdy 1 _⟩
theorem awake28_con (w : World) (h : GHeap) : Con Tryz.prog 22 [] w h (fun _ u => u = .bool true) := by
  refine Con.of_body Tryz.func22 rfl Tryz.ntmps22 rfl rfl ?_
  intro hs
  refine Zrun ?_
  (refine RW.lit T hs (vs := [.float .f64 4607182418800017408, .float .f64 4607182418800017408, .float .f64 4611686018427387904, .float .f64 0]) rfl rfl rfl rfl (by simp [Value.cells]) rfl rfl rfl rfl rfl ?_; intro b1 w1 hs)
  obtain ⟨h1, hle1, hs, hS1⟩ := hs.freeze
  have hF1 : FAt h1 (.slice (some ⟨b1, 0, none⟩) 4 4) (l4.map fwF) := by rw [l4_fw]; exact RowAt.of_sl hS1
  have hfin : ∀ x ∈ l4.map fwF, tidyF x := fun x hx => by
    obtain ⟨n, hn, rfl⟩ := List.mem_map.1 hx
    exact (fwF_spec n (l4_in n hn)).1
  (refine RW.call T hs rfl rfl rfl (refNums_con (R := PlainAt 1) (PlainAt.mono 1) _ _ _ _ hF1 (fun x hx => (hfin x hx).1) (by decide)) ?_; intro v h2 w2 hle2 hp2 hs)
  obtain ⟨cs2, rfl, hq2⟩ := hp2
  (refine RW.call T hs rfl rfl rfl (of07_con 2 _ (numsP (l4.map fwF) : PlainD (PD 1)) _ _ hq2 (numsP_chk 1 _ (fun x hx => (hfin x hx).2.1) (by decide))) ?_; intro v h3 w3 hle3 hp3 hs)
  obtain ⟨cs3, rfl, _, _, ha3⟩ := hp3
  rw [numsP_arr, fw_tidyW l4 l4_in] at ha3
  (refine RW.lit T hs (vs := [.int .i32 97, .int .i32 98, .int .i32 99, .int .i32 100]) rfl rfl rfl rfl (by simp [Value.cells]) rfl rfl rfl rfl rfl ?_; intro b4 w4 hs)
  obtain ⟨h4, hle4, hs, hS4⟩ := hs.freeze
  have hK4 : KAt .i32 h4 (.slice (some ⟨b4, 0, none⟩) 4 4) abcd := RowAt.of_sl hS4
  (refine RW.call T hs rfl rfl rfl (refText_con (R := PlainAt 1) (PlainAt.mono 1) _ _ _ _ hK4 (by decide)) ?_; intro v h5 w5 hle5 hp5 hs)
  obtain ⟨cs5, rfl, hq5⟩ := hp5
  (refine RW.call T hs rfl rfl rfl (of07_con 2 _ (textP abcd : PlainD (PD 1)) _ _ hq5 (textP_chk 1 _ (by decide))) ?_; intro v h6 w6 hle6 hp6 hs)
  obtain ⟨cs6, rfl, _, _, ha6⟩ := hp6
  rw [textP_arr] at ha6
  have ha3 := ArrAt.mono 2 _ _ _ _ ((hle4.trans hle5).trans hle6) ha3
  (refine RW.call T hs rfl rfl rfl (partition_con _ _ (l4.map fwF) abcd _ _ ha3 ha6 (fw_rank l4 l4_in) (fun x hx => by obtain ⟨n, hn, rfl⟩ := List.mem_map.1 hx; rw [wholeF_fw n (l4_in n hn)]; simp only [l4, List.mem_cons, List.not_mem_nil, or_false] at hn; dsimp only; omega) (by decide) (by decide)) ?_; intro v h7 w7 hle7 hp7 hs)
  obtain ⟨cs7, rfl, ha7⟩ := hp7
  rw [fw_wholes l4 l4_in] at ha7
  have ha7' := ha7
  obtain ⟨s7, vc7, rfl, ⟨ad7, cap7, rfl, _⟩, hv7⟩ := ha7
  obtain ⟨wv3, nv3, sm3, il3, fl3, ch3, bx3, ⟨rfl, hoc3⟩, _⟩ := hv7
  refine Zerun ?_
  (refine RW.allocN T hs rfl rfl rfl rfl ?_; intro b8 w8 hs)
  refine RW.storeAll T hs 0 rfl rfl rfl rfl rfl rfl (show (Value.oneCell' (.slice ad7 _ cap7) && (vecCells (ArrD.vec (α := AD 2) (partsA l4 abcd)).kind wv3 nv3 sm3 il3 fl3 ch3 bx3).all Value.oneCell') = true by rw [hoc3]; rfl) rfl ?_
  intro w9 hs
  refine Zerun ?_
  (refine RW.lit T hs (vs := [.int .i64 2]) rfl rfl rfl rfl (by simp [Value.cells]) rfl rfl rfl rfl rfl ?_; intro b10 w10 hs)
  obtain ⟨h10, hle10, hs, hS10⟩ := hs.freeze
  have hI10 : IntsAt h10 (.slice (some ⟨b10, 0, none⟩) 1 1) [2] := IntsAt.of_sl hS10
  (refine RW.lit T hs (vs := [.int .i32 97, .int .i32 98]) rfl rfl rfl rfl (by simp [Value.cells]) rfl rfl rfl rfl rfl ?_; intro b11 w11 hs)
  obtain ⟨h11, hle11, hs, hS11⟩ := hs.freeze
  have hK11 : KAt .i32 h11 (.slice (some ⟨b11, 0, none⟩) 2 2) [97, 98] := RowAt.of_sl hS11
  (refine RW.call T hs rfl rfl rfl (refText_con (R := PlainAt 1) (PlainAt.mono 1) _ _ _ _ hK11 (by decide)) ?_; intro v h12 w12 hle12 hp12 hs)
  obtain ⟨cs12, rfl, hq12⟩ := hp12
  have hl12 := PlainAt.siz 2 _ _ _ hq12
  have ho12 := PlainAt.one 2 _ _ _ hq12
  (refine RW.lit T hs (vs := [.agg cs12.toArray]) (cs := cs12) rfl rfl rfl rfl (by simp [Value.cells, hl12]) rfl (by simp [Value.cells]) rfl rfl rfl ?_; intro b13 w13 hs)
  obtain ⟨h13, hle13, hs, hS13⟩ := hs.freeze
  have hB13 : RowsAt 3 (PlainAt 2 h13) h13 (.slice (some ⟨b13, 0, none⟩) 1 1) [(textP [97, 98] : PlainD (PD 1))] := RowsAt.single hS13 (PlainAt.mono 2 _ _ _ _ hle13 hq12)
  refine Zerun ?_
  refine RW.val (Y.build T rfl rfl rfl rfl rfl rfl rfl) rfl ?_
  refine Zerun ?_
  (refine RW.lit T hs (vs := [.int .i32 99]) rfl rfl rfl rfl (by simp [Value.cells]) rfl rfl rfl rfl rfl ?_; intro b14 w14 hs)
  obtain ⟨h14, hle14, hs, hS14⟩ := hs.freeze
  have hK14 : KAt .i32 h14 (.slice (some ⟨b14, 0, none⟩) 1 1) [99] := RowAt.of_sl hS14
  (refine RW.call T hs rfl rfl rfl (refText_con (R := PlainAt 1) (PlainAt.mono 1) _ _ _ _ hK14 (by decide)) ?_; intro v h15 w15 hle15 hp15 hs)
  obtain ⟨cs15, rfl, hq15⟩ := hp15
  have hl15 := PlainAt.siz 2 _ _ _ hq15
  (refine RW.lit T hs (vs := [.agg cs15.toArray]) (cs := cs15) rfl rfl rfl rfl (by simp [Value.cells, hl15]) rfl (by simp [Value.cells]) rfl rfl rfl ?_; intro b16 w16 hs)
  obtain ⟨h16, hle16, hs, hS16⟩ := hs.freeze
  have hB16 : RowsAt 3 (PlainAt 2 h16) h16 (.slice (some ⟨b16, 0, none⟩) 1 1) [(textP [99] : PlainD (PD 1))] := RowsAt.single hS16 (PlainAt.mono 2 _ _ _ _ hle16 hq15)
  have hB13 := hB13.mono ((hle14.trans hle15).trans hle16) (fun u a => PlainAt.mono 2 _ _ u a ((hle14.trans hle15).trans hle16))
  refine Zerun ?_
  refine RW.val (Y.build T rfl rfl rfl rfl rfl rfl rfl) rfl ?_
  refine Zerun ?_
  (refine RW.lit T hs (vs := [.agg [.int .i64 2, .float .f64 0, .int .i32 0, .slice (some ⟨b13, 0, none⟩) 1 1].toArray, .agg [.int .i64 2, .float .f64 0, .int .i32 0, .slice (some ⟨b16, 0, none⟩) 1 1].toArray]) (cs := [.int .i64 2, .float .f64 0, .int .i32 0, .slice (some ⟨b13, 0, none⟩) 1 1] ++ [.int .i64 2, .float .f64 0, .int .i32 0, .slice (some ⟨b16, 0, none⟩) 1 1]) rfl rfl rfl rfl (by simp [Value.cells]) rfl rfl rfl rfl rfl ?_; intro b17 w17 hs)
  obtain ⟨h17, hle17, hs, hS17⟩ := hs.freeze
  have hB13 := hB13.mono hle17 (fun u a => PlainAt.mono 2 _ _ u a hle17)
  have hB16 := hB16.mono hle17 (fun u a => PlainAt.mono 2 _ _ u a hle17)
  have hr17 : RowsAt 4 (ItemAt (PlainAt 2) h17) h17 (.slice (some ⟨b17, 0, none⟩) 2 2) (PlainD.items (α := PD 2) want28) := by
    refine ⟨_, _, _, rfl, hS17, ?_⟩
    exact ⟨rfl, ⟨_, rfl, hB13, (by decide)⟩, rfl, ⟨_, rfl, hB16, (by decide)⟩, rfl⟩
  have hq17 : PlainAt 3 h17 [.slice (some ⟨b10, 0, none⟩) 1 1, .slice (some ⟨b17, 0, none⟩) 2 2, .int .i64 2] want28 := ⟨_, _, rfl, hI10.mono ((((((hle11.trans hle12).trans hle13).trans hle14).trans hle15).trans hle16).trans hle17), hr17⟩
  have ha7' := ArrAt.mono 3 _ _ _ _ (((((((hle10.trans hle11).trans hle12).trans hle13).trans hle14).trans hle15).trans hle16).trans hle17) ha7'
  refine Zerun ?_
  refine RW.val (Y.build T rfl rfl rfl rfl rfl rfl rfl) rfl ?_
  refine Zerun ?_
  (refine RW.allocN T hs rfl rfl rfl rfl ?_; intro b18 w18 hs)
  (refine RW.storeAll T hs 0 rfl rfl rfl rfl rfl rfl rfl rfl ?_; intro w19 hs)
  refine Zerun ?_
  (refine RW.call T hs rfl rfl rfl (shows28_con 2 _ _ (partsA l4 abcd) want28 _ _ ha7' hq17 (partsA_good l4 abcd (by decide) (by decide)) want28_plain want28_tdy) ?_; intro v h20 w20 hle20 hp20 hs)
  subst hp20
  refine Zerun ?_
  exact retQ_ret [_] h20 ⟨rfl, trivial⟩ hs.dropAll rfl

end Go.Proofs.YtmojpbfkpggjhaaGreat

/-
  Plain facts on shapes: places and indexes, all of them in order. No program is in sight, and no statement is proved here.
-/
namespace Go.Proofs.YtmojpbfkpggjhaaGreat

theorem emod_split (a p d : Int) (hp : 0 < p) (hd : 0 < d) : a % (d * p) = ((a / p) % d) * p + a % p := by
  have h1 : p * (a / p) + a % p = a := Int.mul_ediv_add_emod a p
  have h2 : d * ((a / p) / d) + (a / p) % d = a / p := Int.mul_ediv_add_emod (a / p) d
  have b1 := Int.emod_nonneg a (show p ≠ 0 by omega)
  have b2 := Int.emod_lt_of_pos a hp
  have b3 := Int.emod_nonneg (a / p) (show d ≠ 0 by omega)
  have b4 := Int.emod_lt_of_pos (a / p) hd
  generalize a % p = s at *
  generalize (a / p) % d = r at *
  generalize (a / p) / d = q at *
  have e : a = (r * p + s) + (d * p) * q := by
    rw [← h1, ← h2, Int.mul_add, Int.mul_comm p r, Int.mul_comm d p, Int.mul_assoc]; omega
  have c1 : 0 ≤ r * p := Int.mul_nonneg b3 (by omega)
  have c2 : (r + 1) * p ≤ d * p := Int.mul_le_mul_of_nonneg_right (by omega) (by omega)
  rw [Int.add_mul] at c2
  rw [e, Int.add_mul_emod_self_left, Int.emod_eq_of_lt (by omega) (by omega)]
theorem off_idxOf : ∀ (s : List Int) (a : Int), (∀ d ∈ s, 1 ≤ d) → off s (idxOf s a) = a % prn s
  | [], a, _ => by simp [off, prn, Int.emod_one]
  | d :: s, a, h => by
    have hs : ∀ x ∈ s, 1 ≤ x := fun x hx => h x (List.mem_cons_of_mem _ hx)
    have hd := h d List.mem_cons_self
    have hp := prn_pos s hs
    simp only [idxOf, off, prn, off_idxOf s a hs]
    rw [emod_split a (prn s) d (by omega) (by omega)]
theorem inR_idxOf : ∀ (s : List Int) (a : Int), (∀ d ∈ s, 1 ≤ d) → inR s (idxOf s a) = true
  | [], a, _ => rfl
  | d :: s, a, h => by
    have hd := h d List.mem_cons_self
    simp only [idxOf, inR, Bool.and_eq_true, decide_eq_true_eq]
    exact ⟨⟨Int.emod_nonneg _ (by omega), Int.emod_lt_of_pos _ (by omega)⟩, inR_idxOf s a (fun x hx => h x (List.mem_cons_of_mem _ hx))⟩
/-! ## All indexes, in order -/
def allRow (d : Int) (x : List Int) : List (List Int) := (List.range d.toNat).map fun (j : Nat) => x ++ [(j : Int)]
def allStep (most : Nat) (ls : List (List Int)) (d : Int) : List (List Int) := (ls.flatMap (allRow d)).take most
theorem all_nil (most : Nat) : ∀ s : List Int, s.foldl (allStep most) [] = []
  | [] => rfl
  | d :: s => by simpa [allStep] using all_nil most s
theorem product_fits (s : List Int) (most n : Int) (h : product s most = (n, 0)) : goodS s = true ∧ product s 1048576 = (n, 0) ∧ 0 ≤ n ∧ n ≤ most ∧ n = (if 0 ∈ s then 0 else pr s) := by
  unfold product at h
  by_cases h8 : 8 < s.length
  · rw [if_pos h8] at h; simp at h
  rw [if_neg h8] at h
  by_cases hn : ∃ d ∈ s, d < 0
  · rw [if_pos hn] at h; simp at h
  rw [if_neg hn] at h
  by_cases hp : 1048576 < pr s
  · rw [if_pos hp] at h; simp at h
  rw [if_neg hp] at h
  by_cases hm : most < (if 0 ∈ s then 0 else pr s)
  · rw [if_pos hm] at h; simp at h
  rw [if_neg hm] at h
  simp only [Prod.mk.injEq, and_true] at h
  have h0 : ∀ d ∈ s, 0 ≤ d := fun d hd => by
    rcases Int.lt_or_le d 0 with h | h
    · exact absurd ⟨d, hd, h⟩ hn
    · exact h
  have hg : goodS s = true := (goodS_spec s).2 ⟨by omega, h0, by omega⟩
  have hpos := pr_pos s
  refine ⟨hg, by rw [product_good s hg, h], ?_, by omega, h.symm⟩
  rw [← h]; split <;> omega
end Go.Proofs.YtmojpbfkpggjhaaGreat

/-
  Plain Lean on elements along an axis: places turned, and turned back. No statement is proved here.
-/
namespace Go.Proofs.YtmojpbfkpggjhaaGreat
open Go Go.RowKit
set_option linter.unusedVariables false
set_option linter.unusedSimpArgs false

end Go.Proofs.YtmojpbfkpggjhaaGreat

/-
  Plain laws of arrays turned backwards: where each element lies. No statement is proved here.
-/
namespace Go.Proofs.YtmojpbfkpggjhaaGreat
open Go Go.RowKit
set_option linter.unusedVariables false
set_option linter.unusedSimpArgs false

end Go.Proofs.YtmojpbfkpggjhaaGreat

/-
  Plain laws of arrays with their axes in the other order. No statement is proved here.
-/
namespace Go.Proofs.YtmojpbfkpggjhaaGreat
open Go Go.RowKit
set_option linter.unusedVariables false
set_option linter.unusedSimpArgs false

/-! ## sums of products -/
/-! ## counting on -/
end Go.Proofs.YtmojpbfkpggjhaaGreat

/-
  Plain laws of two lists of elements put behind each other along an axis. No statement is proved here.
-/
namespace Go.Proofs.YtmojpbfkpggjhaaGreat
open Go Go.RowKit
set_option linter.unusedVariables false
set_option linter.unusedSimpArgs false

theorem idxOf_app : ∀ (P T : List Int) (a : Int), (∀ d ∈ T, 1 ≤ d) → idxOf (P ++ T) a = idxOf P (a / prn T) ++ idxOf T a
  | [], _, _, _ => rfl
  | d :: P, T, a, h => by
    have hp := prn_pos T h
    show (a / prn (P ++ T)) % d :: idxOf (P ++ T) a = (a / prn T / prn P) % d :: idxOf P (a / prn T) ++ idxOf T a
    rw [idxOf_app P T a h, prn_append, Int.mul_comm (prn P) (prn T), Int.ediv_ediv_of_nonneg (by omega)]
    rfl
theorem off_app : ∀ (P T u v : List Int), u.length = P.length → off (P ++ T) (u ++ v) = off P u * prn T + off T v
  | [], T, [], v, _ => by simp [off]
  | [], _, _ :: _, _, h => by simp at h
  | _ :: _, _, [], _, h => by simp at h
  | d :: P, T, i :: u, v, h => by
    rw [List.cons_append, List.cons_append]
    simp only [off]
    rw [off_app P T u v (by simpa using h), prn_append, Int.add_mul, Int.mul_assoc, Int.add_assoc]
theorem inR_app : ∀ (P T u v : List Int), u.length = P.length → inR (P ++ T) (u ++ v) = (inR P u && inR T v)
  | [], T, [], v, _ => by simp [inR]
  | [], _, _ :: _, _, h => by simp at h
  | _ :: _, _, [], _, h => by simp at h
  | d :: P, T, i :: u, v, h => by
    rw [List.cons_append, List.cons_append]
    simp only [inR]
    rw [inR_app P T u v (by simpa using h), Bool.and_assoc]
/-- two shapes that are alike but for one axis -/
structure CatS (P S : List Int) (da db outer inner : Nat) : Prop where
  hP : ∀ d ∈ P, 1 ≤ d
  hS : ∀ d ∈ S, 1 ≤ d
  po : prn P = outer
  ps : prn S = inner
  h0 : 0 < da + db
  gx : goodS (P ++ (da : Int) :: S) = true
  gy : goodS (P ++ (db : Int) :: S) = true
theorem CatS.pos {P S : List Int} {da db outer inner : Nat} (H : CatS P S da db outer inner) : 0 < inner ∧ 0 < outer := by
  have h1 := prn_pos S H.hS
  have h2 := prn_pos P H.hP
  rw [H.ps] at h1
  rw [H.po] at h2
  omega
theorem CatS.split {P S : List Int} {da db outer inner : Nat} (H : CatS P S da db outer inner) (i : Nat) :
    idxOf (P ++ ((da + db : Nat) : Int) :: S) i = idxOf P ((i / ((da + db) * inner) : Nat) : Int) ++ ((i / inner % (da + db) : Nat) : Int) :: idxOf S i ∧ i % ((da + db) * inner) = i / inner % (da + db) * inner + i % inner := by
  have hT : ∀ d ∈ (((da + db : Nat) : Int) :: S), 1 ≤ d := by
    intro d hd
    rcases List.mem_cons.1 hd with rfl | hd
    · have := H.h0; omega
    · exact H.hS d hd
  constructor
  · rw [idxOf_app _ _ _ hT]
    have hq : (i : Int) / prn (((da + db : Nat) : Int) :: S) = ((i / ((da + db) * inner) : Nat) : Int) := by
      show (i : Int) / (((da + db : Nat) : Int) * prn S) = _
      rw [H.ps, ← Int.natCast_mul]
      rfl
    rw [hq]
    show _ ++ ((i : Int) / prn S) % ((da + db : Nat) : Int) :: idxOf S i = _
    rw [H.ps]
    rfl
  · have := emod_split (i : Int) (inner : Int) ((da + db : Nat) : Int) (by have := H.pos; omega) (by have := H.h0; omega)
    rw [← Int.natCast_mul] at this
    have e : ((i % ((da + db) * inner) : Nat) : Int) = ((i / inner % (da + db) * inner + i % inner : Nat) : Int) := by
      rw [Int.natCast_add, Int.natCast_mul]
      exact this
    omega
theorem CatS.offs {P S : List Int} {da db outer inner : Nat} (H : CatS P S da db outer inner) (i : Nat) (hi : i < outer * ((da + db) * inner)) (d j : Nat) : inR (P ++ (d : Int) :: S) (idxOf P ((i / ((da + db) * inner) : Nat) : Int) ++ (j : Int) :: idxOf S i) = decide (j < d) ∧
    off (P ++ (d : Int) :: S) (idxOf P ((i / ((da + db) * inner) : Nat) : Int) ++ (j : Int) :: idxOf S i) = ((i / ((da + db) * inner) * (d * inner) + (j * inner + i % inner) : Nat) : Int) := by
  have hl := length_idxOf P ((i / ((da + db) * inner) : Nat) : Int)
  have hq : i / ((da + db) * inner) < outer := by
    refine Nat.div_lt_of_lt_mul ?_
    rw [Nat.mul_comm]; exact hi
  generalize i / ((da + db) * inner) = q at *
  constructor
  · rw [inR_app _ _ _ _ hl, inR_idxOf P _ H.hP, Bool.true_and]
    simp only [inR]
    rw [inR_idxOf S _ H.hS, Bool.and_true]
    by_cases c : j < d
    · rw [decide_eq_true c, decide_eq_true (by omega)]
    · rw [decide_eq_false c, decide_eq_false (by omega)]
  · rw [off_app _ _ _ _ hl, off_idxOf P _ H.hP, H.po]
    have e1 : off ((d : Int) :: S) ((j : Int) :: idxOf S i) = (j : Int) * inner + ((i % inner : Nat) : Int) := by
      show (j : Int) * prn S + off S (idxOf S i) = _
      rw [off_idxOf S _ H.hS, H.ps]
      rfl
    have e2 : prn ((d : Int) :: S) = ((d * inner : Nat) : Int) := by
      show (d : Int) * prn S = _
      rw [H.ps, Int.natCast_mul]
    rw [e1, e2, Int.emod_eq_of_lt (by omega) (by omega)]
    simp only [Int.natCast_add, Int.natCast_mul]
/-- the place of an element of the join in the first list, or in the second one -/
def catJ (a b i : Nat) : Nat := if i % (a + b) < a then i / (a + b) * a + i % (a + b) else i / (a + b) * b + (i % (a + b) - a)
theorem CatS.at_ {P S : List Int} {da db outer inner : Nat} (H : CatS P S da db outer inner) (i : Nat) (hi : i < outer * (da * inner + db * inner)) :
    (i % (da * inner + db * inner) < da * inner → atSpec (P ++ (da : Int) :: S) (idxOf (P ++ ((da + db : Nat) : Int) :: S) i) = ((catJ (da * inner) (db * inner) i : Int), true)) ∧
    (¬ i % (da * inner + db * inner) < da * inner → atSpec (P ++ (da : Int) :: S) (idxOf (P ++ ((da + db : Nat) : Int) :: S) i) = (0, false) ∧ 0 ≤ (idxOf (P ++ ((da + db : Nat) : Int) :: S) i).getD P.length 0 ∧ (idxOf (P ++ ((da + db : Nat) : Int) :: S) i).getD P.length 0 < da + db ∧
      atSpec (P ++ (db : Int) :: S) ((idxOf (P ++ ((da + db : Nat) : Int) :: S) i).set P.length ((idxOf (P ++ ((da + db : Nat) : Int) :: S) i).getD P.length 0 - da)) = ((catJ (da * inner) (db * inner) i : Int), true)) := by
  obtain ⟨e1, e2⟩ := H.split i
  have hpos := H.pos.1
  have h0 := H.h0
  have hl := length_idxOf P ((i / ((da + db) * inner) : Nat) : Int)
  rw [← Nat.add_mul] at hi ⊢
  rw [e1]
  unfold catJ
  rw [← Nat.add_mul]
  have hz : i % inner < inner := Nat.mod_lt _ hpos
  have hjD : i / inner % (da + db) < da + db := Nat.mod_lt _ h0
  have cross : i % ((da + db) * inner) < da * inner ↔ i / inner % (da + db) < da := by
    rw [e2]
    constructor
    · intro h
      by_cases c : i / inner % (da + db) < da
      · exact c
      · have := Nat.mul_le_mul_right inner (Nat.le_of_not_lt c); omega
    · intro h
      have := Nat.mul_le_mul_right inner (show i / inner % (da + db) + 1 ≤ da from h)
      rw [Nat.add_mul, Nat.one_mul] at this
      omega
  constructor
  · intro h
    obtain ⟨f1, f2⟩ := H.offs i hi da (i / inner % (da + db))
    rw [decide_eq_true (cross.1 h)] at f1
    unfold atSpec
    rw [if_pos ⟨H.gx, f1⟩, f2, if_pos h, e2]
  · intro h
    have hj : da ≤ i / inner % (da + db) := by
      have := mt cross.2 h; omega
    obtain ⟨f1, _⟩ := H.offs i hi da (i / inner % (da + db))
    rw [decide_eq_false (by omega)] at f1
    obtain ⟨g1, g2⟩ := H.offs i hi db (i / inner % (da + db) - da)
    rw [decide_eq_true (by omega)] at g1
    have hg : (idxOf P ((i / ((da + db) * inner) : Nat) : Int) ++ ((i / inner % (da + db) : Nat) : Int) :: idxOf S i).getD P.length 0 = ((i / inner % (da + db) : Nat) : Int) := by
      rw [List.getD_eq_getElem?_getD, List.getElem?_append_right (by omega), hl, Nat.sub_self]; rfl
    have hst : (idxOf P ((i / ((da + db) * inner) : Nat) : Int) ++ ((i / inner % (da + db) : Nat) : Int) :: idxOf S i).set P.length (((i / inner % (da + db) : Nat) : Int) - da) = idxOf P ((i / ((da + db) * inner) : Nat) : Int) ++ ((i / inner % (da + db) - da : Nat) : Int) :: idxOf S i := by
      rw [List.set_append_right _ _ (by omega), hl, Nat.sub_self, List.set_cons_zero]
      congr 2
      omega
    refine ⟨by unfold atSpec; rw [if_neg (fun e => by rw [e.2] at f1; cases f1)], by rw [hg]; omega, by rw [hg]; omega, ?_⟩
    rw [hg, hst]
    unfold atSpec
    rw [if_pos ⟨H.gy, g1⟩, g2, if_neg h, e2]
    have e3 : i / inner % (da + db) * inner + i % inner - da * inner = (i / inner % (da + db) - da) * inner + i % inner := by
      rw [Nat.sub_mul]
      have := Nat.mul_le_mul_right inner hj
      omega
    rw [e3]
/-! ## Lists -/
end Go.Proofs.YtmojpbfkpggjhaaGreat

/-
  Plain laws of arrays behind each other: what is told, or which error. No statement is proved here.
-/
namespace Go.Proofs.YtmojpbfkpggjhaaGreat
open Go Go.RowKit
set_option linter.unusedVariables false
set_option linter.unusedSimpArgs false
set_option maxHeartbeats 4000000
attribute [local irreducible] CW RW QW SW HW ConM retM heldQ calmQ elemP thenQ blockQ loopQ joinQ retQ Yields Con Sl zF magR unitF truncF fwF wholeF tidySpec elemQ rankF leastN tidyW
set_option maxHeartbeats 4000000

/-! ## What is told -/
/-- what is told of an array, and of a plain one; or an error's number -/
def ResX (k : Nat) (e : Int) (a : AD (k + 1)) (p : PD (k + 1)) : Prop := (e = 0 ∧ good (k + 1) 40 a ∧ plain (k + 1) a = p ∧ tdy (k + 1) p) ∨ ((e = 22 ∨ e = 23 ∨ e = 24 ∨ e = 26) ∧ a = (⟨[], VecD.none⟩ : ArrD (AD k)))
structure Tells (k : Nat) (x : VecD (AD (k + 1))) (L : List (ItemD (PD (k + 1)))) (c : Int) : Prop where
  sh : Shown (k + 1) x L c
  hg : ∀ b ∈ x.boxes, good (k + 1) (40 - 1) b
  ln : L.length = x.len
theorem sqC2 {α : Type} {v : VecD α} (h : v.cls ≠ 0) : v.sq = v := by unfold VecD.sq; rw [if_neg (fun e => h e.1)]
theorem leastNil2 : leastN [] = 1 := by unfold leastN; rfl
theorem noneSq2 {α : Type} (c : Int) : (noneV c : VecD α).sq = noneV c := by
  unfold noneV
  split
  · exact sqC2 (show (1 : Int) ≠ 0 by decide)
  · split
    · exact sqC2 (show (2 : Int) ≠ 0 by decide)
    · rw [sq_nums _ _ (by omega) (by omega), leastNil2]
theorem joinSq2 {α : Type} (c : Int) (l : List (VecD α)) : (joinS c l).sq = joinS c l := by
  unfold joinS
  split
  · exact sqC2 (show (1 : Int) ≠ 0 by decide)
  · split
    · exact sqC2 (show (2 : Int) ≠ 0 by decide)
    · have hb := leastN_bounds (l.flatMap (·.nums))
      exact sq_nums _ _ (by omega) (by omega)
theorem noneItems2 {α β : Type} (f : α → β) (c : Int) : (itemsV f (noneV c : VecD α)).length = (noneV c : VecD α).len := by
  unfold noneV
  split
  · rfl
  · split <;> rfl
theorem joinItems2 {α β : Type} (f : α → β) (c : Int) (l : List (VecD α)) : (itemsV f (joinS c l)).length = (joinS c l).len := by
  unfold joinS
  split
  · show ((l.flatMap (·.chars)).map _).length = 0 + (l.flatMap (·.chars)).length + 0
    rw [List.length_map]; omega
  · split
    · show ((l.flatMap (·.boxes)).map _).length = 0 + 0 + (l.flatMap (·.boxes)).length
      rw [List.length_map]; omega
    · rw [itemsV_c0 f (numV_cls _), List.length_map]
      rfl
theorem noneBoxes2 {α : Type} (c : Int) : (noneV c : VecD α).boxes = [] := by
  unfold noneV
  split
  · rfl
  · split <;> rfl
theorem blankGood2 (k : Nat) (d : Int) (hd : d ≠ 0) : good (k + 1) d (blankA k) := by
  refine ⟨(by show product [0] 1048576 = (((0 : Nat) : Int), 0); decide), (by show (1 : Int) ≠ 0; omega), ?_, hd, fun b hb => nomatch hb⟩
  show (1 : Int) = VecD.least (⟨1, [], [], []⟩ : VecD (AD k))
  unfold VecD.least
  rw [if_pos ⟨rfl, by dsimp only; omega⟩]
  exact leastNil2.symm
theorem Tells.pick {k : Nat} {x : VecD (AD (k + 1))} {L L' : List (ItemD (PD (k + 1)))} {c : Int} (H : Tells k x L c) (at_ : List Int) (hm : at_.length ≤ 1048576) (hL : at_.map (fun i => atD L i (blankI c : ItemD (PlainD (PD k)))) = L') : Tells k (x.pick at_ (blankA k)) L' c := by
  subst hL
  have f := pick_facts x at_ (blankA k)
  refine ⟨H.sh.pick at_ hm, fun b hb => ?_, by rw [List.length_map, f.2.2.1]⟩
  rcases f.2.2.2 b hb with e | e
  · exact H.hg b e
  · rw [e]; exact blankGood2 k _ (by omega)
/-- an array of what is told, in a shape -/
theorem Tells.shape {k : Nat} {x : VecD (AD (k + 1))} {L : List (ItemD (PD (k + 1)))} {c : Int} (H : Tells k x L c) (t : List Int) (ht : product t 1048576 = ((x.len : Int), 0)) : ResX (k + 1) 0 (⟨t, x⟩ : ArrD (AD (k + 1))) (⟨t, L, c⟩ : PlainD (PD (k + 1))) := by
  refine .inl ⟨rfl, ⟨ht, H.sh.k0, H.sh.kl, by omega, H.hg⟩, ?_, H.sh.td⟩
  show (⟨t, itemsV (plain (k + 1)) x, x.cls⟩ : PlainD (PD (k + 1))) = _
  rw [H.sh.he, H.sh.hc]
theorem Tells.sh' {k : Nat} {x : VecD (AD (k + 1))} {L : List (ItemD (PD (k + 1)))} {c : Int} (H : Tells k x L c) : Shown (k + 1) x (itemsV (plain (k + 1)) x) x.cls := by
  have := H.sh; rw [← H.sh.he, ← H.sh.hc] at this; exact this
noncomputable def joinX {k : Nat} (x y : VecD (AD (k + 1))) (c : Int) : VecD (AD (k + 1)) := if c < 0 then noneV (headC [x, y]) else joinS c [x, y]
theorem Tells.join {k : Nat} {x y : VecD (AD (k + 1))} {L M : List (ItemD (PD (k + 1)))} {c d cj : Int} (H : Tells k x L c) (Hb : Tells k y M d) (hj : joinC (-1) [x, y] = some cj) (hsum : x.len + y.len ≤ 1048576) : Tells k (joinX x y cj) (L ++ M) (if 0 ≤ cj then cj else c) := by
  have hS := shown_join hj (by
    intro z hz
    simp only [List.mem_cons, List.not_mem_nil, or_false] at hz
    rcases hz with rfl | rfl
    · exact H.sh'
    · exact Hb.sh') (by show x.len + (y.len + 0) ≤ 1048576; omega)
  have e1 : [x, y].flatMap (itemsV (plain (k + 1))) = L ++ M := by
    show itemsV (plain (k + 1)) x ++ (itemsV (plain (k + 1)) y ++ []) = _
    rw [List.append_nil, H.sh.he, Hb.sh.he]
  have e2 : headC [x, y] = c := H.sh.hc
  rw [e1, e2] at hS
  refine ⟨by unfold joinX; rw [e2]; exact hS, ?_, ?_⟩
  · unfold joinX
    split
    · rw [noneBoxes2]; exact fun z hz => nomatch hz
    · intro z hz
      obtain ⟨u, hu, hz2⟩ := joinS_boxes hz
      simp only [List.mem_cons, List.not_mem_nil, or_false] at hu
      rcases hu with e | e
      · exact H.hg z (e ▸ hz2)
      · exact Hb.hg z (e ▸ hz2)
  · rw [← hS.he]
    unfold joinX
    rw [e2]
    split
    · exact noneItems2 _ _
    · exact joinItems2 _ _ _
/-! ## Axes that an array lacks -/
end Go.Proofs.YtmojpbfkpggjhaaGreat

/-
  Contracts of functions of package part: all elements listed. No statement is proved here.
-/
namespace Go.Proofs.YtmojpbfkpggjhaaGreat
open Go Go.RowKit
set_option linter.unusedVariables false
set_option linter.unusedSimpArgs false
set_option maxHeartbeats 4000000
attribute [local irreducible] CW RW QW SW HW ConM retM heldQ calmQ elemP thenQ blockQ loopQ joinQ retQ Yields Con Sl zF magR unitF truncF fwF wholeF tidySpec elemQ rankF leastN tidyW
set_option maxHeartbeats 4000000

section
variable {α : Type} {R : GHeap → List Value → α → Prop}
end
/-- an array's elements, of one that lies in a box -/
def bv (k : Nat) (b : AD (k + 1)) : VecD (AD k) := ArrD.vec (α := AD k) b
end Go.Proofs.YtmojpbfkpggjhaaGreat

/-
  Contracts of functions of package part: what lies in boxes, as a list. No statement is proved here.
-/
namespace Go.Proofs.YtmojpbfkpggjhaaGreat
open Go Go.RowKit
set_option linter.unusedVariables false
set_option linter.unusedSimpArgs false
set_option maxHeartbeats 4000000
attribute [local irreducible] CW RW QW SW HW ConM retM heldQ calmQ elemP thenQ blockQ loopQ joinQ retQ Yields Con Sl zF magR unitF truncF fwF wholeF tidySpec elemQ rankF leastN tidyW
set_option maxHeartbeats 4000000

/-- lists behind each other, of the class that they have -/
def joinedV {α : Type} (c : Int) (l : List (VecD α)) : VecD α := if c < 0 then noneV (headC l) else joinS c l
end Go.Proofs.YtmojpbfkpggjhaaGreat

/-
  The program logic, nineteenth part: frozen rows of whole structs, products of words, functions that the model stands in for. No statement is proved here.
-/
namespace Go.Proofs.YtmojpbfkpggjhaaGreat
open Go Go.RowKit
set_option linter.unusedVariables false
set_option linter.unusedSimpArgs false
set_option linter.unusedVariables false
section
variable {P : Program} (T : Tab P) {n : Nat} {Q : Post} {L : Env} {w0 w : World} {h0 h : GHeap} {O : List Row} {ops rest : List Oper} {x y : Operand} {t : TypeId}
variable {d : Option Tmp} {ty yt : TypeId} {pos : String} {aft : Array Edge}
/-- a cell of a frozen row -/
theorem Sl.cellAt (hs : Sees w0 h0 h O w) {b sz m cp o : Nat} {xs : List Value} {v : Value} (hS : Sl h sz (some ⟨b, 0, none⟩) m cp xs) (ho : o < m * sz) (hv : xs[o]? = some v) : w.cell? ⟨b, o, none⟩ = some v := by
  obtain ⟨cs, h1, h2⟩ := (hS.2.2.2.2 _ rfl).2 o ho
  refine hs.cell h1 ?_
  rw [Nat.zero_add] at h2
  rw [h2, hv]
end
/-! ## Regions that draw their order and change memory: two of the call's own rows fixed, and what lies frozen -/
section
variable {P : Program} {n : Nat} {Q : Post} {L : Env} {w0 w : World} {h0 h hb : GHeap} {O : List Row} {ops rest : List Oper} {ra rb : Row}
variable {d : Option Tmp} {ty : TypeId} {pos : String} {aft : Array Edge} {fuel : Nat} {listed : Array Bool}
def SG (w0 : World) (h0 hb : GHeap) (ra rb : Row) (w : World) : Prop := ∃ (h' : GHeap) (O : List Row) (k j : Nat), GLe hb h' ∧ Sees w0 h0 h' O w ∧ O[k]? = some ra ∧ O[j]? = some rb
theorem CW.regionG (T' : Tab P) (k j : Nat) (hs : Sees w0 h0 h O w) (ha : O[k]? = some ra) (hb' : O[j]? = some rb) {id : Nat} {l : List Oper} (K : ∀ w', Sees w0 h0 h O w' → HW P n l (calmQ Q) (SG w0 h0 h ra rb) l.length (Array.replicate l.length false) L w') : CW P n Q (.region id l.toArray true) L w :=
  CW.regionH T' (SG w0 h0 h ra rb) (fun w' e => by subst e; exact K _ hs.drew)
theorem HW.takeG (i : Nat) {op : Op} {v : Value} (hi : ops.toArray[i]? = some ⟨d, op, ty, pos, aft, none⟩) (hy : ∀ (h' : GHeap) (O : List Row) (ka kb : Nat) (w' : World), GLe hb h' → Sees w0 h0 h' O w' → O[ka]? = some ra → O[kb]? = some rb → Yields P n L w' op ty v) (hS : SG w0 h0 hb ra rb w) (hd : dstOk n d = true)
    (hs : Region.noSelect ops.toArray = true) (hf : Region.free .any ops.toArray listed i = true) (hr : (Region.ready .any ops.toArray listed).contains i = true)
    (hh : HW P n ops (calmQ Q) (SG w0 h0 hb ra rb) fuel (listed.setIfInBounds i true) (updo d v L) w) : HW P n ops (calmQ Q) (SG w0 h0 hb ra rb) (fuel + 1) listed L w :=
  HW.take i hi (fun w' ⟨h', O, k, j, g, s, a, b⟩ => hy h' O k j w' g s a b) hS hd hs hf hr hh
end
end Go.Proofs.YtmojpbfkpggjhaaGreat

/-
  The program logic, further parts: elements of a reslice of an own row, copies into an own row, slices of truths that came in. No statement is proved here.
-/
namespace Go.Proofs.YtmojpbfkpggjhaaGreat
open Go Go.RowKit
set_option linter.unusedVariables false
set_option linter.unusedSimpArgs false

section
open Go.ChangeShapes Go.WideShapes Go.ChangeAt
variable {H : Type} {enc : TypeId × Value → H} {P : Program} {w : World} {base : Nat} {spare : Nat → Bool} {held : Bool} {fuel n : Nat} {t e : TypeId} {cs : List Value} {x : DataW H × List MemPlace}
theorem open_bools (ht : P.underlying t = some (.slice e)) (he : P.underlying e = some .bool) (hc : P.cellsOf e = 1) (h : DataW.trod enc P w base spare held fuel t cs = some x) :
    ∃ v l, cs = [v] ∧ TAt (ghost w) v l ∧ l.length ≤ 9223372036854775807 := by
  obtain ⟨v, l, h1, h2, h3⟩ := open_rows (R := fun cs (a : Bool) => cs = [.bool a]) ht hc (by omega) (fun n _ cs x h => by
    obtain ⟨b, hb, _⟩ := DataW.trod_bool he h
    exact ⟨b, hb⟩) h
  exact ⟨v, l, h1, RowsAt.row h2, h3⟩
end
section
variable {P : Program} (T : Tab P) {n : Nat} {Q : Post} {L : Env} {w0 w : World} {h0 h : GHeap} {O : List Row} {ops rest : List Oper} {x y : Operand} {t t2 : TypeId}
variable {d : Option Tmp} {ty : TypeId} {pos : String} {aft : Array Edge}
theorem Sl.cap0 {ad : Option Addr} {m cp sz : Nat} {xs : List Value} (hS : Sl h sz ad m cp xs) : ad = none → cp = 0 := hS.2.2.2.1
/-- cells of a part of an own row, as a copy takes them -/
theorem Sees.part (hs : Sees w0 h0 h O w) (k : Nat) {b o m cp : Nat} {e : TypeId} {xs news : List Value} (hO : O[k]? = some ⟨some ⟨b, 0, none⟩, m, cp, e, 1, xs⟩) (hn : ∀ j v, news[j]? = some v → xs[o + j]? = some v) : ∀ j v, news[j]? = some v → w.cell? ((⟨b, o, none⟩ : Addr).add j) = some v := by
  intro j v hj
  rw [Addr.add_lit]
  exact hs.rowCell hO (hn j v hj)
end
end Go.Proofs.YtmojpbfkpggjhaaGreat

/-
  The program logic, further parts: the room of a slice, noughts put behind a row, a row seen one cell further. No statement is proved here.
-/
namespace Go.Proofs.YtmojpbfkpggjhaaGreat
open Go Go.RowKit
set_option linter.unusedVariables false
set_option linter.unusedSimpArgs false
set_option maxHeartbeats 4000000

section
variable {P : Program} (T : Tab P) {n : Nat} {Q : Post} {L : Env} {w0 w : World} {h0 h : GHeap} {O : List Row} {ops rest : List Oper} {x y : Operand} {t t2 : TypeId}
variable {d : Option Tmp} {ty : TypeId} {pos : String} {aft : Array Edge}
theorem Y.cap {e : TypeId} {ad : Option Addr} {m cp : Nat} (hT : T.ty t = some (.slice e)) (hx : opv L x = some (.slice ad m cp)) : Yields P n L w (.call ⟨.builtin .cap, #[x], #[t]⟩) ty (.int .i64 (cp : Int)) := by
  intro a ha d pos aft g
  have h1 : P.underlying t = some (.slice e) := T.ty_ok _ _ hT
  simp [execOp, resolve, invoke, builtin, Builtin.cap_, ha.eval hx, run_underlying h1, goInt]
/-- noughts behind what a slice holds, where there is no room: a new row -/
theorem RW.appendZ (hs : Sees w0 h0 h O w) {base : Option Addr} {sLen sCap kz : Nat} {e : TypeId} {i : Inf} {kn kq : IntKind} {olds : List Value} {z : Value} (hx : opv L x = some (.slice base sLen sCap)) (hy : opv L y = some (.int kq (kz : Int))) (hd : dstOk n d = true) (hT : T.ty t = some (.slice e)) (hTn : T.ty t2 = some (.int kn))
    (hI : T.inf e = some i) (hi : i.size = 1) (hz : i.zero.cells = #[z]) (hl : olds.length = sLen) (hn : base = none → sLen = 0) (hold : ∀ a, base = some a → ∀ j u, olds[j]? = some u → w.cell? (a.add j) = some u) (h1 : 0 < kz) (hg : sCap < sLen + kz) (hm : (sLen + kz) * i.bytes ≤ 140737488355328) (h63 : sLen + kz ≤ 9223372036854775807)
    (K : ∀ b cp' w', Sees w0 h0 h (⟨some ⟨b, 0, none⟩, sLen + kz, cp', e, 1, olds ++ List.replicate kz z⟩ :: O) w' → RW P n ops Q (updo d (.slice (some ⟨b, 0, none⟩) (sLen + kz) cp') L) w' rest) :
    RW P n ops Q L w (⟨d, .call ⟨.builtin .append, #[x, y], #[t, t2]⟩, ty, pos, aft, none⟩ :: rest) := by
  have ht : P.underlying t = some (.slice e) := T.ty_ok _ _ hT
  have htn : P.underlying t2 = some (.int kn) := T.ty_ok _ _ hTn
  obtain ⟨zi, hzi, hi1, hi2, hi3⟩ := T.inf_ok _ _ hI
  have hf : (Builtin.firstCells zi.size sLen (.slice base sLen sCap)).run P w.drew = .ok olds.toArray w.drew := by
    cases base with
    | none =>
      have h0 := hn rfl
      subst h0
      rw [List.eq_nil_of_length_eq_zero hl]
      exact run_firstCells_none w.drew _ _ _ _
    | some a => exact run_firstCells_some w.drew zi.size sLen a sLen sCap olds (by rw [hi1, hi, Nat.mul_one]; exact hl) (by simpa using hold a rfl)
  have hr := Go.Lib.run_append_grow_zeros (P := P) w t t2 ty e zi i.zero kq kn ht htn hzi hi3 base sLen sCap olds hf kz h1 (by omega) hg (by omega) (by rw [hi2]; have := Nat.mul_le_mul_right i.bytes (show kz ≤ sLen + kz by omega); omega) (growslice_fits (by omega) (by rw [hi2]; exact hm))
  rw [hz] at hr
  have hge := grownCap_ge w (sLen + kz) sCap e
  have hcm : grownCap w (sLen + kz) sCap e ≤ maxLen := grownCap_le_maxLen w (sLen + kz) sCap e (by simp only [maxLen]; omega)
  have hzc : ∀ m, (Builtin.zeroCells #[z] m).toList = List.replicate m z := fun m => by
    have e1 := size_zeroCells #[z] m
    apply List.ext_getElem?
    intro j
    simp only [Builtin.zeroCells, List.size_toArray, List.length_cons, List.length_nil, Nat.zero_add, Nat.mul_one, Array.toList_map, List.getElem?_map, Array.toList_range, Nat.mod_one]
    by_cases hj : j < m
    · rw [List.getElem?_range hj, List.getElem?_replicate, if_pos hj]; rfl
    · rw [List.getElem?_eq_none (by simpa using hj), List.getElem?_replicate, if_neg hj]; rfl
  refine RW.step (v := .slice (some ⟨w.heap.size, 0, none⟩) (sLen + kz) (grownCap w (sLen + kz) sCap e)) (w' := w.drew.alloc (.cells (olds ++ List.replicate kz z ++ List.replicate (grownCap w (sLen + kz) sCap e - (sLen + kz)) z).toArray e)) ?_ hd (K w.heap.size _ _ ?_)
  · intro a ha
    rw [show (olds ++ List.replicate kz z ++ List.replicate (grownCap w (sLen + kz) sCap e - (sLen + kz)) z).toArray = olds.toArray ++ Builtin.zeroCells #[z] kz ++ Builtin.zeroCells #[z] (grownCap w (sLen + kz) sCap e - (sLen + kz)) from by rw [← hzc, ← hzc]; simp]
    simp [execOp, resolve, invoke, builtin, ha.eval hx, ha.eval hy, hr]
  · refine hs.drew.alloc hge hcm ?_ ?_
    · simp only [List.length_append, List.length_replicate, hl]
      omega
    · rw [Nat.mul_one, List.take_append_of_le_length (by simp only [List.length_append, List.length_replicate, hl]; omega), List.take_of_length_le (by simp only [List.length_append, List.length_replicate, hl]; omega)]
end
end Go.Proofs.YtmojpbfkpggjhaaGreat

/-
  Contracts of slices.Grow and slices.Concat at int. No statement is proved here.
-/
namespace Go.Proofs.YtmojpbfkpggjhaaGreat
open Go Go.RowKit
set_option linter.unusedVariables false
set_option linter.unusedSimpArgs false
set_option maxHeartbeats 4000000
attribute [local irreducible] CW RW QW SW HW ConM retM heldQ calmQ elemP thenQ blockQ loopQ joinQ retQ Yields Con Sl elemQ
set_option maxHeartbeats 4000000

theorem growInt_conM (n : Nat) (w0 w : World) (h0 h : GHeap) (O : List Row) (hn : n ≤ 1048576) : ConM Tryz.prog 124 [.slice none 0 0, .int .i64 (n : Int)] w0 h0 h O w (fun h' O' u => h = h' ∧ ∃ ad cp, u = .slice ad 0 cp ∧ O' = ⟨ad, 0, cp, 3, 1, []⟩ :: O) := by
  refine ConM.of_body Tryz.func124 rfl Tryz.ntmps124 rfl rfl ?_
  intro hs
  refine Zerun ?_
  refine RW.val (Y.cap T rfl rfl) rfl ?_
  refine Zerun ?_
  by_cases c : n = 0
  · have c' : ¬ (0 : Int) < (n : Int) - (((0 : Nat) : Int) - ((0 : Nat) : Int)) := by omega
    refine Zerun ?_
    exact retM_ret [_] h _ ⟨rfl, trivial⟩ (GLe.refl _) (hs.nilRow 3 1) ⟨rfl, none, 0, rfl, rfl⟩
  · have c' : (0 : Int) < (n : Int) - (((0 : Nat) : Int) - ((0 : Nat) : Int)) := by omega
    refine Zerun ?_
    refine RW.val (Y.cap T rfl rfl) rfl ?_
    refine Zerun ?_
    refine RW.val (Y.sliceHi T rfl rfl rfl rfl (by omega)) rfl ?_
    refine Zerun ?_
    refine RW.appendZ (kq := .i64) (kz := n) (olds := []) (z := .int .i64 0) T hs rfl (by rw [show (n : Int) = (n : Int) - (((0 : Nat) : Int) - ((0 : Nat) : Int)) by omega]; rfl) rfl rfl rfl rfl rfl rfl rfl (fun _ => rfl) (fun a e => nomatch e) (by omega) (by omega) (by dsimp only; omega) (by omega) ?_
    intro b2 cp2 w2 hs
    refine Zerun ?_
    have hcp := hs.rowCap (k := 0) rfl
    refine RW.val (Y.sliceHi T rfl rfl rfl rfl (by omega)) rfl ?_
    refine Zerun ?_
    have hs := hs.shrink (k := 0) rfl 0 (by omega) (fun e => nomatch e)
    exact retM_ret [_] h _ ⟨rfl, trivial⟩ (GLe.refl _) hs ⟨rfl, some ⟨b2, 0, none⟩, cp2, rfl, rfl⟩
theorem one_intsM (l : List Int) : ∀ v ∈ l.map (Value.int .i64), v.oneCell' = true := fun v hv => by obtain ⟨z, _, rfl⟩ := List.mem_map.1 hv; rfl
def IntsCell (h : GHeap) (cs : List Value) (l : List Int) : Prop := ∃ v, cs = [v] ∧ IntsAt h v l
theorem sum_take_leN (l : List Nat) (i : Nat) : (l.take i).sum ≤ l.sum := by
  have : l.sum = (l.take i).sum + (l.drop i).sum := by rw [← List.sum_append, List.take_append_drop]
  omega
theorem concatInt_con (s : Value) (Ls : List (List Int)) (w : World) (h : GHeap) (hl : RowsAt 1 (IntsCell h) h s Ls) (hm : (Ls.map List.length).sum ≤ 1048576) (hn : Ls.length ≤ 1048576) : Con Tryz.prog 67 [s] w h (fun h' u => IntsAt h' u Ls.flatten) := by
  obtain ⟨ad, cp, xs, rfl, hS, hA⟩ := hl
  have hcap := hS.caps
  have one : ∀ h' h'', GLe h' h'' → ∀ u a, IntsCell h' u a → IntsCell h'' u a := fun h' h'' hle u a ⟨v, e, hv⟩ => ⟨v, e, hv.mono hle⟩
  have tk : ∀ i, i < Ls.length → (Ls.take (i + 1)).map List.length = (Ls.take i).map List.length ++ [(Ls.getD i []).length] := fun i hi => by
    rw [List.take_add_one, List.getElem?_eq_getElem hi, List.map_append, List.getD_eq_getElem?_getD, List.getElem?_eq_getElem hi]
    rfl
  refine Con.of_body Tryz.func67 rfl Tryz.ntmps67 rfl rfl ?_
  intro hs
  refine Zerun ?_
  refine CW.loop (fun i : Nat => [(0, .slice ad Ls.length cp), (3, .int .i64 (((Ls.take i).map List.length).sum : Nat)), (9, .slice ad Ls.length cp), (10, .int .i64 Ls.length), (11, .int .i64 i)]) (fun i w' => i ≤ Ls.length ∧ Sees w h h [] w') (fun i => Ls.length - i) 0 ⟨rfl, rfl, rfl, rfl, rfl, trivial⟩ ⟨by omega, hs⟩ ?_
  rintro i w2 ⟨hi, hs⟩
  by_cases hlt : i < Ls.length
  · obtain ⟨y, hy, hyl, v, rfl, hv⟩ := hA.elem i hlt
    have hx : xs[i]? = some v := by
      have := congrArg (fun z => z[0]?) hy
      simpa [List.getElem?_take_of_lt, List.getElem?_drop] using this
    have hgd : Ls.getD i [] = Ls[i] := by rw [List.getD_eq_getElem?_getD, List.getElem?_eq_getElem hlt]; rfl
    have htk := tk i hlt
    rw [hgd] at htk
    have hsum := sum_take_leN (Ls.map List.length) (i + 1)
    rw [← List.map_take, htk, List.sum_append] at hsum
    generalize hLi : Ls[i] = Li at hv htk hsum
    obtain ⟨adi, cpi, rfl, hSi⟩ := hv
    have hci := hSi.caps
    have e1 : (((Ls.take (i + 1)).map List.length).sum : Nat) = ((Ls.take i).map List.length).sum + Li.length := by rw [htk, List.sum_append]; simp
    simp only [List.sum_cons, List.sum_nil] at hsum
    refine Zerun ?_
    exact loopQ_round (i + 1) ⟨rfl, seti (by rw [e1]; omega), rfl, rfl, rfl, trivial⟩ ⟨by omega, hs⟩ (by omega)
  obtain rfl : i = Ls.length := by omega
  rw [List.take_length]
  refine Zerun ?_
  (refine RW.callM T hs rfl rfl rfl (growInt_conM ((Ls.map List.length).sum) _ _ _ _ _ hm) ?_; intro v h3 O3 w3 hle3 hp3 hs)
  obtain ⟨rfl, ad3, cp3, rfl, rfl⟩ := hp3
  refine Zerun ?_
  refine CW.loop (fun u : Nat × (Option Addr × Nat) => [(6, .slice u.2.1 (Ls.take u.1).flatten.length u.2.2), (25, .slice ad Ls.length cp), (26, .int .i64 Ls.length), (27, .int .i64 u.1)]) (fun u w' => u.1 ≤ Ls.length ∧ Sees w h h [⟨u.2.1, (Ls.take u.1).flatten.length, u.2.2, 3, 1, (Ls.take u.1).flatten.map (Value.int .i64)⟩] w') (fun u => Ls.length - u.1) (0, (ad3, cp3)) ⟨rfl, rfl, rfl, rfl, trivial⟩ ⟨by omega, hs⟩ ?_
  rintro ⟨i, ⟨ra, rc⟩⟩ w4 ⟨hi, hs⟩
  dsimp only at hi hs ⊢
  by_cases hlt : i < Ls.length
  · obtain ⟨y, hy, hyl, v, rfl, hv⟩ := hA.elem i hlt
    have hx : xs[i]? = some v := by
      have := congrArg (fun z => z[0]?) hy
      simpa [List.getElem?_take_of_lt, List.getElem?_drop] using this
    have hfl : (Ls.take (i + 1)).flatten = (Ls.take i).flatten ++ Ls[i] := by rw [List.take_add_one, List.getElem?_eq_getElem hlt, List.flatten_append]; simp
    generalize hLi : Ls[i] = Li at hv hfl
    obtain ⟨adi, cpi, rfl, hSi⟩ := hv
    have hfs : ∀ i, (Ls.take i).flatten.length ≤ 1048576 := fun i => by
      rw [List.length_flatten, List.map_take]
      exact Nat.le_trans (sum_take_leN _ _) hm
    have hb1 := hfs (i + 1)
    rw [hfl, List.length_append] at hb1
    refine Zerun ?_
    refine RW.append T hs 0 rfl rfl (m := Li.length) (news := Li.map (Value.int .i64)) rfl rfl rfl rfl rfl rfl (hSi.src hs.agree (one_intsM Li)) hSi.cap0 (by dsimp only; omega) (by omega) ?_
    intro ad5 cp5 w5 hs
    refine Zerun ?_
    refine loopQ_round (i + 1, (ad5, cp5)) ⟨by dsimp only; rw [hfl, List.length_append]; rfl, rfl, rfl, rfl, trivial⟩ ⟨by dsimp only; omega, hs.cast ?_⟩ (by dsimp only; omega)
    dsimp only
    rw [hfl, List.length_append, List.map_append]
    rfl
  obtain rfl : i = Ls.length := by omega
  rw [List.take_length] at hs
  obtain ⟨h12, hle12, hs, hS12⟩ := hs.freeze
  refine Zerun ?_
  exact retQ_ret [_] h12 ⟨rfl, trivial⟩ hs.dropAll (by rw [List.take_length]; exact IntsAt.of_sl hS12)
end Go.Proofs.YtmojpbfkpggjhaaGreat

/-
  Contracts of package part: what lies in boxes however deep, as a list of lists. No statement is proved here.
-/
namespace Go.Proofs.YtmojpbfkpggjhaaGreat
open Go Go.RowKit
set_option linter.unusedVariables false
set_option linter.unusedSimpArgs false
set_option maxHeartbeats 4000000
attribute [local irreducible] CW RW QW SW HW ConM retM heldQ calmQ elemP thenQ blockQ loopQ joinQ retQ Yields Con Sl zF magR unitF truncF fwF wholeF tidySpec elemQ rankF leastN tidyW
set_option maxHeartbeats 4000000

/-- a list of elements without boxes, of whatever boxes' type -/
def flatV {α β : Type} (v : VecD α) : VecD β := ⟨v.kind, v.nums, v.chars, []⟩
theorem VecAt.flat {α β : Type} {R : GHeap → List Value → α → Prop} {R' : GHeap → List Value → β → Prop} {h : GHeap} {cs : List Value} {v : VecD α} (hv : VecAt R h cs v) (hc : v.cls ≠ 2) : VecAt R' h cs (flatV v) := by
  obtain ⟨w, n, sm, il, fl, ch, bx, h1, hk⟩ := hv
  refine ⟨w, n, sm, il, fl, ch, bx, h1, ?_⟩
  rcases hk with ⟨e0, e⟩ | ⟨e0, a, b, c, e⟩ | ⟨e0, a, b, c, e⟩ | ⟨e0, a, b, c, e⟩ | ⟨e0, a, b, c, e⟩ | ⟨e0, a, b, e⟩ | ⟨e, _⟩
  · exact .inl ⟨e0, by rw [e]; rfl⟩
  · exact .inr (.inl ⟨e0, a, b, c, by rw [e]; rfl⟩)
  · exact .inr (.inr (.inl ⟨e0, a, b, c, by rw [e]; rfl⟩))
  · exact .inr (.inr (.inr (.inl ⟨e0, a, b, c, by rw [e]; rfl⟩)))
  · exact .inr (.inr (.inr (.inr (.inl ⟨e0, a, b, c, by rw [e]; rfl⟩))))
  · exact .inr (.inr (.inr (.inr (.inr (.inl ⟨e0, a, b, by rw [e]; rfl⟩)))))
  · exfalso
    apply hc
    unfold VecD.cls
    rw [if_neg (by omega), if_pos e]
end Go.Proofs.YtmojpbfkpggjhaaGreat

/-
  Contracts of package part: what lies in boxes however deep, listed, errors told. No statement is proved here.
-/
namespace Go.Proofs.YtmojpbfkpggjhaaGreat
open Go Go.RowKit
set_option linter.unusedVariables false
set_option linter.unusedSimpArgs false
set_option maxHeartbeats 4000000
attribute [local irreducible] CW RW QW SW HW ConM retM heldQ calmQ elemP thenQ blockQ loopQ joinQ retQ Yields Con Sl zF magR unitF truncF fwF wholeF tidySpec elemQ rankF leastN tidyW
set_option maxHeartbeats 4000000

end Go.Proofs.YtmojpbfkpggjhaaGreat

/-
  Contracts of the document's Lists and Enlist: what lies in boxes however deep. No statement is proved here.
-/
namespace Go.Proofs.YtmojpbfkpggjhaaGreat
open Go Go.RowKit
set_option linter.unusedVariables false
set_option linter.unusedSimpArgs false
set_option maxHeartbeats 4000000
attribute [local irreducible] CW RW QW SW HW ConM retM heldQ calmQ elemP thenQ blockQ loopQ joinQ retQ Yields Con Sl zF magR unitF truncF fwF wholeF tidySpec elemQ rankF leastN tidyW
set_option maxHeartbeats 4000000

def flatI {α γ : Type} (x : ItemD α) : ItemD γ := ⟨x.kind, x.num, x.char, []⟩
def flatP {α γ : Type} (p : PlainD α) : PlainD γ := ⟨p.shape, p.items.map flatI, p.fill⟩
/-- boxes only where the fill tells boxes, and one in each such item -/
def bxF : (k : Nat) → PD k → Prop
  | 0 => fun _ => False
  | k + 1 => fun (p : PlainD (PD k)) => if p.fill ≠ 2 then ∀ x ∈ p.items, x.box = [] else ∀ x ∈ p.items, ∃ b, x.box = [b] ∧ bxF k b
theorem ItemAt.flat {α γ : Type} {R : GHeap → List Value → α → Prop} {R' : GHeap → List Value → γ → Prop} {h : GHeap} {cs : List Value} {x : ItemD α} (hx : ItemAt R h cs x) (hb : x.box = []) : ItemAt R' h cs (flatI x) := by
  obtain ⟨bx, e, hr, hn⟩ := hx
  rw [hb] at hr
  obtain ⟨ad, cp, xs, e2, hS, hA⟩ := hr
  exact ⟨bx, e, ⟨ad, cp, xs, e2, hS, hA⟩, hn⟩
theorem AllN.flat {α γ : Type} {R : GHeap → List Value → α → Prop} {R' : GHeap → List Value → γ → Prop} {h : GHeap} : ∀ {xs : List Value} {l : List (ItemD α)}, AllN 4 (ItemAt R h) xs l → (∀ x ∈ l, x.box = []) → AllN 4 (ItemAt R' h) xs (l.map flatI)
  | xs, [], hA, _ => hA
  | xs, x :: l, hA, hb => by
    obtain ⟨h1, h2, h3⟩ := hA
    exact ⟨h1, h2.flat (hb x List.mem_cons_self), AllN.flat h3 fun y hy => hb y (List.mem_cons_of_mem _ hy)⟩
theorem PlainR.flat {α γ : Type} {R : GHeap → List Value → α → Prop} {R' : GHeap → List Value → γ → Prop} {h : GHeap} {cs : List Value} {p : PlainD α} (hp : PlainR R h cs p) (hb : ∀ x ∈ p.items, x.box = []) : PlainR R' h cs (flatP p) := by
  obtain ⟨s, it, e, h1, ⟨ad, cp, xs, e2, hS, hA⟩⟩ := hp
  exact ⟨s, it, e, h1, ⟨ad, cp, xs, by rw [e2]; simp [flatP], by simpa [flatP] using hS, hA.flat hb⟩⟩
def nilP {γ : Type} : PlainD γ := ⟨[], [], 0⟩
end Go.Proofs.YtmojpbfkpggjhaaGreat

/-
  Plain laws of what lies in boxes, listed: the code's lists and the document's tell the same. No statement is proved here.
-/
namespace Go.Proofs.YtmojpbfkpggjhaaGreat
open Go Go.RowKit
set_option linter.unusedVariables false
set_option linter.unusedSimpArgs false
set_option maxHeartbeats 4000000
attribute [local irreducible] CW RW QW SW HW ConM retM heldQ calmQ elemP thenQ blockQ loopQ joinQ retQ Yields Con Sl zF magR unitF truncF fwF wholeF tidySpec elemQ rankF leastN tidyW
set_option maxHeartbeats 4000000

theorem good_mono : ∀ (k : Nat) (d e : Int) (a : AD k), 0 ≤ d → d ≤ e → good k d a → good k e a
  | 0, _, _, _, _, _, _ => trivial
  | k + 1, d, e, a, h0, hde, h => by
    obtain ⟨h1, h2, h3, h4, h5⟩ := h
    exact ⟨h1, h2, h3, by omega, fun b hb => good_mono k (d - 1) (e - 1) b (by omega) (by omega) (h5 b hb)⟩
/-- what is told of an array that is good to a depth -/
theorem tells_at (k : Nat) (d : Int) (p : PD (k + 2)) (h0 : 0 ≤ d) (h40 : d ≤ 40) (hc : chk (k + 2) d p = 0) (ht : tdy (k + 2) (tidy (k + 2) p)) : Tells k (ArrD.vec (α := AD (k + 1)) (arr (k + 2) p)) (PlainD.items (α := PD (k + 1)) (tidy (k + 2) p)) (PlainD.fill (α := PD (k + 1)) (tidy (k + 2) p)) ∧ product (PlainD.shape (α := PD (k + 1)) p) 1048576 = (((ArrD.vec (α := AD (k + 1)) (arr (k + 2) p)).len : Int), 0) := by
  obtain ⟨h1, h2, h3, h4, h5⟩ := (chkP_ok (α := PD (k + 1)) _ _ _).1 hc
  have hl : (PlainD.items (α := PD (k + 1)) (tidy (k + 2) p)).length = (PlainD.items (α := PD (k + 1)) p).length := List.length_map ..
  have hg := good_arr (k + 2) d p hc
  have hsml := good_sml (k + 2) d _ hg
  have hg2 : product (PlainD.shape (α := PD (k + 1)) p) 1048576 = (((ArrD.vec (α := AD (k + 1)) (arr (k + 2) p)).len : Int), 0) := hg.1
  refine ⟨⟨⟨cls_arrV (arr (k + 1)) _ _ h2 h3, hg.2.1, hg.2.2.1, hsml.2.1, hsml.2.2, congrArg (PlainD.items (α := PD (k + 1))) (plain_arr (k + 2) d p hc), ht⟩, fun b hb => good_mono (k + 1) (d - 1) (40 - 1) b (by omega) (by omega) (hg.2.2.2.2 b hb), ?_⟩, hg2⟩
  rw [h4] at hg2
  have := congrArg Prod.fst hg2
  dsimp only at this
  omega
theorem joinedV_sq {α : Type} (c : Int) (l : List (VecD α)) : (joinedV c l).sq = joinedV c l := by
  unfold joinedV
  split
  · exact noneSq2 _
  · exact joinSq2 _ _
/-- lists told, behind each other -/
theorem tells_joinL {k : Nat} (Z : List (VecD (AD (k + 1)) × PlainD (PD (k + 1)))) (hZ : ∀ z ∈ Z, Tells k z.1 z.2.items z.2.fill) {c : Int} (hj : joinC (-1) (Z.map Prod.fst) = some c) (hsum : ((Z.map Prod.fst).map VecD.len).sum ≤ 1048576) :
    Tells k (joinedV c (Z.map Prod.fst)) ((Z.map Prod.snd).flatMap (·.items)) (if 0 ≤ c then c else headF (Z.map Prod.snd)) := by
  have hS := shown_join hj (by
    intro v hv
    obtain ⟨z, hz, rfl⟩ := List.mem_map.1 hv
    exact (hZ z hz).sh') hsum
  have e1 : (Z.map Prod.fst).flatMap (itemsV (plain (k + 1))) = (Z.map Prod.snd).flatMap (·.items) := by
    clear hj hsum hS
    induction Z with
    | nil => rfl
    | cons z Z ih =>
      rw [List.map_cons, List.map_cons, List.flatMap_cons, List.flatMap_cons, ih (fun y hy => hZ y (List.mem_cons_of_mem _ hy)), (hZ z List.mem_cons_self).sh.he]
  have e2 : headC (Z.map Prod.fst) = headF (Z.map Prod.snd) := (joinC_joinP (α := AD (k + 1)) (γ := PD (k + 1)) Prod.fst Prod.snd Z (-1) (fun z hz => ⟨(hZ z hz).ln.symm, (hZ z hz).sh.hc⟩)).2
  rw [e1] at hS
  have hS' : Shown (k + 1) (joinedV c (Z.map Prod.fst)) ((Z.map Prod.snd).flatMap (·.items)) (if 0 ≤ c then c else headF (Z.map Prod.snd)) := by rw [← e2]; exact hS
  refine ⟨hS', ?_, ?_⟩
  · unfold joinedV
    split
    · rw [noneBoxes2]; exact fun z hz => nomatch hz
    · intro z hz
      obtain ⟨u, hu, hz2⟩ := joinS_boxes hz
      obtain ⟨y, hy, rfl⟩ := List.mem_map.1 hu
      exact (hZ y hy).hg z hz2
  · rw [← hS'.he]
    unfold joinedV
    split
    · exact noneItems2 _ _
    · exact joinItems2 _ _ _
theorem joins_eq {k : Nat} (Z : List (VecD (AD (k + 1)) × PlainD (PD (k + 1)))) (hZ : ∀ z ∈ Z, Tells k z.1 z.2.items z.2.fill) : joinC (-1) (Z.map Prod.fst) = joinP (-1) (Z.map Prod.snd) :=
  (joinC_joinP (α := AD (k + 1)) (γ := PD (k + 1)) Prod.fst Prod.snd Z (-1) (fun z hz => ⟨(hZ z hz).ln.symm, (hZ z hz).sh.hc⟩)).1
theorem sums_eq {k : Nat} (Z : List (VecD (AD (k + 1)) × PlainD (PD (k + 1)))) (hZ : ∀ z ∈ Z, Tells k z.1 z.2.items z.2.fill) : (Z.map Prod.fst).map VecD.len = (Z.map Prod.snd).map (·.items.length) := by
  rw [List.map_map, List.map_map]
  exact List.map_congr_left fun z hz => (hZ z hz).ln.symm
/-! ## Leaves -/
theorem arrV_boxes {α β : Type} (f : α → β) (fill : Int) (l : List (ItemD α)) (h : fill ≠ 2) : (arrV f fill l).boxes = [] := by
  unfold arrV
  split
  · rfl
  · rfl
theorem product_one (n : Nat) (h : n ≤ 1048576) : product [(n : Int)] 1048576 = ((n : Int), 0) := by
  have hp : pr [(n : Int)] = max 1 (n : Int) := by show max 1 (n : Int) * 1 = _; omega
  have hg : goodS [(n : Int)] = true := (goodS_spec _).2 ⟨by simp, fun d hd => by have := List.mem_singleton.1 hd; omega, by rw [hp]; omega⟩
  rw [product_good _ hg, hp]
  by_cases c : n = 0
  · rw [if_pos (by rw [c]; exact List.mem_cons_self), c]; rfl
  · rw [if_neg (fun h => by have := List.mem_singleton.1 h; omega)]
    congr 1
    omega
end Go.Proofs.YtmojpbfkpggjhaaGreat

/-
  Plain laws of two arrays behind each other: the code's rows and the document's places tell the same. No statement is proved here.
-/
namespace Go.Proofs.YtmojpbfkpggjhaaGreat
open Go Go.RowKit
set_option linter.unusedVariables false
set_option linter.unusedSimpArgs false
set_option maxHeartbeats 4000000
attribute [local irreducible] CW RW QW SW HW ConM retM heldQ calmQ elemP thenQ blockQ loopQ joinQ retQ Yields Con Sl zF magR unitF truncF fwF wholeF tidySpec elemQ rankF leastN tidyW
set_option maxHeartbeats 4000000

theorem mid_take (P S : List Int) (d : Int) : (P ++ d :: S).take P.length = P := by simp
theorem mid_drop (P S : List Int) (d : Int) : (P ++ d :: S).drop (P.length + 1) = S := by simp
theorem mid_get (P S : List Int) (d : Int) : (P ++ d :: S).getD P.length 0 = d := by simp
theorem mid_of (X : List Int) (j : Nat) (h : j < X.length) : ∃ P S d, X = P ++ d :: S ∧ P.length = j :=
  ⟨X.take j, X.drop (j + 1), X.getD j 0, by rw [← drop_pred X j h, List.take_append_drop], by rw [List.length_take]; omega⟩
theorem good_mid {P S : List Int} {d : Int} (h : goodS (P ++ d :: S) = true) : goodS P = true ∧ goodS S = true ∧ 0 ≤ d := by
  obtain ⟨h1, h2, h3⟩ := (goodS_spec _).1 h
  rw [List.length_append, List.length_cons] at h1
  have hp1 := pr_take_le (P ++ d :: S) P.length
  have hp2 := pr_drop_le (P ++ d :: S) (P.length + 1)
  rw [mid_take] at hp1
  rw [mid_drop] at hp2
  refine ⟨(goodS_spec _).2 ⟨by omega, fun e he => h2 e (List.mem_append_left _ he), by omega⟩, (goodS_spec _).2 ⟨by omega, fun e he => h2 e (List.mem_append_right _ (List.mem_cons_of_mem _ he)), by omega⟩, h2 d (List.mem_append_right _ List.mem_cons_self)⟩
/-! ## The answers -/
theorem prod_err {s : List Int} (h8 : s.length ≤ 8) (h0 : ∀ d ∈ s, 0 ≤ d) (most : Int) : (product s most).2 = 0 ∨ (product s most).2 = 26 := by
  by_cases c : pr s ≤ 1048576
  · rw [product_in s most (by omega) h0 c]
    generalize (if (0 : Int) ∈ s then (0 : Int) else pr s) = m
    unfold within
    by_cases c2 : most < m ∨ 1048576 < m
    · rw [if_pos c2]; exact .inr rfl
    · rw [if_neg c2]; exact .inl rfl
  · right
    have key : ∀ k, k ≤ s.length → ¬ pr (s.take k) ≤ 1048576 → ∃ m, m < s.length ∧ 1048576 < pr (s.take m) * s.getD m 0 := by
      intro k
      induction k with
      | zero => intro _ h; exact absurd (show pr (s.take 0) ≤ 1048576 by simp [pr]) h
      | succ k ih =>
        intro hk h
        by_cases c2 : pr (s.take k) ≤ 1048576
        · refine ⟨k, by omega, ?_⟩
          rw [pr_take_succ s k (by omega)] at h
          by_cases c3 : s.getD k 0 ≤ 1
          · rw [show max 1 (s.getD k 0) = 1 by omega, Int.mul_one] at h; omega
          · rw [show max 1 (s.getD k 0) = s.getD k 0 by omega] at h; omega
        · exact ih (by omega) c2
    obtain ⟨m, hm, hb⟩ := key s.length (Nat.le_refl _) (by rw [List.take_length]; exact c)
    rw [product_over s most (by omega) h0 m hm hb]
end Go.Proofs.YtmojpbfkpggjhaaGreat

/-
  Contracts of package part: boxes' arrays put into one, errors told. No statement is proved here.
-/
namespace Go.Proofs.YtmojpbfkpggjhaaGreat
open Go Go.RowKit
set_option linter.unusedVariables false
set_option linter.unusedSimpArgs false
set_option maxHeartbeats 4000000
attribute [local irreducible] CW RW QW SW HW ConM retM heldQ calmQ elemP thenQ blockQ loopQ joinQ retQ Yields Con Sl zF magR unitF truncF fwF wholeF tidySpec elemQ rankF leastN tidyW
set_option maxHeartbeats 4000000

def bsh (k : Nat) (b : AD (k + 1)) : List Int := ArrD.shape (α := AD k) b
def badE (s : List Int) : List (List Int) → Int
  | [] => 0
  | t :: l => if t.length ≠ s.length then 22 else if t ≠ s then 23 else badE s l
def mixL (k : Nat) (sh s0 : List Int) (L : List (AD (k + 1))) (most : Int) : Int × ArrD (AD k) :=
  if badE s0 (L.map (bsh k)) ≠ 0 then (badE s0 (L.map (bsh k)), ⟨[], VecD.none⟩)
  else if (product (sh ++ s0) most).2 ≠ 0 then ((product (sh ++ s0) most).2, ⟨[], VecD.none⟩)
  else match joinC (-1) (L.map (bv k)) with
    | none => (24, ⟨[], VecD.none⟩)
    | some c => (newE (sh ++ s0) (joinedV c (L.map (bv k))), if newE (sh ++ s0) (joinedV c (L.map (bv k))) = 0 then ⟨sh ++ s0, (joinedV c (L.map (bv k))).sq⟩ else ⟨[], VecD.none⟩)
def mixS (k : Nat) (a : ArrD (AD (k + 1))) (most : Int) : Int × ArrD (AD k) :=
  match a.vec.boxes with
  | [] => if (product (a.shape ++ [0]) most).2 ≠ 0 then ((product (a.shape ++ [0]) most).2, ⟨[], VecD.none⟩) else (0, ⟨a.shape ++ [0], noneV 0⟩)
  | b0 :: l => mixL k a.shape (bsh k b0) (b0 :: l) most
theorem partMix_con (k : Nat) (cs : List Value) (a : ArrD (AD (k + 1))) (most : Int) (w : World) (h : GHeap) (ha : ArrAt (k + 2) h cs a) (hc2 : a.vec.cls = 2) (h8 : a.shape.length ≤ 8) (hlen : a.vec.len ≤ 1048576) (hb8 : ∀ b ∈ a.vec.boxes, (bsh k b).length ≤ 8) (hsum : ((a.vec.boxes.map (bv k)).map VecD.len).sum ≤ 1048576) :
    Con Tryz.prog 23 [.agg cs.toArray, .int .i64 most] w h (fun h' u => ∃ c2, u = .tuple #[.agg c2.toArray, .int .i64 (mixS k a most).1] ∧ ArrR (ArrAt k) h' c2 (mixS k a most).2) := by
  obtain ⟨_, vca, rfl, ⟨ada, cpa, rfl, hSa⟩, hva⟩ := ha
  have hva' := hva
  obtain ⟨wa, na, sa, ia, fa, ga, xa, ⟨rfl, hoa⟩, -⟩ := hva
  have hbl : a.vec.boxes.length ≤ 1048576 := by unfold VecD.len at hlen; omega
  obtain ⟨L, hL⟩ : ∃ L, a.vec.boxes = L := ⟨_, rfl⟩
  refine Con.of_body Tryz.func23 rfl Tryz.ntmps23 rfl rfl ?_
  intro hs
  refine Zrun ?_
  (refine RW.boxN hs rfl rfl ?_; intro b1 w1 hs)
  (refine RW.allocN T hs rfl rfl rfl rfl ?_; intro b2 w2 hs)
  refine Zerun ?_
  (refine RW.call T hs rfl rfl rfl (vecClass_con _ a.vec _ _ hva') ?_; intro v h20 w20 hle20 hp20 hs)
  subst hp20
  rw [hc2]
  have hva' := hva'.mono (ArrAt.mono (k + 1)) hle20
  refine Zerun ?_
  (refine RW.call T hs rfl rfl rfl (vecArrays_con (ArrAt.mono (k + 1)) (ArrAt.one (k + 1)) _ a.vec _ _ hva' (by omega)) ?_; intro v h25 w25 hle25 hp25 hs)
  rw [hL] at hp25 hbl hb8 hsum
  obtain ⟨adl, cpl, xl, rfl, hS, hA⟩ := hp25
  have hSa := hSa.mono (hle20.trans hle25)
  by_cases hL0 : L.length = 0
  · have hL0' : (L.length : Int) = 0 := by omega
    have hLn : L = [] := List.eq_nil_of_length_eq_zero hL0
    have hms : mixS k a most = if (product (a.shape ++ [0]) most).2 ≠ 0 then ((product (a.shape ++ [0]) most).2, ⟨[], VecD.none⟩) else (0, ⟨a.shape ++ [0], noneV 0⟩) := by unfold mixS; rw [hL, hLn]
    refine Zerun ?_
    (refine RW.callM T hs rfl rfl rfl (cloneInt_conM ada cpa a.shape _ _ _ _ _ hSa (by omega)) ?_; intro v h31 O31 w31 hle31 hp31 hs)
    obtain ⟨rfl, ad31, cp31, rfl, rfl⟩ := hp31
    refine Zerun ?_
    (refine RW.lit T hs (vs := [.int .i64 0]) (cs := [.int .i64 0]) rfl rfl rfl rfl (by simp [Value.cells]) rfl rfl rfl rfl rfl ?_; intro b32 w32 hs)
    (refine RW.append T hs 1 rfl rfl (m := 1) (news := [.int .i64 0]) rfl rfl rfl rfl rfl rfl (hs.src0 rfl (by simp [Value.oneCell'])) (by simp) (by dsimp only; omega) (by omega) ?_; intro ad33 cp33 w33 hs; replace hs := hs.drop)
    obtain ⟨h34, hle34, hs, hS34⟩ := hs.freeze
    have hI34 : IntsAt h34 (.slice ad33 (a.shape.length + 1) cp33) (a.shape ++ [0]) := by
      have e : a.shape.length + 1 = (a.shape ++ [(0 : Int)]).length := by simp
      rw [e] at hS34 ⊢
      refine IntsAt.of_sl ?_
      simpa using hS34
    refine Zerun ?_
    (refine RW.call T hs rfl rfl rfl (product_con _ (a.shape ++ [0]) most _ _ hI34 (by rw [List.length_append]; simp; omega)) ?_; intro v h37 w37 hle37 hp37 hs)
    subst hp37
    have hI34 := hI34.mono hle37
    by_cases ep : (product (a.shape ++ [0]) most).2 = 0
    rotate_left
    · obtain ⟨pe, hpe⟩ : ∃ pe, (product (a.shape ++ [0]) most).2 = pe := ⟨_, rfl⟩
      rw [hpe] at ep hms ⊢
      rw [show mixS k a most = (pe, ⟨[], VecD.none⟩) from by rw [hms, if_pos ep]]
      refine Zerun ?_
      refine RW.val (Y.build T rfl rfl rfl rfl rfl rfl rfl) rfl ?_
      refine Zerun ?_
      (refine RW.storeAll T hs 0 rfl rfl rfl rfl rfl rfl rfl rfl ?_; intro w90 hs)
      refine Zerun ?_
      exact retQ_ret [_, _] h37 ⟨resN T hs 0 rfl rfl rfl rfl rfl rfl, rfl, trivial⟩ hs.dropAll ⟨_, rfl, ⟨_, _, rfl, IntsAt.nil _, vecNone _⟩⟩
    rw [ep, show mixS k a most = (0, ⟨a.shape ++ [0], noneV 0⟩) from by rw [hms, if_neg (fun h => h ep)]]
    refine Zerun ?_
    (refine RW.call T hs rfl rfl rfl (vecNone_con (ArrAt.mono k) (ArrAt.one k) 0 _ _) ?_; intro v h45 w45 hle45 hp45 hs)
    obtain ⟨cs45, rfl, hv45⟩ := hp45
    have hI34 := hI34.mono hle45
    have hv45' := hv45
    obtain ⟨wv, nv, sm, il, fl, ch, bx, ⟨rfl, hoc⟩, -⟩ := hv45
    refine Zerun ?_
    refine RW.val (Y.build T rfl rfl rfl rfl rfl rfl rfl) rfl ?_
    (refine RW.storeAll T hs 0 rfl rfl rfl rfl rfl rfl (by show (true && (vecCells _ wv nv sm il fl ch bx).all Value.oneCell') = true; rw [hoc]; rfl) rfl ?_; intro w46 hs)
    refine Zerun ?_
    exact retQ_ret [_, _] h45 ⟨resN T hs 0 rfl rfl rfl rfl rfl rfl, rfl, trivial⟩ hs.dropAll ⟨_, rfl, ⟨_, _, rfl, hI34, hv45'⟩⟩
  have hL0' : ¬ (L.length : Int) = 0 := by omega
  have hLp : 0 < L.length := by omega
  obtain ⟨y0, hy0, hyl0, hR0⟩ := hA.elem 0 hLp
  have hms : mixS k a most = mixL k a.shape (bsh k L[0]) L most := by
    unfold mixS
    rw [hL]
    cases L with
    | nil => exact absurd rfl hL0
    | cons b l => rfl
  rw [hms]
  have hb0 := hb8 _ (List.getElem_mem hLp)
  generalize hb : L[0] = b0 at hR0 hb0 ⊢
  obtain ⟨_, vc0, rfl, ⟨ad0, cp0, rfl, hS0⟩, -⟩ := hR0
  change Sl h25 1 ad0 (bsh k b0).length cp0 ((bsh k b0).map (Value.int .i64)) at hS0
  have hx0 : xl[0 * 9 + 0]? = some (.slice ad0 (bsh k b0).length cp0) := by rw [AllN.get4 hy0 0 (by omega)]; rfl
  have hI0 : IntsAt h25 (.slice ad0 (bsh k b0).length cp0) (bsh k b0) := ⟨_, _, rfl, hS0⟩
  have hIa : IntsAt h25 (.slice ada a.shape.length cpa) a.shape := ⟨_, _, rfl, hSa⟩
  clear hy0
  obtain ⟨s0, hs0⟩ : ∃ s0, bsh k b0 = s0 := ⟨_, rfl⟩
  refine Zerun ?_
  refine RW.make T hs rfl rfl rfl rfl rfl (by omega) (by omega) (by dsimp only; omega) (by omega) ?_
  intro b10 w10 hs
  rw [Int.toNat_natCast] at hs ⊢
  have hzl := (hs.own _ List.mem_cons_self).1.1
  generalize (madeCells _ _).toList = zs at hs hzl
  have hzl : zs.length = (L.length - 0) * 8 := hzl
  have hs : Sees w h h25 [⟨some ⟨b10, 0, none⟩, L.length, L.length, 37, 8, [] ++ zs⟩, ⟨some ⟨b2, 0, none⟩, 1, 1, 39, 9, .slice none 0 0 :: vecCells 0 (.slice none 0 0) 0 (.slice none 0 0) (.slice none 0 0) (.slice none 0 0) (.slice none 0 0) (.slice none 0 0)⟩, ⟨some ⟨b1, 0, none⟩, 1, 1, 39, 9, .slice ada a.shape.length cpa :: vecCells a.vec.kind wa na sa ia fa ga xa⟩] w10 := hs
  refine Zerun ?_
  refine CW.loop (fun u : Nat × List Value × List Value × GHeap => [(1, .int .i64 most), (2, .pointer (some ⟨b1, 0, none⟩)), (4, .pointer (some ⟨b2, 0, none⟩)), (6, .slice adl L.length cpl), (10, .slice (some ⟨b10, 0, none⟩) L.length L.length), (50, .slice adl L.length cpl), (51, .int .i64 L.length), (52, .int .i64 u.1)]) (fun u w' => u.1 ≤ L.length ∧ GLe h25 u.2.2.2 ∧ u.2.2.1.length = (L.length - u.1) * 8 ∧ AllN 8 (VecAt (ArrAt k) u.2.2.2) u.2.1 ((L.take u.1).map (bv k)) ∧ badE s0 (L.map (bsh k)) = badE s0 ((L.drop u.1).map (bsh k)) ∧ Sees w h u.2.2.2 [⟨some ⟨b10, 0, none⟩, L.length, L.length, 37, 8, u.2.1 ++ u.2.2.1⟩, ⟨some ⟨b2, 0, none⟩, 1, 1, 39, 9, .slice none 0 0 :: vecCells 0 (.slice none 0 0) 0 (.slice none 0 0) (.slice none 0 0) (.slice none 0 0) (.slice none 0 0) (.slice none 0 0)⟩, ⟨some ⟨b1, 0, none⟩, 1, 1, 39, 9, .slice ada a.shape.length cpa :: vecCells a.vec.kind wa na sa ia fa ga xa⟩] w') (fun u => L.length - u.1) (0, [], zs, h25) ⟨rfl, rfl, rfl, rfl, rfl, rfl, rfl, rfl, trivial⟩ ⟨by omega, GLe.refl _, hzl, rfl, rfl, hs⟩ ?_
  rintro ⟨i, vs, zs, hh⟩ w11 ⟨hi, hgl, hzl, hAv, hbd, hs⟩
  dsimp only at hi hgl hzl hAv hbd hs ⊢
  have hS := hS.mono hgl
  have hI0 := hI0.mono hgl
  have hIa := hIa.mono hgl
  rw [hs0] at hI0 hx0
  by_cases hlt : i < L.length
  · obtain ⟨y, hy, hyl, hRi⟩ := hA.elem _ hlt
    have htk : (L.take (i + 1)).map (bv k) = (L.take i).map (bv k) ++ [bv k L[i]] := by rw [List.take_add_one, List.getElem?_eq_getElem hlt, List.map_append]; rfl
    have hd := List.drop_eq_getElem_cons hlt
    rw [hd, List.map_cons] at hbd
    have hbi := hb8 _ (List.getElem_mem hlt)
    generalize hbie : L[i] = bi at hRi htk hbd hbi
    have hRi := ArrAt.mono (k + 1) _ _ _ _ hgl hRi
    obtain ⟨_, vci, rfl, ⟨adi, cpi, rfl, hSi⟩, hvi⟩ := hRi
    change Sl hh 1 adi (bsh k bi).length cpi ((bsh k bi).map (Value.int .i64)) at hSi
    change VecAt (ArrAt k) hh vci (bv k bi) at hvi
    change (xl.drop (i * 9)).take 9 = .slice adi (bsh k bi).length cpi :: vci at hy
    have hIi : IntsAt hh (.slice adi (bsh k bi).length cpi) (bsh k bi) := ⟨_, _, rfl, hSi⟩
    have hvi' := hvi
    obtain ⟨wi, ni, si, ii, fi, gi, xi, ⟨rfl, hoi⟩, -⟩ := hvi
    refine Zerun ?_
    (refine RW.allocN T hs rfl rfl rfl rfl ?_; intro b12 w12 hs)
    refine Zerun ?_
    (refine RW.storeAll T hs 0 rfl rfl rfl rfl rfl rfl (by show (true && (vecCells _ wi ni si ii fi gi xi).all Value.oneCell') = true; rw [hoi]; rfl) rfl ?_; intro w13 hs)
    refine Zerun ?_
    refine CW.regionQ T hs (Zeqrun ?_) (by kernel_rfl)
    intro w14 hs
    by_cases c1 : (bsh k bi).length = s0.length
    rotate_left
    · have c1' : ¬ ((bsh k bi).length : Int) = (s0.length : Int) := by omega
      have hbe : badE s0 (L.map (bsh k)) = 22 := by rw [hbd, badE, if_pos c1]
      rw [hs0, show mixL k a.shape s0 L most = (22, ⟨[], VecD.none⟩) from by unfold mixL; rw [hbe, if_pos (by decide)]]
      refine Zerun ?_
      refine RW.val (Y.build T rfl rfl rfl rfl rfl rfl rfl) rfl ?_
      refine Zerun ?_
      (refine RW.storeAll T hs 2 rfl rfl rfl rfl rfl rfl rfl rfl ?_; intro w90 hs)
      refine Zerun ?_
      exact retQ_ret [_, _] hh ⟨resN T hs 2 rfl rfl rfl rfl rfl rfl, rfl, trivial⟩ hs.dropAll ⟨_, rfl, ⟨_, _, rfl, IntsAt.nil _, vecNone _⟩⟩
    have c1' : ((bsh k bi).length : Int) = (s0.length : Int) := by omega
    refine Zerun ?_
    refine CW.regionO T hs ?_
    intro w16 hs
    refine HW.takeS (fuel := 8) 0 rfl (fun _ _ hs => Y.fieldAddr T rfl rfl rfl rfl rfl) hs rfl (by kernel_rfl) (by kernel_rfl) (by kernel_rfl) ?_
    refine HW.takeS (fuel := 7) 1 rfl (fun _ _ hs => Y.loadRow1 T hs 0 rfl rfl rfl rfl rfl) hs rfl (by kernel_rfl) (by kernel_rfl) (by kernel_rfl) ?_
    refine HW.takeS (fuel := 6) 2 rfl (fun _ _ hs => Y.move rfl) hs rfl (by kernel_rfl) (by kernel_rfl) (by kernel_rfl) ?_
    refine HW.takeS (fuel := 5) 3 rfl (fun _ _ hs => Y.idxSN (u := 0) T rfl rfl hS rfl rfl rfl (by omega)) hs rfl (by kernel_rfl) (by kernel_rfl) (by kernel_rfl) ?_
    refine HW.takeS (fuel := 4) 4 rfl (fun _ _ hs => Y.fieldE T rfl rfl rfl rfl rfl hS (by omega)) hs rfl (by kernel_rfl) (by kernel_rfl) (by kernel_rfl) ?_
    refine HW.one (fuel := 3) 5 rfl (by kernel_rfl) ?_
    refine RW.val (Y.ldQ T hs rfl hS rfl rfl (by omega) rfl hx0) rfl ?_
    refine RW.nil ?_
    refine heldQ_normal ⟨_, hs⟩ ?_
    refine HW.one (fuel := 2) 6 rfl (by kernel_rfl) ?_
    (refine RW.call T hs rfl rfl rfl (same_con _ _ (bsh k bi) s0 _ _ hIi hI0 (by omega)) ?_; intro v h75 w75 hle75 hp75 hs)
    subst hp75
    have hS := hS.mono hle75
    have hIi := hIi.mono hle75
    have hI0 := hI0.mono hle75
    have hAv := hAv.mono (fun u a hv => VecAt.mono (ArrAt.mono k) hle75 hv)
    have hgl := hgl.trans hle75
    refine RW.nil ?_
    refine heldQ_normal ⟨_, hs⟩ ?_
    refine HW.takeS (fuel := 1) 7 rfl (fun _ _ hs => Y.not rfl) hs rfl (by kernel_rfl) (by kernel_rfl) (by kernel_rfl) ?_
    refine HW.takeS (fuel := 0) 8 rfl (fun _ _ hs => Y.assign rfl) hs rfl (by kernel_rfl) (by kernel_rfl) (by kernel_rfl) ?_
    refine HW.done (by kernel_rfl) ?_
    refine calmQ_normal ?_
    by_cases c2 : bsh k bi = s0
    rotate_left
    · rw [decide_eq_false c2]
      have hbe : badE s0 (L.map (bsh k)) = 23 := by rw [hbd, badE, if_neg (fun h => h c1), if_pos c2]
      rw [hs0, show mixL k a.shape s0 L most = (23, ⟨[], VecD.none⟩) from by unfold mixL; rw [hbe, if_pos (by decide)]]
      refine Zerun ?_
      refine RW.val (Y.build T rfl rfl rfl rfl rfl rfl rfl) rfl ?_
      refine Zerun ?_
      (refine RW.storeAll T hs 2 rfl rfl rfl rfl rfl rfl rfl rfl ?_; intro w90 hs)
      refine Zerun ?_
      exact retQ_ret [_, _] h75 ⟨resN T hs 2 rfl rfl rfl rfl rfl rfl, rfl, trivial⟩ hs.dropAll ⟨_, rfl, ⟨_, _, rfl, IntsAt.nil _, vecNone _⟩⟩
    rw [decide_eq_true c2]
    rw [badE, if_neg (fun h => h c1), if_neg (fun h => h c2)] at hbd
    have hz8 : (zs.take 8).length = 8 := by
      rw [List.length_take]
      have : 8 ≤ zs.length := by rw [hzl]; omega
      omega
    have hvl : vs.length = i * 8 := by rw [hAv.length]; simp [Nat.min_eq_left hi]
    have hput := putCells_mid (vecCells (bv k bi).kind wi ni si ii fi gi xi) vs (zs.take 8) (zs.drop 8) (by rw [hz8]; rfl)
    rw [List.take_append_drop, hvl] at hput
    have hzd : (zs.drop 8).length = (L.length - (i + 1)) * 8 := by rw [List.length_drop, hzl]; omega
    refine Zerun ?_
    refine RW.val (Y.idxRN T hs 1 rfl rfl rfl rfl rfl rfl ?_) rfl ?_
    · omega
    refine RW.stN T hs 1 rfl rfl rfl rfl rfl rfl (List.all_eq_true.mp hoi) rfl (by omega) ?_
    intro w18 hs
    dsimp only [List.set_cons_succ, List.set_cons_zero] at hs
    have hs := hs.sub (List.sublist_cons_self _ _)
    have hs : Sees w h h75 [⟨some ⟨b10, 0, none⟩, L.length, L.length, 37, 8, (vs ++ vecCells (bv k bi).kind wi ni si ii fi gi xi) ++ zs.drop 8⟩, ⟨some ⟨b2, 0, none⟩, 1, 1, 39, 9, .slice none 0 0 :: vecCells 0 (.slice none 0 0) 0 (.slice none 0 0) (.slice none 0 0) (.slice none 0 0) (.slice none 0 0) (.slice none 0 0)⟩, ⟨some ⟨b1, 0, none⟩, 1, 1, 39, 9, .slice ada a.shape.length cpa :: vecCells a.vec.kind wa na sa ia fa ga xa⟩] w18 := by rw [List.append_assoc, ← hput]; exact hs
    have hnx : AllN 8 (VecAt (ArrAt k) h75) (vs ++ vecCells (bv k bi).kind wi ni si ii fi gi xi) ((L.take (i + 1)).map (bv k)) := by
      rw [htk]
      exact hAv.append (AllN.one rfl (VecAt.mono (ArrAt.mono k) hle75 hvi'))
    refine Zerun ?_
    exact loopQ_round (i + 1, vs ++ vecCells (bv k bi).kind wi ni si ii fi gi xi, zs.drop 8, h75) ⟨rfl, rfl, rfl, rfl, rfl, rfl, rfl, rfl, trivial⟩ ⟨by dsimp only; omega, hgl, hzd, hnx, hbd, hs⟩ (by dsimp only; omega)
  obtain rfl : i = L.length := by omega
  rw [List.take_length] at hAv
  rw [List.drop_length] at hbd
  have hz0 : zs = [] := List.eq_nil_of_length_eq_zero (by rw [hzl]; omega)
  rw [hz0, List.append_nil] at hs
  have hbd : badE s0 (L.map (bsh k)) = 0 := hbd
  have hmx : mixL k a.shape s0 L most = if (product (a.shape ++ s0) most).2 ≠ 0 then ((product (a.shape ++ s0) most).2, ⟨[], VecD.none⟩)
      else match joinC (-1) (L.map (bv k)) with
      | none => (24, ⟨[], VecD.none⟩)
      | some c => (newE (a.shape ++ s0) (joinedV c (L.map (bv k))), if newE (a.shape ++ s0) (joinedV c (L.map (bv k))) = 0 then ⟨a.shape ++ s0, (joinedV c (L.map (bv k))).sq⟩ else ⟨[], VecD.none⟩) := by
    unfold mixL
    rw [if_neg (fun h => h hbd)]
  rw [hs0]
  rw [← hs0] at hI0 hx0
  refine Zerun ?_
  refine CW.regionO T hs ?_
  intro w20 hs
  refine HW.takeS (fuel := 8) 0 rfl (fun _ _ hs => Y.fieldAddr T rfl rfl rfl rfl rfl) hs rfl (by kernel_rfl) (by kernel_rfl) (by kernel_rfl) ?_
  refine HW.takeS (fuel := 7) 1 rfl (fun _ _ hs => Y.loadRow1 T hs 2 rfl rfl rfl rfl rfl) hs rfl (by kernel_rfl) (by kernel_rfl) (by kernel_rfl) ?_
  refine HW.takeS (fuel := 6) 2 rfl (fun _ _ hs => Y.move rfl) hs rfl (by kernel_rfl) (by kernel_rfl) (by kernel_rfl) ?_
  refine HW.takeS (fuel := 5) 3 rfl (fun _ _ hs => Y.idxSN (u := 0) T rfl rfl hS rfl rfl rfl (by omega)) hs rfl (by kernel_rfl) (by kernel_rfl) (by kernel_rfl) ?_
  refine HW.takeS (fuel := 4) 4 rfl (fun _ _ hs => Y.fieldE T rfl rfl rfl rfl rfl hS (by omega)) hs rfl (by kernel_rfl) (by kernel_rfl) (by kernel_rfl) ?_
  refine HW.one (fuel := 3) 5 rfl (by kernel_rfl) ?_
  refine RW.val (Y.ldQ T hs rfl hS rfl rfl (by omega) rfl hx0) rfl ?_
  refine RW.nil ?_
  refine heldQ_normal ⟨_, hs⟩ ?_
  refine HW.one (fuel := 2) 6 rfl (by kernel_rfl) ?_
  (refine RW.lit T hs (vs := [.slice ada a.shape.length cpa, .slice ad0 (bsh k b0).length cp0]) (cs := [.slice ada a.shape.length cpa, .slice ad0 (bsh k b0).length cp0]) rfl rfl rfl rfl (by simp [Value.cells]) rfl rfl rfl rfl rfl ?_; intro b90 w90 hs)
  obtain ⟨h90, hle90, hs, hS90⟩ := hs.freeze
  have hS := hS.mono hle90
  have hIa := hIa.mono hle90
  have hI0 := hI0.mono hle90
  have hAv := hAv.mono (fun u a hv => VecAt.mono (ArrAt.mono k) hle90 hv)
  have hgl := hgl.trans hle90
  refine RW.nil ?_
  refine heldQ_normal ⟨_, hs⟩ ?_
  refine HW.one (fuel := 1) 7 rfl (by kernel_rfl) ?_
  have hR91 : RowsAt 1 (IntsCell h90) h90 (.slice (some ⟨b90, 0, none⟩) 2 2) [a.shape, bsh k b0] := ⟨_, _, _, rfl, hS90, (AllN.one rfl ⟨_, rfl, hIa⟩ : AllN 1 (IntsCell h90) [.slice ada a.shape.length cpa] [a.shape]).append (AllN.one rfl ⟨_, rfl, hI0⟩)⟩
  (refine RW.call T hs rfl rfl rfl (concatInt_con _ [a.shape, bsh k b0] _ _ hR91 (by show a.shape.length + ((bsh k b0).length + 0) ≤ 1048576; omega) (by simp)) ?_; intro v h91 w91 hle91 hp91 hs)
  rw [show [a.shape, bsh k b0].flatten = a.shape ++ bsh k b0 from by simp] at hp91
  have hS := hS.mono hle91
  have hIa := hIa.mono hle91
  have hI0 := hI0.mono hle91
  have hAv := hAv.mono (fun u a hv => VecAt.mono (ArrAt.mono k) hle91 hv)
  have hgl := hgl.trans hle91
  refine RW.nil ?_
  refine heldQ_normal ⟨_, hs⟩ ?_
  refine HW.takeS (fuel := 0) 8 rfl (fun _ _ hs => Y.assign rfl) hs rfl (by kernel_rfl) (by kernel_rfl) (by kernel_rfl) ?_
  refine HW.done (by kernel_rfl) ?_
  refine calmQ_normal ?_
  rw [hs0] at hp91
  have hp91' := hp91
  obtain ⟨ad91, cp91, rfl, hS91⟩ := hp91
  refine Zerun ?_
  (refine RW.call T hs rfl rfl rfl (product_con _ (a.shape ++ s0) most _ _ hp91' (by rw [List.length_append, ← hs0]; omega)) ?_; intro v h95 w95 hle95 hp95 hs)
  subst hp95
  have hp91' := hp91'.mono hle95
  have hAv := hAv.mono (fun u a hv => VecAt.mono (ArrAt.mono k) hle95 hv)
  by_cases ep : (product (a.shape ++ s0) most).2 = 0
  rotate_left
  · obtain ⟨pe, hpe⟩ : ∃ pe, (product (a.shape ++ s0) most).2 = pe := ⟨_, rfl⟩
    rw [hpe] at ep hmx ⊢
    rw [show mixL k a.shape s0 L most = (pe, ⟨[], VecD.none⟩) from by rw [hmx, if_pos ep]]
    refine Zerun ?_
    refine RW.val (Y.build T rfl rfl rfl rfl rfl rfl rfl) rfl ?_
    refine Zerun ?_
    (refine RW.storeAll T hs 1 rfl rfl rfl rfl rfl rfl rfl rfl ?_; intro w90 hs)
    refine Zerun ?_
    exact retQ_ret [_, _] h95 ⟨resN T hs 1 rfl rfl rfl rfl rfl rfl, rfl, trivial⟩ hs.dropAll ⟨_, rfl, ⟨_, _, rfl, IntsAt.nil _, vecNone _⟩⟩
  rw [if_neg (fun h => h ep)] at hmx
  rw [ep]
  refine Zerun ?_
  obtain ⟨h100, hle100, hs, hS100⟩ := hs.freeze
  have hp91' := hp91'.mono hle100
  obtain ⟨V, hV⟩ : ∃ V, L.map (bv k) = V := ⟨_, rfl⟩
  have hVl : L.length = V.length := by rw [← hV, List.length_map]
  rw [hV] at hsum hAv hmx
  rw [hVl] at hS100
  have hR100 : RowsAt 8 (VecAt (ArrAt k) h100) h100 (.slice (some ⟨b10, 0, none⟩) V.length V.length) V := ⟨_, _, _, rfl, hS100, hAv.mono (fun u a hv => VecAt.mono (ArrAt.mono k) hle100 hv)⟩
  rw [← hVl] at hR100
  refine Zerun ?_
  (refine RW.call T hs rfl rfl rfl (flatJoin_con (ArrAt.mono k) (ArrAt.one k) _ V _ _ hR100 hsum) ?_; intro v h104 w104 hle104 hp104 hs)
  obtain ⟨cs104, ok, rfl, hno, hyes⟩ := hp104
  have hp91' := hp91'.mono hle104
  rcases hj : joinC (-1) V with _ | c
  · obtain ⟨rfl, hv104⟩ := hno hj
    rw [hj] at hmx
    obtain ⟨wv, nv, sm, il, fl, ch, bx, ⟨rfl, hoc⟩, -⟩ := hv104
    refine Zerun ?_
    (refine RW.allocN T hs rfl rfl rfl rfl ?_; intro b16 w16 hs)
    (refine RW.storeAll T hs 0 rfl rfl rfl rfl rfl rfl hoc rfl ?_; intro w23 hs)
    rw [show mixL k a.shape s0 L most = (24, ⟨[], VecD.none⟩) from hmx]
    refine Zerun ?_
    refine RW.val (Y.build T rfl rfl rfl rfl rfl rfl rfl) rfl ?_
    refine Zerun ?_
    (refine RW.storeAll T hs 1 rfl rfl rfl rfl rfl rfl rfl rfl ?_; intro w90 hs)
    refine Zerun ?_
    exact retQ_ret [_, _] h104 ⟨resN T hs 1 rfl rfl rfl rfl rfl rfl, rfl, trivial⟩ hs.dropAll ⟨_, rfl, ⟨_, _, rfl, IntsAt.nil _, vecNone _⟩⟩
  obtain ⟨rfl, hv104⟩ := hyes c hj
  rw [hj] at hmx
  change VecAt (ArrAt k) h104 cs104 (joinedV c V) at hv104
  have hmx : mixL k a.shape s0 L most = (newE (a.shape ++ s0) (joinedV c V), if newE (a.shape ++ s0) (joinedV c V) = 0 then ⟨a.shape ++ s0, (joinedV c V).sq⟩ else ⟨[], VecD.none⟩) := hmx
  rw [hmx]
  clear hmx
  obtain ⟨v, hve⟩ : ∃ v, joinedV c V = v := ⟨_, rfl⟩
  rw [hve] at hv104 ⊢
  have hv104' := hv104
  obtain ⟨wv, nv, sm, il, fl, ch, bx, ⟨rfl, hoc⟩, -⟩ := hv104
  refine Zerun ?_
  (refine RW.allocN T hs rfl rfl rfl rfl ?_; intro b16 w16 hs)
  (refine RW.storeAll T hs 0 rfl rfl rfl rfl rfl rfl hoc rfl ?_; intro w23 hs)
  refine Zerun ?_
  (refine RW.call T hs rfl rfl rfl (valueNew_con (ArrAt.mono k) _ (a.shape ++ s0) _ v _ _ hp91' hv104') ?_; intro v h112 w112 hle112 hp112 hs)
  obtain ⟨cs112, rfl, hl112, ho112, hy112, hn112⟩ := hp112
  obtain ⟨x0, x1, x2, x3, x4, x5, x6, x7, x8, rfl⟩ : ∃ a0 a1 a2 a3 a4 a5 a6 a7 a8, cs112 = [a0, a1, a2, a3, a4, a5, a6, a7, a8] := by
    match cs112, hl112 with
    | [a0, a1, a2, a3, a4, a5, a6, a7, a8], _ => exact ⟨_, _, _, _, _, _, _, _, _, rfl⟩
  refine Zerun ?_
  (refine RW.storeAll T hs 1 rfl rfl rfl rfl rfl rfl (List.all_eq_true.mpr ho112) rfl ?_; intro w24 hs)
  refine Zerun ?_
  refine retQ_ret [_, _] h112 ⟨resN T hs 1 rfl rfl rfl rfl rfl rfl, rfl, trivial⟩ hs.dropAll ⟨_, rfl, ?_⟩
  by_cases e : newE (a.shape ++ s0) v = 0
  · dsimp only
    rw [if_pos e]
    exact hy112 e
  · dsimp only
    rw [if_neg e, hn112 e]
    exact ⟨_, _, rfl, IntsAt.nil _, vecNone _⟩
end Go.Proofs.YtmojpbfkpggjhaaGreat

/-
  Contracts of the document's Mix: boxes' arrays put into one, errors told. No statement is proved here.
-/
namespace Go.Proofs.YtmojpbfkpggjhaaGreat
open Go Go.RowKit
set_option linter.unusedVariables false
set_option linter.unusedSimpArgs false
set_option maxHeartbeats 4000000
attribute [local irreducible] CW RW QW SW HW ConM retM heldQ calmQ elemP thenQ blockQ loopQ joinQ retQ Yields Con Sl zF magR unitF truncF fwF wholeF tidySpec elemQ rankF leastN tidyW
set_option maxHeartbeats 4000000

def psh (k : Nat) (b : PD (k + 1)) : List Int := PlainD.shape (α := PD k) b
def bxs {β : Type} (p : PlainD β) : List β := p.items.flatMap (·.box)
abbrev pl {k : Nat} (l : List (PD (k + 1))) : List (PlainD (PD k)) := l
def s0R (k : Nat) (B : List (PD (k + 1))) : List Int := match B with
  | [] => [0]
  | b :: _ => psh k b
def mixR (k : Nat) (p : PlainD (PD (k + 1))) (most : Int) : Int × PlainD (PD k) :=
  if badE (s0R k (bxs p)) ((bxs p).map (psh k)) ≠ 0 then (badE (s0R k (bxs p)) ((bxs p).map (psh k)), nilP)
  else if (product (p.shape ++ s0R k (bxs p)) most).2 ≠ 0 then ((product (p.shape ++ s0R k (bxs p)) most).2, nilP)
  else match joinP (-1) (pl (bxs p)) with
    | none => (24, nilP)
    | some c => (0, ⟨p.shape ++ s0R k (bxs p), (pl (bxs p)).flatMap (·.items), if 0 ≤ c then c else headF (pl (bxs p))⟩)
theorem bxs_len {β : Type} : ∀ (l : List (ItemD β)), (∀ x ∈ l, ∃ b, x.box = [b]) → ∀ i, i ≤ l.length → ((l.take i).flatMap (·.box)).length = i
  | _, _, 0, _ => by simp
  | [], _, i + 1, h => by simp at h
  | x :: l, hb, i + 1, h => by
    obtain ⟨b, e⟩ := hb x List.mem_cons_self
    rw [List.take_succ_cons, List.flatMap_cons, e, List.length_append, bxs_len l (fun y hy => hb y (List.mem_cons_of_mem _ hy)) i (by simpa using h)]
    simp
    omega
end Go.Proofs.YtmojpbfkpggjhaaGreat
