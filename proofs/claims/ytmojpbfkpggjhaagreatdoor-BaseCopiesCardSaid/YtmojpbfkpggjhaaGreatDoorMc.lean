/-
  Own texts of the claim, merged: Ja, Jb, Jc, Jd, Je, Ka, PlainN, PlainT, Sa, LibX, Pa, Sb, Sc, Sd, Il, Im, On, Se, Sf, PlainU, Si, Sj, PlAe, Va, Vb, Vc, Sg, Kb, Kc, Kd, Ke, Kf, Kg, Kh, Kj, Sh, Fc, Fd, Fe, Vd. Lemmas of the proof; no statement is proved here.
-/
import Derived.Test.YtmojpbfkpggjhaaGreatDoorMb
/-
  Contracts of functions of packages vec and flat: no elements, what stands for none, elements of a list at some places. No statement is proved here.
-/
namespace Go.Proofs.YtmojpbfkpggjhaaGreatDoor
open Go Go.RowKit
set_option linter.unusedVariables false
set_option linter.unusedSimpArgs false
set_option maxHeartbeats 4000000
attribute [local irreducible] CW RW QW SW HW ConM retM heldQ calmQ elemP thenQ blockQ loopQ joinQ retQ Yields Con Sl zF magR unitF truncF fwF wholeF tidySpec elemQ rankF leastN tidyW

theorem bits_none (h : GHeap) : BitsAt h (.slice none 0 0) [] := ⟨Nat.zero_le _, [], RowAt.nil h, ⟨rfl, ⟨fun u hu => (by cases hu), fun i => (by simp)⟩⟩⟩
theorem putCells_mid : ∀ (cs pre mid suf : List Value), mid.length = cs.length → putCells (pre ++ (mid ++ suf)) pre.length cs = pre ++ (cs ++ suf)
  | [], pre, mid, suf, h => by
    have : mid = [] := List.eq_nil_of_length_eq_zero h
    subst this; rfl
  | c :: r, pre, [], suf, h => by simp at h
  | c :: r, pre, m :: mid, suf, h => by
    simp only [putCells]
    have e : (pre ++ (m :: mid ++ suf)).set pre.length c = (pre ++ [c]) ++ (mid ++ suf) := by simp
    rw [e]
    have := putCells_mid r (pre ++ [c]) mid suf (by simpa using h)
    simp only [List.length_append, List.length_singleton] at this
    rw [this]
    simp
section
variable {α : Type} {R : GHeap → List Value → α → Prop}
/-- no elements of a class -/
def noneV (c : Int) : VecD α := if c = 1 then ⟨5, [], [], []⟩ else if c = 2 then ⟨6, [], [], []⟩ else ⟨1, [], [], []⟩
theorem vecNone_con (hR : Mono R) (h1 : One R) (c : Int) (w : World) (h : GHeap) : Con Tryz.prog 137 [.int .i64 c] w h (fun h' u => ∃ cs', u = .agg cs'.toArray ∧ VecAt R h' cs' (noneV c)) := by
  refine Con.of_body Tryz.func137 rfl Tryz.ntmps137 rfl rfl ?_
  intro hs
  refine Zrun ?_
  (refine RW.allocN T hs rfl rfl rfl rfl ?_; intro b1 w1 hs)
  refine Zerun ?_
  unfold noneV
  by_cases c1 : c = 1
  · rw [if_pos c1]
    refine Zerun ?_
    (refine RW.call T hs rfl rfl rfl (vecChars_con (R := R) _ [] _ _ (RowAt.nil _) (by simp)) ?_; intro v h2 w2 hle2 hp2 hs)
    obtain ⟨cs2, rfl, hv2⟩ := hp2
    have hv2' := hv2
    obtain ⟨wv, nv, sm, il, fl, ch, bx, ⟨rfl, hoc⟩, _⟩ := hv2
    (refine RW.storeAll T hs 0 rfl rfl rfl rfl rfl rfl hoc rfl ?_; intro w3 hs)
    refine Zerun ?_
    exact retQ_ret [_] h2 ⟨resN T hs 0 rfl rfl rfl rfl rfl rfl, trivial⟩ hs.dropAll ⟨_, rfl, hv2'⟩
  rw [if_neg c1]
  by_cases c2 : c = 2
  · rw [if_pos c2]
    refine Zerun ?_
    (refine RW.call T hs rfl rfl rfl (vecBoxes_con (R := R) hR h1 _ [] _ _ (RowsAt.nil _) (by simp)) ?_; intro v h2 w2 hle2 hp2 hs)
    obtain ⟨cs2, rfl, hv2⟩ := hp2
    have hv2' := hv2
    obtain ⟨wv, nv, sm, il, fl, ch, bx, ⟨rfl, hoc⟩, _⟩ := hv2
    (refine RW.storeAll T hs 0 rfl rfl rfl rfl rfl rfl hoc rfl ?_; intro w3 hs)
    refine Zerun ?_
    exact retQ_ret [_] h2 ⟨resN T hs 0 rfl rfl rfl rfl rfl rfl, trivial⟩ hs.dropAll ⟨_, rfl, hv2'⟩
  rw [if_neg c2]
  refine Zerun ?_
  refine RW.val (Y.build T rfl rfl rfl rfl rfl rfl rfl) rfl ?_
  (refine RW.call T hs rfl rfl rfl (vecBits_con (R := R) _ [] _ _ (bits_none _)) ?_; intro v h2 w2 hle2 hp2 hs)
  obtain ⟨cs2, rfl, hv2⟩ := hp2
  have hv2' := hv2
  obtain ⟨wv, nv, sm, il, fl, ch, bx, ⟨rfl, hoc⟩, _⟩ := hv2
  (refine RW.storeAll T hs 0 rfl rfl rfl rfl rfl rfl hoc rfl ?_; intro w3 hs)
  refine Zerun ?_
  exact retQ_ret [_] h2 ⟨resN T hs 0 rfl rfl rfl rfl rfl rfl, trivial⟩ hs.dropAll ⟨_, rfl, hv2'⟩
theorem flatBlank_con (hR : Mono R) (h1 : One R) (w : World) (h : GHeap) : Con Tryz.prog 98 [] w h (fun h' u => ∃ cs', u = .agg cs'.toArray ∧ ArrR R h' cs' ⟨[0], ⟨1, [], [], []⟩⟩) := by
  refine Con.of_body Tryz.func98 rfl Tryz.ntmps98 rfl rfl ?_
  intro hs
  refine Zrun ?_
  (refine RW.allocN T hs rfl rfl rfl rfl ?_; intro b1 w1 hs)
  refine Zerun ?_
  (refine RW.lit T hs (vs := [.int .i64 0]) (cs := [.int .i64 0]) rfl rfl rfl rfl (by simp [Value.cells]) rfl rfl rfl rfl rfl ?_; intro b2 w2 hs)
  obtain ⟨h3, hle3, hs, hS3⟩ := hs.freeze
  have hI3 : IntsAt h3 (.slice (some ⟨b2, 0, none⟩) 1 1) [0] := IntsAt.of_sl hS3
  (refine RW.call T hs rfl rfl rfl (vecNone_con (R := R) hR h1 0 _ _) ?_; intro v h4 w4 hle4 hp4 hs)
  obtain ⟨cs4, rfl, hv4⟩ := hp4
  have hv4' : VecAt R h4 cs4 ⟨1, [], [], []⟩ := hv4
  have hv5 := hv4'
  obtain ⟨wv, nv, sm, il, fl, ch, bx, ⟨rfl, hoc⟩, _⟩ := hv5
  refine RW.val (Y.build T rfl rfl rfl rfl rfl rfl rfl) rfl ?_
  (refine RW.storeAll T hs 0 rfl rfl rfl rfl rfl rfl hoc rfl ?_; intro w5 hs)
  refine Zerun ?_
  exact retQ_ret [_] h4 ⟨resN T hs 0 rfl rfl rfl rfl rfl rfl, trivial⟩ hs.dropAll ⟨_, rfl, _, _, rfl, hI3.mono hle4, hv4'⟩
theorem flatFrom_con (cs : List Value) (v : VecD α) (i : Int) (w : World) (h : GHeap) (hv : VecAt R h cs v) : Con Tryz.prog 91 [.agg cs.toArray, .int .i64 i] w h (fun _ u => u = .float .f64 (v.num i)) := by
  have hv' := hv
  obtain ⟨wv, nv, sm, il, fl, ch, bx, ⟨rfl, hoc⟩, _⟩ := hv
  refine Con.of_body Tryz.func91 rfl Tryz.ntmps91 rfl rfl ?_
  intro hs
  refine Zrun ?_
  (refine RW.boxN hs rfl rfl ?_; intro b1 w1 hs)
  refine Zerun ?_
  (refine RW.call T hs rfl rfl rfl (vecNum_con _ v i _ _ hv') ?_; intro v h2 w2 hle2 hp2 hs)
  subst hp2
  refine Zerun ?_
  exact retQ_ret [_] h2 ⟨rfl, trivial⟩ hs.dropAll rfl
end
/-- the elements of a list at a place; another one, where there is no such place -/
def atD {γ : Type} (l : List γ) (i : Int) (d : γ) : γ := if 0 ≤ i then l.getD i.toNat d else d
theorem atD_in {γ : Type} {l : List γ} {i : Int} {d : γ} (h : 0 ≤ i ∧ i < l.length) : atD l i d = l.getD i.toNat d := by unfold atD; rw [if_pos h.1]
theorem atD_out {γ : Type} {l : List γ} {i : Int} {d : γ} (h : ¬ (0 ≤ i ∧ i < l.length)) : atD l i d = d := by
  unfold atD
  by_cases c : 0 ≤ i
  · rw [if_pos c, List.getD_eq_getElem?_getD, List.getElem?_eq_none (by omega)]; rfl
  · rw [if_neg c]
theorem getD_any {γ : Type} (l : List γ) (k : Nat) (a b : γ) (h : k < l.length) : l.getD k a = l.getD k b := by simp [List.getD_eq_getElem?_getD, h]
theorem getElem_getD {γ : Type} (l : List γ) (k : Nat) (d : γ) (h : k < l.length) : l[k] = l.getD k d := by simp [List.getD_eq_getElem?_getD, h]
theorem set_again {β : Type} (a r : List β) (z v : β) : ((a ++ [z]) ++ r).set a.length v = (a ++ [v]) ++ r := by simp
theorem thoseRune_con (v v1 : Value) (l at_ : List Int) (d : Int) (w : World) (h : GHeap) (hl : KAt .i32 h v l) (ha : IntsAt h v1 at_) (hm : at_.length ≤ 1048576) : Con Tryz.prog 93 [v, v1, .int .i32 d] w h (fun h' u => KAt .i32 h' u (at_.map fun i => atD l i d)) := by
  obtain ⟨ad, cp, rfl, hS⟩ := hl
  obtain ⟨ad1, cp1, rfl, hS1⟩ := ha
  have hlen : l.length ≤ 9223372036854775807 := by have := hS.caps; omega
  refine Con.of_body Tryz.func93 rfl Tryz.ntmps93 rfl rfl ?_
  intro hs
  refine Zerun ?_
  (refine RW.make1 T hs rfl rfl rfl rfl rfl rfl rfl (by dsimp only; omega) (by omega) ?_; intro b3 w3 hs)
  refine Zerun ?_
  refine CW.loop (fun i : Nat => [(0, .slice ad l.length cp), (1, .slice ad1 at_.length cp1), (2, .int .i32 d), (7, .slice (some ⟨b3, 0, none⟩) at_.length at_.length), (13, .slice ad1 at_.length cp1), (14, .int .i64 at_.length), (15, .int .i64 i)]) (fun i w' => i ≤ at_.length ∧ Sees w h h [⟨some ⟨b3, 0, none⟩, at_.length, at_.length, 21, 1, ((at_.take i).map fun i => atD l i d).map (Value.int .i32) ++ List.replicate (at_.length - i) (.int .i32 0)⟩] w') (fun i => at_.length - i) 0 ⟨rfl, rfl, rfl, rfl, rfl, rfl, rfl, trivial⟩ ⟨by omega, by simpa using hs⟩ ?_
  rintro i w5 ⟨hi, hs⟩
  by_cases hlt : i < at_.length
  · have htk := take_succ_getD at_ i 0 hlt
    have ga := map_get (Value.int .i64) at_ i 0 hlt
    have fin : ∀ x : Int, x = atD l (at_.getD i 0) d → ((at_.take i).map fun i => atD l i d).map (Value.int .i32) ++ [Value.int .i32 x] ++ List.replicate (at_.length - i - 1) (.int .i32 0) = ((at_.take (i + 1)).map fun i => atD l i d).map (Value.int .i32) ++ List.replicate (at_.length - (i + 1)) (.int .i32 0) := by
      intro x hx
      rw [htk, List.map_append, List.map_append, hx, show at_.length - (i + 1) = at_.length - i - 1 by omega]; rfl
    have e1 := set_snoc (((at_.take i).map fun i => atD l i d).map (Value.int .i32)) (at_.length - i) (Value.int .i32 0) (Value.int .i32 d) (by omega)
    simp only [List.length_map, List.length_take, Nat.min_eq_left hi] at e1
    refine Zerun ?_
    refine RW.val (Y.idxRN T hs 0 rfl rfl rfl rfl rfl rfl ?_) rfl ?_
    · omega
    refine RW.st1 T hs 0 rfl rfl rfl rfl rfl rfl rfl (by omega) ?_
    intro w6 hs
    replace hs := hs.re e1
    refine Zerun ?_
    have done : ∀ (x : Int) (w' : World), x = atD l (at_.getD i 0) d → Sees w h h [⟨some ⟨b3, 0, none⟩, at_.length, at_.length, 21, 1, ((at_.take i).map fun i => atD l i d).map (Value.int .i32) ++ [Value.int .i32 x] ++ List.replicate (at_.length - i - 1) (.int .i32 0)⟩] w' → Sees w h h [⟨some ⟨b3, 0, none⟩, at_.length, at_.length, 21, 1, ((at_.take (i + 1)).map fun i => atD l i d).map (Value.int .i32) ++ List.replicate (at_.length - (i + 1)) (.int .i32 0)⟩] w' := fun x w' hx hs => hs.re (fin x hx)
    by_cases c1 : at_.getD i 0 < 0
    · refine Zerun ?_
      exact loopQ_round (i + 1) ⟨rfl, rfl, rfl, rfl, rfl, rfl, rfl, trivial⟩ ⟨by omega, done d _ (atD_out (by omega)).symm hs⟩ (by omega)
    by_cases c2 : ¬ at_.getD i 0 < l.length
    · refine Zerun ?_
      exact loopQ_round (i + 1) ⟨rfl, rfl, rfl, rfl, rfl, rfl, rfl, trivial⟩ ⟨by omega, done d _ (atD_out (by omega)).symm hs⟩ (by omega)
    have hlk : (at_.getD i 0).toNat < l.length := by omega
    refine Zerun ?_
    refine RW.val (Y.idxRN T hs 0 rfl rfl rfl rfl rfl rfl ?_) rfl ?_
    · omega
    refine RW.st1 T hs 0 rfl rfl rfl rfl rfl rfl rfl (by omega) ?_
    intro w7 hs
    have e2 := set_again (((at_.take i).map fun i => atD l i d).map (Value.int .i32)) (List.replicate (at_.length - i - 1) (.int .i32 0)) (Value.int .i32 d) (Value.int .i32 (l.getD (at_.getD i 0).toNat 0))
    simp only [List.length_map, List.length_take, Nat.min_eq_left hi] at e2
    replace hs := hs.re e2
    refine Zerun ?_
    refine loopQ_round (i + 1) ⟨rfl, rfl, rfl, rfl, rfl, rfl, rfl, trivial⟩ ⟨by omega, done _ _ ?_ hs⟩ (by omega)
    rw [atD_in (by omega)]
    exact getD_any l _ 0 d hlk
  · obtain rfl : i = at_.length := by omega
    rw [List.take_length, Nat.sub_self, List.replicate_zero, List.append_nil] at hs
    obtain ⟨h6, hle6, hs, hS6⟩ := hs.freeze
    refine Zerun ?_
    refine retQ_ret [_] h6 ⟨rfl, trivial⟩ hs.dropAll ?_
    have := RowAt.of_sl (mk := Value.int .i32) hS6
    exact this
theorem length_zeros (n : Nat) : (madeCells (#[.slice none 0 0, .int .i64 0, .slice none 0 0, .int .i64 0, .slice none 0 0, .slice none 0 0, .slice none 0 0, .slice none 0 0, .slice none 0 0] : Array Value) (n * 9)).toList.length = n * 9 := by
  simp [madeCells]
section
variable {α : Type} {R : GHeap → List Value → α → Prop}
theorem thoseArr_con (hR : Mono R) (h1 : One R) (h9 : Siz 9 R) (v v1 : Value) (l : List α) (at_ : List Int) (cs : List Value) (d : α) (w : World) (h : GHeap) (hl : RowsAt 9 (R h) h v l) (ha : IntsAt h v1 at_) (hd : R h cs d) (hm : at_.length ≤ 1048576) : Con Tryz.prog 96 [v, v1, .agg cs.toArray] w h (fun h' u => RowsAt 9 (R h') h' u (at_.map fun i => atD l i d)) := by
  obtain ⟨ad, cp, xs, rfl, hS, hA⟩ := hl
  obtain ⟨ad1, cp1, rfl, hS1⟩ := ha
  have hlen : l.length ≤ 9223372036854775807 := by have := hS.caps; omega
  have hl9 := h9 _ _ _ hd
  have ho9 := h1 _ _ _ hd
  refine Con.of_body Tryz.func96 rfl Tryz.ntmps96 rfl rfl ?_
  intro hs
  refine Zrun ?_
  (refine RW.boxN hs rfl rfl ?_; intro b1 w1 hs)
  refine Zerun ?_
  (refine RW.make T hs rfl rfl rfl rfl rfl ?_ ?_ ?_ ?_ ?_; omega; omega; (dsimp only; omega); omega; intro b3 w3 hs)
  rw [Int.toNat_natCast] at hs ⊢
  have hzl := length_zeros at_.length
  generalize hz : (madeCells (#[.slice none 0 0, .int .i64 0, .slice none 0 0, .int .i64 0, .slice none 0 0, .slice none 0 0, .slice none 0 0, .slice none 0 0, .slice none 0 0] : Array Value) (at_.length * 9)).toList = zs at hzl
  have hs : Sees w h h [⟨some ⟨b3, 0, none⟩, at_.length, at_.length, 40, 9, [] ++ zs⟩, ⟨some ⟨b1, 0, none⟩, 1, 1, 40, cs.length, cs⟩] w3 := by rw [← hz]; exact hs
  refine Zerun ?_
  refine CW.loop (fun u : Nat × List Value × List Value => [(0, .slice ad l.length cp), (1, .slice ad1 at_.length cp1), (5, .pointer (some ⟨b1, 0, none⟩)), (7, .slice (some ⟨b3, 0, none⟩) at_.length at_.length), (13, .slice ad1 at_.length cp1), (14, .int .i64 at_.length), (15, .int .i64 u.1)]) (fun u w' => u.1 ≤ at_.length ∧ u.2.2.length = (at_.length - u.1) * 9 ∧ AllN 9 (R h) u.2.1 ((at_.take u.1).map fun i => atD l i d) ∧ Sees w h h [⟨some ⟨b3, 0, none⟩, at_.length, at_.length, 40, 9, u.2.1 ++ u.2.2⟩, ⟨some ⟨b1, 0, none⟩, 1, 1, 40, cs.length, cs⟩] w') (fun u => at_.length - u.1) (0, [], zs) ⟨rfl, rfl, rfl, rfl, rfl, rfl, rfl, trivial⟩ ⟨by omega, by simpa using hzl, rfl, hs⟩ ?_
  rintro ⟨i, vs, zs⟩ w5 ⟨hi, hzl, hAv, hs⟩
  dsimp only at hi hzl hAv hs ⊢
  by_cases hlt : i < at_.length
  · have htk := take_succ_getD at_ i 0 hlt
    have ga := map_get (Value.int .i64) at_ i 0 hlt
    have hvl : vs.length = i * 9 := by rw [hAv.length]; simp [Nat.min_eq_left hi]
    have hz9 : (zs.take 9).length = 9 := by rw [List.length_take]; have : 9 ≤ zs.length := by rw [hzl]; omega
                                            omega
    have hput := putCells_mid cs vs (zs.take 9) (zs.drop 9) (by rw [hz9, hl9])
    rw [List.take_append_drop, hvl] at hput
    have hzd : (zs.drop 9).length = (at_.length - (i + 1)) * 9 := by rw [List.length_drop, hzl]; omega
    refine Zerun ?_
    refine RW.val (Y.loadRowN (cs := cs) T hs 1 rfl rfl rfl rfl rfl (List.take_of_length_le (by rw [List.drop_zero]; exact Nat.le_of_eq hl9)) hl9) rfl ?_
    refine RW.val (Y.idxRN T hs 0 rfl rfl rfl rfl rfl rfl ?_) rfl ?_
    · omega
    refine RW.stN T hs 0 rfl rfl rfl rfl rfl (by simpa using hl9) (by simpa using ho9) rfl (by omega) ?_
    intro w6 hs
    have hs : Sees w h h [⟨some ⟨b3, 0, none⟩, at_.length, at_.length, 40, 9, vs ++ (cs ++ zs.drop 9)⟩, ⟨some ⟨b1, 0, none⟩, 1, 1, 40, cs.length, cs⟩] w6 := by rw [← hput]; exact hs
    have hlen2 : ∀ ys : List Value, ys.length = 9 → (vs ++ (ys ++ zs.drop 9)) = (vs ++ ys) ++ zs.drop 9 := fun ys _ => by simp
    have done : ∀ (ys : List Value) (x : α), R h ys x → x = atD l (at_.getD i 0) d → AllN 9 (R h) (vs ++ ys) ((at_.take (i + 1)).map fun i => atD l i d) := by
      intro ys x hy hx
      rw [htk, List.map_append]
      show AllN 9 (R h) (vs ++ ys) (_ ++ [atD l (at_.getD i 0) d])
      rw [← hx]
      exact hAv.append (AllN.one (h9 _ _ _ hy) hy)
    refine Zerun ?_
    by_cases c1 : at_.getD i 0 < 0
    · refine Zerun ?_
      exact loopQ_round (i + 1, vs ++ cs, zs.drop 9) ⟨rfl, rfl, rfl, rfl, rfl, rfl, rfl, trivial⟩ ⟨by dsimp only; omega, hzd, done cs d hd (atD_out (by omega)).symm, by dsimp only; rw [← hlen2 cs hl9]; exact hs⟩ (by dsimp only; omega)
    by_cases c2 : ¬ at_.getD i 0 < l.length
    · refine Zerun ?_
      exact loopQ_round (i + 1, vs ++ cs, zs.drop 9) ⟨rfl, rfl, rfl, rfl, rfl, rfl, rfl, trivial⟩ ⟨by dsimp only; omega, hzd, done cs d hd (atD_out (by omega)).symm, by dsimp only; rw [← hlen2 cs hl9]; exact hs⟩ (by dsimp only; omega)
    have hlk : (at_.getD i 0).toNat < l.length := by omega
    obtain ⟨y, hy, hyl, hRy⟩ := hA.elem _ hlk
    have hoy := h1 _ _ _ hRy
    refine Zerun ?_
    refine RW.val (Y.idxRN T hs 0 rfl rfl rfl rfl rfl rfl ?_) rfl ?_
    · omega
    refine RW.stN T hs 0 rfl rfl rfl rfl rfl (by simpa using hyl) (by simpa using hoy) rfl (by omega) ?_
    intro w7 hs
    have hput2 := putCells_mid y vs cs (zs.drop 9) (by rw [hl9, hyl])
    rw [hvl] at hput2
    have hs : Sees w h h [⟨some ⟨b3, 0, none⟩, at_.length, at_.length, 40, 9, vs ++ (y ++ zs.drop 9)⟩, ⟨some ⟨b1, 0, none⟩, 1, 1, 40, cs.length, cs⟩] w7 := by rw [← hput2]; exact hs
    refine Zerun ?_
    refine loopQ_round (i + 1, vs ++ y, zs.drop 9) ⟨rfl, rfl, rfl, rfl, rfl, rfl, rfl, trivial⟩ ⟨by dsimp only; omega, hzd, done y _ hRy ?_, by dsimp only; rw [← hlen2 y hyl]; exact hs⟩ (by dsimp only; omega)
    exact (getElem_getD l _ d hlk).trans (atD_in (by omega)).symm
  · obtain rfl : i = at_.length := by omega
    rw [List.take_length] at hAv
    have hz0 : zs = [] := List.eq_nil_of_length_eq_zero (by rw [hzl]; omega)
    subst hz0
    obtain ⟨h6, hle6, hs, hS6⟩ := hs.freeze
    refine Zerun ?_
    refine retQ_ret [_] h6 ⟨rfl, trivial⟩ hs.dropAll ⟨some ⟨b3, 0, none⟩, at_.length, vs, by simp [packv], ?_, hAv.mono (fun u a => hR _ _ u a hle6)⟩
    simpa using hS6
end
end Go.Proofs.YtmojpbfkpggjhaaGreatDoor

/-
  Contracts of functions of package flat: elements picked. No statement is proved here.
-/
namespace Go.Proofs.YtmojpbfkpggjhaaGreatDoor
open Go Go.RowKit
set_option linter.unusedVariables false
set_option linter.unusedSimpArgs false
set_option maxHeartbeats 4000000
attribute [local irreducible] CW RW QW SW HW ConM retM heldQ calmQ elemP thenQ blockQ loopQ joinQ retQ Yields Con Sl zF magR unitF truncF fwF wholeF tidySpec elemQ rankF leastN tidyW
set_option maxHeartbeats 4000000

theorem wholeF_bounds (x : Nat) : -9007199254740992 ≤ (wholeF x).1 ∧ (wholeF x).1 ≤ 9007199254740992 := by
  unfold wholeF
  split
  · rename_i h; exact trunc_bounds x h
  · constructor <;> decide
section
variable {α : Type} {R : GHeap → List Value → α → Prop}
theorem flatPickBits_con (hR : Mono R) (cs : List Value) (v : VecD α) (v1 : Value) (at_ : List Int) (bs : List Bool) (w : World) (h : GHeap) (hv : VecAt R h cs v) (hbs : v = ⟨1, bs.map bitF, [], []⟩) (ha : IntsAt h v1 at_) (hm : at_.length ≤ 1048576) : Con Tryz.prog 88 [.agg cs.toArray, v1] w h (fun h' u => ∃ cs', u = .agg cs'.toArray ∧ VecAt R h' cs' ⟨1, (at_.map fun i => bitAt bs i).map bitF, [], []⟩) := by
  obtain ⟨ad1, cp1, rfl, hS1⟩ := ha
  have hv' := hv
  obtain ⟨wv, nv, sm, il, fl, ch, bx, ⟨rfl, hoc⟩, hk⟩ := hv
  clear hk
  refine Con.of_body Tryz.func88 rfl Tryz.ntmps88 rfl rfl ?_
  intro hs
  refine Zrun ?_
  (refine RW.boxN hs rfl rfl ?_; intro b1 w1 hs)
  (refine RW.allocN T hs rfl rfl rfl rfl ?_; intro b2 w2 hs)
  refine Zerun ?_
  (refine RW.call T hs rfl rfl rfl (vecPacked_con _ v _ _ hv') ?_; intro v h3 w3 hle3 hp3 hs)
  obtain ⟨wv3, bs3, rfl, hb3, hb3', _⟩ := hp3
  have hbb : bs3 = bs := by
    have e := hb3' (by rw [hbs])
    rw [hbs] at e
    have e2 : bs.map bitF = bs3.map bitF := by injection e
    have inj : ∀ a b : Bool, bitF a = bitF b → a = b := by decide
    have key : ∀ (a b : List Bool), a.map bitF = b.map bitF → a = b := by
      intro a
      induction a with
      | nil => intro b hb; cases b with
        | nil => rfl
        | cons => simp at hb
      | cons x a ih => intro b hb; cases b with
        | nil => simp at hb
        | cons y b =>
          simp only [List.map_cons, List.cons.injEq] at hb
          rw [inj x y hb.1, ih b hb.2]
    exact (key _ _ e2).symm
  subst hbb
  have hb3'' := hb3
  obtain ⟨_, ws3, ⟨ad3, cp3, rfl, _⟩, _⟩ := hb3
  have hS1 := hS1.mono hle3
  refine Zerun ?_
  (refine RW.allocN T hs rfl rfl rfl rfl ?_; intro b4 w4 hs)
  (refine RW.storeAll T hs 0 rfl rfl rfl rfl rfl rfl rfl rfl ?_; intro w5 hs)
  refine Zerun ?_
  (refine RW.make1 T hs rfl rfl rfl rfl rfl rfl rfl (by dsimp only; omega) (by omega) ?_; intro b6 w6 hs)
  refine Zerun ?_
  refine CW.loop (fun u : Nat × GHeap => [(1, .slice ad1 at_.length cp1), (2, .pointer (some ⟨b1, 0, none⟩)), (4, .pointer (some ⟨b2, 0, none⟩)), (5, .pointer (some ⟨b4, 0, none⟩)), (7, .slice (some ⟨b6, 0, none⟩) at_.length at_.length), (18, .slice ad1 at_.length cp1), (19, .int .i64 at_.length), (20, .int .i64 u.1)]) (fun u w' => u.1 ≤ at_.length ∧ GLe h3 u.2 ∧ Sees w h u.2 [⟨some ⟨b6, 0, none⟩, at_.length, at_.length, 4, 1, ((at_.take u.1).map fun i => bitAt bs3 i).map Value.bool ++ List.replicate (at_.length - u.1) (.bool false)⟩, ⟨some ⟨b4, 0, none⟩, 1, 1, 31, 2, [.slice ad3 ws3.length cp3, .int .i64 bs3.length]⟩, ⟨some ⟨b2, 0, none⟩, 1, 1, 38, 8, vecCells 0 (.slice none 0 0) 0 (.slice none 0 0) (.slice none 0 0) (.slice none 0 0) (.slice none 0 0) (.slice none 0 0)⟩, ⟨some ⟨b1, 0, none⟩, 1, 1, 38, 8, vecCells v.kind wv nv sm il fl ch bx⟩] w') (fun u => at_.length - u.1) (0, h3) ⟨rfl, rfl, rfl, rfl, rfl, rfl, rfl, rfl, trivial⟩ ⟨by omega, GLe.refl _, by simp only [List.take_zero, List.map_nil, List.nil_append, Nat.sub_zero]; exact hs⟩ ?_
  rintro ⟨i, hh⟩ w7 ⟨hi, hg, hs⟩
  dsimp only at hi hg hs ⊢
  have hS1 := hS1.mono hg
  have hb' := hb3''.mono hg
  by_cases hlt : i < at_.length
  · have htk := take_succ_getD at_ i 0 hlt
    refine Zerun ?_
    (refine RW.call T hs rfl rfl rfl (bitsAt_con _ bs3 (at_.getD i 0) _ _ hb') ?_; intro v h8 w8 hle8 hp8 hs)
    subst hp8
    refine RW.val (Y.idxRN T hs 0 rfl rfl rfl rfl rfl rfl ?_) rfl ?_
    · omega
    refine RW.st1 T hs 0 rfl rfl rfl rfl rfl rfl rfl (by omega) ?_
    intro w9 hs
    have e1 := set_snoc (((at_.take i).map fun i => bitAt bs3 i).map Value.bool) (at_.length - i) (Value.bool false) (Value.bool (bitAt bs3 (at_.getD i 0))) (by omega)
    simp only [List.length_map, List.length_take, Nat.min_eq_left hi] at e1
    have e2 : ((at_.take i).map fun i => bitAt bs3 i).map Value.bool ++ [Value.bool (bitAt bs3 (at_.getD i 0))] ++ List.replicate (at_.length - i - 1) (.bool false) = ((at_.take (i + 1)).map fun i => bitAt bs3 i).map Value.bool ++ List.replicate (at_.length - (i + 1)) (.bool false) := by
      rw [htk, List.map_append, List.map_append, show at_.length - (i + 1) = at_.length - i - 1 by omega]; rfl
    replace hs := hs.re (e1.trans e2)
    refine Zerun ?_
    exact loopQ_round (i + 1, h8) ⟨rfl, rfl, rfl, rfl, rfl, rfl, rfl, rfl, trivial⟩ ⟨by dsimp only; omega, hg.trans hle8, hs⟩ (by dsimp only; omega)
  · obtain rfl : i = at_.length := by omega
    rw [List.take_length, Nat.sub_self, List.replicate_zero, List.append_nil] at hs
    obtain ⟨h8, hle8, hs, hS8⟩ := hs.freeze
    have hT8 : TAt h8 (.slice (some ⟨b6, 0, none⟩) at_.length at_.length) (at_.map fun i => bitAt bs3 i) := RowAt.of_sl hS8
    refine Zerun ?_
    (refine RW.call T hs rfl rfl rfl (bitsPack_con _ _ _ _ hT8 (by simpa using hm)) ?_; intro v h9 w9 hle9 hp9 hs)
    obtain ⟨wv9, rfl, hb9⟩ := hp9
    (refine RW.call T hs rfl rfl rfl (vecBits_con (R := R) _ _ _ _ hb9) ?_; intro v h10 w10 hle10 hp10 hs)
    obtain ⟨cs10, rfl, hv10⟩ := hp10
    have hv10' := hv10
    obtain ⟨wv', nv', sm', il', fl', ch', bx', ⟨rfl, hoc'⟩, _⟩ := hv10
    (refine RW.storeAll T hs 1 rfl rfl rfl rfl rfl rfl hoc' rfl ?_; intro w11 hs)
    refine Zerun ?_
    exact retQ_ret [_] h10 ⟨resN T hs 1 rfl rfl rfl rfl rfl rfl, trivial⟩ hs.dropAll ⟨_, rfl, hv10'⟩
/-- the elements at some places -/
def VecD.pick (v : VecD α) (at_ : List Int) (nb : α) : VecD α :=
  if v.kind = 5 then ⟨5, [], at_.map (fun i => atD v.chars i 32), []⟩
  else if v.kind = 6 then ⟨6, [], [], at_.map (fun i => atD v.boxes i nb)⟩
  else ⟨leastN (at_.map v.num), at_.map v.num, [], []⟩
theorem num_tidy {h : GHeap} {cs : List Value} {v : VecD α} (hv : VecAt R h cs v) (i : Int) : tidyF (v.num i) := by
  unfold VecD.num
  split
  · by_cases c : i.toNat < v.nums.length
    · exact hv.tidy _ (mem_getD _ _ _ c)
    · rw [List.getD_eq_getElem?_getD, List.getElem?_eq_none (by omega)]; exact tidy0
  · exact tidy0
theorem whole_num {h : GHeap} {cs : List Value} {v : VecD α} (hv : VecAt R h cs v) (hk : v.kind = 1 ∨ v.kind = 2 ∨ v.kind = 3) (i : Int) : fwF (v.whole i).1 = v.num i := by
  have hw := hv.wholes hk
  have hn : v.nums.length = v.len := hv.nums_len (by unfold VecD.cls; rw [if_neg (by omega), if_neg (by omega)])
  unfold VecD.whole VecD.num
  by_cases c : 0 ≤ i ∧ i < v.len
  · rw [if_pos ⟨hk, c⟩, if_pos c.1]
    have hm := mem_getD v.nums i.toNat 0 (by omega)
    exact (fw_whole _ _ (hv.tidy _ hm) (by rw [← hw _ hm])).symm
  · rw [if_neg (fun e => c e.2)]
    show fwF 0 = _
    rw [fw0]
    split
    · rw [List.getD_eq_getElem?_getD, List.getElem?_eq_none (by omega)]; rfl
    · rfl
theorem pick_wholes {h : GHeap} {cs : List Value} {v : VecD α} (hv : VecAt R h cs v) (hk : v.kind = 1 ∨ v.kind = 2 ∨ v.kind = 3) (at_ : List Int) (nb : α) : (⟨leastN ((at_.map fun i => (v.whole i).1).map fwF), (at_.map fun i => (v.whole i).1).map fwF, [], []⟩ : VecD α) = v.pick at_ nb := by
  have e : (at_.map fun i => (v.whole i).1).map fwF = at_.map v.num := by
    rw [List.map_map]
    apply List.map_congr_left
    intro i _
    exact whole_num hv hk i
  rw [e]
  unfold VecD.pick
  rw [if_neg (by omega), if_neg (by omega)]
theorem sq_nums3 (N : List Nat) : (⟨3, N, [], []⟩ : VecD α).sq = ⟨leastN N, N, [], []⟩ := by
  unfold VecD.sq VecD.cls
  simp
theorem pick_bits (bs : List Bool) (at_ : List Int) (nb : α) : (⟨1, (at_.map fun i => bitAt bs i).map bitF, [], []⟩ : VecD α) = VecD.pick ⟨1, bs.map bitF, [], []⟩ at_ nb := by
  have e : (at_.map fun i => bitAt bs i).map bitF = at_.map (VecD.num (⟨1, bs.map bitF, [], []⟩ : VecD α)) := by
    rw [List.map_map]
    apply List.map_congr_left
    intro i _
    simp only [Function.comp, bitAt, VecD.num]
    split
    · by_cases c : i.toNat < bs.length
      · rw [getD_map bitF bs i.toNat false 0 c]
      · rw [List.getD_eq_getElem?_getD, List.getElem?_eq_none (by omega), List.getD_eq_getElem?_getD, List.getElem?_eq_none (by simp; omega)]; rfl
    · rfl
  have el : leastN ((at_.map fun i => bitAt bs i).map bitF) = 1 := by
    have h1 := (leastN_bounds ((at_.map fun i => bitAt bs i).map bitF)).1
    have h2 : leastN ((at_.map fun i => bitAt bs i).map bitF) ≤ 1 := by
      rw [leastN.eq_1]
      refine fold_le _ 1 1 (by omega) ?_
      intro x hx
      obtain ⟨b, _, rfl⟩ := List.mem_map.1 hx
      cases b
      · exact (rank_bit _ tidy0).2 (.inl fw0.symm)
      · exact (rank_bit _ tidy1).2 (.inr fw1.symm)
    omega
  unfold VecD.pick
  rw [if_neg (show ¬ (1 : Int) = 5 by decide), if_neg (show ¬ (1 : Int) = 6 by decide), ← e, el]
theorem flatPick_con (hR : Mono R) (h1 : One R) (h9 : Siz 9 R) (nb : α) (hbl : ∀ w h, Con Tryz.prog 98 [] w h (fun h' u => ∃ cs', u = .agg cs'.toArray ∧ R h' cs' nb))
    (cs : List Value) (v : VecD α) (v1 : Value) (at_ : List Int) (w : World) (h : GHeap) (hv : VecAt R h cs v) (ha : IntsAt h v1 at_) (hm : at_.length ≤ 1048576) (hvm : v.len ≤ 1048576) (hk0 : v.kind ≠ 0) : Con Tryz.prog 34 [.agg cs.toArray, v1] w h (fun h' u => ∃ cs', u = .agg cs'.toArray ∧ VecAt R h' cs' (v.pick at_ nb)) := by
  have ha' := ha
  obtain ⟨ad1, cp1, rfl, hS1⟩ := ha
  have hv' := hv
  have hv0 := hv
  obtain ⟨wv, nv, sm, il, fl, ch, bx, ⟨rfl, hoc⟩, hk⟩ := hv
  have hkk : (v.kind = 1 ∧ ∃ bs : List Bool, v = ⟨1, bs.map bitF, [], []⟩) ∨ (v.kind = 2 ∨ v.kind = 3) ∨ v.kind = 4 ∨ v.kind = 5 ∨ v.kind = 6 := by
    rcases hk with ⟨e, _⟩ | ⟨e, bs, _, _, e2⟩ | ⟨e, _⟩ | ⟨e, _⟩ | ⟨e, _⟩ | ⟨e, _⟩ | ⟨e, _⟩
    · exact absurd e hk0
    · exact .inl ⟨e, bs, e2⟩
    · exact .inr (.inl (.inl e))
    · exact .inr (.inl (.inr e))
    · exact .inr (.inr (.inl e))
    · exact .inr (.inr (.inr (.inl e)))
    · exact .inr (.inr (.inr (.inr e)))
  clear hk
  refine Con.of_body Tryz.func34 rfl Tryz.ntmps34 rfl rfl ?_
  intro hs
  refine Zrun ?_
  (refine RW.boxN hs rfl rfl ?_; intro b1 w1 hs)
  (refine RW.allocN T hs rfl rfl rfl rfl ?_; intro b2 w2 hs)
  refine Zerun ?_
  (refine RW.call T hs rfl rfl rfl (vecKind_con _ v _ _ hv') ?_; intro v h3 w3 hle3 hp3 hs)
  subst hp3
  have hv' := hv'.mono hR hle3
  have ha' := ha'.mono hle3
  have hS1 := hS1.mono hle3
  rcases hkk with ⟨k1, bs, hbs⟩ | k23 | k4 | k5 | k6
  · have hsp := pick_bits bs at_ nb
    rw [← hbs] at hsp
    refine Zerun ?_
    (refine RW.call T hs rfl rfl rfl (flatPickBits_con hR _ v _ at_ bs _ _ hv' hbs ha' hm) ?_; intro v h4 w4 hle4 hp4 hs)
    obtain ⟨cs4, rfl, hv4⟩ := hp4
    rw [hsp] at hv4
    have hv4' := hv4
    obtain ⟨wv', nv', sm', il', fl', ch', bx', ⟨rfl, hoc'⟩, _⟩ := hv4
    (refine RW.storeAll T hs 0 rfl rfl rfl rfl rfl rfl hoc' rfl ?_; intro w5 hs)
    refine Zerun ?_
    exact retQ_ret [_] h4 ⟨resN T hs 0 rfl rfl rfl rfl rfl rfl, trivial⟩ hs.dropAll ⟨_, rfl, hv4'⟩
  · rcases k23 with k2 | k3
    ·
      have hsp := pick_wholes hv0 (by omega) at_ nb
      refine Zerun ?_
      (refine RW.make1 T hs rfl rfl rfl rfl rfl rfl rfl (by dsimp only; omega) (by omega) ?_; intro b6 w6 hs)
      refine Zerun ?_
      refine CW.loop (fun u : Nat × GHeap => [(2, .pointer (some ⟨b1, 0, none⟩)), (4, .pointer (some ⟨b2, 0, none⟩)), (5, .slice (some ⟨b6, 0, none⟩) at_.length at_.length), (28, .slice ad1 at_.length cp1), (29, .int .i64 at_.length), (30, .int .i64 u.1)]) (fun u w' => u.1 ≤ at_.length ∧ GLe h3 u.2 ∧ Sees w h u.2 [⟨some ⟨b6, 0, none⟩, at_.length, at_.length, 2, 1, ((at_.take u.1).map fun i => (v.whole i).1).map (Value.int .i64) ++ List.replicate (at_.length - u.1) (.int .i64 0)⟩, ⟨some ⟨b2, 0, none⟩, 1, 1, 38, 8, vecCells 0 (.slice none 0 0) 0 (.slice none 0 0) (.slice none 0 0) (.slice none 0 0) (.slice none 0 0) (.slice none 0 0)⟩, ⟨some ⟨b1, 0, none⟩, 1, 1, 38, 8, vecCells v.kind wv nv sm il fl ch bx⟩] w') (fun u => at_.length - u.1) (0, h3) ⟨rfl, rfl, rfl, rfl, rfl, rfl, trivial⟩ ⟨by omega, GLe.refl _, by simp only [List.take_zero, List.map_nil, List.nil_append, Nat.sub_zero]; exact hs⟩ ?_
      rintro ⟨i, hh⟩ w7 ⟨hi, hg, hs⟩
      dsimp only at hi hg hs ⊢
      have hS1 := hS1.mono hg
      have hv' := hv'.mono hR hg
      by_cases hlt : i < at_.length
      · have htk := take_succ_getD at_ i 0 hlt
        refine Zerun ?_
        (refine RW.call T hs rfl rfl rfl (vecWhole_con _ v (at_.getD i 0) _ _ hv') ?_; intro v h8 w8 hle8 hp8 hs)
        subst hp8
        refine Zerun ?_
        refine RW.val (Y.idxRN T hs 0 rfl rfl rfl rfl rfl rfl ?_) rfl ?_
        · omega
        refine RW.st1 T hs 0 rfl rfl rfl rfl rfl rfl rfl (by omega) ?_
        intro w9 hs
        have e1 := set_snoc (((at_.take i).map fun i => (v.whole i).1).map (Value.int .i64)) (at_.length - i) (.int .i64 0) (Value.int .i64 ((v.whole (at_.getD i 0)).1)) (by omega)
        simp only [List.length_map, List.length_take, Nat.min_eq_left hi] at e1
        have e2 : ((at_.take i).map fun i => (v.whole i).1).map (Value.int .i64) ++ [Value.int .i64 ((v.whole (at_.getD i 0)).1)] ++ List.replicate (at_.length - i - 1) (.int .i64 0) = ((at_.take (i + 1)).map fun i => (v.whole i).1).map (Value.int .i64) ++ List.replicate (at_.length - (i + 1)) (.int .i64 0) := by
          rw [htk, List.map_append, List.map_append, show at_.length - (i + 1) = at_.length - i - 1 by omega]; rfl
        replace hs := hs.re (e1.trans e2)
        refine Zerun ?_
        exact loopQ_round (i + 1, h8) ⟨rfl, rfl, rfl, rfl, rfl, rfl, trivial⟩ ⟨by dsimp only; omega, hg.trans hle8, hs⟩ (by dsimp only; omega)
      obtain rfl : i = at_.length := by omega
      rw [List.take_length, Nat.sub_self, List.replicate_zero, List.append_nil] at hs
      obtain ⟨h8, hle8, hs, hS8⟩ := hs.freeze
      have hT8 : KAt .i64 h8 (.slice (some ⟨b6, 0, none⟩) at_.length at_.length) (at_.map fun i => (v.whole i).1) := RowAt.of_sl hS8
      refine Zerun ?_
      (refine RW.call T hs rfl rfl rfl (vecInts_con (R := R) _ _ _ _ hT8 (by simp; omega)) ?_; intro v h9 w9 hle9 hp9 hs)
      obtain ⟨cs9, ok, rfl, hok, hv9⟩ := hp9
      obtain rfl : ok = true := by
        rw [hok]
        refine decide_eq_true ?_
        intro u hu
        obtain ⟨i, _, rfl⟩ := List.mem_map.1 hu
        unfold VecD.whole
        split
        · exact wholeF_bounds _
        · constructor <;> decide
      rw [if_pos rfl] at hv9
      have hv9' := hv9
      obtain ⟨wv', nv', sm', il', fl', ch', bx', ⟨rfl, hoc'⟩, _⟩ := hv9
      refine Zerun ?_
      (refine RW.allocN T hs rfl rfl rfl rfl ?_; intro b10 w10 hs)
      (refine RW.storeAll T hs 0 rfl rfl rfl rfl rfl rfl hoc' rfl ?_; intro w11 hs)
      refine Zerun ?_
      (refine RW.call T hs rfl rfl rfl (sqSqueeze_con hR _ _ _ _ hv9' (by simp [VecD.len]; omega)) ?_; intro v h12 w12 hle12 hp12 hs)
      obtain ⟨cs12, rfl, hv12⟩ := hp12
      rw [sq_nums3, hsp] at hv12
      have hv12' := hv12
      obtain ⟨wv2, nv2, sm2, il2, fl2, ch2, bx2, ⟨rfl, hoc2⟩, _⟩ := hv12
      (refine RW.storeAll T hs 1 rfl rfl rfl rfl rfl rfl hoc2 rfl ?_; intro w13 hs)
      refine Zerun ?_
      exact retQ_ret [_] h12 ⟨resN T hs 1 rfl rfl rfl rfl rfl rfl, trivial⟩ hs.dropAll ⟨_, rfl, hv12'⟩
    ·
      have hsp := pick_wholes hv0 (by omega) at_ nb
      refine Zerun ?_
      (refine RW.make1 T hs rfl rfl rfl rfl rfl rfl rfl (by dsimp only; omega) (by omega) ?_; intro b6 w6 hs)
      refine Zerun ?_
      refine CW.loop (fun u : Nat × GHeap => [(2, .pointer (some ⟨b1, 0, none⟩)), (4, .pointer (some ⟨b2, 0, none⟩)), (5, .slice (some ⟨b6, 0, none⟩) at_.length at_.length), (28, .slice ad1 at_.length cp1), (29, .int .i64 at_.length), (30, .int .i64 u.1)]) (fun u w' => u.1 ≤ at_.length ∧ GLe h3 u.2 ∧ Sees w h u.2 [⟨some ⟨b6, 0, none⟩, at_.length, at_.length, 2, 1, ((at_.take u.1).map fun i => (v.whole i).1).map (Value.int .i64) ++ List.replicate (at_.length - u.1) (.int .i64 0)⟩, ⟨some ⟨b2, 0, none⟩, 1, 1, 38, 8, vecCells 0 (.slice none 0 0) 0 (.slice none 0 0) (.slice none 0 0) (.slice none 0 0) (.slice none 0 0) (.slice none 0 0)⟩, ⟨some ⟨b1, 0, none⟩, 1, 1, 38, 8, vecCells v.kind wv nv sm il fl ch bx⟩] w') (fun u => at_.length - u.1) (0, h3) ⟨rfl, rfl, rfl, rfl, rfl, rfl, trivial⟩ ⟨by omega, GLe.refl _, by simp only [List.take_zero, List.map_nil, List.nil_append, Nat.sub_zero]; exact hs⟩ ?_
      rintro ⟨i, hh⟩ w7 ⟨hi, hg, hs⟩
      dsimp only at hi hg hs ⊢
      have hS1 := hS1.mono hg
      have hv' := hv'.mono hR hg
      by_cases hlt : i < at_.length
      · have htk := take_succ_getD at_ i 0 hlt
        refine Zerun ?_
        (refine RW.call T hs rfl rfl rfl (vecWhole_con _ v (at_.getD i 0) _ _ hv') ?_; intro v h8 w8 hle8 hp8 hs)
        subst hp8
        refine Zerun ?_
        refine RW.val (Y.idxRN T hs 0 rfl rfl rfl rfl rfl rfl ?_) rfl ?_
        · omega
        refine RW.st1 T hs 0 rfl rfl rfl rfl rfl rfl rfl (by omega) ?_
        intro w9 hs
        have e1 := set_snoc (((at_.take i).map fun i => (v.whole i).1).map (Value.int .i64)) (at_.length - i) (.int .i64 0) (Value.int .i64 ((v.whole (at_.getD i 0)).1)) (by omega)
        simp only [List.length_map, List.length_take, Nat.min_eq_left hi] at e1
        have e2 : ((at_.take i).map fun i => (v.whole i).1).map (Value.int .i64) ++ [Value.int .i64 ((v.whole (at_.getD i 0)).1)] ++ List.replicate (at_.length - i - 1) (.int .i64 0) = ((at_.take (i + 1)).map fun i => (v.whole i).1).map (Value.int .i64) ++ List.replicate (at_.length - (i + 1)) (.int .i64 0) := by
          rw [htk, List.map_append, List.map_append, show at_.length - (i + 1) = at_.length - i - 1 by omega]; rfl
        replace hs := hs.re (e1.trans e2)
        refine Zerun ?_
        exact loopQ_round (i + 1, h8) ⟨rfl, rfl, rfl, rfl, rfl, rfl, trivial⟩ ⟨by dsimp only; omega, hg.trans hle8, hs⟩ (by dsimp only; omega)
      obtain rfl : i = at_.length := by omega
      rw [List.take_length, Nat.sub_self, List.replicate_zero, List.append_nil] at hs
      obtain ⟨h8, hle8, hs, hS8⟩ := hs.freeze
      have hT8 : KAt .i64 h8 (.slice (some ⟨b6, 0, none⟩) at_.length at_.length) (at_.map fun i => (v.whole i).1) := RowAt.of_sl hS8
      refine Zerun ?_
      (refine RW.call T hs rfl rfl rfl (vecInts_con (R := R) _ _ _ _ hT8 (by simp; omega)) ?_; intro v h9 w9 hle9 hp9 hs)
      obtain ⟨cs9, ok, rfl, hok, hv9⟩ := hp9
      obtain rfl : ok = true := by
        rw [hok]
        refine decide_eq_true ?_
        intro u hu
        obtain ⟨i, _, rfl⟩ := List.mem_map.1 hu
        unfold VecD.whole
        split
        · exact wholeF_bounds _
        · constructor <;> decide
      rw [if_pos rfl] at hv9
      have hv9' := hv9
      obtain ⟨wv', nv', sm', il', fl', ch', bx', ⟨rfl, hoc'⟩, _⟩ := hv9
      refine Zerun ?_
      (refine RW.allocN T hs rfl rfl rfl rfl ?_; intro b10 w10 hs)
      (refine RW.storeAll T hs 0 rfl rfl rfl rfl rfl rfl hoc' rfl ?_; intro w11 hs)
      refine Zerun ?_
      (refine RW.call T hs rfl rfl rfl (sqSqueeze_con hR _ _ _ _ hv9' (by simp [VecD.len]; omega)) ?_; intro v h12 w12 hle12 hp12 hs)
      obtain ⟨cs12, rfl, hv12⟩ := hp12
      rw [sq_nums3, hsp] at hv12
      have hv12' := hv12
      obtain ⟨wv2, nv2, sm2, il2, fl2, ch2, bx2, ⟨rfl, hoc2⟩, _⟩ := hv12
      (refine RW.storeAll T hs 1 rfl rfl rfl rfl rfl rfl hoc2 rfl ?_; intro w13 hs)
      refine Zerun ?_
      exact retQ_ret [_] h12 ⟨resN T hs 1 rfl rfl rfl rfl rfl rfl, trivial⟩ hs.dropAll ⟨_, rfl, hv12'⟩
  ·
    have hsp : (⟨leastN ((at_.map fun i => v.num i).map tidyW), (at_.map fun i => v.num i).map tidyW, [], []⟩ : VecD α) = v.pick at_ nb := by
      have e : (at_.map fun i => v.num i).map tidyW = at_.map v.num := by
        rw [List.map_map]
        apply List.map_congr_left
        intro i _
        simp only [Function.comp]
        unfold tidyW
        rw [tidySpec_of _ (num_tidy hv0 i)]
      rw [e]
      unfold VecD.pick
      rw [if_neg (by omega), if_neg (by omega)]
    refine Zerun ?_
    (refine RW.make1 T hs rfl rfl rfl rfl rfl rfl rfl (by dsimp only; omega) (by omega) ?_; intro b6 w6 hs)
    refine Zerun ?_
    refine CW.loop (fun u : Nat × GHeap => [(2, .pointer (some ⟨b1, 0, none⟩)), (4, .pointer (some ⟨b2, 0, none⟩)), (10, .slice (some ⟨b6, 0, none⟩) at_.length at_.length), (57, .slice ad1 at_.length cp1), (58, .int .i64 at_.length), (59, .int .i64 u.1)]) (fun u w' => u.1 ≤ at_.length ∧ GLe h3 u.2 ∧ Sees w h u.2 [⟨some ⟨b6, 0, none⟩, at_.length, at_.length, 67, 1, ((at_.take u.1).map fun i => v.num i).map (Value.float .f64) ++ List.replicate (at_.length - u.1) (.float .f64 0)⟩, ⟨some ⟨b2, 0, none⟩, 1, 1, 38, 8, vecCells 0 (.slice none 0 0) 0 (.slice none 0 0) (.slice none 0 0) (.slice none 0 0) (.slice none 0 0) (.slice none 0 0)⟩, ⟨some ⟨b1, 0, none⟩, 1, 1, 38, 8, vecCells v.kind wv nv sm il fl ch bx⟩] w') (fun u => at_.length - u.1) (0, h3) ⟨rfl, rfl, rfl, rfl, rfl, rfl, trivial⟩ ⟨by omega, GLe.refl _, by simp only [List.take_zero, List.map_nil, List.nil_append, Nat.sub_zero]; exact hs⟩ ?_
    rintro ⟨i, hh⟩ w7 ⟨hi, hg, hs⟩
    dsimp only at hi hg hs ⊢
    have hS1 := hS1.mono hg
    have hv' := hv'.mono hR hg
    by_cases hlt : i < at_.length
    · have htk := take_succ_getD at_ i 0 hlt
      refine Zerun ?_
      (refine RW.call T hs rfl rfl rfl (flatFrom_con _ v (at_.getD i 0) _ _ hv') ?_; intro v h8 w8 hle8 hp8 hs)
      subst hp8
      skip
      refine RW.val (Y.idxRN T hs 0 rfl rfl rfl rfl rfl rfl ?_) rfl ?_
      · omega
      refine RW.st1 T hs 0 rfl rfl rfl rfl rfl rfl rfl (by omega) ?_
      intro w9 hs
      have e1 := set_snoc (((at_.take i).map fun i => v.num i).map (Value.float .f64)) (at_.length - i) (.float .f64 0) (Value.float .f64 (v.num (at_.getD i 0))) (by omega)
      simp only [List.length_map, List.length_take, Nat.min_eq_left hi] at e1
      have e2 : ((at_.take i).map fun i => v.num i).map (Value.float .f64) ++ [Value.float .f64 (v.num (at_.getD i 0))] ++ List.replicate (at_.length - i - 1) (.float .f64 0) = ((at_.take (i + 1)).map fun i => v.num i).map (Value.float .f64) ++ List.replicate (at_.length - (i + 1)) (.float .f64 0) := by
        rw [htk, List.map_append, List.map_append, show at_.length - (i + 1) = at_.length - i - 1 by omega]; rfl
      replace hs := hs.re (e1.trans e2)
      refine Zerun ?_
      exact loopQ_round (i + 1, h8) ⟨rfl, rfl, rfl, rfl, rfl, rfl, trivial⟩ ⟨by dsimp only; omega, hg.trans hle8, hs⟩ (by dsimp only; omega)
    obtain rfl : i = at_.length := by omega
    rw [List.take_length, Nat.sub_self, List.replicate_zero, List.append_nil] at hs
    obtain ⟨h8, hle8, hs, hS8⟩ := hs.freeze
    have hT8 : FAt h8 (.slice (some ⟨b6, 0, none⟩) at_.length at_.length) (at_.map fun i => v.num i) := RowAt.of_sl hS8
    refine Zerun ?_
    (refine RW.call T hs rfl rfl rfl (sqNumbers_con (R := R) hR _ _ _ _ hT8 (by intro u hu; obtain ⟨i, _, rfl⟩ := List.mem_map.1 hu; exact (num_tidy hv0 i).1) (by simp; omega)) ?_; intro v h9 w9 hle9 hp9 hs)
    obtain ⟨cs9, ok, rfl, hok, hv9⟩ := hp9
    obtain rfl : ok = true := by
      rw [hok]
      refine decide_eq_true ?_
      intro u hu
      obtain ⟨i, _, rfl⟩ := List.mem_map.1 hu
      exact (num_tidy hv0 i).2.1
    rw [if_pos rfl, hsp] at hv9
    have hv9' := hv9
    obtain ⟨wv', nv', sm', il', fl', ch', bx', ⟨rfl, hoc'⟩, _⟩ := hv9
    refine Zerun ?_
    (refine RW.allocN T hs rfl rfl rfl rfl ?_; intro b10 w10 hs)
    (refine RW.storeAll T hs 0 rfl rfl rfl rfl rfl rfl hoc' rfl ?_; intro w11 hs)
    refine Zerun ?_
    (refine RW.storeAll T hs 1 rfl rfl rfl rfl rfl rfl hoc' rfl ?_; intro w12 hs)
    refine Zerun ?_
    exact retQ_ret [_] h9 ⟨resN T hs 1 rfl rfl rfl rfl rfl rfl, trivial⟩ hs.dropAll ⟨_, rfl, hv9'⟩
  · have hsp : (⟨5, [], at_.map (fun i => atD v.chars i 32), []⟩ : VecD α) = v.pick at_ nb := by unfold VecD.pick; rw [if_pos k5]
    refine Zerun ?_
    (refine RW.call T hs rfl rfl rfl (vecText_con _ v _ _ hv' (by omega)) ?_; intro v h4 w4 hle4 hp4 hs)
    refine Zerun ?_
    (refine RW.call T hs rfl rfl rfl (thoseRune_con _ _ _ at_ 32 _ _ hp4 (ha'.mono hle4) hm) ?_; intro v h5 w5 hle5 hp5 hs)
    (refine RW.call T hs rfl rfl rfl (vecChars_con (R := R) _ _ _ _ hp5 (by simp; omega)) ?_; intro v h6 w6 hle6 hp6 hs)
    obtain ⟨cs6, rfl, hv6⟩ := hp6
    rw [hsp] at hv6
    have hv6' := hv6
    obtain ⟨wv', nv', sm', il', fl', ch', bx', ⟨rfl, hoc'⟩, _⟩ := hv6
    (refine RW.storeAll T hs 0 rfl rfl rfl rfl rfl rfl hoc' rfl ?_; intro w7 hs)
    refine Zerun ?_
    exact retQ_ret [_] h6 ⟨resN T hs 0 rfl rfl rfl rfl rfl rfl, trivial⟩ hs.dropAll ⟨_, rfl, hv6'⟩
  · have hsp : (⟨6, [], [], at_.map (fun i => atD v.boxes i nb)⟩ : VecD α) = v.pick at_ nb := by unfold VecD.pick; rw [if_neg (by omega), if_pos k6]
    refine Zerun ?_
    (refine RW.call T hs rfl rfl rfl (vecArrays_con hR h1 _ v _ _ hv' (by omega)) ?_; intro v h4 w4 hle4 hp4 hs)
    refine Zerun ?_
    (refine RW.call T hs rfl rfl rfl (hbl _ _) ?_; intro v h5 w5 hle5 hp5 hs)
    obtain ⟨cs5, rfl, hb5⟩ := hp5
    (refine RW.call T hs rfl rfl rfl (thoseArr_con hR h1 h9 _ _ _ at_ _ nb _ _ (hp4.mono hle5 (fun u a => hR _ _ u a hle5)) (ha'.mono (hle4.trans hle5)) hb5 hm) ?_; intro v h6 w6 hle6 hp6 hs)
    (refine RW.call T hs rfl rfl rfl (vecBoxes_con hR h1 _ _ _ _ hp6 (by simp; omega)) ?_; intro v h7 w7 hle7 hp7 hs)
    obtain ⟨cs7, rfl, hv7⟩ := hp7
    rw [hsp] at hv7
    have hv7' := hv7
    obtain ⟨wv', nv', sm', il', fl', ch', bx', ⟨rfl, hoc'⟩, _⟩ := hv7
    (refine RW.storeAll T hs 0 rfl rfl rfl rfl rfl rfl hoc' rfl ?_; intro w8 hs)
    refine Zerun ?_
    exact retQ_ret [_] h7 ⟨resN T hs 0 rfl rfl rfl rfl rfl rfl, trivial⟩ hs.dropAll ⟨_, rfl, hv7'⟩
end
end Go.Proofs.YtmojpbfkpggjhaaGreatDoor

/-
  Contracts of the document's answer and of the law's own functions of layer 8: items picked, lists shown. No statement is proved here.
-/
namespace Go.Proofs.YtmojpbfkpggjhaaGreatDoor
open Go Go.RowKit
set_option linter.unusedVariables false
set_option linter.unusedSimpArgs false
set_option maxHeartbeats 4000000
attribute [local irreducible] CW RW QW SW HW ConM retM heldQ calmQ elemP thenQ blockQ loopQ joinQ retQ Yields Con Sl zF magR unitF truncF fwF wholeF tidySpec elemQ rankF leastN tidyW
set_option maxHeartbeats 4000000

section
variable {β : Type} {R : GHeap → List Value → β → Prop}
/-- what stands for none, of a class -/
def blankI (c : Int) : ItemD (PlainD β) := ⟨c, 0, if c = 1 then 32 else 0, if c = 2 then [⟨[0], [], 0⟩] else []⟩
theorem refBlank08_con (hR : Mono R) (c : Int) (w : World) (h : GHeap) : Con Tryz.prog 136 [.int .i64 c] w h (fun h' u => ∃ cs', u = .agg cs'.toArray ∧ ItemAt (PlainR R) h' cs' (blankI c)) := by
  refine Con.of_body Tryz.func136 rfl Tryz.ntmps136 rfl rfl ?_
  intro hs
  refine Zrun ?_
  (refine RW.allocN T hs rfl rfl rfl rfl ?_; intro b1 w1 hs)
  refine Zerun ?_
  refine RW.val (Y.build T rfl rfl rfl rfl rfl rfl rfl) rfl ?_
  (refine RW.allocN T hs rfl rfl rfl rfl ?_; intro b2 w2 hs)
  (refine RW.storeAll T hs 0 rfl rfl rfl rfl rfl rfl rfl rfl ?_; intro w3 hs)
  refine Zerun ?_
  unfold blankI
  by_cases c1 : c = 1
  · rw [if_pos c1, if_neg (by omega)]
    refine Zerun ?_
    (refine RW.store1 T hs 0 rfl rfl rfl rfl rfl rfl rfl rfl ?_; intro w4 hs)
    refine Zerun ?_
    (refine RW.storeAll T hs 1 rfl rfl rfl rfl rfl rfl rfl rfl ?_; intro w5 hs)
    refine Zerun ?_
    exact retQ_ret [_] h ⟨resN T hs 1 rfl rfl rfl rfl rfl rfl, trivial⟩ hs.dropAll ⟨_, rfl, ItemAt.mk' (x := ⟨c, 0, 32, []⟩) (RowsAt.nil _) (Nat.succ_pos _)⟩
  rw [if_neg c1]
  by_cases c2 : c = 2
  · rw [if_pos c2]
    refine Zerun ?_
    (refine RW.lit T hs (vs := [.int .i64 0]) (cs := [.int .i64 0]) rfl rfl rfl rfl (by simp [Value.cells]) rfl rfl rfl rfl rfl ?_; intro b4 w4 hs)
    obtain ⟨h5, hle5, hs, hS5⟩ := hs.freeze
    have hI5 : IntsAt h5 (.slice (some ⟨b4, 0, none⟩) 1 1) [0] := IntsAt.of_sl hS5
    refine RW.val (Y.build T rfl rfl rfl rfl rfl rfl rfl) rfl ?_
    (refine RW.lit T hs (vs := [.agg [.slice (some ⟨b4, 0, none⟩) 1 1, .slice none 0 0, .int .i64 0].toArray]) (cs := [.slice (some ⟨b4, 0, none⟩) 1 1, .slice none 0 0, .int .i64 0]) rfl rfl rfl rfl (by simp [Value.cells]) rfl rfl rfl rfl rfl ?_; intro b6 w6 hs)
    obtain ⟨h7, hle7, hs, hS7⟩ := hs.freeze
    have hR7 : RowsAt 3 (PlainR R h7) h7 (.slice (some ⟨b6, 0, none⟩) 1 1) [(⟨[0], [], 0⟩ : PlainD β)] := RowsAt.single hS7 ⟨_, _, rfl, hI5.mono hle7, RowsAt.nil _⟩
    refine Zerun ?_
    (refine RW.store1 T hs 0 rfl rfl rfl rfl rfl rfl rfl rfl ?_; intro w8 hs)
    refine Zerun ?_
    (refine RW.storeAll T hs 1 rfl rfl rfl rfl rfl rfl rfl rfl ?_; intro w9 hs)
    refine Zerun ?_
    exact retQ_ret [_] h7 ⟨resN T hs 1 rfl rfl rfl rfl rfl rfl, trivial⟩ hs.dropAll ⟨_, rfl, ItemAt.mk' (x := ⟨c, 0, 0, [(⟨[0], [], 0⟩ : PlainD β)]⟩) hR7 (Nat.succ_pos _)⟩
  rw [if_neg c2]
  refine Zerun ?_
  (refine RW.storeAll T hs 1 rfl rfl rfl rfl rfl rfl rfl rfl ?_; intro w5 hs)
  refine Zerun ?_
  exact retQ_ret [_] h ⟨resN T hs 1 rfl rfl rfl rfl rfl rfl, trivial⟩ hs.dropAll ⟨_, rfl, ItemAt.mk' (x := ⟨c, 0, 0, []⟩) (RowsAt.nil _) (Nat.succ_pos _)⟩
end
end Go.Proofs.YtmojpbfkpggjhaaGreatDoor

/-
  Contracts of the law's own functions of layer 8: good plain arrays, the chapter's example, elements at all places. No statement is proved here.
-/
namespace Go.Proofs.YtmojpbfkpggjhaaGreatDoor
open Go Go.RowKit
set_option linter.unusedVariables false
set_option linter.unusedSimpArgs false
set_option maxHeartbeats 4000000
attribute [local irreducible] CW RW QW SW HW ConM retM heldQ calmQ elemP thenQ blockQ loopQ joinQ retQ Yields Con Sl zF magR unitF truncF fwF wholeF tidySpec elemQ rankF leastN tidyW
set_option maxHeartbeats 4000000

/-! ## Plain facts -/
theorem atD_map {γ δ : Type} (g : γ → δ) (l : List γ) (i : Int) (d : γ) : atD (l.map g) i (g d) = g (atD l i d) := by
  unfold atD
  split
  · by_cases c : i.toNat < l.length
    · simp [List.getD_eq_getElem?_getD, c]
    · simp [List.getD_eq_getElem?_getD, c]
  · rfl
theorem atD_mem {γ : Type} (l : List γ) (i : Int) (d : γ) : atD l i d ∈ l ∨ atD l i d = d := by
  unfold atD
  split
  · by_cases c : i.toNat < l.length
    · exact .inl (mem_getD _ _ _ c)
    · right; simp [List.getD_eq_getElem?_getD, c]
  · exact .inr rfl
section
variable {α β : Type} {R : GHeap → List Value → α → Prop}
theorem pick_cls (v : VecD α) (at_ : List Int) (nb : α) : (v.pick at_ nb).cls = v.cls := by
  unfold VecD.pick
  by_cases k5 : v.kind = 5
  · rw [if_pos k5]; unfold VecD.cls; rw [if_pos rfl, if_pos k5]
  · rw [if_neg k5]
    by_cases k6 : v.kind = 6
    · rw [if_pos k6]; unfold VecD.cls; rw [if_neg (show ¬ (6 : Int) = 5 by decide), if_pos rfl, if_neg k5, if_pos k6]
    · rw [if_neg k6]
      have := leastN_bounds (at_.map v.num)
      unfold VecD.cls
      rw [if_neg k5, if_neg k6]
      dsimp only
      rw [if_neg (by omega), if_neg (by omega)]
theorem pick_facts (v : VecD α) (at_ : List Int) (nb : α) : (v.pick at_ nb).kind ≠ 0 ∧ (v.pick at_ nb).kind = (v.pick at_ nb).least ∧ (v.pick at_ nb).len = at_.length ∧ ∀ b ∈ (v.pick at_ nb).boxes, b ∈ v.boxes ∨ b = nb := by
  have hc := pick_cls v at_ nb
  unfold VecD.least
  rw [hc]
  unfold VecD.cls VecD.pick
  by_cases k5 : v.kind = 5
  · rw [if_pos k5, if_pos k5]; simp [VecD.len]
  · rw [if_neg k5, if_neg k5]
    by_cases k6 : v.kind = 6
    · rw [if_pos k6, if_pos k6]
      refine ⟨show (6 : Int) ≠ 0 by decide, by simp, by simp [VecD.len], ?_⟩
      intro b hb
      obtain ⟨i, _, rfl⟩ := List.mem_map.1 hb
      exact atD_mem _ _ _
    · rw [if_neg k6, if_neg k6]
      have := leastN_bounds (at_.map v.num)
      exact ⟨by dsimp only; omega, by dsimp only; rw [if_pos ⟨rfl, by omega⟩], by simp [VecD.len], fun b hb => by cases hb⟩
theorem itemsV_c1 (f : α → β) {v : VecD α} (hc : v.cls = 1) : itemsV f v = v.chars.map fun c => ⟨1, 0, c, []⟩ := by unfold itemsV; rw [if_pos hc]
theorem itemsV_c2 (f : α → β) {v : VecD α} (hc : v.cls = 2) : itemsV f v = v.boxes.map fun b => ⟨2, 0, 0, [f b]⟩ := by unfold itemsV; rw [if_neg (by omega), if_pos hc]
theorem itemsV_c0 (f : α → β) {v : VecD α} (hc : v.cls = 0) : itemsV f v = v.nums.map fun x => ⟨0, x, 0, []⟩ := by unfold itemsV; rw [if_neg (by omega), if_neg (by omega)]
theorem pick_items (f : α → PlainD β) (v : VecD α) (at_ : List Int) (nb : α) (hnb : f nb = ⟨[0], [], 0⟩) : itemsV f (v.pick at_ nb) = at_.map (fun i => atD (itemsV f v) i (blankI v.cls)) := by
  have hpc := pick_cls v at_ nb
  have hcl : v.cls = if v.kind = 5 then 1 else if v.kind = 6 then 2 else 0 := rfl
  by_cases k5 : v.kind = 5
  · rw [if_pos k5] at hcl
    have e : (v.pick at_ nb).chars = at_.map (fun i => atD v.chars i 32) := by unfold VecD.pick; rw [if_pos k5]
    rw [itemsV_c1 f (hpc.trans hcl), itemsV_c1 f hcl, hcl, e, List.map_map]
    apply List.map_congr_left
    intro i _
    exact (atD_map (fun c => (⟨1, 0, c, []⟩ : ItemD (PlainD β))) v.chars i 32).symm
  · rw [if_neg k5] at hcl
    by_cases k6 : v.kind = 6
    · rw [if_pos k6] at hcl
      have e : (v.pick at_ nb).boxes = at_.map (fun i => atD v.boxes i nb) := by unfold VecD.pick; rw [if_neg k5, if_pos k6]
      rw [itemsV_c2 f (hpc.trans hcl), itemsV_c2 f hcl, hcl, e, List.map_map]
      apply List.map_congr_left
      intro i _
      have e := (atD_map (fun b => (⟨2, 0, 0, [f b]⟩ : ItemD (PlainD β))) v.boxes i nb).symm
      rw [hnb] at e
      exact e
    · rw [if_neg k6] at hcl
      have e : (v.pick at_ nb).nums = at_.map v.num := by unfold VecD.pick; rw [if_neg k5, if_neg k6]
      rw [itemsV_c0 f (hpc.trans hcl), itemsV_c0 f hcl, hcl, e, List.map_map]
      apply List.map_congr_left
      intro i _
      exact (atD_map (fun x => (⟨0, x, 0, []⟩ : ItemD (PlainD β))) v.nums i 0).symm
theorem pick_items' (f : α → PlainD β) (v : VecD α) (at_ : List Int) (nb : α) (L : List (ItemD (PlainD β))) (c : Int) (hL : itemsV f v = L) (hc : v.cls = c) (hnb : f nb = ⟨[0], [], 0⟩) : itemsV f (v.pick at_ nb) = at_.map (fun i => atD L i (blankI c)) := by
  subst hL hc
  exact pick_items f v at_ nb hnb
end
def blankA (k : Nat) : AD (k + 1) := (⟨[0], ⟨1, [], [], []⟩⟩ : ArrD (AD k))
def blankP (k : Nat) : PD (k + 1) := (⟨[0], [], 0⟩ : PlainD (PD k))
theorem blankA_sml (k : Nat) : sml (k + 1) (blankA k) := ⟨by show 1 ≤ 8; omega, Nat.zero_le _, fun b hb => by cases hb⟩
theorem blankP_tdy (k : Nat) : tdy (k + 1) (blankP k) := fun x hx => by cases hx
theorem blankI_tdy (k : Nat) (c : Int) : tdyIt (tdy (k + 1)) (blankI c : ItemD (PlainD (PD k))) := by
  refine ⟨tidy0, fun b hb => ?_⟩
  unfold blankI at hb
  dsimp only at hb
  split at hb
  · rw [List.mem_singleton.1 hb]; exact blankP_tdy k
  · cases hb
end Go.Proofs.YtmojpbfkpggjhaaGreatDoor

/-
  Contracts of the law's own functions of layer 8: elements picked, and picked again. No statement is proved here.
-/
namespace Go.Proofs.YtmojpbfkpggjhaaGreatDoor
open Go Go.RowKit
set_option linter.unusedVariables false
set_option linter.unusedSimpArgs false
set_option maxHeartbeats 4000000
attribute [local irreducible] CW RW QW SW HW ConM retM heldQ calmQ elemP thenQ blockQ loopQ joinQ retQ Yields Con Sl zF magR unitF truncF fwF wholeF tidySpec elemQ rankF leastN tidyW
set_option maxHeartbeats 4000000

end Go.Proofs.YtmojpbfkpggjhaaGreatDoor

/-
  Contracts of functions of package flat: numbers from one up to another, elements backwards, and again and again. No statement is proved here.
-/
namespace Go.Proofs.YtmojpbfkpggjhaaGreatDoor
open Go Go.RowKit
set_option linter.unusedVariables false
set_option linter.unusedSimpArgs false
set_option maxHeartbeats 4000000
attribute [local irreducible] CW RW QW SW HW ConM retM heldQ calmQ elemP thenQ blockQ loopQ joinQ retQ Yields Con Sl zF magR unitF truncF fwF wholeF tidySpec elemQ rankF leastN tidyW
set_option maxHeartbeats 4000000

section
variable {α : Type} {R : GHeap → List Value → α → Prop}
end
end Go.Proofs.YtmojpbfkpggjhaaGreatDoor

/-
  Plain Lean on elements along an axis: places turned, and turned back. No statement is proved here.
-/
namespace Go.Proofs.YtmojpbfkpggjhaaGreatDoor
open Go Go.RowKit
set_option linter.unusedVariables false
set_option linter.unusedSimpArgs false

theorem sum_const {δ : Type} (c : Nat) : ∀ l : List δ, (l.map fun _ => c).sum = l.length * c
  | [] => by simp
  | a :: l => by rw [List.map_cons, List.sum_cons, sum_const c l, List.length_cons, Nat.add_mul, Nat.one_mul, Nat.add_comm]
theorem flatMap_eqN {γ δ : Type} {f g : γ → List δ} : ∀ {l : List γ}, (∀ x ∈ l, f x = g x) → l.flatMap f = l.flatMap g
  | [], _ => rfl
  | a :: l, h => by rw [List.flatMap_cons, List.flatMap_cons, h a (by simp), flatMap_eqN (fun x hx => h x (List.mem_cons_of_mem _ hx))]
/-- the place of an element along an axis; below 0: there's none -/
def alongI (n inner o : Nat) (i : Int) (k : Nat) : Int := if 0 ≤ i ∧ i < n then ((o * n + i.toNat) * inner + k : Nat) else -1
def alongL (outer n inner : Nat) (at_ : List Int) : List Int := (List.range outer).flatMap fun o => at_.flatMap fun i => (List.range inner).map fun k => alongI n inner o i k
theorem alongL_len (outer n inner : Nat) (at_ : List Int) : (alongL outer n inner at_).length = outer * (at_.length * inner) := by
  unfold alongL
  rw [List.length_flatMap]
  have e : ∀ o, (at_.flatMap fun i => (List.range inner).map fun k => alongI n inner o i k).length = at_.length * inner := by
    intro o
    rw [List.length_flatMap]
    simp only [List.length_map, List.length_range]
    exact sum_const _ _
  simp only [e]
  rw [sum_const, List.length_range]
end Go.Proofs.YtmojpbfkpggjhaaGreatDoor

/-
  Plain laws of places that are taken and dropped along an axis. No statement is proved here.
-/
namespace Go.Proofs.YtmojpbfkpggjhaaGreatDoor
open Go Go.RowKit
set_option linter.unusedVariables false
set_option linter.unusedSimpArgs false

end Go.Proofs.YtmojpbfkpggjhaaGreatDoor

/-
  Contracts of package math/bits and of bitvec's places that are true: the table of one variable is read. No statement is proved here.
-/
namespace Go.Proofs.YtmojpbfkpggjhaaGreatDoor
open Go Go.RowKit
set_option linter.unusedVariables false
set_option linter.unusedSimpArgs false
set_option maxHeartbeats 4000000
attribute [local irreducible] CW RW QW SW HW ConM retM heldQ calmQ elemP thenQ blockQ loopQ joinQ retQ Yields Con Sl elemQ
set_option maxHeartbeats 2000000

section
variable {P : Program} {T : Tab P} {n : Nat} {L : Env} {w : World} {ty : TypeId} {x y : Operand} {t : TypeId}
theorem Y.idxArr (T : Tab P) {e len : TypeId} {i : Inf} {b o : Nat} {k : IntKind} {u : Int} (hT : T.ty t = some (.array len e)) (hI : T.inf e = some i) (hx : opv L x = some (.pointer (some ⟨b, o, none⟩))) (hy : opv L y = some (.int k u)) (h0 : 0 ≤ u ∧ u < len) :
    Yields P n L w (.indexAddr t x y) ty (.pointer (some ⟨b, o + u.toNat * i.size, none⟩)) := by
  unfold Yields
  intro a ha d pos aft g
  have h1 : P.underlying t = some (.array len e) := T.ty_ok _ _ hT
  have hadd : (⟨b, o, none⟩ : Addr).add (u.toNat * i.size) = ⟨b, o + u.toNat * i.size, none⟩ := Addr.add_lit _ _ _
  simp [execOp, Instr.indexAt, Instr.sureAddr, asIntOf, ha.eval hx, ha.eval hy, run_underlying h1, h0, T.sizeOf hI, hadd]
end
/-- the table that the lowest bit is looked up in -/
def TzTab (h : GHeap) : Prop := ∃ cs, h 0 = some cs ∧ ∀ i, i < 64 → cs[i]? = some (.int .u8 ((Lib.deBruijn64tab.getD i 0 : Nat) : Int))
theorem TzTab.mono {h h' : GHeap} (hl : GLe h h') (ht : TzTab h) : TzTab h' := let ⟨cs, e, f⟩ := ht; ⟨cs, hl _ _ e, f⟩
theorem tz_con (x : Nat) (w : World) (h : GHeap) (hx : x < 18446744073709551616) (hT : TzTab h) : Con Tryz.prog 154 [.int .u64 (x : Int)] w h (fun _ u => u = .int .i64 (Lib.ctz 64 x : Nat)) := by
  refine Con.of_body Tryz.func154 rfl Tryz.ntmps154 rfl rfl ?_
  intro hs
  refine Zrun ?_
  by_cases c : x = 0
  · subst c
    refine Zerun ?_
    exact retQ_ret [_] h ⟨rfl, trivial⟩ hs.dropAll rfl
  obtain ⟨hlow, hc64⟩ := Lib.lowest_bit 64 x c hx
  have hlow : x &&& (18446744073709551616 - x) = 2 ^ Lib.ctz 64 x := hlow
  obtain ⟨hk, htab⟩ := Lib.deBruijn64_at _ hc64
  generalize Lib.ctz 64 x = k at *
  obtain ⟨cs, hcs, hcell⟩ := hT
  refine Zerun ?_
  have hp : 2 ^ k < 18446744073709551616 := Nat.lt_of_lt_of_le (Nat.pow_lt_pow_right (by omega) hc64) (by decide)
  refine RW.val (Y.neg' rfl) rfl ?_
  refine RW.respell (t := 7) (v := .int .u64 ((18446744073709551616 - x : Nat) : Int)) rfl (by
    have e : IntKind.u64.wrap (0 - (x : Int)) = ((18446744073709551616 - x : Nat) : Int) := by
      simp [IntKind.wrap, IntKind.signed, IntKind.bits]
      omega
    rw [e]) ?_
  refine RW.val (Y.andU rfl rfl (by omega) (by omega)) rfl ?_
  rw [hlow]
  refine RW.val (Y.mul' rfl rfl) rfl ?_
  refine RW.respell (t := 9) (v := .int .u64 ((2 ^ k * 285870213051353865 % 18446744073709551616 : Nat) : Int)) rfl (by
    have e : ((2 ^ k : Nat) : Int) * 285870213051353865 = ((2 ^ k * 285870213051353865 : Nat) : Int) := by rw [Int.natCast_mul]; rfl
    have e2 : ∀ z : Nat, IntKind.u64.wrap (z : Int) = ((z % 18446744073709551616 : Nat) : Int) := by
      intro z
      simp [IntKind.wrap, IntKind.signed, IntKind.bits]
    rw [e, e2]) ?_
  refine RW.val (Y.shrU (v := 58) rfl rfl (by omega)) rfl ?_
  rw [Nat.shiftRight_eq_div_pow, show (2 : Nat) ^ 58 = 288230376151711744 by decide]
  generalize 2 ^ k * 285870213051353865 % 18446744073709551616 / 288230376151711744 = q at *
  refine RW.val (Y.idxArr T rfl rfl rfl rfl ⟨by omega, by omega⟩) rfl ?_
  refine RW.val (Y.load1 T (r := .int .u8 (k : Int)) rfl rfl rfl ?_) rfl ?_
  · have := hs.cell hcs (hcell q hk)
    rw [htab] at this
    rw [Int.toNat_natCast]
    simpa using this
  refine RW.val (Y.conv64 T rfl rfl rfl ⟨by omega, by omega⟩) rfl ?_
  refine Zerun ?_
  exact retQ_ret [_] h ⟨rfl, trivial⟩ hs.dropAll rfl
/-- how many bits of a word are true: at most 127, more isn't asked here -/
theorem onesCount_con (x : Int) (w : World) (h : GHeap) : Con Tryz.prog 157 [.int .u64 x] w h (fun _ u => ∃ n : Nat, n ≤ 127 ∧ u = .int .i64 n) := by
  have key : ∀ z : Int, ∃ n : Nat, n ≤ 127 ∧ IntKind.i64.wrap (((BitVec.ofInt IntKind.i64.bits z &&& BitVec.ofInt IntKind.i64.bits 127).toNat : Nat) : Int) = n := by
    intro z
    refine ⟨(BitVec.ofInt IntKind.i64.bits z &&& BitVec.ofInt IntKind.i64.bits 127).toNat, ?_, ?_⟩
    · rw [BitVec.toNat_and]
      exact Nat.and_le_right
    · have h1 : (BitVec.ofInt IntKind.i64.bits z &&& BitVec.ofInt IntKind.i64.bits 127).toNat ≤ 127 := by
        rw [BitVec.toNat_and]
        exact Nat.and_le_right
      exact wrap64 ⟨by omega, by omega⟩
  refine Con.of_body Tryz.func157 rfl Tryz.ntmps157 rfl rfl ?_
  intro hs
  refine Zrun ?_
  refine RW.val (Y.shr' rfl rfl (by decide)) rfl ?_
  refine RW.val (Y.and' rfl rfl) rfl ?_
  refine Zerun ?_
  refine RW.val (Y.and' rfl rfl) rfl ?_
  refine RW.val (Y.add' rfl rfl) rfl ?_
  refine Zerun ?_
  refine RW.val (Y.shr' rfl rfl (by decide)) rfl ?_
  refine RW.val (Y.and' rfl rfl) rfl ?_
  refine Zerun ?_
  refine RW.val (Y.and' rfl rfl) rfl ?_
  refine RW.val (Y.add' rfl rfl) rfl ?_
  refine Zerun ?_
  refine RW.val (Y.shr' rfl rfl (by decide)) rfl ?_
  refine Zerun ?_
  refine RW.val (Y.add' rfl rfl) rfl ?_
  refine RW.val (Y.and' rfl rfl) rfl ?_
  refine Zerun ?_
  refine RW.val (Y.shr' rfl rfl (by decide)) rfl ?_
  refine RW.val (Y.add' rfl rfl) rfl ?_
  refine Zerun ?_
  refine RW.val (Y.shr' rfl rfl (by decide)) rfl ?_
  refine RW.val (Y.add' rfl rfl) rfl ?_
  refine Zerun ?_
  refine RW.val (Y.shr' rfl rfl (by decide)) rfl ?_
  refine RW.val (Y.add' rfl rfl) rfl ?_
  refine Zerun ?_
  refine RW.val (Y.convII T rfl rfl rfl) rfl ?_
  refine RW.val (Y.and' rfl rfl) rfl ?_
  refine Zerun ?_
  exact retQ_ret [_] h ⟨rfl, trivial⟩ hs.dropAll (by
    obtain ⟨n, hn, e⟩ := key _
    exact ⟨n, hn, by simp only [packv]; rw [e]⟩)
theorem bitsCount_con (wv : Value) (bs : List Bool) (w : World) (h : GHeap) (hb : BitsAt h wv bs) : Con Tryz.prog 122 [.agg [wv, .int .i64 bs.length].toArray] w h (fun _ u => ∃ n : Nat, n ≤ 2080895 ∧ u = .int .i64 n) := by
  obtain ⟨hlen, ws, ⟨ad, cp, rfl, hS⟩, hw, hr, _⟩ := hb
  have hwl : ws.length ≤ 16385 := by omega
  refine Con.of_body Tryz.func122 rfl Tryz.ntmps122 rfl rfl ?_
  intro hs
  refine Zrun ?_
  (refine RW.boxN hs rfl rfl ?_; intro b1 w1 hs)
  refine Zerun ?_
  refine CW.loop (fun r : Nat × Nat => [(1, .pointer (some ⟨b1, 0, none⟩)), (3, .int .i64 r.2), (7, .slice ad ws.length cp), (8, .int .i64 (ws.length : Int)), (9, .int .i64 r.1)]) (fun r w' => r.1 ≤ ws.length ∧ r.2 ≤ 127 * r.1 ∧ ∃ h', GLe h h' ∧ Sees w h h' [⟨some ⟨b1, 0, none⟩, 1, 1, 31, 2, [.slice ad ws.length cp, .int .i64 bs.length]⟩] w') (fun r => ws.length - r.1) (0, 0) ⟨rfl, rfl, rfl, rfl, rfl, trivial⟩ ⟨by omega, by omega, h, GLe.refl _, hs⟩ ?_
  rintro ⟨i, m⟩ w2 ⟨hi, hm, h2, hg, hs⟩
  dsimp only at hi hm hs ⊢
  have hS2 := hS.mono hg
  by_cases hlt : i < ws.length
  · refine Zerun ?_
    (refine RW.call T hs rfl rfl rfl (onesCount_con _ _ _) ?_; intro v h3 w3 hle3 hp3 hs)
    obtain ⟨c, hc, rfl⟩ := hp3
    refine Zerun ?_
    exact loopQ_round (i + 1, m + c) ⟨rfl, seti (by dsimp only; omega), rfl, rfl, rfl, trivial⟩ ⟨by dsimp only; omega, by dsimp only; omega, h3, hg.trans hle3, hs⟩ (by dsimp only; omega)
  · refine Zerun ?_
    exact retQ_ret [_] h2 ⟨rfl, trivial⟩ hs.dropAll ⟨m, by omega, rfl⟩
theorem bitsOnes_con (wv : Value) (bs : List Bool) (w : World) (h : GHeap) (hT : TzTab h) (hb : BitsAt h wv bs) : Con Tryz.prog 111 [.agg [wv, .int .i64 bs.length].toArray] w h (fun h' u => IntsAt h' u (onesL bs)) := by
  have hb' := hb
  obtain ⟨hlen, ws, ⟨ad, cp, rfl, hS⟩, hw, hr, hbit⟩ := hb
  have hwl : ws.length ≤ 16385 := by omega
  have hword : ∀ i j : Nat, j < 64 → (ws.getD i 0).toNat.testBit j = bs.getD (64 * i + j) false := by
    intro i j hj
    rw [← hbit (64 * i + j), show (64 * i + j) / 64 = i by omega, show (64 * i + j) % 64 = j by omega]
  refine Con.of_body Tryz.func111 rfl Tryz.ntmps111 rfl rfl ?_
  intro hs
  refine Zrun ?_
  (refine RW.boxN hs rfl rfl ?_; intro b1 w1 hs)
  refine Zerun ?_
  (refine RW.call T hs rfl rfl rfl (bitsCount_con _ bs _ _ hb') ?_; intro v h2 w2 hle2 hp2 hs)
  obtain ⟨n, hn, rfl⟩ := hp2
  have hT := hT.mono hle2
  have hS2 := hS.mono hle2
  refine RW.make T hs rfl rfl rfl rfl rfl (by omega) (by omega) (by dsimp only; omega) (by omega) ?_
  intro b3 w3 hs
  have hs := hs.re (ys := []) (made_one (.int .i64 0) 0)
  rw [Int.toNat_natCast]
  refine Zerun ?_
  refine CW.loop (fun r : Nat × Nat × Option Addr × Nat × GHeap => [(1, .pointer (some ⟨b1, 0, none⟩)), (3, .slice r.2.2.1 r.2.1 r.2.2.2.1), (10, .slice ad ws.length cp), (11, .int .i64 (ws.length : Int)), (12, .int .i64 r.1)]) (fun r w' => r.1 ≤ ws.length ∧ (onesTo bs (64 * r.1)).length = r.2.1 ∧ GLe h2 r.2.2.2.2 ∧ Sees w h r.2.2.2.2 [⟨r.2.2.1, r.2.1, r.2.2.2.1, 3, 1, (onesTo bs (64 * r.1)).map (Value.int .i64)⟩, ⟨some ⟨b1, 0, none⟩, 1, 1, 31, 2, [.slice ad ws.length cp, .int .i64 bs.length]⟩] w') (fun r => ws.length - r.1) (0, 0, some ⟨b3, 0, none⟩, n, h2) ⟨rfl, rfl, rfl, rfl, rfl, trivial⟩ ⟨by omega, rfl, GLe.refl _, hs⟩ ?_
  rintro ⟨i, m, ra, rc, hh⟩ w4 ⟨hi, hm, hg, hs⟩
  dsimp only at hi hm hg hs ⊢
  have hS4 := hS2.mono hg
  by_cases hlt : i < ws.length
  · have hwi := hr _ (mem_getD ws i 0 hlt)
    refine Zerun ?_
    refine CW.loop (fun r : Nat × Nat × Nat × Option Addr × Nat × GHeap => [(1, .pointer (some ⟨b1, 0, none⟩)), (3, .slice r.2.2.2.1 r.2.2.1 r.2.2.2.2.1), (4, .int .i64 (i : Int)), (5, .int .u64 (r.1 : Int)), (10, .slice ad ws.length cp), (11, .int .i64 (ws.length : Int)), (12, .int .i64 (i : Int))]) (fun r w' => r.1 < 18446744073709551616 ∧ r.2.1 ≤ 64 ∧ (∀ j, j < 64 → r.1.testBit j = (decide (r.2.1 ≤ j) && bs.getD (64 * i + j) false)) ∧ (onesTo bs (64 * i + r.2.1)).length = r.2.2.1 ∧ GLe h2 r.2.2.2.2.2 ∧ Sees w h r.2.2.2.2.2 [⟨r.2.2.2.1, r.2.2.1, r.2.2.2.2.1, 3, 1, (onesTo bs (64 * i + r.2.1)).map (Value.int .i64)⟩, ⟨some ⟨b1, 0, none⟩, 1, 1, 31, 2, [.slice ad ws.length cp, .int .i64 bs.length]⟩] w') (fun r => 64 - r.2.1) ((ws.getD i 0).toNat, 0, m, ra, rc, hh) ⟨rfl, rfl, rfl, by dsimp only; rw [Int.toNat_of_nonneg hwi.1]; rfl, rfl, rfl, rfl, trivial⟩ ⟨by dsimp only; omega, by dsimp only; omega, fun j hj => by rw [hword i j hj]; simp, hm, hg, hs⟩ ?_
    rintro ⟨x, t, m2, rb, rd, h5⟩ w5 ⟨hx, ht, hxb, hm2, hg5, hs⟩
    dsimp only at hx ht hxb hm2 hg5 hs ⊢
    by_cases c : x = 0
    · subst c
      have hz : ∀ j, 64 * i + t ≤ j → j < 64 * (i + 1) → bs.getD j false = false := by
        intro j h1 h2
        have := hxb (j - 64 * i) (by omega)
        rw [Nat.zero_testBit, decide_eq_true (by omega), Bool.true_and, show 64 * i + (j - 64 * i) = j by omega] at this
        exact this.symm
      have e : onesTo bs (64 * (i + 1)) = onesTo bs (64 * i + t) := onesTo_none (by omega) hz
      refine Zerun ?_
      exact loopQ_round (i + 1, m2, rb, rd, h5) ⟨rfl, rfl, rfl, rfl, rfl, trivial⟩ ⟨by dsimp only; omega, by dsimp only; rw [e]; exact hm2, hg5, by dsimp only; rw [e]; exact hs⟩ (by dsimp only; omega)
    obtain ⟨hk, hbel, hat, hnx⟩ := low_bit c hx
    have hT5 := hT.mono hg5
    have hm3 := onesTo_len bs (64 * i + t)
    have htz := tz_con x
    generalize Lib.ctz 64 x = k at hk hbel hat hnx htz
    have hkb := hxb k hk
    rw [hat] at hkb
    have htk : t ≤ k := by
      by_cases c2 : t ≤ k
      · exact c2
      · rw [decide_eq_false c2] at hkb; cases hkb
    have hkt : bs.getD (64 * i + k) false = true := by rw [decide_eq_true htk, Bool.true_and] at hkb; exact hkb.symm
    have hone : onesTo bs (64 * i + k + 1) = onesTo bs (64 * i + t) ++ [((64 * i + k : Nat) : Int)] := onesTo_next (by omega) (fun j h1 h2 => by
      have := hxb (j - 64 * i) (by omega)
      rw [hbel _ (by omega), decide_eq_true (by omega), Bool.true_and, show 64 * i + (j - 64 * i) = j by omega] at this
      exact this.symm) hkt
    refine Zerun ?_
    refine RW.val (Y.shl' rfl rfl (by decide)) rfl ?_
    refine RW.respell (t := 21) (v := .int .i64 ((64 * i : Nat) : Int)) rfl (by
      have : IntKind.i64.wrap ((i : Int) * 2 ^ min (6 : Int).toNat IntKind.i64.bits) = ((64 * i : Nat) : Int) := by
        rw [show (2 : Int) ^ min (6 : Int).toNat IntKind.i64.bits = 64 by decide, wrap64 ⟨by omega, by omega⟩]
        omega
      rw [this]) ?_
    refine Zerun ?_
    (refine RW.call T hs rfl rfl rfl (htz _ _ hx hT5) ?_; intro v h6 w6 hle6 hp6 hs)
    subst hp6
    refine Zerun ?_
    (refine RW.lit T hs (vs := [.int .i64 ((64 * i : Nat) + (k : Nat) : Int)]) (cs := [.int .i64 ((64 * i : Nat) + (k : Nat) : Int)]) rfl rfl rfl rfl (by simp [Value.cells]) rfl rfl rfl rfl rfl ?_; intro b7 w7 hs)
    (refine RW.append T hs 1 rfl rfl (m := 1) (news := [.int .i64 ((64 * i : Nat) + (k : Nat) : Int)]) rfl rfl rfl rfl rfl rfl (hs.src0 rfl (by simp [Value.oneCell'])) (by simp) (by dsimp only; omega) (by omega) ?_; intro ad8 cp8 w8 hs; replace hs := hs.drop)
    refine Zerun ?_
    refine RW.val (Y.sub' rfl rfl) rfl ?_
    refine RW.respell (t := 29) (v := .int .u64 ((x - 1 : Nat) : Int)) rfl (by
      rw [show (x : Int) - 1 = ((x - 1 : Nat) : Int) by omega, wrapU _ (by omega)]) ?_
    refine RW.val (Y.andU rfl rfl hx (by omega)) rfl ?_
    refine Zerun ?_
    have hlen1 : (onesTo bs (64 * i + (k + 1))).length = m2 + 1 := by rw [show 64 * i + (k + 1) = 64 * i + k + 1 by omega, hone, List.length_append, hm2]; rfl
    refine loopQ_round (x &&& (x - 1), k + 1, m2 + 1, ad8, cp8, h6) ⟨rfl, rfl, rfl, rfl, rfl, rfl, rfl, trivial⟩ ⟨by dsimp only; have := Nat.and_le_left (n := x) (m := x - 1); omega, by dsimp only; omega, fun j hj => ?_, hlen1, hg5.trans hle6, hs.re ?_⟩ (by dsimp only; omega)
    · dsimp only
      rw [hnx, hxb j hj]
      by_cases c2 : j = k
      · subst c2; rw [decide_eq_false (show ¬ j + 1 ≤ j by omega)]; simp
      · by_cases c3 : k + 1 ≤ j
        · rw [decide_eq_true (show t ≤ j by omega), decide_eq_true c3, decide_eq_true c2]; simp
        · rw [decide_eq_false c3]
          have := hxb j hj
          rw [hbel j (by omega)] at this
          rw [← this]; simp
    · rw [show 64 * i + (k + 1) = 64 * i + k + 1 by omega, hone, List.map_append, Int.natCast_add]
      rfl
  · obtain rfl : i = ws.length := by omega
    have e : onesTo bs (64 * ws.length) = onesL bs := onesTo_ge (by omega)
    rw [e] at hm hs
    obtain ⟨h6, hle6, hs, hS6⟩ := hs.freeze
    refine Zerun ?_
    exact retQ_ret [_] h6 ⟨rfl, trivial⟩ hs.dropAll (by
      have := hS6
      dsimp only at this
      rw [← hm] at this ⊢
      exact IntsAt.of_sl this)
end Go.Proofs.YtmojpbfkpggjhaaGreatDoor

/-
  The program logic, eighteenth part: regions that draw their order and change memory, two of the call's own rows fixed. No statement is proved here.
-/
namespace Go.Proofs.YtmojpbfkpggjhaaGreatDoor
open Go Go.RowKit
set_option linter.unusedVariables false
set_option linter.unusedSimpArgs false
set_option linter.unusedVariables false
section
variable {P : Program} {n : Nat} {Q : Post} {L : Env} {w0 w : World} {h0 h : GHeap} {O : List Row} {ops rest : List Oper} {x y : Operand} {t : TypeId} {ra rb : Row}
variable {d : Option Tmp} {ty yt : TypeId} {pos : String} {aft : Array Edge} {fuel : Nat} {listed : Array Bool}
def SR (w0 : World) (h0 : GHeap) (ra rb : Row) (w : World) : Prop := ∃ (h' : GHeap) (O : List Row) (k j : Nat), Sees w0 h0 h' O w ∧ O[k]? = some ra ∧ O[j]? = some rb
theorem CW.regionR (T' : Tab P) (k j : Nat) (hs : Sees w0 h0 h O w) (ha : O[k]? = some ra) (hb : O[j]? = some rb) {id : Nat} {l : List Oper} (K : ∀ w', Sees w0 h0 h O w' → HW P n l (calmQ Q) (SR w0 h0 ra rb) l.length (Array.replicate l.length false) L w') : CW P n Q (.region id l.toArray true) L w :=
  CW.regionH T' (SR w0 h0 ra rb) (fun w' e => by subst e; exact K _ hs.drew)
theorem HW.takeR (i : Nat) {op : Op} {v : Value} (hi : ops.toArray[i]? = some ⟨d, op, ty, pos, aft, none⟩) (hy : ∀ (h' : GHeap) (O : List Row) (ka kb : Nat) (w' : World), Sees w0 h0 h' O w' → O[ka]? = some ra → O[kb]? = some rb → Yields P n L w' op ty v) (hS : SR w0 h0 ra rb w) (hd : dstOk n d = true)
    (hs : Region.noSelect ops.toArray = true) (hf : Region.free .any ops.toArray listed i = true) (hr : (Region.ready .any ops.toArray listed).contains i = true)
    (hh : HW P n ops (calmQ Q) (SR w0 h0 ra rb) fuel (listed.setIfInBounds i true) (updo d v L) w) : HW P n ops (calmQ Q) (SR w0 h0 ra rb) (fuel + 1) listed L w :=
  HW.take i hi (fun w' ⟨h', O, k, j, s, a, b⟩ => hy h' O k j w' s a b) hS hd hs hf hr hh
end
end Go.Proofs.YtmojpbfkpggjhaaGreatDoor

/-
  Contracts of functions of package pick: places along an axis, turned on. No statement is proved here.
-/
namespace Go.Proofs.YtmojpbfkpggjhaaGreatDoor
open Go Go.RowKit
set_option linter.unusedVariables false
set_option linter.unusedSimpArgs false
set_option maxHeartbeats 4000000
attribute [local irreducible] CW RW QW SW HW ConM retM heldQ calmQ elemP thenQ blockQ loopQ joinQ retQ Yields Con Sl zF magR unitF truncF fwF wholeF tidySpec elemQ rankF leastN tidyW
set_option maxHeartbeats 4000000

theorem tmod_emod (a : Int) (n : Nat) (hn : 0 < n) : -(n : Int) < a.tmod n ∧ a.tmod n < n ∧ (if a.tmod n < 0 then a.tmod n + n else a.tmod n) = a % n := by
  have h1 : a.tmod n < n := Int.tmod_lt_of_pos a (by omega)
  have h2 : -(n : Int) < a.tmod n := by
    rcases Int.le_total 0 a with h | h
    · have := Int.tmod_nonneg (n : Int) h
      omega
    · have h5 := Int.tmod_lt_of_pos (-a) (show (0 : Int) < n by omega)
      rw [Int.neg_tmod] at h5
      omega
  have h3 : a = (n : Int) * a.tdiv n + a.tmod n := (Int.mul_tdiv_add_tmod a n).symm
  have h4 : a % n = a.tmod n % n := by
    conv => lhs; rw [h3]
    rw [Int.add_comm, Int.add_mul_emod_self_left]
  refine ⟨h2, h1, ?_⟩
  rw [h4]
  split
  · rw [← Int.add_emod_right, Int.emod_eq_of_lt (by omega) (by omega)]
  · rw [Int.emod_eq_of_lt (by omega) (by omega)]
theorem fillA' {δ : Type} {A : List δ} {i n : Nat} (hA : A.length = i) (h : i < n) (b z : δ) : (A ++ List.replicate (n - i) b).set i z = (A ++ [z]) ++ List.replicate (n - (i + 1)) b := by
  obtain ⟨r, hr⟩ : ∃ r, n - i = r + 1 := ⟨n - i - 1, by omega⟩
  have e : n - (i + 1) = r := by omega
  rw [hr, e, List.replicate_succ, List.set_append_right _ _ (by omega), ← hA]
  simp
theorem setA' {δ : Type} {A Rr : List δ} {i : Nat} (hA : A.length = i) (z y : δ) : ((A ++ [z]) ++ Rr).set i y = (A ++ [y]) ++ Rr := by
  subst hA
  simp
/-- a place that isn't there -/
def noneI (n : Nat) (i : Int) : Int := if i < 0 ∨ (n : Int) ≤ i then -1 else i
theorem pickNone_con (v1 : Value) (at_ : List Int) (n : Nat) (w : World) (h : GHeap) (ha : IntsAt h v1 at_) (hm : at_.length ≤ 1048576) : Con Tryz.prog 156 [v1, .int .i64 n] w h (fun h' u => IntsAt h' u (at_.map (noneI n))) := by
  obtain ⟨ad, cp, rfl, hS⟩ := ha
  refine Con.of_body Tryz.func156 rfl Tryz.ntmps156 rfl rfl ?_
  intro hs
  refine Zerun ?_
  (refine RW.make1 T hs rfl rfl rfl rfl rfl rfl rfl (by dsimp only; omega) (by omega) ?_; intro b1 w1 hs)
  refine Zerun ?_
  refine CW.loop (fun i : Nat => [(1, .int .i64 n), (5, .slice (some ⟨b1, 0, none⟩) at_.length at_.length), (11, .slice ad at_.length cp), (12, .int .i64 at_.length), (13, .int .i64 i)]) (fun i w' => i ≤ at_.length ∧ Sees w h h [⟨some ⟨b1, 0, none⟩, at_.length, at_.length, 3, 1, (((at_.take i).map (noneI n)) ++ List.replicate (at_.length - i) 0).map (Value.int .i64)⟩] w') (fun i => at_.length - i) 0 ⟨rfl, rfl, rfl, rfl, rfl, trivial⟩ ⟨by omega, by simp only [List.take_zero, List.map_nil, List.nil_append, Nat.sub_zero, List.map_replicate]; exact hs⟩ ?_
  rintro i w2 ⟨hi, hs⟩
  by_cases hlt : i < at_.length
  · have hAl : ((at_.take i).map (noneI n)).length = i := by rw [List.length_map, List.length_take]; omega
    have htm : (at_.take (i + 1)).map (noneI n) = (at_.take i).map (noneI n) ++ [noneI n (at_.getD i 0)] := by
      rw [take_succ_getD at_ i 0 hlt, List.map_append]; rfl
    refine Zerun ?_
    refine RW.val (Y.idxRN T hs 0 rfl rfl rfl rfl rfl rfl hlt) rfl ?_
    refine RW.st1 T hs 0 rfl rfl rfl rfl rfl rfl rfl hlt ?_
    intro w3 hs
    dsimp only [List.set_cons_zero, List.set_cons_succ] at hs
    rw [map_set_int, fillA' hAl hlt] at hs
    by_cases c1 : at_.getD i 0 < 0
    · have hv : noneI n (at_.getD i 0) = -1 := by unfold noneI; rw [if_pos (.inl c1)]
      refine Zerun ?_
      refine RW.val (Y.idxRN T hs 0 rfl rfl rfl rfl rfl rfl hlt) rfl ?_
      refine RW.st1 T hs 0 rfl rfl rfl rfl rfl rfl rfl hlt ?_
      intro w3 hs
      dsimp only [List.set_cons_zero, List.set_cons_succ] at hs
      rw [map_set_int, setA' hAl, ← hv, ← htm] at hs
      refine Zerun ?_
      exact loopQ_round (i + 1) ⟨rfl, rfl, rfl, rfl, rfl, trivial⟩ ⟨by omega, hs⟩ (by omega)
    by_cases c2 : (n : Int) ≤ at_.getD i 0
    · have hv : noneI n (at_.getD i 0) = -1 := by unfold noneI; rw [if_pos (.inr c2)]
      refine Zerun ?_
      refine RW.val (Y.idxRN T hs 0 rfl rfl rfl rfl rfl rfl hlt) rfl ?_
      refine RW.st1 T hs 0 rfl rfl rfl rfl rfl rfl rfl hlt ?_
      intro w3 hs
      dsimp only [List.set_cons_zero, List.set_cons_succ] at hs
      rw [map_set_int, setA' hAl, ← hv, ← htm] at hs
      refine Zerun ?_
      exact loopQ_round (i + 1) ⟨rfl, rfl, rfl, rfl, rfl, trivial⟩ ⟨by omega, hs⟩ (by omega)
    have hv : noneI n (at_.getD i 0) = at_.getD i 0 := by unfold noneI; rw [if_neg (by omega)]
    rw [hv] at htm
    rw [← htm] at hs
    refine Zerun ?_
    exact loopQ_round (i + 1) ⟨rfl, rfl, rfl, rfl, rfl, trivial⟩ ⟨by omega, hs⟩ (by omega)
  obtain rfl : i = at_.length := by omega
  rw [List.take_length, Nat.sub_self, List.replicate_zero, List.append_nil] at hs
  refine Zerun ?_
  obtain ⟨h6, hle6, hs, hS6⟩ := hs.freeze
  refine retQ_ret [_] h6 ⟨rfl, trivial⟩ hs.dropAll ?_
  have := IntsAt.of_sl hS6
  exact this
theorem flat_single {γ δ : Type} (f : γ → δ) : ∀ l : List γ, (l.flatMap fun x => [f x]) = l.map f
  | [] => rfl
  | a :: l => by rw [List.flatMap_cons, flat_single f l]; rfl
theorem alongL_one (n : Nat) (at_ : List Int) : alongL 1 n 1 at_ = at_.map (noneI n) := by
  show (List.range 1).flatMap _ = _
  rw [show List.range 1 = [0] from rfl, List.flatMap_cons, List.flatMap_nil, List.append_nil]
  rw [← flat_single (noneI n) at_]
  apply flatMap_eqN
  intro i _
  show [alongI n 1 0 i 0] = [noneI n i]
  congr 1
  unfold alongI noneI
  by_cases c : 0 ≤ i ∧ i < n
  · rw [if_pos c, if_neg (by omega)]
    omega
  · rw [if_neg c, if_pos (by omega)]
section
variable {α : Type} {R : GHeap → List Value → α → Prop}
theorem pickAlong_con (hR : Mono R) (h1 : One R) (h9 : Siz 9 R) (nb : α) (hbl : ∀ w h, Con Tryz.prog 98 [] w h (fun h' u => ∃ cs', u = .agg cs'.toArray ∧ R h' cs' nb)) (cs : List Value) (v : VecD α) (v1 : Value) (outer n inner : Nat) (at_ : List Int) (w : World) (h : GHeap) (hv : VecAt R h cs v) (ha : IntsAt h v1 at_) (hal : at_.length ≤ 1048576) (hou : outer ≤ 1048576) (hm : outer * (at_.length * inner) ≤ 1048576) (hB : outer * n * inner ≤ 1099511627776) (hBn : outer * n ≤ 1099511627776) (hvm : v.len ≤ 1048576) (hk0 : v.kind ≠ 0) :
    Con Tryz.prog 115 [.agg cs.toArray, .int .i64 outer, .int .i64 n, .int .i64 inner, v1] w h (fun h' u => ∃ cs', u = .agg cs'.toArray ∧ VecAt R h' cs' (v.pick (alongL outer n inner at_) nb)) := by
  have hv' := hv
  have ha' := ha
  obtain ⟨ad, cp, rfl, hS⟩ := ha
  obtain ⟨wv, nv, sm, il, fl, ch, bx, ⟨rfl, hoc⟩, _⟩ := hv
  refine Con.of_body Tryz.func115 rfl Tryz.ntmps115 rfl rfl ?_
  intro hs
  refine Zrun ?_
  (refine RW.boxN hs rfl rfl ?_; intro b1 w1 hs)
  (refine RW.allocN T hs rfl rfl rfl rfl ?_; intro b2 w2 hs)
  by_cases c : outer = 1 ∧ inner = 1
  · obtain ⟨rfl, rfl⟩ := c
    refine Zerun ?_
    refine CW.regionR T 1 1 hs rfl rfl ?_
    intro w4 hs
    refine HW.takeR (fuel := 5) 0 rfl (fun _ _ ka kb _ hs hka hkb => Y.loadRowN T hs ka hka rfl rfl rfl rfl rfl rfl) ⟨_, _, 1, 1, hs, rfl, rfl⟩ rfl (by kernel_rfl) (by kernel_rfl) (by kernel_rfl) ?_
    refine HW.takeR (fuel := 4) 1 rfl (fun _ _ ka kb _ hs hka hkb => Y.move rfl) ⟨_, _, 1, 1, hs, rfl, rfl⟩ rfl (by kernel_rfl) (by kernel_rfl) (by kernel_rfl) ?_
    refine HW.takeR (fuel := 3) 2 rfl (fun _ _ ka kb _ hs hka hkb => Y.move rfl) ⟨_, _, 1, 1, hs, rfl, rfl⟩ rfl (by kernel_rfl) (by kernel_rfl) (by kernel_rfl) ?_
    refine HW.one (fuel := 2) 3 rfl (by kernel_rfl) ?_
    (refine RW.call T hs rfl rfl rfl (pickNone_con _ _ n _ _ ha' (by omega)) ?_; intro v h25 w25 hle25 hp25 hs)
    have hv' := hv'.mono hR hle25
    have ha' := ha'.mono hle25
    refine RW.nil ?_
    refine heldQ_normal ⟨_, _, 1, 1, hs, rfl, rfl⟩ ?_
    refine HW.one (fuel := 1) 4 rfl (by kernel_rfl) ?_
    (refine RW.call T hs rfl rfl rfl (flatPick_con hR h1 h9 nb hbl _ _ _ (at_.map (noneI n)) _ _ hv' hp25 (by rw [List.length_map]; omega) hvm hk0) ?_; intro v h26 w26 hle26 hp26 hs)
    obtain ⟨cs26, rfl, hv26⟩ := hp26
    obtain ⟨wv6, nv6, sm6, il6, fl6, ch6, bx6, ⟨rfl, hoc6⟩, _⟩ := id hv26
    have hv' := hv'.mono hR hle26
    have ha' := ha'.mono hle26
    refine RW.nil ?_
    refine heldQ_normal ⟨_, _, 1, 1, hs, rfl, rfl⟩ ?_
    refine HW.one (fuel := 0) 5 rfl (by kernel_rfl) ?_
    (refine RW.storeAll T hs 0 rfl rfl rfl rfl rfl rfl hoc6 rfl ?_; intro w27 hs)
    refine RW.nil ?_
    refine heldQ_normal ⟨_, _, 1, 1, hs, rfl, rfl⟩ ?_
    refine HW.done (by kernel_rfl) ?_
    refine calmQ_normal ?_
    refine Zerun ?_
    exact retQ_ret [_] h26 ⟨resN T hs 0 rfl rfl rfl rfl rfl rfl, trivial⟩ hs.dropAll ⟨_, rfl, by rw [alongL_one]; exact hv26⟩
  have hlm : ∀ a b : Nat, ((a : Int) * (b : Int)) = ((a * b : Nat) : Int) := fun a b => (Int.natCast_mul a b).symm
  have hoa : outer * at_.length ≤ 1099511627776 := Nat.le_trans (Nat.mul_le_mul hou hal) (by omega)
  have hoai : outer * at_.length * inner ≤ 1048576 := by rw [Nat.mul_assoc]; exact hm
  first | (refine A0 ?_; first | refine R1 rfl rfl ?_ | refine R2 rfl rfl ?_ | (refine A1 ?_; first | refine D3 rfl rfl ?_ | refine D4 rfl rfl rfl rfl ?_ | refine D5 rfl rfl rfl ?_ | refine E6 ?_ rfl rfl | refine E7 ?_ rfl rfl) | refine Zb ?_ rfl | (refine A3 ?_; first | refine R34 T hs 0 rfl rfl rfl rfl rfl rfl ?_ | refine R34 T hs 1 rfl rfl rfl rfl rfl rfl ?_ | refine Zl ?_ rfl) | refine Zi ?_ rfl | refine Zo ?_ rfl | refine A8 ?_) | (refine B0 ?_; first | refine B1 ?_ | refine B2 ?_ | refine B3 ?_ | refine B4 ?_ | refine B5 ?_ | refine B6 ?_ | refine B7 rfl ?_ | refine B8 rfl ?_ | refine E8 ?_ rfl | refine E9 ?_ rfl) | refine C1 ?_ | refine C2 ?_ | refine C3 ?_ | refine C4 ?_ | refine C5 ?_ | refine C6 ?_ | refine C7 ?_ | refine C8 ?_ | refine C9 ?_ | refine D1 rfl ?_ | refine D2 rfl ?_
  first | (refine A0 ?_; first | refine R1 rfl rfl ?_ | refine R2 rfl rfl ?_ | (refine A1 ?_; first | refine D3 rfl rfl ?_ | refine D4 rfl rfl rfl rfl ?_ | refine D5 rfl rfl rfl ?_ | refine E6 ?_ rfl rfl | refine E7 ?_ rfl rfl) | refine Zb ?_ rfl | (refine A3 ?_; first | refine R34 T hs 0 rfl rfl rfl rfl rfl rfl ?_ | refine R34 T hs 1 rfl rfl rfl rfl rfl rfl ?_ | refine Zl ?_ rfl) | refine Zi ?_ rfl | refine Zo ?_ rfl | refine A8 ?_) | (refine B0 ?_; first | refine B1 ?_ | refine B2 ?_ | refine B3 ?_ | refine B4 ?_ | refine B5 ?_ | refine B6 ?_ | refine B7 rfl ?_ | refine B8 rfl ?_ | refine E8 ?_ rfl | refine E9 ?_ rfl) | refine C1 ?_ | refine C2 ?_ | refine C3 ?_ | refine C4 ?_ | refine C5 ?_ | refine C6 ?_ | refine C7 ?_ | refine C8 ?_ | refine C9 ?_ | refine D1 rfl ?_ | refine D2 rfl ?_
  first | (refine A0 ?_; first | refine R1 rfl rfl ?_ | refine R2 rfl rfl ?_ | (refine A1 ?_; first | refine D3 rfl rfl ?_ | refine D4 rfl rfl rfl rfl ?_ | refine D5 rfl rfl rfl ?_ | refine E6 ?_ rfl rfl | refine E7 ?_ rfl rfl) | refine Zb ?_ rfl | (refine A3 ?_; first | refine R34 T hs 0 rfl rfl rfl rfl rfl rfl ?_ | refine R34 T hs 1 rfl rfl rfl rfl rfl rfl ?_ | refine Zl ?_ rfl) | refine Zi ?_ rfl | refine Zo ?_ rfl | refine A8 ?_) | (refine B0 ?_; first | refine B1 ?_ | refine B2 ?_ | refine B3 ?_ | refine B4 ?_ | refine B5 ?_ | refine B6 ?_ | refine B7 rfl ?_ | refine B8 rfl ?_ | refine E8 ?_ rfl | refine E9 ?_ rfl) | refine C1 ?_ | refine C2 ?_ | refine C3 ?_ | refine C4 ?_ | refine C5 ?_ | refine C6 ?_ | refine C7 ?_ | refine C8 ?_ | refine C9 ?_ | refine D1 rfl ?_ | refine D2 rfl ?_
  refine CW.meet (fun _ : Unit => [(1, .int .i64 outer), (2, .int .i64 n), (3, .int .i64 inner), (4, .slice ad at_.length cp), (5, .pointer (some ⟨b1, 0, none⟩)), (10, .pointer (some ⟨b2, 0, none⟩)), (21, .bool false)]) (fun _ w' => Sees w h h [⟨some ⟨b2, 0, none⟩, 1, 1, 38, 8, vecCells 0 (.slice none 0 0) 0 (.slice none 0 0) (.slice none 0 0) (.slice none 0 0) (.slice none 0 0) (.slice none 0 0)⟩, ⟨some ⟨b1, 0, none⟩, 1, 1, 38, 8, vecCells v.kind wv nv sm il fl ch bx⟩] w') ?_ ?_
  · by_cases c1 : outer = 1
    · have c2 : ¬ inner = 1 := fun e => c ⟨c1, e⟩
      refine Zerun ?_
      exact joinQ_meet () ⟨rfl, rfl, rfl, rfl, rfl, rfl, setb (decide_eq_false (by omega)), trivial⟩ hs
    · refine Zerun ?_
      exact joinQ_meet () ⟨rfl, rfl, rfl, rfl, rfl, rfl, rfl, trivial⟩ hs
  rintro _ w3 hs
  refine Zerun ?_
  refine RW.val (Y.mul rfl rfl ?_) rfl ?_
  · rw [hlm]; omega
  rw [hlm]
  refine Zerun ?_
  refine RW.val (Y.mul rfl rfl ?_) rfl ?_
  · rw [hlm]; omega
  rw [hlm]
  obtain ⟨N, hN⟩ : ∃ N, outer * at_.length * inner = N := ⟨_, rfl⟩
  rw [hN] at hoai ⊢
  (refine RW.make T hs rfl rfl rfl rfl rfl ?_ ?_ ?_ ?_ ?_; omega; omega; (dsimp only; omega); omega; intro b4 w4 hs)
  have hs : Sees w h h [⟨some ⟨b4, 0, none⟩, 0, N, 3, 1, []⟩, ⟨some ⟨b2, 0, none⟩, 1, 1, 38, 8, vecCells 0 (.slice none 0 0) 0 (.slice none 0 0) (.slice none 0 0) (.slice none 0 0) (.slice none 0 0) (.slice none 0 0)⟩, ⟨some ⟨b1, 0, none⟩, 1, 1, 38, 8, vecCells v.kind wv nv sm il fl ch bx⟩] w4 := by
    have e : ((N : Int)).toNat = N := Int.toNat_natCast _
    rw [e] at hs
    exact hs.re (made_one _ _)
  have e : ((N : Int)).toNat = N := Int.toNat_natCast _
  rw [e]
  refine Zerun ?_
  refine CW.loop (fun u : Nat × Nat × (Option Addr × Nat) => [(1, .int .i64 outer), (2, .int .i64 n), (3, .int .i64 inner), (4, .slice ad at_.length cp), (5, .pointer (some ⟨b1, 0, none⟩)), (10, .pointer (some ⟨b2, 0, none⟩)), (11, .slice u.2.2.1 u.2.1 u.2.2.2), (34, .int .i64 outer), (35, .int .i64 u.1)]) (fun u w' => u.1 ≤ outer ∧ u.2.1 = (alongL u.1 n inner at_).length ∧ Sees w h h [⟨u.2.2.1, u.2.1, u.2.2.2, 3, 1, (alongL u.1 n inner at_).map (Value.int .i64)⟩, ⟨some ⟨b2, 0, none⟩, 1, 1, 38, 8, vecCells 0 (.slice none 0 0) 0 (.slice none 0 0) (.slice none 0 0) (.slice none 0 0) (.slice none 0 0) (.slice none 0 0)⟩, ⟨some ⟨b1, 0, none⟩, 1, 1, 38, 8, vecCells v.kind wv nv sm il fl ch bx⟩] w') (fun u => outer - u.1) (0, 0, (some ⟨b4, 0, none⟩, N)) ⟨rfl, rfl, rfl, rfl, rfl, rfl, rfl, rfl, rfl, trivial⟩ ⟨by omega, rfl, hs⟩ ?_
  rintro ⟨o, nn, ⟨ab, cb⟩⟩ w5 ⟨ho, hnn, hs⟩
  dsimp only at ho hnn hs ⊢
  have hal2 := alongL_len o n inner at_
  by_cases hlt : o < outer
  · have hon : o * n ≤ outer * n := Nat.mul_le_mul_right n (by omega)
    have hob : o * (at_.length * inner) ≤ outer * (at_.length * inner) := Nat.mul_le_mul_right _ (by omega)
    have hob1 : o * (at_.length * inner) + at_.length * inner ≤ outer * (at_.length * inner) := by
      have := Nat.mul_le_mul_right (at_.length * inner) (show o + 1 ≤ outer by omega)
      rw [Nat.add_mul, Nat.one_mul] at this
      exact this
    refine Zerun ?_
    refine CW.loop (fun u : Nat × Nat × (Option Addr × Nat) => [(1, .int .i64 outer), (2, .int .i64 n), (3, .int .i64 inner), (4, .slice ad at_.length cp), (5, .pointer (some ⟨b1, 0, none⟩)), (10, .pointer (some ⟨b2, 0, none⟩)), (11, .slice u.2.2.1 u.2.1 u.2.2.2), (12, .int .i64 o), (34, .int .i64 outer), (35, .int .i64 o), (38, .slice ad at_.length cp), (39, .int .i64 at_.length), (40, .int .i64 u.1)]) (fun u w' => u.1 ≤ at_.length ∧ u.2.1 = o * (at_.length * inner) + u.1 * inner ∧ Sees w h h [⟨u.2.2.1, u.2.1, u.2.2.2, 3, 1, (alongL o n inner at_ ++ (at_.take u.1).flatMap (fun i => (List.range inner).map fun k => alongI n inner o i k)).map (Value.int .i64)⟩, ⟨some ⟨b2, 0, none⟩, 1, 1, 38, 8, vecCells 0 (.slice none 0 0) 0 (.slice none 0 0) (.slice none 0 0) (.slice none 0 0) (.slice none 0 0) (.slice none 0 0)⟩, ⟨some ⟨b1, 0, none⟩, 1, 1, 38, 8, vecCells v.kind wv nv sm il fl ch bx⟩] w') (fun u => at_.length - u.1) (0, nn, (ab, cb)) ⟨rfl, rfl, rfl, rfl, rfl, rfl, rfl, rfl, rfl, rfl, rfl, rfl, rfl, trivial⟩ ⟨by omega, by dsimp only; omega, by simp only [List.take_zero, List.flatMap_nil, List.append_nil]; exact hs⟩ ?_
    rintro ⟨j, nj, ⟨aj, cj⟩⟩ w6 ⟨hj, hnj, hs⟩
    dsimp only at hj hnj hs ⊢
    by_cases hlj : j < at_.length
    · have hji : j * inner + inner ≤ at_.length * inner := by
        have := Nat.mul_le_mul_right inner (show j + 1 ≤ at_.length by omega)
        rw [Nat.add_mul, Nat.one_mul] at this
        exact this
      have htk : (at_.take (j + 1)).flatMap (fun i => (List.range inner).map fun k => alongI n inner o i k) = (at_.take j).flatMap (fun i => (List.range inner).map fun k => alongI n inner o i k) ++ (List.range inner).map fun k => alongI n inner o (at_.getD j 0) k := by
        rw [take_succ_getD at_ j 0 hlj, List.flatMap_append]
        simp
      refine Zerun ?_
      obtain ⟨x, hxe⟩ : ∃ x, at_.getD j 0 = x := ⟨_, rfl⟩
      rw [hxe] at htk ⊢
      refine CW.loop (fun u : Nat × Nat × (Option Addr × Nat) => [(1, .int .i64 outer), (2, .int .i64 n), (3, .int .i64 inner), (4, .slice ad at_.length cp), (5, .pointer (some ⟨b1, 0, none⟩)), (10, .pointer (some ⟨b2, 0, none⟩)), (11, .slice u.2.2.1 u.2.1 u.2.2.2), (12, .int .i64 o), (14, .int .i64 x), (34, .int .i64 outer), (35, .int .i64 o), (38, .slice ad at_.length cp), (39, .int .i64 at_.length), (40, .int .i64 j), (44, .int .i64 inner), (45, .int .i64 u.1)]) (fun u w' => u.1 ≤ inner ∧ u.2.1 = o * (at_.length * inner) + j * inner + u.1 ∧ Sees w h h [⟨u.2.2.1, u.2.1, u.2.2.2, 3, 1, (alongL o n inner at_ ++ (at_.take j).flatMap (fun i => (List.range inner).map fun k => alongI n inner o i k) ++ (List.range u.1).map (fun k => alongI n inner o x k)).map (Value.int .i64)⟩, ⟨some ⟨b2, 0, none⟩, 1, 1, 38, 8, vecCells 0 (.slice none 0 0) 0 (.slice none 0 0) (.slice none 0 0) (.slice none 0 0) (.slice none 0 0) (.slice none 0 0)⟩, ⟨some ⟨b1, 0, none⟩, 1, 1, 38, 8, vecCells v.kind wv nv sm il fl ch bx⟩] w') (fun u => inner - u.1) (0, nj, (aj, cj)) ⟨rfl, rfl, rfl, rfl, rfl, rfl, rfl, rfl, rfl, rfl, rfl, rfl, rfl, rfl, rfl, rfl, trivial⟩ ⟨by omega, hnj, by simp only [List.range_zero, List.map_nil, List.append_nil]; exact hs⟩ ?_
      rintro ⟨m, nm, ⟨am, cm⟩⟩ w7 ⟨hmm, hnm, hs⟩
      dsimp only at hmm hnm hs ⊢
      by_cases hlm2 : m < inner
      · have hrs : (List.range (m + 1)).map (fun k => alongI n inner o x k) = (List.range m).map (fun k => alongI n inner o x k) ++ [alongI n inner o x m] := by
          rw [List.range_succ, List.map_append]; rfl
        by_cases c1 : x < 0 ∨ (n : Int) ≤ x
        · have hv : alongI n inner o x m = -1 := by unfold alongI; rw [if_neg (by omega)]
          by_cases c2 : x < 0
          · refine Zerun ?_
            (refine RW.lit T hs (vs := [.int .i64 (-1)]) (cs := [.int .i64 (-1)]) rfl rfl rfl rfl (by simp [Value.cells]) rfl rfl rfl rfl rfl ?_; intro b8 w8 hs)
            (refine RW.append T hs 1 rfl rfl (m := 1) (news := [.int .i64 (-1)]) rfl rfl rfl rfl rfl rfl (hs.src0 rfl (by simp [Value.oneCell'])) (by simp) (by dsimp only; omega) (by omega) ?_; intro ad9 cp9 w9 hs; replace hs := hs.drop)
            refine Zerun ?_
            refine loopQ_round (m + 1, nm + 1, (ad9, cp9)) ⟨rfl, rfl, rfl, rfl, rfl, rfl, rfl, rfl, rfl, rfl, rfl, rfl, rfl, rfl, rfl, rfl, trivial⟩ ⟨by dsimp only; omega, by dsimp only; omega, ?_⟩ (by dsimp only; omega)
            dsimp only
            rw [hrs, hv, ← List.append_assoc, List.map_append]
            exact hs
          · have c3 : (n : Int) ≤ x := by omega
            refine Zerun ?_
            (refine RW.lit T hs (vs := [.int .i64 (-1)]) (cs := [.int .i64 (-1)]) rfl rfl rfl rfl (by simp [Value.cells]) rfl rfl rfl rfl rfl ?_; intro b8 w8 hs)
            (refine RW.append T hs 1 rfl rfl (m := 1) (news := [.int .i64 (-1)]) rfl rfl rfl rfl rfl rfl (hs.src0 rfl (by simp [Value.oneCell'])) (by simp) (by dsimp only; omega) (by omega) ?_; intro ad9 cp9 w9 hs; replace hs := hs.drop)
            refine Zerun ?_
            refine loopQ_round (m + 1, nm + 1, (ad9, cp9)) ⟨rfl, rfl, rfl, rfl, rfl, rfl, rfl, rfl, rfl, rfl, rfl, rfl, rfl, rfl, rfl, rfl, trivial⟩ ⟨by dsimp only; omega, by dsimp only; omega, ?_⟩ (by dsimp only; omega)
            dsimp only
            rw [hrs, hv, ← List.append_assoc, List.map_append]
            exact hs
        · have hx0 : 0 ≤ x ∧ x < n := by omega
          have hv : alongI n inner o x m = (((o * n + x.toNat) * inner + m : Nat) : Int) := by unfold alongI; rw [if_pos hx0]
          have hox : o * n + x.toNat < outer * n := by
            have := Nat.mul_le_mul_right n (show o + 1 ≤ outer by omega)
            rw [Nat.add_mul, Nat.one_mul] at this
            omega
          have hoxi : (o * n + x.toNat) * inner + m < outer * n * inner := by
            have := Nat.mul_le_mul_right inner (show o * n + x.toNat + 1 ≤ outer * n by omega)
            rw [Nat.add_mul, Nat.one_mul] at this
            omega
          refine Zerun ?_
          refine RW.val (Y.mul rfl rfl ?_) rfl ?_
          · rw [hlm]; omega
          rw [hlm]
          refine Zerun ?_
          rw [show ((o * n : Nat) : Int) + x = ((o * n + x.toNat : Nat) : Int) by omega]
          refine RW.val (Y.mul rfl rfl ?_) rfl ?_
          · rw [hlm]; omega
          rw [hlm]
          refine Zerun ?_
          (refine RW.lit T hs (vs := [.int .i64 ((((o * n + x.toNat) * inner : Nat) : Int) + m)]) (cs := [.int .i64 ((((o * n + x.toNat) * inner : Nat) : Int) + m)]) rfl rfl rfl rfl (by simp [Value.cells]) rfl rfl rfl rfl rfl ?_; intro b8 w8 hs)
          (refine RW.append T hs 1 rfl rfl (m := 1) (news := [.int .i64 ((((o * n + x.toNat) * inner : Nat) : Int) + m)]) rfl rfl rfl rfl rfl rfl (hs.src0 rfl (by simp [Value.oneCell'])) (by simp) (by dsimp only; omega) (by omega) ?_; intro ad9 cp9 w9 hs; replace hs := hs.drop)
          refine Zerun ?_
          refine loopQ_round (m + 1, nm + 1, (ad9, cp9)) ⟨rfl, rfl, rfl, rfl, rfl, rfl, rfl, rfl, rfl, rfl, rfl, rfl, rfl, rfl, rfl, rfl, trivial⟩ ⟨by dsimp only; omega, by dsimp only; omega, ?_⟩ (by dsimp only; omega)
          dsimp only
          rw [hrs, hv, ← List.append_assoc, List.map_append]
          exact hs
      obtain rfl : m = inner := by omega
      rw [List.append_assoc, ← htk] at hs
      refine Zerun ?_
      refine loopQ_round (j + 1, nm, (am, cm)) ⟨rfl, rfl, rfl, rfl, rfl, rfl, rfl, rfl, rfl, rfl, rfl, rfl, rfl, trivial⟩ ⟨by dsimp only; omega, ?_, hs⟩ (by dsimp only; omega)
      dsimp only
      rw [Nat.add_mul, Nat.one_mul]
      omega
    obtain rfl : j = at_.length := by omega
    have hsn : alongL (o + 1) n inner at_ = alongL o n inner at_ ++ at_.flatMap (fun i => (List.range inner).map fun k => alongI n inner o i k) := by
      unfold alongL
      rw [List.range_succ, List.flatMap_append]
      simp
    rw [List.take_length, ← hsn] at hs
    refine Zerun ?_
    refine loopQ_round (o + 1, nj, (aj, cj)) ⟨rfl, rfl, rfl, rfl, rfl, rfl, rfl, rfl, rfl, trivial⟩ ⟨by dsimp only; omega, ?_, hs⟩ (by dsimp only; omega)
    dsimp only
    rw [alongL_len, Nat.add_mul, Nat.one_mul]
    omega
  obtain rfl : o = outer := by omega
  obtain ⟨h6, hle6, hs, hS6⟩ := hs.freeze
  have hI6 : IntsAt h6 (.slice ab nn cb) (alongL o n inner at_) := IntsAt.of_sl hS6
  have hv' := hv'.mono hR hle6
  refine Zerun ?_
  (refine RW.call T hs rfl rfl rfl (flatPick_con hR h1 h9 nb hbl _ _ _ (alongL o n inner at_) _ _ hv' hI6 (by omega) hvm hk0) ?_; intro v h11 w11 hle11 hp11 hs)
  obtain ⟨cs11, rfl, hv11⟩ := hp11
  obtain ⟨wv6, nv6, sm6, il6, fl6, ch6, bx6, ⟨rfl, hoc6⟩, _⟩ := id hv11
  (refine RW.storeAll T hs 0 rfl rfl rfl rfl rfl rfl hoc6 rfl ?_; intro w12 hs)
  refine Zerun ?_
  exact retQ_ret [_] h11 ⟨resN T hs 0 rfl rfl rfl rfl rfl rfl, trivial⟩ hs.dropAll ⟨_, rfl, hv11⟩
end
end Go.Proofs.YtmojpbfkpggjhaaGreatDoor

/-
  Contracts of package pick: places taken, dropped, and taken so often as counts say. No statement is proved here.
-/
namespace Go.Proofs.YtmojpbfkpggjhaaGreatDoor
open Go Go.RowKit
set_option linter.unusedVariables false
set_option linter.unusedSimpArgs false
set_option maxHeartbeats 4000000
attribute [local irreducible] CW RW QW SW HW ConM retM heldQ calmQ elemP thenQ blockQ loopQ joinQ retQ Yields Con Sl zF magR unitF truncF fwF wholeF tidySpec elemQ rankF leastN tidyW
set_option maxHeartbeats 4000000

end Go.Proofs.YtmojpbfkpggjhaaGreatDoor

/-
  Contracts of the document's answer of layer 15: places turned, taken and dropped. No statement is proved here.
-/
namespace Go.Proofs.YtmojpbfkpggjhaaGreatDoor
open Go Go.RowKit
set_option linter.unusedVariables false
set_option linter.unusedSimpArgs false
set_option maxHeartbeats 4000000
attribute [local irreducible] CW RW QW SW HW ConM retM heldQ calmQ elemP thenQ blockQ loopQ joinQ retQ Yields Con Sl zF magR unitF truncF fwF wholeF tidySpec elemQ rankF leastN tidyW
set_option maxHeartbeats 4000000

theorem freezeI {w0 w : World} {h0 h : GHeap} {ad : Option Addr} {m cp : Nat} {l : List Int} {O : List Row} (hs : Sees w0 h0 h (⟨ad, m, cp, 3, 1, l.map (Value.int .i64)⟩ :: O) w) (hl : l.length = m) : ∃ h', GLe h h' ∧ Sees w0 h0 h' O w ∧ IntsAt h' (.slice ad m cp) l := by
  obtain ⟨h', hle, hs', hS⟩ := hs.freeze
  refine ⟨h', hle, hs', ?_⟩
  dsimp only at hS
  subst hl
  exact IntsAt.of_sl hS
end Go.Proofs.YtmojpbfkpggjhaaGreatDoor

/-
  Contract of package pick: places taken so often as counts say. No statement is proved here.
-/
namespace Go.Proofs.YtmojpbfkpggjhaaGreatDoor
open Go Go.RowKit
set_option linter.unusedVariables false
set_option linter.unusedSimpArgs false
set_option maxHeartbeats 4000000
attribute [local irreducible] CW RW QW SW HW ConM retM heldQ calmQ elemP thenQ blockQ loopQ joinQ retQ Yields Con Sl zF magR unitF truncF fwF wholeF tidySpec elemQ rankF leastN tidyW
set_option maxHeartbeats 4000000

/-- the count for a place, and what it brings -/
def cAt (ks : List Int) (i : Nat) : Int := ks.getD (i % ks.length) 0
def segC (c : Int) (i : Nat) : List Int := List.replicate c.natAbs (if c < 0 then -1 else (i : Int))
def copiesTo (ks : List Int) (m : Nat) : List Int := (List.range m).flatMap fun i => segC (cAt ks i) i
def copiesRes (ks : List Int) (n : Nat) (most : Int) : List Int × Int := if ks.length ≠ n ∧ ks.length ≠ 1 then ([], 23) else if ((copiesTo ks n).length : Int) ≤ most then (copiesTo ks n, 0) else ([], 26)
theorem copiesTo_succ (ks : List Int) (m : Nat) : copiesTo ks (m + 1) = copiesTo ks m ++ segC (cAt ks m) m := by
  unfold copiesTo
  rw [List.range_succ, List.flatMap_append]
  simp
theorem copiesTo_len_succ (ks : List Int) (m : Nat) : (copiesTo ks (m + 1)).length = (copiesTo ks m).length + (cAt ks m).natAbs := by
  rw [copiesTo_succ, List.length_append]
  unfold segC
  rw [List.length_replicate]
theorem copiesTo_mono (ks : List Int) : ∀ {a b : Nat}, a ≤ b → (copiesTo ks a).length ≤ (copiesTo ks b).length
  | a, 0, h => by rw [show a = 0 by omega]; exact Nat.le_refl _
  | a, b + 1, h => by
    by_cases c : a = b + 1
    · rw [c]; exact Nat.le_refl _
    · have := copiesTo_mono ks (a := a) (b := b) (by omega)
      rw [copiesTo_len_succ]
      omega
theorem onesTo_succ (bs : List Bool) (m : Nat) : onesTo bs (m + 1) = if bs.getD m false = true then onesTo bs m ++ [(m : Int)] else onesTo bs m := by
  unfold onesTo
  rw [List.range_succ, List.filter_append]
  by_cases c : bs.getD m false = true
  · rw [if_pos c, List.filter_cons_of_pos (p := fun i => bs.getD i false) c]; simp
  · rw [if_neg c, List.filter_cons_of_neg (p := fun i => bs.getD i false) c]; simp
theorem copies_bits (bs : List Bool) : ∀ m, m ≤ bs.length → copiesTo (bs.map fun b => if b then 1 else 0) m = onesTo bs m
  | 0, _ => rfl
  | m + 1, h => by
    have ih := copies_bits bs m (by omega)
    have hc : cAt (bs.map fun b => if b then (1 : Int) else 0) m = if bs.getD m false = true then 1 else 0 := by
      unfold cAt
      rw [List.length_map, Nat.mod_eq_of_lt (by omega), getD_map' _ _ _ _ (by omega), getElem_getD _ _ false (by omega)]
    rw [copiesTo_succ, ih, hc, onesTo_succ]
    by_cases c : bs.getD m false = true
    · rw [if_pos c, if_pos c]; rfl
    · rw [if_neg c, if_neg c]; simp [segC]
section
variable {α : Type} {R : GHeap → List Value → α → Prop}
theorem pickWholes_con (hR : Mono R) (cs : List Value) (v : VecD α) (w : World) (h : GHeap) (hv : VecAt R h cs v) (hm : v.len ≤ 1099511627776) (hk : v.kind = 1 ∨ v.kind = 2 ∨ v.kind = 3 ∨ v.kind = 4) : Con Tryz.prog 108 [.agg cs.toArray] w h
    (fun h' u => ∃ s, u = .tuple #[s, .bool (decide (v.kind ≠ 4 ∨ v.len = 0))] ∧ KAt .i64 h' s (if v.kind = 4 then [] else v.nums.map (fun x => (wholeF x).1))) := by
  have hv' := hv
  obtain ⟨wv, nv, sm, il, fl, ch, bx, ⟨rfl, hoc⟩, _⟩ := hv
  have hcls : v.cls = 0 := by unfold VecD.cls; rw [if_neg (by omega), if_neg (by omega)]
  have hk0 : ¬ v.kind = 0 := by omega
  refine Con.of_body Tryz.func108 rfl Tryz.ntmps108 rfl rfl ?_
  intro hs
  refine Zrun ?_
  (refine RW.boxN hs rfl rfl ?_; intro b1 w1 hs)
  refine Zerun ?_
  (refine RW.call T hs rfl rfl rfl (vecClass_con _ v _ _ hv') ?_; intro v h2 w2 hle2 hp2 hs)
  subst hp2
  rw [hcls]
  have hv' := hv'.mono hR hle2
  refine Zerun ?_
  (refine RW.call T hs rfl rfl rfl (vecKind_con _ v _ _ hv') ?_; intro v h3 w3 hle3 hp3 hs)
  subst hp3
  have hv' := hv'.mono hR hle3
  refine Zerun ?_
  (refine RW.call T hs rfl rfl rfl (vecWholes_con hR _ v _ _ hv' hm) ?_; intro v h4 w4 hle4 hp4 hs)
  obtain ⟨s, rfl, hs4⟩ := hp4
  have hv' := hv'.mono hR hle4
  by_cases c : v.kind = 4
  · rw [decide_eq_false (show ¬ (v.kind = 1 ∨ v.kind = 2 ∨ v.kind = 3) by omega)]
    refine Zerun ?_
    (refine RW.call T hs rfl rfl rfl (vecLen_con _ v _ _ hv') ?_; intro v h5 w5 hle5 hp5 hs)
    subst hp5
    refine Zerun ?_
    refine retQ_ret [_, _] h5 ⟨rfl, rfl, trivial⟩ hs.dropAll ⟨.slice none 0 0, ?_, by rw [if_pos c]; exact RowAt.nil _⟩
    have e : decide ((v.len : Int) = 0) = decide (v.kind ≠ 4 ∨ v.len = 0) := by rw [decide_eq_decide]; omega
    simp only [packv]
    rw [e]
  · rw [decide_eq_true (show v.kind = 1 ∨ v.kind = 2 ∨ v.kind = 3 by omega)]
    rw [if_pos (show v.kind = 1 ∨ v.kind = 2 ∨ v.kind = 3 by omega)] at hs4
    refine Zerun ?_
    exact retQ_ret [_, _] h4 ⟨rfl, rfl, trivial⟩ hs.dropAll ⟨s, by rw [decide_eq_true (show v.kind ≠ 4 ∨ v.len = 0 from .inl c)]; rfl, by rw [if_neg c]; exact hs4⟩
theorem pickLimited_con (s : Value) (l : List Int) (most : Int) (w : World) (h : GHeap) (hl : IntsAt h s l) : Con Tryz.prog 110 [s, .int .i64 most] w h (fun h' u => ∃ s', u = .tuple #[s', .int .i64 (if (l.length : Int) ≤ most then 0 else 26)] ∧ IntsAt h' s' (if (l.length : Int) ≤ most then l else [])) := by
  have hl' := hl
  obtain ⟨ad, cp, rfl, hS⟩ := hl
  refine Con.of_body Tryz.func110 rfl Tryz.ntmps110 rfl rfl ?_
  intro hs
  by_cases c : (l.length : Int) ≤ most
  · rw [if_pos c, if_pos c]
    refine Zrun ?_
    exact retQ_ret [_, _] h ⟨rfl, rfl, trivial⟩ hs.dropAll ⟨_, rfl, hl'⟩
  · rw [if_neg c, if_neg c]
    refine Zrun ?_
    exact retQ_ret [_, _] h ⟨rfl, rfl, trivial⟩ hs.dropAll ⟨_, rfl, IntsAt.nil _⟩
theorem pickCopies_con (hR : Mono R) (cs : List Value) (v : VecD α) (n : Nat) (most : Int) (ks : List Int) (w : World) (h : GHeap) (hT : TzTab h) (hv : VecAt R h cs v) (hm : v.len ≤ 1048576) (hk : v.kind = 1 ∨ v.kind = 2 ∨ v.kind = 3) (hks : ks = v.nums.map (fun x => (wholeF x).1)) (hkb : ∀ c ∈ ks, -9007199254740992 ≤ c ∧ c ≤ 9007199254740992) (hn : n ≤ 1048576) (hmost : 0 ≤ most ∧ most ≤ 1048576) :
    Con Tryz.prog 45 [.agg cs.toArray, .int .i64 (n : Int), .int .i64 most] w h (fun h' u => ∃ s, u = .tuple #[s, .int .i64 (copiesRes ks n most).2] ∧ IntsAt h' s (copiesRes ks n most).1) := by
  have hv' := hv
  obtain ⟨wv, nv, sm, il, fl, ch, bx, ⟨rfl, hoc⟩, _⟩ := hv
  refine Con.of_body Tryz.func45 rfl Tryz.ntmps45 rfl rfl ?_
  intro hs
  refine Zrun ?_
  (refine RW.boxN hs rfl rfl ?_; intro b1 w1 hs)
  refine Zerun ?_
  (refine RW.call T hs rfl rfl rfl (pickWholes_con hR _ v _ _ hv' (by omega) (by omega)) ?_; intro v h2 w2 hle2 hp2 hs)
  obtain ⟨s2, rfl, hs2⟩ := hp2
  rw [decide_eq_true (show v.kind ≠ 4 ∨ v.len = 0 by omega)]
  rw [if_neg (show ¬ v.kind = 4 by omega), ← hks] at hs2
  obtain ⟨ad2, cp2, rfl, hS2⟩ := hs2
  have hv' := hv'.mono hR hle2
  have hT := hT.mono hle2
  have hcap := hS2.caps
  have hcap := hS2.caps
  first | (refine A0 ?_; first | refine R1 rfl rfl ?_ | refine R2 rfl rfl ?_ | (refine A1 ?_; first | refine D3 rfl rfl ?_ | refine D4 rfl rfl rfl rfl ?_ | refine D5 rfl rfl rfl ?_ | refine E6 ?_ rfl rfl | refine E7 ?_ rfl rfl) | refine Zb ?_ rfl | (refine A3 ?_; first | refine R34 T hs 0 rfl rfl rfl rfl rfl rfl ?_ | refine R34 T hs 1 rfl rfl rfl rfl rfl rfl ?_ | refine Zl ?_ rfl) | refine Zi ?_ rfl | refine Zo ?_ rfl | refine A8 ?_) | (refine B0 ?_; first | refine B1 ?_ | refine B2 ?_ | refine B3 ?_ | refine B4 ?_ | refine B5 ?_ | refine B6 ?_ | refine B7 rfl ?_ | refine B8 rfl ?_ | refine E8 ?_ rfl | refine E9 ?_ rfl) | refine C1 ?_ | refine C2 ?_ | refine C3 ?_ | refine C4 ?_ | refine C5 ?_ | refine C6 ?_ | refine C7 ?_ | refine C8 ?_ | refine C9 ?_ | refine D1 rfl ?_ | refine D2 rfl ?_
  first | (refine A0 ?_; first | refine R1 rfl rfl ?_ | refine R2 rfl rfl ?_ | (refine A1 ?_; first | refine D3 rfl rfl ?_ | refine D4 rfl rfl rfl rfl ?_ | refine D5 rfl rfl rfl ?_ | refine E6 ?_ rfl rfl | refine E7 ?_ rfl rfl) | refine Zb ?_ rfl | (refine A3 ?_; first | refine R34 T hs 0 rfl rfl rfl rfl rfl rfl ?_ | refine R34 T hs 1 rfl rfl rfl rfl rfl rfl ?_ | refine Zl ?_ rfl) | refine Zi ?_ rfl | refine Zo ?_ rfl | refine A8 ?_) | (refine B0 ?_; first | refine B1 ?_ | refine B2 ?_ | refine B3 ?_ | refine B4 ?_ | refine B5 ?_ | refine B6 ?_ | refine B7 rfl ?_ | refine B8 rfl ?_ | refine E8 ?_ rfl | refine E9 ?_ rfl) | refine C1 ?_ | refine C2 ?_ | refine C3 ?_ | refine C4 ?_ | refine C5 ?_ | refine C6 ?_ | refine C7 ?_ | refine C8 ?_ | refine C9 ?_ | refine D1 rfl ?_ | refine D2 rfl ?_
  first | (refine A0 ?_; first | refine R1 rfl rfl ?_ | refine R2 rfl rfl ?_ | (refine A1 ?_; first | refine D3 rfl rfl ?_ | refine D4 rfl rfl rfl rfl ?_ | refine D5 rfl rfl rfl ?_ | refine E6 ?_ rfl rfl | refine E7 ?_ rfl rfl) | refine Zb ?_ rfl | (refine A3 ?_; first | refine R34 T hs 0 rfl rfl rfl rfl rfl rfl ?_ | refine R34 T hs 1 rfl rfl rfl rfl rfl rfl ?_ | refine Zl ?_ rfl) | refine Zi ?_ rfl | refine Zo ?_ rfl | refine A8 ?_) | (refine B0 ?_; first | refine B1 ?_ | refine B2 ?_ | refine B3 ?_ | refine B4 ?_ | refine B5 ?_ | refine B6 ?_ | refine B7 rfl ?_ | refine B8 rfl ?_ | refine E8 ?_ rfl | refine E9 ?_ rfl) | refine C1 ?_ | refine C2 ?_ | refine C3 ?_ | refine C4 ?_ | refine C5 ?_ | refine C6 ?_ | refine C7 ?_ | refine C8 ?_ | refine C9 ?_ | refine D1 rfl ?_ | refine D2 rfl ?_
  first | (refine A0 ?_; first | refine R1 rfl rfl ?_ | refine R2 rfl rfl ?_ | (refine A1 ?_; first | refine D3 rfl rfl ?_ | refine D4 rfl rfl rfl rfl ?_ | refine D5 rfl rfl rfl ?_ | refine E6 ?_ rfl rfl | refine E7 ?_ rfl rfl) | refine Zb ?_ rfl | (refine A3 ?_; first | refine R34 T hs 0 rfl rfl rfl rfl rfl rfl ?_ | refine R34 T hs 1 rfl rfl rfl rfl rfl rfl ?_ | refine Zl ?_ rfl) | refine Zi ?_ rfl | refine Zo ?_ rfl | refine A8 ?_) | (refine B0 ?_; first | refine B1 ?_ | refine B2 ?_ | refine B3 ?_ | refine B4 ?_ | refine B5 ?_ | refine B6 ?_ | refine B7 rfl ?_ | refine B8 rfl ?_ | refine E8 ?_ rfl | refine E9 ?_ rfl) | refine C1 ?_ | refine C2 ?_ | refine C3 ?_ | refine C4 ?_ | refine C5 ?_ | refine C6 ?_ | refine C7 ?_ | refine C8 ?_ | refine C9 ?_ | refine D1 rfl ?_ | refine D2 rfl ?_
  first | (refine A0 ?_; first | refine R1 rfl rfl ?_ | refine R2 rfl rfl ?_ | (refine A1 ?_; first | refine D3 rfl rfl ?_ | refine D4 rfl rfl rfl rfl ?_ | refine D5 rfl rfl rfl ?_ | refine E6 ?_ rfl rfl | refine E7 ?_ rfl rfl) | refine Zb ?_ rfl | (refine A3 ?_; first | refine R34 T hs 0 rfl rfl rfl rfl rfl rfl ?_ | refine R34 T hs 1 rfl rfl rfl rfl rfl rfl ?_ | refine Zl ?_ rfl) | refine Zi ?_ rfl | refine Zo ?_ rfl | refine A8 ?_) | (refine B0 ?_; first | refine B1 ?_ | refine B2 ?_ | refine B3 ?_ | refine B4 ?_ | refine B5 ?_ | refine B6 ?_ | refine B7 rfl ?_ | refine B8 rfl ?_ | refine E8 ?_ rfl | refine E9 ?_ rfl) | refine C1 ?_ | refine C2 ?_ | refine C3 ?_ | refine C4 ?_ | refine C5 ?_ | refine C6 ?_ | refine C7 ?_ | refine C8 ?_ | refine C9 ?_ | refine D1 rfl ?_ | refine D2 rfl ?_
  first | (refine A0 ?_; first | refine R1 rfl rfl ?_ | refine R2 rfl rfl ?_ | (refine A1 ?_; first | refine D3 rfl rfl ?_ | refine D4 rfl rfl rfl rfl ?_ | refine D5 rfl rfl rfl ?_ | refine E6 ?_ rfl rfl | refine E7 ?_ rfl rfl) | refine Zb ?_ rfl | (refine A3 ?_; first | refine R34 T hs 0 rfl rfl rfl rfl rfl rfl ?_ | refine R34 T hs 1 rfl rfl rfl rfl rfl rfl ?_ | refine Zl ?_ rfl) | refine Zi ?_ rfl | refine Zo ?_ rfl | refine A8 ?_) | (refine B0 ?_; first | refine B1 ?_ | refine B2 ?_ | refine B3 ?_ | refine B4 ?_ | refine B5 ?_ | refine B6 ?_ | refine B7 rfl ?_ | refine B8 rfl ?_ | refine E8 ?_ rfl | refine E9 ?_ rfl) | refine C1 ?_ | refine C2 ?_ | refine C3 ?_ | refine C4 ?_ | refine C5 ?_ | refine C6 ?_ | refine C7 ?_ | refine C8 ?_ | refine C9 ?_ | refine D1 rfl ?_ | refine D2 rfl ?_
  first | (refine A0 ?_; first | refine R1 rfl rfl ?_ | refine R2 rfl rfl ?_ | (refine A1 ?_; first | refine D3 rfl rfl ?_ | refine D4 rfl rfl rfl rfl ?_ | refine D5 rfl rfl rfl ?_ | refine E6 ?_ rfl rfl | refine E7 ?_ rfl rfl) | refine Zb ?_ rfl | (refine A3 ?_; first | refine R34 T hs 0 rfl rfl rfl rfl rfl rfl ?_ | refine R34 T hs 1 rfl rfl rfl rfl rfl rfl ?_ | refine Zl ?_ rfl) | refine Zi ?_ rfl | refine Zo ?_ rfl | refine A8 ?_) | (refine B0 ?_; first | refine B1 ?_ | refine B2 ?_ | refine B3 ?_ | refine B4 ?_ | refine B5 ?_ | refine B6 ?_ | refine B7 rfl ?_ | refine B8 rfl ?_ | refine E8 ?_ rfl | refine E9 ?_ rfl) | refine C1 ?_ | refine C2 ?_ | refine C3 ?_ | refine C4 ?_ | refine C5 ?_ | refine C6 ?_ | refine C7 ?_ | refine C8 ?_ | refine C9 ?_ | refine D1 rfl ?_ | refine D2 rfl ?_
  first | (refine A0 ?_; first | refine R1 rfl rfl ?_ | refine R2 rfl rfl ?_ | (refine A1 ?_; first | refine D3 rfl rfl ?_ | refine D4 rfl rfl rfl rfl ?_ | refine D5 rfl rfl rfl ?_ | refine E6 ?_ rfl rfl | refine E7 ?_ rfl rfl) | refine Zb ?_ rfl | (refine A3 ?_; first | refine R34 T hs 0 rfl rfl rfl rfl rfl rfl ?_ | refine R34 T hs 1 rfl rfl rfl rfl rfl rfl ?_ | refine Zl ?_ rfl) | refine Zi ?_ rfl | refine Zo ?_ rfl | refine A8 ?_) | (refine B0 ?_; first | refine B1 ?_ | refine B2 ?_ | refine B3 ?_ | refine B4 ?_ | refine B5 ?_ | refine B6 ?_ | refine B7 rfl ?_ | refine B8 rfl ?_ | refine E8 ?_ rfl | refine E9 ?_ rfl) | refine C1 ?_ | refine C2 ?_ | refine C3 ?_ | refine C4 ?_ | refine C5 ?_ | refine C6 ?_ | refine C7 ?_ | refine C8 ?_ | refine C9 ?_ | refine D1 rfl ?_ | refine D2 rfl ?_
  refine CW.meet (fun _ : Unit => [(1, .int .i64 (n : Int)), (2, .int .i64 most), (3, .pointer (some ⟨b1, 0, none⟩)), (8, .slice ad2 ks.length cp2)]) (fun _ w' => (ks.length = n ∨ ks.length = 1) ∧ Sees w h h2 [⟨some ⟨b1, 0, none⟩, 1, 1, 38, 8, vecCells v.kind wv nv sm il fl ch bx⟩] w') ?_ ?_
  · by_cases c1 : ks.length = n
    · refine Zerun ?_
      exact joinQ_meet () ⟨rfl, rfl, rfl, rfl, trivial⟩ ⟨.inl c1, hs⟩
    by_cases c2 : ks.length = 1
    · refine Zerun ?_
      exact joinQ_meet () ⟨rfl, rfl, rfl, rfl, trivial⟩ ⟨.inr c2, hs⟩
    have he : copiesRes ks n most = ([], 23) := by unfold copiesRes; rw [if_pos ⟨c1, c2⟩]
    refine Zerun ?_
    exact retQ_ret [_, _] h2 ⟨rfl, rfl, trivial⟩ hs.dropAll ⟨_, by rw [he]; rfl, by rw [he]; exact IntsAt.nil _⟩
  rintro _ w3 ⟨clen, hs⟩
  have hres : copiesRes ks n most = if ((copiesTo ks n).length : Int) ≤ most then (copiesTo ks n, 0) else ([], 26) := by unfold copiesRes; rw [if_neg (by omega)]
  refine Zerun ?_
  (refine RW.call T hs rfl rfl rfl (vecPacked_con _ v _ _ hv') ?_; intro v h4 w4 hle4 hp4 hs)
  obtain ⟨wb, bs, rfl, hb4, hb1, hb2⟩ := hp4
  have hT := hT.mono hle4
  have hS2 := hS2.mono hle4
  have hwo : wb.oneCell' = true := by obtain ⟨_, ws, ⟨_, _, rfl, _⟩, _⟩ := hb4; rfl
  by_cases ck : v.kind = 1 ∧ bs.length = n
  · obtain ⟨ck1, ck2⟩ := ck
    have hv1 := hb1 ck1
    have hkbs : ks = bs.map fun b => if b then 1 else 0 := by
      rw [hks, hv1, List.map_map]
      apply List.map_congr_left
      intro b _
      simp only [Function.comp]
      cases b with
      | true => show (wholeF 4607182418800017408).1 = 1; rw [← fw1, wholeF_fw 1 (by omega)]
      | false => show (wholeF 0).1 = 0; rw [← fw0, wholeF_fw 0 (by omega)]
    have hones : copiesTo ks n = onesL bs := by rw [hkbs, ← ck2]; exact copies_bits bs bs.length (Nat.le_refl _)
    rw [decide_eq_true ck1]
    refine Zerun ?_
    (refine RW.allocN T hs rfl rfl rfl rfl ?_; intro b5 w5 hs)
    refine RW.storeAll T hs 0 rfl rfl rfl rfl rfl rfl (by show (wb.oneCell' && (true && true)) = true; rw [hwo]; rfl) rfl ?_
    intro w6 hs
    refine Zerun ?_
    (refine RW.call T hs rfl rfl rfl (bitsLen_con wb _ _ _) ?_; intro v h7 w7 hle7 hp7 hs)
    subst hp7
    have hT := hT.mono hle7
    have hb4 := hb4.mono hle7
    refine Zerun ?_
    (refine RW.call T hs rfl rfl rfl (bitsOnes_con wb bs _ _ hT hb4) ?_; intro v h8 w8 hle8 hp8 hs)
    refine Zerun ?_
    (refine RW.call T hs rfl rfl rfl (pickLimited_con _ (onesL bs) most _ _ hp8) ?_; intro v h9 w9 hle9 hp9 hs)
    obtain ⟨s9, rfl, hI9⟩ := hp9
    refine Zerun ?_
    refine retQ_ret [_, _] h9 ⟨rfl, rfl, trivial⟩ hs.dropAll ⟨s9, ?_, ?_⟩
    · rw [hres, hones]
      by_cases c : ((onesL bs).length : Int) ≤ most
      · rw [if_pos c, if_pos c]; rfl
      · rw [if_neg c, if_neg c]; rfl
    · rw [hres, hones]
      by_cases c : ((onesL bs).length : Int) ≤ most
      · rw [if_pos c] at hI9 ⊢; exact hI9
      · rw [if_neg c] at hI9 ⊢; exact hI9
  refine RW.meet (fun b : Nat => [(1, .int .i64 (n : Int)), (2, .int .i64 most), (3, .pointer (some ⟨b1, 0, none⟩)), (8, .slice ad2 ks.length cp2), (10, .pointer (some ⟨b, 0, none⟩)), (11, .bool (decide (v.kind = 1)))]) (fun b w' => Sees w h h4 [⟨some ⟨b, 0, none⟩, 1, 1, 31, 2, [wb, .int .i64 bs.length]⟩, ⟨some ⟨b1, 0, none⟩, 1, 1, 38, 8, vecCells v.kind wv nv sm il fl ch bx⟩] w') ?_ ?_
  · refine Zerun ?_
    (refine RW.allocN T hs rfl rfl rfl rfl ?_; intro b5 w5 hs)
    refine RW.storeAll T hs 0 rfl rfl rfl rfl rfl rfl (by show (wb.oneCell' && (true && true)) = true; rw [hwo]; rfl) rfl ?_
    intro w6 hs
    refine Zerun ?_
    exact joinQ_meet b5 ⟨rfl, rfl, rfl, rfl, rfl, rfl, trivial⟩ hs
  rintro b5 w5 hs
  refine CW.meet (fun _ : GHeap => [(1, .int .i64 (n : Int)), (2, .int .i64 most), (8, .slice ad2 ks.length cp2)]) (fun r w' => GLe h4 r ∧ Sees w h r [⟨some ⟨b5, 0, none⟩, 1, 1, 31, 2, [wb, .int .i64 bs.length]⟩, ⟨some ⟨b1, 0, none⟩, 1, 1, 38, 8, vecCells v.kind wv nv sm il fl ch bx⟩] w') ?_ ?_
  · by_cases c1 : v.kind = 1
    · have c2 : ¬ bs.length = n := fun e => ck ⟨c1, e⟩
      rw [decide_eq_true c1]
      refine Zerun ?_
      (refine RW.call T hs rfl rfl rfl (bitsLen_con wb _ _ _) ?_; intro v h7 w7 hle7 hp7 hs)
      subst hp7
      refine Zerun ?_
      exact joinQ_meet h7 ⟨rfl, rfl, rfl, trivial⟩ ⟨hle7, hs⟩
    · rw [decide_eq_false c1]
      refine Zerun ?_
      exact joinQ_meet h4 ⟨rfl, rfl, rfl, trivial⟩ ⟨GLe.refl _, hs⟩
  rintro hh w6 ⟨hg, hs⟩
  have hS := hS2.mono hg
  refine Zerun ?_
  have hcm : ∀ i, i < n → i % ks.length < ks.length ∧ -9007199254740992 ≤ cAt ks i ∧ cAt ks i ≤ 9007199254740992 := by
    intro i hi
    have hl : 0 < ks.length := by omega
    have hq := Nat.mod_lt i hl
    exact ⟨hq, hkb _ (mem_getD ks _ 0 hq)⟩
  refine CW.loop (fun i : Nat => [(1, .int .i64 (n : Int)), (2, .int .i64 most), (8, .slice ad2 ks.length cp2), (12, .int .i64 ((copiesTo ks i).length : Int)), (55, .int .i64 (n : Int)), (56, .int .i64 i)]) (fun i w' => i ≤ n ∧ ((copiesTo ks i).length : Int) ≤ most ∧ Sees w h hh [⟨some ⟨b5, 0, none⟩, 1, 1, 31, 2, [wb, .int .i64 bs.length]⟩, ⟨some ⟨b1, 0, none⟩, 1, 1, 38, 8, vecCells v.kind wv nv sm il fl ch bx⟩] w') (fun i => n - i) 0 ⟨rfl, rfl, rfl, rfl, rfl, rfl, trivial⟩ ⟨by omega, hmost.1, hs⟩ ?_
  rintro i w7 ⟨hi, hsum, hs⟩
  by_cases hlt : i < n
  · obtain ⟨hq, hc1, hc2⟩ := hcm i hlt
    have hcg : ks.getD ((i : Int) % (ks.length : Int)).toNat 0 = cAt ks i := by rw [← Int.natCast_emod, Int.toNat_natCast]; rfl
    have hls := copiesTo_len_succ ks i
    generalize cAt ks i = c at hc1 hc2 hcg hls
    have hmx : max c (-c) = ((c.natAbs : Nat) : Int) := by omega
    refine Zerun ?_
    rw [hcg]
    refine RW.val (Y.neg rfl ⟨by omega, by omega⟩) rfl ?_
    refine Zerun ?_
    by_cases c3 : ((copiesTo ks (i + 1)).length : Int) ≤ most
    · refine Zerun ?_
      exact loopQ_round (i + 1) ⟨rfl, rfl, rfl, seti (by rw [hls, hmx]; omega), rfl, rfl, trivial⟩ ⟨by omega, c3, hs⟩ (by omega)
    · have hnot : ¬ ((copiesTo ks n).length : Int) ≤ most := by
        have := copiesTo_mono ks (a := i + 1) (b := n) (by omega)
        omega
      refine Zerun ?_
      exact retQ_ret [_, _] hh ⟨rfl, rfl, trivial⟩ hs.dropAll ⟨_, by rw [hres, if_neg hnot]; rfl, by rw [hres, if_neg hnot]; exact IntsAt.nil _⟩
  obtain rfl : i = n := by omega
  have hs := hs.sub (List.nil_sublist _)
  refine Zerun ?_
  refine RW.make T hs rfl rfl rfl rfl rfl (by omega) (by omega) (by dsimp only; omega) (by omega) ?_
  intro b3 w8 hs
  have hs := hs.re (ys := []) (made_one (.int .i64 0) 0)
  rw [Int.toNat_natCast] at hs ⊢
  have hs : Sees w h hh [⟨some ⟨b3, 0, none⟩, 0, (copiesTo ks i).length, 3, 1, []⟩] w8 := hs
  rw [show (0 : Int).toNat = 0 from rfl]
  refine Zerun ?_
  refine CW.loop (fun u : Nat × Nat × Option Addr × Nat => [(1, .int .i64 (i : Int)), (8, .slice ad2 ks.length cp2), (15, .slice u.2.2.1 u.2.1 u.2.2.2), (81, .int .i64 (i : Int)), (82, .int .i64 u.1)]) (fun u w' => u.1 ≤ i ∧ (copiesTo ks u.1).length = u.2.1 ∧ Sees w h hh [⟨u.2.2.1, u.2.1, u.2.2.2, 3, 1, (copiesTo ks u.1).map (Value.int .i64)⟩] w') (fun u => i - u.1) (0, 0, some ⟨b3, 0, none⟩, (copiesTo ks i).length) ⟨rfl, rfl, rfl, rfl, rfl, trivial⟩ ⟨by omega, rfl, hs⟩ ?_
  rintro ⟨j, m, ra, rc⟩ w9 ⟨hj, hm9, hs⟩
  dsimp only at hj hm9 hs ⊢
  by_cases hlt2 : j < i
  · obtain ⟨hq, hc1, hc2⟩ := hcm j hlt2
    have hcg : ks.getD ((j : Int) % (ks.length : Int)).toNat 0 = cAt ks j := by rw [← Int.natCast_emod, Int.toNat_natCast]; rfl
    have hmono := copiesTo_mono ks (a := j + 1) (b := i) (by omega)
    have hls := copiesTo_len_succ ks j
    have hsu := copiesTo_succ ks j
    generalize cAt ks j = c at hc1 hc2 hcg hls hsu
    obtain ⟨at_, hat⟩ : ∃ z : Int, (if c < 0 then -1 else (j : Int)) = z := ⟨_, rfl⟩
    have hseg : segC c j = List.replicate c.natAbs at_ := by unfold segC; rw [hat]
    refine Zerun ?_
    rw [hcg]
    refine Zerun ?_
    refine CW.meet (fun _ : Unit => [(1, .int .i64 (i : Int)), (8, .slice ad2 ks.length cp2), (15, .slice ra m rc), (17, .int .i64 (c.natAbs : Int)), (18, .int .i64 at_), (81, .int .i64 (i : Int)), (82, .int .i64 j)]) (fun _ w' => Sees w h hh [⟨ra, m, rc, 3, 1, (copiesTo ks j).map (Value.int .i64)⟩] w') ?_ ?_
    · by_cases c4 : c < 0
      · rw [if_pos c4] at hat
        refine Zerun ?_
        refine RW.val (Y.neg rfl ⟨by omega, by omega⟩) rfl ?_
        refine Zerun ?_
        exact joinQ_meet () ⟨rfl, rfl, rfl, seti (by omega), seti hat, rfl, rfl, trivial⟩ hs
      · rw [if_neg c4] at hat
        refine Zerun ?_
        exact joinQ_meet () ⟨rfl, rfl, rfl, seti (by omega), seti hat, rfl, rfl, trivial⟩ hs
    rintro _ w10 hs
    refine Zerun ?_
    refine CW.loop (fun u : Nat × Option Addr × Nat => [(1, .int .i64 (i : Int)), (8, .slice ad2 ks.length cp2), (15, .slice u.2.1 (m + u.1) u.2.2), (18, .int .i64 at_), (81, .int .i64 (i : Int)), (82, .int .i64 j), (97, .int .i64 (c.natAbs : Int)), (98, .int .i64 u.1)]) (fun u w' => u.1 ≤ c.natAbs ∧ Sees w h hh [⟨u.2.1, m + u.1, u.2.2, 3, 1, (copiesTo ks j ++ List.replicate u.1 at_).map (Value.int .i64)⟩] w') (fun u => c.natAbs - u.1) (0, ra, rc) ⟨rfl, rfl, rfl, rfl, rfl, rfl, rfl, rfl, trivial⟩ ⟨by omega, hs.re (by simp)⟩ ?_
    rintro ⟨q, rb, rd⟩ w11 ⟨hq9, hs⟩
    dsimp only at hq9 hs ⊢
    by_cases hq8 : q < c.natAbs
    · refine Zerun ?_
      (refine RW.lit T hs (vs := [.int .i64 at_]) (cs := [.int .i64 at_]) rfl rfl rfl rfl (by simp [Value.cells]) rfl rfl rfl rfl rfl ?_; intro b6 w6 hs)
      (refine RW.append T hs 1 rfl rfl (m := 1) (news := [.int .i64 at_]) rfl rfl rfl rfl rfl rfl (hs.src0 rfl (by simp [Value.oneCell'])) (by simp) (by dsimp only; omega) (by omega) ?_; intro ad7 cp7 w7 hs; replace hs := hs.drop)
      refine Zerun ?_
      exact loopQ_round (q + 1, ad7, cp7) ⟨rfl, rfl, rfl, rfl, rfl, rfl, rfl, rfl, trivial⟩ ⟨by dsimp only; omega, hs.re (by dsimp only; rw [List.replicate_succ', ← List.append_assoc, List.map_append (l₁ := copiesTo ks j ++ List.replicate q at_)]; rfl)⟩ (by dsimp only; omega)
    · obtain rfl : q = c.natAbs := by omega
      refine Zerun ?_
      exact loopQ_round (j + 1, m + c.natAbs, rb, rd) ⟨rfl, rfl, rfl, rfl, rfl, trivial⟩ ⟨by dsimp only; omega, by dsimp only; omega, hs.re (by dsimp only; rw [hsu, hseg])⟩ (by dsimp only; omega)
  have hs9 := hs
  obtain rfl : j = i := by omega
  obtain ⟨h12, hle12, hs, hI12⟩ := freezeI hs9 hm9
  refine Zerun ?_
  exact retQ_ret [_, _] h12 ⟨rfl, rfl, trivial⟩ hs.dropAll ⟨_, by rw [hres, if_pos hsum]; rfl, by rw [hres, if_pos hsum]; exact hI12⟩
end
end Go.Proofs.YtmojpbfkpggjhaaGreatDoor

/-
  Contracts of functions of package value: arrays made of elements, a number, a character, a box alone. No statement is proved here.
-/
namespace Go.Proofs.YtmojpbfkpggjhaaGreatDoor
open Go Go.RowKit
set_option linter.unusedVariables false
set_option linter.unusedSimpArgs false
set_option maxHeartbeats 4000000
attribute [local irreducible] CW RW QW SW HW ConM retM heldQ calmQ elemP thenQ blockQ loopQ joinQ retQ Yields Con Sl zF magR unitF truncF fwF wholeF tidySpec elemQ rankF leastN tidyW

section
variable {α : Type} {R : GHeap → List Value → α → Prop}
/-- what is wrong with elements of a shape -/
def newE (l : List Int) (v : VecD α) : Int := if (product l 1048576).2 ≠ 0 then (product l 1048576).2 else if v.kind = 0 then 1 else if (product l 1048576).1 ≠ v.len then 23 else 0
theorem valueNew_con (hR : Mono R) (s : Value) (l : List Int) (cs : List Value) (v : VecD α) (w : World) (h : GHeap) (hl : IntsAt h s l) (hv : VecAt R h cs v) : Con Tryz.prog 114 [s, .agg cs.toArray] w h (OfPost (ArrR R) (newE l v) ⟨l, v.sq⟩) := by
  have hl' := hl
  obtain ⟨ad, cp, rfl, hS⟩ := hl
  have hsl : l.length ≤ 9223372036854775807 := by have := hS.caps; omega
  have hv' := hv
  obtain ⟨wv, nv, sm, il, fl, ch, bx, ⟨rfl, hoc⟩, hk⟩ := hv
  clear hk
  unfold newE
  refine Con.of_body Tryz.func114 rfl Tryz.ntmps114 rfl rfl ?_
  intro hs
  refine Zrun ?_
  (refine RW.boxN hs rfl rfl ?_; intro b1 w1 hs)
  (refine RW.allocN T hs rfl rfl rfl rfl ?_; intro b2 w2 hs)
  refine Zerun ?_
  (refine RW.call T hs rfl rfl rfl (product_con _ l 1048576 _ _ hl' hsl) ?_; intro v h3 w3 hle3 hp3 hs)
  subst hp3
  have hl' := hl'.mono hle3
  have hv' := hv'.mono hR hle3
  generalize hpr : product l 1048576 = r
  obtain ⟨n, e⟩ := r
  dsimp only
  by_cases c1 : e ≠ 0
  · rw [if_pos c1]
    refine Zerun ?_
    refine RW.val (Y.build T rfl rfl rfl rfl rfl rfl rfl) rfl ?_
    refine Zerun ?_
    (refine RW.storeAll T hs 0 rfl rfl rfl rfl rfl rfl rfl rfl ?_; intro w4 hs)
    refine Zerun ?_
    exact retQ_ret [_, _] h3 ⟨resN T hs 0 rfl rfl rfl rfl rfl rfl, rfl, trivial⟩ hs.dropAll (OfPost.bad c1)
  rw [if_neg c1]
  refine Zerun ?_
  (refine RW.call T hs rfl rfl rfl (vecKind_con _ v _ _ hv') ?_; intro v h4 w4 hle4 hp4 hs)
  subst hp4
  have hl' := hl'.mono hle4
  have hv' := hv'.mono hR hle4
  by_cases c2 : v.kind = 0
  · rw [if_pos c2]
    refine Zerun ?_
    refine RW.val (Y.build T rfl rfl rfl rfl rfl rfl rfl) rfl ?_
    (refine RW.storeAll T hs 0 rfl rfl rfl rfl rfl rfl rfl rfl ?_; intro w5 hs)
    refine Zerun ?_
    exact retQ_ret [_, _] h4 ⟨resN T hs 0 rfl rfl rfl rfl rfl rfl, rfl, trivial⟩ hs.dropAll (OfPost.bad (by omega))
  rw [if_neg c2]
  refine Zerun ?_
  (refine RW.call T hs rfl rfl rfl (vecLen_con _ v _ _ hv') ?_; intro v h5 w5 hle5 hp5 hs)
  subst hp5
  have hl' := hl'.mono hle5
  have hv' := hv'.mono hR hle5
  by_cases c3 : n ≠ v.len
  · rw [if_pos c3]
    refine Zerun ?_
    refine RW.val (Y.build T rfl rfl rfl rfl rfl rfl rfl) rfl ?_
    (refine RW.storeAll T hs 0 rfl rfl rfl rfl rfl rfl rfl rfl ?_; intro w6 hs)
    refine Zerun ?_
    exact retQ_ret [_, _] h5 ⟨resN T hs 0 rfl rfl rfl rfl rfl rfl, rfl, trivial⟩ hs.dropAll (OfPost.bad (by omega))
  rw [if_neg c3]
  have hpr2 : product l 1048576 = ((v.len : Int), 0) := by rw [hpr, Decidable.of_not_not c1, Decidable.of_not_not c3]
  have hln := product_le hpr2
  have hlen := hln.2
  refine Zerun ?_
  refine CW.regionH T (fun w' : World => ∃ (h' : GHeap) (O : List Row) (k : Nat), Sees w h h' O w' ∧ O[k]? = some (Row.mk (some ⟨b1, 0, none⟩) 1 1 38 8 (vecCells v.kind wv nv sm il fl ch bx))) ?_
  rintro w4 rfl
  have hs := hs.drew
  refine HW.take (fuel := 6) 0 rfl (v := .slice ad l.length cp) ?_ ?_ rfl (by kernel_rfl) (by kernel_rfl) (by kernel_rfl) ?_
  · intro w' _; exact Y.move rfl
  · exact ⟨_, _, 1, hs, rfl⟩
  refine HW.take (fuel := 5) 2 rfl (v := .agg (vecCells v.kind wv nv sm il fl ch bx).toArray) ?_ ?_ rfl (by kernel_rfl) (by kernel_rfl) (by kernel_rfl) ?_
  · rintro w' ⟨h', O, k, hs', e0⟩; exact Y.loadRowN T hs' k e0 rfl rfl rfl rfl rfl rfl
  · exact ⟨_, _, 1, hs, rfl⟩
  refine HW.one (fuel := 4) 1 rfl (by kernel_rfl) ?_
  (refine RW.call T hs rfl rfl rfl (cloneInts_con _ l _ _ hl' (by omega)) ?_; intro v h5 w5 hle5 hp5 hs)
  have hl5 := hp5
  obtain ⟨ad5, cp5, rfl, _⟩ := hp5
  have hv' := hv'.mono hR hle5
  refine RW.nil ?_
  refine heldQ_normal ⟨_, _, 1, hs, rfl⟩ ?_
  refine HW.one (fuel := 3) 3 rfl (by kernel_rfl) ?_
  (refine RW.call T hs rfl rfl rfl (sqSqueeze_con hR _ v _ _ hv' hlen) ?_; intro v h6 w6 hle6 hp6 hs)
  obtain ⟨cs6, rfl, hv6⟩ := hp6
  have hl5 := hl5.mono hle6
  have hv6' := hv6
  obtain ⟨wv', nv', sm', il', fl', ch', bx', ⟨rfl, hoc6⟩, _⟩ := hv6
  generalize v.sq.kind = vk at *
  refine RW.nil ?_
  refine heldQ_normal ⟨_, _, 1, hs, rfl⟩ ?_
  refine HW.take (fuel := 2) 4 rfl (v := .agg (.slice ad5 l.length cp5 :: vecCells vk wv' nv' sm' il' fl' ch' bx').toArray) ?_ ?_ rfl (by kernel_rfl) (by kernel_rfl) (by kernel_rfl) ?_
  · intro w' _; exact Y.build T rfl rfl rfl rfl rfl rfl rfl
  · exact ⟨_, _, 1, hs, rfl⟩
  refine HW.one (fuel := 1) 5 rfl (by kernel_rfl) ?_
  (refine RW.storeAll T hs 0 rfl rfl rfl rfl rfl rfl hoc6 rfl ?_; intro w7 hs)
  refine RW.nil ?_
  refine heldQ_normal ⟨_, _, 1, hs, rfl⟩ ?_
  refine HW.one (fuel := 0) 6 rfl (by kernel_rfl) ?_
  refine RW.val (Y.assign rfl) rfl ?_
  refine RW.nil ?_
  refine heldQ_normal ⟨_, _, 1, hs, rfl⟩ ?_
  refine HW.done (by kernel_rfl) ?_
  refine calmQ_normal ?_
  refine Zerun ?_
  refine retQ_ret [_, _] h6 ⟨resN T hs 0 rfl rfl rfl rfl rfl rfl, rfl, trivial⟩ hs.dropAll ⟨_, rfl, rfl, ?_, fun _ => ⟨_, _, rfl, hl5, hv6'⟩, fun e => absurd rfl e⟩
  intro u hu
  rcases List.mem_cons.1 hu with rfl | hu
  · rfl
  · exact List.all_eq_true.1 hoc6 u hu
theorem valueNum_con (hR : Mono R) (x : Nat) (w : World) (h : GHeap) (hx : x < 18446744073709551616) : Con Tryz.prog 105 [.float .f64 x] w h (fun h' u => ∃ cs', u = .tuple #[.agg cs'.toArray, .bool (decide (finF x))] ∧ ArrR R h' cs' ⟨[], if finF x then ⟨leastN [tidyW x], [tidyW x], [], []⟩ else VecD.none⟩) := by
  refine Con.of_body Tryz.func105 rfl Tryz.ntmps105 rfl rfl ?_
  intro hs
  refine Zrun ?_
  (refine RW.allocN T hs rfl rfl rfl rfl ?_; intro b1 w1 hs)
  refine Zerun ?_
  (refine RW.lit T hs (vs := [.float .f64 x]) (cs := [.float .f64 x]) rfl rfl rfl rfl (by simp [Value.cells]) rfl rfl rfl rfl rfl ?_; intro b2 w2 hs)
  obtain ⟨h3, hle3, hs, hS3⟩ := hs.freeze
  have hF3 : FAt h3 (.slice (some ⟨b2, 0, none⟩) 1 1) [x] := RowAt.of_sl hS3
  (refine RW.call T hs rfl rfl rfl (sqNumbers_con (R := R) hR _ [x] _ _ hF3 (by intro u hu; rw [List.mem_singleton.1 hu]; exact hx) (by simp)) ?_; intro v h4 w4 hle4 hp4 hs)
  obtain ⟨cs4, ok, rfl, hok, hv4⟩ := hp4
  have hok : ok = decide (finF x) := by rw [hok]; exact decide_eq_decide.2 ⟨fun e => e x (by simp), fun e u hu => by rw [List.mem_singleton.1 hu]; exact e⟩
  have hv4' := hv4
  obtain ⟨wv, nv, sm, il, fl, ch, bx, ⟨hcs4, hoc4⟩, _⟩ := hv4
  generalize hvk : (if ok = true then (⟨leastN ([x].map tidyW), [x].map tidyW, [], []⟩ : VecD α) else VecD.none).kind = vk at hcs4
  subst hcs4
  refine Zerun ?_
  (refine RW.allocN T hs rfl rfl rfl rfl ?_; intro b5 w5 hs)
  (refine RW.storeAll T hs 0 rfl rfl rfl rfl rfl rfl hoc4 rfl ?_; intro w6 hs)
  refine Zerun ?_
  by_cases hf : finF x
  · rw [decide_eq_true hf] at hok ⊢
    subst hok
    refine Zerun ?_
    refine RW.val (Y.build T rfl rfl rfl rfl rfl rfl rfl) rfl ?_
    (refine RW.storeAll T hs 1 rfl rfl rfl rfl rfl rfl hoc4 rfl ?_; intro w7 hs)
    refine Zerun ?_
    refine retQ_ret [_, _] h4 ⟨resN T hs 1 rfl rfl rfl rfl rfl rfl, rfl, trivial⟩ hs.dropAll ⟨_, rfl, _, _, rfl, RowAt.nil _, ?_⟩
    rw [if_pos hf]
    exact hv4'
  · rw [decide_eq_false hf] at hok ⊢
    subst hok
    refine Zerun ?_
    refine RW.val (Y.build T rfl rfl rfl rfl rfl rfl rfl) rfl ?_
    (refine RW.storeAll T hs 1 rfl rfl rfl rfl rfl rfl rfl rfl ?_; intro w7 hs)
    refine Zerun ?_
    refine retQ_ret [_, _] h4 ⟨resN T hs 1 rfl rfl rfl rfl rfl rfl, rfl, trivial⟩ hs.dropAll ⟨_, rfl, _, _, rfl, RowAt.nil _, ?_⟩
    rw [if_neg hf]
    exact vecNone h4
end
end Go.Proofs.YtmojpbfkpggjhaaGreatDoor

/-
  Contracts of the law's own functions of layer 7: which shapes elements can have. No statement is proved here.
-/
namespace Go.Proofs.YtmojpbfkpggjhaaGreatDoor
open Go Go.RowKit
set_option linter.unusedVariables false
set_option linter.unusedSimpArgs false
set_option maxHeartbeats 4000000
attribute [local irreducible] CW RW QW SW HW ConM retM heldQ calmQ elemP thenQ blockQ loopQ joinQ retQ Yields Con Sl zF magR unitF truncF fwF wholeF tidySpec elemQ rankF leastN tidyW

/-- the plain array of numbers -/
def numsP {α : Type} (l : List Nat) : PlainD α := ⟨[(l.length : Int)], l.map fun x => ⟨0, x, 0, []⟩, 0⟩
theorem refNums_con {α : Type} {R : GHeap → List Value → α → Prop} (hR : Mono R) (s : Value) (l : List Nat) (w : World) (h : GHeap) (hl : FAt h s l) (hx : ∀ u ∈ l, u < 18446744073709551616) (hm : l.length ≤ 1048576) : Con Tryz.prog 41 [s] w h (fun h' u => ∃ cs', u = .agg cs'.toArray ∧ PlainR R h' cs' (numsP l)) := by
  obtain ⟨ad, cp, rfl, hS⟩ := hl
  refine Con.of_body Tryz.func41 rfl Tryz.ntmps41 rfl rfl ?_
  intro hs
  refine Zrun ?_
  (refine RW.allocN T hs rfl rfl rfl rfl ?_; intro b1 w1 hs)
  refine Zerun ?_
  (refine RW.lit T hs (vs := [.int .i64 l.length]) (cs := [.int .i64 l.length]) rfl rfl rfl rfl (by simp [Value.cells]) rfl rfl rfl rfl rfl ?_; intro b2 w2 hs)
  obtain ⟨h3, hle3, hs, hS3⟩ := hs.freeze
  have hI3 : IntsAt h3 (.slice (some ⟨b2, 0, none⟩) 1 1) [(l.length : Int)] := IntsAt.of_sl hS3
  refine RW.val (Y.build T rfl rfl rfl rfl rfl rfl rfl) rfl ?_
  (refine RW.allocN T hs rfl rfl rfl rfl ?_; intro b3 w3 hs)
  (refine RW.storeAll T hs 0 rfl rfl rfl rfl rfl rfl rfl rfl ?_; intro w4 hs)
  refine Zerun ?_
  have hs := hs.nilRow 70 4
  refine CW.loop (fun u : Nat × Option Addr × Nat × List Value => [(0, .slice ad l.length cp), (2, .pointer (some ⟨b1, 0, none⟩)), (3, .pointer (some ⟨b3, 0, none⟩)), (4, .int .i64 u.1)]) (fun u w' => u.1 ≤ l.length ∧ AllN 4 (ItemAt R h3) u.2.2.2 ((l.take u.1).map fun x => ⟨0, x, 0, []⟩) ∧ Sees w h h3 [⟨u.2.1, u.1, u.2.2.1, 70, 4, u.2.2.2⟩, ⟨some ⟨b3, 0, none⟩, 1, 1, 25, 3, [.slice (some ⟨b2, 0, none⟩) 1 1, .slice u.2.1 u.1 u.2.2.1, .int .i64 0]⟩, ⟨some ⟨b1, 0, none⟩, 1, 1, 25, 3, [.slice none 0 0, .slice none 0 0, .int .i64 0]⟩] w') (fun u => l.length - u.1) (0, none, 0, []) ⟨rfl, rfl, rfl, rfl, trivial⟩ ⟨by omega, rfl, hs⟩ ?_
  rintro ⟨i, ra, rc, vs⟩ w5 ⟨hi, hAv, hs⟩
  dsimp only at hi hAv hs ⊢
  by_cases hlt : i < l.length
  · have htk := take_succ_getD l i 0 hlt
    refine Zerun ?_
    refine CW.regionH T (fun w' : World => ∃ (h' : GHeap) (O : List Row), Sees w h h' O w') ?_
    rintro w7 rfl
    have hs := hs.drew
    refine HW.take (fuel := 10) 0 rfl (v := .pointer (some ⟨b3, 0 + 1, none⟩)) ?_ ?_ rfl (by kernel_rfl) (by kernel_rfl) (by kernel_rfl) ?_
    · intro w' _; exact Y.fieldAddr T rfl rfl rfl rfl rfl
    · exact ⟨_, _, hs⟩
    refine HW.take (fuel := 9) 2 rfl (v := .slice ad l.length cp) ?_ ?_ rfl (by kernel_rfl) (by kernel_rfl) (by kernel_rfl) ?_
    · intro w' _; exact Y.move rfl
    · exact ⟨_, _, hs⟩
    refine HW.take (fuel := 8) 3 rfl (v := .int .i64 i) ?_ ?_ rfl (by kernel_rfl) (by kernel_rfl) (by kernel_rfl) ?_
    · intro w' _; exact Y.move rfl
    · exact ⟨_, _, hs⟩
    refine HW.take (fuel := 7) 4 rfl (v := elemP ad i 1) ?_ ?_ rfl (by kernel_rfl) (by kernel_rfl) (by kernel_rfl) ?_
    · rintro w' ⟨h', O, hs'⟩; exact Y.idxSN T rfl rfl (hS.mono hs'.le) rfl rfl rfl hlt
    · exact ⟨_, _, hs⟩
    refine HW.take (fuel := 6) 5 rfl (v := .float .f64 (l.getD i 0)) ?_ ?_ rfl (by kernel_rfl) (by kernel_rfl) (by kernel_rfl) ?_
    · rintro w' ⟨h', O, hs'⟩; exact Y.ldS T hs' rfl (hS.mono hs'.le) rfl rfl hlt (map_get _ _ _ _ hlt)
    · exact ⟨_, _, hs⟩
    refine HW.take (fuel := 5) 6 rfl (v := .agg [.int .i64 0, .float .f64 (l.getD i 0), .int .i32 0, .slice none 0 0].toArray) ?_ ?_ rfl (by kernel_rfl) (by kernel_rfl) (by kernel_rfl) ?_
    · intro w' _; exact Y.build T rfl rfl rfl rfl rfl rfl rfl
    · exact ⟨_, _, hs⟩
    refine HW.two (fuel := 4) 1 7 rfl rfl (by kernel_rfl) ?_ ?_
    · refine RW.val (Y.loadRow1 T hs 1 rfl rfl rfl rfl rfl) rfl ?_
      refine RW.nil ?_
      refine heldQ_normal ⟨_, _, hs⟩ ?_
      refine HW.one (fuel := 3) 7 rfl (by kernel_rfl) ?_
      (refine RW.lit T hs (vs := [.agg [.int .i64 0, .float .f64 (l.getD i 0), .int .i32 0, .slice none 0 0].toArray]) (cs := [.int .i64 0, .float .f64 (l.getD i 0), .int .i32 0, .slice none 0 0]) rfl rfl rfl rfl (by simp [Value.cells]) rfl rfl rfl rfl rfl ?_; intro b8 w8 hs)
      refine RW.nil ?_
      refine heldQ_normal ⟨_, _, hs⟩ ?_
      refine HW.one (fuel := 2) 8 rfl (by kernel_rfl) ?_
      (refine RW.append T hs 1 rfl rfl (m := 1) (news := [.int .i64 0, .float .f64 (l.getD i 0), .int .i32 0, .slice none 0 0]) rfl rfl rfl rfl rfl rfl (hs.src0 rfl (by simp [Value.oneCell'])) (by simp) (by dsimp only; omega) (by omega) ?_; intro ad9 cp9 w9 hs; replace hs := hs.drop)
      refine RW.nil ?_
      refine heldQ_normal ⟨_, _, hs⟩ ?_
      refine HW.take (fuel := 1) 9 rfl (v := .pointer (some ⟨b3, 0 + 1, none⟩)) ?_ ?_ rfl (by kernel_rfl) (by kernel_rfl) (by kernel_rfl) ?_
      · intro w' _; exact Y.fieldAddr T rfl rfl rfl rfl rfl
      · exact ⟨_, _, hs⟩
      refine HW.one (fuel := 0) 10 rfl (by kernel_rfl) ?_
      (refine RW.store1 T hs 1 rfl rfl rfl rfl rfl rfl rfl rfl ?_; intro w10 hs)
      refine RW.nil ?_
      refine heldQ_normal ⟨_, _, hs⟩ ?_
      refine HW.done (by kernel_rfl) ?_
      refine calmQ_normal ?_
      refine Zerun ?_
      refine loopQ_round (i + 1, ad9, cp9, _) ⟨rfl, rfl, rfl, rfl, trivial⟩ ⟨by dsimp only; omega, ?_, hs⟩ (by dsimp only; omega)
      dsimp only
      rw [htk, List.map_append]
      exact hAv.append (AllN.one rfl (ItemAt.mk' (x := ⟨0, l.getD i 0, 0, []⟩) (RowsAt.nil _) (hx _ (mem_getD _ _ _ hlt))))
    · (refine RW.lit T hs (vs := [.agg [.int .i64 0, .float .f64 (l.getD i 0), .int .i32 0, .slice none 0 0].toArray]) (cs := [.int .i64 0, .float .f64 (l.getD i 0), .int .i32 0, .slice none 0 0]) rfl rfl rfl rfl (by simp [Value.cells]) rfl rfl rfl rfl rfl ?_; intro b8 w8 hs)
      refine RW.nil ?_
      refine heldQ_normal ⟨_, _, hs⟩ ?_
      refine HW.one (fuel := 3) 1 rfl (by kernel_rfl) ?_
      refine RW.val (Y.loadRow1 T hs 2 rfl rfl rfl rfl rfl) rfl ?_
      refine RW.nil ?_
      refine heldQ_normal ⟨_, _, hs⟩ ?_
      refine HW.one (fuel := 2) 8 rfl (by kernel_rfl) ?_
      (refine RW.append T hs 1 rfl rfl (m := 1) (news := [.int .i64 0, .float .f64 (l.getD i 0), .int .i32 0, .slice none 0 0]) rfl rfl rfl rfl rfl rfl (hs.src0 rfl (by simp [Value.oneCell'])) (by simp) (by dsimp only; omega) (by omega) ?_; intro ad9 cp9 w9 hs; replace hs := hs.drop)
      refine RW.nil ?_
      refine heldQ_normal ⟨_, _, hs⟩ ?_
      refine HW.take (fuel := 1) 9 rfl (v := .pointer (some ⟨b3, 0 + 1, none⟩)) ?_ ?_ rfl (by kernel_rfl) (by kernel_rfl) (by kernel_rfl) ?_
      · intro w' _; exact Y.fieldAddr T rfl rfl rfl rfl rfl
      · exact ⟨_, _, hs⟩
      refine HW.one (fuel := 0) 10 rfl (by kernel_rfl) ?_
      (refine RW.store1 T hs 1 rfl rfl rfl rfl rfl rfl rfl rfl ?_; intro w10 hs)
      refine RW.nil ?_
      refine heldQ_normal ⟨_, _, hs⟩ ?_
      refine HW.done (by kernel_rfl) ?_
      refine calmQ_normal ?_
      refine Zerun ?_
      refine loopQ_round (i + 1, ad9, cp9, _) ⟨rfl, rfl, rfl, rfl, trivial⟩ ⟨by dsimp only; omega, ?_, hs⟩ (by dsimp only; omega)
      dsimp only
      rw [htk, List.map_append]
      exact hAv.append (AllN.one rfl (ItemAt.mk' (x := ⟨0, l.getD i 0, 0, []⟩) (RowsAt.nil _) (hx _ (mem_getD _ _ _ hlt))))
  · obtain rfl : i = l.length := by omega
    rw [List.take_length] at hAv
    obtain ⟨h6, hle6, hs, hS6⟩ := hs.freeze
    refine Zerun ?_
    (refine RW.storeAll T hs 1 rfl rfl rfl rfl rfl rfl rfl rfl ?_; intro w7 hs)
    refine Zerun ?_
    refine retQ_ret [_] h6 ⟨resN T hs 1 rfl rfl rfl rfl rfl rfl, trivial⟩ hs.dropAll ⟨_, rfl, _, _, rfl, hI3.mono hle6, ra, rc, vs, by simp [numsP], ?_, hAv.mono (fun u a => ItemAt.mono hR _ _ u a hle6)⟩
    simpa [numsP] using hS6
theorem sq_nums {α : Type} (vk : Int) (N : List Nat) (h1 : 1 ≤ vk) (h4 : vk ≤ 4) : (⟨vk, N, [], []⟩ : VecD α).sq = ⟨leastN N, N, [], []⟩ := by
  unfold VecD.sq VecD.cls
  have e5 : ¬ vk = 5 := by omega
  have e6 : ¬ vk = 6 := by omega
  simp only [if_neg e5, if_neg e6]
  rw [if_pos ⟨trivial, by omega⟩]
end Go.Proofs.YtmojpbfkpggjhaaGreatDoor

/-
  Plain Lean on arrays of numbers, and of one number: good ones, told plainly. No statement is proved here.
-/
namespace Go.Proofs.YtmojpbfkpggjhaaGreatDoor
open Go Go.RowKit
set_option linter.unusedVariables false
set_option linter.unusedSimpArgs false
set_option maxHeartbeats 4000000
attribute [local irreducible] CW RW QW SW HW ConM retM heldQ calmQ elemP thenQ blockQ loopQ joinQ retQ Yields Con Sl zF magR unitF truncF fwF wholeF tidySpec elemQ rankF leastN tidyW

theorem product_len1 (n : Nat) (h : n ≤ 1048576) : product [(n : Int)] 1048576 = ((n : Int), 0) := by
  have hg : goodS [(n : Int)] = true := (goodS_spec _).2 ⟨by simp, by intro d hd; rw [List.mem_singleton.1 hd]; omega, by simp [pr]; omega⟩
  rw [product_good _ hg]
  by_cases c : n = 0
  · subst c; simp
  · rw [if_neg (by simp; omega)]
    simp [pr]; omega
theorem product_0 : product [] 1048576 = (1, 0) := by decide
def numsA (k : Nat) (N : List Nat) : AD (k + 1) := (⟨[(N.length : Int)], ⟨leastN N, N, [], []⟩⟩ : ArrD (AD k))
theorem numsP_chk (k : Nat) (l : List Nat) (hf : ∀ x ∈ l, finF x) (hm : l.length ≤ 1048576) : chk (k + 1) 40 (numsP l : PlainD (PD k)) = 0 := by
  refine (chkP_ok (α := PD k) _ _ _).2 ⟨by omega, Int.le_refl _, (by show (0 : Int) ≤ 2; omega), ?_, fun x hx => ?_⟩
  · show product [(l.length : Int)] 1048576 = (((l.map fun x => (⟨0, x, 0, []⟩ : ItemD (PD k))).length : Int), 0)
    rw [product_len1 _ hm, List.length_map]
  · obtain ⟨y, hy, rfl⟩ := List.mem_map.1 hx
    exact ⟨rfl, fun e => absurd (show (0 : Int) = 2 from e) (by decide), fun _ => hf y hy⟩
theorem numsP_arr (k : Nat) (l : List Nat) : arr (k + 1) (numsP l : PlainD (PD k)) = numsA k (l.map tidyW) := by
  show (⟨[(l.length : Int)], arrV (arr k) 0 (l.map fun x => (⟨0, x, 0, []⟩ : ItemD (PD k)))⟩ : ArrD (AD k)) = _
  unfold arrV numsA
  rw [if_neg (by omega), if_neg (by omega), List.map_map, List.length_map]
  rfl
/-- small whole numbers, as words -/
theorem fw_rank (l : List Int) (h : ∀ n ∈ l, -9007199254740992 ≤ n ∧ n ≤ 9007199254740992) : leastN (l.map fwF) ≤ 3 := by
  unfold leastN
  refine fold_le _ _ _ (by omega) (fun x hx => ?_)
  obtain ⟨n, hn, rfl⟩ := List.mem_map.1 hx
  rw [rank_int, wholeF_fw n (h n hn)]
def numA (k : Nat) (x : Nat) : AD (k + 1) := (⟨[], ⟨leastN [x], [x], [], []⟩⟩ : ArrD (AD k))
def numQ (k : Nat) (x : Nat) : PD (k + 1) := (⟨[], [⟨0, x, 0, []⟩], 0⟩ : PlainD (PD k))
theorem numV_cls {α : Type} (N : List Nat) : (⟨leastN N, N, [], []⟩ : VecD α).cls = 0 := by
  have hb := leastN_bounds N
  unfold VecD.cls; dsimp only; rw [if_neg (by omega), if_neg (by omega)]
theorem numA_good (k x : Nat) (d : Int) (hd : d ≠ 0) : good (k + 1) d (numA k x) := by
  have hb := leastN_bounds [x]
  refine ⟨product_0, (by show leastN [x] ≠ 0; omega), ?_, hd, fun b hb => nomatch hb⟩
  show leastN [x] = VecD.least (⟨leastN [x], [x], [], []⟩ : VecD (AD k))
  unfold VecD.least
  rw [if_pos ⟨numV_cls _, by dsimp only; omega⟩]
theorem numA_plain (k x : Nat) : plain (k + 1) (numA k x) = numQ k x := by
  show (⟨[], itemsV (plain k) (⟨leastN [x], [x], [], []⟩ : VecD (AD k)), VecD.cls (⟨leastN [x], [x], [], []⟩ : VecD (AD k))⟩ : PlainD (PD k)) = _
  rw [itemsV_c0 (plain k) (numV_cls _), numV_cls]
  rfl
theorem numQ_tdy (k x : Nat) (h : tidyF x) : tdy (k + 1) (numQ k x) := by
  intro y hy
  rw [List.mem_singleton.1 hy]
  exact ⟨h, fun b hb => nomatch hb⟩
theorem refOne_con {α : Type} {R : GHeap → List Value → α → Prop} (x : Nat) (w : World) (h : GHeap) (hx : x < 18446744073709551616) : Con Tryz.prog 40 [.float .f64 x] w h (fun h' u => ∃ cs', u = .agg cs'.toArray ∧ PlainR R h' cs' (⟨[], [⟨0, x, 0, []⟩], 0⟩ : PlainD α)) := by
  refine Con.of_body Tryz.func40 rfl Tryz.ntmps40 rfl rfl ?_
  intro hs
  refine Zrun ?_
  (refine RW.allocN T hs rfl rfl rfl rfl ?_; intro b1 w1 hs)
  refine Zerun ?_
  refine RW.val (Y.build T rfl rfl rfl rfl rfl rfl rfl) rfl ?_
  (refine RW.lit T hs (vs := [.agg [.int .i64 0, .float .f64 x, .int .i32 0, .slice none 0 0].toArray]) (cs := [.int .i64 0, .float .f64 x, .int .i32 0, .slice none 0 0]) rfl rfl rfl rfl (by simp [Value.cells]) rfl rfl rfl rfl rfl ?_; intro b2 w2 hs)
  obtain ⟨h3, hle3, hs, hS3⟩ := hs.freeze
  refine RW.val (Y.build T rfl rfl rfl rfl rfl rfl rfl) rfl ?_
  (refine RW.storeAll T hs 0 rfl rfl rfl rfl rfl rfl rfl rfl ?_; intro w4 hs)
  refine Zerun ?_
  exact retQ_ret [_] h3 ⟨resN T hs 0 rfl rfl rfl rfl rfl rfl, trivial⟩ hs.dropAll ⟨_, rfl, _, _, rfl, RowAt.nil _, RowsAt.single hS3 (ItemAt.mk' (x := ⟨0, x, 0, []⟩) (RowsAt.nil _) hx)⟩
theorem numQ_chk (k x : Nat) (h : finF x) : chk (k + 1) 40 (numQ k x) = 0 := by
  refine (chkP_ok (α := PD k) _ _ _).2 ⟨by omega, Int.le_refl _, (by show (0 : Int) ≤ 2; omega), product_0, fun y hy => ?_⟩
  rw [List.mem_singleton.1 hy]
  exact ⟨rfl, fun e => absurd (show (0 : Int) = 2 from e) (by decide), fun _ => h⟩
theorem numQ_arr (k x : Nat) : arr (k + 1) (numQ k x) = numA k (tidyW x) := by
  show (⟨[], arrV (arr k) 0 [(⟨0, x, 0, []⟩ : ItemD (PD k))]⟩ : ArrD (AD k)) = _
  unfold arrV numA
  rw [if_neg (by omega), if_neg (by omega)]
  rfl
theorem numsA_good (k : Nat) (N : List Nat) (d : Int) (hd : d ≠ 0) (hm : N.length ≤ 1048576) : good (k + 1) d (numsA k N) := by
  have hb := leastN_bounds N
  refine ⟨?_, (by show leastN N ≠ 0; omega), ?_, hd, fun b hb => nomatch hb⟩
  · show product [(N.length : Int)] 1048576 = (((N.length + 0 + 0 : Nat) : Int), 0)
    rw [product_len1 _ hm]; rfl
  · show leastN N = VecD.least (⟨leastN N, N, [], []⟩ : VecD (AD k))
    unfold VecD.least
    rw [if_pos ⟨numV_cls _, by dsimp only; omega⟩]
theorem numsA_plain (k : Nat) (N : List Nat) : plain (k + 1) (numsA k N) = (numsP N : PlainD (PD k)) := by
  show (⟨[(N.length : Int)], itemsV (plain k) (⟨leastN N, N, [], []⟩ : VecD (AD k)), VecD.cls (⟨leastN N, N, [], []⟩ : VecD (AD k))⟩ : PlainD (PD k)) = _
  rw [itemsV_c0 (plain k) (numV_cls _), numV_cls]
  rfl
theorem numsP_tdy (k : Nat) (N : List Nat) (h : ∀ x ∈ N, tidyF x) : tdy (k + 1) (numsP N : PlainD (PD k)) := by
  intro y hy
  obtain ⟨x, hx, rfl⟩ := List.mem_map.1 hy
  exact ⟨h x hx, fun b hb => nomatch hb⟩
end Go.Proofs.YtmojpbfkpggjhaaGreatDoor

/-
  Contract of the example of layer 15. No statement is proved here.
-/
namespace Go.Proofs.YtmojpbfkpggjhaaGreatDoor
open Go Go.RowKit
set_option linter.unusedVariables false
set_option linter.unusedSimpArgs false
set_option maxHeartbeats 4000000
attribute [local irreducible] CW RW QW SW HW ConM retM heldQ calmQ elemP thenQ blockQ loopQ joinQ retQ Yields Con Sl zF magR unitF truncF fwF wholeF tidySpec elemQ rankF leastN tidyW
set_option maxHeartbeats 4000000

end Go.Proofs.YtmojpbfkpggjhaaGreatDoor

/-
  Contract of the law's own function of layer 15: places turned, taken and dropped. No statement is proved here.
-/
namespace Go.Proofs.YtmojpbfkpggjhaaGreatDoor
open Go Go.RowKit
set_option linter.unusedVariables false
set_option linter.unusedSimpArgs false
set_option maxHeartbeats 4000000
attribute [local irreducible] CW RW QW SW HW ConM retM heldQ calmQ elemP thenQ blockQ loopQ joinQ retQ Yields Con Sl zF magR unitF truncF fwF wholeF tidySpec elemQ rankF leastN tidyW
set_option maxHeartbeats 4000000

end Go.Proofs.YtmojpbfkpggjhaaGreatDoor

/-
  Plain facts on sums of floating point words that are whole. No program is in sight, and no statement is proved here.
-/
namespace Go.Proofs.YtmojpbfkpggjhaaGreatDoor
open Ieee

theorem log2_scale (n b : Nat) (h : n ≠ 0) : (n * 2 ^ b).log2 = n.log2 + b := by
  have hp : 0 < 2 ^ b := Nat.pow_pos (by omega)
  have h' : n * 2 ^ b ≠ 0 := Nat.mul_ne_zero h (by omega)
  rw [Nat.log2_eq_iff h']
  have l1 := Nat.log2_self_le h
  have l2 : n < 2 ^ (n.log2 + 1) := Nat.lt_log2_self
  constructor
  · rw [Nat.pow_add]; exact Nat.mul_le_mul_right _ l1
  · rw [show n.log2 + b + 1 = (n.log2 + 1) + b by omega, Nat.pow_add]; exact Nat.mul_lt_mul_of_pos_right l2 hp
theorem cut_scale (neg : Bool) (n d b : Nat) (h : n ≠ 0) : Toward.even.cut neg (n * 2 ^ b) (d + b) = Toward.even.cut neg n d := by
  have hp : 0 < 2 ^ b := Nat.pow_pos (by omega)
  unfold Toward.cut
  rw [log2_scale n b h, show min (d + b) (n.log2 + b + 2) = min d (n.log2 + 2) + b by omega]
  simp only [Nat.shiftLeft_eq, Nat.one_mul, Nat.pow_add]
  generalize 2 ^ min d (n.log2 + 2) = g
  rw [Nat.mul_div_mul_right _ _ hp, Nat.mul_mod_mul_right]
  have e1 : (g * 2 ^ b < 2 * (n % g * 2 ^ b)) ↔ (g < 2 * (n % g)) := by rw [← Nat.mul_assoc]; exact Nat.mul_lt_mul_right hp
  have e2 : (g * 2 ^ b = 2 * (n % g * 2 ^ b)) ↔ (g = 2 * (n % g)) := by rw [← Nat.mul_assoc]; exact Nat.mul_right_cancel_iff hp
  have e3 : (g * 2 ^ b == 2 * (n % g * 2 ^ b)) = (g == 2 * (n % g)) := by rw [Bool.eq_iff_iff]; simp only [beq_iff_eq]; exact e2
  simp only [e1, e3]
theorem nearest_scale (f : Format) (neg : Bool) (mag b : Nat) (place : Int) : f.nearest neg (mag * 2 ^ b) place = f.nearest neg mag (place + b) := by
  have hp : 0 < 2 ^ b := Nat.pow_pos (by omega)
  unfold Format.nearest
  by_cases h : mag = 0
  · subst h; simp
  have h' : mag * 2 ^ b ≠ 0 := Nat.mul_ne_zero h (by omega)
  rw [if_neg h, if_neg h', log2_scale mag b h]
  have a1 : place + ((mag.log2 + b : Nat) : Int) - (f.fractionBits : Int) = place + (b : Int) + (mag.log2 : Int) - (f.fractionBits : Int) := by omega
  simp only [a1]
  generalize max (place + (b : Int) + (mag.log2 : Int) - (f.fractionBits : Int)) f.leastPlace = last
  have key : Toward.even.cut neg ((mag * 2 ^ b) <<< (place - last).toNat) (last - place).toNat = Toward.even.cut neg (mag <<< (place + (b : Int) - last).toNat) (last - (place + (b : Int))).toNat := by
    simp only [Nat.shiftLeft_eq]
    by_cases c1 : last ≤ place
    · rw [show (last - place).toNat = 0 by omega, show (last - (place + (b : Int))).toNat = 0 by omega, show (place + (b : Int) - last).toNat = b + (place - last).toNat by omega, Nat.pow_add, Nat.mul_assoc]
    · rw [show (place - last).toNat = 0 by omega, Nat.pow_zero, Nat.mul_one]
      by_cases c2 : last ≤ place + (b : Int)
      · obtain ⟨d, hd⟩ : ∃ d, (last - place).toNat = d := ⟨_, rfl⟩
        rw [hd, show (last - (place + (b : Int))).toNat = 0 by omega, show (place + (b : Int) - last).toNat = b - d by omega]
        have e : mag * 2 ^ b = mag * 2 ^ (b - d) * 2 ^ d := by rw [Nat.mul_assoc, ← Nat.pow_add, show b - d + d = b by omega]
        rw [e]
        have := cut_scale neg (mag * 2 ^ (b - d)) 0 d (Nat.mul_ne_zero h (by have := Nat.pow_pos (n := b - d) (show 0 < 2 by omega); omega))
        rwa [Nat.zero_add] at this
      · rw [show (place + (b : Int) - last).toNat = 0 by omega, Nat.pow_zero, Nat.mul_one, show (last - place).toNat = (last - (place + (b : Int))).toNat + b by omega]
        exact cut_scale neg mag _ b h
  rw [key]
theorem sum_fw (s t : Bool) (m n i j : Nat) (a b : Int) (ha : signed s m i = a * unitF) (hb : signed t n j = b * unitF) (h0 : a + b = 0 → (s && t) = false) :
    ((Datum.number s m ((i : Int) - 1074)).sum (.number t n ((j : Int) - 1074))).map double.write = some (fwF (a + b)) := by
  obtain ⟨c, p, q, rfl, rfl, hc⟩ : ∃ c p q : Nat, i = p + c ∧ j = q + c ∧ min p q = 0 := ⟨min i j, i - min i j, j - min i j, by omega, by omega, by omega⟩
  have a0 : min (((p + c : Nat) : Int) - 1074) (((q + c : Nat) : Int) - 1074) = (c : Int) - 1074 := by omega
  have a1 : (((p + c : Nat) : Int) - 1074 - ((c : Int) - 1074)).toNat = p := by omega
  have a2 : (((q + c : Nat) : Int) - 1074 - ((c : Int) - 1074)).toNat = q := by omega
  simp only [Datum.sum, a0, a1, a2, Option.map_some, Format.write]
  rw [signed_scale] at ha hb
  have hT : (signed s m p + signed t n q) * ((2 ^ c : Nat) : Int) = (a + b) * (unitF : Int) := by rw [Int.add_mul, Int.add_mul, ha, hb]
  generalize signed s m p + signed t n q = z at hT
  generalize a + b = e at hT h0
  have hp : 0 < 2 ^ c := Nat.pow_pos (by omega)
  have hu := unitF_pos
  have hp' : (0 : Int) < ((2 ^ c : Nat) : Int) := by omega
  have hu' : (0 : Int) < (unitF : Int) := by omega
  have hz0 : z = 0 ↔ e = 0 := by
    constructor
    · rintro rfl
      rw [Int.zero_mul] at hT
      rcases Int.mul_eq_zero.1 hT.symm with h | h <;> omega
    · rintro rfl
      rw [Int.zero_mul] at hT
      rcases Int.mul_eq_zero.1 hT with h | h <;> omega
  have hzn : z < 0 ↔ e < 0 := by
    constructor
    · intro h
      have : z * ((2 ^ c : Nat) : Int) < 0 := Int.mul_neg_of_neg_of_pos h hp'
      rw [hT] at this
      exact Int.neg_of_mul_neg_left this (by omega)
    · intro h
      have : e * (unitF : Int) < 0 := Int.mul_neg_of_neg_of_pos h hu'
      rw [← hT] at this
      exact Int.neg_of_mul_neg_left this (by omega)
  have hsg : (if z = 0 then s && t else decide (z < 0)) = decide (e < 0) := by
    by_cases h : z = 0
    · rw [if_pos h, h0 (hz0.1 h)]
      have := hz0.1 h
      rw [decide_eq_false (by omega)]
    · rw [if_neg h]; exact decide_eq_decide.2 hzn
  have hm : z.natAbs * 2 ^ c = e.natAbs * unitF := by
    have := congrArg Int.natAbs hT
    rwa [Int.natAbs_mul, Int.natAbs_mul, Int.natAbs_natCast, Int.natAbs_natCast] at this
  rw [hsg]
  congr 1
  show double.nearest _ _ _ = double.nearest (decide (e < 0)) e.natAbs 0
  unfold unitF at hm
  rcases Nat.le_total c expU with h | h
  · have : z.natAbs = e.natAbs * 2 ^ (expU - c) := by
      have e1 : (2 : Nat) ^ expU = 2 ^ (expU - c) * 2 ^ c := by rw [← Nat.pow_add, show expU - c + c = expU by omega]
      rw [e1, ← Nat.mul_assoc] at hm
      exact Nat.mul_right_cancel hp hm
    rw [this, nearest_scale]
    congr 1
    rw [expU_eq] at h ⊢
    omega
  · have : e.natAbs = z.natAbs * 2 ^ (c - expU) := by
      have e1 : (2 : Nat) ^ c = 2 ^ (c - expU) * 2 ^ expU := by rw [← Nat.pow_add, show c - expU + expU = c by omega]
      rw [e1, ← Nat.mul_assoc] at hm
      exact (Nat.mul_right_cancel (Nat.pow_pos (by omega)) hm).symm
    rw [this, nearest_scale]
    congr 1
    rw [expU_eq] at h ⊢
    omega
theorem add_fw (x y : Nat) (a b : Int) (hx : finF x) (hy : finF y) (ha : zF x = a * unitF) (hb : zF y = b * unitF) (h0 : a + b = 0 → (sgF x && sgF y) = false) : double.add x y = some (fwF (a + b)) := by
  obtain ⟨m, i, e1, h1⟩ := read_fin x hx
  obtain ⟨n, j, e2, h2⟩ := read_fin y hy
  unfold Format.add
  rw [e1, e2]
  exact sum_fw _ _ m n i j a b (by rw [← zF_signed x m i h1, ha]) (by rw [← zF_signed y n j h2, hb]) h0
theorem sub_fw (x y : Nat) (a b : Int) (hx : finF x) (hy : finF y) (ha : zF x = a * unitF) (hb : zF y = b * unitF) (h0 : a - b = 0 → (sgF x && !sgF y) = false) : double.sub x y = some (fwF (a - b)) := by
  obtain ⟨m, i, e1, h1⟩ := read_fin x hx
  obtain ⟨n, j, e2, h2⟩ := read_fin y hy
  unfold Format.sub
  rw [e1, e2]
  have e : signed (!sgF y) n j = (-b) * unitF := by
    have := zF_signed y n j h2
    rw [hb] at this
    rw [Int.neg_mul, this]
    unfold signed
    cases sgF y <;> simp
  exact sum_fw _ _ m n i j a (-b) (by rw [← zF_signed x m i h1, ha]) e h0
/-- a sum of which one is not below zero -/
theorem sg_pos (x : Nat) (a : Int) (hx : tidyF x) (ha : zF x = a * unitF) (h : 0 ≤ a) : sgF x = false := by
  have hu := unitF_pos
  cases e : sgF x with
  | false => rfl
  | true =>
    exfalso
    have hz : zF x = -(magR (rungF x) : Int) := by unfold zF; rw [e]; rfl
    rw [ha] at hz
    have h1 : 0 ≤ a * (unitF : Int) := Int.mul_nonneg h (by omega)
    have h2 : magR (rungF x) = 0 := by omega
    have h3 : rungF x = 0 := magR_inj (by rw [h2, magR_zero])
    have := word_split x hx.1
    rw [e, h3] at this
    exact hx.2.2 this
end Go.Proofs.YtmojpbfkpggjhaaGreatDoor

/-
  Contracts of the document's answers on numbers: tidied, whole, taken so often as counts say. No statement is proved here.
-/
namespace Go.Proofs.YtmojpbfkpggjhaaGreatDoor
open Go Go.RowKit
set_option linter.unusedVariables false
set_option linter.unusedSimpArgs false
set_option maxHeartbeats 4000000
attribute [local irreducible] CW RW QW SW HW ConM retM heldQ calmQ elemP thenQ blockQ loopQ joinQ retQ Yields Con Sl zF magR unitF truncF fwF wholeF tidySpec elemQ rankF leastN tidyW
set_option maxHeartbeats 4000000
set_option maxRecDepth 4000

section
variable {P : Program} {n : Nat} {L : Env} {w : World} {ty : TypeId} {x y : Operand} {t yt : TypeId} {u v r : Nat}
theorem Y.fAddW (hx : opv L x = some (.float .f64 u)) (hy : opv L y = some (.float .f64 v)) (h : Ieee.double.add u v = some r) : Yields P n L w (.binOp .add t x y yt) ty (.float .f64 r) := by
  refine run_binF (by simp) hx hy ?_
  have h' : FloatKind.f64.format.add u v = some r := h
  simp [floatOp, Op.floatArith, h']
theorem Y.fSubW (hx : opv L x = some (.float .f64 u)) (hy : opv L y = some (.float .f64 v)) (h : Ieee.double.sub u v = some r) : Yields P n L w (.binOp .sub t x y yt) ty (.float .f64 r) := by
  refine run_binF (by simp) hx hy ?_
  have h' : FloatKind.f64.format.sub u v = some r := h
  simp [floatOp, Op.floatArith, h']
end
theorem setf {a b : Nat} (h : a = b) : some (Value.float .f64 a) = some (Value.float .f64 b) := by rw [h]
theorem refWhole_con (x : Nat) (w : World) (h : GHeap) (hf : finF x) : Con Tryz.prog 64 [.float .f64 x] w h (fun _ v => v = .bool (wholeF x).2) := by
  refine Con.of_body Tryz.func64 rfl Tryz.ntmps64 rfl rfl ?_
  intro hs
  refine Zrun ?_
  refine RW.val (Y.fGeq hf finN rfl rfl) rfl ?_
  rw [zFN]
  unfold wholeF
  by_cases h1 : -9007199254740992 * (unitF : Int) ≤ zF x
  · rw [decide_eq_true h1]
    refine Zerun ?_
    refine RW.val (Y.fLeq hf finM rfl rfl) rfl ?_
    rw [zFM]
    by_cases h2 : zF x ≤ 9007199254740992 * (unitF : Int)
    · rw [decide_eq_true h2]
      have h3 : -9007199254740992 * (unitF : Int) ≤ zF x ∧ zF x ≤ 9007199254740992 * (unitF : Int) := ⟨h1, h2⟩
      have hb := trunc_bounds x h3
      have hfw := fwF_spec (truncF x) hb
      rw [if_pos h3]
      refine Zerun ?_
      refine RW.val (Y.convFI T rfl rfl rfl hf ⟨by omega, by omega⟩) rfl ?_
      refine Zerun ?_
      refine RW.val (Y.convIF T rfl rfl rfl) rfl ?_
      refine Zerun ?_
      refine RW.val (Y.fEql hfw.1.2.1 hf rfl rfl) rfl ?_
      rw [hfw.2]
      by_cases h4 : truncF x * (unitF : Int) = zF x
      · rw [decide_eq_true h4]
        refine Zerun ?_
        exact retQ_ret [_] h ⟨rfl, trivial⟩ hs rfl
      · rw [decide_eq_false h4]
        refine Zerun ?_
        exact retQ_ret [_] h ⟨rfl, trivial⟩ hs rfl
    · rw [decide_eq_false h2, if_neg (fun e => h2 e.2)]
      refine Zerun ?_
      exact retQ_ret [_] h ⟨rfl, trivial⟩ hs rfl
  · rw [decide_eq_false h1, if_neg (fun e => h1 e.1)]
    refine Zerun ?_
    exact retQ_ret [_] h ⟨rfl, trivial⟩ hs rfl
def refCopiesRes (l : List Nat) (n : Nat) (most : Int) : List Int × Int := if ∀ u ∈ l, (wholeF u).2 = true then copiesRes (l.map fun x => (wholeF x).1) n most else ([], 24)
end Go.Proofs.YtmojpbfkpggjhaaGreatDoor

/-
  Contract of the law's own function of layer 15: places taken so often as counts say. No statement is proved here.
-/
namespace Go.Proofs.YtmojpbfkpggjhaaGreatDoor
open Go Go.RowKit
set_option linter.unusedVariables false
set_option linter.unusedSimpArgs false
set_option maxHeartbeats 4000000
attribute [local irreducible] CW RW QW SW HW ConM retM heldQ calmQ elemP thenQ blockQ loopQ joinQ retQ Yields Con Sl zF magR unitF truncF fwF wholeF tidySpec elemQ rankF leastN tidyW
set_option maxHeartbeats 4000000

section
variable {α : Type} {R : GHeap → List Value → α → Prop}
theorem pickWholesNo_con (hR : Mono R) (cs : List Value) (v : VecD α) (w : World) (h : GHeap) (hv : VecAt R h cs v) (hm : v.len ≤ 1099511627776) (hn : v.cls ≠ 0 ∨ (v.kind = 4 ∧ v.len ≠ 0)) : Con Tryz.prog 108 [.agg cs.toArray] w h
    (fun _ u => ∃ ad n cp, u = .tuple #[.slice ad n cp, .bool false]) := by
  by_cases c : v.kind = 4
  · have hl : v.len ≠ 0 := by
      rcases hn with e | e
      · exfalso; apply e; unfold VecD.cls; rw [if_neg (by omega), if_neg (by omega)]
      · exact e.2
    refine (pickWholes_con hR cs v w h hv hm (by omega)).mono ?_
    rintro h' u - ⟨s, rfl, ad, cp, rfl, _⟩
    exact ⟨ad, _, cp, by rw [decide_eq_false (by omega)]⟩
  · have hcl : v.cls ≠ 0 := by
      rcases hn with e | e
      · exact e
      · exact absurd e.1 c
    have hv' := hv
    obtain ⟨wv, nv, sm, il, fl, ch, bx, ⟨rfl, hoc⟩, _⟩ := hv
    refine Con.of_body Tryz.func108 rfl Tryz.ntmps108 rfl rfl ?_
    intro hs
    refine Zrun ?_
    (refine RW.boxN hs rfl rfl ?_; intro b1 w1 hs)
    refine Zerun ?_
    (refine RW.call T hs rfl rfl rfl (vecClass_con _ v _ _ hv') ?_; intro v h2 w2 hle2 hp2 hs)
    subst hp2
    refine Zerun ?_
    exact retQ_ret [_, _] h2 ⟨rfl, rfl, trivial⟩ hs.dropAll ⟨none, 0, 0, rfl⟩
theorem pickCopiesNo_con (hR : Mono R) (cs : List Value) (v : VecD α) (n : Nat) (most : Int) (w : World) (h : GHeap) (hv : VecAt R h cs v) (hm : v.len ≤ 1048576) (hn : v.cls ≠ 0 ∨ (v.kind = 4 ∧ v.len ≠ 0)) :
    Con Tryz.prog 45 [.agg cs.toArray, .int .i64 (n : Int), .int .i64 most] w h (fun _ u => u = .tuple #[.slice none 0 0, .int .i64 24]) := by
  have hv' := hv
  obtain ⟨wv, nv, sm, il, fl, ch, bx, ⟨rfl, hoc⟩, _⟩ := hv
  refine Con.of_body Tryz.func45 rfl Tryz.ntmps45 rfl rfl ?_
  intro hs
  refine Zrun ?_
  (refine RW.boxN hs rfl rfl ?_; intro b1 w1 hs)
  refine Zerun ?_
  (refine RW.call T hs rfl rfl rfl (pickWholesNo_con hR _ v _ _ hv' (by omega) hn) ?_; intro v h2 w2 hle2 hp2 hs)
  obtain ⟨ad2, n2, cp2, rfl⟩ := hp2
  refine Zerun ?_
  exact retQ_ret [_, _] h2 ⟨rfl, rfl, trivial⟩ hs.dropAll rfl
theorem pickCopiesAll_con (hR : Mono R) (cs : List Value) (ts : List Nat) (n most : Nat) (w : World) (h : GHeap) (hT : TzTab h) (hv : VecAt R h cs ⟨leastN ts, ts, [], []⟩) (hm : ts.length ≤ 1048576) (hn : n ≤ 1048576) (hmost : most ≤ 1048576) :
    Con Tryz.prog 45 [.agg cs.toArray, .int .i64 (n : Int), .int .i64 (most : Int)] w h (fun h' u => ∃ s, u = .tuple #[s, .int .i64 (refCopiesRes ts n most).2] ∧ IntsAt h' s (refCopiesRes ts n most).1) := by
  have hb := leastN_bounds ts
  by_cases c : ∀ u ∈ ts, (wholeF u).2 = true
  · have he : refCopiesRes ts n most = copiesRes (ts.map fun x => (wholeF x).1) n most := if_pos c
    have h3 : leastN ts ≤ 3 := by
      unfold leastN
      exact fold_le _ _ _ (by omega) (fun x hx => (rank_int x).2 (c x hx))
    rw [he]
    refine pickCopies_con hR cs ⟨leastN ts, ts, [], []⟩ n most _ w h hT hv hm (by show leastN ts = 1 ∨ leastN ts = 2 ∨ leastN ts = 3; omega) rfl ?_ hn ⟨by omega, by omega⟩
    intro x hx
    obtain ⟨u, _, rfl⟩ := List.mem_map.1 hx
    exact wholeF_bounds u
  · have he : refCopiesRes ts n most = ([], 24) := if_neg c
    obtain ⟨u, hu⟩ := Classical.not_forall.1 c
    have hmem : u ∈ ts := Classical.byContradiction fun e => hu (fun e2 => absurd e2 e)
    have hnw : ¬ (wholeF u).2 = true := fun e => hu (fun _ => e)
    have h4 : leastN ts = 4 := by
      have h1 := leastN_le ts u hmem
      have h2 : ¬ rankF u ≤ 3 := fun e => hnw ((rank_int u).1 e)
      omega
    rw [he]
    have hl : ts.length ≠ 0 := by
      intro e
      rw [List.length_eq_zero_iff.1 e] at hmem
      cases hmem
    refine (pickCopiesNo_con hR cs ⟨leastN ts, ts, [], []⟩ n most w h hv hm (.inr ⟨h4, hl⟩)).mono ?_
    rintro h' u - rfl
    exact ⟨_, rfl, IntsAt.nil _⟩
end
theorem copiesRes_len (ks : List Int) (n most : Nat) : ((copiesRes ks n most).1.length : Int) ≤ most := by
  unfold copiesRes
  split
  · show (0 : Int) ≤ _; omega
  · split
    · assumption
    · show (0 : Int) ≤ _; omega
theorem refCopiesRes_len (l : List Nat) (n most : Nat) : ((refCopiesRes l n most).1.length : Int) ≤ most := by
  unfold refCopiesRes
  split
  · exact copiesRes_len _ _ _
  · show (0 : Int) ≤ _; omega
end Go.Proofs.YtmojpbfkpggjhaaGreatDoor

/-
  Plain facts on products of floating point words that are whole. No program is in sight, and no statement is proved here.
-/
namespace Go.Proofs.YtmojpbfkpggjhaaGreatDoor
open Ieee

theorem zF_abs (x m k : Nat) (h : m * 2 ^ k = magR (rungF x)) (a : Int) (ha : zF x = a * unitF) : m * 2 ^ k = a.natAbs * unitF := by
  rw [h]
  have : (zF x).natAbs = magR (rungF x) := by
    unfold zF
    split
    · rw [Int.natAbs_neg, Int.natAbs_natCast]
    · rw [Int.natAbs_natCast]
  rw [ha, Int.natAbs_mul, Int.natAbs_natCast] at this
  exact this.symm
theorem mul_fw (x y : Nat) (a b : Int) (hx : finF x) (hy : finF y) (ha : zF x = a * unitF) (hb : zF y = b * unitF) (h0 : (sgF x ^^ sgF y) = decide (a * b < 0)) : double.mul x y = some (fwF (a * b)) := by
  obtain ⟨m, i, e1, h1⟩ := read_fin x hx
  obtain ⟨n, j, e2, h2⟩ := read_fin y hy
  have g1 := zF_abs x m i h1 a ha
  have g2 := zF_abs y n j h2 b hb
  have hm : m * n * 2 ^ (i + j) = (a * b).natAbs * 2 ^ (expU + expU) := by
    rw [Int.natAbs_mul, Nat.pow_add, Nat.pow_add]
    have : m * n * (2 ^ i * 2 ^ j) = (m * 2 ^ i) * (n * 2 ^ j) := by
      rw [Nat.mul_mul_mul_comm]
    rw [this, g1, g2]
    unfold unitF
    rw [Nat.mul_mul_mul_comm]
  unfold Format.mul
  rw [e1, e2]
  simp only [Datum.product, Option.map_some, Format.write]
  rw [h0]
  congr 1
  show double.nearest _ _ _ = double.nearest (decide (a * b < 0)) (a * b).natAbs 0
  generalize (a * b).natAbs = q at hm
  generalize m * n = p at hm
  have hU := expU_eq
  rcases Nat.le_total (i + j) (expU + expU) with h | h
  · have : p = q * 2 ^ (expU + expU - (i + j)) := by
      have e3 : (2 : Nat) ^ (expU + expU) = 2 ^ (expU + expU - (i + j)) * 2 ^ (i + j) := by rw [← Nat.pow_add, show expU + expU - (i + j) + (i + j) = expU + expU by omega]
      rw [e3, ← Nat.mul_assoc] at hm
      exact Nat.mul_right_cancel (Nat.pow_pos (by omega)) hm
    rw [this, nearest_scale]
    congr 1
    omega
  · have : q = p * 2 ^ (i + j - (expU + expU)) := by
      have e3 : (2 : Nat) ^ (i + j) = 2 ^ (i + j - (expU + expU)) * 2 ^ (expU + expU) := by rw [← Nat.pow_add, show i + j - (expU + expU) + (expU + expU) = i + j by omega]
      rw [e3, ← Nat.mul_assoc] at hm
      exact (Nat.mul_right_cancel (Nat.pow_pos (by omega)) hm).symm
    rw [this, nearest_scale]
    congr 1
    omega
end Go.Proofs.YtmojpbfkpggjhaaGreatDoor

/-
  Contracts of packages num and base: whole numbers multiplied and added, arrays of at most one axis, numbers of digits. No statement is proved here.
-/
namespace Go.Proofs.YtmojpbfkpggjhaaGreatDoor
open Go Go.RowKit
set_option linter.unusedVariables false
set_option linter.unusedSimpArgs false
set_option maxHeartbeats 4000000
attribute [local irreducible] CW RW QW SW HW ConM retM heldQ calmQ elemP thenQ blockQ loopQ joinQ retQ Yields Con Sl zF magR unitF truncF fwF wholeF tidySpec elemQ rankF leastN tidyW
set_option maxHeartbeats 4000000

section
variable {P : Program} {n : Nat} {L : Env} {w : World} {ty : TypeId} {x y : Operand} {t yt : TypeId} {u v r : Nat}
theorem Y.fMulW (hx : opv L x = some (.float .f64 u)) (hy : opv L y = some (.float .f64 v)) (h : Ieee.double.mul u v = some r) : Yields P n L w (.binOp .mul t x y yt) ty (.float .f64 r) := by
  refine run_binF (by simp) hx hy ?_
  have h' : FloatKind.f64.format.mul u v = some r := h
  simp [floatOp, Op.floatArith, h']
end
theorem tidyW_fw (z : Int) (h : -9007199254740992 ≤ z ∧ z ≤ 9007199254740992) : tidyW (fwF z) = fwF z := by
  unfold tidyW; rw [tidySpec_of _ (fwF_spec z h).1]
theorem sg_fw (z : Int) (h : 0 ≤ z ∧ z ≤ 9007199254740992) : sgF (fwF z) = false := sg_pos _ z (fwF_spec z (by omega)).1 (fwF_spec z (by omega)).2 h.1
theorem numDone_con (x : Nat) (w : World) (h : GHeap) (hx : tidyF x) : Con Tryz.prog 153 [.float .f64 x] w h (fun _ u => u = .tuple #[.float .f64 x, .int .i64 0]) := by
  refine Con.of_body Tryz.func153 rfl Tryz.ntmps153 rfl rfl ?_
  intro hs
  refine Zrun ?_
  (refine RW.call T hs rfl rfl rfl (numTidy_con x _ _) ?_; intro v h1 w1 hle1 hp1 hs)
  rw [tidySpec_of x hx] at hp1
  subst hp1
  refine Zerun ?_
  exact retQ_ret [_, _] h1 ⟨rfl, rfl, trivial⟩ hs.dropAll rfl
theorem numMul_con (a b : Int) (w : World) (h : GHeap) (ha : 0 ≤ a ∧ a ≤ 9007199254740992) (hb : 0 ≤ b ∧ b ≤ 9007199254740992) (hab : a * b ≤ 9007199254740992) : Con Tryz.prog 102 [.float .f64 (fwF a), .float .f64 (fwF b)] w h (fun _ u => u = .tuple #[.float .f64 (fwF (a * b)), .int .i64 0]) := by
  have h0 : 0 ≤ a * b := Int.mul_nonneg ha.1 hb.1
  have hm := mul_fw (fwF a) (fwF b) a b (fwF_spec a (by omega)).1.2.1 (fwF_spec b (by omega)).1.2.1 (fwF_spec a (by omega)).2 (fwF_spec b (by omega)).2 (by rw [sg_fw a ha, sg_fw b hb, decide_eq_false (by omega)]; rfl)
  generalize a * b = c at *
  refine Con.of_body Tryz.func102 rfl Tryz.ntmps102 rfl rfl ?_
  intro hs
  refine Zrun ?_
  refine RW.val (Y.fMulW rfl rfl hm) rfl ?_
  (refine RW.call T hs rfl rfl rfl (numDone_con _ _ _ (fwF_spec c (by omega)).1) ?_; intro v h1 w1 hle1 hp1 hs)
  subst hp1
  refine Zerun ?_
  exact retQ_ret [_, _] h1 ⟨rfl, rfl, trivial⟩ hs.dropAll rfl
theorem numAdd_con (a b : Int) (w : World) (h : GHeap) (ha : 0 ≤ a ∧ a ≤ 9007199254740992) (hb : 0 ≤ b ∧ b ≤ 9007199254740992) (hab : a + b ≤ 9007199254740992) : Con Tryz.prog 104 [.float .f64 (fwF a), .float .f64 (fwF b)] w h (fun _ u => u = .tuple #[.float .f64 (fwF (a + b)), .int .i64 0]) := by
  have hm := add_fw (fwF a) (fwF b) a b (fwF_spec a (by omega)).1.2.1 (fwF_spec b (by omega)).1.2.1 (fwF_spec a (by omega)).2 (fwF_spec b (by omega)).2 (fun _ => by rw [sg_fw a ha]; rfl)
  refine Con.of_body Tryz.func104 rfl Tryz.ntmps104 rfl rfl ?_
  intro hs
  refine Zrun ?_
  refine RW.val (Y.fAddW rfl rfl hm) rfl ?_
  (refine RW.call T hs rfl rfl rfl (numDone_con _ _ _ (fwF_spec (a + b) (by omega)).1) ?_; intro v h1 w1 hle1 hp1 hs)
  subst hp1
  refine Zerun ?_
  exact retQ_ret [_, _] h1 ⟨rfl, rfl, trivial⟩ hs.dropAll rfl
theorem listed1_con (k : Nat) (cs : List Value) (a : ArrD (AD k)) (w : World) (h : GHeap) (ha : ArrAt (k + 1) h cs a) : Con Tryz.prog 134 [.agg cs.toArray] w h (fun _ u => u = .bool (decide (1 < (a.shape.length : Int)))) := by
  have ha' := ha
  obtain ⟨s, vc, rfl, ⟨ad, cp, rfl, hS⟩, hv⟩ := ha
  obtain ⟨wv, nv, sm, il, fl, ch, bx, ⟨rfl, hoc⟩, -⟩ := hv
  refine Con.of_body Tryz.func134 rfl Tryz.ntmps134 rfl rfl ?_
  intro hs
  refine Zrun ?_
  (refine RW.boxN hs rfl rfl ?_; intro b1 w1 hs)
  refine Zerun ?_
  (refine RW.call T hs rfl rfl rfl (valueRank_con (R := ArrAt k) _ a _ _ ha') ?_; intro v h2 w2 hle2 hp2 hs)
  subst hp2
  refine Zerun ?_
  exact retQ_ret [_] h2 ⟨rfl, trivial⟩ hs.dropAll rfl
theorem listed_con (k : Nat) (v : Value) (l : List (ArrD (AD k))) (w : World) (h : GHeap) (hl : RowsAt (α := AD (k + 1)) 9 (ArrAt (k + 1) h) h v l) : Con Tryz.prog 73 [v] w h (fun _ u => u = .bool (!l.any fun a => decide (1 < (a.shape.length : Int)))) := by
  have hl' := hl
  obtain ⟨ad, cp, xs, rfl, hS, hA⟩ := hl
  refine Con.of_body Tryz.func73 rfl Tryz.ntmps73 rfl rfl ?_
  intro hs
  refine Zrun ?_
  (refine RW.call T hs rfl rfl rfl (containsFunc_con (α := AD (k + 1)) (ArrAt.mono (k + 1)) (fun a => decide (1 < ((ArrD.shape (α := AD k) a).length : Int))) _ l 134 [] _ _ rfl hl' (ArrAt.siz (k + 1)) (fun cs a w h' _ ha _ => listed1_con k cs a w h' ha)) ?_; intro v h1 w1 hle1 hp1 hs)
  subst hp1
  refine Zerun ?_
  exact retQ_ret [_] h1 ⟨rfl, trivial⟩ hs.dropAll rfl
theorem two_rows {α : Type} {R : GHeap → List Value → α → Prop} {h : GHeap} {b : Nat} {c1 c2 : List Value} {x y : α} (hS : Sl h 9 (some ⟨b, 0, none⟩) 2 2 (c1 ++ c2)) (l1 : c1.length = 9) (h1 : R h c1 x) (l2 : c2.length = 9) (h2 : R h c2 y) : RowsAt 9 (R h) h (.slice (some ⟨b, 0, none⟩) 2 2) [x, y] :=
  ⟨_, _, _, rfl, hS, (AllN.one l1 h1).append (AllN.one l2 h2)⟩
end Go.Proofs.YtmojpbfkpggjhaaGreatDoor

/-
  Contract of base.Decode at whole numbers. No statement is proved here.
-/
namespace Go.Proofs.YtmojpbfkpggjhaaGreatDoor
open Go Go.RowKit
set_option linter.unusedVariables false
set_option linter.unusedSimpArgs false
set_option maxHeartbeats 4000000
attribute [local irreducible] CW RW QW SW HW ConM retM heldQ calmQ elemP thenQ blockQ loopQ joinQ retQ Yields Con Sl zF magR unitF truncF fwF wholeF tidySpec elemQ rankF leastN tidyW
set_option maxHeartbeats 4000000

theorem baseDecode_con (k : Nat) (cb ca : List Value) (b a : ArrD (AD k)) (N : Nat) (X' Y' S : Nat → Int) (w : World) (h : GHeap) (hb : ArrAt (k + 1) h cb b) (ha : ArrAt (k + 1) h ca a) (hsb : b.shape.length ≤ 1) (hsa : a.shape.length ≤ 1) (hcb : b.vec.cls = 0) (hca : a.vec.cls = 0)
    (hlen : b.vec.len = 1 ∨ b.vec.len = a.vec.len ∨ a.vec.len = 1) (hN : N = if a.vec.len = 1 ∧ b.vec.len ≠ 1 then b.vec.len else a.vec.len) (hN2 : N ≤ 1048576) (hX : ∀ i, i < N → b.vec.num (if b.vec.len = 1 then 0 else (i : Int)) = fwF (X' i)) (hY : ∀ i, i < N → a.vec.num (if a.vec.len = 1 then 0 else (i : Int)) = fwF (Y' i))
    (hS0 : S 0 = 0) (hS : ∀ i, i < N → S (i + 1) = S i * X' i + Y' i ∧ 0 ≤ X' i ∧ X' i ≤ 9007199254740992 ∧ 0 ≤ Y' i ∧ Y' i ≤ 9007199254740992 ∧ S i * X' i ≤ 9007199254740992) (hSr : ∀ i, i ≤ N → 0 ≤ S i ∧ S i ≤ 9007199254740992) :
    Con Tryz.prog 39 [.agg cb.toArray, .agg ca.toArray] w h (fun h' u => ∃ cs', u = .tuple #[.agg cs'.toArray, .int .i64 0] ∧ ArrAt (k + 1) h' cs' (⟨[], ⟨leastN [fwF (S N)], [fwF (S N)], [], []⟩⟩ : ArrD (AD k))) := by
  have ha' := ha
  have hb' := hb
  obtain ⟨_, vca, rfl, ⟨ada, cpa, rfl, hSa⟩, hva⟩ := ha
  obtain ⟨_, vcb, rfl, ⟨adb, cpb, rfl, hSb⟩, hvb⟩ := hb
  have hva' := hva
  have hvb' := hvb
  obtain ⟨wa, na, sa, ia, fa, ga, xa, ⟨rfl, hoa⟩, -⟩ := hva
  obtain ⟨wb, nb, sb, ib, fb, gb, xb, ⟨rfl, hob⟩, -⟩ := hvb
  have mA : ∀ h', GLe h h' → ArrAt (k + 1) h' (.slice ada a.shape.length cpa :: vecCells a.vec.kind wa na sa ia fa ga xa) a := fun h' hl => ArrAt.mono (k + 1) _ _ _ _ hl ha'
  have mB : ∀ h', GLe h h' → ArrAt (k + 1) h' (.slice adb b.shape.length cpb :: vecCells b.vec.kind wb nb sb ib fb gb xb) b := fun h' hl => ArrAt.mono (k + 1) _ _ _ _ hl hb'
  have vA : ∀ h', GLe h h' → VecAt (ArrAt k) h' (vecCells a.vec.kind wa na sa ia fa ga xa) a.vec := fun h' hl => hva'.mono (ArrAt.mono k) hl
  have vB : ∀ h', GLe h h' → VecAt (ArrAt k) h' (vecCells b.vec.kind wb nb sb ib fb gb xb) b.vec := fun h' hl => hvb'.mono (ArrAt.mono k) hl
  refine Con.of_body Tryz.func39 rfl Tryz.ntmps39 rfl rfl ?_
  intro hs
  refine Zrun ?_
  (refine RW.boxN hs rfl rfl ?_; intro b1 w1 hs)
  refine Zrun ?_
  (refine RW.boxN hs rfl rfl ?_; intro b2 w2 hs)
  refine Zrun ?_
  (refine RW.allocN T hs rfl rfl rfl rfl ?_; intro b3 w3 hs)
  refine Zerun ?_
  (refine RW.lit T hs (vs := [.agg (.slice ada a.shape.length cpa :: vecCells a.vec.kind wa na sa ia fa ga xa).toArray, .agg (.slice adb b.shape.length cpb :: vecCells b.vec.kind wb nb sb ib fb gb xb).toArray]) (cs := ((.slice ada a.shape.length cpa :: vecCells a.vec.kind wa na sa ia fa ga xa) ++ (.slice adb b.shape.length cpb :: vecCells b.vec.kind wb nb sb ib fb gb xb))) rfl rfl rfl rfl (by simp [Value.cells, vecCells]) rfl rfl rfl rfl rfl ?_; intro b4 w4 hs)
  obtain ⟨h4, hle4, hs, hS4⟩ := hs.freeze
  have hR4 : RowsAt (α := AD (k + 1)) 9 (ArrAt (k + 1) h4) h4 (.slice (some ⟨b4, 0, none⟩) 2 2) [a, b] := two_rows hS4 rfl (mA _ hle4) rfl (mB _ hle4)
  refine Zerun ?_
  (refine RW.call T hs rfl rfl rfl (listed_con k _ [a, b] _ _ hR4) ?_; intro v h5 w5 hle5 hp5 hs)
  subst hp5
  rw [show (!([a, b] : List (ArrD (AD k))).any fun a => decide (1 < (a.shape.length : Int))) = true by
    simp only [List.any_cons, List.any_nil]
    rw [decide_eq_false (by omega), decide_eq_false (by omega)]; rfl]
  have g5 := hle4.trans hle5
  refine Zerun ?_
  (refine RW.call T hs rfl rfl rfl (vecLen_con _ a.vec _ _ (vA _ g5)) ?_; intro v h6 w6 hle6 hp6 hs)
  subst hp6
  have g6 := g5.trans hle6
  refine Zerun ?_
  (refine RW.call T hs rfl rfl rfl (valueSingle_con (R := ArrAt k) _ b _ _ (mB _ g6)) ?_; intro v h7 w7 hle7 hp7 hs)
  subst hp7
  have g7 := g6.trans hle7
  first | (refine A0 ?_; first | refine R1 rfl rfl ?_ | refine R2 rfl rfl ?_ | (refine A1 ?_; first | refine D3 rfl rfl ?_ | refine D4 rfl rfl rfl rfl ?_ | refine D5 rfl rfl rfl ?_ | refine E6 ?_ rfl rfl | refine E7 ?_ rfl rfl) | refine Zb ?_ rfl | (refine A3 ?_; first | refine R34 T hs 0 rfl rfl rfl rfl rfl rfl ?_ | refine R34 T hs 1 rfl rfl rfl rfl rfl rfl ?_ | refine Zl ?_ rfl) | refine Zi ?_ rfl | refine Zo ?_ rfl | refine A8 ?_) | (refine B0 ?_; first | refine B1 ?_ | refine B2 ?_ | refine B3 ?_ | refine B4 ?_ | refine B5 ?_ | refine B6 ?_ | refine B7 rfl ?_ | refine B8 rfl ?_ | refine E8 ?_ rfl | refine E9 ?_ rfl) | refine C1 ?_ | refine C2 ?_ | refine C3 ?_ | refine C4 ?_ | refine C5 ?_ | refine C6 ?_ | refine C7 ?_ | refine C8 ?_ | refine C9 ?_ | refine D1 rfl ?_ | refine D2 rfl ?_
  first | (refine A0 ?_; first | refine R1 rfl rfl ?_ | refine R2 rfl rfl ?_ | (refine A1 ?_; first | refine D3 rfl rfl ?_ | refine D4 rfl rfl rfl rfl ?_ | refine D5 rfl rfl rfl ?_ | refine E6 ?_ rfl rfl | refine E7 ?_ rfl rfl) | refine Zb ?_ rfl | (refine A3 ?_; first | refine R34 T hs 0 rfl rfl rfl rfl rfl rfl ?_ | refine R34 T hs 1 rfl rfl rfl rfl rfl rfl ?_ | refine Zl ?_ rfl) | refine Zi ?_ rfl | refine Zo ?_ rfl | refine A8 ?_) | (refine B0 ?_; first | refine B1 ?_ | refine B2 ?_ | refine B3 ?_ | refine B4 ?_ | refine B5 ?_ | refine B6 ?_ | refine B7 rfl ?_ | refine B8 rfl ?_ | refine E8 ?_ rfl | refine E9 ?_ rfl) | refine C1 ?_ | refine C2 ?_ | refine C3 ?_ | refine C4 ?_ | refine C5 ?_ | refine C6 ?_ | refine C7 ?_ | refine C8 ?_ | refine C9 ?_ | refine D1 rfl ?_ | refine D2 rfl ?_
  first | (refine A0 ?_; first | refine R1 rfl rfl ?_ | refine R2 rfl rfl ?_ | (refine A1 ?_; first | refine D3 rfl rfl ?_ | refine D4 rfl rfl rfl rfl ?_ | refine D5 rfl rfl rfl ?_ | refine E6 ?_ rfl rfl | refine E7 ?_ rfl rfl) | refine Zb ?_ rfl | (refine A3 ?_; first | refine R34 T hs 0 rfl rfl rfl rfl rfl rfl ?_ | refine R34 T hs 1 rfl rfl rfl rfl rfl rfl ?_ | refine Zl ?_ rfl) | refine Zi ?_ rfl | refine Zo ?_ rfl | refine A8 ?_) | (refine B0 ?_; first | refine B1 ?_ | refine B2 ?_ | refine B3 ?_ | refine B4 ?_ | refine B5 ?_ | refine B6 ?_ | refine B7 rfl ?_ | refine B8 rfl ?_ | refine E8 ?_ rfl | refine E9 ?_ rfl) | refine C1 ?_ | refine C2 ?_ | refine C3 ?_ | refine C4 ?_ | refine C5 ?_ | refine C6 ?_ | refine C7 ?_ | refine C8 ?_ | refine C9 ?_ | refine D1 rfl ?_ | refine D2 rfl ?_
  refine CW.seqJ (fun _ : GHeap => [(2, .pointer (some ⟨b1, 0, none⟩)), (3, .pointer (some ⟨b2, 0, none⟩)), (4, .pointer (some ⟨b3, 0, none⟩)), (6, .int .i64 a.vec.len), (7, .bool (decide (b.vec.len = 1)))]) (fun h' w' => GLe h h' ∧ Sees w h h' [⟨some ⟨b3, 0, none⟩, 1, 1, 40, 9, .slice none 0 0 :: vecCells 0 (.slice none 0 0) 0 (.slice none 0 0) (.slice none 0 0) (.slice none 0 0) (.slice none 0 0) (.slice none 0 0)⟩, ⟨some ⟨b2, 0, none⟩, 1, 1, 40, 9, .slice ada a.shape.length cpa :: vecCells a.vec.kind wa na sa ia fa ga xa⟩, ⟨some ⟨b1, 0, none⟩, 1, 1, 40, 9, .slice adb b.shape.length cpb :: vecCells b.vec.kind wb nb sb ib fb gb xb⟩] w') ?_ ?_
  · by_cases e1 : b.vec.len = 1
    · rw [decide_eq_true e1]
      refine Zerun ?_
      (refine RW.call T hs rfl rfl rfl (vecClass_con _ a.vec _ _ (vA _ g7)) ?_; intro v h8 w8 hle8 hp8 hs)
      subst hp8
      rw [hca]
      refine Zerun ?_
      (refine RW.call T hs rfl rfl rfl (vecClass_con _ b.vec _ _ (vB _ (g7.trans hle8))) ?_; intro v h9 w9 hle9 hp9 hs)
      subst hp9
      rw [hcb]
      refine Zerun ?_
      exact joinQ_meet h9 ⟨rfl, rfl, rfl, rfl, rfl, trivial⟩ ⟨g7.trans (hle8.trans hle9), hs⟩
    · rw [decide_eq_false e1]
      refine Zerun ?_
      (refine RW.call T hs rfl rfl rfl (vecLen_con _ b.vec _ _ (vB _ g7)) ?_; intro v h10 w10 hle10 hp10 hs)
      subst hp10
      have g10 := g7.trans hle10
      by_cases e2 : (b.vec.len : Int) = a.vec.len
      · refine Zerun ?_
        (refine RW.call T hs rfl rfl rfl (vecClass_con _ a.vec _ _ (vA _ g10)) ?_; intro v h8 w8 hle8 hp8 hs)
        subst hp8
        rw [hca]
        refine Zerun ?_
        (refine RW.call T hs rfl rfl rfl (vecClass_con _ b.vec _ _ (vB _ (g10.trans hle8))) ?_; intro v h9 w9 hle9 hp9 hs)
        subst hp9
        rw [hcb]
        refine Zerun ?_
        exact joinQ_meet h9 ⟨rfl, rfl, rfl, rfl, rfl, trivial⟩ ⟨g10.trans (hle8.trans hle9), hs⟩
      · have e3 : (a.vec.len : Int) = 1 := by omega
        refine Zerun ?_
        (refine RW.call T hs rfl rfl rfl (vecClass_con _ a.vec _ _ (vA _ g10)) ?_; intro v h8 w8 hle8 hp8 hs)
        subst hp8
        rw [hca]
        refine Zerun ?_
        (refine RW.call T hs rfl rfl rfl (vecClass_con _ b.vec _ _ (vB _ (g10.trans hle8))) ?_; intro v h9 w9 hle9 hp9 hs)
        subst hp9
        rw [hcb]
        refine Zerun ?_
        exact joinQ_meet h9 ⟨rfl, rfl, rfl, rfl, rfl, trivial⟩ ⟨g10.trans (hle8.trans hle9), hs⟩
  rintro h11 w11 ⟨g11, hs⟩
  refine CW.seqJ (fun _ : GHeap => [(2, .pointer (some ⟨b1, 0, none⟩)), (3, .pointer (some ⟨b2, 0, none⟩)), (4, .pointer (some ⟨b3, 0, none⟩)), (6, .int .i64 N), (7, .bool (decide (b.vec.len = 1)))]) (fun h' w' => GLe h h' ∧ Sees w h h' [⟨some ⟨b3, 0, none⟩, 1, 1, 40, 9, .slice none 0 0 :: vecCells 0 (.slice none 0 0) 0 (.slice none 0 0) (.slice none 0 0) (.slice none 0 0) (.slice none 0 0) (.slice none 0 0)⟩, ⟨some ⟨b2, 0, none⟩, 1, 1, 40, 9, .slice ada a.shape.length cpa :: vecCells a.vec.kind wa na sa ia fa ga xa⟩, ⟨some ⟨b1, 0, none⟩, 1, 1, 40, 9, .slice adb b.shape.length cpb :: vecCells b.vec.kind wb nb sb ib fb gb xb⟩] w') ?_ ?_
  · by_cases e1 : (a.vec.len : Int) = 1
    · by_cases e2 : b.vec.len = 1
      · rw [decide_eq_true e2]
        rw [if_neg (by omega)] at hN
        refine Zerun ?_
        exact joinQ_meet h11 ⟨rfl, rfl, rfl, seti (by omega), rfl, trivial⟩ ⟨g11, hs⟩
      · rw [decide_eq_false e2]
        rw [if_pos ⟨by omega, e2⟩] at hN
        refine Zerun ?_
        (refine RW.call T hs rfl rfl rfl (vecLen_con _ b.vec _ _ (vB _ g11)) ?_; intro v h10 w10 hle10 hp10 hs)
        subst hp10
        refine Zerun ?_
        exact joinQ_meet h10 ⟨rfl, rfl, rfl, seti (by omega), rfl, trivial⟩ ⟨g11.trans hle10, hs⟩
    · rw [if_neg (by omega)] at hN
      refine Zerun ?_
      exact joinQ_meet h11 ⟨rfl, rfl, rfl, seti (by omega), rfl, trivial⟩ ⟨g11, hs⟩
  rintro h12 w12 ⟨g12, hs⟩
  refine Zerun ?_
  rw [show (.float .f64 0 : Value) = .float .f64 (fwF (S 0)) by rw [hS0, fw0]]
  refine CW.meetB (fun _ : GHeap => [(2, .pointer (some ⟨b1, 0, none⟩)), (3, .pointer (some ⟨b2, 0, none⟩)), (4, .pointer (some ⟨b3, 0, none⟩)), (8, .float .f64 (fwF (S N)))]) (fun h' w' => GLe h h' ∧ Sees w h h' [⟨some ⟨b3, 0, none⟩, 1, 1, 40, 9, .slice none 0 0 :: vecCells 0 (.slice none 0 0) 0 (.slice none 0 0) (.slice none 0 0) (.slice none 0 0) (.slice none 0 0) (.slice none 0 0)⟩, ⟨some ⟨b2, 0, none⟩, 1, 1, 40, 9, .slice ada a.shape.length cpa :: vecCells a.vec.kind wa na sa ia fa ga xa⟩, ⟨some ⟨b1, 0, none⟩, 1, 1, 40, 9, .slice adb b.shape.length cpb :: vecCells b.vec.kind wb nb sb ib fb gb xb⟩] w') ?_ ?_
  · refine CW.loop (fun u : Nat × GHeap => [(2, .pointer (some ⟨b1, 0, none⟩)), (3, .pointer (some ⟨b2, 0, none⟩)), (4, .pointer (some ⟨b3, 0, none⟩)), (7, .bool (decide (b.vec.len = 1))), (8, .float .f64 (fwF (S u.1))), (63, .int .i64 N), (64, .int .i64 u.1)]) (fun u w' => u.1 ≤ N ∧ GLe h u.2 ∧ Sees w h u.2 [⟨some ⟨b3, 0, none⟩, 1, 1, 40, 9, .slice none 0 0 :: vecCells 0 (.slice none 0 0) 0 (.slice none 0 0) (.slice none 0 0) (.slice none 0 0) (.slice none 0 0) (.slice none 0 0)⟩, ⟨some ⟨b2, 0, none⟩, 1, 1, 40, 9, .slice ada a.shape.length cpa :: vecCells a.vec.kind wa na sa ia fa ga xa⟩, ⟨some ⟨b1, 0, none⟩, 1, 1, 40, 9, .slice adb b.shape.length cpb :: vecCells b.vec.kind wb nb sb ib fb gb xb⟩] w') (fun u => N - u.1) (0, h12) ⟨rfl, rfl, rfl, rfl, rfl, rfl, rfl, trivial⟩ ⟨by dsimp only; omega, g12, hs⟩ ?_
    rintro ⟨i, hh⟩ w13 ⟨hi, hg, hs⟩
    dsimp only at hi hg hs ⊢
    by_cases hlt : i < N
    · obtain ⟨q1, q2, q3, q4, q5, q6⟩ := hS i hlt
      have q7 := hSr i hi
      have q8 := hSr (i + 1) (by omega)
      have q9 := hX i hlt
      have q10 := hY i hlt
      have qm : 0 ≤ S i * X' i := Int.mul_nonneg q7.1 q2
      refine Zerun ?_
      refine CW.meet (fun _ : Unit => [(2, .pointer (some ⟨b1, 0, none⟩)), (3, .pointer (some ⟨b2, 0, none⟩)), (4, .pointer (some ⟨b3, 0, none⟩)), (7, .bool (decide (b.vec.len = 1))), (8, .float .f64 (fwF (S i))), (9, .int .i64 i), (10, .int .i64 (if b.vec.len = 1 then 0 else (i : Int))), (11, .int .i64 0), (63, .int .i64 N), (64, .int .i64 i)]) (fun _ w' => Sees w h hh [⟨some ⟨b3, 0, none⟩, 1, 1, 40, 9, .slice none 0 0 :: vecCells 0 (.slice none 0 0) 0 (.slice none 0 0) (.slice none 0 0) (.slice none 0 0) (.slice none 0 0) (.slice none 0 0)⟩, ⟨some ⟨b2, 0, none⟩, 1, 1, 40, 9, .slice ada a.shape.length cpa :: vecCells a.vec.kind wa na sa ia fa ga xa⟩, ⟨some ⟨b1, 0, none⟩, 1, 1, 40, 9, .slice adb b.shape.length cpb :: vecCells b.vec.kind wb nb sb ib fb gb xb⟩] w') ?_ ?_
      · by_cases e1 : b.vec.len = 1
        · rw [decide_eq_true e1, if_pos e1]
          refine Zerun ?_
          exact joinQ_meet () ⟨rfl, rfl, rfl, rfl, rfl, rfl, rfl, rfl, rfl, rfl, trivial⟩ hs
        · rw [decide_eq_false e1, if_neg e1]
          refine Zerun ?_
          exact joinQ_meet () ⟨rfl, rfl, rfl, rfl, rfl, rfl, rfl, rfl, rfl, rfl, trivial⟩ hs
      rintro _ w14 hs
      refine CW.seqJ (fun h' : GHeap => [(2, .pointer (some ⟨b1, 0, none⟩)), (3, .pointer (some ⟨b2, 0, none⟩)), (4, .pointer (some ⟨b3, 0, none⟩)), (7, .bool (decide (b.vec.len = 1))), (8, .float .f64 (fwF (S i))), (9, .int .i64 i), (10, .int .i64 (if b.vec.len = 1 then 0 else (i : Int))), (11, .int .i64 (if a.vec.len = 1 then 0 else (i : Int))), (63, .int .i64 N), (64, .int .i64 i)]) (fun h' w' => GLe h h' ∧ Sees w h h' [⟨some ⟨b3, 0, none⟩, 1, 1, 40, 9, .slice none 0 0 :: vecCells 0 (.slice none 0 0) 0 (.slice none 0 0) (.slice none 0 0) (.slice none 0 0) (.slice none 0 0) (.slice none 0 0)⟩, ⟨some ⟨b2, 0, none⟩, 1, 1, 40, 9, .slice ada a.shape.length cpa :: vecCells a.vec.kind wa na sa ia fa ga xa⟩, ⟨some ⟨b1, 0, none⟩, 1, 1, 40, 9, .slice adb b.shape.length cpb :: vecCells b.vec.kind wb nb sb ib fb gb xb⟩] w') ?_ ?_
      · refine Zerun ?_
        (refine RW.call T hs rfl rfl rfl (vecLen_con _ a.vec _ _ (vA _ hg)) ?_; intro v h15 w15 hle15 hp15 hs)
        subst hp15
        by_cases e1 : (a.vec.len : Int) = 1
        · rw [if_pos (by omega : a.vec.len = 1)]
          refine Zerun ?_
          exact joinQ_meet h15 ⟨rfl, rfl, rfl, rfl, rfl, rfl, rfl, rfl, rfl, rfl, trivial⟩ ⟨hg.trans hle15, hs⟩
        · rw [if_neg (by omega : ¬ a.vec.len = 1)]
          refine Zerun ?_
          exact joinQ_meet h15 ⟨rfl, rfl, rfl, rfl, rfl, rfl, rfl, rfl, rfl, rfl, trivial⟩ ⟨hg.trans hle15, hs⟩
      rintro h16 w16 ⟨g16, hs⟩
      generalize (if b.vec.len = 1 then (0 : Int) else (i : Int)) = jx at *
      generalize (if a.vec.len = 1 then (0 : Int) else (i : Int)) = jy at *
      refine Zerun ?_
      (refine RW.call T hs rfl rfl rfl (vecNum_con _ b.vec jx _ _ (vB _ g16)) ?_; intro v h17 w17 hle17 hp17 hs)
      subst hp17
      rw [q9]
      have g17 := g16.trans hle17
      refine Zerun ?_
      (refine RW.call T hs rfl rfl rfl (numMul_con (S i) (X' i) _ _ q7 ⟨q2, q3⟩ q6) ?_; intro v h18 w18 hle18 hp18 hs)
      subst hp18
      have g18 := g17.trans hle18
      refine Zerun ?_
      (refine RW.call T hs rfl rfl rfl (vecNum_con _ a.vec jy _ _ (vA _ g18)) ?_; intro v h19 w19 hle19 hp19 hs)
      subst hp19
      rw [q10]
      have g19 := g18.trans hle19
      refine Zerun ?_
      (refine RW.call T hs rfl rfl rfl (numAdd_con (S i * X' i) (Y' i) _ _ ⟨qm, q6⟩ ⟨q4, q5⟩ (by omega)) ?_; intro v h20 w20 hle20 hp20 hs)
      rw [← q1] at hp20
      subst hp20
      have g20 := g19.trans hle20
      refine Zerun ?_
      exact loopQ_round (i + 1, h20) ⟨rfl, rfl, rfl, rfl, rfl, rfl, rfl, trivial⟩ ⟨by dsimp only; omega, g20, hs⟩ (by dsimp only; omega)
    · obtain rfl : i = N := by omega
      refine Zerun ?_
      exact joinQ_meet hh ⟨rfl, rfl, rfl, rfl, trivial⟩ ⟨hg, hs⟩
  rintro h21 w21 ⟨g21, hs⟩
  have qN := hSr N (Nat.le_refl _)
  have qf := fwF_spec (S N) (by omega)
  refine Zerun ?_
  (refine RW.call T hs rfl rfl rfl (valueNum_con (R := ArrAt k) (ArrAt.mono k) (fwF (S N)) _ _ qf.1.1) ?_; intro v h22 w22 hle22 hp22 hs)
  obtain ⟨cs22, rfl, hr22⟩ := hp22
  rw [if_pos qf.1.2.1, tidyW_fw (S N) (by omega)] at hr22
  have hr22' : ArrAt (k + 1) h22 cs22 (⟨[], ⟨leastN [fwF (S N)], [fwF (S N)], [], []⟩⟩ : ArrD (AD k)) := hr22
  obtain ⟨_, vc, rfl, ⟨ad, cp, rfl, _⟩, hv⟩ := hr22
  obtain ⟨wv, nv, sm, il, fl, ch, bx, ⟨rfl, hoc⟩, -⟩ := hv
  refine Zerun ?_
  (refine RW.allocN T hs rfl rfl rfl rfl ?_; intro b23 w23 hs)
  (refine RW.storeAll T hs 0 rfl rfl rfl rfl rfl rfl (by show (Value.oneCell' (.slice ad 0 cp) && (vecCells _ wv nv sm il fl ch bx).all Value.oneCell') = true; rw [hoc]; rfl) rfl ?_; intro w24 hs)
  refine Zerun ?_
  (refine RW.storeAll T hs 1 rfl rfl rfl rfl rfl rfl (by show (Value.oneCell' (.slice ad 0 cp) && (vecCells _ wv nv sm il fl ch bx).all Value.oneCell') = true; rw [hoc]; rfl) rfl ?_; intro w25 hs)
  refine Zerun ?_
  exact retQ_ret [_, _] h22 ⟨resN T hs 1 rfl rfl rfl rfl rfl rfl, rfl, trivial⟩ hs.dropAll ⟨_, rfl, hr22'⟩
end Go.Proofs.YtmojpbfkpggjhaaGreatDoor

/-
  Contract of base.Encode at whole bases above nothing. No statement is proved here.
-/
namespace Go.Proofs.YtmojpbfkpggjhaaGreatDoor
open Go Go.RowKit
set_option linter.unusedVariables false
set_option linter.unusedSimpArgs false
set_option maxHeartbeats 4000000
attribute [local irreducible] CW RW QW SW HW ConM retM heldQ calmQ elemP thenQ blockQ loopQ joinQ retQ Yields Con Sl zF magR unitF truncF fwF wholeF tidySpec elemQ rankF leastN tidyW
set_option maxHeartbeats 4000000

/-- the digits of a number, and what is left of it -/
def encD : List Int → Int → List Int × Int
  | [], x => ([], x)
  | b :: l, x => ((encD l x).2 % b :: (encD l x).1, (encD l x).2 / b)
theorem encD_len : ∀ (l : List Int) (x : Int), (encD l x).1.length = l.length
  | [], _ => rfl
  | b :: l, x => by show ((encD l x).2 % b :: (encD l x).1).length = _; rw [List.length_cons, encD_len l x]; rfl
theorem ediv_small (x b : Int) (hb : 1 ≤ b) (h : -9007199254740992 ≤ x ∧ x ≤ 9007199254740992) : -9007199254740992 ≤ x / b ∧ x / b ≤ 9007199254740992 := by
  constructor
  · rw [Int.le_ediv_iff_mul_le (by omega)]
    have : -9007199254740992 * b ≤ -9007199254740992 * 1 := Int.mul_le_mul_of_nonpos_left (by omega) hb
    omega
  · apply Int.le_of_lt_add_one
    rw [Int.ediv_lt_iff_lt_mul (by omega)]
    have : 9007199254740993 * 1 ≤ 9007199254740993 * b := Int.mul_le_mul_of_nonneg_left hb (by omega)
    omega
theorem encD_small : ∀ (l : List Int) (x : Int), (∀ b ∈ l, 1 ≤ b) → -9007199254740992 ≤ x ∧ x ≤ 9007199254740992 → -9007199254740992 ≤ (encD l x).2 ∧ (encD l x).2 ≤ 9007199254740992
  | [], x, _, h => h
  | b :: l, x, hl, h => ediv_small _ _ (hl b (List.mem_cons_self ..)) (encD_small l x (fun c hc => hl c (List.mem_cons_of_mem _ hc)) h)
theorem encD_rng : ∀ (l : List Int) (x : Int), (∀ b ∈ l, 1 ≤ b ∧ b ≤ 9007199254740992) → ∀ d ∈ (encD l x).1, 0 ≤ d ∧ d ≤ 9007199254740992
  | [], _, _, d, hd => by cases hd
  | b :: l, x, hl, d, hd => by
    have hb := hl b (List.mem_cons_self ..)
    rcases List.mem_cons.1 hd with e | e
    · rw [e]
      have h1 := Int.emod_nonneg (encD l x).2 (show b ≠ 0 by omega)
      have h2 := Int.emod_lt_of_pos (encD l x).2 (show 0 < b by omega)
      omega
    · exact encD_rng l x (fun c hc => hl c (List.mem_cons_of_mem _ hc)) d e
theorem drop_consI (s : List Int) (i : Nat) (h : i < s.length) : s.drop i = s.getD i 0 :: s.drop (i + 1) := by
  rw [List.drop_eq_getElem_cons h, List.getD_eq_getElem?_getD, List.getElem?_eq_getElem h]; rfl
theorem restInt_con (b x : Int) (w : World) (h : GHeap) (hb : 1 ≤ b ∧ b ≤ 9007199254740992) (hx : -9007199254740992 ≤ x ∧ x ≤ 9007199254740992) : Con Tryz.prog 107 [.int .i64 b, .int .i64 x] w h (fun _ u => u = .int .i64 (x % b)) := by
  obtain ⟨bn, rfl⟩ := Int.eq_ofNat_of_zero_le (show 0 ≤ b by omega)
  obtain ⟨h1, h2, h3⟩ := tmod_emod x bn (by omega)
  refine Con.of_body Tryz.func107 rfl Tryz.ntmps107 rfl rfl ?_
  intro hs
  refine Zrun ?_
  refine RW.val (Y.rem' rfl rfl (by omega)) rfl ?_
  rw [← h3]
  clear h3
  generalize x.tmod bn = r at *
  by_cases c1 : r = 0
  · rw [if_neg (by omega)]
    refine Zerun ?_
    exact retQ_ret [_] h ⟨rfl, trivial⟩ hs.dropAll rfl
  · by_cases c2 : r < 0
    · rw [if_pos c2]
      refine Zerun ?_
      refine RW.val (Y.neqB T rfl rfl rfl) rfl ?_
      rw [decide_eq_true c2, decide_eq_false (show ¬ (bn : Int) < 0 by omega)]
      refine Zerun ?_
      exact retQ_ret [_] h ⟨rfl, trivial⟩ hs.dropAll rfl
    · rw [if_neg c2]
      refine Zerun ?_
      refine RW.val (Y.neqB T rfl rfl rfl) rfl ?_
      rw [decide_eq_false c2, decide_eq_false (show ¬ (bn : Int) < 0 by omega)]
      refine Zerun ?_
      exact retQ_ret [_] h ⟨rfl, trivial⟩ hs.dropAll rfl
theorem enc_step (x b : Int) (hb : 1 ≤ b) : (x - x % b).tdiv b = x / b := by
  have : x - x % b = b * (x / b) := by have := Int.mul_ediv_add_emod x b; omega
  rw [this, Int.mul_tdiv_cancel_left _ (by omega)]
theorem baseEncode_con (k : Nat) (cb ca : List Value) (b a : ArrD (AD k)) (l : List Int) (x : Int) (w : World) (h : GHeap) (hb : ArrAt (k + 1) h cb b) (ha : ArrAt (k + 1) h ca a) (hsb : b.shape.length ≤ 1) (hsa : a.shape.length ≤ 1) (hkb : b.vec.kind = 1 ∨ b.vec.kind = 2 ∨ b.vec.kind = 3) (hbl : b.vec.nums.map (fun u => (wholeF u).1) = l) (hbm : b.vec.len ≤ 1048576) (hal : a.vec.len = 1) (hax : a.vec.whole 0 = (x, true)) (hx : -9007199254740992 ≤ x ∧ x ≤ 9007199254740992) (hl : ∀ c ∈ l, 1 ≤ c ∧ c ≤ 9007199254740992) :
    Con Tryz.prog 42 [.agg cb.toArray, .agg ca.toArray] w h (fun h' u => ∃ cs', u = .tuple #[.agg cs'.toArray, .int .i64 0] ∧ ArrAt (k + 1) h' cs' (⟨b.shape, ⟨leastN ((encD l x).1.map fwF), (encD l x).1.map fwF, [], []⟩⟩ : ArrD (AD k))) := by
  have ha' := ha
  have hb' := hb
  have hl1 : ∀ c ∈ l, 1 ≤ c := fun c hc => (hl c hc).1
  obtain ⟨_, vca, rfl, ⟨ada, cpa, rfl, hSa⟩, hva⟩ := ha
  obtain ⟨_, vcb, rfl, ⟨adb, cpb, rfl, hSb⟩, hvb⟩ := hb
  have hva' := hva
  have hvb' := hvb
  have hll : l.length ≤ 1048576 := by have := hvb.shorts.1; rw [← hbl, List.length_map]; omega
  obtain ⟨wa, na, sa, ia, fa, ga, xa, ⟨rfl, hoa⟩, -⟩ := hva
  obtain ⟨wb, nb, sb, ib, fb, gb, xb, ⟨rfl, hob⟩, -⟩ := hvb
  have mA : ∀ h', GLe h h' → ArrAt (k + 1) h' (.slice ada a.shape.length cpa :: vecCells a.vec.kind wa na sa ia fa ga xa) a := fun h' hl => ArrAt.mono (k + 1) _ _ _ _ hl ha'
  have mB : ∀ h', GLe h h' → ArrAt (k + 1) h' (.slice adb b.shape.length cpb :: vecCells b.vec.kind wb nb sb ib fb gb xb) b := fun h' hl => ArrAt.mono (k + 1) _ _ _ _ hl hb'
  have vA : ∀ h', GLe h h' → VecAt (ArrAt k) h' (vecCells a.vec.kind wa na sa ia fa ga xa) a.vec := fun h' hl => hva'.mono (ArrAt.mono k) hl
  have vB : ∀ h', GLe h h' → VecAt (ArrAt k) h' (vecCells b.vec.kind wb nb sb ib fb gb xb) b.vec := fun h' hl => hvb'.mono (ArrAt.mono k) hl
  refine Con.of_body Tryz.func42 rfl Tryz.ntmps42 rfl rfl ?_
  intro hs
  refine Zrun ?_
  (refine RW.boxN hs rfl rfl ?_; intro b1 w1 hs)
  refine Zrun ?_
  (refine RW.boxN hs rfl rfl ?_; intro b2 w2 hs)
  refine Zrun ?_
  (refine RW.allocN T hs rfl rfl rfl rfl ?_; intro b3 w3 hs)
  refine Zerun ?_
  (refine RW.lit T hs (vs := [.agg (.slice adb b.shape.length cpb :: vecCells b.vec.kind wb nb sb ib fb gb xb).toArray]) (cs := (.slice adb b.shape.length cpb :: vecCells b.vec.kind wb nb sb ib fb gb xb)) rfl rfl rfl rfl (by simp [Value.cells, vecCells]) rfl rfl rfl rfl rfl ?_; intro b4 w4 hs)
  obtain ⟨h4, hle4, hs, hS4⟩ := hs.freeze
  have hR4 : RowsAt (α := AD (k + 1)) 9 (ArrAt (k + 1) h4) h4 (.slice (some ⟨b4, 0, none⟩) 1 1) [b] := RowsAt.single hS4 (mB _ hle4)
  refine Zerun ?_
  (refine RW.call T hs rfl rfl rfl (listed_con k _ [b] _ _ hR4) ?_; intro v h5 w5 hle5 hp5 hs)
  subst hp5
  rw [show (!([b] : List (ArrD (AD k))).any fun a => decide (1 < (a.shape.length : Int))) = true by
    simp only [List.any_cons, List.any_nil]
    rw [decide_eq_false (by omega)]; rfl]
  have g5 := hle4.trans hle5
  refine Zerun ?_
  (refine RW.call T hs rfl rfl rfl (valueSingle_con (R := ArrAt k) _ a _ _ (mA _ g5)) ?_; intro v h6 w6 hle6 hp6 hs)
  subst hp6
  rw [decide_eq_true hal]
  have g6 := g5.trans hle6
  refine Zerun ?_
  (refine RW.call T hs rfl rfl rfl (valueRank_con (R := ArrAt k) _ a _ _ (mA _ g6)) ?_; intro v h7 w7 hle7 hp7 hs)
  subst hp7
  have g7 := g6.trans hle7
  refine Zerun ?_
  (refine RW.call T hs rfl rfl rfl (vecWholes_con (ArrAt.mono k) _ b.vec _ _ (vB _ g7) (by omega)) ?_; intro v h8 w8 hle8 hp8 hs)
  obtain ⟨s8, rfl, hK8⟩ := hp8
  rw [if_pos hkb, hbl] at hK8
  rw [decide_eq_true hkb]
  have g8 := g7.trans hle8
  obtain ⟨ad8, cp8, rfl, hS8⟩ := hK8
  refine Zerun ?_
  (refine RW.call T hs rfl rfl rfl (vecWhole_con _ a.vec 0 _ _ (vA _ g8)) ?_; intro v h9 w9 hle9 hp9 hs)
  rw [hax] at hp9
  subst hp9
  have g9 := g8.trans hle9
  have hS8 := hS8.mono hle9
  refine Zerun ?_
  (refine RW.make1 T hs rfl rfl rfl rfl rfl rfl rfl (by dsimp only; omega) (by omega) ?_; intro b10 w10 hs)
  have hs := hs.re (ys := (List.replicate l.length 0 ++ (encD (l.drop l.length) x).1).map (Value.int .i64)) (by rw [List.drop_length, List.map_append, List.map_replicate]; show _ = _ ++ []; rw [List.append_nil])
  refine Zerun ?_
  refine CW.meetB (fun h' : GHeap => [(2, .pointer (some ⟨b1, 0, none⟩)), (3, .pointer (some ⟨b2, 0, none⟩)), (4, .pointer (some ⟨b3, 0, none⟩)), (10, .slice (some ⟨b10, 0, none⟩) l.length l.length)]) (fun h' w' => GLe h h' ∧ Sees w h h' [⟨some ⟨b10, 0, none⟩, l.length, l.length, 2, 1, ((encD l x).1).map (Value.int .i64)⟩, ⟨some ⟨b3, 0, none⟩, 1, 1, 40, 9, .slice none 0 0 :: vecCells 0 (.slice none 0 0) 0 (.slice none 0 0) (.slice none 0 0) (.slice none 0 0) (.slice none 0 0) (.slice none 0 0)⟩, ⟨some ⟨b2, 0, none⟩, 1, 1, 40, 9, .slice ada a.shape.length cpa :: vecCells a.vec.kind wa na sa ia fa ga xa⟩, ⟨some ⟨b1, 0, none⟩, 1, 1, 40, 9, .slice adb b.shape.length cpb :: vecCells b.vec.kind wb nb sb ib fb gb xb⟩] w') ?_ ?_
  · refine CW.loop (fun u : Nat × GHeap => [(2, .pointer (some ⟨b1, 0, none⟩)), (3, .pointer (some ⟨b2, 0, none⟩)), (4, .pointer (some ⟨b3, 0, none⟩)), (6, .slice ad8 l.length cp8), (8, .int .i64 (encD (l.drop u.1) x).2), (10, .slice (some ⟨b10, 0, none⟩) l.length l.length), (11, .int .i64 ((u.1 : Int) - 1))]) (fun u w' => u.1 ≤ l.length ∧ GLe h9 u.2 ∧ Sees w h u.2 [⟨some ⟨b10, 0, none⟩, l.length, l.length, 2, 1, (List.replicate u.1 0 ++ (encD (l.drop u.1) x).1).map (Value.int .i64)⟩, ⟨some ⟨b3, 0, none⟩, 1, 1, 40, 9, .slice none 0 0 :: vecCells 0 (.slice none 0 0) 0 (.slice none 0 0) (.slice none 0 0) (.slice none 0 0) (.slice none 0 0) (.slice none 0 0)⟩, ⟨some ⟨b2, 0, none⟩, 1, 1, 40, 9, .slice ada a.shape.length cpa :: vecCells a.vec.kind wa na sa ia fa ga xa⟩, ⟨some ⟨b1, 0, none⟩, 1, 1, 40, 9, .slice adb b.shape.length cpb :: vecCells b.vec.kind wb nb sb ib fb gb xb⟩] w') (fun u => u.1) (l.length, h9) ⟨rfl, rfl, rfl, rfl, by rw [List.drop_length]; rfl, rfl, rfl, trivial⟩ ⟨Nat.le_refl _, GLe.refl _, hs⟩ ?_
    rintro ⟨j, hh⟩ w11 ⟨hj, hg, hs⟩
    dsimp only at hj hg hs ⊢
    have hS11 := hS8.mono hg
    by_cases hlt : 0 < j
    · obtain ⟨i, rfl⟩ : ∃ i, j = i + 1 := ⟨j - 1, by omega⟩
      have hi : i < l.length := by omega
      have hd := drop_consI l i hi
      have hbi := hl _ (mem_getD l i 0 hi)
      have hxs := encD_small (l.drop (i + 1)) x (fun c hc => hl1 c (List.mem_of_mem_drop hc)) hx
      have hE1 : (encD (l.drop i) x).1 = (encD (l.drop (i + 1)) x).2 % l.getD i 0 :: (encD (l.drop (i + 1)) x).1 := by rw [hd]; rfl
      have hE2 : (encD (l.drop i) x).2 = (encD (l.drop (i + 1)) x).2 / l.getD i 0 := by rw [hd]; rfl
      have hgb := map_get (Value.int .i64) l i 0 hi
      have hds := ediv_small (encD (l.drop (i + 1)) x).2 (l.getD i 0) hbi.1 hxs
      have hst := enc_step (encD (l.drop (i + 1)) x).2 (l.getD i 0) hbi.1
      have hm1 := Int.emod_nonneg (encD (l.drop (i + 1)) x).2 (show l.getD i 0 ≠ 0 by omega)
      have hm2 := Int.emod_lt_of_pos (encD (l.drop (i + 1)) x).2 (show 0 < l.getD i 0 by omega)
      generalize (encD (l.drop (i + 1)) x).1 = D at *
      generalize (encD (l.drop (i + 1)) x).2 = xj at *
      rw [show (((i + 1 : Nat) : Int) - 1) = (i : Int) by omega]
      refine Zerun ?_
      (refine RW.call T hs rfl rfl rfl (restInt_con (l.getD i 0) xj _ _ hbi hxs) ?_; intro v h12 w12 hle12 hp12 hs)
      subst hp12
      have hS11 := hS11.mono hle12
      refine Zerun ?_
      refine RW.val (Y.idxRN T hs 0 rfl rfl rfl rfl rfl rfl hi) rfl ?_
      refine RW.st1 T hs 0 rfl rfl rfl rfl rfl rfl rfl hi ?_
      intro w13 hs
      have hs := hs.re (ys := (List.replicate i 0 ++ (xj % l.getD i 0 :: D)).map (Value.int .i64)) (by
        rw [map_set_int]
        congr 1
        rw [List.replicate_succ', List.append_assoc]
        simp)
      rw [← hE1] at hs
      have hb0 : ¬ l.getD i 0 = 0 := by omega
      refine Zerun ?_
      refine RW.val (Y.quo' rfl rfl hb0) rfl ?_
      rw [hst, wrap64 ⟨by omega, by omega⟩, ← hE2]
      refine Zerun ?_
      exact loopQ_round (i, h12) ⟨rfl, rfl, rfl, rfl, rfl, rfl, rfl, trivial⟩ ⟨by dsimp only; omega, hg.trans hle12, hs⟩ (by dsimp only; omega)
    · obtain rfl : j = 0 := by omega
      rw [List.drop_zero, List.replicate_zero, List.nil_append] at hs
      refine Zerun ?_
      exact joinQ_meet hh ⟨rfl, rfl, rfl, rfl, trivial⟩ ⟨g9.trans hg, hs⟩
  rintro h14 w14 ⟨g14, hs⟩
  obtain ⟨D, hD⟩ : ∃ D, (encD l x).1 = D := ⟨_, rfl⟩
  have hDl := encD_len l x
  have hDr := encD_rng l x hl
  rw [hD] at hs hDl hDr ⊢
  obtain ⟨h15, hle15, hs, hS15⟩ := hs.freeze
  dsimp only at hS15
  rw [← hDl] at hS15 ⊢
  have hK15 : KAt .i64 h15 (.slice (some ⟨b10, 0, none⟩) D.length D.length) D := RowAt.of_sl hS15
  have g15 := g14.trans hle15
  refine Zerun ?_
  (refine RW.call T hs rfl rfl rfl (vecInts_con (α := AD k) (R := ArrAt k) _ D _ _ hK15 (by omega)) ?_; intro v h16 w16 hle16 hp16 hs)
  obtain ⟨cs16, ok, rfl, hok, hv16⟩ := hp16
  rw [decide_eq_true (fun u hu => by have := hDr u hu; omega)] at hok
  subst hok
  rw [if_pos rfl] at hv16
  have g16 := g15.trans hle16
  have hv16' := hv16
  obtain ⟨wv, nv, sm, il, fl, ch, bx, ⟨rfl, hoc⟩, -⟩ := hv16
  refine Zerun ?_
  (refine RW.allocN T hs rfl rfl rfl rfl ?_; intro b17 w17 hs)
  (refine RW.storeAll T hs 0 rfl rfl rfl rfl rfl rfl hoc rfl ?_; intro w18 hs)
  refine Zerun ?_
  have hI : IntsAt h16 (.slice adb b.shape.length cpb) b.shape := ⟨adb, cpb, rfl, hSb.mono g16⟩
  refine CW.regionR T 3 0 hs rfl rfl ?_
  intro w19 hs
  refine HW.takeR (fuel := 7) 0 rfl (fun _ _ ka kb _ hs hka hkb => Y.fieldAddr T rfl rfl rfl rfl rfl) ⟨_, _, 3, 0, hs, rfl, rfl⟩ rfl (by kernel_rfl) (by kernel_rfl) (by kernel_rfl) ?_
  refine HW.takeR (fuel := 6) 1 rfl (fun _ _ ka kb _ hs hka hkb => Y.loadRow1 T hs ka hka rfl rfl rfl rfl) ⟨_, _, 3, 0, hs, rfl, rfl⟩ rfl (by kernel_rfl) (by kernel_rfl) (by kernel_rfl) ?_
  refine HW.takeR (fuel := 5) 3 rfl (fun _ _ ka kb _ hs hka hkb => Y.loadRowN T hs kb hkb rfl rfl rfl rfl rfl rfl) ⟨_, _, 3, 0, hs, rfl, rfl⟩ rfl (by kernel_rfl) (by kernel_rfl) (by kernel_rfl) ?_
  refine HW.one (fuel := 4) 2 rfl (by kernel_rfl) ?_
  (refine RW.call T hs rfl rfl rfl (cloneInts_con _ b.shape _ _ hI (by omega)) ?_; intro v h20 w20 hle20 hp20 hs)
  have hI' := hp20
  obtain ⟨ad20, cp20, rfl, _⟩ := hp20
  have hv16' := hv16'.mono (ArrAt.mono k) hle20
  refine RW.nil ?_
  refine heldQ_normal ⟨_, _, 3, 0, hs, rfl, rfl⟩ ?_
  refine HW.one (fuel := 3) 4 rfl (by kernel_rfl) ?_
  (refine RW.call T hs rfl rfl rfl (sqSqueeze_con (ArrAt.mono k) _ _ _ _ hv16' (by show (D.map fwF).length + 0 + 0 ≤ 1048576; rw [List.length_map]; omega)) ?_; intro v h21 w21 hle21 hp21 hs)
  obtain ⟨cs21, rfl, hv21⟩ := hp21
  rw [sq_nums3] at hv21
  have hv21' := hv21
  have hI' := hI'.mono hle21
  obtain ⟨wv2, nv2, sm2, il2, fl2, ch2, bx2, ⟨rfl, hoc2⟩, -⟩ := hv21
  refine RW.nil ?_
  refine heldQ_normal ⟨_, _, 3, 0, hs, rfl, rfl⟩ ?_
  refine HW.takeR (fuel := 2) 5 rfl (fun _ _ ka kb _ hs hka hkb => Y.build T rfl rfl rfl rfl rfl rfl rfl) ⟨_, _, 3, 0, hs, rfl, rfl⟩ rfl (by kernel_rfl) (by kernel_rfl) (by kernel_rfl) ?_
  refine HW.one (fuel := 1) 6 rfl (by kernel_rfl) ?_
  (refine RW.storeAll T hs 1 rfl rfl rfl rfl rfl rfl (by show (Value.oneCell' (.slice ad20 b.shape.length cp20) && (vecCells _ wv2 nv2 sm2 il2 fl2 ch2 bx2).all Value.oneCell') = true; rw [hoc2]; rfl) rfl ?_; intro w22 hs)
  refine RW.nil ?_
  refine heldQ_normal ⟨_, _, 3, 0, hs, rfl, rfl⟩ ?_
  refine HW.takeR (fuel := 0) 7 rfl (fun _ _ ka kb _ hs hka hkb => Y.assign rfl) ⟨_, _, 3, 0, hs, rfl, rfl⟩ rfl (by kernel_rfl) (by kernel_rfl) (by kernel_rfl) ?_
  refine HW.done (by kernel_rfl) ?_
  refine calmQ_normal ?_
  refine Zerun ?_
  exact retQ_ret [_, _] h21 ⟨resN T hs 1 rfl rfl rfl rfl rfl rfl, rfl, trivial⟩ hs.dropAll ⟨_, rfl, _, _, rfl, hI', hv21'⟩
end Go.Proofs.YtmojpbfkpggjhaaGreatDoor

/-
  Contract of the document's answer of layer 15: items picked along an axis. No statement is proved here.
-/
namespace Go.Proofs.YtmojpbfkpggjhaaGreatDoor
open Go Go.RowKit
set_option linter.unusedVariables false
set_option linter.unusedSimpArgs false
set_option maxHeartbeats 4000000
attribute [local irreducible] CW RW QW SW HW ConM retM heldQ calmQ elemP thenQ blockQ loopQ joinQ retQ Yields Con Sl zF magR unitF truncF fwF wholeF tidySpec elemQ rankF leastN tidyW
set_option maxHeartbeats 4000000

/-- the places picked so far: so many times over, so many of the places, so many elements -/
def alO (n inner o : Nat) (at_ : List Int) (j k : Nat) : List Int := alongL o n inner at_ ++ ((at_.take j).flatMap fun i => (List.range inner).map fun k => alongI n inner o i k) ++ (List.range k).map fun k => alongI n inner o (at_.getD j 0) k
theorem alO_k (n inner o : Nat) (at_ : List Int) (j k : Nat) : alO n inner o at_ j (k + 1) = alO n inner o at_ j k ++ [alongI n inner o (at_.getD j 0) k] := by
  unfold alO
  rw [List.range_succ, List.map_append, ← List.append_assoc]
  rfl
theorem alO_j (n inner o : Nat) (at_ : List Int) (j : Nat) (h : j < at_.length) : alO n inner o at_ (j + 1) 0 = alO n inner o at_ j inner := by
  unfold alO
  rw [take_succ_getD at_ j 0 h, List.flatMap_append, List.append_assoc, List.append_assoc]
  simp
theorem alO_o (n inner o : Nat) (at_ : List Int) : alO n inner (o + 1) at_ 0 0 = alO n inner o at_ at_.length 0 := by
  unfold alO alongL
  rw [List.take_length, List.range_succ, List.flatMap_append]
  simp
theorem along_ix {outer n inner o q k : Nat} (ho : o < outer) (hq : q < n) (hk : k < inner) : (o * n + q) * inner + k < outer * n * inner := by
  have h1 : o * n + q + 1 ≤ outer * n := by
    have : (o + 1) * n ≤ outer * n := Nat.mul_le_mul_right n ho
    rw [Nat.add_mul, Nat.one_mul] at this
    omega
  have h2 : (o * n + q + 1) * inner ≤ outer * n * inner := Nat.mul_le_mul_right inner h1
  rw [Nat.add_mul, Nat.one_mul] at h2
  omega
section
variable {β : Type} {R : GHeap → List Value → β → Prop}
end
end Go.Proofs.YtmojpbfkpggjhaaGreatDoor

/-
  Contracts of functions of package bitvec: bits behind the last one away, and truths cut. No statement is proved here.
-/
namespace Go.Proofs.YtmojpbfkpggjhaaGreatDoor
open Go Go.RowKit
set_option linter.unusedVariables false
set_option linter.unusedSimpArgs false
set_option maxHeartbeats 4000000
attribute [local irreducible] CW RW QW SW HW ConM retM heldQ calmQ elemP thenQ blockQ loopQ joinQ retQ Yields Con Sl zF magR unitF truncF fwF wholeF tidySpec elemQ rankF leastN tidyW
set_option maxHeartbeats 4000000

section
variable {P : Program} {n : Nat} {L : Env} {w : World} {ty : TypeId} {x y : Operand} {t yt : TypeId}
end
section
variable {P : Program} {L : Env} {w0 w : World} {h0 h : GHeap}
end
/-! ## Plain facts -/
def BitsUp (m : Nat) (ws : List Int) (g : Nat → Bool) : Prop := ws.length = m ∧ (∀ u ∈ ws, 0 ≤ u ∧ u < 18446744073709551616) ∧ ∀ i, i < m * 64 → (ws.getD (i / 64) 0).toNat.testBit (i % 64) = g i
def cutW (ws : List Int) (f i : Nat) : Nat := ((ws.getD ((f + i * 64) / 64) 0).toNat >>> ((f + i * 64) % 64)) ||| (if 0 < (f + i * 64) % 64 ∧ (f + i * 64) / 64 + 1 < ws.length then (ws.getD ((f + i * 64) / 64 + 1) 0).toNat <<< (64 - (f + i * 64) % 64) % 18446744073709551616 else 0)
theorem word_lt {ws : List Int} (h : ∀ u ∈ ws, 0 ≤ u ∧ u < 18446744073709551616) (i : Nat) : (ws.getD i 0).toNat < 18446744073709551616 := by
  by_cases c : i < ws.length
  · have := h _ (mem_getD ws i 0 c); omega
  · simp [List.getD_eq_getElem?_getD, c]
theorem shl_lt (u v : Nat) : u <<< v % 18446744073709551616 < 18446744073709551616 := Nat.mod_lt _ (by decide)
theorem cutW_lt {ws : List Int} (h : ∀ u ∈ ws, 0 ≤ u ∧ u < 18446744073709551616) (f i : Nat) : cutW ws f i < 18446744073709551616 := by
  unfold cutW
  refine Nat.or_lt_two_pow (n := 64) (Nat.lt_of_le_of_lt (Nat.shiftRight_le _ _) (word_lt h _)) ?_
  split
  · exact shl_lt _ _
  · decide
theorem cutW_bit {ws : List Int} {bs : List Bool} (hb : BitsOf ws bs) (f i j : Nat) (hj : j < 64) : (cutW ws f i).testBit j = bs.getD (f + i * 64 + j) false := by
  obtain ⟨hl, hr, hb⟩ := hb
  have h1 := hb (f + i * 64 + j)
  rw [← h1]
  unfold cutW
  rw [Nat.testBit_or, Nat.testBit_shiftRight]
  generalize hk : (f + i * 64) / 64 = k
  generalize hrr : (f + i * 64) % 64 = r
  have hat : f + i * 64 = k * 64 + r := by omega
  have hr64 : r < 64 := by omega
  by_cases c : r + j < 64
  · have e1 : (f + i * 64 + j) / 64 = k := by omega
    have e2 : (f + i * 64 + j) % 64 = r + j := by omega
    rw [e1, e2]
    have : (if 0 < r ∧ k + 1 < ws.length then (ws.getD (k + 1) 0).toNat <<< (64 - r) % 18446744073709551616 else 0).testBit j = false := by
      split
      · rw [show (18446744073709551616 : Nat) = 2 ^ 64 from rfl, Nat.testBit_mod_two_pow, Nat.testBit_shiftLeft]
        simp [show ¬ (j ≥ 64 - r) by omega]
      · simp
    rw [this, Bool.or_false]
  · have e1 : (f + i * 64 + j) / 64 = k + 1 := by omega
    have e2 : (f + i * 64 + j) % 64 = r + j - 64 := by omega
    rw [e1, e2]
    have h2 : (ws.getD k 0).toNat.testBit (r + j) = false := by
      apply Nat.testBit_lt_two_pow
      exact Nat.lt_of_lt_of_le (word_lt hr k) (Nat.pow_le_pow_right (n := 2) (by omega) (show 64 ≤ r + j by omega))
    rw [h2, Bool.false_or]
    by_cases c2 : k + 1 < ws.length
    · rw [if_pos ⟨by omega, c2⟩, show (18446744073709551616 : Nat) = 2 ^ 64 from rfl, Nat.testBit_mod_two_pow, Nat.testBit_shiftLeft]
      simp [hj, show j ≥ 64 - r by omega, show j - (64 - r) = r + j - 64 by omega]
    · rw [if_neg (by omega)]
      simp [List.getD_eq_getElem?_getD, c2]
theorem BitsUp.put {m : Nat} {ws : List Int} {bs : List Bool} {f i : Nat} {out : List Int} (hb : BitsOf ws bs) (ho : BitsUp m out (fun j => if j < i * 64 then bs.getD (f + j) false else false)) (hi : i < m) : BitsUp m (out.set i (cutW ws f i : Int)) (fun j => if j < (i + 1) * 64 then bs.getD (f + j) false else false) := by
  obtain ⟨hl, hr, hbo⟩ := ho
  refine ⟨by rw [List.length_set]; exact hl, fun u hu => ?_, fun j hj => ?_⟩
  · rcases List.mem_or_eq_of_mem_set hu with hu | hu
    · exact hr u hu
    · subst hu
      have := cutW_lt hb.2.1 f i
      omega
  · rw [getD_set _ _ _ _ _ (by omega)]
    by_cases e : j / 64 = i
    · rw [if_pos e, Int.toNat_natCast, cutW_bit hb f i _ (Nat.mod_lt _ (by omega))]
      dsimp only
      rw [if_pos (by omega)]
      congr 1
      omega
    · rw [if_neg e, hbo j hj]
      dsimp only
      by_cases c : j < i * 64
      · rw [if_pos c, if_pos (by omega)]
      · rw [if_neg c, if_neg (by omega)]
theorem BitsUp.zero (m : Nat) (g : Nat → Bool) : BitsUp m (List.replicate m 0) (fun j => if j < 0 * 64 then g j else false) := by
  refine ⟨by simp, fun u hu => ?_, fun j hj => ?_⟩
  · rw [List.eq_of_mem_replicate hu]; omega
  · dsimp only
    rw [if_neg (by omega)]
    have : (List.replicate m (0 : Int)).getD (j / 64) 0 = 0 := by
      rw [List.getD_eq_getElem?_getD, List.getElem?_replicate]
      split <;> rfl
    rw [this]; simp
end Go.Proofs.YtmojpbfkpggjhaaGreatDoor

/-
  Contracts of functions of packages flat and bitvec: elements cut, truths one by one. No statement is proved here.
-/
namespace Go.Proofs.YtmojpbfkpggjhaaGreatDoor
open Go Go.RowKit
set_option linter.unusedVariables false
set_option linter.unusedSimpArgs false
set_option maxHeartbeats 4000000
attribute [local irreducible] CW RW QW SW HW ConM retM heldQ calmQ elemP thenQ blockQ loopQ joinQ retQ Yields Con Sl zF magR unitF truncF fwF wholeF tidySpec elemQ rankF leastN tidyW
set_option maxHeartbeats 4000000

section
variable {α : Type} {R : GHeap → List Value → α → Prop}
end
end Go.Proofs.YtmojpbfkpggjhaaGreatDoor

/-
  Contracts of functions of package flat: lists of a class behind each other. No statement is proved here.
-/
namespace Go.Proofs.YtmojpbfkpggjhaaGreatDoor
open Go Go.RowKit
set_option linter.unusedVariables false
set_option linter.unusedSimpArgs false
set_option maxHeartbeats 4000000
attribute [local irreducible] CW RW QW SW HW ConM retM heldQ calmQ elemP thenQ blockQ loopQ joinQ retQ Yields Con Sl zF magR unitF truncF fwF wholeF tidySpec elemQ rankF leastN tidyW
set_option maxHeartbeats 4000000

section
variable {α : Type} {R : GHeap → List Value → α → Prop}
theorem fm_len {γ : Type} {f : VecD α → List γ} (hf : ∀ v, (f v).length ≤ v.len) : ∀ l : List (VecD α), (l.flatMap f).length ≤ (l.map VecD.len).sum
  | [] => Nat.le_refl _
  | v :: l => by
    have := fm_len hf l
    have := hf v
    rw [List.flatMap_cons, List.length_append, List.map_cons, List.sum_cons]
    omega
theorem AllN.ones {δ : Type} {sz : Nat} {S : List Value → δ → Prop} (hc : ∀ cs a, S cs a → ∀ u ∈ cs, u.oneCell' = true) : ∀ {l : List δ} {xs : List Value}, AllN sz S xs l → ∀ u ∈ xs, u.oneCell' = true
  | [], xs, hx, u, hu => by have : xs = [] := hx; rw [this] at hu; cases hu
  | a :: l, xs, hx, u, hu => by
    rw [← List.take_append_drop sz xs, List.mem_append] at hu
    rcases hu with hu | hu
    · exact hc _ a hx.2.1 u hu
    · exact AllN.ones hc hx.2.2 u hu
theorem leastN_bits (bs : List Bool) : leastN (bs.map bitF) = 1 := by
  have h1 := (leastN_bounds (bs.map bitF)).1
  have h2 : leastN (bs.map bitF) ≤ 1 := by
    rw [leastN.eq_1]
    refine fold_le _ 1 1 (by omega) ?_
    intro x hx
    obtain ⟨b, _, rfl⟩ := List.mem_map.1 hx
    cases b
    · exact (rank_bit _ tidy0).2 (.inl fw0.symm)
    · exact (rank_bit _ tidy1).2 (.inr fw1.symm)
  omega
def joinS (c : Int) (l : List (VecD α)) : VecD α := if c = 1 then ⟨5, [], l.flatMap (·.chars), []⟩ else if c = 2 then ⟨6, [], [], l.flatMap (·.boxes)⟩ else ⟨leastN (l.flatMap (·.nums)), l.flatMap (·.nums), [], []⟩
end
end Go.Proofs.YtmojpbfkpggjhaaGreatDoor

/-
  Contracts of functions of package flat: lists behind each other. No statement is proved here.
-/
namespace Go.Proofs.YtmojpbfkpggjhaaGreatDoor
open Go Go.RowKit
set_option linter.unusedVariables false
set_option linter.unusedSimpArgs false
set_option maxHeartbeats 4000000
attribute [local irreducible] CW RW QW SW HW ConM retM heldQ calmQ elemP thenQ blockQ loopQ joinQ retQ Yields Con Sl zF magR unitF truncF fwF wholeF tidySpec elemQ rankF leastN tidyW
set_option maxHeartbeats 4000000

section
variable {α : Type} {R : GHeap → List Value → α → Prop}
/-- the class of lists behind each other, those without elements apart; none: of unlike ones -/
def joinC (c : Int) : List (VecD α) → Option Int
  | [] => some c
  | v :: l => if v.len = 0 then joinC c l else if 0 ≤ c ∧ c ≠ v.cls then none else joinC v.cls l
def headC : List (VecD α) → Int
  | [] => 0
  | v :: _ => v.cls
structure JF (c kd : Int) (m : List (VecD α)) : Prop where
  rng : c = -1 ∨ c = 0 ∨ c = 1 ∨ c = 2
  kd1 : 1 ≤ kd ∧ kd ≤ 6
  all : ∀ v ∈ m, v.len ≠ 0 → v.cls = c ∧ v.kind ≤ kd
theorem cls_rng (v : VecD α) : v.cls = 0 ∨ v.cls = 1 ∨ v.cls = 2 := by unfold VecD.cls; split <;> (try split) <;> omega
theorem joinC_skip {c : Int} {v : VecD α} {l : List (VecD α)} (h0 : v.len = 0) : joinC c (v :: l) = joinC c l := by rw [joinC, if_pos h0]
theorem JF.skip {c kd : Int} {m : List (VecD α)} {v : VecD α} (hF : JF c kd m) (h0 : v.len = 0) : JF c kd (m ++ [v]) := by
  refine ⟨hF.rng, hF.kd1, fun u hu hn => ?_⟩
  rcases List.mem_append.1 hu with hu | hu
  · exact hF.all u hu hn
  · rw [List.mem_singleton.1 hu] at hn; exact absurd h0 hn
theorem JF.step {c kd : Int} {m : List (VecD α)} {v : VecD α} (hF : JF c kd m) (_h0 : ¬ v.len = 0) (hc : c = v.cls ∨ ∀ u ∈ m, u.len = 0) (hcl : v.cls = 0 ∨ v.cls = 1 ∨ v.cls = 2) (hkr : 0 ≤ v.kind ∧ v.kind ≤ 6) : JF v.cls (max kd v.kind) (m ++ [v]) := by
  refine ⟨by omega, by have := hF.kd1; omega, fun u hu hn => ?_⟩
  rcases List.mem_append.1 hu with hu | hu
  · rcases hc with e | e
    · have := hF.all u hu hn; exact ⟨by omega, by omega⟩
    · exact absurd (e u hu) hn
  · rw [List.mem_singleton.1 hu]; exact ⟨rfl, by omega⟩
end
end Go.Proofs.YtmojpbfkpggjhaaGreatDoor

/-
  Contracts of the document's answer of layer 8: items again and again, turned, behind each other; a number brought between two. No statement is proved here.
-/
namespace Go.Proofs.YtmojpbfkpggjhaaGreatDoor
open Go Go.RowKit
set_option linter.unusedVariables false
set_option linter.unusedSimpArgs false
set_option maxHeartbeats 4000000
attribute [local irreducible] CW RW QW SW HW ConM retM heldQ calmQ elemP thenQ blockQ loopQ joinQ retQ Yields Con Sl zF magR unitF truncF fwF wholeF tidySpec elemQ rankF leastN tidyW
set_option maxHeartbeats 4000000

section
variable {γ : Type} {RC : GHeap → List Value → γ → Prop}
end
section
variable {β : Type} {R : GHeap → List Value → β → Prop}
end
section
variable {γ : Type} {RC : GHeap → List Value → γ → Prop}
end
end Go.Proofs.YtmojpbfkpggjhaaGreatDoor

/-
  Contracts of the document's answer and of the laws: how many items a good plain array has. No statement is proved here.
-/
namespace Go.Proofs.YtmojpbfkpggjhaaGreatDoor
open Go Go.RowKit
set_option linter.unusedVariables false
set_option linter.unusedSimpArgs false
set_option maxHeartbeats 4000000
attribute [local irreducible] CW RW QW SW HW ConM retM heldQ calmQ elemP thenQ blockQ loopQ joinQ retQ Yields Con Sl zF magR unitF truncF fwF wholeF tidySpec elemQ rankF leastN tidyW
set_option maxHeartbeats 4000000

section
variable {α : Type} {R : GHeap → List Value → α → Prop}
theorem refCountB_step (hR : Mono R) (most : Int) (ih : ∀ cs a w h, R h cs a → Con Tryz.prog 37 [.agg cs.toArray, .int .i64 most] w h (fun _ u => ∃ r, u = .int .i64 r))
    (cs : List Value) (p : PlainD α) (w : World) (h : GHeap) (hp : PlainR R h cs p) : Con Tryz.prog 37 [.agg cs.toArray, .int .i64 most] w h (fun _ u => ∃ r, u = .int .i64 r ∧ (p.shape.length ≤ 8 → p.items.length ≤ 1048576 → r ≤ most → (p.items.length : Int) + p.shape.length + 1 ≤ most)) := by
  obtain ⟨s, it, rfl, ⟨ad, cp, rfl, hS⟩, ⟨ad2, cp2, xs, rfl, hS2, hA⟩⟩ := hp
  have hlen : p.items.length ≤ 9223372036854775807 := by have := hS2.caps; omega
  refine Con.of_body Tryz.func37 rfl Tryz.ntmps37 rfl rfl ?_
  intro hs
  refine Zrun ?_
  (refine RW.boxN hs rfl rfl ?_; intro b1 w1 hs)
  refine Zerun ?_
  refine RW.val (Y.add' rfl rfl) rfl ?_
  refine RW.val (Y.add' rfl rfl) rfl ?_
  have hr0' : p.shape.length ≤ 8 → p.items.length ≤ 1048576 → IntKind.i64.wrap (IntKind.i64.wrap ((p.items.length : Int) + p.shape.length) + 1) = (p.items.length : Int) + p.shape.length + 1 := by
    intro h1 h2
    have e1 : IntKind.i64.wrap ((p.items.length : Int) + p.shape.length) = (p.items.length : Int) + p.shape.length := wrap64 (by omega)
    rw [e1, wrap64 (by omega)]
  generalize IntKind.i64.wrap (IntKind.i64.wrap _ + 1) = r0 at hr0' ⊢
  refine Zerun ?_
  refine CW.loop (fun q : Nat × Int × GHeap => [(1, .int .i64 most), (2, .pointer (some ⟨b1, 0, none⟩)), (5, .int .i64 q.2.1), (6, .int .i64 q.1)]) (fun q w' => q.1 ≤ p.items.length ∧ GLe h q.2.2 ∧ (most < r0 → q.2.1 = r0) ∧ Sees w h q.2.2 [⟨some ⟨b1, 0, none⟩, 1, 1, 25, 3, [.slice ad p.shape.length cp, .slice ad2 p.items.length cp2, .int .i64 p.fill]⟩] w') (fun q => p.items.length - q.1) (0, r0, h) ⟨rfl, rfl, rfl, rfl, trivial⟩ ⟨by omega, GLe.refl _, fun _ => rfl, hs⟩ ?_
  rintro ⟨i, r, hh⟩ w2 ⟨hi, hg, hr, hs⟩
  dsimp only at hi hg hr hs ⊢
  have hS2 := hS2.mono hg
  by_cases hlt : i < p.items.length
  · obtain ⟨bx, hx4, hx1, ⟨ad3, cp3, ys, rfl, hS3, hA3⟩, hx2, hq0, hq1, hq2, hq3⟩ := ItemAt.cells hA i hlt
    have hS3 := hS3.mono hg
    generalize p.items.getD i noItem = x at *
    by_cases hle : r ≤ most
    · refine Zerun ?_
      refine CW.loop (fun q : Nat × Int × GHeap => [(1, .int .i64 most), (2, .pointer (some ⟨b1, 0, none⟩)), (5, .int .i64 q.2.1), (6, .int .i64 i), (7, .int .i64 q.1)]) (fun q w' => q.1 ≤ x.box.length ∧ GLe hh q.2.2 ∧ Sees w h q.2.2 [⟨some ⟨b1, 0, none⟩, 1, 1, 25, 3, [.slice ad p.shape.length cp, .slice ad2 p.items.length cp2, .int .i64 p.fill]⟩] w') (fun q => x.box.length - q.1) (0, r, hh) ⟨rfl, rfl, rfl, rfl, rfl, trivial⟩ ⟨by omega, GLe.refl _, hs⟩ ?_
      rintro ⟨j, r2, h3⟩ w3 ⟨hj, hg3, hs⟩
      dsimp only at hj hg3 hs ⊢
      have hS2 := hS2.mono hg3
      have hS3 := hS3.mono hg3
      have hbl : x.box.length ≤ 9223372036854775807 := by have := hS3.caps; omega
      by_cases hlt3 : j < x.box.length
      · by_cases hle3 : r2 ≤ most
        · obtain ⟨y, hy, hR3, hR3l⟩ : ∃ y, (ys.drop (j * 3)).take 3 = y ∧ (∃ a, R h y a) ∧ y.length = 3 := by
            obtain ⟨h1, h2⟩ := hA3.get (x.box[j]) j hlt3
            exact ⟨_, rfl, ⟨_, h1⟩, h2⟩
          obtain ⟨a, hRa⟩ := hR3
          have hRa := hR _ _ _ _ (hg.trans hg3) hRa
          refine Zerun ?_
          (refine RW.call T hs rfl rfl rfl (ih _ a _ _ hRa) ?_; intro v h4 w4 hle4 hp4 hs)
          obtain ⟨r4, rfl⟩ := hp4
          refine RW.val (Y.add' rfl rfl) rfl ?_
          generalize IntKind.i64.wrap (r2 + r4) = r5
          refine Zerun ?_
          exact loopQ_round (j + 1, r5, h4) ⟨rfl, rfl, rfl, rfl, rfl, trivial⟩ ⟨by dsimp only; omega, hg3.trans hle4, hs⟩ (by dsimp only; omega)
        · refine Zerun ?_
          exact loopQ_round (i + 1, r2, h3) ⟨rfl, rfl, rfl, rfl, trivial⟩ ⟨by dsimp only; omega, hg.trans hg3, fun e => by have := hr e; omega, hs⟩ (by dsimp only; omega)
      · refine Zerun ?_
        exact loopQ_round (i + 1, r2, h3) ⟨rfl, rfl, rfl, rfl, trivial⟩ ⟨by dsimp only; omega, hg.trans hg3, fun e => by have := hr e; omega, hs⟩ (by dsimp only; omega)
    · refine Zerun ?_
      exact retQ_ret [_] hh ⟨rfl, trivial⟩ hs.dropAll ⟨_, rfl, fun h1 h2 h3 => by have e := hr0' h1 h2; by_cases c : most < r0; have := hr c; omega; omega⟩
  · refine Zerun ?_
    exact retQ_ret [_] hh ⟨rfl, trivial⟩ hs.dropAll ⟨_, rfl, fun h1 h2 h3 => by have e := hr0' h1 h2; by_cases c : most < r0; have := hr c; omega; omega⟩
end
theorem refCountB_con (most : Int) (k : Nat) (cs : List Value) (p : PD (k + 1)) (w : World) (h : GHeap) (hp : PlainAt (k + 1) h cs p) : Con Tryz.prog 37 [.agg cs.toArray, .int .i64 most] w h (fun _ u => ∃ r, u = .int .i64 r ∧ (chk (k + 1) 40 p = 0 → r ≤ most → (PlainD.items (α := PD k) p).length ≤ most)) := by
  have := refCountB_step (PlainAt.mono k) most (refCount_con most k) cs p w h hp
  refine this.mono ?_
  rintro h' u _ ⟨r, rfl, hr⟩
  refine ⟨r, rfl, fun hc hle => ?_⟩
  obtain ⟨_, _, _, hpr, hok⟩ := (chkP_ok (α := PD k) _ _ _).1 hc
  have h1 : (PlainD.shape (α := PD k) p).length ≤ 8 := by
    by_cases c : 8 < (PlainD.shape (α := PD k) p).length
    · unfold product at hpr
      rw [if_pos c] at hpr
      exact absurd (congrArg Prod.snd hpr) (show (26 : Int) ≠ 0 by decide)
    · omega
  have h2 := (good_sml (k + 1) 40 _ (good_arr (k + 1) 40 p hc)).2.1
  have h3 : (ArrD.vec (α := AD k) (arr (k + 1) p)).len = (PlainD.items (α := PD k) p).length := len_arrV (arr k) _ _ _ hok
  have := hr h1 (by omega) hle
  omega
end Go.Proofs.YtmojpbfkpggjhaaGreatDoor

/-
  Plain facts on lists of elements picked, cut, turned and put behind each other, and what they show. No statement is proved here.
-/
namespace Go.Proofs.YtmojpbfkpggjhaaGreatDoor
open Go Go.RowKit
set_option linter.unusedVariables false
set_option linter.unusedSimpArgs false
set_option maxHeartbeats 4000000
attribute [local irreducible] CW RW QW SW HW ConM retM heldQ calmQ elemP thenQ blockQ loopQ joinQ retQ Yields Con Sl zF magR unitF truncF fwF wholeF tidySpec elemQ rankF leastN tidyW
set_option maxHeartbeats 4000000

structure Shown (k : Nat) (v : VecD (AD k)) (l : List (ItemD (PD k))) (c : Int) : Prop where
  hc : v.cls = c
  k0 : v.kind ≠ 0
  kl : v.kind = v.least
  vm : v.len ≤ 1048576
  sm : ∀ b ∈ v.boxes, sml k b
  he : itemsV (plain k) v = l
  td : ∀ x ∈ l, tdyIt (tdy k) x
theorem shown_of (k : Nat) (p : PD (k + 2)) (h : GHeap) (cs : List Value) (hp : PlainAt (k + 2) h cs p) (hc : chk (k + 2) 40 p = 0) : Shown (k + 1) (ArrD.vec (α := AD (k + 1)) (arr (k + 2) p)) (PlainD.items (α := PD (k + 1)) (tidy (k + 2) p)) (PlainD.fill (α := PD (k + 1)) p) := by
  have hgood := good_arr (k + 2) 40 p hc
  have hsml := good_sml (k + 2) 40 _ hgood
  refine ⟨?_, hgood.2.1, hgood.2.2.1, hsml.2.1, hsml.2.2, congrArg (PlainD.items (α := PD (k + 1))) (plain_arr (k + 2) 40 p hc), tidy_tdy (k + 2) 40 p _ _ hp hc⟩
  obtain ⟨_, h2, h3, _, _⟩ := (chkP_ok (α := PD (k + 1)) _ _ _).1 hc
  exact cls_arrV (arr (k + 1)) _ _ h2 h3
theorem Shown.pick {k : Nat} {v : VecD (AD (k + 1))} {L : List (ItemD (PD (k + 1)))} {c : Int} (H : Shown (k + 1) v L c) (at_ : List Int) (hm : at_.length ≤ 1048576) : Shown (k + 1) (v.pick at_ (blankA k)) (at_.map fun i => atD L i (blankI c : ItemD (PlainD (PD k)))) c := by
  have hpf := pick_facts v at_ (blankA k)
  refine ⟨by rw [pick_cls, H.hc], hpf.1, hpf.2.1, by rw [hpf.2.2.1]; exact hm, ?_, pick_items' (β := PD k) (plain (k + 1)) _ at_ (blankA k) _ _ H.he H.hc rfl, ?_⟩
  · intro b hb
    rcases hpf.2.2.2 b hb with e | e
    · exact H.sm b e
    · rw [e]; exact blankA_sml k
  · intro x hx
    obtain ⟨i, _, rfl⟩ := List.mem_map.1 hx
    rcases atD_mem L i (blankI c : ItemD (PlainD (PD k))) with e | e
    · exact H.td _ e
    · rw [e]; exact blankI_tdy k _
section
variable {α β : Type}
theorem len0 {v : VecD α} (h : v.len = 0) : v.nums = [] ∧ v.chars = [] ∧ v.boxes = [] := by
  unfold VecD.len at h
  exact ⟨List.eq_nil_of_length_eq_zero (by omega), List.eq_nil_of_length_eq_zero (by omega), List.eq_nil_of_length_eq_zero (by omega)⟩
theorem itemsV_len0 (f : α → β) {v : VecD α} (h : v.len = 0) : itemsV f v = [] := by
  obtain ⟨h1, h2, h3⟩ := len0 h
  unfold itemsV
  rw [h1, h2, h3]
  split <;> (try split) <;> rfl
theorem flatMap_map' {γ δ ε : Type} (g : δ → ε) (f : γ → List δ) : ∀ l : List γ, (l.flatMap f).map g = l.flatMap fun x => (f x).map g
  | [] => rfl
  | a :: l => by rw [List.flatMap_cons, List.map_append, flatMap_map' g f l, List.flatMap_cons]
theorem flatMap_eq {γ δ : Type} {f g : γ → List δ} : ∀ {l : List γ}, (∀ x ∈ l, f x = g x) → l.flatMap f = l.flatMap g
  | [], _ => rfl
  | a :: l, h => by rw [List.flatMap_cons, List.flatMap_cons, h a (by simp), flatMap_eq (fun x hx => h x (List.mem_cons_of_mem _ hx))]
theorem joinS_cls {c : Int} (hc : c = 0 ∨ c = 1 ∨ c = 2) (l : List (VecD α)) : (joinS c l).cls = c := by
  unfold joinS VecD.cls
  rcases hc with rfl | rfl | rfl
  · have := leastN_bounds (l.flatMap (·.nums))
    rw [if_neg (show ¬ (0 : Int) = 1 by decide), if_neg (show ¬ (0 : Int) = 2 by decide)]
    dsimp only
    rw [if_neg (by omega), if_neg (by omega)]
  · rfl
  · rfl
theorem itemsV_join (f : α → β) {c : Int} {l : List (VecD α)} (hc : c = 0 ∨ c = 1 ∨ c = 2) (h : ∀ v ∈ l, v.len ≠ 0 → v.cls = c) : itemsV f (joinS c l) = l.flatMap (itemsV f) := by
  have hcl := joinS_cls hc l
  rcases hc with rfl | rfl | rfl
  · rw [itemsV_c0 f hcl]
    show (l.flatMap (·.nums)).map _ = _
    rw [flatMap_map']
    apply flatMap_eq
    intro v hv
    by_cases e : v.len = 0
    · rw [itemsV_len0 f e, (len0 e).1]; rfl
    · rw [itemsV_c0 f (h v hv e)]
  · rw [itemsV_c1 f hcl]
    show (l.flatMap (·.chars)).map _ = _
    rw [flatMap_map']
    apply flatMap_eq
    intro v hv
    by_cases e : v.len = 0
    · rw [itemsV_len0 f e, (len0 e).2.1]; rfl
    · rw [itemsV_c1 f (h v hv e)]
  · rw [itemsV_c2 f hcl]
    show (l.flatMap (·.boxes)).map _ = _
    rw [flatMap_map']
    apply flatMap_eq
    intro v hv
    by_cases e : v.len = 0
    · rw [itemsV_len0 f e, (len0 e).2.2]; rfl
    · rw [itemsV_c2 f (h v hv e)]
theorem joinS_len (c : Int) (l : List (VecD α)) : (joinS c l).len ≤ (l.map VecD.len).sum := by
  unfold joinS
  split
  · have := fm_len (f := fun v : VecD α => v.chars) (fun v => by unfold VecD.len; omega) l
    simpa [VecD.len] using this
  · split
    · have := fm_len (f := fun v : VecD α => v.boxes) (fun v => by unfold VecD.len; omega) l
      simpa [VecD.len] using this
    · have := fm_len (f := fun v : VecD α => v.nums) (fun v => by unfold VecD.len; omega) l
      simpa [VecD.len] using this
theorem joinS_boxes {c : Int} {l : List (VecD α)} {b : α} (h : b ∈ (joinS c l).boxes) : ∃ v ∈ l, b ∈ v.boxes := by
  unfold joinS at h
  split at h
  · cases h
  · split at h
    · exact List.mem_flatMap.1 h
    · cases h
theorem joinS_kind (c : Int) (hc : c = 0 ∨ c = 1 ∨ c = 2) (l : List (VecD α)) : (joinS c l).kind ≠ 0 ∧ (joinS c l).kind = (joinS c l).least := by
  have hcl := joinS_cls hc l
  unfold VecD.least
  rw [hcl]
  rcases hc with rfl | rfl | rfl
  · have := leastN_bounds (l.flatMap (·.nums))
    have hk : (joinS 0 l).kind = leastN (l.flatMap (·.nums)) := rfl
    have hn : (joinS 0 l).nums = l.flatMap (·.nums) := rfl
    rw [hk, hn]
    exact ⟨by omega, by rw [if_pos ⟨rfl, by omega⟩]⟩
  · exact ⟨show (5 : Int) ≠ 0 by decide, rfl⟩
  · exact ⟨show (6 : Int) ≠ 0 by decide, rfl⟩
theorem noneV_facts (c : Int) (hc : c = 0 ∨ c = 1 ∨ c = 2) (f : α → β) : (noneV c : VecD α).cls = c ∧ (noneV c : VecD α).kind ≠ 0 ∧ (noneV c : VecD α).kind = (noneV c : VecD α).least ∧ (noneV c : VecD α).len = 0 ∧ (noneV c : VecD α).boxes = [] ∧ itemsV f (noneV c : VecD α) = [] := by
  rcases hc with rfl | rfl | rfl
  · have e : leastN [] = 1 := by have := leastN_bits []; simpa using this
    refine ⟨rfl, show (1 : Int) ≠ 0 by decide, ?_, rfl, rfl, rfl⟩
    show (1 : Int) = if (0 : Int) = 0 ∧ (1 : Int) ≠ 0 then leastN [] else 1
    rw [e]
    rfl
  · exact ⟨rfl, show (5 : Int) ≠ 0 by decide, rfl, rfl, rfl, rfl⟩
  · exact ⟨rfl, show (6 : Int) ≠ 0 by decide, rfl, rfl, rfl, rfl⟩
theorem joinC_some : ∀ (l : List (VecD α)) (c0 c : Int), joinC c0 l = some c → (0 ≤ c0 → c = c0) ∧ (c = c0 ∨ c = 0 ∨ c = 1 ∨ c = 2) ∧ ∀ v ∈ l, v.len ≠ 0 → v.cls = c
  | [], c0, c, h => by
    cases h
    exact ⟨fun _ => rfl, .inl rfl, fun v hv => by cases hv⟩
  | v :: l, c0, c, h => by
    by_cases h0 : v.len = 0
    · rw [joinC_skip h0] at h
      obtain ⟨h1, h2, h3⟩ := joinC_some l c0 c h
      refine ⟨h1, h2, fun u hu hn => ?_⟩
      rcases List.mem_cons.1 hu with rfl | hu
      · exact absurd h0 hn
      · exact h3 u hu hn
    · by_cases hb : 0 ≤ c0 ∧ c0 ≠ v.cls
      · rw [joinC, if_neg h0, if_pos hb] at h; cases h
      · rw [joinC, if_neg h0, if_neg hb] at h
        obtain ⟨h1, h2, h3⟩ := joinC_some l v.cls c h
        have hcl := cls_rng v
        have hcv := h1 (by omega)
        refine ⟨fun e => ?_, by omega, fun u hu hn => ?_⟩
        · rw [hcv]
          exact (Decidable.of_not_not (fun e2 => hb ⟨e, fun e3 => e2 e3.symm⟩))
        · rcases List.mem_cons.1 hu with rfl | hu
          · exact hcv.symm
          · exact h3 u hu hn
end
theorem shown_join {k : Nat} {vs : List (VecD (AD k))} {c : Int} (hJ : joinC (-1) vs = some c) (hA : ∀ v ∈ vs, Shown k v (itemsV (plain k) v) v.cls) (hm : (vs.map VecD.len).sum ≤ 1048576) : Shown k (if c < 0 then noneV (headC vs) else joinS c vs) (vs.flatMap (itemsV (plain k))) (if 0 ≤ c then c else headC vs) := by
  obtain ⟨_, hr, hall⟩ := joinC_some vs (-1) c hJ
  have htd : ∀ x ∈ vs.flatMap (itemsV (plain k)), tdyIt (tdy k) x := by
    intro x hx
    obtain ⟨v, hv, hx⟩ := List.mem_flatMap.1 hx
    exact (hA v hv).td x hx
  by_cases hc : c < 0
  · rw [if_pos hc, if_neg (by omega)]
    have hh : headC vs = 0 ∨ headC vs = 1 ∨ headC vs = 2 := by
      cases vs with
      | nil => exact .inl rfl
      | cons v l => exact cls_rng v
    have he : vs.flatMap (itemsV (plain k)) = [] := by
      rw [flatMap_eq (g := fun _ => [])]
      · simp
      · intro v hv
        apply itemsV_len0
        by_cases e : v.len = 0
        · exact e
        · have := hall v hv e; have := cls_rng v; omega
    obtain ⟨h1, h2, h3, h4, h5, h6⟩ := noneV_facts (headC vs) hh (plain k)
    exact ⟨h1, h2, h3, by omega, (by rw [h5]; intro b hb; cases hb), h6.trans he.symm, htd⟩
  · rw [if_neg hc, if_pos (by omega)]
    have hc3 : c = 0 ∨ c = 1 ∨ c = 2 := by omega
    obtain ⟨h1, h2⟩ := joinS_kind c hc3 vs
    refine ⟨joinS_cls hc3 vs, h1, h2, Nat.le_trans (joinS_len c vs) hm, ?_, itemsV_join _ hc3 hall, htd⟩
    intro b hb
    obtain ⟨v, hv, hb⟩ := joinS_boxes hb
    exact (hA v hv).sm b hb
end Go.Proofs.YtmojpbfkpggjhaaGreatDoor

/-
  Contracts of the law's own functions of layer 8: elements cut, repeated and turned. No statement is proved here.
-/
namespace Go.Proofs.YtmojpbfkpggjhaaGreatDoor
open Go Go.RowKit
set_option linter.unusedVariables false
set_option linter.unusedSimpArgs false
set_option maxHeartbeats 4000000
attribute [local irreducible] CW RW QW SW HW ConM retM heldQ calmQ elemP thenQ blockQ loopQ joinQ retQ Yields Con Sl zF magR unitF truncF fwF wholeF tidySpec elemQ rankF leastN tidyW
set_option maxHeartbeats 8000000

theorem AllN.drop {α : Type} {sz : Nat} {R : List Value → α → Prop} : ∀ (j : Nat) {xs : List Value} {l : List α}, AllN sz R xs l → AllN sz R (xs.drop (j * sz)) (l.drop j)
  | 0, xs, l, h => by simpa using h
  | j + 1, xs, [], h => by have : xs = [] := h; rw [this]; simp; rfl
  | j + 1, xs, a :: l, h => by
    have := AllN.drop j h.2.2
    rw [List.drop_drop] at this
    rw [List.drop_succ_cons, Nat.add_mul, Nat.one_mul, Nat.add_comm]
    exact this
theorem AllN.take {α : Type} {sz : Nat} {R : List Value → α → Prop} : ∀ (j : Nat) {xs : List Value} {l : List α}, AllN sz R xs l → AllN sz R (xs.take (j * sz)) (l.take j)
  | 0, xs, l, h => by simp; rfl
  | j + 1, xs, [], h => by have : xs = [] := h; rw [this]; simp; rfl
  | j + 1, xs, a :: l, h => by
    have h2 := AllN.take j h.2.2
    have h1 := h.1
    have e : (xs.take ((j + 1) * sz)).take sz = xs.take sz := by rw [List.take_take, Nat.add_mul, Nat.one_mul, Nat.min_eq_left (by omega)]
    refine ⟨by rw [e]; exact h1, by rw [e]; exact h.2.1, ?_⟩
    rw [List.drop_take, Nat.add_mul, Nat.one_mul, Nat.add_sub_cancel]
    exact h2
theorem RowsAt.sub {α : Type} {sz : Nat} {R : List Value → α → Prop} {h : GHeap} {ad : Option Addr} {n cp x y : Nat} {l : List α} (hl : RowsAt sz R h (.slice ad n cp) l) (hx : x ≤ y) (hy : y ≤ l.length) : RowsAt sz R h (.slice (subAd ad x cp sz) (y - x) (cp - x)) ((l.drop x).take (y - x)) := by
  obtain ⟨ad', cp', xs, e, hS, hA⟩ := hl
  cases e
  have h1 := (hS.from x (by omega)).take (y - x) (by omega)
  have hlen : ((l.drop x).take (y - x)).length = y - x := by simp; omega
  refine ⟨_, _, _, by rw [hlen], by rw [hlen]; exact h1, ?_⟩
  exact (hA.drop x).take (y - x)
end Go.Proofs.YtmojpbfkpggjhaaGreatDoor

/-
  Contract of the law's own function of layer 15: elements picked along an axis. No statement is proved here.
-/
namespace Go.Proofs.YtmojpbfkpggjhaaGreatDoor
open Go Go.RowKit
set_option linter.unusedVariables false
set_option linter.unusedSimpArgs false
set_option maxHeartbeats 4000000
attribute [local irreducible] CW RW QW SW HW ConM retM heldQ calmQ elemP thenQ blockQ loopQ joinQ retQ Yields Con Sl zF magR unitF truncF fwF wholeF tidySpec elemQ rankF leastN tidyW
set_option maxHeartbeats 4000000

section
variable {P : Program} {n : Nat} {L : Env} {w : World} {ty : TypeId} {x y : Operand} {t yt : TypeId}
end
end Go.Proofs.YtmojpbfkpggjhaaGreatDoor

/-
  Contracts of functions of package shape and of its reference, third part: places and indexes. No statement is proved here.
-/
namespace Go.Proofs.YtmojpbfkpggjhaaGreatDoor
open Go Go.RowKit
set_option linter.unusedVariables false
set_option linter.unusedSimpArgs false
set_option maxHeartbeats 4000000
attribute [local irreducible] CW RW QW SW HW ConM retM heldQ calmQ elemP thenQ blockQ loopQ joinQ retQ Yields Con Sl

end Go.Proofs.YtmojpbfkpggjhaaGreatDoor

/-
  Contracts of functions of package shape and of its reference, fourth part: new shapes. No statement is proved here.
-/
namespace Go.Proofs.YtmojpbfkpggjhaaGreatDoor
open Go Go.RowKit
set_option linter.unusedVariables false
set_option linter.unusedSimpArgs false
set_option maxHeartbeats 4000000
attribute [local irreducible] CW RW QW SW HW ConM retM heldQ calmQ elemP thenQ blockQ loopQ joinQ retQ Yields Con Sl

/-- a clone of a slice of int: the caller's own -/
theorem cloneInt_conM (ad : Option Addr) (cp : Nat) (l : List Int) (w0 w : World) (h0 h : GHeap) (O : List Row) (hS : Sl h 1 ad l.length cp (l.map (Value.int .i64))) (hm : l.length ≤ 17592186044416) :
    ConM Tryz.prog 68 [.slice ad l.length cp] w0 h0 h O w (fun h' O' v => h' = h ∧ ∃ ad' cp', v = .slice ad' l.length cp' ∧ O' = ⟨ad', l.length, cp', 3, 1, l.map (Value.int .i64)⟩ :: O) := by
  refine ConM.of_body Tryz.func68 rfl Tryz.ntmps68 rfl rfl ?_
  intro hs
  refine Zrun ?_
  refine RW.val (Y.sliceNil T rfl rfl rfl) rfl ?_
  refine Zrun ?_
  cases ad with
  | none =>
    have h4 : l = [] := List.eq_nil_of_length_eq_zero hS.nil0.1
    subst h4
    refine Zrun ?_
    exact retM_ret [_] h _ ⟨rfl, trivial⟩ (GLe.refl _) (hs.nilRow 3 1) ⟨rfl, none, 0, rfl, rfl⟩
  | some p =>
    refine Zrun ?_
    (refine RW.lit T hs (vs := []) rfl rfl rfl rfl (by simp [Value.cells]) rfl rfl rfl rfl rfl ?_; intro b1 w1 hs)
    refine Zrun ?_
    refine RW.append T hs 0 rfl rfl (m := l.length) (news := l.map (Value.int .i64)) rfl rfl rfl rfl rfl rfl (hS.src hs.agree (one_ints _ _)) (by simp) (by dsimp only; omega) (by omega) ?_
    intro ad' cp' w2 hs
    refine Zrun ?_
    exact retM_ret [_] h _ ⟨rfl, trivial⟩ (GLe.refl _) hs ⟨rfl, ad', cp', by rw [Nat.zero_add]; rfl, by simp⟩

end Go.Proofs.YtmojpbfkpggjhaaGreatDoor

/-
  Contracts of functions of package shape and of its reference, fifth part. No statement is proved here.
-/
namespace Go.Proofs.YtmojpbfkpggjhaaGreatDoor
open Go Go.RowKit
set_option linter.unusedVariables false
set_option linter.unusedSimpArgs false
set_option maxHeartbeats 4000000
attribute [local irreducible] CW RW QW SW HW ConM retM heldQ calmQ elemP thenQ blockQ loopQ joinQ retQ Yields Con Sl

theorem split_con (s : Value) (l : List Int) (axis : Int) (w : World) (h : GHeap) (hl : IntsAt h s l) (hm : l.length ≤ 9223372036854775807) : Con Tryz.prog 113 [s, .int .i64 axis] w h
    (fun _ v => v = .tuple #[.int .i64 (splitSpec l axis).1, .int .i64 (splitSpec l axis).2.1, .int .i64 (splitSpec l axis).2.2.1, .bool (splitSpec l axis).2.2.2]) := by
  have hl' := hl
  obtain ⟨ad, cp, rfl, hS⟩ := hl
  have bad : ¬ splitOk l axis → splitSpec l axis = (0, 0, 0, false) := fun hn => by unfold splitSpec; rw [if_neg hn]
  refine Con.of_body Tryz.func113 rfl Tryz.ntmps113 rfl rfl ?_
  intro hs
  refine Zrun ?_
  (refine RW.call T hs rfl rfl rfl (good_con _ l _ _ hl' hm) ?_; intro v h1 w1 hle1 hp1 hs)
  subst hp1
  have hS := hS.mono hle1
  refine Zrun ?_
  refine RW.gd rfl rfl (fun hg => ?_) (fun hg => ?_)
  · have hb := bad (fun e => hg ((goodS_iff l).1 e.1))
    refine Zrun ?_
    exact retQ_ret [_, _, _, _] h1 ⟨rfl, rfl, rfl, rfl, trivial⟩ hs (by rw [hb]; rfl)
  have hg := Decidable.of_not_not hg
  refine Zrun ?_
  refine RW.gd rfl rfl (fun h2 => ?_) (fun h2 => ?_)
  · have hb := bad (fun e => by have := e.2.1; omega)
    refine Zrun ?_
    exact retQ_ret [_, _, _, _] h1 ⟨rfl, rfl, rfl, rfl, trivial⟩ hs (by rw [hb]; rfl)
  refine Zrun ?_
  refine CW.condD rfl (fun h3 => ?_) (fun h3 => ?_)
  · have hb := bad (fun e => by have := e.2.2.1; omega)
    refine Zrun ?_
    exact retQ_ret [_, _, _, _] h1 ⟨rfl, rfl, rfl, rfl, trivial⟩ hs (by rw [hb]; rfl)
  obtain ⟨q, rfl⟩ := Int.eq_ofNat_of_zero_le (show 0 ≤ axis by omega)
  have hq : q < l.length := by omega
  have hcaps := hS.caps
  refine Zrun ?_
  refine RW.val (Y.sliceHi T rfl rfl rfl rfl ?_) rfl ?_
  · omega
  have hlt : (l.take q).length = q := by simp; omega
  have hT1 : IntsAt h1 (.slice ad q cp) (l.take q) := by
    have := hS.take q (by omega)
    rw [Nat.mul_one, ← List.map_take] at this
    exact IntsAt.of_sl this
  (refine RW.call T hs rfl rfl rfl (product_con _ (l.take q) 1048576 _ _ hT1 (by omega)) ?_; intro v h2 w2 hle2 hp2 hs)
  subst hp2
  have hS := hS.mono hle2
  refine Zrun ?_
  refine RW.val (Y.sliceLo T rfl rfl rfl rfl ?_ ?_) rfl ?_
  · omega
  · omega
  have hT2 : IntsAt h2 (.slice (subAd ad (q + 1) cp 1) (l.length - (q + 1)) (cp - (q + 1))) (l.drop (q + 1)) := by
    have := hS.from (q + 1) (by omega)
    rw [Nat.mul_one, ← List.map_drop] at this
    exact IntsAt.of_sl this
  (refine RW.call T hs rfl rfl rfl (product_con _ (l.drop (q + 1)) 1048576 _ _ hT2 (by simp; omega)) ?_; intro v h4 w4 hle4 hp4 hs)
  subst hp4
  have hS := hS.mono hle4
  refine Zrun ?_
  have hsp : splitSpec l (q : Int) = if (product (l.take q) 1048576).2 = 0 ∧ (product (l.drop (q + 1)) 1048576).2 = 0 then ((product (l.take q) 1048576).1, l.getD q 0, (product (l.drop (q + 1)) 1048576).1, true) else (0, 0, 0, false) := by
    unfold splitSpec splitOk
    simp only [Int.toNat_natCast]
    have e1 : goodS l = true := (goodS_iff l).2 hg
    have e2 : (0 : Int) ≤ (q : Int) := by omega
    have e3 : (q : Int) < (l.length : Int) := by omega
    simp only [e1, e2, e3, true_and]
  refine RW.gd rfl rfl (fun h5 => ?_) (fun h5 => ?_)
  · refine Zrun ?_
    exact retQ_ret [_, _, _, _] h4 ⟨rfl, rfl, rfl, rfl, trivial⟩ hs (by rw [hsp, if_neg (fun e => h5 e.1)]; rfl)
  have h5 := Decidable.of_not_not h5
  refine Zrun ?_
  refine CW.condD rfl (fun h6 => ?_) (fun h6 => ?_)
  · refine Zrun ?_
    exact retQ_ret [_, _, _, _] h4 ⟨rfl, rfl, rfl, rfl, trivial⟩ hs (by rw [hsp, if_neg (fun e => h6 e.2)]; rfl)
  have h6 := Decidable.of_not_not h6
  refine Zrun ?_
  refine CW.regionQ T hs (Zqrun ?_) (by kernel_rfl)
  intro w hs
  refine Zrun ?_
  exact retQ_ret [_, _, _, _] h4 ⟨rfl, rfl, rfl, rfl, trivial⟩ hs (by rw [hsp, if_pos ⟨h5, h6⟩]; rfl)

theorem with_con (s : Value) (l : List Int) (axis n : Int) (w : World) (h : GHeap) (hl : IntsAt h s l) (hm : l.length ≤ 17592186044416) : Con Tryz.prog 112 [s, .int .i64 axis, .int .i64 n] w h
    (fun h' v => ∃ u, v = .tuple #[u, .bool (withSpec l axis n).2] ∧ IntsAt h' u (withSpec l axis n).1) := by
  have hl' := hl
  obtain ⟨ad, cp, rfl, hS⟩ := hl
  have bad : ¬ (0 ≤ axis ∧ axis < l.length ∧ goodS (l.set axis.toNat n) = true) → withSpec l axis n = ([], false) := fun hn => by unfold withSpec; rw [if_neg hn]
  refine Con.of_body Tryz.func112 rfl Tryz.ntmps112 rfl rfl ?_
  intro hs
  refine Zrun ?_
  refine RW.gd rfl rfl (fun h2 => ?_) (fun h2 => ?_)
  · have hb := bad (fun e => by have := e.1; omega)
    refine Zrun ?_
    exact retQ_ret [_, _] h ⟨rfl, rfl, trivial⟩ hs (by rw [hb]; exact ⟨_, rfl, IntsAt.nil _⟩)
  refine Zrun ?_
  refine CW.condD rfl (fun h3 => ?_) (fun h3 => ?_)
  · have hb := bad (fun e => by have := e.2.1; omega)
    refine Zrun ?_
    exact retQ_ret [_, _] h ⟨rfl, rfl, trivial⟩ hs (by rw [hb]; exact ⟨_, rfl, IntsAt.nil _⟩)
  obtain ⟨q, rfl⟩ := Int.eq_ofNat_of_zero_le (show 0 ≤ axis by omega)
  have hq : q < l.length := by omega
  refine Zrun ?_
  (refine RW.callM T hs rfl rfl rfl (cloneInt_conM ad cp l _ _ _ _ _ hS hm) ?_; intro v h1 O1 w1 hle1 hp1 hs)
  obtain ⟨rfl, ad', cp', rfl, rfl⟩ := hp1
  refine Zrun ?_
  refine RW.val (Y.idxRN T hs 0 rfl rfl rfl rfl rfl rfl ?_) rfl ?_
  · omega
  refine RW.st1 T hs 0 rfl rfl rfl rfl rfl rfl rfl (by omega) ?_
  intro w2 hs
  obtain ⟨h3, hle3, hs, hS3⟩ := hs.freeze
  simp only [map_set_int] at hS3
  have hI3 : IntsAt h3 (.slice ad' l.length cp') (l.set q n) := IntsAt.of_sl hS3
  refine Zrun ?_
  (refine RW.call T hs rfl rfl rfl (good_con _ _ _ _ hI3 (by simp; omega)) ?_; intro v h4 w4 hle4 hp4 hs)
  subst hp4
  refine Zrun ?_
  refine CW.condD rfl (fun h5 => ?_) (fun h5 => ?_)
  · have hb := bad (fun e => h5 ((goodS_iff _).1 e.2.2))
    refine Zrun ?_
    exact retQ_ret [_, _] h4 ⟨rfl, rfl, trivial⟩ hs (by rw [hb]; exact ⟨_, rfl, IntsAt.nil _⟩)
  · have h5 := Decidable.of_not_not h5
    refine Zrun ?_
    refine retQ_ret [_, _] h4 ⟨rfl, rfl, trivial⟩ hs ?_
    have hw : withSpec l (q : Int) n = (l.set q n, true) := by
      unfold withSpec
      rw [if_pos ⟨by omega, by omega, (goodS_iff _).2 h5⟩]
      simp
    rw [hw]
    exact ⟨_, rfl, hI3.mono hle4⟩
end Go.Proofs.YtmojpbfkpggjhaaGreatDoor

/-
  Contracts of package base: an axis for all, parts picked along it, parts so often as counts say. No statement is proved here.
-/
namespace Go.Proofs.YtmojpbfkpggjhaaGreatDoor
open Go Go.RowKit
set_option linter.unusedVariables false
set_option linter.unusedSimpArgs false
set_option maxHeartbeats 4000000
attribute [local irreducible] CW RW QW SW HW ConM retM heldQ calmQ elemP thenQ blockQ loopQ joinQ retQ Yields Con Sl zF magR unitF truncF fwF wholeF tidySpec elemQ rankF leastN tidyW
set_option maxHeartbeats 4000000

theorem sq_cls' {α : Type} {v : VecD α} (h : v.cls ≠ 0) : v.sq = v := by
  unfold VecD.sq
  rw [if_neg (fun e => h e.1)]
theorem pick_sq' {α : Type} (v : VecD α) (at_ : List Int) (nb : α) : (v.pick at_ nb).sq = v.pick at_ nb := by
  have hb := leastN_bounds (at_.map v.num)
  unfold VecD.pick
  split
  · exact sq_cls' (show (1 : Int) ≠ 0 by decide)
  · split
    · exact sq_cls' (show (2 : Int) ≠ 0 by decide)
    · exact sq_nums _ _ (by omega) (by omega)
def axS (s : List Int) : List Int := if s = [] then [1] else s
def axN (s : List Int) (first : Bool) : Nat := if first = true then 0 else (axS s).length - 1
theorem baseAlong_con (k : Nat) (cs : List Value) (a : ArrD (AD k)) (first : Bool) (w : World) (h : GHeap) (ha : ArrAt (k + 1) h cs a) : Con Tryz.prog 44 [.agg cs.toArray, .bool first] w h (fun h' u => ∃ s' vc, u = .tuple #[.agg (s' :: vc).toArray, .int .i64 (axN a.shape first : Nat)] ∧ IntsAt h' s' (axS a.shape) ∧ VecAt (ArrAt k) h' vc a.vec) := by
  obtain ⟨_, vc, rfl, ⟨ad, cp, rfl, hS⟩, hv⟩ := ha
  have hv' := hv
  have hcap := hS.caps
  obtain ⟨wv, nv, sm, il, fl, ch, bx, ⟨rfl, hoc⟩, -⟩ := hv
  refine Con.of_body Tryz.func44 rfl Tryz.ntmps44 rfl rfl ?_
  intro hs
  refine Zrun ?_
  (refine RW.boxN hs rfl rfl ?_; intro b1 w1 hs)
  refine Zrun ?_
  (refine RW.allocN T hs rfl rfl rfl rfl ?_; intro b2 w2 hs)
  refine Zerun ?_
  refine CW.meet (fun u : (Option Addr × Nat) × GHeap => [(1, .bool first), (2, .pointer (some ⟨b1, 0, none⟩)), (4, .pointer (some ⟨b2, 0, none⟩))]) (fun u w' => GLe h u.2 ∧ Sl u.2 1 u.1.1 (axS a.shape).length u.1.2 ((axS a.shape).map (Value.int .i64)) ∧ Sees w h u.2 [⟨some ⟨b2, 0, none⟩, 1, 1, 40, 9, .slice none 0 0 :: vecCells 0 (.slice none 0 0) 0 (.slice none 0 0) (.slice none 0 0) (.slice none 0 0) (.slice none 0 0) (.slice none 0 0)⟩, ⟨some ⟨b1, 0, none⟩, 1, 1, 40, 9, .slice u.1.1 (axS a.shape).length u.1.2 :: vecCells a.vec.kind wv nv sm il fl ch bx⟩] w') ?_ ?_
  · by_cases e : a.shape = []
    · have hx : axS a.shape = [1] := by unfold axS; rw [if_pos e]
      have hl0 : a.shape.length = 0 := by rw [e]; rfl
      rw [hx, hl0]
      refine Zerun ?_
      (refine RW.lit T hs (vs := [.int .i64 1]) (cs := [.int .i64 1]) rfl rfl rfl rfl (by simp [Value.cells]) rfl rfl rfl rfl rfl ?_; intro b3 w3 hs)
      obtain ⟨h3, hle3, hs, hS3⟩ := hs.freeze
      refine Zerun ?_
      refine RW.val (Y.build T rfl rfl rfl rfl rfl rfl rfl) rfl ?_
      (refine RW.storeAll T hs 1 rfl rfl rfl rfl rfl rfl (by show (true && (vecCells a.vec.kind wv nv sm il fl ch bx).all Value.oneCell') = true; rw [hoc]; rfl) rfl ?_; intro w4 hs)
      refine Zerun ?_
      exact joinQ_meet ((some ⟨b3, 0, none⟩, 1), h3) ⟨rfl, rfl, rfl, trivial⟩ ⟨hle3, hS3, hs⟩
    · have hx : axS a.shape = a.shape := by unfold axS; rw [if_neg e]
      have hl0 : (a.shape.length : Int) ≠ 0 := by
        intro h0
        exact e (List.eq_nil_of_length_eq_zero (by omega))
      rw [hx]
      refine Zerun ?_
      exact joinQ_meet ((ad, cp), h) ⟨rfl, rfl, rfl, trivial⟩ ⟨GLe.refl _, hS, hs⟩
  rintro ⟨⟨ad5, cp5⟩, h5⟩ w5 ⟨g5, hS5, hs⟩
  dsimp only at g5 hS5 hs ⊢
  have hpos : 1 ≤ (axS a.shape).length := by
    unfold axS
    by_cases e : a.shape = []
    · rw [if_pos e]; decide
    · rw [if_neg e]; exact List.length_pos_iff.2 e
  have hcap5 := hS5.caps
  cases first with
  | true =>
    refine Zerun ?_
    (refine RW.storeAll T hs 0 rfl rfl rfl rfl rfl rfl (by show (true && (vecCells a.vec.kind wv nv sm il fl ch bx).all Value.oneCell') = true; rw [hoc]; rfl) rfl ?_; intro w6 hs)
    refine Zerun ?_
    refine retQ_ret [_, _] h5 ⟨resN T hs 0 rfl rfl rfl rfl rfl rfl, rfl, trivial⟩ hs.dropAll ⟨_, _, ?_, ⟨ad5, cp5, rfl, hS5⟩, hv'.mono (ArrAt.mono k) g5⟩
    unfold axN
    rw [if_pos rfl]
    rfl
  | false =>
    refine Zerun ?_
    refine CW.regionR T 1 1 hs rfl rfl ?_
    intro w7 hs
    refine HW.takeR (fuel := 6) 0 rfl (fun _ _ ka kb _ hs hka hkb => Y.loadRowN T hs kb hkb rfl rfl rfl rfl rfl rfl) ⟨_, _, 1, 1, hs, rfl, rfl⟩ rfl (by kernel_rfl) (by kernel_rfl) (by kernel_rfl) ?_
    refine HW.takeR (fuel := 5) 1 rfl (fun _ _ ka kb _ hs hka hkb => Y.fieldAddr T rfl rfl rfl rfl rfl) ⟨_, _, 1, 1, hs, rfl, rfl⟩ rfl (by kernel_rfl) (by kernel_rfl) (by kernel_rfl) ?_
    refine HW.takeR (fuel := 4) 2 rfl (fun _ _ ka kb _ hs hka hkb => Y.loadRow1 T hs kb hkb rfl rfl rfl rfl) ⟨_, _, 1, 1, hs, rfl, rfl⟩ rfl (by kernel_rfl) (by kernel_rfl) (by kernel_rfl) ?_
    refine HW.takeR (fuel := 3) 3 rfl (fun _ _ ka kb _ hs hka hkb => Y.len T rfl rfl) ⟨_, _, 1, 1, hs, rfl, rfl⟩ rfl (by kernel_rfl) (by kernel_rfl) (by kernel_rfl) ?_
    refine HW.takeR (fuel := 2) 4 rfl (fun _ _ ka kb _ hs hka hkb => Y.sub rfl rfl ⟨by omega, by omega⟩) ⟨_, _, 1, 1, hs, rfl, rfl⟩ rfl (by kernel_rfl) (by kernel_rfl) (by kernel_rfl) ?_
    refine HW.one (fuel := 1) 5 rfl (by kernel_rfl) ?_
    (refine RW.storeAll T hs 0 rfl rfl rfl rfl rfl rfl (by show (true && (vecCells a.vec.kind wv nv sm il fl ch bx).all Value.oneCell') = true; rw [hoc]; rfl) rfl ?_; intro w8 hs)
    refine RW.nil ?_
    refine heldQ_normal ⟨_, _, 1, 1, hs, rfl, rfl⟩ ?_
    refine HW.takeR (fuel := 0) 6 rfl (fun _ _ ka kb _ hs hka hkb => Y.assign rfl) ⟨_, _, 1, 1, hs, rfl, rfl⟩ rfl (by kernel_rfl) (by kernel_rfl) (by kernel_rfl) ?_
    refine HW.done (by kernel_rfl) ?_
    refine calmQ_normal ?_
    refine Zerun ?_
    refine retQ_ret [_, _] h5 ⟨resN T hs 0 rfl rfl rfl rfl rfl rfl, seti (by unfold axN; rw [if_neg (by decide)]; omega), trivial⟩ hs.dropAll ⟨_, _, rfl, ⟨ad5, cp5, rfl, hS5⟩, hv'.mono (ArrAt.mono k) g5⟩
theorem basePicked_con (k : Nat) (cs : List Value) (a : ArrD (AD (k + 1))) (v1 : Value) (K outer n inner : Nat) (at_ s' : List Int) (most : Int) (w : World) (h : GHeap) (ha : ArrAt (k + 2) h cs a) (hat : IntsAt h v1 at_) (hsl : a.shape.length ≤ 8) (hw : withSpec a.shape K at_.length = (s', true)) (hp : (product s' most).2 = 0) (hs' : splitSpec a.shape K = ((outer : Int), (n : Int), (inner : Int), true)) (hal : at_.length ≤ 1048576) (hou : outer ≤ 1048576) (hm : outer * (at_.length * inner) ≤ 1048576) (hB : outer * n * inner ≤ 1099511627776) (hBn : outer * n ≤ 1099511627776) (hvm : a.vec.len ≤ 1048576) (hk0 : a.vec.kind ≠ 0) (hne : newE s' (a.vec.pick (alongL outer n inner at_) (blankA k)) = 0) :
    Con Tryz.prog 46 [.agg cs.toArray, .int .i64 (K : Int), v1, .int .i64 most] w h (fun h' u => ∃ cs', u = .tuple #[.agg cs'.toArray, .int .i64 0] ∧ ArrAt (k + 2) h' cs' (⟨s', a.vec.pick (alongL outer n inner at_) (blankA k)⟩ : ArrD (AD (k + 1)))) := by
  have hat' := hat
  obtain ⟨_, vc, rfl, ⟨ad, cp, rfl, hS⟩, hv⟩ := ha
  obtain ⟨ad1, cp1, rfl, hS1⟩ := hat
  have hv' := hv
  have hI : ∀ h', GLe h h' → IntsAt h' (.slice ad a.shape.length cp) a.shape := fun h' hl => ⟨ad, cp, rfl, hS.mono hl⟩
  obtain ⟨wv, nv, sm, il, fl, ch, bx, ⟨rfl, hoc⟩, -⟩ := hv
  have hsz : s'.length ≤ 8 := by
    unfold withSpec at hw
    split at hw
    · injection hw with e1 e2
      rw [← e1, List.length_set]; exact hsl
    · injection hw with e1 e2; cases e2
  refine Con.of_body Tryz.func46 rfl Tryz.ntmps46 rfl rfl ?_
  intro hs
  refine Zrun ?_
  (refine RW.boxN hs rfl rfl ?_; intro b1 w1 hs)
  refine Zrun ?_
  (refine RW.allocN T hs rfl rfl rfl rfl ?_; intro b2 w2 hs)
  refine Zerun ?_
  (refine RW.call T hs rfl rfl rfl (with_con _ a.shape K at_.length _ _ (hI _ (GLe.refl _)) (by omega)) ?_; intro v h3 w3 hle3 hp3 hs)
  obtain ⟨u3, rfl, hI3⟩ := hp3
  rw [hw] at hI3 ⊢
  have hI3' := hI3
  obtain ⟨ad3, cp3, rfl, _⟩ := hI3
  refine Zerun ?_
  (refine RW.call T hs rfl rfl rfl (product_con _ s' most _ _ hI3' (by omega)) ?_; intro v h4 w4 hle4 hp4 hs)
  rw [hp] at hp4
  subst hp4
  have hI3' := hI3'.mono hle4
  have g4 := hle3.trans hle4
  refine Zerun ?_
  (refine RW.call T hs rfl rfl rfl (split_con _ a.shape K _ _ (hI _ g4) (by omega)) ?_; intro v h5 w5 hle5 hp5 hs)
  rw [hs'] at hp5
  subst hp5
  have hI3' := hI3'.mono hle5
  have g5 := g4.trans hle5
  refine Zerun ?_
  (refine RW.call T hs rfl rfl rfl (pickAlong_con (ArrAt.mono (k + 1)) (ArrAt.one (k + 1)) (ArrAt.siz (k + 1)) (blankA k) (fun w h => flatBlank_con (ArrAt.mono k) (ArrAt.one k) w h) _ a.vec _ outer n inner at_ _ _ (hv'.mono (ArrAt.mono (k + 1)) g5) (hat'.mono g5) hal hou hm hB hBn hvm hk0) ?_; intro v h6 w6 hle6 hp6 hs)
  obtain ⟨cs6, rfl, hv6⟩ := hp6
  have hI3' := hI3'.mono hle6
  refine Zerun ?_
  (refine RW.call T hs rfl rfl rfl (valueNew_con (ArrAt.mono (k + 1)) _ s' _ _ _ _ hI3' hv6) ?_; intro v h7 w7 hle7 hp7 hs)
  rw [hne, pick_sq'] at hp7
  obtain ⟨cs7, rfl, _, hone7, hgo7, _⟩ := hp7
  have hA7 := hgo7 rfl
  have hA7' : ArrAt (k + 2) h7 cs7 (⟨s', a.vec.pick (alongL outer n inner at_) (blankA k)⟩ : ArrD (AD (k + 1))) := hA7
  obtain ⟨_, vc7, rfl, ⟨ad7, cp7, rfl, _⟩, hv7⟩ := hA7
  obtain ⟨wv7, nv7, sm7, il7, fl7, ch7, bx7, ⟨rfl, hoc7⟩, -⟩ := hv7
  refine Zerun ?_
  (refine RW.storeAll T hs 0 rfl rfl rfl rfl rfl rfl (by show (Value.oneCell' (.slice ad7 s'.length cp7) && (vecCells _ wv7 nv7 sm7 il7 fl7 ch7 bx7).all Value.oneCell') = true; rw [hoc7]; rfl) rfl ?_; intro w8 hs)
  refine Zerun ?_
  exact retQ_ret [_, _] h7 ⟨resN T hs 0 rfl rfl rfl rfl rfl rfl, rfl, trivial⟩ hs.dropAll ⟨_, rfl, hA7'⟩
theorem baseCopy_con (k : Nat) (cc cs : List Value) (c a : ArrD (AD (k + 1))) (first : Bool) (ks : List Int) (outer n inner : Nat) (at_ s' : List Int) (most : Int) (w : World) (h : GHeap) (hT : TzTab h) (hc : ArrAt (k + 2) h cc c) (ha : ArrAt (k + 2) h cs a) (hcs : c.shape.length ≤ 1) (hck : c.vec.kind = 1 ∨ c.vec.kind = 2 ∨ c.vec.kind = 3) (hks : ks = c.vec.nums.map (fun x => (wholeF x).1)) (hkb : ∀ x ∈ ks, -9007199254740992 ≤ x ∧ x ≤ 9007199254740992) (hcm : c.vec.len ≤ 1048576) (hmost : 0 ≤ most ∧ most ≤ 1048576)
    (hsl : a.shape.length ≤ 8) (hn : (axS a.shape).getD (axN a.shape first) 0 = (n : Int)) (hn1 : n ≠ 1) (hn2 : n ≤ 1048576) (hat : copiesRes ks n most = (at_, 0)) (hw : withSpec (axS a.shape) (axN a.shape first : Nat) at_.length = (s', true)) (hp : (product s' most).2 = 0) (hs' : splitSpec (axS a.shape) (axN a.shape first : Nat) = ((outer : Int), (n : Int), (inner : Int), true)) (hal : at_.length ≤ 1048576) (hou : outer ≤ 1048576) (hm : outer * (at_.length * inner) ≤ 1048576) (hB : outer * n * inner ≤ 1099511627776) (hBn : outer * n ≤ 1099511627776) (hvm : a.vec.len ≤ 1048576) (hk0 : a.vec.kind ≠ 0) (hne : newE s' (a.vec.pick (alongL outer n inner at_) (blankA k)) = 0) :
    Con Tryz.prog 10 [.agg cc.toArray, .agg cs.toArray, .bool first, .int .i64 most] w h (fun h' u => ∃ cs', u = .tuple #[.agg cs'.toArray, .int .i64 0] ∧ ArrAt (k + 2) h' cs' (⟨s', a.vec.pick (alongL outer n inner at_) (blankA k)⟩ : ArrD (AD (k + 1)))) := by
  have ha' := ha
  have hc' := hc
  obtain ⟨_, vca, rfl, ⟨ada, cpa, rfl, hSa⟩, hva⟩ := ha
  obtain ⟨_, vcc, rfl, ⟨adc, cpc, rfl, hSc⟩, hvc⟩ := hc
  have hvc' := hvc
  obtain ⟨wa, na, sa, ia, fa, ga, xa, ⟨rfl, hoa⟩, -⟩ := hva
  obtain ⟨wc, nc, sc, ic, fc, gc, xc, ⟨rfl, hoc⟩, -⟩ := hvc
  have hKlt : axN a.shape first < (axS a.shape).length := by
    have hpos : 1 ≤ (axS a.shape).length := by
      unfold axS
      by_cases e : a.shape = []
      · rw [if_pos e]; decide
      · rw [if_neg e]; exact List.length_pos_iff.2 e
    unfold axN
    split <;> omega
  have hsx : (axS a.shape).length ≤ 8 := by
    unfold axS
    split
    · decide
    · exact hsl
  refine Con.of_body Tryz.func10 rfl Tryz.ntmps10 rfl rfl ?_
  intro hs
  refine Zrun ?_
  (refine RW.boxN hs rfl rfl ?_; intro b1 w1 hs)
  refine Zrun ?_
  (refine RW.boxN hs rfl rfl ?_; intro b2 w2 hs)
  refine Zrun ?_
  (refine RW.allocN T hs rfl rfl rfl rfl ?_; intro b3 w3 hs)
  refine Zerun ?_
  (refine RW.call T hs rfl rfl rfl (valueRank_con (R := ArrAt (k + 1)) _ c _ _ hc') ?_; intro v h4 w4 hle4 hp4 hs)
  subst hp4
  have ha' := ArrAt.mono (k + 2) _ _ _ _ hle4 ha'
  have hvc' := hvc'.mono (ArrAt.mono (k + 1)) hle4
  have hT := hT.mono hle4
  refine Zerun ?_
  (refine RW.call T hs rfl rfl rfl (baseAlong_con (k + 1) _ a first _ _ ha') ?_; intro v h5 w5 hle5 hp5 hs)
  obtain ⟨s5, vc5, rfl, hI5, hv5⟩ := hp5
  have hI5' := hI5
  have hv5' := hv5
  obtain ⟨ad5, cp5, rfl, hS5⟩ := hI5
  obtain ⟨wv, nv, sm, il, fl, ch, bx, ⟨rfl, ho5⟩, -⟩ := hv5
  have hvc' := hvc'.mono (ArrAt.mono (k + 1)) hle5
  have hT := hT.mono hle5
  have hgn := map_get (Value.int .i64) (axS a.shape) (axN a.shape first) 0 hKlt
  refine Zerun ?_
  (refine RW.storeAll T hs 1 rfl rfl rfl rfl rfl rfl (by show (Value.oneCell' (.slice ad5 (axS a.shape).length cp5) && (vecCells _ wv nv sm il fl ch bx).all Value.oneCell') = true; rw [ho5]; rfl) rfl ?_; intro w6 hs)
  refine Zerun ?_
  rw [hn]
  have hn1' : (n : Int) ≠ 1 := by omega
  refine Zerun ?_
  (refine RW.call T hs rfl rfl rfl (pickCopies_con (ArrAt.mono (k + 1)) _ c.vec n most ks _ _ hT hvc' hcm hck hks hkb hn2 hmost) ?_; intro v h7 w7 hle7 hp7 hs)
  rw [hat] at hp7
  obtain ⟨s7, rfl, hI7⟩ := hp7
  have hI7' := hI7
  obtain ⟨ad7, cp7, rfl, _⟩ := hI7
  have hS7 := hS5.mono hle7
  refine Zerun ?_
  rw [hn]
  refine Zerun ?_
  have hA7 : ArrAt (k + 2) h7 (.slice ad5 (axS a.shape).length cp5 :: vecCells a.vec.kind wv nv sm il fl ch bx) (⟨axS a.shape, a.vec⟩ : ArrD (AD (k + 1))) := ⟨_, _, rfl, ⟨ad5, cp5, rfl, hS7⟩, hv5'.mono (ArrAt.mono (k + 1)) hle7⟩
  (refine RW.call T hs rfl rfl rfl (basePicked_con k _ (⟨axS a.shape, a.vec⟩ : ArrD (AD (k + 1))) _ (axN a.shape first) outer n inner at_ s' most _ _ hA7 hI7' hsx hw hp hs' hal hou hm hB hBn hvm hk0 hne) ?_; intro v h8 w8 hle8 hp8 hs)
  obtain ⟨cs8, rfl, hA8⟩ := hp8
  have hA8' := hA8
  obtain ⟨_, vc8, rfl, ⟨ad8, cp8, rfl, _⟩, hv8⟩ := hA8
  obtain ⟨wv8, nv8, sm8, il8, fl8, ch8, bx8, ⟨rfl, hoc8⟩, -⟩ := hv8
  refine Zerun ?_
  (refine RW.storeAll T hs 0 rfl rfl rfl rfl rfl rfl (by show (Value.oneCell' (.slice ad8 s'.length cp8) && (vecCells _ wv8 nv8 sm8 il8 fl8 ch8 bx8).all Value.oneCell') = true; rw [hoc8]; rfl) rfl ?_; intro w9 hs)
  refine Zerun ?_
  exact retQ_ret [_, _] h8 ⟨resN T hs 0 rfl rfl rfl rfl rfl rfl, rfl, trivial⟩ hs.dropAll ⟨_, rfl, hA8'⟩
end Go.Proofs.YtmojpbfkpggjhaaGreatDoor
