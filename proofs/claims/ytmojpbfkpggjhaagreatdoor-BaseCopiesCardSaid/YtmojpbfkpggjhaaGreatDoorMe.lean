/-
  Own texts of the claim, merged: Cg, Ch. Lemmas of the proof; no statement is proved here.
-/
import Derived.Test.YtmojpbfkpggjhaaGreatDoorMd
/-
  Contracts of the document's Copy and Expand of layer 27. No statement is proved here.
-/
namespace Go.Proofs.YtmojpbfkpggjhaaGreatDoor
open Go Go.RowKit
set_option linter.unusedVariables false
set_option linter.unusedSimpArgs false
set_option maxHeartbeats 4000000
attribute [local irreducible] CW RW QW SW HW ConM retM heldQ calmQ elemP thenQ blockQ loopQ joinQ retQ Yields Con Sl zF magR unitF truncF fwF wholeF tidySpec elemQ rankF leastN tidyW
set_option maxHeartbeats 4000000

theorem set_self_getD {l : List Int} {i : Nat} (h : i < l.length) : l.set i (l.getD i 0) = l := by
  rw [List.getD_eq_getElem?_getD, List.getElem?_eq_getElem h]
  exact List.set_getElem_self h
noncomputable def copyR {k : Nat} (c p : PlainD (PD (k + 1))) (first : Bool) (N0 most : Nat) : Int × PlainD (PD (k + 1)) :=
  if (copyE c.shape.length c.fill (numsOf c) c.items.length N0 most).2 ≠ 0 then ((copyE c.shape.length c.fill (numsOf c) c.items.length N0 most).2, zeroQ) else pickedR (β := PD k) (⟨axS p.shape, p.items, p.fill⟩ : PlainD (PD (k + 1))) (axN p.shape first) (copyE c.shape.length c.fill (numsOf c) c.items.length N0 most).1 most
noncomputable def expandP {k : Nat} (c p : PlainD (PD (k + 1))) (first : Bool) (N0 most : Nat) : Int × PlainD (PD (k + 1)) :=
  if (expandE c.shape.length c.fill (numsOf c) N0).2 ≠ 0 then ((expandE c.shape.length c.fill (numsOf c) N0).2, zeroQ) else pickedR (β := PD k) (⟨axS p.shape, p.items, p.fill⟩ : PlainD (PD (k + 1))) (axN p.shape first) (expandE c.shape.length c.fill (numsOf c) N0).1 most
theorem ref27Copy_con (k : Nat) (cc0 cp0 : List Value) (c p : PlainD (PD (k + 1))) (first : Bool) (N0 most : Nat) (w : World) (h : GHeap) (hp : PlainAt (k + 2) h cp0 p) (hc : PlainAt (k + 2) h cc0 c) (htd : ∀ u ∈ numsOf c, tidyF u) (hcm : c.items.length ≤ 1048576) (hmost : most ≤ 1048576) (hpr : product p.shape 1048576 = ((p.items.length : Int), 0)) (hN0 : (axS p.shape).getD (axN p.shape first) 0 = (N0 : Int)) (hvm : p.items.length ≤ 1048576) :
    Con Tryz.prog 12 [.agg cc0.toArray, .agg cp0.toArray, .bool first, .int .i64 (most : Int)] w h (fun h' u => ∃ cs', u = .tuple #[.agg cs'.toArray, .int .i64 (copyR c p first N0 most).1] ∧ PlainAt (k + 2) h' cs' (copyR c p first N0 most).2) := by
  have hp' := hp
  have hc' := hc
  obtain ⟨_, _, rfl, ⟨adp, cpp, rfl, hSp⟩, hIp⟩ := hp
  obtain ⟨adpi, cppi, xspi, rfl, _, _⟩ := id hIp
  obtain ⟨_, _, rfl, ⟨adc, cpc, rfl, hSc⟩, hIc⟩ := hc
  obtain ⟨adi, cpi, xsi, rfl, hSi, _⟩ := id hIc
  have hpx := axS_prod hpr
  have hgx : goodS (axS p.shape) = true := (goodS_iff _).2 (by rw [hpx])
  have hsx := ((goodS_spec _).1 hgx).1
  obtain ⟨X, hX⟩ : ∃ X, axS p.shape = X := ⟨_, rfl⟩
  obtain ⟨K, hK⟩ : ∃ K, axN p.shape first = K := ⟨_, rfl⟩
  have hKlt := axN_lt p.shape first
  have hcS : copyR c p first N0 most = if (copyE c.shape.length c.fill (numsOf c) c.items.length N0 most).2 ≠ 0 then ((copyE c.shape.length c.fill (numsOf c) c.items.length N0 most).2, zeroQ) else pickedR (β := PD k) (⟨X, p.items, p.fill⟩ : PlainD (PD (k + 1))) K (copyE c.shape.length c.fill (numsOf c) c.items.length N0 most).1 most := by unfold copyR; rw [hX, hK]; rfl
  rw [hX] at hpx hgx hsx hKlt hN0
  rw [hK] at hKlt hN0
  have hN0m : N0 ≤ 1048576 := by have := (good_le X hgx _ (mem_getD X K 0 hKlt)).2; omega
  have hgn := map_get (Value.int .i64) X K 0 hKlt
  rw [hN0] at hgn
  have hscap := hSc.caps
  have hicap := hSi.caps
  refine Con.of_body Tryz.func12 rfl Tryz.ntmps12 rfl rfl ?_
  intro hs
  refine Zrun ?_
  (refine RW.boxN hs rfl rfl ?_; intro b1 w1 hs)
  refine Zrun ?_
  (refine RW.boxN hs rfl rfl ?_; intro b2 w2 hs)
  refine Zrun ?_
  (refine RW.allocN T hs rfl rfl rfl rfl ?_; intro b3 w3 hs)
  refine Zerun ?_
  (refine RW.call T hs rfl rfl rfl (ref27List_con _ c _ _ hc') ?_; intro v h4 w4 hle4 hp4 hs)
  subst hp4
  have hp' := PlainAt.mono (k + 2) _ _ _ _ hle4 hp'
  have hc' := PlainAt.mono (k + 2) _ _ _ _ hle4 hc'
  by_cases cr : 1 < c.shape.length
  · have cr' : ¬ (c.shape.length : Int) ≤ 1 := by omega
    have e : copyE c.shape.length c.fill (numsOf c) c.items.length N0 most = ([], 22) := if_pos cr
    rw [decide_eq_false cr', show copyR c p first N0 most = (22, zeroQ) from by rw [hcS, e]; rfl]
    refine Zerun ?_
    refine RW.val (Y.build T rfl rfl rfl rfl rfl rfl rfl) rfl ?_
    refine Zerun ?_
    (refine RW.storeAll T hs 0 rfl rfl rfl rfl rfl rfl rfl rfl ?_; intro w5 hs)
    refine Zerun ?_
    exact retQ_ret [_, _] h4 ⟨resN T hs 0 rfl rfl rfl rfl rfl rfl, rfl, trivial⟩ hs.dropAll ⟨_, rfl, ⟨_, _, rfl, IntsAt.nil _, RowsAt.nil _⟩⟩
  have cr' : (c.shape.length : Int) ≤ 1 := by omega
  rw [decide_eq_true cr']
  refine Zerun ?_
  (refine RW.call T hs rfl rfl rfl (ref27Along_con (PlainAt.mono (k + 1)) _ p first _ _ hp') ?_; intro v h5 w5 hle5 hp5 hs)
  obtain ⟨s5, it5, rfl, hI5, hIt5⟩ := hp5
  rw [hX] at hI5
  rw [hK]
  obtain ⟨ad5, cp5, rfl, hS5⟩ := hI5
  obtain ⟨ad6, cp6, xs6, rfl, _, _⟩ := id hIt5
  have hc' := PlainAt.mono (k + 2) _ _ _ _ hle5 hc'
  refine Zerun ?_
  (refine RW.storeAll T hs 1 rfl rfl rfl rfl rfl rfl rfl rfl ?_; intro w6 hs)
  refine Zerun ?_
  obtain ⟨M, hM⟩ : ∃ M, copyN c.items.length N0 = M := ⟨_, rfl⟩
  have hMm : M ≤ 1048576 := by rw [← hM]; unfold copyN; split <;> omega
  rw [hN0]
  refine RW.meet (fun u : Unit => [(4, .pointer (some ⟨b1, 0, none⟩)), (3, .int .i64 (most : Int)), (5, .pointer (some ⟨b2, 0, none⟩)), (8, .pointer (some ⟨b3, 0, none⟩)), (10, .int .i64 (K : Int)), (11, .int .i64 (N0 : Int)), (37, .bool (decide (N0 = 1 ∧ c.items.length ≠ 1)))]) (fun _ w' => Sees w h h5 [⟨some ⟨b3, 0, none⟩, 1, 1, 25, 3, [.slice none 0 0, .slice none 0 0, .int .i64 0]⟩, ⟨some ⟨b2, 0, none⟩, 1, 1, 25, 3, [.slice ad5 X.length cp5, .slice ad6 p.items.length cp6, .int .i64 p.fill]⟩, ⟨some ⟨b1, 0, none⟩, 1, 1, 25, 3, [.slice adc c.shape.length cpc, .slice adi c.items.length cpi, .int .i64 c.fill]⟩] w') ?_ ?_
  · by_cases n1 : N0 = 1
    · have n1' : (N0 : Int) = 1 := by omega
      by_cases l1 : c.items.length = 1
      · have l1' : (c.items.length : Int) = 1 := by omega
        refine Zerun ?_
        exact joinQ_meet () ⟨rfl, rfl, rfl, rfl, rfl, rfl, (by show some (Value.bool (decide ((c.items.length : Int) ≠ 1))) = _; rw [decide_eq_false (fun h => h l1'), decide_eq_false (fun h : N0 = 1 ∧ c.items.length ≠ 1 => h.2 l1)]), trivial⟩ hs
      · have l1' : ¬ (c.items.length : Int) = 1 := by omega
        refine Zerun ?_
        exact joinQ_meet () ⟨rfl, rfl, rfl, rfl, rfl, rfl, (by show some (Value.bool (decide ((c.items.length : Int) ≠ 1))) = _; rw [decide_eq_true l1', decide_eq_true (⟨n1, l1⟩ : N0 = 1 ∧ c.items.length ≠ 1)]), trivial⟩ hs
    · have n1' : ¬ (N0 : Int) = 1 := by omega
      refine Zerun ?_
      exact joinQ_meet () ⟨rfl, rfl, rfl, rfl, rfl, rfl, (by show some (Value.bool false) = _; rw [decide_eq_false (fun h : N0 = 1 ∧ c.items.length ≠ 1 => n1 h.1)]), trivial⟩ hs
  rintro ⟨⟩ w6 hs
  refine CW.meet (fun u : Unit => [(4, .pointer (some ⟨b1, 0, none⟩)), (3, .int .i64 (most : Int)), (5, .pointer (some ⟨b2, 0, none⟩)), (8, .pointer (some ⟨b3, 0, none⟩)), (10, .int .i64 (K : Int)), (11, .int .i64 (M : Int))]) (fun _ w' => Sees w h h5 [⟨some ⟨b3, 0, none⟩, 1, 1, 25, 3, [.slice none 0 0, .slice none 0 0, .int .i64 0]⟩, ⟨some ⟨b2, 0, none⟩, 1, 1, 25, 3, [.slice ad5 X.length cp5, .slice ad6 p.items.length cp6, .int .i64 p.fill]⟩, ⟨some ⟨b1, 0, none⟩, 1, 1, 25, 3, [.slice adc c.shape.length cpc, .slice adi c.items.length cpi, .int .i64 c.fill]⟩] w') ?_ ?_
  · by_cases n1 : N0 = 1 ∧ c.items.length ≠ 1
    · have eM : M = c.items.length := by rw [← hM]; unfold copyN; rw [if_pos n1]
      rw [decide_eq_true n1]
      refine Zerun ?_
      exact joinQ_meet () ⟨rfl, rfl, rfl, rfl, rfl, by rw [eM]; rfl, trivial⟩ hs
    · have eM : M = N0 := by rw [← hM]; unfold copyN; rw [if_neg n1]
      rw [decide_eq_false n1]
      refine Zerun ?_
      exact joinQ_meet () ⟨rfl, rfl, rfl, rfl, rfl, by rw [eM]; rfl, trivial⟩ hs
  rintro ⟨⟩ w7 hs
  by_cases ck : c.fill = 0
  rotate_left
  · have e : copyE c.shape.length c.fill (numsOf c) c.items.length N0 most = ([], 24) := by unfold copyE; rw [if_neg cr, if_pos ck]
    rw [show copyR c p first N0 most = (24, zeroQ) from by rw [hcS, e]; rfl]
    refine Zerun ?_
    refine RW.val (Y.build T rfl rfl rfl rfl rfl rfl rfl) rfl ?_
    refine Zerun ?_
    (refine RW.storeAll T hs 0 rfl rfl rfl rfl rfl rfl rfl rfl ?_; intro w11 hs)
    refine Zerun ?_
    exact retQ_ret [_, _] h5 ⟨resN T hs 0 rfl rfl rfl rfl rfl rfl, rfl, trivial⟩ hs.dropAll ⟨_, rfl, ⟨_, _, rfl, IntsAt.nil _, RowsAt.nil _⟩⟩
  have e : copyE c.shape.length c.fill (numsOf c) c.items.length N0 most = (if N0 = 1 then clampL (refCopiesRes (numsOf c) M most).1 else (refCopiesRes (numsOf c) M most).1, (refCopiesRes (numsOf c) M most).2) := by unfold copyE; rw [if_neg cr, if_neg (fun h => h ck), hM]
  rw [e] at hcS
  have hrl := refCopiesRes_len (numsOf c) M most
  refine Zerun ?_
  (refine RW.call T hs rfl rfl rfl (ref27Numbers_con _ c _ _ hc' hcm) ?_; intro v h8 w8 hle8 hp8 hs)
  have hnl := numsOf_len c
  refine Zerun ?_
  (refine RW.callM T hs rfl rfl rfl ((refCopies_conM0 _ (numsOf c) M most _ _ hp8 htd (by omega) hMm hmost).framed) ?_; intro v h10 O10 w10 hle10 hp10 hs)
  obtain ⟨_, rfl, ad10, cp10, rfl, rfl⟩ := hp10
  have g10 := hle8.trans hle10
  have hS5 := hS5.mono g10
  have hIt5 := hIt5.mono g10 (fun u a => ItemAt.mono (PlainAt.mono (k + 1)) _ _ u a g10)
  by_cases ce : (refCopiesRes (numsOf c) M most).2 = 0
  rotate_left
  · rw [if_pos ce] at hcS
    obtain ⟨pe, hpe⟩ : ∃ pe, (refCopiesRes (numsOf c) M most).2 = pe := ⟨_, rfl⟩
    rw [hpe] at ce hcS ⊢
    rw [hcS]
    refine Zerun ?_
    have hs := hs.drop
    refine RW.val (Y.build T rfl rfl rfl rfl rfl rfl rfl) rfl ?_
    refine Zerun ?_
    (refine RW.storeAll T hs 0 rfl rfl rfl rfl rfl rfl rfl rfl ?_; intro w12 hs)
    refine Zerun ?_
    exact retQ_ret [_, _] h10 ⟨resN T hs 0 rfl rfl rfl rfl rfl rfl, rfl, trivial⟩ hs.dropAll ⟨_, rfl, ⟨_, _, rfl, IntsAt.nil _, RowsAt.nil _⟩⟩
  rw [if_neg (fun h => h ce)] at hcS
  rw [ce]
  obtain ⟨at_, hat⟩ : ∃ at_, (refCopiesRes (numsOf c) M most).1 = at_ := ⟨_, rfl⟩
  rw [hat] at hs hrl hcS ⊢
  refine Zerun ?_
  by_cases n1 : N0 = 1
  · have n1' : (N0 : Int) = 1 := by omega
    rw [if_pos n1] at hcS
    refine CW.loop (fun i : Nat => [(3, .int .i64 (most : Int)), (5, .pointer (some ⟨b2, 0, none⟩)), (8, .pointer (some ⟨b3, 0, none⟩)), (10, .int .i64 (K : Int)), (12, .slice ad10 at_.length cp10), (14, .int .i64 i)]) (fun i w' => i ≤ at_.length ∧ Sees w h h10 (⟨ad10, at_.length, cp10, 3, 1, ((at_.map fun z => min z 0).take i ++ at_.drop i).map (Value.int .i64)⟩ :: [⟨some ⟨b3, 0, none⟩, 1, 1, 25, 3, [.slice none 0 0, .slice none 0 0, .int .i64 0]⟩, ⟨some ⟨b2, 0, none⟩, 1, 1, 25, 3, [.slice ad5 X.length cp5, .slice ad6 p.items.length cp6, .int .i64 p.fill]⟩, ⟨some ⟨b1, 0, none⟩, 1, 1, 25, 3, [.slice adc c.shape.length cpc, .slice adi c.items.length cpi, .int .i64 c.fill]⟩]) w') (fun i => at_.length - i) 0 ⟨rfl, rfl, rfl, rfl, rfl, rfl, trivial⟩ ⟨by omega, hs.re (by simp)⟩ ?_
    rintro i w12 ⟨hi, hs⟩
    by_cases hlt : i < at_.length
    · have hrow : ((at_.map fun z => min z 0).take i ++ at_.drop i).getD i 0 = at_.getD i 0 := by
        rw [List.getD_eq_getElem?_getD, List.getElem?_append_right (by rw [List.length_take, List.length_map]; omega), List.length_take, List.length_map, List.getElem?_drop, ← List.getD_eq_getElem?_getD]
        congr 1
        omega
      have hstep := clamp_take at_ i hlt
      have hll : ((at_.map fun z => min z 0).take i ++ at_.drop i).length = at_.length := by rw [List.length_append, List.length_take, List.length_map, List.length_drop]; omega
      obtain ⟨Z, hZ⟩ : ∃ Z, (at_.map fun z => min z 0).take i ++ at_.drop i = Z := ⟨_, rfl⟩
      rw [hZ] at hs hrow hstep hll
      obtain ⟨x, hx⟩ : ∃ x, at_.getD i 0 = x := ⟨_, rfl⟩
      rw [hx] at hrow hstep
      refine Zerun ?_
      refine RW.val (Y.idxRN T hs 0 rfl rfl rfl rfl rfl rfl hlt) rfl ?_
      refine RW.val (Y.ldRInt T hs 0 rfl rfl rfl rfl (by omega)) rfl ?_
      rw [hrow]
      by_cases cx : 0 < x
      · rw [show min x 0 = 0 by omega] at hstep
        refine Zerun ?_
        refine RW.val (Y.idxRN T hs 0 rfl rfl rfl rfl rfl rfl hlt) rfl ?_
        refine RW.st1 T hs 0 rfl rfl rfl rfl rfl rfl rfl (by omega) ?_
        intro w13 hs
        dsimp only [List.set_cons_zero, List.set_cons_succ] at hs
        rw [map_set_int, hstep] at hs
        refine Zerun ?_
        exact loopQ_round (i + 1) ⟨rfl, rfl, rfl, rfl, rfl, seti (by omega), trivial⟩ ⟨by omega, hs⟩ (by omega)
      · rw [show min x 0 = x by omega, ← hrow, set_self_getD (by omega)] at hstep
        rw [hstep] at hs
        refine Zerun ?_
        exact loopQ_round (i + 1) ⟨rfl, rfl, rfl, rfl, rfl, seti (by omega), trivial⟩ ⟨by omega, hs⟩ (by omega)
    obtain rfl : i = at_.length := by omega
    rw [List.take_of_length_le (by rw [List.length_map]; omega), List.drop_length, List.append_nil] at hs
    obtain ⟨h11, hle11, hs, hS11⟩ := hs.freeze
    have hll : (clampL at_).length = at_.length := List.length_map ..
    have hI11 : IntsAt h11 (.slice ad10 at_.length cp10) (clampL at_) := by
      have hS12 : Sl h11 1 ad10 at_.length cp10 ((clampL at_).map (Value.int .i64)) := hS11
      rw [← hll] at hS12 ⊢
      exact IntsAt.of_sl hS12
    have hS5 := hS5.mono hle11
    have hIt5 := hIt5.mono hle11 (fun u a => ItemAt.mono (PlainAt.mono (k + 1)) _ _ u a hle11)
    rw [hcS]
    refine Zerun ?_
    have hA7 : PlainAt (k + 2) h11 [.slice ad5 X.length cp5, .slice ad6 p.items.length cp6, .int .i64 p.fill] (⟨X, p.items, p.fill⟩ : PlainD (PD (k + 1))) := ⟨_, _, rfl, ⟨ad5, cp5, rfl, hS5⟩, hIt5⟩
    refine Zerun ?_
    (refine RW.call T hs rfl rfl rfl (ref27Picked_con k _ (⟨X, p.items, p.fill⟩ : PlainD (PD (k + 1))) _ K (clampL at_) most _ _ hA7 hI11 hpx hKlt (by omega) hvm (by omega)) ?_; intro v h13 w13 hle13 hp13 hs)
    obtain ⟨cs13, rfl, hQ13⟩ := hp13
    obtain ⟨⟨pe, pr⟩, hpz⟩ : ∃ z, pickedR (β := PD k) (⟨X, p.items, p.fill⟩ : PlainD (PD (k + 1))) K (clampL at_) most = z := ⟨_, rfl⟩
    rw [hpz] at hQ13 ⊢
    have hQ13' := hQ13
    obtain ⟨_, _, rfl, ⟨ad13, cp13, rfl, _⟩, ⟨ad14, cp14, xs14, rfl, _, _⟩⟩ := hQ13
    refine Zerun ?_
    (refine RW.storeAll T hs 0 rfl rfl rfl rfl rfl rfl rfl rfl ?_; intro w14 hs)
    refine Zerun ?_
    exact retQ_ret [_, _] h13 ⟨resN T hs 0 rfl rfl rfl rfl rfl rfl, rfl, trivial⟩ hs.dropAll ⟨_, rfl, hQ13'⟩
  · have n1' : ¬ (N0 : Int) = 1 := by omega
    rw [if_neg n1] at hcS
    refine CW.loop (fun i : Nat => [(3, .int .i64 (most : Int)), (5, .pointer (some ⟨b2, 0, none⟩)), (8, .pointer (some ⟨b3, 0, none⟩)), (10, .int .i64 (K : Int)), (12, .slice ad10 at_.length cp10), (14, .int .i64 i)]) (fun i w' => i ≤ at_.length ∧ Sees w h h10 (⟨ad10, at_.length, cp10, 3, 1, (at_).map (Value.int .i64)⟩ :: [⟨some ⟨b3, 0, none⟩, 1, 1, 25, 3, [.slice none 0 0, .slice none 0 0, .int .i64 0]⟩, ⟨some ⟨b2, 0, none⟩, 1, 1, 25, 3, [.slice ad5 X.length cp5, .slice ad6 p.items.length cp6, .int .i64 p.fill]⟩, ⟨some ⟨b1, 0, none⟩, 1, 1, 25, 3, [.slice adc c.shape.length cpc, .slice adi c.items.length cpi, .int .i64 c.fill]⟩]) w') (fun i => at_.length - i) 0 ⟨rfl, rfl, rfl, rfl, rfl, rfl, trivial⟩ ⟨by omega, hs⟩ ?_
    rintro i w12 ⟨hi, hs⟩
    by_cases hlt : i < at_.length
    · refine Zerun ?_
      obtain ⟨h11, hle11, hs, hS11⟩ := hs.freeze
      have hI11 : IntsAt h11 (.slice ad10 at_.length cp10) at_ := IntsAt.of_sl hS11
      have hS5 := hS5.mono hle11
      have hIt5 := hIt5.mono hle11 (fun u a => ItemAt.mono (PlainAt.mono (k + 1)) _ _ u a hle11)
      rw [hcS]
      refine Zerun ?_
      have hA7 : PlainAt (k + 2) h11 [.slice ad5 X.length cp5, .slice ad6 p.items.length cp6, .int .i64 p.fill] (⟨X, p.items, p.fill⟩ : PlainD (PD (k + 1))) := ⟨_, _, rfl, ⟨ad5, cp5, rfl, hS5⟩, hIt5⟩
      refine Zerun ?_
      (refine RW.call T hs rfl rfl rfl (ref27Picked_con k _ (⟨X, p.items, p.fill⟩ : PlainD (PD (k + 1))) _ K at_ most _ _ hA7 hI11 hpx hKlt (by omega) hvm (by omega)) ?_; intro v h13 w13 hle13 hp13 hs)
      obtain ⟨cs13, rfl, hQ13⟩ := hp13
      obtain ⟨⟨pe, pr⟩, hpz⟩ : ∃ z, pickedR (β := PD k) (⟨X, p.items, p.fill⟩ : PlainD (PD (k + 1))) K at_ most = z := ⟨_, rfl⟩
      rw [hpz] at hQ13 ⊢
      have hQ13' := hQ13
      obtain ⟨_, _, rfl, ⟨ad13, cp13, rfl, _⟩, ⟨ad14, cp14, xs14, rfl, _, _⟩⟩ := hQ13
      refine Zerun ?_
      (refine RW.storeAll T hs 0 rfl rfl rfl rfl rfl rfl rfl rfl ?_; intro w14 hs)
      refine Zerun ?_
      exact retQ_ret [_, _] h13 ⟨resN T hs 0 rfl rfl rfl rfl rfl rfl, rfl, trivial⟩ hs.dropAll ⟨_, rfl, hQ13'⟩
    obtain rfl : i = at_.length := by omega
    refine Zerun ?_
    obtain ⟨h11, hle11, hs, hS11⟩ := hs.freeze
    have hI11 : IntsAt h11 (.slice ad10 at_.length cp10) at_ := IntsAt.of_sl hS11
    have hS5 := hS5.mono hle11
    have hIt5 := hIt5.mono hle11 (fun u a => ItemAt.mono (PlainAt.mono (k + 1)) _ _ u a hle11)
    rw [hcS]
    refine Zerun ?_
    have hA7 : PlainAt (k + 2) h11 [.slice ad5 X.length cp5, .slice ad6 p.items.length cp6, .int .i64 p.fill] (⟨X, p.items, p.fill⟩ : PlainD (PD (k + 1))) := ⟨_, _, rfl, ⟨ad5, cp5, rfl, hS5⟩, hIt5⟩
    refine Zerun ?_
    (refine RW.call T hs rfl rfl rfl (ref27Picked_con k _ (⟨X, p.items, p.fill⟩ : PlainD (PD (k + 1))) _ K at_ most _ _ hA7 hI11 hpx hKlt (by omega) hvm (by omega)) ?_; intro v h13 w13 hle13 hp13 hs)
    obtain ⟨cs13, rfl, hQ13⟩ := hp13
    obtain ⟨⟨pe, pr⟩, hpz⟩ : ∃ z, pickedR (β := PD k) (⟨X, p.items, p.fill⟩ : PlainD (PD (k + 1))) K at_ most = z := ⟨_, rfl⟩
    rw [hpz] at hQ13 ⊢
    have hQ13' := hQ13
    obtain ⟨_, _, rfl, ⟨ad13, cp13, rfl, _⟩, ⟨ad14, cp14, xs14, rfl, _, _⟩⟩ := hQ13
    refine Zerun ?_
    (refine RW.storeAll T hs 0 rfl rfl rfl rfl rfl rfl rfl rfl ?_; intro w14 hs)
    refine Zerun ?_
    exact retQ_ret [_, _] h13 ⟨resN T hs 0 rfl rfl rfl rfl rfl rfl, rfl, trivial⟩ hs.dropAll ⟨_, rfl, hQ13'⟩
theorem ref27Expand_con (k : Nat) (cc0 cp0 : List Value) (c p : PlainD (PD (k + 1))) (first : Bool) (N0 most : Nat) (w : World) (h : GHeap) (hp : PlainAt (k + 2) h cp0 p) (hc : PlainAt (k + 2) h cc0 c) (htd : ∀ u ∈ numsOf c, tidyF u) (hcm : c.items.length ≤ 1048576) (hmost : most ≤ 1048576) (hpr : product p.shape 1048576 = ((p.items.length : Int), 0)) (hN0 : (axS p.shape).getD (axN p.shape first) 0 = (N0 : Int)) (hvm : p.items.length ≤ 1048576) :
    Con Tryz.prog 15 [.agg cc0.toArray, .agg cp0.toArray, .bool first, .int .i64 (most : Int)] w h (fun h' u => ∃ cs', u = .tuple #[.agg cs'.toArray, .int .i64 (expandP c p first N0 most).1] ∧ PlainAt (k + 2) h' cs' (expandP c p first N0 most).2) := by
  have hp' := hp
  have hc' := hc
  obtain ⟨_, _, rfl, ⟨adp, cpp, rfl, hSp⟩, hIp⟩ := hp
  obtain ⟨adpi, cppi, xspi, rfl, _, _⟩ := id hIp
  obtain ⟨_, _, rfl, ⟨adc, cpc, rfl, hSc⟩, hIc⟩ := hc
  obtain ⟨adi, cpi, xsi, rfl, hSi, _⟩ := id hIc
  have hpx := axS_prod hpr
  have hgx : goodS (axS p.shape) = true := (goodS_iff _).2 (by rw [hpx])
  have hsx := ((goodS_spec _).1 hgx).1
  obtain ⟨X, hX⟩ : ∃ X, axS p.shape = X := ⟨_, rfl⟩
  obtain ⟨K, hK⟩ : ∃ K, axN p.shape first = K := ⟨_, rfl⟩
  have hKlt := axN_lt p.shape first
  have hcS : expandP c p first N0 most = if (expandE c.shape.length c.fill (numsOf c) N0).2 ≠ 0 then ((expandE c.shape.length c.fill (numsOf c) N0).2, zeroQ) else pickedR (β := PD k) (⟨X, p.items, p.fill⟩ : PlainD (PD (k + 1))) K (expandE c.shape.length c.fill (numsOf c) N0).1 most := by unfold expandP; rw [hX, hK]; rfl
  rw [hX] at hpx hgx hsx hKlt hN0
  rw [hK] at hKlt hN0
  have hN0m : N0 ≤ 1048576 := by have := (good_le X hgx _ (mem_getD X K 0 hKlt)).2; omega
  have hgn := map_get (Value.int .i64) X K 0 hKlt
  rw [hN0] at hgn
  have hscap := hSc.caps
  have hicap := hSi.caps
  refine Con.of_body Tryz.func15 rfl Tryz.ntmps15 rfl rfl ?_
  intro hs
  refine Zrun ?_
  (refine RW.boxN hs rfl rfl ?_; intro b1 w1 hs)
  refine Zrun ?_
  (refine RW.boxN hs rfl rfl ?_; intro b2 w2 hs)
  refine Zrun ?_
  (refine RW.allocN T hs rfl rfl rfl rfl ?_; intro b3 w3 hs)
  refine Zerun ?_
  (refine RW.call T hs rfl rfl rfl (ref27List_con _ c _ _ hc') ?_; intro v h4 w4 hle4 hp4 hs)
  subst hp4
  have hp' := PlainAt.mono (k + 2) _ _ _ _ hle4 hp'
  have hc' := PlainAt.mono (k + 2) _ _ _ _ hle4 hc'
  by_cases cr : 1 < c.shape.length
  · have cr' : ¬ (c.shape.length : Int) ≤ 1 := by omega
    have e : expandE c.shape.length c.fill (numsOf c) N0 = ([], 22) := if_pos cr
    rw [decide_eq_false cr', show expandP c p first N0 most = (22, zeroQ) from by rw [hcS, e]; rfl]
    refine Zerun ?_
    refine RW.val (Y.build T rfl rfl rfl rfl rfl rfl rfl) rfl ?_
    refine Zerun ?_
    (refine RW.storeAll T hs 0 rfl rfl rfl rfl rfl rfl rfl rfl ?_; intro w5 hs)
    refine Zerun ?_
    exact retQ_ret [_, _] h4 ⟨resN T hs 0 rfl rfl rfl rfl rfl rfl, rfl, trivial⟩ hs.dropAll ⟨_, rfl, ⟨_, _, rfl, IntsAt.nil _, RowsAt.nil _⟩⟩
  have cr' : (c.shape.length : Int) ≤ 1 := by omega
  rw [decide_eq_true cr']
  refine Zerun ?_
  (refine RW.call T hs rfl rfl rfl (ref27Along_con (PlainAt.mono (k + 1)) _ p first _ _ hp') ?_; intro v h5 w5 hle5 hp5 hs)
  obtain ⟨s5, it5, rfl, hI5, hIt5⟩ := hp5
  rw [hX] at hI5
  rw [hK]
  obtain ⟨ad5, cp5, rfl, hS5⟩ := hI5
  obtain ⟨ad6, cp6, xs6, rfl, _, _⟩ := id hIt5
  have hc' := PlainAt.mono (k + 2) _ _ _ _ hle5 hc'
  refine Zerun ?_
  (refine RW.storeAll T hs 1 rfl rfl rfl rfl rfl rfl rfl rfl ?_; intro w6 hs)
  refine Zerun ?_
  have e : expandE c.shape.length c.fill (numsOf c) N0 = expandS c.fill (numsOf c) N0 := if_neg cr
  rw [e] at hcS
  (refine RW.call T hs rfl rfl rfl (ref27Numbers_con _ c _ _ hc' hcm) ?_; intro v h8 w8 hle8 hp8 hs)
  have hnl := numsOf_len c
  refine Zerun ?_
  (refine RW.call T hs rfl rfl rfl (refTruths_con _ (numsOf c) _ _ hp8 htd (by omega)) ?_; intro v h9 w9 hle9 hp9 hs)
  obtain ⟨s9, rfl, hT9⟩ := hp9
  have g9 := hle8.trans hle9
  have hS5 := hS5.mono g9
  have hIt5 := hIt5.mono g9 (fun u a => ItemAt.mono (PlainAt.mono (k + 1)) _ _ u a g9)
  by_cases ct : c.fill = 0 ∧ truthsB (numsOf c) = true
  rotate_left
  · have e2 : expandS c.fill (numsOf c) N0 = ([], 24) := if_neg ct
    rw [show expandP c p first N0 most = (24, zeroQ) from by rw [hcS, e2]; rfl]
    obtain ⟨adt, cpt, rfl, _⟩ := id hT9
    obtain ⟨tb, htb⟩ : ∃ tb, truthsB (numsOf c) = tb := ⟨_, rfl⟩
    rw [htb] at ct ⊢
    cases tb with
    | false =>
      refine Zerun ?_
      refine RW.val (Y.build T rfl rfl rfl rfl rfl rfl rfl) rfl ?_
      refine Zerun ?_
      (refine RW.storeAll T hs 0 rfl rfl rfl rfl rfl rfl rfl rfl ?_; intro w11 hs)
      refine Zerun ?_
      exact retQ_ret [_, _] h9 ⟨resN T hs 0 rfl rfl rfl rfl rfl rfl, rfl, trivial⟩ hs.dropAll ⟨_, rfl, ⟨_, _, rfl, IntsAt.nil _, RowsAt.nil _⟩⟩
    | true =>
      have cf : ¬ c.fill = 0 := fun h => ct ⟨h, rfl⟩
      refine Zerun ?_
      refine RW.val (Y.build T rfl rfl rfl rfl rfl rfl rfl) rfl ?_
      refine Zerun ?_
      (refine RW.storeAll T hs 0 rfl rfl rfl rfl rfl rfl rfl rfl ?_; intro w11 hs)
      refine Zerun ?_
      exact retQ_ret [_, _] h9 ⟨resN T hs 0 rfl rfl rfl rfl rfl rfl, rfl, trivial⟩ hs.dropAll ⟨_, rfl, ⟨_, _, rfl, IntsAt.nil _, RowsAt.nil _⟩⟩
  rw [if_pos ct.2] at hT9
  have e2 : expandS c.fill (numsOf c) N0 = expRes (bsOf (numsOf c)) N0 := if_pos ct
  have hZl := expandS_len c.fill (numsOf c) N0
  rw [e2] at hcS hZl
  obtain ⟨ct1, ct2⟩ := ct
  rw [ct2]
  have hT9' := hT9
  obtain ⟨adt, cpt, rfl, _⟩ := hT9
  refine Zerun ?_
  rw [hN0]
  (refine RW.call T hs rfl rfl rfl (refExpand_con _ (bsOf (numsOf c)) N0 _ _ hT9' (by rw [bsOf_len]; omega) hN0m) ?_; intro v h10 w10 hle10 hp10 hs)
  obtain ⟨s10, rfl, hI10⟩ := hp10
  have hS5 := hS5.mono hle10
  have hIt5 := hIt5.mono hle10 (fun u a => ItemAt.mono (PlainAt.mono (k + 1)) _ _ u a hle10)
  obtain ⟨Z, hZ⟩ : ∃ Z, expRes (bsOf (numsOf c)) N0 = Z := ⟨_, rfl⟩
  rw [hZ] at hI10 hcS hZl ⊢
  have hI10' := hI10
  obtain ⟨ad10, cp10, rfl, _⟩ := hI10
  by_cases ce : Z.2 = 0
  rotate_left
  · rw [if_pos ce] at hcS
    obtain ⟨pe, hpe⟩ : ∃ pe, Z.2 = pe := ⟨_, rfl⟩
    rw [hpe] at ce hcS ⊢
    rw [hcS]
    refine Zerun ?_
    refine RW.val (Y.build T rfl rfl rfl rfl rfl rfl rfl) rfl ?_
    refine Zerun ?_
    (refine RW.storeAll T hs 0 rfl rfl rfl rfl rfl rfl rfl rfl ?_; intro w12 hs)
    refine Zerun ?_
    exact retQ_ret [_, _] h10 ⟨resN T hs 0 rfl rfl rfl rfl rfl rfl, rfl, trivial⟩ hs.dropAll ⟨_, rfl, ⟨_, _, rfl, IntsAt.nil _, RowsAt.nil _⟩⟩
  rw [if_neg (fun h => h ce)] at hcS
  rw [ce, hcS]
  refine Zerun ?_
  have hA7 : PlainAt (k + 2) h10 [.slice ad5 X.length cp5, .slice ad6 p.items.length cp6, .int .i64 p.fill] (⟨X, p.items, p.fill⟩ : PlainD (PD (k + 1))) := ⟨_, _, rfl, ⟨ad5, cp5, rfl, hS5⟩, hIt5⟩
  refine Zerun ?_
  (refine RW.call T hs rfl rfl rfl (ref27Picked_con k _ (⟨X, p.items, p.fill⟩ : PlainD (PD (k + 1))) _ K Z.1 most _ _ hA7 hI10' hpx hKlt (by omega) hvm (by omega)) ?_; intro v h13 w13 hle13 hp13 hs)
  obtain ⟨cs13, rfl, hQ13⟩ := hp13
  obtain ⟨⟨pe, pr⟩, hpz⟩ : ∃ z, pickedR (β := PD k) (⟨X, p.items, p.fill⟩ : PlainD (PD (k + 1))) K Z.1 most = z := ⟨_, rfl⟩
  rw [hpz] at hQ13 ⊢
  have hQ13' := hQ13
  obtain ⟨_, _, rfl, ⟨ad13, cp13, rfl, _⟩, ⟨ad14, cp14, xs14, rfl, _, _⟩⟩ := hQ13
  refine Zerun ?_
  (refine RW.storeAll T hs 0 rfl rfl rfl rfl rfl rfl rfl rfl ?_; intro w14 hs)
  refine Zerun ?_
  exact retQ_ret [_, _] h13 ⟨resN T hs 0 rfl rfl rfl rfl rfl rfl, rfl, trivial⟩ hs.dropAll ⟨_, rfl, hQ13'⟩
end Go.Proofs.YtmojpbfkpggjhaaGreatDoor

/-
  Contract of the law's own function of layer 27: copies along an axis, and parts put by a mask; their plain laws. No statement is proved here.
-/
namespace Go.Proofs.YtmojpbfkpggjhaaGreatDoor
open Go Go.RowKit
set_option linter.unusedVariables false
set_option linter.unusedSimpArgs false
set_option maxHeartbeats 4000000
attribute [local irreducible] CW RW QW SW HW ConM retM heldQ calmQ elemP thenQ blockQ loopQ joinQ retQ Yields Con Sl zF magR unitF truncF fwF wholeF tidySpec elemQ rankF leastN tidyW
set_option maxHeartbeats 4000000
attribute [local irreducible] mixN wrN wr32 keyIt keyP

theorem arrV_num {α β : Type} (f : α → β) (c : Int) (l : List (ItemD α)) (h : (arrV f c l).cls = 0) : arrV f c l = ⟨leastN (arrV f c l).nums, (arrV f c l).nums, [], []⟩ := by
  unfold arrV at h ⊢
  by_cases h1 : c = 1
  · rw [if_pos h1] at h; exact absurd h (show ¬ (1 : Int) = 0 by decide)
  · rw [if_neg h1] at h ⊢
    by_cases h2 : c = 2
    · rw [if_pos h2] at h; exact absurd h (show ¬ (2 : Int) = 0 by decide)
    · rw [if_neg h2]
theorem picked_res {k : Nat} {a : ArrD (AD (k + 1))} {p : PlainD (PD (k + 1))} (H : Tells k a.vec p.items p.fill) (hs : a.shape = p.shape) (hpr : product a.shape 1048576 = ((a.vec.len : Int), 0)) {K : Nat} (hK : K < a.shape.length) (at_ : List Int) {most : Int} (hmost : most ≤ 1048576) :
    (pickedS a K at_ most).1 = (pickedR (β := PD k) p K at_ most).1 ∧ ResX (k + 1) (pickedS a K at_ most).1 (pickedS a K at_ most).2 (pickedR (β := PD k) p K at_ most).2 := by
  obtain ⟨outer, n, inner, hsp, hn, ho, hi, hn2, hla, hset, _, _⟩ := ax_facts hpr hK
  unfold pickedS pickedR
  rw [← hs]
  by_cases c1 : goodS (a.shape.set K (at_.length : Int)) = true
  · have n1 : ¬ ¬ goodS (a.shape.set K (at_.length : Int)) = true := fun h => h c1
    rw [if_neg n1, if_neg n1]
    by_cases c2 : (product (a.shape.set K (at_.length : Int)) most).2 = 0
    · have n2 : ¬ (product (a.shape.set K (at_.length : Int)) most).2 ≠ 0 := fun h => h c2
      rw [if_neg n2, if_neg n2]
      obtain ⟨q, hq⟩ : ∃ q, (product (a.shape.set K (at_.length : Int)) most).1 = q := ⟨_, rfl⟩
      have hpq : product (a.shape.set K (at_.length : Int)) most = (q, 0) := by rw [← hq, ← c2]
      have hqe := hset _ _ _ hpq
      obtain ⟨_, hp2, _, hqm, _⟩ := product_fits _ _ _ hpq
      have hsn : splitN a.shape K = (outer, n, inner) := by unfold splitN; rw [hsp]; rfl
      rw [hsn]
      have hal := alongL_len outer n inner at_
      have t1 := H.pick (alongL outer n inner at_) (by rw [hal]; omega) rfl
      have hpf := pick_facts a.vec (alongL outer n inner at_) (blankA k)
      exact ⟨rfl, t1.shape _ (by rw [hp2, hpf.2.2.1, hal, hqe])⟩
    · have n2 : (product (a.shape.set K (at_.length : Int)) most).2 ≠ 0 := c2
      rw [if_pos n2, if_pos n2]
      obtain ⟨g1, g2, _⟩ := (goodS_spec _).1 c1
      rcases prod_err g1 g2 most with e | e
      · exact absurd e c2
      · rw [e]
        exact ⟨rfl, .inr ⟨.inr (.inr (.inr rfl)), rfl⟩⟩
  · rw [if_pos c1, if_pos c1]
    exact ⟨rfl, .inr ⟨.inr (.inr (.inr rfl)), rfl⟩⟩
theorem copyE_same {rank : Nat} {cls : Int} {n1 n2 : List Nat} (h : cls = 0 → n1 = n2) (clen N0 most : Nat) : copyE rank cls n1 clen N0 most = copyE rank cls n2 clen N0 most := by
  by_cases c : cls = 0
  · rw [h c]
  · have c' : cls ≠ 0 := c
    unfold copyE
    by_cases cr : 1 < rank
    · rw [if_pos cr, if_pos cr]
    · rw [if_neg cr, if_neg cr, if_pos c', if_pos c']
theorem expandE_same {rank : Nat} {cls : Int} {n1 n2 : List Nat} (h : cls = 0 → n1 = n2) (N0 : Nat) : expandE rank cls n1 N0 = expandE rank cls n2 N0 := by
  by_cases c : cls = 0
  · rw [h c]
  · have m1 : ¬ (cls = 0 ∧ truthsB n1 = true) := fun h => c h.1
    have m2 : ¬ (cls = 0 ∧ truthsB n2 = true) := fun h => c h.1
    unfold expandE expandS
    rw [if_neg m1, if_neg m2]
theorem copyE_err (rank : Nat) (cls : Int) (nums : List Nat) (clen N0 most : Nat) : (copyE rank cls nums clen N0 most).2 = 0 ∨ (copyE rank cls nums clen N0 most).2 = 22 ∨ (copyE rank cls nums clen N0 most).2 = 23 ∨ (copyE rank cls nums clen N0 most).2 = 24 ∨ (copyE rank cls nums clen N0 most).2 = 26 := by
  unfold copyE
  split
  · exact .inr (.inl rfl)
  · split
    · exact .inr (.inr (.inr (.inl rfl)))
    · show (refCopiesRes nums (copyN clen N0) most).2 = 0 ∨ (refCopiesRes nums (copyN clen N0) most).2 = 22 ∨ (refCopiesRes nums (copyN clen N0) most).2 = 23 ∨ (refCopiesRes nums (copyN clen N0) most).2 = 24 ∨ (refCopiesRes nums (copyN clen N0) most).2 = 26
      unfold refCopiesRes
      split
      · rcases copiesRes_two (nums.map fun x => (wholeF x).1) (copyN clen N0) most with e | e | e
        · exact .inl e
        · exact .inr (.inr (.inl e))
        · exact .inr (.inr (.inr (.inr e)))
      · exact .inr (.inr (.inr (.inl rfl)))
theorem expandE_err (rank : Nat) (cls : Int) (nums : List Nat) (N0 : Nat) : (expandE rank cls nums N0).2 = 0 ∨ (expandE rank cls nums N0).2 = 22 ∨ (expandE rank cls nums N0).2 = 23 ∨ (expandE rank cls nums N0).2 = 24 := by
  unfold expandE expandS expRes
  split
  · exact .inr (.inl rfl)
  · split
    · split
      · exact .inr (.inr (.inl rfl))
      · exact .inl rfl
    · exact .inr (.inr (.inr rfl))
theorem copy_res {k : Nat} {c a : ArrD (AD (k + 1))} {q p : PlainD (PD (k + 1))} (Hc : Tells k c.vec q.items q.fill) (H : Tells k a.vec p.items p.fill) (hsc : c.shape = q.shape) (hs : a.shape = p.shape) (hpr : product a.shape 1048576 = ((a.vec.len : Int), 0)) (first : Bool) (N0 most : Nat) (hmost : most ≤ 1048576) :
    (copyS c a first N0 most).1 = (copyR q p first N0 most).1 ∧ ResX (k + 1) (copyS c a first N0 most).1 (copyS c a first N0 most).2 (copyR q p first N0 most).2 := by
  have e : copyE c.shape.length c.vec.cls c.vec.nums c.vec.len N0 most = copyE q.shape.length q.fill (numsOf q) q.items.length N0 most := by
    rw [hsc, Hc.sh.hc, Hc.ln]
    exact copyE_same (fun h0 => (nums_same Hc.sh h0).symm) _ _ _
  have he := copyE_err q.shape.length q.fill (numsOf q) q.items.length N0 most
  obtain ⟨Z, hZ⟩ : ∃ Z, copyE q.shape.length q.fill (numsOf q) q.items.length N0 most = Z := ⟨_, rfl⟩
  have eS : copyS c a first N0 most = if Z.2 ≠ 0 then (Z.2, ⟨[], VecD.none⟩) else pickedS (⟨axS a.shape, a.vec⟩ : ArrD (AD (k + 1))) (axN a.shape first) Z.1 most := by unfold copyS; rw [e, hZ]
  have eR : copyR (k := k) q p first N0 most = if Z.2 ≠ 0 then (Z.2, zeroQ) else pickedR (β := PD k) (⟨axS p.shape, p.items, p.fill⟩ : PlainD (PD (k + 1))) (axN p.shape first) Z.1 most := by rw [← hZ]; rfl
  rw [hZ] at he
  rw [eS, eR]
  by_cases c0 : Z.2 = 0
  · have n0 : ¬ Z.2 ≠ 0 := fun h => h c0
    rw [if_neg n0, if_neg n0]
    have := picked_res (k := k) (a := (⟨axS a.shape, a.vec⟩ : ArrD (AD (k + 1)))) (p := (⟨axS p.shape, p.items, p.fill⟩ : PlainD (PD (k + 1)))) H (by rw [hs]) (axS_prod hpr) (axN_lt a.shape first) Z.1 (most := most) (by omega)
    rw [hs] at this ⊢
    exact this
  · have n0 : Z.2 ≠ 0 := c0
    rw [if_pos n0, if_pos n0]
    refine ⟨rfl, .inr ⟨?_, rfl⟩⟩
    show Z.2 = 22 ∨ Z.2 = 23 ∨ Z.2 = 24 ∨ Z.2 = 26
    omega
theorem expand_res {k : Nat} {c a : ArrD (AD (k + 1))} {q p : PlainD (PD (k + 1))} (Hc : Tells k c.vec q.items q.fill) (H : Tells k a.vec p.items p.fill) (hsc : c.shape = q.shape) (hs : a.shape = p.shape) (hpr : product a.shape 1048576 = ((a.vec.len : Int), 0)) (first : Bool) (N0 most : Nat) (hmost : most ≤ 1048576) :
    (expandA c a first N0 most).1 = (expandP q p first N0 most).1 ∧ ResX (k + 1) (expandA c a first N0 most).1 (expandA c a first N0 most).2 (expandP q p first N0 most).2 := by
  have e : expandE c.shape.length c.vec.cls c.vec.nums N0 = expandE q.shape.length q.fill (numsOf q) N0 := by
    rw [hsc, Hc.sh.hc]
    exact expandE_same (fun h0 => (nums_same Hc.sh h0).symm) _
  have he := expandE_err q.shape.length q.fill (numsOf q) N0
  obtain ⟨Z, hZ⟩ : ∃ Z, expandE q.shape.length q.fill (numsOf q) N0 = Z := ⟨_, rfl⟩
  have eS : expandA c a first N0 most = if Z.2 ≠ 0 then (Z.2, ⟨[], VecD.none⟩) else pickedS (⟨axS a.shape, a.vec⟩ : ArrD (AD (k + 1))) (axN a.shape first) Z.1 most := by unfold expandA; rw [e, hZ]
  have eR : expandP (k := k) q p first N0 most = if Z.2 ≠ 0 then (Z.2, zeroQ) else pickedR (β := PD k) (⟨axS p.shape, p.items, p.fill⟩ : PlainD (PD (k + 1))) (axN p.shape first) Z.1 most := by rw [← hZ]; rfl
  rw [hZ] at he
  rw [eS, eR]
  by_cases c0 : Z.2 = 0
  · have n0 : ¬ Z.2 ≠ 0 := fun h => h c0
    rw [if_neg n0, if_neg n0]
    have := picked_res (k := k) (a := (⟨axS a.shape, a.vec⟩ : ArrD (AD (k + 1)))) (p := (⟨axS p.shape, p.items, p.fill⟩ : PlainD (PD (k + 1)))) H (by rw [hs]) (axS_prod hpr) (axN_lt a.shape first) Z.1 (most := most) (by omega)
    rw [hs] at this ⊢
    exact this
  · have n0 : Z.2 ≠ 0 := c0
    rw [if_pos n0, if_pos n0]
    refine ⟨rfl, .inr ⟨?_, rfl⟩⟩
    show Z.2 = 22 ∨ Z.2 = 23 ∨ Z.2 = 24 ∨ Z.2 = 26
    omega
theorem baseCopiesLaw_con (k : Nat) (cc0 cm0 cp0 : List Value) (c m p : PD (k + 2)) (first : Bool) (x : Int) (w : World) (h : GHeap) (hT : TzTab h) (hc : PlainAt (k + 2) h cc0 c) (hm : PlainAt (k + 2) h cm0 m) (hp : PlainAt (k + 2) h cp0 p) (hx : 0 ≤ x ∧ x ≤ 65535) : Con Tryz.prog 3 [.agg cc0.toArray, .agg cm0.toArray, .agg cp0.toArray, .bool first, .int .u16 x] w h (fun _ u => u = .bool true) := by
  have hc' := hc
  have hc0 := hc
  have hm' := hm
  have hm0 := hm
  have hp' := hp
  have hp0 := hp
  obtain ⟨s_c, it_c, rfl, ⟨ads_c, cps_c, rfl, hSl_c⟩, ⟨adi_c, cpi_c, xs_c, rfl, hIl_c, _⟩⟩ := hc
  obtain ⟨s_m, it_m, rfl, ⟨ads_m, cps_m, rfl, hSl_m⟩, ⟨adi_m, cpi_m, xs_m, rfl, hIl_m, _⟩⟩ := hm
  obtain ⟨s_p, it_p, rfl, ⟨ads_p, cps_p, rfl, hSl_p⟩, ⟨adi_p, cpi_p, xs_p, rfl, hIl_p, _⟩⟩ := hp
  refine Con.of_body Tryz.func3 rfl Tryz.ntmps3 rfl rfl ?_
  intro hs
  refine Zrun ?_
  (refine RW.boxN hs rfl rfl ?_; intro b1 w1 hs)
  refine Zrun ?_
  (refine RW.boxN hs rfl rfl ?_; intro b2 w2 hs)
  refine Zrun ?_
  (refine RW.boxN hs rfl rfl ?_; intro b3 w3 hs)
  refine Zerun ?_
  (refine RW.call T hs rfl rfl rfl (fine27_con (k + 1) _ c _ _ hc') ?_; intro v h3 w3 hle3 hp3 hs)
  obtain ⟨b, rfl, hbc⟩ := hp3
  have hc' := PlainAt.mono (k + 2) _ _ _ _ hle3 hc'
  have hm' := PlainAt.mono (k + 2) _ _ _ _ hle3 hm'
  have hp' := PlainAt.mono (k + 2) _ _ _ _ hle3 hp'
  have hT := hT.mono hle3
  cases b with
  | false =>
    refine Zerun ?_
    (refine RW.call T hs rfl rfl rfl (awake27_con _ _ hT) ?_; intro v h13 w13 hle13 hp13 hs)
    subst hp13
    refine Zerun ?_
    exact retQ_ret [_] h13 ⟨rfl, trivial⟩ hs.dropAll rfl
  | true =>
  obtain ⟨hcc, h8c, _⟩ := hbc rfl
  refine Zerun ?_
  (refine RW.call T hs rfl rfl rfl (fine27_con (k + 1) _ m _ _ hm') ?_; intro v h4 w4 hle4 hp4 hs)
  obtain ⟨b, rfl, hbm⟩ := hp4
  have hc' := PlainAt.mono (k + 2) _ _ _ _ hle4 hc'
  have hm' := PlainAt.mono (k + 2) _ _ _ _ hle4 hm'
  have hp' := PlainAt.mono (k + 2) _ _ _ _ hle4 hp'
  have hT := hT.mono hle4
  cases b with
  | false =>
    refine Zerun ?_
    (refine RW.call T hs rfl rfl rfl (awake27_con _ _ hT) ?_; intro v h14 w14 hle14 hp14 hs)
    subst hp14
    refine Zerun ?_
    exact retQ_ret [_] h14 ⟨rfl, trivial⟩ hs.dropAll rfl
  | true =>
  obtain ⟨hcm, h8m, _⟩ := hbm rfl
  refine Zerun ?_
  (refine RW.call T hs rfl rfl rfl (fine27_con (k + 1) _ p _ _ hp') ?_; intro v h5 w5 hle5 hp5 hs)
  obtain ⟨b, rfl, hbp⟩ := hp5
  have hc' := PlainAt.mono (k + 2) _ _ _ _ hle5 hc'
  have hm' := PlainAt.mono (k + 2) _ _ _ _ hle5 hm'
  have hp' := PlainAt.mono (k + 2) _ _ _ _ hle5 hp'
  have hT := hT.mono hle5
  cases b with
  | false =>
    refine Zerun ?_
    (refine RW.call T hs rfl rfl rfl (awake27_con _ _ hT) ?_; intro v h15 w15 hle15 hp15 hs)
    subst hp15
    refine Zerun ?_
    exact retQ_ret [_] h15 ⟨rfl, trivial⟩ hs.dropAll rfl
  | true =>
  obtain ⟨hcp, h8p, _⟩ := hbp rfl
  refine Zerun ?_
  obtain ⟨Hc, hppc⟩ := tells_of k c _ _ hc0 hcc
  obtain ⟨Hm, hppm⟩ := tells_of k m _ _ hm0 hcm
  obtain ⟨Hp, hppp⟩ := tells_of k p _ _ hp0 hcp
  obtain ⟨mN, hmN⟩ := Int.eq_ofNat_of_zero_le (show 0 ≤ x % 3000 by omega)
  rw [hmN]
  have hmb : mN ≤ 3000 := by omega
  refine RW.val (Y.conv64 (u := (mN : Int)) T rfl rfl rfl (by omega)) rfl ?_
  refine Zerun ?_
  have hKlt := axN_lt (ArrD.shape (α := AD (k + 1)) (arr (k + 2) p)) first
  obtain ⟨_, N0, _, _, hN0, _⟩ := ax_facts (axS_prod hppp) hKlt
  have hlp : (PlainD.items (α := PD (k + 1)) (tidy (k + 2) p)).length = (ArrD.vec (α := AD (k + 1)) (arr (k + 2) p)).len := Hp.ln
  have hprR : product (PlainD.shape (α := PD (k + 1)) (tidy (k + 2) p)) 1048576 = (((PlainD.items (α := PD (k + 1)) (tidy (k + 2) p)).length : Int), 0) := by rw [hlp]; exact hppp
  have hvmR : (PlainD.items (α := PD (k + 1)) (tidy (k + 2) p)).length ≤ 1048576 := by rw [hlp]; exact Hp.sh.vm
  have htdc : ∀ u ∈ numsOf (α := PD (k + 1)) (tidy (k + 2) c), tidyF u := fun u hu => by obtain ⟨y, hy, rfl⟩ := List.mem_map.1 hu; exact (Hc.sh.td y hy).1
  have hlc : (PlainD.items (α := PD (k + 1)) (tidy (k + 2) c)).length ≤ 1048576 := by rw [Hc.ln]; exact Hc.sh.vm
  have htdm : ∀ u ∈ numsOf (α := PD (k + 1)) (tidy (k + 2) m), tidyF u := fun u hu => by obtain ⟨y, hy, rfl⟩ := List.mem_map.1 hu; exact (Hm.sh.td y hy).1
  have hlm : (PlainD.items (α := PD (k + 1)) (tidy (k + 2) m)).length ≤ 1048576 := by rw [Hm.ln]; exact Hm.sh.vm
  have hcv := fun h0 => arrV_num (arr (k + 1)) (PlainD.fill (α := PD (k + 1)) c) (PlainD.items (α := PD (k + 1)) c) h0
  obtain ⟨eq1, rs1⟩ := copy_res (k := k) (c := arr (k + 2) c) (a := arr (k + 2) p) (q := tidy (k + 2) c) (p := tidy (k + 2) p) Hc Hp rfl rfl hppp first N0 mN (by omega)
  obtain ⟨eq2, rs2⟩ := expand_res (k := k) (c := arr (k + 2) m) (a := arr (k + 2) p) (q := tidy (k + 2) m) (p := tidy (k + 2) p) Hm Hp rfl rfl hppp first N0 mN (by omega)
  obtain ⟨e1, he1e⟩ : ∃ z, (copyS (k := k) (arr (k + 2) c) (arr (k + 2) p) first N0 mN).1 = z := ⟨_, rfl⟩
  obtain ⟨a1, ha1e⟩ : ∃ z, (copyS (k := k) (arr (k + 2) c) (arr (k + 2) p) first N0 mN).2 = z := ⟨_, rfl⟩
  obtain ⟨p1, hp1e⟩ : ∃ z, (copyR (k := k) (tidy (k + 2) c) (tidy (k + 2) p) first N0 mN).2 = z := ⟨_, rfl⟩
  rw [he1e, ha1e, hp1e] at rs1
  rw [he1e] at eq1
  have eq1 := eq1.symm
  obtain ⟨e2, he2e⟩ : ∃ z, (expandA (k := k) (arr (k + 2) m) (arr (k + 2) p) first N0 mN).1 = z := ⟨_, rfl⟩
  obtain ⟨a2, ha2e⟩ : ∃ z, (expandA (k := k) (arr (k + 2) m) (arr (k + 2) p) first N0 mN).2 = z := ⟨_, rfl⟩
  obtain ⟨p2, hp2e⟩ : ∃ z, (expandP (k := k) (tidy (k + 2) m) (tidy (k + 2) p) first N0 mN).2 = z := ⟨_, rfl⟩
  rw [he2e, ha2e, hp2e] at rs2
  rw [he2e] at eq2
  have eq2 := eq2.symm
  refine CW.meet (fun r : Nat × List Value × GHeap => [(3, .bool first), (11, .int .i64 (mN : Int)), (5, .pointer (some ⟨b1, 0, none⟩)), (6, .pointer (some ⟨b2, 0, none⟩)), (7, .pointer (some ⟨b3, 0, none⟩)), (12, .pointer (some ⟨r.1, 0, none⟩)), (13, .int .i64 e1)]) (fun r w' => ArrAt (k + 2) r.2.2 r.2.1 a1 ∧ PlainAt (k + 2) r.2.2 [.slice ads_c (PlainD.shape (α := PD (k + 1)) c).length cps_c, .slice adi_c (PlainD.items (α := PD (k + 1)) c).length cpi_c, .int .i64 (PlainD.fill (α := PD (k + 1)) c)] c ∧ PlainAt (k + 2) r.2.2 [.slice ads_m (PlainD.shape (α := PD (k + 1)) m).length cps_m, .slice adi_m (PlainD.items (α := PD (k + 1)) m).length cpi_m, .int .i64 (PlainD.fill (α := PD (k + 1)) m)] m ∧ PlainAt (k + 2) r.2.2 [.slice ads_p (PlainD.shape (α := PD (k + 1)) p).length cps_p, .slice adi_p (PlainD.items (α := PD (k + 1)) p).length cpi_p, .int .i64 (PlainD.fill (α := PD (k + 1)) p)] p ∧ TzTab r.2.2 ∧ Sees w h r.2.2 [⟨some ⟨r.1, 0, none⟩, 1, 1, 40, 9, r.2.1⟩, ⟨some ⟨b3, 0, none⟩, 1, 1, 25, 3, [.slice ads_p (PlainD.shape (α := PD (k + 1)) p).length cps_p, .slice adi_p (PlainD.items (α := PD (k + 1)) p).length cpi_p, .int .i64 (PlainD.fill (α := PD (k + 1)) p)]⟩, ⟨some ⟨b2, 0, none⟩, 1, 1, 25, 3, [.slice ads_m (PlainD.shape (α := PD (k + 1)) m).length cps_m, .slice adi_m (PlainD.items (α := PD (k + 1)) m).length cpi_m, .int .i64 (PlainD.fill (α := PD (k + 1)) m)]⟩, ⟨some ⟨b1, 0, none⟩, 1, 1, 25, 3, [.slice ads_c (PlainD.shape (α := PD (k + 1)) c).length cps_c, .slice adi_c (PlainD.items (α := PD (k + 1)) c).length cpi_c, .int .i64 (PlainD.fill (α := PD (k + 1)) c)]⟩] w') ?_ ?_
  · refine CW.regionR T 2 0 hs rfl rfl ?_
    intro w844 hs
    refine HW.takeR (fuel := 12) 0 rfl (fun _ _ ka kb _ hs hka hkb => Y.loadRowN T hs ka hka rfl rfl rfl rfl rfl rfl) ⟨_, _, 2, 0, hs, rfl, rfl⟩ rfl (by kernel_rfl) (by kernel_rfl) (by kernel_rfl) ?_
    refine HW.takeR (fuel := 11) 2 rfl (fun _ _ ka kb _ hs hka hkb => Y.loadRowN T hs kb hkb rfl rfl rfl rfl rfl rfl) ⟨_, _, 2, 0, hs, rfl, rfl⟩ rfl (by kernel_rfl) (by kernel_rfl) (by kernel_rfl) ?_
    refine HW.takeR (fuel := 10) 4 rfl (fun _ _ ka kb _ hs hka hkb => Y.move rfl) ⟨_, _, 2, 0, hs, rfl, rfl⟩ rfl (by kernel_rfl) (by kernel_rfl) (by kernel_rfl) ?_
    refine HW.takeR (fuel := 9) 5 rfl (fun _ _ ka kb _ hs hka hkb => Y.move rfl) ⟨_, _, 2, 0, hs, rfl, rfl⟩ rfl (by kernel_rfl) (by kernel_rfl) (by kernel_rfl) ?_
    refine HW.two (fuel := 8) 1 10 rfl rfl (by kernel_rfl) ?_ ?_
    · (refine RW.call T hs rfl rfl rfl (of07_con (k + 2) _ c _ _ hc' hcc) ?_; intro v h39 w39 hle39 hp39 hs)
      obtain ⟨cs39, rfl, _, _, hn39⟩ := hp39
      have hc' := PlainAt.mono (k + 2) _ _ _ _ hle39 hc'
      have hm' := PlainAt.mono (k + 2) _ _ _ _ hle39 hm'
      have hp' := PlainAt.mono (k + 2) _ _ _ _ hle39 hp'
      have hT := hT.mono hle39
      refine RW.nil ?_
      refine heldQ_normal ⟨_, _, 2, 0, hs, rfl, rfl⟩ ?_
      refine HW.two (fuel := 7) 3 10 rfl rfl (by kernel_rfl) ?_ ?_
      · (refine RW.call T hs rfl rfl rfl (of07_con (k + 2) _ p _ _ hp' hcp) ?_; intro v h41 w41 hle41 hp41 hs)
        obtain ⟨cs41, rfl, _, _, hn41⟩ := hp41
        have hc' := PlainAt.mono (k + 2) _ _ _ _ hle41 hc'
        have hm' := PlainAt.mono (k + 2) _ _ _ _ hle41 hm'
        have hp' := PlainAt.mono (k + 2) _ _ _ _ hle41 hp'
        have hT := hT.mono hle41
        have hn39 := ArrAt.mono (k + 2) _ _ _ _ hle41 hn39
        refine RW.nil ?_
        refine heldQ_normal ⟨_, _, 2, 0, hs, rfl, rfl⟩ ?_
        refine HW.two (fuel := 6) 6 10 rfl rfl (by kernel_rfl) ?_ ?_
        · (refine RW.call T hs rfl rfl rfl (baseCopy2_con k _ _ (arr (k + 2) c) (arr (k + 2) p) first N0 mN _ _ hT hn39 hn41 hcv Hc.sh.vm (by omega) hppp hN0 Hp.sh.vm Hp.sh.k0) ?_; intro v h44 w44 hle44 hp44 hs)
          obtain ⟨cs44, rfl, ha44⟩ := hp44
          rw [ha1e] at ha44
          rw [he1e]
          obtain ⟨_, vc44, rfl, ⟨ad44, cap44, rfl, _⟩, hv44⟩ := id ha44
          obtain ⟨wv44, nv44, sm44, il44, fl44, ch44, bx44, ⟨rfl, hoc44⟩, -⟩ := hv44
          have hall44 : (Value.oneCell' (.slice ad44 (ArrD.shape (α := AD (k + 1)) a1).length cap44) && (vecCells (ArrD.vec (α := AD (k + 1)) a1).kind wv44 nv44 sm44 il44 fl44 ch44 bx44).all Value.oneCell') = true := by rw [hoc44]; rfl
          have hc' := PlainAt.mono (k + 2) _ _ _ _ hle44 hc'
          have hm' := PlainAt.mono (k + 2) _ _ _ _ hle44 hm'
          have hp' := PlainAt.mono (k + 2) _ _ _ _ hle44 hp'
          have hT := hT.mono hle44
          have hn39 := ArrAt.mono (k + 2) _ _ _ _ hle44 hn39
          have hn41 := ArrAt.mono (k + 2) _ _ _ _ hle44 hn41
          refine RW.nil ?_
          refine heldQ_normal ⟨_, _, 2, 0, hs, rfl, rfl⟩ ?_
          refine HW.takeR (fuel := 5) 7 rfl (fun _ _ ka kb _ hs hka hkb => Y.move rfl) ⟨_, _, 2, 0, hs, rfl, rfl⟩ rfl (by kernel_rfl) (by kernel_rfl) (by kernel_rfl) ?_
          refine HW.takeR (fuel := 4) 8 rfl (fun _ _ ka kb _ hs hka hkb => Y.extract rfl rfl) ⟨_, _, 2, 0, hs, rfl, rfl⟩ rfl (by kernel_rfl) (by kernel_rfl) (by kernel_rfl) ?_
          refine HW.takeR (fuel := 3) 9 rfl (fun _ _ ka kb _ hs hka hkb => Y.extract rfl rfl) ⟨_, _, 2, 0, hs, rfl, rfl⟩ rfl (by kernel_rfl) (by kernel_rfl) (by kernel_rfl) ?_
          refine HW.one (fuel := 2) 10 rfl (by kernel_rfl) ?_
          (refine RW.allocN T hs rfl rfl rfl rfl ?_; intro b12 w12 hs)
          refine RW.nil ?_
          refine heldQ_normal ⟨_, _, 3, 1, hs, rfl, rfl⟩ ?_
          refine HW.one (fuel := 1) 11 rfl (by kernel_rfl) ?_
          refine RW.storeAll T hs 0 rfl rfl rfl rfl rfl rfl hall44 rfl ?_
          intro w944 hs
          refine RW.nil ?_
          refine heldQ_normal ⟨_, _, 3, 1, hs, rfl, rfl⟩ ?_
          refine HW.takeR (fuel := 0) 12 rfl (fun _ _ ka kb _ hs hka hkb => Y.assign rfl) ⟨_, _, 3, 1, hs, rfl, rfl⟩ rfl (by kernel_rfl) (by kernel_rfl) (by kernel_rfl) ?_
          refine HW.done (by kernel_rfl) ?_
          refine calmQ_normal ?_
          exact joinQ_meet (b12, _, h44) ⟨rfl, rfl, rfl, rfl, rfl, rfl, rfl, trivial⟩ ⟨ha44, hc', hm', hp', hT,  hs⟩
        · (refine RW.allocN T hs rfl rfl rfl rfl ?_; intro b12 w12 hs)
          refine RW.nil ?_
          refine heldQ_normal ⟨_, _, 3, 1, hs, rfl, rfl⟩ ?_
          refine HW.one (fuel := 5) 6 rfl (by kernel_rfl) ?_
          (refine RW.call T hs rfl rfl rfl (baseCopy2_con k _ _ (arr (k + 2) c) (arr (k + 2) p) first N0 mN _ _ hT hn39 hn41 hcv Hc.sh.vm (by omega) hppp hN0 Hp.sh.vm Hp.sh.k0) ?_; intro v h44 w44 hle44 hp44 hs)
          obtain ⟨cs44, rfl, ha44⟩ := hp44
          rw [ha1e] at ha44
          rw [he1e]
          obtain ⟨_, vc44, rfl, ⟨ad44, cap44, rfl, _⟩, hv44⟩ := id ha44
          obtain ⟨wv44, nv44, sm44, il44, fl44, ch44, bx44, ⟨rfl, hoc44⟩, -⟩ := hv44
          have hall44 : (Value.oneCell' (.slice ad44 (ArrD.shape (α := AD (k + 1)) a1).length cap44) && (vecCells (ArrD.vec (α := AD (k + 1)) a1).kind wv44 nv44 sm44 il44 fl44 ch44 bx44).all Value.oneCell') = true := by rw [hoc44]; rfl
          have hc' := PlainAt.mono (k + 2) _ _ _ _ hle44 hc'
          have hm' := PlainAt.mono (k + 2) _ _ _ _ hle44 hm'
          have hp' := PlainAt.mono (k + 2) _ _ _ _ hle44 hp'
          have hT := hT.mono hle44
          have hn39 := ArrAt.mono (k + 2) _ _ _ _ hle44 hn39
          have hn41 := ArrAt.mono (k + 2) _ _ _ _ hle44 hn41
          refine RW.nil ?_
          refine heldQ_normal ⟨_, _, 3, 1, hs, rfl, rfl⟩ ?_
          refine HW.takeR (fuel := 4) 7 rfl (fun _ _ ka kb _ hs hka hkb => Y.move rfl) ⟨_, _, 3, 1, hs, rfl, rfl⟩ rfl (by kernel_rfl) (by kernel_rfl) (by kernel_rfl) ?_
          refine HW.takeR (fuel := 3) 8 rfl (fun _ _ ka kb _ hs hka hkb => Y.extract rfl rfl) ⟨_, _, 3, 1, hs, rfl, rfl⟩ rfl (by kernel_rfl) (by kernel_rfl) (by kernel_rfl) ?_
          refine HW.takeR (fuel := 2) 9 rfl (fun _ _ ka kb _ hs hka hkb => Y.extract rfl rfl) ⟨_, _, 3, 1, hs, rfl, rfl⟩ rfl (by kernel_rfl) (by kernel_rfl) (by kernel_rfl) ?_
          refine HW.one (fuel := 1) 11 rfl (by kernel_rfl) ?_
          refine RW.storeAll T hs 0 rfl rfl rfl rfl rfl rfl hall44 rfl ?_
          intro w944 hs
          refine RW.nil ?_
          refine heldQ_normal ⟨_, _, 3, 1, hs, rfl, rfl⟩ ?_
          refine HW.takeR (fuel := 0) 12 rfl (fun _ _ ka kb _ hs hka hkb => Y.assign rfl) ⟨_, _, 3, 1, hs, rfl, rfl⟩ rfl (by kernel_rfl) (by kernel_rfl) (by kernel_rfl) ?_
          refine HW.done (by kernel_rfl) ?_
          refine calmQ_normal ?_
          exact joinQ_meet (b12, _, h44) ⟨rfl, rfl, rfl, rfl, rfl, rfl, rfl, trivial⟩ ⟨ha44, hc', hm', hp', hT,  hs⟩
      · (refine RW.allocN T hs rfl rfl rfl rfl ?_; intro b12 w12 hs)
        refine RW.nil ?_
        refine heldQ_normal ⟨_, _, 3, 1, hs, rfl, rfl⟩ ?_
        refine HW.one (fuel := 6) 3 rfl (by kernel_rfl) ?_
        (refine RW.call T hs rfl rfl rfl (of07_con (k + 2) _ p _ _ hp' hcp) ?_; intro v h41 w41 hle41 hp41 hs)
        obtain ⟨cs41, rfl, _, _, hn41⟩ := hp41
        have hc' := PlainAt.mono (k + 2) _ _ _ _ hle41 hc'
        have hm' := PlainAt.mono (k + 2) _ _ _ _ hle41 hm'
        have hp' := PlainAt.mono (k + 2) _ _ _ _ hle41 hp'
        have hT := hT.mono hle41
        have hn39 := ArrAt.mono (k + 2) _ _ _ _ hle41 hn39
        refine RW.nil ?_
        refine heldQ_normal ⟨_, _, 3, 1, hs, rfl, rfl⟩ ?_
        refine HW.one (fuel := 5) 6 rfl (by kernel_rfl) ?_
        (refine RW.call T hs rfl rfl rfl (baseCopy2_con k _ _ (arr (k + 2) c) (arr (k + 2) p) first N0 mN _ _ hT hn39 hn41 hcv Hc.sh.vm (by omega) hppp hN0 Hp.sh.vm Hp.sh.k0) ?_; intro v h44 w44 hle44 hp44 hs)
        obtain ⟨cs44, rfl, ha44⟩ := hp44
        rw [ha1e] at ha44
        rw [he1e]
        obtain ⟨_, vc44, rfl, ⟨ad44, cap44, rfl, _⟩, hv44⟩ := id ha44
        obtain ⟨wv44, nv44, sm44, il44, fl44, ch44, bx44, ⟨rfl, hoc44⟩, -⟩ := hv44
        have hall44 : (Value.oneCell' (.slice ad44 (ArrD.shape (α := AD (k + 1)) a1).length cap44) && (vecCells (ArrD.vec (α := AD (k + 1)) a1).kind wv44 nv44 sm44 il44 fl44 ch44 bx44).all Value.oneCell') = true := by rw [hoc44]; rfl
        have hc' := PlainAt.mono (k + 2) _ _ _ _ hle44 hc'
        have hm' := PlainAt.mono (k + 2) _ _ _ _ hle44 hm'
        have hp' := PlainAt.mono (k + 2) _ _ _ _ hle44 hp'
        have hT := hT.mono hle44
        have hn39 := ArrAt.mono (k + 2) _ _ _ _ hle44 hn39
        have hn41 := ArrAt.mono (k + 2) _ _ _ _ hle44 hn41
        refine RW.nil ?_
        refine heldQ_normal ⟨_, _, 3, 1, hs, rfl, rfl⟩ ?_
        refine HW.takeR (fuel := 4) 7 rfl (fun _ _ ka kb _ hs hka hkb => Y.move rfl) ⟨_, _, 3, 1, hs, rfl, rfl⟩ rfl (by kernel_rfl) (by kernel_rfl) (by kernel_rfl) ?_
        refine HW.takeR (fuel := 3) 8 rfl (fun _ _ ka kb _ hs hka hkb => Y.extract rfl rfl) ⟨_, _, 3, 1, hs, rfl, rfl⟩ rfl (by kernel_rfl) (by kernel_rfl) (by kernel_rfl) ?_
        refine HW.takeR (fuel := 2) 9 rfl (fun _ _ ka kb _ hs hka hkb => Y.extract rfl rfl) ⟨_, _, 3, 1, hs, rfl, rfl⟩ rfl (by kernel_rfl) (by kernel_rfl) (by kernel_rfl) ?_
        refine HW.one (fuel := 1) 11 rfl (by kernel_rfl) ?_
        refine RW.storeAll T hs 0 rfl rfl rfl rfl rfl rfl hall44 rfl ?_
        intro w944 hs
        refine RW.nil ?_
        refine heldQ_normal ⟨_, _, 3, 1, hs, rfl, rfl⟩ ?_
        refine HW.takeR (fuel := 0) 12 rfl (fun _ _ ka kb _ hs hka hkb => Y.assign rfl) ⟨_, _, 3, 1, hs, rfl, rfl⟩ rfl (by kernel_rfl) (by kernel_rfl) (by kernel_rfl) ?_
        refine HW.done (by kernel_rfl) ?_
        refine calmQ_normal ?_
        exact joinQ_meet (b12, _, h44) ⟨rfl, rfl, rfl, rfl, rfl, rfl, rfl, trivial⟩ ⟨ha44, hc', hm', hp', hT,  hs⟩
    · (refine RW.allocN T hs rfl rfl rfl rfl ?_; intro b12 w12 hs)
      refine RW.nil ?_
      refine heldQ_normal ⟨_, _, 3, 1, hs, rfl, rfl⟩ ?_
      refine HW.one (fuel := 7) 1 rfl (by kernel_rfl) ?_
      (refine RW.call T hs rfl rfl rfl (of07_con (k + 2) _ c _ _ hc' hcc) ?_; intro v h39 w39 hle39 hp39 hs)
      obtain ⟨cs39, rfl, _, _, hn39⟩ := hp39
      have hc' := PlainAt.mono (k + 2) _ _ _ _ hle39 hc'
      have hm' := PlainAt.mono (k + 2) _ _ _ _ hle39 hm'
      have hp' := PlainAt.mono (k + 2) _ _ _ _ hle39 hp'
      have hT := hT.mono hle39
      refine RW.nil ?_
      refine heldQ_normal ⟨_, _, 3, 1, hs, rfl, rfl⟩ ?_
      refine HW.one (fuel := 6) 3 rfl (by kernel_rfl) ?_
      (refine RW.call T hs rfl rfl rfl (of07_con (k + 2) _ p _ _ hp' hcp) ?_; intro v h41 w41 hle41 hp41 hs)
      obtain ⟨cs41, rfl, _, _, hn41⟩ := hp41
      have hc' := PlainAt.mono (k + 2) _ _ _ _ hle41 hc'
      have hm' := PlainAt.mono (k + 2) _ _ _ _ hle41 hm'
      have hp' := PlainAt.mono (k + 2) _ _ _ _ hle41 hp'
      have hT := hT.mono hle41
      have hn39 := ArrAt.mono (k + 2) _ _ _ _ hle41 hn39
      refine RW.nil ?_
      refine heldQ_normal ⟨_, _, 3, 1, hs, rfl, rfl⟩ ?_
      refine HW.one (fuel := 5) 6 rfl (by kernel_rfl) ?_
      (refine RW.call T hs rfl rfl rfl (baseCopy2_con k _ _ (arr (k + 2) c) (arr (k + 2) p) first N0 mN _ _ hT hn39 hn41 hcv Hc.sh.vm (by omega) hppp hN0 Hp.sh.vm Hp.sh.k0) ?_; intro v h44 w44 hle44 hp44 hs)
      obtain ⟨cs44, rfl, ha44⟩ := hp44
      rw [ha1e] at ha44
      rw [he1e]
      obtain ⟨_, vc44, rfl, ⟨ad44, cap44, rfl, _⟩, hv44⟩ := id ha44
      obtain ⟨wv44, nv44, sm44, il44, fl44, ch44, bx44, ⟨rfl, hoc44⟩, -⟩ := hv44
      have hall44 : (Value.oneCell' (.slice ad44 (ArrD.shape (α := AD (k + 1)) a1).length cap44) && (vecCells (ArrD.vec (α := AD (k + 1)) a1).kind wv44 nv44 sm44 il44 fl44 ch44 bx44).all Value.oneCell') = true := by rw [hoc44]; rfl
      have hc' := PlainAt.mono (k + 2) _ _ _ _ hle44 hc'
      have hm' := PlainAt.mono (k + 2) _ _ _ _ hle44 hm'
      have hp' := PlainAt.mono (k + 2) _ _ _ _ hle44 hp'
      have hT := hT.mono hle44
      have hn39 := ArrAt.mono (k + 2) _ _ _ _ hle44 hn39
      have hn41 := ArrAt.mono (k + 2) _ _ _ _ hle44 hn41
      refine RW.nil ?_
      refine heldQ_normal ⟨_, _, 3, 1, hs, rfl, rfl⟩ ?_
      refine HW.takeR (fuel := 4) 7 rfl (fun _ _ ka kb _ hs hka hkb => Y.move rfl) ⟨_, _, 3, 1, hs, rfl, rfl⟩ rfl (by kernel_rfl) (by kernel_rfl) (by kernel_rfl) ?_
      refine HW.takeR (fuel := 3) 8 rfl (fun _ _ ka kb _ hs hka hkb => Y.extract rfl rfl) ⟨_, _, 3, 1, hs, rfl, rfl⟩ rfl (by kernel_rfl) (by kernel_rfl) (by kernel_rfl) ?_
      refine HW.takeR (fuel := 2) 9 rfl (fun _ _ ka kb _ hs hka hkb => Y.extract rfl rfl) ⟨_, _, 3, 1, hs, rfl, rfl⟩ rfl (by kernel_rfl) (by kernel_rfl) (by kernel_rfl) ?_
      refine HW.one (fuel := 1) 11 rfl (by kernel_rfl) ?_
      refine RW.storeAll T hs 0 rfl rfl rfl rfl rfl rfl hall44 rfl ?_
      intro w944 hs
      refine RW.nil ?_
      refine heldQ_normal ⟨_, _, 3, 1, hs, rfl, rfl⟩ ?_
      refine HW.takeR (fuel := 0) 12 rfl (fun _ _ ka kb _ hs hka hkb => Y.assign rfl) ⟨_, _, 3, 1, hs, rfl, rfl⟩ rfl (by kernel_rfl) (by kernel_rfl) (by kernel_rfl) ?_
      refine HW.done (by kernel_rfl) ?_
      refine calmQ_normal ?_
      exact joinQ_meet (b12, _, h44) ⟨rfl, rfl, rfl, rfl, rfl, rfl, rfl, trivial⟩ ⟨ha44, hc', hm', hp', hT,  hs⟩
  rintro ⟨b12, cs44, h44⟩ w44 ⟨ha1, hc', hm', hp', hT, hs⟩
  dsimp only at ha1 hc' hm' hp' hT hs ⊢
  obtain ⟨_, vc44, rfl, ⟨ad44, cap44, rfl, _⟩, hv44⟩ := id ha1
  obtain ⟨wv44, nv44, sm44, il44, fl44, ch44, bx44, ⟨rfl, hoc44⟩, -⟩ := hv44
  refine Zerun ?_
  refine CW.meet (fun r : Nat × List Value × GHeap => [(3, .bool first), (11, .int .i64 (mN : Int)), (5, .pointer (some ⟨b1, 0, none⟩)), (6, .pointer (some ⟨b2, 0, none⟩)), (7, .pointer (some ⟨b3, 0, none⟩)), (12, .pointer (some ⟨b12, 0, none⟩)), (13, .int .i64 e1), (14, .pointer (some ⟨r.1, 0, none⟩)), (15, .int .i64 e1)]) (fun r w' => PlainAt (k + 2) r.2.2 r.2.1 p1 ∧ PlainAt (k + 2) r.2.2 [.slice ads_c (PlainD.shape (α := PD (k + 1)) c).length cps_c, .slice adi_c (PlainD.items (α := PD (k + 1)) c).length cpi_c, .int .i64 (PlainD.fill (α := PD (k + 1)) c)] c ∧ PlainAt (k + 2) r.2.2 [.slice ads_m (PlainD.shape (α := PD (k + 1)) m).length cps_m, .slice adi_m (PlainD.items (α := PD (k + 1)) m).length cpi_m, .int .i64 (PlainD.fill (α := PD (k + 1)) m)] m ∧ PlainAt (k + 2) r.2.2 [.slice ads_p (PlainD.shape (α := PD (k + 1)) p).length cps_p, .slice adi_p (PlainD.items (α := PD (k + 1)) p).length cpi_p, .int .i64 (PlainD.fill (α := PD (k + 1)) p)] p ∧ TzTab r.2.2 ∧ ArrAt (k + 2) r.2.2 (.slice ad44 (ArrD.shape (α := AD (k + 1)) a1).length cap44 :: vecCells (ArrD.vec (α := AD (k + 1)) a1).kind wv44 nv44 sm44 il44 fl44 ch44 bx44) a1 ∧ Sees w h r.2.2 [⟨some ⟨r.1, 0, none⟩, 1, 1, 25, 3, r.2.1⟩, ⟨some ⟨b12, 0, none⟩, 1, 1, 40, 9, (.slice ad44 (ArrD.shape (α := AD (k + 1)) a1).length cap44 :: vecCells (ArrD.vec (α := AD (k + 1)) a1).kind wv44 nv44 sm44 il44 fl44 ch44 bx44)⟩, ⟨some ⟨b3, 0, none⟩, 1, 1, 25, 3, [.slice ads_p (PlainD.shape (α := PD (k + 1)) p).length cps_p, .slice adi_p (PlainD.items (α := PD (k + 1)) p).length cpi_p, .int .i64 (PlainD.fill (α := PD (k + 1)) p)]⟩, ⟨some ⟨b2, 0, none⟩, 1, 1, 25, 3, [.slice ads_m (PlainD.shape (α := PD (k + 1)) m).length cps_m, .slice adi_m (PlainD.items (α := PD (k + 1)) m).length cpi_m, .int .i64 (PlainD.fill (α := PD (k + 1)) m)]⟩, ⟨some ⟨b1, 0, none⟩, 1, 1, 25, 3, [.slice ads_c (PlainD.shape (α := PD (k + 1)) c).length cps_c, .slice adi_c (PlainD.items (α := PD (k + 1)) c).length cpi_c, .int .i64 (PlainD.fill (α := PD (k + 1)) c)]⟩] w') ?_ ?_
  · refine CW.regionR T 3 1 hs rfl rfl ?_
    intro w854 hs
    refine HW.takeR (fuel := 12) 0 rfl (fun _ _ ka kb _ hs hka hkb => Y.loadRowN T hs ka hka rfl rfl rfl rfl rfl rfl) ⟨_, _, 3, 1, hs, rfl, rfl⟩ rfl (by kernel_rfl) (by kernel_rfl) (by kernel_rfl) ?_
    refine HW.takeR (fuel := 11) 2 rfl (fun _ _ ka kb _ hs hka hkb => Y.loadRowN T hs kb hkb rfl rfl rfl rfl rfl rfl) ⟨_, _, 3, 1, hs, rfl, rfl⟩ rfl (by kernel_rfl) (by kernel_rfl) (by kernel_rfl) ?_
    refine HW.takeR (fuel := 10) 4 rfl (fun _ _ ka kb _ hs hka hkb => Y.move rfl) ⟨_, _, 3, 1, hs, rfl, rfl⟩ rfl (by kernel_rfl) (by kernel_rfl) (by kernel_rfl) ?_
    refine HW.takeR (fuel := 9) 5 rfl (fun _ _ ka kb _ hs hka hkb => Y.move rfl) ⟨_, _, 3, 1, hs, rfl, rfl⟩ rfl (by kernel_rfl) (by kernel_rfl) (by kernel_rfl) ?_
    refine HW.two (fuel := 8) 1 10 rfl rfl (by kernel_rfl) ?_ ?_
    · (refine RW.call T hs rfl rfl rfl (refTidyP_con (k + 2) 40 _ c _ _ hc' hcc) ?_; intro v h49 w49 hle49 hp49 hs)
      obtain ⟨cs49, rfl, hq49⟩ := hp49
      have hc' := PlainAt.mono (k + 2) _ _ _ _ hle49 hc'
      have hm' := PlainAt.mono (k + 2) _ _ _ _ hle49 hm'
      have hp' := PlainAt.mono (k + 2) _ _ _ _ hle49 hp'
      have hT := hT.mono hle49
      have ha1 := ArrAt.mono (k + 2) _ _ _ _ hle49 ha1
      refine RW.nil ?_
      refine heldQ_normal ⟨_, _, 3, 1, hs, rfl, rfl⟩ ?_
      refine HW.two (fuel := 7) 3 10 rfl rfl (by kernel_rfl) ?_ ?_
      · (refine RW.call T hs rfl rfl rfl (refTidyP_con (k + 2) 40 _ p _ _ hp' hcp) ?_; intro v h51 w51 hle51 hp51 hs)
        obtain ⟨cs51, rfl, hq51⟩ := hp51
        have hc' := PlainAt.mono (k + 2) _ _ _ _ hle51 hc'
        have hm' := PlainAt.mono (k + 2) _ _ _ _ hle51 hm'
        have hp' := PlainAt.mono (k + 2) _ _ _ _ hle51 hp'
        have hT := hT.mono hle51
        have ha1 := ArrAt.mono (k + 2) _ _ _ _ hle51 ha1
        have hq49 := PlainAt.mono (k + 2) _ _ _ _ hle51 hq49
        refine RW.nil ?_
        refine heldQ_normal ⟨_, _, 3, 1, hs, rfl, rfl⟩ ?_
        refine HW.two (fuel := 6) 6 10 rfl rfl (by kernel_rfl) ?_ ?_
        · (refine RW.call T hs rfl rfl rfl (ref27Copy_con k _ _ (tidy (k + 2) c) (tidy (k + 2) p) first N0 mN _ _ hq51 hq49 htdc hlc (by omega) hprR hN0 hvmR) ?_; intro v h54 w54 hle54 hp54 hs)
          obtain ⟨cs54, rfl, hq54⟩ := hp54
          rw [hp1e] at hq54
          rw [eq1]
          have hq54 : PlainAt (k + 2) h54 cs54 p1 := hq54
          obtain ⟨s54, it54, rfl, ⟨adS54, cpS54, rfl, _⟩, ⟨adI54, cpI54, xsI54, rfl, _, _⟩⟩ := id hq54
          have hc' := PlainAt.mono (k + 2) _ _ _ _ hle54 hc'
          have hm' := PlainAt.mono (k + 2) _ _ _ _ hle54 hm'
          have hp' := PlainAt.mono (k + 2) _ _ _ _ hle54 hp'
          have hT := hT.mono hle54
          have ha1 := ArrAt.mono (k + 2) _ _ _ _ hle54 ha1
          have hq49 := PlainAt.mono (k + 2) _ _ _ _ hle54 hq49
          have hq51 := PlainAt.mono (k + 2) _ _ _ _ hle54 hq51
          refine RW.nil ?_
          refine heldQ_normal ⟨_, _, 3, 1, hs, rfl, rfl⟩ ?_
          refine HW.takeR (fuel := 5) 7 rfl (fun _ _ ka kb _ hs hka hkb => Y.move rfl) ⟨_, _, 3, 1, hs, rfl, rfl⟩ rfl (by kernel_rfl) (by kernel_rfl) (by kernel_rfl) ?_
          refine HW.takeR (fuel := 4) 8 rfl (fun _ _ ka kb _ hs hka hkb => Y.extract rfl rfl) ⟨_, _, 3, 1, hs, rfl, rfl⟩ rfl (by kernel_rfl) (by kernel_rfl) (by kernel_rfl) ?_
          refine HW.takeR (fuel := 3) 9 rfl (fun _ _ ka kb _ hs hka hkb => Y.extract rfl rfl) ⟨_, _, 3, 1, hs, rfl, rfl⟩ rfl (by kernel_rfl) (by kernel_rfl) (by kernel_rfl) ?_
          refine HW.one (fuel := 2) 10 rfl (by kernel_rfl) ?_
          (refine RW.allocN T hs rfl rfl rfl rfl ?_; intro b14 w14 hs)
          refine RW.nil ?_
          refine heldQ_normal ⟨_, _, 4, 2, hs, rfl, rfl⟩ ?_
          refine HW.one (fuel := 1) 11 rfl (by kernel_rfl) ?_
          refine RW.storeAll T hs 0 rfl rfl rfl rfl rfl rfl rfl rfl ?_
          intro w954 hs
          refine RW.nil ?_
          refine heldQ_normal ⟨_, _, 4, 2, hs, rfl, rfl⟩ ?_
          refine HW.takeR (fuel := 0) 12 rfl (fun _ _ ka kb _ hs hka hkb => Y.assign rfl) ⟨_, _, 4, 2, hs, rfl, rfl⟩ rfl (by kernel_rfl) (by kernel_rfl) (by kernel_rfl) ?_
          refine HW.done (by kernel_rfl) ?_
          refine calmQ_normal ?_
          exact joinQ_meet (b14, _, h54) ⟨rfl, rfl, rfl, rfl, rfl, rfl, rfl, rfl, rfl, trivial⟩ ⟨hq54, hc', hm', hp', hT, ha1,  hs⟩
        · (refine RW.allocN T hs rfl rfl rfl rfl ?_; intro b14 w14 hs)
          refine RW.nil ?_
          refine heldQ_normal ⟨_, _, 4, 2, hs, rfl, rfl⟩ ?_
          refine HW.one (fuel := 5) 6 rfl (by kernel_rfl) ?_
          (refine RW.call T hs rfl rfl rfl (ref27Copy_con k _ _ (tidy (k + 2) c) (tidy (k + 2) p) first N0 mN _ _ hq51 hq49 htdc hlc (by omega) hprR hN0 hvmR) ?_; intro v h54 w54 hle54 hp54 hs)
          obtain ⟨cs54, rfl, hq54⟩ := hp54
          rw [hp1e] at hq54
          rw [eq1]
          have hq54 : PlainAt (k + 2) h54 cs54 p1 := hq54
          obtain ⟨s54, it54, rfl, ⟨adS54, cpS54, rfl, _⟩, ⟨adI54, cpI54, xsI54, rfl, _, _⟩⟩ := id hq54
          have hc' := PlainAt.mono (k + 2) _ _ _ _ hle54 hc'
          have hm' := PlainAt.mono (k + 2) _ _ _ _ hle54 hm'
          have hp' := PlainAt.mono (k + 2) _ _ _ _ hle54 hp'
          have hT := hT.mono hle54
          have ha1 := ArrAt.mono (k + 2) _ _ _ _ hle54 ha1
          have hq49 := PlainAt.mono (k + 2) _ _ _ _ hle54 hq49
          have hq51 := PlainAt.mono (k + 2) _ _ _ _ hle54 hq51
          refine RW.nil ?_
          refine heldQ_normal ⟨_, _, 4, 2, hs, rfl, rfl⟩ ?_
          refine HW.takeR (fuel := 4) 7 rfl (fun _ _ ka kb _ hs hka hkb => Y.move rfl) ⟨_, _, 4, 2, hs, rfl, rfl⟩ rfl (by kernel_rfl) (by kernel_rfl) (by kernel_rfl) ?_
          refine HW.takeR (fuel := 3) 8 rfl (fun _ _ ka kb _ hs hka hkb => Y.extract rfl rfl) ⟨_, _, 4, 2, hs, rfl, rfl⟩ rfl (by kernel_rfl) (by kernel_rfl) (by kernel_rfl) ?_
          refine HW.takeR (fuel := 2) 9 rfl (fun _ _ ka kb _ hs hka hkb => Y.extract rfl rfl) ⟨_, _, 4, 2, hs, rfl, rfl⟩ rfl (by kernel_rfl) (by kernel_rfl) (by kernel_rfl) ?_
          refine HW.one (fuel := 1) 11 rfl (by kernel_rfl) ?_
          refine RW.storeAll T hs 0 rfl rfl rfl rfl rfl rfl rfl rfl ?_
          intro w954 hs
          refine RW.nil ?_
          refine heldQ_normal ⟨_, _, 4, 2, hs, rfl, rfl⟩ ?_
          refine HW.takeR (fuel := 0) 12 rfl (fun _ _ ka kb _ hs hka hkb => Y.assign rfl) ⟨_, _, 4, 2, hs, rfl, rfl⟩ rfl (by kernel_rfl) (by kernel_rfl) (by kernel_rfl) ?_
          refine HW.done (by kernel_rfl) ?_
          refine calmQ_normal ?_
          exact joinQ_meet (b14, _, h54) ⟨rfl, rfl, rfl, rfl, rfl, rfl, rfl, rfl, rfl, trivial⟩ ⟨hq54, hc', hm', hp', hT, ha1,  hs⟩
      · (refine RW.allocN T hs rfl rfl rfl rfl ?_; intro b14 w14 hs)
        refine RW.nil ?_
        refine heldQ_normal ⟨_, _, 4, 2, hs, rfl, rfl⟩ ?_
        refine HW.one (fuel := 6) 3 rfl (by kernel_rfl) ?_
        (refine RW.call T hs rfl rfl rfl (refTidyP_con (k + 2) 40 _ p _ _ hp' hcp) ?_; intro v h51 w51 hle51 hp51 hs)
        obtain ⟨cs51, rfl, hq51⟩ := hp51
        have hc' := PlainAt.mono (k + 2) _ _ _ _ hle51 hc'
        have hm' := PlainAt.mono (k + 2) _ _ _ _ hle51 hm'
        have hp' := PlainAt.mono (k + 2) _ _ _ _ hle51 hp'
        have hT := hT.mono hle51
        have ha1 := ArrAt.mono (k + 2) _ _ _ _ hle51 ha1
        have hq49 := PlainAt.mono (k + 2) _ _ _ _ hle51 hq49
        refine RW.nil ?_
        refine heldQ_normal ⟨_, _, 4, 2, hs, rfl, rfl⟩ ?_
        refine HW.one (fuel := 5) 6 rfl (by kernel_rfl) ?_
        (refine RW.call T hs rfl rfl rfl (ref27Copy_con k _ _ (tidy (k + 2) c) (tidy (k + 2) p) first N0 mN _ _ hq51 hq49 htdc hlc (by omega) hprR hN0 hvmR) ?_; intro v h54 w54 hle54 hp54 hs)
        obtain ⟨cs54, rfl, hq54⟩ := hp54
        rw [hp1e] at hq54
        rw [eq1]
        have hq54 : PlainAt (k + 2) h54 cs54 p1 := hq54
        obtain ⟨s54, it54, rfl, ⟨adS54, cpS54, rfl, _⟩, ⟨adI54, cpI54, xsI54, rfl, _, _⟩⟩ := id hq54
        have hc' := PlainAt.mono (k + 2) _ _ _ _ hle54 hc'
        have hm' := PlainAt.mono (k + 2) _ _ _ _ hle54 hm'
        have hp' := PlainAt.mono (k + 2) _ _ _ _ hle54 hp'
        have hT := hT.mono hle54
        have ha1 := ArrAt.mono (k + 2) _ _ _ _ hle54 ha1
        have hq49 := PlainAt.mono (k + 2) _ _ _ _ hle54 hq49
        have hq51 := PlainAt.mono (k + 2) _ _ _ _ hle54 hq51
        refine RW.nil ?_
        refine heldQ_normal ⟨_, _, 4, 2, hs, rfl, rfl⟩ ?_
        refine HW.takeR (fuel := 4) 7 rfl (fun _ _ ka kb _ hs hka hkb => Y.move rfl) ⟨_, _, 4, 2, hs, rfl, rfl⟩ rfl (by kernel_rfl) (by kernel_rfl) (by kernel_rfl) ?_
        refine HW.takeR (fuel := 3) 8 rfl (fun _ _ ka kb _ hs hka hkb => Y.extract rfl rfl) ⟨_, _, 4, 2, hs, rfl, rfl⟩ rfl (by kernel_rfl) (by kernel_rfl) (by kernel_rfl) ?_
        refine HW.takeR (fuel := 2) 9 rfl (fun _ _ ka kb _ hs hka hkb => Y.extract rfl rfl) ⟨_, _, 4, 2, hs, rfl, rfl⟩ rfl (by kernel_rfl) (by kernel_rfl) (by kernel_rfl) ?_
        refine HW.one (fuel := 1) 11 rfl (by kernel_rfl) ?_
        refine RW.storeAll T hs 0 rfl rfl rfl rfl rfl rfl rfl rfl ?_
        intro w954 hs
        refine RW.nil ?_
        refine heldQ_normal ⟨_, _, 4, 2, hs, rfl, rfl⟩ ?_
        refine HW.takeR (fuel := 0) 12 rfl (fun _ _ ka kb _ hs hka hkb => Y.assign rfl) ⟨_, _, 4, 2, hs, rfl, rfl⟩ rfl (by kernel_rfl) (by kernel_rfl) (by kernel_rfl) ?_
        refine HW.done (by kernel_rfl) ?_
        refine calmQ_normal ?_
        exact joinQ_meet (b14, _, h54) ⟨rfl, rfl, rfl, rfl, rfl, rfl, rfl, rfl, rfl, trivial⟩ ⟨hq54, hc', hm', hp', hT, ha1,  hs⟩
    · (refine RW.allocN T hs rfl rfl rfl rfl ?_; intro b14 w14 hs)
      refine RW.nil ?_
      refine heldQ_normal ⟨_, _, 4, 2, hs, rfl, rfl⟩ ?_
      refine HW.one (fuel := 7) 1 rfl (by kernel_rfl) ?_
      (refine RW.call T hs rfl rfl rfl (refTidyP_con (k + 2) 40 _ c _ _ hc' hcc) ?_; intro v h49 w49 hle49 hp49 hs)
      obtain ⟨cs49, rfl, hq49⟩ := hp49
      have hc' := PlainAt.mono (k + 2) _ _ _ _ hle49 hc'
      have hm' := PlainAt.mono (k + 2) _ _ _ _ hle49 hm'
      have hp' := PlainAt.mono (k + 2) _ _ _ _ hle49 hp'
      have hT := hT.mono hle49
      have ha1 := ArrAt.mono (k + 2) _ _ _ _ hle49 ha1
      refine RW.nil ?_
      refine heldQ_normal ⟨_, _, 4, 2, hs, rfl, rfl⟩ ?_
      refine HW.one (fuel := 6) 3 rfl (by kernel_rfl) ?_
      (refine RW.call T hs rfl rfl rfl (refTidyP_con (k + 2) 40 _ p _ _ hp' hcp) ?_; intro v h51 w51 hle51 hp51 hs)
      obtain ⟨cs51, rfl, hq51⟩ := hp51
      have hc' := PlainAt.mono (k + 2) _ _ _ _ hle51 hc'
      have hm' := PlainAt.mono (k + 2) _ _ _ _ hle51 hm'
      have hp' := PlainAt.mono (k + 2) _ _ _ _ hle51 hp'
      have hT := hT.mono hle51
      have ha1 := ArrAt.mono (k + 2) _ _ _ _ hle51 ha1
      have hq49 := PlainAt.mono (k + 2) _ _ _ _ hle51 hq49
      refine RW.nil ?_
      refine heldQ_normal ⟨_, _, 4, 2, hs, rfl, rfl⟩ ?_
      refine HW.one (fuel := 5) 6 rfl (by kernel_rfl) ?_
      (refine RW.call T hs rfl rfl rfl (ref27Copy_con k _ _ (tidy (k + 2) c) (tidy (k + 2) p) first N0 mN _ _ hq51 hq49 htdc hlc (by omega) hprR hN0 hvmR) ?_; intro v h54 w54 hle54 hp54 hs)
      obtain ⟨cs54, rfl, hq54⟩ := hp54
      rw [hp1e] at hq54
      rw [eq1]
      have hq54 : PlainAt (k + 2) h54 cs54 p1 := hq54
      obtain ⟨s54, it54, rfl, ⟨adS54, cpS54, rfl, _⟩, ⟨adI54, cpI54, xsI54, rfl, _, _⟩⟩ := id hq54
      have hc' := PlainAt.mono (k + 2) _ _ _ _ hle54 hc'
      have hm' := PlainAt.mono (k + 2) _ _ _ _ hle54 hm'
      have hp' := PlainAt.mono (k + 2) _ _ _ _ hle54 hp'
      have hT := hT.mono hle54
      have ha1 := ArrAt.mono (k + 2) _ _ _ _ hle54 ha1
      have hq49 := PlainAt.mono (k + 2) _ _ _ _ hle54 hq49
      have hq51 := PlainAt.mono (k + 2) _ _ _ _ hle54 hq51
      refine RW.nil ?_
      refine heldQ_normal ⟨_, _, 4, 2, hs, rfl, rfl⟩ ?_
      refine HW.takeR (fuel := 4) 7 rfl (fun _ _ ka kb _ hs hka hkb => Y.move rfl) ⟨_, _, 4, 2, hs, rfl, rfl⟩ rfl (by kernel_rfl) (by kernel_rfl) (by kernel_rfl) ?_
      refine HW.takeR (fuel := 3) 8 rfl (fun _ _ ka kb _ hs hka hkb => Y.extract rfl rfl) ⟨_, _, 4, 2, hs, rfl, rfl⟩ rfl (by kernel_rfl) (by kernel_rfl) (by kernel_rfl) ?_
      refine HW.takeR (fuel := 2) 9 rfl (fun _ _ ka kb _ hs hka hkb => Y.extract rfl rfl) ⟨_, _, 4, 2, hs, rfl, rfl⟩ rfl (by kernel_rfl) (by kernel_rfl) (by kernel_rfl) ?_
      refine HW.one (fuel := 1) 11 rfl (by kernel_rfl) ?_
      refine RW.storeAll T hs 0 rfl rfl rfl rfl rfl rfl rfl rfl ?_
      intro w954 hs
      refine RW.nil ?_
      refine heldQ_normal ⟨_, _, 4, 2, hs, rfl, rfl⟩ ?_
      refine HW.takeR (fuel := 0) 12 rfl (fun _ _ ka kb _ hs hka hkb => Y.assign rfl) ⟨_, _, 4, 2, hs, rfl, rfl⟩ rfl (by kernel_rfl) (by kernel_rfl) (by kernel_rfl) ?_
      refine HW.done (by kernel_rfl) ?_
      refine calmQ_normal ?_
      exact joinQ_meet (b14, _, h54) ⟨rfl, rfl, rfl, rfl, rfl, rfl, rfl, rfl, rfl, trivial⟩ ⟨hq54, hc', hm', hp', hT, ha1,  hs⟩
  rintro ⟨b14, cs54, h54⟩ w54 ⟨hp1, hc', hm', hp', hT, ha1, hs⟩
  dsimp only at hp1 hc' hm' hp' hT ha1 hs ⊢
  obtain ⟨s54, it54, rfl, ⟨adS54, cpS54, rfl, _⟩, ⟨adI54, cpI54, xsI54, rfl, _, _⟩⟩ := id hp1
  refine Zerun ?_
  refine CW.meet (fun r : Nat × List Value × GHeap => [(3, .bool first), (11, .int .i64 (mN : Int)), (5, .pointer (some ⟨b1, 0, none⟩)), (6, .pointer (some ⟨b2, 0, none⟩)), (7, .pointer (some ⟨b3, 0, none⟩)), (12, .pointer (some ⟨b12, 0, none⟩)), (13, .int .i64 e1), (14, .pointer (some ⟨b14, 0, none⟩)), (15, .int .i64 e1), (16, .pointer (some ⟨r.1, 0, none⟩)), (17, .int .i64 e2)]) (fun r w' => ArrAt (k + 2) r.2.2 r.2.1 a2 ∧ PlainAt (k + 2) r.2.2 [.slice ads_c (PlainD.shape (α := PD (k + 1)) c).length cps_c, .slice adi_c (PlainD.items (α := PD (k + 1)) c).length cpi_c, .int .i64 (PlainD.fill (α := PD (k + 1)) c)] c ∧ PlainAt (k + 2) r.2.2 [.slice ads_m (PlainD.shape (α := PD (k + 1)) m).length cps_m, .slice adi_m (PlainD.items (α := PD (k + 1)) m).length cpi_m, .int .i64 (PlainD.fill (α := PD (k + 1)) m)] m ∧ PlainAt (k + 2) r.2.2 [.slice ads_p (PlainD.shape (α := PD (k + 1)) p).length cps_p, .slice adi_p (PlainD.items (α := PD (k + 1)) p).length cpi_p, .int .i64 (PlainD.fill (α := PD (k + 1)) p)] p ∧ TzTab r.2.2 ∧ ArrAt (k + 2) r.2.2 (.slice ad44 (ArrD.shape (α := AD (k + 1)) a1).length cap44 :: vecCells (ArrD.vec (α := AD (k + 1)) a1).kind wv44 nv44 sm44 il44 fl44 ch44 bx44) a1 ∧ PlainAt (k + 2) r.2.2 [.slice adS54 (PlainD.shape (α := PD (k + 1)) p1).length cpS54, .slice adI54 (PlainD.items (α := PD (k + 1)) p1).length cpI54, .int .i64 (PlainD.fill (α := PD (k + 1)) p1)] p1 ∧ Sees w h r.2.2 [⟨some ⟨r.1, 0, none⟩, 1, 1, 40, 9, r.2.1⟩, ⟨some ⟨b14, 0, none⟩, 1, 1, 25, 3, [.slice adS54 (PlainD.shape (α := PD (k + 1)) p1).length cpS54, .slice adI54 (PlainD.items (α := PD (k + 1)) p1).length cpI54, .int .i64 (PlainD.fill (α := PD (k + 1)) p1)]⟩, ⟨some ⟨b12, 0, none⟩, 1, 1, 40, 9, (.slice ad44 (ArrD.shape (α := AD (k + 1)) a1).length cap44 :: vecCells (ArrD.vec (α := AD (k + 1)) a1).kind wv44 nv44 sm44 il44 fl44 ch44 bx44)⟩, ⟨some ⟨b3, 0, none⟩, 1, 1, 25, 3, [.slice ads_p (PlainD.shape (α := PD (k + 1)) p).length cps_p, .slice adi_p (PlainD.items (α := PD (k + 1)) p).length cpi_p, .int .i64 (PlainD.fill (α := PD (k + 1)) p)]⟩, ⟨some ⟨b2, 0, none⟩, 1, 1, 25, 3, [.slice ads_m (PlainD.shape (α := PD (k + 1)) m).length cps_m, .slice adi_m (PlainD.items (α := PD (k + 1)) m).length cpi_m, .int .i64 (PlainD.fill (α := PD (k + 1)) m)]⟩, ⟨some ⟨b1, 0, none⟩, 1, 1, 25, 3, [.slice ads_c (PlainD.shape (α := PD (k + 1)) c).length cps_c, .slice adi_c (PlainD.items (α := PD (k + 1)) c).length cpi_c, .int .i64 (PlainD.fill (α := PD (k + 1)) c)]⟩] w') ?_ ?_
  · refine CW.regionR T 3 2 hs rfl rfl ?_
    intro w864 hs
    refine HW.takeR (fuel := 12) 0 rfl (fun _ _ ka kb _ hs hka hkb => Y.loadRowN T hs ka hka rfl rfl rfl rfl rfl rfl) ⟨_, _, 3, 2, hs, rfl, rfl⟩ rfl (by kernel_rfl) (by kernel_rfl) (by kernel_rfl) ?_
    refine HW.takeR (fuel := 11) 2 rfl (fun _ _ ka kb _ hs hka hkb => Y.loadRowN T hs kb hkb rfl rfl rfl rfl rfl rfl) ⟨_, _, 3, 2, hs, rfl, rfl⟩ rfl (by kernel_rfl) (by kernel_rfl) (by kernel_rfl) ?_
    refine HW.takeR (fuel := 10) 4 rfl (fun _ _ ka kb _ hs hka hkb => Y.move rfl) ⟨_, _, 3, 2, hs, rfl, rfl⟩ rfl (by kernel_rfl) (by kernel_rfl) (by kernel_rfl) ?_
    refine HW.takeR (fuel := 9) 5 rfl (fun _ _ ka kb _ hs hka hkb => Y.move rfl) ⟨_, _, 3, 2, hs, rfl, rfl⟩ rfl (by kernel_rfl) (by kernel_rfl) (by kernel_rfl) ?_
    refine HW.two (fuel := 8) 1 10 rfl rfl (by kernel_rfl) ?_ ?_
    · (refine RW.call T hs rfl rfl rfl (of07_con (k + 2) _ m _ _ hm' hcm) ?_; intro v h59 w59 hle59 hp59 hs)
      obtain ⟨cs59, rfl, _, _, hn59⟩ := hp59
      have hc' := PlainAt.mono (k + 2) _ _ _ _ hle59 hc'
      have hm' := PlainAt.mono (k + 2) _ _ _ _ hle59 hm'
      have hp' := PlainAt.mono (k + 2) _ _ _ _ hle59 hp'
      have hT := hT.mono hle59
      have ha1 := ArrAt.mono (k + 2) _ _ _ _ hle59 ha1
      have hp1 := PlainAt.mono (k + 2) _ _ _ _ hle59 hp1
      refine RW.nil ?_
      refine heldQ_normal ⟨_, _, 3, 2, hs, rfl, rfl⟩ ?_
      refine HW.two (fuel := 7) 3 10 rfl rfl (by kernel_rfl) ?_ ?_
      · (refine RW.call T hs rfl rfl rfl (of07_con (k + 2) _ p _ _ hp' hcp) ?_; intro v h61 w61 hle61 hp61 hs)
        obtain ⟨cs61, rfl, _, _, hn61⟩ := hp61
        have hc' := PlainAt.mono (k + 2) _ _ _ _ hle61 hc'
        have hm' := PlainAt.mono (k + 2) _ _ _ _ hle61 hm'
        have hp' := PlainAt.mono (k + 2) _ _ _ _ hle61 hp'
        have hT := hT.mono hle61
        have ha1 := ArrAt.mono (k + 2) _ _ _ _ hle61 ha1
        have hp1 := PlainAt.mono (k + 2) _ _ _ _ hle61 hp1
        have hn59 := ArrAt.mono (k + 2) _ _ _ _ hle61 hn59
        refine RW.nil ?_
        refine heldQ_normal ⟨_, _, 3, 2, hs, rfl, rfl⟩ ?_
        refine HW.two (fuel := 6) 6 10 rfl rfl (by kernel_rfl) ?_ ?_
        · (refine RW.call T hs rfl rfl rfl (baseExpand_con k _ _ (arr (k + 2) m) (arr (k + 2) p) first N0 mN _ _ hn59 hn61 Hm.sh.vm Hm.sh.k0 (by omega) hppp hN0 Hp.sh.vm Hp.sh.k0) ?_; intro v h64 w64 hle64 hp64 hs)
          obtain ⟨cs64, rfl, ha64⟩ := hp64
          rw [ha2e] at ha64
          rw [he2e]
          obtain ⟨_, vc64, rfl, ⟨ad64, cap64, rfl, _⟩, hv64⟩ := id ha64
          obtain ⟨wv64, nv64, sm64, il64, fl64, ch64, bx64, ⟨rfl, hoc64⟩, -⟩ := hv64
          have hall64 : (Value.oneCell' (.slice ad64 (ArrD.shape (α := AD (k + 1)) a2).length cap64) && (vecCells (ArrD.vec (α := AD (k + 1)) a2).kind wv64 nv64 sm64 il64 fl64 ch64 bx64).all Value.oneCell') = true := by rw [hoc64]; rfl
          have hc' := PlainAt.mono (k + 2) _ _ _ _ hle64 hc'
          have hm' := PlainAt.mono (k + 2) _ _ _ _ hle64 hm'
          have hp' := PlainAt.mono (k + 2) _ _ _ _ hle64 hp'
          have hT := hT.mono hle64
          have ha1 := ArrAt.mono (k + 2) _ _ _ _ hle64 ha1
          have hp1 := PlainAt.mono (k + 2) _ _ _ _ hle64 hp1
          have hn59 := ArrAt.mono (k + 2) _ _ _ _ hle64 hn59
          have hn61 := ArrAt.mono (k + 2) _ _ _ _ hle64 hn61
          refine RW.nil ?_
          refine heldQ_normal ⟨_, _, 3, 2, hs, rfl, rfl⟩ ?_
          refine HW.takeR (fuel := 5) 7 rfl (fun _ _ ka kb _ hs hka hkb => Y.move rfl) ⟨_, _, 3, 2, hs, rfl, rfl⟩ rfl (by kernel_rfl) (by kernel_rfl) (by kernel_rfl) ?_
          refine HW.takeR (fuel := 4) 8 rfl (fun _ _ ka kb _ hs hka hkb => Y.extract rfl rfl) ⟨_, _, 3, 2, hs, rfl, rfl⟩ rfl (by kernel_rfl) (by kernel_rfl) (by kernel_rfl) ?_
          refine HW.takeR (fuel := 3) 9 rfl (fun _ _ ka kb _ hs hka hkb => Y.extract rfl rfl) ⟨_, _, 3, 2, hs, rfl, rfl⟩ rfl (by kernel_rfl) (by kernel_rfl) (by kernel_rfl) ?_
          refine HW.one (fuel := 2) 10 rfl (by kernel_rfl) ?_
          (refine RW.allocN T hs rfl rfl rfl rfl ?_; intro b16 w16 hs)
          refine RW.nil ?_
          refine heldQ_normal ⟨_, _, 4, 3, hs, rfl, rfl⟩ ?_
          refine HW.one (fuel := 1) 11 rfl (by kernel_rfl) ?_
          refine RW.storeAll T hs 0 rfl rfl rfl rfl rfl rfl hall64 rfl ?_
          intro w964 hs
          refine RW.nil ?_
          refine heldQ_normal ⟨_, _, 4, 3, hs, rfl, rfl⟩ ?_
          refine HW.takeR (fuel := 0) 12 rfl (fun _ _ ka kb _ hs hka hkb => Y.assign rfl) ⟨_, _, 4, 3, hs, rfl, rfl⟩ rfl (by kernel_rfl) (by kernel_rfl) (by kernel_rfl) ?_
          refine HW.done (by kernel_rfl) ?_
          refine calmQ_normal ?_
          exact joinQ_meet (b16, _, h64) ⟨rfl, rfl, rfl, rfl, rfl, rfl, rfl, rfl, rfl, rfl, rfl, trivial⟩ ⟨ha64, hc', hm', hp', hT, ha1, hp1,  hs⟩
        · (refine RW.allocN T hs rfl rfl rfl rfl ?_; intro b16 w16 hs)
          refine RW.nil ?_
          refine heldQ_normal ⟨_, _, 4, 3, hs, rfl, rfl⟩ ?_
          refine HW.one (fuel := 5) 6 rfl (by kernel_rfl) ?_
          (refine RW.call T hs rfl rfl rfl (baseExpand_con k _ _ (arr (k + 2) m) (arr (k + 2) p) first N0 mN _ _ hn59 hn61 Hm.sh.vm Hm.sh.k0 (by omega) hppp hN0 Hp.sh.vm Hp.sh.k0) ?_; intro v h64 w64 hle64 hp64 hs)
          obtain ⟨cs64, rfl, ha64⟩ := hp64
          rw [ha2e] at ha64
          rw [he2e]
          obtain ⟨_, vc64, rfl, ⟨ad64, cap64, rfl, _⟩, hv64⟩ := id ha64
          obtain ⟨wv64, nv64, sm64, il64, fl64, ch64, bx64, ⟨rfl, hoc64⟩, -⟩ := hv64
          have hall64 : (Value.oneCell' (.slice ad64 (ArrD.shape (α := AD (k + 1)) a2).length cap64) && (vecCells (ArrD.vec (α := AD (k + 1)) a2).kind wv64 nv64 sm64 il64 fl64 ch64 bx64).all Value.oneCell') = true := by rw [hoc64]; rfl
          have hc' := PlainAt.mono (k + 2) _ _ _ _ hle64 hc'
          have hm' := PlainAt.mono (k + 2) _ _ _ _ hle64 hm'
          have hp' := PlainAt.mono (k + 2) _ _ _ _ hle64 hp'
          have hT := hT.mono hle64
          have ha1 := ArrAt.mono (k + 2) _ _ _ _ hle64 ha1
          have hp1 := PlainAt.mono (k + 2) _ _ _ _ hle64 hp1
          have hn59 := ArrAt.mono (k + 2) _ _ _ _ hle64 hn59
          have hn61 := ArrAt.mono (k + 2) _ _ _ _ hle64 hn61
          refine RW.nil ?_
          refine heldQ_normal ⟨_, _, 4, 3, hs, rfl, rfl⟩ ?_
          refine HW.takeR (fuel := 4) 7 rfl (fun _ _ ka kb _ hs hka hkb => Y.move rfl) ⟨_, _, 4, 3, hs, rfl, rfl⟩ rfl (by kernel_rfl) (by kernel_rfl) (by kernel_rfl) ?_
          refine HW.takeR (fuel := 3) 8 rfl (fun _ _ ka kb _ hs hka hkb => Y.extract rfl rfl) ⟨_, _, 4, 3, hs, rfl, rfl⟩ rfl (by kernel_rfl) (by kernel_rfl) (by kernel_rfl) ?_
          refine HW.takeR (fuel := 2) 9 rfl (fun _ _ ka kb _ hs hka hkb => Y.extract rfl rfl) ⟨_, _, 4, 3, hs, rfl, rfl⟩ rfl (by kernel_rfl) (by kernel_rfl) (by kernel_rfl) ?_
          refine HW.one (fuel := 1) 11 rfl (by kernel_rfl) ?_
          refine RW.storeAll T hs 0 rfl rfl rfl rfl rfl rfl hall64 rfl ?_
          intro w964 hs
          refine RW.nil ?_
          refine heldQ_normal ⟨_, _, 4, 3, hs, rfl, rfl⟩ ?_
          refine HW.takeR (fuel := 0) 12 rfl (fun _ _ ka kb _ hs hka hkb => Y.assign rfl) ⟨_, _, 4, 3, hs, rfl, rfl⟩ rfl (by kernel_rfl) (by kernel_rfl) (by kernel_rfl) ?_
          refine HW.done (by kernel_rfl) ?_
          refine calmQ_normal ?_
          exact joinQ_meet (b16, _, h64) ⟨rfl, rfl, rfl, rfl, rfl, rfl, rfl, rfl, rfl, rfl, rfl, trivial⟩ ⟨ha64, hc', hm', hp', hT, ha1, hp1,  hs⟩
      · (refine RW.allocN T hs rfl rfl rfl rfl ?_; intro b16 w16 hs)
        refine RW.nil ?_
        refine heldQ_normal ⟨_, _, 4, 3, hs, rfl, rfl⟩ ?_
        refine HW.one (fuel := 6) 3 rfl (by kernel_rfl) ?_
        (refine RW.call T hs rfl rfl rfl (of07_con (k + 2) _ p _ _ hp' hcp) ?_; intro v h61 w61 hle61 hp61 hs)
        obtain ⟨cs61, rfl, _, _, hn61⟩ := hp61
        have hc' := PlainAt.mono (k + 2) _ _ _ _ hle61 hc'
        have hm' := PlainAt.mono (k + 2) _ _ _ _ hle61 hm'
        have hp' := PlainAt.mono (k + 2) _ _ _ _ hle61 hp'
        have hT := hT.mono hle61
        have ha1 := ArrAt.mono (k + 2) _ _ _ _ hle61 ha1
        have hp1 := PlainAt.mono (k + 2) _ _ _ _ hle61 hp1
        have hn59 := ArrAt.mono (k + 2) _ _ _ _ hle61 hn59
        refine RW.nil ?_
        refine heldQ_normal ⟨_, _, 4, 3, hs, rfl, rfl⟩ ?_
        refine HW.one (fuel := 5) 6 rfl (by kernel_rfl) ?_
        (refine RW.call T hs rfl rfl rfl (baseExpand_con k _ _ (arr (k + 2) m) (arr (k + 2) p) first N0 mN _ _ hn59 hn61 Hm.sh.vm Hm.sh.k0 (by omega) hppp hN0 Hp.sh.vm Hp.sh.k0) ?_; intro v h64 w64 hle64 hp64 hs)
        obtain ⟨cs64, rfl, ha64⟩ := hp64
        rw [ha2e] at ha64
        rw [he2e]
        obtain ⟨_, vc64, rfl, ⟨ad64, cap64, rfl, _⟩, hv64⟩ := id ha64
        obtain ⟨wv64, nv64, sm64, il64, fl64, ch64, bx64, ⟨rfl, hoc64⟩, -⟩ := hv64
        have hall64 : (Value.oneCell' (.slice ad64 (ArrD.shape (α := AD (k + 1)) a2).length cap64) && (vecCells (ArrD.vec (α := AD (k + 1)) a2).kind wv64 nv64 sm64 il64 fl64 ch64 bx64).all Value.oneCell') = true := by rw [hoc64]; rfl
        have hc' := PlainAt.mono (k + 2) _ _ _ _ hle64 hc'
        have hm' := PlainAt.mono (k + 2) _ _ _ _ hle64 hm'
        have hp' := PlainAt.mono (k + 2) _ _ _ _ hle64 hp'
        have hT := hT.mono hle64
        have ha1 := ArrAt.mono (k + 2) _ _ _ _ hle64 ha1
        have hp1 := PlainAt.mono (k + 2) _ _ _ _ hle64 hp1
        have hn59 := ArrAt.mono (k + 2) _ _ _ _ hle64 hn59
        have hn61 := ArrAt.mono (k + 2) _ _ _ _ hle64 hn61
        refine RW.nil ?_
        refine heldQ_normal ⟨_, _, 4, 3, hs, rfl, rfl⟩ ?_
        refine HW.takeR (fuel := 4) 7 rfl (fun _ _ ka kb _ hs hka hkb => Y.move rfl) ⟨_, _, 4, 3, hs, rfl, rfl⟩ rfl (by kernel_rfl) (by kernel_rfl) (by kernel_rfl) ?_
        refine HW.takeR (fuel := 3) 8 rfl (fun _ _ ka kb _ hs hka hkb => Y.extract rfl rfl) ⟨_, _, 4, 3, hs, rfl, rfl⟩ rfl (by kernel_rfl) (by kernel_rfl) (by kernel_rfl) ?_
        refine HW.takeR (fuel := 2) 9 rfl (fun _ _ ka kb _ hs hka hkb => Y.extract rfl rfl) ⟨_, _, 4, 3, hs, rfl, rfl⟩ rfl (by kernel_rfl) (by kernel_rfl) (by kernel_rfl) ?_
        refine HW.one (fuel := 1) 11 rfl (by kernel_rfl) ?_
        refine RW.storeAll T hs 0 rfl rfl rfl rfl rfl rfl hall64 rfl ?_
        intro w964 hs
        refine RW.nil ?_
        refine heldQ_normal ⟨_, _, 4, 3, hs, rfl, rfl⟩ ?_
        refine HW.takeR (fuel := 0) 12 rfl (fun _ _ ka kb _ hs hka hkb => Y.assign rfl) ⟨_, _, 4, 3, hs, rfl, rfl⟩ rfl (by kernel_rfl) (by kernel_rfl) (by kernel_rfl) ?_
        refine HW.done (by kernel_rfl) ?_
        refine calmQ_normal ?_
        exact joinQ_meet (b16, _, h64) ⟨rfl, rfl, rfl, rfl, rfl, rfl, rfl, rfl, rfl, rfl, rfl, trivial⟩ ⟨ha64, hc', hm', hp', hT, ha1, hp1,  hs⟩
    · (refine RW.allocN T hs rfl rfl rfl rfl ?_; intro b16 w16 hs)
      refine RW.nil ?_
      refine heldQ_normal ⟨_, _, 4, 3, hs, rfl, rfl⟩ ?_
      refine HW.one (fuel := 7) 1 rfl (by kernel_rfl) ?_
      (refine RW.call T hs rfl rfl rfl (of07_con (k + 2) _ m _ _ hm' hcm) ?_; intro v h59 w59 hle59 hp59 hs)
      obtain ⟨cs59, rfl, _, _, hn59⟩ := hp59
      have hc' := PlainAt.mono (k + 2) _ _ _ _ hle59 hc'
      have hm' := PlainAt.mono (k + 2) _ _ _ _ hle59 hm'
      have hp' := PlainAt.mono (k + 2) _ _ _ _ hle59 hp'
      have hT := hT.mono hle59
      have ha1 := ArrAt.mono (k + 2) _ _ _ _ hle59 ha1
      have hp1 := PlainAt.mono (k + 2) _ _ _ _ hle59 hp1
      refine RW.nil ?_
      refine heldQ_normal ⟨_, _, 4, 3, hs, rfl, rfl⟩ ?_
      refine HW.one (fuel := 6) 3 rfl (by kernel_rfl) ?_
      (refine RW.call T hs rfl rfl rfl (of07_con (k + 2) _ p _ _ hp' hcp) ?_; intro v h61 w61 hle61 hp61 hs)
      obtain ⟨cs61, rfl, _, _, hn61⟩ := hp61
      have hc' := PlainAt.mono (k + 2) _ _ _ _ hle61 hc'
      have hm' := PlainAt.mono (k + 2) _ _ _ _ hle61 hm'
      have hp' := PlainAt.mono (k + 2) _ _ _ _ hle61 hp'
      have hT := hT.mono hle61
      have ha1 := ArrAt.mono (k + 2) _ _ _ _ hle61 ha1
      have hp1 := PlainAt.mono (k + 2) _ _ _ _ hle61 hp1
      have hn59 := ArrAt.mono (k + 2) _ _ _ _ hle61 hn59
      refine RW.nil ?_
      refine heldQ_normal ⟨_, _, 4, 3, hs, rfl, rfl⟩ ?_
      refine HW.one (fuel := 5) 6 rfl (by kernel_rfl) ?_
      (refine RW.call T hs rfl rfl rfl (baseExpand_con k _ _ (arr (k + 2) m) (arr (k + 2) p) first N0 mN _ _ hn59 hn61 Hm.sh.vm Hm.sh.k0 (by omega) hppp hN0 Hp.sh.vm Hp.sh.k0) ?_; intro v h64 w64 hle64 hp64 hs)
      obtain ⟨cs64, rfl, ha64⟩ := hp64
      rw [ha2e] at ha64
      rw [he2e]
      obtain ⟨_, vc64, rfl, ⟨ad64, cap64, rfl, _⟩, hv64⟩ := id ha64
      obtain ⟨wv64, nv64, sm64, il64, fl64, ch64, bx64, ⟨rfl, hoc64⟩, -⟩ := hv64
      have hall64 : (Value.oneCell' (.slice ad64 (ArrD.shape (α := AD (k + 1)) a2).length cap64) && (vecCells (ArrD.vec (α := AD (k + 1)) a2).kind wv64 nv64 sm64 il64 fl64 ch64 bx64).all Value.oneCell') = true := by rw [hoc64]; rfl
      have hc' := PlainAt.mono (k + 2) _ _ _ _ hle64 hc'
      have hm' := PlainAt.mono (k + 2) _ _ _ _ hle64 hm'
      have hp' := PlainAt.mono (k + 2) _ _ _ _ hle64 hp'
      have hT := hT.mono hle64
      have ha1 := ArrAt.mono (k + 2) _ _ _ _ hle64 ha1
      have hp1 := PlainAt.mono (k + 2) _ _ _ _ hle64 hp1
      have hn59 := ArrAt.mono (k + 2) _ _ _ _ hle64 hn59
      have hn61 := ArrAt.mono (k + 2) _ _ _ _ hle64 hn61
      refine RW.nil ?_
      refine heldQ_normal ⟨_, _, 4, 3, hs, rfl, rfl⟩ ?_
      refine HW.takeR (fuel := 4) 7 rfl (fun _ _ ka kb _ hs hka hkb => Y.move rfl) ⟨_, _, 4, 3, hs, rfl, rfl⟩ rfl (by kernel_rfl) (by kernel_rfl) (by kernel_rfl) ?_
      refine HW.takeR (fuel := 3) 8 rfl (fun _ _ ka kb _ hs hka hkb => Y.extract rfl rfl) ⟨_, _, 4, 3, hs, rfl, rfl⟩ rfl (by kernel_rfl) (by kernel_rfl) (by kernel_rfl) ?_
      refine HW.takeR (fuel := 2) 9 rfl (fun _ _ ka kb _ hs hka hkb => Y.extract rfl rfl) ⟨_, _, 4, 3, hs, rfl, rfl⟩ rfl (by kernel_rfl) (by kernel_rfl) (by kernel_rfl) ?_
      refine HW.one (fuel := 1) 11 rfl (by kernel_rfl) ?_
      refine RW.storeAll T hs 0 rfl rfl rfl rfl rfl rfl hall64 rfl ?_
      intro w964 hs
      refine RW.nil ?_
      refine heldQ_normal ⟨_, _, 4, 3, hs, rfl, rfl⟩ ?_
      refine HW.takeR (fuel := 0) 12 rfl (fun _ _ ka kb _ hs hka hkb => Y.assign rfl) ⟨_, _, 4, 3, hs, rfl, rfl⟩ rfl (by kernel_rfl) (by kernel_rfl) (by kernel_rfl) ?_
      refine HW.done (by kernel_rfl) ?_
      refine calmQ_normal ?_
      exact joinQ_meet (b16, _, h64) ⟨rfl, rfl, rfl, rfl, rfl, rfl, rfl, rfl, rfl, rfl, rfl, trivial⟩ ⟨ha64, hc', hm', hp', hT, ha1, hp1,  hs⟩
  rintro ⟨b16, cs64, h64⟩ w64 ⟨ha2, hc', hm', hp', hT, ha1, hp1, hs⟩
  dsimp only at ha2 hc' hm' hp' hT ha1 hp1 hs ⊢
  obtain ⟨_, vc64, rfl, ⟨ad64, cap64, rfl, _⟩, hv64⟩ := id ha2
  obtain ⟨wv64, nv64, sm64, il64, fl64, ch64, bx64, ⟨rfl, hoc64⟩, -⟩ := hv64
  refine Zerun ?_
  refine CW.meet (fun r : Nat × List Value × GHeap => [(3, .bool first), (11, .int .i64 (mN : Int)), (5, .pointer (some ⟨b1, 0, none⟩)), (6, .pointer (some ⟨b2, 0, none⟩)), (7, .pointer (some ⟨b3, 0, none⟩)), (12, .pointer (some ⟨b12, 0, none⟩)), (13, .int .i64 e1), (14, .pointer (some ⟨b14, 0, none⟩)), (15, .int .i64 e1), (16, .pointer (some ⟨b16, 0, none⟩)), (17, .int .i64 e2), (18, .pointer (some ⟨r.1, 0, none⟩)), (19, .int .i64 e2)]) (fun r w' => PlainAt (k + 2) r.2.2 r.2.1 p2 ∧ PlainAt (k + 2) r.2.2 [.slice ads_c (PlainD.shape (α := PD (k + 1)) c).length cps_c, .slice adi_c (PlainD.items (α := PD (k + 1)) c).length cpi_c, .int .i64 (PlainD.fill (α := PD (k + 1)) c)] c ∧ PlainAt (k + 2) r.2.2 [.slice ads_m (PlainD.shape (α := PD (k + 1)) m).length cps_m, .slice adi_m (PlainD.items (α := PD (k + 1)) m).length cpi_m, .int .i64 (PlainD.fill (α := PD (k + 1)) m)] m ∧ PlainAt (k + 2) r.2.2 [.slice ads_p (PlainD.shape (α := PD (k + 1)) p).length cps_p, .slice adi_p (PlainD.items (α := PD (k + 1)) p).length cpi_p, .int .i64 (PlainD.fill (α := PD (k + 1)) p)] p ∧ TzTab r.2.2 ∧ ArrAt (k + 2) r.2.2 (.slice ad44 (ArrD.shape (α := AD (k + 1)) a1).length cap44 :: vecCells (ArrD.vec (α := AD (k + 1)) a1).kind wv44 nv44 sm44 il44 fl44 ch44 bx44) a1 ∧ PlainAt (k + 2) r.2.2 [.slice adS54 (PlainD.shape (α := PD (k + 1)) p1).length cpS54, .slice adI54 (PlainD.items (α := PD (k + 1)) p1).length cpI54, .int .i64 (PlainD.fill (α := PD (k + 1)) p1)] p1 ∧ ArrAt (k + 2) r.2.2 (.slice ad64 (ArrD.shape (α := AD (k + 1)) a2).length cap64 :: vecCells (ArrD.vec (α := AD (k + 1)) a2).kind wv64 nv64 sm64 il64 fl64 ch64 bx64) a2 ∧ Sees w h r.2.2 [⟨some ⟨r.1, 0, none⟩, 1, 1, 25, 3, r.2.1⟩, ⟨some ⟨b16, 0, none⟩, 1, 1, 40, 9, (.slice ad64 (ArrD.shape (α := AD (k + 1)) a2).length cap64 :: vecCells (ArrD.vec (α := AD (k + 1)) a2).kind wv64 nv64 sm64 il64 fl64 ch64 bx64)⟩, ⟨some ⟨b14, 0, none⟩, 1, 1, 25, 3, [.slice adS54 (PlainD.shape (α := PD (k + 1)) p1).length cpS54, .slice adI54 (PlainD.items (α := PD (k + 1)) p1).length cpI54, .int .i64 (PlainD.fill (α := PD (k + 1)) p1)]⟩, ⟨some ⟨b12, 0, none⟩, 1, 1, 40, 9, (.slice ad44 (ArrD.shape (α := AD (k + 1)) a1).length cap44 :: vecCells (ArrD.vec (α := AD (k + 1)) a1).kind wv44 nv44 sm44 il44 fl44 ch44 bx44)⟩, ⟨some ⟨b3, 0, none⟩, 1, 1, 25, 3, [.slice ads_p (PlainD.shape (α := PD (k + 1)) p).length cps_p, .slice adi_p (PlainD.items (α := PD (k + 1)) p).length cpi_p, .int .i64 (PlainD.fill (α := PD (k + 1)) p)]⟩, ⟨some ⟨b2, 0, none⟩, 1, 1, 25, 3, [.slice ads_m (PlainD.shape (α := PD (k + 1)) m).length cps_m, .slice adi_m (PlainD.items (α := PD (k + 1)) m).length cpi_m, .int .i64 (PlainD.fill (α := PD (k + 1)) m)]⟩, ⟨some ⟨b1, 0, none⟩, 1, 1, 25, 3, [.slice ads_c (PlainD.shape (α := PD (k + 1)) c).length cps_c, .slice adi_c (PlainD.items (α := PD (k + 1)) c).length cpi_c, .int .i64 (PlainD.fill (α := PD (k + 1)) c)]⟩] w') ?_ ?_
  · refine CW.regionR T 4 3 hs rfl rfl ?_
    intro w874 hs
    refine HW.takeR (fuel := 12) 0 rfl (fun _ _ ka kb _ hs hka hkb => Y.loadRowN T hs ka hka rfl rfl rfl rfl rfl rfl) ⟨_, _, 4, 3, hs, rfl, rfl⟩ rfl (by kernel_rfl) (by kernel_rfl) (by kernel_rfl) ?_
    refine HW.takeR (fuel := 11) 2 rfl (fun _ _ ka kb _ hs hka hkb => Y.loadRowN T hs kb hkb rfl rfl rfl rfl rfl rfl) ⟨_, _, 4, 3, hs, rfl, rfl⟩ rfl (by kernel_rfl) (by kernel_rfl) (by kernel_rfl) ?_
    refine HW.takeR (fuel := 10) 4 rfl (fun _ _ ka kb _ hs hka hkb => Y.move rfl) ⟨_, _, 4, 3, hs, rfl, rfl⟩ rfl (by kernel_rfl) (by kernel_rfl) (by kernel_rfl) ?_
    refine HW.takeR (fuel := 9) 5 rfl (fun _ _ ka kb _ hs hka hkb => Y.move rfl) ⟨_, _, 4, 3, hs, rfl, rfl⟩ rfl (by kernel_rfl) (by kernel_rfl) (by kernel_rfl) ?_
    refine HW.two (fuel := 8) 1 10 rfl rfl (by kernel_rfl) ?_ ?_
    · (refine RW.call T hs rfl rfl rfl (refTidyP_con (k + 2) 40 _ m _ _ hm' hcm) ?_; intro v h69 w69 hle69 hp69 hs)
      obtain ⟨cs69, rfl, hq69⟩ := hp69
      have hc' := PlainAt.mono (k + 2) _ _ _ _ hle69 hc'
      have hm' := PlainAt.mono (k + 2) _ _ _ _ hle69 hm'
      have hp' := PlainAt.mono (k + 2) _ _ _ _ hle69 hp'
      have hT := hT.mono hle69
      have ha1 := ArrAt.mono (k + 2) _ _ _ _ hle69 ha1
      have hp1 := PlainAt.mono (k + 2) _ _ _ _ hle69 hp1
      have ha2 := ArrAt.mono (k + 2) _ _ _ _ hle69 ha2
      refine RW.nil ?_
      refine heldQ_normal ⟨_, _, 4, 3, hs, rfl, rfl⟩ ?_
      refine HW.two (fuel := 7) 3 10 rfl rfl (by kernel_rfl) ?_ ?_
      · (refine RW.call T hs rfl rfl rfl (refTidyP_con (k + 2) 40 _ p _ _ hp' hcp) ?_; intro v h71 w71 hle71 hp71 hs)
        obtain ⟨cs71, rfl, hq71⟩ := hp71
        have hc' := PlainAt.mono (k + 2) _ _ _ _ hle71 hc'
        have hm' := PlainAt.mono (k + 2) _ _ _ _ hle71 hm'
        have hp' := PlainAt.mono (k + 2) _ _ _ _ hle71 hp'
        have hT := hT.mono hle71
        have ha1 := ArrAt.mono (k + 2) _ _ _ _ hle71 ha1
        have hp1 := PlainAt.mono (k + 2) _ _ _ _ hle71 hp1
        have ha2 := ArrAt.mono (k + 2) _ _ _ _ hle71 ha2
        have hq69 := PlainAt.mono (k + 2) _ _ _ _ hle71 hq69
        refine RW.nil ?_
        refine heldQ_normal ⟨_, _, 4, 3, hs, rfl, rfl⟩ ?_
        refine HW.two (fuel := 6) 6 10 rfl rfl (by kernel_rfl) ?_ ?_
        · (refine RW.call T hs rfl rfl rfl (ref27Expand_con k _ _ (tidy (k + 2) m) (tidy (k + 2) p) first N0 mN _ _ hq71 hq69 htdm hlm (by omega) hprR hN0 hvmR) ?_; intro v h74 w74 hle74 hp74 hs)
          obtain ⟨cs74, rfl, hq74⟩ := hp74
          rw [hp2e] at hq74
          rw [eq2]
          have hq74 : PlainAt (k + 2) h74 cs74 p2 := hq74
          obtain ⟨s74, it74, rfl, ⟨adS74, cpS74, rfl, _⟩, ⟨adI74, cpI74, xsI74, rfl, _, _⟩⟩ := id hq74
          have hc' := PlainAt.mono (k + 2) _ _ _ _ hle74 hc'
          have hm' := PlainAt.mono (k + 2) _ _ _ _ hle74 hm'
          have hp' := PlainAt.mono (k + 2) _ _ _ _ hle74 hp'
          have hT := hT.mono hle74
          have ha1 := ArrAt.mono (k + 2) _ _ _ _ hle74 ha1
          have hp1 := PlainAt.mono (k + 2) _ _ _ _ hle74 hp1
          have ha2 := ArrAt.mono (k + 2) _ _ _ _ hle74 ha2
          have hq69 := PlainAt.mono (k + 2) _ _ _ _ hle74 hq69
          have hq71 := PlainAt.mono (k + 2) _ _ _ _ hle74 hq71
          refine RW.nil ?_
          refine heldQ_normal ⟨_, _, 4, 3, hs, rfl, rfl⟩ ?_
          refine HW.takeR (fuel := 5) 7 rfl (fun _ _ ka kb _ hs hka hkb => Y.move rfl) ⟨_, _, 4, 3, hs, rfl, rfl⟩ rfl (by kernel_rfl) (by kernel_rfl) (by kernel_rfl) ?_
          refine HW.takeR (fuel := 4) 8 rfl (fun _ _ ka kb _ hs hka hkb => Y.extract rfl rfl) ⟨_, _, 4, 3, hs, rfl, rfl⟩ rfl (by kernel_rfl) (by kernel_rfl) (by kernel_rfl) ?_
          refine HW.takeR (fuel := 3) 9 rfl (fun _ _ ka kb _ hs hka hkb => Y.extract rfl rfl) ⟨_, _, 4, 3, hs, rfl, rfl⟩ rfl (by kernel_rfl) (by kernel_rfl) (by kernel_rfl) ?_
          refine HW.one (fuel := 2) 10 rfl (by kernel_rfl) ?_
          (refine RW.allocN T hs rfl rfl rfl rfl ?_; intro b18 w18 hs)
          refine RW.nil ?_
          refine heldQ_normal ⟨_, _, 5, 4, hs, rfl, rfl⟩ ?_
          refine HW.one (fuel := 1) 11 rfl (by kernel_rfl) ?_
          refine RW.storeAll T hs 0 rfl rfl rfl rfl rfl rfl rfl rfl ?_
          intro w974 hs
          refine RW.nil ?_
          refine heldQ_normal ⟨_, _, 5, 4, hs, rfl, rfl⟩ ?_
          refine HW.takeR (fuel := 0) 12 rfl (fun _ _ ka kb _ hs hka hkb => Y.assign rfl) ⟨_, _, 5, 4, hs, rfl, rfl⟩ rfl (by kernel_rfl) (by kernel_rfl) (by kernel_rfl) ?_
          refine HW.done (by kernel_rfl) ?_
          refine calmQ_normal ?_
          exact joinQ_meet (b18, _, h74) ⟨rfl, rfl, rfl, rfl, rfl, rfl, rfl, rfl, rfl, rfl, rfl, rfl, rfl, trivial⟩ ⟨hq74, hc', hm', hp', hT, ha1, hp1, ha2,  hs⟩
        · (refine RW.allocN T hs rfl rfl rfl rfl ?_; intro b18 w18 hs)
          refine RW.nil ?_
          refine heldQ_normal ⟨_, _, 5, 4, hs, rfl, rfl⟩ ?_
          refine HW.one (fuel := 5) 6 rfl (by kernel_rfl) ?_
          (refine RW.call T hs rfl rfl rfl (ref27Expand_con k _ _ (tidy (k + 2) m) (tidy (k + 2) p) first N0 mN _ _ hq71 hq69 htdm hlm (by omega) hprR hN0 hvmR) ?_; intro v h74 w74 hle74 hp74 hs)
          obtain ⟨cs74, rfl, hq74⟩ := hp74
          rw [hp2e] at hq74
          rw [eq2]
          have hq74 : PlainAt (k + 2) h74 cs74 p2 := hq74
          obtain ⟨s74, it74, rfl, ⟨adS74, cpS74, rfl, _⟩, ⟨adI74, cpI74, xsI74, rfl, _, _⟩⟩ := id hq74
          have hc' := PlainAt.mono (k + 2) _ _ _ _ hle74 hc'
          have hm' := PlainAt.mono (k + 2) _ _ _ _ hle74 hm'
          have hp' := PlainAt.mono (k + 2) _ _ _ _ hle74 hp'
          have hT := hT.mono hle74
          have ha1 := ArrAt.mono (k + 2) _ _ _ _ hle74 ha1
          have hp1 := PlainAt.mono (k + 2) _ _ _ _ hle74 hp1
          have ha2 := ArrAt.mono (k + 2) _ _ _ _ hle74 ha2
          have hq69 := PlainAt.mono (k + 2) _ _ _ _ hle74 hq69
          have hq71 := PlainAt.mono (k + 2) _ _ _ _ hle74 hq71
          refine RW.nil ?_
          refine heldQ_normal ⟨_, _, 5, 4, hs, rfl, rfl⟩ ?_
          refine HW.takeR (fuel := 4) 7 rfl (fun _ _ ka kb _ hs hka hkb => Y.move rfl) ⟨_, _, 5, 4, hs, rfl, rfl⟩ rfl (by kernel_rfl) (by kernel_rfl) (by kernel_rfl) ?_
          refine HW.takeR (fuel := 3) 8 rfl (fun _ _ ka kb _ hs hka hkb => Y.extract rfl rfl) ⟨_, _, 5, 4, hs, rfl, rfl⟩ rfl (by kernel_rfl) (by kernel_rfl) (by kernel_rfl) ?_
          refine HW.takeR (fuel := 2) 9 rfl (fun _ _ ka kb _ hs hka hkb => Y.extract rfl rfl) ⟨_, _, 5, 4, hs, rfl, rfl⟩ rfl (by kernel_rfl) (by kernel_rfl) (by kernel_rfl) ?_
          refine HW.one (fuel := 1) 11 rfl (by kernel_rfl) ?_
          refine RW.storeAll T hs 0 rfl rfl rfl rfl rfl rfl rfl rfl ?_
          intro w974 hs
          refine RW.nil ?_
          refine heldQ_normal ⟨_, _, 5, 4, hs, rfl, rfl⟩ ?_
          refine HW.takeR (fuel := 0) 12 rfl (fun _ _ ka kb _ hs hka hkb => Y.assign rfl) ⟨_, _, 5, 4, hs, rfl, rfl⟩ rfl (by kernel_rfl) (by kernel_rfl) (by kernel_rfl) ?_
          refine HW.done (by kernel_rfl) ?_
          refine calmQ_normal ?_
          exact joinQ_meet (b18, _, h74) ⟨rfl, rfl, rfl, rfl, rfl, rfl, rfl, rfl, rfl, rfl, rfl, rfl, rfl, trivial⟩ ⟨hq74, hc', hm', hp', hT, ha1, hp1, ha2,  hs⟩
      · (refine RW.allocN T hs rfl rfl rfl rfl ?_; intro b18 w18 hs)
        refine RW.nil ?_
        refine heldQ_normal ⟨_, _, 5, 4, hs, rfl, rfl⟩ ?_
        refine HW.one (fuel := 6) 3 rfl (by kernel_rfl) ?_
        (refine RW.call T hs rfl rfl rfl (refTidyP_con (k + 2) 40 _ p _ _ hp' hcp) ?_; intro v h71 w71 hle71 hp71 hs)
        obtain ⟨cs71, rfl, hq71⟩ := hp71
        have hc' := PlainAt.mono (k + 2) _ _ _ _ hle71 hc'
        have hm' := PlainAt.mono (k + 2) _ _ _ _ hle71 hm'
        have hp' := PlainAt.mono (k + 2) _ _ _ _ hle71 hp'
        have hT := hT.mono hle71
        have ha1 := ArrAt.mono (k + 2) _ _ _ _ hle71 ha1
        have hp1 := PlainAt.mono (k + 2) _ _ _ _ hle71 hp1
        have ha2 := ArrAt.mono (k + 2) _ _ _ _ hle71 ha2
        have hq69 := PlainAt.mono (k + 2) _ _ _ _ hle71 hq69
        refine RW.nil ?_
        refine heldQ_normal ⟨_, _, 5, 4, hs, rfl, rfl⟩ ?_
        refine HW.one (fuel := 5) 6 rfl (by kernel_rfl) ?_
        (refine RW.call T hs rfl rfl rfl (ref27Expand_con k _ _ (tidy (k + 2) m) (tidy (k + 2) p) first N0 mN _ _ hq71 hq69 htdm hlm (by omega) hprR hN0 hvmR) ?_; intro v h74 w74 hle74 hp74 hs)
        obtain ⟨cs74, rfl, hq74⟩ := hp74
        rw [hp2e] at hq74
        rw [eq2]
        have hq74 : PlainAt (k + 2) h74 cs74 p2 := hq74
        obtain ⟨s74, it74, rfl, ⟨adS74, cpS74, rfl, _⟩, ⟨adI74, cpI74, xsI74, rfl, _, _⟩⟩ := id hq74
        have hc' := PlainAt.mono (k + 2) _ _ _ _ hle74 hc'
        have hm' := PlainAt.mono (k + 2) _ _ _ _ hle74 hm'
        have hp' := PlainAt.mono (k + 2) _ _ _ _ hle74 hp'
        have hT := hT.mono hle74
        have ha1 := ArrAt.mono (k + 2) _ _ _ _ hle74 ha1
        have hp1 := PlainAt.mono (k + 2) _ _ _ _ hle74 hp1
        have ha2 := ArrAt.mono (k + 2) _ _ _ _ hle74 ha2
        have hq69 := PlainAt.mono (k + 2) _ _ _ _ hle74 hq69
        have hq71 := PlainAt.mono (k + 2) _ _ _ _ hle74 hq71
        refine RW.nil ?_
        refine heldQ_normal ⟨_, _, 5, 4, hs, rfl, rfl⟩ ?_
        refine HW.takeR (fuel := 4) 7 rfl (fun _ _ ka kb _ hs hka hkb => Y.move rfl) ⟨_, _, 5, 4, hs, rfl, rfl⟩ rfl (by kernel_rfl) (by kernel_rfl) (by kernel_rfl) ?_
        refine HW.takeR (fuel := 3) 8 rfl (fun _ _ ka kb _ hs hka hkb => Y.extract rfl rfl) ⟨_, _, 5, 4, hs, rfl, rfl⟩ rfl (by kernel_rfl) (by kernel_rfl) (by kernel_rfl) ?_
        refine HW.takeR (fuel := 2) 9 rfl (fun _ _ ka kb _ hs hka hkb => Y.extract rfl rfl) ⟨_, _, 5, 4, hs, rfl, rfl⟩ rfl (by kernel_rfl) (by kernel_rfl) (by kernel_rfl) ?_
        refine HW.one (fuel := 1) 11 rfl (by kernel_rfl) ?_
        refine RW.storeAll T hs 0 rfl rfl rfl rfl rfl rfl rfl rfl ?_
        intro w974 hs
        refine RW.nil ?_
        refine heldQ_normal ⟨_, _, 5, 4, hs, rfl, rfl⟩ ?_
        refine HW.takeR (fuel := 0) 12 rfl (fun _ _ ka kb _ hs hka hkb => Y.assign rfl) ⟨_, _, 5, 4, hs, rfl, rfl⟩ rfl (by kernel_rfl) (by kernel_rfl) (by kernel_rfl) ?_
        refine HW.done (by kernel_rfl) ?_
        refine calmQ_normal ?_
        exact joinQ_meet (b18, _, h74) ⟨rfl, rfl, rfl, rfl, rfl, rfl, rfl, rfl, rfl, rfl, rfl, rfl, rfl, trivial⟩ ⟨hq74, hc', hm', hp', hT, ha1, hp1, ha2,  hs⟩
    · (refine RW.allocN T hs rfl rfl rfl rfl ?_; intro b18 w18 hs)
      refine RW.nil ?_
      refine heldQ_normal ⟨_, _, 5, 4, hs, rfl, rfl⟩ ?_
      refine HW.one (fuel := 7) 1 rfl (by kernel_rfl) ?_
      (refine RW.call T hs rfl rfl rfl (refTidyP_con (k + 2) 40 _ m _ _ hm' hcm) ?_; intro v h69 w69 hle69 hp69 hs)
      obtain ⟨cs69, rfl, hq69⟩ := hp69
      have hc' := PlainAt.mono (k + 2) _ _ _ _ hle69 hc'
      have hm' := PlainAt.mono (k + 2) _ _ _ _ hle69 hm'
      have hp' := PlainAt.mono (k + 2) _ _ _ _ hle69 hp'
      have hT := hT.mono hle69
      have ha1 := ArrAt.mono (k + 2) _ _ _ _ hle69 ha1
      have hp1 := PlainAt.mono (k + 2) _ _ _ _ hle69 hp1
      have ha2 := ArrAt.mono (k + 2) _ _ _ _ hle69 ha2
      refine RW.nil ?_
      refine heldQ_normal ⟨_, _, 5, 4, hs, rfl, rfl⟩ ?_
      refine HW.one (fuel := 6) 3 rfl (by kernel_rfl) ?_
      (refine RW.call T hs rfl rfl rfl (refTidyP_con (k + 2) 40 _ p _ _ hp' hcp) ?_; intro v h71 w71 hle71 hp71 hs)
      obtain ⟨cs71, rfl, hq71⟩ := hp71
      have hc' := PlainAt.mono (k + 2) _ _ _ _ hle71 hc'
      have hm' := PlainAt.mono (k + 2) _ _ _ _ hle71 hm'
      have hp' := PlainAt.mono (k + 2) _ _ _ _ hle71 hp'
      have hT := hT.mono hle71
      have ha1 := ArrAt.mono (k + 2) _ _ _ _ hle71 ha1
      have hp1 := PlainAt.mono (k + 2) _ _ _ _ hle71 hp1
      have ha2 := ArrAt.mono (k + 2) _ _ _ _ hle71 ha2
      have hq69 := PlainAt.mono (k + 2) _ _ _ _ hle71 hq69
      refine RW.nil ?_
      refine heldQ_normal ⟨_, _, 5, 4, hs, rfl, rfl⟩ ?_
      refine HW.one (fuel := 5) 6 rfl (by kernel_rfl) ?_
      (refine RW.call T hs rfl rfl rfl (ref27Expand_con k _ _ (tidy (k + 2) m) (tidy (k + 2) p) first N0 mN _ _ hq71 hq69 htdm hlm (by omega) hprR hN0 hvmR) ?_; intro v h74 w74 hle74 hp74 hs)
      obtain ⟨cs74, rfl, hq74⟩ := hp74
      rw [hp2e] at hq74
      rw [eq2]
      have hq74 : PlainAt (k + 2) h74 cs74 p2 := hq74
      obtain ⟨s74, it74, rfl, ⟨adS74, cpS74, rfl, _⟩, ⟨adI74, cpI74, xsI74, rfl, _, _⟩⟩ := id hq74
      have hc' := PlainAt.mono (k + 2) _ _ _ _ hle74 hc'
      have hm' := PlainAt.mono (k + 2) _ _ _ _ hle74 hm'
      have hp' := PlainAt.mono (k + 2) _ _ _ _ hle74 hp'
      have hT := hT.mono hle74
      have ha1 := ArrAt.mono (k + 2) _ _ _ _ hle74 ha1
      have hp1 := PlainAt.mono (k + 2) _ _ _ _ hle74 hp1
      have ha2 := ArrAt.mono (k + 2) _ _ _ _ hle74 ha2
      have hq69 := PlainAt.mono (k + 2) _ _ _ _ hle74 hq69
      have hq71 := PlainAt.mono (k + 2) _ _ _ _ hle74 hq71
      refine RW.nil ?_
      refine heldQ_normal ⟨_, _, 5, 4, hs, rfl, rfl⟩ ?_
      refine HW.takeR (fuel := 4) 7 rfl (fun _ _ ka kb _ hs hka hkb => Y.move rfl) ⟨_, _, 5, 4, hs, rfl, rfl⟩ rfl (by kernel_rfl) (by kernel_rfl) (by kernel_rfl) ?_
      refine HW.takeR (fuel := 3) 8 rfl (fun _ _ ka kb _ hs hka hkb => Y.extract rfl rfl) ⟨_, _, 5, 4, hs, rfl, rfl⟩ rfl (by kernel_rfl) (by kernel_rfl) (by kernel_rfl) ?_
      refine HW.takeR (fuel := 2) 9 rfl (fun _ _ ka kb _ hs hka hkb => Y.extract rfl rfl) ⟨_, _, 5, 4, hs, rfl, rfl⟩ rfl (by kernel_rfl) (by kernel_rfl) (by kernel_rfl) ?_
      refine HW.one (fuel := 1) 11 rfl (by kernel_rfl) ?_
      refine RW.storeAll T hs 0 rfl rfl rfl rfl rfl rfl rfl rfl ?_
      intro w974 hs
      refine RW.nil ?_
      refine heldQ_normal ⟨_, _, 5, 4, hs, rfl, rfl⟩ ?_
      refine HW.takeR (fuel := 0) 12 rfl (fun _ _ ka kb _ hs hka hkb => Y.assign rfl) ⟨_, _, 5, 4, hs, rfl, rfl⟩ rfl (by kernel_rfl) (by kernel_rfl) (by kernel_rfl) ?_
      refine HW.done (by kernel_rfl) ?_
      refine calmQ_normal ?_
      exact joinQ_meet (b18, _, h74) ⟨rfl, rfl, rfl, rfl, rfl, rfl, rfl, rfl, rfl, rfl, rfl, rfl, rfl, trivial⟩ ⟨hq74, hc', hm', hp', hT, ha1, hp1, ha2,  hs⟩
  rintro ⟨b18, cs74, h74⟩ w74 ⟨hp2, hc', hm', hp', hT, ha1, hp1, ha2, hs⟩
  dsimp only at hp2 hc' hm' hp' hT ha1 hp1 ha2 hs ⊢
  obtain ⟨s74, it74, rfl, ⟨adS74, cpS74, rfl, _⟩, ⟨adI74, cpI74, xsI74, rfl, _, _⟩⟩ := id hp2
  refine Zerun ?_
  (refine RW.call T hs rfl rfl rfl (shows27R_con (k + 1) _ _ _ a1 p1 _ _ ha1 hp1 rs1) ?_; intro v h81 w81 hle81 hp81 hs)
  subst hp81
  have hc' := PlainAt.mono (k + 2) _ _ _ _ hle81 hc'
  have hm' := PlainAt.mono (k + 2) _ _ _ _ hle81 hm'
  have hp' := PlainAt.mono (k + 2) _ _ _ _ hle81 hp'
  have hT := hT.mono hle81
  have ha2 := ArrAt.mono (k + 2) _ _ _ _ hle81 ha2
  have hp2 := PlainAt.mono (k + 2) _ _ _ _ hle81 hp2
  refine Zerun ?_
  (refine RW.call T hs rfl rfl rfl (shows27R_con (k + 1) _ _ _ a2 p2 _ _ ha2 hp2 rs2) ?_; intro v h87 w87 hle87 hp87 hs)
  subst hp87
  have hc' := PlainAt.mono (k + 2) _ _ _ _ hle87 hc'
  have hm' := PlainAt.mono (k + 2) _ _ _ _ hle87 hm'
  have hp' := PlainAt.mono (k + 2) _ _ _ _ hle87 hp'
  have hT := hT.mono hle87
  refine Zerun ?_
  (refine RW.call T hs rfl rfl rfl (awake27_con _ _ hT) ?_; intro v h90 w90 hle90 hp90 hs)
  subst hp90
  refine Zerun ?_
  exact retQ_ret [_] h90 ⟨rfl, trivial⟩ hs.dropAll rfl
end Go.Proofs.YtmojpbfkpggjhaaGreatDoor
