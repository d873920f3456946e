/-
  Own texts of the claim, merged: Ft, Fu, Fv, Fw, Fx, Fy, Fz, Ha, Hb, Hc, LibR, LibL, LibS, PlainB, LibT, PlainJ, PlainK, Fa, Fb, Ia, Ib, Ic, Id, Ie, If, Ig, Ih, Ii, LibU, Ij, Ik, Ja, Jb, Jc, Jd, Je, Ka, PlainN, PlainT, PlainS, Sa, LibX, Pa, Sb, Sc, Sd, Il, Im, On, Se, Sf, PlainU, Si, Sj. Lemmas of the proof; no statement is proved here.
-/
import Derived.Test.YtmfealaaacmohaaDoorMa
import Derived.ProofKit
import Derived.OpenShut
import Derived.ChangeOld
import Derived.Lib.TrailingZeros
/-
  Contracts of functions of package squeeze: the least store of all elements. No statement is proved here.
-/
namespace Go.Proofs.YtmfealaaacmohaaDoor
open Go Go.RowKit
set_option linter.unusedVariables false
set_option linter.unusedSimpArgs false
set_option maxHeartbeats 4000000
attribute [local irreducible] CW RW QW SW HW ConM retM heldQ calmQ elemP thenQ blockQ loopQ joinQ retQ Yields Con Sl zF magR unitF truncF fwF wholeF tidySpec
attribute [local irreducible] rankF leastN

section
variable {α : Type} {R : GHeap → List Value → α → Prop}
def VecD.least (v : VecD α) : Int := if v.cls = 0 ∧ v.kind ≠ 0 then leastN v.nums else v.kind
theorem sqLeast_con (hR : Mono R) (cs : List Value) (v : VecD α) (w : World) (h : GHeap) (hv : VecAt R h cs v) (hm : v.len ≤ 1099511627776) : Con Tryd.prog 86 [.agg cs.toArray] w h (fun _ u => u = .int .i64 v.least) := by
  have hv' := hv
  have hnl := hv.nums_len
  have htd := hv.tidy
  have hwh := hv.wholes
  obtain ⟨wv, nv, sm, il, fl, ch, bx, ⟨rfl, hoc⟩, hk⟩ := hv
  unfold VecD.least
  refine Con.of_body Tryd.func86 rfl Tryd.ntmps86 rfl rfl ?_
  intro hs
  refine Zrun ?_
  (refine RW.boxN hs rfl rfl ?_; intro b1 w1 hs)
  refine Zrun ?_
  (refine RW.call T hs rfl rfl rfl (vecClass_con _ v _ _ hv') ?_; intro v h2 w2 hle2 hp2 hs)
  subst hp2
  have hv' := hv'.mono hR hle2
  by_cases hcls : v.cls = 0
  · have hnl := hnl hcls
    refine Zrun ?_
    (refine RW.call T hs rfl rfl rfl (vecKind_con _ v _ _ hv') ?_; intro v h3 w3 hle3 hp3 hs)
    subst hp3
    have hv' := hv'.mono hR hle3
    by_cases hk0 : v.kind = 0
    · rw [if_neg (fun e => e.2 hk0)]
      refine Zrun ?_
      (refine RW.call T hs rfl rfl rfl (vecKind_con _ v _ _ hv') ?_; intro v h4 w4 hle4 hp4 hs)
      subst hp4
      refine Zrun ?_
      exact retQ_ret [_] h4 ⟨rfl, trivial⟩ hs.dropAll rfl
    · rw [if_pos ⟨hcls, hk0⟩]
      refine Zrun ?_
      (refine RW.call T hs rfl rfl rfl (vecLen_con _ v _ _ hv') ?_; intro v h4 w4 hle4 hp4 hs)
      subst hp4
      have hv' := hv'.mono hR hle4
      rw [← hnl] at hm ⊢
      refine Zrun ?_
      refine CW.loop (fun p : Nat × GHeap => [(1, .pointer (some ⟨b1, 0, none⟩)), (3, .int .i64 (leastN (v.nums.take p.1))), (18, .int .i64 v.nums.length), (19, .int .i64 p.1)]) (fun p w' => p.1 ≤ v.nums.length ∧ GLe h4 p.2 ∧ Sees w h p.2 [⟨some ⟨b1, 0, none⟩, 1, 1, 34, 8, vecCells v.kind wv nv sm il fl ch bx⟩] w') (fun p => v.nums.length - p.1) (0, h4) ⟨rfl, seti (by unfold leastN; simp), rfl, rfl, trivial⟩ ⟨by omega, GLe.refl _, hs⟩ ?_
      rintro ⟨k, hh⟩ w5 ⟨hk5, hgl, hs⟩
      dsimp only at hk5 hgl hs ⊢
      have hv' := hv'.mono hR hgl
      by_cases hlt : k < v.nums.length
      · have hmem := mem_getD v.nums k 0 hlt
        have htdk := htd _ hmem
        have hstep := leastN_take v.nums k hlt
        have hb1 := leastN_bounds v.nums
        have hb2 := leastN_le v.nums _ hmem
        have hb3 := leastN_split v.nums (k + 1)
        have hn : v.num (k : Int) = v.nums.getD k 0 := by unfold VecD.num; rw [if_pos (by omega), Int.toNat_natCast]
        refine Zrun ?_
        (refine RW.call T hs rfl rfl rfl (vecWhole_con _ v k _ _ hv') ?_; intro v h6 w6 hle6 hp6 hs)
        subst hp6
        have hv' := hv'.mono hR hle6
        refine RW.meet (fun _ : Unit => [(1, .pointer (some ⟨b1, 0, none⟩)), (3, .int .i64 (leastN (v.nums.take k))), (18, .int .i64 v.nums.length), (19, .int .i64 k), (4, .int .i64 k), (5, .int .i64 (v.whole k).1), (6, .bool (v.whole k).2)]) (fun _ w' => Sees w h h6 [⟨some ⟨b1, 0, none⟩, 1, 1, 34, 8, vecCells v.kind wv nv sm il fl ch bx⟩] w') ?_ ?_
        · refine Zrun ?_
          exact joinQ_meet () ⟨rfl, rfl, rfl, rfl, rfl, rfl, rfl, trivial⟩ hs
        intro _ w7 hs
        refine CW.seq ?_
        refine CW.meet (fun _ : Unit => [(1, .pointer (some ⟨b1, 0, none⟩)), (3, .int .i64 (leastN (v.nums.take k))), (18, .int .i64 v.nums.length), (19, .int .i64 k), (5, .int .i64 (wholeF (v.nums.getD k 0)).1)]) (fun _ w' => ∃ h', GLe h6 h' ∧ (wholeF (v.nums.getD k 0)).2 = true ∧ Sees w h h' [⟨some ⟨b1, 0, none⟩, 1, 1, 34, 8, vecCells v.kind wv nv sm il fl ch bx⟩] w') ?_ ?_
        · by_cases h3 : v.kind = 1 ∨ v.kind = 2 ∨ v.kind = 3
          · have e : v.whole (k : Int) = ((wholeF (v.nums.getD k 0)).1, true) := by
              unfold VecD.whole
              rw [if_pos ⟨h3, by omega, by omega⟩, Int.toNat_natCast]
            rw [e]
            refine Zrun ?_
            exact joinQ_meet () ⟨rfl, rfl, rfl, rfl, rfl, trivial⟩ ⟨_, GLe.refl _, hwh h3 _ hmem, hs⟩
          · have e : v.whole (k : Int) = (0, false) := by
              unfold VecD.whole
              rw [if_neg (fun e => h3 e.1)]
            rw [e]
            refine Zrun ?_
            (refine RW.call T hs rfl rfl rfl (vecNum_con _ v k _ _ hv') ?_; intro v h8 w8 hle8 hp8 hs)
            subst hp8
            rw [hn]
            refine Zrun ?_
            (refine RW.call T hs rfl rfl rfl (numWhole_con (v.nums.getD k 0) _ _ htdk.2.1) ?_; intro v h9 w9 hle9 hp9 hs)
            subst hp9
            by_cases hw : (wholeF (v.nums.getD k 0)).2 = true
            · rw [hw]
              refine Zrun ?_
              exact joinQ_meet () ⟨rfl, rfl, rfl, rfl, rfl, trivial⟩ ⟨_, hle8.trans hle9, rfl, hs⟩
            · rw [show (wholeF (v.nums.getD k 0)).2 = false by simpa using hw]
              have hr : rankF (v.nums.getD k 0) = 4 := by unfold rankF; rw [if_neg hw]
              refine Zrun ?_
              exact retQ_ret [_] h9 ⟨rfl, trivial⟩ hs.dropAll (by rw [show leastN v.nums = 4 by omega]; rfl)
        · rintro _ w8 ⟨h8, hle8, hw, hs⟩
          have hv' := hv'.mono hR hle8
          have hr : rankF (v.nums.getD k 0) = rankOf (wholeF (v.nums.getD k 0)).1 := by unfold rankF; rw [if_pos hw]
          have hrb := rankOf_bounds (wholeF (v.nums.getD k 0)).1
          refine Zrun ?_
          (refine RW.call T hs rfl rfl rfl (sqRank_con (wholeF (v.nums.getD k 0)).1 _ _) ?_; intro v h9 w9 hle9 hp9 hs)
          subst hp9
          rw [← hr] at hrb ⊢
          have hv' := hv'.mono hR hle9
          refine Zrun ?_
          rw [← hstep]
          by_cases h3 : leastN (v.nums.take (k + 1)) = 3
          · refine Zrun ?_
            (refine RW.call T hs rfl rfl rfl (vecKind_con _ v _ _ hv') ?_; intro v h10 w10 hle10 hp10 hs)
            subst hp10
            by_cases hk3 : v.kind = 3
            · have hle3 : leastN v.nums ≤ 3 := by
                unfold leastN
                exact fold_le _ 1 3 (by omega) (fun x hx => (rank_int x).2 (hwh (.inr (.inr hk3)) x hx))
              refine Zrun ?_
              exact retQ_ret [_] h10 ⟨rfl, trivial⟩ hs.dropAll (by rw [show leastN v.nums = 3 by omega]; rfl)
            · refine Zrun ?_
              exact loopQ_round (k + 1, h10) ⟨rfl, rfl, rfl, rfl, trivial⟩ ⟨by dsimp only; omega, ((((hgl.trans hle6).trans hle8).trans hle9).trans hle10), hs⟩ (by dsimp only; omega)
          · refine Zrun ?_
            exact loopQ_round (k + 1, h9) ⟨rfl, rfl, rfl, rfl, trivial⟩ ⟨by dsimp only; omega, (((hgl.trans hle6).trans hle8).trans hle9), hs⟩ (by dsimp only; omega)
      · obtain rfl : k = v.nums.length := by omega
        rw [List.take_length]
        refine Zrun ?_
        exact retQ_ret [_] hh ⟨rfl, trivial⟩ hs.dropAll rfl
  · rw [if_neg (fun e => hcls e.1)]
    refine Zrun ?_
    (refine RW.call T hs rfl rfl rfl (vecKind_con _ v _ _ hv') ?_; intro v h4 w4 hle4 hp4 hs)
    subst hp4
    refine Zrun ?_
    exact retQ_ret [_] h4 ⟨rfl, trivial⟩ hs.dropAll rfl
end
end Go.Proofs.YtmfealaaacmohaaDoor

/-
  Contracts of functions of package squeeze: numbers as whole ones, as small ones. No statement is proved here.
-/
namespace Go.Proofs.YtmfealaaacmohaaDoor
open Go Go.RowKit
set_option linter.unusedVariables false
set_option linter.unusedSimpArgs false
set_option maxHeartbeats 4000000
attribute [local irreducible] CW RW QW SW HW ConM retM heldQ calmQ elemP thenQ blockQ loopQ joinQ retQ Yields Con Sl zF magR unitF truncF fwF wholeF tidySpec
attribute [local irreducible] rankF leastN

theorem all_of_getD {β : Type} {p : β → Prop} (l : List β) (d : β) (h : ∀ j, j < l.length → p (l.getD j d)) : ∀ x ∈ l, p x := by
  intro x hx
  obtain ⟨j, hj, e⟩ := List.getElem_of_mem hx
  have := h j hj
  rw [List.getD_eq_getElem?_getD, List.getElem?_eq_getElem hj] at this
  rw [← e]; exact this
section
variable {α : Type} {R : GHeap → List Value → α → Prop}
theorem sqWholes_con (hR : Mono R) (cs : List Value) (v : VecD α) (w : World) (h : GHeap) (hv : VecAt R h cs v) (hc : v.cls = 0) (hm : v.len ≤ 1099511627776) : Con Tryd.prog 124 [.agg cs.toArray] w h
    (fun h' u => ∃ s ok, u = .tuple #[s, .bool ok] ∧ ok = decide (∀ x ∈ v.nums, (wholeF x).2 = true) ∧ (ok = true → KAt .i64 h' s (v.nums.map fun x => (wholeF x).1))) := by
  have hv' := hv
  have hnl := hv.nums_len hc
  obtain ⟨wv, nv, sm, il, fl, ch, bx, ⟨rfl, hoc⟩, hk⟩ := hv
  refine Con.of_body Tryd.func124 rfl Tryd.ntmps124 rfl rfl ?_
  intro hs
  refine Zrun ?_
  (refine RW.boxN hs rfl rfl ?_; intro b1 w1 hs)
  refine Zrun ?_
  (refine RW.call T hs rfl rfl rfl (vecLen_con _ v _ _ hv') ?_; intro v h2 w2 hle2 hp2 hs)
  subst hp2
  have hv' := hv'.mono hR hle2
  rw [← hnl] at hm ⊢
  (refine RW.make1 T hs rfl rfl rfl rfl rfl rfl rfl (by dsimp only; omega) (by omega) ?_; intro b3 w3 hs)
  refine Zrun ?_
  refine CW.loop (fun p : Nat × GHeap => [(1, .pointer (some ⟨b1, 0, none⟩)), (4, .slice (some ⟨b3, 0, none⟩) v.nums.length v.nums.length), (12, .int .i64 v.nums.length), (13, .int .i64 p.1)]) (fun p w' => p.1 ≤ v.nums.length ∧ GLe h2 p.2 ∧ (∀ j, j < p.1 → (wholeF (v.nums.getD j 0)).2 = true) ∧ Sees w h p.2 [⟨some ⟨b3, 0, none⟩, v.nums.length, v.nums.length, 2, 1, ((v.nums.take p.1).map fun x => (wholeF x).1).map (Value.int .i64) ++ List.replicate (v.nums.length - p.1) (.int .i64 0)⟩, ⟨some ⟨b1, 0, none⟩, 1, 1, 34, 8, vecCells v.kind wv nv sm il fl ch bx⟩] w') (fun p => v.nums.length - p.1) (0, h2) ⟨rfl, rfl, rfl, rfl, trivial⟩ ⟨by omega, GLe.refl _, by dsimp only; omega, by simp only [List.take_zero, List.map_nil, List.nil_append, Nat.sub_zero]; exact hs⟩ ?_
  rintro ⟨k, hh⟩ w5 ⟨hk5, hgl, hno, hs⟩
  dsimp only at hk5 hgl hno hs ⊢
  have hv' := hv'.mono hR hgl
  by_cases hlt : k < v.nums.length
  · refine Zrun ?_
    (refine RW.call T hs rfl rfl rfl (sqWhole_con hR _ v k _ _ hv' hc (by omega)) ?_; intro v h6 w6 hle6 hp6 hs)
    subst hp6
    by_cases hw : (wholeF (v.nums.getD k 0)).2 = true
    · rw [hw]
      refine Zrun ?_
      refine RW.val (Y.idxRN T hs 0 rfl rfl rfl rfl rfl rfl ?_) rfl ?_
      · omega
      refine RW.st1 T hs 0 rfl rfl rfl rfl rfl rfl rfl (by omega) ?_
      intro w7 hs
      refine Zrun ?_
      refine loopQ_round (k + 1, h6) ⟨rfl, rfl, rfl, rfl, trivial⟩ ⟨by dsimp only; omega, hgl.trans hle6, fun j hj => ?_, ?_⟩ (by dsimp only; omega)
      · by_cases e : j = k
        · subst e; exact hw
        · exact hno j (by dsimp only at hj; omega)
      · dsimp only
        have e := set_snoc (((v.nums.take k).map fun x => (wholeF x).1).map (Value.int .i64)) (v.nums.length - k) (Value.int .i64 0) (Value.int .i64 (wholeF (v.nums.getD k 0)).1) (by omega)
        simp only [List.length_map, List.length_take, Nat.min_eq_left hk5] at e
        rw [take_snoc v.nums k 0 hlt, List.map_append, List.map_append, show v.nums.length - (k + 1) = v.nums.length - k - 1 by omega]
        exact hs.re e
    · rw [show (wholeF (v.nums.getD k 0)).2 = false by simpa using hw]
      refine Zrun ?_
      exact retQ_ret [_, _] h6 ⟨rfl, rfl, trivial⟩ hs.dropAll ⟨_, false, rfl, (decide_eq_false (fun e => hw (e _ (mem_getD v.nums k 0 hlt)))).symm, fun e => by cases e⟩
  · obtain rfl : k = v.nums.length := by omega
    refine Zrun ?_
    obtain ⟨h8, hle8, hs8, hS8⟩ := hs.freeze
    refine retQ_ret [_, _] h8 ⟨rfl, rfl, trivial⟩ hs8.dropAll ⟨_, true, rfl, (decide_eq_true (all_of_getD (p := fun x => (wholeF x).2 = true) v.nums 0 hno)).symm, fun _ => RowAt.of_sl (n := v.nums.length) ?_⟩
    dsimp only at hS8
    simpa using hS8
end
end Go.Proofs.YtmfealaaacmohaaDoor

/-
  Contracts of functions of package squeeze: numbers into truths, and into eight bits. No statement is proved here.
-/
namespace Go.Proofs.YtmfealaaacmohaaDoor
open Go Go.RowKit
set_option linter.unusedVariables false
set_option linter.unusedSimpArgs false
set_option maxHeartbeats 4000000
attribute [local irreducible] CW RW QW SW HW ConM retM heldQ calmQ elemP thenQ blockQ loopQ joinQ retQ Yields Con Sl zF magR unitF truncF fwF wholeF tidySpec
attribute [local irreducible] rankF leastN

theorem zero_word (x : Nat) (hx : tidyF x) (h : zF x = 0) : x = bitF false := zF_inj hx ⟨by decide, fin0, by decide⟩ (h.trans zF0.symm)
theorem one_word (x : Nat) (hx : tidyF x) (h : zF x = unitF) : x = bitF true := zF_inj hx ⟨by decide, fin1, by decide⟩ (h.trans zF1.symm)
theorem rank_truth (x : Nat) (hx : tidyF x) : rankF x ≤ 1 ↔ (zF x = 0 ∨ zF x = unitF) := by
  rw [rank_bit x hx, fw0, fw1]
  constructor
  · rintro (rfl | rfl)
    · exact .inl zF0
    · exact .inr zF1
  · rintro (h | h)
    · exact .inl (zero_word x hx h)
    · exact .inr (one_word x hx h)
section
variable {α : Type} {R : GHeap → List Value → α → Prop}
theorem sqIntoBits_con (hR : Mono R) (cs : List Value) (v : VecD α) (w : World) (h : GHeap) (hv : VecAt R h cs v) (hc : v.cls = 0) (hm : v.len ≤ 1048576) : Con Tryd.prog 122 [.agg cs.toArray] w h
    (fun h' u => ∃ cs' ok, u = .tuple #[.agg cs'.toArray, .bool ok] ∧ ok = decide (∀ x ∈ v.nums, rankF x ≤ 1) ∧ VecAt R h' cs' (if ok = true then ⟨1, v.nums, [], []⟩ else VecD.none)) := by
  have hv' := hv
  have hnl := hv.nums_len hc
  have htd := hv.tidy
  obtain ⟨wv, nv, sm, il, fl, ch, bx, ⟨rfl, hoc⟩, hk⟩ := hv
  refine Con.of_body Tryd.func122 rfl Tryd.ntmps122 rfl rfl ?_
  intro hs
  refine Zrun ?_
  (refine RW.boxN hs rfl rfl ?_; intro b1 w1 hs)
  (refine RW.allocN T hs rfl rfl rfl rfl ?_; intro b2 w2 hs)
  refine Zrun ?_
  (refine RW.call T hs rfl rfl rfl (vecLen_con _ v _ _ hv') ?_; intro v h3 w3 hle3 hp3 hs)
  subst hp3
  have hv' := hv'.mono hR hle3
  rw [← hnl] at hm ⊢
  (refine RW.make1 T hs rfl rfl rfl rfl rfl rfl rfl (by dsimp only; omega) (by omega) ?_; intro b4 w4 hs)
  refine Zrun ?_
  refine CW.loop (fun p : Nat × GHeap => [(1, .pointer (some ⟨b1, 0, none⟩)), (2, .pointer (some ⟨b2, 0, none⟩)), (4, .slice (some ⟨b4, 0, none⟩) v.nums.length v.nums.length), (12, .int .i64 v.nums.length), (13, .int .i64 p.1)]) (fun p w' => p.1 ≤ v.nums.length ∧ GLe h3 p.2 ∧ (∀ j, j < p.1 → rankF (v.nums.getD j 0) ≤ 1) ∧ Sees w h p.2 [⟨some ⟨b4, 0, none⟩, v.nums.length, v.nums.length, 4, 1, ((v.nums.take p.1).map fun x => decide (zF x = unitF)).map Value.bool ++ List.replicate (v.nums.length - p.1) (.bool false)⟩, ⟨some ⟨b2, 0, none⟩, 1, 1, 34, 8, vecCells 0 (.slice none 0 0) 0 (.slice none 0 0) (.slice none 0 0) (.slice none 0 0) (.slice none 0 0) (.slice none 0 0)⟩, ⟨some ⟨b1, 0, none⟩, 1, 1, 34, 8, vecCells v.kind wv nv sm il fl ch bx⟩] w') (fun p => v.nums.length - p.1) (0, h3) ⟨rfl, rfl, rfl, rfl, rfl, trivial⟩ ⟨by omega, GLe.refl _, by dsimp only; omega, by simp only [List.take_zero, List.map_nil, List.nil_append, Nat.sub_zero]; exact hs⟩ ?_
  rintro ⟨k, hh⟩ w5 ⟨hk5, hgl, hno, hs⟩
  dsimp only at hk5 hgl hno hs ⊢
  have hv' := hv'.mono hR hgl
  by_cases hlt : k < v.nums.length
  · have htdk := htd _ (mem_getD v.nums k 0 hlt)
    refine Zrun ?_
    refine RW.val (Y.loadRowN T hs 2 rfl rfl rfl rfl rfl rfl rfl) rfl ?_
    refine Zrun ?_
    (refine RW.call T hs rfl rfl rfl (vecNum_con _ v k _ _ hv') ?_; intro v h6 w6 hle6 hp6 hs)
    subst hp6
    have hn : v.num (k : Int) = v.nums.getD k 0 := by unfold VecD.num; rw [if_pos (by omega), Int.toNat_natCast]
    rw [hn]
    refine Zrun ?_
    (refine RW.call T hs rfl rfl rfl (numTruth_con (v.nums.getD k 0) _ _ htdk.2.1) ?_; intro v h7 w7 hle7 hp7 hs)
    subst hp7
    by_cases hw : rankF (v.nums.getD k 0) ≤ 1
    · have ht := (rank_truth _ htdk).1 hw
      refine Zrun ?_
      refine RW.val (Y.idxRN T hs 0 rfl rfl rfl rfl rfl rfl ?_) rfl ?_
      · omega
      refine RW.st1 T hs 0 rfl rfl rfl rfl rfl rfl rfl (by omega) ?_
      intro w7 hs
      refine Zrun ?_
      refine loopQ_round (k + 1, h7) ⟨rfl, rfl, rfl, rfl, rfl, trivial⟩ ⟨by dsimp only; omega, (hgl.trans hle6).trans hle7, fun j hj => ?_, ?_⟩ (by dsimp only; omega)
      · by_cases e : j = k
        · subst e; exact hw
        · exact hno j (by dsimp only at hj; omega)
      · dsimp only
        have e := set_snoc (((v.nums.take k).map fun x => decide (zF x = unitF)).map Value.bool) (v.nums.length - k) (Value.bool false) (Value.bool (decide (zF (v.nums.getD k 0) = unitF))) (by omega)
        simp only [List.length_map, List.length_take, Nat.min_eq_left hk5] at e
        rw [take_snoc v.nums k 0 hlt, List.map_append, List.map_append, show v.nums.length - (k + 1) = v.nums.length - k - 1 by omega]
        exact hs.re e
    · have ht : ¬ (zF (v.nums.getD k 0) = 0 ∨ zF (v.nums.getD k 0) = unitF) := fun e => hw ((rank_truth _ htdk).2 e)
      refine Zrun ?_
      refine RW.val (Y.build T rfl rfl rfl rfl rfl rfl rfl) rfl ?_
      (refine RW.storeAll T hs 1 rfl rfl rfl rfl rfl rfl rfl rfl ?_; intro w8 hs)
      refine Zrun ?_
      exact retQ_ret [_, _] h7 ⟨resN T hs 1 rfl rfl rfl rfl rfl rfl, rfl, trivial⟩ hs.dropAll ⟨_, false, rfl, (decide_eq_false (fun e => hw (e _ (mem_getD v.nums k 0 hlt)))).symm, vecNone h7⟩
  · obtain rfl : k = v.nums.length := by omega
    have hall := all_of_getD (p := fun x => rankF x ≤ 1) v.nums 0 hno
    have hbits : (v.nums.map fun x => decide (zF x = unitF)).map bitF = v.nums := by
      rw [List.map_map]
      conv => rhs; rw [← List.map_id v.nums]
      apply List.map_congr_left
      intro x hx
      have hxt := htd x hx
      rcases (rank_truth x hxt).1 (hall x hx) with h0 | h1
      · have : ¬ zF x = unitF := by have := unitF_pos; omega
        simp only [Function.comp, this, decide_false, id]
        exact (zero_word x hxt h0).symm
      · simp only [Function.comp, h1, decide_true, id]
        exact (one_word x hxt h1).symm
    refine Zrun ?_
    obtain ⟨h8, hle8, hs, hS8⟩ := hs.freeze
    have hT8 : TAt h8 (.slice (some ⟨b4, 0, none⟩) v.nums.length v.nums.length) (v.nums.map fun x => decide (zF x = unitF)) := RowAt.of_sl (by dsimp only at hS8; simpa using hS8)
    (refine RW.call T hs rfl rfl rfl (bitsPack_con _ _ _ _ hT8 (by simpa using hm)) ?_; intro v h9 w9 hle9 hp9 hs)
    obtain ⟨wv9, rfl, hb9⟩ := hp9
    refine Zrun ?_
    (refine RW.call T hs rfl rfl rfl (vecBits_con (R := R) wv9 _ _ _ hb9) ?_; intro v h10 w10 hle10 hp10 hs)
    obtain ⟨cs10, rfl, hv10⟩ := hp10
    rw [hbits] at hv10
    have hv11 := hv10
    obtain ⟨wv', nv', sm', il', fl', ch', bx', ⟨rfl, hoc'⟩, _⟩ := hv10
    refine Zrun ?_
    (refine RW.storeAll T hs 0 rfl rfl rfl rfl rfl rfl hoc' rfl ?_; intro w11 hs)
    refine Zrun ?_
    exact retQ_ret [_, _] h10 ⟨resN T hs 0 rfl rfl rfl rfl rfl rfl, rfl, trivial⟩ hs.dropAll ⟨_, true, rfl, (decide_eq_true hall).symm, hv11⟩
end
end Go.Proofs.YtmfealaaacmohaaDoor

/-
  Contracts of functions of package squeeze: numbers into eight bits. No statement is proved here.
-/
namespace Go.Proofs.YtmfealaaacmohaaDoor
open Go Go.RowKit
set_option linter.unusedVariables false
set_option linter.unusedSimpArgs false
set_option maxHeartbeats 4000000
attribute [local irreducible] CW RW QW SW HW ConM retM heldQ calmQ elemP thenQ blockQ loopQ joinQ retQ Yields Con Sl zF magR unitF truncF fwF wholeF tidySpec
attribute [local irreducible] rankF leastN

theorem wrapS (z : Int) (h : -128 ≤ z ∧ z ≤ 127) : IntKind.i8.wrap z = z := by
  unfold IntKind.wrap
  simp [IntKind.signed, IntKind.bits]
  split <;> omega
section
variable {α : Type} {R : GHeap → List Value → α → Prop}
theorem sqIntoSmalls_con (hR : Mono R) (cs : List Value) (v : VecD α) (w : World) (h : GHeap) (hv : VecAt R h cs v) (hc : v.cls = 0) (hm : v.len ≤ 1048576) : Con Tryd.prog 123 [.agg cs.toArray] w h
    (fun h' u => ∃ cs' ok, u = .tuple #[.agg cs'.toArray, .bool ok] ∧ ok = decide (∀ x ∈ v.nums, rankF x ≤ 2) ∧ VecAt R h' cs' (if ok = true then ⟨2, v.nums, [], []⟩ else VecD.none)) := by
  have hv' := hv
  have hnl := hv.nums_len hc
  have htd := hv.tidy
  obtain ⟨wv, nv, sm, il, fl, ch, bx, ⟨rfl, hoc⟩, hk⟩ := hv
  refine Con.of_body Tryd.func123 rfl Tryd.ntmps123 rfl rfl ?_
  intro hs
  refine Zrun ?_
  (refine RW.boxN hs rfl rfl ?_; intro b1 w1 hs)
  (refine RW.allocN T hs rfl rfl rfl rfl ?_; intro b2 w2 hs)
  refine Zrun ?_
  (refine RW.call T hs rfl rfl rfl (vecLen_con _ v _ _ hv') ?_; intro v h3 w3 hle3 hp3 hs)
  subst hp3
  have hv' := hv'.mono hR hle3
  rw [← hnl] at hm ⊢
  (refine RW.make1 T hs rfl rfl rfl rfl rfl rfl rfl (by dsimp only; omega) (by omega) ?_; intro b4 w4 hs)
  refine Zrun ?_
  refine CW.loop (fun p : Nat × GHeap => [(1, .pointer (some ⟨b1, 0, none⟩)), (2, .pointer (some ⟨b2, 0, none⟩)), (4, .slice (some ⟨b4, 0, none⟩) v.nums.length v.nums.length), (12, .int .i64 v.nums.length), (13, .int .i64 p.1)]) (fun p w' => p.1 ≤ v.nums.length ∧ GLe h3 p.2 ∧ (∀ j, j < p.1 → rankF (v.nums.getD j 0) ≤ 2) ∧ Sees w h p.2 [⟨some ⟨b4, 0, none⟩, v.nums.length, v.nums.length, 156, 1, ((v.nums.take p.1).map fun x => (wholeF x).1).map (Value.int .i8) ++ List.replicate (v.nums.length - p.1) (.int .i8 0)⟩, ⟨some ⟨b2, 0, none⟩, 1, 1, 34, 8, vecCells 0 (.slice none 0 0) 0 (.slice none 0 0) (.slice none 0 0) (.slice none 0 0) (.slice none 0 0) (.slice none 0 0)⟩, ⟨some ⟨b1, 0, none⟩, 1, 1, 34, 8, vecCells v.kind wv nv sm il fl ch bx⟩] w') (fun p => v.nums.length - p.1) (0, h3) ⟨rfl, rfl, rfl, rfl, rfl, trivial⟩ ⟨by omega, GLe.refl _, by dsimp only; omega, by simp only [List.take_zero, List.map_nil, List.nil_append, Nat.sub_zero]; exact hs⟩ ?_
  rintro ⟨k, hh⟩ w5 ⟨hk5, hgl, hno, hs⟩
  dsimp only at hk5 hgl hno hs ⊢
  have hv' := hv'.mono hR hgl
  by_cases hlt : k < v.nums.length
  · have htdk := htd _ (mem_getD v.nums k 0 hlt)
    have hrs := rank_small (v.nums.getD k 0)
    refine Zrun ?_
    refine RW.val (Y.loadRowN T hs 2 rfl rfl rfl rfl rfl rfl rfl) rfl ?_
    refine Zrun ?_
    (refine RW.call T hs rfl rfl rfl (sqWhole_con hR _ v k _ _ hv' hc (by omega)) ?_; intro v h6 w6 hle6 hp6 hs)
    subst hp6
    by_cases hw : rankF (v.nums.getD k 0) ≤ 2
    · obtain ⟨t1, t2, t3⟩ := hrs.1 hw
      rw [t1]
      refine Zrun ?_
      refine RW.val (Y.convII T rfl rfl rfl) rfl ?_
      rw [wrapS _ ⟨t2, t3⟩]
      refine RW.val (Y.idxRN T hs 0 rfl rfl rfl rfl rfl rfl ?_) rfl ?_
      · omega
      refine RW.st1 T hs 0 rfl rfl rfl rfl rfl rfl rfl (by omega) ?_
      intro w7 hs
      refine Zrun ?_
      refine loopQ_round (k + 1, h6) ⟨rfl, rfl, rfl, rfl, rfl, trivial⟩ ⟨by dsimp only; omega, hgl.trans hle6, fun j hj => ?_, ?_⟩ (by dsimp only; omega)
      · by_cases e : j = k
        · subst e; exact hw
        · exact hno j (by dsimp only at hj; omega)
      · dsimp only
        have e := set_snoc (((v.nums.take k).map fun x => (wholeF x).1).map (Value.int .i8)) (v.nums.length - k) (Value.int .i8 0) (Value.int .i8 (wholeF (v.nums.getD k 0)).1) (by omega)
        simp only [List.length_map, List.length_take, Nat.min_eq_left hk5] at e
        rw [take_snoc v.nums k 0 hlt, List.map_append, List.map_append, show v.nums.length - (k + 1) = v.nums.length - k - 1 by omega]
        exact hs.re e
    · have ht : ∃ b, (wholeF (v.nums.getD k 0)).2 = b ∧ (b = true → ¬ (-128 ≤ (wholeF (v.nums.getD k 0)).1 ∧ (wholeF (v.nums.getD k 0)).1 ≤ 127)) := ⟨_, rfl, fun e h2 => hw (hrs.2 ⟨e, h2⟩)⟩
      obtain ⟨b, hb1, hb2⟩ := ht
      rw [hb1]
      refine RW.meet (fun _ : Unit => [(1, .pointer (some ⟨b1, 0, none⟩)), (2, .pointer (some ⟨b2, 0, none⟩)), (6, .int .i64 (wholeF (v.nums.getD k 0)).1), (7, .bool b)]) (fun _ w' => Sees w h h6 [⟨some ⟨b4, 0, none⟩, v.nums.length, v.nums.length, 156, 1, ((v.nums.take k).map fun x => (wholeF x).1).map (Value.int .i8) ++ List.replicate (v.nums.length - k) (.int .i8 0)⟩, ⟨some ⟨b2, 0, none⟩, 1, 1, 34, 8, vecCells 0 (.slice none 0 0) 0 (.slice none 0 0) (.slice none 0 0) (.slice none 0 0) (.slice none 0 0) (.slice none 0 0)⟩, ⟨some ⟨b1, 0, none⟩, 1, 1, 34, 8, vecCells v.kind wv nv sm il fl ch bx⟩] w') ?_ ?_
      · refine Zrun ?_
        exact joinQ_meet () ⟨rfl, rfl, rfl, rfl, trivial⟩ hs
      intro _ w7 hs
      have hbad : decide (∀ x ∈ v.nums, rankF x ≤ 2) = false := decide_eq_false (fun e => hw (e _ (mem_getD v.nums k 0 hlt)))
      cases b with
      | false =>
        refine Zrun ?_
        refine RW.val (Y.build T rfl rfl rfl rfl rfl rfl rfl) rfl ?_
        (refine RW.storeAll T hs 1 rfl rfl rfl rfl rfl rfl rfl rfl ?_; intro w8 hs)
        refine Zrun ?_
        exact retQ_ret [_, _] h6 ⟨resN T hs 1 rfl rfl rfl rfl rfl rfl, rfl, trivial⟩ hs.dropAll ⟨_, false, rfl, hbad.symm, vecNone h6⟩
      | true =>
        have hb3 := hb2 rfl
        by_cases hlow : (wholeF (v.nums.getD k 0)).1 < -128
        all_goals
          refine Zrun ?_
        all_goals
          refine RW.val (Y.build T rfl rfl rfl rfl rfl rfl rfl) rfl ?_
        all_goals
          (refine RW.storeAll T hs 1 rfl rfl rfl rfl rfl rfl rfl rfl ?_; intro w8 hs)
        all_goals
          refine Zrun ?_
        all_goals exact retQ_ret [_, _] h6 ⟨resN T hs 1 rfl rfl rfl rfl rfl rfl, rfl, trivial⟩ hs.dropAll ⟨_, false, rfl, hbad.symm, vecNone h6⟩
  · obtain rfl : k = v.nums.length := by omega
    have hall := all_of_getD (p := fun x => rankF x ≤ 2) v.nums 0 hno
    have hfw : (v.nums.map fun x => (wholeF x).1).map fwF = v.nums := by
      rw [List.map_map]
      conv => rhs; rw [← List.map_id v.nums]
      apply List.map_congr_left
      intro x hx
      obtain ⟨t1, _, _⟩ := (rank_small x).1 (hall x hx)
      exact (fw_whole x (wholeF x).1 (htd x hx) (by rw [← t1])).symm
    have hrng : ∀ u ∈ v.nums.map fun x => (wholeF x).1, -128 ≤ u ∧ u ≤ 127 := by
      intro u hu
      rw [List.mem_map] at hu
      obtain ⟨x, hx, rfl⟩ := hu
      exact ((rank_small x).1 (hall x hx)).2
    refine Zrun ?_
    obtain ⟨h8, hle8, hs, hS8⟩ := hs.freeze
    have hT8 : KAt .i8 h8 (.slice (some ⟨b4, 0, none⟩) v.nums.length v.nums.length) (v.nums.map fun x => (wholeF x).1) := RowAt.of_sl (by dsimp only at hS8; simpa using hS8)
    (refine RW.call T hs rfl rfl rfl (vecSmalls_con (R := R) _ _ _ _ hT8 hrng (by simp; omega)) ?_; intro v h10 w10 hle10 hp10 hs)
    obtain ⟨cs10, rfl, hv10⟩ := hp10
    rw [hfw] at hv10
    have hv11 := hv10
    obtain ⟨wv', nv', sm', il', fl', ch', bx', ⟨rfl, hoc'⟩, _⟩ := hv10
    refine Zrun ?_
    (refine RW.storeAll T hs 0 rfl rfl rfl rfl rfl rfl hoc' rfl ?_; intro w11 hs)
    refine Zrun ?_
    exact retQ_ret [_, _] h10 ⟨resN T hs 0 rfl rfl rfl rfl rfl rfl, rfl, trivial⟩ hs.dropAll ⟨_, true, rfl, (decide_eq_true hall).symm, hv11⟩
end
end Go.Proofs.YtmfealaaacmohaaDoor

/-
  Contracts of functions of package squeeze: numbers brought into a store. No statement is proved here.
-/
namespace Go.Proofs.YtmfealaaacmohaaDoor
open Go Go.RowKit
set_option linter.unusedVariables false
set_option linter.unusedSimpArgs false
set_option maxHeartbeats 4000000
attribute [local irreducible] CW RW QW SW HW ConM retM heldQ calmQ elemP thenQ blockQ loopQ joinQ retQ Yields Con Sl zF magR unitF truncF fwF wholeF tidySpec
attribute [local irreducible] rankF leastN

section
variable {α : Type} {R : GHeap → List Value → α → Prop}
/-- what comes of elements that are brought into a store -/
def VecD.into (v : VecD α) (k : Int) : VecD α × Bool :=
  if v.kind = k then (v, true)
  else if v.cls ≠ 0 ∨ v.kind = 0 then (VecD.none, false)
  else if 1 ≤ k ∧ k ≤ 4 ∧ ∀ x ∈ v.nums, rankF x ≤ k then (⟨k, v.nums, [], []⟩, true)
  else (VecD.none, false)
theorem sqInto_con (hR : Mono R) (cs : List Value) (v : VecD α) (k : Int) (w : World) (h : GHeap) (hv : VecAt R h cs v) (hm : v.len ≤ 1048576) : Con Tryd.prog 100 [.agg cs.toArray, .int .i64 k] w h
    (fun h' u => ∃ cs', u = .tuple #[.agg cs'.toArray, .bool (v.into k).2] ∧ VecAt R h' cs' (v.into k).1) := by
  have hv' := hv
  have hnl := hv.nums_len
  have htd := hv.tidy
  obtain ⟨wv, nv, sm, il, fl, ch, bx, ⟨rfl, hoc⟩, hk⟩ := hv
  refine Con.of_body Tryd.func100 rfl Tryd.ntmps100 rfl rfl ?_
  intro hs
  refine Zrun ?_
  (refine RW.boxN hs rfl rfl ?_; intro b1 w1 hs)
  (refine RW.allocN T hs rfl rfl rfl rfl ?_; intro b2 w2 hs)
  refine Zrun ?_
  (refine RW.call T hs rfl rfl rfl (vecKind_con _ v _ _ hv') ?_; intro v h3 w3 hle3 hp3 hs)
  subst hp3
  have hv' := hv'.mono hR hle3
  by_cases h1 : v.kind = k
  · have hsp : v.into k = (v, true) := by unfold VecD.into; rw [if_pos h1]
    rw [hsp]
    refine Zrun ?_
    (refine RW.storeAll T hs 0 rfl rfl rfl rfl rfl rfl hoc rfl ?_; intro w4 hs)
    refine Zrun ?_
    exact retQ_ret [_, _] h3 ⟨resN T hs 0 rfl rfl rfl rfl rfl rfl, rfl, trivial⟩ hs.dropAll ⟨_, rfl, hv'⟩
  refine Zrun ?_
  (refine RW.call T hs rfl rfl rfl (vecClass_con _ v _ _ hv') ?_; intro v h4 w4 hle4 hp4 hs)
  subst hp4
  have hv' := hv'.mono hR hle4
  by_cases hc : v.cls ≠ 0
  · have hsp : v.into k = (VecD.none, false) := by unfold VecD.into; rw [if_neg h1, if_pos (.inl hc)]
    rw [hsp]
    refine Zrun ?_
    refine RW.val (Y.build T rfl rfl rfl rfl rfl rfl rfl) rfl ?_
    (refine RW.storeAll T hs 0 rfl rfl rfl rfl rfl rfl rfl rfl ?_; intro w5 hs)
    refine Zrun ?_
    exact retQ_ret [_, _] h4 ⟨resN T hs 0 rfl rfl rfl rfl rfl rfl, rfl, trivial⟩ hs.dropAll ⟨_, rfl, vecNone h4⟩
  refine Zrun ?_
  (refine RW.call T hs rfl rfl rfl (vecKind_con _ v _ _ hv') ?_; intro v h5 w5 hle5 hp5 hs)
  subst hp5
  have hv' := hv'.mono hR hle5
  by_cases hk0 : v.kind = 0
  · have hsp : v.into k = (VecD.none, false) := by unfold VecD.into; rw [if_neg h1, if_pos (.inr hk0)]
    rw [hsp]
    refine Zrun ?_
    refine RW.val (Y.build T rfl rfl rfl rfl rfl rfl rfl) rfl ?_
    (refine RW.storeAll T hs 0 rfl rfl rfl rfl rfl rfl rfl rfl ?_; intro w6 hs)
    refine Zrun ?_
    exact retQ_ret [_, _] h5 ⟨resN T hs 0 rfl rfl rfl rfl rfl rfl, rfl, trivial⟩ hs.dropAll ⟨_, rfl, vecNone h5⟩
  have hc := Decidable.of_not_not hc
  have hsp0 : ∀ ok, 1 ≤ k ∧ k ≤ 4 → ok = decide (∀ x ∈ v.nums, rankF x ≤ k) → v.into k = (if ok = true then ⟨k, v.nums, [], []⟩ else VecD.none, ok) := by
    intro ok hkk hok
    unfold VecD.into
    rw [if_neg h1, if_neg (fun e => e.elim (fun e => e hc) hk0)]
    by_cases ha : ∀ x ∈ v.nums, rankF x ≤ k
    · rw [if_pos ⟨hkk.1, hkk.2, ha⟩, hok, decide_eq_true ha]; rfl
    · rw [if_neg (fun e => ha e.2.2), hok, decide_eq_false ha]; rfl
  by_cases k1 : k = 1
  · subst k1
    refine Zrun ?_
    (refine RW.call T hs rfl rfl rfl (sqIntoBits_con hR _ v _ _ hv' hc hm) ?_; intro v h6 w6 hle6 hp6 hs)
    obtain ⟨cs6, ok, rfl, hok, hv6⟩ := hp6
    rw [hsp0 ok (by omega) hok]
    have hv7 := hv6
    obtain ⟨wv', nv', sm', il', fl', ch', bx', ⟨rfl, hoc'⟩, _⟩ := hv6
    refine Zrun ?_
    (refine RW.storeAll T hs 0 rfl rfl rfl rfl rfl rfl hoc' rfl ?_; intro w7 hs)
    refine Zrun ?_
    exact retQ_ret [_, _] h6 ⟨resN T hs 0 rfl rfl rfl rfl rfl rfl, rfl, trivial⟩ hs.dropAll ⟨_, rfl, hv7⟩
  by_cases k2 : k = 2
  · subst k2
    refine Zrun ?_
    (refine RW.call T hs rfl rfl rfl (sqIntoSmalls_con hR _ v _ _ hv' hc hm) ?_; intro v h6 w6 hle6 hp6 hs)
    obtain ⟨cs6, ok, rfl, hok, hv6⟩ := hp6
    rw [hsp0 ok (by omega) hok]
    have hv7 := hv6
    obtain ⟨wv', nv', sm', il', fl', ch', bx', ⟨rfl, hoc'⟩, _⟩ := hv6
    refine Zrun ?_
    (refine RW.storeAll T hs 0 rfl rfl rfl rfl rfl rfl hoc' rfl ?_; intro w7 hs)
    refine Zrun ?_
    exact retQ_ret [_, _] h6 ⟨resN T hs 0 rfl rfl rfl rfl rfl rfl, rfl, trivial⟩ hs.dropAll ⟨_, rfl, hv7⟩
  by_cases k3 : k = 3
  · subst k3
    have hiff : (∀ x ∈ v.nums, rankF x ≤ 3) ↔ (∀ x ∈ v.nums, (wholeF x).2 = true) := ⟨fun e x hx => (rank_int x).1 (e x hx), fun e x hx => (rank_int x).2 (e x hx)⟩
    refine Zrun ?_
    (refine RW.call T hs rfl rfl rfl (sqWholes_con hR _ v _ _ hv' hc (by omega)) ?_; intro v h6 w6 hle6 hp6 hs)
    obtain ⟨s6, ok, rfl, hok, hs6⟩ := hp6
    rw [← decide_eq_decide.2 hiff] at hok
    rw [hsp0 ok (by omega) hok]
    cases ok with
    | false =>
      refine Zrun ?_
      refine RW.val (Y.build T rfl rfl rfl rfl rfl rfl rfl) rfl ?_
      (refine RW.storeAll T hs 0 rfl rfl rfl rfl rfl rfl rfl rfl ?_; intro w7 hs)
      refine Zrun ?_
      exact retQ_ret [_, _] h6 ⟨resN T hs 0 rfl rfl rfl rfl rfl rfl, rfl, trivial⟩ hs.dropAll ⟨_, rfl, vecNone h6⟩
    | true =>
      have hall := hiff.1 (of_decide_eq_true hok.symm)
      have hfw : (v.nums.map fun x => (wholeF x).1).map fwF = v.nums := by
        rw [List.map_map]
        conv => rhs; rw [← List.map_id v.nums]
        apply List.map_congr_left
        intro x hx
        exact (fw_whole x (wholeF x).1 (htd x hx) (by rw [← hall x hx])).symm
      have hrng : ∀ u ∈ v.nums.map fun x => (wholeF x).1, -9007199254740992 ≤ u ∧ u ≤ 9007199254740992 := by
        intro u hu
        rw [List.mem_map] at hu
        obtain ⟨x, hx, rfl⟩ := hu
        exact ((wholeF_iff x (wholeF x).1).1 (by rw [← hall x hx])).2
      have hn := hnl hc
      refine Zrun ?_
      (refine RW.call T hs rfl rfl rfl (vecInts_con (R := R) s6 _ _ _ (hs6 rfl) (by simp; omega)) ?_; intro v h7 w7 hle7 hp7 hs)
      obtain ⟨cs7, ok7, rfl, hok7, hv7⟩ := hp7
      obtain rfl : ok7 = true := by rw [hok7]; exact decide_eq_true hrng
      simp only [if_true] at hv7
      rw [hfw] at hv7
      have hv8 := hv7
      obtain ⟨wv', nv', sm', il', fl', ch', bx', ⟨rfl, hoc'⟩, _⟩ := hv7
      refine Zrun ?_
      (refine RW.storeAll T hs 0 rfl rfl rfl rfl rfl rfl hoc' rfl ?_; intro w8 hs)
      refine Zrun ?_
      exact retQ_ret [_, _] h7 ⟨resN T hs 0 rfl rfl rfl rfl rfl rfl, rfl, trivial⟩ hs.dropAll ⟨_, rfl, hv8⟩
  by_cases k4 : k = 4
  · subst k4
    have hok : true = decide (∀ x ∈ v.nums, rankF x ≤ 4) := (decide_eq_true (fun x _ => (rankF_bounds x).2)).symm
    rw [hsp0 true (by omega) hok]
    have h64 : ∀ x ∈ v.nums, x < 18446744073709551616 := fun x hx => (htd x hx).1
    have hfin : ∀ x ∈ v.nums, finF x := fun x hx => (htd x hx).2.1
    have hmt : v.nums.map tidyW = v.nums := by
      conv => rhs; rw [← List.map_id v.nums]
      apply List.map_congr_left
      intro x hx
      unfold tidyW
      rw [tidySpec_of x (htd x hx)]; rfl
    have hn := hnl hc
    refine Zrun ?_
    (refine RW.call T hs rfl rfl rfl (vecNums_con hR _ v _ _ hv' (by omega)) ?_; intro v h6 w6 hle6 hp6 hs)
    refine Zrun ?_
    (refine RW.call T hs rfl rfl rfl (vecFloats_con (R := R) _ _ _ _ hp6 h64 (by omega)) ?_; intro v h7 w7 hle7 hp7 hs)
    obtain ⟨cs7, ok7, rfl, hok7, hv7⟩ := hp7
    obtain rfl : ok7 = true := by rw [hok7]; exact decide_eq_true hfin
    simp only [if_true] at hv7
    rw [hmt] at hv7
    have hv8 := hv7
    obtain ⟨wv', nv', sm', il', fl', ch', bx', ⟨rfl, hoc'⟩, _⟩ := hv7
    refine Zrun ?_
    (refine RW.storeAll T hs 0 rfl rfl rfl rfl rfl rfl hoc' rfl ?_; intro w8 hs)
    refine Zrun ?_
    exact retQ_ret [_, _] h7 ⟨resN T hs 0 rfl rfl rfl rfl rfl rfl, rfl, trivial⟩ hs.dropAll ⟨_, rfl, hv8⟩
  have hsp : v.into k = (VecD.none, false) := by
    unfold VecD.into
    rw [if_neg h1, if_neg (fun e => e.elim (fun e => e hc) hk0), if_neg (fun e => by omega)]
  rw [hsp]
  refine Zrun ?_
  refine RW.val (Y.build T rfl rfl rfl rfl rfl rfl rfl) rfl ?_
  (refine RW.storeAll T hs 0 rfl rfl rfl rfl rfl rfl rfl rfl ?_; intro w6 hs)
  refine Zrun ?_
  exact retQ_ret [_, _] h5 ⟨resN T hs 0 rfl rfl rfl rfl rfl rfl, rfl, trivial⟩ hs.dropAll ⟨_, rfl, vecNone h5⟩
end
end Go.Proofs.YtmfealaaacmohaaDoor

/-
  Contracts of functions of package squeeze: whether elements are in the least store. No statement is proved here.
-/
namespace Go.Proofs.YtmfealaaacmohaaDoor
open Go Go.RowKit
set_option linter.unusedVariables false
set_option linter.unusedSimpArgs false
set_option maxHeartbeats 4000000
attribute [local irreducible] CW RW QW SW HW ConM retM heldQ calmQ elemP thenQ blockQ loopQ joinQ retQ Yields Con Sl zF magR unitF truncF fwF wholeF tidySpec
attribute [local irreducible] rankF leastN

section
variable {α : Type} {R : GHeap → List Value → α → Prop}
end
end Go.Proofs.YtmfealaaacmohaaDoor

/-
  Contracts of functions of package squeeze: elements brought into the least store. No statement is proved here.
-/
namespace Go.Proofs.YtmfealaaacmohaaDoor
open Go Go.RowKit
set_option linter.unusedVariables false
set_option linter.unusedSimpArgs false
set_option maxHeartbeats 4000000
attribute [local irreducible] CW RW QW SW HW ConM retM heldQ calmQ elemP thenQ blockQ loopQ joinQ retQ Yields Con Sl zF magR unitF truncF fwF wholeF tidySpec
attribute [local irreducible] rankF leastN

section
variable {α : Type} {R : GHeap → List Value → α → Prop}
/-- elements in the least store -/
def VecD.sq (v : VecD α) : VecD α := if v.cls = 0 ∧ v.kind ≠ 0 then ⟨leastN v.nums, v.nums, [], []⟩ else v
theorem into_least (v : VecD α) (hn : v.cls = 0 → v.kind ≠ 0 → v = ⟨v.kind, v.nums, [], []⟩) : v.into v.least = (v.sq, true) := by
  unfold VecD.into VecD.least VecD.sq
  by_cases h : v.cls = 0 ∧ v.kind ≠ 0
  · rw [if_pos h, if_pos h]
    by_cases hk : v.kind = leastN v.nums
    · rw [if_pos hk, ← hk, ← hn h.1 h.2]
    · have hb := leastN_bounds v.nums
      rw [if_neg hk, if_neg (fun e => e.elim (fun e => e h.1) h.2), if_pos ⟨hb.1, hb.2, leastN_le v.nums⟩]
  · rw [if_neg h, if_neg h, if_pos rfl]
theorem VecAt.numeric {h : GHeap} {cs : List Value} {v : VecD α} (hv : VecAt R h cs v) (hc : v.cls = 0) (hk0 : v.kind ≠ 0) : v = ⟨v.kind, v.nums, [], []⟩ := by
  obtain ⟨wv, nv, sm, il, fl, ch, bx, _, hk⟩ := hv
  rcases hk with ⟨_, rfl⟩ | ⟨_, bs, _, rfl, rfl⟩ | ⟨_, l, _, _, rfl⟩ | ⟨_, l, _, _, rfl⟩ | ⟨_, l, _, _, rfl⟩ | ⟨_, l, _, rfl⟩ | ⟨_, l, _, rfl⟩
  all_goals first | rfl | (simp [VecD.cls] at hc) | (exact absurd rfl hk0)
theorem sqSqueeze_con (hR : Mono R) (cs : List Value) (v : VecD α) (w : World) (h : GHeap) (hv : VecAt R h cs v) (hm : v.len ≤ 1048576) : Con Tryd.prog 60 [.agg cs.toArray] w h (fun h' u => ∃ cs', u = .agg cs'.toArray ∧ VecAt R h' cs' v.sq) := by
  have hv' := hv
  have hil := into_least v hv.numeric
  obtain ⟨wv, nv, sm, il, fl, ch, bx, ⟨rfl, hoc⟩, hk⟩ := hv
  refine Con.of_body Tryd.func60 rfl Tryd.ntmps60 rfl rfl ?_
  intro hs
  refine Zrun ?_
  (refine RW.boxN hs rfl rfl ?_; intro b1 w1 hs)
  (refine RW.allocN T hs rfl rfl rfl rfl ?_; intro b2 w2 hs)
  refine Zrun ?_
  refine CW.meet (fun p : Nat × List Value × GHeap => [(1, .pointer (some ⟨b1, 0, none⟩)), (2, .pointer (some ⟨b2, 0, none⟩)), (3, .pointer (some ⟨p.1, 0, none⟩)), (4, .bool true)]) (fun p w' => VecAt R p.2.2 p.2.1 v.sq ∧ Sees w h p.2.2 [⟨some ⟨p.1, 0, none⟩, 1, 1, 34, 8, p.2.1⟩, ⟨some ⟨b2, 0, none⟩, 1, 1, 34, 8, vecCells 0 (.slice none 0 0) 0 (.slice none 0 0) (.slice none 0 0) (.slice none 0 0) (.slice none 0 0) (.slice none 0 0)⟩, ⟨some ⟨b1, 0, none⟩, 1, 1, 34, 8, vecCells v.kind wv nv sm il fl ch bx⟩] w') ?_ ?_
  · refine CW.regionH T (fun w' : World => ∃ (h' : GHeap) (O : List Row) (k : Nat), Sees w h h' O w' ∧ O[k]? = some (Row.mk (some ⟨b1, 0, none⟩) 1 1 34 8 (vecCells v.kind wv nv sm il fl ch bx))) ?_
    rintro w4 rfl
    have hs := hs.drew
    refine HW.take (fuel := 9) 0 rfl (v := .agg (vecCells v.kind wv nv sm il fl ch bx).toArray) ?_ ?_ rfl (by kernel_rfl) (by kernel_rfl) (by kernel_rfl) ?_
    · rintro w' ⟨h', O, k, hs', hO⟩
      exact Y.loadRowN T hs' k hO rfl rfl rfl rfl rfl rfl
    · exact ⟨_, _, 1, hs, rfl⟩
    refine HW.take (fuel := 8) 1 rfl (v := .agg (vecCells v.kind wv nv sm il fl ch bx).toArray) ?_ ?_ rfl (by kernel_rfl) (by kernel_rfl) (by kernel_rfl) ?_
    · rintro w' ⟨h', O, k, hs', hO⟩
      exact Y.loadRowN T hs' k hO rfl rfl rfl rfl rfl rfl
    · exact ⟨_, _, 1, hs, rfl⟩
    refine HW.two 2 7 rfl rfl (by kernel_rfl) ?_ ?_
    · (refine RW.call T hs rfl rfl rfl (sqLeast_con hR _ v _ _ hv' (by omega)) ?_; intro v h5 w5 hle5 hp5 hs)
      subst hp5
      have hv' := hv'.mono hR hle5
      (refine RW.nil ?_; refine heldQ_normal ⟨_, _, 1, hs, rfl⟩ ?_)
      refine HW.two (fuel := 6) 3 7 rfl rfl (by kernel_rfl) ?_ ?_
      · (refine RW.call T hs rfl rfl rfl (sqInto_con hR _ v _ _ _ hv' hm) ?_; intro v h6 w6 hle6 hp6 hs)
        obtain ⟨cs6, rfl, hv6⟩ := hp6
        rw [hil] at hv6 ⊢
        (refine RW.nil ?_; refine heldQ_normal ⟨_, _, 1, hs, rfl⟩ ?_)
        refine HW.take (fuel := 5) 4 rfl (v := .tuple #[.agg cs6.toArray, .bool true]) ?_ ?_ rfl (by kernel_rfl) (by kernel_rfl) (by kernel_rfl) ?_
        · intro _ _; first | exact Y.move rfl | exact Y.extract rfl rfl | exact Y.assign rfl
        · exact ⟨_, _, 1, hs, rfl⟩
        refine HW.take (fuel := 4) 5 rfl (v := .agg cs6.toArray) ?_ ?_ rfl (by kernel_rfl) (by kernel_rfl) (by kernel_rfl) ?_
        · intro _ _; first | exact Y.move rfl | exact Y.extract rfl rfl | exact Y.assign rfl
        · exact ⟨_, _, 1, hs, rfl⟩
        refine HW.take (fuel := 3) 6 rfl (v := .bool true) ?_ ?_ rfl (by kernel_rfl) (by kernel_rfl) (by kernel_rfl) ?_
        · intro _ _; first | exact Y.move rfl | exact Y.extract rfl rfl | exact Y.assign rfl
        · exact ⟨_, _, 1, hs, rfl⟩
        refine HW.one (fuel := 2) 7 rfl (by kernel_rfl) ?_
        (refine RW.allocN T hs rfl rfl rfl rfl ?_; intro b7 w7 hs)
        (refine RW.nil ?_; refine heldQ_normal ⟨_, _, 2, hs, rfl⟩ ?_)
        refine HW.one (fuel := 1) 8 rfl (by kernel_rfl) ?_
        have hv7 := hv6
        obtain ⟨wv', nv', sm', il', fl', ch', bx', ⟨rfl, hoc'⟩, _⟩ := hv6
        (refine RW.storeAll T hs 0 rfl rfl rfl rfl rfl rfl hoc' rfl ?_; intro w8 hs)
        (refine RW.nil ?_; refine heldQ_normal ⟨_, _, 2, hs, rfl⟩ ?_)
        refine HW.one (fuel := 0) 9 rfl (by kernel_rfl) ?_
        refine RW.val (Y.assign rfl) rfl ?_
        (refine RW.nil ?_; refine heldQ_normal ⟨_, _, 2, hs, rfl⟩ ?_)
        refine HW.done (by kernel_rfl) ?_
        refine calmQ_normal ?_
        exact joinQ_meet (b7, _, h6) ⟨rfl, rfl, rfl, rfl, trivial⟩ ⟨hv7, hs⟩
      · (refine RW.allocN T hs rfl rfl rfl rfl ?_; intro b7 w7 hs)
        (refine RW.nil ?_; refine heldQ_normal ⟨_, _, 2, hs, rfl⟩ ?_)
        refine HW.one (fuel := 5) 3 rfl (by kernel_rfl) ?_
        (refine RW.call T hs rfl rfl rfl (sqInto_con hR _ v _ _ _ hv' hm) ?_; intro v h6 w6 hle6 hp6 hs)
        obtain ⟨cs6, rfl, hv6⟩ := hp6
        rw [hil] at hv6 ⊢
        (refine RW.nil ?_; refine heldQ_normal ⟨_, _, 2, hs, rfl⟩ ?_)
        refine HW.take (fuel := 4) 4 rfl (v := .tuple #[.agg cs6.toArray, .bool true]) ?_ ?_ rfl (by kernel_rfl) (by kernel_rfl) (by kernel_rfl) ?_
        · intro _ _; first | exact Y.move rfl | exact Y.extract rfl rfl | exact Y.assign rfl
        · exact ⟨_, _, 2, hs, rfl⟩
        refine HW.take (fuel := 3) 5 rfl (v := .agg cs6.toArray) ?_ ?_ rfl (by kernel_rfl) (by kernel_rfl) (by kernel_rfl) ?_
        · intro _ _; first | exact Y.move rfl | exact Y.extract rfl rfl | exact Y.assign rfl
        · exact ⟨_, _, 2, hs, rfl⟩
        refine HW.take (fuel := 2) 6 rfl (v := .bool true) ?_ ?_ rfl (by kernel_rfl) (by kernel_rfl) (by kernel_rfl) ?_
        · intro _ _; first | exact Y.move rfl | exact Y.extract rfl rfl | exact Y.assign rfl
        · exact ⟨_, _, 2, hs, rfl⟩
        refine HW.one (fuel := 1) 8 rfl (by kernel_rfl) ?_
        have hv7 := hv6
        obtain ⟨wv', nv', sm', il', fl', ch', bx', ⟨rfl, hoc'⟩, _⟩ := hv6
        (refine RW.storeAll T hs 0 rfl rfl rfl rfl rfl rfl hoc' rfl ?_; intro w8 hs)
        (refine RW.nil ?_; refine heldQ_normal ⟨_, _, 2, hs, rfl⟩ ?_)
        refine HW.one (fuel := 0) 9 rfl (by kernel_rfl) ?_
        refine RW.val (Y.assign rfl) rfl ?_
        (refine RW.nil ?_; refine heldQ_normal ⟨_, _, 2, hs, rfl⟩ ?_)
        refine HW.done (by kernel_rfl) ?_
        refine calmQ_normal ?_
        exact joinQ_meet (b7, _, h6) ⟨rfl, rfl, rfl, rfl, trivial⟩ ⟨hv7, hs⟩
    · (refine RW.allocN T hs rfl rfl rfl rfl ?_; intro b7 w7 hs)
      (refine RW.nil ?_; refine heldQ_normal ⟨_, _, 2, hs, rfl⟩ ?_)
      refine HW.one (fuel := 6) 2 rfl (by kernel_rfl) ?_
      (refine RW.call T hs rfl rfl rfl (sqLeast_con hR _ v _ _ hv' (by omega)) ?_; intro v h5 w5 hle5 hp5 hs)
      subst hp5
      have hv' := hv'.mono hR hle5
      (refine RW.nil ?_; refine heldQ_normal ⟨_, _, 2, hs, rfl⟩ ?_)
      refine HW.one (fuel := 5) 3 rfl (by kernel_rfl) ?_
      (refine RW.call T hs rfl rfl rfl (sqInto_con hR _ v _ _ _ hv' hm) ?_; intro v h6 w6 hle6 hp6 hs)
      obtain ⟨cs6, rfl, hv6⟩ := hp6
      rw [hil] at hv6 ⊢
      (refine RW.nil ?_; refine heldQ_normal ⟨_, _, 2, hs, rfl⟩ ?_)
      refine HW.take (fuel := 4) 4 rfl (v := .tuple #[.agg cs6.toArray, .bool true]) ?_ ?_ rfl (by kernel_rfl) (by kernel_rfl) (by kernel_rfl) ?_
      · intro _ _; first | exact Y.move rfl | exact Y.extract rfl rfl | exact Y.assign rfl
      · exact ⟨_, _, 2, hs, rfl⟩
      refine HW.take (fuel := 3) 5 rfl (v := .agg cs6.toArray) ?_ ?_ rfl (by kernel_rfl) (by kernel_rfl) (by kernel_rfl) ?_
      · intro _ _; first | exact Y.move rfl | exact Y.extract rfl rfl | exact Y.assign rfl
      · exact ⟨_, _, 2, hs, rfl⟩
      refine HW.take (fuel := 2) 6 rfl (v := .bool true) ?_ ?_ rfl (by kernel_rfl) (by kernel_rfl) (by kernel_rfl) ?_
      · intro _ _; first | exact Y.move rfl | exact Y.extract rfl rfl | exact Y.assign rfl
      · exact ⟨_, _, 2, hs, rfl⟩
      refine HW.one (fuel := 1) 8 rfl (by kernel_rfl) ?_
      have hv7 := hv6
      obtain ⟨wv', nv', sm', il', fl', ch', bx', ⟨rfl, hoc'⟩, _⟩ := hv6
      (refine RW.storeAll T hs 0 rfl rfl rfl rfl rfl rfl hoc' rfl ?_; intro w8 hs)
      (refine RW.nil ?_; refine heldQ_normal ⟨_, _, 2, hs, rfl⟩ ?_)
      refine HW.one (fuel := 0) 9 rfl (by kernel_rfl) ?_
      refine RW.val (Y.assign rfl) rfl ?_
      (refine RW.nil ?_; refine heldQ_normal ⟨_, _, 2, hs, rfl⟩ ?_)
      refine HW.done (by kernel_rfl) ?_
      refine calmQ_normal ?_
      exact joinQ_meet (b7, _, h6) ⟨rfl, rfl, rfl, rfl, trivial⟩ ⟨hv7, hs⟩
  · rintro ⟨b3, cs3, h3⟩ w3 ⟨hv3, hs⟩
    dsimp only at hv3 hs ⊢
    have hv4 := hv3
    obtain ⟨wv', nv', sm', il', fl', ch', bx', ⟨rfl, hoc'⟩, _⟩ := hv3
    refine Zrun ?_
    (refine RW.storeAll T hs 1 rfl rfl rfl rfl rfl rfl hoc' rfl ?_; intro w4 hs)
    refine Zrun ?_
    exact retQ_ret [_] h3 ⟨resN T hs 1 rfl rfl rfl rfl rfl rfl, trivial⟩ hs.dropAll ⟨_, rfl, hv4⟩
end
end Go.Proofs.YtmfealaaacmohaaDoor

/-
  Contracts of functions of package squeeze: numbers kept in the least store. No statement is proved here.
-/
namespace Go.Proofs.YtmfealaaacmohaaDoor
open Go Go.RowKit
set_option linter.unusedVariables false
set_option linter.unusedSimpArgs false
set_option maxHeartbeats 4000000
attribute [local irreducible] CW RW QW SW HW ConM retM heldQ calmQ elemP thenQ blockQ loopQ joinQ retQ Yields Con Sl zF magR unitF truncF fwF wholeF tidySpec
attribute [local irreducible] rankF leastN

section
variable {α : Type} {R : GHeap → List Value → α → Prop}
theorem sqNumbers_con (hR : Mono R) (s : Value) (l : List Nat) (w : World) (h : GHeap) (hl : FAt h s l) (hx : ∀ u ∈ l, u < 18446744073709551616) (hm : l.length ≤ 1048576) : Con Tryd.prog 14 [s] w h
    (fun h' u => ∃ cs ok, u = .tuple #[.agg cs.toArray, .bool ok] ∧ ok = decide (∀ u ∈ l, finF u) ∧ VecAt R h' cs (if ok = true then ⟨leastN (l.map tidyW), l.map tidyW, [], []⟩ else VecD.none)) := by
  refine Con.of_body Tryd.func14 rfl Tryd.ntmps14 rfl rfl ?_
  intro hs
  refine Zrun ?_
  (refine RW.allocN T hs rfl rfl rfl rfl ?_; intro b1 w1 hs)
  refine Zrun ?_
  (refine RW.call T hs rfl rfl rfl (vecFloats_con (R := R) s l _ _ hl hx (by omega)) ?_; intro v h2 w2 hle2 hp2 hs)
  obtain ⟨cs2, ok, rfl, hok, hv2⟩ := hp2
  have hv3 := hv2
  obtain ⟨wv', nv', sm', il', fl', ch', bx', ⟨rfl, hoc'⟩, _⟩ := hv2
  refine Zrun ?_
  (refine RW.allocN T hs rfl rfl rfl rfl ?_; intro b3 w3 hs)
  (refine RW.storeAll T hs 0 rfl rfl rfl rfl rfl rfl hoc' rfl ?_; intro w4 hs)
  refine Zrun ?_
  cases ok with
  | false =>
    refine Zrun ?_
    refine RW.val (Y.build T rfl rfl rfl rfl rfl rfl rfl) rfl ?_
    (refine RW.storeAll T hs 1 rfl rfl rfl rfl rfl rfl rfl rfl ?_; intro w5 hs)
    refine Zrun ?_
    exact retQ_ret [_, _] h2 ⟨resN T hs 1 rfl rfl rfl rfl rfl rfl, rfl, trivial⟩ hs.dropAll ⟨_, false, rfl, hok, vecNone h2⟩
  | true =>
    have hsq : VecD.sq (⟨4, l.map tidyW, [], []⟩ : VecD α) = ⟨leastN (l.map tidyW), l.map tidyW, [], []⟩ := by
      unfold VecD.sq VecD.cls
      simp
    simp only [if_true] at hv3
    refine Zrun ?_
    (refine RW.call T hs rfl rfl rfl (sqSqueeze_con hR _ _ _ _ hv3 (by simp [VecD.len]; omega)) ?_; intro v h5 w5 hle5 hp5 hs)
    obtain ⟨cs5, rfl, hv5⟩ := hp5
    rw [hsq] at hv5
    have hv6 := hv5
    obtain ⟨wv5, nv5, sm5, il5, fl5, ch5, bx5, ⟨rfl, hoc5⟩, _⟩ := hv5
    refine Zrun ?_
    (refine RW.storeAll T hs 1 rfl rfl rfl rfl rfl rfl hoc5 rfl ?_; intro w6 hs)
    refine Zrun ?_
    exact retQ_ret [_, _] h5 ⟨resN T hs 1 rfl rfl rfl rfl rfl rfl, rfl, trivial⟩ hs.dropAll ⟨_, true, rfl, hok, hv6⟩
end
end Go.Proofs.YtmfealaaacmohaaDoor

/-
  Contracts of functions of package vec: all whole numbers, boxes, none. No statement is proved here.
-/
namespace Go.Proofs.YtmfealaaacmohaaDoor
open Go Go.RowKit
set_option linter.unusedVariables false
set_option linter.unusedSimpArgs false
set_option maxHeartbeats 4000000
attribute [local irreducible] CW RW QW SW HW ConM retM heldQ calmQ elemP thenQ blockQ loopQ joinQ retQ Yields Con Sl zF magR unitF truncF fwF wholeF tidySpec
attribute [local irreducible] rankF leastN

section
variable {α : Type} {R : GHeap → List Value → α → Prop}
theorem vecWholes_con (hR : Mono R) (cs : List Value) (v : VecD α) (w : World) (h : GHeap) (hv : VecAt R h cs v) (hm : v.len ≤ 1099511627776) : Con Tryd.prog 73 [.agg cs.toArray] w h
    (fun h' u => ∃ s, u = .tuple #[s, .bool (decide (v.kind = 1 ∨ v.kind = 2 ∨ v.kind = 3))] ∧ KAt .i64 h' s (if v.kind = 1 ∨ v.kind = 2 ∨ v.kind = 3 then v.nums.map (fun x => (wholeF x).1) else [])) := by
  have hv' := hv
  have hnl := hv.nums_len
  obtain ⟨wv, nv, sm, il, fl, ch, bx, ⟨rfl, hoc⟩, hk⟩ := hv
  refine Con.of_body Tryd.func73 rfl Tryd.ntmps73 rfl rfl ?_
  intro hs
  refine Zrun ?_
  (refine RW.boxN hs rfl rfl ?_; intro b1 w1 hs)
  by_cases h3 : v.kind = 3
  · obtain ⟨l, hl, hr, rfl⟩ : ∃ l, KAt .i64 h il l ∧ (∀ u ∈ l, -9007199254740992 ≤ u ∧ u ≤ 9007199254740992) ∧ v = ⟨3, l.map fwF, [], []⟩ := by
      rcases hk with ⟨e, _⟩ | ⟨e, _⟩ | ⟨e, _⟩ | ⟨e, hh⟩ | ⟨e, _⟩ | ⟨e, _⟩ | ⟨e, _⟩
      all_goals first | exact hh | omega
    have hwl : (l.map fwF).map (fun x => (wholeF x).1) = l := by
      rw [List.map_map]
      conv => rhs; rw [← List.map_id l]
      apply List.map_congr_left
      intro x hx
      simp only [Function.comp, wholeF_fw x (hr x hx), id]
    simp [VecD.len] at hm
    refine Zrun ?_
    (refine RW.call T hs rfl rfl rfl (cloneI64_con il l _ _ hl hm) ?_; intro v h2 w2 hle2 hp2 hs)
    refine Zrun ?_
    exact retQ_ret [_, _] h2 ⟨rfl, rfl, trivial⟩ hs.dropAll ⟨_, rfl, by rw [if_pos (.inr (.inr rfl)), hwl]; exact hp2⟩
  · by_cases h12 : v.kind = 1 ∨ v.kind = 2
    · have hc : v.cls = 0 := by unfold VecD.cls; rw [if_neg (by omega), if_neg (by omega)]
      have hn := hnl hc
      have e3 : v.kind = 1 ∨ v.kind = 2 ∨ v.kind = 3 := by omega
      have hwhole : ∀ k : Nat, k < v.nums.length → v.whole (k : Int) = ((wholeF (v.nums.getD k 0)).1, true) := by
        intro k hk
        unfold VecD.whole
        rw [if_pos ⟨e3, by omega, by omega⟩, Int.toNat_natCast]
      rcases h12 with hk1 | hk1
      all_goals
        refine Zrun ?_
        (refine RW.call T hs rfl rfl rfl (vecLen_con _ v _ _ hv') ?_; intro v h2 w2 hle2 hp2 hs)
        subst hp2
        have hv' := hv'.mono hR hle2
        rw [← hn] at hm ⊢
        (refine RW.make1 T hs rfl rfl rfl rfl rfl rfl rfl (by dsimp only; omega) (by omega) ?_; intro b3 w3 hs)
        refine Zrun ?_
        refine CW.loop (fun p : Nat × GHeap => [(1, .pointer (some ⟨b1, 0, none⟩)), (4, .slice (some ⟨b3, 0, none⟩) v.nums.length v.nums.length), (20, .int .i64 v.nums.length), (21, .int .i64 p.1)]) (fun p w' => p.1 ≤ v.nums.length ∧ GLe h2 p.2 ∧ Sees w h p.2 [⟨some ⟨b3, 0, none⟩, v.nums.length, v.nums.length, 2, 1, ((v.nums.take p.1).map fun x => (wholeF x).1).map (Value.int .i64) ++ List.replicate (v.nums.length - p.1) (.int .i64 0)⟩, ⟨some ⟨b1, 0, none⟩, 1, 1, 34, 8, vecCells v.kind wv nv sm il fl ch bx⟩] w') (fun p => v.nums.length - p.1) (0, h2) ⟨rfl, rfl, rfl, rfl, trivial⟩ ⟨by omega, GLe.refl _, by simp only [List.take_zero, List.map_nil, List.nil_append, Nat.sub_zero]; exact hs⟩ ?_
        rintro ⟨k, hh⟩ w5 ⟨hk5, hgl, hs⟩
        dsimp only at hk5 hgl hs ⊢
        have hv' := hv'.mono hR hgl
        by_cases hlt : k < v.nums.length
        · refine Zrun ?_
          (refine RW.call T hs rfl rfl rfl (vecWhole_con _ v k _ _ hv') ?_; intro v h6 w6 hle6 hp6 hs)
          subst hp6
          rw [hwhole k hlt]
          refine Zrun ?_
          refine RW.val (Y.idxRN T hs 0 rfl rfl rfl rfl rfl rfl ?_) rfl ?_
          · omega
          refine RW.st1 T hs 0 rfl rfl rfl rfl rfl rfl rfl (by omega) ?_
          intro w7 hs
          refine Zrun ?_
          refine loopQ_round (k + 1, h6) ⟨rfl, rfl, rfl, rfl, trivial⟩ ⟨by dsimp only; omega, hgl.trans hle6, ?_⟩ (by dsimp only; omega)
          dsimp only
          have e := set_snoc (((v.nums.take k).map fun x => (wholeF x).1).map (Value.int .i64)) (v.nums.length - k) (Value.int .i64 0) (Value.int .i64 (wholeF (v.nums.getD k 0)).1) (by omega)
          simp only [List.length_map, List.length_take, Nat.min_eq_left hk5] at e
          rw [take_snoc v.nums k 0 hlt, List.map_append, List.map_append, show v.nums.length - (k + 1) = v.nums.length - k - 1 by omega]
          exact hs.re e
        · obtain rfl : k = v.nums.length := by omega
          refine Zrun ?_
          obtain ⟨h8, hle8, hs8, hS8⟩ := hs.freeze
          refine retQ_ret [_, _] h8 ⟨rfl, rfl, trivial⟩ hs8.dropAll ⟨_, by rw [decide_eq_true e3]; rfl, by rw [if_pos e3]; exact RowAt.of_sl (n := v.nums.length) (by dsimp only at hS8; simpa using hS8)⟩
    · have e3 : ¬ (v.kind = 1 ∨ v.kind = 2 ∨ v.kind = 3) := by omega
      refine Zrun ?_
      exact retQ_ret [_, _] h ⟨rfl, rfl, trivial⟩ hs.dropAll ⟨_, by rw [decide_eq_false e3]; rfl, by rw [if_neg e3]; exact RowAt.nil _⟩
end
end Go.Proofs.YtmfealaaacmohaaDoor

/-
  Contracts of functions of package vec: all boxes' arrays, one of them. No statement is proved here.
-/
namespace Go.Proofs.YtmfealaaacmohaaDoor
open Go Go.RowKit
set_option linter.unusedVariables false
set_option linter.unusedSimpArgs false
set_option maxHeartbeats 4000000
attribute [local irreducible] CW RW QW SW HW ConM retM heldQ calmQ elemP thenQ blockQ loopQ joinQ retQ Yields Con Sl zF magR unitF truncF fwF wholeF tidySpec
attribute [local irreducible] rankF leastN

/-- every cell of such a row is one cell -/
def One {α : Type} (R : GHeap → List Value → α → Prop) : Prop := ∀ h cs a, R h cs a → ∀ u ∈ cs, u.oneCell' = true
theorem IntsAt.one' {h : GHeap} {u : Value} {x : List Int} (hi : IntsAt h u x) : u.oneCell' = true := by
  obtain ⟨ad, cp, rfl, _⟩ := hi; rfl
theorem VecAt.one {α : Type} {R : GHeap → List Value → α → Prop} {h : GHeap} {cs : List Value} {v : VecD α} (hv : VecAt R h cs v) : ∀ u ∈ cs, u.oneCell' = true := by
  obtain ⟨wv, nv, sm, il, fl, ch, bx, ⟨rfl, hoc⟩, hk⟩ := hv
  exact fun u hu => List.all_eq_true.1 hoc u hu
theorem VecAt.size {α : Type} {R : GHeap → List Value → α → Prop} {h : GHeap} {cs : List Value} {v : VecD α} (hv : VecAt R h cs v) : cs.length = 8 := by
  obtain ⟨wv, nv, sm, il, fl, ch, bx, ⟨rfl, hoc⟩, hk⟩ := hv
  rfl
theorem ArrAt.one : (k : Nat) → One (ArrAt k)
  | 0 => fun _ _ _ h => h.elim
  | k + 1 => fun h cs a ⟨s, vc, e, hs, hv⟩ u hu => by
    subst e
    rcases List.mem_cons.1 hu with rfl | hu
    · exact hs.one'
    · exact hv.one u hu

section
variable {α : Type} {R : GHeap → List Value → α → Prop}
end
end Go.Proofs.YtmfealaaacmohaaDoor

/-
  The program logic, fifteenth part: plain arrays in memory. No statement is proved here.
-/
namespace Go.Proofs.YtmfealaaacmohaaDoor
open Go Go.RowKit
set_option linter.unusedVariables false
set_option linter.unusedSimpArgs false
set_option linter.unusedVariables false
structure ItemD (α : Type) where
  kind : Int
  num : Nat
  char : Int
  box : List α
structure PlainD (α : Type) where
  shape : List Int
  items : List (ItemD α)
  fill : Int
/-- plain arrays whose boxes lie less than so deep -/
def PD : Nat → Type
  | 0 => Unit
  | k + 1 => PlainD (PD k)
section
variable {α : Type} (R : GHeap → List Value → α → Prop)
def ItemAt (h : GHeap) (cs : List Value) (x : ItemD α) : Prop := ∃ bx, cs = [.int .i64 x.kind, .float .f64 x.num, .int .i32 x.char, bx] ∧ RowsAt 3 (R h) h bx x.box ∧ x.num < 18446744073709551616
def PlainR (h : GHeap) (cs : List Value) (p : PlainD α) : Prop := ∃ s it, cs = [s, it, .int .i64 p.fill] ∧ IntsAt h s p.shape ∧ RowsAt 4 (ItemAt R h) h it p.items
end
def PlainAt : (k : Nat) → GHeap → List Value → PD k → Prop
  | 0 => fun _ _ _ => False
  | k + 1 => PlainR (α := PD k) (PlainAt k)
theorem RowsAt.one {α : Type} {sz : Nat} {R : List Value → α → Prop} {h : GHeap} {v : Value} {l : List α} (hi : RowsAt sz R h v l) : v.oneCell' = true := by
  obtain ⟨ad, cp, xs, rfl, _⟩ := hi; rfl
section
variable {α : Type} {R : GHeap → List Value → α → Prop}
theorem ItemAt.mono (hR : Mono R) : Mono (ItemAt R) := fun h h' cs x hl ⟨bx, e, hb, hn⟩ => ⟨bx, e, hb.mono hl (fun u a => hR _ _ u a hl), hn⟩
theorem PlainR.mono (hR : Mono R) : Mono (PlainR R) := fun h h' cs p hl ⟨s, it, e, hs, hi⟩ => ⟨s, it, e, hs.mono hl, hi.mono hl (fun u a => ItemAt.mono hR _ _ u a hl)⟩
theorem ItemAt.one : One (ItemAt R) := by
  rintro h cs x ⟨bx, rfl, hb, _⟩ u hu
  simp only [List.mem_cons, List.not_mem_nil, or_false] at hu
  rcases hu with rfl | rfl | rfl | rfl
  · rfl
  · rfl
  · rfl
  · exact hb.one
theorem PlainR.one : One (PlainR R) := by
  rintro h cs x ⟨s, it, rfl, hs, hi⟩ u hu
  simp only [List.mem_cons, List.not_mem_nil, or_false] at hu
  rcases hu with rfl | rfl | rfl
  · exact hs.one'
  · exact hi.one
  · rfl
end
theorem PlainAt.mono : (k : Nat) → Mono (PlainAt k)
  | 0 => fun _ _ _ _ _ h => h
  | k + 1 => PlainR.mono (PlainAt.mono k)
theorem PlainAt.one : (k : Nat) → One (PlainAt k)
  | 0 => fun _ _ _ h => h.elim
  | k + 1 => PlainR.one
end Go.Proofs.YtmfealaaacmohaaDoor

/-
  From a contract of a law to its row: the arguments read out of memory into the ghost heap. No statement is proved here.
-/
namespace Go.Proofs.YtmfealaaacmohaaDoor
open Go Go.RowKit Go.ChangeShapes Go.WideShapes Go.ChangeAt
set_option linter.unusedVariables false
set_option linter.unusedSimpArgs false

theorem Con.walk {P : Program} {f : FuncId} {vs : List Value} {w : World} {v : Value} (hc : Con P f vs w (ghost w) (fun _ u => u = v)) : Calls P f vs.toArray w fun e w' => e = .returned v ∧ Below w.heap.size w w' := by
  refine (hc (ghost_agree w)).mono ?_
  rintro e w' ⟨u, h', rfl, hs, rfl⟩
  exact ⟨rfl, hs.below⟩
theorem ghost_cell {w : World} {b o : Nat} {v : Value} (h : w.cell? ⟨b, o, none⟩ = some v) : ∃ cs, ghost w b = some cs ∧ cs[o]? = some v := by
  unfold World.cell? at h
  unfold ghost
  split at h
  · rename_i c e fr hb
    simp only at hb
    rw [hb]
    exact ⟨c.toList, rfl, by simpa using h⟩
  · cases h
theorem cell_spot {w : World} {p : Addr} {v : Value} (h : w.cell? p = some v) : p.spot = none := by
  unfold World.cell? at h
  split at h
  · cases hs : p.spot with
    | none => rfl
    | some x => simp [hs] at h
  · cases h
/-- cells that are known one by one, as a slice of the ghost heap -/
theorem sl_of_cells {w : World} {a : Addr} {n cp sz : Nat} {xs : List Value} (hl : xs.length = n * sz) (hn : n ≤ cp) (hm : cp ≤ maxLen) (hz : 0 < sz) (hc : ∀ j u, xs[j]? = some u → w.cell? (a.add j) = some u) : Sl (ghost w) sz (some a) n cp xs := by
  refine ⟨hl, hn, hm, by simp, fun p hp => ?_⟩
  cases hp
  have hsp : n = 0 ∨ a.spot = none := by
    rcases Nat.eq_zero_or_pos n with h | h
    · exact .inl h
    · right
      have hpos : 0 < xs.length := by rw [hl]; exact Nat.mul_pos h hz
      have := hc 0 xs[0] (List.getElem?_eq_getElem hpos)
      rw [Addr.add_zero'] at this
      exact cell_spot this
  refine ⟨hsp, fun j hj => ?_⟩
  have hj' : j < xs.length := by rw [hl]; exact hj
  have h1 := hc j xs[j] (List.getElem?_eq_getElem hj')
  have hsp' : a.spot = none := hsp.resolve_left (fun e => by rw [e, Nat.zero_mul] at hj; omega)
  have hadd : a.add j = ⟨a.block, a.off + j, none⟩ := by
    cases a with | mk b o s => simp at hsp'; subst hsp'; exact Addr.add_lit _ _ _
  rw [hadd] at h1
  obtain ⟨cs, h2, h3⟩ := ghost_cell h1
  exact ⟨cs, h2, by rw [h3, List.getElem?_eq_getElem hj']⟩
theorem sl_nil (h : GHeap) (sz : Nat) : Sl h sz none 0 0 [] := ⟨by simp, Nat.le_refl _, by simp [maxLen], fun _ => rfl, fun p hp => by cases hp⟩
/-- a slice of integers that came in -/
theorem open_intsG {H : Type} {enc : TypeId × Value → H} {P : Program} {w : World} {held : Bool} {t e : TypeId} {k : IntKind} {r : Reach} {b0 : Nat} {v : Value} {d : DataW H} {ps : List MemPlace}
    (ht : P.underlying t = some (.slice e)) (he : P.underlying e = some (.int k)) (hc : P.cellsOf e = 1) (hv : Value.okWide P w r b0 t v) (hd : DataW.Trod enc P w 0 (fun _ => true) held t v d ps) :
    ∃ (ad : Option Addr) (cp : Nat) (l : List Int), v = .slice ad l.length cp ∧ Sl (ghost w) 1 ad l.length cp (l.map (Value.int k)) ∧ (∀ x ∈ l, (Lit.int k x).wf = true) ∧ cp ≤ 9223372036854775807 := by
  obtain ⟨a0, len0, cap0, rfl⟩ := okWide_slice ht hv
  obtain ⟨fuel, hf⟩ := hd
  rcases open_ints ht he hc hf with ⟨hcs, _⟩ | ⟨x, l, c, zs, hcs, _, hl, hm, hz, _, hcell, hwz⟩
  · simp [Value.cells] at hcs
    obtain ⟨rfl, rfl, rfl⟩ := hcs
    exact ⟨none, 0, [], rfl, sl_nil _ 1, by simp, by omega⟩
  · simp [Value.cells] at hcs
    obtain ⟨rfl, rfl, rfl⟩ := hcs
    have hzl : zs.length = cap0 := by simpa using hz
    have hlen : (zs.take len0).length = len0 := by rw [List.length_take]; omega
    refine ⟨some x, cap0, zs.take len0, by rw [hlen], ?_, fun y hy => hwz y (List.mem_of_mem_take hy), by simpa [maxLen] using hm⟩
    rw [hlen]
    refine sl_of_cells (by simp; omega) hl hm (by omega) ?_
    intro j u hj
    rw [List.getElem?_map] at hj
    have hj2 : j < len0 := by
      rcases Nat.lt_or_ge j len0 with h | h
      · exact h
      · rw [List.getElem?_eq_none (by omega)] at hj; simp at hj
    rw [hcell j (by omega)]
    rw [List.getElem?_take, if_pos hj2, List.getElem?_eq_getElem (by omega)] at hj
    simp at hj
    rw [← hj, List.getD_eq_getElem?_getD, List.getElem?_eq_getElem (by omega)]
    rfl
theorem open_IntsAt {H : Type} {enc : TypeId × Value → H} {P : Program} {w : World} {held : Bool} {t e : TypeId} {r : Reach} {b0 : Nat} {v : Value} {d : DataW H} {ps : List MemPlace}
    (ht : P.underlying t = some (.slice e)) (he : P.underlying e = some (.int .i64)) (hc : P.cellsOf e = 1) (hv : Value.okWide P w r b0 t v) (hd : DataW.Trod enc P w 0 (fun _ => true) held t v d ps) :
    ∃ l, IntsAt (ghost w) v l ∧ (∀ x ∈ l, -9223372036854775808 ≤ x ∧ x ≤ 9223372036854775807) ∧ l.length ≤ 9223372036854775807 := by
  obtain ⟨ad, cp, l, rfl, hS, hw, hcp⟩ := open_intsG ht he hc hv hd
  refine ⟨l, ⟨ad, cp, rfl, hS⟩, fun x hx => ?_, by have := hS.caps; omega⟩
  have := hw x hx
  simp [Lit.wf, IntKind.min, IntKind.max, IntKind.signed, IntKind.bits] at this
  omega
end Go.Proofs.YtmfealaaacmohaaDoor

/-
  Arguments of other types read out of memory into the ghost heap: slices of anything, floats, plain arrays. No statement is proved here.
-/
namespace Go.Proofs.YtmfealaaacmohaaDoor
open Go Go.RowKit Go.ChangeShapes Go.WideShapes Go.ChangeAt
set_option linter.unusedVariables false
set_option linter.unusedSimpArgs false
section
variable {H : Type} {enc : TypeId × Value → H} {P : Program} {w : World} {base : Nat} {spare : Nat → Bool} {held : Bool} {fuel n : Nat} {t e : TypeId} {cs : List Value} {x : DataW H × List MemPlace}
theorem trod_float {k : FloatKind} (ht : P.underlying t = some (.float k)) (h : DataW.trod enc P w base spare held fuel t cs = some x) : ∃ n, cs = [.float k n] ∧ (Lit.float k n).wf = true := by
  cases fuel with
  | zero => simp [DataW.trod] at h
  | succ n =>
    unfold DataW.trod at h
    rw [ht] at h
    split at h <;> simp_all
theorem open_f64 (ht : P.underlying t = some (.float .f64)) (h : DataW.trod enc P w base spare held fuel t cs = some x) : ∃ n, cs = [.float .f64 n] ∧ n < 18446744073709551616 := by
  obtain ⟨n, rfl, hw⟩ := trod_float ht h
  exact ⟨n, rfl, by simpa [Lit.wf] using hw⟩
/-- a slice of elements that open -/
theorem open_rows {α : Type} {sz : Nat} {R : List Value → α → Prop} (ht : P.underlying t = some (.slice e)) (hc : P.cellsOf e = sz) (hz : 0 < sz)
    (he : ∀ n < fuel, ∀ cs x, DataW.trod enc P w base spare held n e cs = some x → ∃ a, R cs a) (h : DataW.trod enc P w base spare held fuel t cs = some x) :
    ∃ v l, cs = [v] ∧ RowsAt sz R (ghost w) v l ∧ l.length ≤ 9223372036854775807 := by
  rcases DataW.trod_slice ht h with ⟨hcs, _⟩ | ⟨a, len, cap, elems, rest, n, hf, hcs, _, _, hl, hm, hlen, hel, _⟩
  · exact ⟨_, [], hcs, RowsAt.nil _, by simp⟩
  · have key : ∀ m, m ≤ len → ∃ xs, ∃ l : List α, xs.length = m * sz ∧ l.length = m ∧ AllN sz R xs l ∧ ∀ j u, xs[j]? = some u → w.cell? (a.add j) = some u := by
      intro m
      induction m with
      | zero => exact fun _ => ⟨[], [], by simp, rfl, rfl, fun j u h => by simp at h⟩
      | succ m ih =>
        intro hm
        obtain ⟨xs, l, h1, h2, h3, h4⟩ := ih (by omega)
        have hi := hel m (by omega)
        rw [List.getElem?_eq_getElem (by omega), Option.bind_eq_some_iff] at hi
        obtain ⟨ys, hy, hr⟩ := hi
        obtain ⟨_, hyl, hyc⟩ := World.cells?_some hy
        obtain ⟨b, hb⟩ := he n (by omega) ys _ hr
        refine ⟨xs ++ ys, l ++ [b], by rw [List.length_append, hyl, hc, h1, Nat.add_mul, Nat.one_mul], by simp [h2], h3.append (AllN.one (hyl.trans hc) hb), ?_⟩
        intro j u hj
        by_cases hj2 : j < xs.length
        · rw [List.getElem?_append_left hj2] at hj
          exact h4 j u hj
        · rw [List.getElem?_append_right (by omega)] at hj
          have hjl := (List.getElem?_eq_some_iff.1 hj).1
          have := hyc (j - xs.length) (by omega)
          rw [hj, Addr.add_add, hc] at this
          rw [← this]
          congr 2
          omega
    obtain ⟨xs, l, h1, h2, h3, h4⟩ := key len (Nat.le_refl _)
    refine ⟨_, l, hcs, ⟨some a, cap, xs, by rw [h2], ?_, h3⟩, by rw [h2]; simp [maxLen] at hm; omega⟩
    rw [h2]
    exact sl_of_cells h1 hl hm hz h4
theorem AllN.mk {α : Type} {mk : α → Value} : ∀ {xs : List Value} {l : List α}, AllN 1 (fun cs a => cs = [mk a]) xs l → xs = l.map mk
  | xs, [], h => h
  | [], a :: l, h => by have := h.1; simp at this
  | y :: xs, a :: l, h => by
    have h1 := h.2.1
    simp at h1
    have := AllN.mk h.2.2
    rw [List.map_cons, h1, ← this]
    simp
theorem RowsAt.row {α : Type} {mk : α → Value} {h : GHeap} {v : Value} {l : List α} (hr : RowsAt 1 (fun cs a => cs = [mk a]) h v l) : RowAt mk h v l := by
  obtain ⟨ad, cp, xs, rfl, hS, hA⟩ := hr
  exact ⟨ad, cp, rfl, by rw [← hA.mk]; exact hS⟩
theorem AllN.all {α : Type} {sz : Nat} {R : List Value → α → Prop} {p : α → Prop} (hp : ∀ cs a, R cs a → p a) : ∀ {xs : List Value} {l : List α}, AllN sz R xs l → ∀ a ∈ l, p a
  | _, [], _, _, h => by cases h
  | xs, b :: l, h, a, ha => by
    rcases List.mem_cons.1 ha with rfl | ha
    · exact hp _ _ h.2.1
    · exact AllN.all hp h.2.2 a ha
theorem open_ints2 {k : IntKind} (ht : P.underlying t = some (.slice e)) (he : P.underlying e = some (.int k)) (hc : P.cellsOf e = 1) (h : DataW.trod enc P w base spare held fuel t cs = some x) :
    ∃ v l, cs = [v] ∧ KAt k (ghost w) v l ∧ l.length ≤ 9223372036854775807 ∧ ∀ u ∈ l, (Lit.int k u).wf = true := by
  obtain ⟨v, l, h1, h2, h3⟩ := open_rows (R := fun cs (a : Int) => cs = [.int k a] ∧ (Lit.int k a).wf = true) ht hc (by omega) (fun n _ cs x h => by
    obtain ⟨m, hm, _, hw⟩ := DataW.trod_int he h
    exact ⟨m, hm, hw⟩) h
  refine ⟨v, l, h1, RowsAt.row (RowsAt.mono (GLe.refl _) (fun _ _ h => h.1) h2), h3, ?_⟩
  obtain ⟨ad, cp, xs, _, _, hA⟩ := h2
  exact AllN.all (fun _ _ h => h.2) hA
theorem open_floats (ht : P.underlying t = some (.slice e)) (he : P.underlying e = some (.float .f64)) (hc : P.cellsOf e = 1) (h : DataW.trod enc P w base spare held fuel t cs = some x) :
    ∃ v l, cs = [v] ∧ FAt (ghost w) v l ∧ l.length ≤ 9223372036854775807 ∧ ∀ u ∈ l, u < 18446744073709551616 := by
  obtain ⟨v, l, h1, h2, h3⟩ := open_rows (R := fun cs (a : Nat) => cs = [.float .f64 a] ∧ a < 18446744073709551616) ht hc (by omega) (fun n _ cs x h => open_f64 he h) h
  refine ⟨v, l, h1, RowsAt.row (RowsAt.mono (GLe.refl _) (fun _ _ h => h.1) h2), h3, ?_⟩
  obtain ⟨ad, cp, xs, _, _, hA⟩ := h2
  exact AllN.all (fun _ _ h => h.2) hA
/-- a plain array that came in, its boxes too -/
theorem open_plain {tp tis ti ts tint tf tr tb : TypeId} {fp fi : Array Field} (hp : P.underlying tp = some (.struct fp)) (hi : P.underlying ti = some (.struct fi)) (hts : P.underlying ts = some (.slice tint)) (htis : P.underlying tis = some (.slice ti)) (htb : P.underlying tb = some (.slice tp))
    (htint : P.underlying tint = some (.int .i64)) (htf : P.underlying tf = some (.float .f64)) (htr : P.underlying tr = some (.int .i32))
    (cp : P.cellsOf tp = 3) (ci : P.cellsOf ti = 4) (cint : P.cellsOf tint = 1) (cf : P.cellsOf tf = 1) (cr : P.cellsOf tr = 1) (cts : P.cellsOf ts = 1) (ctis : P.cellsOf tis = 1) (ctb : P.cellsOf tb = 1)
    (efp : fp.toList.map (fun f => (f.type, f.offset)) = [(ts, 0), (tis, 1), (tint, 2)]) (efi : fi.toList.map (fun f => (f.type, f.offset)) = [(tint, 0), (tf, 1), (tr, 2), (tb, 3)]) :
    ∀ (n k : Nat) (cs : List Value) (x : DataW H × List MemPlace), n ≤ k → DataW.trod enc P w base spare held n tp cs = some x → ∃ p : PD k, PlainAt k (ghost w) cs p := by
  have fld : ∀ (fs : Array Field) (j : Nat) (a b : Nat), (fs.toList.map (fun f => (f.type, f.offset)))[j]? = some (a, b) → ∃ f, fs[j]? = some f ∧ f.type = a ∧ f.offset = b := by
    intro fs j a b h
    rw [List.getElem?_map] at h
    cases hf : fs.toList[j]? with
    | none => rw [hf] at h; cases h
    | some f =>
      rw [hf] at h
      simp at h
      exact ⟨f, by simpa using hf, h.1, h.2⟩
  intro n
  induction n using Nat.strongRecOn with
  | _ n ih =>
    intro k cs x hk h
    obtain ⟨xs, m, rfl, _, hlen, hxl, hf⟩ := DataW.trod_struct hp h
    rw [cp] at hlen
    have hxl3 : xs.length = 3 := by
      have := congrArg List.length efp
      simp at this; omega
    match cs, hlen, xs, hxl3 with
    | [c0, c1, c2], _, [y0, y1, y2], _ =>
    obtain ⟨f0, h0, e0, o0⟩ := fld fp 0 ts 0 (by rw [efp]; rfl)
    obtain ⟨f1, h1, e1, o1⟩ := fld fp 1 tis 1 (by rw [efp]; rfl)
    obtain ⟨f2, h2, e2, o2⟩ := fld fp 2 tint 2 (by rw [efp]; rfl)
    have g0 := hf 0 f0 h0
    have g1 := hf 1 f1 h1
    have g2 := hf 2 f2 h2
    rw [e0, o0, cts] at g0
    rw [e1, o1, ctis] at g1
    rw [e2, o2, cint] at g2
    simp at g0 g1 g2
    obtain ⟨vs, ls, es, hs, _⟩ := open_ints2 hts htint cint g0
    obtain ⟨fill, ef, _, _⟩ := DataW.trod_int htint g2
    cases k with
    | zero => omega
    | succ k =>
    obtain ⟨vi, li, ei, hli, _⟩ := open_rows (α := ItemD (PD k)) (sz := 4) (R := ItemAt (PlainAt k) (ghost w)) htis ci (by omega) (fun n' hn' cs' x' h' => by
      obtain ⟨xs', m', rfl, _, hlen', hxl', hf'⟩ := DataW.trod_struct hi h'
      rw [ci] at hlen'
      have hxl4 : xs'.length = 4 := by
        have := congrArg List.length efi
        simp at this; omega
      match cs', hlen', xs', hxl4 with
      | [d0, d1, d2, d3], _, [z0, z1, z2, z3], _ =>
      obtain ⟨f0, h0, e0, o0⟩ := fld fi 0 tint 0 (by rw [efi]; rfl)
      obtain ⟨f1, h1, e1, o1⟩ := fld fi 1 tf 1 (by rw [efi]; rfl)
      obtain ⟨f2, h2, e2, o2⟩ := fld fi 2 tr 2 (by rw [efi]; rfl)
      obtain ⟨f3, h3, e3, o3⟩ := fld fi 3 tb 3 (by rw [efi]; rfl)
      have g0 := hf' 0 f0 h0
      have g1 := hf' 1 f1 h1
      have g2 := hf' 2 f2 h2
      have g3 := hf' 3 f3 h3
      rw [e0, o0, cint] at g0
      rw [e1, o1, cf] at g1
      rw [e2, o2, cr] at g2
      rw [e3, o3, ctb] at g3
      simp at g0 g1 g2 g3
      obtain ⟨kd, ek, _, _⟩ := DataW.trod_int htint g0
      obtain ⟨nm, en, hn⟩ := open_f64 htf g1
      obtain ⟨ch, ec, _, _⟩ := DataW.trod_int htr g2
      obtain ⟨vb, lb, eb, hb, _⟩ := open_rows (α := PD k) (sz := 3) (R := PlainAt k (ghost w)) htb cp (by omega) (fun n'' hn'' cs'' x'' h'' => ih n'' (by omega) k cs'' x'' (by omega) h'') g3
      simp only [List.cons.injEq, and_true] at ek en ec eb
      subst ek; subst en; subst ec; subst eb
      exact ⟨⟨kd, nm, ch, lb⟩, d3, rfl, hb, hn⟩) g1
    simp only [List.cons.injEq, and_true] at es ei ef
    subst es; subst ei; subst ef
    exact ⟨(⟨ls, li, fill⟩ : PlainD (PD k)), c0, c1, rfl, hs, hli⟩
end
end Go.Proofs.YtmfealaaacmohaaDoor

/-
  Plain facts on shapes: places and indexes, all of them in order. No program is in sight, and no statement is proved here.
-/
namespace Go.Proofs.YtmfealaaacmohaaDoor

/-! ## All indexes, in order -/
end Go.Proofs.YtmfealaaacmohaaDoor

/-
  The program logic, sixteenth part: fields of a slice's elements, closures made, floats divided, whole items of plain arrays. No statement is proved here.
-/
namespace Go.Proofs.YtmfealaaacmohaaDoor
open Go Go.RowKit
set_option linter.unusedVariables false
set_option linter.unusedSimpArgs false
set_option linter.unusedVariables false
section
variable {P : Program} (T : Tab P) {n : Nat} {Q : Post} {L : Env} {w0 w : World} {h0 h : GHeap} {O : List Row} {ops rest : List Oper} {x y : Operand} {t : TypeId}
variable {d : Option Tmp} {ty yt : TypeId} {pos : String} {aft : Array Edge}
def elemQ (ad : Option Addr) (j sz off : Nat) : Value := .pointer (some ((ad.getD ⟨0, 0, none⟩).add (j * sz + off)))
theorem elemQ_some (b o j sz off : Nat) : elemQ (some ⟨b, o, none⟩) j sz off = .pointer (some ⟨b, o + (j * sz + off), none⟩) := by
  simp [elemQ, Addr.add_lit]
include T in
theorem Y.fieldE {fs : List (Nat × Nat)} {j ft off : Nat} {i : Inf} {ad : Option Addr} {m cp q sz : Nat} {xs : List Value} (hT : T.ty t = some (.struct fs)) (hf : fs[j]? = some (ft, off)) (hI : T.inf ft = some i) (h0' : Nat.ble 1 i.size = true) (hx : opv L x = some (elemP ad q sz)) (hS : Sl h sz ad m cp xs) (hj : q < m) : Yields P n L w (.fieldAddr t x j) ty (elemQ ad q sz off) := by
  obtain ⟨b, o, rfl, _⟩ := hS.at hj
  rw [elemP_some] at hx
  rw [elemQ_some, ← Nat.add_assoc]
  exact Y.fieldAddr T hT hf hI h0' hx
include T in
theorem Y.ldQ {t' : TypeId} {dd : Ty} {ad : Option Addr} {m cp q sz off : Nat} {xs : List Value} {v : Value} (hs : Sees w0 h0 h O w) (hx : opv L x = some (elemQ ad q sz off)) (hS : Sl h sz ad m cp xs) (hE : T.ty t' = some dd) (hag : dd.agg = false) (hj : q < m) (ho : Nat.blt off sz = true) (hv : xs[q * sz + off]? = some v) : Yields P n L w (.load t' x) ty v := by
  obtain ⟨b, o, rfl, hc⟩ := hS.at hj
  rw [elemQ_some] at hx
  obtain ⟨cs, h1, h2⟩ := hc off (Nat.le_of_ble_eq_true ho)
  rw [hv] at h2
  refine Y.load1 T hE hag hx (hs.cell h1 ?_)
  rw [← h2]; congr 1; omega
end
theorem blockQ_mono {Q Q' : Post} {id : Nat} (h : ∀ e L w, Q e L w → Q' e L w) : ∀ e L w, blockQ id Q e L w → blockQ id Q' e L w := by
  intro e L w q
  unfold blockQ at q ⊢
  cases e with
  | exit id' =>
    dsimp only at q ⊢
    cases hb : Nat.beq id' id with
    | true => rw [hb] at q; exact h _ _ _ q
    | false => rw [hb] at q; exact h _ _ _ q
  | _ => exact h _ _ _ q
theorem CW.meetB {P : Program} {n : Nat} {L : Env} {w : World} {Q : Post} {σ : Type} {id : Nat} {z b : Code} (E : σ → Env) (S : σ → World → Prop) (hx : CW P n (blockQ id (joinQ E S Q)) b L w) (hy : ∀ s w, S s w → CW P n Q z (E s) w) : CW P n (blockQ id (thenQ P n z Q)) b L w := by
  refine hx.mono (blockQ_mono ?_)
  intro e M w' q
  cases e with
  | normal => obtain ⟨s, h1, h2⟩ := q; exact (hy s w' h2).has h1
  | _ => exact q
/-! ## Items of plain arrays -/
section
variable {α : Type} {R : GHeap → List Value → α → Prop}
def noItem : ItemD α := ⟨0, 0, 0, []⟩
theorem AllN.get4 {xs : List Value} {sz j : Nat} {cs : List Value} (h : (xs.drop (j * sz)).take sz = cs) (o : Nat) (ho : o < sz) : xs[j * sz + o]? = cs[o]? := by
  rw [← h, List.getElem?_take, if_pos ho, List.getElem?_drop]
theorem ItemAt.cells {h : GHeap} {xs : List Value} {l : List (ItemD α)} (hA : AllN 4 (ItemAt R h) xs l) (j : Nat) (hj : j < l.length) :
    ∃ bx, (xs.drop (j * 4)).take 4 = [.int .i64 (l.getD j noItem).kind, .float .f64 (l.getD j noItem).num, .int .i32 (l.getD j noItem).char, bx] ∧ bx.oneCell' = true ∧ RowsAt 3 (R h) h bx (l.getD j noItem).box ∧ (l.getD j noItem).num < 18446744073709551616 ∧
      xs[j * 4 + 0]? = some (.int .i64 (l.getD j noItem).kind) ∧ xs[j * 4 + 1]? = some (.float .f64 (l.getD j noItem).num) ∧ xs[j * 4 + 2]? = some (.int .i32 (l.getD j noItem).char) ∧ xs[j * 4 + 3]? = some bx := by
  obtain ⟨⟨bx, e, hb, hn⟩, _⟩ := hA.get noItem j hj
  refine ⟨bx, e, hb.one, hb, hn, ?_, ?_, ?_, ?_⟩
  · rw [AllN.get4 e 0 (by omega)]; rfl
  · rw [AllN.get4 e 1 (by omega)]; rfl
  · rw [AllN.get4 e 2 (by omega)]; rfl
  · rw [AllN.get4 e 3 (by omega)]; rfl
end
end Go.Proofs.YtmfealaaacmohaaDoor

/-
  Plain arrays: what is asked of them, what comes of them. Plain Lean, no program in sight. No statement is proved here.
-/
namespace Go.Proofs.YtmfealaaacmohaaDoor
open Go Go.RowKit
set_option linter.unusedVariables false
set_option linter.unusedSimpArgs false
section
variable {α β : Type}
/-! ## What is wrong with a plain array -/
/-! ## Tidied -/
def tidyIt (f : α → β) (x : ItemD α) : ItemD β := if x.kind = 0 then ⟨0, tidyW x.num, 0, []⟩ else if x.kind = 1 then ⟨1, 0, x.char, []⟩ else if x.kind = 2 then ⟨2, 0, 0, (x.box.map f).take 1⟩ else ⟨x.kind, 0, 0, []⟩
def tidyP (f : α → β) (p : PlainD α) : PlainD β := ⟨p.shape, p.items.map (tidyIt f), p.fill⟩
def tidy : (k : Nat) → PD k → PD k
  | 0 => fun p => p
  | k + 1 => fun p => tidyP (α := PD k) (β := PD k) (tidy k) p
/-! ## The array of a plain one, and back -/
def itemsV (f : α → β) (v : VecD α) : List (ItemD β) :=
  if v.cls = 1 then v.chars.map fun c => ⟨1, 0, c, []⟩
  else if v.cls = 2 then v.boxes.map fun b => ⟨2, 0, 0, [f b]⟩
  else v.nums.map fun x => ⟨0, x, 0, []⟩
def plainA (f : α → β) (a : ArrD α) : PlainD β := ⟨a.shape, itemsV f a.vec, a.vec.cls⟩
def plain : (k : Nat) → AD k → PD k
  | 0 => fun _ => ()
  | k + 1 => fun a => plainA (α := AD k) (β := PD k) (plain k) a
/-- good arrays -/
def goodA (f : α → Prop) (d : Int) (a : ArrD α) : Prop := product a.shape 1048576 = ((a.vec.len : Int), 0) ∧ a.vec.kind ≠ 0 ∧ a.vec.kind = a.vec.least ∧ d ≠ 0 ∧ ∀ b ∈ a.vec.boxes, f b
def good : (k : Nat) → Int → AD k → Prop
  | 0 => fun _ _ => True
  | k + 1 => fun d a => goodA (α := AD k) (good k (d - 1)) d a
/-- how deep boxes lie -/
def depthP (f : α → Int) (p : PlainD α) : Int := if p.fill ≠ 2 then (if 0 < p.shape.length then 1 else 0) else (p.items.foldl (fun d x => max d ((x.box.map f).headD 0)) 0) + 1
def depth : (k : Nat) → PD k → Int
  | 0 => fun _ => 0
  | k + 1 => fun p => depthP (α := PD k) (depth k) p
end
end Go.Proofs.YtmfealaaacmohaaDoor

/-
  Plain arrays and arrays: that an array of a plain one is good, and told as it was. Plain Lean, no program in sight. No statement is proved here.
-/
namespace Go.Proofs.YtmfealaaacmohaaDoor
open Go Go.RowKit
set_option linter.unusedVariables false
set_option linter.unusedSimpArgs false
attribute [local irreducible] rankF leastN
section
variable {α β γ : Type}
end
end Go.Proofs.YtmfealaaacmohaaDoor

/-
  Contracts of functions of package shape. No statement is proved here.
-/
namespace Go.Proofs.YtmfealaaacmohaaDoor
open Go Go.RowKit
set_option linter.unusedVariables false
set_option linter.unusedSimpArgs false
set_option maxHeartbeats 4000000
attribute [local irreducible] CW RW QW SW HW ConM retM heldQ calmQ elemP thenQ blockQ loopQ joinQ retQ Yields Con Sl

end Go.Proofs.YtmfealaaacmohaaDoor

/-
  Contracts of functions of package shape and of its reference, second part. No statement is proved here.
-/
namespace Go.Proofs.YtmfealaaacmohaaDoor
open Go Go.RowKit
set_option linter.unusedVariables false
set_option linter.unusedSimpArgs false
set_option maxHeartbeats 4000000
attribute [local irreducible] CW RW QW SW HW ConM retM heldQ calmQ elemP thenQ blockQ loopQ joinQ retQ Yields Con Sl

/-- the same integers? -/
theorem ints_con (s t : Value) (l m : List Int) (w : World) (h : GHeap) (hl : IntsAt h s l) (ht : IntsAt h t m) (hm : l.length ≤ 9223372036854775807) : Con Tryd.prog 18 [s, t] w h (fun _ v => v = .bool (decide (l = m))) := by
  obtain ⟨ad, cp, rfl, hS⟩ := hl
  obtain ⟨ad2, cp2, rfl, hS2⟩ := ht
  refine Con.of_body Tryd.func18 rfl Tryd.ntmps18 rfl rfl ?_
  intro hs
  refine Zrun ?_
  refine CW.condD rfl (fun h8 => ?_) (fun h8 => ?_)
  · refine Zrun ?_
    refine retQ_ret [_] h ⟨rfl, trivial⟩ hs ?_
    have : l ≠ m := fun e => h8 (by rw [e])
    simp [packv, this]
  have hlen : l.length = m.length := by omega
  refine Zrun ?_
  refine CW.loop (fun k : Nat => [(0, .slice ad l.length cp), (1, .slice ad2 m.length cp2), (5, .int .i64 k)]) (fun k w' => k ≤ l.length ∧ (∀ j, j < k → l.getD j 0 = m.getD j 0) ∧ Sees w h h [] w') (fun k => l.length - k) 0 ⟨rfl, rfl, rfl, trivial⟩ ⟨by omega, by omega, hs⟩ ?_
  rintro k w' ⟨hk, hno, hs⟩
  by_cases hlt : k < l.length
  · refine Zrun ?_
    refine CW.regionQ T hs (Zqrun ?_) (by kernel_rfl)
    intro w' hs
    refine Zrun ?_
    refine CW.condD rfl (fun h2 => ?_) (fun h2 => ?_)
    · refine Zrun ?_
      refine retQ_ret [_] h ⟨rfl, trivial⟩ hs ?_
      have : l ≠ m := fun e => h2 (by rw [e])
      simp [packv, this]
    · refine Zrun ?_
      refine loopQ_round (k + 1) ⟨rfl, rfl, rfl, trivial⟩ ⟨by omega, ?_, hs⟩ (by omega)
      intro j hj
      by_cases e : j = k
      · subst e; exact Decidable.of_not_not h2
      · exact hno j (by omega)
  obtain rfl : k = l.length := by omega
  refine Zrun ?_
  refine retQ_ret [_] h ⟨rfl, trivial⟩ hs ?_
  have : l = m := by
    apply List.ext_getElem hlen
    intro j h1 h2
    have := hno j h1
    simpa [List.getD_eq_getElem?_getD, h1, h2] using this
  simp [packv, this]
end Go.Proofs.YtmfealaaacmohaaDoor

/-
  Contracts of the document's answer: numbers of layer 3, integers and counts of layer 7. No statement is proved here.
-/
namespace Go.Proofs.YtmfealaaacmohaaDoor
open Go Go.RowKit
set_option linter.unusedVariables false
set_option linter.unusedSimpArgs false
set_option maxHeartbeats 4000000
attribute [local irreducible] CW RW QW SW HW ConM retM heldQ calmQ elemP thenQ blockQ loopQ joinQ retQ Yields Con Sl zF magR unitF truncF fwF wholeF tidySpec elemQ rankF leastN tidyW

theorem finite_geq (x : Nat) (hf : ¬ finF x) : (ordF x 18442240474082181119 == some .gt || ordF x 18442240474082181119 == some .eq) = false ∨ ((ordF x 18442240474082181119 == some .gt || ordF x 18442240474082181119 == some .eq) = true ∧ (ordF x 9218868437227405311 == some .lt || ordF x 9218868437227405311 == some .eq) = false) := by
  rcases notfin x hf with hn | ⟨h1, h2⟩
  · left
    unfold ordF
    rw [(hn _).1]; rfl
  · unfold ordF
    rw [h2 _ finY, h2 _ finX]
    cases sgF x
    · right; exact ⟨rfl, rfl⟩
    · left; rfl
theorem refFinite_con (x : Nat) (w : World) (h : GHeap) : Con Tryd.prog 98 [.float .f64 x] w h (fun _ v => v = .bool (decide (finF x))) := by
  refine Con.of_body Tryd.func98 rfl Tryd.ntmps98 rfl rfl ?_
  intro hs
  by_cases hf : finF x
  · obtain ⟨b1, b2⟩ := zF_bounds x hf
    rw [decide_eq_true hf]
    refine Zrun ?_
    refine RW.val (Y.fGeq hf finY rfl rfl) rfl ?_
    rw [decide_eq_true b1]
    refine Zrun ?_
    refine RW.val (Y.fLeq hf finX rfl rfl) rfl ?_
    rw [decide_eq_true b2]
    refine Zrun ?_
    exact retQ_ret [_] h ⟨rfl, trivial⟩ hs rfl
  · rw [decide_eq_false hf]
    refine Zrun ?_
    refine RW.val (Y.fGeq' rfl rfl) rfl ?_
    rcases finite_geq x hf with e | ⟨e, e2⟩
    · rw [e]
      refine Zrun ?_
      exact retQ_ret [_] h ⟨rfl, trivial⟩ hs rfl
    · rw [e]
      refine Zrun ?_
      refine RW.val (Y.fLeq' rfl rfl) rfl ?_
      rw [e2]
      refine Zrun ?_
      exact retQ_ret [_] h ⟨rfl, trivial⟩ hs rfl
theorem refTidy_con (x : Nat) (w : World) (h : GHeap) : Con Tryd.prog 58 [.float .f64 x] w h (fun _ v => v = .tuple #[.float .f64 (tidySpec x).1, .bool (tidySpec x).2]) := by
  refine Con.of_body Tryd.func58 rfl Tryd.ntmps58 rfl rfl ?_
  intro hs
  refine Zrun ?_
  (refine RW.call T hs rfl rfl rfl (refFinite_con x _ _) ?_; intro v h1 w1 hle1 hp1 hs)
  subst hp1
  by_cases hf : finF x
  · rw [decide_eq_true hf]
    refine Zrun ?_
    refine RW.val (Y.fEql hf fin0 rfl rfl) rfl ?_
    rw [zF0]
    unfold tidySpec
    rw [if_pos hf]
    by_cases hz : zF x = 0
    · refine Zrun ?_
      exact retQ_ret [_, _] h1 ⟨rfl, rfl, trivial⟩ hs (by rw [if_pos hz]; rfl)
    · refine Zrun ?_
      exact retQ_ret [_, _] h1 ⟨rfl, rfl, trivial⟩ hs (by rw [if_neg hz]; rfl)
  · rw [decide_eq_false hf]
    unfold tidySpec
    rw [if_neg hf]
    refine Zrun ?_
    exact retQ_ret [_, _] h1 ⟨rfl, rfl, trivial⟩ hs rfl
section
variable {α : Type} {R : GHeap → List Value → α → Prop}
end
end Go.Proofs.YtmfealaaacmohaaDoor

/-
  Contracts of the document's answer: what is wrong with a plain array. No statement is proved here.
-/
namespace Go.Proofs.YtmfealaaacmohaaDoor
open Go Go.RowKit
set_option linter.unusedVariables false
set_option linter.unusedSimpArgs false
set_option maxHeartbeats 4000000
attribute [local irreducible] CW RW QW SW HW ConM retM heldQ calmQ elemP thenQ blockQ loopQ joinQ retQ Yields Con Sl zF magR unitF truncF fwF wholeF tidySpec elemQ rankF leastN tidyW

section
variable {α : Type} {R : GHeap → List Value → α → Prop}
theorem AllN.first {sz : Nat} {R' : List Value → α → Prop} {xs : List Value} {b : α} (hA : AllN sz R' xs [b]) : ∃ y, (xs.drop (0 * sz)).take sz = y ∧ y.length = sz ∧ R' y b := ⟨_, rfl, by simpa using hA.1, by simpa using hA.2.1⟩
end
end Go.Proofs.YtmfealaaacmohaaDoor

/-
  Contracts of the document's answer: plain arrays tidied. No statement is proved here.
-/
namespace Go.Proofs.YtmfealaaacmohaaDoor
open Go Go.RowKit
set_option linter.unusedVariables false
set_option linter.unusedSimpArgs false
set_option maxHeartbeats 4000000
attribute [local irreducible] CW RW QW SW HW ConM retM heldQ calmQ elemP thenQ blockQ loopQ joinQ retQ Yields Con Sl zF magR unitF truncF fwF wholeF tidySpec elemQ rankF leastN tidyW

theorem Sees.src0 {w0 w : World} {h0 h : GHeap} {O : List Row} {b m cp sz : Nat} {e : TypeId} {xs : List Value} (hs : Sees w0 h0 h (⟨some ⟨b, 0, none⟩, m, cp, e, sz, xs⟩ :: O) w) (hl : xs.length = m * sz) (h1 : ∀ u ∈ xs, u.oneCell' = true) : Src w (some ⟨b, 0, none⟩) m sz xs := by
  refine ⟨hl, h1, by simp, fun p hp j u hj => ?_⟩
  cases hp
  rw [Addr.add_lit]
  exact hs.rowCell (k := 0) rfl (by simpa using hj)
theorem take_succ_getD {α : Type} (l : List α) (i : Nat) (d : α) (h : i < l.length) : l.take (i + 1) = l.take i ++ [l.getD i d] := by
  rw [List.take_add_one, List.getD_eq_getElem?_getD, List.getElem?_eq_getElem h]; rfl
section
variable {α : Type} {R : GHeap → List Value → α → Prop}
end
end Go.Proofs.YtmfealaaacmohaaDoor

/-
  Contracts of the document's answer: whether plain arrays are the same. No statement is proved here.
-/
namespace Go.Proofs.YtmfealaaacmohaaDoor
open Go Go.RowKit
set_option linter.unusedVariables false
set_option linter.unusedSimpArgs false
set_option maxHeartbeats 4000000
attribute [local irreducible] CW RW QW SW HW ConM retM heldQ calmQ elemP thenQ blockQ loopQ joinQ retQ Yields Con Sl zF magR unitF truncF fwF wholeF tidySpec elemQ rankF leastN tidyW

section
variable {α : Type} {R : GHeap → List Value → α → Prop}
end
end Go.Proofs.YtmfealaaacmohaaDoor

/-
  Contracts of the document's answer: how deep plain arrays are, and plain arrays of numbers. No statement is proved here.
-/
namespace Go.Proofs.YtmfealaaacmohaaDoor
open Go Go.RowKit
set_option linter.unusedVariables false
set_option linter.unusedSimpArgs false
set_option maxHeartbeats 4000000
attribute [local irreducible] CW RW QW SW HW ConM retM heldQ calmQ elemP thenQ blockQ loopQ joinQ retQ Yields Con Sl zF magR unitF truncF fwF wholeF tidySpec elemQ rankF leastN tidyW

section
variable {α : Type} {R : GHeap → List Value → α → Prop}
end
end Go.Proofs.YtmfealaaacmohaaDoor

/-
  Contracts: packed truths are tidy, an element is looked for by a function, arrays are as they must be. No statement is proved here.
-/
namespace Go.Proofs.YtmfealaaacmohaaDoor
open Go Go.RowKit
set_option linter.unusedVariables false
set_option linter.unusedSimpArgs false
set_option maxHeartbeats 4000000
attribute [local irreducible] CW RW QW SW HW ConM retM heldQ calmQ elemP thenQ blockQ loopQ joinQ retQ Yields Con Sl zF magR unitF truncF fwF wholeF tidySpec elemQ rankF leastN tidyW

section
variable {α : Type} {R : GHeap → List Value → α → Prop}
end
end Go.Proofs.YtmfealaaacmohaaDoor

/-
  Contracts of functions of package value: rank, whether there is one element, depth. No statement is proved here.
-/
namespace Go.Proofs.YtmfealaaacmohaaDoor
open Go Go.RowKit
set_option linter.unusedVariables false
set_option linter.unusedSimpArgs false
set_option maxHeartbeats 4000000
attribute [local irreducible] CW RW QW SW HW ConM retM heldQ calmQ elemP thenQ blockQ loopQ joinQ retQ Yields Con Sl zF magR unitF truncF fwF wholeF tidySpec elemQ rankF leastN tidyW

section
variable {α : Type} {R : GHeap → List Value → α → Prop}
end
end Go.Proofs.YtmfealaaacmohaaDoor

/-
  Contracts of functions of package value: an array of a plain one. No statement is proved here.
-/
namespace Go.Proofs.YtmfealaaacmohaaDoor
open Go Go.RowKit
set_option linter.unusedVariables false
set_option linter.unusedSimpArgs false
set_option maxHeartbeats 4000000
attribute [local irreducible] CW RW QW SW HW ConM retM heldQ calmQ elemP thenQ blockQ loopQ joinQ retQ Yields Con Sl zF magR unitF truncF fwF wholeF tidySpec elemQ rankF leastN tidyW

section
variable {α β : Type} {R : GHeap → List Value → α → Prop} {RB : GHeap → List Value → β → Prop}
end
end Go.Proofs.YtmfealaaacmohaaDoor

/-
  Contracts of functions of package value: an array told as a plain one. No statement is proved here.
-/
namespace Go.Proofs.YtmfealaaacmohaaDoor
open Go Go.RowKit
set_option linter.unusedVariables false
set_option linter.unusedSimpArgs false
set_option maxHeartbeats 4000000
attribute [local irreducible] CW RW QW SW HW ConM retM heldQ calmQ elemP thenQ blockQ loopQ joinQ retQ Yields Con Sl zF magR unitF truncF fwF wholeF tidySpec elemQ rankF leastN tidyW

section
variable {α β : Type} {R : GHeap → List Value → α → Prop} {RB : GHeap → List Value → β → Prop}
theorem getD_map' {γ δ : Type} (g : γ → δ) (l : List γ) (i : Nat) (d : δ) (h : i < l.length) : (l.map g).getD i d = g l[i] := by
  rw [List.getD_eq_getElem?_getD, List.getElem?_map, List.getElem?_eq_getElem h]; rfl
end
end Go.Proofs.YtmfealaaacmohaaDoor

/-
  The program logic, seventeenth part: regions that draw their order, the call's own rows fixed. No statement is proved here.
-/
namespace Go.Proofs.YtmfealaaacmohaaDoor
open Go Go.RowKit
set_option linter.unusedVariables false
set_option linter.unusedSimpArgs false
set_option linter.unusedVariables false
section
variable {P : Program} {n : Nat} {Q : Post} {L : Env} {w0 w : World} {h0 h : GHeap} {O : List Row} {ops rest : List Oper} {x y : Operand} {t : TypeId}
variable {d : Option Tmp} {ty yt : TypeId} {pos : String} {aft : Array Edge} {fuel : Nat} {listed : Array Bool}
end
end Go.Proofs.YtmfealaaacmohaaDoor

/-
  Contracts of the law's own functions of layer 7: the chapter's example; the array of a plain one. No statement is proved here.
-/
namespace Go.Proofs.YtmfealaaacmohaaDoor
open Go Go.RowKit
set_option linter.unusedVariables false
set_option linter.unusedSimpArgs false
set_option maxHeartbeats 4000000
attribute [local irreducible] CW RW QW SW HW ConM retM heldQ calmQ elemP thenQ blockQ loopQ joinQ retQ Yields Con Sl zF magR unitF truncF fwF wholeF tidySpec elemQ rankF leastN tidyW

/-! ## Plain facts -/
end Go.Proofs.YtmfealaaacmohaaDoor

/-
  Contracts of the law's own functions of layer 7: which plain arrays are arrays. No statement is proved here.
-/
namespace Go.Proofs.YtmfealaaacmohaaDoor
open Go Go.RowKit
set_option linter.unusedVariables false
set_option linter.unusedSimpArgs false
set_option maxHeartbeats 4000000
attribute [local irreducible] CW RW QW SW HW ConM retM heldQ calmQ elemP thenQ blockQ loopQ joinQ retQ Yields Con Sl zF magR unitF truncF fwF wholeF tidySpec elemQ rankF leastN tidyW

end Go.Proofs.YtmfealaaacmohaaDoor

/-
  Contracts of functions of packages vec and flat: no elements, what stands for none, elements of a list at some places. No statement is proved here.
-/
namespace Go.Proofs.YtmfealaaacmohaaDoor
open Go Go.RowKit
set_option linter.unusedVariables false
set_option linter.unusedSimpArgs false
set_option maxHeartbeats 4000000
attribute [local irreducible] CW RW QW SW HW ConM retM heldQ calmQ elemP thenQ blockQ loopQ joinQ retQ Yields Con Sl zF magR unitF truncF fwF wholeF tidySpec elemQ rankF leastN tidyW

section
variable {α : Type} {R : GHeap → List Value → α → Prop}
end
/-- the elements of a list at a place; another one, where there is no such place -/
def atD {γ : Type} (l : List γ) (i : Int) (d : γ) : γ := if 0 ≤ i then l.getD i.toNat d else d
theorem getElem_getD {γ : Type} (l : List γ) (k : Nat) (d : γ) (h : k < l.length) : l[k] = l.getD k d := by simp [List.getD_eq_getElem?_getD, h]
section
variable {α : Type} {R : GHeap → List Value → α → Prop}
end
end Go.Proofs.YtmfealaaacmohaaDoor

/-
  Contracts of functions of package flat: elements picked. No statement is proved here.
-/
namespace Go.Proofs.YtmfealaaacmohaaDoor
open Go Go.RowKit
set_option linter.unusedVariables false
set_option linter.unusedSimpArgs false
set_option maxHeartbeats 4000000
attribute [local irreducible] CW RW QW SW HW ConM retM heldQ calmQ elemP thenQ blockQ loopQ joinQ retQ Yields Con Sl zF magR unitF truncF fwF wholeF tidySpec elemQ rankF leastN tidyW
set_option maxHeartbeats 4000000

theorem wholeF_bounds (x : Nat) : -9007199254740992 ≤ (wholeF x).1 ∧ (wholeF x).1 ≤ 9007199254740992 := by
  unfold wholeF
  split
  · rename_i h; exact trunc_bounds x h
  · constructor <;> decide
section
variable {α : Type} {R : GHeap → List Value → α → Prop}
/-- the elements at some places -/
def VecD.pick (v : VecD α) (at_ : List Int) (nb : α) : VecD α :=
  if v.kind = 5 then ⟨5, [], at_.map (fun i => atD v.chars i 32), []⟩
  else if v.kind = 6 then ⟨6, [], [], at_.map (fun i => atD v.boxes i nb)⟩
  else ⟨leastN (at_.map v.num), at_.map v.num, [], []⟩
end
end Go.Proofs.YtmfealaaacmohaaDoor

/-
  Contracts of the document's answer and of the law's own functions of layer 8: items picked, lists shown. No statement is proved here.
-/
namespace Go.Proofs.YtmfealaaacmohaaDoor
open Go Go.RowKit
set_option linter.unusedVariables false
set_option linter.unusedSimpArgs false
set_option maxHeartbeats 4000000
attribute [local irreducible] CW RW QW SW HW ConM retM heldQ calmQ elemP thenQ blockQ loopQ joinQ retQ Yields Con Sl zF magR unitF truncF fwF wholeF tidySpec elemQ rankF leastN tidyW
set_option maxHeartbeats 4000000

section
variable {β : Type} {R : GHeap → List Value → β → Prop}
end
end Go.Proofs.YtmfealaaacmohaaDoor

/-
  Contracts of the law's own functions of layer 8: good plain arrays, the chapter's example, elements at all places. No statement is proved here.
-/
namespace Go.Proofs.YtmfealaaacmohaaDoor
open Go Go.RowKit
set_option linter.unusedVariables false
set_option linter.unusedSimpArgs false
set_option maxHeartbeats 4000000
attribute [local irreducible] CW RW QW SW HW ConM retM heldQ calmQ elemP thenQ blockQ loopQ joinQ retQ Yields Con Sl zF magR unitF truncF fwF wholeF tidySpec elemQ rankF leastN tidyW
set_option maxHeartbeats 4000000

/-! ## Plain facts -/
section
variable {α β : Type} {R : GHeap → List Value → α → Prop}
end
end Go.Proofs.YtmfealaaacmohaaDoor

/-
  Contracts of the law's own functions of layer 8: elements picked, and picked again. No statement is proved here.
-/
namespace Go.Proofs.YtmfealaaacmohaaDoor
open Go Go.RowKit
set_option linter.unusedVariables false
set_option linter.unusedSimpArgs false
set_option maxHeartbeats 4000000
attribute [local irreducible] CW RW QW SW HW ConM retM heldQ calmQ elemP thenQ blockQ loopQ joinQ retQ Yields Con Sl zF magR unitF truncF fwF wholeF tidySpec elemQ rankF leastN tidyW
set_option maxHeartbeats 4000000

end Go.Proofs.YtmfealaaacmohaaDoor

/-
  Contracts of functions of package flat: numbers from one up to another, elements backwards, and again and again. No statement is proved here.
-/
namespace Go.Proofs.YtmfealaaacmohaaDoor
open Go Go.RowKit
set_option linter.unusedVariables false
set_option linter.unusedSimpArgs false
set_option maxHeartbeats 4000000
attribute [local irreducible] CW RW QW SW HW ConM retM heldQ calmQ elemP thenQ blockQ loopQ joinQ retQ Yields Con Sl zF magR unitF truncF fwF wholeF tidySpec elemQ rankF leastN tidyW
set_option maxHeartbeats 4000000

theorem range_snoc (f : Nat → Int) (i : Nat) : (((List.range (i + 1)).map f).map (Value.int .i64)) = (((List.range i).map f).map (Value.int .i64)) ++ [.int .i64 (f i)] := by rw [List.range_succ, List.map_append, List.map_append]; rfl
theorem fill_snoc (f : Nat → Int) (i n : Nat) (h : i < n) (z : Value) : (((List.range i).map f).map (Value.int .i64) ++ List.replicate (n - i) z).set i (.int .i64 (f i)) = ((List.range (i + 1)).map f).map (Value.int .i64) ++ List.replicate (n - (i + 1)) z := by
  have e1 := set_snoc (((List.range i).map f).map (Value.int .i64)) (n - i) z (.int .i64 (f i)) (by omega)
  simp only [List.length_map, List.length_range] at e1
  rw [e1, range_snoc, show n - (i + 1) = n - i - 1 by omega]
section
variable {α : Type} {R : GHeap → List Value → α → Prop}
end
end Go.Proofs.YtmfealaaacmohaaDoor

/-
  Plain Lean on elements along an axis: places turned, and turned back. No statement is proved here.
-/
namespace Go.Proofs.YtmfealaaacmohaaDoor
open Go Go.RowKit
set_option linter.unusedVariables false
set_option linter.unusedSimpArgs false

/-- an axis turned on by so many -/
def rolledN (n : Nat) (by_ : Int) (y : Nat) : Nat := (((y : Int) + by_ % n) % n).toNat
def rolledL (n : Nat) (by_ : Int) : List Int := (List.range n).map fun y => ((rolledN n by_ y : Nat) : Int)
end Go.Proofs.YtmfealaaacmohaaDoor

/-
  Plain laws of places that are taken and dropped along an axis. No statement is proved here.
-/
namespace Go.Proofs.YtmfealaaacmohaaDoor
open Go Go.RowKit
set_option linter.unusedVariables false
set_option linter.unusedSimpArgs false

/-- the places taken, as the program tells them: below 0 where there is none ahead, -1 where there is none behind -/
def takenI (n : Nat) (many : Int) (i : Nat) : Int := if many < 0 then (n : Int) + many + i else if (i : Int) < n then i else -1
def takenL (n : Nat) (many : Int) : List Int := (List.range many.natAbs).map (takenI n many)
theorem taken_len (n : Nat) (many : Int) : (takenL n many).length = many.natAbs := by simp [takenL]
end Go.Proofs.YtmfealaaacmohaaDoor

/-
  Plain laws of the places of bits that are true. No statement is proved here.
-/
namespace Go.Proofs.YtmfealaaacmohaaDoor
open Go Go.RowKit
set_option linter.unusedVariables false
set_option linter.unusedSimpArgs false

/-- the places below a bound that are true -/
def onesTo (bs : List Bool) (m : Nat) : List Int := ((List.range m).filter fun i => bs.getD i false).map fun i : Nat => (i : Int)
def onesL (bs : List Bool) : List Int := onesTo bs bs.length
theorem onesTo_none {bs : List Bool} {t : Nat} : ∀ {m : Nat}, t ≤ m → (∀ j, t ≤ j → j < m → bs.getD j false = false) → onesTo bs m = onesTo bs t
  | 0, h, _ => by rw [show t = 0 by omega]
  | m + 1, h, hb => by
    by_cases c : t = m + 1
    · rw [c]
    · have ih := onesTo_none (m := m) (by omega) (fun j h1 h2 => hb j h1 (by omega))
      rw [← ih]
      unfold onesTo
      rw [List.range_succ, List.filter_append, List.filter_cons_of_neg (by rw [hb m (by omega) (by omega)]; decide)]
      simp
theorem onesTo_next {bs : List Bool} {t k : Nat} (h : t ≤ k) (hb : ∀ j, t ≤ j → j < k → bs.getD j false = false) (hk : bs.getD k false = true) : onesTo bs (k + 1) = onesTo bs t ++ [(k : Int)] := by
  rw [← onesTo_none h hb]
  unfold onesTo
  rw [List.range_succ, List.filter_append, List.filter_cons_of_pos (by exact hk)]
  simp
theorem onesTo_ge {bs : List Bool} {m : Nat} (h : bs.length ≤ m) : onesTo bs m = onesL bs :=
  onesTo_none h fun j h1 _ => by rw [List.getD_eq_getElem?_getD, List.getElem?_eq_none h1]; rfl
theorem onesTo_len (bs : List Bool) (m : Nat) : (onesTo bs m).length ≤ m := by
  unfold onesTo
  rw [List.length_map]
  exact Nat.le_trans (List.length_filter_le _ _) (by rw [List.length_range]; exact Nat.le_refl _)
/-- the lowest bit of a word, and the word without it -/
theorem low_bit {x : Nat} (h0 : x ≠ 0) (h : x < 18446744073709551616) : Lib.ctz 64 x < 64 ∧ (∀ j, j < Lib.ctz 64 x → x.testBit j = false) ∧ x.testBit (Lib.ctz 64 x) = true ∧ ∀ j, (x &&& (x - 1)).testBit j = (x.testBit j && decide (j ≠ Lib.ctz 64 x)) := by
  obtain ⟨m, hm, hc⟩ := Lib.ctzFrom_spec 64 x (by omega) (by omega)
  have e : Lib.ctz 64 x = Lib.ctzFrom 64 x := by simp [Lib.ctz, h0]
  rw [e]
  generalize Lib.ctzFrom 64 x = c at *
  have hp : 0 < 2 ^ c := Nat.two_pow_pos c
  have e1 : x = 2 ^ c * (2 * m + 1) + 0 := by omega
  have e2 : x - 1 = 2 ^ c * (2 * m) + (2 ^ c - 1) := by
    rw [hm, Nat.mul_add]; omega
  have b1 : ∀ j, x.testBit j = if j < c then false else (2 * m + 1).testBit (j - c) := by
    intro j
    rw [e1, Nat.testBit_two_pow_mul_add _ hp]
    split
    · exact Nat.zero_testBit j
    · rfl
  have b2 : ∀ j, (x - 1).testBit j = if j < c then true else (2 * m).testBit (j - c) := by
    intro j
    rw [e2, Nat.testBit_two_pow_mul_add _ (by omega)]
    split
    · rename_i hj
      rw [Nat.testBit_two_pow_sub_one]
      exact decide_eq_true hj
    · rfl
  have o1 : (2 * m + 1).testBit 0 = true := by rw [Nat.testBit_zero]; exact decide_eq_true (by omega)
  have o2 : (2 * m).testBit 0 = false := by rw [Nat.testBit_zero]; exact decide_eq_false (by omega)
  refine ⟨hc, fun j hj => by rw [b1, if_pos hj], by rw [b1, if_neg (by omega), Nat.sub_self, o1], fun j => ?_⟩
  rw [Nat.testBit_and, b1, b2]
  by_cases c1 : j < c
  · rw [if_pos c1]; simp
  · rw [if_neg c1, if_neg c1]
    by_cases c2 : j = c
    · subst c2; rw [Nat.sub_self, o1, o2]; simp
    · obtain ⟨q, hq⟩ : ∃ q, j - c = q + 1 := ⟨j - c - 1, by omega⟩
      rw [hq, Nat.testBit_succ, Nat.testBit_succ, show (2 * m + 1) / 2 = m by omega, show 2 * m / 2 = m by omega, decide_eq_true c2]
      simp
end Go.Proofs.YtmfealaaacmohaaDoor

/-
  Contracts of package math/bits and of bitvec's places that are true: the table of one variable is read. No statement is proved here.
-/
namespace Go.Proofs.YtmfealaaacmohaaDoor
open Go Go.RowKit
set_option linter.unusedVariables false
set_option linter.unusedSimpArgs false
set_option maxHeartbeats 4000000
attribute [local irreducible] CW RW QW SW HW ConM retM heldQ calmQ elemP thenQ blockQ loopQ joinQ retQ Yields Con Sl elemQ
set_option maxHeartbeats 2000000

section
variable {P : Program} {T : Tab P} {n : Nat} {L : Env} {w : World} {ty : TypeId} {x y : Operand} {t : TypeId}
theorem Y.idxArr (T : Tab P) {e len : TypeId} {i : Inf} {b o : Nat} {k : IntKind} {u : Int} (hT : T.ty t = some (.array len e)) (hI : T.inf e = some i) (hx : opv L x = some (.pointer (some ⟨b, o, none⟩))) (hy : opv L y = some (.int k u)) (h0 : 0 ≤ u ∧ u < len) :
    Yields P n L w (.indexAddr t x y) ty (.pointer (some ⟨b, o + u.toNat * i.size, none⟩)) := by
  unfold Yields
  intro a ha d pos aft g
  have h1 : P.underlying t = some (.array len e) := T.ty_ok _ _ hT
  have hadd : (⟨b, o, none⟩ : Addr).add (u.toNat * i.size) = ⟨b, o + u.toNat * i.size, none⟩ := Addr.add_lit _ _ _
  simp [execOp, Instr.indexAt, Instr.sureAddr, asIntOf, ha.eval hx, ha.eval hy, run_underlying h1, h0, T.sizeOf hI, hadd]
end
/-- the table that the lowest bit is looked up in -/
def TzTab (h : GHeap) : Prop := ∃ cs, h 0 = some cs ∧ ∀ i, i < 64 → cs[i]? = some (.int .u8 ((Lib.deBruijn64tab.getD i 0 : Nat) : Int))
theorem TzTab.mono {h h' : GHeap} (hl : GLe h h') (ht : TzTab h) : TzTab h' := let ⟨cs, e, f⟩ := ht; ⟨cs, hl _ _ e, f⟩
theorem tz_con (x : Nat) (w : World) (h : GHeap) (hx : x < 18446744073709551616) (hT : TzTab h) : Con Tryd.prog 102 [.int .u64 (x : Int)] w h (fun _ u => u = .int .i64 (Lib.ctz 64 x : Nat)) := by
  refine Con.of_body Tryd.func102 rfl Tryd.ntmps102 rfl rfl ?_
  intro hs
  refine Zrun ?_
  by_cases c : x = 0
  · subst c
    refine Zerun ?_
    exact retQ_ret [_] h ⟨rfl, trivial⟩ hs.dropAll rfl
  obtain ⟨hlow, hc64⟩ := Lib.lowest_bit 64 x c hx
  have hlow : x &&& (18446744073709551616 - x) = 2 ^ Lib.ctz 64 x := hlow
  obtain ⟨hk, htab⟩ := Lib.deBruijn64_at _ hc64
  generalize Lib.ctz 64 x = k at *
  obtain ⟨cs, hcs, hcell⟩ := hT
  refine Zerun ?_
  have hp : 2 ^ k < 18446744073709551616 := Nat.lt_of_lt_of_le (Nat.pow_lt_pow_right (by omega) hc64) (by decide)
  refine RW.val (Y.neg' rfl) rfl ?_
  refine RW.respell (t := 7) (v := .int .u64 ((18446744073709551616 - x : Nat) : Int)) rfl (by
    have e : IntKind.u64.wrap (0 - (x : Int)) = ((18446744073709551616 - x : Nat) : Int) := by
      simp [IntKind.wrap, IntKind.signed, IntKind.bits]
      omega
    rw [e]) ?_
  refine RW.val (Y.andU rfl rfl (by omega) (by omega)) rfl ?_
  rw [hlow]
  refine RW.val (Y.mul' rfl rfl) rfl ?_
  refine RW.respell (t := 9) (v := .int .u64 ((2 ^ k * 285870213051353865 % 18446744073709551616 : Nat) : Int)) rfl (by
    have e : ((2 ^ k : Nat) : Int) * 285870213051353865 = ((2 ^ k * 285870213051353865 : Nat) : Int) := by rw [Int.natCast_mul]; rfl
    have e2 : ∀ z : Nat, IntKind.u64.wrap (z : Int) = ((z % 18446744073709551616 : Nat) : Int) := by
      intro z
      simp [IntKind.wrap, IntKind.signed, IntKind.bits]
    rw [e, e2]) ?_
  refine RW.val (Y.shrU (v := 58) rfl rfl (by omega)) rfl ?_
  rw [Nat.shiftRight_eq_div_pow, show (2 : Nat) ^ 58 = 288230376151711744 by decide]
  generalize 2 ^ k * 285870213051353865 % 18446744073709551616 / 288230376151711744 = q at *
  refine RW.val (Y.idxArr T rfl rfl rfl rfl ⟨by omega, by omega⟩) rfl ?_
  refine RW.val (Y.load1 T (r := .int .u8 (k : Int)) rfl rfl rfl ?_) rfl ?_
  · have := hs.cell hcs (hcell q hk)
    rw [htab] at this
    rw [Int.toNat_natCast]
    simpa using this
  refine RW.val (Y.conv64 T rfl rfl rfl ⟨by omega, by omega⟩) rfl ?_
  refine Zerun ?_
  exact retQ_ret [_] h ⟨rfl, trivial⟩ hs.dropAll rfl
/-- how many bits of a word are true: at most 127, more isn't asked here -/
theorem onesCount_con (x : Int) (w : World) (h : GHeap) : Con Tryd.prog 125 [.int .u64 x] w h (fun _ u => ∃ n : Nat, n ≤ 127 ∧ u = .int .i64 n) := by
  have key : ∀ z : Int, ∃ n : Nat, n ≤ 127 ∧ IntKind.i64.wrap (((BitVec.ofInt IntKind.i64.bits z &&& BitVec.ofInt IntKind.i64.bits 127).toNat : Nat) : Int) = n := by
    intro z
    refine ⟨(BitVec.ofInt IntKind.i64.bits z &&& BitVec.ofInt IntKind.i64.bits 127).toNat, ?_, ?_⟩
    · rw [BitVec.toNat_and]
      exact Nat.and_le_right
    · have h1 : (BitVec.ofInt IntKind.i64.bits z &&& BitVec.ofInt IntKind.i64.bits 127).toNat ≤ 127 := by
        rw [BitVec.toNat_and]
        exact Nat.and_le_right
      exact wrap64 ⟨by omega, by omega⟩
  refine Con.of_body Tryd.func125 rfl Tryd.ntmps125 rfl rfl ?_
  intro hs
  refine Zrun ?_
  refine RW.val (Y.shr' rfl rfl (by decide)) rfl ?_
  refine RW.val (Y.and' rfl rfl) rfl ?_
  refine Zerun ?_
  refine RW.val (Y.and' rfl rfl) rfl ?_
  refine RW.val (Y.add' rfl rfl) rfl ?_
  refine Zerun ?_
  refine RW.val (Y.shr' rfl rfl (by decide)) rfl ?_
  refine RW.val (Y.and' rfl rfl) rfl ?_
  refine Zerun ?_
  refine RW.val (Y.and' rfl rfl) rfl ?_
  refine RW.val (Y.add' rfl rfl) rfl ?_
  refine Zerun ?_
  refine RW.val (Y.shr' rfl rfl (by decide)) rfl ?_
  refine Zerun ?_
  refine RW.val (Y.add' rfl rfl) rfl ?_
  refine RW.val (Y.and' rfl rfl) rfl ?_
  refine Zerun ?_
  refine RW.val (Y.shr' rfl rfl (by decide)) rfl ?_
  refine RW.val (Y.add' rfl rfl) rfl ?_
  refine Zerun ?_
  refine RW.val (Y.shr' rfl rfl (by decide)) rfl ?_
  refine RW.val (Y.add' rfl rfl) rfl ?_
  refine Zerun ?_
  refine RW.val (Y.shr' rfl rfl (by decide)) rfl ?_
  refine RW.val (Y.add' rfl rfl) rfl ?_
  refine Zerun ?_
  refine RW.val (Y.convII T rfl rfl rfl) rfl ?_
  refine RW.val (Y.and' rfl rfl) rfl ?_
  refine Zerun ?_
  exact retQ_ret [_] h ⟨rfl, trivial⟩ hs.dropAll (by
    obtain ⟨n, hn, e⟩ := key _
    exact ⟨n, hn, by simp only [packv]; rw [e]⟩)
theorem bitsCount_con (wv : Value) (bs : List Bool) (w : World) (h : GHeap) (hb : BitsAt h wv bs) : Con Tryd.prog 101 [.agg [wv, .int .i64 bs.length].toArray] w h (fun _ u => ∃ n : Nat, n ≤ 2080895 ∧ u = .int .i64 n) := by
  obtain ⟨hlen, ws, ⟨ad, cp, rfl, hS⟩, hw, hr, _⟩ := hb
  have hwl : ws.length ≤ 16385 := by omega
  refine Con.of_body Tryd.func101 rfl Tryd.ntmps101 rfl rfl ?_
  intro hs
  refine Zrun ?_
  (refine RW.boxN hs rfl rfl ?_; intro b1 w1 hs)
  refine Zerun ?_
  refine CW.loop (fun r : Nat × Nat => [(1, .pointer (some ⟨b1, 0, none⟩)), (3, .int .i64 r.2), (7, .slice ad ws.length cp), (8, .int .i64 (ws.length : Int)), (9, .int .i64 r.1)]) (fun r w' => r.1 ≤ ws.length ∧ r.2 ≤ 127 * r.1 ∧ ∃ h', GLe h h' ∧ Sees w h h' [⟨some ⟨b1, 0, none⟩, 1, 1, 28, 2, [.slice ad ws.length cp, .int .i64 bs.length]⟩] w') (fun r => ws.length - r.1) (0, 0) ⟨rfl, rfl, rfl, rfl, rfl, trivial⟩ ⟨by omega, by omega, h, GLe.refl _, hs⟩ ?_
  rintro ⟨i, m⟩ w2 ⟨hi, hm, h2, hg, hs⟩
  dsimp only at hi hm hs ⊢
  have hS2 := hS.mono hg
  by_cases hlt : i < ws.length
  · refine Zerun ?_
    (refine RW.call T hs rfl rfl rfl (onesCount_con _ _ _) ?_; intro v h3 w3 hle3 hp3 hs)
    obtain ⟨c, hc, rfl⟩ := hp3
    refine Zerun ?_
    exact loopQ_round (i + 1, m + c) ⟨rfl, seti (by dsimp only; omega), rfl, rfl, rfl, trivial⟩ ⟨by dsimp only; omega, by dsimp only; omega, h3, hg.trans hle3, hs⟩ (by dsimp only; omega)
  · refine Zerun ?_
    exact retQ_ret [_] h2 ⟨rfl, trivial⟩ hs.dropAll ⟨m, by omega, rfl⟩
theorem bitsOnes_con (wv : Value) (bs : List Bool) (w : World) (h : GHeap) (hT : TzTab h) (hb : BitsAt h wv bs) : Con Tryd.prog 65 [.agg [wv, .int .i64 bs.length].toArray] w h (fun h' u => IntsAt h' u (onesL bs)) := by
  have hb' := hb
  obtain ⟨hlen, ws, ⟨ad, cp, rfl, hS⟩, hw, hr, hbit⟩ := hb
  have hwl : ws.length ≤ 16385 := by omega
  have hword : ∀ i j : Nat, j < 64 → (ws.getD i 0).toNat.testBit j = bs.getD (64 * i + j) false := by
    intro i j hj
    rw [← hbit (64 * i + j), show (64 * i + j) / 64 = i by omega, show (64 * i + j) % 64 = j by omega]
  refine Con.of_body Tryd.func65 rfl Tryd.ntmps65 rfl rfl ?_
  intro hs
  refine Zrun ?_
  (refine RW.boxN hs rfl rfl ?_; intro b1 w1 hs)
  refine Zerun ?_
  (refine RW.call T hs rfl rfl rfl (bitsCount_con _ bs _ _ hb') ?_; intro v h2 w2 hle2 hp2 hs)
  obtain ⟨n, hn, rfl⟩ := hp2
  have hT := hT.mono hle2
  have hS2 := hS.mono hle2
  refine RW.make T hs rfl rfl rfl rfl rfl (by omega) (by omega) (by dsimp only; omega) (by omega) ?_
  intro b3 w3 hs
  have hs := hs.re (ys := []) (made_one (.int .i64 0) 0)
  rw [Int.toNat_natCast]
  refine Zerun ?_
  refine CW.loop (fun r : Nat × Nat × Option Addr × Nat × GHeap => [(1, .pointer (some ⟨b1, 0, none⟩)), (3, .slice r.2.2.1 r.2.1 r.2.2.2.1), (10, .slice ad ws.length cp), (11, .int .i64 (ws.length : Int)), (12, .int .i64 r.1)]) (fun r w' => r.1 ≤ ws.length ∧ (onesTo bs (64 * r.1)).length = r.2.1 ∧ GLe h2 r.2.2.2.2 ∧ Sees w h r.2.2.2.2 [⟨r.2.2.1, r.2.1, r.2.2.2.1, 3, 1, (onesTo bs (64 * r.1)).map (Value.int .i64)⟩, ⟨some ⟨b1, 0, none⟩, 1, 1, 28, 2, [.slice ad ws.length cp, .int .i64 bs.length]⟩] w') (fun r => ws.length - r.1) (0, 0, some ⟨b3, 0, none⟩, n, h2) ⟨rfl, rfl, rfl, rfl, rfl, trivial⟩ ⟨by omega, rfl, GLe.refl _, hs⟩ ?_
  rintro ⟨i, m, ra, rc, hh⟩ w4 ⟨hi, hm, hg, hs⟩
  dsimp only at hi hm hg hs ⊢
  have hS4 := hS2.mono hg
  by_cases hlt : i < ws.length
  · have hwi := hr _ (mem_getD ws i 0 hlt)
    refine Zerun ?_
    refine CW.loop (fun r : Nat × Nat × Nat × Option Addr × Nat × GHeap => [(1, .pointer (some ⟨b1, 0, none⟩)), (3, .slice r.2.2.2.1 r.2.2.1 r.2.2.2.2.1), (4, .int .i64 (i : Int)), (5, .int .u64 (r.1 : Int)), (10, .slice ad ws.length cp), (11, .int .i64 (ws.length : Int)), (12, .int .i64 (i : Int))]) (fun r w' => r.1 < 18446744073709551616 ∧ r.2.1 ≤ 64 ∧ (∀ j, j < 64 → r.1.testBit j = (decide (r.2.1 ≤ j) && bs.getD (64 * i + j) false)) ∧ (onesTo bs (64 * i + r.2.1)).length = r.2.2.1 ∧ GLe h2 r.2.2.2.2.2 ∧ Sees w h r.2.2.2.2.2 [⟨r.2.2.2.1, r.2.2.1, r.2.2.2.2.1, 3, 1, (onesTo bs (64 * i + r.2.1)).map (Value.int .i64)⟩, ⟨some ⟨b1, 0, none⟩, 1, 1, 28, 2, [.slice ad ws.length cp, .int .i64 bs.length]⟩] w') (fun r => 64 - r.2.1) ((ws.getD i 0).toNat, 0, m, ra, rc, hh) ⟨rfl, rfl, rfl, by dsimp only; rw [Int.toNat_of_nonneg hwi.1]; rfl, rfl, rfl, rfl, trivial⟩ ⟨by dsimp only; omega, by dsimp only; omega, fun j hj => by rw [hword i j hj]; simp, hm, hg, hs⟩ ?_
    rintro ⟨x, t, m2, rb, rd, h5⟩ w5 ⟨hx, ht, hxb, hm2, hg5, hs⟩
    dsimp only at hx ht hxb hm2 hg5 hs ⊢
    by_cases c : x = 0
    · subst c
      have hz : ∀ j, 64 * i + t ≤ j → j < 64 * (i + 1) → bs.getD j false = false := by
        intro j h1 h2
        have := hxb (j - 64 * i) (by omega)
        rw [Nat.zero_testBit, decide_eq_true (by omega), Bool.true_and, show 64 * i + (j - 64 * i) = j by omega] at this
        exact this.symm
      have e : onesTo bs (64 * (i + 1)) = onesTo bs (64 * i + t) := onesTo_none (by omega) hz
      refine Zerun ?_
      exact loopQ_round (i + 1, m2, rb, rd, h5) ⟨rfl, rfl, rfl, rfl, rfl, trivial⟩ ⟨by dsimp only; omega, by dsimp only; rw [e]; exact hm2, hg5, by dsimp only; rw [e]; exact hs⟩ (by dsimp only; omega)
    obtain ⟨hk, hbel, hat, hnx⟩ := low_bit c hx
    have hT5 := hT.mono hg5
    have hm3 := onesTo_len bs (64 * i + t)
    have htz := tz_con x
    generalize Lib.ctz 64 x = k at hk hbel hat hnx htz
    have hkb := hxb k hk
    rw [hat] at hkb
    have htk : t ≤ k := by
      by_cases c2 : t ≤ k
      · exact c2
      · rw [decide_eq_false c2] at hkb; cases hkb
    have hkt : bs.getD (64 * i + k) false = true := by rw [decide_eq_true htk, Bool.true_and] at hkb; exact hkb.symm
    have hone : onesTo bs (64 * i + k + 1) = onesTo bs (64 * i + t) ++ [((64 * i + k : Nat) : Int)] := onesTo_next (by omega) (fun j h1 h2 => by
      have := hxb (j - 64 * i) (by omega)
      rw [hbel _ (by omega), decide_eq_true (by omega), Bool.true_and, show 64 * i + (j - 64 * i) = j by omega] at this
      exact this.symm) hkt
    refine Zerun ?_
    refine RW.val (Y.shl' rfl rfl (by decide)) rfl ?_
    refine RW.respell (t := 21) (v := .int .i64 ((64 * i : Nat) : Int)) rfl (by
      have : IntKind.i64.wrap ((i : Int) * 2 ^ min (6 : Int).toNat IntKind.i64.bits) = ((64 * i : Nat) : Int) := by
        rw [show (2 : Int) ^ min (6 : Int).toNat IntKind.i64.bits = 64 by decide, wrap64 ⟨by omega, by omega⟩]
        omega
      rw [this]) ?_
    refine Zerun ?_
    (refine RW.call T hs rfl rfl rfl (htz _ _ hx hT5) ?_; intro v h6 w6 hle6 hp6 hs)
    subst hp6
    refine Zerun ?_
    (refine RW.lit T hs (vs := [.int .i64 ((64 * i : Nat) + (k : Nat) : Int)]) (cs := [.int .i64 ((64 * i : Nat) + (k : Nat) : Int)]) rfl rfl rfl rfl (by simp [Value.cells]) rfl rfl rfl rfl rfl ?_; intro b7 w7 hs)
    (refine RW.append T hs 1 rfl rfl (m := 1) (news := [.int .i64 ((64 * i : Nat) + (k : Nat) : Int)]) rfl rfl rfl rfl rfl rfl (hs.src0 rfl (by simp [Value.oneCell'])) (by simp) (by dsimp only; omega) (by omega) ?_; intro ad8 cp8 w8 hs; replace hs := hs.drop)
    refine Zerun ?_
    refine RW.val (Y.sub' rfl rfl) rfl ?_
    refine RW.respell (t := 29) (v := .int .u64 ((x - 1 : Nat) : Int)) rfl (by
      rw [show (x : Int) - 1 = ((x - 1 : Nat) : Int) by omega, wrapU _ (by omega)]) ?_
    refine RW.val (Y.andU rfl rfl hx (by omega)) rfl ?_
    refine Zerun ?_
    have hlen1 : (onesTo bs (64 * i + (k + 1))).length = m2 + 1 := by rw [show 64 * i + (k + 1) = 64 * i + k + 1 by omega, hone, List.length_append, hm2]; rfl
    refine loopQ_round (x &&& (x - 1), k + 1, m2 + 1, ad8, cp8, h6) ⟨rfl, rfl, rfl, rfl, rfl, rfl, rfl, trivial⟩ ⟨by dsimp only; have := Nat.and_le_left (n := x) (m := x - 1); omega, by dsimp only; omega, fun j hj => ?_, hlen1, hg5.trans hle6, hs.re ?_⟩ (by dsimp only; omega)
    · dsimp only
      rw [hnx, hxb j hj]
      by_cases c2 : j = k
      · subst c2; rw [decide_eq_false (show ¬ j + 1 ≤ j by omega)]; simp
      · by_cases c3 : k + 1 ≤ j
        · rw [decide_eq_true (show t ≤ j by omega), decide_eq_true c3, decide_eq_true c2]; simp
        · rw [decide_eq_false c3]
          have := hxb j hj
          rw [hbel j (by omega)] at this
          rw [← this]; simp
    · rw [show 64 * i + (k + 1) = 64 * i + k + 1 by omega, hone, List.map_append, Int.natCast_add]
      rfl
  · obtain rfl : i = ws.length := by omega
    have e : onesTo bs (64 * ws.length) = onesL bs := onesTo_ge (by omega)
    rw [e] at hm hs
    obtain ⟨h6, hle6, hs, hS6⟩ := hs.freeze
    refine Zerun ?_
    exact retQ_ret [_] h6 ⟨rfl, trivial⟩ hs.dropAll (by
      have := hS6
      dsimp only at this
      rw [← hm] at this ⊢
      exact IntsAt.of_sl this)
end Go.Proofs.YtmfealaaacmohaaDoor

/-
  The program logic, eighteenth part: regions that draw their order and change memory, two of the call's own rows fixed. No statement is proved here.
-/
namespace Go.Proofs.YtmfealaaacmohaaDoor
open Go Go.RowKit
set_option linter.unusedVariables false
set_option linter.unusedSimpArgs false
set_option linter.unusedVariables false
section
variable {P : Program} {n : Nat} {Q : Post} {L : Env} {w0 w : World} {h0 h : GHeap} {O : List Row} {ops rest : List Oper} {x y : Operand} {t : TypeId} {ra rb : Row}
variable {d : Option Tmp} {ty yt : TypeId} {pos : String} {aft : Array Edge} {fuel : Nat} {listed : Array Bool}
end
end Go.Proofs.YtmfealaaacmohaaDoor

/-
  Contracts of functions of package pick: places along an axis, turned on. No statement is proved here.
-/
namespace Go.Proofs.YtmfealaaacmohaaDoor
open Go Go.RowKit
set_option linter.unusedVariables false
set_option linter.unusedSimpArgs false
set_option maxHeartbeats 4000000
attribute [local irreducible] CW RW QW SW HW ConM retM heldQ calmQ elemP thenQ blockQ loopQ joinQ retQ Yields Con Sl zF magR unitF truncF fwF wholeF tidySpec elemQ rankF leastN tidyW
set_option maxHeartbeats 4000000

theorem tmod_emod (a : Int) (n : Nat) (hn : 0 < n) : -(n : Int) < a.tmod n ∧ a.tmod n < n ∧ (if a.tmod n < 0 then a.tmod n + n else a.tmod n) = a % n := by
  have h1 : a.tmod n < n := Int.tmod_lt_of_pos a (by omega)
  have h2 : -(n : Int) < a.tmod n := by
    rcases Int.le_total 0 a with h | h
    · have := Int.tmod_nonneg (n : Int) h
      omega
    · have h5 := Int.tmod_lt_of_pos (-a) (show (0 : Int) < n by omega)
      rw [Int.neg_tmod] at h5
      omega
  have h3 : a = (n : Int) * a.tdiv n + a.tmod n := (Int.mul_tdiv_add_tmod a n).symm
  have h4 : a % n = a.tmod n % n := by
    conv => lhs; rw [h3]
    rw [Int.add_comm, Int.add_mul_emod_self_left]
  refine ⟨h2, h1, ?_⟩
  rw [h4]
  split
  · rw [← Int.add_emod_right, Int.emod_eq_of_lt (by omega) (by omega)]
  · rw [Int.emod_eq_of_lt (by omega) (by omega)]
theorem fillA' {δ : Type} {A : List δ} {i n : Nat} (hA : A.length = i) (h : i < n) (b z : δ) : (A ++ List.replicate (n - i) b).set i z = (A ++ [z]) ++ List.replicate (n - (i + 1)) b := by
  obtain ⟨r, hr⟩ : ∃ r, n - i = r + 1 := ⟨n - i - 1, by omega⟩
  have e : n - (i + 1) = r := by omega
  rw [hr, e, List.replicate_succ, List.set_append_right _ _ (by omega), ← hA]
  simp
theorem setA' {δ : Type} {A Rr : List δ} {i : Nat} (hA : A.length = i) (z y : δ) : ((A ++ [z]) ++ Rr).set i y = (A ++ [y]) ++ Rr := by
  subst hA
  simp
theorem pickRolled_con (n : Nat) (by_ : Int) (w : World) (h : GHeap) (hn : n ≤ 1048576) : Con Tryd.prog 26 [.int .i64 n, .int .i64 by_] w h (fun h' u => IntsAt h' u (rolledL n by_)) := by
  refine Con.of_body Tryd.func26 rfl Tryd.ntmps26 rfl rfl ?_
  intro hs
  refine Zerun ?_
  (refine RW.make1 T hs rfl rfl rfl rfl rfl rfl rfl (by dsimp only; omega) (by omega) ?_; intro b1 w1 hs)
  by_cases c0 : n = 0
  · subst c0
    refine Zerun ?_
    obtain ⟨h2, hle2, hs, hS2⟩ := hs.freeze
    exact retQ_ret [_] h2 ⟨rfl, trivial⟩ hs.dropAll (IntsAt.of_sl (l := []) hS2)
  obtain ⟨ht1, ht2, ht3⟩ := tmod_emod by_ n (by omega)
  have hfr : 0 ≤ by_ % (n : Int) ∧ by_ % (n : Int) < n := ⟨Int.emod_nonneg _ (by omega), Int.emod_lt_of_pos _ (by omega)⟩
  refine Zerun ?_
  refine RW.val (Y.rem' rfl rfl (by omega)) rfl ?_
  by_cases c : by_.tmod n < 0
  · rw [if_pos c] at ht3
    refine Zerun ?_
    rw [ht3]
    obtain ⟨fr, hfe⟩ : ∃ fr, by_ % (n : Int) = fr := ⟨_, rfl⟩
    rw [hfe] at hfr ⊢
    refine CW.loop (fun i : Nat => [(0, .int .i64 n), (5, .slice (some ⟨b1, 0, none⟩) n n), (6, .int .i64 fr), (22, .int .i64 n), (23, .int .i64 i)]) (fun i w' => i ≤ n ∧ Sees w h h [⟨some ⟨b1, 0, none⟩, n, n, 3, 1, ((List.range i).map fun y => ((rolledN n by_ y : Nat) : Int)).map (Value.int .i64) ++ List.replicate (n - i) (.int .i64 0)⟩] w') (fun i => n - i) 0 ⟨rfl, rfl, rfl, rfl, rfl, trivial⟩ ⟨by omega, hs⟩ ?_
    rintro i w5 ⟨hi, hs⟩
    by_cases hlt : i < n
    · have hv : ((i : Int) + fr) % n = ((rolledN n by_ i : Nat) : Int) := by
        unfold rolledN
        rw [hfe, Int.toNat_of_nonneg (Int.emod_nonneg _ (by omega))]
      refine Zerun ?_
      rw [hv]
      refine RW.val (Y.idxRN T hs 0 rfl rfl rfl rfl rfl rfl hlt) rfl ?_
      refine RW.st1 T hs 0 rfl rfl rfl rfl rfl rfl rfl hlt ?_
      intro w7 hs
      replace hs := hs.re (fill_snoc (fun y => ((rolledN n by_ y : Nat) : Int)) i n hlt _)
      refine Zerun ?_
      exact loopQ_round (i + 1) ⟨rfl, rfl, rfl, rfl, rfl, trivial⟩ ⟨by omega, hs⟩ (by omega)
    obtain rfl : i = n := by omega
    rw [Nat.sub_self, List.replicate_zero, List.append_nil] at hs
    obtain ⟨h8, hle8, hs, hS8⟩ := hs.freeze
    refine Zerun ?_
    exact retQ_ret [_] h8 ⟨rfl, trivial⟩ hs.dropAll (IntsAt.of_sl (l := rolledL i by_) hS8)
  · rw [if_neg c] at ht3
    rw [ht3] at c ⊢
    refine Zerun ?_
    obtain ⟨fr, hfe⟩ : ∃ fr, by_ % (n : Int) = fr := ⟨_, rfl⟩
    rw [hfe] at hfr ⊢
    refine CW.loop (fun i : Nat => [(0, .int .i64 n), (5, .slice (some ⟨b1, 0, none⟩) n n), (6, .int .i64 fr), (22, .int .i64 n), (23, .int .i64 i)]) (fun i w' => i ≤ n ∧ Sees w h h [⟨some ⟨b1, 0, none⟩, n, n, 3, 1, ((List.range i).map fun y => ((rolledN n by_ y : Nat) : Int)).map (Value.int .i64) ++ List.replicate (n - i) (.int .i64 0)⟩] w') (fun i => n - i) 0 ⟨rfl, rfl, rfl, rfl, rfl, trivial⟩ ⟨by omega, hs⟩ ?_
    rintro i w5 ⟨hi, hs⟩
    by_cases hlt : i < n
    · have hv : ((i : Int) + fr) % n = ((rolledN n by_ i : Nat) : Int) := by
        unfold rolledN
        rw [hfe, Int.toNat_of_nonneg (Int.emod_nonneg _ (by omega))]
      refine Zerun ?_
      rw [hv]
      refine RW.val (Y.idxRN T hs 0 rfl rfl rfl rfl rfl rfl hlt) rfl ?_
      refine RW.st1 T hs 0 rfl rfl rfl rfl rfl rfl rfl hlt ?_
      intro w7 hs
      replace hs := hs.re (fill_snoc (fun y => ((rolledN n by_ y : Nat) : Int)) i n hlt _)
      refine Zerun ?_
      exact loopQ_round (i + 1) ⟨rfl, rfl, rfl, rfl, rfl, trivial⟩ ⟨by omega, hs⟩ (by omega)
    obtain rfl : i = n := by omega
    rw [Nat.sub_self, List.replicate_zero, List.append_nil] at hs
    obtain ⟨h8, hle8, hs, hS8⟩ := hs.freeze
    refine Zerun ?_
    exact retQ_ret [_] h8 ⟨rfl, trivial⟩ hs.dropAll (IntsAt.of_sl (l := rolledL i by_) hS8)
section
variable {α : Type} {R : GHeap → List Value → α → Prop}
end
end Go.Proofs.YtmfealaaacmohaaDoor

/-
  Contracts of package pick: places taken, dropped, and taken so often as counts say. No statement is proved here.
-/
namespace Go.Proofs.YtmfealaaacmohaaDoor
open Go Go.RowKit
set_option linter.unusedVariables false
set_option linter.unusedSimpArgs false
set_option maxHeartbeats 4000000
attribute [local irreducible] CW RW QW SW HW ConM retM heldQ calmQ elemP thenQ blockQ loopQ joinQ retQ Yields Con Sl zF magR unitF truncF fwF wholeF tidySpec elemQ rankF leastN tidyW
set_option maxHeartbeats 4000000

theorem taken_conM (n : Nat) (many most : Int) (w0 w : World) (h0 h : GHeap) (O : List Row) (hn : n ≤ 1048576) (hmany : -9223372036854775808 ≤ many ∧ many < 9223372036854775808) (hmost : 0 ≤ most ∧ most ≤ 1048576) : ConM Tryd.prog 25 [.int .i64 (n : Int), .int .i64 many, .int .i64 most] w0 h0 h O w
    (fun h' O' v => h = h' ∧ if (many.natAbs : Int) ≤ most then ∃ b, v = .tuple #[.slice (some ⟨b, 0, none⟩) many.natAbs many.natAbs, .bool true] ∧ O' = ⟨some ⟨b, 0, none⟩, many.natAbs, many.natAbs, 3, 1, (takenL n many).map (Value.int .i64)⟩ :: O else v = .tuple #[.slice none 0 0, .bool false] ∧ O' = O) := by
  refine ConM.of_body Tryd.func25 rfl Tryd.ntmps25 rfl rfl ?_
  intro hs
  refine Zrun ?_
  by_cases c0 : many = -9223372036854775808
  · subst c0
    refine RW.val (Y.neg' rfl) rfl ?_
    refine RW.respell (t := 13) (v := .int .i64 (-9223372036854775808)) rfl (by
      have : IntKind.i64.wrap (0 - (-9223372036854775808)) = -9223372036854775808 := by decide
      rw [this]) ?_
    refine Zerun ?_
    exact retM_ret [_, _] h O ⟨rfl, rfl, trivial⟩ (GLe.refl _) hs ⟨rfl, by rw [if_neg (by omega)]; exact ⟨rfl, rfl⟩⟩
  have hmx : max many (-many) = ((many.natAbs : Nat) : Int) := by omega
  refine RW.val (Y.neg rfl ⟨by omega, by omega⟩) rfl ?_
  by_cases c1 : (many.natAbs : Int) ≤ most
  rotate_left
  · refine Zerun ?_
    exact retM_ret [_, _] h O ⟨rfl, rfl, trivial⟩ (GLe.refl _) hs ⟨rfl, by rw [if_neg c1]; exact ⟨rfl, rfl⟩⟩
  refine Zerun ?_
  rw [hmx]
  (refine RW.make1 T hs rfl rfl rfl rfl rfl rfl rfl (by dsimp only; omega) (by omega) ?_; intro b4 w4 hs)
  refine Zerun ?_
  refine CW.loop (fun i : Nat => [(0, .int .i64 (n : Int)), (1, .int .i64 many), (8, .int .i64 (many.natAbs : Int)), (9, .slice (some ⟨b4, 0, none⟩) many.natAbs many.natAbs), (25, .int .i64 (many.natAbs : Int)), (26, .int .i64 i)]) (fun i w' => i ≤ many.natAbs ∧ Sees w0 h0 h (⟨some ⟨b4, 0, none⟩, many.natAbs, many.natAbs, 3, 1, ((takenL n many).take i).map (Value.int .i64) ++ List.replicate (many.natAbs - i) (.int .i64 0)⟩ :: O) w') (fun i => many.natAbs - i) 0 ⟨rfl, rfl, rfl, rfl, rfl, rfl, trivial⟩ ⟨by omega, hs.re (by simp)⟩ ?_
  rintro i w5 ⟨hi, hs⟩
  have hA : (((takenL n many).take i).map (Value.int .i64)).length = i := by rw [List.length_map, List.length_take, taken_len]; omega
  by_cases hlt : i < many.natAbs
  · have htk : (takenL n many).take (i + 1) = (takenL n many).take i ++ [takenI n many i] := by
      rw [take_succ_getD _ _ 0 (by rw [taken_len]; exact hlt)]
      unfold takenL
      rw [getD_map' _ _ _ _ (by rw [List.length_range]; exact hlt), List.getElem_range]
    refine Zerun ?_
    refine RW.val (Y.idxRN T hs 0 rfl rfl rfl rfl rfl rfl (by omega)) rfl ?_
    refine RW.st1 T hs 0 rfl rfl rfl rfl rfl rfl rfl (by omega) ?_
    intro w6 hs
    have hs := hs.re (fillA' hA hlt _ _)
    by_cases c2 : many < 0
    · have hI : takenI n many i = (n : Int) - many.natAbs + i := by unfold takenI; rw [if_pos c2]; omega
      refine Zerun ?_
      refine RW.val (Y.idxRN T hs 0 rfl rfl rfl rfl rfl rfl (by omega)) rfl ?_
      refine RW.st1 T hs 0 rfl rfl rfl rfl rfl rfl rfl (by omega) ?_
      intro w7 hs
      have hs := hs.re (setA' hA _ _)
      have hv : ∀ z : Int, ((((takenL n many).take i).map (Value.int .i64) ++ [.int .i64 z]) ++ List.replicate (many.natAbs - (i + 1)) (.int .i64 0))[i]? = some (.int .i64 z) := by
        intro z
        rw [List.append_assoc, List.getElem?_append_right (by omega), hA, Nat.sub_self]
        rfl
      refine Zerun ?_
      refine RW.val (Y.idxRN T hs 0 rfl rfl rfl rfl rfl rfl (by omega)) rfl ?_
      refine RW.val (Y.ldR T hs 0 rfl rfl rfl rfl (by omega) (hv _)) rfl ?_
      refine Zerun ?_
      exact loopQ_round (i + 1) ⟨rfl, rfl, rfl, rfl, rfl, rfl, trivial⟩ ⟨by omega, hs.re (by rw [htk, hI, List.map_append]; rfl)⟩ (by omega)
    · have hv : ∀ z : Int, ((((takenL n many).take i).map (Value.int .i64) ++ [.int .i64 z]) ++ List.replicate (many.natAbs - (i + 1)) (.int .i64 0))[i]? = some (.int .i64 z) := by
        intro z
        rw [List.append_assoc, List.getElem?_append_right (by omega), hA, Nat.sub_self]
        rfl
      refine Zerun ?_
      refine RW.val (Y.idxRN T hs 0 rfl rfl rfl rfl rfl rfl (by omega)) rfl ?_
      refine RW.val (Y.ldR T hs 0 rfl rfl rfl rfl (by omega) (hv _)) rfl ?_
      by_cases c3 : (i : Int) < n
      · have hI : takenI n many i = (i : Int) := by unfold takenI; rw [if_neg c2, if_pos c3]
        refine Zerun ?_
        exact loopQ_round (i + 1) ⟨rfl, rfl, rfl, rfl, rfl, rfl, trivial⟩ ⟨by omega, hs.re (by rw [htk, hI, List.map_append]; rfl)⟩ (by omega)
      · have hI : takenI n many i = -1 := by unfold takenI; rw [if_neg c2, if_neg c3]
        refine Zerun ?_
        refine RW.val (Y.idxRN T hs 0 rfl rfl rfl rfl rfl rfl (by omega)) rfl ?_
        refine RW.st1 T hs 0 rfl rfl rfl rfl rfl rfl rfl (by omega) ?_
        intro w7 hs
        have hs := hs.re (setA' hA _ _)
        refine Zerun ?_
        exact loopQ_round (i + 1) ⟨rfl, rfl, rfl, rfl, rfl, rfl, trivial⟩ ⟨by omega, hs.re (by rw [htk, hI, List.map_append]; rfl)⟩ (by omega)
  obtain rfl : i = many.natAbs := by omega
  refine Zerun ?_
  refine retM_ret [_, _] h _ ⟨rfl, rfl, trivial⟩ (GLe.refl _) hs ⟨rfl, ?_⟩
  rw [if_pos c1]
  refine ⟨b4, rfl, ?_⟩
  rw [List.take_of_length_le (by rw [taken_len]; exact Nat.le_refl _), Nat.sub_self, List.replicate_zero, List.append_nil]
end Go.Proofs.YtmfealaaacmohaaDoor

/-
  Contracts of the document's answer of layer 15: places turned, taken and dropped. No statement is proved here.
-/
namespace Go.Proofs.YtmfealaaacmohaaDoor
open Go Go.RowKit
set_option linter.unusedVariables false
set_option linter.unusedSimpArgs false
set_option maxHeartbeats 4000000
attribute [local irreducible] CW RW QW SW HW ConM retM heldQ calmQ elemP thenQ blockQ loopQ joinQ retQ Yields Con Sl zF magR unitF truncF fwF wholeF tidySpec elemQ rankF leastN tidyW
set_option maxHeartbeats 4000000

theorem freezeI {w0 w : World} {h0 h : GHeap} {ad : Option Addr} {m cp : Nat} {l : List Int} {O : List Row} (hs : Sees w0 h0 h (⟨ad, m, cp, 3, 1, l.map (Value.int .i64)⟩ :: O) w) (hl : l.length = m) : ∃ h', GLe h h' ∧ Sees w0 h0 h' O w ∧ IntsAt h' (.slice ad m cp) l := by
  obtain ⟨h', hle, hs', hS⟩ := hs.freeze
  refine ⟨h', hle, hs', ?_⟩
  dsimp only at hS
  subst hl
  exact IntsAt.of_sl hS
end Go.Proofs.YtmfealaaacmohaaDoor

/-
  Contract of package pick: places taken so often as counts say. No statement is proved here.
-/
namespace Go.Proofs.YtmfealaaacmohaaDoor
open Go Go.RowKit
set_option linter.unusedVariables false
set_option linter.unusedSimpArgs false
set_option maxHeartbeats 4000000
attribute [local irreducible] CW RW QW SW HW ConM retM heldQ calmQ elemP thenQ blockQ loopQ joinQ retQ Yields Con Sl zF magR unitF truncF fwF wholeF tidySpec elemQ rankF leastN tidyW
set_option maxHeartbeats 4000000

/-- the count for a place, and what it brings -/
def cAt (ks : List Int) (i : Nat) : Int := ks.getD (i % ks.length) 0
def segC (c : Int) (i : Nat) : List Int := List.replicate c.natAbs (if c < 0 then -1 else (i : Int))
def copiesTo (ks : List Int) (m : Nat) : List Int := (List.range m).flatMap fun i => segC (cAt ks i) i
def copiesRes (ks : List Int) (n : Nat) (most : Int) : List Int × Int := if ks.length ≠ n ∧ ks.length ≠ 1 then ([], 23) else if ((copiesTo ks n).length : Int) ≤ most then (copiesTo ks n, 0) else ([], 26)
theorem copiesTo_succ (ks : List Int) (m : Nat) : copiesTo ks (m + 1) = copiesTo ks m ++ segC (cAt ks m) m := by
  unfold copiesTo
  rw [List.range_succ, List.flatMap_append]
  simp
theorem copiesTo_len_succ (ks : List Int) (m : Nat) : (copiesTo ks (m + 1)).length = (copiesTo ks m).length + (cAt ks m).natAbs := by
  rw [copiesTo_succ, List.length_append]
  unfold segC
  rw [List.length_replicate]
theorem copiesTo_mono (ks : List Int) : ∀ {a b : Nat}, a ≤ b → (copiesTo ks a).length ≤ (copiesTo ks b).length
  | a, 0, h => by rw [show a = 0 by omega]; exact Nat.le_refl _
  | a, b + 1, h => by
    by_cases c : a = b + 1
    · rw [c]; exact Nat.le_refl _
    · have := copiesTo_mono ks (a := a) (b := b) (by omega)
      rw [copiesTo_len_succ]
      omega
theorem onesTo_succ (bs : List Bool) (m : Nat) : onesTo bs (m + 1) = if bs.getD m false = true then onesTo bs m ++ [(m : Int)] else onesTo bs m := by
  unfold onesTo
  rw [List.range_succ, List.filter_append]
  by_cases c : bs.getD m false = true
  · rw [if_pos c, List.filter_cons_of_pos (p := fun i => bs.getD i false) c]; simp
  · rw [if_neg c, List.filter_cons_of_neg (p := fun i => bs.getD i false) c]; simp
theorem copies_bits (bs : List Bool) : ∀ m, m ≤ bs.length → copiesTo (bs.map fun b => if b then 1 else 0) m = onesTo bs m
  | 0, _ => rfl
  | m + 1, h => by
    have ih := copies_bits bs m (by omega)
    have hc : cAt (bs.map fun b => if b then (1 : Int) else 0) m = if bs.getD m false = true then 1 else 0 := by
      unfold cAt
      rw [List.length_map, Nat.mod_eq_of_lt (by omega), getD_map' _ _ _ _ (by omega), getElem_getD _ _ false (by omega)]
    rw [copiesTo_succ, ih, hc, onesTo_succ]
    by_cases c : bs.getD m false = true
    · rw [if_pos c, if_pos c]; rfl
    · rw [if_neg c, if_neg c]; simp [segC]
section
variable {α : Type} {R : GHeap → List Value → α → Prop}
theorem pickWholes_con (hR : Mono R) (cs : List Value) (v : VecD α) (w : World) (h : GHeap) (hv : VecAt R h cs v) (hm : v.len ≤ 1099511627776) (hk : v.kind = 1 ∨ v.kind = 2 ∨ v.kind = 3 ∨ v.kind = 4) : Con Tryd.prog 61 [.agg cs.toArray] w h
    (fun h' u => ∃ s, u = .tuple #[s, .bool (decide (v.kind ≠ 4 ∨ v.len = 0))] ∧ KAt .i64 h' s (if v.kind = 4 then [] else v.nums.map (fun x => (wholeF x).1))) := by
  have hv' := hv
  obtain ⟨wv, nv, sm, il, fl, ch, bx, ⟨rfl, hoc⟩, _⟩ := hv
  have hcls : v.cls = 0 := by unfold VecD.cls; rw [if_neg (by omega), if_neg (by omega)]
  have hk0 : ¬ v.kind = 0 := by omega
  refine Con.of_body Tryd.func61 rfl Tryd.ntmps61 rfl rfl ?_
  intro hs
  refine Zrun ?_
  (refine RW.boxN hs rfl rfl ?_; intro b1 w1 hs)
  refine Zerun ?_
  (refine RW.call T hs rfl rfl rfl (vecClass_con _ v _ _ hv') ?_; intro v h2 w2 hle2 hp2 hs)
  subst hp2
  rw [hcls]
  have hv' := hv'.mono hR hle2
  refine Zerun ?_
  (refine RW.call T hs rfl rfl rfl (vecKind_con _ v _ _ hv') ?_; intro v h3 w3 hle3 hp3 hs)
  subst hp3
  have hv' := hv'.mono hR hle3
  refine Zerun ?_
  (refine RW.call T hs rfl rfl rfl (vecWholes_con hR _ v _ _ hv' hm) ?_; intro v h4 w4 hle4 hp4 hs)
  obtain ⟨s, rfl, hs4⟩ := hp4
  have hv' := hv'.mono hR hle4
  by_cases c : v.kind = 4
  · rw [decide_eq_false (show ¬ (v.kind = 1 ∨ v.kind = 2 ∨ v.kind = 3) by omega)]
    refine Zerun ?_
    (refine RW.call T hs rfl rfl rfl (vecLen_con _ v _ _ hv') ?_; intro v h5 w5 hle5 hp5 hs)
    subst hp5
    refine Zerun ?_
    refine retQ_ret [_, _] h5 ⟨rfl, rfl, trivial⟩ hs.dropAll ⟨.slice none 0 0, ?_, by rw [if_pos c]; exact RowAt.nil _⟩
    have e : decide ((v.len : Int) = 0) = decide (v.kind ≠ 4 ∨ v.len = 0) := by rw [decide_eq_decide]; omega
    simp only [packv]
    rw [e]
  · rw [decide_eq_true (show v.kind = 1 ∨ v.kind = 2 ∨ v.kind = 3 by omega)]
    rw [if_pos (show v.kind = 1 ∨ v.kind = 2 ∨ v.kind = 3 by omega)] at hs4
    refine Zerun ?_
    exact retQ_ret [_, _] h4 ⟨rfl, rfl, trivial⟩ hs.dropAll ⟨s, by rw [decide_eq_true (show v.kind ≠ 4 ∨ v.len = 0 from .inl c)]; rfl, by rw [if_neg c]; exact hs4⟩
theorem pickLimited_con (s : Value) (l : List Int) (most : Int) (w : World) (h : GHeap) (hl : IntsAt h s l) : Con Tryd.prog 64 [s, .int .i64 most] w h (fun h' u => ∃ s', u = .tuple #[s', .int .i64 (if (l.length : Int) ≤ most then 0 else 26)] ∧ IntsAt h' s' (if (l.length : Int) ≤ most then l else [])) := by
  have hl' := hl
  obtain ⟨ad, cp, rfl, hS⟩ := hl
  refine Con.of_body Tryd.func64 rfl Tryd.ntmps64 rfl rfl ?_
  intro hs
  by_cases c : (l.length : Int) ≤ most
  · rw [if_pos c, if_pos c]
    refine Zrun ?_
    exact retQ_ret [_, _] h ⟨rfl, rfl, trivial⟩ hs.dropAll ⟨_, rfl, hl'⟩
  · rw [if_neg c, if_neg c]
    refine Zrun ?_
    exact retQ_ret [_, _] h ⟨rfl, rfl, trivial⟩ hs.dropAll ⟨_, rfl, IntsAt.nil _⟩
theorem pickCopies_con (hR : Mono R) (cs : List Value) (v : VecD α) (n : Nat) (most : Int) (ks : List Int) (w : World) (h : GHeap) (hT : TzTab h) (hv : VecAt R h cs v) (hm : v.len ≤ 1048576) (hk : v.kind = 1 ∨ v.kind = 2 ∨ v.kind = 3) (hks : ks = v.nums.map (fun x => (wholeF x).1)) (hkb : ∀ c ∈ ks, -9007199254740992 ≤ c ∧ c ≤ 9007199254740992) (hn : n ≤ 1048576) (hmost : 0 ≤ most ∧ most ≤ 1048576) :
    Con Tryd.prog 15 [.agg cs.toArray, .int .i64 (n : Int), .int .i64 most] w h (fun h' u => ∃ s, u = .tuple #[s, .int .i64 (copiesRes ks n most).2] ∧ IntsAt h' s (copiesRes ks n most).1) := by
  have hv' := hv
  obtain ⟨wv, nv, sm, il, fl, ch, bx, ⟨rfl, hoc⟩, _⟩ := hv
  refine Con.of_body Tryd.func15 rfl Tryd.ntmps15 rfl rfl ?_
  intro hs
  refine Zrun ?_
  (refine RW.boxN hs rfl rfl ?_; intro b1 w1 hs)
  refine Zerun ?_
  (refine RW.call T hs rfl rfl rfl (pickWholes_con hR _ v _ _ hv' (by omega) (by omega)) ?_; intro v h2 w2 hle2 hp2 hs)
  obtain ⟨s2, rfl, hs2⟩ := hp2
  rw [decide_eq_true (show v.kind ≠ 4 ∨ v.len = 0 by omega)]
  rw [if_neg (show ¬ v.kind = 4 by omega), ← hks] at hs2
  obtain ⟨ad2, cp2, rfl, hS2⟩ := hs2
  have hv' := hv'.mono hR hle2
  have hT := hT.mono hle2
  have hcap := hS2.caps
  have hcap := hS2.caps
  first | (refine A0 ?_; first | refine R1 rfl rfl ?_ | refine R2 rfl rfl ?_ | (refine A1 ?_; first | refine D3 rfl rfl ?_ | refine D4 rfl rfl rfl rfl ?_ | refine D5 rfl rfl rfl ?_ | refine E6 ?_ rfl rfl | refine E7 ?_ rfl rfl) | refine Zb ?_ rfl | (refine A3 ?_; first | refine R34 T hs 0 rfl rfl rfl rfl rfl rfl ?_ | refine R34 T hs 1 rfl rfl rfl rfl rfl rfl ?_ | refine Zl ?_ rfl) | refine Zi ?_ rfl | refine Zo ?_ rfl | refine A8 ?_) | (refine B0 ?_; first | refine B1 ?_ | refine B2 ?_ | refine B3 ?_ | refine B4 ?_ | refine B5 ?_ | refine B6 ?_ | refine B7 rfl ?_ | refine B8 rfl ?_ | refine E8 ?_ rfl | refine E9 ?_ rfl) | refine C1 ?_ | refine C2 ?_ | refine C3 ?_ | refine C4 ?_ | refine C5 ?_ | refine C6 ?_ | refine C7 ?_ | refine C8 ?_ | refine C9 ?_ | refine D1 rfl ?_ | refine D2 rfl ?_
  first | (refine A0 ?_; first | refine R1 rfl rfl ?_ | refine R2 rfl rfl ?_ | (refine A1 ?_; first | refine D3 rfl rfl ?_ | refine D4 rfl rfl rfl rfl ?_ | refine D5 rfl rfl rfl ?_ | refine E6 ?_ rfl rfl | refine E7 ?_ rfl rfl) | refine Zb ?_ rfl | (refine A3 ?_; first | refine R34 T hs 0 rfl rfl rfl rfl rfl rfl ?_ | refine R34 T hs 1 rfl rfl rfl rfl rfl rfl ?_ | refine Zl ?_ rfl) | refine Zi ?_ rfl | refine Zo ?_ rfl | refine A8 ?_) | (refine B0 ?_; first | refine B1 ?_ | refine B2 ?_ | refine B3 ?_ | refine B4 ?_ | refine B5 ?_ | refine B6 ?_ | refine B7 rfl ?_ | refine B8 rfl ?_ | refine E8 ?_ rfl | refine E9 ?_ rfl) | refine C1 ?_ | refine C2 ?_ | refine C3 ?_ | refine C4 ?_ | refine C5 ?_ | refine C6 ?_ | refine C7 ?_ | refine C8 ?_ | refine C9 ?_ | refine D1 rfl ?_ | refine D2 rfl ?_
  first | (refine A0 ?_; first | refine R1 rfl rfl ?_ | refine R2 rfl rfl ?_ | (refine A1 ?_; first | refine D3 rfl rfl ?_ | refine D4 rfl rfl rfl rfl ?_ | refine D5 rfl rfl rfl ?_ | refine E6 ?_ rfl rfl | refine E7 ?_ rfl rfl) | refine Zb ?_ rfl | (refine A3 ?_; first | refine R34 T hs 0 rfl rfl rfl rfl rfl rfl ?_ | refine R34 T hs 1 rfl rfl rfl rfl rfl rfl ?_ | refine Zl ?_ rfl) | refine Zi ?_ rfl | refine Zo ?_ rfl | refine A8 ?_) | (refine B0 ?_; first | refine B1 ?_ | refine B2 ?_ | refine B3 ?_ | refine B4 ?_ | refine B5 ?_ | refine B6 ?_ | refine B7 rfl ?_ | refine B8 rfl ?_ | refine E8 ?_ rfl | refine E9 ?_ rfl) | refine C1 ?_ | refine C2 ?_ | refine C3 ?_ | refine C4 ?_ | refine C5 ?_ | refine C6 ?_ | refine C7 ?_ | refine C8 ?_ | refine C9 ?_ | refine D1 rfl ?_ | refine D2 rfl ?_
  first | (refine A0 ?_; first | refine R1 rfl rfl ?_ | refine R2 rfl rfl ?_ | (refine A1 ?_; first | refine D3 rfl rfl ?_ | refine D4 rfl rfl rfl rfl ?_ | refine D5 rfl rfl rfl ?_ | refine E6 ?_ rfl rfl | refine E7 ?_ rfl rfl) | refine Zb ?_ rfl | (refine A3 ?_; first | refine R34 T hs 0 rfl rfl rfl rfl rfl rfl ?_ | refine R34 T hs 1 rfl rfl rfl rfl rfl rfl ?_ | refine Zl ?_ rfl) | refine Zi ?_ rfl | refine Zo ?_ rfl | refine A8 ?_) | (refine B0 ?_; first | refine B1 ?_ | refine B2 ?_ | refine B3 ?_ | refine B4 ?_ | refine B5 ?_ | refine B6 ?_ | refine B7 rfl ?_ | refine B8 rfl ?_ | refine E8 ?_ rfl | refine E9 ?_ rfl) | refine C1 ?_ | refine C2 ?_ | refine C3 ?_ | refine C4 ?_ | refine C5 ?_ | refine C6 ?_ | refine C7 ?_ | refine C8 ?_ | refine C9 ?_ | refine D1 rfl ?_ | refine D2 rfl ?_
  first | (refine A0 ?_; first | refine R1 rfl rfl ?_ | refine R2 rfl rfl ?_ | (refine A1 ?_; first | refine D3 rfl rfl ?_ | refine D4 rfl rfl rfl rfl ?_ | refine D5 rfl rfl rfl ?_ | refine E6 ?_ rfl rfl | refine E7 ?_ rfl rfl) | refine Zb ?_ rfl | (refine A3 ?_; first | refine R34 T hs 0 rfl rfl rfl rfl rfl rfl ?_ | refine R34 T hs 1 rfl rfl rfl rfl rfl rfl ?_ | refine Zl ?_ rfl) | refine Zi ?_ rfl | refine Zo ?_ rfl | refine A8 ?_) | (refine B0 ?_; first | refine B1 ?_ | refine B2 ?_ | refine B3 ?_ | refine B4 ?_ | refine B5 ?_ | refine B6 ?_ | refine B7 rfl ?_ | refine B8 rfl ?_ | refine E8 ?_ rfl | refine E9 ?_ rfl) | refine C1 ?_ | refine C2 ?_ | refine C3 ?_ | refine C4 ?_ | refine C5 ?_ | refine C6 ?_ | refine C7 ?_ | refine C8 ?_ | refine C9 ?_ | refine D1 rfl ?_ | refine D2 rfl ?_
  first | (refine A0 ?_; first | refine R1 rfl rfl ?_ | refine R2 rfl rfl ?_ | (refine A1 ?_; first | refine D3 rfl rfl ?_ | refine D4 rfl rfl rfl rfl ?_ | refine D5 rfl rfl rfl ?_ | refine E6 ?_ rfl rfl | refine E7 ?_ rfl rfl) | refine Zb ?_ rfl | (refine A3 ?_; first | refine R34 T hs 0 rfl rfl rfl rfl rfl rfl ?_ | refine R34 T hs 1 rfl rfl rfl rfl rfl rfl ?_ | refine Zl ?_ rfl) | refine Zi ?_ rfl | refine Zo ?_ rfl | refine A8 ?_) | (refine B0 ?_; first | refine B1 ?_ | refine B2 ?_ | refine B3 ?_ | refine B4 ?_ | refine B5 ?_ | refine B6 ?_ | refine B7 rfl ?_ | refine B8 rfl ?_ | refine E8 ?_ rfl | refine E9 ?_ rfl) | refine C1 ?_ | refine C2 ?_ | refine C3 ?_ | refine C4 ?_ | refine C5 ?_ | refine C6 ?_ | refine C7 ?_ | refine C8 ?_ | refine C9 ?_ | refine D1 rfl ?_ | refine D2 rfl ?_
  first | (refine A0 ?_; first | refine R1 rfl rfl ?_ | refine R2 rfl rfl ?_ | (refine A1 ?_; first | refine D3 rfl rfl ?_ | refine D4 rfl rfl rfl rfl ?_ | refine D5 rfl rfl rfl ?_ | refine E6 ?_ rfl rfl | refine E7 ?_ rfl rfl) | refine Zb ?_ rfl | (refine A3 ?_; first | refine R34 T hs 0 rfl rfl rfl rfl rfl rfl ?_ | refine R34 T hs 1 rfl rfl rfl rfl rfl rfl ?_ | refine Zl ?_ rfl) | refine Zi ?_ rfl | refine Zo ?_ rfl | refine A8 ?_) | (refine B0 ?_; first | refine B1 ?_ | refine B2 ?_ | refine B3 ?_ | refine B4 ?_ | refine B5 ?_ | refine B6 ?_ | refine B7 rfl ?_ | refine B8 rfl ?_ | refine E8 ?_ rfl | refine E9 ?_ rfl) | refine C1 ?_ | refine C2 ?_ | refine C3 ?_ | refine C4 ?_ | refine C5 ?_ | refine C6 ?_ | refine C7 ?_ | refine C8 ?_ | refine C9 ?_ | refine D1 rfl ?_ | refine D2 rfl ?_
  first | (refine A0 ?_; first | refine R1 rfl rfl ?_ | refine R2 rfl rfl ?_ | (refine A1 ?_; first | refine D3 rfl rfl ?_ | refine D4 rfl rfl rfl rfl ?_ | refine D5 rfl rfl rfl ?_ | refine E6 ?_ rfl rfl | refine E7 ?_ rfl rfl) | refine Zb ?_ rfl | (refine A3 ?_; first | refine R34 T hs 0 rfl rfl rfl rfl rfl rfl ?_ | refine R34 T hs 1 rfl rfl rfl rfl rfl rfl ?_ | refine Zl ?_ rfl) | refine Zi ?_ rfl | refine Zo ?_ rfl | refine A8 ?_) | (refine B0 ?_; first | refine B1 ?_ | refine B2 ?_ | refine B3 ?_ | refine B4 ?_ | refine B5 ?_ | refine B6 ?_ | refine B7 rfl ?_ | refine B8 rfl ?_ | refine E8 ?_ rfl | refine E9 ?_ rfl) | refine C1 ?_ | refine C2 ?_ | refine C3 ?_ | refine C4 ?_ | refine C5 ?_ | refine C6 ?_ | refine C7 ?_ | refine C8 ?_ | refine C9 ?_ | refine D1 rfl ?_ | refine D2 rfl ?_
  refine CW.meet (fun _ : Unit => [(1, .int .i64 (n : Int)), (2, .int .i64 most), (3, .pointer (some ⟨b1, 0, none⟩)), (8, .slice ad2 ks.length cp2)]) (fun _ w' => (ks.length = n ∨ ks.length = 1) ∧ Sees w h h2 [⟨some ⟨b1, 0, none⟩, 1, 1, 34, 8, vecCells v.kind wv nv sm il fl ch bx⟩] w') ?_ ?_
  · by_cases c1 : ks.length = n
    · refine Zerun ?_
      exact joinQ_meet () ⟨rfl, rfl, rfl, rfl, trivial⟩ ⟨.inl c1, hs⟩
    by_cases c2 : ks.length = 1
    · refine Zerun ?_
      exact joinQ_meet () ⟨rfl, rfl, rfl, rfl, trivial⟩ ⟨.inr c2, hs⟩
    have he : copiesRes ks n most = ([], 23) := by unfold copiesRes; rw [if_pos ⟨c1, c2⟩]
    refine Zerun ?_
    exact retQ_ret [_, _] h2 ⟨rfl, rfl, trivial⟩ hs.dropAll ⟨_, by rw [he]; rfl, by rw [he]; exact IntsAt.nil _⟩
  rintro _ w3 ⟨clen, hs⟩
  have hres : copiesRes ks n most = if ((copiesTo ks n).length : Int) ≤ most then (copiesTo ks n, 0) else ([], 26) := by unfold copiesRes; rw [if_neg (by omega)]
  refine Zerun ?_
  (refine RW.call T hs rfl rfl rfl (vecPacked_con _ v _ _ hv') ?_; intro v h4 w4 hle4 hp4 hs)
  obtain ⟨wb, bs, rfl, hb4, hb1, hb2⟩ := hp4
  have hT := hT.mono hle4
  have hS2 := hS2.mono hle4
  have hwo : wb.oneCell' = true := by obtain ⟨_, ws, ⟨_, _, rfl, _⟩, _⟩ := hb4; rfl
  by_cases ck : v.kind = 1 ∧ bs.length = n
  · obtain ⟨ck1, ck2⟩ := ck
    have hv1 := hb1 ck1
    have hkbs : ks = bs.map fun b => if b then 1 else 0 := by
      rw [hks, hv1, List.map_map]
      apply List.map_congr_left
      intro b _
      simp only [Function.comp]
      cases b with
      | true => show (wholeF 4607182418800017408).1 = 1; rw [← fw1, wholeF_fw 1 (by omega)]
      | false => show (wholeF 0).1 = 0; rw [← fw0, wholeF_fw 0 (by omega)]
    have hones : copiesTo ks n = onesL bs := by rw [hkbs, ← ck2]; exact copies_bits bs bs.length (Nat.le_refl _)
    rw [decide_eq_true ck1]
    refine Zerun ?_
    (refine RW.allocN T hs rfl rfl rfl rfl ?_; intro b5 w5 hs)
    refine RW.storeAll T hs 0 rfl rfl rfl rfl rfl rfl (by show (wb.oneCell' && (true && true)) = true; rw [hwo]; rfl) rfl ?_
    intro w6 hs
    refine Zerun ?_
    (refine RW.call T hs rfl rfl rfl (bitsLen_con wb _ _ _) ?_; intro v h7 w7 hle7 hp7 hs)
    subst hp7
    have hT := hT.mono hle7
    have hb4 := hb4.mono hle7
    refine Zerun ?_
    (refine RW.call T hs rfl rfl rfl (bitsOnes_con wb bs _ _ hT hb4) ?_; intro v h8 w8 hle8 hp8 hs)
    refine Zerun ?_
    (refine RW.call T hs rfl rfl rfl (pickLimited_con _ (onesL bs) most _ _ hp8) ?_; intro v h9 w9 hle9 hp9 hs)
    obtain ⟨s9, rfl, hI9⟩ := hp9
    refine Zerun ?_
    refine retQ_ret [_, _] h9 ⟨rfl, rfl, trivial⟩ hs.dropAll ⟨s9, ?_, ?_⟩
    · rw [hres, hones]
      by_cases c : ((onesL bs).length : Int) ≤ most
      · rw [if_pos c, if_pos c]; rfl
      · rw [if_neg c, if_neg c]; rfl
    · rw [hres, hones]
      by_cases c : ((onesL bs).length : Int) ≤ most
      · rw [if_pos c] at hI9 ⊢; exact hI9
      · rw [if_neg c] at hI9 ⊢; exact hI9
  refine RW.meet (fun b : Nat => [(1, .int .i64 (n : Int)), (2, .int .i64 most), (3, .pointer (some ⟨b1, 0, none⟩)), (8, .slice ad2 ks.length cp2), (10, .pointer (some ⟨b, 0, none⟩)), (11, .bool (decide (v.kind = 1)))]) (fun b w' => Sees w h h4 [⟨some ⟨b, 0, none⟩, 1, 1, 28, 2, [wb, .int .i64 bs.length]⟩, ⟨some ⟨b1, 0, none⟩, 1, 1, 34, 8, vecCells v.kind wv nv sm il fl ch bx⟩] w') ?_ ?_
  · refine Zerun ?_
    (refine RW.allocN T hs rfl rfl rfl rfl ?_; intro b5 w5 hs)
    refine RW.storeAll T hs 0 rfl rfl rfl rfl rfl rfl (by show (wb.oneCell' && (true && true)) = true; rw [hwo]; rfl) rfl ?_
    intro w6 hs
    refine Zerun ?_
    exact joinQ_meet b5 ⟨rfl, rfl, rfl, rfl, rfl, rfl, trivial⟩ hs
  rintro b5 w5 hs
  refine CW.meet (fun _ : GHeap => [(1, .int .i64 (n : Int)), (2, .int .i64 most), (8, .slice ad2 ks.length cp2)]) (fun r w' => GLe h4 r ∧ Sees w h r [⟨some ⟨b5, 0, none⟩, 1, 1, 28, 2, [wb, .int .i64 bs.length]⟩, ⟨some ⟨b1, 0, none⟩, 1, 1, 34, 8, vecCells v.kind wv nv sm il fl ch bx⟩] w') ?_ ?_
  · by_cases c1 : v.kind = 1
    · have c2 : ¬ bs.length = n := fun e => ck ⟨c1, e⟩
      rw [decide_eq_true c1]
      refine Zerun ?_
      (refine RW.call T hs rfl rfl rfl (bitsLen_con wb _ _ _) ?_; intro v h7 w7 hle7 hp7 hs)
      subst hp7
      refine Zerun ?_
      exact joinQ_meet h7 ⟨rfl, rfl, rfl, trivial⟩ ⟨hle7, hs⟩
    · rw [decide_eq_false c1]
      refine Zerun ?_
      exact joinQ_meet h4 ⟨rfl, rfl, rfl, trivial⟩ ⟨GLe.refl _, hs⟩
  rintro hh w6 ⟨hg, hs⟩
  have hS := hS2.mono hg
  refine Zerun ?_
  have hcm : ∀ i, i < n → i % ks.length < ks.length ∧ -9007199254740992 ≤ cAt ks i ∧ cAt ks i ≤ 9007199254740992 := by
    intro i hi
    have hl : 0 < ks.length := by omega
    have hq := Nat.mod_lt i hl
    exact ⟨hq, hkb _ (mem_getD ks _ 0 hq)⟩
  refine CW.loop (fun i : Nat => [(1, .int .i64 (n : Int)), (2, .int .i64 most), (8, .slice ad2 ks.length cp2), (12, .int .i64 ((copiesTo ks i).length : Int)), (55, .int .i64 (n : Int)), (56, .int .i64 i)]) (fun i w' => i ≤ n ∧ ((copiesTo ks i).length : Int) ≤ most ∧ Sees w h hh [⟨some ⟨b5, 0, none⟩, 1, 1, 28, 2, [wb, .int .i64 bs.length]⟩, ⟨some ⟨b1, 0, none⟩, 1, 1, 34, 8, vecCells v.kind wv nv sm il fl ch bx⟩] w') (fun i => n - i) 0 ⟨rfl, rfl, rfl, rfl, rfl, rfl, trivial⟩ ⟨by omega, hmost.1, hs⟩ ?_
  rintro i w7 ⟨hi, hsum, hs⟩
  by_cases hlt : i < n
  · obtain ⟨hq, hc1, hc2⟩ := hcm i hlt
    have hcg : ks.getD ((i : Int) % (ks.length : Int)).toNat 0 = cAt ks i := by rw [← Int.natCast_emod, Int.toNat_natCast]; rfl
    have hls := copiesTo_len_succ ks i
    generalize cAt ks i = c at hc1 hc2 hcg hls
    have hmx : max c (-c) = ((c.natAbs : Nat) : Int) := by omega
    refine Zerun ?_
    rw [hcg]
    refine RW.val (Y.neg rfl ⟨by omega, by omega⟩) rfl ?_
    refine Zerun ?_
    by_cases c3 : ((copiesTo ks (i + 1)).length : Int) ≤ most
    · refine Zerun ?_
      exact loopQ_round (i + 1) ⟨rfl, rfl, rfl, seti (by rw [hls, hmx]; omega), rfl, rfl, trivial⟩ ⟨by omega, c3, hs⟩ (by omega)
    · have hnot : ¬ ((copiesTo ks n).length : Int) ≤ most := by
        have := copiesTo_mono ks (a := i + 1) (b := n) (by omega)
        omega
      refine Zerun ?_
      exact retQ_ret [_, _] hh ⟨rfl, rfl, trivial⟩ hs.dropAll ⟨_, by rw [hres, if_neg hnot]; rfl, by rw [hres, if_neg hnot]; exact IntsAt.nil _⟩
  obtain rfl : i = n := by omega
  have hs := hs.sub (List.nil_sublist _)
  refine Zerun ?_
  refine RW.make T hs rfl rfl rfl rfl rfl (by omega) (by omega) (by dsimp only; omega) (by omega) ?_
  intro b3 w8 hs
  have hs := hs.re (ys := []) (made_one (.int .i64 0) 0)
  rw [Int.toNat_natCast] at hs ⊢
  have hs : Sees w h hh [⟨some ⟨b3, 0, none⟩, 0, (copiesTo ks i).length, 3, 1, []⟩] w8 := hs
  rw [show (0 : Int).toNat = 0 from rfl]
  refine Zerun ?_
  refine CW.loop (fun u : Nat × Nat × Option Addr × Nat => [(1, .int .i64 (i : Int)), (8, .slice ad2 ks.length cp2), (15, .slice u.2.2.1 u.2.1 u.2.2.2), (81, .int .i64 (i : Int)), (82, .int .i64 u.1)]) (fun u w' => u.1 ≤ i ∧ (copiesTo ks u.1).length = u.2.1 ∧ Sees w h hh [⟨u.2.2.1, u.2.1, u.2.2.2, 3, 1, (copiesTo ks u.1).map (Value.int .i64)⟩] w') (fun u => i - u.1) (0, 0, some ⟨b3, 0, none⟩, (copiesTo ks i).length) ⟨rfl, rfl, rfl, rfl, rfl, trivial⟩ ⟨by omega, rfl, hs⟩ ?_
  rintro ⟨j, m, ra, rc⟩ w9 ⟨hj, hm9, hs⟩
  dsimp only at hj hm9 hs ⊢
  by_cases hlt2 : j < i
  · obtain ⟨hq, hc1, hc2⟩ := hcm j hlt2
    have hcg : ks.getD ((j : Int) % (ks.length : Int)).toNat 0 = cAt ks j := by rw [← Int.natCast_emod, Int.toNat_natCast]; rfl
    have hmono := copiesTo_mono ks (a := j + 1) (b := i) (by omega)
    have hls := copiesTo_len_succ ks j
    have hsu := copiesTo_succ ks j
    generalize cAt ks j = c at hc1 hc2 hcg hls hsu
    obtain ⟨at_, hat⟩ : ∃ z : Int, (if c < 0 then -1 else (j : Int)) = z := ⟨_, rfl⟩
    have hseg : segC c j = List.replicate c.natAbs at_ := by unfold segC; rw [hat]
    refine Zerun ?_
    rw [hcg]
    refine Zerun ?_
    refine CW.meet (fun _ : Unit => [(1, .int .i64 (i : Int)), (8, .slice ad2 ks.length cp2), (15, .slice ra m rc), (17, .int .i64 (c.natAbs : Int)), (18, .int .i64 at_), (81, .int .i64 (i : Int)), (82, .int .i64 j)]) (fun _ w' => Sees w h hh [⟨ra, m, rc, 3, 1, (copiesTo ks j).map (Value.int .i64)⟩] w') ?_ ?_
    · by_cases c4 : c < 0
      · rw [if_pos c4] at hat
        refine Zerun ?_
        refine RW.val (Y.neg rfl ⟨by omega, by omega⟩) rfl ?_
        refine Zerun ?_
        exact joinQ_meet () ⟨rfl, rfl, rfl, seti (by omega), seti hat, rfl, rfl, trivial⟩ hs
      · rw [if_neg c4] at hat
        refine Zerun ?_
        exact joinQ_meet () ⟨rfl, rfl, rfl, seti (by omega), seti hat, rfl, rfl, trivial⟩ hs
    rintro _ w10 hs
    refine Zerun ?_
    refine CW.loop (fun u : Nat × Option Addr × Nat => [(1, .int .i64 (i : Int)), (8, .slice ad2 ks.length cp2), (15, .slice u.2.1 (m + u.1) u.2.2), (18, .int .i64 at_), (81, .int .i64 (i : Int)), (82, .int .i64 j), (97, .int .i64 (c.natAbs : Int)), (98, .int .i64 u.1)]) (fun u w' => u.1 ≤ c.natAbs ∧ Sees w h hh [⟨u.2.1, m + u.1, u.2.2, 3, 1, (copiesTo ks j ++ List.replicate u.1 at_).map (Value.int .i64)⟩] w') (fun u => c.natAbs - u.1) (0, ra, rc) ⟨rfl, rfl, rfl, rfl, rfl, rfl, rfl, rfl, trivial⟩ ⟨by omega, hs.re (by simp)⟩ ?_
    rintro ⟨q, rb, rd⟩ w11 ⟨hq9, hs⟩
    dsimp only at hq9 hs ⊢
    by_cases hq8 : q < c.natAbs
    · refine Zerun ?_
      (refine RW.lit T hs (vs := [.int .i64 at_]) (cs := [.int .i64 at_]) rfl rfl rfl rfl (by simp [Value.cells]) rfl rfl rfl rfl rfl ?_; intro b6 w6 hs)
      (refine RW.append T hs 1 rfl rfl (m := 1) (news := [.int .i64 at_]) rfl rfl rfl rfl rfl rfl (hs.src0 rfl (by simp [Value.oneCell'])) (by simp) (by dsimp only; omega) (by omega) ?_; intro ad7 cp7 w7 hs; replace hs := hs.drop)
      refine Zerun ?_
      exact loopQ_round (q + 1, ad7, cp7) ⟨rfl, rfl, rfl, rfl, rfl, rfl, rfl, rfl, trivial⟩ ⟨by dsimp only; omega, hs.re (by dsimp only; rw [List.replicate_succ', ← List.append_assoc, List.map_append (l₁ := copiesTo ks j ++ List.replicate q at_)]; rfl)⟩ (by dsimp only; omega)
    · obtain rfl : q = c.natAbs := by omega
      refine Zerun ?_
      exact loopQ_round (j + 1, m + c.natAbs, rb, rd) ⟨rfl, rfl, rfl, rfl, rfl, trivial⟩ ⟨by dsimp only; omega, by dsimp only; omega, hs.re (by dsimp only; rw [hsu, hseg])⟩ (by dsimp only; omega)
  have hs9 := hs
  obtain rfl : j = i := by omega
  obtain ⟨h12, hle12, hs, hI12⟩ := freezeI hs9 hm9
  refine Zerun ?_
  exact retQ_ret [_, _] h12 ⟨rfl, rfl, trivial⟩ hs.dropAll ⟨_, by rw [hres, if_pos hsum]; rfl, by rw [hres, if_pos hsum]; exact hI12⟩
end
end Go.Proofs.YtmfealaaacmohaaDoor

/-
  Contracts of functions of package value: arrays made of elements, a number, a character, a box alone. No statement is proved here.
-/
namespace Go.Proofs.YtmfealaaacmohaaDoor
open Go Go.RowKit
set_option linter.unusedVariables false
set_option linter.unusedSimpArgs false
set_option maxHeartbeats 4000000
attribute [local irreducible] CW RW QW SW HW ConM retM heldQ calmQ elemP thenQ blockQ loopQ joinQ retQ Yields Con Sl zF magR unitF truncF fwF wholeF tidySpec elemQ rankF leastN tidyW

section
variable {α : Type} {R : GHeap → List Value → α → Prop}
end
end Go.Proofs.YtmfealaaacmohaaDoor

/-
  Contracts of the law's own functions of layer 7: which shapes elements can have. No statement is proved here.
-/
namespace Go.Proofs.YtmfealaaacmohaaDoor
open Go Go.RowKit
set_option linter.unusedVariables false
set_option linter.unusedSimpArgs false
set_option maxHeartbeats 4000000
attribute [local irreducible] CW RW QW SW HW ConM retM heldQ calmQ elemP thenQ blockQ loopQ joinQ retQ Yields Con Sl zF magR unitF truncF fwF wholeF tidySpec elemQ rankF leastN tidyW

end Go.Proofs.YtmfealaaacmohaaDoor

/-
  Plain Lean on arrays of numbers, and of one number: good ones, told plainly. No statement is proved here.
-/
namespace Go.Proofs.YtmfealaaacmohaaDoor
open Go Go.RowKit
set_option linter.unusedVariables false
set_option linter.unusedSimpArgs false
set_option maxHeartbeats 4000000
attribute [local irreducible] CW RW QW SW HW ConM retM heldQ calmQ elemP thenQ blockQ loopQ joinQ retQ Yields Con Sl zF magR unitF truncF fwF wholeF tidySpec elemQ rankF leastN tidyW

/-- small whole numbers, as words -/
theorem fw_rank (l : List Int) (h : ∀ n ∈ l, -9007199254740992 ≤ n ∧ n ≤ 9007199254740992) : leastN (l.map fwF) ≤ 3 := by
  unfold leastN
  refine fold_le _ _ _ (by omega) (fun x hx => ?_)
  obtain ⟨n, hn, rfl⟩ := List.mem_map.1 hx
  rw [rank_int, wholeF_fw n (h n hn)]
theorem fw_tidyW (l : List Int) (h : ∀ n ∈ l, -9007199254740992 ≤ n ∧ n ≤ 9007199254740992) : (l.map fwF).map tidyW = l.map fwF := by
  rw [List.map_map]
  apply List.map_congr_left
  intro n hn
  show tidyW (fwF n) = fwF n
  unfold tidyW
  rw [tidySpec_of _ (fwF_spec n (h n hn)).1]
end Go.Proofs.YtmfealaaacmohaaDoor

/-
  Contract of the example of layer 15. No statement is proved here.
-/
namespace Go.Proofs.YtmfealaaacmohaaDoor
open Go Go.RowKit
set_option linter.unusedVariables false
set_option linter.unusedSimpArgs false
set_option maxHeartbeats 4000000
attribute [local irreducible] CW RW QW SW HW ConM retM heldQ calmQ elemP thenQ blockQ loopQ joinQ retQ Yields Con Sl zF magR unitF truncF fwF wholeF tidySpec elemQ rankF leastN tidyW
set_option maxHeartbeats 4000000

def l20m : List Nat := [4611686018427387904, 0, 13830554455654793216]
theorem l20m_eq : l20m = [2, 0, -1].map fwF := by show [_, _, _] = [fwF 2, fwF 0, fwF (-1)]; unfold fwF; decide
theorem in20m : ∀ n ∈ ([2, 0, -1] : List Int), -9007199254740992 ≤ n ∧ n ≤ 9007199254740992 := by
  intro n hn
  simp only [List.mem_cons, List.not_mem_nil, or_false] at hn
  omega
theorem tidy20m : l20m.map tidyW = l20m := by
  rw [l20m_eq]
  exact fw_tidyW _ in20m
theorem fin20m : ∀ u ∈ l20m, finF u := by
  intro u hu
  rw [l20m_eq] at hu
  obtain ⟨n, hn, rfl⟩ := List.mem_map.1 hu
  exact (fwF_spec n (in20m n hn)).1.2.1
theorem lt20m : ∀ u ∈ l20m, u < 18446744073709551616 := by
  intro u hu
  rw [l20m_eq] at hu
  obtain ⟨n, hn, rfl⟩ := List.mem_map.1 hu
  exact (fwF_spec n (in20m n hn)).1.1
theorem whole20m : l20m.map (fun x => (wholeF x).1) = [2, 0, -1] := by
  rw [l20m_eq, List.map_map]
  show [(wholeF (fwF 2)).1, (wholeF (fwF 0)).1, (wholeF (fwF (-1))).1] = _
  rw [wholeF_fw 2 (by omega), wholeF_fw 0 (by omega), wholeF_fw (-1) (by omega)]
theorem awake15_con (w : World) (h : GHeap) (hT : TzTab h) : Con Tryd.prog 12 [] w h (fun _ u => u = .bool true) := by
  refine Con.of_body Tryd.func12 rfl Tryd.ntmps12 rfl rfl ?_
  intro hs
  refine Zrun ?_
  (refine RW.lit T hs (vs := [.float .f64 4611686018427387904, .float .f64 0, .float .f64 13830554455654793216]) rfl rfl rfl rfl (by simp [Value.cells]) rfl rfl rfl rfl rfl ?_; intro b1 w1 hs)
  obtain ⟨h1, hle1, hs, hS1⟩ := hs.freeze
  have hF1 : FAt h1 (.slice (some ⟨b1, 0, none⟩) 3 3) l20m := RowAt.of_sl (l := l20m) hS1
  have hT := hT.mono hle1
  (refine RW.call T hs rfl rfl rfl (sqNumbers_con (α := AD 0) (R := ArrAt 0) (ArrAt.mono 0) _ l20m _ _ hF1 lt20m (by decide)) ?_; intro v h2 w2 hle2 hp2 hs)
  obtain ⟨cs2, ok, rfl, hok, hv2⟩ := hp2
  rw [decide_eq_true fin20m] at hok
  subst hok
  rw [if_pos rfl, tidy20m] at hv2
  have hT := hT.mono hle2
  have hv2' := hv2
  obtain ⟨wv, nv, sm, il, fl, ch, bx, ⟨rfl, hoc⟩, _⟩ := hv2
  have hlb := leastN_bounds l20m
  have hl3 : leastN l20m ≤ 3 := by rw [l20m_eq]; exact fw_rank _ in20m
  refine Zerun ?_
  (refine RW.allocN T hs rfl rfl rfl rfl ?_; intro b3 w3 hs)
  refine RW.storeAll T hs 0 rfl rfl rfl rfl rfl rfl (by show (vecCells (leastN l20m) wv nv sm il fl ch bx).all Value.oneCell' = true; rw [hoc]) rfl ?_
  intro w4 hs
  refine Zerun ?_
  (refine RW.call T hs rfl rfl rfl (pickCopies_con (ArrAt.mono 0) _ (⟨leastN l20m, l20m, [], []⟩ : VecD (AD 0)) 3 9 [2, 0, -1] _ _ hT hv2' (by show 3 ≤ 1048576; decide) (by show leastN l20m = 1 ∨ leastN l20m = 2 ∨ leastN l20m = 3; omega) whole20m.symm in20m (by omega) ⟨by decide, by decide⟩) ?_; intro v h5 w5 hle5 hp5 hs)
  obtain ⟨s5, he5, hI5⟩ := hp5
  rw [show copiesRes [2, 0, -1] 3 9 = ([0, 0, -1], 0) by decide] at hI5 he5
  have he5 : v = .tuple #[s5, .int .i64 0] := he5
  subst he5
  have hI5 : IntsAt h5 s5 [0, 0, -1] := hI5
  refine Zerun ?_
  (refine RW.callM T hs rfl rfl rfl (taken_conM 2 3 9 _ _ _ _ _ (by omega) ⟨by decide, by decide⟩ ⟨by decide, by decide⟩) ?_; intro v h6 O6 w6 hle6 hp6 hs)
  obtain ⟨rfl, hp6⟩ := hp6
  rw [if_pos (by decide)] at hp6
  obtain ⟨b6, rfl, rfl⟩ := hp6
  have hs := hs.re (ys := [0, 1, -1].map (Value.int .i64)) (congrArg (List.map _) (show takenL 2 3 = [0, 1, -1] by decide))
  obtain ⟨h7, hle7, hs, hI7⟩ := freezeI (l := [0, 1, -1]) hs rfl
  have hI5 := hI5.mono hle7
  refine Zerun ?_
  (refine RW.lit T hs (vs := [.int .i64 0, .int .i64 0, .int .i64 (-1)]) rfl rfl rfl rfl (by simp [Value.cells]) rfl rfl rfl rfl rfl ?_; intro b8 w8 hs)
  obtain ⟨h8, hle8, hs, hI8⟩ := freezeI (l := [0, 0, -1]) hs rfl
  refine Zerun ?_
  (refine RW.call T hs rfl rfl rfl (ints_con _ _ [0, 0, -1] [0, 0, -1] _ _ (hI5.mono hle8) hI8 (by decide)) ?_; intro v h9 w9 hle9 hp9 hs)
  rw [decide_eq_true rfl] at hp9
  subst hp9
  have hI7 := (hI7.mono hle8).mono hle9
  refine Zerun ?_
  (refine RW.lit T hs (vs := [.int .i64 0, .int .i64 1, .int .i64 (-1)]) rfl rfl rfl rfl (by simp [Value.cells]) rfl rfl rfl rfl rfl ?_; intro b10 w10 hs)
  obtain ⟨h10, hle10, hs, hI10⟩ := freezeI (l := [0, 1, -1]) hs rfl
  refine Zerun ?_
  (refine RW.call T hs rfl rfl rfl (ints_con _ _ [0, 1, -1] [0, 1, -1] _ _ (hI7.mono hle10) hI10 (by decide)) ?_; intro v h11 w11 hle11 hp11 hs)
  rw [decide_eq_true rfl] at hp11
  subst hp11
  refine Zerun ?_
  (refine RW.call T hs rfl rfl rfl (pickRolled_con 3 (-1) _ _ (by omega)) ?_; intro v h12 w12 hle12 hp12 hs)
  rw [show rolledL 3 (-1) = [2, 0, 1] by decide] at hp12
  refine Zerun ?_
  (refine RW.lit T hs (vs := [.int .i64 2, .int .i64 0, .int .i64 1]) rfl rfl rfl rfl (by simp [Value.cells]) rfl rfl rfl rfl rfl ?_; intro b13 w13 hs)
  obtain ⟨h13, hle13, hs, hI13⟩ := freezeI (l := [2, 0, 1]) hs rfl
  refine Zerun ?_
  (refine RW.call T hs rfl rfl rfl (ints_con _ _ [2, 0, 1] [2, 0, 1] _ _ (hp12.mono hle13) hI13 (by decide)) ?_; intro v h14 w14 hle14 hp14 hs)
  rw [decide_eq_true rfl] at hp14
  subst hp14
  refine Zerun ?_
  exact retQ_ret [_] h14 ⟨rfl, trivial⟩ hs.dropAll rfl
end Go.Proofs.YtmfealaaacmohaaDoor

/-
  Contract of the law's own function of layer 15: places turned, taken and dropped. No statement is proved here.
-/
namespace Go.Proofs.YtmfealaaacmohaaDoor
open Go Go.RowKit
set_option linter.unusedVariables false
set_option linter.unusedSimpArgs false
set_option maxHeartbeats 4000000
attribute [local irreducible] CW RW QW SW HW ConM retM heldQ calmQ elemP thenQ blockQ loopQ joinQ retQ Yields Con Sl zF magR unitF truncF fwF wholeF tidySpec elemQ rankF leastN tidyW
set_option maxHeartbeats 4000000

end Go.Proofs.YtmfealaaacmohaaDoor

/-
  Plain facts on sums of floating point words that are whole. No program is in sight, and no statement is proved here.
-/
namespace Go.Proofs.YtmfealaaacmohaaDoor
open Ieee

theorem log2_scale (n b : Nat) (h : n ≠ 0) : (n * 2 ^ b).log2 = n.log2 + b := by
  have hp : 0 < 2 ^ b := Nat.pow_pos (by omega)
  have h' : n * 2 ^ b ≠ 0 := Nat.mul_ne_zero h (by omega)
  rw [Nat.log2_eq_iff h']
  have l1 := Nat.log2_self_le h
  have l2 : n < 2 ^ (n.log2 + 1) := Nat.lt_log2_self
  constructor
  · rw [Nat.pow_add]; exact Nat.mul_le_mul_right _ l1
  · rw [show n.log2 + b + 1 = (n.log2 + 1) + b by omega, Nat.pow_add]; exact Nat.mul_lt_mul_of_pos_right l2 hp
theorem cut_scale (neg : Bool) (n d b : Nat) (h : n ≠ 0) : Toward.even.cut neg (n * 2 ^ b) (d + b) = Toward.even.cut neg n d := by
  have hp : 0 < 2 ^ b := Nat.pow_pos (by omega)
  unfold Toward.cut
  rw [log2_scale n b h, show min (d + b) (n.log2 + b + 2) = min d (n.log2 + 2) + b by omega]
  simp only [Nat.shiftLeft_eq, Nat.one_mul, Nat.pow_add]
  generalize 2 ^ min d (n.log2 + 2) = g
  rw [Nat.mul_div_mul_right _ _ hp, Nat.mul_mod_mul_right]
  have e1 : (g * 2 ^ b < 2 * (n % g * 2 ^ b)) ↔ (g < 2 * (n % g)) := by rw [← Nat.mul_assoc]; exact Nat.mul_lt_mul_right hp
  have e2 : (g * 2 ^ b = 2 * (n % g * 2 ^ b)) ↔ (g = 2 * (n % g)) := by rw [← Nat.mul_assoc]; exact Nat.mul_right_cancel_iff hp
  have e3 : (g * 2 ^ b == 2 * (n % g * 2 ^ b)) = (g == 2 * (n % g)) := by rw [Bool.eq_iff_iff]; simp only [beq_iff_eq]; exact e2
  simp only [e1, e3]
theorem nearest_scale (f : Format) (neg : Bool) (mag b : Nat) (place : Int) : f.nearest neg (mag * 2 ^ b) place = f.nearest neg mag (place + b) := by
  have hp : 0 < 2 ^ b := Nat.pow_pos (by omega)
  unfold Format.nearest
  by_cases h : mag = 0
  · subst h; simp
  have h' : mag * 2 ^ b ≠ 0 := Nat.mul_ne_zero h (by omega)
  rw [if_neg h, if_neg h', log2_scale mag b h]
  have a1 : place + ((mag.log2 + b : Nat) : Int) - (f.fractionBits : Int) = place + (b : Int) + (mag.log2 : Int) - (f.fractionBits : Int) := by omega
  simp only [a1]
  generalize max (place + (b : Int) + (mag.log2 : Int) - (f.fractionBits : Int)) f.leastPlace = last
  have key : Toward.even.cut neg ((mag * 2 ^ b) <<< (place - last).toNat) (last - place).toNat = Toward.even.cut neg (mag <<< (place + (b : Int) - last).toNat) (last - (place + (b : Int))).toNat := by
    simp only [Nat.shiftLeft_eq]
    by_cases c1 : last ≤ place
    · rw [show (last - place).toNat = 0 by omega, show (last - (place + (b : Int))).toNat = 0 by omega, show (place + (b : Int) - last).toNat = b + (place - last).toNat by omega, Nat.pow_add, Nat.mul_assoc]
    · rw [show (place - last).toNat = 0 by omega, Nat.pow_zero, Nat.mul_one]
      by_cases c2 : last ≤ place + (b : Int)
      · obtain ⟨d, hd⟩ : ∃ d, (last - place).toNat = d := ⟨_, rfl⟩
        rw [hd, show (last - (place + (b : Int))).toNat = 0 by omega, show (place + (b : Int) - last).toNat = b - d by omega]
        have e : mag * 2 ^ b = mag * 2 ^ (b - d) * 2 ^ d := by rw [Nat.mul_assoc, ← Nat.pow_add, show b - d + d = b by omega]
        rw [e]
        have := cut_scale neg (mag * 2 ^ (b - d)) 0 d (Nat.mul_ne_zero h (by have := Nat.pow_pos (n := b - d) (show 0 < 2 by omega); omega))
        rwa [Nat.zero_add] at this
      · rw [show (place + (b : Int) - last).toNat = 0 by omega, Nat.pow_zero, Nat.mul_one, show (last - place).toNat = (last - (place + (b : Int))).toNat + b by omega]
        exact cut_scale neg mag _ b h
  rw [key]
theorem sum_fw (s t : Bool) (m n i j : Nat) (a b : Int) (ha : signed s m i = a * unitF) (hb : signed t n j = b * unitF) (h0 : a + b = 0 → (s && t) = false) :
    ((Datum.number s m ((i : Int) - 1074)).sum (.number t n ((j : Int) - 1074))).map double.write = some (fwF (a + b)) := by
  obtain ⟨c, p, q, rfl, rfl, hc⟩ : ∃ c p q : Nat, i = p + c ∧ j = q + c ∧ min p q = 0 := ⟨min i j, i - min i j, j - min i j, by omega, by omega, by omega⟩
  have a0 : min (((p + c : Nat) : Int) - 1074) (((q + c : Nat) : Int) - 1074) = (c : Int) - 1074 := by omega
  have a1 : (((p + c : Nat) : Int) - 1074 - ((c : Int) - 1074)).toNat = p := by omega
  have a2 : (((q + c : Nat) : Int) - 1074 - ((c : Int) - 1074)).toNat = q := by omega
  simp only [Datum.sum, a0, a1, a2, Option.map_some, Format.write]
  rw [signed_scale] at ha hb
  have hT : (signed s m p + signed t n q) * ((2 ^ c : Nat) : Int) = (a + b) * (unitF : Int) := by rw [Int.add_mul, Int.add_mul, ha, hb]
  generalize signed s m p + signed t n q = z at hT
  generalize a + b = e at hT h0
  have hp : 0 < 2 ^ c := Nat.pow_pos (by omega)
  have hu := unitF_pos
  have hp' : (0 : Int) < ((2 ^ c : Nat) : Int) := by omega
  have hu' : (0 : Int) < (unitF : Int) := by omega
  have hz0 : z = 0 ↔ e = 0 := by
    constructor
    · rintro rfl
      rw [Int.zero_mul] at hT
      rcases Int.mul_eq_zero.1 hT.symm with h | h <;> omega
    · rintro rfl
      rw [Int.zero_mul] at hT
      rcases Int.mul_eq_zero.1 hT with h | h <;> omega
  have hzn : z < 0 ↔ e < 0 := by
    constructor
    · intro h
      have : z * ((2 ^ c : Nat) : Int) < 0 := Int.mul_neg_of_neg_of_pos h hp'
      rw [hT] at this
      exact Int.neg_of_mul_neg_left this (by omega)
    · intro h
      have : e * (unitF : Int) < 0 := Int.mul_neg_of_neg_of_pos h hu'
      rw [← hT] at this
      exact Int.neg_of_mul_neg_left this (by omega)
  have hsg : (if z = 0 then s && t else decide (z < 0)) = decide (e < 0) := by
    by_cases h : z = 0
    · rw [if_pos h, h0 (hz0.1 h)]
      have := hz0.1 h
      rw [decide_eq_false (by omega)]
    · rw [if_neg h]; exact decide_eq_decide.2 hzn
  have hm : z.natAbs * 2 ^ c = e.natAbs * unitF := by
    have := congrArg Int.natAbs hT
    rwa [Int.natAbs_mul, Int.natAbs_mul, Int.natAbs_natCast, Int.natAbs_natCast] at this
  rw [hsg]
  congr 1
  show double.nearest _ _ _ = double.nearest (decide (e < 0)) e.natAbs 0
  unfold unitF at hm
  rcases Nat.le_total c expU with h | h
  · have : z.natAbs = e.natAbs * 2 ^ (expU - c) := by
      have e1 : (2 : Nat) ^ expU = 2 ^ (expU - c) * 2 ^ c := by rw [← Nat.pow_add, show expU - c + c = expU by omega]
      rw [e1, ← Nat.mul_assoc] at hm
      exact Nat.mul_right_cancel hp hm
    rw [this, nearest_scale]
    congr 1
    rw [expU_eq] at h ⊢
    omega
  · have : e.natAbs = z.natAbs * 2 ^ (c - expU) := by
      have e1 : (2 : Nat) ^ c = 2 ^ (c - expU) * 2 ^ expU := by rw [← Nat.pow_add, show c - expU + expU = c by omega]
      rw [e1, ← Nat.mul_assoc] at hm
      exact (Nat.mul_right_cancel (Nat.pow_pos (by omega)) hm).symm
    rw [this, nearest_scale]
    congr 1
    rw [expU_eq] at h ⊢
    omega
theorem add_fw (x y : Nat) (a b : Int) (hx : finF x) (hy : finF y) (ha : zF x = a * unitF) (hb : zF y = b * unitF) (h0 : a + b = 0 → (sgF x && sgF y) = false) : double.add x y = some (fwF (a + b)) := by
  obtain ⟨m, i, e1, h1⟩ := read_fin x hx
  obtain ⟨n, j, e2, h2⟩ := read_fin y hy
  unfold Format.add
  rw [e1, e2]
  exact sum_fw _ _ m n i j a b (by rw [← zF_signed x m i h1, ha]) (by rw [← zF_signed y n j h2, hb]) h0
theorem sub_fw (x y : Nat) (a b : Int) (hx : finF x) (hy : finF y) (ha : zF x = a * unitF) (hb : zF y = b * unitF) (h0 : a - b = 0 → (sgF x && !sgF y) = false) : double.sub x y = some (fwF (a - b)) := by
  obtain ⟨m, i, e1, h1⟩ := read_fin x hx
  obtain ⟨n, j, e2, h2⟩ := read_fin y hy
  unfold Format.sub
  rw [e1, e2]
  have e : signed (!sgF y) n j = (-b) * unitF := by
    have := zF_signed y n j h2
    rw [hb] at this
    rw [Int.neg_mul, this]
    unfold signed
    cases sgF y <;> simp
  exact sum_fw _ _ m n i j a (-b) (by rw [← zF_signed x m i h1, ha]) e h0
end Go.Proofs.YtmfealaaacmohaaDoor

/-
  Contracts of the document's answers on numbers: tidied, whole, taken so often as counts say. No statement is proved here.
-/
namespace Go.Proofs.YtmfealaaacmohaaDoor
open Go Go.RowKit
set_option linter.unusedVariables false
set_option linter.unusedSimpArgs false
set_option maxHeartbeats 4000000
attribute [local irreducible] CW RW QW SW HW ConM retM heldQ calmQ elemP thenQ blockQ loopQ joinQ retQ Yields Con Sl zF magR unitF truncF fwF wholeF tidySpec elemQ rankF leastN tidyW
set_option maxHeartbeats 4000000
set_option maxRecDepth 4000

section
variable {P : Program} {n : Nat} {L : Env} {w : World} {ty : TypeId} {x y : Operand} {t yt : TypeId} {u v r : Nat}
theorem Y.fAddW (hx : opv L x = some (.float .f64 u)) (hy : opv L y = some (.float .f64 v)) (h : Ieee.double.add u v = some r) : Yields P n L w (.binOp .add t x y yt) ty (.float .f64 r) := by
  refine run_binF (by simp) hx hy ?_
  have h' : FloatKind.f64.format.add u v = some r := h
  simp [floatOp, Op.floatArith, h']
theorem Y.fSubW (hx : opv L x = some (.float .f64 u)) (hy : opv L y = some (.float .f64 v)) (h : Ieee.double.sub u v = some r) : Yields P n L w (.binOp .sub t x y yt) ty (.float .f64 r) := by
  refine run_binF (by simp) hx hy ?_
  have h' : FloatKind.f64.format.sub u v = some r := h
  simp [floatOp, Op.floatArith, h']
end
theorem setf {a b : Nat} (h : a = b) : some (Value.float .f64 a) = some (Value.float .f64 b) := by rw [h]
theorem refWhole_con (x : Nat) (w : World) (h : GHeap) (hf : finF x) : Con Tryd.prog 66 [.float .f64 x] w h (fun _ v => v = .bool (wholeF x).2) := by
  refine Con.of_body Tryd.func66 rfl Tryd.ntmps66 rfl rfl ?_
  intro hs
  refine Zrun ?_
  refine RW.val (Y.fGeq hf finN rfl rfl) rfl ?_
  rw [zFN]
  unfold wholeF
  by_cases h1 : -9007199254740992 * (unitF : Int) ≤ zF x
  · rw [decide_eq_true h1]
    refine Zerun ?_
    refine RW.val (Y.fLeq hf finM rfl rfl) rfl ?_
    rw [zFM]
    by_cases h2 : zF x ≤ 9007199254740992 * (unitF : Int)
    · rw [decide_eq_true h2]
      have h3 : -9007199254740992 * (unitF : Int) ≤ zF x ∧ zF x ≤ 9007199254740992 * (unitF : Int) := ⟨h1, h2⟩
      have hb := trunc_bounds x h3
      have hfw := fwF_spec (truncF x) hb
      rw [if_pos h3]
      refine Zerun ?_
      refine RW.val (Y.convFI T rfl rfl rfl hf ⟨by omega, by omega⟩) rfl ?_
      refine Zerun ?_
      refine RW.val (Y.convIF T rfl rfl rfl) rfl ?_
      refine Zerun ?_
      refine RW.val (Y.fEql hfw.1.2.1 hf rfl rfl) rfl ?_
      rw [hfw.2]
      by_cases h4 : truncF x * (unitF : Int) = zF x
      · rw [decide_eq_true h4]
        refine Zerun ?_
        exact retQ_ret [_] h ⟨rfl, trivial⟩ hs rfl
      · rw [decide_eq_false h4]
        refine Zerun ?_
        exact retQ_ret [_] h ⟨rfl, trivial⟩ hs rfl
    · rw [decide_eq_false h2, if_neg (fun e => h2 e.2)]
      refine Zerun ?_
      exact retQ_ret [_] h ⟨rfl, trivial⟩ hs rfl
  · rw [decide_eq_false h1, if_neg (fun e => h1 e.1)]
    refine Zerun ?_
    exact retQ_ret [_] h ⟨rfl, trivial⟩ hs rfl
theorem refTidyF_con (s : Value) (l : List Nat) (w : World) (h : GHeap) (hl : FAt h s l) (hm : l.length ≤ 1048576) : Con Tryd.prog 13 [s] w h
    (fun h' u => ∃ s' ok, u = .tuple #[s', .bool ok] ∧ ok = decide (∀ u ∈ l, finF u) ∧ (ok = true → FAt h' s' (l.map tidyW))) := by
  have hl' := hl
  obtain ⟨ad, cp, rfl, hS⟩ := hl
  refine Con.of_body Tryd.func13 rfl Tryd.ntmps13 rfl rfl ?_
  intro hs
  refine Zrun ?_
  have hs := hs.nilRow 95 1
  refine CW.loop (fun u : Nat × Option Addr × Nat × GHeap => [(0, .slice ad l.length cp), (4, .slice u.2.1 u.1 u.2.2.1), (5, .int .i64 u.1)]) (fun u w' => u.1 ≤ l.length ∧ (∀ j, j < u.1 → finF (l.getD j 0)) ∧ GLe h u.2.2.2 ∧ Sees w h u.2.2.2 [⟨u.2.1, u.1, u.2.2.1, 95, 1, ((l.take u.1).map tidyW).map (Value.float .f64)⟩] w') (fun u => l.length - u.1) (0, none, 0, h) ⟨rfl, rfl, rfl, trivial⟩ ⟨by omega, fun j hj => by exfalso; exact Nat.not_lt_zero _ hj, GLe.refl _, hs⟩ ?_
  rintro ⟨i, ra, rc, hh⟩ w5 ⟨hi, hno, hgl, hs⟩
  dsimp only at hi hno hgl hs ⊢
  have hS := hS.mono hgl
  by_cases hlt : i < l.length
  · have hg := map_get (Value.float .f64) l i 0 hlt
    have hmem : l.getD i 0 ∈ l := by simp [List.getD_eq_getElem?_getD, hlt]
    refine Zerun ?_
    (refine RW.call T hs rfl rfl rfl (refTidy_con (l.getD i 0) _ _) ?_; intro v h3 w3 hle3 hp3 hs)
    subst hp3
    by_cases hf : finF (l.getD i 0)
    · have ht : tidySpec (l.getD i 0) = (tidyW (l.getD i 0), true) := by unfold tidyW tidySpec; rw [if_pos hf]
      rw [ht]
      refine Zerun ?_
      (refine RW.lit T hs (vs := [.float .f64 (tidyW (l.getD i 0))]) (cs := [.float .f64 (tidyW (l.getD i 0))]) rfl rfl rfl rfl (by simp [Value.cells]) rfl rfl rfl rfl rfl ?_; intro b6 w6 hs)
      (refine RW.append T hs 1 rfl rfl (m := 1) (news := [.float .f64 (tidyW (l.getD i 0))]) rfl rfl rfl rfl rfl rfl (hs.src0 rfl (by simp [Value.oneCell'])) (by simp) (by dsimp only; omega) (by omega) ?_; intro ad7 cp7 w7 hs; replace hs := hs.drop)
      refine Zerun ?_
      refine loopQ_round (i + 1, ad7, cp7, h3) ⟨rfl, rfl, rfl, trivial⟩ ⟨by dsimp only; omega, fun j hj => ?_, hgl.trans hle3, hs.re ?_⟩ (by dsimp only; omega)
      · by_cases e : j = i
        · subst e; exact hf
        · exact hno j (by dsimp only at hj; omega)
      · rw [take_snoc l i 0 hlt, List.map_append, List.map_append]; rfl
    · have ht : tidySpec (l.getD i 0) = (0, false) := by unfold tidySpec; rw [if_neg hf]
      rw [ht]
      refine Zerun ?_
      exact retQ_ret [_, _] h3 ⟨rfl, rfl, trivial⟩ hs.dropAll ⟨_, false, rfl, (decide_eq_false (fun e => hf (e _ hmem))).symm, fun e => nomatch e⟩
  · obtain rfl : i = l.length := by omega
    have hall : ∀ u ∈ l, finF u := by
      intro u hu
      obtain ⟨j, hj, e⟩ := List.getElem_of_mem hu
      have := hno j hj
      rw [List.getD_eq_getElem?_getD, List.getElem?_eq_getElem hj] at this
      rw [← e]; exact this
    rw [List.take_of_length_le (by omega)] at hs
    obtain ⟨h6, hle6, hs, hS6⟩ := hs.freeze
    refine Zerun ?_
    refine retQ_ret [_, _] h6 ⟨rfl, rfl, trivial⟩ hs.dropAll ⟨_, true, rfl, (decide_eq_true hall).symm, fun _ => RowAt.of_sl (n := l.length) ?_⟩
    dsimp only at hS6
    simpa using hS6
def refCopiesRes (l : List Nat) (n : Nat) (most : Int) : List Int × Int := if ∀ u ∈ l, (wholeF u).2 = true then copiesRes (l.map fun x => (wholeF x).1) n most else ([], 24)
theorem refCopies_con (s : Value) (l : List Nat) (n most : Nat) (w : World) (h : GHeap) (hl : FAt h s l) (htd : ∀ u ∈ l, tidyF u) (hm : l.length ≤ 1048576) (hn : n ≤ 1048576) (hmost : most ≤ 1048576) : Con Tryd.prog 16 [s, .int .i64 (n : Int), .int .i64 (most : Int)] w h
    (fun h' u => ∃ s', u = .tuple #[s', .int .i64 (refCopiesRes l n most).2] ∧ IntsAt h' s' (refCopiesRes l n most).1) := by
  have hl' := hl
  obtain ⟨ad, cp, rfl, hS⟩ := hl
  refine Con.of_body Tryd.func16 rfl Tryd.ntmps16 rfl rfl ?_
  intro hs
  refine Zrun ?_
  refine CW.meetB (fun hh : GHeap => [(0, .slice ad l.length cp), (1, .int .i64 (n : Int)), (2, .int .i64 (most : Int))]) (fun hh w' => (∀ u ∈ l, (wholeF u).2 = true) ∧ GLe h hh ∧ Sees w h hh [] w') ?_ ?_
  · refine CW.loop (fun u : Nat × GHeap => [(0, .slice ad l.length cp), (1, .int .i64 (n : Int)), (2, .int .i64 (most : Int)), (8, .int .i64 u.1)]) (fun u w' => u.1 ≤ l.length ∧ (∀ j, j < u.1 → (wholeF (l.getD j 0)).2 = true) ∧ GLe h u.2 ∧ Sees w h u.2 [] w') (fun u => l.length - u.1) (0, h) ⟨rfl, rfl, rfl, rfl, trivial⟩ ⟨by omega, fun j hj => by exfalso; exact Nat.not_lt_zero _ hj, GLe.refl _, hs⟩ ?_
    rintro ⟨i, hh⟩ w5 ⟨hi, hno, hgl, hs⟩
    dsimp only at hi hno hgl hs ⊢
    have hS := hS.mono hgl
    by_cases hlt : i < l.length
    · have hg := map_get (Value.float .f64) l i 0 hlt
      have hmem : l.getD i 0 ∈ l := by simp [List.getD_eq_getElem?_getD, hlt]
      refine Zerun ?_
      (refine RW.call T hs rfl rfl rfl (refWhole_con (l.getD i 0) _ _ (htd _ hmem).2.1) ?_; intro v h3 w3 hle3 hp3 hs)
      subst hp3
      cases hw : (wholeF (l.getD i 0)).2 with
      | true =>
        refine Zerun ?_
        refine loopQ_round (i + 1, h3) ⟨rfl, rfl, rfl, rfl, trivial⟩ ⟨by dsimp only; omega, fun j hj => ?_, hgl.trans hle3, hs⟩ (by dsimp only; omega)
        by_cases e : j = i
        · subst e; exact hw
        · exact hno j (by dsimp only at hj; omega)
      | false =>
        refine Zerun ?_
        have he : refCopiesRes l n most = ([], 24) := if_neg (fun e => by rw [e _ hmem] at hw; cases hw)
        exact retQ_ret [_, _] h3 ⟨rfl, rfl, trivial⟩ hs.dropAll ⟨_, by rw [he]; rfl, by rw [he]; exact IntsAt.nil _⟩
    · obtain rfl : i = l.length := by omega
      have hall : ∀ u ∈ l, (wholeF u).2 = true := by
        intro u hu
        obtain ⟨j, hj, e⟩ := List.getElem_of_mem hu
        have := hno j hj
        rw [List.getD_eq_getElem?_getD, List.getElem?_eq_getElem hj] at this
        rw [← e]; exact this
      refine Zerun ?_
      exact joinQ_meet hh ⟨rfl, rfl, rfl, trivial⟩ ⟨hall, hgl, hs⟩
  intro hh w6 hq
  obtain ⟨hall, hgl, hs⟩ := hq
  have hS := hS.mono hgl
  have he : refCopiesRes l n most = copiesRes (l.map fun x => (wholeF x).1) n most := if_pos hall
  rw [he]
  obtain ⟨ks, hks⟩ : ∃ ks, (l.map fun x => (wholeF x).1) = ks := ⟨_, rfl⟩
  have hkl : ks.length = l.length := by rw [← hks, List.length_map]
  rw [hks]
  refine CW.seqJ (fun _ : Unit => [(0, .slice ad l.length cp), (1, .int .i64 (n : Int)), (2, .int .i64 (most : Int))]) (fun _ w' => (l.length = n ∨ l.length = 1) ∧ Sees w h hh [] w') ?_ ?_
  · by_cases c1 : l.length = n
    · refine Zerun ?_
      exact joinQ_meet () ⟨rfl, rfl, rfl, trivial⟩ ⟨.inl c1, hs⟩
    by_cases c2 : l.length = 1
    · refine Zerun ?_
      exact joinQ_meet () ⟨rfl, rfl, rfl, trivial⟩ ⟨.inr c2, hs⟩
    have he : copiesRes ks n most = ([], 23) := by unfold copiesRes; rw [if_pos (by rw [hkl]; exact ⟨c1, c2⟩)]
    refine Zerun ?_
    exact retQ_ret [_, _] hh ⟨rfl, rfl, trivial⟩ hs.dropAll ⟨_, by rw [he]; rfl, by rw [he]; exact IntsAt.nil _⟩
  rintro _ w7 ⟨clen, hs⟩
  have hres : copiesRes ks n most = if ((copiesTo ks n).length : Int) ≤ most then (copiesTo ks n, 0) else ([], 26) := by unfold copiesRes; rw [if_neg (by rw [hkl]; omega)]
  have hlim : (most : Int) < (copiesTo ks n).length → copiesRes ks n most = ([], 26) := fun e => by rw [hres, if_neg (by omega)]
  refine Zrun ?_
  have hs := hs.nilRow 3 1
  refine CW.loop (fun u : Nat × Option Addr × Nat => [(0, .slice ad l.length cp), (1, .int .i64 (n : Int)), (2, .int .i64 (most : Int)), (9, .slice u.2.1 (copiesTo ks u.1).length u.2.2), (10, .int .i64 u.1)]) (fun u w' => u.1 ≤ n ∧ (copiesTo ks u.1).length ≤ most ∧ Sees w h hh [⟨u.2.1, (copiesTo ks u.1).length, u.2.2, 3, 1, (copiesTo ks u.1).map (Value.int .i64)⟩] w') (fun u => n - u.1) (0, none, 0) ⟨rfl, rfl, rfl, rfl, rfl, trivial⟩ ⟨by omega, by show 0 ≤ most; omega, hs⟩ ?_
  rintro ⟨i, ra, rc⟩ w8 ⟨hi, hcm, hs⟩
  dsimp only at hi hcm hs ⊢
  by_cases hlt : i < n
  · have hpos : 0 < l.length := by omega
    have hg0 := map_get (Value.float .f64) l 0 0 hpos
    obtain ⟨c, hc⟩ : ∃ c, cAt ks i = c := ⟨_, rfl⟩
    have hcw : l.getD (i % l.length) 0 = fwF c ∧ -9007199254740992 ≤ c ∧ c ≤ 9007199254740992 := by
      have hil : i % l.length < l.length := Nat.mod_lt _ hpos
      have hmem : l.getD (i % l.length) 0 ∈ l := by rw [List.getD_eq_getElem?_getD, List.getElem?_eq_getElem hil]; exact List.getElem_mem hil
      have e : c = (wholeF (l.getD (i % l.length) 0)).1 := by
        rw [← hc]
        unfold cAt
        rw [hkl, ← hks, getD_map' _ _ _ _ hil, List.getD_eq_getElem?_getD, List.getElem?_eq_getElem hil]
        rfl
      have e2 : wholeF (l.getD (i % l.length) 0) = (c, true) := by rw [e, ← hall _ hmem]
      exact ⟨fw_whole _ c (htd _ hmem) e2, by rw [e]; exact wholeF_bounds _⟩
    obtain ⟨hcw, hcb⟩ := hcw
    have hfc := fwF_spec c hcb
    have hsuc := copiesTo_succ ks i
    rw [hc] at hsuc
    have hmono := copiesTo_mono ks (show i + 1 ≤ n by omega)
    have hneg : (c * (unitF : Int) < 0) ↔ c < 0 := by
      have hu := unitF_pos
      have := Int.mul_lt_mul_right (b := c) (c := 0) (show (0 : Int) < (unitF : Int) by omega)
      rwa [Int.zero_mul] at this
    obtain ⟨a, ha⟩ : ∃ a, (if c < 0 then -1 else (i : Int)) = a := ⟨_, rfl⟩
    refine Zerun ?_
    refine CW.meet (fun _ : Unit => [(0, .slice ad l.length cp), (1, .int .i64 (n : Int)), (2, .int .i64 (most : Int)), (9, .slice ra (copiesTo ks i).length rc), (10, .int .i64 i), (11, .float .f64 (fwF c))]) (fun _ w' => Sees w h hh [⟨ra, (copiesTo ks i).length, rc, 3, 1, (copiesTo ks i).map (Value.int .i64)⟩] w') ?_ ?_
    · by_cases c1 : 1 < l.length
      · have hil : i % l.length = i := Nat.mod_eq_of_lt (by omega)
        rw [hil] at hcw
        have hgi := map_get (Value.float .f64) l i 0 (by omega)
        rw [hcw] at hgi
        refine Zerun ?_
        exact joinQ_meet () ⟨rfl, rfl, rfl, rfl, rfl, rfl, trivial⟩ hs
      · have hil : i % l.length = 0 := by rw [show l.length = 1 by omega]; exact Nat.mod_one i
        rw [hil] at hcw
        refine Zerun ?_
        exact joinQ_meet () ⟨rfl, rfl, rfl, rfl, rfl, setf hcw, trivial⟩ hs
    rintro _ w9 hs
    refine Zerun ?_
    refine RW.val (Y.fLss hfc.1.2.1 fin0 rfl rfl) rfl ?_
    rw [zF0, hfc.2, decide_eq_decide.2 hneg]
    refine Zerun ?_
    refine CW.meet (fun _ : Unit => [(0, .slice ad l.length cp), (1, .int .i64 (n : Int)), (2, .int .i64 (most : Int)), (9, .slice ra (copiesTo ks i).length rc), (10, .int .i64 i), (11, .float .f64 (fwF (c.natAbs : Int))), (12, .int .i64 a)]) (fun _ w' => Sees w h hh [⟨ra, (copiesTo ks i).length, rc, 3, 1, (copiesTo ks i).map (Value.int .i64)⟩] w') ?_ ?_
    · by_cases c1 : c < 0
      · rw [if_pos c1] at ha
        have hsub : Ieee.double.sub 0 (fwF c) = some (fwF (0 - c)) := sub_fw 0 (fwF c) 0 c fin0 hfc.1.2.1 (by rw [zF0, Int.zero_mul]) hfc.2 (fun e => by omega)
        rw [show (0 : Int) - c = (c.natAbs : Int) by omega] at hsub
        refine Zerun ?_
        refine RW.val (Y.fSubW rfl rfl hsub) rfl ?_
        refine Zerun ?_
        exact joinQ_meet () ⟨rfl, rfl, rfl, rfl, rfl, rfl, seti ha, trivial⟩ hs
      · rw [if_neg c1] at ha
        refine Zerun ?_
        exact joinQ_meet () ⟨rfl, rfl, rfl, rfl, rfl, setf (by rw [show (c.natAbs : Int) = c by omega]), seti ha, trivial⟩ hs
    rintro _ w10 hs
    refine Zerun ?_
    refine CW.loop (fun u : Nat × Option Addr × Nat => [(0, .slice ad l.length cp), (1, .int .i64 (n : Int)), (2, .int .i64 (most : Int)), (9, .slice u.2.1 ((copiesTo ks i).length + u.1) u.2.2), (10, .int .i64 i), (11, .float .f64 (fwF (c.natAbs : Int))), (12, .int .i64 a), (13, .float .f64 (fwF (u.1 : Int)))]) (fun u w' => u.1 ≤ c.natAbs ∧ (copiesTo ks i).length + u.1 ≤ most ∧ Sees w h hh [⟨u.2.1, (copiesTo ks i).length + u.1, u.2.2, 3, 1, (copiesTo ks i ++ List.replicate u.1 a).map (Value.int .i64)⟩] w') (fun u => c.natAbs - u.1) (0, ra, rc) ⟨rfl, rfl, rfl, rfl, rfl, rfl, rfl, setf fw0.symm, trivial⟩ ⟨by omega, by dsimp only; omega, hs.re (by simp)⟩ ?_
    rintro ⟨m, rb, rd⟩ w11 ⟨hm', hcm', hs⟩
    dsimp only at hm' hcm' hs ⊢
    have hfm := fwF_spec (m : Int) (by omega)
    have hfa := fwF_spec (c.natAbs : Int) (by omega)
    have hlt2 : ((m : Int) * (unitF : Int) < (c.natAbs : Int) * (unitF : Int)) ↔ m < c.natAbs := by
      have := unitF_pos
      rw [Int.mul_lt_mul_right (by omega)]; omega
    by_cases c2 : m < c.natAbs
    · refine Zerun ?_
      refine RW.val (Y.fLss hfm.1.2.1 hfa.1.2.1 rfl rfl) rfl ?_
      rw [hfm.2, hfa.2, decide_eq_true (hlt2.2 c2)]
      by_cases c3 : most ≤ (copiesTo ks i).length + m
      · have hl1 : (copiesTo ks (i + 1)).length = (copiesTo ks i).length + c.natAbs := by rw [copiesTo_len_succ, hc]
        have he := hlim (by omega)
        refine Zerun ?_
        exact retQ_ret [_, _] hh ⟨rfl, rfl, trivial⟩ hs.dropAll ⟨_, by rw [he]; rfl, by rw [he]; exact IntsAt.nil _⟩
      · have hadd : Ieee.double.add (fwF (m : Int)) 4607182418800017408 = some (fwF ((m + 1 : Nat) : Int)) := by
          have := add_fw (fwF (m : Int)) 4607182418800017408 m 1 hfm.1.2.1 fin1 hfm.2 (by rw [zF1, Int.one_mul]) (fun e => by omega)
          rw [this]; rfl
        refine Zerun ?_
        (refine RW.lit T hs (vs := [.int .i64 a]) (cs := [.int .i64 a]) rfl rfl rfl rfl (by simp [Value.cells]) rfl rfl rfl rfl rfl ?_; intro b6 w6 hs)
        (refine RW.append T hs 1 rfl rfl (m := 1) (news := [.int .i64 a]) rfl rfl rfl rfl rfl rfl (hs.src0 rfl (by simp [Value.oneCell'])) (by simp) (by dsimp only; omega) (by omega) ?_; intro ad7 cp7 w7 hs; replace hs := hs.drop)
        refine Zerun ?_
        refine RW.val (Y.fAddW rfl rfl hadd) rfl ?_
        refine Zerun ?_
        exact loopQ_round (m + 1, ad7, cp7) ⟨rfl, rfl, rfl, rfl, rfl, rfl, rfl, rfl, trivial⟩ ⟨by dsimp only; omega, by dsimp only; omega, hs.re (by simp [List.replicate_succ'])⟩ (by dsimp only; omega)
    · obtain rfl : m = c.natAbs := by omega
      refine Zerun ?_
      refine RW.val (Y.fLss hfm.1.2.1 hfa.1.2.1 rfl rfl) rfl ?_
      rw [hfm.2, decide_eq_false (Int.lt_irrefl _)]
      have hl1 : (copiesTo ks (i + 1)).length = (copiesTo ks i).length + c.natAbs := by rw [copiesTo_len_succ, hc]
      have hrow : (copiesTo ks i ++ List.replicate c.natAbs a) = copiesTo ks (i + 1) := by rw [hsuc, ← ha]; rfl
      rw [hrow, ← hl1] at hs
      rw [← hl1] at hcm'
      refine Zerun ?_
      exact loopQ_round (i + 1, rb, rd) ⟨rfl, rfl, rfl, by rw [hl1]; rfl, rfl, trivial⟩ ⟨by dsimp only; omega, hcm', hs⟩ (by dsimp only; omega)
  · obtain rfl : i = n := by omega
    obtain ⟨h6, hle6, hs, hI6⟩ := freezeI hs rfl
    refine Zerun ?_
    exact retQ_ret [_, _] h6 ⟨rfl, rfl, trivial⟩ hs.dropAll ⟨_, by rw [hres, if_pos (by omega)]; rfl, by rw [hres, if_pos (by omega)]; exact hI6⟩
end Go.Proofs.YtmfealaaacmohaaDoor

/-
  Contract of the law's own function of layer 15: places taken so often as counts say. No statement is proved here.
-/
namespace Go.Proofs.YtmfealaaacmohaaDoor
open Go Go.RowKit
set_option linter.unusedVariables false
set_option linter.unusedSimpArgs false
set_option maxHeartbeats 4000000
attribute [local irreducible] CW RW QW SW HW ConM retM heldQ calmQ elemP thenQ blockQ loopQ joinQ retQ Yields Con Sl zF magR unitF truncF fwF wholeF tidySpec elemQ rankF leastN tidyW
set_option maxHeartbeats 4000000

section
variable {α : Type} {R : GHeap → List Value → α → Prop}
theorem pickWholesNo_con (hR : Mono R) (cs : List Value) (v : VecD α) (w : World) (h : GHeap) (hv : VecAt R h cs v) (hm : v.len ≤ 1099511627776) (hn : v.cls ≠ 0 ∨ (v.kind = 4 ∧ v.len ≠ 0)) : Con Tryd.prog 61 [.agg cs.toArray] w h
    (fun _ u => ∃ ad n cp, u = .tuple #[.slice ad n cp, .bool false]) := by
  by_cases c : v.kind = 4
  · have hl : v.len ≠ 0 := by
      rcases hn with e | e
      · exfalso; apply e; unfold VecD.cls; rw [if_neg (by omega), if_neg (by omega)]
      · exact e.2
    refine (pickWholes_con hR cs v w h hv hm (by omega)).mono ?_
    rintro h' u - ⟨s, rfl, ad, cp, rfl, _⟩
    exact ⟨ad, _, cp, by rw [decide_eq_false (by omega)]⟩
  · have hcl : v.cls ≠ 0 := by
      rcases hn with e | e
      · exact e
      · exact absurd e.1 c
    have hv' := hv
    obtain ⟨wv, nv, sm, il, fl, ch, bx, ⟨rfl, hoc⟩, _⟩ := hv
    refine Con.of_body Tryd.func61 rfl Tryd.ntmps61 rfl rfl ?_
    intro hs
    refine Zrun ?_
    (refine RW.boxN hs rfl rfl ?_; intro b1 w1 hs)
    refine Zerun ?_
    (refine RW.call T hs rfl rfl rfl (vecClass_con _ v _ _ hv') ?_; intro v h2 w2 hle2 hp2 hs)
    subst hp2
    refine Zerun ?_
    exact retQ_ret [_, _] h2 ⟨rfl, rfl, trivial⟩ hs.dropAll ⟨none, 0, 0, rfl⟩
theorem pickCopiesNo_con (hR : Mono R) (cs : List Value) (v : VecD α) (n : Nat) (most : Int) (w : World) (h : GHeap) (hv : VecAt R h cs v) (hm : v.len ≤ 1048576) (hn : v.cls ≠ 0 ∨ (v.kind = 4 ∧ v.len ≠ 0)) :
    Con Tryd.prog 15 [.agg cs.toArray, .int .i64 (n : Int), .int .i64 most] w h (fun _ u => u = .tuple #[.slice none 0 0, .int .i64 24]) := by
  have hv' := hv
  obtain ⟨wv, nv, sm, il, fl, ch, bx, ⟨rfl, hoc⟩, _⟩ := hv
  refine Con.of_body Tryd.func15 rfl Tryd.ntmps15 rfl rfl ?_
  intro hs
  refine Zrun ?_
  (refine RW.boxN hs rfl rfl ?_; intro b1 w1 hs)
  refine Zerun ?_
  (refine RW.call T hs rfl rfl rfl (pickWholesNo_con hR _ v _ _ hv' (by omega) hn) ?_; intro v h2 w2 hle2 hp2 hs)
  obtain ⟨ad2, n2, cp2, rfl⟩ := hp2
  refine Zerun ?_
  exact retQ_ret [_, _] h2 ⟨rfl, rfl, trivial⟩ hs.dropAll rfl
theorem pickCopiesAll_con (hR : Mono R) (cs : List Value) (ts : List Nat) (n most : Nat) (w : World) (h : GHeap) (hT : TzTab h) (hv : VecAt R h cs ⟨leastN ts, ts, [], []⟩) (hm : ts.length ≤ 1048576) (hn : n ≤ 1048576) (hmost : most ≤ 1048576) :
    Con Tryd.prog 15 [.agg cs.toArray, .int .i64 (n : Int), .int .i64 (most : Int)] w h (fun h' u => ∃ s, u = .tuple #[s, .int .i64 (refCopiesRes ts n most).2] ∧ IntsAt h' s (refCopiesRes ts n most).1) := by
  have hb := leastN_bounds ts
  by_cases c : ∀ u ∈ ts, (wholeF u).2 = true
  · have he : refCopiesRes ts n most = copiesRes (ts.map fun x => (wholeF x).1) n most := if_pos c
    have h3 : leastN ts ≤ 3 := by
      unfold leastN
      exact fold_le _ _ _ (by omega) (fun x hx => (rank_int x).2 (c x hx))
    rw [he]
    refine pickCopies_con hR cs ⟨leastN ts, ts, [], []⟩ n most _ w h hT hv hm (by show leastN ts = 1 ∨ leastN ts = 2 ∨ leastN ts = 3; omega) rfl ?_ hn ⟨by omega, by omega⟩
    intro x hx
    obtain ⟨u, _, rfl⟩ := List.mem_map.1 hx
    exact wholeF_bounds u
  · have he : refCopiesRes ts n most = ([], 24) := if_neg c
    obtain ⟨u, hu⟩ := Classical.not_forall.1 c
    have hmem : u ∈ ts := Classical.byContradiction fun e => hu (fun e2 => absurd e2 e)
    have hnw : ¬ (wholeF u).2 = true := fun e => hu (fun _ => e)
    have h4 : leastN ts = 4 := by
      have h1 := leastN_le ts u hmem
      have h2 : ¬ rankF u ≤ 3 := fun e => hnw ((rank_int u).1 e)
      omega
    rw [he]
    have hl : ts.length ≠ 0 := by
      intro e
      rw [List.length_eq_zero_iff.1 e] at hmem
      cases hmem
    refine (pickCopiesNo_con hR cs ⟨leastN ts, ts, [], []⟩ n most w h hv hm (.inr ⟨h4, hl⟩)).mono ?_
    rintro h' u - rfl
    exact ⟨_, rfl, IntsAt.nil _⟩
end
theorem copiesRes_len (ks : List Int) (n most : Nat) : ((copiesRes ks n most).1.length : Int) ≤ most := by
  unfold copiesRes
  split
  · show (0 : Int) ≤ _; omega
  · split
    · assumption
    · show (0 : Int) ≤ _; omega
theorem refCopiesRes_len (l : List Nat) (n most : Nat) : ((refCopiesRes l n most).1.length : Int) ≤ most := by
  unfold refCopiesRes
  split
  · exact copiesRes_len _ _ _
  · show (0 : Int) ≤ _; omega
theorem pickCopiesLaw_con (v0 : Value) (l : List Nat) (n most : Int) (w : World) (h : GHeap) (hl : FAt h v0 l) (hx : ∀ u ∈ l, u < 18446744073709551616) (hT : TzTab h) : Con Tryd.prog 3 [v0, .int .i64 n, .int .i64 most] w h (fun _ u => u = .bool true) := by
  have hl' := hl
  obtain ⟨ad, cp, rfl, hS⟩ := hl
  refine Con.of_body Tryd.func3 rfl Tryd.ntmps3 rfl rfl ?_
  intro hs
  by_cases g0 : 100 < l.length
  · refine Zerun ?_
    (refine RW.call T hs rfl rfl rfl (awake15_con _ _ hT) ?_; intro v h1 w1 hle1 hp1 hs)
    subst hp1
    refine Zerun ?_
    exact retQ_ret [_] h1 ⟨rfl, trivial⟩ hs.dropAll rfl
  by_cases n1 : n < 0
  · refine Zerun ?_
    (refine RW.call T hs rfl rfl rfl (awake15_con _ _ hT) ?_; intro v h1 w1 hle1 hp1 hs)
    subst hp1
    refine Zerun ?_
    exact retQ_ret [_] h1 ⟨rfl, trivial⟩ hs.dropAll rfl
  by_cases n2 : 300 < n
  · refine Zerun ?_
    (refine RW.call T hs rfl rfl rfl (awake15_con _ _ hT) ?_; intro v h1 w1 hle1 hp1 hs)
    subst hp1
    refine Zerun ?_
    exact retQ_ret [_] h1 ⟨rfl, trivial⟩ hs.dropAll rfl
  by_cases m1 : most < 0
  · refine Zerun ?_
    (refine RW.call T hs rfl rfl rfl (awake15_con _ _ hT) ?_; intro v h1 w1 hle1 hp1 hs)
    subst hp1
    refine Zerun ?_
    exact retQ_ret [_] h1 ⟨rfl, trivial⟩ hs.dropAll rfl
  by_cases m2 : 1000 < most
  · refine Zerun ?_
    (refine RW.call T hs rfl rfl rfl (awake15_con _ _ hT) ?_; intro v h1 w1 hle1 hp1 hs)
    subst hp1
    refine Zerun ?_
    exact retQ_ret [_] h1 ⟨rfl, trivial⟩ hs.dropAll rfl
  obtain ⟨n, rfl⟩ : ∃ k : Nat, n = (k : Int) := ⟨n.toNat, by omega⟩
  obtain ⟨most, rfl⟩ : ∃ k : Nat, most = (k : Int) := ⟨most.toNat, by omega⟩
  refine Zerun ?_
  (refine RW.call T hs rfl rfl rfl (refTidyF_con _ l _ _ hl' (by omega)) ?_; intro v h2 w2 hle2 hp2 hs)
  obtain ⟨s2, ok, rfl, hok, hF2⟩ := hp2
  have hT := hT.mono hle2
  have hl' := hl'.mono hle2
  refine Zerun ?_
  (refine RW.call T hs rfl rfl rfl (sqNumbers_con (α := AD 0) (R := ArrAt 0) (ArrAt.mono 0) _ l _ _ hl' hx (by omega)) ?_; intro v h3 w3 hle3 hp3 hs)
  obtain ⟨cs3, ok3, rfl, hok3, hv3⟩ := hp3
  obtain rfl : ok3 = ok := hok3.trans hok.symm
  have hT := hT.mono hle3
  cases hk : ok3 with
  | false =>
    subst hk
    simp only [Bool.false_eq_true, if_false] at hv3
    have hv3' := hv3
    obtain ⟨wv, nv, sm, il, fl, ch, bx, ⟨rfl, hoc⟩, _⟩ := hv3
    refine Zerun ?_
    (refine RW.allocN T hs rfl rfl rfl rfl ?_; intro b4 w4 hs)
    refine RW.storeAll T hs 0 rfl rfl rfl rfl rfl rfl hoc rfl ?_
    intro w5 hs
    refine Zerun ?_
    (refine RW.call T hs rfl rfl rfl (awake15_con _ _ hT) ?_; intro v h6 w6 hle6 hp6 hs)
    subst hp6
    refine Zerun ?_
    exact retQ_ret [_] h6 ⟨rfl, trivial⟩ hs.dropAll rfl
  | true =>
    subst hk
    have hfin := of_decide_eq_true hok.symm
    have htd : ∀ u ∈ l.map tidyW, tidyF u := by
      intro u hu
      rw [List.mem_map] at hu
      obtain ⟨x, hx1, rfl⟩ := hu
      unfold tidyW
      exact tidy_tidy x (hx x hx1) (hfin x hx1)
    have hF2 := (hF2 rfl).mono hle3
    simp only [if_true] at hv3
    obtain ⟨ts, hts⟩ : ∃ ts, l.map tidyW = ts := ⟨_, rfl⟩
    have htl : ts.length = l.length := by rw [← hts, List.length_map]
    rw [hts] at hF2 htd hv3
    have hv3' := hv3
    obtain ⟨wv, nv, sm, il, fl, ch, bx, ⟨rfl, hoc⟩, _⟩ := hv3
    refine Zerun ?_
    (refine RW.allocN T hs rfl rfl rfl rfl ?_; intro b4 w4 hs)
    refine RW.storeAll T hs 0 rfl rfl rfl rfl rfl rfl hoc rfl ?_
    intro w5 hs
    refine Zerun ?_
    (refine RW.call T hs rfl rfl rfl (pickCopiesAll_con (ArrAt.mono 0) _ ts n most _ _ hT hv3' (by omega) (by omega) (by omega)) ?_; intro v h6 w6 hle6 hp6 hs)
    obtain ⟨s6, rfl, hI6⟩ := hp6
    have hT := hT.mono hle6
    have hF2 := hF2.mono hle6
    refine Zerun ?_
    (refine RW.call T hs rfl rfl rfl (refCopies_con _ ts n most _ _ hF2 htd (by omega) (by omega) (by omega)) ?_; intro v h7 w7 hle7 hp7 hs)
    obtain ⟨s7, rfl, hI7⟩ := hp7
    have hT := hT.mono hle7
    have hI6 := hI6.mono hle7
    refine Zerun ?_
    (refine RW.call T hs rfl rfl rfl (vecChars_con (α := AD 0) (R := ArrAt 0) (.slice none 0 0) [] _ _ (RowAt.nil _) (by decide)) ?_; intro v h8 w8 hle8 hp8 hs)
    obtain ⟨cs8, rfl, hv8⟩ := hp8
    have hT := hT.mono hle8
    have hI6 := hI6.mono hle8
    have hI7 := hI7.mono hle8
    refine Zerun ?_
    (refine RW.call T hs rfl rfl rfl (pickCopiesNo_con (ArrAt.mono 0) _ _ 0 (most : Int) _ _ hv8 (by decide) (.inl (by decide))) ?_; intro v h9 w9 hle9 hp9 hs)
    subst hp9
    have hT := hT.mono hle9
    have hI6 := hI6.mono hle9
    have hI7 := hI7.mono hle9
    have hlen := refCopiesRes_len ts n most
    refine Zerun ?_
    (refine RW.call T hs rfl rfl rfl (ints_con _ _ _ _ _ _ hI6 hI7 (by omega)) ?_; intro v h10 w10 hle10 hp10 hs)
    rw [decide_eq_true rfl] at hp10
    subst hp10
    have hT := hT.mono hle10
    refine Zerun ?_
    (refine RW.call T hs rfl rfl rfl (awake15_con _ _ hT) ?_; intro v h11 w11 hle11 hp11 hs)
    subst hp11
    refine Zerun ?_
    exact retQ_ret [_] h11 ⟨rfl, trivial⟩ hs.dropAll rfl
end Go.Proofs.YtmfealaaacmohaaDoor
