/-
  Own texts of the claim, merged: Uk, Ul, Um, Ug, Uo, Up, Sd, Se, Kc, Kd, Ke, Kf, Kg, Kh, Kj, Sh, Uq. Lemmas of the proof; no statement is proved here.
-/
import Derived.Test.YtmfealaaacmohaaGreatDoorMc
/-
  Contracts of package order and of merge.Cells: elements and cells compared, cells in order. No statement is proved here.
-/
namespace Go.Proofs.YtmfealaaacmohaaGreatDoor
open Go Go.RowKit
set_option linter.unusedVariables false
set_option linter.unusedSimpArgs false
set_option maxHeartbeats 4000000
attribute [local irreducible] CW RW QW SW HW ConM retM heldQ calmQ elemP thenQ blockQ loopQ joinQ retQ Yields Con Sl zF magR unitF truncF fwF wholeF tidySpec elemQ rankF leastN tidyW
set_option maxHeartbeats 4000000

theorem nanF_con (x : Nat) (w : World) (h : GHeap) (hx : finF x) : Con Tryz.prog 191 [.float .f64 x] w h (fun _ u => u = .bool false) := by
  refine Con.of_body Tryz.func191 rfl Tryz.ntmps191 rfl rfl ?_
  intro hs
  refine Zrun ?_
  refine RW.val (Y.fNeq hx hx rfl rfl) rfl ?_
  rw [decide_eq_false (fun e => e rfl)]
  refine Zerun ?_
  exact retQ_ret [_] h ⟨rfl, trivial⟩ hs.dropAll rfl
theorem nanR_con (x : Int) (w : World) (h : GHeap) : Con Tryz.prog 192 [.int .i32 x] w h (fun _ u => u = .bool false) := by
  refine Con.of_body Tryz.func192 rfl Tryz.ntmps192 rfl rfl ?_
  intro hs
  refine Zerun ?_
  exact retQ_ret [_] h ⟨rfl, trivial⟩ hs.dropAll (by simp [packv])
theorem cmpF_con (x y : Nat) (w : World) (h : GHeap) (hx : finF x) (hy : finF y) : Con Tryz.prog 164 [.float .f64 x, .float .f64 y] w h (fun _ u => u = .int .i64 (cmpZ (zF x) (zF y))) := by
  unfold cmpZ
  refine Con.of_body Tryz.func164 rfl Tryz.ntmps164 rfl rfl ?_
  intro hs
  refine Zrun ?_
  (refine RW.call T hs rfl rfl rfl (nanF_con x _ _ hx) ?_; intro v h1 w1 hle1 hp1 hs)
  subst hp1
  refine Zerun ?_
  (refine RW.call T hs rfl rfl rfl (nanF_con y _ _ hy) ?_; intro v h2 w2 hle2 hp2 hs)
  subst hp2
  refine Zerun ?_
  refine RW.val (Y.fLss hx hy rfl rfl) rfl ?_
  by_cases c1 : zF x < zF y
  · rw [decide_eq_true c1, if_pos c1]
    refine Zerun ?_
    exact retQ_ret [_] h2 ⟨rfl, trivial⟩ hs.dropAll rfl
  · rw [decide_eq_false c1, if_neg c1]
    refine Zerun ?_
    refine RW.val (Y.fGtr hx hy rfl rfl) rfl ?_
    by_cases c2 : zF y < zF x
    · rw [decide_eq_true c2, if_pos c2]
      refine Zerun ?_
      exact retQ_ret [_] h2 ⟨rfl, trivial⟩ hs.dropAll rfl
    · rw [decide_eq_false c2, if_neg c2]
      refine Zerun ?_
      exact retQ_ret [_] h2 ⟨rfl, trivial⟩ hs.dropAll rfl
theorem cmpR_con (x y : Int) (w : World) (h : GHeap) : Con Tryz.prog 165 [.int .i32 x, .int .i32 y] w h (fun _ u => u = .int .i64 (cmpZ x y)) := by
  unfold cmpZ
  refine Con.of_body Tryz.func165 rfl Tryz.ntmps165 rfl rfl ?_
  intro hs
  refine Zrun ?_
  (refine RW.call T hs rfl rfl rfl (nanR_con x _ _) ?_; intro v h1 w1 hle1 hp1 hs)
  subst hp1
  refine Zerun ?_
  (refine RW.call T hs rfl rfl rfl (nanR_con y _ _) ?_; intro v h2 w2 hle2 hp2 hs)
  subst hp2
  by_cases c1 : x < y
  · rw [if_pos c1]
    refine Zerun ?_
    exact retQ_ret [_] h2 ⟨rfl, trivial⟩ hs.dropAll rfl
  · rw [if_neg c1]
    by_cases c2 : y < x
    · rw [if_pos c2]
      refine Zerun ?_
      exact retQ_ret [_] h2 ⟨rfl, trivial⟩ hs.dropAll rfl
    · rw [if_neg c2]
      refine Zerun ?_
      exact retQ_ret [_] h2 ⟨rfl, trivial⟩ hs.dropAll rfl
section
variable {α : Type} {R : GHeap → List Value → α → Prop}
theorem VecAt.finAt {h : GHeap} {cs : List Value} {v : VecD α} (hv : VecAt R h cs v) (i : Nat) : finF (v.nums.getD i 0) := by
  by_cases c : i < v.nums.length
  · exact (hv.tidy _ (mem_getD v.nums i 0 c)).2.1
  · rw [List.getD_eq_getElem?_getD, List.getElem?_eq_none (by omega)]; exact fin0
theorem orderCompare_con (hR : Mono R) (cs : List Value) (vd : VecD α) (i k : Nat) (w : World) (h : GHeap) (hv : VecAt R h cs vd) (hc : vd.cls = 0 ∨ vd.cls = 1) :
    Con Tryz.prog 122 [.agg cs.toArray, .int .i64 (i : Int), .agg cs.toArray, .int .i64 (k : Int)] w h (fun _ u => u = .tuple #[.int .i64 (cmpZ (gV vd i) (gV vd k)), .bool true]) := by
  have hv' := hv
  have n0 : ∀ j : Nat, vd.num (j : Int) = vd.nums.getD j 0 := fun j => by unfold VecD.num; rw [if_pos (by omega), Int.toNat_natCast]
  have r0 : ∀ j : Nat, vd.chr (j : Int) = vd.chars.getD j 0 := fun j => by unfold VecD.chr; rw [if_pos (by omega), Int.toNat_natCast]
  have hfi := hv.finAt i
  have hfk := hv.finAt k
  obtain ⟨wv, nv, sm, il, fl, ch, bx, ⟨rfl, hoc⟩, -⟩ := hv
  unfold gV
  refine Con.of_body Tryz.func122 rfl Tryz.ntmps122 rfl rfl ?_
  intro hs
  refine Zrun ?_
  (refine RW.boxN hs rfl rfl ?_; intro b1 w1 hs)
  refine Zrun ?_
  (refine RW.boxN hs rfl rfl ?_; intro b2 w2 hs)
  refine Zerun ?_
  refine CW.regionQ T hs ?_ (by kernel_rfl)
  refine QW.val (fun _ hs => Y.loadRowN T hs 1 rfl rfl rfl rfl rfl rfl rfl) rfl ?_
  refine QW.call T hs rfl rfl rfl (fun w => vecClass_con _ vd w _ hv') ?_
  refine QW.val (fun _ hs => Y.loadRowN T hs 0 rfl rfl rfl rfl rfl rfl rfl) rfl ?_
  refine QW.call T hs rfl rfl rfl (fun w => vecClass_con _ vd w _ hv') ?_
  refine Zeqrun ?_
  intro w3 hs
  rw [decide_eq_false (fun e => e rfl)]
  refine Zerun ?_
  (refine RW.call T hs rfl rfl rfl (vecClass_con _ vd _ _ hv') ?_; intro v h4 w4 hle4 hp4 hs)
  subst hp4
  have hv' := hv'.mono hR hle4
  rcases hc with hc | hc
  · have k5 : ¬ vd.kind = 5 := by unfold VecD.cls at hc; intro e; rw [if_pos e] at hc; omega
    rw [if_neg k5, if_neg k5]
    refine Zerun ?_
    refine CW.regionQ T hs ?_ (by kernel_rfl)
    refine QW.val (fun _ hs => Y.loadRowN T hs 1 rfl rfl rfl rfl rfl rfl rfl) rfl ?_
    refine Zeqrun ?_
    refine QW.call T hs rfl rfl rfl (fun w => vecNum_con _ vd i w _ hv') ?_
    refine QW.val (fun _ hs => Y.loadRowN T hs 0 rfl rfl rfl rfl rfl rfl rfl) rfl ?_
    refine Zeqrun ?_
    refine QW.call T hs rfl rfl rfl (fun w => vecNum_con _ vd k w _ hv') ?_
    rw [n0, n0]
    refine QW.call T hs rfl rfl rfl (fun w => cmpF_con _ _ w _ hfi hfk) ?_
    refine Zeqrun ?_
    intro w5 hs
    refine Zerun ?_
    exact retQ_ret [_, _] h4 ⟨rfl, rfl, trivial⟩ hs.dropAll rfl
  · have k5 : vd.kind = 5 := by unfold VecD.cls at hc; apply Classical.byContradiction; intro e; rw [if_neg e] at hc; split at hc <;> omega
    rw [if_pos k5, if_pos k5]
    refine Zerun ?_
    refine CW.regionQ T hs ?_ (by kernel_rfl)
    refine QW.val (fun _ hs => Y.loadRowN T hs 1 rfl rfl rfl rfl rfl rfl rfl) rfl ?_
    refine Zeqrun ?_
    refine QW.call T hs rfl rfl rfl (fun w => vecChar_con _ vd i w _ hv') ?_
    refine QW.val (fun _ hs => Y.loadRowN T hs 0 rfl rfl rfl rfl rfl rfl rfl) rfl ?_
    refine Zeqrun ?_
    refine QW.call T hs rfl rfl rfl (fun w => vecChar_con _ vd k w _ hv') ?_
    rw [r0, r0]
    refine QW.call T hs rfl rfl rfl (fun w => cmpR_con _ _ w _) ?_
    refine Zeqrun ?_
    intro w5 hs
    refine Zerun ?_
    exact retQ_ret [_, _] h4 ⟨rfl, rfl, trivial⟩ hs.dropAll rfl
theorem orderCells_con (hR : Mono R) (cs : List Value) (vd : VecD α) (size i k : Nat) (w : World) (h : GHeap) (hv : VecAt R h cs vd) (hc : vd.cls = 0 ∨ vd.cls = 1) (hi : i ≤ 1048576) (hk : k ≤ 1048576) (hz : size ≤ 1048576) :
    Con Tryz.prog 54 [.agg cs.toArray, .int .i64 (size : Int), .int .i64 (i : Int), .int .i64 (k : Int)] w h (fun _ u => u = .int .i64 (lexC (gV vd) size i k size)) := by
  have hv' := hv
  obtain ⟨a, ha⟩ : ∃ a : Nat, i * size = a := ⟨_, rfl⟩
  obtain ⟨b, hb⟩ : ∃ b : Nat, k * size = b := ⟨_, rfl⟩
  have hza : (i : Int) * (size : Int) = (a : Int) := by rw [← ha]; exact (Int.natCast_mul _ _).symm
  have hzb : (k : Int) * (size : Int) = (b : Int) := by rw [← hb]; exact (Int.natCast_mul _ _).symm
  have la : a ≤ 1048576 * 1048576 := by rw [← ha]; exact Nat.mul_le_mul hi hz
  have lb : b ≤ 1048576 * 1048576 := by rw [← hb]; exact Nat.mul_le_mul hk hz
  obtain ⟨wv, nv, sm, il, fl, ch, bx, ⟨rfl, hoc⟩, -⟩ := hv
  refine Con.of_body Tryz.func54 rfl Tryz.ntmps54 rfl rfl ?_
  intro hs
  refine Zrun ?_
  (refine RW.boxN hs rfl rfl ?_; intro b1 w1 hs)
  refine Zerun ?_
  refine CW.loop (fun u : Nat × GHeap => [(1, .int .i64 (size : Int)), (2, .int .i64 (i : Int)), (3, .int .i64 (k : Int)), (4, .pointer (some ⟨b1, 0, none⟩)), (12, .int .i64 (size : Int)), (13, .int .i64 u.1)]) (fun u w' => u.1 ≤ size ∧ lexC (gV vd) size i k u.1 = 0 ∧ GLe h u.2 ∧ Sees w h u.2 [⟨some ⟨b1, 0, none⟩, 1, 1, 38, 8, vecCells vd.kind wv nv sm il fl ch bx⟩] w') (fun u => size - u.1) (0, h) ⟨rfl, rfl, rfl, rfl, rfl, rfl, trivial⟩ ⟨by dsimp only; omega, rfl, GLe.refl _, hs⟩ ?_
  rintro ⟨m, hh⟩ w2 ⟨hm, hl0, hg, hs⟩
  dsimp only at hm hl0 hg hs ⊢
  by_cases hlt : m < size
  · have q1 : gV vd (i * size + m) = gV vd (a + m) := by rw [ha]
    have q2 : gV vd (k * size + m) = gV vd (b + m) := by rw [hb]
    refine Zerun ?_
    refine RW.val (Y.mul rfl rfl ⟨by rw [hza]; omega, by rw [hza]; omega⟩) rfl ?_
    rw [hza]
    refine Zerun ?_
    refine RW.val (Y.mul rfl rfl ⟨by rw [hzb]; omega, by rw [hzb]; omega⟩) rfl ?_
    rw [hzb]
    refine Zerun ?_
    (refine RW.call T hs rfl rfl rfl (orderCompare_con hR _ vd (a + m) (b + m) _ _ (hv'.mono hR hg) hc) ?_; intro v h3 w3 hle3 hp3 hs)
    subst hp3
    by_cases c1 : gV vd (a + m) < gV vd (b + m)
    · have hx := lexC_less (gV vd) size i k m hl0 hlt (by rw [q1, q2]; exact c1)
      rw [show cmpZ (gV vd (a + m)) (gV vd (b + m)) = -1 by unfold cmpZ; rw [if_pos c1]]
      refine Zerun ?_
      exact retQ_ret [_] h3 ⟨rfl, trivial⟩ hs.dropAll (by rw [hx]; rfl)
    · by_cases c2 : gV vd (b + m) < gV vd (a + m)
      · have hx := lexC_more (gV vd) size i k m hl0 hlt (by rw [q1, q2]; exact c2)
        rw [show cmpZ (gV vd (a + m)) (gV vd (b + m)) = 1 by unfold cmpZ; rw [if_neg c1, if_pos c2]]
        refine Zerun ?_
        exact retQ_ret [_] h3 ⟨rfl, trivial⟩ hs.dropAll (by rw [hx]; rfl)
      · have hx := lexC_same (gV vd) size i k m hl0 (by rw [q1, q2]; exact c1) (by rw [q1, q2]; exact c2)
        rw [show cmpZ (gV vd (a + m)) (gV vd (b + m)) = 0 by unfold cmpZ; rw [if_neg c1, if_neg c2]]
        refine Zerun ?_
        exact loopQ_round (m + 1, h3) ⟨rfl, rfl, rfl, rfl, rfl, rfl, trivial⟩ ⟨by dsimp only; omega, hx, hg.trans hle3, hs⟩ (by dsimp only; omega)
  · obtain rfl : m = size := by omega
    refine Zerun ?_
    exact retQ_ret [_] hh ⟨rfl, trivial⟩ hs.dropAll (by rw [hl0]; rfl)
end
end Go.Proofs.YtmfealaaacmohaaGreatDoor

/-
  Contracts of package merge: cells graded by comparing, and by digits. No statement is proved here.
-/
namespace Go.Proofs.YtmfealaaacmohaaGreatDoor
open Go Go.RowKit
set_option linter.unusedVariables false
set_option linter.unusedSimpArgs false
set_option maxHeartbeats 4000000
attribute [local irreducible] CW RW QW SW HW ConM retM heldQ calmQ elemP thenQ blockQ loopQ joinQ retQ Yields Con Sl zF magR unitF truncF fwF wholeF tidySpec elemQ rankF leastN tidyW
set_option maxHeartbeats 4000000

section
variable {α : Type} {R : GHeap → List Value → α → Prop}
theorem mergeCells1_con (hR : Mono R) (vd : VecD α) (size i k : Nat) (down : Bool) (b1 b2 b3 : Nat) (cs : List Value) (w : World) (h : GHeap) (hv : VecAt R h cs vd) (hc : vd.cls = 0 ∨ vd.cls = 1) (hi : i ≤ 1048576) (hk : k ≤ 1048576) (hz : size ≤ 1048576)
    (h1 : Sl h 8 (some ⟨b1, 0, none⟩) 1 1 cs) (h2 : ∃ cs, h b2 = some cs ∧ cs[0]? = some (.int .i64 (size : Int))) (h3 : ∃ cs, h b3 = some cs ∧ cs[0]? = some (.bool down)) :
    Con Tryz.prog 173 [.int .i64 (i : Int), .int .i64 (k : Int), .pointer (some ⟨b1, 0, none⟩), .pointer (some ⟨b2, 0, none⟩), .pointer (some ⟨b3, 0, none⟩)] w h (fun _ u => u = .bool (ahL (gV vd) size down i k)) := by
  have hv' := hv
  have hl := hv.size
  obtain ⟨z, hz'⟩ : ∃ z, lexC (gV vd) size i k size = z := ⟨_, rfl⟩
  unfold ahL
  rw [hz']
  refine Con.of_body Tryz.func173 rfl Tryz.ntmps173 rfl rfl ?_
  intro hs
  refine Zrun ?_
  refine RW.val (Y.ldFN T hs (cs := cs) h1 rfl rfl rfl rfl (by decide) (by rw [List.drop_zero]; exact List.take_of_length_le (Nat.le_of_eq hl)) hl) rfl ?_
  refine RW.val (Y.ldG T hs rfl h2 rfl rfl) rfl ?_
  refine Zerun ?_
  (refine RW.call T hs rfl rfl rfl (orderCells_con hR _ vd size i k _ _ hv' hc hi hk hz) ?_; intro v h4 w4 hle4 hp4 hs)
  rw [hz'] at hp4
  subst hp4
  have h3 : ∃ cs, h4 b3 = some cs ∧ cs[0]? = some (.bool down) := Cell0.mono hle4 h3
  cases down with
  | true =>
    rw [if_pos rfl]
    by_cases c1 : z < 0
    · refine Zerun ?_
      refine RW.val (Y.ldG T hs rfl h3 rfl rfl) rfl ?_
      refine Zerun ?_
      exact retQ_ret [_] h4 ⟨rfl, trivial⟩ hs.dropAll (by simp only [packv]; first | exact congrArg _ (decide_eq_decide.2 (by omega)) | exact congrArg _ (decide_eq_true (by omega)).symm | exact congrArg _ (decide_eq_false (by omega)).symm)
    · by_cases c2 : 0 < z
      · refine Zerun ?_
        refine RW.val (Y.ldG T hs rfl h3 rfl rfl) rfl ?_
        refine Zerun ?_
        exact retQ_ret [_] h4 ⟨rfl, trivial⟩ hs.dropAll (by simp only [packv]; first | exact congrArg _ (decide_eq_decide.2 (by omega)) | exact congrArg _ (decide_eq_true (by omega)).symm | exact congrArg _ (decide_eq_false (by omega)).symm)
      · refine Zerun ?_
        exact retQ_ret [_] h4 ⟨rfl, trivial⟩ hs.dropAll (by simp only [packv]; first | exact congrArg _ (decide_eq_decide.2 (by omega)) | exact congrArg _ (decide_eq_true (by omega)).symm | exact congrArg _ (decide_eq_false (by omega)).symm)
  | false =>
    rw [if_neg (by decide)]
    by_cases c1 : z < 0
    · refine Zerun ?_
      refine RW.val (Y.ldG T hs rfl h3 rfl rfl) rfl ?_
      refine Zerun ?_
      exact retQ_ret [_] h4 ⟨rfl, trivial⟩ hs.dropAll (by simp only [packv]; first | exact congrArg _ (decide_eq_decide.2 (by omega)) | exact congrArg _ (decide_eq_true (by omega)).symm | exact congrArg _ (decide_eq_false (by omega)).symm)
    · by_cases c2 : 0 < z
      · refine Zerun ?_
        refine RW.val (Y.ldG T hs rfl h3 rfl rfl) rfl ?_
        refine Zerun ?_
        exact retQ_ret [_] h4 ⟨rfl, trivial⟩ hs.dropAll (by simp only [packv]; first | exact congrArg _ (decide_eq_decide.2 (by omega)) | exact congrArg _ (decide_eq_true (by omega)).symm | exact congrArg _ (decide_eq_false (by omega)).symm)
      · refine Zerun ?_
        exact retQ_ret [_] h4 ⟨rfl, trivial⟩ hs.dropAll (by simp only [packv]; first | exact congrArg _ (decide_eq_decide.2 (by omega)) | exact congrArg _ (decide_eq_true (by omega)).symm | exact congrArg _ (decide_eq_false (by omega)).symm)
theorem orderHas_con (c : Int) (w : World) (h : GHeap) : Con Tryz.prog 171 [.int .i64 c] w h (fun _ u => u = .bool (decide (c = 0 ∨ c = 1))) := by
  by_cases c0 : c = 0
  · rw [decide_eq_true (.inl c0)]
    refine Con.of_body Tryz.func171 rfl Tryz.ntmps171 rfl rfl ?_
    intro hs
    refine Zerun ?_
    exact retQ_ret [_] h ⟨rfl, trivial⟩ hs.dropAll rfl
  · by_cases c1 : c = 1
    · rw [decide_eq_true (.inr c1)]
      refine Con.of_body Tryz.func171 rfl Tryz.ntmps171 rfl rfl ?_
      intro hs
      refine Zerun ?_
      exact retQ_ret [_] h ⟨rfl, trivial⟩ hs.dropAll (by simp only [packv]; rw [decide_eq_true c1])
    · rw [decide_eq_false (by omega)]
      refine Con.of_body Tryz.func171 rfl Tryz.ntmps171 rfl rfl ?_
      intro hs
      refine Zerun ?_
      exact retQ_ret [_] h ⟨rfl, trivial⟩ hs.dropAll (by simp only [packv]; rw [decide_eq_false c1])
/-- cells, of classes that have an order, graded by comparing; size 0 and below, or no order: none -/
theorem mergeCells_con (hR : Mono R) (cs : List Value) (vd : VecD α) (size : Int) (down : Bool) (w : World) (h : GHeap) (hv : VecAt R h cs vd) (hm : vd.len ≤ 1048576) (hz : size ≤ 1048576) (hz2 : -9223372036854775808 ≤ size) :
    Con Tryz.prog 127 [.agg cs.toArray, .int .i64 size, .bool down] w h (fun h' u => ((vd.cls = 0 ∨ vd.cls = 1) ∧ 1 ≤ size ∧ ∃ s out, u = .tuple #[s, .bool true] ∧ IntsAt h' s (natsI out) ∧ InOrder (ltS (ahL (gV vd) size.toNat down)) (vd.len / size.toNat) out) ∨ (¬ ((vd.cls = 0 ∨ vd.cls = 1) ∧ 1 ≤ size) ∧ u = .tuple #[.slice none 0 0, .bool false])) := by
  have hv' := hv
  have hvl := hv.size
  obtain ⟨wv, nv, sm, il, fl, ch, bx, ⟨rfl, hoc⟩, -⟩ := hv
  refine Con.of_body Tryz.func127 rfl Tryz.ntmps127 rfl rfl ?_
  intro hs
  refine Zrun ?_
  (refine RW.boxN hs rfl rfl ?_; intro b1 w1 hs)
  refine Zrun ?_
  refine RW.box hs rfl rfl ?_
  intro b2 w2 hs
  refine Zrun ?_
  refine RW.box hs rfl rfl ?_
  intro b3 w3 hs
  refine Zerun ?_
  (refine RW.call T hs rfl rfl rfl (vecClass_con _ vd _ _ hv') ?_; intro v h4 w4 hle4 hp4 hs)
  subst hp4
  have hv' := hv'.mono hR hle4
  refine Zerun ?_
  (refine RW.call T hs rfl rfl rfl (orderHas_con vd.cls _ _) ?_; intro v h5 w5 hle5 hp5 hs)
  subst hp5
  have hv' := hv'.mono hR hle5
  by_cases c0 : vd.cls = 0 ∨ vd.cls = 1
  rotate_left
  · rw [decide_eq_false c0]
    refine Zerun ?_
    exact retQ_ret [_, _] h5 ⟨rfl, rfl, trivial⟩ hs.dropAll (.inr ⟨fun e => c0 e.1, rfl⟩)
  rw [decide_eq_true c0]
  by_cases c1 : size < 1
  · refine Zerun ?_
    exact retQ_ret [_, _] h5 ⟨rfl, rfl, trivial⟩ hs.dropAll (.inr ⟨fun e => by omega, rfl⟩)
  obtain ⟨sz, rfl⟩ := Int.eq_ofNat_of_zero_le (show 0 ≤ size by omega)
  refine Zerun ?_
  rw [Int.toNat_natCast]
  have hs9 := hs
  obtain ⟨g3, le3, hs, hB3⟩ := hs.freeze
  obtain ⟨g2, le2, hs, hB2⟩ := hs.freeze
  obtain ⟨g1, le1, hs, hB1⟩ := hs.freeze
  have q3 : ∃ cs, g1 b3 = some cs ∧ cs[0]? = some (.bool down) := Cell0.mono (le2.trans le1) (Sl.cell0 hB3)
  have q2 : ∃ cs, g1 b2 = some cs ∧ cs[0]? = some (.int .i64 (sz : Int)) := Cell0.mono le1 (Sl.cell0 hB2)
  have hv' := hv'.mono hR (le3.trans (le2.trans le1))
  dsimp only at hB1
  obtain ⟨n, hn⟩ : ∃ n, vd.len / sz = n := ⟨_, rfl⟩
  have hq : (vd.len : Int) / (sz : Int) = (n : Int) := by rw [← hn]; rfl
  have hn1 : n ≤ vd.len := by rw [← hn]; exact Nat.div_le_self _ _
  rw [hn]
  have hs := hs.nilRow 3 1
  refine CW.regionG T 0 0 hs rfl rfl ?_
  intro w6 hs
  refine HW.takeG (fuel := 7) 0 rfl (fun _ _ ka kb _ hg hs hka hkb => Y.ldFN T hs (cs := vecCells vd.kind wv nv sm il fl ch bx) (hB1.mono hg) rfl rfl rfl rfl rfl rfl rfl) ⟨_, _, 0, 0, GLe.refl _, hs, rfl, rfl⟩ rfl (by kernel_rfl) (by kernel_rfl) (by kernel_rfl) ?_
  refine HW.takeG (fuel := 6) 2 rfl (fun _ _ ka kb _ hg hs hka hkb => Y.ldG T hs rfl (Cell0.mono hg q2) rfl rfl) ⟨_, _, 0, 0, GLe.refl _, hs, rfl, rfl⟩ rfl (by kernel_rfl) (by kernel_rfl) (by kernel_rfl) ?_
  refine HW.takeG (fuel := 5) 4 rfl (fun _ _ ka kb _ hg hs hka hkb => Y.makeFunc (fi := []) (ca := [_, _, _]) rfl rfl) ⟨_, _, 0, 0, GLe.refl _, hs, rfl, rfl⟩ rfl (by kernel_rfl) (by kernel_rfl) (by kernel_rfl) ?_
  refine HW.one (fuel := 4) 1 rfl (by kernel_rfl) ?_
  (refine RW.call T hs rfl rfl rfl (vecLen_con _ vd _ _ hv') ?_; intro v h7 w7 hle7 hp7 hs)
  subst hp7
  refine RW.nil ?_
  refine heldQ_normal ⟨_, _, 0, 0, hle7, hs, rfl, rfl⟩ ?_
  refine HW.takeG (fuel := 3) 3 rfl (fun _ _ ka kb _ hg hs hka hkb => Y.quo rfl rfl (by omega) ⟨by omega, by omega⟩) ⟨_, _, 0, 0, hle7, hs, rfl, rfl⟩ rfl (by kernel_rfl) (by kernel_rfl) (by kernel_rfl) ?_
  rw [hq]
  refine HW.one (fuel := 2) 5 rfl (by kernel_rfl) ?_
  (refine RW.call T hs rfl rfl rfl (mergeSort_con 173 [.pointer (some ⟨b1, 0, none⟩), .pointer (some ⟨b2, 0, none⟩), .pointer (some ⟨b3, 0, none⟩)] (ahL (gV vd) sz down) (ahL_weak _ _ _) n _ _ rfl (fun i k w h' hl hi hk => mergeCells1_con hR vd sz i k down b1 b2 b3 _ w h' (hv'.mono hR (hle7.trans hl)) c0 (by omega) (by omega) (by omega) (hB1.mono (hle7.trans hl)) (Cell0.mono (hle7.trans hl) q2) (Cell0.mono (hle7.trans hl) q3)) (by omega)) ?_; intro v h8 w8 hle8 hp8 hs)
  obtain ⟨out, hI, hord⟩ := hp8
  have hI' := hI
  obtain ⟨ad8, cp8, rfl, _⟩ := hI
  refine RW.nil ?_
  refine heldQ_normal ⟨_, _, 0, 0, hle7.trans hle8, hs, rfl, rfl⟩ ?_
  refine HW.takeG (fuel := 1) 6 rfl (fun _ _ ka kb _ hg hs hka hkb => Y.assign rfl) ⟨_, _, 0, 0, hle7.trans hle8, hs, rfl, rfl⟩ rfl (by kernel_rfl) (by kernel_rfl) (by kernel_rfl) ?_
  refine HW.takeG (fuel := 0) 7 rfl (fun _ _ ka kb _ hg hs hka hkb => Y.assign rfl) ⟨_, _, 0, 0, hle7.trans hle8, hs, rfl, rfl⟩ rfl (by kernel_rfl) (by kernel_rfl) (by kernel_rfl) ?_
  refine HW.done (by kernel_rfl) ?_
  refine calmQ_normal ?_
  refine Zerun ?_
  exact retQ_ret [_, _] h8 ⟨rfl, rfl, trivial⟩ hs.dropAll (.inl ⟨c0, by omega, _, out, rfl, hI', hord⟩)
end
end Go.Proofs.YtmfealaaacmohaaGreatDoor

/-
  Contracts of package merge: cells graded, lists in order; the example of layer 18. No statement is proved here.
-/
namespace Go.Proofs.YtmfealaaacmohaaGreatDoor
open Go Go.RowKit
set_option linter.unusedVariables false
set_option linter.unusedSimpArgs false
set_option maxHeartbeats 4000000
attribute [local irreducible] CW RW QW SW HW ConM retM heldQ calmQ elemP thenQ blockQ loopQ joinQ retQ Yields Con Sl zF magR unitF truncF fwF wholeF tidySpec elemQ rankF leastN tidyW
set_option maxHeartbeats 4000000

section
variable {α : Type} {R : GHeap → List Value → α → Prop}
theorem mergeGrade_con (hR : Mono R) (cs : List Value) (vd : VecD α) (size : Int) (down : Bool) (w : World) (h : GHeap) (hT : TzTab h) (hv : VecAt R h cs vd) (hm : vd.len ≤ 1048576) (hcr : ∀ c ∈ vd.chars, -2147483648 ≤ c ∧ c < 2147483648) (hk0 : vd.kind ≠ 0) (hz : size ≤ 1048576) (hz2 : -9223372036854775808 ≤ size) :
    Con Tryz.prog 59 [.agg cs.toArray, .int .i64 size, .bool down] w h (fun h' u => ((vd.cls = 0 ∨ vd.cls = 1) ∧ 1 ≤ size ∧ ∃ s out, u = .tuple #[s, .bool true] ∧ IntsAt h' s (natsI out) ∧ InOrder (ltS (ahL (gV vd) size.toNat down)) (vd.len / size.toNat) out) ∨ (¬ ((vd.cls = 0 ∨ vd.cls = 1) ∧ 1 ≤ size) ∧ u = .tuple #[.slice none 0 0, .bool false])) := by
  have hv' := hv
  have hvl := hv.size
  have hkr : 0 ≤ vd.kind ∧ vd.kind ≤ 6 := by
    obtain ⟨_, _, _, _, _, _, _, _, hh⟩ := hv
    rcases hh with ⟨e, _⟩ | ⟨e, _⟩ | ⟨e, _⟩ | ⟨e, _⟩ | ⟨e, _⟩ | ⟨e, _⟩ | ⟨e, _⟩ <;> omega
  obtain ⟨wv, nv, sm, il, fl, ch, bx, ⟨rfl, hoc⟩, -⟩ := hv
  refine Con.of_body Tryz.func59 rfl Tryz.ntmps59 rfl rfl ?_
  intro hs
  refine Zrun ?_
  (refine RW.boxN hs rfl rfl ?_; intro b1 w1 hs)
  by_cases c1 : size = 1
  · subst c1
    refine Zerun ?_
    (refine RW.call T hs rfl rfl rfl (radixGrade_con hR _ vd down _ _ hT hv' hm hcr hk0) ?_; intro v h2 w2 hle2 hp2 hs)
    have hv' := hv'.mono hR hle2
    rcases hp2 with ⟨hkk, s2, out, rfl, hI, hord⟩ | ⟨hkk, rfl⟩
    · have hcl : vd.cls = 0 ∨ vd.cls = 1 := by unfold VecD.cls; by_cases e : vd.kind = 5 <;> simp [e]; omega
      have hI' := hI
      obtain ⟨ad2, cp2, rfl, _⟩ := hI
      refine Zerun ?_
      exact retQ_ret [_, _] h2 ⟨rfl, rfl, trivial⟩ hs.dropAll (.inl ⟨hcl, Int.le_refl 1, _, out, rfl, hI', by rw [show (1 : Int).toNat = 1 from rfl, Nat.div_one]; exact hord⟩)
    · refine Zerun ?_
      (refine RW.call T hs rfl rfl rfl (mergeCells_con hR _ vd 1 down _ _ hv' hm (by omega) (by omega)) ?_; intro v h3 w3 hle3 hp3 hs)
      rcases hp3 with ⟨a1, a2, s3, out, rfl, hI, hord⟩ | ⟨hn, rfl⟩
      · have hI' := hI
        obtain ⟨ad3, cp3, rfl, _⟩ := hI
        refine Zerun ?_
        exact retQ_ret [_, _] h3 ⟨rfl, rfl, trivial⟩ hs.dropAll (.inl ⟨a1, a2, _, out, rfl, hI', hord⟩)
      · refine Zerun ?_
        exact retQ_ret [_, _] h3 ⟨rfl, rfl, trivial⟩ hs.dropAll (.inr ⟨hn, rfl⟩)
  · refine Zerun ?_
    (refine RW.call T hs rfl rfl rfl (mergeCells_con hR _ vd size down _ _ hv' hm hz hz2) ?_; intro v h3 w3 hle3 hp3 hs)
    rcases hp3 with ⟨a1, a2, s3, out, rfl, hI, hord⟩ | ⟨hn, rfl⟩
    · have hI' := hI
      obtain ⟨ad3, cp3, rfl, _⟩ := hI
      refine Zerun ?_
      exact retQ_ret [_, _] h3 ⟨rfl, rfl, trivial⟩ hs.dropAll (.inl ⟨a1, a2, _, out, rfl, hI', hord⟩)
    · refine Zerun ?_
      exact retQ_ret [_, _] h3 ⟨rfl, rfl, trivial⟩ hs.dropAll (.inr ⟨hn, rfl⟩)
theorem mergeOrdered_con (hR : Mono R) (h1 : One R) (h9 : Siz 9 R) (nb : α) (hbl : ∀ w h, Con Tryz.prog 121 [] w h (fun h' u => ∃ cs', u = .agg cs'.toArray ∧ R h' cs' nb)) (cs : List Value) (vd : VecD α) (down : Bool) (w : World) (h : GHeap) (hT : TzTab h) (hv : VecAt R h cs vd) (hm : vd.len ≤ 1048576) (hcr : ∀ c ∈ vd.chars, -2147483648 ≤ c ∧ c < 2147483648) (hk0 : vd.kind ≠ 0) :
    Con Tryz.prog 13 [.agg cs.toArray, .bool down] w h (fun h' u => ((vd.cls = 0 ∨ vd.cls = 1) ∧ ∃ cs' out, u = .tuple #[.agg cs'.toArray, .bool true] ∧ VecAt R h' cs' (vd.pick (natsI out) nb) ∧ InOrder (ltS (ahL (gV vd) 1 down)) vd.len out) ∨ (¬ (vd.cls = 0 ∨ vd.cls = 1) ∧ ∃ cs', u = .tuple #[.agg cs'.toArray, .bool false] ∧ VecAt R h' cs' VecD.none)) := by
  have hv' := hv
  have hvl := hv.size
  obtain ⟨wv, nv, sm, il, fl, ch, bx, ⟨rfl, hoc⟩, -⟩ := hv
  refine Con.of_body Tryz.func13 rfl Tryz.ntmps13 rfl rfl ?_
  intro hs
  refine Zrun ?_
  (refine RW.boxN hs rfl rfl ?_; intro b1 w1 hs)
  (refine RW.allocN T hs rfl rfl rfl rfl ?_; intro b2 w2 hs)
  refine Zerun ?_
  (refine RW.call T hs rfl rfl rfl (mergeGrade_con hR _ vd 1 down _ _ hT hv' hm hcr hk0 (by omega) (by omega)) ?_; intro v h3 w3 hle3 hp3 hs)
  have hv' := hv'.mono hR hle3
  rcases hp3 with ⟨a1, a2, s3, out, rfl, hI, hord⟩ | ⟨hn, rfl⟩
  · rw [show (1 : Int).toNat = 1 from rfl, Nat.div_one] at hord
    have hol : (natsI out).length = vd.len := by rw [natsI_len, hord.len]
    have hI' := hI
    obtain ⟨ad3, cp3, rfl, _⟩ := hI
    refine Zerun ?_
    (refine RW.call T hs rfl rfl rfl (flatPick_con hR h1 h9 nb hbl _ vd _ (natsI out) _ _ hv' hI' (by omega) hm hk0) ?_; intro v h4 w4 hle4 hp4 hs)
    obtain ⟨cs4, rfl, hv4⟩ := hp4
    have hv4' := hv4
    obtain ⟨wv4, nv4, sm4, il4, fl4, ch4, bx4, ⟨rfl, hoc4⟩, _⟩ := hv4
    refine Zerun ?_
    (refine RW.storeAll T hs 0 rfl rfl rfl rfl rfl rfl hoc4 rfl ?_; intro w5 hs)
    refine Zerun ?_
    exact retQ_ret [_, _] h4 ⟨resN T hs 0 rfl rfl rfl rfl rfl rfl, rfl, trivial⟩ hs.dropAll (.inl ⟨a1, _, out, rfl, hv4', hord⟩)
  · refine Zerun ?_
    refine RW.val (Y.build T rfl rfl rfl rfl rfl rfl rfl) rfl ?_
    (refine RW.storeAll T hs 0 rfl rfl rfl rfl rfl rfl rfl rfl ?_; intro w5 hs)
    refine Zerun ?_
    exact retQ_ret [_, _] h3 ⟨resN T hs 0 rfl rfl rfl rfl rfl rfl, rfl, trivial⟩ hs.dropAll (.inr ⟨fun e => hn ⟨e, Int.le_refl 1⟩, _, rfl, vecNone h3⟩)
end
theorem ref04Same_con (s t : Value) (l : List Nat) (w : World) (h : GHeap) (hl : FAt h s l) (ht : FAt h t l) (hx : ∀ u ∈ l, tidyF u) (hm : l.length ≤ 1048576) : Con Tryz.prog 57 [s, t] w h (fun _ u => u = .bool true) := by
  obtain ⟨ad, cp, rfl, hS⟩ := hl
  obtain ⟨ad1, cp1, rfl, hS1⟩ := ht
  refine Con.of_body Tryz.func57 rfl Tryz.ntmps57 rfl rfl ?_
  intro hs
  refine Zrun ?_
  refine CW.loop (fun u : Nat × GHeap => [(0, .slice ad l.length cp), (1, .slice ad1 l.length cp1), (5, .int .i64 u.1)]) (fun u w' => u.1 ≤ l.length ∧ GLe h u.2 ∧ Sees w h u.2 [] w') (fun u => l.length - u.1) (0, h) ⟨rfl, rfl, rfl, trivial⟩ ⟨by dsimp only; omega, GLe.refl _, hs⟩ ?_
  rintro ⟨i, hh⟩ w2 ⟨hi, hg, hs⟩
  dsimp only at hi hg hs ⊢
  have hS := hS.mono hg
  have hS1 := hS1.mono hg
  by_cases hlt : i < l.length
  · have hgi := map_get (Value.float .f64) l i 0 hlt
    have hti := hx _ (mem_getD l i 0 hlt)
    refine Zerun ?_
    refine CW.regionQ T hs ?_ (by kernel_rfl)
    refine Zeqrun ?_
    refine QW.call T hs rfl rfl rfl (fun w => refBits_con (l.getD i 0) (l.getD i 0) w _ hti hti) ?_
    rw [decide_eq_true rfl]
    refine Zeqrun ?_
    intro w3 hs
    refine Zerun ?_
    exact loopQ_round (i + 1, hh) ⟨rfl, rfl, rfl, trivial⟩ ⟨by dsimp only; omega, hg, hs⟩ (by dsimp only; omega)
  · obtain rfl : i = l.length := by omega
    refine Zerun ?_
    exact retQ_ret [_] hh ⟨rfl, trivial⟩ hs.dropAll rfl
def l18 : List Nat := [4602678819172646912, 4613937818241073152, 13830554455654793216]
theorem tidy18a : tidyF 4602678819172646912 := ⟨by omega, by decide, by omega⟩
theorem tidy18b : tidyF 4613937818241073152 := ⟨by omega, by decide, by omega⟩
theorem tidy18c : tidyF 13830554455654793216 := ⟨by omega, by decide, by omega⟩
theorem all18 : ∀ u ∈ l18, tidyF u := by
  intro u hu
  simp only [l18, List.mem_cons, List.not_mem_nil, or_false] at hu
  rcases hu with rfl | rfl | rfl
  · exact tidy18a
  · exact tidy18b
  · exact tidy18c
theorem tidyW18 : l18.map tidyW = l18 := by
  simp only [l18, List.map_cons, List.map_nil]
  unfold tidyW
  rw [tidySpec_of _ tidy18a, tidySpec_of _ tidy18b, tidySpec_of _ tidy18c]
theorem lt18 : zF 13830554455654793216 < zF 4602678819172646912 ∧ zF 4602678819172646912 < zF 4613937818241073152 := by
  have s1 : sgF 4602678819172646912 = false ∧ rungF 4602678819172646912 = 4602678819172646912 := by decide
  have s2 : sgF 4613937818241073152 = false ∧ rungF 4613937818241073152 = 4613937818241073152 := by decide
  have s3 : sgF 13830554455654793216 = true := by decide
  have m1 := magR_mono (show 0 < 4602678819172646912 by decide)
  have m2 := magR_mono (show 4602678819172646912 < 4613937818241073152 by decide)
  unfold zF
  rw [s1.1, s1.2, s2.1, s2.2, s3]
  simp only [if_true, Bool.false_eq_true, if_false]
  generalize magR 4602678819172646912 = a at *
  generalize magR 4613937818241073152 = b at *
  generalize magR (rungF 13830554455654793216) = c at *
  rw [magR_zero] at m1
  omega
theorem fin3 (p : Nat → Prop) (h0 : p 0) (h1 : p 1) (h2 : p 2) : ∀ j, j < 3 → p j := by
  intro j hj
  match j, hj with
  | 0, _ => exact h0
  | 1, _ => exact h1
  | 2, _ => exact h2
theorem lex1 (g : Nat → Int) (i j : Nat) : lexC g 1 i j 1 = cmpZ (g i) (g j) := by unfold lexC; unfold lexC; simp
theorem up18 (g : Nat → Int) (h1 : g 2 < g 0) (h2 : g 0 < g 1) : InOrder (ltS (ahL g 1 false)) 3 [2, 0, 1] := by
  have a (i j) (h : g i < g j) : ltS (ahL g 1 false) i j := by rw [ltS_ahL, lex1, if_neg (by decide)]; left; exact (cmpZ_neg _ _).2 h
  refine ⟨rfl, fin3 _ (by decide) (by decide) (by decide), fin3 _ ⟨1, by decide, rfl⟩ ⟨2, by decide, rfl⟩ ⟨0, by decide, rfl⟩, fun x y hxy hy => ?_⟩
  have key : (x = 0 ∧ y = 1) ∨ (x = 0 ∧ y = 2) ∨ (x = 1 ∧ y = 2) := by omega
  rcases key with ⟨rfl, rfl⟩ | ⟨rfl, rfl⟩ | ⟨rfl, rfl⟩
  · exact a 2 0 h1
  · exact a 2 1 (by omega)
  · exact a 0 1 h2
theorem down18 (g : Nat → Int) (h1 : g 2 < g 0) (h2 : g 0 < g 1) : InOrder (ltS (ahL g 1 true)) 3 [1, 0, 2] := by
  have a (i j) (h : g j < g i) : ltS (ahL g 1 true) i j := by rw [ltS_ahL, lex1, if_pos rfl]; left; have := (cmpZ_pos (g i) (g j)).2 h; omega
  refine ⟨rfl, fin3 _ (by decide) (by decide) (by decide), fin3 _ ⟨1, by decide, rfl⟩ ⟨0, by decide, rfl⟩ ⟨2, by decide, rfl⟩, fun x y hxy hy => ?_⟩
  have key : (x = 0 ∧ y = 1) ∨ (x = 0 ∧ y = 2) ∨ (x = 1 ∧ y = 2) := by omega
  rcases key with ⟨rfl, rfl⟩ | ⟨rfl, rfl⟩ | ⟨rfl, rfl⟩
  · exact a 1 0 h2
  · exact a 1 2 (by omega)
  · exact a 0 2 h1
theorem awake18_con (w : World) (h : GHeap) (hT : TzTab h) : Con Tryz.prog 12 [] w h (fun _ u => u = .bool true) := by
  refine Con.of_body Tryz.func12 rfl Tryz.ntmps12 rfl rfl ?_
  intro hs
  refine Zrun ?_
  (refine RW.lit T hs (vs := [.float .f64 4602678819172646912, .float .f64 4613937818241073152, .float .f64 13830554455654793216]) rfl rfl rfl rfl (by simp [Value.cells]) rfl rfl rfl rfl rfl ?_; intro b1 w1 hs)
  obtain ⟨h1, hle1, hs, hS1⟩ := hs.freeze
  have hF1 : FAt h1 (.slice (some ⟨b1, 0, none⟩) 3 3) l18 := RowAt.of_sl (l := l18) hS1
  (refine RW.call T hs rfl rfl rfl (sqNumbers_con (R := ArrAt 1) (ArrAt.mono 1) _ l18 _ _ hF1 (fun u hu => (all18 u hu).1) (by decide)) ?_; intro v h2 w2 hle2 hp2 hs)
  obtain ⟨cs2, ok, rfl, hok, hv2⟩ := hp2
  rw [decide_eq_true (fun u hu => (all18 u hu).2.1)] at hok
  subst hok
  rw [if_pos rfl, tidyW18] at hv2
  have hlb := leastN_bounds l18
  obtain ⟨ln, hln⟩ : ∃ ln, leastN l18 = ln := ⟨_, rfl⟩
  rw [hln] at hv2 hlb
  obtain ⟨vd, hvd⟩ : ∃ vd : VecD (AD 1), (⟨ln, l18, [], []⟩ : VecD (AD 1)) = vd := ⟨_, rfl⟩
  have hcl : vd.cls = 0 := by rw [← hvd]; unfold VecD.cls; dsimp only; rw [if_neg (by omega), if_neg (by omega)]
  have hk0 : vd.kind ≠ 0 := by rw [← hvd]; dsimp only; omega
  have hlen : vd.len = 3 := by rw [← hvd]; rfl
  have hch : vd.chars = [] := by rw [← hvd]
  have hgv : ∀ i, gV vd i = zF (l18.getD i 0) := by intro i; unfold gV; rw [← hvd]; dsimp only; rw [if_neg (by omega)]
  have g1 : gV vd 2 < gV vd 0 := by rw [hgv, hgv]; exact lt18.1
  have g2 : gV vd 0 < gV vd 1 := by rw [hgv, hgv]; exact lt18.2
  have hnum : ∀ (at_ : List Int) (nb : AD 1), (vd.pick at_ nb).nums = at_.map vd.num := by
    intro at_ nb
    unfold VecD.pick
    rw [← hvd]
    dsimp only
    rw [if_neg (by omega), if_neg (by omega)]
  have hn3 : ∀ i : Int, vd.num i = (⟨ln, l18, [], []⟩ : VecD (AD 1)).num i := by intro i; rw [hvd]
  have hkd : vd.kind = ln := by rw [← hvd]
  rw [hvd] at hv2
  have hv2' := hv2
  obtain ⟨wv, nv, sm, il, fl, ch, bx, ⟨rfl, hoc⟩, -⟩ := hv2
  refine Zerun ?_
  (refine RW.allocN T hs rfl rfl rfl rfl ?_; intro b3 w3 hs)
  (refine RW.storeAll T hs 0 rfl rfl rfl rfl rfl rfl hoc rfl ?_; intro w4 hs)
  refine Zerun ?_
  have hT := hT.mono (hle1.trans hle2)
  (refine RW.call T hs rfl rfl rfl (mergeOrdered_con (ArrAt.mono 1) (ArrAt.one 1) (ArrAt.siz 1) (blankA 0) (fun w h => flatBlank_con (ArrAt.mono 0) (ArrAt.one 0) w h) _ vd false _ _ hT hv2' (by omega) (fun c hc => by rw [hch] at hc; cases hc) hk0) ?_; intro v h5 w5 hle5 hp5 hs)
  rcases hp5 with ⟨_, cs5, o5, rfl, hv5, hord5⟩ | ⟨hn, _⟩
  rotate_left
  · exact absurd (.inl hcl) hn
  rw [hlen] at hord5
  obtain rfl := hord5.eq (up18 _ g1 g2) (ltS_asym (ahL_weak _ _ _))
  have hv2' := hv2'.mono (ArrAt.mono 1) hle5
  have hT := hT.mono hle5
  have hv5' := hv5
  have hp5n := hnum (natsI [2, 0, 1]) (blankA 0)
  have hpl5 := pick_facts vd (natsI [2, 0, 1]) (blankA 0)
  generalize vd.pick (natsI [2, 0, 1]) (blankA 0) = pv5 at hv5 hv5' hp5n hpl5
  obtain ⟨wv5, nv5, sm5, il5, fl5, ch5, bx5, ⟨rfl, hoc5⟩, -⟩ := hv5
  refine Zerun ?_
  (refine RW.allocN T hs rfl rfl rfl rfl ?_; intro b6 w6 hs)
  (refine RW.storeAll T hs 0 rfl rfl rfl rfl rfl rfl hoc5 rfl ?_; intro w7 hs)
  refine Zerun ?_
  (refine RW.call T hs rfl rfl rfl (mergeOrdered_con (ArrAt.mono 1) (ArrAt.one 1) (ArrAt.siz 1) (blankA 0) (fun w h => flatBlank_con (ArrAt.mono 0) (ArrAt.one 0) w h) _ vd true _ _ hT hv2' (by omega) (fun c hc => by rw [hch] at hc; cases hc) hk0) ?_; intro v h8 w8 hle8 hp8 hs)
  rcases hp8 with ⟨_, cs8, o8, rfl, hv8, hord8⟩ | ⟨hn, _⟩
  rotate_left
  · exact absurd (.inl hcl) hn
  rw [hlen] at hord8
  obtain rfl := hord8.eq (down18 _ g1 g2) (ltS_asym (ahL_weak _ _ _))
  have hv5' := hv5'.mono (ArrAt.mono 1) hle8
  have hv8' := hv8
  have hp8n := hnum (natsI [1, 0, 2]) (blankA 0)
  have hpl8 := pick_facts vd (natsI [1, 0, 2]) (blankA 0)
  generalize vd.pick (natsI [1, 0, 2]) (blankA 0) = pv8 at hv8 hv8' hp8n hpl8
  obtain ⟨wv8, nv8, sm8, il8, fl8, ch8, bx8, ⟨rfl, hoc8⟩, -⟩ := hv8
  refine Zerun ?_
  (refine RW.allocN T hs rfl rfl rfl rfl ?_; intro b9 w9 hs)
  (refine RW.storeAll T hs 0 rfl rfl rfl rfl rfl rfl hoc8 rfl ?_; intro w10 hs)
  refine Zerun ?_
  (refine RW.call T hs rfl rfl rfl (vecNums_con (ArrAt.mono 1) _ pv5 _ _ hv5' (by rw [hpl5.2.2.1]; decide)) ?_; intro v h11 w11 hle11 hp11 hs)
  have hv8' := hv8'.mono (ArrAt.mono 1) hle11
  have e5 : pv5.nums = [13830554455654793216, 4602678819172646912, 4613937818241073152] := by rw [hp5n, ← hvd]; rfl
  have e8 : pv8.nums = [4613937818241073152, 4602678819172646912, 13830554455654793216] := by rw [hp8n, ← hvd]; rfl
  rw [e5] at hp11
  have hF11 := hp11
  obtain ⟨ad11, cp11, rfl, _⟩ := hp11
  refine Zerun ?_
  (refine RW.lit T hs (vs := [.float .f64 13830554455654793216, .float .f64 4602678819172646912, .float .f64 4613937818241073152]) rfl rfl rfl rfl (by simp [Value.cells]) rfl rfl rfl rfl rfl ?_; intro b12 w12 hs)
  obtain ⟨h12, hle12, hs, hS12⟩ := hs.freeze
  have hF12 : FAt h12 (.slice (some ⟨b12, 0, none⟩) 3 3) [13830554455654793216, 4602678819172646912, 4613937818241073152] := RowAt.of_sl hS12
  refine Zerun ?_
  have t5 : ∀ u ∈ [13830554455654793216, 4602678819172646912, 4613937818241073152], tidyF u := by
    intro u hu
    simp only [List.mem_cons, List.not_mem_nil, or_false] at hu
    rcases hu with rfl | rfl | rfl
    · exact tidy18c
    · exact tidy18a
    · exact tidy18b
  have t8 : ∀ u ∈ [4613937818241073152, 4602678819172646912, 13830554455654793216], tidyF u := by
    intro u hu
    simp only [List.mem_cons, List.not_mem_nil, or_false] at hu
    rcases hu with rfl | rfl | rfl
    · exact tidy18b
    · exact tidy18a
    · exact tidy18c
  (refine RW.call T hs rfl rfl rfl (ref04Same_con _ _ _ _ _ (hF11.mono hle12) hF12 t5 (by decide)) ?_; intro v h13 w13 hle13 hp13 hs)
  subst hp13
  have hv8' := (hv8'.mono (ArrAt.mono 1) hle12).mono (ArrAt.mono 1) hle13
  refine Zerun ?_
  (refine RW.call T hs rfl rfl rfl (vecNums_con (ArrAt.mono 1) _ pv8 _ _ hv8' (by rw [hpl8.2.2.1]; decide)) ?_; intro v h14 w14 hle14 hp14 hs)
  rw [e8] at hp14
  have hF14 := hp14
  obtain ⟨ad14, cp14, rfl, _⟩ := hp14
  refine Zerun ?_
  (refine RW.lit T hs (vs := [.float .f64 4613937818241073152, .float .f64 4602678819172646912, .float .f64 13830554455654793216]) rfl rfl rfl rfl (by simp [Value.cells]) rfl rfl rfl rfl rfl ?_; intro b15 w15 hs)
  obtain ⟨h15, hle15, hs, hS15⟩ := hs.freeze
  have hF15 : FAt h15 (.slice (some ⟨b15, 0, none⟩) 3 3) [4613937818241073152, 4602678819172646912, 13830554455654793216] := RowAt.of_sl hS15
  refine Zerun ?_
  (refine RW.call T hs rfl rfl rfl (ref04Same_con _ _ _ _ _ (hF14.mono hle15) hF15 t8 (by decide)) ?_; intro v h16 w16 hle16 hp16 hs)
  subst hp16
  refine Zerun ?_
  exact retQ_ret [_] h16 ⟨rfl, trivial⟩ hs.dropAll rfl
end Go.Proofs.YtmfealaaacmohaaGreatDoor

/-
  Contract of the law's own function of layer 17: places of elements in order. No statement is proved here.
-/
namespace Go.Proofs.YtmfealaaacmohaaGreatDoor
open Go Go.RowKit
set_option linter.unusedVariables false
set_option linter.unusedSimpArgs false
set_option maxHeartbeats 4000000
attribute [local irreducible] CW RW QW SW HW ConM retM heldQ calmQ elemP thenQ blockQ loopQ joinQ retQ Yields Con Sl zF magR unitF truncF fwF wholeF tidySpec elemQ rankF leastN tidyW
set_option maxHeartbeats 4000000

theorem arr_chars (k : Nat) (p : PD (k + 1)) (hch : ∀ x ∈ PlainD.items (α := PD k) p, -2147483648 ≤ x.char ∧ x.char < 2147483648) : ∀ c ∈ (ArrD.vec (α := AD k) (arr (k + 1) p)).chars, -2147483648 ≤ c ∧ c < 2147483648 := by
  intro c hc
  change c ∈ (arrV (arr k) (PlainD.fill (α := PD k) p) (PlainD.items (α := PD k) p)).chars at hc
  unfold arrV at hc
  split at hc
  · obtain ⟨x, hx, rfl⟩ := List.mem_map.1 hc
    exact hch x hx
  · split at hc <;> cases hc
end Go.Proofs.YtmfealaaacmohaaGreatDoor

/-
  Contract of the law's own function of layer 18: places of cells in order. No statement is proved here.
-/
namespace Go.Proofs.YtmfealaaacmohaaGreatDoor
open Go Go.RowKit
set_option linter.unusedVariables false
set_option linter.unusedSimpArgs false
set_option maxHeartbeats 4000000
attribute [local irreducible] CW RW QW SW HW ConM retM heldQ calmQ elemP thenQ blockQ loopQ joinQ retQ Yields Con Sl zF magR unitF truncF fwF wholeF tidySpec elemQ rankF leastN tidyW
set_option maxHeartbeats 4000000

end Go.Proofs.YtmfealaaacmohaaGreatDoor

/-
  Contract of the law's own function of layer 18: what is in order stays, downwards is upwards backwards. No statement is proved here.
-/
namespace Go.Proofs.YtmfealaaacmohaaGreatDoor
open Go Go.RowKit
set_option linter.unusedVariables false
set_option linter.unusedSimpArgs false
set_option maxHeartbeats 4000000
attribute [local irreducible] CW RW QW SW HW ConM retM heldQ calmQ elemP thenQ blockQ loopQ joinQ retQ Yields Con Sl zF magR unitF truncF fwF wholeF tidySpec elemQ rankF leastN tidyW
set_option maxHeartbeats 4000000

section
variable {α : Type} {R : GHeap → List Value → α → Prop}
end
end Go.Proofs.YtmfealaaacmohaaGreatDoor

/-
  Contract of package pick: places taken so often as counts say. No statement is proved here.
-/
namespace Go.Proofs.YtmfealaaacmohaaGreatDoor
open Go Go.RowKit
set_option linter.unusedVariables false
set_option linter.unusedSimpArgs false
set_option maxHeartbeats 4000000
attribute [local irreducible] CW RW QW SW HW ConM retM heldQ calmQ elemP thenQ blockQ loopQ joinQ retQ Yields Con Sl zF magR unitF truncF fwF wholeF tidySpec elemQ rankF leastN tidyW
set_option maxHeartbeats 4000000

section
variable {α : Type} {R : GHeap → List Value → α → Prop}
end
end Go.Proofs.YtmfealaaacmohaaGreatDoor

/-
  Contract of the example of layer 15. No statement is proved here.
-/
namespace Go.Proofs.YtmfealaaacmohaaGreatDoor
open Go Go.RowKit
set_option linter.unusedVariables false
set_option linter.unusedSimpArgs false
set_option maxHeartbeats 4000000
attribute [local irreducible] CW RW QW SW HW ConM retM heldQ calmQ elemP thenQ blockQ loopQ joinQ retQ Yields Con Sl zF magR unitF truncF fwF wholeF tidySpec elemQ rankF leastN tidyW
set_option maxHeartbeats 4000000

end Go.Proofs.YtmfealaaacmohaaGreatDoor

/-
  Contracts of functions of packages flat and bitvec: elements cut, truths one by one. No statement is proved here.
-/
namespace Go.Proofs.YtmfealaaacmohaaGreatDoor
open Go Go.RowKit
set_option linter.unusedVariables false
set_option linter.unusedSimpArgs false
set_option maxHeartbeats 4000000
attribute [local irreducible] CW RW QW SW HW ConM retM heldQ calmQ elemP thenQ blockQ loopQ joinQ retQ Yields Con Sl zF magR unitF truncF fwF wholeF tidySpec elemQ rankF leastN tidyW
set_option maxHeartbeats 4000000

section
variable {α : Type} {R : GHeap → List Value → α → Prop}
end
end Go.Proofs.YtmfealaaacmohaaGreatDoor

/-
  Contracts of functions of package flat: lists of a class behind each other. No statement is proved here.
-/
namespace Go.Proofs.YtmfealaaacmohaaGreatDoor
open Go Go.RowKit
set_option linter.unusedVariables false
set_option linter.unusedSimpArgs false
set_option maxHeartbeats 4000000
attribute [local irreducible] CW RW QW SW HW ConM retM heldQ calmQ elemP thenQ blockQ loopQ joinQ retQ Yields Con Sl zF magR unitF truncF fwF wholeF tidySpec elemQ rankF leastN tidyW
set_option maxHeartbeats 4000000

section
variable {α : Type} {R : GHeap → List Value → α → Prop}
theorem AllN.ones {δ : Type} {sz : Nat} {S : List Value → δ → Prop} (hc : ∀ cs a, S cs a → ∀ u ∈ cs, u.oneCell' = true) : ∀ {l : List δ} {xs : List Value}, AllN sz S xs l → ∀ u ∈ xs, u.oneCell' = true
  | [], xs, hx, u, hu => by have : xs = [] := hx; rw [this] at hu; cases hu
  | a :: l, xs, hx, u, hu => by
    rw [← List.take_append_drop sz xs, List.mem_append] at hu
    rcases hu with hu | hu
    · exact hc _ a hx.2.1 u hu
    · exact AllN.ones hc hx.2.2 u hu
end
end Go.Proofs.YtmfealaaacmohaaGreatDoor

/-
  Contracts of functions of package flat: lists behind each other. No statement is proved here.
-/
namespace Go.Proofs.YtmfealaaacmohaaGreatDoor
open Go Go.RowKit
set_option linter.unusedVariables false
set_option linter.unusedSimpArgs false
set_option maxHeartbeats 4000000
attribute [local irreducible] CW RW QW SW HW ConM retM heldQ calmQ elemP thenQ blockQ loopQ joinQ retQ Yields Con Sl zF magR unitF truncF fwF wholeF tidySpec elemQ rankF leastN tidyW
set_option maxHeartbeats 4000000

section
variable {α : Type} {R : GHeap → List Value → α → Prop}
structure JF (c kd : Int) (m : List (VecD α)) : Prop where
  rng : c = -1 ∨ c = 0 ∨ c = 1 ∨ c = 2
  kd1 : 1 ≤ kd ∧ kd ≤ 6
  all : ∀ v ∈ m, v.len ≠ 0 → v.cls = c ∧ v.kind ≤ kd
theorem JF.skip {c kd : Int} {m : List (VecD α)} {v : VecD α} (hF : JF c kd m) (h0 : v.len = 0) : JF c kd (m ++ [v]) := by
  refine ⟨hF.rng, hF.kd1, fun u hu hn => ?_⟩
  rcases List.mem_append.1 hu with hu | hu
  · exact hF.all u hu hn
  · rw [List.mem_singleton.1 hu] at hn; exact absurd h0 hn
theorem JF.step {c kd : Int} {m : List (VecD α)} {v : VecD α} (hF : JF c kd m) (_h0 : ¬ v.len = 0) (hc : c = v.cls ∨ ∀ u ∈ m, u.len = 0) (hcl : v.cls = 0 ∨ v.cls = 1 ∨ v.cls = 2) (hkr : 0 ≤ v.kind ∧ v.kind ≤ 6) : JF v.cls (max kd v.kind) (m ++ [v]) := by
  refine ⟨by omega, by have := hF.kd1; omega, fun u hu hn => ?_⟩
  rcases List.mem_append.1 hu with hu | hu
  · rcases hc with e | e
    · have := hF.all u hu hn; exact ⟨by omega, by omega⟩
    · exact absurd (e u hu) hn
  · rw [List.mem_singleton.1 hu]; exact ⟨rfl, by omega⟩
end
end Go.Proofs.YtmfealaaacmohaaGreatDoor

/-
  Contracts of the document's answer of layer 8: items again and again, turned, behind each other; a number brought between two. No statement is proved here.
-/
namespace Go.Proofs.YtmfealaaacmohaaGreatDoor
open Go Go.RowKit
set_option linter.unusedVariables false
set_option linter.unusedSimpArgs false
set_option maxHeartbeats 4000000
attribute [local irreducible] CW RW QW SW HW ConM retM heldQ calmQ elemP thenQ blockQ loopQ joinQ retQ Yields Con Sl zF magR unitF truncF fwF wholeF tidySpec elemQ rankF leastN tidyW
set_option maxHeartbeats 4000000

section
variable {γ : Type} {RC : GHeap → List Value → γ → Prop}
end
section
variable {β : Type} {R : GHeap → List Value → β → Prop}
end
section
variable {γ : Type} {RC : GHeap → List Value → γ → Prop}
end
end Go.Proofs.YtmfealaaacmohaaGreatDoor

/-
  Contracts of the document's answer and of the laws: how many items a good plain array has. No statement is proved here.
-/
namespace Go.Proofs.YtmfealaaacmohaaGreatDoor
open Go Go.RowKit
set_option linter.unusedVariables false
set_option linter.unusedSimpArgs false
set_option maxHeartbeats 4000000
attribute [local irreducible] CW RW QW SW HW ConM retM heldQ calmQ elemP thenQ blockQ loopQ joinQ retQ Yields Con Sl zF magR unitF truncF fwF wholeF tidySpec elemQ rankF leastN tidyW
set_option maxHeartbeats 4000000

section
variable {α : Type} {R : GHeap → List Value → α → Prop}
end
end Go.Proofs.YtmfealaaacmohaaGreatDoor

/-
  Plain facts on lists of elements picked, cut, turned and put behind each other, and what they show. No statement is proved here.
-/
namespace Go.Proofs.YtmfealaaacmohaaGreatDoor
open Go Go.RowKit
set_option linter.unusedVariables false
set_option linter.unusedSimpArgs false
set_option maxHeartbeats 4000000
attribute [local irreducible] CW RW QW SW HW ConM retM heldQ calmQ elemP thenQ blockQ loopQ joinQ retQ Yields Con Sl zF magR unitF truncF fwF wholeF tidySpec elemQ rankF leastN tidyW
set_option maxHeartbeats 4000000

structure Shown (k : Nat) (v : VecD (AD k)) (l : List (ItemD (PD k))) (c : Int) : Prop where
  hc : v.cls = c
  k0 : v.kind ≠ 0
  kl : v.kind = v.least
  vm : v.len ≤ 1048576
  sm : ∀ b ∈ v.boxes, sml k b
  he : itemsV (plain k) v = l
  td : ∀ x ∈ l, tdyIt (tdy k) x
theorem Shown.pick {k : Nat} {v : VecD (AD (k + 1))} {L : List (ItemD (PD (k + 1)))} {c : Int} (H : Shown (k + 1) v L c) (at_ : List Int) (hm : at_.length ≤ 1048576) : Shown (k + 1) (v.pick at_ (blankA k)) (at_.map fun i => atD L i (blankI c : ItemD (PlainD (PD k)))) c := by
  have hpf := pick_facts v at_ (blankA k)
  refine ⟨by rw [pick_cls, H.hc], hpf.1, hpf.2.1, by rw [hpf.2.2.1]; exact hm, ?_, pick_items' (β := PD k) (plain (k + 1)) _ at_ (blankA k) _ _ H.he H.hc rfl, ?_⟩
  · intro b hb
    rcases hpf.2.2.2 b hb with e | e
    · exact H.sm b e
    · rw [e]; exact blankA_sml k
  · intro x hx
    obtain ⟨i, _, rfl⟩ := List.mem_map.1 hx
    rcases atD_mem L i (blankI c : ItemD (PlainD (PD k))) with e | e
    · exact H.td _ e
    · rw [e]; exact blankI_tdy k _
section
variable {α β : Type}
theorem len0 {v : VecD α} (h : v.len = 0) : v.nums = [] ∧ v.chars = [] ∧ v.boxes = [] := by
  unfold VecD.len at h
  exact ⟨List.eq_nil_of_length_eq_zero (by omega), List.eq_nil_of_length_eq_zero (by omega), List.eq_nil_of_length_eq_zero (by omega)⟩
end
end Go.Proofs.YtmfealaaacmohaaGreatDoor

/-
  Contracts of the law's own functions of layer 8: elements cut, repeated and turned. No statement is proved here.
-/
namespace Go.Proofs.YtmfealaaacmohaaGreatDoor
open Go Go.RowKit
set_option linter.unusedVariables false
set_option linter.unusedSimpArgs false
set_option maxHeartbeats 4000000
attribute [local irreducible] CW RW QW SW HW ConM retM heldQ calmQ elemP thenQ blockQ loopQ joinQ retQ Yields Con Sl zF magR unitF truncF fwF wholeF tidySpec elemQ rankF leastN tidyW
set_option maxHeartbeats 8000000

theorem AllN.drop {α : Type} {sz : Nat} {R : List Value → α → Prop} : ∀ (j : Nat) {xs : List Value} {l : List α}, AllN sz R xs l → AllN sz R (xs.drop (j * sz)) (l.drop j)
  | 0, xs, l, h => by simpa using h
  | j + 1, xs, [], h => by have : xs = [] := h; rw [this]; simp; rfl
  | j + 1, xs, a :: l, h => by
    have := AllN.drop j h.2.2
    rw [List.drop_drop] at this
    rw [List.drop_succ_cons, Nat.add_mul, Nat.one_mul, Nat.add_comm]
    exact this
theorem AllN.take {α : Type} {sz : Nat} {R : List Value → α → Prop} : ∀ (j : Nat) {xs : List Value} {l : List α}, AllN sz R xs l → AllN sz R (xs.take (j * sz)) (l.take j)
  | 0, xs, l, h => by simp; rfl
  | j + 1, xs, [], h => by have : xs = [] := h; rw [this]; simp; rfl
  | j + 1, xs, a :: l, h => by
    have h2 := AllN.take j h.2.2
    have h1 := h.1
    have e : (xs.take ((j + 1) * sz)).take sz = xs.take sz := by rw [List.take_take, Nat.add_mul, Nat.one_mul, Nat.min_eq_left (by omega)]
    refine ⟨by rw [e]; exact h1, by rw [e]; exact h.2.1, ?_⟩
    rw [List.drop_take, Nat.add_mul, Nat.one_mul, Nat.add_sub_cancel]
    exact h2
theorem RowsAt.sub {α : Type} {sz : Nat} {R : List Value → α → Prop} {h : GHeap} {ad : Option Addr} {n cp x y : Nat} {l : List α} (hl : RowsAt sz R h (.slice ad n cp) l) (hx : x ≤ y) (hy : y ≤ l.length) : RowsAt sz R h (.slice (subAd ad x cp sz) (y - x) (cp - x)) ((l.drop x).take (y - x)) := by
  obtain ⟨ad', cp', xs, e, hS, hA⟩ := hl
  cases e
  have h1 := (hS.from x (by omega)).take (y - x) (by omega)
  have hlen : ((l.drop x).take (y - x)).length = y - x := by simp; omega
  refine ⟨_, _, _, by rw [hlen], by rw [hlen]; exact h1, ?_⟩
  exact (hA.drop x).take (y - x)
end Go.Proofs.YtmfealaaacmohaaGreatDoor

/-
  Contract of the law's own function of layer 15: elements picked along an axis. No statement is proved here.
-/
namespace Go.Proofs.YtmfealaaacmohaaGreatDoor
open Go Go.RowKit
set_option linter.unusedVariables false
set_option linter.unusedSimpArgs false
set_option maxHeartbeats 4000000
attribute [local irreducible] CW RW QW SW HW ConM retM heldQ calmQ elemP thenQ blockQ loopQ joinQ retQ Yields Con Sl zF magR unitF truncF fwF wholeF tidySpec elemQ rankF leastN tidyW
set_option maxHeartbeats 4000000

section
variable {P : Program} {n : Nat} {L : Env} {w : World} {ty : TypeId} {x y : Operand} {t yt : TypeId}
theorem Y.gtT {k : IntKind} {u v : Int} (hx : opv L x = some (.int k u)) (hy : opv L y = some (.int k v)) (hh : v < u) : Yields P n L w (.binOp .gtr t x y yt) ty (.bool true) := by
  have := Y.gtr (P := P) (n := n) (w := w) (ty := ty) (t := t) (yt := yt) hx hy
  rwa [decide_eq_true hh] at this
end
end Go.Proofs.YtmfealaaacmohaaGreatDoor

/-
  Contract of the law's own function of layer 18: the elements of lists in order. No statement is proved here.
-/
namespace Go.Proofs.YtmfealaaacmohaaGreatDoor
open Go Go.RowKit
set_option linter.unusedVariables false
set_option linter.unusedSimpArgs false
set_option maxHeartbeats 4000000
attribute [local irreducible] CW RW QW SW HW ConM retM heldQ calmQ elemP thenQ blockQ loopQ joinQ retQ Yields Con Sl zF magR unitF truncF fwF wholeF tidySpec elemQ rankF leastN tidyW
set_option maxHeartbeats 4000000

theorem ordersShow_con (k : Nat) (v1 : VecD (AD (k + 1))) (l : List (ItemD (PD (k + 1)))) (c : Int) (hc : v1.cls = c) (he : itemsV (plain (k + 1)) v1 = l) (hlv : l.length = v1.len) : plain (k + 2) (⟨[(v1.len : Int)], v1⟩ : ArrD (AD (k + 1))) = (⟨[(l.length : Int)], l, c⟩ : PlainD (PD (k + 1))) := by
  show (⟨[(v1.len : Int)], itemsV (plain (k + 1)) v1, v1.cls⟩ : PlainD (PD (k + 1))) = _
  rw [he, hlv, hc]
theorem mergeOrdersLaw_con (k : Nat) (cs : List Value) (p : PD (k + 2)) (down : Bool) (w : World) (h : GHeap) (hT : TzTab h) (hp : PlainAt (k + 2) h cs p) (hch : ∀ x ∈ PlainD.items (α := PD (k + 1)) p, -2147483648 ≤ x.char ∧ x.char < 2147483648) : Con Tryz.prog 3 [.agg cs.toArray, .bool down] w h (fun _ u => u = .bool true) := by
  have hp' := hp
  obtain ⟨s, it, rfl, ⟨ad, cp, rfl, _⟩, ⟨ad2, cp2, xs, rfl, _, _⟩⟩ := hp
  refine Con.of_body Tryz.func3 rfl Tryz.ntmps3 rfl rfl ?_
  intro hs
  refine Zrun ?_
  (refine RW.boxN hs rfl rfl ?_; intro b1 w1 hs)
  refine Zerun ?_
  (refine RW.call T hs rfl rfl rfl (refCount_con 3000 (k + 2) _ p _ _ hp') ?_; intro v h2 w2 hle2 hp2 hs)
  obtain ⟨r, rfl⟩ := hp2
  have hp' := PlainAt.mono (k + 2) _ _ _ _ hle2 hp'
  have hT := hT.mono hle2
  by_cases c1 : 1000 < r
  · refine Zerun ?_
    (refine RW.call T hs rfl rfl rfl (awake18_con _ _ hT) ?_; intro v h3 w3 hle3 hp3 hs)
    subst hp3
    refine Zerun ?_
    exact retQ_ret [_] h3 ⟨rfl, trivial⟩ hs.dropAll rfl
  by_cases c2 : 200 < (PlainD.items (α := PD (k + 1)) p).length
  · refine Zerun ?_
    (refine RW.call T hs rfl rfl rfl (awake18_con _ _ hT) ?_; intro v h3 w3 hle3 hp3 hs)
    subst hp3
    refine Zerun ?_
    exact retQ_ret [_] h3 ⟨rfl, trivial⟩ hs.dropAll rfl
  refine Zerun ?_
  (refine RW.call T hs rfl rfl rfl (refCheck_con (k + 2) _ p _ _ hp') ?_; intro v h4 w4 hle4 hp4 hs)
  subst hp4
  have hp' := PlainAt.mono (k + 2) _ _ _ _ hle4 hp'
  have hT := hT.mono hle4
  by_cases hc : chk (k + 2) 40 p = 0
  rotate_left
  · refine Zerun ?_
    (refine RW.call T hs rfl rfl rfl (awake18_con _ _ hT) ?_; intro v h5 w5 hle5 hp5 hs)
    subst hp5
    refine Zerun ?_
    exact retQ_ret [_] h5 ⟨rfl, trivial⟩ hs.dropAll rfl
  refine Zerun ?_
  (refine RW.call T hs rfl rfl rfl (of07_con (k + 2) _ p _ _ hp' hc) ?_; intro v h5 w5 hle5 hp5 hs)
  obtain ⟨cs5, rfl, hl5, ho5, ha5⟩ := hp5
  have htd := tidy_tdy (k + 2) 40 p _ _ hp' hc
  have hp' := PlainAt.mono (k + 2) _ _ _ _ hle5 hp'
  have hT := hT.mono hle5
  have hgood := good_arr (k + 2) 40 p hc
  have hsml := good_sml (k + 2) 40 _ hgood
  have hcr := arr_chars (k + 1) p hch
  have hit := arr_items (k + 1) 40 p hc
  obtain ⟨_, f1, f2, _, _⟩ := (chkP_ok (α := PD (k + 1)) _ _ _).1 hc
  have hfl : (ArrD.vec (α := AD (k + 1)) (arr (k + 2) p)).cls = PlainD.fill (α := PD (k + 1)) p := cls_arrV (arr (k + 1)) _ _ f1 f2
  obtain ⟨s5, vc5, rfl, hsh5, hv5⟩ := ha5
  have hlen := hsml.2.1
  have hk0 := hgood.2.1
  have hbx := hsml.2.2
  generalize ArrD.vec (α := AD (k + 1)) (arr (k + 2) p) = vd at *
  have hv5' := hv5
  have hev := itemsV_even (plain (k + 1)) hv5
  have hiv := itemsV_len (plain (k + 1)) hv5
  have hgg := gI_gV (plain (k + 1)) vd
  rw [hit] at hev hiv hgg
  have hil : (PlainD.items (α := PD (k + 1)) (tidy (k + 2) p)).length = (PlainD.items (α := PD (k + 1)) p).length := List.length_map _
  have hvl : vc5.length = 8 := hv5.size
  obtain ⟨wv, nv, sm, il, fl, ch, bx, ⟨rfl, hoc⟩, -⟩ := hv5
  refine Zerun ?_
  refine RW.val (Y.fieldVec T rfl rfl rfl rfl rfl rfl rfl) rfl ?_
  refine Zerun ?_
  (refine RW.call T hs rfl rfl rfl (mergeOrdered_con (ArrAt.mono (k + 1)) (ArrAt.one (k + 1)) (ArrAt.siz (k + 1)) (blankA k) (fun w h => flatBlank_con (ArrAt.mono k) (ArrAt.one k) w h) _ vd down _ _ hT hv5' hlen hcr hk0) ?_; intro v h6 w6 hle6 hp6 hs)
  have hT := hT.mono hle6
  have hp' := PlainAt.mono (k + 2) _ _ _ _ hle6 hp'
  rcases hp6 with ⟨hcl, cs6, o6, rfl, hv6, hord6⟩ | ⟨hn, cs6, rfl, hv6⟩
  rotate_left
  · have hf2 : PlainD.fill (α := PD (k + 1)) p = 2 := by omega
    have hv6' := hv6
    obtain ⟨wv6, nv6, sm6, il6, fl6, ch6, bx6, ⟨rfl, hoc6⟩, -⟩ := hv6
    refine Zerun ?_
    (refine RW.allocN T hs rfl rfl rfl rfl ?_; intro b7 w7 hs)
    (refine RW.storeAll T hs 0 rfl rfl rfl rfl rfl rfl hoc6 rfl ?_; intro w8 hs)
    refine Zerun ?_
    (refine RW.call T hs rfl rfl rfl (vecKind_con _ _ _ _ hv6') ?_; intro v h9 w9 hle9 hp9 hs)
    subst hp9
    rw [show (VecD.none : VecD (AD (k + 1))).kind = 0 from rfl]
    refine Zerun ?_
    (refine RW.call T hs rfl rfl rfl (awake18_con _ _ (hT.mono hle9)) ?_; intro v h10 w10 hle10 hp10 hs)
    subst hp10
    refine Zerun ?_
    exact retQ_ret [_] h10 ⟨rfl, trivial⟩ hs.dropAll rfl
  have hf2 : ¬ PlainD.fill (α := PD (k + 1)) p = 2 := by omega
  obtain ⟨c, hcc⟩ : ∃ c, PlainD.fill (α := PD (k + 1)) p = c := ⟨_, rfl⟩
  rw [hcc] at hfl hf2
  have hol6 : o6.length = vd.len := hord6.len
  have hpf6 := pick_facts vd (natsI o6) (blankA k)
  have hpc6 := pick_cls vd (natsI o6) (blankA k)
  have hpi6 := pick_items' (β := PD k) (plain (k + 1)) vd (natsI o6) (blankA k) _ c hit hfl rfl
  rw [natsI_len, hol6] at hpf6
  obtain ⟨v1, hv1⟩ : ∃ v1, vd.pick (natsI o6) (blankA k) = v1 := ⟨_, rfl⟩
  rw [hv1] at hv6 hpf6 hpc6 hpi6
  obtain ⟨hk1, hkl, hn1, hb1⟩ := hpf6
  have hsm : ∀ b ∈ v1.boxes, sml (k + 1) b := by
    intro b hb
    rcases hb1 b hb with e | e
    · exact hbx b e
    · rw [e]; exact blankA_sml k
  have hvm : v1.len ≤ 1048576 := by omega
  have hv6' := hv6
  have hkr : 0 ≤ v1.kind ∧ v1.kind ≤ 6 := by
    obtain ⟨_, _, _, _, _, _, _, _, hh⟩ := hv6
    rcases hh with ⟨e, _⟩ | ⟨e, _⟩ | ⟨e, _⟩ | ⟨e, _⟩ | ⟨e, _⟩ | ⟨e, _⟩ | ⟨e, _⟩ <;> omega
  have hkpos : 0 < v1.kind := by omega
  have hiv1 := itemsV_len (plain (k + 1)) hv6
  obtain ⟨wv, nv, sm, il, fl, ch, bx, ⟨rfl, hoc6⟩, -⟩ := hv6
  refine Zerun ?_
  (refine RW.allocN T hs rfl rfl rfl rfl ?_; intro b7 w7 hs)
  (refine RW.storeAll T hs 0 rfl rfl rfl rfl rfl rfl hoc6 rfl ?_; intro w8 hs)
  refine Zerun ?_
  (refine RW.call T hs rfl rfl rfl (refTidyP_con (k + 2) 40 _ p _ _ hp' hc) ?_; intro v h9 w9 hle9 hp9 hs)
  obtain ⟨cs9, rfl, hq9⟩ := hp9
  obtain ⟨s9, it9, rfl, _, hit9⟩ := hq9
  have hit9' := hit9
  obtain ⟨ad9, cp9, xs9, rfl, _, _⟩ := hit9'
  have hT := hT.mono hle9
  have hv6' := hv6'.mono (ArrAt.mono (k + 1)) hle9
  rw [hcc] at hs
  refine Zerun ?_
  refine RW.val (Y.field1 T rfl rfl rfl rfl rfl rfl) rfl ?_
  refine Zerun ?_
  refine CW.meet (fun u : Value => [(2, .pointer (some ⟨b1, 0, none⟩)), (5, .pointer (some ⟨b7, 0, none⟩)), (6, .bool true), (8, u)]) (fun u w' => ∃ h', GLe h9 h' ∧ RowsAt 4 (ItemAt (PlainAt (k + 1)) h') h' u ((natsI o6).map fun i => atD (PlainD.items (α := PD (k + 1)) (tidy (k + 2) p)) i (blankI c : ItemD (PlainD (PD k)))) ∧ Sees w h h' [⟨some ⟨b7, 0, none⟩, 1, 1, 38, 8, vecCells v1.kind wv nv sm il fl ch bx⟩, ⟨some ⟨b1, 0, none⟩, 1, 1, 25, 3, [.slice ad (PlainD.shape (α := PD (k + 1)) p).length cp, .slice ad2 (PlainD.items (α := PD (k + 1)) p).length cp2, .int .i64 c]⟩] w') ?_ ?_
  · refine CW.regionO T hs ?_
    intro w10 hs
    refine HW.takeS (fuel := 7) 0 rfl (fun _ _ hs => Y.move rfl) hs rfl (by kernel_rfl) (by kernel_rfl) (by kernel_rfl) ?_
    refine HW.takeS (fuel := 6) 1 rfl (fun _ _ hs => Y.fieldAddr T rfl rfl rfl rfl rfl) hs rfl (by kernel_rfl) (by kernel_rfl) (by kernel_rfl) ?_
    refine HW.takeS (fuel := 5) 2 rfl (fun _ _ hs => Y.loadRow1 T hs 1 rfl rfl rfl rfl rfl) hs rfl (by kernel_rfl) (by kernel_rfl) (by kernel_rfl) ?_
    refine HW.takeS (fuel := 4) 3 rfl (fun _ _ hs => Y.move rfl) hs rfl (by kernel_rfl) (by kernel_rfl) (by kernel_rfl) ?_
    refine HW.takeS (fuel := 3) 4 rfl (fun _ _ hs => Y.move rfl) hs rfl (by kernel_rfl) (by kernel_rfl) (by kernel_rfl) ?_
    refine HW.one (fuel := 2) 5 rfl (by kernel_rfl) ?_
    (refine RW.call T hs rfl rfl rfl (ref16Grade_con (PlainAt.mono (k + 1)) _ _ vd.cls 1 down _ _ hit9 hev (by omega) (by omega) (by omega)) ?_; intro v h11 w11 hle11 hp11 hs)
    obtain ⟨o11, hI11, hord11⟩ := hp11
    rw [Nat.div_one, hiv] at hord11
    have heq : o6 = o11 := by
      refine (hord6.imp (fun i j hi hj hij => ltS_congr (fun m hm => ?_) hij)).eq hord11 (ltS_asym (ahL_weak _ _ _))
      obtain rfl : m = 0 := by omega
      simp only [Nat.mul_one, Nat.add_zero]
      exact ⟨(hgg hcl i (by omega)).symm, (hgg hcl j (by omega)).symm⟩
    subst heq
    have hit9 := hit9.mono hle11 (fun u a => ItemAt.mono (PlainAt.mono (k + 1)) _ _ u a hle11)
    refine RW.nil ?_
    refine heldQ_normal ⟨_, hs⟩ ?_
    refine HW.one (fuel := 1) 6 rfl (by kernel_rfl) ?_
    (refine RW.call T hs rfl rfl rfl (refPick08_con (PlainAt.mono k) _ _ _ c (natsI o6) _ _ hit9 hI11 (by rw [natsI_len]; omega)) ?_; intro v h12 w12 hle12 hp12 hs)
    refine RW.nil ?_
    refine heldQ_normal ⟨_, hs⟩ ?_
    refine HW.takeS (fuel := 0) 7 rfl (fun _ _ hs => Y.assign rfl) hs rfl (by kernel_rfl) (by kernel_rfl) (by kernel_rfl) ?_
    refine HW.done (by kernel_rfl) ?_
    refine calmQ_normal ?_
    exact joinQ_meet _ ⟨rfl, rfl, rfl, rfl, trivial⟩ ⟨h12, hle11.trans hle12, hp12, hs⟩
  rintro u13 w13 ⟨h13, hg13, hl', hs⟩
  have hT := hT.mono hg13
  have hv' := hv6'.mono (ArrAt.mono (k + 1)) hg13
  obtain ⟨l, hl⟩ : ∃ l, ((natsI o6).map fun i => atD (PlainD.items (α := PD (k + 1)) (tidy (k + 2) p)) i (blankI c : ItemD (PlainD (PD k)))) = l := ⟨_, rfl⟩
  have htt : ∀ x ∈ l, tdyIt (tdy (k + 1)) x := by
    rw [← hl]
    intro x hx
    obtain ⟨i, _, rfl⟩ := List.mem_map.1 hx
    rcases atD_mem (PlainD.items (α := PD (k + 1)) (tidy (k + 2) p)) i (blankI c : ItemD (PlainD (PD k))) with e | e
    · exact htd _ e
    · rw [e]; exact blankI_tdy k _
  rw [hl] at hl'
  have hpi6 : itemsV (plain (k + 1)) v1 = l := hpi6.trans hl
  have hlv : l.length = v1.len := by rw [← hpi6, hiv1]
  have hpe := ordersShow_con k v1 l c (hpc6.trans hfl) hpi6 hlv
  have htd1 : tdy (k + 2) (plain (k + 2) (⟨[(v1.len : Int)], v1⟩ : ArrD (AD (k + 1)))) := fun x hx => htt x (by rw [← hpi6]; exact hx)
  have htd2 : tdy (k + 2) (⟨[(l.length : Int)], l, c⟩ : PlainD (PD (k + 1))) := fun x hx => htt x hx
  have hl'' := hl'
  obtain ⟨adl, cpl, xsl, rfl, _, _⟩ := hl''
  refine Zerun ?_
  refine CW.regionO T hs ?_
  intro w14 hs
  refine HW.takeS (fuel := 26) 0 rfl (fun _ _ hs => Y.move rfl) hs rfl (by kernel_rfl) (by kernel_rfl) (by kernel_rfl) ?_
  refine HW.takeS (fuel := 25) 1 rfl (fun _ _ hs => Y.move rfl) hs rfl (by kernel_rfl) (by kernel_rfl) (by kernel_rfl) ?_
  refine HW.takeSY (fuel := 24) 2 rfl rfl rfl (fun _ _ hs => Y.loadRowN T hs 0 rfl rfl rfl rfl rfl rfl rfl) hs rfl (by kernel_rfl) (by kernel_rfl) (by kernel_rfl) ?_
  refine HW.one (fuel := 23) 3 rfl (by kernel_rfl) ?_
  refine RW.guardYes rfl rfl ?_
  (refine RW.call T hs rfl rfl rfl (sqTight_con (ArrAt.mono (k + 1)) _ v1 _ _ hv' hvm) ?_; intro v h58 w58 hle58 hp58 hs)
  subst hp58
  rw [decide_eq_true hkl]
  have hv' := hv'.mono (ArrAt.mono (k + 1)) hle58
  have hl' := hl'.mono hle58 (fun u a => ItemAt.mono (PlainAt.mono (k + 1)) _ _ u a hle58)
  have hT := hT.mono hle58
  refine RW.nil ?_
  refine heldQ_normal ⟨_, hs⟩ ?_
  refine HW.takeS (fuel := 22) 4 rfl (fun _ _ hs => Y.pickB rfl rfl rfl) hs rfl (by kernel_rfl) (by kernel_rfl) (by kernel_rfl) ?_
  refine HW.takeS (fuel := 21) 5 rfl (fun _ _ hs => Y.move rfl) hs rfl (by kernel_rfl) (by kernel_rfl) (by kernel_rfl) ?_
  refine HW.takeSY (fuel := 20) 6 rfl rfl rfl (fun _ _ hs => Y.loadRowN T hs 0 rfl rfl rfl rfl rfl rfl rfl) hs rfl (by kernel_rfl) (by kernel_rfl) (by kernel_rfl) ?_
  refine HW.one (fuel := 19) 7 rfl (by kernel_rfl) ?_
  refine RW.guardYes rfl rfl ?_
  (refine RW.call T hs rfl rfl rfl (vecKind_con _ v1 _ _ hv') ?_; intro v h62 w62 hle62 hp62 hs)
  subst hp62
  have hv' := hv'.mono (ArrAt.mono (k + 1)) hle62
  have hl' := hl'.mono hle62 (fun u a => ItemAt.mono (PlainAt.mono (k + 1)) _ _ u a hle62)
  have hT := hT.mono hle62
  refine RW.nil ?_
  refine heldQ_normal ⟨_, hs⟩ ?_
  refine HW.takeSY (fuel := 18) 8 rfl rfl rfl (fun _ _ hs => Y.gtT rfl rfl hkpos) hs rfl (by kernel_rfl) (by kernel_rfl) (by kernel_rfl) ?_
  refine HW.takeS (fuel := 17) 9 rfl (fun _ _ hs => Y.pickB rfl rfl rfl) hs rfl (by kernel_rfl) (by kernel_rfl) (by kernel_rfl) ?_
  refine HW.takeS (fuel := 16) 10 rfl (fun _ _ hs => Y.move rfl) hs rfl (by kernel_rfl) (by kernel_rfl) (by kernel_rfl) ?_
  refine HW.takeSY (fuel := 15) 11 rfl rfl rfl (fun _ _ hs => Y.loadRowN T hs 0 rfl rfl rfl rfl rfl rfl rfl) hs rfl (by kernel_rfl) (by kernel_rfl) (by kernel_rfl) ?_
  refine HW.takeSY (fuel := 14) 14 rfl rfl rfl (fun _ _ hs => Y.loadRowN T hs 0 rfl rfl rfl rfl rfl rfl rfl) hs rfl (by kernel_rfl) (by kernel_rfl) (by kernel_rfl) ?_
  refine HW.takeSY (fuel := 13) 17 rfl rfl rfl (fun _ _ hs => Y.move rfl) hs rfl (by kernel_rfl) (by kernel_rfl) (by kernel_rfl) ?_
  refine HW.takeSY (fuel := 12) 18 rfl rfl rfl (fun _ _ hs => Y.fieldAddr T rfl rfl rfl rfl rfl) hs rfl (by kernel_rfl) (by kernel_rfl) (by kernel_rfl) ?_
  refine HW.takeSY (fuel := 11) 19 rfl rfl rfl (fun _ _ hs => Y.loadRow1 T hs 1 rfl rfl rfl rfl rfl) hs rfl (by kernel_rfl) (by kernel_rfl) (by kernel_rfl) ?_
  refine HW.one (fuel := 10) 12 rfl (by kernel_rfl) ?_
  refine RW.guardYes rfl rfl ?_
  (refine RW.call T hs rfl rfl rfl (vecLen_con _ v1 _ _ hv') ?_; intro v h67 w67 hle67 hp67 hs)
  subst hp67
  have hv' := hv'.mono (ArrAt.mono (k + 1)) hle67
  have hl' := hl'.mono hle67 (fun u a => ItemAt.mono (PlainAt.mono (k + 1)) _ _ u a hle67)
  have hT := hT.mono hle67
  refine RW.nil ?_
  refine heldQ_normal ⟨_, hs⟩ ?_
  refine HW.one (fuel := 9) 13 rfl (by kernel_rfl) ?_
  refine RW.guardYes rfl rfl ?_
  (refine RW.lit T hs (vs := [.int .i64 v1.len]) (cs := [.int .i64 v1.len]) rfl rfl rfl rfl (by simp [Value.cells]) rfl rfl rfl rfl rfl ?_; intro b68 w68 hs)
  obtain ⟨h68, hle68, hs, hS68⟩ := hs.freeze
  have ha68 : ArrAt (k + 2) h68 (.slice (some ⟨b68, 0, none⟩) 1 1 :: vecCells v1.kind wv nv sm il fl ch bx) (⟨[(v1.len : Int)], v1⟩ : ArrD (AD (k + 1))) := ⟨_, _, rfl, IntsAt.of_sl hS68, hv'.mono (ArrAt.mono (k + 1)) hle68⟩
  have hl' := hl'.mono hle68 (fun u a => ItemAt.mono (PlainAt.mono (k + 1)) _ _ u a hle68)
  have hT := hT.mono hle68
  refine RW.nil ?_
  refine heldQ_normal ⟨_, hs⟩ ?_
  refine HW.takeSY (fuel := 8) 15 rfl rfl rfl (fun _ _ hs => Y.build T rfl rfl rfl rfl rfl rfl rfl) hs rfl (by kernel_rfl) (by kernel_rfl) (by kernel_rfl) ?_
  refine HW.one (fuel := 7) 16 rfl (by kernel_rfl) ?_
  refine RW.guardYes rfl rfl ?_
  (refine RW.call T hs rfl rfl rfl (plainV_con (k + 2) _ _ _ _ ha68 ⟨(by show 1 ≤ 8; omega), hvm, hsm⟩) ?_; intro v h71 w71 hle71 hp71 hs)
  obtain ⟨cs71, rfl, hq71⟩ := hp71
  have hl' := hl'.mono hle71 (fun u a => ItemAt.mono (PlainAt.mono (k + 1)) _ _ u a hle71)
  have hT := hT.mono hle71
  refine RW.nil ?_
  refine heldQ_normal ⟨_, hs⟩ ?_
  refine HW.one (fuel := 6) 20 rfl (by kernel_rfl) ?_
  refine RW.guardYes rfl rfl ?_
  (refine RW.call T hs rfl rfl rfl (refList08_con (PlainAt.mono (k + 1)) _ _ c _ _ hl') ?_; intro v h75 w75 hle75 hp75 hs)
  obtain ⟨cs75, rfl, hq75⟩ := hp75
  have hT := hT.mono hle75
  have hq71 := PlainAt.mono (k + 2) _ _ _ _ hle75 hq71
  refine RW.nil ?_
  refine heldQ_normal ⟨_, hs⟩ ?_
  refine HW.one (fuel := 5) 21 rfl (by kernel_rfl) ?_
  refine RW.guardYes rfl rfl ?_
  (refine RW.call T hs rfl rfl rfl (refSame_con (k + 2) _ _ _ _ _ _ hq71 hq75 htd1 htd2) ?_; intro v h76 w76 hle76 hp76 hs)
  subst hp76
  rw [eqB_of hpe]
  have hT := hT.mono hle76
  refine RW.nil ?_
  refine heldQ_normal ⟨_, hs⟩ ?_
  refine HW.takeS (fuel := 4) 22 rfl (fun _ _ hs => Y.pickB rfl rfl rfl) hs rfl (by kernel_rfl) (by kernel_rfl) (by kernel_rfl) ?_
  refine HW.takeS (fuel := 3) 23 rfl (fun _ _ hs => Y.move rfl) hs rfl (by kernel_rfl) (by kernel_rfl) (by kernel_rfl) ?_
  refine HW.one (fuel := 2) 24 rfl (by kernel_rfl) ?_
  refine RW.guardYes rfl rfl ?_
  (refine RW.call T hs rfl rfl rfl (awake18_con _ _ hT) ?_; intro v h79 w79 hle79 hp79 hs)
  subst hp79
  have hT := hT.mono hle79
  refine RW.nil ?_
  refine heldQ_normal ⟨_, hs⟩ ?_
  refine HW.takeS (fuel := 1) 25 rfl (fun _ _ hs => Y.pickB rfl rfl rfl) hs rfl (by kernel_rfl) (by kernel_rfl) (by kernel_rfl) ?_
  refine HW.takeS (fuel := 0) 26 rfl (fun _ _ hs => Y.assign rfl) hs rfl (by kernel_rfl) (by kernel_rfl) (by kernel_rfl) ?_
  refine HW.done (by kernel_rfl) ?_
  refine calmQ_normal ?_
  refine Zerun ?_
  exact retQ_ret [_] h79 ⟨rfl, trivial⟩ hs.dropAll rfl
end Go.Proofs.YtmfealaaacmohaaGreatDoor
