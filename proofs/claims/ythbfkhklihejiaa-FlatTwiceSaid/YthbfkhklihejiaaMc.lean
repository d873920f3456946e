/-
  Own texts of the claim, merged: Ii, LibU, Ij, Ik, Ja, Jb, Jc, Jd, Je. Lemmas of the proof; no statement is proved here.
-/
import Derived.Test.YthbfkhklihejiaaMb
/-
  Contracts of functions of package value: an array told as a plain one. No statement is proved here.
-/
namespace Go.Proofs.Ythbfkhklihejiaa
open Go Go.RowKit
set_option linter.unusedVariables false
set_option linter.unusedSimpArgs false
set_option maxHeartbeats 4000000
attribute [local irreducible] CW RW QW SW HW ConM retM heldQ calmQ elemP thenQ blockQ loopQ joinQ retQ Yields Con Sl zF magR unitF truncF fwF wholeF tidySpec elemQ rankF leastN tidyW

section
variable {α β : Type} {R : GHeap → List Value → α → Prop} {RB : GHeap → List Value → β → Prop}
theorem VecAt.sorts {h : GHeap} {cs : List Value} {v : VecD α} (hv : VecAt R h cs v) : (v.cls = 0 ∧ v.len = v.nums.length) ∨ (v.cls = 1 ∧ v.len = v.chars.length) ∨ (v.cls = 2 ∧ v.len = v.boxes.length) := by
  obtain ⟨wv, nv, sm, il, fl, ch, bx, _, hk⟩ := hv
  rcases hk with ⟨_, rfl⟩ | ⟨_, bs, _, rfl, rfl⟩ | ⟨_, l, _, _, rfl⟩ | ⟨_, l, _, _, rfl⟩ | ⟨_, l, _, _, rfl⟩ | ⟨_, l, _, rfl⟩ | ⟨_, l, _, rfl⟩
  all_goals simp [VecD.cls, VecD.len]
theorem itemsV_len (f : α → β) {h : GHeap} {cs : List Value} {v : VecD α} (hv : VecAt R h cs v) : (itemsV f v).length = v.len := by
  unfold itemsV
  rcases hv.sorts with ⟨a, b⟩ | ⟨a, b⟩ | ⟨a, b⟩
  · rw [if_neg (by omega), if_neg (by omega), b]; simp
  · rw [if_pos a, b]; simp
  · rw [if_neg (by omega), if_pos a, b]; simp
theorem getD_map' {γ δ : Type} (g : γ → δ) (l : List γ) (i : Nat) (d : δ) (h : i < l.length) : (l.map g).getD i d = g l[i] := by
  rw [List.getD_eq_getElem?_getD, List.getElem?_map, List.getElem?_eq_getElem h]; rfl
theorem plain_step (hR : Mono R) (hRB : Mono RB) (h1 : One R) (h1B : One RB) (h3 : Siz 3 RB) (f : α → β) (q : α → Prop) (ih : ∀ cs a w h, R h cs a → q a → Con Try.prog 47 [.agg cs.toArray] w h (fun h' u => ∃ cs', u = .agg cs'.toArray ∧ RB h' cs' (f a)))
    (cs : List Value) (a : ArrD α) (w : World) (h : GHeap) (ha : ArrR R h cs a) (hq : ∀ b ∈ a.vec.boxes, q b) (hsl : a.shape.length ≤ 8) (hm : a.vec.len ≤ 1048576) :
    Con Try.prog 47 [.agg cs.toArray] w h (fun h' u => ∃ cs', u = .agg cs'.toArray ∧ PlainR RB h' cs' (plainA f a)) := by
  obtain ⟨s, vc, rfl, hl, hv⟩ := ha
  have hl' := hl
  obtain ⟨ad, cp, rfl, hS⟩ := hl
  have hv' := hv
  have hsort := hv.sorts
  have hil := itemsV_len f hv
  obtain ⟨wv, nv, sm, il, fl, ch, bx, ⟨rfl, hoc⟩, hk⟩ := hv
  clear hk
  refine Con.of_body Try.func47 rfl Try.ntmps47 rfl rfl ?_
  intro hs
  refine Zrun ?_
  (refine RW.boxN hs rfl rfl ?_; intro b1 w1 hs)
  (refine RW.allocN T hs rfl rfl rfl rfl ?_; intro b2 w2 hs)
  refine Zerun ?_
  refine CW.meet (fun u : Nat × Option Addr × Nat × GHeap => [(1, .pointer (some ⟨b1, 0, none⟩)), (2, .pointer (some ⟨b2, 0, none⟩)), (3, .pointer (some ⟨u.1, 0, none⟩))]) (fun u w' => IntsAt u.2.2.2 (.slice u.2.1 a.shape.length u.2.2.1) a.shape ∧ VecAt R u.2.2.2 (vecCells a.vec.kind wv nv sm il fl ch bx) a.vec ∧ Sees w h u.2.2.2 [⟨some ⟨u.1, 0, none⟩, 1, 1, 50, 3, [.slice u.2.1 a.shape.length u.2.2.1, .slice none 0 0, .int .i64 a.vec.cls]⟩, ⟨some ⟨b2, 0, none⟩, 1, 1, 50, 3, [.slice none 0 0, .slice none 0 0, .int .i64 0]⟩, ⟨some ⟨b1, 0, none⟩, 1, 1, 63, 9, .slice ad a.shape.length cp :: vecCells a.vec.kind wv nv sm il fl ch bx⟩] w') ?_ ?_
  · refine CW.regionH T (fun w' : World => ∃ (h' : GHeap) (O : List Row) (k : Nat), Sees w h h' O w' ∧ O[k]? = some (Row.mk (some ⟨b1, 0, none⟩) 1 1 63 9 (.slice ad a.shape.length cp :: vecCells a.vec.kind wv nv sm il fl ch bx))) ?_
    rintro w4 rfl
    have hs := hs.drew
    refine HW.take (fuel := 8) 0 rfl (v := .pointer (some ⟨b1, 0 + 0, none⟩)) ?_ ?_ rfl (by kernel_rfl) (by kernel_rfl) (by kernel_rfl) ?_
    · intro w' _; exact Y.fieldAddr T rfl rfl rfl rfl rfl
    · exact ⟨_, _, 1, hs, rfl⟩
    refine HW.take (fuel := 7) 1 rfl (v := .slice ad a.shape.length cp) ?_ ?_ rfl (by kernel_rfl) (by kernel_rfl) (by kernel_rfl) ?_
    · rintro w' ⟨h', O, k, hs', e0⟩; exact Y.loadRow1 T hs' k e0 rfl rfl rfl rfl
    · exact ⟨_, _, 1, hs, rfl⟩
    refine HW.take (fuel := 6) 3 rfl (v := .pointer (some ⟨b1, 0 + 1, none⟩)) ?_ ?_ rfl (by kernel_rfl) (by kernel_rfl) (by kernel_rfl) ?_
    · intro w' _; exact Y.fieldAddr T rfl rfl rfl rfl rfl
    · exact ⟨_, _, 1, hs, rfl⟩
    refine HW.take (fuel := 5) 4 rfl (v := .agg (vecCells a.vec.kind wv nv sm il fl ch bx).toArray) ?_ ?_ rfl (by kernel_rfl) (by kernel_rfl) (by kernel_rfl) ?_
    · rintro w' ⟨h', O, k, hs', e0⟩; exact Y.loadRowN T hs' k e0 rfl rfl rfl rfl rfl rfl
    · exact ⟨_, _, 1, hs, rfl⟩
    refine HW.two (fuel := 4) 2 7 rfl rfl (by kernel_rfl) ?_ ?_
    · (refine RW.call T hs rfl rfl rfl (cloneInts_con _ a.shape _ _ hl' (by omega)) ?_; intro v h5 w5 hle5 hp5 hs)
      have hl5 := hp5
      obtain ⟨ad5, cp5, rfl, _⟩ := hp5
      have hl' := hl'.mono hle5
      have hv' := hv'.mono hR hle5
      (refine RW.nil ?_; refine heldQ_normal ⟨_, _, 1, hs, rfl⟩ ?_)
      refine HW.two (fuel := 3) 5 7 rfl rfl (by kernel_rfl) ?_ ?_
      · (refine RW.call T hs rfl rfl rfl (vecClass_con _ a.vec _ _ hv') ?_; intro v h6 w6 hle6 hp6 hs)
        subst hp6
        have hl' := hl'.mono hle6
        have hv' := hv'.mono hR hle6
        have hl5 := hl5.mono hle6
        (refine RW.nil ?_; refine heldQ_normal ⟨_, _, 1, hs, rfl⟩ ?_)
        refine HW.take (fuel := 2) 6 rfl (v := .agg [.slice ad5 a.shape.length cp5, .slice none 0 0, .int .i64 a.vec.cls].toArray) ?_ ?_ rfl (by kernel_rfl) (by kernel_rfl) (by kernel_rfl) ?_
        · intro w' _; exact Y.build T rfl rfl rfl rfl rfl rfl rfl
        · exact ⟨_, _, 1, hs, rfl⟩
        refine HW.one (fuel := 1) 7 rfl (by kernel_rfl) ?_
        (refine RW.allocN T hs rfl rfl rfl rfl ?_; intro b7 w7 hs)
        (refine RW.nil ?_; refine heldQ_normal ⟨_, _, 2, hs, rfl⟩ ?_)
        refine HW.one (fuel := 0) 8 rfl (by kernel_rfl) ?_
        (refine RW.storeAll T hs 0 rfl rfl rfl rfl rfl rfl rfl rfl ?_; intro w8 hs)
        (refine RW.nil ?_; refine heldQ_normal ⟨_, _, 2, hs, rfl⟩ ?_)
        refine HW.done (by kernel_rfl) ?_
        refine calmQ_normal ?_
        exact joinQ_meet (b7, ad5, cp5, h6) ⟨rfl, rfl, rfl, trivial⟩ ⟨hl5, hv', hs⟩
      · (refine RW.allocN T hs rfl rfl rfl rfl ?_; intro b7 w7 hs)
        (refine RW.nil ?_; refine heldQ_normal ⟨_, _, 2, hs, rfl⟩ ?_)
        refine HW.one (fuel := 2) 5 rfl (by kernel_rfl) ?_
        (refine RW.call T hs rfl rfl rfl (vecClass_con _ a.vec _ _ hv') ?_; intro v h6 w6 hle6 hp6 hs)
        subst hp6
        have hl' := hl'.mono hle6
        have hv' := hv'.mono hR hle6
        have hl5 := hl5.mono hle6
        (refine RW.nil ?_; refine heldQ_normal ⟨_, _, 2, hs, rfl⟩ ?_)
        refine HW.take (fuel := 1) 6 rfl (v := .agg [.slice ad5 a.shape.length cp5, .slice none 0 0, .int .i64 a.vec.cls].toArray) ?_ ?_ rfl (by kernel_rfl) (by kernel_rfl) (by kernel_rfl) ?_
        · intro w' _; exact Y.build T rfl rfl rfl rfl rfl rfl rfl
        · exact ⟨_, _, 2, hs, rfl⟩
        refine HW.one (fuel := 0) 8 rfl (by kernel_rfl) ?_
        (refine RW.storeAll T hs 0 rfl rfl rfl rfl rfl rfl rfl rfl ?_; intro w8 hs)
        (refine RW.nil ?_; refine heldQ_normal ⟨_, _, 2, hs, rfl⟩ ?_)
        refine HW.done (by kernel_rfl) ?_
        refine calmQ_normal ?_
        exact joinQ_meet (b7, ad5, cp5, h6) ⟨rfl, rfl, rfl, trivial⟩ ⟨hl5, hv', hs⟩
    · (refine RW.allocN T hs rfl rfl rfl rfl ?_; intro b7 w7 hs)
      (refine RW.nil ?_; refine heldQ_normal ⟨_, _, 2, hs, rfl⟩ ?_)
      refine HW.one (fuel := 3) 2 rfl (by kernel_rfl) ?_
      (refine RW.call T hs rfl rfl rfl (cloneInts_con _ a.shape _ _ hl' (by omega)) ?_; intro v h5 w5 hle5 hp5 hs)
      have hl5 := hp5
      obtain ⟨ad5, cp5, rfl, _⟩ := hp5
      have hl' := hl'.mono hle5
      have hv' := hv'.mono hR hle5
      (refine RW.nil ?_; refine heldQ_normal ⟨_, _, 2, hs, rfl⟩ ?_)
      refine HW.one (fuel := 2) 5 rfl (by kernel_rfl) ?_
      (refine RW.call T hs rfl rfl rfl (vecClass_con _ a.vec _ _ hv') ?_; intro v h6 w6 hle6 hp6 hs)
      subst hp6
      have hl' := hl'.mono hle6
      have hv' := hv'.mono hR hle6
      have hl5 := hl5.mono hle6
      (refine RW.nil ?_; refine heldQ_normal ⟨_, _, 2, hs, rfl⟩ ?_)
      refine HW.take (fuel := 1) 6 rfl (v := .agg [.slice ad5 a.shape.length cp5, .slice none 0 0, .int .i64 a.vec.cls].toArray) ?_ ?_ rfl (by kernel_rfl) (by kernel_rfl) (by kernel_rfl) ?_
      · intro w' _; exact Y.build T rfl rfl rfl rfl rfl rfl rfl
      · exact ⟨_, _, 2, hs, rfl⟩
      refine HW.one (fuel := 0) 8 rfl (by kernel_rfl) ?_
      (refine RW.storeAll T hs 0 rfl rfl rfl rfl rfl rfl rfl rfl ?_; intro w8 hs)
      (refine RW.nil ?_; refine heldQ_normal ⟨_, _, 2, hs, rfl⟩ ?_)
      refine HW.done (by kernel_rfl) ?_
      refine calmQ_normal ?_
      exact joinQ_meet (b7, ad5, cp5, h6) ⟨rfl, rfl, rfl, trivial⟩ ⟨hl5, hv', hs⟩
  rintro ⟨b3, ad5, cp5, h5⟩ w5 ⟨hl5, hv', hs⟩
  dsimp only at hl5 hv' hs ⊢
  refine Zerun ?_
  (refine RW.call T hs rfl rfl rfl (vecLen_con _ a.vec _ _ hv') ?_; intro v h6 w6 hle6 hp6 hs)
  subst hp6
  have hv' := hv'.mono hR hle6
  refine Zerun ?_
  have hs := hs.nilRow 83 4
  refine CW.loop (fun u : Nat × Option Addr × Nat × List Value × GHeap => [(1, .pointer (some ⟨b1, 0, none⟩)), (2, .pointer (some ⟨b2, 0, none⟩)), (3, .pointer (some ⟨b3, 0, none⟩)), (15, .int .i64 a.vec.len), (16, .int .i64 u.1)]) (fun u w' => u.1 ≤ a.vec.len ∧ GLe h6 u.2.2.2.2 ∧ AllN 4 (ItemAt RB u.2.2.2.2) u.2.2.2.1 ((itemsV f a.vec).take u.1) ∧ Sees w h u.2.2.2.2 [⟨u.2.1, u.1, u.2.2.1, 83, 4, u.2.2.2.1⟩, ⟨some ⟨b3, 0, none⟩, 1, 1, 50, 3, [.slice ad5 a.shape.length cp5, .slice u.2.1 u.1 u.2.2.1, .int .i64 a.vec.cls]⟩, ⟨some ⟨b2, 0, none⟩, 1, 1, 50, 3, [.slice none 0 0, .slice none 0 0, .int .i64 0]⟩, ⟨some ⟨b1, 0, none⟩, 1, 1, 63, 9, .slice ad a.shape.length cp :: vecCells a.vec.kind wv nv sm il fl ch bx⟩] w') (fun u => a.vec.len - u.1) (0, none, 0, [], h6) ⟨rfl, rfl, rfl, rfl, rfl, trivial⟩ ⟨by omega, GLe.refl _, rfl, hs⟩ ?_
  rintro ⟨i, ra, rc, vs, hh⟩ w7 ⟨hi, hg, hAv, hs⟩
  dsimp only at hi hg hAv hs ⊢
  by_cases hlt : i < a.vec.len
  · have hv' := hv'.mono hR hg
    have htk := take_succ_getD (itemsV f a.vec) i noItem (by omega)
    have done : ∀ (h6 : GHeap) (cs6 : List Value) (x : ItemD β), GLe hh h6 → (itemsV f a.vec).getD i noItem = x → ItemAt RB h6 cs6 x → AllN 4 (ItemAt RB h6) (vs ++ cs6) ((itemsV f a.vec).take (i + 1)) := by
      intro h6 cs6 x hle6 hx hi6
      rw [htk, hx]
      exact (hAv.mono (fun u a => ItemAt.mono hRB _ _ u a hle6)).append (AllN.one (by obtain ⟨_, rfl, _⟩ := hi6; rfl) hi6)
    refine Zerun ?_
    refine RW.val (Y.build T rfl rfl rfl rfl rfl rfl rfl) rfl ?_
    (refine RW.allocN T hs rfl rfl rfl rfl ?_; intro b8 w8 hs)
    (refine RW.storeAll T hs 0 rfl rfl rfl rfl rfl rfl rfl rfl ?_; intro w9 hs)
    refine Zerun ?_
    rcases hsort with ⟨hc, hn⟩ | ⟨hc, hn⟩ | ⟨hc, hn⟩
    · have hx : (itemsV f a.vec).getD i noItem = ⟨0, a.vec.num i, 0, []⟩ := by
        unfold itemsV; rw [if_neg (by omega), if_neg (by omega), getD_map' _ _ _ _ (by omega)]
        unfold VecD.num; rw [if_pos (by omega), Int.toNat_natCast, List.getD_eq_getElem?_getD, List.getElem?_eq_getElem (by omega)]; rfl
      have hnm : a.vec.num i < 18446744073709551616 := by
        unfold VecD.num; rw [if_pos (by omega), Int.toNat_natCast]
        exact (hv'.tidy _ (mem_getD _ _ _ (by omega))).1
      rw [hc] at hs ⊢
      refine Zerun ?_
      (refine RW.call T hs rfl rfl rfl (vecNum_con _ a.vec i _ _ hv') ?_; intro v h10 w10 hle10 hp10 hs)
      subst hp10
      refine Zerun ?_
      (refine RW.store1 T hs 0 rfl rfl rfl rfl rfl rfl rfl rfl ?_; intro w11 hs)
      refine Zerun ?_
      (refine RW.lit T hs (vs := [.agg [.int .i64 0, .float .f64 (a.vec.num i), .int .i32 0, .slice none 0 0].toArray]) (cs := [.int .i64 0, .float .f64 (a.vec.num i), .int .i32 0, .slice none 0 0]) rfl rfl rfl rfl (by simp [Value.cells]) rfl rfl rfl rfl rfl ?_; intro b12 w12 hs)
      (refine RW.append T hs 2 rfl rfl (m := 1) (news := [.int .i64 0, .float .f64 (a.vec.num i), .int .i32 0, .slice none 0 0]) rfl rfl rfl rfl rfl rfl (hs.src0 rfl (by simp [Value.oneCell'])) (by simp) (by dsimp only; omega) (by omega) ?_; intro ad13 cp13 w13 hs; replace hs := hs.drop)
      refine Zerun ?_
      (refine RW.store1 T hs 2 rfl rfl rfl rfl rfl rfl rfl rfl ?_; intro w14 hs)
      refine Zerun ?_
      exact loopQ_round (i + 1, ad13, cp13, _, h10) ⟨rfl, rfl, rfl, rfl, rfl, trivial⟩ ⟨by dsimp only; omega, hg.trans hle10, done h10 _ _ hle10 hx (ItemAt.mk' (x := ⟨0, a.vec.num i, 0, []⟩) (RowsAt.nil _) hnm), hs.drop⟩ (by dsimp only; omega)
    · have hx : (itemsV f a.vec).getD i noItem = ⟨1, 0, a.vec.chr i, []⟩ := by
        unfold itemsV; rw [if_pos hc, getD_map' _ _ _ _ (by omega)]
        unfold VecD.chr; rw [if_pos (by omega), Int.toNat_natCast, List.getD_eq_getElem?_getD, List.getElem?_eq_getElem (by omega)]; rfl
      rw [hc] at hs ⊢
      refine Zerun ?_
      (refine RW.call T hs rfl rfl rfl (vecChar_con _ a.vec i _ _ hv') ?_; intro v h10 w10 hle10 hp10 hs)
      subst hp10
      refine Zerun ?_
      (refine RW.store1 T hs 0 rfl rfl rfl rfl rfl rfl rfl rfl ?_; intro w11 hs)
      refine Zerun ?_
      (refine RW.lit T hs (vs := [.agg [.int .i64 1, .float .f64 0, .int .i32 (a.vec.chr i), .slice none 0 0].toArray]) (cs := [.int .i64 1, .float .f64 0, .int .i32 (a.vec.chr i), .slice none 0 0]) rfl rfl rfl rfl (by simp [Value.cells]) rfl rfl rfl rfl rfl ?_; intro b12 w12 hs)
      (refine RW.append T hs 2 rfl rfl (m := 1) (news := [.int .i64 1, .float .f64 0, .int .i32 (a.vec.chr i), .slice none 0 0]) rfl rfl rfl rfl rfl rfl (hs.src0 rfl (by simp [Value.oneCell'])) (by simp) (by dsimp only; omega) (by omega) ?_; intro ad13 cp13 w13 hs; replace hs := hs.drop)
      refine Zerun ?_
      (refine RW.store1 T hs 2 rfl rfl rfl rfl rfl rfl rfl rfl ?_; intro w14 hs)
      refine Zerun ?_
      exact loopQ_round (i + 1, ad13, cp13, _, h10) ⟨rfl, rfl, rfl, rfl, rfl, trivial⟩ ⟨by dsimp only; omega, hg.trans hle10, done h10 _ _ hle10 hx (ItemAt.mk' (x := ⟨1, 0, a.vec.chr i, []⟩) (RowsAt.nil _) (Nat.succ_pos _)), hs.drop⟩ (by dsimp only; omega)
    · have hib : i < a.vec.boxes.length := by omega
      have hx : (itemsV f a.vec).getD i noItem = ⟨2, 0, 0, [f a.vec.boxes[i]]⟩ := by
        unfold itemsV; rw [if_neg (by omega), if_pos hc, getD_map' _ _ _ _ hib]
      rw [hc] at hs ⊢
      refine Zerun ?_
      (refine RW.call T hs rfl rfl rfl (vecBox_con hR h1 _ a.vec i a.vec.boxes[i] _ _ hv' hib) ?_; intro v h10 w10 hle10 hp10 hs)
      obtain ⟨cs10, rfl, hl10, hR10⟩ := hp10
      rw [List.getD_eq_getElem?_getD, List.getElem?_eq_getElem hib] at hR10
      (refine RW.call T hs rfl rfl rfl (ih _ a.vec.boxes[i] _ _ hR10 (hq _ (List.getElem_mem hib))) ?_; intro v h11 w11 hle11 hp11 hs)
      obtain ⟨cs11, rfl, hR11⟩ := hp11
      have hl11 := h3 _ _ _ hR11
      have ho11 := h1B _ _ _ hR11
      (refine RW.lit T hs (vs := [.agg cs11.toArray]) (cs := cs11) rfl rfl rfl rfl (by simp [Value.cells, hl11]) rfl (by simp [Value.cells]) rfl rfl rfl ?_; intro b12 w12 hs)
      refine Zerun ?_
      (refine RW.store1 T hs 1 rfl rfl rfl rfl rfl rfl rfl rfl ?_; intro w13 hs)
      obtain ⟨h14, hle14, hs, hS14⟩ := hs.freeze
      have hR14 : RowsAt 3 (RB h14) h14 (.slice (some ⟨b12, 0, none⟩) 1 1) [f a.vec.boxes[i]] := RowsAt.single hS14 (hRB _ _ _ _ hle14 hR11)
      refine Zerun ?_
      (refine RW.lit T hs (vs := [.agg [.int .i64 2, .float .f64 0, .int .i32 0, .slice (some ⟨b12, 0, none⟩) 1 1].toArray]) (cs := [.int .i64 2, .float .f64 0, .int .i32 0, .slice (some ⟨b12, 0, none⟩) 1 1]) rfl rfl rfl rfl (by simp [Value.cells]) rfl rfl rfl rfl rfl ?_; intro b15 w15 hs)
      (refine RW.append T hs 2 rfl rfl (m := 1) (news := [.int .i64 2, .float .f64 0, .int .i32 0, .slice (some ⟨b12, 0, none⟩) 1 1]) rfl rfl rfl rfl rfl rfl (hs.src0 rfl (by simp [Value.oneCell'])) (by simp) (by dsimp only; omega) (by omega) ?_; intro ad16 cp16 w16 hs; replace hs := hs.drop)
      refine Zerun ?_
      (refine RW.store1 T hs 2 rfl rfl rfl rfl rfl rfl rfl rfl ?_; intro w17 hs)
      refine Zerun ?_
      exact loopQ_round (i + 1, ad16, cp16, _, h14) ⟨rfl, rfl, rfl, rfl, rfl, trivial⟩ ⟨by dsimp only; omega, hg.trans (hle10.trans (hle11.trans hle14)), done h14 _ _ (hle10.trans (hle11.trans hle14)) hx (ItemAt.mk' (x := ⟨2, 0, 0, [f a.vec.boxes[i]]⟩) hR14 (Nat.succ_pos _)), hs.drop⟩ (by dsimp only; omega)
  · obtain rfl : i = a.vec.len := by omega
    rw [← hil, List.take_length] at hAv
    obtain ⟨h8, hle8, hs, hS8⟩ := hs.freeze
    refine Zerun ?_
    (refine RW.storeAll T hs 1 rfl rfl rfl rfl rfl rfl rfl rfl ?_; intro w9 hs)
    refine Zerun ?_
    refine retQ_ret [_] h8 ⟨resN T hs 1 rfl rfl rfl rfl rfl rfl, trivial⟩ hs.dropAll ⟨_, rfl, _, _, rfl, hl5.mono (hle6.trans (hg.trans hle8)), ra, rc, vs, by simp [plainA, hil], ?_, hAv.mono (fun u a => ItemAt.mono hRB _ _ u a hle8)⟩
    show Sl h8 4 ra (itemsV f a.vec).length rc vs
    rw [hil]
    exact hS8
end
theorem plainV_con : ∀ (k : Nat) (cs : List Value) (a : AD k) (w : World) (h : GHeap), ArrAt k h cs a → sml k a → Con Try.prog 47 [.agg cs.toArray] w h (fun h' u => ∃ cs', u = .agg cs'.toArray ∧ PlainAt k h' cs' (plain k a))
  | 0, _, _, _, _, ha, _ => ha.elim
  | k + 1, cs, a, w, h, ha, hs => plain_step (ArrAt.mono k) (PlainAt.mono k) (ArrAt.one k) (PlainAt.one k) (PlainAt.siz k) (plain k) (sml k) (fun cs a w h ha hs => plainV_con k cs a w h ha hs) cs a w h ha hs.2.2 hs.1 hs.2.1
end Go.Proofs.Ythbfkhklihejiaa

/-
  The program logic, seventeenth part: regions that draw their order, the call's own rows fixed. No statement is proved here.
-/
namespace Go.Proofs.Ythbfkhklihejiaa
open Go Go.RowKit
set_option linter.unusedVariables false
set_option linter.unusedSimpArgs false
set_option linter.unusedVariables false
section
variable {P : Program} {n : Nat} {Q : Post} {L : Env} {w0 w : World} {h0 h : GHeap} {O : List Row} {ops rest : List Oper} {x y : Operand} {t : TypeId}
variable {d : Option Tmp} {ty yt : TypeId} {pos : String} {aft : Array Edge} {fuel : Nat} {listed : Array Bool}
def SO (w0 : World) (h0 : GHeap) (O : List Row) (w : World) : Prop := ∃ h', Sees w0 h0 h' O w
theorem CW.regionO (T' : Tab P) (hs : Sees w0 h0 h O w) {id : Nat} {l : List Oper} (K : ∀ w', Sees w0 h0 h O w' → HW P n l (calmQ Q) (SO w0 h0 O) l.length (Array.replicate l.length false) L w') : CW P n Q (.region id l.toArray true) L w :=
  CW.regionH T' (SO w0 h0 O) (fun w' e => by subst e; exact K _ hs.drew)
theorem HW.takeS (i : Nat) {op : Op} {v : Value} (hi : ops.toArray[i]? = some ⟨d, op, ty, pos, aft, none⟩) (hy : ∀ h' w', Sees w0 h0 h' O w' → Yields P n L w' op ty v) (hS : Sees w0 h0 h O w) (hd : dstOk n d = true)
    (hs : Region.noSelect ops.toArray = true) (hf : Region.free .any ops.toArray listed i = true) (hr : (Region.ready .any ops.toArray listed).contains i = true)
    (hh : HW P n ops (calmQ Q) (SO w0 h0 O) fuel (listed.setIfInBounds i true) (updo d v L) w) : HW P n ops (calmQ Q) (SO w0 h0 O) (fuel + 1) listed L w :=
  HW.take i hi (fun w' ⟨h', s⟩ => hy h' w' s) ⟨h, hS⟩ hd hs hf hr hh
theorem HW.takeSY (i : Nat) {op : Op} {v : Value} {j : Nat} {want : Bool} {t : Tmp} (hi : ops.toArray[i]? = some ⟨d, op, ty, pos, aft, some (j, want)⟩) (hj : gdst ops j = some t) (ht : get L t = some (.bool want)) (hy : ∀ h' w', Sees w0 h0 h' O w' → Yields P n L w' op ty v) (hS : Sees w0 h0 h O w) (hd : dstOk n d = true)
    (hs : Region.noSelect ops.toArray = true) (hf : Region.free .any ops.toArray listed i = true) (hr : (Region.ready .any ops.toArray listed).contains i = true)
    (hh : HW P n ops (calmQ Q) (SO w0 h0 O) fuel (listed.setIfInBounds i true) (updo d v L) w) : HW P n ops (calmQ Q) (SO w0 h0 O) (fuel + 1) listed L w :=
  HW.takeYes i hi hj ht (fun w' ⟨h', s⟩ => hy h' w' s) ⟨h, hS⟩ hd hs hf hr hh
theorem HW.takeSN (i : Nat) {op : Op} {j : Nat} {want b : Bool} {t : Tmp} (hi : ops.toArray[i]? = some ⟨d, op, ty, pos, aft, some (j, want)⟩) (hj : gdst ops j = some t) (ht : get L t = some (.bool b)) (hb : (b == want) = false) (hS : Sees w0 h0 h O w) (hd : dstOk n d = true)
    (hs : Region.noSelect ops.toArray = true) (hf : Region.free .any ops.toArray listed i = true) (hr : (Region.ready .any ops.toArray listed).contains i = true)
    (hh : HW P n ops (calmQ Q) (SO w0 h0 O) fuel (listed.setIfInBounds i true) (updo d undef L) w) : HW P n ops (calmQ Q) (SO w0 h0 O) (fuel + 1) listed L w :=
  HW.takeNo i hi hj ht hb ⟨h, hS⟩ hd hs hf hr hh
theorem Y.neqF {k : IntKind} {u v : Int} (hx : opv L x = some (.int k u)) (hy : opv L y = some (.int k v)) (h : u = v) : Yields P n L w (.binOp .neq t x y yt) ty (.bool false) := by
  have := Y.neq (P := P) (n := n) (w := w) (ty := ty) (t := t) (yt := yt) hx hy
  rwa [decide_eq_false (fun e => e h)] at this
theorem Y.neqT {k : IntKind} {u v : Int} (hx : opv L x = some (.int k u)) (hy : opv L y = some (.int k v)) (h : u ≠ v) : Yields P n L w (.binOp .neq t x y yt) ty (.bool true) := by
  have := Y.neq (P := P) (n := n) (w := w) (ty := ty) (t := t) (yt := yt) hx hy
  rwa [decide_eq_true h] at this
theorem Y.eqF {k : IntKind} {u v : Int} (hx : opv L x = some (.int k u)) (hy : opv L y = some (.int k v)) (h : u ≠ v) : Yields P n L w (.binOp .eql t x y yt) ty (.bool false) := by
  have := Y.eql (P := P) (n := n) (w := w) (ty := ty) (t := t) (yt := yt) hx hy
  rwa [decide_eq_false h] at this
theorem Y.neqBF (T : Tab P) {b b' : Bool} (hT : T.ty t = some .bool) (hx : opv L x = some (.bool b)) (hy : opv L y = some (.bool b')) (h : b = b') : Yields P n L w (.binOp .neq t x y yt) ty (.bool false) := by
  have := Y.neqB (P := P) (n := n) (w := w) (ty := ty) (yt := yt) T hT hx hy
  rw [h] at this
  simpa using this
theorem Y.pickB {c : Operand} {b : Bool} {v u : Value} (hc : opv L c = some (.bool b)) (hx : opv L x = some v) (hy : opv L y = some u) : Yields P n L w (.pick c x y) ty (bif b then v else u) := by
  cases b with
  | true => exact Y.pickT hc hx
  | false => exact Y.pickF hc hy
theorem Y.eqT {k : IntKind} {u v : Int} (hx : opv L x = some (.int k u)) (hy : opv L y = some (.int k v)) (h : u = v) : Yields P n L w (.binOp .eql t x y yt) ty (.bool true) := by
  have := Y.eql (P := P) (n := n) (w := w) (ty := ty) (t := t) (yt := yt) hx hy
  rwa [decide_eq_true h] at this
end
end Go.Proofs.Ythbfkhklihejiaa

/-
  Contracts of the law's own functions of layer 7: the chapter's example; the array of a plain one. No statement is proved here.
-/
namespace Go.Proofs.Ythbfkhklihejiaa
open Go Go.RowKit
set_option linter.unusedVariables false
set_option linter.unusedSimpArgs false
set_option maxHeartbeats 4000000
attribute [local irreducible] CW RW QW SW HW ConM retM heldQ calmQ elemP thenQ blockQ loopQ joinQ retQ Yields Con Sl zF magR unitF truncF fwF wholeF tidySpec elemQ rankF leastN tidyW

/-! ## Plain facts -/
theorem AllN.mem {α : Type} {sz : Nat} {R : List Value → α → Prop} : ∀ {xs : List Value} {l : List α}, AllN sz R xs l → ∀ a ∈ l, ∃ cs, R cs a
  | _, [], _, _, h => by cases h
  | xs, b :: l, h, a, ha => by
    rcases List.mem_cons.1 ha with rfl | ha
    · exact ⟨_, h.2.1⟩
    · exact AllN.mem h.2.2 a ha
theorem tidy_tdy : ∀ (k : Nat) (d : Int) (p : PD k) (h : GHeap) (cs : List Value), PlainAt k h cs p → chk k d p = 0 → tdy k (tidy k p)
  | 0, _, _, _, _, _, _ => trivial
  | k + 1, d, p, h, cs, hp, hc => by
    obtain ⟨h1, h2, h3, h4, h5⟩ := (chkP_ok (α := PD k) _ _ _).1 hc
    obtain ⟨s, it, rfl, hl, ⟨ad2, cp2, xs, rfl, hS2, hA⟩⟩ := hp
    show tdyP (tdy k) (tidyP (tidy k) p)
    intro y hy
    obtain ⟨x, hx, rfl⟩ := List.mem_map.1 hy
    obtain ⟨cx, bx, rfl, ⟨ad3, cp3, ys, rfl, hS3, hA3⟩, hn⟩ := hA.mem x hx
    obtain ⟨o1, o2, o3⟩ := h5 x hx
    unfold tidyIt
    by_cases k0 : x.kind = 0
    · rw [if_pos k0]
      exact ⟨tidyW_tidy hn (o3 k0), by simp⟩
    rw [if_neg k0]
    by_cases k1 : x.kind = 1
    · rw [if_pos k1]
      exact ⟨tidy0, by simp⟩
    rw [if_neg k1]
    by_cases k2 : x.kind = 2
    · rw [if_pos k2]
      refine ⟨tidy0, ?_⟩
      obtain ⟨b, hb, hcb⟩ := o2 k2
      intro b' hb'
      dsimp only at hb'
      rw [hb] at hb' hA3
      simp at hb'
      subst hb'
      obtain ⟨cb, hRb⟩ := hA3.mem b (by simp)
      exact tidy_tdy k (d - 1) b h cb hRb hcb
    · rw [if_neg k2]
      exact ⟨tidy0, by simp⟩
/-- the chapter's example: the identity of two rows -/
def p0 : PD 1 := (⟨[2, 2], [⟨0, 4607182418800017408, 0, []⟩, ⟨0, 0, 0, []⟩, ⟨0, 0, 0, []⟩, ⟨0, 4607182418800017408, 0, []⟩], 0⟩ : PlainD Unit)
theorem tidy1 : tidyF 4607182418800017408 := ⟨by omega, fin1, by omega⟩
theorem tidyW0 : tidyW 0 = 0 := by unfold tidyW; rw [tidySpec_of 0 tidy0]
theorem tidyW1 : tidyW 4607182418800017408 = 4607182418800017408 := by unfold tidyW; rw [tidySpec_of _ tidy1]
theorem p0_mem {x : ItemD (PD 0)} (hx : x ∈ PlainD.items (α := PD 0) p0) : x = ⟨0, 4607182418800017408, 0, []⟩ ∨ x = ⟨0, 0, 0, []⟩ := by
  have h : x ∈ ([⟨0, 4607182418800017408, 0, []⟩, ⟨0, 0, 0, []⟩, ⟨0, 0, 0, []⟩, ⟨0, 4607182418800017408, 0, []⟩] : List (ItemD (PD 0))) := hx
  simp only [List.mem_cons, List.not_mem_nil, or_false] at h
  rcases h with h | h | h | h
  · exact .inl h
  · exact .inr h
  · exact .inr h
  · exact .inl h
theorem p0_chk : chk 1 40 p0 = 0 := by
  refine (chkP_ok (α := PD 0) _ _ _).2 ⟨by omega, by decide, by decide, by decide, ?_⟩
  intro x hx
  rcases p0_mem hx with rfl | rfl
  · exact ⟨rfl, fun e => absurd e (by decide), fun _ => fin1⟩
  · exact ⟨rfl, fun e => absurd e (by decide), fun _ => fin0⟩
theorem p0_tidy : tidy 1 p0 = p0 := by
  have t1 : tidyIt (tidy 0) (⟨0, 4607182418800017408, 0, []⟩ : ItemD (PD 0)) = ⟨0, 4607182418800017408, 0, []⟩ := by unfold tidyIt; rw [if_pos rfl, tidyW1]
  have t0 : tidyIt (tidy 0) (⟨0, 0, 0, []⟩ : ItemD (PD 0)) = ⟨0, 0, 0, []⟩ := by unfold tidyIt; rw [if_pos rfl, tidyW0]
  show (⟨[2, 2], [tidyIt (tidy 0) ⟨0, 4607182418800017408, 0, []⟩, tidyIt (tidy 0) ⟨0, 0, 0, []⟩, tidyIt (tidy 0) ⟨0, 0, 0, []⟩, tidyIt (tidy 0) ⟨0, 4607182418800017408, 0, []⟩], 0⟩ : PlainD (PD 0)) = _
  rw [t1, t0]
  rfl
theorem p0_tdy : tdy 1 p0 := by
  intro x hx
  rcases p0_mem hx with rfl | rfl
  · exact ⟨tidy1, by simp⟩
  · exact ⟨tidy0, by simp⟩
theorem p0_depth : depth 1 p0 = 1 := by
  show depthP _ _ = _
  unfold depthP
  rfl
theorem p0_kind : (ArrD.vec (α := AD 0) (arr 1 p0)).kind = 1 := by
  have e : (arrV (arr 0) 0 [⟨0, 4607182418800017408, 0, []⟩, ⟨0, 0, 0, []⟩, ⟨0, 0, 0, []⟩, ⟨0, 4607182418800017408, 0, []⟩]).kind = leastN [4607182418800017408, 0, 0, 4607182418800017408] := by
    unfold arrV
    rw [if_neg (by omega), if_neg (by omega)]
    simp [tidyW0, tidyW1]
  show (arrV (arr 0) 0 [⟨0, 4607182418800017408, 0, []⟩, ⟨0, 0, 0, []⟩, ⟨0, 0, 0, []⟩, ⟨0, 4607182418800017408, 0, []⟩]).kind = 1
  rw [e]
  have h1 := (leastN_bounds [4607182418800017408, 0, 0, 4607182418800017408]).1
  have h2 : leastN [4607182418800017408, 0, 0, 4607182418800017408] ≤ 1 := by
    rw [leastN.eq_1]
    refine fold_le _ 1 1 (by omega) ?_
    intro x hx
    simp only [List.mem_cons, List.not_mem_nil, or_false] at hx
    rcases hx with rfl | rfl | rfl | rfl
    · exact (rank_bit _ tidy1).2 (.inr fw1.symm)
    · exact (rank_bit _ tidy0).2 (.inl fw0.symm)
    · exact (rank_bit _ tidy0).2 (.inl fw0.symm)
    · exact (rank_bit _ tidy1).2 (.inr fw1.symm)
  omega

theorem awake07_con (w : World) (h : GHeap) : Con Try.prog 41 [] w h (fun _ u => u = .bool true) := by
  refine Con.of_body Try.func41 rfl Try.ntmps41 rfl rfl ?_
  intro hs
  refine Zrun ?_
  (refine RW.lit T hs (vs := [.int .i64 2, .int .i64 2]) rfl rfl rfl rfl (by simp [Value.cells]) rfl rfl rfl rfl rfl ?_; intro b1 w1 hs)
  obtain ⟨h1, hle1, hs, hS1⟩ := hs.freeze
  have hI1 : IntsAt h1 (.slice (some ⟨b1, 0, none⟩) 2 2) [2, 2] := IntsAt.of_sl hS1
  refine RW.val (Y.build T rfl rfl rfl rfl rfl rfl rfl) rfl ?_
  refine RW.val (Y.build T rfl rfl rfl rfl rfl rfl rfl) rfl ?_
  refine RW.val (Y.build T rfl rfl rfl rfl rfl rfl rfl) rfl ?_
  refine RW.val (Y.build T rfl rfl rfl rfl rfl rfl rfl) rfl ?_
  (refine RW.lit T hs (vs := [.agg [.int .i64 0, .float .f64 4607182418800017408, .int .i32 0, .slice none 0 0].toArray, .agg [.int .i64 0, .float .f64 0, .int .i32 0, .slice none 0 0].toArray, .agg [.int .i64 0, .float .f64 0, .int .i32 0, .slice none 0 0].toArray, .agg [.int .i64 0, .float .f64 4607182418800017408, .int .i32 0, .slice none 0 0].toArray]) (cs := [.int .i64 0, .float .f64 4607182418800017408, .int .i32 0, .slice none 0 0, .int .i64 0, .float .f64 0, .int .i32 0, .slice none 0 0, .int .i64 0, .float .f64 0, .int .i32 0, .slice none 0 0, .int .i64 0, .float .f64 4607182418800017408, .int .i32 0, .slice none 0 0]) rfl rfl rfl rfl (by simp [Value.cells]) rfl rfl rfl rfl rfl ?_; intro b2 w2 hs)
  obtain ⟨h2, hle2, hs, hS2⟩ := hs.freeze
  have hp : PlainAt 1 h2 [.slice (some ⟨b1, 0, none⟩) 2 2, .slice (some ⟨b2, 0, none⟩) 4 4, .int .i64 0] p0 := by
    refine ⟨_, _, rfl, hI1.mono hle2, some ⟨b2, 0, none⟩, 4, _, rfl, hS2, ?_⟩
    refine ⟨rfl, ⟨_, rfl, RowsAt.nil _, by decide⟩, rfl, ⟨_, rfl, RowsAt.nil _, by decide⟩, rfl, ⟨_, rfl, RowsAt.nil _, by decide⟩, rfl, ⟨_, rfl, RowsAt.nil _, by decide⟩, rfl⟩
  refine RW.val (Y.build T rfl rfl rfl rfl rfl rfl rfl) rfl ?_
  (refine RW.allocN T hs rfl rfl rfl rfl ?_; intro b3 w3 hs)
  (refine RW.storeAll T hs 0 rfl rfl rfl rfl rfl rfl rfl rfl ?_; intro w4 hs)
  refine Zerun ?_
  (refine RW.call T hs rfl rfl rfl (valueOf_con 1 _ p0 _ _ hp) ?_; intro v h5 w5 hle5 hp5 hs)
  rw [p0_chk] at hp5
  obtain ⟨cs5, rfl, hl5, ho5, ha5, _⟩ := hp5
  have ha' := ha5 rfl
  have hp' := PlainAt.mono 1 _ _ _ _ hle5 hp
  have ha2 := ha'
  obtain ⟨s5, vc5, rfl, _, hv'⟩ := ha2
  have hv2 := hv'
  obtain ⟨wv, nv, sm, il, fl, ch, bx, ⟨rfl, _⟩, _⟩ := hv2
  refine Zerun ?_
  (refine RW.allocN T hs rfl rfl rfl rfl ?_; intro b6 w6 hs)
  (refine RW.storeAll T hs 0 rfl rfl rfl rfl rfl rfl (List.all_eq_true.2 ho5) rfl ?_; intro w7 hs)
  refine Zerun ?_
  refine CW.regionO T hs ?_
  intro w8 hs
  refine HW.takeS (fuel := 23) 0 rfl (fun _ _ hs => Y.move rfl) hs rfl (by kernel_rfl) (by kernel_rfl) (by kernel_rfl) ?_
  refine HW.takeS (fuel := 22) 1 rfl (fun _ _ hs => Y.eqT rfl rfl rfl) hs rfl (by kernel_rfl) (by kernel_rfl) (by kernel_rfl) ?_
  refine HW.takeS (fuel := 21) 2 rfl (fun _ _ hs => Y.move rfl) hs rfl (by kernel_rfl) (by kernel_rfl) (by kernel_rfl) ?_
  refine HW.takeSY (fuel := 20) 3 rfl rfl rfl (fun _ _ hs => Y.fieldAddr T rfl rfl rfl rfl rfl) hs rfl (by kernel_rfl) (by kernel_rfl) (by kernel_rfl) ?_
  refine HW.takeSY (fuel := 19) 4 rfl rfl rfl (fun _ _ hs => Y.loadRowN T hs 0 rfl rfl rfl rfl rfl rfl rfl) hs rfl (by kernel_rfl) (by kernel_rfl) (by kernel_rfl) ?_
  refine HW.one (fuel := 18) 5 rfl (by kernel_rfl) ?_
  refine RW.guardYes rfl rfl ?_
  (refine RW.call T hs rfl rfl rfl (vecKind_con _ (arr 1 p0).vec _ _ hv') ?_; intro v h21 w21 hle21 hp21 hs)
  subst hp21
  have ha' := ArrAt.mono 1 _ _ _ _ hle21 ha'
  have hv' := hv'.mono (ArrAt.mono 0) hle21
  have hp' := PlainAt.mono 1 _ _ _ _ hle21 hp'
  refine RW.nil ?_
  refine heldQ_normal ⟨_, hs⟩ ?_
  refine HW.takeSY (fuel := 17) 6 rfl rfl rfl (fun _ _ hs => Y.eqT rfl rfl p0_kind) hs rfl (by kernel_rfl) (by kernel_rfl) (by kernel_rfl) ?_
  refine HW.takeS (fuel := 16) 7 rfl (fun _ _ hs => Y.pickT rfl rfl) hs rfl (by kernel_rfl) (by kernel_rfl) (by kernel_rfl) ?_
  refine HW.takeS (fuel := 15) 8 rfl (fun _ _ hs => Y.move rfl) hs rfl (by kernel_rfl) (by kernel_rfl) (by kernel_rfl) ?_
  refine HW.takeSY (fuel := 14) 9 rfl rfl rfl (fun _ _ hs => Y.loadRowN T hs 0 rfl rfl rfl rfl rfl rfl rfl) hs rfl (by kernel_rfl) (by kernel_rfl) (by kernel_rfl) ?_
  refine HW.one (fuel := 13) 10 rfl (by kernel_rfl) ?_
  refine RW.guardYes rfl rfl ?_
  (refine RW.call T hs rfl rfl rfl (valueDepth_con 1 40 _ (arr 1 p0) _ _ (by omega) (by omega) ha' (good_arr 1 40 p0 p0_chk)) ?_; intro v h26 w26 hle26 hp26 hs)
  subst hp26
  have ha' := ArrAt.mono 1 _ _ _ _ hle26 ha'
  have hp' := PlainAt.mono 1 _ _ _ _ hle26 hp'
  refine RW.nil ?_
  refine heldQ_normal ⟨_, hs⟩ ?_
  refine HW.takeSY (fuel := 12) 11 rfl rfl rfl (fun _ _ hs => Y.eqT rfl rfl (by rw [depth_arr 1 40 p0 p0_chk, p0_depth])) hs rfl (by kernel_rfl) (by kernel_rfl) (by kernel_rfl) ?_
  refine HW.takeS (fuel := 11) 12 rfl (fun _ _ hs => Y.pickT rfl rfl) hs rfl (by kernel_rfl) (by kernel_rfl) (by kernel_rfl) ?_
  refine HW.takeS (fuel := 10) 13 rfl (fun _ _ hs => Y.move rfl) hs rfl (by kernel_rfl) (by kernel_rfl) (by kernel_rfl) ?_
  refine HW.takeSY (fuel := 9) 14 rfl rfl rfl (fun _ _ hs => Y.loadRowN T hs 0 rfl rfl rfl rfl rfl rfl rfl) hs rfl (by kernel_rfl) (by kernel_rfl) (by kernel_rfl) ?_
  refine HW.takeSY (fuel := 8) 16 rfl rfl rfl (fun _ _ hs => Y.loadRowN T hs 1 rfl rfl rfl rfl rfl rfl rfl) hs rfl (by kernel_rfl) (by kernel_rfl) (by kernel_rfl) ?_
  refine HW.one (fuel := 7) 15 rfl (by kernel_rfl) ?_
  refine RW.guardYes rfl rfl ?_
  (refine RW.call T hs rfl rfl rfl (plainV_con 1 _ (arr 1 p0) _ _ ha' (good_sml 1 40 _ (good_arr 1 40 p0 p0_chk))) ?_; intro v h31 w31 hle31 hp31 hs)
  obtain ⟨cs31, rfl, hq31⟩ := hp31
  rw [plain_arr 1 40 p0 p0_chk, p0_tidy] at hq31
  have ha' := ArrAt.mono 1 _ _ _ _ hle31 ha'
  have hp' := PlainAt.mono 1 _ _ _ _ hle31 hp'
  refine RW.nil ?_
  refine heldQ_normal ⟨_, hs⟩ ?_
  refine HW.one (fuel := 6) 17 rfl (by kernel_rfl) ?_
  refine RW.guardYes rfl rfl ?_
  (refine RW.call T hs rfl rfl rfl (refSame_con 1 _ _ p0 p0 _ _ hq31 hp' p0_tdy p0_tdy) ?_; intro v h33 w33 hle33 hp33 hs)
  subst hp33
  rw [eqB_of (show p0 = p0 from rfl)]
  have ha' := ArrAt.mono 1 _ _ _ _ hle33 ha'
  refine RW.nil ?_
  refine heldQ_normal ⟨_, hs⟩ ?_
  refine HW.takeS (fuel := 5) 18 rfl (fun _ _ hs => Y.pickT rfl rfl) hs rfl (by kernel_rfl) (by kernel_rfl) (by kernel_rfl) ?_
  refine HW.takeS (fuel := 4) 19 rfl (fun _ _ hs => Y.move rfl) hs rfl (by kernel_rfl) (by kernel_rfl) (by kernel_rfl) ?_
  refine HW.takeSY (fuel := 3) 20 rfl rfl rfl (fun _ _ hs => Y.loadRowN T hs 0 rfl rfl rfl rfl rfl rfl rfl) hs rfl (by kernel_rfl) (by kernel_rfl) (by kernel_rfl) ?_
  refine HW.one (fuel := 2) 21 rfl (by kernel_rfl) ?_
  refine RW.guardYes rfl rfl ?_
  (refine RW.call T hs rfl rfl rfl (valueGood_con 1 _ (arr 1 p0) _ _ ha') ?_; intro v h37 w37 hle37 hp37 hs)
  subst hp37
  rw [decB_of (good_arr 1 40 p0 p0_chk)]
  refine RW.nil ?_
  refine heldQ_normal ⟨_, hs⟩ ?_
  refine HW.takeS (fuel := 1) 22 rfl (fun _ _ hs => Y.pickT rfl rfl) hs rfl (by kernel_rfl) (by kernel_rfl) (by kernel_rfl) ?_
  refine HW.takeS (fuel := 0) 23 rfl (fun _ _ hs => Y.assign rfl) hs rfl (by kernel_rfl) (by kernel_rfl) (by kernel_rfl) ?_
  refine HW.done (by kernel_rfl) ?_
  refine calmQ_normal ?_
  refine Zerun ?_
  exact retQ_ret [_] h37 ⟨rfl, trivial⟩ hs.dropAll rfl
theorem of07_con (k : Nat) (cs : List Value) (p : PD k) (w : World) (h : GHeap) (hp : PlainAt k h cs p) (hc : chk k 40 p = 0) : Con Try.prog 56 [.agg cs.toArray] w h (fun h' u => ∃ cs', u = .agg cs'.toArray ∧ cs'.length = 9 ∧ (∀ u ∈ cs', u.oneCell' = true) ∧ ArrAt k h' cs' (arr k p)) := by
  have hp' := hp
  cases k with
  | zero => exact hp.elim
  | succ k =>
    obtain ⟨s, it, rfl, _⟩ := hp
    refine Con.of_body Try.func56 rfl Try.ntmps56 rfl rfl ?_
    intro hs
    refine Zrun ?_
    (refine RW.boxN hs rfl rfl ?_; intro b1 w1 hs)
    (refine RW.allocN T hs rfl rfl rfl rfl ?_; intro b2 w2 hs)
    refine Zerun ?_
    (refine RW.call T hs rfl rfl rfl (valueOf_con _ _ _ _ _ hp') ?_; intro v h3 w3 hle3 hp3 hs)
    rw [hc] at hp3
    obtain ⟨cs3, rfl, hl3, ho3, hz3, hn3⟩ := hp3
    refine Zerun ?_
    (refine RW.allocN T hs rfl rfl rfl rfl ?_; intro b4 w4 hs)
    refine RW.storeAll T hs 0 rfl rfl rfl rfl rfl hl3 (List.all_eq_true.2 ho3) hl3 ?_
    intro w5 hs
    refine Zerun ?_
    refine RW.val (Y.loadRowN (cs := cs3) T hs 0 rfl rfl rfl rfl rfl (List.take_of_length_le (by rw [List.drop_zero]; exact Nat.le_of_eq hl3)) hl3) rfl ?_
    refine RW.storeAll T hs 1 rfl rfl rfl rfl rfl hl3 (List.all_eq_true.2 ho3) hl3 ?_
    intro w6 hs
    refine Zerun ?_
    exact retQ_ret [_] h3 ⟨resN T hs 1 rfl rfl rfl rfl rfl hl3, trivial⟩ hs.dropAll ⟨_, rfl, hl3, ho3, hz3 rfl⟩
end Go.Proofs.Ythbfkhklihejiaa

/-
  Contracts of the law's own functions of layer 7: which plain arrays are arrays. No statement is proved here.
-/
namespace Go.Proofs.Ythbfkhklihejiaa
open Go Go.RowKit
set_option linter.unusedVariables false
set_option linter.unusedSimpArgs false
set_option maxHeartbeats 4000000
attribute [local irreducible] CW RW QW SW HW ConM retM heldQ calmQ elemP thenQ blockQ loopQ joinQ retQ Yields Con Sl zF magR unitF truncF fwF wholeF tidySpec elemQ rankF leastN tidyW

theorem Y.eqlBT {P : Program} (T : Tab P) {n : Nat} {L : Env} {w : World} {ty : TypeId} {x y : Operand} {t yt : TypeId} {b b' : Bool} (hT : T.ty t = some .bool) (hx : opv L x = some (.bool b)) (hy : opv L y = some (.bool b')) (h : b = b') : Yields P n L w (.binOp .eql t x y yt) ty (.bool true) := by
  have := Y.eqlB (P := P) (n := n) (w := w) (ty := ty) (yt := yt) T hT hx hy
  rw [h] at this
  simpa using this
theorem zeroArr_at (k : Nat) (h : GHeap) : ArrAt (k + 1) h zeroArr (⟨[], VecD.none⟩ : ArrD (AD k)) := ⟨_, _, rfl, RowAt.nil h, vecNone h⟩
theorem zeroArr_bad (k : Nat) (d : Int) : ¬ good (k + 1) d (⟨[], VecD.none⟩ : ArrD (AD k)) := fun g => g.2.1 rfl
theorem valueOfLaw_con (k : Nat) (cs : List Value) (p : PD (k + 1)) (w : World) (h : GHeap) (hp : PlainAt (k + 1) h cs p) : Con Try.prog 7 [.agg cs.toArray] w h (fun _ u => u = .bool true) := by
  have hp' := hp
  obtain ⟨s, it, rfl, ⟨ad, cp, rfl, hS⟩, ⟨ad2, cp2, xs, rfl, hS2, hA⟩⟩ := hp
  refine Con.of_body Try.func7 rfl Try.ntmps7 rfl rfl ?_
  intro hs
  refine Zrun ?_
  (refine RW.boxN hs rfl rfl ?_; intro b1 w1 hs)
  refine Zerun ?_
  (refine RW.call T hs rfl rfl rfl (refCount_con 3000 (k + 1) _ p _ _ hp') ?_; intro v h2 w2 hle2 hp2 hs)
  obtain ⟨r, rfl⟩ := hp2
  have hp' := PlainAt.mono (k + 1) _ _ _ _ hle2 hp'
  by_cases c1 : 2000 < r
  · refine Zerun ?_
    (refine RW.call T hs rfl rfl rfl (awake07_con _ _) ?_; intro v h3 w3 hle3 hp3 hs)
    subst hp3
    refine Zerun ?_
    exact retQ_ret [_] h3 ⟨rfl, trivial⟩ hs.dropAll rfl
  refine Zerun ?_
  (refine RW.call T hs rfl rfl rfl (valueOf_con (k + 1) _ p _ _ hp') ?_; intro v h3 w3 hle3 hp3 hs)
  obtain ⟨cs3, rfl, hl3, ho3, hz3, hn3⟩ := hp3
  have hp' := PlainAt.mono (k + 1) _ _ _ _ hle3 hp'
  refine Zerun ?_
  (refine RW.allocN T hs rfl rfl rfl rfl ?_; intro b4 w4 hs)
  refine RW.storeAll T hs 0 rfl rfl rfl rfl rfl hl3 (List.all_eq_true.2 ho3) hl3 ?_
  intro w5 hs
  refine Zerun ?_
  (refine RW.call T hs rfl rfl rfl (refCheck_con (k + 1) _ p _ _ hp') ?_; intro v h6 w6 hle6 hp6 hs)
  subst hp6
  have hp' := PlainAt.mono (k + 1) _ _ _ _ hle6 hp'
  by_cases hc : chk (k + 1) 40 p = 0
  · have ha3 := ArrAt.mono (k + 1) _ _ _ _ hle6 (hz3 hc)
    have hgood := good_arr (k + 1) 40 p hc
    have hsml := good_sml (k + 1) 40 _ hgood
    have htdy := tidy_tdy (k + 1) 40 p _ _ hp' hc
    have hdep := depth_arr (k + 1) 40 p hc
    have hsing : decide ((ArrD.vec (α := AD k) (arr (k + 1) p)).len = 1) = decide (((PlainD.items (α := PD k) p).length : Int) = 1) := by
      have e : (ArrD.vec (α := AD k) (arr (k + 1) p)).len = (PlainD.items (α := PD k) p).length := by
        obtain ⟨_, _, _, _, h5⟩ := (chkP_ok (α := PD k) _ _ _).1 hc
        exact len_arrV (arr k) _ _ _ h5
      rw [e, decide_eq_decide]; omega
    have ha' := ha3
    obtain ⟨s5, vc5, rfl, hl5, hv5⟩ := ha3
    obtain ⟨ad5, cp5, rfl, _⟩ := hl5
    obtain ⟨wv, nv, sm, il, fl, ch, bx, ⟨rfl, _⟩, _⟩ := hv5
    refine Zerun ?_
    · refine CW.regionO T hs ?_
      intro w8 hs
      refine HW.takeS (fuel := 36) 0 rfl (fun _ _ hs => Y.loadRowN T hs 0 rfl rfl rfl rfl rfl rfl rfl) hs rfl (by kernel_rfl) (by kernel_rfl) (by kernel_rfl) ?_
      refine HW.one (fuel := 35) 1 rfl (by kernel_rfl) ?_
      (refine RW.call T hs rfl rfl rfl (valueGood_con (k + 1) _ (arr (k + 1) p) _ _ ha') ?_; intro v h39 w39 hle39 hp39 hs)
      subst hp39
      rw [decB_of hgood]
      have ha' := ArrAt.mono (k + 1) _ _ _ _ hle39 ha'
      have hp' := PlainAt.mono (k + 1) _ _ _ _ hle39 hp'
      refine RW.nil ?_
      refine heldQ_normal ⟨_, hs⟩ ?_
      refine HW.takeS (fuel := 34) 2 rfl (fun _ _ hs => Y.move rfl) hs rfl (by kernel_rfl) (by kernel_rfl) (by kernel_rfl) ?_
      refine HW.takeSY (fuel := 33) 3 rfl rfl rfl (fun _ _ hs => Y.loadRowN T hs 0 rfl rfl rfl rfl rfl rfl rfl) hs rfl (by kernel_rfl) (by kernel_rfl) (by kernel_rfl) ?_
      refine HW.takeSY (fuel := 32) 5 rfl rfl rfl (fun _ _ hs => Y.loadRowN T hs 1 rfl rfl rfl rfl rfl rfl rfl) hs rfl (by kernel_rfl) (by kernel_rfl) (by kernel_rfl) ?_
      refine HW.one (fuel := 31) 4 rfl (by kernel_rfl) ?_
      refine RW.guardYes rfl rfl ?_
      (refine RW.call T hs rfl rfl rfl (plainV_con (k + 1) _ (arr (k + 1) p) _ _ ha' hsml) ?_; intro v h42 w42 hle42 hp42 hs)
      obtain ⟨cs42, rfl, hq42⟩ := hp42
      rw [plain_arr (k + 1) 40 p hc] at hq42
      have ha' := ArrAt.mono (k + 1) _ _ _ _ hle42 ha'
      have hp' := PlainAt.mono (k + 1) _ _ _ _ hle42 hp'
      refine RW.nil ?_
      refine heldQ_normal ⟨_, hs⟩ ?_
      refine HW.one (fuel := 30) 6 rfl (by kernel_rfl) ?_
      refine RW.guardYes rfl rfl ?_
      (refine RW.call T hs rfl rfl rfl (refTidyP_con (k + 1) 40 _ p _ _ hp' hc) ?_; intro v h44 w44 hle44 hp44 hs)
      obtain ⟨cs44, rfl, hq44⟩ := hp44
      have ha' := ArrAt.mono (k + 1) _ _ _ _ hle44 ha'
      have hp' := PlainAt.mono (k + 1) _ _ _ _ hle44 hp'
      have hq42 := PlainAt.mono (k + 1) _ _ _ _ hle44 hq42
      refine RW.nil ?_
      refine heldQ_normal ⟨_, hs⟩ ?_
      refine HW.one (fuel := 29) 7 rfl (by kernel_rfl) ?_
      refine RW.guardYes rfl rfl ?_
      (refine RW.call T hs rfl rfl rfl (refSame_con (k + 1) _ _ (tidy (k + 1) p) (tidy (k + 1) p) _ _ hq42 hq44 htdy htdy) ?_; intro v h45 w45 hle45 hp45 hs)
      subst hp45
      rw [eqB_of (show tidy (k + 1) p = tidy (k + 1) p from rfl)]
      have ha' := ArrAt.mono (k + 1) _ _ _ _ hle45 ha'
      have hp' := PlainAt.mono (k + 1) _ _ _ _ hle45 hp'
      refine RW.nil ?_
      refine heldQ_normal ⟨_, hs⟩ ?_
      refine HW.takeS (fuel := 28) 8 rfl (fun _ _ hs => Y.pickT rfl rfl) hs rfl (by kernel_rfl) (by kernel_rfl) (by kernel_rfl) ?_
      refine HW.takeS (fuel := 27) 9 rfl (fun _ _ hs => Y.move rfl) hs rfl (by kernel_rfl) (by kernel_rfl) (by kernel_rfl) ?_
      refine HW.takeSY (fuel := 26) 10 rfl rfl rfl (fun _ _ hs => Y.loadRowN T hs 0 rfl rfl rfl rfl rfl rfl rfl) hs rfl (by kernel_rfl) (by kernel_rfl) (by kernel_rfl) ?_
      refine HW.takeSY (fuel := 25) 12 rfl rfl rfl (fun _ _ hs => Y.loadRowN T hs 1 rfl rfl rfl rfl rfl rfl rfl) hs rfl (by kernel_rfl) (by kernel_rfl) (by kernel_rfl) ?_
      refine HW.one (fuel := 24) 11 rfl (by kernel_rfl) ?_
      refine RW.guardYes rfl rfl ?_
      (refine RW.call T hs rfl rfl rfl (valueDepth_con (k + 1) 40 _ (arr (k + 1) p) _ _ (by omega) (by omega) ha' hgood) ?_; intro v h49 w49 hle49 hp49 hs)
      subst hp49
      have ha' := ArrAt.mono (k + 1) _ _ _ _ hle49 ha'
      have hp' := PlainAt.mono (k + 1) _ _ _ _ hle49 hp'
      refine RW.nil ?_
      refine heldQ_normal ⟨_, hs⟩ ?_
      refine HW.one (fuel := 23) 13 rfl (by kernel_rfl) ?_
      refine RW.guardYes rfl rfl ?_
      (refine RW.call T hs rfl rfl rfl (refDepth_con (k + 1) 40 _ p _ _ (by omega) (by omega) hp' hc) ?_; intro v h51 w51 hle51 hp51 hs)
      subst hp51
      have ha' := ArrAt.mono (k + 1) _ _ _ _ hle51 ha'
      have hp' := PlainAt.mono (k + 1) _ _ _ _ hle51 hp'
      refine RW.nil ?_
      refine heldQ_normal ⟨_, hs⟩ ?_
      refine HW.takeSY (fuel := 22) 14 rfl rfl rfl (fun _ _ hs => Y.eqT rfl rfl hdep) hs rfl (by kernel_rfl) (by kernel_rfl) (by kernel_rfl) ?_
      refine HW.takeS (fuel := 21) 15 rfl (fun _ _ hs => Y.pickT rfl rfl) hs rfl (by kernel_rfl) (by kernel_rfl) (by kernel_rfl) ?_
      refine HW.takeS (fuel := 20) 16 rfl (fun _ _ hs => Y.move rfl) hs rfl (by kernel_rfl) (by kernel_rfl) (by kernel_rfl) ?_
      refine HW.takeSY (fuel := 19) 17 rfl rfl rfl (fun _ _ hs => Y.loadRowN T hs 0 rfl rfl rfl rfl rfl rfl rfl) hs rfl (by kernel_rfl) (by kernel_rfl) (by kernel_rfl) ?_
      refine HW.takeSY (fuel := 18) 19 rfl rfl rfl (fun _ _ hs => Y.fieldAddr T rfl rfl rfl rfl rfl) hs rfl (by kernel_rfl) (by kernel_rfl) (by kernel_rfl) ?_
      refine HW.takeSY (fuel := 17) 20 rfl rfl rfl (fun _ _ hs => Y.loadRow1 T hs 1 rfl rfl rfl rfl rfl) hs rfl (by kernel_rfl) (by kernel_rfl) (by kernel_rfl) ?_
      refine HW.takeSY (fuel := 16) 21 rfl rfl rfl (fun _ _ hs => Y.len T rfl rfl) hs rfl (by kernel_rfl) (by kernel_rfl) (by kernel_rfl) ?_
      refine HW.one (fuel := 15) 18 rfl (by kernel_rfl) ?_
      refine RW.guardYes rfl rfl ?_
      (refine RW.call T hs rfl rfl rfl (valueRank_con (R := ArrAt k) _ (arr (k + 1) p) _ _ ha') ?_; intro v h56 w56 hle56 hp56 hs)
      subst hp56
      have ha' := ArrAt.mono (k + 1) _ _ _ _ hle56 ha'
      have hp' := PlainAt.mono (k + 1) _ _ _ _ hle56 hp'
      refine RW.nil ?_
      refine heldQ_normal ⟨_, hs⟩ ?_
      refine HW.takeSY (fuel := 14) 22 rfl rfl rfl (fun _ _ hs => Y.eqT rfl rfl rfl) hs rfl (by kernel_rfl) (by kernel_rfl) (by kernel_rfl) ?_
      refine HW.takeS (fuel := 13) 23 rfl (fun _ _ hs => Y.pickT rfl rfl) hs rfl (by kernel_rfl) (by kernel_rfl) (by kernel_rfl) ?_
      refine HW.takeS (fuel := 12) 24 rfl (fun _ _ hs => Y.move rfl) hs rfl (by kernel_rfl) (by kernel_rfl) (by kernel_rfl) ?_
      refine HW.takeSY (fuel := 11) 25 rfl rfl rfl (fun _ _ hs => Y.loadRowN T hs 0 rfl rfl rfl rfl rfl rfl rfl) hs rfl (by kernel_rfl) (by kernel_rfl) (by kernel_rfl) ?_
      refine HW.takeSY (fuel := 10) 27 rfl rfl rfl (fun _ _ hs => Y.fieldAddr T rfl rfl rfl rfl rfl) hs rfl (by kernel_rfl) (by kernel_rfl) (by kernel_rfl) ?_
      refine HW.takeSY (fuel := 9) 28 rfl rfl rfl (fun _ _ hs => Y.loadRow1 T hs 1 rfl rfl rfl rfl rfl) hs rfl (by kernel_rfl) (by kernel_rfl) (by kernel_rfl) ?_
      refine HW.takeSY (fuel := 8) 29 rfl rfl rfl (fun _ _ hs => Y.len T rfl rfl) hs rfl (by kernel_rfl) (by kernel_rfl) (by kernel_rfl) ?_
      refine HW.takeSY (fuel := 7) 30 rfl rfl rfl (fun _ _ hs => Y.eql rfl rfl) hs rfl (by kernel_rfl) (by kernel_rfl) (by kernel_rfl) ?_
      refine HW.one (fuel := 6) 26 rfl (by kernel_rfl) ?_
      refine RW.guardYes rfl rfl ?_
      (refine RW.call T hs rfl rfl rfl (valueSingle_con (R := ArrAt k) _ (arr (k + 1) p) _ _ ha') ?_; intro v h64 w64 hle64 hp64 hs)
      subst hp64
      have ha' := ArrAt.mono (k + 1) _ _ _ _ hle64 ha'
      have hp' := PlainAt.mono (k + 1) _ _ _ _ hle64 hp'
      refine RW.nil ?_
      refine heldQ_normal ⟨_, hs⟩ ?_
      refine HW.takeSY (fuel := 5) 31 rfl rfl rfl (fun _ _ hs => Y.eqlBT T rfl rfl rfl hsing) hs rfl (by kernel_rfl) (by kernel_rfl) (by kernel_rfl) ?_
      refine HW.takeS (fuel := 4) 32 rfl (fun _ _ hs => Y.pickT rfl rfl) hs rfl (by kernel_rfl) (by kernel_rfl) (by kernel_rfl) ?_
      refine HW.takeS (fuel := 3) 33 rfl (fun _ _ hs => Y.move rfl) hs rfl (by kernel_rfl) (by kernel_rfl) (by kernel_rfl) ?_
      refine HW.one (fuel := 2) 34 rfl (by kernel_rfl) ?_
      refine RW.guardYes rfl rfl ?_
      (refine RW.call T hs rfl rfl rfl (awake07_con _ _) ?_; intro v h72 w72 hle72 hp72 hs)
      subst hp72
      refine RW.nil ?_
      refine heldQ_normal ⟨_, hs⟩ ?_
      refine HW.takeS (fuel := 1) 35 rfl (fun _ _ hs => Y.pickT rfl rfl) hs rfl (by kernel_rfl) (by kernel_rfl) (by kernel_rfl) ?_
      refine HW.takeS (fuel := 0) 36 rfl (fun _ _ hs => Y.assign rfl) hs rfl (by kernel_rfl) (by kernel_rfl) (by kernel_rfl) ?_
      refine HW.done (by kernel_rfl) ?_
      refine calmQ_normal ?_
      refine Zerun ?_
      exact retQ_ret [_] h72 ⟨rfl, trivial⟩ hs.dropAll rfl
  · obtain rfl := hn3 hc
    refine Zerun ?_
    (refine RW.call T hs rfl rfl rfl (vecKind_con (R := ArrAt k) _ VecD.none _ _ (vecNone _)) ?_; intro v h7 w7 hle7 hp7 hs)
    subst hp7
    refine Zerun ?_
    (refine RW.call T hs rfl rfl rfl (valueGood_con (k + 1) _ _ _ _ (zeroArr_at k _)) ?_; intro v h8 w8 hle8 hp8 hs)
    subst hp8
    rw [decB_not (zeroArr_bad k 40)]
    refine Zerun ?_
    (refine RW.call T hs rfl rfl rfl (awake07_con _ _) ?_; intro v h9 w9 hle9 hp9 hs)
    subst hp9
    refine Zerun ?_
    exact retQ_ret [_] h9 ⟨rfl, trivial⟩ hs.dropAll rfl
end Go.Proofs.Ythbfkhklihejiaa

/-
  Contracts of functions of packages vec and flat: no elements, what stands for none, elements of a list at some places. No statement is proved here.
-/
namespace Go.Proofs.Ythbfkhklihejiaa
open Go Go.RowKit
set_option linter.unusedVariables false
set_option linter.unusedSimpArgs false
set_option maxHeartbeats 4000000
attribute [local irreducible] CW RW QW SW HW ConM retM heldQ calmQ elemP thenQ blockQ loopQ joinQ retQ Yields Con Sl zF magR unitF truncF fwF wholeF tidySpec elemQ rankF leastN tidyW

theorem bits_none (h : GHeap) : BitsAt h (.slice none 0 0) [] := ⟨Nat.zero_le _, [], RowAt.nil h, ⟨rfl, ⟨fun u hu => (by cases hu), fun i => (by simp)⟩⟩⟩
theorem putCells_mid : ∀ (cs pre mid suf : List Value), mid.length = cs.length → putCells (pre ++ (mid ++ suf)) pre.length cs = pre ++ (cs ++ suf)
  | [], pre, mid, suf, h => by
    have : mid = [] := List.eq_nil_of_length_eq_zero h
    subst this; rfl
  | c :: r, pre, [], suf, h => by simp at h
  | c :: r, pre, m :: mid, suf, h => by
    simp only [putCells]
    have e : (pre ++ (m :: mid ++ suf)).set pre.length c = (pre ++ [c]) ++ (mid ++ suf) := by simp
    rw [e]
    have := putCells_mid r (pre ++ [c]) mid suf (by simpa using h)
    simp only [List.length_append, List.length_singleton] at this
    rw [this]
    simp
section
variable {α : Type} {R : GHeap → List Value → α → Prop}
/-- no elements of a class -/
def noneV (c : Int) : VecD α := if c = 1 then ⟨5, [], [], []⟩ else if c = 2 then ⟨6, [], [], []⟩ else ⟨1, [], [], []⟩
theorem vecNone_con (hR : Mono R) (h1 : One R) (c : Int) (w : World) (h : GHeap) : Con Try.prog 144 [.int .i64 c] w h (fun h' u => ∃ cs', u = .agg cs'.toArray ∧ VecAt R h' cs' (noneV c)) := by
  refine Con.of_body Try.func144 rfl Try.ntmps144 rfl rfl ?_
  intro hs
  refine Zrun ?_
  (refine RW.allocN T hs rfl rfl rfl rfl ?_; intro b1 w1 hs)
  refine Zerun ?_
  unfold noneV
  by_cases c1 : c = 1
  · rw [if_pos c1]
    refine Zerun ?_
    (refine RW.call T hs rfl rfl rfl (vecChars_con (R := R) _ [] _ _ (RowAt.nil _) (by simp)) ?_; intro v h2 w2 hle2 hp2 hs)
    obtain ⟨cs2, rfl, hv2⟩ := hp2
    have hv2' := hv2
    obtain ⟨wv, nv, sm, il, fl, ch, bx, ⟨rfl, hoc⟩, _⟩ := hv2
    (refine RW.storeAll T hs 0 rfl rfl rfl rfl rfl rfl hoc rfl ?_; intro w3 hs)
    refine Zerun ?_
    exact retQ_ret [_] h2 ⟨resN T hs 0 rfl rfl rfl rfl rfl rfl, trivial⟩ hs.dropAll ⟨_, rfl, hv2'⟩
  rw [if_neg c1]
  by_cases c2 : c = 2
  · rw [if_pos c2]
    refine Zerun ?_
    (refine RW.call T hs rfl rfl rfl (vecBoxes_con (R := R) hR h1 _ [] _ _ (RowsAt.nil _) (by simp)) ?_; intro v h2 w2 hle2 hp2 hs)
    obtain ⟨cs2, rfl, hv2⟩ := hp2
    have hv2' := hv2
    obtain ⟨wv, nv, sm, il, fl, ch, bx, ⟨rfl, hoc⟩, _⟩ := hv2
    (refine RW.storeAll T hs 0 rfl rfl rfl rfl rfl rfl hoc rfl ?_; intro w3 hs)
    refine Zerun ?_
    exact retQ_ret [_] h2 ⟨resN T hs 0 rfl rfl rfl rfl rfl rfl, trivial⟩ hs.dropAll ⟨_, rfl, hv2'⟩
  rw [if_neg c2]
  refine Zerun ?_
  refine RW.val (Y.build T rfl rfl rfl rfl rfl rfl rfl) rfl ?_
  (refine RW.call T hs rfl rfl rfl (vecBits_con (R := R) _ [] _ _ (bits_none _)) ?_; intro v h2 w2 hle2 hp2 hs)
  obtain ⟨cs2, rfl, hv2⟩ := hp2
  have hv2' := hv2
  obtain ⟨wv, nv, sm, il, fl, ch, bx, ⟨rfl, hoc⟩, _⟩ := hv2
  (refine RW.storeAll T hs 0 rfl rfl rfl rfl rfl rfl hoc rfl ?_; intro w3 hs)
  refine Zerun ?_
  exact retQ_ret [_] h2 ⟨resN T hs 0 rfl rfl rfl rfl rfl rfl, trivial⟩ hs.dropAll ⟨_, rfl, hv2'⟩
theorem flatBlank_con (hR : Mono R) (h1 : One R) (w : World) (h : GHeap) : Con Try.prog 68 [] w h (fun h' u => ∃ cs', u = .agg cs'.toArray ∧ ArrR R h' cs' ⟨[0], ⟨1, [], [], []⟩⟩) := by
  refine Con.of_body Try.func68 rfl Try.ntmps68 rfl rfl ?_
  intro hs
  refine Zrun ?_
  (refine RW.allocN T hs rfl rfl rfl rfl ?_; intro b1 w1 hs)
  refine Zerun ?_
  (refine RW.lit T hs (vs := [.int .i64 0]) (cs := [.int .i64 0]) rfl rfl rfl rfl (by simp [Value.cells]) rfl rfl rfl rfl rfl ?_; intro b2 w2 hs)
  obtain ⟨h3, hle3, hs, hS3⟩ := hs.freeze
  have hI3 : IntsAt h3 (.slice (some ⟨b2, 0, none⟩) 1 1) [0] := IntsAt.of_sl hS3
  (refine RW.call T hs rfl rfl rfl (vecNone_con (R := R) hR h1 0 _ _) ?_; intro v h4 w4 hle4 hp4 hs)
  obtain ⟨cs4, rfl, hv4⟩ := hp4
  have hv4' : VecAt R h4 cs4 ⟨1, [], [], []⟩ := hv4
  have hv5 := hv4'
  obtain ⟨wv, nv, sm, il, fl, ch, bx, ⟨rfl, hoc⟩, _⟩ := hv5
  refine RW.val (Y.build T rfl rfl rfl rfl rfl rfl rfl) rfl ?_
  (refine RW.storeAll T hs 0 rfl rfl rfl rfl rfl rfl hoc rfl ?_; intro w5 hs)
  refine Zerun ?_
  exact retQ_ret [_] h4 ⟨resN T hs 0 rfl rfl rfl rfl rfl rfl, trivial⟩ hs.dropAll ⟨_, rfl, _, _, rfl, hI3.mono hle4, hv4'⟩
theorem flatFrom_con (cs : List Value) (v : VecD α) (i : Int) (w : World) (h : GHeap) (hv : VecAt R h cs v) : Con Try.prog 139 [.agg cs.toArray, .int .i64 i] w h (fun _ u => u = .float .f64 (v.num i)) := by
  have hv' := hv
  obtain ⟨wv, nv, sm, il, fl, ch, bx, ⟨rfl, hoc⟩, _⟩ := hv
  refine Con.of_body Try.func139 rfl Try.ntmps139 rfl rfl ?_
  intro hs
  refine Zrun ?_
  (refine RW.boxN hs rfl rfl ?_; intro b1 w1 hs)
  refine Zerun ?_
  (refine RW.call T hs rfl rfl rfl (vecNum_con _ v i _ _ hv') ?_; intro v h2 w2 hle2 hp2 hs)
  subst hp2
  refine Zerun ?_
  exact retQ_ret [_] h2 ⟨rfl, trivial⟩ hs.dropAll rfl
end
/-- the elements of a list at a place; another one, where there is no such place -/
def atD {γ : Type} (l : List γ) (i : Int) (d : γ) : γ := if 0 ≤ i then l.getD i.toNat d else d
theorem atD_in {γ : Type} {l : List γ} {i : Int} {d : γ} (h : 0 ≤ i ∧ i < l.length) : atD l i d = l.getD i.toNat d := by unfold atD; rw [if_pos h.1]
theorem atD_out {γ : Type} {l : List γ} {i : Int} {d : γ} (h : ¬ (0 ≤ i ∧ i < l.length)) : atD l i d = d := by
  unfold atD
  by_cases c : 0 ≤ i
  · rw [if_pos c, List.getD_eq_getElem?_getD, List.getElem?_eq_none (by omega)]; rfl
  · rw [if_neg c]
theorem getD_any {γ : Type} (l : List γ) (k : Nat) (a b : γ) (h : k < l.length) : l.getD k a = l.getD k b := by simp [List.getD_eq_getElem?_getD, h]
theorem getElem_getD {γ : Type} (l : List γ) (k : Nat) (d : γ) (h : k < l.length) : l[k] = l.getD k d := by simp [List.getD_eq_getElem?_getD, h]
theorem set_again {β : Type} (a r : List β) (z v : β) : ((a ++ [z]) ++ r).set a.length v = (a ++ [v]) ++ r := by simp
theorem thoseRune_con (v v1 : Value) (l at_ : List Int) (d : Int) (w : World) (h : GHeap) (hl : KAt .i32 h v l) (ha : IntsAt h v1 at_) (hm : at_.length ≤ 1048576) : Con Try.prog 140 [v, v1, .int .i32 d] w h (fun h' u => KAt .i32 h' u (at_.map fun i => atD l i d)) := by
  obtain ⟨ad, cp, rfl, hS⟩ := hl
  obtain ⟨ad1, cp1, rfl, hS1⟩ := ha
  have hlen : l.length ≤ 9223372036854775807 := by have := hS.caps; omega
  refine Con.of_body Try.func140 rfl Try.ntmps140 rfl rfl ?_
  intro hs
  refine Zerun ?_
  (refine RW.make1 T hs rfl rfl rfl rfl rfl rfl rfl (by dsimp only; omega) (by omega) ?_; intro b3 w3 hs)
  refine Zerun ?_
  refine CW.loop (fun i : Nat => [(0, .slice ad l.length cp), (1, .slice ad1 at_.length cp1), (2, .int .i32 d), (7, .slice (some ⟨b3, 0, none⟩) at_.length at_.length), (13, .slice ad1 at_.length cp1), (14, .int .i64 at_.length), (15, .int .i64 i)]) (fun i w' => i ≤ at_.length ∧ Sees w h h [⟨some ⟨b3, 0, none⟩, at_.length, at_.length, 21, 1, ((at_.take i).map fun i => atD l i d).map (Value.int .i32) ++ List.replicate (at_.length - i) (.int .i32 0)⟩] w') (fun i => at_.length - i) 0 ⟨rfl, rfl, rfl, rfl, rfl, rfl, rfl, trivial⟩ ⟨by omega, by simpa using hs⟩ ?_
  rintro i w5 ⟨hi, hs⟩
  by_cases hlt : i < at_.length
  · have htk := take_succ_getD at_ i 0 hlt
    have ga := map_get (Value.int .i64) at_ i 0 hlt
    have fin : ∀ x : Int, x = atD l (at_.getD i 0) d → ((at_.take i).map fun i => atD l i d).map (Value.int .i32) ++ [Value.int .i32 x] ++ List.replicate (at_.length - i - 1) (.int .i32 0) = ((at_.take (i + 1)).map fun i => atD l i d).map (Value.int .i32) ++ List.replicate (at_.length - (i + 1)) (.int .i32 0) := by
      intro x hx
      rw [htk, List.map_append, List.map_append, hx, show at_.length - (i + 1) = at_.length - i - 1 by omega]; rfl
    have e1 := set_snoc (((at_.take i).map fun i => atD l i d).map (Value.int .i32)) (at_.length - i) (Value.int .i32 0) (Value.int .i32 d) (by omega)
    simp only [List.length_map, List.length_take, Nat.min_eq_left hi] at e1
    refine Zerun ?_
    refine RW.val (Y.idxRN T hs 0 rfl rfl rfl rfl rfl rfl ?_) rfl ?_
    · omega
    refine RW.st1 T hs 0 rfl rfl rfl rfl rfl rfl rfl (by omega) ?_
    intro w6 hs
    replace hs := hs.re e1
    refine Zerun ?_
    have done : ∀ (x : Int) (w' : World), x = atD l (at_.getD i 0) d → Sees w h h [⟨some ⟨b3, 0, none⟩, at_.length, at_.length, 21, 1, ((at_.take i).map fun i => atD l i d).map (Value.int .i32) ++ [Value.int .i32 x] ++ List.replicate (at_.length - i - 1) (.int .i32 0)⟩] w' → Sees w h h [⟨some ⟨b3, 0, none⟩, at_.length, at_.length, 21, 1, ((at_.take (i + 1)).map fun i => atD l i d).map (Value.int .i32) ++ List.replicate (at_.length - (i + 1)) (.int .i32 0)⟩] w' := fun x w' hx hs => hs.re (fin x hx)
    by_cases c1 : at_.getD i 0 < 0
    · refine Zerun ?_
      exact loopQ_round (i + 1) ⟨rfl, rfl, rfl, rfl, rfl, rfl, rfl, trivial⟩ ⟨by omega, done d _ (atD_out (by omega)).symm hs⟩ (by omega)
    by_cases c2 : ¬ at_.getD i 0 < l.length
    · refine Zerun ?_
      exact loopQ_round (i + 1) ⟨rfl, rfl, rfl, rfl, rfl, rfl, rfl, trivial⟩ ⟨by omega, done d _ (atD_out (by omega)).symm hs⟩ (by omega)
    have hlk : (at_.getD i 0).toNat < l.length := by omega
    refine Zerun ?_
    refine RW.val (Y.idxRN T hs 0 rfl rfl rfl rfl rfl rfl ?_) rfl ?_
    · omega
    refine RW.st1 T hs 0 rfl rfl rfl rfl rfl rfl rfl (by omega) ?_
    intro w7 hs
    have e2 := set_again (((at_.take i).map fun i => atD l i d).map (Value.int .i32)) (List.replicate (at_.length - i - 1) (.int .i32 0)) (Value.int .i32 d) (Value.int .i32 (l.getD (at_.getD i 0).toNat 0))
    simp only [List.length_map, List.length_take, Nat.min_eq_left hi] at e2
    replace hs := hs.re e2
    refine Zerun ?_
    refine loopQ_round (i + 1) ⟨rfl, rfl, rfl, rfl, rfl, rfl, rfl, trivial⟩ ⟨by omega, done _ _ ?_ hs⟩ (by omega)
    rw [atD_in (by omega)]
    exact getD_any l _ 0 d hlk
  · obtain rfl : i = at_.length := by omega
    rw [List.take_length, Nat.sub_self, List.replicate_zero, List.append_nil] at hs
    obtain ⟨h6, hle6, hs, hS6⟩ := hs.freeze
    refine Zerun ?_
    refine retQ_ret [_] h6 ⟨rfl, trivial⟩ hs.dropAll ?_
    have := RowAt.of_sl (mk := Value.int .i32) hS6
    exact this
theorem length_zeros (n : Nat) : (madeCells (#[.slice none 0 0, .int .i64 0, .slice none 0 0, .int .i64 0, .slice none 0 0, .slice none 0 0, .slice none 0 0, .slice none 0 0, .slice none 0 0] : Array Value) (n * 9)).toList.length = n * 9 := by
  simp [madeCells]
section
variable {α : Type} {R : GHeap → List Value → α → Prop}
theorem thoseArr_con (hR : Mono R) (h1 : One R) (h9 : Siz 9 R) (v v1 : Value) (l : List α) (at_ : List Int) (cs : List Value) (d : α) (w : World) (h : GHeap) (hl : RowsAt 9 (R h) h v l) (ha : IntsAt h v1 at_) (hd : R h cs d) (hm : at_.length ≤ 1048576) : Con Try.prog 142 [v, v1, .agg cs.toArray] w h (fun h' u => RowsAt 9 (R h') h' u (at_.map fun i => atD l i d)) := by
  obtain ⟨ad, cp, xs, rfl, hS, hA⟩ := hl
  obtain ⟨ad1, cp1, rfl, hS1⟩ := ha
  have hlen : l.length ≤ 9223372036854775807 := by have := hS.caps; omega
  have hl9 := h9 _ _ _ hd
  have ho9 := h1 _ _ _ hd
  refine Con.of_body Try.func142 rfl Try.ntmps142 rfl rfl ?_
  intro hs
  refine Zrun ?_
  (refine RW.boxN hs rfl rfl ?_; intro b1 w1 hs)
  refine Zerun ?_
  (refine RW.make T hs rfl rfl rfl rfl rfl ?_ ?_ ?_ ?_ ?_; omega; omega; (dsimp only; omega); omega; intro b3 w3 hs)
  rw [Int.toNat_natCast] at hs ⊢
  have hzl := length_zeros at_.length
  generalize hz : (madeCells (#[.slice none 0 0, .int .i64 0, .slice none 0 0, .int .i64 0, .slice none 0 0, .slice none 0 0, .slice none 0 0, .slice none 0 0, .slice none 0 0] : Array Value) (at_.length * 9)).toList = zs at hzl
  have hs : Sees w h h [⟨some ⟨b3, 0, none⟩, at_.length, at_.length, 63, 9, [] ++ zs⟩, ⟨some ⟨b1, 0, none⟩, 1, 1, 63, cs.length, cs⟩] w3 := by rw [← hz]; exact hs
  refine Zerun ?_
  refine CW.loop (fun u : Nat × List Value × List Value => [(0, .slice ad l.length cp), (1, .slice ad1 at_.length cp1), (5, .pointer (some ⟨b1, 0, none⟩)), (7, .slice (some ⟨b3, 0, none⟩) at_.length at_.length), (13, .slice ad1 at_.length cp1), (14, .int .i64 at_.length), (15, .int .i64 u.1)]) (fun u w' => u.1 ≤ at_.length ∧ u.2.2.length = (at_.length - u.1) * 9 ∧ AllN 9 (R h) u.2.1 ((at_.take u.1).map fun i => atD l i d) ∧ Sees w h h [⟨some ⟨b3, 0, none⟩, at_.length, at_.length, 63, 9, u.2.1 ++ u.2.2⟩, ⟨some ⟨b1, 0, none⟩, 1, 1, 63, cs.length, cs⟩] w') (fun u => at_.length - u.1) (0, [], zs) ⟨rfl, rfl, rfl, rfl, rfl, rfl, rfl, trivial⟩ ⟨by omega, by simpa using hzl, rfl, hs⟩ ?_
  rintro ⟨i, vs, zs⟩ w5 ⟨hi, hzl, hAv, hs⟩
  dsimp only at hi hzl hAv hs ⊢
  by_cases hlt : i < at_.length
  · have htk := take_succ_getD at_ i 0 hlt
    have ga := map_get (Value.int .i64) at_ i 0 hlt
    have hvl : vs.length = i * 9 := by rw [hAv.length]; simp [Nat.min_eq_left hi]
    have hz9 : (zs.take 9).length = 9 := by rw [List.length_take]; have : 9 ≤ zs.length := by rw [hzl]; omega
                                            omega
    have hput := putCells_mid cs vs (zs.take 9) (zs.drop 9) (by rw [hz9, hl9])
    rw [List.take_append_drop, hvl] at hput
    have hzd : (zs.drop 9).length = (at_.length - (i + 1)) * 9 := by rw [List.length_drop, hzl]; omega
    refine Zerun ?_
    refine RW.val (Y.loadRowN (cs := cs) T hs 1 rfl rfl rfl rfl rfl (List.take_of_length_le (by rw [List.drop_zero]; exact Nat.le_of_eq hl9)) hl9) rfl ?_
    refine RW.val (Y.idxRN T hs 0 rfl rfl rfl rfl rfl rfl ?_) rfl ?_
    · omega
    refine RW.stN T hs 0 rfl rfl rfl rfl rfl (by simpa using hl9) (by simpa using ho9) rfl (by omega) ?_
    intro w6 hs
    have hs : Sees w h h [⟨some ⟨b3, 0, none⟩, at_.length, at_.length, 63, 9, vs ++ (cs ++ zs.drop 9)⟩, ⟨some ⟨b1, 0, none⟩, 1, 1, 63, cs.length, cs⟩] w6 := by rw [← hput]; exact hs
    have hlen2 : ∀ ys : List Value, ys.length = 9 → (vs ++ (ys ++ zs.drop 9)) = (vs ++ ys) ++ zs.drop 9 := fun ys _ => by simp
    have done : ∀ (ys : List Value) (x : α), R h ys x → x = atD l (at_.getD i 0) d → AllN 9 (R h) (vs ++ ys) ((at_.take (i + 1)).map fun i => atD l i d) := by
      intro ys x hy hx
      rw [htk, List.map_append]
      show AllN 9 (R h) (vs ++ ys) (_ ++ [atD l (at_.getD i 0) d])
      rw [← hx]
      exact hAv.append (AllN.one (h9 _ _ _ hy) hy)
    refine Zerun ?_
    by_cases c1 : at_.getD i 0 < 0
    · refine Zerun ?_
      exact loopQ_round (i + 1, vs ++ cs, zs.drop 9) ⟨rfl, rfl, rfl, rfl, rfl, rfl, rfl, trivial⟩ ⟨by dsimp only; omega, hzd, done cs d hd (atD_out (by omega)).symm, by dsimp only; rw [← hlen2 cs hl9]; exact hs⟩ (by dsimp only; omega)
    by_cases c2 : ¬ at_.getD i 0 < l.length
    · refine Zerun ?_
      exact loopQ_round (i + 1, vs ++ cs, zs.drop 9) ⟨rfl, rfl, rfl, rfl, rfl, rfl, rfl, trivial⟩ ⟨by dsimp only; omega, hzd, done cs d hd (atD_out (by omega)).symm, by dsimp only; rw [← hlen2 cs hl9]; exact hs⟩ (by dsimp only; omega)
    have hlk : (at_.getD i 0).toNat < l.length := by omega
    obtain ⟨y, hy, hyl, hRy⟩ := hA.elem _ hlk
    have hoy := h1 _ _ _ hRy
    refine Zerun ?_
    refine RW.val (Y.idxRN T hs 0 rfl rfl rfl rfl rfl rfl ?_) rfl ?_
    · omega
    refine RW.stN T hs 0 rfl rfl rfl rfl rfl (by simpa using hyl) (by simpa using hoy) rfl (by omega) ?_
    intro w7 hs
    have hput2 := putCells_mid y vs cs (zs.drop 9) (by rw [hl9, hyl])
    rw [hvl] at hput2
    have hs : Sees w h h [⟨some ⟨b3, 0, none⟩, at_.length, at_.length, 63, 9, vs ++ (y ++ zs.drop 9)⟩, ⟨some ⟨b1, 0, none⟩, 1, 1, 63, cs.length, cs⟩] w7 := by rw [← hput2]; exact hs
    refine Zerun ?_
    refine loopQ_round (i + 1, vs ++ y, zs.drop 9) ⟨rfl, rfl, rfl, rfl, rfl, rfl, rfl, trivial⟩ ⟨by dsimp only; omega, hzd, done y _ hRy ?_, by dsimp only; rw [← hlen2 y hyl]; exact hs⟩ (by dsimp only; omega)
    exact (getElem_getD l _ d hlk).trans (atD_in (by omega)).symm
  · obtain rfl : i = at_.length := by omega
    rw [List.take_length] at hAv
    have hz0 : zs = [] := List.eq_nil_of_length_eq_zero (by rw [hzl]; omega)
    subst hz0
    obtain ⟨h6, hle6, hs, hS6⟩ := hs.freeze
    refine Zerun ?_
    refine retQ_ret [_] h6 ⟨rfl, trivial⟩ hs.dropAll ⟨some ⟨b3, 0, none⟩, at_.length, vs, by simp [packv], ?_, hAv.mono (fun u a => hR _ _ u a hle6)⟩
    simpa using hS6
end
end Go.Proofs.Ythbfkhklihejiaa

/-
  Contracts of functions of package flat: elements picked. No statement is proved here.
-/
namespace Go.Proofs.Ythbfkhklihejiaa
open Go Go.RowKit
set_option linter.unusedVariables false
set_option linter.unusedSimpArgs false
set_option maxHeartbeats 4000000
attribute [local irreducible] CW RW QW SW HW ConM retM heldQ calmQ elemP thenQ blockQ loopQ joinQ retQ Yields Con Sl zF magR unitF truncF fwF wholeF tidySpec elemQ rankF leastN tidyW
set_option maxHeartbeats 4000000

theorem wholeF_bounds (x : Nat) : -9007199254740992 ≤ (wholeF x).1 ∧ (wholeF x).1 ≤ 9007199254740992 := by
  unfold wholeF
  split
  · rename_i h; exact trunc_bounds x h
  · constructor <;> decide
section
variable {α : Type} {R : GHeap → List Value → α → Prop}
theorem flatPickBits_con (hR : Mono R) (cs : List Value) (v : VecD α) (v1 : Value) (at_ : List Int) (bs : List Bool) (w : World) (h : GHeap) (hv : VecAt R h cs v) (hbs : v = ⟨1, bs.map bitF, [], []⟩) (ha : IntsAt h v1 at_) (hm : at_.length ≤ 1048576) : Con Try.prog 137 [.agg cs.toArray, v1] w h (fun h' u => ∃ cs', u = .agg cs'.toArray ∧ VecAt R h' cs' ⟨1, (at_.map fun i => bitAt bs i).map bitF, [], []⟩) := by
  obtain ⟨ad1, cp1, rfl, hS1⟩ := ha
  have hv' := hv
  obtain ⟨wv, nv, sm, il, fl, ch, bx, ⟨rfl, hoc⟩, hk⟩ := hv
  clear hk
  refine Con.of_body Try.func137 rfl Try.ntmps137 rfl rfl ?_
  intro hs
  refine Zrun ?_
  (refine RW.boxN hs rfl rfl ?_; intro b1 w1 hs)
  (refine RW.allocN T hs rfl rfl rfl rfl ?_; intro b2 w2 hs)
  refine Zerun ?_
  (refine RW.call T hs rfl rfl rfl (vecPacked_con _ v _ _ hv') ?_; intro v h3 w3 hle3 hp3 hs)
  obtain ⟨wv3, bs3, rfl, hb3, hb3', _⟩ := hp3
  have hbb : bs3 = bs := by
    have e := hb3' (by rw [hbs])
    rw [hbs] at e
    have e2 : bs.map bitF = bs3.map bitF := by injection e
    have inj : ∀ a b : Bool, bitF a = bitF b → a = b := by decide
    have key : ∀ (a b : List Bool), a.map bitF = b.map bitF → a = b := by
      intro a
      induction a with
      | nil => intro b hb; cases b with
        | nil => rfl
        | cons => simp at hb
      | cons x a ih => intro b hb; cases b with
        | nil => simp at hb
        | cons y b =>
          simp only [List.map_cons, List.cons.injEq] at hb
          rw [inj x y hb.1, ih b hb.2]
    exact (key _ _ e2).symm
  subst hbb
  have hb3'' := hb3
  obtain ⟨_, ws3, ⟨ad3, cp3, rfl, _⟩, _⟩ := hb3
  have hS1 := hS1.mono hle3
  refine Zerun ?_
  (refine RW.allocN T hs rfl rfl rfl rfl ?_; intro b4 w4 hs)
  (refine RW.storeAll T hs 0 rfl rfl rfl rfl rfl rfl rfl rfl ?_; intro w5 hs)
  refine Zerun ?_
  (refine RW.make1 T hs rfl rfl rfl rfl rfl rfl rfl (by dsimp only; omega) (by omega) ?_; intro b6 w6 hs)
  refine Zerun ?_
  refine CW.loop (fun u : Nat × GHeap => [(1, .slice ad1 at_.length cp1), (2, .pointer (some ⟨b1, 0, none⟩)), (4, .pointer (some ⟨b2, 0, none⟩)), (5, .pointer (some ⟨b4, 0, none⟩)), (7, .slice (some ⟨b6, 0, none⟩) at_.length at_.length), (18, .slice ad1 at_.length cp1), (19, .int .i64 at_.length), (20, .int .i64 u.1)]) (fun u w' => u.1 ≤ at_.length ∧ GLe h3 u.2 ∧ Sees w h u.2 [⟨some ⟨b6, 0, none⟩, at_.length, at_.length, 4, 1, ((at_.take u.1).map fun i => bitAt bs3 i).map Value.bool ++ List.replicate (at_.length - u.1) (.bool false)⟩, ⟨some ⟨b4, 0, none⟩, 1, 1, 54, 2, [.slice ad3 ws3.length cp3, .int .i64 bs3.length]⟩, ⟨some ⟨b2, 0, none⟩, 1, 1, 61, 8, vecCells 0 (.slice none 0 0) 0 (.slice none 0 0) (.slice none 0 0) (.slice none 0 0) (.slice none 0 0) (.slice none 0 0)⟩, ⟨some ⟨b1, 0, none⟩, 1, 1, 61, 8, vecCells v.kind wv nv sm il fl ch bx⟩] w') (fun u => at_.length - u.1) (0, h3) ⟨rfl, rfl, rfl, rfl, rfl, rfl, rfl, rfl, trivial⟩ ⟨by omega, GLe.refl _, by simp only [List.take_zero, List.map_nil, List.nil_append, Nat.sub_zero]; exact hs⟩ ?_
  rintro ⟨i, hh⟩ w7 ⟨hi, hg, hs⟩
  dsimp only at hi hg hs ⊢
  have hS1 := hS1.mono hg
  have hb' := hb3''.mono hg
  by_cases hlt : i < at_.length
  · have htk := take_succ_getD at_ i 0 hlt
    refine Zerun ?_
    (refine RW.call T hs rfl rfl rfl (bitsAt_con _ bs3 (at_.getD i 0) _ _ hb') ?_; intro v h8 w8 hle8 hp8 hs)
    subst hp8
    refine RW.val (Y.idxRN T hs 0 rfl rfl rfl rfl rfl rfl ?_) rfl ?_
    · omega
    refine RW.st1 T hs 0 rfl rfl rfl rfl rfl rfl rfl (by omega) ?_
    intro w9 hs
    have e1 := set_snoc (((at_.take i).map fun i => bitAt bs3 i).map Value.bool) (at_.length - i) (Value.bool false) (Value.bool (bitAt bs3 (at_.getD i 0))) (by omega)
    simp only [List.length_map, List.length_take, Nat.min_eq_left hi] at e1
    have e2 : ((at_.take i).map fun i => bitAt bs3 i).map Value.bool ++ [Value.bool (bitAt bs3 (at_.getD i 0))] ++ List.replicate (at_.length - i - 1) (.bool false) = ((at_.take (i + 1)).map fun i => bitAt bs3 i).map Value.bool ++ List.replicate (at_.length - (i + 1)) (.bool false) := by
      rw [htk, List.map_append, List.map_append, show at_.length - (i + 1) = at_.length - i - 1 by omega]; rfl
    replace hs := hs.re (e1.trans e2)
    refine Zerun ?_
    exact loopQ_round (i + 1, h8) ⟨rfl, rfl, rfl, rfl, rfl, rfl, rfl, rfl, trivial⟩ ⟨by dsimp only; omega, hg.trans hle8, hs⟩ (by dsimp only; omega)
  · obtain rfl : i = at_.length := by omega
    rw [List.take_length, Nat.sub_self, List.replicate_zero, List.append_nil] at hs
    obtain ⟨h8, hle8, hs, hS8⟩ := hs.freeze
    have hT8 : TAt h8 (.slice (some ⟨b6, 0, none⟩) at_.length at_.length) (at_.map fun i => bitAt bs3 i) := RowAt.of_sl hS8
    refine Zerun ?_
    (refine RW.call T hs rfl rfl rfl (bitsPack_con _ _ _ _ hT8 (by simpa using hm)) ?_; intro v h9 w9 hle9 hp9 hs)
    obtain ⟨wv9, rfl, hb9⟩ := hp9
    (refine RW.call T hs rfl rfl rfl (vecBits_con (R := R) _ _ _ _ hb9) ?_; intro v h10 w10 hle10 hp10 hs)
    obtain ⟨cs10, rfl, hv10⟩ := hp10
    have hv10' := hv10
    obtain ⟨wv', nv', sm', il', fl', ch', bx', ⟨rfl, hoc'⟩, _⟩ := hv10
    (refine RW.storeAll T hs 1 rfl rfl rfl rfl rfl rfl hoc' rfl ?_; intro w11 hs)
    refine Zerun ?_
    exact retQ_ret [_] h10 ⟨resN T hs 1 rfl rfl rfl rfl rfl rfl, trivial⟩ hs.dropAll ⟨_, rfl, hv10'⟩
/-- the elements at some places -/
def VecD.pick (v : VecD α) (at_ : List Int) (nb : α) : VecD α :=
  if v.kind = 5 then ⟨5, [], at_.map (fun i => atD v.chars i 32), []⟩
  else if v.kind = 6 then ⟨6, [], [], at_.map (fun i => atD v.boxes i nb)⟩
  else ⟨leastN (at_.map v.num), at_.map v.num, [], []⟩
theorem num_tidy {h : GHeap} {cs : List Value} {v : VecD α} (hv : VecAt R h cs v) (i : Int) : tidyF (v.num i) := by
  unfold VecD.num
  split
  · by_cases c : i.toNat < v.nums.length
    · exact hv.tidy _ (mem_getD _ _ _ c)
    · rw [List.getD_eq_getElem?_getD, List.getElem?_eq_none (by omega)]; exact tidy0
  · exact tidy0
theorem whole_num {h : GHeap} {cs : List Value} {v : VecD α} (hv : VecAt R h cs v) (hk : v.kind = 1 ∨ v.kind = 2 ∨ v.kind = 3) (i : Int) : fwF (v.whole i).1 = v.num i := by
  have hw := hv.wholes hk
  have hn : v.nums.length = v.len := hv.nums_len (by unfold VecD.cls; rw [if_neg (by omega), if_neg (by omega)])
  unfold VecD.whole VecD.num
  by_cases c : 0 ≤ i ∧ i < v.len
  · rw [if_pos ⟨hk, c⟩, if_pos c.1]
    have hm := mem_getD v.nums i.toNat 0 (by omega)
    exact (fw_whole _ _ (hv.tidy _ hm) (by rw [← hw _ hm])).symm
  · rw [if_neg (fun e => c e.2)]
    show fwF 0 = _
    rw [fw0]
    split
    · rw [List.getD_eq_getElem?_getD, List.getElem?_eq_none (by omega)]; rfl
    · rfl
theorem pick_wholes {h : GHeap} {cs : List Value} {v : VecD α} (hv : VecAt R h cs v) (hk : v.kind = 1 ∨ v.kind = 2 ∨ v.kind = 3) (at_ : List Int) (nb : α) : (⟨leastN ((at_.map fun i => (v.whole i).1).map fwF), (at_.map fun i => (v.whole i).1).map fwF, [], []⟩ : VecD α) = v.pick at_ nb := by
  have e : (at_.map fun i => (v.whole i).1).map fwF = at_.map v.num := by
    rw [List.map_map]
    apply List.map_congr_left
    intro i _
    exact whole_num hv hk i
  rw [e]
  unfold VecD.pick
  rw [if_neg (by omega), if_neg (by omega)]
theorem sq_nums3 (N : List Nat) : (⟨3, N, [], []⟩ : VecD α).sq = ⟨leastN N, N, [], []⟩ := by
  unfold VecD.sq VecD.cls
  simp
theorem pick_bits (bs : List Bool) (at_ : List Int) (nb : α) : (⟨1, (at_.map fun i => bitAt bs i).map bitF, [], []⟩ : VecD α) = VecD.pick ⟨1, bs.map bitF, [], []⟩ at_ nb := by
  have e : (at_.map fun i => bitAt bs i).map bitF = at_.map (VecD.num (⟨1, bs.map bitF, [], []⟩ : VecD α)) := by
    rw [List.map_map]
    apply List.map_congr_left
    intro i _
    simp only [Function.comp, bitAt, VecD.num]
    split
    · by_cases c : i.toNat < bs.length
      · rw [getD_map bitF bs i.toNat false 0 c]
      · rw [List.getD_eq_getElem?_getD, List.getElem?_eq_none (by omega), List.getD_eq_getElem?_getD, List.getElem?_eq_none (by simp; omega)]; rfl
    · rfl
  have el : leastN ((at_.map fun i => bitAt bs i).map bitF) = 1 := by
    have h1 := (leastN_bounds ((at_.map fun i => bitAt bs i).map bitF)).1
    have h2 : leastN ((at_.map fun i => bitAt bs i).map bitF) ≤ 1 := by
      rw [leastN.eq_1]
      refine fold_le _ 1 1 (by omega) ?_
      intro x hx
      obtain ⟨b, _, rfl⟩ := List.mem_map.1 hx
      cases b
      · exact (rank_bit _ tidy0).2 (.inl fw0.symm)
      · exact (rank_bit _ tidy1).2 (.inr fw1.symm)
    omega
  unfold VecD.pick
  rw [if_neg (show ¬ (1 : Int) = 5 by decide), if_neg (show ¬ (1 : Int) = 6 by decide), ← e, el]
theorem flatPick_con (hR : Mono R) (h1 : One R) (h9 : Siz 9 R) (nb : α) (hbl : ∀ w h, Con Try.prog 68 [] w h (fun h' u => ∃ cs', u = .agg cs'.toArray ∧ R h' cs' nb))
    (cs : List Value) (v : VecD α) (v1 : Value) (at_ : List Int) (w : World) (h : GHeap) (hv : VecAt R h cs v) (ha : IntsAt h v1 at_) (hm : at_.length ≤ 1048576) (hvm : v.len ≤ 1048576) (hk0 : v.kind ≠ 0) : Con Try.prog 66 [.agg cs.toArray, v1] w h (fun h' u => ∃ cs', u = .agg cs'.toArray ∧ VecAt R h' cs' (v.pick at_ nb)) := by
  have ha' := ha
  obtain ⟨ad1, cp1, rfl, hS1⟩ := ha
  have hv' := hv
  have hv0 := hv
  obtain ⟨wv, nv, sm, il, fl, ch, bx, ⟨rfl, hoc⟩, hk⟩ := hv
  have hkk : (v.kind = 1 ∧ ∃ bs : List Bool, v = ⟨1, bs.map bitF, [], []⟩) ∨ (v.kind = 2 ∨ v.kind = 3) ∨ v.kind = 4 ∨ v.kind = 5 ∨ v.kind = 6 := by
    rcases hk with ⟨e, _⟩ | ⟨e, bs, _, _, e2⟩ | ⟨e, _⟩ | ⟨e, _⟩ | ⟨e, _⟩ | ⟨e, _⟩ | ⟨e, _⟩
    · exact absurd e hk0
    · exact .inl ⟨e, bs, e2⟩
    · exact .inr (.inl (.inl e))
    · exact .inr (.inl (.inr e))
    · exact .inr (.inr (.inl e))
    · exact .inr (.inr (.inr (.inl e)))
    · exact .inr (.inr (.inr (.inr e)))
  clear hk
  refine Con.of_body Try.func66 rfl Try.ntmps66 rfl rfl ?_
  intro hs
  refine Zrun ?_
  (refine RW.boxN hs rfl rfl ?_; intro b1 w1 hs)
  (refine RW.allocN T hs rfl rfl rfl rfl ?_; intro b2 w2 hs)
  refine Zerun ?_
  (refine RW.call T hs rfl rfl rfl (vecKind_con _ v _ _ hv') ?_; intro v h3 w3 hle3 hp3 hs)
  subst hp3
  have hv' := hv'.mono hR hle3
  have ha' := ha'.mono hle3
  have hS1 := hS1.mono hle3
  rcases hkk with ⟨k1, bs, hbs⟩ | k23 | k4 | k5 | k6
  · have hsp := pick_bits bs at_ nb
    rw [← hbs] at hsp
    refine Zerun ?_
    (refine RW.call T hs rfl rfl rfl (flatPickBits_con hR _ v _ at_ bs _ _ hv' hbs ha' hm) ?_; intro v h4 w4 hle4 hp4 hs)
    obtain ⟨cs4, rfl, hv4⟩ := hp4
    rw [hsp] at hv4
    have hv4' := hv4
    obtain ⟨wv', nv', sm', il', fl', ch', bx', ⟨rfl, hoc'⟩, _⟩ := hv4
    (refine RW.storeAll T hs 0 rfl rfl rfl rfl rfl rfl hoc' rfl ?_; intro w5 hs)
    refine Zerun ?_
    exact retQ_ret [_] h4 ⟨resN T hs 0 rfl rfl rfl rfl rfl rfl, trivial⟩ hs.dropAll ⟨_, rfl, hv4'⟩
  · rcases k23 with k2 | k3
    ·
      have hsp := pick_wholes hv0 (by omega) at_ nb
      refine Zerun ?_
      (refine RW.make1 T hs rfl rfl rfl rfl rfl rfl rfl (by dsimp only; omega) (by omega) ?_; intro b6 w6 hs)
      refine Zerun ?_
      refine CW.loop (fun u : Nat × GHeap => [(2, .pointer (some ⟨b1, 0, none⟩)), (4, .pointer (some ⟨b2, 0, none⟩)), (5, .slice (some ⟨b6, 0, none⟩) at_.length at_.length), (28, .slice ad1 at_.length cp1), (29, .int .i64 at_.length), (30, .int .i64 u.1)]) (fun u w' => u.1 ≤ at_.length ∧ GLe h3 u.2 ∧ Sees w h u.2 [⟨some ⟨b6, 0, none⟩, at_.length, at_.length, 2, 1, ((at_.take u.1).map fun i => (v.whole i).1).map (Value.int .i64) ++ List.replicate (at_.length - u.1) (.int .i64 0)⟩, ⟨some ⟨b2, 0, none⟩, 1, 1, 61, 8, vecCells 0 (.slice none 0 0) 0 (.slice none 0 0) (.slice none 0 0) (.slice none 0 0) (.slice none 0 0) (.slice none 0 0)⟩, ⟨some ⟨b1, 0, none⟩, 1, 1, 61, 8, vecCells v.kind wv nv sm il fl ch bx⟩] w') (fun u => at_.length - u.1) (0, h3) ⟨rfl, rfl, rfl, rfl, rfl, rfl, trivial⟩ ⟨by omega, GLe.refl _, by simp only [List.take_zero, List.map_nil, List.nil_append, Nat.sub_zero]; exact hs⟩ ?_
      rintro ⟨i, hh⟩ w7 ⟨hi, hg, hs⟩
      dsimp only at hi hg hs ⊢
      have hS1 := hS1.mono hg
      have hv' := hv'.mono hR hg
      by_cases hlt : i < at_.length
      · have htk := take_succ_getD at_ i 0 hlt
        refine Zerun ?_
        (refine RW.call T hs rfl rfl rfl (vecWhole_con _ v (at_.getD i 0) _ _ hv') ?_; intro v h8 w8 hle8 hp8 hs)
        subst hp8
        refine Zerun ?_
        refine RW.val (Y.idxRN T hs 0 rfl rfl rfl rfl rfl rfl ?_) rfl ?_
        · omega
        refine RW.st1 T hs 0 rfl rfl rfl rfl rfl rfl rfl (by omega) ?_
        intro w9 hs
        have e1 := set_snoc (((at_.take i).map fun i => (v.whole i).1).map (Value.int .i64)) (at_.length - i) (.int .i64 0) (Value.int .i64 ((v.whole (at_.getD i 0)).1)) (by omega)
        simp only [List.length_map, List.length_take, Nat.min_eq_left hi] at e1
        have e2 : ((at_.take i).map fun i => (v.whole i).1).map (Value.int .i64) ++ [Value.int .i64 ((v.whole (at_.getD i 0)).1)] ++ List.replicate (at_.length - i - 1) (.int .i64 0) = ((at_.take (i + 1)).map fun i => (v.whole i).1).map (Value.int .i64) ++ List.replicate (at_.length - (i + 1)) (.int .i64 0) := by
          rw [htk, List.map_append, List.map_append, show at_.length - (i + 1) = at_.length - i - 1 by omega]; rfl
        replace hs := hs.re (e1.trans e2)
        refine Zerun ?_
        exact loopQ_round (i + 1, h8) ⟨rfl, rfl, rfl, rfl, rfl, rfl, trivial⟩ ⟨by dsimp only; omega, hg.trans hle8, hs⟩ (by dsimp only; omega)
      obtain rfl : i = at_.length := by omega
      rw [List.take_length, Nat.sub_self, List.replicate_zero, List.append_nil] at hs
      obtain ⟨h8, hle8, hs, hS8⟩ := hs.freeze
      have hT8 : KAt .i64 h8 (.slice (some ⟨b6, 0, none⟩) at_.length at_.length) (at_.map fun i => (v.whole i).1) := RowAt.of_sl hS8
      refine Zerun ?_
      (refine RW.call T hs rfl rfl rfl (vecInts_con (R := R) _ _ _ _ hT8 (by simp; omega)) ?_; intro v h9 w9 hle9 hp9 hs)
      obtain ⟨cs9, ok, rfl, hok, hv9⟩ := hp9
      obtain rfl : ok = true := by
        rw [hok]
        refine decide_eq_true ?_
        intro u hu
        obtain ⟨i, _, rfl⟩ := List.mem_map.1 hu
        unfold VecD.whole
        split
        · exact wholeF_bounds _
        · constructor <;> decide
      rw [if_pos rfl] at hv9
      have hv9' := hv9
      obtain ⟨wv', nv', sm', il', fl', ch', bx', ⟨rfl, hoc'⟩, _⟩ := hv9
      refine Zerun ?_
      (refine RW.allocN T hs rfl rfl rfl rfl ?_; intro b10 w10 hs)
      (refine RW.storeAll T hs 0 rfl rfl rfl rfl rfl rfl hoc' rfl ?_; intro w11 hs)
      refine Zerun ?_
      (refine RW.call T hs rfl rfl rfl (sqSqueeze_con hR _ _ _ _ hv9' (by simp [VecD.len]; omega)) ?_; intro v h12 w12 hle12 hp12 hs)
      obtain ⟨cs12, rfl, hv12⟩ := hp12
      rw [sq_nums3, hsp] at hv12
      have hv12' := hv12
      obtain ⟨wv2, nv2, sm2, il2, fl2, ch2, bx2, ⟨rfl, hoc2⟩, _⟩ := hv12
      (refine RW.storeAll T hs 1 rfl rfl rfl rfl rfl rfl hoc2 rfl ?_; intro w13 hs)
      refine Zerun ?_
      exact retQ_ret [_] h12 ⟨resN T hs 1 rfl rfl rfl rfl rfl rfl, trivial⟩ hs.dropAll ⟨_, rfl, hv12'⟩
    ·
      have hsp := pick_wholes hv0 (by omega) at_ nb
      refine Zerun ?_
      (refine RW.make1 T hs rfl rfl rfl rfl rfl rfl rfl (by dsimp only; omega) (by omega) ?_; intro b6 w6 hs)
      refine Zerun ?_
      refine CW.loop (fun u : Nat × GHeap => [(2, .pointer (some ⟨b1, 0, none⟩)), (4, .pointer (some ⟨b2, 0, none⟩)), (5, .slice (some ⟨b6, 0, none⟩) at_.length at_.length), (28, .slice ad1 at_.length cp1), (29, .int .i64 at_.length), (30, .int .i64 u.1)]) (fun u w' => u.1 ≤ at_.length ∧ GLe h3 u.2 ∧ Sees w h u.2 [⟨some ⟨b6, 0, none⟩, at_.length, at_.length, 2, 1, ((at_.take u.1).map fun i => (v.whole i).1).map (Value.int .i64) ++ List.replicate (at_.length - u.1) (.int .i64 0)⟩, ⟨some ⟨b2, 0, none⟩, 1, 1, 61, 8, vecCells 0 (.slice none 0 0) 0 (.slice none 0 0) (.slice none 0 0) (.slice none 0 0) (.slice none 0 0) (.slice none 0 0)⟩, ⟨some ⟨b1, 0, none⟩, 1, 1, 61, 8, vecCells v.kind wv nv sm il fl ch bx⟩] w') (fun u => at_.length - u.1) (0, h3) ⟨rfl, rfl, rfl, rfl, rfl, rfl, trivial⟩ ⟨by omega, GLe.refl _, by simp only [List.take_zero, List.map_nil, List.nil_append, Nat.sub_zero]; exact hs⟩ ?_
      rintro ⟨i, hh⟩ w7 ⟨hi, hg, hs⟩
      dsimp only at hi hg hs ⊢
      have hS1 := hS1.mono hg
      have hv' := hv'.mono hR hg
      by_cases hlt : i < at_.length
      · have htk := take_succ_getD at_ i 0 hlt
        refine Zerun ?_
        (refine RW.call T hs rfl rfl rfl (vecWhole_con _ v (at_.getD i 0) _ _ hv') ?_; intro v h8 w8 hle8 hp8 hs)
        subst hp8
        refine Zerun ?_
        refine RW.val (Y.idxRN T hs 0 rfl rfl rfl rfl rfl rfl ?_) rfl ?_
        · omega
        refine RW.st1 T hs 0 rfl rfl rfl rfl rfl rfl rfl (by omega) ?_
        intro w9 hs
        have e1 := set_snoc (((at_.take i).map fun i => (v.whole i).1).map (Value.int .i64)) (at_.length - i) (.int .i64 0) (Value.int .i64 ((v.whole (at_.getD i 0)).1)) (by omega)
        simp only [List.length_map, List.length_take, Nat.min_eq_left hi] at e1
        have e2 : ((at_.take i).map fun i => (v.whole i).1).map (Value.int .i64) ++ [Value.int .i64 ((v.whole (at_.getD i 0)).1)] ++ List.replicate (at_.length - i - 1) (.int .i64 0) = ((at_.take (i + 1)).map fun i => (v.whole i).1).map (Value.int .i64) ++ List.replicate (at_.length - (i + 1)) (.int .i64 0) := by
          rw [htk, List.map_append, List.map_append, show at_.length - (i + 1) = at_.length - i - 1 by omega]; rfl
        replace hs := hs.re (e1.trans e2)
        refine Zerun ?_
        exact loopQ_round (i + 1, h8) ⟨rfl, rfl, rfl, rfl, rfl, rfl, trivial⟩ ⟨by dsimp only; omega, hg.trans hle8, hs⟩ (by dsimp only; omega)
      obtain rfl : i = at_.length := by omega
      rw [List.take_length, Nat.sub_self, List.replicate_zero, List.append_nil] at hs
      obtain ⟨h8, hle8, hs, hS8⟩ := hs.freeze
      have hT8 : KAt .i64 h8 (.slice (some ⟨b6, 0, none⟩) at_.length at_.length) (at_.map fun i => (v.whole i).1) := RowAt.of_sl hS8
      refine Zerun ?_
      (refine RW.call T hs rfl rfl rfl (vecInts_con (R := R) _ _ _ _ hT8 (by simp; omega)) ?_; intro v h9 w9 hle9 hp9 hs)
      obtain ⟨cs9, ok, rfl, hok, hv9⟩ := hp9
      obtain rfl : ok = true := by
        rw [hok]
        refine decide_eq_true ?_
        intro u hu
        obtain ⟨i, _, rfl⟩ := List.mem_map.1 hu
        unfold VecD.whole
        split
        · exact wholeF_bounds _
        · constructor <;> decide
      rw [if_pos rfl] at hv9
      have hv9' := hv9
      obtain ⟨wv', nv', sm', il', fl', ch', bx', ⟨rfl, hoc'⟩, _⟩ := hv9
      refine Zerun ?_
      (refine RW.allocN T hs rfl rfl rfl rfl ?_; intro b10 w10 hs)
      (refine RW.storeAll T hs 0 rfl rfl rfl rfl rfl rfl hoc' rfl ?_; intro w11 hs)
      refine Zerun ?_
      (refine RW.call T hs rfl rfl rfl (sqSqueeze_con hR _ _ _ _ hv9' (by simp [VecD.len]; omega)) ?_; intro v h12 w12 hle12 hp12 hs)
      obtain ⟨cs12, rfl, hv12⟩ := hp12
      rw [sq_nums3, hsp] at hv12
      have hv12' := hv12
      obtain ⟨wv2, nv2, sm2, il2, fl2, ch2, bx2, ⟨rfl, hoc2⟩, _⟩ := hv12
      (refine RW.storeAll T hs 1 rfl rfl rfl rfl rfl rfl hoc2 rfl ?_; intro w13 hs)
      refine Zerun ?_
      exact retQ_ret [_] h12 ⟨resN T hs 1 rfl rfl rfl rfl rfl rfl, trivial⟩ hs.dropAll ⟨_, rfl, hv12'⟩
  ·
    have hsp : (⟨leastN ((at_.map fun i => v.num i).map tidyW), (at_.map fun i => v.num i).map tidyW, [], []⟩ : VecD α) = v.pick at_ nb := by
      have e : (at_.map fun i => v.num i).map tidyW = at_.map v.num := by
        rw [List.map_map]
        apply List.map_congr_left
        intro i _
        simp only [Function.comp]
        unfold tidyW
        rw [tidySpec_of _ (num_tidy hv0 i)]
      rw [e]
      unfold VecD.pick
      rw [if_neg (by omega), if_neg (by omega)]
    refine Zerun ?_
    (refine RW.make1 T hs rfl rfl rfl rfl rfl rfl rfl (by dsimp only; omega) (by omega) ?_; intro b6 w6 hs)
    refine Zerun ?_
    refine CW.loop (fun u : Nat × GHeap => [(2, .pointer (some ⟨b1, 0, none⟩)), (4, .pointer (some ⟨b2, 0, none⟩)), (10, .slice (some ⟨b6, 0, none⟩) at_.length at_.length), (57, .slice ad1 at_.length cp1), (58, .int .i64 at_.length), (59, .int .i64 u.1)]) (fun u w' => u.1 ≤ at_.length ∧ GLe h3 u.2 ∧ Sees w h u.2 [⟨some ⟨b6, 0, none⟩, at_.length, at_.length, 74, 1, ((at_.take u.1).map fun i => v.num i).map (Value.float .f64) ++ List.replicate (at_.length - u.1) (.float .f64 0)⟩, ⟨some ⟨b2, 0, none⟩, 1, 1, 61, 8, vecCells 0 (.slice none 0 0) 0 (.slice none 0 0) (.slice none 0 0) (.slice none 0 0) (.slice none 0 0) (.slice none 0 0)⟩, ⟨some ⟨b1, 0, none⟩, 1, 1, 61, 8, vecCells v.kind wv nv sm il fl ch bx⟩] w') (fun u => at_.length - u.1) (0, h3) ⟨rfl, rfl, rfl, rfl, rfl, rfl, trivial⟩ ⟨by omega, GLe.refl _, by simp only [List.take_zero, List.map_nil, List.nil_append, Nat.sub_zero]; exact hs⟩ ?_
    rintro ⟨i, hh⟩ w7 ⟨hi, hg, hs⟩
    dsimp only at hi hg hs ⊢
    have hS1 := hS1.mono hg
    have hv' := hv'.mono hR hg
    by_cases hlt : i < at_.length
    · have htk := take_succ_getD at_ i 0 hlt
      refine Zerun ?_
      (refine RW.call T hs rfl rfl rfl (flatFrom_con _ v (at_.getD i 0) _ _ hv') ?_; intro v h8 w8 hle8 hp8 hs)
      subst hp8
      skip
      refine RW.val (Y.idxRN T hs 0 rfl rfl rfl rfl rfl rfl ?_) rfl ?_
      · omega
      refine RW.st1 T hs 0 rfl rfl rfl rfl rfl rfl rfl (by omega) ?_
      intro w9 hs
      have e1 := set_snoc (((at_.take i).map fun i => v.num i).map (Value.float .f64)) (at_.length - i) (.float .f64 0) (Value.float .f64 (v.num (at_.getD i 0))) (by omega)
      simp only [List.length_map, List.length_take, Nat.min_eq_left hi] at e1
      have e2 : ((at_.take i).map fun i => v.num i).map (Value.float .f64) ++ [Value.float .f64 (v.num (at_.getD i 0))] ++ List.replicate (at_.length - i - 1) (.float .f64 0) = ((at_.take (i + 1)).map fun i => v.num i).map (Value.float .f64) ++ List.replicate (at_.length - (i + 1)) (.float .f64 0) := by
        rw [htk, List.map_append, List.map_append, show at_.length - (i + 1) = at_.length - i - 1 by omega]; rfl
      replace hs := hs.re (e1.trans e2)
      refine Zerun ?_
      exact loopQ_round (i + 1, h8) ⟨rfl, rfl, rfl, rfl, rfl, rfl, trivial⟩ ⟨by dsimp only; omega, hg.trans hle8, hs⟩ (by dsimp only; omega)
    obtain rfl : i = at_.length := by omega
    rw [List.take_length, Nat.sub_self, List.replicate_zero, List.append_nil] at hs
    obtain ⟨h8, hle8, hs, hS8⟩ := hs.freeze
    have hT8 : FAt h8 (.slice (some ⟨b6, 0, none⟩) at_.length at_.length) (at_.map fun i => v.num i) := RowAt.of_sl hS8
    refine Zerun ?_
    (refine RW.call T hs rfl rfl rfl (sqNumbers_con (R := R) hR _ _ _ _ hT8 (by intro u hu; obtain ⟨i, _, rfl⟩ := List.mem_map.1 hu; exact (num_tidy hv0 i).1) (by simp; omega)) ?_; intro v h9 w9 hle9 hp9 hs)
    obtain ⟨cs9, ok, rfl, hok, hv9⟩ := hp9
    obtain rfl : ok = true := by
      rw [hok]
      refine decide_eq_true ?_
      intro u hu
      obtain ⟨i, _, rfl⟩ := List.mem_map.1 hu
      exact (num_tidy hv0 i).2.1
    rw [if_pos rfl, hsp] at hv9
    have hv9' := hv9
    obtain ⟨wv', nv', sm', il', fl', ch', bx', ⟨rfl, hoc'⟩, _⟩ := hv9
    refine Zerun ?_
    (refine RW.allocN T hs rfl rfl rfl rfl ?_; intro b10 w10 hs)
    (refine RW.storeAll T hs 0 rfl rfl rfl rfl rfl rfl hoc' rfl ?_; intro w11 hs)
    refine Zerun ?_
    (refine RW.storeAll T hs 1 rfl rfl rfl rfl rfl rfl hoc' rfl ?_; intro w12 hs)
    refine Zerun ?_
    exact retQ_ret [_] h9 ⟨resN T hs 1 rfl rfl rfl rfl rfl rfl, trivial⟩ hs.dropAll ⟨_, rfl, hv9'⟩
  · have hsp : (⟨5, [], at_.map (fun i => atD v.chars i 32), []⟩ : VecD α) = v.pick at_ nb := by unfold VecD.pick; rw [if_pos k5]
    refine Zerun ?_
    (refine RW.call T hs rfl rfl rfl (vecText_con _ v _ _ hv' (by omega)) ?_; intro v h4 w4 hle4 hp4 hs)
    refine Zerun ?_
    (refine RW.call T hs rfl rfl rfl (thoseRune_con _ _ _ at_ 32 _ _ hp4 (ha'.mono hle4) hm) ?_; intro v h5 w5 hle5 hp5 hs)
    (refine RW.call T hs rfl rfl rfl (vecChars_con (R := R) _ _ _ _ hp5 (by simp; omega)) ?_; intro v h6 w6 hle6 hp6 hs)
    obtain ⟨cs6, rfl, hv6⟩ := hp6
    rw [hsp] at hv6
    have hv6' := hv6
    obtain ⟨wv', nv', sm', il', fl', ch', bx', ⟨rfl, hoc'⟩, _⟩ := hv6
    (refine RW.storeAll T hs 0 rfl rfl rfl rfl rfl rfl hoc' rfl ?_; intro w7 hs)
    refine Zerun ?_
    exact retQ_ret [_] h6 ⟨resN T hs 0 rfl rfl rfl rfl rfl rfl, trivial⟩ hs.dropAll ⟨_, rfl, hv6'⟩
  · have hsp : (⟨6, [], [], at_.map (fun i => atD v.boxes i nb)⟩ : VecD α) = v.pick at_ nb := by unfold VecD.pick; rw [if_neg (by omega), if_pos k6]
    refine Zerun ?_
    (refine RW.call T hs rfl rfl rfl (vecArrays_con hR h1 _ v _ _ hv' (by omega)) ?_; intro v h4 w4 hle4 hp4 hs)
    refine Zerun ?_
    (refine RW.call T hs rfl rfl rfl (hbl _ _) ?_; intro v h5 w5 hle5 hp5 hs)
    obtain ⟨cs5, rfl, hb5⟩ := hp5
    (refine RW.call T hs rfl rfl rfl (thoseArr_con hR h1 h9 _ _ _ at_ _ nb _ _ (hp4.mono hle5 (fun u a => hR _ _ u a hle5)) (ha'.mono (hle4.trans hle5)) hb5 hm) ?_; intro v h6 w6 hle6 hp6 hs)
    (refine RW.call T hs rfl rfl rfl (vecBoxes_con hR h1 _ _ _ _ hp6 (by simp; omega)) ?_; intro v h7 w7 hle7 hp7 hs)
    obtain ⟨cs7, rfl, hv7⟩ := hp7
    rw [hsp] at hv7
    have hv7' := hv7
    obtain ⟨wv', nv', sm', il', fl', ch', bx', ⟨rfl, hoc'⟩, _⟩ := hv7
    (refine RW.storeAll T hs 0 rfl rfl rfl rfl rfl rfl hoc' rfl ?_; intro w8 hs)
    refine Zerun ?_
    exact retQ_ret [_] h7 ⟨resN T hs 0 rfl rfl rfl rfl rfl rfl, trivial⟩ hs.dropAll ⟨_, rfl, hv7'⟩
end
end Go.Proofs.Ythbfkhklihejiaa

/-
  Contracts of the document's answer and of the law's own functions of layer 8: items picked, lists shown. No statement is proved here.
-/
namespace Go.Proofs.Ythbfkhklihejiaa
open Go Go.RowKit
set_option linter.unusedVariables false
set_option linter.unusedSimpArgs false
set_option maxHeartbeats 4000000
attribute [local irreducible] CW RW QW SW HW ConM retM heldQ calmQ elemP thenQ blockQ loopQ joinQ retQ Yields Con Sl zF magR unitF truncF fwF wholeF tidySpec elemQ rankF leastN tidyW
set_option maxHeartbeats 4000000

section
variable {β : Type} {R : GHeap → List Value → β → Prop}
/-- what stands for none, of a class -/
def blankI (c : Int) : ItemD (PlainD β) := ⟨c, 0, if c = 1 then 32 else 0, if c = 2 then [⟨[0], [], 0⟩] else []⟩
theorem refBlank08_con (hR : Mono R) (c : Int) (w : World) (h : GHeap) : Con Try.prog 143 [.int .i64 c] w h (fun h' u => ∃ cs', u = .agg cs'.toArray ∧ ItemAt (PlainR R) h' cs' (blankI c)) := by
  refine Con.of_body Try.func143 rfl Try.ntmps143 rfl rfl ?_
  intro hs
  refine Zrun ?_
  (refine RW.allocN T hs rfl rfl rfl rfl ?_; intro b1 w1 hs)
  refine Zerun ?_
  refine RW.val (Y.build T rfl rfl rfl rfl rfl rfl rfl) rfl ?_
  (refine RW.allocN T hs rfl rfl rfl rfl ?_; intro b2 w2 hs)
  (refine RW.storeAll T hs 0 rfl rfl rfl rfl rfl rfl rfl rfl ?_; intro w3 hs)
  refine Zerun ?_
  unfold blankI
  by_cases c1 : c = 1
  · rw [if_pos c1, if_neg (by omega)]
    refine Zerun ?_
    (refine RW.store1 T hs 0 rfl rfl rfl rfl rfl rfl rfl rfl ?_; intro w4 hs)
    refine Zerun ?_
    (refine RW.storeAll T hs 1 rfl rfl rfl rfl rfl rfl rfl rfl ?_; intro w5 hs)
    refine Zerun ?_
    exact retQ_ret [_] h ⟨resN T hs 1 rfl rfl rfl rfl rfl rfl, trivial⟩ hs.dropAll ⟨_, rfl, ItemAt.mk' (x := ⟨c, 0, 32, []⟩) (RowsAt.nil _) (Nat.succ_pos _)⟩
  rw [if_neg c1]
  by_cases c2 : c = 2
  · rw [if_pos c2]
    refine Zerun ?_
    (refine RW.lit T hs (vs := [.int .i64 0]) (cs := [.int .i64 0]) rfl rfl rfl rfl (by simp [Value.cells]) rfl rfl rfl rfl rfl ?_; intro b4 w4 hs)
    obtain ⟨h5, hle5, hs, hS5⟩ := hs.freeze
    have hI5 : IntsAt h5 (.slice (some ⟨b4, 0, none⟩) 1 1) [0] := IntsAt.of_sl hS5
    refine RW.val (Y.build T rfl rfl rfl rfl rfl rfl rfl) rfl ?_
    (refine RW.lit T hs (vs := [.agg [.slice (some ⟨b4, 0, none⟩) 1 1, .slice none 0 0, .int .i64 0].toArray]) (cs := [.slice (some ⟨b4, 0, none⟩) 1 1, .slice none 0 0, .int .i64 0]) rfl rfl rfl rfl (by simp [Value.cells]) rfl rfl rfl rfl rfl ?_; intro b6 w6 hs)
    obtain ⟨h7, hle7, hs, hS7⟩ := hs.freeze
    have hR7 : RowsAt 3 (PlainR R h7) h7 (.slice (some ⟨b6, 0, none⟩) 1 1) [(⟨[0], [], 0⟩ : PlainD β)] := RowsAt.single hS7 ⟨_, _, rfl, hI5.mono hle7, RowsAt.nil _⟩
    refine Zerun ?_
    (refine RW.store1 T hs 0 rfl rfl rfl rfl rfl rfl rfl rfl ?_; intro w8 hs)
    refine Zerun ?_
    (refine RW.storeAll T hs 1 rfl rfl rfl rfl rfl rfl rfl rfl ?_; intro w9 hs)
    refine Zerun ?_
    exact retQ_ret [_] h7 ⟨resN T hs 1 rfl rfl rfl rfl rfl rfl, trivial⟩ hs.dropAll ⟨_, rfl, ItemAt.mk' (x := ⟨c, 0, 0, [(⟨[0], [], 0⟩ : PlainD β)]⟩) hR7 (Nat.succ_pos _)⟩
  rw [if_neg c2]
  refine Zerun ?_
  (refine RW.storeAll T hs 1 rfl rfl rfl rfl rfl rfl rfl rfl ?_; intro w5 hs)
  refine Zerun ?_
  exact retQ_ret [_] h ⟨resN T hs 1 rfl rfl rfl rfl rfl rfl, trivial⟩ hs.dropAll ⟨_, rfl, ItemAt.mk' (x := ⟨c, 0, 0, []⟩) (RowsAt.nil _) (Nat.succ_pos _)⟩
theorem refList08_con {γ : Type} {RC : GHeap → List Value → γ → Prop} (hRC : Mono RC) (v : Value) (l : List (ItemD γ)) (c : Int) (w : World) (h : GHeap) (hl : RowsAt 4 (ItemAt RC h) h v l) : Con Try.prog 136 [v, .int .i64 c] w h (fun h' u => ∃ cs', u = .agg cs'.toArray ∧ PlainR RC h' cs' (⟨[(l.length : Int)], l, c⟩ : PlainD γ)) := by
  have hl' := hl
  obtain ⟨ad, cp, xs, rfl, hS, hA⟩ := hl
  refine Con.of_body Try.func136 rfl Try.ntmps136 rfl rfl ?_
  intro hs
  refine Zrun ?_
  (refine RW.allocN T hs rfl rfl rfl rfl ?_; intro b1 w1 hs)
  refine Zerun ?_
  (refine RW.lit T hs (vs := [.int .i64 l.length]) (cs := [.int .i64 l.length]) rfl rfl rfl rfl (by simp [Value.cells]) rfl rfl rfl rfl rfl ?_; intro b2 w2 hs)
  obtain ⟨h3, hle3, hs, hS3⟩ := hs.freeze
  have hI3 : IntsAt h3 (.slice (some ⟨b2, 0, none⟩) 1 1) [(l.length : Int)] := IntsAt.of_sl hS3
  refine Zerun ?_
  refine RW.val (Y.build T rfl rfl rfl rfl rfl rfl rfl) rfl ?_
  (refine RW.storeAll T hs 0 rfl rfl rfl rfl rfl rfl rfl rfl ?_; intro w4 hs)
  refine Zerun ?_
  exact retQ_ret [_] h3 ⟨resN T hs 0 rfl rfl rfl rfl rfl rfl, trivial⟩ hs.dropAll ⟨_, rfl, _, _, rfl, hI3, hl'.mono hle3 (fun u a => ItemAt.mono hRC _ _ u a hle3)⟩
theorem refPick08_con (hR : Mono R) (v v1 : Value) (l : List (ItemD (PlainD β))) (c : Int) (at_ : List Int) (w : World) (h : GHeap) (hl : RowsAt 4 (ItemAt (PlainR R) h) h v l) (ha : IntsAt h v1 at_) (hm : at_.length ≤ 1048576) : Con Try.prog 67 [v, .int .i64 c, v1] w h (fun h' u => RowsAt 4 (ItemAt (PlainR R) h') h' u (at_.map fun i => atD l i (blankI c))) := by
  have hRI := ItemAt.mono (PlainR.mono hR)
  obtain ⟨ad, cp, xs, rfl, hS, hA⟩ := hl
  obtain ⟨ad1, cp1, rfl, hS1⟩ := ha
  have hlen : l.length ≤ 9223372036854775807 := by have := hS.caps; omega
  refine Con.of_body Try.func67 rfl Try.ntmps67 rfl rfl ?_
  intro hs
  refine Zerun ?_
  have hs := hs.nilRow 83 4
  refine CW.loop (fun u : Nat × Option Addr × Nat × List Value × GHeap => [(0, .slice ad l.length cp), (1, .int .i64 c), (2, .slice ad1 at_.length cp1), (7, .slice u.2.1 u.1 u.2.2.1), (8, .int .i64 u.1)]) (fun u w' => u.1 ≤ at_.length ∧ GLe h u.2.2.2.2 ∧ AllN 4 (ItemAt (PlainR R) u.2.2.2.2) u.2.2.2.1 ((at_.take u.1).map fun i => atD l i (blankI c)) ∧ Sees w h u.2.2.2.2 [⟨u.2.1, u.1, u.2.2.1, 83, 4, u.2.2.2.1⟩] w') (fun u => at_.length - u.1) (0, none, 0, [], h) ⟨rfl, rfl, rfl, rfl, rfl, trivial⟩ ⟨by omega, GLe.refl _, rfl, hs⟩ ?_
  rintro ⟨i, ra, rc, vs, hh⟩ w5 ⟨hi, hg, hAv, hs⟩
  dsimp only at hi hg hAv hs ⊢
  have hS := hS.mono hg
  have hS1 := hS1.mono hg
  by_cases hlt : i < at_.length
  · have htk := take_succ_getD at_ i 0 hlt
    have done : ∀ (h6 : GHeap) (cs6 : List Value) (x : ItemD (PlainD β)), GLe hh h6 → cs6.length = 4 → ItemAt (PlainR R) h6 cs6 x → x = atD l (at_.getD i 0) (blankI c) → AllN 4 (ItemAt (PlainR R) h6) (vs ++ cs6) ((at_.take (i + 1)).map fun i => atD l i (blankI c)) := by
      intro h6 cs6 x hle6 hl6 hi6 hx
      rw [htk, List.map_append]
      show AllN 4 _ (vs ++ cs6) (_ ++ [atD l (at_.getD i 0) (blankI c)])
      rw [← hx]
      exact (hAv.mono (fun u a => hRI _ _ u a hle6)).append (AllN.one hl6 hi6)
    by_cases c1 : at_.getD i 0 < 0
    · refine Zerun ?_
      (refine RW.call T hs rfl rfl rfl (refBlank08_con hR c _ _) ?_; intro v h6 w6 hle6 hp6 hs)
      obtain ⟨cs6, rfl, hi6⟩ := hp6
      have hl6 : cs6.length = 4 := by obtain ⟨_, rfl, _⟩ := hi6; rfl
      have ho6 := ItemAt.one _ _ _ hi6
      (refine RW.lit T hs (vs := [.agg cs6.toArray]) (cs := cs6) rfl rfl rfl rfl (by simp [Value.cells, hl6]) rfl (by simp [Value.cells]) rfl rfl rfl ?_; intro b7 w7 hs)
      (refine RW.append T hs 1 rfl rfl (m := 1) (news := cs6) rfl rfl rfl rfl rfl rfl (hs.src0 (by simpa using hl6) ho6) (by simp) (by dsimp only; omega) (by omega) ?_; intro ad8 cp8 w8 hs; replace hs := hs.drop)
      refine Zerun ?_
      exact loopQ_round (i + 1, ad8, cp8, vs ++ cs6, h6) ⟨rfl, rfl, rfl, rfl, rfl, trivial⟩ ⟨by dsimp only; omega, hg.trans hle6, done h6 cs6 _ hle6 hl6 hi6 (atD_out (by omega)).symm, hs⟩ (by dsimp only; omega)
    by_cases c2 : ¬ at_.getD i 0 < l.length
    · refine Zerun ?_
      (refine RW.call T hs rfl rfl rfl (refBlank08_con hR c _ _) ?_; intro v h6 w6 hle6 hp6 hs)
      obtain ⟨cs6, rfl, hi6⟩ := hp6
      have hl6 : cs6.length = 4 := by obtain ⟨_, rfl, _⟩ := hi6; rfl
      have ho6 := ItemAt.one _ _ _ hi6
      (refine RW.lit T hs (vs := [.agg cs6.toArray]) (cs := cs6) rfl rfl rfl rfl (by simp [Value.cells, hl6]) rfl (by simp [Value.cells]) rfl rfl rfl ?_; intro b7 w7 hs)
      (refine RW.append T hs 1 rfl rfl (m := 1) (news := cs6) rfl rfl rfl rfl rfl rfl (hs.src0 (by simpa using hl6) ho6) (by simp) (by dsimp only; omega) (by omega) ?_; intro ad8 cp8 w8 hs; replace hs := hs.drop)
      refine Zerun ?_
      exact loopQ_round (i + 1, ad8, cp8, vs ++ cs6, h6) ⟨rfl, rfl, rfl, rfl, rfl, trivial⟩ ⟨by dsimp only; omega, hg.trans hle6, done h6 cs6 _ hle6 hl6 hi6 (atD_out (by omega)).symm, hs⟩ (by dsimp only; omega)
    have hlk : (at_.getD i 0).toNat < l.length := by omega
    obtain ⟨y, hy, hyl, hRy⟩ := hA.elem _ hlk
    have hoy := ItemAt.one _ _ _ hRy
    have hRy := hRI _ _ _ _ hg hRy
    refine Zerun ?_
    (refine RW.lit T hs (vs := [.agg y.toArray]) (cs := y) rfl rfl rfl rfl (by simp [Value.cells, hyl]) rfl (by simp [Value.cells]) rfl rfl rfl ?_; intro b7 w7 hs)
    (refine RW.append T hs 1 rfl rfl (m := 1) (news := y) rfl rfl rfl rfl rfl rfl (hs.src0 (by simpa using hyl) hoy) (by simp) (by dsimp only; omega) (by omega) ?_; intro ad8 cp8 w8 hs; replace hs := hs.drop)
    refine Zerun ?_
    exact loopQ_round (i + 1, ad8, cp8, vs ++ y, hh) ⟨rfl, rfl, rfl, rfl, rfl, trivial⟩ ⟨by dsimp only; omega, hg, done hh y _ (GLe.refl _) hyl hRy ((getElem_getD l _ _ hlk).trans (atD_in (by omega)).symm), hs⟩ (by dsimp only; omega)
  · obtain rfl : i = at_.length := by omega
    rw [List.take_length] at hAv
    obtain ⟨h6, hle6, hs, hS6⟩ := hs.freeze
    refine Zerun ?_
    exact retQ_ret [_] h6 ⟨rfl, trivial⟩ hs.dropAll ⟨ra, rc, vs, by simp [packv], by simpa using hS6, hAv.mono (fun u a => hRI _ _ u a hle6)⟩
end
theorem shows_con (k : Nat) (cs : List Value) (v : VecD (AD k)) (v1 : Value) (l : List (ItemD (PD k))) (c : Int) (w : World) (h : GHeap) (hv : VecAt (ArrAt k) h cs v) (hl : RowsAt 4 (ItemAt (PlainAt k) h) h v1 l) (hc : v.cls = c) (hk0 : v.kind ≠ 0) (hkl : v.kind = v.least) (hvm : v.len ≤ 1048576) (hsm : ∀ b ∈ v.boxes, sml k b) (he : itemsV (plain k) v = l) (htd : ∀ x ∈ l, tdyIt (tdy k) x) : Con Try.prog 65 [.agg cs.toArray, v1, .int .i64 c] w h (fun _ u => u = .bool true) := by
  have hv' := hv
  have hl' := hl
  have hlv : l.length = v.len := by rw [← he, itemsV_len (plain k) hv]
  have htd1 : tdy (k + 1) (plain (k + 1) (⟨[(v.len : Int)], v⟩ : ArrD (AD k))) := fun x hx => htd x (by rw [← he]; exact hx)
  have htd2 : tdy (k + 1) (⟨[(l.length : Int)], l, c⟩ : PlainD (PD k)) := fun x hx => htd x hx
  have hpe : plain (k + 1) (⟨[(v.len : Int)], v⟩ : ArrD (AD k)) = (⟨[(l.length : Int)], l, c⟩ : PlainD (PD k)) := by
    show (⟨[(v.len : Int)], itemsV (plain k) v, v.cls⟩ : PlainD (PD k)) = _
    rw [he, hlv, hc]
  obtain ⟨wv, nv, sm, il, fl, ch, bx, ⟨rfl, hoc⟩, hkk⟩ := hv
  clear hkk
  obtain ⟨ad, cp, xs, rfl, _, _⟩ := hl
  refine Con.of_body Try.func65 rfl Try.ntmps65 rfl rfl ?_
  intro hs
  refine Zrun ?_
  (refine RW.boxN hs rfl rfl ?_; intro b1 w1 hs)
  refine Zerun ?_
  (refine RW.call T hs rfl rfl rfl (vecClass_con _ v _ _ hv') ?_; intro v h2 w2 hle2 hp2 hs)
  subst hp2
  have hv' := hv'.mono (ArrAt.mono k) hle2
  have hl' := hl'.mono hle2 (fun u a => ItemAt.mono (PlainAt.mono k) _ _ u a hle2)
  refine Zerun ?_
  (refine RW.call T hs rfl rfl rfl (sqTight_con (ArrAt.mono k) _ v _ _ hv' hvm) ?_; intro v h3 w3 hle3 hp3 hs)
  subst hp3
  rw [decide_eq_true hkl]
  have hv' := hv'.mono (ArrAt.mono k) hle3
  have hl' := hl'.mono hle3 (fun u a => ItemAt.mono (PlainAt.mono k) _ _ u a hle3)
  refine Zerun ?_
  (refine RW.call T hs rfl rfl rfl (vecKind_con _ v _ _ hv') ?_; intro v h4 w4 hle4 hp4 hs)
  subst hp4
  have hv' := hv'.mono (ArrAt.mono k) hle4
  have hl' := hl'.mono hle4 (fun u a => ItemAt.mono (PlainAt.mono k) _ _ u a hle4)
  refine Zerun ?_
  refine CW.regionO T hs ?_
  intro w5 hs
  refine HW.takeS (fuel := 10) 0 rfl (fun _ _ hs => Y.loadRowN T hs 0 rfl rfl rfl rfl rfl rfl rfl) hs rfl (by kernel_rfl) (by kernel_rfl) (by kernel_rfl) ?_
  refine HW.takeS (fuel := 9) 3 rfl (fun _ _ hs => Y.loadRowN T hs 0 rfl rfl rfl rfl rfl rfl rfl) hs rfl (by kernel_rfl) (by kernel_rfl) (by kernel_rfl) ?_
  refine HW.takeS (fuel := 8) 6 rfl (fun _ _ hs => Y.move rfl) hs rfl (by kernel_rfl) (by kernel_rfl) (by kernel_rfl) ?_
  refine HW.takeS (fuel := 7) 7 rfl (fun _ _ hs => Y.move rfl) hs rfl (by kernel_rfl) (by kernel_rfl) (by kernel_rfl) ?_
  refine HW.one (fuel := 6) 1 rfl (by kernel_rfl) ?_
  (refine RW.call T hs rfl rfl rfl (vecLen_con _ v _ _ hv') ?_; intro v h22 w22 hle22 hp22 hs)
  subst hp22
  have hv' := hv'.mono (ArrAt.mono k) hle22
  have hl' := hl'.mono hle22 (fun u a => ItemAt.mono (PlainAt.mono k) _ _ u a hle22)
  refine RW.nil ?_
  refine heldQ_normal ⟨_, hs⟩ ?_
  refine HW.one (fuel := 5) 2 rfl (by kernel_rfl) ?_
  (refine RW.lit T hs (vs := [.int .i64 v.len]) (cs := [.int .i64 v.len]) rfl rfl rfl rfl (by simp [Value.cells]) rfl rfl rfl rfl rfl ?_; intro b23 w23 hs)
  obtain ⟨h23, hle23, hs, hS23⟩ := hs.freeze
  have ha23 : ArrAt (k + 1) h23 (.slice (some ⟨b23, 0, none⟩) 1 1 :: (vecCells v.kind wv nv sm il fl ch bx)) (⟨[(v.len : Int)], v⟩ : ArrD (AD k)) := ⟨_, _, rfl, IntsAt.of_sl hS23, hv'.mono (ArrAt.mono k) hle23⟩
  have hl' := hl'.mono hle23 (fun u a => ItemAt.mono (PlainAt.mono k) _ _ u a hle23)
  refine RW.nil ?_
  refine heldQ_normal ⟨_, hs⟩ ?_
  refine HW.takeS (fuel := 4) 4 rfl (fun _ _ hs => Y.build T rfl rfl rfl rfl rfl rfl rfl) hs rfl (by kernel_rfl) (by kernel_rfl) (by kernel_rfl) ?_
  refine HW.one (fuel := 3) 5 rfl (by kernel_rfl) ?_
  (refine RW.call T hs rfl rfl rfl (plainV_con (k + 1) _ _ _ _ ha23 ⟨(by show 1 ≤ 8; omega), hvm, hsm⟩) ?_; intro v h26 w26 hle26 hp26 hs)
  obtain ⟨cs26, rfl, hq26⟩ := hp26
  have hl' := hl'.mono hle26 (fun u a => ItemAt.mono (PlainAt.mono k) _ _ u a hle26)
  refine RW.nil ?_
  refine heldQ_normal ⟨_, hs⟩ ?_
  refine HW.one (fuel := 2) 8 rfl (by kernel_rfl) ?_
  (refine RW.call T hs rfl rfl rfl (refList08_con (PlainAt.mono k) _ _ c _ _ hl') ?_; intro v h29 w29 hle29 hp29 hs)
  obtain ⟨cs29, rfl, hq29⟩ := hp29
  have hq26 := PlainAt.mono (k + 1) _ _ _ _ hle29 hq26
  refine RW.nil ?_
  refine heldQ_normal ⟨_, hs⟩ ?_
  refine HW.one (fuel := 1) 9 rfl (by kernel_rfl) ?_
  (refine RW.call T hs rfl rfl rfl (refSame_con (k + 1) _ _ _ _ _ _ hq26 hq29 htd1 htd2) ?_; intro v h30 w30 hle30 hp30 hs)
  subst hp30
  rw [eqB_of hpe]
  refine RW.nil ?_
  refine heldQ_normal ⟨_, hs⟩ ?_
  refine HW.takeS (fuel := 0) 10 rfl (fun _ _ hs => Y.assign rfl) hs rfl (by kernel_rfl) (by kernel_rfl) (by kernel_rfl) ?_
  refine HW.done (by kernel_rfl) ?_
  refine calmQ_normal ?_
  refine Zerun ?_
  exact retQ_ret [_] h30 ⟨rfl, trivial⟩ hs.dropAll rfl
end Go.Proofs.Ythbfkhklihejiaa

/-
  Contracts of the law's own functions of layer 8: good plain arrays, the chapter's example, elements at all places. No statement is proved here.
-/
namespace Go.Proofs.Ythbfkhklihejiaa
open Go Go.RowKit
set_option linter.unusedVariables false
set_option linter.unusedSimpArgs false
set_option maxHeartbeats 4000000
attribute [local irreducible] CW RW QW SW HW ConM retM heldQ calmQ elemP thenQ blockQ loopQ joinQ retQ Yields Con Sl zF magR unitF truncF fwF wholeF tidySpec elemQ rankF leastN tidyW
set_option maxHeartbeats 4000000

theorem Y.fieldVec {P : Program} (T : Tab P) {n : Nat} {L : Env} {w : World} {ty t : TypeId} {x : Operand} {fs : List (Nat × Nat)} {j ft : Nat} {d : Ty} {i : Inf} {s : Value} {vc : List Value} (hT : T.ty t = some (.struct fs)) (hf : fs[j]? = some (ft, 1)) (hF : T.ty ft = some d) (hd : d.agg = true) (hI : T.inf ft = some i) (hx : opv L x = some (.agg (s :: vc).toArray)) (hl : vc.length = i.size) : Yields P n L w (.field t x j) ty (.agg vc.toArray) := by
  have := Y.fieldN (P := P) (n := n) (w := w) (ty := ty) T hT hf hF hd hI hx
  have e : (s :: vc).toArray.extract 1 (1 + i.size) = vc.toArray := by
    apply Array.ext'
    simp [← hl]
  rwa [e] at this
/-! ## Plain facts -/
theorem atD_map {γ δ : Type} (g : γ → δ) (l : List γ) (i : Int) (d : γ) : atD (l.map g) i (g d) = g (atD l i d) := by
  unfold atD
  split
  · by_cases c : i.toNat < l.length
    · simp [List.getD_eq_getElem?_getD, c]
    · simp [List.getD_eq_getElem?_getD, c]
  · rfl
theorem atD_mem {γ : Type} (l : List γ) (i : Int) (d : γ) : atD l i d ∈ l ∨ atD l i d = d := by
  unfold atD
  split
  · by_cases c : i.toNat < l.length
    · exact .inl (mem_getD _ _ _ c)
    · right; simp [List.getD_eq_getElem?_getD, c]
  · exact .inr rfl
section
variable {α β : Type} {R : GHeap → List Value → α → Prop}
theorem pick_cls (v : VecD α) (at_ : List Int) (nb : α) : (v.pick at_ nb).cls = v.cls := by
  unfold VecD.pick
  by_cases k5 : v.kind = 5
  · rw [if_pos k5]; unfold VecD.cls; rw [if_pos rfl, if_pos k5]
  · rw [if_neg k5]
    by_cases k6 : v.kind = 6
    · rw [if_pos k6]; unfold VecD.cls; rw [if_neg (show ¬ (6 : Int) = 5 by decide), if_pos rfl, if_neg k5, if_pos k6]
    · rw [if_neg k6]
      have := leastN_bounds (at_.map v.num)
      unfold VecD.cls
      rw [if_neg k5, if_neg k6]
      dsimp only
      rw [if_neg (by omega), if_neg (by omega)]
theorem pick_facts (v : VecD α) (at_ : List Int) (nb : α) : (v.pick at_ nb).kind ≠ 0 ∧ (v.pick at_ nb).kind = (v.pick at_ nb).least ∧ (v.pick at_ nb).len = at_.length ∧ ∀ b ∈ (v.pick at_ nb).boxes, b ∈ v.boxes ∨ b = nb := by
  have hc := pick_cls v at_ nb
  unfold VecD.least
  rw [hc]
  unfold VecD.cls VecD.pick
  by_cases k5 : v.kind = 5
  · rw [if_pos k5, if_pos k5]; simp [VecD.len]
  · rw [if_neg k5, if_neg k5]
    by_cases k6 : v.kind = 6
    · rw [if_pos k6, if_pos k6]
      refine ⟨show (6 : Int) ≠ 0 by decide, by simp, by simp [VecD.len], ?_⟩
      intro b hb
      obtain ⟨i, _, rfl⟩ := List.mem_map.1 hb
      exact atD_mem _ _ _
    · rw [if_neg k6, if_neg k6]
      have := leastN_bounds (at_.map v.num)
      exact ⟨by dsimp only; omega, by dsimp only; rw [if_pos ⟨rfl, by omega⟩], by simp [VecD.len], fun b hb => by cases hb⟩
theorem itemsV_c1 (f : α → β) {v : VecD α} (hc : v.cls = 1) : itemsV f v = v.chars.map fun c => ⟨1, 0, c, []⟩ := by unfold itemsV; rw [if_pos hc]
theorem itemsV_c2 (f : α → β) {v : VecD α} (hc : v.cls = 2) : itemsV f v = v.boxes.map fun b => ⟨2, 0, 0, [f b]⟩ := by unfold itemsV; rw [if_neg (by omega), if_pos hc]
theorem itemsV_c0 (f : α → β) {v : VecD α} (hc : v.cls = 0) : itemsV f v = v.nums.map fun x => ⟨0, x, 0, []⟩ := by unfold itemsV; rw [if_neg (by omega), if_neg (by omega)]
theorem pick_items (f : α → PlainD β) (v : VecD α) (at_ : List Int) (nb : α) (hnb : f nb = ⟨[0], [], 0⟩) : itemsV f (v.pick at_ nb) = at_.map (fun i => atD (itemsV f v) i (blankI v.cls)) := by
  have hpc := pick_cls v at_ nb
  have hcl : v.cls = if v.kind = 5 then 1 else if v.kind = 6 then 2 else 0 := rfl
  by_cases k5 : v.kind = 5
  · rw [if_pos k5] at hcl
    have e : (v.pick at_ nb).chars = at_.map (fun i => atD v.chars i 32) := by unfold VecD.pick; rw [if_pos k5]
    rw [itemsV_c1 f (hpc.trans hcl), itemsV_c1 f hcl, hcl, e, List.map_map]
    apply List.map_congr_left
    intro i _
    exact (atD_map (fun c => (⟨1, 0, c, []⟩ : ItemD (PlainD β))) v.chars i 32).symm
  · rw [if_neg k5] at hcl
    by_cases k6 : v.kind = 6
    · rw [if_pos k6] at hcl
      have e : (v.pick at_ nb).boxes = at_.map (fun i => atD v.boxes i nb) := by unfold VecD.pick; rw [if_neg k5, if_pos k6]
      rw [itemsV_c2 f (hpc.trans hcl), itemsV_c2 f hcl, hcl, e, List.map_map]
      apply List.map_congr_left
      intro i _
      have e := (atD_map (fun b => (⟨2, 0, 0, [f b]⟩ : ItemD (PlainD β))) v.boxes i nb).symm
      rw [hnb] at e
      exact e
    · rw [if_neg k6] at hcl
      have e : (v.pick at_ nb).nums = at_.map v.num := by unfold VecD.pick; rw [if_neg k5, if_neg k6]
      rw [itemsV_c0 f (hpc.trans hcl), itemsV_c0 f hcl, hcl, e, List.map_map]
      apply List.map_congr_left
      intro i _
      exact (atD_map (fun x => (⟨0, x, 0, []⟩ : ItemD (PlainD β))) v.nums i 0).symm
theorem pick_items' (f : α → PlainD β) (v : VecD α) (at_ : List Int) (nb : α) (L : List (ItemD (PlainD β))) (c : Int) (hL : itemsV f v = L) (hc : v.cls = c) (hnb : f nb = ⟨[0], [], 0⟩) : itemsV f (v.pick at_ nb) = at_.map (fun i => atD L i (blankI c)) := by
  subst hL hc
  exact pick_items f v at_ nb hnb
end
def blankA (k : Nat) : AD (k + 1) := (⟨[0], ⟨1, [], [], []⟩⟩ : ArrD (AD k))
def blankP (k : Nat) : PD (k + 1) := (⟨[0], [], 0⟩ : PlainD (PD k))
theorem blankA_plain (k : Nat) : plain (k + 1) (blankA k) = blankP k := rfl
theorem blankA_sml (k : Nat) : sml (k + 1) (blankA k) := ⟨by show 1 ≤ 8; omega, Nat.zero_le _, fun b hb => by cases hb⟩
theorem blankP_tdy (k : Nat) : tdy (k + 1) (blankP k) := fun x hx => by cases hx
theorem blankI_tdy (k : Nat) (c : Int) : tdyIt (tdy (k + 1)) (blankI c : ItemD (PlainD (PD k))) := by
  refine ⟨tidy0, fun b hb => ?_⟩
  unfold blankI at hb
  dsimp only at hb
  split at hb
  · rw [List.mem_singleton.1 hb]; exact blankP_tdy k
  · cases hb
theorem good08_con (k : Nat) (cs : List Value) (p : PD k) (w : World) (h : GHeap) (hp : PlainAt k h cs p) : Con Try.prog 63 [.agg cs.toArray] w h (fun _ u => ∃ b, u = .bool b ∧ (b = true → chk k 40 p = 0)) := by
  have hp' := hp
  cases k with
  | zero => exact hp.elim
  | succ k =>
    obtain ⟨s, it, rfl, _⟩ := hp
    refine Con.of_body Try.func63 rfl Try.ntmps63 rfl rfl ?_
    intro hs
    refine Zrun ?_
    (refine RW.boxN hs rfl rfl ?_; intro b1 w1 hs)
    refine Zerun ?_
    (refine RW.call T hs rfl rfl rfl (refCount_con 3000 (k + 1) _ p _ _ hp') ?_; intro v h2 w2 hle2 hp2 hs)
    obtain ⟨r, rfl⟩ := hp2
    by_cases c1 : r ≤ 2000
    · refine Zerun ?_
      (refine RW.call T hs rfl rfl rfl (refCheck_con (k + 1) _ p _ _ (PlainAt.mono (k + 1) _ _ _ _ hle2 hp')) ?_; intro v h3 w3 hle3 hp3 hs)
      subst hp3
      refine Zerun ?_
      exact retQ_ret [_] h3 ⟨rfl, trivial⟩ hs.dropAll ⟨_, rfl, fun e => of_decide_eq_true e⟩
    · refine Zerun ?_
      exact retQ_ret [_] h2 ⟨rfl, trivial⟩ hs.dropAll ⟨_, rfl, fun e => by cases e⟩
theorem tidy5 : tidyF 4617315517961601024 := ⟨by omega, by decide, by omega⟩
theorem tidy6 : tidyF 4618441417868443648 := ⟨by omega, by decide, by omega⟩
theorem tidy7 : tidyF 4619567317775286272 := ⟨by omega, by decide, by omega⟩
theorem l567 : ∀ u ∈ [4617315517961601024, 4618441417868443648, 4619567317775286272], tidyF u := by
  intro u hu
  simp only [List.mem_cons, List.not_mem_nil, or_false] at hu
  rcases hu with rfl | rfl | rfl
  · exact tidy5
  · exact tidy6
  · exact tidy7
theorem awake08_con (w : World) (h : GHeap) : Con Try.prog 64 [] w h (fun _ u => u = .bool true) := by
  refine Con.of_body Try.func64 rfl Try.ntmps64 rfl rfl ?_
  intro hs
  refine Zrun ?_
  (refine RW.lit T hs (vs := [.float .f64 4617315517961601024, .float .f64 4618441417868443648, .float .f64 4619567317775286272]) rfl rfl rfl rfl (by simp [Value.cells]) rfl rfl rfl rfl rfl ?_; intro b1 w1 hs)
  obtain ⟨h1, hle1, hs, hS1⟩ := hs.freeze
  have hF1 : FAt h1 (.slice (some ⟨b1, 0, none⟩) 3 3) [4617315517961601024, 4618441417868443648, 4619567317775286272] := RowAt.of_sl hS1
  (refine RW.call T hs rfl rfl rfl (sqNumbers_con (R := ArrAt 1) (ArrAt.mono 1) _ _ _ _ hF1 (fun u hu => (l567 u hu).1) (by decide)) ?_; intro v h2 w2 hle2 hp2 hs)
  obtain ⟨cs2, ok, rfl, hok, hv2⟩ := hp2
  obtain rfl : ok = true := by rw [hok]; exact decide_eq_true (fun u hu => (l567 u hu).2.1)
  rw [if_pos rfl] at hv2
  have eN : [4617315517961601024, 4618441417868443648, 4619567317775286272].map tidyW = [4617315517961601024, 4618441417868443648, 4619567317775286272] := by
    simp only [List.map_cons, List.map_nil]
    unfold tidyW
    rw [tidySpec_of _ tidy5, tidySpec_of _ tidy6, tidySpec_of _ tidy7]
  rw [eN] at hv2
  have hlb := leastN_bounds [4617315517961601024, 4618441417868443648, 4619567317775286272]
  generalize leastN [4617315517961601024, 4618441417868443648, 4619567317775286272] = ln at hv2 hlb
  have hv2' := hv2
  obtain ⟨wv, nv, sm, il, fl, ch, bx, ⟨rfl, hoc2⟩, _⟩ := hv2
  refine Zerun ?_
  (refine RW.allocN T hs rfl rfl rfl rfl ?_; intro b3 w3 hs)
  (refine RW.storeAll T hs 0 rfl rfl rfl rfl rfl rfl hoc2 rfl ?_; intro w4 hs)
  refine Zerun ?_
  (refine RW.lit T hs (vs := [.int .i64 2, .int .i64 (-1), .int .i64 0]) rfl rfl rfl rfl (by simp [Value.cells]) rfl rfl rfl rfl rfl ?_; intro b5 w5 hs)
  obtain ⟨h5, hle5, hs, hS5⟩ := hs.freeze
  have hI5 : IntsAt h5 (.slice (some ⟨b5, 0, none⟩) 3 3) [2, -1, 0] := IntsAt.of_sl hS5
  (refine RW.call T hs rfl rfl rfl (flatPick_con (ArrAt.mono 1) (ArrAt.one 1) (ArrAt.siz 1) (blankA 0) (fun w h => flatBlank_con (ArrAt.mono 0) (ArrAt.one 0) w h) _ _ _ [2, -1, 0] _ _ (hv2'.mono (ArrAt.mono 1) hle5) hI5 (by decide) (by simp [VecD.len]) (by dsimp only; omega)) ?_; intro v h6 w6 hle6 hp6 hs)
  obtain ⟨cs6, rfl, hv6⟩ := hp6
  have hpf := pick_facts (⟨ln, [4617315517961601024, 4618441417868443648, 4619567317775286272], [], []⟩ : VecD (AD 1)) [2, -1, 0] (blankA 0)
  have hpc := pick_cls (⟨ln, [4617315517961601024, 4618441417868443648, 4619567317775286272], [], []⟩ : VecD (AD 1)) [2, -1, 0] (blankA 0)
  have hcl : (⟨ln, [4617315517961601024, 4618441417868443648, 4619567317775286272], [], []⟩ : VecD (AD 1)).cls = 0 := by unfold VecD.cls; dsimp only; rw [if_neg (by omega), if_neg (by omega)]
  rw [hcl] at hpc
  have hit : itemsV (plain 1) (⟨ln, [4617315517961601024, 4618441417868443648, 4619567317775286272], [], []⟩ : VecD (AD 1)) = [⟨0, 4617315517961601024, 0, []⟩, ⟨0, 4618441417868443648, 0, []⟩, ⟨0, 4619567317775286272, 0, []⟩] := by unfold itemsV; rw [hcl]; rfl
  have hpi : itemsV (plain 1) (VecD.pick (⟨ln, [4617315517961601024, 4618441417868443648, 4619567317775286272], [], []⟩ : VecD (AD 1)) [2, -1, 0] (blankA 0)) = [⟨0, 4619567317775286272, 0, []⟩, ⟨0, 0, 0, []⟩, ⟨0, 4617315517961601024, 0, []⟩] :=
    pick_items' (β := PD 0) (plain 1) _ [2, -1, 0] (blankA 0) _ 0 hit hcl rfl
  have hv6' := hv6
  generalize VecD.pick (⟨ln, [4617315517961601024, 4618441417868443648, 4619567317775286272], [], []⟩ : VecD (AD 1)) [2, -1, 0] (blankA 0) = pv at *
  obtain ⟨wv6, nv6, sm6, il6, fl6, ch6, bx6, ⟨rfl, hoc6⟩, _⟩ := hv6
  refine Zerun ?_
  (refine RW.allocN T hs rfl rfl rfl rfl ?_; intro b7 w7 hs)
  (refine RW.storeAll T hs 0 rfl rfl rfl rfl rfl rfl hoc6 rfl ?_; intro w8 hs)
  refine Zerun ?_
  refine RW.val (Y.build T rfl rfl rfl rfl rfl rfl rfl) rfl ?_
  refine Zerun ?_
  refine RW.val (Y.build T rfl rfl rfl rfl rfl rfl rfl) rfl ?_
  refine Zerun ?_
  refine RW.val (Y.build T rfl rfl rfl rfl rfl rfl rfl) rfl ?_
  refine Zerun ?_
  (refine RW.lit T hs (vs := [.agg [.int .i64 0, .float .f64 4619567317775286272, .int .i32 0, .slice none 0 0].toArray, .agg [.int .i64 0, .float .f64 0, .int .i32 0, .slice none 0 0].toArray, .agg [.int .i64 0, .float .f64 4617315517961601024, .int .i32 0, .slice none 0 0].toArray]) (cs := [.int .i64 0, .float .f64 4619567317775286272, .int .i32 0, .slice none 0 0] ++ ([.int .i64 0, .float .f64 0, .int .i32 0, .slice none 0 0] ++ [.int .i64 0, .float .f64 4617315517961601024, .int .i32 0, .slice none 0 0])) rfl rfl rfl rfl (by simp [Value.cells]) rfl rfl rfl rfl rfl ?_; intro b9 w9 hs)
  obtain ⟨h10, hle10, hs, hS10⟩ := hs.freeze
  have hr10 : RowsAt 4 (ItemAt (PlainAt 1) h10) h10 (.slice (some ⟨b9, 0, none⟩) 3 3) [⟨0, 4619567317775286272, 0, []⟩, ⟨0, 0, 0, []⟩, ⟨0, 4617315517961601024, 0, []⟩] := by
    refine ⟨_, _, _, rfl, hS10, ?_⟩
    refine ⟨rfl, ⟨_, rfl, RowsAt.nil _, by decide⟩, rfl, ⟨_, rfl, RowsAt.nil _, by decide⟩, rfl, ⟨_, rfl, RowsAt.nil _, by decide⟩, rfl⟩
  refine Zerun ?_
  have htt : ∀ x ∈ ([⟨0, 4619567317775286272, 0, []⟩, ⟨0, 0, 0, []⟩, ⟨0, 4617315517961601024, 0, []⟩] : List (ItemD (PD 1))), tdyIt (tdy 1) x := by
    intro x hx
    simp only [List.mem_cons, List.not_mem_nil, or_false] at hx
    rcases hx with rfl | rfl | rfl
    · exact ⟨tidy7, fun b hb => by cases hb⟩
    · exact ⟨tidy0, fun b hb => by cases hb⟩
    · exact ⟨tidy5, fun b hb => by cases hb⟩
  have hsb : ∀ b ∈ pv.boxes, sml 1 b := by
    intro b hb
    rcases hpf.2.2.2 b hb with e | e
    · cases e
    · rw [e]; exact blankA_sml 0
  (refine RW.call T hs rfl rfl rfl (shows_con 1 _ _ _ _ 0 _ _ (hv6'.mono (ArrAt.mono 1) hle10) hr10 hpc hpf.1 hpf.2.1 (by rw [hpf.2.2.1]; decide) hsb hpi htt) ?_; intro v h11 w11 hle11 hp11 hs)
  subst hp11
  refine Zerun ?_
  exact retQ_ret [_] h11 ⟨rfl, trivial⟩ hs.dropAll rfl
theorem flatPicksLaw_con (k : Nat) (cs : List Value) (p : PD (k + 2)) (v1 : Value) (at_ : List Int) (w : World) (h : GHeap) (hp : PlainAt (k + 2) h cs p) (ha : IntsAt h v1 at_) : Con Try.prog 10 [.agg cs.toArray, v1] w h (fun _ u => u = .bool true) := by
  have hp' := hp
  have ha' := ha
  obtain ⟨s, it, rfl, ⟨ad, cp, rfl, _⟩, ⟨ad2, cp2, xs, rfl, _, _⟩⟩ := hp
  obtain ⟨ad1, cp1, rfl, _⟩ := ha
  refine Con.of_body Try.func10 rfl Try.ntmps10 rfl rfl ?_
  intro hs
  refine Zrun ?_
  (refine RW.boxN hs rfl rfl ?_; intro b1 w1 hs)
  refine Zerun ?_
  (refine RW.call T hs rfl rfl rfl (good08_con (k + 2) _ p _ _ hp') ?_; intro v h2 w2 hle2 hp2 hs)
  obtain ⟨b, rfl, hb⟩ := hp2
  have hp' := PlainAt.mono (k + 2) _ _ _ _ hle2 hp'
  have ha' := ha'.mono hle2
  cases b with
  | false =>
    refine Zerun ?_
    (refine RW.call T hs rfl rfl rfl (awake08_con _ _) ?_; intro v h3 w3 hle3 hp3 hs)
    subst hp3
    refine Zerun ?_
    exact retQ_ret [_] h3 ⟨rfl, trivial⟩ hs.dropAll rfl
  | true =>
  have hc := hb rfl
  by_cases c1 : 300 < at_.length
  · refine Zerun ?_
    (refine RW.call T hs rfl rfl rfl (awake08_con _ _) ?_; intro v h3 w3 hle3 hp3 hs)
    subst hp3
    refine Zerun ?_
    exact retQ_ret [_] h3 ⟨rfl, trivial⟩ hs.dropAll rfl
  refine Zerun ?_
  (refine RW.call T hs rfl rfl rfl (refTidyP_con (k + 2) 40 _ p _ _ hp' hc) ?_; intro v h3 w3 hle3 hp3 hs)
  obtain ⟨cs3, rfl, hq3⟩ := hp3
  have htd := tidy_tdy (k + 2) 40 p _ _ hp' hc
  have hp' := PlainAt.mono (k + 2) _ _ _ _ hle3 hp'
  have ha' := ha'.mono hle3
  obtain ⟨s3, it3, rfl, ⟨ad3, cp3, rfl, _⟩, hit'⟩ := hq3
  have hit'' := hit'
  obtain ⟨ad4, cp4, xs4, rfl, _, _⟩ := hit''
  refine Zerun ?_
  (refine RW.allocN T hs rfl rfl rfl rfl ?_; intro b4 w4 hs)
  (refine RW.storeAll T hs 0 rfl rfl rfl rfl rfl rfl rfl rfl ?_; intro w5 hs)
  refine Zerun ?_
  have hgood := good_arr (k + 2) 40 p hc
  have hsml := good_sml (k + 2) 40 _ hgood
  have hfl : (ArrD.vec (α := AD (k + 1)) (arr (k + 2) p)).cls = PlainD.fill (α := PD (k + 1)) p := by
    obtain ⟨_, h2, h3, _, _⟩ := (chkP_ok (α := PD (k + 1)) _ _ _).1 hc
    exact cls_arrV (arr (k + 1)) _ _ h2 h3
  have hlen := hsml.2.1
  have hkn := hgood.2.1
  have hpf := pick_facts (ArrD.vec (α := AD (k + 1)) (arr (k + 2) p)) at_ (blankA k)
  have hS1 : ((ArrD.vec (α := AD (k + 1)) (arr (k + 2) p)).pick at_ (blankA k)).cls = PlainD.fill (α := PD (k + 1)) p := by rw [pick_cls, hfl]
  have hS2 := hpf.1
  have hS3 := hpf.2.1
  have hS4 : ((ArrD.vec (α := AD (k + 1)) (arr (k + 2) p)).pick at_ (blankA k)).len ≤ 1048576 := by rw [hpf.2.2.1]; omega
  have hS5 : ∀ b ∈ ((ArrD.vec (α := AD (k + 1)) (arr (k + 2) p)).pick at_ (blankA k)).boxes, sml (k + 1) b := by
    intro b hb
    rcases hpf.2.2.2 b hb with e | e
    · exact hsml.2.2 b e
    · rw [e]; exact blankA_sml k
  have hS7 : ∀ x ∈ at_.map (fun i => atD (PlainD.items (α := PD (k + 1)) (tidy (k + 2) p)) i (blankI (PlainD.fill (α := PD (k + 1)) p) : ItemD (PlainD (PD k)))), tdyIt (tdy (k + 1)) x := by
    intro x hx
    obtain ⟨i, _, rfl⟩ := List.mem_map.1 hx
    rcases atD_mem (PlainD.items (α := PD (k + 1)) (tidy (k + 2) p)) i (blankI (PlainD.fill (α := PD (k + 1)) p) : ItemD (PlainD (PD k))) with e | e
    · exact htd _ e
    · rw [e]; exact blankI_tdy k _
  have hS6 : itemsV (plain (k + 1)) ((ArrD.vec (α := AD (k + 1)) (arr (k + 2) p)).pick at_ (blankA k)) = at_.map (fun i => atD (PlainD.items (α := PD (k + 1)) (tidy (k + 2) p)) i (blankI (PlainD.fill (α := PD (k + 1)) p) : ItemD (PlainD (PD k)))) := by
    exact pick_items' (β := PD k) (plain (k + 1)) _ at_ (blankA k) _ _ (congrArg (PlainD.items (α := PD (k + 1))) (plain_arr (k + 2) 40 p hc)) hfl rfl
  refine CW.regionO T hs ?_
  intro w6 hs
  refine HW.takeS (fuel := 24) 0 rfl (fun _ _ hs => Y.loadRowN T hs 1 rfl rfl rfl rfl rfl rfl rfl) hs rfl (by kernel_rfl) (by kernel_rfl) (by kernel_rfl) ?_
  refine HW.takeS (fuel := 23) 3 rfl (fun _ _ hs => Y.move rfl) hs rfl (by kernel_rfl) (by kernel_rfl) (by kernel_rfl) ?_
  refine HW.takeS (fuel := 22) 5 rfl (fun _ _ hs => Y.fieldAddr T rfl rfl rfl rfl rfl) hs rfl (by kernel_rfl) (by kernel_rfl) (by kernel_rfl) ?_
  refine HW.takeS (fuel := 21) 6 rfl (fun _ _ hs => Y.loadRow1 T hs 0 rfl rfl rfl rfl rfl) hs rfl (by kernel_rfl) (by kernel_rfl) (by kernel_rfl) ?_
  refine HW.takeS (fuel := 20) 7 rfl (fun _ _ hs => Y.fieldAddr T rfl rfl rfl rfl rfl) hs rfl (by kernel_rfl) (by kernel_rfl) (by kernel_rfl) ?_
  refine HW.takeS (fuel := 19) 8 rfl (fun _ _ hs => Y.loadRow1 T hs 1 rfl rfl rfl rfl rfl) hs rfl (by kernel_rfl) (by kernel_rfl) (by kernel_rfl) ?_
  refine HW.takeS (fuel := 18) 9 rfl (fun _ _ hs => Y.move rfl) hs rfl (by kernel_rfl) (by kernel_rfl) (by kernel_rfl) ?_
  refine HW.takeS (fuel := 17) 11 rfl (fun _ _ hs => Y.fieldAddr T rfl rfl rfl rfl rfl) hs rfl (by kernel_rfl) (by kernel_rfl) (by kernel_rfl) ?_
  refine HW.takeS (fuel := 16) 12 rfl (fun _ _ hs => Y.loadRow1 T hs 1 rfl rfl rfl rfl rfl) hs rfl (by kernel_rfl) (by kernel_rfl) (by kernel_rfl) ?_
  refine HW.one (fuel := 15) 1 rfl (by kernel_rfl) ?_
  (refine RW.call T hs rfl rfl rfl (of07_con (k + 2) _ p _ _ hp' hc) ?_; intro v h18 w18 hle18 hp18 hs)
  obtain ⟨cs18, rfl, _, _, s18, vc18, rfl, _, hv18⟩ := hp18
  have hvs18 := hv18.size
  have hit' := hit'.mono hle18 (fun u a => ItemAt.mono (PlainAt.mono (k + 1)) _ _ u a hle18)
  have ha' := ha'.mono hle18
  refine RW.nil ?_
  refine heldQ_normal ⟨_, hs⟩ ?_
  refine HW.takeS (fuel := 14) 2 rfl (fun _ _ hs => Y.fieldVec T rfl rfl rfl rfl rfl rfl hvs18) hs rfl (by kernel_rfl) (by kernel_rfl) (by kernel_rfl) ?_
  refine HW.one (fuel := 13) 4 rfl (by kernel_rfl) ?_
  (refine RW.call T hs rfl rfl rfl (flatPick_con (ArrAt.mono (k + 1)) (ArrAt.one (k + 1)) (ArrAt.siz (k + 1)) (blankA k) (fun w h => flatBlank_con (ArrAt.mono k) (ArrAt.one k) w h) _ _ _ at_ _ _ hv18 ha' (by omega) hlen hkn) ?_; intro v h21 w21 hle21 hp21 hs)
  obtain ⟨cs21, rfl, hv21⟩ := hp21
  have hit' := hit'.mono hle21 (fun u a => ItemAt.mono (PlainAt.mono (k + 1)) _ _ u a hle21)
  have ha' := ha'.mono hle21
  refine RW.nil ?_
  refine heldQ_normal ⟨_, hs⟩ ?_
  refine HW.one (fuel := 12) 10 rfl (by kernel_rfl) ?_
  (refine RW.call T hs rfl rfl rfl (refPick08_con (PlainAt.mono k) _ _ _ (PlainD.fill (α := PD (k + 1)) p) at_ _ _ hit' ha' (by omega)) ?_; intro v h27 w27 hle27 hp27 hs)
  have hv21 := hv21.mono (ArrAt.mono (k + 1)) hle27
  refine RW.nil ?_
  refine heldQ_normal ⟨_, hs⟩ ?_
  refine HW.one (fuel := 11) 13 rfl (by kernel_rfl) ?_
  (refine RW.call T hs rfl rfl rfl (shows_con (k + 1) _ _ _ _ _ _ _ hv21 hp27 hS1 hS2 hS3 hS4 hS5 hS6 hS7) ?_; intro v h30 w30 hle30 hp30 hs)
  subst hp30
  refine RW.nil ?_
  refine heldQ_normal ⟨_, hs⟩ ?_
  refine HW.takeS (fuel := 10) 14 rfl (fun _ _ hs => Y.move rfl) hs rfl (by kernel_rfl) (by kernel_rfl) (by kernel_rfl) ?_
  refine HW.two (fuel := 9) 15 17 rfl rfl (by kernel_rfl) ?_ ?_
  · refine RW.guardYes rfl rfl ?_
    (refine RW.call T hs rfl rfl rfl (flatBlank_con (ArrAt.mono k) (ArrAt.one k) _ _) ?_; intro v h32 w32 hle32 hp32 hs)
    obtain ⟨cs32, rfl, ha32⟩ := hp32
    have ha32 : ArrAt (k + 1) h32 cs32 (blankA k) := ha32
    refine RW.nil ?_
    refine heldQ_normal ⟨_, hs⟩ ?_
    refine HW.two (fuel := 8) 16 17 rfl rfl (by kernel_rfl) ?_ ?_
    · refine RW.guardYes rfl rfl ?_
      (refine RW.call T hs rfl rfl rfl (plainV_con (k + 1) _ _ _ _ ha32 (blankA_sml k)) ?_; intro v h33 w33 hle33 hp33 hs)
      obtain ⟨cs33, rfl, hq33⟩ := hp33
      rw [blankA_plain] at hq33
      refine RW.nil ?_
      refine heldQ_normal ⟨_, hs⟩ ?_
      refine HW.one (fuel := 7) 17 rfl (by kernel_rfl) ?_
      refine RW.guardYes rfl rfl ?_
      (refine RW.lit T hs (vs := [.int .i64 0]) (cs := [.int .i64 0]) rfl rfl rfl rfl (by simp [Value.cells]) rfl rfl rfl rfl rfl ?_; intro b34 w34 hs)
      obtain ⟨h34, hle34, hs, hS34⟩ := hs.freeze
      have hq34 : PlainAt (k + 1) h34 [.slice (some ⟨b34, 0, none⟩) 1 1, .slice none 0 0, .int .i64 0] (blankP k) := ⟨_, _, rfl, IntsAt.of_sl hS34, RowsAt.nil _⟩
      have hq33 := PlainAt.mono (k + 1) _ _ _ _ hle34 hq33
      refine RW.nil ?_
      refine heldQ_normal ⟨_, hs⟩ ?_
      refine HW.takeSY (fuel := 6) 18 rfl rfl rfl (fun _ _ hs => Y.build T rfl rfl rfl rfl rfl rfl rfl) hs rfl (by kernel_rfl) (by kernel_rfl) (by kernel_rfl) ?_
      refine HW.one (fuel := 5) 19 rfl (by kernel_rfl) ?_
      refine RW.guardYes rfl rfl ?_
      (refine RW.call T hs rfl rfl rfl (refSame_con (k + 1) _ _ _ _ _ _ hq33 hq34 (blankP_tdy k) (blankP_tdy k)) ?_; intro v h36 w36 hle36 hp36 hs)
      subst hp36
      rw [eqB_of (show blankP k = blankP k from rfl)]
      refine RW.nil ?_
      refine heldQ_normal ⟨_, hs⟩ ?_
      refine HW.takeS (fuel := 4) 20 rfl (fun _ _ hs => Y.pickB rfl rfl rfl) hs rfl (by kernel_rfl) (by kernel_rfl) (by kernel_rfl) ?_
      refine HW.takeS (fuel := 3) 21 rfl (fun _ _ hs => Y.move rfl) hs rfl (by kernel_rfl) (by kernel_rfl) (by kernel_rfl) ?_
      refine HW.one (fuel := 2) 22 rfl (by kernel_rfl) ?_
      refine RW.guardYes rfl rfl ?_
      (refine RW.call T hs rfl rfl rfl (awake08_con _ _) ?_; intro v h39 w39 hle39 hp39 hs)
      subst hp39
      refine RW.nil ?_
      refine heldQ_normal ⟨_, hs⟩ ?_
      refine HW.takeS (fuel := 1) 23 rfl (fun _ _ hs => Y.pickB rfl rfl rfl) hs rfl (by kernel_rfl) (by kernel_rfl) (by kernel_rfl) ?_
      refine HW.takeS (fuel := 0) 24 rfl (fun _ _ hs => Y.assign rfl) hs rfl (by kernel_rfl) (by kernel_rfl) (by kernel_rfl) ?_
      refine HW.done (by kernel_rfl) ?_
      refine calmQ_normal ?_
      refine Zerun ?_
      exact retQ_ret [_] h39 ⟨rfl, trivial⟩ hs.dropAll rfl
    · refine RW.guardYes rfl rfl ?_
      (refine RW.lit T hs (vs := [.int .i64 0]) (cs := [.int .i64 0]) rfl rfl rfl rfl (by simp [Value.cells]) rfl rfl rfl rfl rfl ?_; intro b34 w34 hs)
      obtain ⟨h34, hle34, hs, hS34⟩ := hs.freeze
      have hq34 : PlainAt (k + 1) h34 [.slice (some ⟨b34, 0, none⟩) 1 1, .slice none 0 0, .int .i64 0] (blankP k) := ⟨_, _, rfl, IntsAt.of_sl hS34, RowsAt.nil _⟩
      have ha32 := ArrAt.mono (k + 1) _ _ _ _ hle34 ha32
      refine RW.nil ?_
      refine heldQ_normal ⟨_, hs⟩ ?_
      refine HW.takeSY (fuel := 7) 18 rfl rfl rfl (fun _ _ hs => Y.build T rfl rfl rfl rfl rfl rfl rfl) hs rfl (by kernel_rfl) (by kernel_rfl) (by kernel_rfl) ?_
      refine HW.one (fuel := 6) 16 rfl (by kernel_rfl) ?_
      refine RW.guardYes rfl rfl ?_
      (refine RW.call T hs rfl rfl rfl (plainV_con (k + 1) _ _ _ _ ha32 (blankA_sml k)) ?_; intro v h33 w33 hle33 hp33 hs)
      obtain ⟨cs33, rfl, hq33⟩ := hp33
      rw [blankA_plain] at hq33
      have hq34 := PlainAt.mono (k + 1) _ _ _ _ hle33 hq34
      refine RW.nil ?_
      refine heldQ_normal ⟨_, hs⟩ ?_
      refine HW.one (fuel := 5) 19 rfl (by kernel_rfl) ?_
      refine RW.guardYes rfl rfl ?_
      (refine RW.call T hs rfl rfl rfl (refSame_con (k + 1) _ _ _ _ _ _ hq33 hq34 (blankP_tdy k) (blankP_tdy k)) ?_; intro v h36 w36 hle36 hp36 hs)
      subst hp36
      rw [eqB_of (show blankP k = blankP k from rfl)]
      refine RW.nil ?_
      refine heldQ_normal ⟨_, hs⟩ ?_
      refine HW.takeS (fuel := 4) 20 rfl (fun _ _ hs => Y.pickB rfl rfl rfl) hs rfl (by kernel_rfl) (by kernel_rfl) (by kernel_rfl) ?_
      refine HW.takeS (fuel := 3) 21 rfl (fun _ _ hs => Y.move rfl) hs rfl (by kernel_rfl) (by kernel_rfl) (by kernel_rfl) ?_
      refine HW.one (fuel := 2) 22 rfl (by kernel_rfl) ?_
      refine RW.guardYes rfl rfl ?_
      (refine RW.call T hs rfl rfl rfl (awake08_con _ _) ?_; intro v h39 w39 hle39 hp39 hs)
      subst hp39
      refine RW.nil ?_
      refine heldQ_normal ⟨_, hs⟩ ?_
      refine HW.takeS (fuel := 1) 23 rfl (fun _ _ hs => Y.pickB rfl rfl rfl) hs rfl (by kernel_rfl) (by kernel_rfl) (by kernel_rfl) ?_
      refine HW.takeS (fuel := 0) 24 rfl (fun _ _ hs => Y.assign rfl) hs rfl (by kernel_rfl) (by kernel_rfl) (by kernel_rfl) ?_
      refine HW.done (by kernel_rfl) ?_
      refine calmQ_normal ?_
      refine Zerun ?_
      exact retQ_ret [_] h39 ⟨rfl, trivial⟩ hs.dropAll rfl
  · refine RW.guardYes rfl rfl ?_
    (refine RW.lit T hs (vs := [.int .i64 0]) (cs := [.int .i64 0]) rfl rfl rfl rfl (by simp [Value.cells]) rfl rfl rfl rfl rfl ?_; intro b34 w34 hs)
    obtain ⟨h34, hle34, hs, hS34⟩ := hs.freeze
    have hq34 : PlainAt (k + 1) h34 [.slice (some ⟨b34, 0, none⟩) 1 1, .slice none 0 0, .int .i64 0] (blankP k) := ⟨_, _, rfl, IntsAt.of_sl hS34, RowsAt.nil _⟩
    refine RW.nil ?_
    refine heldQ_normal ⟨_, hs⟩ ?_
    refine HW.takeSY (fuel := 8) 18 rfl rfl rfl (fun _ _ hs => Y.build T rfl rfl rfl rfl rfl rfl rfl) hs rfl (by kernel_rfl) (by kernel_rfl) (by kernel_rfl) ?_
    refine HW.one (fuel := 7) 15 rfl (by kernel_rfl) ?_
    refine RW.guardYes rfl rfl ?_
    (refine RW.call T hs rfl rfl rfl (flatBlank_con (ArrAt.mono k) (ArrAt.one k) _ _) ?_; intro v h32 w32 hle32 hp32 hs)
    obtain ⟨cs32, rfl, ha32⟩ := hp32
    have ha32 : ArrAt (k + 1) h32 cs32 (blankA k) := ha32
    have hq34 := PlainAt.mono (k + 1) _ _ _ _ hle32 hq34
    refine RW.nil ?_
    refine heldQ_normal ⟨_, hs⟩ ?_
    refine HW.one (fuel := 6) 16 rfl (by kernel_rfl) ?_
    refine RW.guardYes rfl rfl ?_
    (refine RW.call T hs rfl rfl rfl (plainV_con (k + 1) _ _ _ _ ha32 (blankA_sml k)) ?_; intro v h33 w33 hle33 hp33 hs)
    obtain ⟨cs33, rfl, hq33⟩ := hp33
    rw [blankA_plain] at hq33
    have hq34 := PlainAt.mono (k + 1) _ _ _ _ hle33 hq34
    refine RW.nil ?_
    refine heldQ_normal ⟨_, hs⟩ ?_
    refine HW.one (fuel := 5) 19 rfl (by kernel_rfl) ?_
    refine RW.guardYes rfl rfl ?_
    (refine RW.call T hs rfl rfl rfl (refSame_con (k + 1) _ _ _ _ _ _ hq33 hq34 (blankP_tdy k) (blankP_tdy k)) ?_; intro v h36 w36 hle36 hp36 hs)
    subst hp36
    rw [eqB_of (show blankP k = blankP k from rfl)]
    refine RW.nil ?_
    refine heldQ_normal ⟨_, hs⟩ ?_
    refine HW.takeS (fuel := 4) 20 rfl (fun _ _ hs => Y.pickB rfl rfl rfl) hs rfl (by kernel_rfl) (by kernel_rfl) (by kernel_rfl) ?_
    refine HW.takeS (fuel := 3) 21 rfl (fun _ _ hs => Y.move rfl) hs rfl (by kernel_rfl) (by kernel_rfl) (by kernel_rfl) ?_
    refine HW.one (fuel := 2) 22 rfl (by kernel_rfl) ?_
    refine RW.guardYes rfl rfl ?_
    (refine RW.call T hs rfl rfl rfl (awake08_con _ _) ?_; intro v h39 w39 hle39 hp39 hs)
    subst hp39
    refine RW.nil ?_
    refine heldQ_normal ⟨_, hs⟩ ?_
    refine HW.takeS (fuel := 1) 23 rfl (fun _ _ hs => Y.pickB rfl rfl rfl) hs rfl (by kernel_rfl) (by kernel_rfl) (by kernel_rfl) ?_
    refine HW.takeS (fuel := 0) 24 rfl (fun _ _ hs => Y.assign rfl) hs rfl (by kernel_rfl) (by kernel_rfl) (by kernel_rfl) ?_
    refine HW.done (by kernel_rfl) ?_
    refine calmQ_normal ?_
    refine Zerun ?_
    exact retQ_ret [_] h39 ⟨rfl, trivial⟩ hs.dropAll rfl
end Go.Proofs.Ythbfkhklihejiaa

/-
  Contracts of the law's own functions of layer 8: elements picked, and picked again. No statement is proved here.
-/
namespace Go.Proofs.Ythbfkhklihejiaa
open Go Go.RowKit
set_option linter.unusedVariables false
set_option linter.unusedSimpArgs false
set_option maxHeartbeats 4000000
attribute [local irreducible] CW RW QW SW HW ConM retM heldQ calmQ elemP thenQ blockQ loopQ joinQ retQ Yields Con Sl zF magR unitF truncF fwF wholeF tidySpec elemQ rankF leastN tidyW
set_option maxHeartbeats 4000000

theorem u8_range {u : Int} (h : (Lit.int .u8 u).wf = true) : 0 ≤ u ∧ u ≤ 255 := by
  simp [Lit.wf, IntKind.min, IntKind.max, IntKind.signed, IntKind.bits] at h
  omega
/-- places among places, and what they come to -/
def kL (more at_ : List Int) : List Int := more.map fun u => u % (at_.length : Int)
def bL (more at_ : List Int) : List Int := more.map fun u => at_.getD (u % (at_.length : Int)).toNat 0
theorem kL_items {γ : Type} (more at_ : List Int) (h0 : at_.length ≠ 0) (L : List γ) (d : γ) : (kL more at_).map (fun i => atD (at_.map fun j => atD L j d) i d) = (bL more at_).map (fun i => atD L i d) := by
  unfold kL bL
  rw [List.map_map, List.map_map]
  apply List.map_congr_left
  intro u _
  have h1 : 0 ≤ u % (at_.length : Int) := Int.emod_nonneg _ (by omega)
  have h2 : u % (at_.length : Int) < at_.length := Int.emod_lt_of_pos _ (by omega)
  simp only [Function.comp]
  rw [atD_in ⟨h1, by simpa using h2⟩]
  have h3 : (u % (at_.length : Int)).toNat < at_.length := by omega
  rw [getD_map (fun j => atD L j d) at_ _ 0 d h3]
theorem flatTwiceLaw_con (k : Nat) (cs : List Value) (p : PD (k + 2)) (v1 v2 : Value) (at_ more : List Int) (w : World) (h : GHeap) (hp : PlainAt (k + 2) h cs p) (ha : IntsAt h v1 at_) (hmo : KAt .u8 h v2 more) (hu : ∀ u ∈ more, 0 ≤ u ∧ u ≤ 255) : Con Try.prog 11 [.agg cs.toArray, v1, v2] w h (fun _ u => u = .bool true) := by
  have hp' := hp
  have ha' := ha
  obtain ⟨s, it, rfl, ⟨ad, cp, rfl, _⟩, ⟨ad2, cp2, xs, rfl, _, _⟩⟩ := hp
  obtain ⟨ad1, cp1, rfl, hS1⟩ := ha
  obtain ⟨ad3, cp3, rfl, hS3⟩ := hmo
  refine Con.of_body Try.func11 rfl Try.ntmps11 rfl rfl ?_
  intro hs
  refine Zrun ?_
  (refine RW.boxN hs rfl rfl ?_; intro b1 w1 hs)
  refine Zerun ?_
  (refine RW.call T hs rfl rfl rfl (good08_con (k + 2) _ p _ _ hp') ?_; intro v h2 w2 hle2 hp2 hs)
  obtain ⟨b, rfl, hb⟩ := hp2
  have hp' := PlainAt.mono (k + 2) _ _ _ _ hle2 hp'
  have ha' := ha'.mono hle2
  have hS1 := hS1.mono hle2
  have hS3 := hS3.mono hle2
  cases b with
  | false =>
    refine Zerun ?_
    (refine RW.call T hs rfl rfl rfl (awake08_con _ _) ?_; intro v h3 w3 hle3 hp3 hs)
    subst hp3
    refine Zerun ?_
    exact retQ_ret [_] h3 ⟨rfl, trivial⟩ hs.dropAll rfl
  | true =>
  have hc := hb rfl
  by_cases c1 : 200 < at_.length
  · refine Zerun ?_
    (refine RW.call T hs rfl rfl rfl (awake08_con _ _) ?_; intro v h3 w3 hle3 hp3 hs)
    subst hp3
    refine Zerun ?_
    exact retQ_ret [_] h3 ⟨rfl, trivial⟩ hs.dropAll rfl
  by_cases c2 : 200 < more.length
  · refine Zerun ?_
    (refine RW.call T hs rfl rfl rfl (awake08_con _ _) ?_; intro v h3 w3 hle3 hp3 hs)
    subst hp3
    refine Zerun ?_
    exact retQ_ret [_] h3 ⟨rfl, trivial⟩ hs.dropAll rfl
  by_cases c3 : at_.length = 0
  · refine Zerun ?_
    (refine RW.call T hs rfl rfl rfl (awake08_con _ _) ?_; intro v h3 w3 hle3 hp3 hs)
    subst hp3
    refine Zerun ?_
    exact retQ_ret [_] h3 ⟨rfl, trivial⟩ hs.dropAll rfl
  refine Zerun ?_
  have hs := (hs.nilRow 3 1).nilRow 3 1
  refine CW.loop (fun u : Nat × (Option Addr × Nat) × (Option Addr × Nat) => [(1, .slice ad1 at_.length cp1), (2, .slice ad3 more.length cp3), (3, .pointer (some ⟨b1, 0, none⟩)), (7, .slice u.2.1.1 u.1 u.2.1.2), (8, .slice u.2.2.1 u.1 u.2.2.2), (9, .int .i64 u.1)]) (fun u w' => u.1 ≤ more.length ∧ Sees w h h2 [⟨u.2.2.1, u.1, u.2.2.2, 3, 1, (bL (more.take u.1) at_).map (Value.int .i64)⟩, ⟨u.2.1.1, u.1, u.2.1.2, 3, 1, (kL (more.take u.1) at_).map (Value.int .i64)⟩, ⟨some ⟨b1, 0, none⟩, 1, 1, 50, 3, [.slice ad p.shape.length cp, .slice ad2 p.items.length cp2, .int .i64 p.fill]⟩] w') (fun u => more.length - u.1) (0, (none, 0), (none, 0)) ⟨rfl, rfl, rfl, rfl, rfl, rfl, trivial⟩ ⟨by omega, hs⟩ ?_
  rintro ⟨i, ⟨ak, ck⟩, ⟨ab, cb⟩⟩ w5 ⟨hi, hs⟩
  dsimp only at hi hs ⊢
  by_cases hlt : i < more.length
  · have hum := hu _ (mem_getD more i 0 hlt)
    have htk := take_succ_getD more i 0 hlt
    have hm1 : 0 ≤ more.getD i 0 % (at_.length : Int) := Int.emod_nonneg _ (by omega)
    have hm2 : more.getD i 0 % (at_.length : Int) < at_.length := Int.emod_lt_of_pos _ (by omega)
    refine Zerun ?_
    refine RW.val (Y.conv64 T rfl rfl rfl (by omega)) rfl ?_
    refine Zerun ?_
    (refine RW.lit T hs (vs := [.int .i64 (more.getD i 0 % (at_.length : Int))]) (cs := [.int .i64 (more.getD i 0 % (at_.length : Int))]) rfl rfl rfl rfl (by simp [Value.cells]) rfl rfl rfl rfl rfl ?_; intro b6 w6 hs)
    (refine RW.append T hs 2 rfl rfl (m := 1) (news := [.int .i64 (more.getD i 0 % (at_.length : Int))]) rfl rfl rfl rfl rfl rfl (hs.src0 rfl (by simp [Value.oneCell'])) (by simp) (by dsimp only; omega) (by omega) ?_; intro ad7 cp7 w7 hs; replace hs := hs.drop)
    refine Zerun ?_
    refine RW.val (Y.conv64 T rfl rfl rfl (by omega)) rfl ?_
    refine Zerun ?_
    (refine RW.lit T hs (vs := [.int .i64 (at_.getD (more.getD i 0 % (at_.length : Int)).toNat 0)]) (cs := [.int .i64 (at_.getD (more.getD i 0 % (at_.length : Int)).toNat 0)]) rfl rfl rfl rfl (by simp [Value.cells]) rfl rfl rfl rfl rfl ?_; intro b8 w8 hs)
    (refine RW.append T hs 1 rfl rfl (m := 1) (news := [.int .i64 (at_.getD (more.getD i 0 % (at_.length : Int)).toNat 0)]) rfl rfl rfl rfl rfl rfl (hs.src0 rfl (by simp [Value.oneCell'])) (by simp) (by dsimp only; omega) (by omega) ?_; intro ad9 cp9 w9 hs; replace hs := hs.drop)
    refine Zerun ?_
    refine loopQ_round (i + 1, (ad7, cp7), (ad9, cp9)) ⟨rfl, rfl, rfl, rfl, rfl, rfl, trivial⟩ ⟨by dsimp only; omega, ?_⟩ (by dsimp only; omega)
    dsimp only
    have ek : (kL (more.take (i + 1)) at_).map (Value.int .i64) = (kL (more.take i) at_).map (Value.int .i64) ++ [.int .i64 (more.getD i 0 % (at_.length : Int))] := by unfold kL; rw [htk, List.map_append, List.map_append]; rfl
    have eb : (bL (more.take (i + 1)) at_).map (Value.int .i64) = (bL (more.take i) at_).map (Value.int .i64) ++ [.int .i64 (at_.getD (more.getD i 0 % (at_.length : Int)).toNat 0)] := by unfold bL; rw [htk, List.map_append, List.map_append]; rfl
    rw [ek, eb]
    exact hs
  obtain rfl : i = more.length := by omega
  rw [List.take_length] at hs
  have hkl : (kL more at_).length = more.length := by simp [kL]
  have hbl : (bL more at_).length = more.length := by simp [bL]
  obtain ⟨h6, hle6, hs, hS6⟩ := hs.freeze
  obtain ⟨h7, hle7, hs, hS7⟩ := hs.freeze
  have hbb : IntsAt h7 (.slice ab more.length cb) (bL more at_) := (IntsAt.of_sl hS6).mono hle7
  have hkk : IntsAt h7 (.slice ak more.length ck) (kL more at_) := IntsAt.of_sl hS7
  have hp' := PlainAt.mono (k + 2) _ _ _ _ (hle6.trans hle7) hp'
  have ha' := ha'.mono (hle6.trans hle7)
  refine Zerun ?_
  (refine RW.call T hs rfl rfl rfl (of07_con (k + 2) _ p _ _ hp' hc) ?_; intro v h8 w8 hle8 hp8 hs)
  obtain ⟨cs8, rfl, _, _, s8, vc8, rfl, _, hvv⟩ := hp8
  have hvs8 := hvv.size
  refine RW.val (Y.fieldVec T rfl rfl rfl rfl rfl rfl hvs8) rfl ?_
  have hp' := PlainAt.mono (k + 2) _ _ _ _ hle8 hp'
  have ha' := ha'.mono hle8
  have hbb := hbb.mono hle8
  have hkk := hkk.mono hle8
  have hvv' := hvv
  obtain ⟨wv, nv, sm, il, fl, ch, bx, ⟨rfl, hoc⟩, _⟩ := hvv'
  refine Zerun ?_
  (refine RW.allocN T hs rfl rfl rfl rfl ?_; intro b9 w9 hs)
  (refine RW.storeAll T hs 0 rfl rfl rfl rfl rfl rfl hoc rfl ?_; intro w10 hs)
  refine Zerun ?_
  have htd := tidy_tdy (k + 2) 40 p _ _ hp' hc
  have hgood := good_arr (k + 2) 40 p hc
  have hsml := good_sml (k + 2) 40 _ hgood
  have hfl : (ArrD.vec (α := AD (k + 1)) (arr (k + 2) p)).cls = PlainD.fill (α := PD (k + 1)) p := by
    obtain ⟨_, h2, h3, _, _⟩ := (chkP_ok (α := PD (k + 1)) _ _ _).1 hc
    exact cls_arrV (arr (k + 1)) _ _ h2 h3
  have hlen := hsml.2.1
  have hkn := hgood.2.1
  have hpf := pick_facts (ArrD.vec (α := AD (k + 1)) (arr (k + 2) p)) at_ (blankA k)
  have hpg := pick_facts ((ArrD.vec (α := AD (k + 1)) (arr (k + 2) p)).pick at_ (blankA k)) (kL more at_) (blankA k)
  have hS1 : (((ArrD.vec (α := AD (k + 1)) (arr (k + 2) p)).pick at_ (blankA k)).pick (kL more at_) (blankA k)).cls = PlainD.fill (α := PD (k + 1)) p := by rw [pick_cls, pick_cls, hfl]
  have hS2 := hpg.1
  have hS3 := hpg.2.1
  have hS4 : (((ArrD.vec (α := AD (k + 1)) (arr (k + 2) p)).pick at_ (blankA k)).pick (kL more at_) (blankA k)).len ≤ 1048576 := by rw [hpg.2.2.1]; omega
  have hS5 : ∀ b ∈ (((ArrD.vec (α := AD (k + 1)) (arr (k + 2) p)).pick at_ (blankA k)).pick (kL more at_) (blankA k)).boxes, sml (k + 1) b := by
    intro b hb
    rcases hpg.2.2.2 b hb with e | e
    · rcases hpf.2.2.2 b e with e | e
      · exact hsml.2.2 b e
      · rw [e]; exact blankA_sml k
    · rw [e]; exact blankA_sml k
  have hS7 : ∀ x ∈ (bL more at_).map (fun i => atD (PlainD.items (α := PD (k + 1)) (tidy (k + 2) p)) i (blankI (PlainD.fill (α := PD (k + 1)) p) : ItemD (PlainD (PD k)))), tdyIt (tdy (k + 1)) x := by
    intro x hx
    obtain ⟨i, _, rfl⟩ := List.mem_map.1 hx
    rcases atD_mem (PlainD.items (α := PD (k + 1)) (tidy (k + 2) p)) i (blankI (PlainD.fill (α := PD (k + 1)) p) : ItemD (PlainD (PD k))) with e | e
    · exact htd _ e
    · rw [e]; exact blankI_tdy k _
  have hS60 : itemsV (plain (k + 1)) ((ArrD.vec (α := AD (k + 1)) (arr (k + 2) p)).pick at_ (blankA k)) = at_.map (fun i => atD (PlainD.items (α := PD (k + 1)) (tidy (k + 2) p)) i (blankI (PlainD.fill (α := PD (k + 1)) p) : ItemD (PlainD (PD k)))) :=
    pick_items' (β := PD k) (plain (k + 1)) _ at_ (blankA k) _ _ (congrArg (PlainD.items (α := PD (k + 1))) (plain_arr (k + 2) 40 p hc)) hfl rfl
  have hS6 : itemsV (plain (k + 1)) (((ArrD.vec (α := AD (k + 1)) (arr (k + 2) p)).pick at_ (blankA k)).pick (kL more at_) (blankA k)) = (bL more at_).map (fun i => atD (PlainD.items (α := PD (k + 1)) (tidy (k + 2) p)) i (blankI (PlainD.fill (α := PD (k + 1)) p) : ItemD (PlainD (PD k)))) :=
    (pick_items' (β := PD k) (plain (k + 1)) _ (kL more at_) (blankA k) _ _ hS60 (by rw [pick_cls, hfl]) rfl).trans (kL_items more at_ c3 _ _)
  refine CW.regionO T hs ?_
  intro w11 hs
  refine HW.takeS (fuel := 18) 0 rfl (fun _ _ hs => Y.loadRowN T hs 0 rfl rfl rfl rfl rfl rfl rfl) hs rfl (by kernel_rfl) (by kernel_rfl) (by kernel_rfl) ?_
  refine HW.takeS (fuel := 17) 1 rfl (fun _ _ hs => Y.move rfl) hs rfl (by kernel_rfl) (by kernel_rfl) (by kernel_rfl) ?_
  refine HW.takeS (fuel := 16) 3 rfl (fun _ _ hs => Y.move rfl) hs rfl (by kernel_rfl) (by kernel_rfl) (by kernel_rfl) ?_
  refine HW.takeS (fuel := 15) 5 rfl (fun _ _ hs => Y.loadRowN T hs 1 rfl rfl rfl rfl rfl rfl rfl) hs rfl (by kernel_rfl) (by kernel_rfl) (by kernel_rfl) ?_
  refine HW.takeS (fuel := 14) 8 rfl (fun _ _ hs => Y.fieldAddr T rfl rfl rfl rfl rfl) hs rfl (by kernel_rfl) (by kernel_rfl) (by kernel_rfl) ?_
  refine HW.takeS (fuel := 13) 9 rfl (fun _ _ hs => Y.loadRow1 T hs 1 rfl rfl rfl rfl rfl) hs rfl (by kernel_rfl) (by kernel_rfl) (by kernel_rfl) ?_
  refine HW.takeS (fuel := 12) 10 rfl (fun _ _ hs => Y.move rfl) hs rfl (by kernel_rfl) (by kernel_rfl) (by kernel_rfl) ?_
  refine HW.takeS (fuel := 11) 12 rfl (fun _ _ hs => Y.fieldAddr T rfl rfl rfl rfl rfl) hs rfl (by kernel_rfl) (by kernel_rfl) (by kernel_rfl) ?_
  refine HW.takeS (fuel := 10) 13 rfl (fun _ _ hs => Y.loadRow1 T hs 1 rfl rfl rfl rfl rfl) hs rfl (by kernel_rfl) (by kernel_rfl) (by kernel_rfl) ?_
  refine HW.one (fuel := 9) 2 rfl (by kernel_rfl) ?_
  (refine RW.call T hs rfl rfl rfl (flatPick_con (ArrAt.mono (k + 1)) (ArrAt.one (k + 1)) (ArrAt.siz (k + 1)) (blankA k) (fun w h => flatBlank_con (ArrAt.mono k) (ArrAt.one k) w h) _ _ _ at_ _ _ hvv ha' (by omega) hlen hkn) ?_; intro v h66 w66 hle66 hp66 hs)
  obtain ⟨cs66, rfl, hv66⟩ := hp66
  have hp' := PlainAt.mono (k + 2) _ _ _ _ hle66 hp'
  have hkk := hkk.mono hle66
  have hbb := hbb.mono hle66
  refine RW.nil ?_
  refine heldQ_normal ⟨_, hs⟩ ?_
  refine HW.one (fuel := 8) 4 rfl (by kernel_rfl) ?_
  (refine RW.call T hs rfl rfl rfl (flatPick_con (ArrAt.mono (k + 1)) (ArrAt.one (k + 1)) (ArrAt.siz (k + 1)) (blankA k) (fun w h => flatBlank_con (ArrAt.mono k) (ArrAt.one k) w h) _ _ _ (kL more at_) _ _ hv66 hkk (by simp [kL]; omega) (by rw [hpf.2.2.1]; omega) hpf.1) ?_; intro v h68 w68 hle68 hp68 hs)
  obtain ⟨cs68, rfl, hv68⟩ := hp68
  have hp' := PlainAt.mono (k + 2) _ _ _ _ hle68 hp'
  have hbb := hbb.mono hle68
  refine RW.nil ?_
  refine heldQ_normal ⟨_, hs⟩ ?_
  refine HW.one (fuel := 7) 6 rfl (by kernel_rfl) ?_
  (refine RW.call T hs rfl rfl rfl (refTidyP_con (k + 2) 40 _ p _ _ hp' hc) ?_; intro v h70 w70 hle70 hp70 hs)
  obtain ⟨cs70, rfl, s70, it70, rfl, ⟨ad70, cp70, rfl, _⟩, hit70⟩ := hp70
  have hbb := hbb.mono hle70
  have hv68 := hv68.mono (ArrAt.mono (k + 1)) hle70
  refine RW.nil ?_
  refine heldQ_normal ⟨_, hs⟩ ?_
  refine HW.takeS (fuel := 6) 7 rfl (fun _ _ hs => Y.field1 T rfl rfl rfl rfl rfl rfl) hs rfl (by kernel_rfl) (by kernel_rfl) (by kernel_rfl) ?_
  refine HW.one (fuel := 5) 11 rfl (by kernel_rfl) ?_
  (refine RW.call T hs rfl rfl rfl (refPick08_con (PlainAt.mono k) _ _ _ (PlainD.fill (α := PD (k + 1)) p) (bL more at_) _ _ hit70 hbb (by simp [bL]; omega)) ?_; intro v h75 w75 hle75 hp75 hs)
  have hv68 := hv68.mono (ArrAt.mono (k + 1)) hle75
  refine RW.nil ?_
  refine heldQ_normal ⟨_, hs⟩ ?_
  refine HW.one (fuel := 4) 14 rfl (by kernel_rfl) ?_
  (refine RW.call T hs rfl rfl rfl (shows_con (k + 1) _ _ _ _ _ _ _ hv68 hp75 hS1 hS2 hS3 hS4 hS5 hS6 hS7) ?_; intro v h78 w78 hle78 hp78 hs)
  subst hp78
  refine RW.nil ?_
  refine heldQ_normal ⟨_, hs⟩ ?_
  refine HW.takeS (fuel := 3) 15 rfl (fun _ _ hs => Y.move rfl) hs rfl (by kernel_rfl) (by kernel_rfl) (by kernel_rfl) ?_
  refine HW.one (fuel := 2) 16 rfl (by kernel_rfl) ?_
  refine RW.guardYes rfl rfl ?_
  (refine RW.call T hs rfl rfl rfl (awake08_con _ _) ?_; intro v h80 w80 hle80 hp80 hs)
  subst hp80
  refine RW.nil ?_
  refine heldQ_normal ⟨_, hs⟩ ?_
  refine HW.takeS (fuel := 1) 17 rfl (fun _ _ hs => Y.pickB rfl rfl rfl) hs rfl (by kernel_rfl) (by kernel_rfl) (by kernel_rfl) ?_
  refine HW.takeS (fuel := 0) 18 rfl (fun _ _ hs => Y.assign rfl) hs rfl (by kernel_rfl) (by kernel_rfl) (by kernel_rfl) ?_
  refine HW.done (by kernel_rfl) ?_
  refine calmQ_normal ?_
  refine Zerun ?_
  exact retQ_ret [_] h80 ⟨rfl, trivial⟩ hs.dropAll rfl
end Go.Proofs.Ythbfkhklihejiaa
