/-
  Own texts of the claim, merged: Ii, LibU, Ij, Ik, Fc, Fd, Io, LibX, LibY, Na, PlainL, Nb, Nc, Nd, Ja, PlainM, Ne, Jb, Jc, Jd, Nf. Lemmas of the proof; no statement is proved here.
-/
import Derived.Test.YthbfkhklihejiaaMb
import Derived.Laws.Externs
/-
  Contracts of functions of package value: an array told as a plain one. No statement is proved here.
-/
namespace Go.Proofs.Ythbfkhklihejiaa
open Go Go.RowKit
set_option linter.unusedVariables false
set_option linter.unusedSimpArgs false
set_option maxHeartbeats 4000000
attribute [local irreducible] CW RW QW SW HW ConM retM heldQ calmQ elemP thenQ blockQ loopQ joinQ retQ Yields Con Sl zF magR unitF truncF fwF wholeF tidySpec elemQ rankF leastN tidyW

section
variable {α β : Type} {R : GHeap → List Value → α → Prop} {RB : GHeap → List Value → β → Prop}
theorem VecAt.sorts {h : GHeap} {cs : List Value} {v : VecD α} (hv : VecAt R h cs v) : (v.cls = 0 ∧ v.len = v.nums.length) ∨ (v.cls = 1 ∧ v.len = v.chars.length) ∨ (v.cls = 2 ∧ v.len = v.boxes.length) := by
  obtain ⟨wv, nv, sm, il, fl, ch, bx, _, hk⟩ := hv
  rcases hk with ⟨_, rfl⟩ | ⟨_, bs, _, rfl, rfl⟩ | ⟨_, l, _, _, rfl⟩ | ⟨_, l, _, _, rfl⟩ | ⟨_, l, _, _, rfl⟩ | ⟨_, l, _, rfl⟩ | ⟨_, l, _, rfl⟩
  all_goals simp [VecD.cls, VecD.len]
theorem itemsV_len (f : α → β) {h : GHeap} {cs : List Value} {v : VecD α} (hv : VecAt R h cs v) : (itemsV f v).length = v.len := by
  unfold itemsV
  rcases hv.sorts with ⟨a, b⟩ | ⟨a, b⟩ | ⟨a, b⟩
  · rw [if_neg (by omega), if_neg (by omega), b]; simp
  · rw [if_pos a, b]; simp
  · rw [if_neg (by omega), if_pos a, b]; simp
theorem getD_map' {γ δ : Type} (g : γ → δ) (l : List γ) (i : Nat) (d : δ) (h : i < l.length) : (l.map g).getD i d = g l[i] := by
  rw [List.getD_eq_getElem?_getD, List.getElem?_map, List.getElem?_eq_getElem h]; rfl
theorem plain_step (hR : Mono R) (hRB : Mono RB) (h1 : One R) (h1B : One RB) (h3 : Siz 3 RB) (f : α → β) (q : α → Prop) (ih : ∀ cs a w h, R h cs a → q a → Con Try.prog 47 [.agg cs.toArray] w h (fun h' u => ∃ cs', u = .agg cs'.toArray ∧ RB h' cs' (f a)))
    (cs : List Value) (a : ArrD α) (w : World) (h : GHeap) (ha : ArrR R h cs a) (hq : ∀ b ∈ a.vec.boxes, q b) (hsl : a.shape.length ≤ 8) (hm : a.vec.len ≤ 1048576) :
    Con Try.prog 47 [.agg cs.toArray] w h (fun h' u => ∃ cs', u = .agg cs'.toArray ∧ PlainR RB h' cs' (plainA f a)) := by
  obtain ⟨s, vc, rfl, hl, hv⟩ := ha
  have hl' := hl
  obtain ⟨ad, cp, rfl, hS⟩ := hl
  have hv' := hv
  have hsort := hv.sorts
  have hil := itemsV_len f hv
  obtain ⟨wv, nv, sm, il, fl, ch, bx, ⟨rfl, hoc⟩, hk⟩ := hv
  clear hk
  refine Con.of_body Try.func47 rfl Try.ntmps47 rfl rfl ?_
  intro hs
  refine Zrun ?_
  (refine RW.boxN hs rfl rfl ?_; intro b1 w1 hs)
  (refine RW.allocN T hs rfl rfl rfl rfl ?_; intro b2 w2 hs)
  refine Zerun ?_
  refine CW.meet (fun u : Nat × Option Addr × Nat × GHeap => [(1, .pointer (some ⟨b1, 0, none⟩)), (2, .pointer (some ⟨b2, 0, none⟩)), (3, .pointer (some ⟨u.1, 0, none⟩))]) (fun u w' => IntsAt u.2.2.2 (.slice u.2.1 a.shape.length u.2.2.1) a.shape ∧ VecAt R u.2.2.2 (vecCells a.vec.kind wv nv sm il fl ch bx) a.vec ∧ Sees w h u.2.2.2 [⟨some ⟨u.1, 0, none⟩, 1, 1, 50, 3, [.slice u.2.1 a.shape.length u.2.2.1, .slice none 0 0, .int .i64 a.vec.cls]⟩, ⟨some ⟨b2, 0, none⟩, 1, 1, 50, 3, [.slice none 0 0, .slice none 0 0, .int .i64 0]⟩, ⟨some ⟨b1, 0, none⟩, 1, 1, 63, 9, .slice ad a.shape.length cp :: vecCells a.vec.kind wv nv sm il fl ch bx⟩] w') ?_ ?_
  · refine CW.regionH T (fun w' : World => ∃ (h' : GHeap) (O : List Row) (k : Nat), Sees w h h' O w' ∧ O[k]? = some (Row.mk (some ⟨b1, 0, none⟩) 1 1 63 9 (.slice ad a.shape.length cp :: vecCells a.vec.kind wv nv sm il fl ch bx))) ?_
    rintro w4 rfl
    have hs := hs.drew
    refine HW.take (fuel := 8) 0 rfl (v := .pointer (some ⟨b1, 0 + 0, none⟩)) ?_ ?_ rfl (by kernel_rfl) (by kernel_rfl) (by kernel_rfl) ?_
    · intro w' _; exact Y.fieldAddr T rfl rfl rfl rfl rfl
    · exact ⟨_, _, 1, hs, rfl⟩
    refine HW.take (fuel := 7) 1 rfl (v := .slice ad a.shape.length cp) ?_ ?_ rfl (by kernel_rfl) (by kernel_rfl) (by kernel_rfl) ?_
    · rintro w' ⟨h', O, k, hs', e0⟩; exact Y.loadRow1 T hs' k e0 rfl rfl rfl rfl
    · exact ⟨_, _, 1, hs, rfl⟩
    refine HW.take (fuel := 6) 3 rfl (v := .pointer (some ⟨b1, 0 + 1, none⟩)) ?_ ?_ rfl (by kernel_rfl) (by kernel_rfl) (by kernel_rfl) ?_
    · intro w' _; exact Y.fieldAddr T rfl rfl rfl rfl rfl
    · exact ⟨_, _, 1, hs, rfl⟩
    refine HW.take (fuel := 5) 4 rfl (v := .agg (vecCells a.vec.kind wv nv sm il fl ch bx).toArray) ?_ ?_ rfl (by kernel_rfl) (by kernel_rfl) (by kernel_rfl) ?_
    · rintro w' ⟨h', O, k, hs', e0⟩; exact Y.loadRowN T hs' k e0 rfl rfl rfl rfl rfl rfl
    · exact ⟨_, _, 1, hs, rfl⟩
    refine HW.two (fuel := 4) 2 7 rfl rfl (by kernel_rfl) ?_ ?_
    · (refine RW.call T hs rfl rfl rfl (cloneInts_con _ a.shape _ _ hl' (by omega)) ?_; intro v h5 w5 hle5 hp5 hs)
      have hl5 := hp5
      obtain ⟨ad5, cp5, rfl, _⟩ := hp5
      have hl' := hl'.mono hle5
      have hv' := hv'.mono hR hle5
      (refine RW.nil ?_; refine heldQ_normal ⟨_, _, 1, hs, rfl⟩ ?_)
      refine HW.two (fuel := 3) 5 7 rfl rfl (by kernel_rfl) ?_ ?_
      · (refine RW.call T hs rfl rfl rfl (vecClass_con _ a.vec _ _ hv') ?_; intro v h6 w6 hle6 hp6 hs)
        subst hp6
        have hl' := hl'.mono hle6
        have hv' := hv'.mono hR hle6
        have hl5 := hl5.mono hle6
        (refine RW.nil ?_; refine heldQ_normal ⟨_, _, 1, hs, rfl⟩ ?_)
        refine HW.take (fuel := 2) 6 rfl (v := .agg [.slice ad5 a.shape.length cp5, .slice none 0 0, .int .i64 a.vec.cls].toArray) ?_ ?_ rfl (by kernel_rfl) (by kernel_rfl) (by kernel_rfl) ?_
        · intro w' _; exact Y.build T rfl rfl rfl rfl rfl rfl rfl
        · exact ⟨_, _, 1, hs, rfl⟩
        refine HW.one (fuel := 1) 7 rfl (by kernel_rfl) ?_
        (refine RW.allocN T hs rfl rfl rfl rfl ?_; intro b7 w7 hs)
        (refine RW.nil ?_; refine heldQ_normal ⟨_, _, 2, hs, rfl⟩ ?_)
        refine HW.one (fuel := 0) 8 rfl (by kernel_rfl) ?_
        (refine RW.storeAll T hs 0 rfl rfl rfl rfl rfl rfl rfl rfl ?_; intro w8 hs)
        (refine RW.nil ?_; refine heldQ_normal ⟨_, _, 2, hs, rfl⟩ ?_)
        refine HW.done (by kernel_rfl) ?_
        refine calmQ_normal ?_
        exact joinQ_meet (b7, ad5, cp5, h6) ⟨rfl, rfl, rfl, trivial⟩ ⟨hl5, hv', hs⟩
      · (refine RW.allocN T hs rfl rfl rfl rfl ?_; intro b7 w7 hs)
        (refine RW.nil ?_; refine heldQ_normal ⟨_, _, 2, hs, rfl⟩ ?_)
        refine HW.one (fuel := 2) 5 rfl (by kernel_rfl) ?_
        (refine RW.call T hs rfl rfl rfl (vecClass_con _ a.vec _ _ hv') ?_; intro v h6 w6 hle6 hp6 hs)
        subst hp6
        have hl' := hl'.mono hle6
        have hv' := hv'.mono hR hle6
        have hl5 := hl5.mono hle6
        (refine RW.nil ?_; refine heldQ_normal ⟨_, _, 2, hs, rfl⟩ ?_)
        refine HW.take (fuel := 1) 6 rfl (v := .agg [.slice ad5 a.shape.length cp5, .slice none 0 0, .int .i64 a.vec.cls].toArray) ?_ ?_ rfl (by kernel_rfl) (by kernel_rfl) (by kernel_rfl) ?_
        · intro w' _; exact Y.build T rfl rfl rfl rfl rfl rfl rfl
        · exact ⟨_, _, 2, hs, rfl⟩
        refine HW.one (fuel := 0) 8 rfl (by kernel_rfl) ?_
        (refine RW.storeAll T hs 0 rfl rfl rfl rfl rfl rfl rfl rfl ?_; intro w8 hs)
        (refine RW.nil ?_; refine heldQ_normal ⟨_, _, 2, hs, rfl⟩ ?_)
        refine HW.done (by kernel_rfl) ?_
        refine calmQ_normal ?_
        exact joinQ_meet (b7, ad5, cp5, h6) ⟨rfl, rfl, rfl, trivial⟩ ⟨hl5, hv', hs⟩
    · (refine RW.allocN T hs rfl rfl rfl rfl ?_; intro b7 w7 hs)
      (refine RW.nil ?_; refine heldQ_normal ⟨_, _, 2, hs, rfl⟩ ?_)
      refine HW.one (fuel := 3) 2 rfl (by kernel_rfl) ?_
      (refine RW.call T hs rfl rfl rfl (cloneInts_con _ a.shape _ _ hl' (by omega)) ?_; intro v h5 w5 hle5 hp5 hs)
      have hl5 := hp5
      obtain ⟨ad5, cp5, rfl, _⟩ := hp5
      have hl' := hl'.mono hle5
      have hv' := hv'.mono hR hle5
      (refine RW.nil ?_; refine heldQ_normal ⟨_, _, 2, hs, rfl⟩ ?_)
      refine HW.one (fuel := 2) 5 rfl (by kernel_rfl) ?_
      (refine RW.call T hs rfl rfl rfl (vecClass_con _ a.vec _ _ hv') ?_; intro v h6 w6 hle6 hp6 hs)
      subst hp6
      have hl' := hl'.mono hle6
      have hv' := hv'.mono hR hle6
      have hl5 := hl5.mono hle6
      (refine RW.nil ?_; refine heldQ_normal ⟨_, _, 2, hs, rfl⟩ ?_)
      refine HW.take (fuel := 1) 6 rfl (v := .agg [.slice ad5 a.shape.length cp5, .slice none 0 0, .int .i64 a.vec.cls].toArray) ?_ ?_ rfl (by kernel_rfl) (by kernel_rfl) (by kernel_rfl) ?_
      · intro w' _; exact Y.build T rfl rfl rfl rfl rfl rfl rfl
      · exact ⟨_, _, 2, hs, rfl⟩
      refine HW.one (fuel := 0) 8 rfl (by kernel_rfl) ?_
      (refine RW.storeAll T hs 0 rfl rfl rfl rfl rfl rfl rfl rfl ?_; intro w8 hs)
      (refine RW.nil ?_; refine heldQ_normal ⟨_, _, 2, hs, rfl⟩ ?_)
      refine HW.done (by kernel_rfl) ?_
      refine calmQ_normal ?_
      exact joinQ_meet (b7, ad5, cp5, h6) ⟨rfl, rfl, rfl, trivial⟩ ⟨hl5, hv', hs⟩
  rintro ⟨b3, ad5, cp5, h5⟩ w5 ⟨hl5, hv', hs⟩
  dsimp only at hl5 hv' hs ⊢
  refine Zerun ?_
  (refine RW.call T hs rfl rfl rfl (vecLen_con _ a.vec _ _ hv') ?_; intro v h6 w6 hle6 hp6 hs)
  subst hp6
  have hv' := hv'.mono hR hle6
  refine Zerun ?_
  have hs := hs.nilRow 83 4
  refine CW.loop (fun u : Nat × Option Addr × Nat × List Value × GHeap => [(1, .pointer (some ⟨b1, 0, none⟩)), (2, .pointer (some ⟨b2, 0, none⟩)), (3, .pointer (some ⟨b3, 0, none⟩)), (15, .int .i64 a.vec.len), (16, .int .i64 u.1)]) (fun u w' => u.1 ≤ a.vec.len ∧ GLe h6 u.2.2.2.2 ∧ AllN 4 (ItemAt RB u.2.2.2.2) u.2.2.2.1 ((itemsV f a.vec).take u.1) ∧ Sees w h u.2.2.2.2 [⟨u.2.1, u.1, u.2.2.1, 83, 4, u.2.2.2.1⟩, ⟨some ⟨b3, 0, none⟩, 1, 1, 50, 3, [.slice ad5 a.shape.length cp5, .slice u.2.1 u.1 u.2.2.1, .int .i64 a.vec.cls]⟩, ⟨some ⟨b2, 0, none⟩, 1, 1, 50, 3, [.slice none 0 0, .slice none 0 0, .int .i64 0]⟩, ⟨some ⟨b1, 0, none⟩, 1, 1, 63, 9, .slice ad a.shape.length cp :: vecCells a.vec.kind wv nv sm il fl ch bx⟩] w') (fun u => a.vec.len - u.1) (0, none, 0, [], h6) ⟨rfl, rfl, rfl, rfl, rfl, trivial⟩ ⟨by omega, GLe.refl _, rfl, hs⟩ ?_
  rintro ⟨i, ra, rc, vs, hh⟩ w7 ⟨hi, hg, hAv, hs⟩
  dsimp only at hi hg hAv hs ⊢
  by_cases hlt : i < a.vec.len
  · have hv' := hv'.mono hR hg
    have htk := take_succ_getD (itemsV f a.vec) i noItem (by omega)
    have done : ∀ (h6 : GHeap) (cs6 : List Value) (x : ItemD β), GLe hh h6 → (itemsV f a.vec).getD i noItem = x → ItemAt RB h6 cs6 x → AllN 4 (ItemAt RB h6) (vs ++ cs6) ((itemsV f a.vec).take (i + 1)) := by
      intro h6 cs6 x hle6 hx hi6
      rw [htk, hx]
      exact (hAv.mono (fun u a => ItemAt.mono hRB _ _ u a hle6)).append (AllN.one (by obtain ⟨_, rfl, _⟩ := hi6; rfl) hi6)
    refine Zerun ?_
    refine RW.val (Y.build T rfl rfl rfl rfl rfl rfl rfl) rfl ?_
    (refine RW.allocN T hs rfl rfl rfl rfl ?_; intro b8 w8 hs)
    (refine RW.storeAll T hs 0 rfl rfl rfl rfl rfl rfl rfl rfl ?_; intro w9 hs)
    refine Zerun ?_
    rcases hsort with ⟨hc, hn⟩ | ⟨hc, hn⟩ | ⟨hc, hn⟩
    · have hx : (itemsV f a.vec).getD i noItem = ⟨0, a.vec.num i, 0, []⟩ := by
        unfold itemsV; rw [if_neg (by omega), if_neg (by omega), getD_map' _ _ _ _ (by omega)]
        unfold VecD.num; rw [if_pos (by omega), Int.toNat_natCast, List.getD_eq_getElem?_getD, List.getElem?_eq_getElem (by omega)]; rfl
      have hnm : a.vec.num i < 18446744073709551616 := by
        unfold VecD.num; rw [if_pos (by omega), Int.toNat_natCast]
        exact (hv'.tidy _ (mem_getD _ _ _ (by omega))).1
      rw [hc] at hs ⊢
      refine Zerun ?_
      (refine RW.call T hs rfl rfl rfl (vecNum_con _ a.vec i _ _ hv') ?_; intro v h10 w10 hle10 hp10 hs)
      subst hp10
      refine Zerun ?_
      (refine RW.store1 T hs 0 rfl rfl rfl rfl rfl rfl rfl rfl ?_; intro w11 hs)
      refine Zerun ?_
      (refine RW.lit T hs (vs := [.agg [.int .i64 0, .float .f64 (a.vec.num i), .int .i32 0, .slice none 0 0].toArray]) (cs := [.int .i64 0, .float .f64 (a.vec.num i), .int .i32 0, .slice none 0 0]) rfl rfl rfl rfl (by simp [Value.cells]) rfl rfl rfl rfl rfl ?_; intro b12 w12 hs)
      (refine RW.append T hs 2 rfl rfl (m := 1) (news := [.int .i64 0, .float .f64 (a.vec.num i), .int .i32 0, .slice none 0 0]) rfl rfl rfl rfl rfl rfl (hs.src0 rfl (by simp [Value.oneCell'])) (by simp) (by dsimp only; omega) (by omega) ?_; intro ad13 cp13 w13 hs; replace hs := hs.drop)
      refine Zerun ?_
      (refine RW.store1 T hs 2 rfl rfl rfl rfl rfl rfl rfl rfl ?_; intro w14 hs)
      refine Zerun ?_
      exact loopQ_round (i + 1, ad13, cp13, _, h10) ⟨rfl, rfl, rfl, rfl, rfl, trivial⟩ ⟨by dsimp only; omega, hg.trans hle10, done h10 _ _ hle10 hx (ItemAt.mk' (x := ⟨0, a.vec.num i, 0, []⟩) (RowsAt.nil _) hnm), hs.drop⟩ (by dsimp only; omega)
    · have hx : (itemsV f a.vec).getD i noItem = ⟨1, 0, a.vec.chr i, []⟩ := by
        unfold itemsV; rw [if_pos hc, getD_map' _ _ _ _ (by omega)]
        unfold VecD.chr; rw [if_pos (by omega), Int.toNat_natCast, List.getD_eq_getElem?_getD, List.getElem?_eq_getElem (by omega)]; rfl
      rw [hc] at hs ⊢
      refine Zerun ?_
      (refine RW.call T hs rfl rfl rfl (vecChar_con _ a.vec i _ _ hv') ?_; intro v h10 w10 hle10 hp10 hs)
      subst hp10
      refine Zerun ?_
      (refine RW.store1 T hs 0 rfl rfl rfl rfl rfl rfl rfl rfl ?_; intro w11 hs)
      refine Zerun ?_
      (refine RW.lit T hs (vs := [.agg [.int .i64 1, .float .f64 0, .int .i32 (a.vec.chr i), .slice none 0 0].toArray]) (cs := [.int .i64 1, .float .f64 0, .int .i32 (a.vec.chr i), .slice none 0 0]) rfl rfl rfl rfl (by simp [Value.cells]) rfl rfl rfl rfl rfl ?_; intro b12 w12 hs)
      (refine RW.append T hs 2 rfl rfl (m := 1) (news := [.int .i64 1, .float .f64 0, .int .i32 (a.vec.chr i), .slice none 0 0]) rfl rfl rfl rfl rfl rfl (hs.src0 rfl (by simp [Value.oneCell'])) (by simp) (by dsimp only; omega) (by omega) ?_; intro ad13 cp13 w13 hs; replace hs := hs.drop)
      refine Zerun ?_
      (refine RW.store1 T hs 2 rfl rfl rfl rfl rfl rfl rfl rfl ?_; intro w14 hs)
      refine Zerun ?_
      exact loopQ_round (i + 1, ad13, cp13, _, h10) ⟨rfl, rfl, rfl, rfl, rfl, trivial⟩ ⟨by dsimp only; omega, hg.trans hle10, done h10 _ _ hle10 hx (ItemAt.mk' (x := ⟨1, 0, a.vec.chr i, []⟩) (RowsAt.nil _) (Nat.succ_pos _)), hs.drop⟩ (by dsimp only; omega)
    · have hib : i < a.vec.boxes.length := by omega
      have hx : (itemsV f a.vec).getD i noItem = ⟨2, 0, 0, [f a.vec.boxes[i]]⟩ := by
        unfold itemsV; rw [if_neg (by omega), if_pos hc, getD_map' _ _ _ _ hib]
      rw [hc] at hs ⊢
      refine Zerun ?_
      (refine RW.call T hs rfl rfl rfl (vecBox_con hR h1 _ a.vec i a.vec.boxes[i] _ _ hv' hib) ?_; intro v h10 w10 hle10 hp10 hs)
      obtain ⟨cs10, rfl, hl10, hR10⟩ := hp10
      rw [List.getD_eq_getElem?_getD, List.getElem?_eq_getElem hib] at hR10
      (refine RW.call T hs rfl rfl rfl (ih _ a.vec.boxes[i] _ _ hR10 (hq _ (List.getElem_mem hib))) ?_; intro v h11 w11 hle11 hp11 hs)
      obtain ⟨cs11, rfl, hR11⟩ := hp11
      have hl11 := h3 _ _ _ hR11
      have ho11 := h1B _ _ _ hR11
      (refine RW.lit T hs (vs := [.agg cs11.toArray]) (cs := cs11) rfl rfl rfl rfl (by simp [Value.cells, hl11]) rfl (by simp [Value.cells]) rfl rfl rfl ?_; intro b12 w12 hs)
      refine Zerun ?_
      (refine RW.store1 T hs 1 rfl rfl rfl rfl rfl rfl rfl rfl ?_; intro w13 hs)
      obtain ⟨h14, hle14, hs, hS14⟩ := hs.freeze
      have hR14 : RowsAt 3 (RB h14) h14 (.slice (some ⟨b12, 0, none⟩) 1 1) [f a.vec.boxes[i]] := RowsAt.single hS14 (hRB _ _ _ _ hle14 hR11)
      refine Zerun ?_
      (refine RW.lit T hs (vs := [.agg [.int .i64 2, .float .f64 0, .int .i32 0, .slice (some ⟨b12, 0, none⟩) 1 1].toArray]) (cs := [.int .i64 2, .float .f64 0, .int .i32 0, .slice (some ⟨b12, 0, none⟩) 1 1]) rfl rfl rfl rfl (by simp [Value.cells]) rfl rfl rfl rfl rfl ?_; intro b15 w15 hs)
      (refine RW.append T hs 2 rfl rfl (m := 1) (news := [.int .i64 2, .float .f64 0, .int .i32 0, .slice (some ⟨b12, 0, none⟩) 1 1]) rfl rfl rfl rfl rfl rfl (hs.src0 rfl (by simp [Value.oneCell'])) (by simp) (by dsimp only; omega) (by omega) ?_; intro ad16 cp16 w16 hs; replace hs := hs.drop)
      refine Zerun ?_
      (refine RW.store1 T hs 2 rfl rfl rfl rfl rfl rfl rfl rfl ?_; intro w17 hs)
      refine Zerun ?_
      exact loopQ_round (i + 1, ad16, cp16, _, h14) ⟨rfl, rfl, rfl, rfl, rfl, trivial⟩ ⟨by dsimp only; omega, hg.trans (hle10.trans (hle11.trans hle14)), done h14 _ _ (hle10.trans (hle11.trans hle14)) hx (ItemAt.mk' (x := ⟨2, 0, 0, [f a.vec.boxes[i]]⟩) hR14 (Nat.succ_pos _)), hs.drop⟩ (by dsimp only; omega)
  · obtain rfl : i = a.vec.len := by omega
    rw [← hil, List.take_length] at hAv
    obtain ⟨h8, hle8, hs, hS8⟩ := hs.freeze
    refine Zerun ?_
    (refine RW.storeAll T hs 1 rfl rfl rfl rfl rfl rfl rfl rfl ?_; intro w9 hs)
    refine Zerun ?_
    refine retQ_ret [_] h8 ⟨resN T hs 1 rfl rfl rfl rfl rfl rfl, trivial⟩ hs.dropAll ⟨_, rfl, _, _, rfl, hl5.mono (hle6.trans (hg.trans hle8)), ra, rc, vs, by simp [plainA, hil], ?_, hAv.mono (fun u a => ItemAt.mono hRB _ _ u a hle8)⟩
    show Sl h8 4 ra (itemsV f a.vec).length rc vs
    rw [hil]
    exact hS8
end
theorem plainV_con : ∀ (k : Nat) (cs : List Value) (a : AD k) (w : World) (h : GHeap), ArrAt k h cs a → sml k a → Con Try.prog 47 [.agg cs.toArray] w h (fun h' u => ∃ cs', u = .agg cs'.toArray ∧ PlainAt k h' cs' (plain k a))
  | 0, _, _, _, _, ha, _ => ha.elim
  | k + 1, cs, a, w, h, ha, hs => plain_step (ArrAt.mono k) (PlainAt.mono k) (ArrAt.one k) (PlainAt.one k) (PlainAt.siz k) (plain k) (sml k) (fun cs a w h ha hs => plainV_con k cs a w h ha hs) cs a w h ha hs.2.2 hs.1 hs.2.1
end Go.Proofs.Ythbfkhklihejiaa

/-
  The program logic, seventeenth part: regions that draw their order, the call's own rows fixed. No statement is proved here.
-/
namespace Go.Proofs.Ythbfkhklihejiaa
open Go Go.RowKit
set_option linter.unusedVariables false
set_option linter.unusedSimpArgs false
set_option linter.unusedVariables false
section
variable {P : Program} {n : Nat} {Q : Post} {L : Env} {w0 w : World} {h0 h : GHeap} {O : List Row} {ops rest : List Oper} {x y : Operand} {t : TypeId}
variable {d : Option Tmp} {ty yt : TypeId} {pos : String} {aft : Array Edge} {fuel : Nat} {listed : Array Bool}
def SO (w0 : World) (h0 : GHeap) (O : List Row) (w : World) : Prop := ∃ h', Sees w0 h0 h' O w
theorem CW.regionO (T' : Tab P) (hs : Sees w0 h0 h O w) {id : Nat} {l : List Oper} (K : ∀ w', Sees w0 h0 h O w' → HW P n l (calmQ Q) (SO w0 h0 O) l.length (Array.replicate l.length false) L w') : CW P n Q (.region id l.toArray true) L w :=
  CW.regionH T' (SO w0 h0 O) (fun w' e => by subst e; exact K _ hs.drew)
theorem HW.takeS (i : Nat) {op : Op} {v : Value} (hi : ops.toArray[i]? = some ⟨d, op, ty, pos, aft, none⟩) (hy : ∀ h' w', Sees w0 h0 h' O w' → Yields P n L w' op ty v) (hS : Sees w0 h0 h O w) (hd : dstOk n d = true)
    (hs : Region.noSelect ops.toArray = true) (hf : Region.free .any ops.toArray listed i = true) (hr : (Region.ready .any ops.toArray listed).contains i = true)
    (hh : HW P n ops (calmQ Q) (SO w0 h0 O) fuel (listed.setIfInBounds i true) (updo d v L) w) : HW P n ops (calmQ Q) (SO w0 h0 O) (fuel + 1) listed L w :=
  HW.take i hi (fun w' ⟨h', s⟩ => hy h' w' s) ⟨h, hS⟩ hd hs hf hr hh
theorem HW.takeSY (i : Nat) {op : Op} {v : Value} {j : Nat} {want : Bool} {t : Tmp} (hi : ops.toArray[i]? = some ⟨d, op, ty, pos, aft, some (j, want)⟩) (hj : gdst ops j = some t) (ht : get L t = some (.bool want)) (hy : ∀ h' w', Sees w0 h0 h' O w' → Yields P n L w' op ty v) (hS : Sees w0 h0 h O w) (hd : dstOk n d = true)
    (hs : Region.noSelect ops.toArray = true) (hf : Region.free .any ops.toArray listed i = true) (hr : (Region.ready .any ops.toArray listed).contains i = true)
    (hh : HW P n ops (calmQ Q) (SO w0 h0 O) fuel (listed.setIfInBounds i true) (updo d v L) w) : HW P n ops (calmQ Q) (SO w0 h0 O) (fuel + 1) listed L w :=
  HW.takeYes i hi hj ht (fun w' ⟨h', s⟩ => hy h' w' s) ⟨h, hS⟩ hd hs hf hr hh
theorem HW.takeSN (i : Nat) {op : Op} {j : Nat} {want b : Bool} {t : Tmp} (hi : ops.toArray[i]? = some ⟨d, op, ty, pos, aft, some (j, want)⟩) (hj : gdst ops j = some t) (ht : get L t = some (.bool b)) (hb : (b == want) = false) (hS : Sees w0 h0 h O w) (hd : dstOk n d = true)
    (hs : Region.noSelect ops.toArray = true) (hf : Region.free .any ops.toArray listed i = true) (hr : (Region.ready .any ops.toArray listed).contains i = true)
    (hh : HW P n ops (calmQ Q) (SO w0 h0 O) fuel (listed.setIfInBounds i true) (updo d undef L) w) : HW P n ops (calmQ Q) (SO w0 h0 O) (fuel + 1) listed L w :=
  HW.takeNo i hi hj ht hb ⟨h, hS⟩ hd hs hf hr hh
theorem Y.neqF {k : IntKind} {u v : Int} (hx : opv L x = some (.int k u)) (hy : opv L y = some (.int k v)) (h : u = v) : Yields P n L w (.binOp .neq t x y yt) ty (.bool false) := by
  have := Y.neq (P := P) (n := n) (w := w) (ty := ty) (t := t) (yt := yt) hx hy
  rwa [decide_eq_false (fun e => e h)] at this
theorem Y.neqT {k : IntKind} {u v : Int} (hx : opv L x = some (.int k u)) (hy : opv L y = some (.int k v)) (h : u ≠ v) : Yields P n L w (.binOp .neq t x y yt) ty (.bool true) := by
  have := Y.neq (P := P) (n := n) (w := w) (ty := ty) (t := t) (yt := yt) hx hy
  rwa [decide_eq_true h] at this
theorem Y.eqF {k : IntKind} {u v : Int} (hx : opv L x = some (.int k u)) (hy : opv L y = some (.int k v)) (h : u ≠ v) : Yields P n L w (.binOp .eql t x y yt) ty (.bool false) := by
  have := Y.eql (P := P) (n := n) (w := w) (ty := ty) (t := t) (yt := yt) hx hy
  rwa [decide_eq_false h] at this
theorem Y.neqBF (T : Tab P) {b b' : Bool} (hT : T.ty t = some .bool) (hx : opv L x = some (.bool b)) (hy : opv L y = some (.bool b')) (h : b = b') : Yields P n L w (.binOp .neq t x y yt) ty (.bool false) := by
  have := Y.neqB (P := P) (n := n) (w := w) (ty := ty) (yt := yt) T hT hx hy
  rw [h] at this
  simpa using this
theorem Y.pickB {c : Operand} {b : Bool} {v u : Value} (hc : opv L c = some (.bool b)) (hx : opv L x = some v) (hy : opv L y = some u) : Yields P n L w (.pick c x y) ty (bif b then v else u) := by
  cases b with
  | true => exact Y.pickT hc hx
  | false => exact Y.pickF hc hy
theorem Y.eqT {k : IntKind} {u v : Int} (hx : opv L x = some (.int k u)) (hy : opv L y = some (.int k v)) (h : u = v) : Yields P n L w (.binOp .eql t x y yt) ty (.bool true) := by
  have := Y.eql (P := P) (n := n) (w := w) (ty := ty) (t := t) (yt := yt) hx hy
  rwa [decide_eq_true h] at this
end
end Go.Proofs.Ythbfkhklihejiaa

/-
  Contracts of the law's own functions of layer 7: the chapter's example; the array of a plain one. No statement is proved here.
-/
namespace Go.Proofs.Ythbfkhklihejiaa
open Go Go.RowKit
set_option linter.unusedVariables false
set_option linter.unusedSimpArgs false
set_option maxHeartbeats 4000000
attribute [local irreducible] CW RW QW SW HW ConM retM heldQ calmQ elemP thenQ blockQ loopQ joinQ retQ Yields Con Sl zF magR unitF truncF fwF wholeF tidySpec elemQ rankF leastN tidyW

/-! ## Plain facts -/
theorem AllN.mem {α : Type} {sz : Nat} {R : List Value → α → Prop} : ∀ {xs : List Value} {l : List α}, AllN sz R xs l → ∀ a ∈ l, ∃ cs, R cs a
  | _, [], _, _, h => by cases h
  | xs, b :: l, h, a, ha => by
    rcases List.mem_cons.1 ha with rfl | ha
    · exact ⟨_, h.2.1⟩
    · exact AllN.mem h.2.2 a ha
theorem tidy_tdy : ∀ (k : Nat) (d : Int) (p : PD k) (h : GHeap) (cs : List Value), PlainAt k h cs p → chk k d p = 0 → tdy k (tidy k p)
  | 0, _, _, _, _, _, _ => trivial
  | k + 1, d, p, h, cs, hp, hc => by
    obtain ⟨h1, h2, h3, h4, h5⟩ := (chkP_ok (α := PD k) _ _ _).1 hc
    obtain ⟨s, it, rfl, hl, ⟨ad2, cp2, xs, rfl, hS2, hA⟩⟩ := hp
    show tdyP (tdy k) (tidyP (tidy k) p)
    intro y hy
    obtain ⟨x, hx, rfl⟩ := List.mem_map.1 hy
    obtain ⟨cx, bx, rfl, ⟨ad3, cp3, ys, rfl, hS3, hA3⟩, hn⟩ := hA.mem x hx
    obtain ⟨o1, o2, o3⟩ := h5 x hx
    unfold tidyIt
    by_cases k0 : x.kind = 0
    · rw [if_pos k0]
      exact ⟨tidyW_tidy hn (o3 k0), by simp⟩
    rw [if_neg k0]
    by_cases k1 : x.kind = 1
    · rw [if_pos k1]
      exact ⟨tidy0, by simp⟩
    rw [if_neg k1]
    by_cases k2 : x.kind = 2
    · rw [if_pos k2]
      refine ⟨tidy0, ?_⟩
      obtain ⟨b, hb, hcb⟩ := o2 k2
      intro b' hb'
      dsimp only at hb'
      rw [hb] at hb' hA3
      simp at hb'
      subst hb'
      obtain ⟨cb, hRb⟩ := hA3.mem b (by simp)
      exact tidy_tdy k (d - 1) b h cb hRb hcb
    · rw [if_neg k2]
      exact ⟨tidy0, by simp⟩
/-- the chapter's example: the identity of two rows -/
def p0 : PD 1 := (⟨[2, 2], [⟨0, 4607182418800017408, 0, []⟩, ⟨0, 0, 0, []⟩, ⟨0, 0, 0, []⟩, ⟨0, 4607182418800017408, 0, []⟩], 0⟩ : PlainD Unit)
theorem tidy1 : tidyF 4607182418800017408 := ⟨by omega, fin1, by omega⟩
theorem tidyW0 : tidyW 0 = 0 := by unfold tidyW; rw [tidySpec_of 0 tidy0]
theorem tidyW1 : tidyW 4607182418800017408 = 4607182418800017408 := by unfold tidyW; rw [tidySpec_of _ tidy1]
theorem p0_mem {x : ItemD (PD 0)} (hx : x ∈ PlainD.items (α := PD 0) p0) : x = ⟨0, 4607182418800017408, 0, []⟩ ∨ x = ⟨0, 0, 0, []⟩ := by
  have h : x ∈ ([⟨0, 4607182418800017408, 0, []⟩, ⟨0, 0, 0, []⟩, ⟨0, 0, 0, []⟩, ⟨0, 4607182418800017408, 0, []⟩] : List (ItemD (PD 0))) := hx
  simp only [List.mem_cons, List.not_mem_nil, or_false] at h
  rcases h with h | h | h | h
  · exact .inl h
  · exact .inr h
  · exact .inr h
  · exact .inl h
theorem p0_chk : chk 1 40 p0 = 0 := by
  refine (chkP_ok (α := PD 0) _ _ _).2 ⟨by omega, by decide, by decide, by decide, ?_⟩
  intro x hx
  rcases p0_mem hx with rfl | rfl
  · exact ⟨rfl, fun e => absurd e (by decide), fun _ => fin1⟩
  · exact ⟨rfl, fun e => absurd e (by decide), fun _ => fin0⟩
theorem p0_tidy : tidy 1 p0 = p0 := by
  have t1 : tidyIt (tidy 0) (⟨0, 4607182418800017408, 0, []⟩ : ItemD (PD 0)) = ⟨0, 4607182418800017408, 0, []⟩ := by unfold tidyIt; rw [if_pos rfl, tidyW1]
  have t0 : tidyIt (tidy 0) (⟨0, 0, 0, []⟩ : ItemD (PD 0)) = ⟨0, 0, 0, []⟩ := by unfold tidyIt; rw [if_pos rfl, tidyW0]
  show (⟨[2, 2], [tidyIt (tidy 0) ⟨0, 4607182418800017408, 0, []⟩, tidyIt (tidy 0) ⟨0, 0, 0, []⟩, tidyIt (tidy 0) ⟨0, 0, 0, []⟩, tidyIt (tidy 0) ⟨0, 4607182418800017408, 0, []⟩], 0⟩ : PlainD (PD 0)) = _
  rw [t1, t0]
  rfl
theorem p0_tdy : tdy 1 p0 := by
  intro x hx
  rcases p0_mem hx with rfl | rfl
  · exact ⟨tidy1, by simp⟩
  · exact ⟨tidy0, by simp⟩
theorem p0_depth : depth 1 p0 = 1 := by
  show depthP _ _ = _
  unfold depthP
  rfl
theorem p0_kind : (ArrD.vec (α := AD 0) (arr 1 p0)).kind = 1 := by
  have e : (arrV (arr 0) 0 [⟨0, 4607182418800017408, 0, []⟩, ⟨0, 0, 0, []⟩, ⟨0, 0, 0, []⟩, ⟨0, 4607182418800017408, 0, []⟩]).kind = leastN [4607182418800017408, 0, 0, 4607182418800017408] := by
    unfold arrV
    rw [if_neg (by omega), if_neg (by omega)]
    simp [tidyW0, tidyW1]
  show (arrV (arr 0) 0 [⟨0, 4607182418800017408, 0, []⟩, ⟨0, 0, 0, []⟩, ⟨0, 0, 0, []⟩, ⟨0, 4607182418800017408, 0, []⟩]).kind = 1
  rw [e]
  have h1 := (leastN_bounds [4607182418800017408, 0, 0, 4607182418800017408]).1
  have h2 : leastN [4607182418800017408, 0, 0, 4607182418800017408] ≤ 1 := by
    rw [leastN.eq_1]
    refine fold_le _ 1 1 (by omega) ?_
    intro x hx
    simp only [List.mem_cons, List.not_mem_nil, or_false] at hx
    rcases hx with rfl | rfl | rfl | rfl
    · exact (rank_bit _ tidy1).2 (.inr fw1.symm)
    · exact (rank_bit _ tidy0).2 (.inl fw0.symm)
    · exact (rank_bit _ tidy0).2 (.inl fw0.symm)
    · exact (rank_bit _ tidy1).2 (.inr fw1.symm)
  omega

theorem awake07_con (w : World) (h : GHeap) : Con Try.prog 41 [] w h (fun _ u => u = .bool true) := by
  refine Con.of_body Try.func41 rfl Try.ntmps41 rfl rfl ?_
  intro hs
  refine Zrun ?_
  (refine RW.lit T hs (vs := [.int .i64 2, .int .i64 2]) rfl rfl rfl rfl (by simp [Value.cells]) rfl rfl rfl rfl rfl ?_; intro b1 w1 hs)
  obtain ⟨h1, hle1, hs, hS1⟩ := hs.freeze
  have hI1 : IntsAt h1 (.slice (some ⟨b1, 0, none⟩) 2 2) [2, 2] := IntsAt.of_sl hS1
  refine RW.val (Y.build T rfl rfl rfl rfl rfl rfl rfl) rfl ?_
  refine RW.val (Y.build T rfl rfl rfl rfl rfl rfl rfl) rfl ?_
  refine RW.val (Y.build T rfl rfl rfl rfl rfl rfl rfl) rfl ?_
  refine RW.val (Y.build T rfl rfl rfl rfl rfl rfl rfl) rfl ?_
  (refine RW.lit T hs (vs := [.agg [.int .i64 0, .float .f64 4607182418800017408, .int .i32 0, .slice none 0 0].toArray, .agg [.int .i64 0, .float .f64 0, .int .i32 0, .slice none 0 0].toArray, .agg [.int .i64 0, .float .f64 0, .int .i32 0, .slice none 0 0].toArray, .agg [.int .i64 0, .float .f64 4607182418800017408, .int .i32 0, .slice none 0 0].toArray]) (cs := [.int .i64 0, .float .f64 4607182418800017408, .int .i32 0, .slice none 0 0, .int .i64 0, .float .f64 0, .int .i32 0, .slice none 0 0, .int .i64 0, .float .f64 0, .int .i32 0, .slice none 0 0, .int .i64 0, .float .f64 4607182418800017408, .int .i32 0, .slice none 0 0]) rfl rfl rfl rfl (by simp [Value.cells]) rfl rfl rfl rfl rfl ?_; intro b2 w2 hs)
  obtain ⟨h2, hle2, hs, hS2⟩ := hs.freeze
  have hp : PlainAt 1 h2 [.slice (some ⟨b1, 0, none⟩) 2 2, .slice (some ⟨b2, 0, none⟩) 4 4, .int .i64 0] p0 := by
    refine ⟨_, _, rfl, hI1.mono hle2, some ⟨b2, 0, none⟩, 4, _, rfl, hS2, ?_⟩
    refine ⟨rfl, ⟨_, rfl, RowsAt.nil _, by decide⟩, rfl, ⟨_, rfl, RowsAt.nil _, by decide⟩, rfl, ⟨_, rfl, RowsAt.nil _, by decide⟩, rfl, ⟨_, rfl, RowsAt.nil _, by decide⟩, rfl⟩
  refine RW.val (Y.build T rfl rfl rfl rfl rfl rfl rfl) rfl ?_
  (refine RW.allocN T hs rfl rfl rfl rfl ?_; intro b3 w3 hs)
  (refine RW.storeAll T hs 0 rfl rfl rfl rfl rfl rfl rfl rfl ?_; intro w4 hs)
  refine Zerun ?_
  (refine RW.call T hs rfl rfl rfl (valueOf_con 1 _ p0 _ _ hp) ?_; intro v h5 w5 hle5 hp5 hs)
  rw [p0_chk] at hp5
  obtain ⟨cs5, rfl, hl5, ho5, ha5, _⟩ := hp5
  have ha' := ha5 rfl
  have hp' := PlainAt.mono 1 _ _ _ _ hle5 hp
  have ha2 := ha'
  obtain ⟨s5, vc5, rfl, _, hv'⟩ := ha2
  have hv2 := hv'
  obtain ⟨wv, nv, sm, il, fl, ch, bx, ⟨rfl, _⟩, _⟩ := hv2
  refine Zerun ?_
  (refine RW.allocN T hs rfl rfl rfl rfl ?_; intro b6 w6 hs)
  (refine RW.storeAll T hs 0 rfl rfl rfl rfl rfl rfl (List.all_eq_true.2 ho5) rfl ?_; intro w7 hs)
  refine Zerun ?_
  refine CW.regionO T hs ?_
  intro w8 hs
  refine HW.takeS (fuel := 23) 0 rfl (fun _ _ hs => Y.move rfl) hs rfl (by kernel_rfl) (by kernel_rfl) (by kernel_rfl) ?_
  refine HW.takeS (fuel := 22) 1 rfl (fun _ _ hs => Y.eqT rfl rfl rfl) hs rfl (by kernel_rfl) (by kernel_rfl) (by kernel_rfl) ?_
  refine HW.takeS (fuel := 21) 2 rfl (fun _ _ hs => Y.move rfl) hs rfl (by kernel_rfl) (by kernel_rfl) (by kernel_rfl) ?_
  refine HW.takeSY (fuel := 20) 3 rfl rfl rfl (fun _ _ hs => Y.fieldAddr T rfl rfl rfl rfl rfl) hs rfl (by kernel_rfl) (by kernel_rfl) (by kernel_rfl) ?_
  refine HW.takeSY (fuel := 19) 4 rfl rfl rfl (fun _ _ hs => Y.loadRowN T hs 0 rfl rfl rfl rfl rfl rfl rfl) hs rfl (by kernel_rfl) (by kernel_rfl) (by kernel_rfl) ?_
  refine HW.one (fuel := 18) 5 rfl (by kernel_rfl) ?_
  refine RW.guardYes rfl rfl ?_
  (refine RW.call T hs rfl rfl rfl (vecKind_con _ (arr 1 p0).vec _ _ hv') ?_; intro v h21 w21 hle21 hp21 hs)
  subst hp21
  have ha' := ArrAt.mono 1 _ _ _ _ hle21 ha'
  have hv' := hv'.mono (ArrAt.mono 0) hle21
  have hp' := PlainAt.mono 1 _ _ _ _ hle21 hp'
  refine RW.nil ?_
  refine heldQ_normal ⟨_, hs⟩ ?_
  refine HW.takeSY (fuel := 17) 6 rfl rfl rfl (fun _ _ hs => Y.eqT rfl rfl p0_kind) hs rfl (by kernel_rfl) (by kernel_rfl) (by kernel_rfl) ?_
  refine HW.takeS (fuel := 16) 7 rfl (fun _ _ hs => Y.pickT rfl rfl) hs rfl (by kernel_rfl) (by kernel_rfl) (by kernel_rfl) ?_
  refine HW.takeS (fuel := 15) 8 rfl (fun _ _ hs => Y.move rfl) hs rfl (by kernel_rfl) (by kernel_rfl) (by kernel_rfl) ?_
  refine HW.takeSY (fuel := 14) 9 rfl rfl rfl (fun _ _ hs => Y.loadRowN T hs 0 rfl rfl rfl rfl rfl rfl rfl) hs rfl (by kernel_rfl) (by kernel_rfl) (by kernel_rfl) ?_
  refine HW.one (fuel := 13) 10 rfl (by kernel_rfl) ?_
  refine RW.guardYes rfl rfl ?_
  (refine RW.call T hs rfl rfl rfl (valueDepth_con 1 40 _ (arr 1 p0) _ _ (by omega) (by omega) ha' (good_arr 1 40 p0 p0_chk)) ?_; intro v h26 w26 hle26 hp26 hs)
  subst hp26
  have ha' := ArrAt.mono 1 _ _ _ _ hle26 ha'
  have hp' := PlainAt.mono 1 _ _ _ _ hle26 hp'
  refine RW.nil ?_
  refine heldQ_normal ⟨_, hs⟩ ?_
  refine HW.takeSY (fuel := 12) 11 rfl rfl rfl (fun _ _ hs => Y.eqT rfl rfl (by rw [depth_arr 1 40 p0 p0_chk, p0_depth])) hs rfl (by kernel_rfl) (by kernel_rfl) (by kernel_rfl) ?_
  refine HW.takeS (fuel := 11) 12 rfl (fun _ _ hs => Y.pickT rfl rfl) hs rfl (by kernel_rfl) (by kernel_rfl) (by kernel_rfl) ?_
  refine HW.takeS (fuel := 10) 13 rfl (fun _ _ hs => Y.move rfl) hs rfl (by kernel_rfl) (by kernel_rfl) (by kernel_rfl) ?_
  refine HW.takeSY (fuel := 9) 14 rfl rfl rfl (fun _ _ hs => Y.loadRowN T hs 0 rfl rfl rfl rfl rfl rfl rfl) hs rfl (by kernel_rfl) (by kernel_rfl) (by kernel_rfl) ?_
  refine HW.takeSY (fuel := 8) 16 rfl rfl rfl (fun _ _ hs => Y.loadRowN T hs 1 rfl rfl rfl rfl rfl rfl rfl) hs rfl (by kernel_rfl) (by kernel_rfl) (by kernel_rfl) ?_
  refine HW.one (fuel := 7) 15 rfl (by kernel_rfl) ?_
  refine RW.guardYes rfl rfl ?_
  (refine RW.call T hs rfl rfl rfl (plainV_con 1 _ (arr 1 p0) _ _ ha' (good_sml 1 40 _ (good_arr 1 40 p0 p0_chk))) ?_; intro v h31 w31 hle31 hp31 hs)
  obtain ⟨cs31, rfl, hq31⟩ := hp31
  rw [plain_arr 1 40 p0 p0_chk, p0_tidy] at hq31
  have ha' := ArrAt.mono 1 _ _ _ _ hle31 ha'
  have hp' := PlainAt.mono 1 _ _ _ _ hle31 hp'
  refine RW.nil ?_
  refine heldQ_normal ⟨_, hs⟩ ?_
  refine HW.one (fuel := 6) 17 rfl (by kernel_rfl) ?_
  refine RW.guardYes rfl rfl ?_
  (refine RW.call T hs rfl rfl rfl (refSame_con 1 _ _ p0 p0 _ _ hq31 hp' p0_tdy p0_tdy) ?_; intro v h33 w33 hle33 hp33 hs)
  subst hp33
  rw [eqB_of (show p0 = p0 from rfl)]
  have ha' := ArrAt.mono 1 _ _ _ _ hle33 ha'
  refine RW.nil ?_
  refine heldQ_normal ⟨_, hs⟩ ?_
  refine HW.takeS (fuel := 5) 18 rfl (fun _ _ hs => Y.pickT rfl rfl) hs rfl (by kernel_rfl) (by kernel_rfl) (by kernel_rfl) ?_
  refine HW.takeS (fuel := 4) 19 rfl (fun _ _ hs => Y.move rfl) hs rfl (by kernel_rfl) (by kernel_rfl) (by kernel_rfl) ?_
  refine HW.takeSY (fuel := 3) 20 rfl rfl rfl (fun _ _ hs => Y.loadRowN T hs 0 rfl rfl rfl rfl rfl rfl rfl) hs rfl (by kernel_rfl) (by kernel_rfl) (by kernel_rfl) ?_
  refine HW.one (fuel := 2) 21 rfl (by kernel_rfl) ?_
  refine RW.guardYes rfl rfl ?_
  (refine RW.call T hs rfl rfl rfl (valueGood_con 1 _ (arr 1 p0) _ _ ha') ?_; intro v h37 w37 hle37 hp37 hs)
  subst hp37
  rw [decB_of (good_arr 1 40 p0 p0_chk)]
  refine RW.nil ?_
  refine heldQ_normal ⟨_, hs⟩ ?_
  refine HW.takeS (fuel := 1) 22 rfl (fun _ _ hs => Y.pickT rfl rfl) hs rfl (by kernel_rfl) (by kernel_rfl) (by kernel_rfl) ?_
  refine HW.takeS (fuel := 0) 23 rfl (fun _ _ hs => Y.assign rfl) hs rfl (by kernel_rfl) (by kernel_rfl) (by kernel_rfl) ?_
  refine HW.done (by kernel_rfl) ?_
  refine calmQ_normal ?_
  refine Zerun ?_
  exact retQ_ret [_] h37 ⟨rfl, trivial⟩ hs.dropAll rfl
theorem of07_con (k : Nat) (cs : List Value) (p : PD k) (w : World) (h : GHeap) (hp : PlainAt k h cs p) (hc : chk k 40 p = 0) : Con Try.prog 56 [.agg cs.toArray] w h (fun h' u => ∃ cs', u = .agg cs'.toArray ∧ cs'.length = 9 ∧ (∀ u ∈ cs', u.oneCell' = true) ∧ ArrAt k h' cs' (arr k p)) := by
  have hp' := hp
  cases k with
  | zero => exact hp.elim
  | succ k =>
    obtain ⟨s, it, rfl, _⟩ := hp
    refine Con.of_body Try.func56 rfl Try.ntmps56 rfl rfl ?_
    intro hs
    refine Zrun ?_
    (refine RW.boxN hs rfl rfl ?_; intro b1 w1 hs)
    (refine RW.allocN T hs rfl rfl rfl rfl ?_; intro b2 w2 hs)
    refine Zerun ?_
    (refine RW.call T hs rfl rfl rfl (valueOf_con _ _ _ _ _ hp') ?_; intro v h3 w3 hle3 hp3 hs)
    rw [hc] at hp3
    obtain ⟨cs3, rfl, hl3, ho3, hz3, hn3⟩ := hp3
    refine Zerun ?_
    (refine RW.allocN T hs rfl rfl rfl rfl ?_; intro b4 w4 hs)
    refine RW.storeAll T hs 0 rfl rfl rfl rfl rfl hl3 (List.all_eq_true.2 ho3) hl3 ?_
    intro w5 hs
    refine Zerun ?_
    refine RW.val (Y.loadRowN (cs := cs3) T hs 0 rfl rfl rfl rfl rfl (List.take_of_length_le (by rw [List.drop_zero]; exact Nat.le_of_eq hl3)) hl3) rfl ?_
    refine RW.storeAll T hs 1 rfl rfl rfl rfl rfl hl3 (List.all_eq_true.2 ho3) hl3 ?_
    intro w6 hs
    refine Zerun ?_
    exact retQ_ret [_] h3 ⟨resN T hs 1 rfl rfl rfl rfl rfl hl3, trivial⟩ hs.dropAll ⟨_, rfl, hl3, ho3, hz3 rfl⟩
end Go.Proofs.Ythbfkhklihejiaa

/-
  Contracts of the law's own functions of layer 7: which plain arrays are arrays. No statement is proved here.
-/
namespace Go.Proofs.Ythbfkhklihejiaa
open Go Go.RowKit
set_option linter.unusedVariables false
set_option linter.unusedSimpArgs false
set_option maxHeartbeats 4000000
attribute [local irreducible] CW RW QW SW HW ConM retM heldQ calmQ elemP thenQ blockQ loopQ joinQ retQ Yields Con Sl zF magR unitF truncF fwF wholeF tidySpec elemQ rankF leastN tidyW

theorem Y.eqlBT {P : Program} (T : Tab P) {n : Nat} {L : Env} {w : World} {ty : TypeId} {x y : Operand} {t yt : TypeId} {b b' : Bool} (hT : T.ty t = some .bool) (hx : opv L x = some (.bool b)) (hy : opv L y = some (.bool b')) (h : b = b') : Yields P n L w (.binOp .eql t x y yt) ty (.bool true) := by
  have := Y.eqlB (P := P) (n := n) (w := w) (ty := ty) (yt := yt) T hT hx hy
  rw [h] at this
  simpa using this
theorem zeroArr_at (k : Nat) (h : GHeap) : ArrAt (k + 1) h zeroArr (⟨[], VecD.none⟩ : ArrD (AD k)) := ⟨_, _, rfl, RowAt.nil h, vecNone h⟩
theorem zeroArr_bad (k : Nat) (d : Int) : ¬ good (k + 1) d (⟨[], VecD.none⟩ : ArrD (AD k)) := fun g => g.2.1 rfl
theorem valueOfLaw_con (k : Nat) (cs : List Value) (p : PD (k + 1)) (w : World) (h : GHeap) (hp : PlainAt (k + 1) h cs p) : Con Try.prog 7 [.agg cs.toArray] w h (fun _ u => u = .bool true) := by
  have hp' := hp
  obtain ⟨s, it, rfl, ⟨ad, cp, rfl, hS⟩, ⟨ad2, cp2, xs, rfl, hS2, hA⟩⟩ := hp
  refine Con.of_body Try.func7 rfl Try.ntmps7 rfl rfl ?_
  intro hs
  refine Zrun ?_
  (refine RW.boxN hs rfl rfl ?_; intro b1 w1 hs)
  refine Zerun ?_
  (refine RW.call T hs rfl rfl rfl (refCount_con 3000 (k + 1) _ p _ _ hp') ?_; intro v h2 w2 hle2 hp2 hs)
  obtain ⟨r, rfl⟩ := hp2
  have hp' := PlainAt.mono (k + 1) _ _ _ _ hle2 hp'
  by_cases c1 : 2000 < r
  · refine Zerun ?_
    (refine RW.call T hs rfl rfl rfl (awake07_con _ _) ?_; intro v h3 w3 hle3 hp3 hs)
    subst hp3
    refine Zerun ?_
    exact retQ_ret [_] h3 ⟨rfl, trivial⟩ hs.dropAll rfl
  refine Zerun ?_
  (refine RW.call T hs rfl rfl rfl (valueOf_con (k + 1) _ p _ _ hp') ?_; intro v h3 w3 hle3 hp3 hs)
  obtain ⟨cs3, rfl, hl3, ho3, hz3, hn3⟩ := hp3
  have hp' := PlainAt.mono (k + 1) _ _ _ _ hle3 hp'
  refine Zerun ?_
  (refine RW.allocN T hs rfl rfl rfl rfl ?_; intro b4 w4 hs)
  refine RW.storeAll T hs 0 rfl rfl rfl rfl rfl hl3 (List.all_eq_true.2 ho3) hl3 ?_
  intro w5 hs
  refine Zerun ?_
  (refine RW.call T hs rfl rfl rfl (refCheck_con (k + 1) _ p _ _ hp') ?_; intro v h6 w6 hle6 hp6 hs)
  subst hp6
  have hp' := PlainAt.mono (k + 1) _ _ _ _ hle6 hp'
  by_cases hc : chk (k + 1) 40 p = 0
  · have ha3 := ArrAt.mono (k + 1) _ _ _ _ hle6 (hz3 hc)
    have hgood := good_arr (k + 1) 40 p hc
    have hsml := good_sml (k + 1) 40 _ hgood
    have htdy := tidy_tdy (k + 1) 40 p _ _ hp' hc
    have hdep := depth_arr (k + 1) 40 p hc
    have hsing : decide ((ArrD.vec (α := AD k) (arr (k + 1) p)).len = 1) = decide (((PlainD.items (α := PD k) p).length : Int) = 1) := by
      have e : (ArrD.vec (α := AD k) (arr (k + 1) p)).len = (PlainD.items (α := PD k) p).length := by
        obtain ⟨_, _, _, _, h5⟩ := (chkP_ok (α := PD k) _ _ _).1 hc
        exact len_arrV (arr k) _ _ _ h5
      rw [e, decide_eq_decide]; omega
    have ha' := ha3
    obtain ⟨s5, vc5, rfl, hl5, hv5⟩ := ha3
    obtain ⟨ad5, cp5, rfl, _⟩ := hl5
    obtain ⟨wv, nv, sm, il, fl, ch, bx, ⟨rfl, _⟩, _⟩ := hv5
    refine Zerun ?_
    · refine CW.regionO T hs ?_
      intro w8 hs
      refine HW.takeS (fuel := 36) 0 rfl (fun _ _ hs => Y.loadRowN T hs 0 rfl rfl rfl rfl rfl rfl rfl) hs rfl (by kernel_rfl) (by kernel_rfl) (by kernel_rfl) ?_
      refine HW.one (fuel := 35) 1 rfl (by kernel_rfl) ?_
      (refine RW.call T hs rfl rfl rfl (valueGood_con (k + 1) _ (arr (k + 1) p) _ _ ha') ?_; intro v h39 w39 hle39 hp39 hs)
      subst hp39
      rw [decB_of hgood]
      have ha' := ArrAt.mono (k + 1) _ _ _ _ hle39 ha'
      have hp' := PlainAt.mono (k + 1) _ _ _ _ hle39 hp'
      refine RW.nil ?_
      refine heldQ_normal ⟨_, hs⟩ ?_
      refine HW.takeS (fuel := 34) 2 rfl (fun _ _ hs => Y.move rfl) hs rfl (by kernel_rfl) (by kernel_rfl) (by kernel_rfl) ?_
      refine HW.takeSY (fuel := 33) 3 rfl rfl rfl (fun _ _ hs => Y.loadRowN T hs 0 rfl rfl rfl rfl rfl rfl rfl) hs rfl (by kernel_rfl) (by kernel_rfl) (by kernel_rfl) ?_
      refine HW.takeSY (fuel := 32) 5 rfl rfl rfl (fun _ _ hs => Y.loadRowN T hs 1 rfl rfl rfl rfl rfl rfl rfl) hs rfl (by kernel_rfl) (by kernel_rfl) (by kernel_rfl) ?_
      refine HW.one (fuel := 31) 4 rfl (by kernel_rfl) ?_
      refine RW.guardYes rfl rfl ?_
      (refine RW.call T hs rfl rfl rfl (plainV_con (k + 1) _ (arr (k + 1) p) _ _ ha' hsml) ?_; intro v h42 w42 hle42 hp42 hs)
      obtain ⟨cs42, rfl, hq42⟩ := hp42
      rw [plain_arr (k + 1) 40 p hc] at hq42
      have ha' := ArrAt.mono (k + 1) _ _ _ _ hle42 ha'
      have hp' := PlainAt.mono (k + 1) _ _ _ _ hle42 hp'
      refine RW.nil ?_
      refine heldQ_normal ⟨_, hs⟩ ?_
      refine HW.one (fuel := 30) 6 rfl (by kernel_rfl) ?_
      refine RW.guardYes rfl rfl ?_
      (refine RW.call T hs rfl rfl rfl (refTidyP_con (k + 1) 40 _ p _ _ hp' hc) ?_; intro v h44 w44 hle44 hp44 hs)
      obtain ⟨cs44, rfl, hq44⟩ := hp44
      have ha' := ArrAt.mono (k + 1) _ _ _ _ hle44 ha'
      have hp' := PlainAt.mono (k + 1) _ _ _ _ hle44 hp'
      have hq42 := PlainAt.mono (k + 1) _ _ _ _ hle44 hq42
      refine RW.nil ?_
      refine heldQ_normal ⟨_, hs⟩ ?_
      refine HW.one (fuel := 29) 7 rfl (by kernel_rfl) ?_
      refine RW.guardYes rfl rfl ?_
      (refine RW.call T hs rfl rfl rfl (refSame_con (k + 1) _ _ (tidy (k + 1) p) (tidy (k + 1) p) _ _ hq42 hq44 htdy htdy) ?_; intro v h45 w45 hle45 hp45 hs)
      subst hp45
      rw [eqB_of (show tidy (k + 1) p = tidy (k + 1) p from rfl)]
      have ha' := ArrAt.mono (k + 1) _ _ _ _ hle45 ha'
      have hp' := PlainAt.mono (k + 1) _ _ _ _ hle45 hp'
      refine RW.nil ?_
      refine heldQ_normal ⟨_, hs⟩ ?_
      refine HW.takeS (fuel := 28) 8 rfl (fun _ _ hs => Y.pickT rfl rfl) hs rfl (by kernel_rfl) (by kernel_rfl) (by kernel_rfl) ?_
      refine HW.takeS (fuel := 27) 9 rfl (fun _ _ hs => Y.move rfl) hs rfl (by kernel_rfl) (by kernel_rfl) (by kernel_rfl) ?_
      refine HW.takeSY (fuel := 26) 10 rfl rfl rfl (fun _ _ hs => Y.loadRowN T hs 0 rfl rfl rfl rfl rfl rfl rfl) hs rfl (by kernel_rfl) (by kernel_rfl) (by kernel_rfl) ?_
      refine HW.takeSY (fuel := 25) 12 rfl rfl rfl (fun _ _ hs => Y.loadRowN T hs 1 rfl rfl rfl rfl rfl rfl rfl) hs rfl (by kernel_rfl) (by kernel_rfl) (by kernel_rfl) ?_
      refine HW.one (fuel := 24) 11 rfl (by kernel_rfl) ?_
      refine RW.guardYes rfl rfl ?_
      (refine RW.call T hs rfl rfl rfl (valueDepth_con (k + 1) 40 _ (arr (k + 1) p) _ _ (by omega) (by omega) ha' hgood) ?_; intro v h49 w49 hle49 hp49 hs)
      subst hp49
      have ha' := ArrAt.mono (k + 1) _ _ _ _ hle49 ha'
      have hp' := PlainAt.mono (k + 1) _ _ _ _ hle49 hp'
      refine RW.nil ?_
      refine heldQ_normal ⟨_, hs⟩ ?_
      refine HW.one (fuel := 23) 13 rfl (by kernel_rfl) ?_
      refine RW.guardYes rfl rfl ?_
      (refine RW.call T hs rfl rfl rfl (refDepth_con (k + 1) 40 _ p _ _ (by omega) (by omega) hp' hc) ?_; intro v h51 w51 hle51 hp51 hs)
      subst hp51
      have ha' := ArrAt.mono (k + 1) _ _ _ _ hle51 ha'
      have hp' := PlainAt.mono (k + 1) _ _ _ _ hle51 hp'
      refine RW.nil ?_
      refine heldQ_normal ⟨_, hs⟩ ?_
      refine HW.takeSY (fuel := 22) 14 rfl rfl rfl (fun _ _ hs => Y.eqT rfl rfl hdep) hs rfl (by kernel_rfl) (by kernel_rfl) (by kernel_rfl) ?_
      refine HW.takeS (fuel := 21) 15 rfl (fun _ _ hs => Y.pickT rfl rfl) hs rfl (by kernel_rfl) (by kernel_rfl) (by kernel_rfl) ?_
      refine HW.takeS (fuel := 20) 16 rfl (fun _ _ hs => Y.move rfl) hs rfl (by kernel_rfl) (by kernel_rfl) (by kernel_rfl) ?_
      refine HW.takeSY (fuel := 19) 17 rfl rfl rfl (fun _ _ hs => Y.loadRowN T hs 0 rfl rfl rfl rfl rfl rfl rfl) hs rfl (by kernel_rfl) (by kernel_rfl) (by kernel_rfl) ?_
      refine HW.takeSY (fuel := 18) 19 rfl rfl rfl (fun _ _ hs => Y.fieldAddr T rfl rfl rfl rfl rfl) hs rfl (by kernel_rfl) (by kernel_rfl) (by kernel_rfl) ?_
      refine HW.takeSY (fuel := 17) 20 rfl rfl rfl (fun _ _ hs => Y.loadRow1 T hs 1 rfl rfl rfl rfl rfl) hs rfl (by kernel_rfl) (by kernel_rfl) (by kernel_rfl) ?_
      refine HW.takeSY (fuel := 16) 21 rfl rfl rfl (fun _ _ hs => Y.len T rfl rfl) hs rfl (by kernel_rfl) (by kernel_rfl) (by kernel_rfl) ?_
      refine HW.one (fuel := 15) 18 rfl (by kernel_rfl) ?_
      refine RW.guardYes rfl rfl ?_
      (refine RW.call T hs rfl rfl rfl (valueRank_con (R := ArrAt k) _ (arr (k + 1) p) _ _ ha') ?_; intro v h56 w56 hle56 hp56 hs)
      subst hp56
      have ha' := ArrAt.mono (k + 1) _ _ _ _ hle56 ha'
      have hp' := PlainAt.mono (k + 1) _ _ _ _ hle56 hp'
      refine RW.nil ?_
      refine heldQ_normal ⟨_, hs⟩ ?_
      refine HW.takeSY (fuel := 14) 22 rfl rfl rfl (fun _ _ hs => Y.eqT rfl rfl rfl) hs rfl (by kernel_rfl) (by kernel_rfl) (by kernel_rfl) ?_
      refine HW.takeS (fuel := 13) 23 rfl (fun _ _ hs => Y.pickT rfl rfl) hs rfl (by kernel_rfl) (by kernel_rfl) (by kernel_rfl) ?_
      refine HW.takeS (fuel := 12) 24 rfl (fun _ _ hs => Y.move rfl) hs rfl (by kernel_rfl) (by kernel_rfl) (by kernel_rfl) ?_
      refine HW.takeSY (fuel := 11) 25 rfl rfl rfl (fun _ _ hs => Y.loadRowN T hs 0 rfl rfl rfl rfl rfl rfl rfl) hs rfl (by kernel_rfl) (by kernel_rfl) (by kernel_rfl) ?_
      refine HW.takeSY (fuel := 10) 27 rfl rfl rfl (fun _ _ hs => Y.fieldAddr T rfl rfl rfl rfl rfl) hs rfl (by kernel_rfl) (by kernel_rfl) (by kernel_rfl) ?_
      refine HW.takeSY (fuel := 9) 28 rfl rfl rfl (fun _ _ hs => Y.loadRow1 T hs 1 rfl rfl rfl rfl rfl) hs rfl (by kernel_rfl) (by kernel_rfl) (by kernel_rfl) ?_
      refine HW.takeSY (fuel := 8) 29 rfl rfl rfl (fun _ _ hs => Y.len T rfl rfl) hs rfl (by kernel_rfl) (by kernel_rfl) (by kernel_rfl) ?_
      refine HW.takeSY (fuel := 7) 30 rfl rfl rfl (fun _ _ hs => Y.eql rfl rfl) hs rfl (by kernel_rfl) (by kernel_rfl) (by kernel_rfl) ?_
      refine HW.one (fuel := 6) 26 rfl (by kernel_rfl) ?_
      refine RW.guardYes rfl rfl ?_
      (refine RW.call T hs rfl rfl rfl (valueSingle_con (R := ArrAt k) _ (arr (k + 1) p) _ _ ha') ?_; intro v h64 w64 hle64 hp64 hs)
      subst hp64
      have ha' := ArrAt.mono (k + 1) _ _ _ _ hle64 ha'
      have hp' := PlainAt.mono (k + 1) _ _ _ _ hle64 hp'
      refine RW.nil ?_
      refine heldQ_normal ⟨_, hs⟩ ?_
      refine HW.takeSY (fuel := 5) 31 rfl rfl rfl (fun _ _ hs => Y.eqlBT T rfl rfl rfl hsing) hs rfl (by kernel_rfl) (by kernel_rfl) (by kernel_rfl) ?_
      refine HW.takeS (fuel := 4) 32 rfl (fun _ _ hs => Y.pickT rfl rfl) hs rfl (by kernel_rfl) (by kernel_rfl) (by kernel_rfl) ?_
      refine HW.takeS (fuel := 3) 33 rfl (fun _ _ hs => Y.move rfl) hs rfl (by kernel_rfl) (by kernel_rfl) (by kernel_rfl) ?_
      refine HW.one (fuel := 2) 34 rfl (by kernel_rfl) ?_
      refine RW.guardYes rfl rfl ?_
      (refine RW.call T hs rfl rfl rfl (awake07_con _ _) ?_; intro v h72 w72 hle72 hp72 hs)
      subst hp72
      refine RW.nil ?_
      refine heldQ_normal ⟨_, hs⟩ ?_
      refine HW.takeS (fuel := 1) 35 rfl (fun _ _ hs => Y.pickT rfl rfl) hs rfl (by kernel_rfl) (by kernel_rfl) (by kernel_rfl) ?_
      refine HW.takeS (fuel := 0) 36 rfl (fun _ _ hs => Y.assign rfl) hs rfl (by kernel_rfl) (by kernel_rfl) (by kernel_rfl) ?_
      refine HW.done (by kernel_rfl) ?_
      refine calmQ_normal ?_
      refine Zerun ?_
      exact retQ_ret [_] h72 ⟨rfl, trivial⟩ hs.dropAll rfl
  · obtain rfl := hn3 hc
    refine Zerun ?_
    (refine RW.call T hs rfl rfl rfl (vecKind_con (R := ArrAt k) _ VecD.none _ _ (vecNone _)) ?_; intro v h7 w7 hle7 hp7 hs)
    subst hp7
    refine Zerun ?_
    (refine RW.call T hs rfl rfl rfl (valueGood_con (k + 1) _ _ _ _ (zeroArr_at k _)) ?_; intro v h8 w8 hle8 hp8 hs)
    subst hp8
    rw [decB_not (zeroArr_bad k 40)]
    refine Zerun ?_
    (refine RW.call T hs rfl rfl rfl (awake07_con _ _) ?_; intro v h9 w9 hle9 hp9 hs)
    subst hp9
    refine Zerun ?_
    exact retQ_ret [_] h9 ⟨rfl, trivial⟩ hs.dropAll rfl
end Go.Proofs.Ythbfkhklihejiaa

/-
  Contracts of functions of package shape and of its reference, third part: places and indexes. No statement is proved here.
-/
namespace Go.Proofs.Ythbfkhklihejiaa
open Go Go.RowKit
set_option linter.unusedVariables false
set_option linter.unusedSimpArgs false
set_option maxHeartbeats 4000000
attribute [local irreducible] CW RW QW SW HW ConM retM heldQ calmQ elemP thenQ blockQ loopQ joinQ retQ Yields Con Sl

theorem at_con (s t : Value) (l m : List Int) (w : World) (h : GHeap) (hl : IntsAt h s l) (ht : IntsAt h t m) (hm : l.length ≤ 9223372036854775807) : Con Try.prog 27 [s, t] w h
    (fun _ v => v = .tuple #[.int .i64 (atSpec l m).1, .bool (atSpec l m).2]) := by
  have hl' := hl
  obtain ⟨ad, cp, rfl, hS⟩ := hl
  obtain ⟨ad2, cp2, rfl, hS2⟩ := ht
  refine Con.of_body Try.func27 rfl Try.ntmps27 rfl rfl ?_
  intro hs
  refine Zrun ?_
  (refine RW.call T hs rfl rfl rfl (good_con _ l _ _ hl' hm) ?_; intro v h1 w1 hle1 hp1 hs)
  subst hp1
  have hS := hS.mono hle1
  have hS2 := hS2.mono hle1
  refine Zrun ?_
  refine RW.gd rfl rfl (fun hg => ?_) (fun hg => ?_)
  · refine Zrun ?_
    exact retQ_ret [_, _] h1 ⟨rfl, rfl, trivial⟩ hs (by simp [packv, at_bad l m hg])
  have hg := Decidable.of_not_not hg
  refine Zrun ?_
  refine CW.condD rfl (fun h8 => ?_) (fun h8 => ?_)
  · refine Zrun ?_
    exact retQ_ret [_, _] h1 ⟨rfl, rfl, trivial⟩ hs (by simp [packv, at_len l m (by omega)])
  have hlen : l.length = m.length := by omega
  refine Zrun ?_
  refine CW.loop (fun k : Nat => [(0, .slice ad l.length cp), (1, .slice ad2 m.length cp2), (6, .int .i64 (off (l.take k) (m.take k))), (19, .slice ad l.length cp), (20, .int .i64 l.length), (21, .int .i64 k)]) (fun k w' => k ≤ l.length ∧ (∀ j, j < k → 0 ≤ m.getD j 0 ∧ m.getD j 0 < l.getD j 0) ∧ Sees w h h1 [] w') (fun k => l.length - k) 0 ⟨rfl, rfl, by simp [off]; rfl, rfl, rfl, rfl, trivial⟩ ⟨by omega, by omega, hs⟩ ?_
  rintro k w' ⟨hk, hno, hs⟩
  have hob := off_take_bound l m k hg hk hlen hno
  by_cases hlt : k < l.length
  · have hgd := good_getD l hg k hlt
    have hsn := off_take_succ l m k hlen hlt
    have hmb := mul_bound ⟨hob.1, by omega⟩ hgd
    refine Zrun ?_
    refine RW.gd rfl rfl (fun h2 => ?_) (fun h2 => ?_)
    · refine Zrun ?_
      exact retQ_ret [_, _] h1 ⟨rfl, rfl, trivial⟩ hs (by simp [packv, at_out l m k hlt (by omega)])
    · refine Zrun ?_
      refine CW.condD rfl (fun h3 => ?_) (fun h3 => ?_)
      · refine Zrun ?_
        exact retQ_ret [_, _] h1 ⟨rfl, rfl, trivial⟩ hs (by simp [packv, at_out l m k hlt (by omega)])
      · refine Zrun ?_
        refine RW.val (Y.mul rfl rfl ⟨by omega, by omega⟩) rfl ?_
        refine Zrun ?_
        refine loopQ_round (k + 1) ⟨rfl, rfl, by rw [hsn]; rfl, rfl, rfl, rfl, trivial⟩ ⟨by omega, ?_, hs⟩ (by omega)
        intro j hj
        by_cases e : j = k
        · subst e; omega
        · exact hno j (by omega)
  obtain rfl : k = l.length := by omega
  refine Zrun ?_
  refine retQ_ret [_, _] h1 ⟨rfl, rfl, trivial⟩ hs ?_
  rw [List.take_of_length_le (Nat.le_refl _), List.take_of_length_le (by omega)]
  simp [packv, at_in l m hg hlen hno]

theorem place_con (s t : Value) (l m : List Int) (w : World) (h : GHeap) (hl : IntsAt h s l) (ht : IntsAt h t m) (hm : l.length ≤ 9223372036854775807) : Con Try.prog 28 [s, t] w h
    (fun _ v => v = .int .i64 (if (atSpec l m).2 = true then (atSpec l m).1 else -1)) := by
  have hl' := hl
  obtain ⟨ad, cp, rfl, hS⟩ := hl
  obtain ⟨ad2, cp2, rfl, hS2⟩ := ht
  refine Con.of_body Try.func28 rfl Try.ntmps28 rfl rfl ?_
  intro hs
  refine Zrun ?_
  (refine RW.call T hs rfl rfl rfl (refGood_con _ l _ _ hl' hm) ?_; intro v h1 w1 hle1 hp1 hs)
  subst hp1
  have hS := hS.mono hle1
  have hS2 := hS2.mono hle1
  refine Zrun ?_
  refine RW.gd rfl rfl (fun hg => ?_) (fun hg => ?_)
  · refine Zrun ?_
    exact retQ_ret [_] h1 ⟨rfl, trivial⟩ hs (by simp [packv, at_bad l m hg])
  have hg := Decidable.of_not_not hg
  refine Zrun ?_
  refine CW.condD rfl (fun h8 => ?_) (fun h8 => ?_)
  · refine Zrun ?_
    exact retQ_ret [_] h1 ⟨rfl, trivial⟩ hs (by simp [packv, at_len l m (by omega)])
  have hlen : l.length = m.length := by omega
  refine Zrun ?_
  refine CW.loop (fun k : Nat => [(0, .slice ad l.length cp), (1, .slice ad2 m.length cp2), (5, .int .i64 (off (l.drop k) (m.drop k))), (6, .int .i64 (prn (l.drop k))), (7, .int .i64 ((k : Int) - 1))]) (fun k w' => k ≤ l.length ∧ (∀ j, k ≤ j → j < l.length → 0 ≤ m.getD j 0 ∧ m.getD j 0 < l.getD j 0) ∧ Sees w h h1 [] w') (fun k => k) l.length ⟨rfl, rfl, by simp [off]; rfl, by simp [prn]; rfl, rfl, trivial⟩ ⟨by omega, by omega, hs⟩ ?_
  rintro k w' ⟨hk, hno, hs⟩
  have hob := off_drop_bound l m k hg hlen hno
  rcases k with _ | k
  · refine Zrun ?_
    refine retQ_ret [_] h1 ⟨rfl, trivial⟩ hs ?_
    simp [packv, at_in l m hg hlen (fun j hj => hno j (by omega) hj)]
  · have e1 : ((k + 1 : Nat) : Int) - 1 = (k : Int) := by omega
    rw [e1]
    have hgd := good_getD l hg k (by omega)
    refine Zrun ?_
    refine CW.regionQ T hs (Zqrun ?_) (by kernel_rfl)
    refine QW.gd rfl rfl (fun h2 => ?_) (fun h2 => ?_)
    · repeat
        first | with_reducible refine QW.nil ?_ | refine Qz ?_ rfl | refine QW.guardYes rfl rfl ?_ | refine QW.guardNo rfl rfl rfl rfl ?_ | refine QW.guardUndef rfl rfl rfl ?_ | (refine QW.gdY rfl rfl ?_ ?_; omega) | (refine QW.gdN rfl rfl ?_ ?_; omega)
      intro w' hs
      refine Zrun ?_
      exact retQ_ret [_] h1 ⟨rfl, trivial⟩ hs (by simp [packv, at_out l m k (by omega) (by omega)])
    · repeat
        first | with_reducible refine QW.nil ?_ | refine Qz ?_ rfl | refine QW.guardYes rfl rfl ?_ | refine QW.guardNo rfl rfl rfl rfl ?_ | refine QW.guardUndef rfl rfl rfl ?_ | (refine QW.gdY rfl rfl ?_ ?_; omega) | (refine QW.gdN rfl rfl ?_ ?_; omega)
      intro w' hs
      refine Zrun ?_
      refine CW.condD rfl (fun h3 => ?_) (fun h3 => ?_)
      · refine Zrun ?_
        exact retQ_ret [_] h1 ⟨rfl, trivial⟩ hs (by simp [packv, at_out l m k (by omega) (by omega)])
      · have hmb := mul_bound (a := prn (l.drop (k + 1))) (b := m.getD k 0) (by omega) (by omega)
        have hmb2 := mul_bound (a := prn (l.drop (k + 1))) (b := l.getD k 0) (by omega) (by omega)
        refine Zrun ?_
        refine RW.val (Y.mul rfl rfl ⟨by omega, by omega⟩) rfl ?_
        refine Zrun ?_
        refine RW.val (Y.mul rfl rfl ⟨by omega, by omega⟩) rfl ?_
        refine Zrun ?_
        refine loopQ_round k ⟨rfl, rfl, seti (by rw [off_drop l m k hlen (by omega), Int.mul_comm, Int.add_comm]), seti (by rw [prn_drop l k (by omega), Int.mul_comm]), rfl, trivial⟩ ⟨by omega, ?_, hs⟩ (by omega)
        intro j hj hj2
        by_cases e : j = k
        · subst e; omega
        · exact hno j (by omega) hj2
end Go.Proofs.Ythbfkhklihejiaa

/-
  Contracts of functions of package shape and of its reference, fourth part: new shapes. No statement is proved here.
-/
namespace Go.Proofs.Ythbfkhklihejiaa
open Go Go.RowKit
set_option linter.unusedVariables false
set_option linter.unusedSimpArgs false
set_option maxHeartbeats 4000000
attribute [local irreducible] CW RW QW SW HW ConM retM heldQ calmQ elemP thenQ blockQ loopQ joinQ retQ Yields Con Sl

/-- a clone of a slice of int: the caller's own -/
theorem cloneInt_conM (ad : Option Addr) (cp : Nat) (l : List Int) (w0 w : World) (h0 h : GHeap) (O : List Row) (hS : Sl h 1 ad l.length cp (l.map (Value.int .i64))) (hm : l.length ≤ 17592186044416) :
    ConM Try.prog 112 [.slice ad l.length cp] w0 h0 h O w (fun h' O' v => h' = h ∧ ∃ ad' cp', v = .slice ad' l.length cp' ∧ O' = ⟨ad', l.length, cp', 3, 1, l.map (Value.int .i64)⟩ :: O) := by
  refine ConM.of_body Try.func112 rfl Try.ntmps112 rfl rfl ?_
  intro hs
  refine Zrun ?_
  refine RW.val (Y.sliceNil T rfl rfl rfl) rfl ?_
  refine Zrun ?_
  cases ad with
  | none =>
    have h4 : l = [] := List.eq_nil_of_length_eq_zero hS.nil0.1
    subst h4
    refine Zrun ?_
    exact retM_ret [_] h _ ⟨rfl, trivial⟩ (GLe.refl _) (hs.nilRow 3 1) ⟨rfl, none, 0, rfl, rfl⟩
  | some p =>
    refine Zrun ?_
    (refine RW.lit T hs (vs := []) rfl rfl rfl rfl (by simp [Value.cells]) rfl rfl rfl rfl rfl ?_; intro b1 w1 hs)
    refine Zrun ?_
    refine RW.append T hs 0 rfl rfl (m := l.length) (news := l.map (Value.int .i64)) rfl rfl rfl rfl rfl rfl (hS.src hs.agree (one_ints _ _)) (by simp) (by dsimp only; omega) (by omega) ?_
    intro ad' cp' w2 hs
    refine Zrun ?_
    exact retM_ret [_] h _ ⟨rfl, trivial⟩ (GLe.refl _) hs ⟨rfl, ad', cp', by rw [Nat.zero_add]; rfl, by simp⟩

theorem equalInt_con (s t : Value) (l m : List Int) (w : World) (h : GHeap) (hl : IntsAt h s l) (ht : IntsAt h t m) (hm : l.length ≤ 9223372036854775807) : Con Try.prog 114 [s, t] w h (fun _ v => v = .bool (decide (l = m))) := by
  obtain ⟨ad, cp, rfl, hS⟩ := hl
  obtain ⟨ad2, cp2, rfl, hS2⟩ := ht
  refine Con.of_body Try.func114 rfl Try.ntmps114 rfl rfl ?_
  intro hs
  refine Zrun ?_
  refine CW.condD rfl (fun h8 => ?_) (fun h8 => ?_)
  · refine Zrun ?_
    refine retQ_ret [_] h ⟨rfl, trivial⟩ hs ?_
    have : l ≠ m := fun e => h8 (by rw [e])
    simp [packv, this]
  have hlen : l.length = m.length := by omega
  refine Zrun ?_
  refine CW.loop (fun k : Nat => [(0, .slice ad l.length cp), (1, .slice ad2 m.length cp2), (12, .int .i64 l.length), (13, .int .i64 k)]) (fun k w' => k ≤ l.length ∧ (∀ j, j < k → l.getD j 0 = m.getD j 0) ∧ Sees w h h [] w') (fun k => l.length - k) 0 ⟨rfl, rfl, rfl, rfl, trivial⟩ ⟨by omega, by omega, hs⟩ ?_
  rintro k w' ⟨hk, hno, hs⟩
  by_cases hlt : k < l.length
  · refine Zrun ?_
    refine CW.regionQ T hs (Zqrun ?_) (by kernel_rfl)
    intro w' hs
    refine Zrun ?_
    refine CW.condD rfl (fun h2 => ?_) (fun h2 => ?_)
    · refine Zrun ?_
      refine retQ_ret [_] h ⟨rfl, trivial⟩ hs ?_
      have : l ≠ m := fun e => h2 (by rw [e])
      simp [packv, this]
    · refine Zrun ?_
      refine loopQ_round (k + 1) ⟨rfl, rfl, rfl, rfl, trivial⟩ ⟨by omega, ?_, hs⟩ (by omega)
      intro j hj
      by_cases e : j = k
      · subst e; exact Decidable.of_not_not h2
      · exact hno j (by omega)
  obtain rfl : k = l.length := by omega
  refine Zrun ?_
  refine retQ_ret [_] h ⟨rfl, trivial⟩ hs ?_
  have : l = m := by
    apply List.ext_getElem hlen
    intro j h1 h2
    have := hno j h1
    simpa [List.getD_eq_getElem?_getD, h1, h2] using this
  simp [packv, this]

theorem same_con (s t : Value) (l m : List Int) (w : World) (h : GHeap) (hl : IntsAt h s l) (ht : IntsAt h t m) (hm : l.length ≤ 9223372036854775807) : Con Try.prog 37 [s, t] w h (fun _ v => v = .bool (decide (l = m))) := by
  refine Con.of_body Try.func37 rfl Try.ntmps37 rfl rfl ?_
  intro hs
  refine Zrun ?_
  (refine RW.call T hs rfl rfl rfl (equalInt_con s t l m _ _ hl ht hm) ?_; intro v h1 w1 hle1 hp1 hs)
  subst hp1
  refine Zrun ?_
  exact retQ_ret [_] h1 ⟨rfl, trivial⟩ hs rfl

/-- the indexes of a place: made -/
theorem index_con (s : Value) (l : List Int) (a : Int) (w : World) (h : GHeap) (hl : IntsAt h s l) (hm : l.length ≤ 9223372036854775807) : Con Try.prog 29 [s, .int .i64 a] w h
    (fun h' v => ∃ u, v = .tuple #[u, .bool (indexSpec l a).2] ∧ IntsAt h' u (indexSpec l a).1) := by
  have hl' := hl
  obtain ⟨ad, cp, rfl, hS⟩ := hl
  refine Con.of_body Try.func29 rfl Try.ntmps29 rfl rfl ?_
  intro hs
  refine Zrun ?_
  (refine RW.call T hs rfl rfl rfl (product_con _ l 1048576 _ _ hl' hm) ?_; intro v h1 w1 hle1 hp1 hs)
  subst hp1
  have hS := hS.mono hle1
  have bad : ¬ (goodS l = true ∧ 0 ≤ a ∧ a < (product l 1048576).1) → indexSpec l a = ([], false) := fun hn => by unfold indexSpec; rw [if_neg hn]
  refine Zrun ?_
  refine RW.gd rfl rfl (fun hg => ?_) (fun hg => ?_)
  · have hb := bad (fun e => hg ((goodS_iff l).1 e.1))
    refine Zrun ?_
    exact retQ_ret [_, _] h1 ⟨rfl, rfl, trivial⟩ hs (by rw [hb]; exact ⟨_, rfl, IntsAt.nil _⟩)
  have hg := Decidable.of_not_not hg
  refine Zrun ?_
  refine RW.gd rfl rfl (fun h2 => ?_) (fun h2 => ?_)
  · have hb := bad (fun e => by omega)
    refine Zrun ?_
    exact retQ_ret [_, _] h1 ⟨rfl, rfl, trivial⟩ hs (by rw [hb]; exact ⟨_, rfl, IntsAt.nil _⟩)
  refine Zrun ?_
  refine CW.condD rfl (fun h3 => ?_) (fun h3 => ?_)
  · have hb := bad (fun e => by omega)
    refine Zrun ?_
    exact retQ_ret [_, _] h1 ⟨rfl, rfl, trivial⟩ hs (by rw [hb]; exact ⟨_, rfl, IntsAt.nil _⟩)
  have hin : indexSpec l a = (idxOf l a, true) := by
    unfold indexSpec; rw [if_pos ⟨(goodS_iff l).2 hg, by omega, by omega⟩]
  obtain ⟨hpos, hprod⟩ := idx_pos l a ((goodS_iff l).2 hg) ⟨by omega, by omega⟩
  have hgs := (goodS_spec l).1 ((goodS_iff l).2 hg)
  have ha1 : a < 1048576 := by omega
  have ha0 : 0 ≤ a := by omega
  clear bad h2 h3
  refine Zrun ?_
  (refine RW.make T hs rfl rfl rfl rfl rfl ?_ ?_ ?_ ?_ ?_; omega; omega; (dsimp only; omega); omega; intro b2 w2 hs)
  refine Zrun ?_
  refine CW.loop (fun k : Nat => [(0, .slice ad l.length cp), (1, .int .i64 (a / prn (l.drop k))), (8, .slice (some ⟨b2, 0, none⟩) l.length l.length), (9, .int .i64 ((k : Int) - 1))]) (fun k w' => k ≤ l.length ∧ Sees w h h1 [⟨some ⟨b2, 0, none⟩, l.length, l.length, 3, 1, (List.replicate k 0 ++ (idxOf l a).drop k).map (Value.int .i64)⟩] w') (fun k => k) l.length ⟨rfl, seti (by simp [prn]), rfl, rfl, trivial⟩ ⟨by omega, hs.cast (by
    simp only [Int.toNat_natCast]
    rw [List.drop_of_length_le (by rw [length_idxOf]; omega), List.append_nil, List.map_replicate]
    exact congrArg (fun z => [Row.mk (some ⟨b2, 0, none⟩) l.length l.length 3 1 z]) (made_one _ _))⟩ ?_
  rintro k w' ⟨hk, hs⟩
  rcases k with _ | k
  · refine Zrun ?_
    obtain ⟨h3, hle3, hs3, hS3⟩ := hs.freeze
    simp only [List.replicate_zero, List.nil_append, List.drop_zero] at hS3
    exact retQ_ret [_, _] h3 ⟨rfl, rfl, trivial⟩ hs3 (by rw [hin]; exact ⟨_, rfl, IntsAt.of_sl hS3⟩)
  · have e1 : ((k + 1 : Nat) : Int) - 1 = (k : Int) := by omega
    rw [e1]
    have hd := hpos (l.getD k 0) (by simp [List.getD_eq_getElem?_getD, show k < l.length by omega])
    have hpd := prn_pos (l.drop (k + 1)) (fun x hx => hpos x (List.mem_of_mem_drop hx))
    have hq0 : 0 ≤ a / prn (l.drop (k + 1)) := Int.ediv_nonneg ha0 (by omega)
    have hq1 : a / prn (l.drop (k + 1)) ≤ a := Int.ediv_le_self _ ha0
    refine Zrun ?_
    refine RW.val (Y.idxRN T hs 0 rfl rfl rfl rfl rfl rfl ?_) rfl ?_
    · omega
    refine RW.st1 T hs 0 rfl rfl rfl rfl rfl rfl rfl (by omega) ?_
    intro w2 hs
    refine Zrun ?_
    refine loopQ_round k ⟨rfl, seti (by rw [prn_drop l k (by omega), Int.mul_comm, Int.ediv_ediv_of_nonneg (by omega)]), rfl, rfl, trivial⟩ ⟨by omega, hs.cast ?_⟩ (by omega)
    rw [map_set_int]
    refine congrArg (fun (z : List Int) => [Row.mk (some ⟨b2, 0, none⟩) l.length l.length 3 1 (z.map (Value.int .i64))]) ?_
    rw [List.replicate_succ', List.append_assoc, List.set_append_right _ _ (by simp)]
    simp only [List.length_replicate, Nat.sub_self]
    rw [drop_pred (idxOf l a) k (by rw [length_idxOf]; omega), getD_idxOf l a k (by omega)]
    simp
end Go.Proofs.Ythbfkhklihejiaa

/-
  Contracts of functions of package value: whether arrays, and elements, are alike. No statement is proved here.
-/
namespace Go.Proofs.Ythbfkhklihejiaa
open Go Go.RowKit
set_option linter.unusedVariables false
set_option linter.unusedSimpArgs false
set_option maxHeartbeats 4000000
attribute [local irreducible] CW RW QW SW HW ConM retM heldQ calmQ elemP thenQ blockQ loopQ joinQ retQ Yields Con Sl zF magR unitF truncF fwF wholeF tidySpec elemQ rankF leastN tidyW

section
variable {α β : Type} {R : GHeap → List Value → α → Prop}
theorem itemsV_num (f : α → β) {v : VecD α} {i : Nat} (hc : v.cls = 0) (hi : i < v.nums.length) : (itemsV f v).getD i noItem = ⟨0, v.num i, 0, []⟩ := by
  unfold itemsV; rw [if_neg (by omega), if_neg (by omega), getD_map' _ _ _ _ hi]
  unfold VecD.num; rw [if_pos (by omega), Int.toNat_natCast, List.getD_eq_getElem?_getD, List.getElem?_eq_getElem hi]; rfl
theorem itemsV_chr (f : α → β) {v : VecD α} {i : Nat} (hc : v.cls = 1) (hi : i < v.chars.length) : (itemsV f v).getD i noItem = ⟨1, 0, v.chr i, []⟩ := by
  unfold itemsV; rw [if_pos hc, getD_map' _ _ _ _ hi]
  unfold VecD.chr; rw [if_pos (by omega), Int.toNat_natCast, List.getD_eq_getElem?_getD, List.getElem?_eq_getElem hi]; rfl
theorem itemsV_box (f : α → β) {v : VecD α} {i : Nat} (hc : v.cls = 2) (hi : i < v.boxes.length) : (itemsV f v).getD i noItem = ⟨2, 0, 0, [f v.boxes[i]]⟩ := by
  unfold itemsV; rw [if_neg (by omega), if_pos hc, getD_map' _ _ _ _ hi]
theorem itemsV_kind (f : α → β) {h : GHeap} {cs : List Value} {v : VecD α} (hv : VecAt R h cs v) {i : Nat} (hi : i < v.len) : ((itemsV f v).getD i noItem).kind = v.cls := by
  rcases hv.sorts with ⟨hc, hn⟩ | ⟨hc, hn⟩ | ⟨hc, hn⟩
  · rw [itemsV_num f hc (by omega), hc]
  · rw [itemsV_chr f hc (by omega), hc]
  · rw [itemsV_box f hc (by omega), hc]
theorem alike_step (hR : Mono R) (h1 : One R) (f : α → β) (q : α → Prop) (ih : ∀ cs cs' a b w h, R h cs a → R h cs' b → q a → q b → Con Try.prog 69 [.agg cs.toArray, .agg cs'.toArray] w h (fun _ u => u = .bool (eqB (f a) (f b))))
    (cs cs' : List Value) (a b : VecD α) (i j : Nat) (w : World) (h : GHeap) (ha : VecAt R h cs a) (hb : VecAt R h cs' b) (hi : i < a.len) (hj : j < b.len) (qa : ∀ x ∈ a.boxes, q x) (qb : ∀ x ∈ b.boxes, q x) :
    Con Try.prog 70 [.agg cs.toArray, .int .i64 i, .agg cs'.toArray, .int .i64 j] w h (fun _ u => u = .bool (eqB ((itemsV f a).getD i noItem) ((itemsV f b).getD j noItem))) := by
  have ha' := ha
  have hb' := hb
  obtain ⟨wv, nv, sm, il, fl, ch, bx, ⟨rfl, hoc⟩, hka⟩ := ha
  obtain ⟨wv', nv', sm', il', fl', ch', bx', ⟨rfl, hoc'⟩, hkb⟩ := hb
  clear hka hkb
  refine Con.of_body Try.func70 rfl Try.ntmps70 rfl rfl ?_
  intro hs
  refine Zrun ?_
  (refine RW.boxN hs rfl rfl ?_; intro b1 w1 hs)
  refine Zerun ?_
  (refine RW.boxN hs rfl rfl ?_; intro b2 w2 hs)
  refine Zerun ?_
  refine CW.regionQ T hs (Zeqrun ?_) (by kernel_rfl)
  refine QW.call T hs rfl rfl rfl (fun w => vecClass_con _ a w _ ha') ?_
  refine Zeqrun ?_
  refine QW.call T hs rfl rfl rfl (fun w => vecClass_con _ b w _ hb') ?_
  refine Zeqrun ?_
  intro w3 hs
  by_cases c1 : a.cls ≠ b.cls
  · refine Zerun ?_
    refine retQ_ret [_] h ⟨rfl, trivial⟩ hs.dropAll ?_
    rw [eqB_not]
    · rfl
    · intro e
      have := congrArg ItemD.kind e
      rw [itemsV_kind f ha' hi, itemsV_kind f hb' hj] at this
      exact c1 this
  refine Zerun ?_
  (refine RW.call T hs rfl rfl rfl (vecClass_con _ a _ _ ha') ?_; intro v h4 w4 hle4 hp4 hs)
  subst hp4
  have ha' := ha'.mono hR hle4
  have hb' := hb'.mono hR hle4
  refine Zerun ?_
  rcases ha'.sorts with ⟨hc, hn⟩ | ⟨hc, hn⟩ | ⟨hc, hn⟩
  · have hnb : b.len = b.nums.length := by rcases hb'.sorts with ⟨e, e2⟩ | ⟨e, _⟩ | ⟨e, _⟩ <;> omega
    rw [itemsV_num f hc (by omega), itemsV_num f (by omega) (by omega)]
    have ta : tidyF (a.num i) := by unfold VecD.num; rw [if_pos (by omega), Int.toNat_natCast]; exact ha'.tidy _ (mem_getD _ _ _ (by omega))
    have tb : tidyF (b.num j) := by unfold VecD.num; rw [if_pos (by omega), Int.toNat_natCast]; exact hb'.tidy _ (mem_getD _ _ _ (by omega))
    refine Zerun ?_
    refine CW.regionQ T hs (Zeqrun ?_) (by kernel_rfl)
    refine QW.call T hs rfl rfl rfl (fun w => vecNum_con _ a i w _ ha') ?_
    refine Zeqrun ?_
    refine QW.call T hs rfl rfl rfl (fun w => vecNum_con _ b j w _ hb') ?_
    refine QW.val (fun _ _ => Y.fEql ta.2.1 tb.2.1 rfl rfl) rfl ?_
    refine Zeqrun ?_
    intro w5 hs
    refine Zerun ?_
    refine retQ_ret [_] h4 ⟨rfl, trivial⟩ hs.dropAll ?_
    show Value.bool _ = Value.bool _
    congr 1
    by_cases e : a.num i = b.num j
    · rw [decide_eq_true (by rw [e]), eqB_of (by rw [e])]
    · rw [decide_eq_false (fun e' => e (zF_inj ta tb e')), eqB_not (fun e' => e (by injection e'))]
  · have hnb : b.len = b.chars.length := by rcases hb'.sorts with ⟨e, _⟩ | ⟨e, e2⟩ | ⟨e, _⟩ <;> omega
    rw [itemsV_chr f hc (by omega), itemsV_chr f (by omega) (by omega)]
    refine Zerun ?_
    refine CW.regionQ T hs (Zeqrun ?_) (by kernel_rfl)
    refine QW.call T hs rfl rfl rfl (fun w => vecChar_con _ a i w _ ha') ?_
    refine Zeqrun ?_
    refine QW.call T hs rfl rfl rfl (fun w => vecChar_con _ b j w _ hb') ?_
    refine Zeqrun ?_
    intro w5 hs
    refine Zerun ?_
    refine retQ_ret [_] h4 ⟨rfl, trivial⟩ hs.dropAll ?_
    show Value.bool _ = Value.bool _
    congr 1
    by_cases e : a.chr i = b.chr j
    · rw [decide_eq_true e, eqB_of (by rw [e])]
    · rw [decide_eq_false e, eqB_not (fun e' => e (by injection e'))]
  · have hnb : b.len = b.boxes.length := by rcases hb'.sorts with ⟨e, _⟩ | ⟨e, _⟩ | ⟨e, e2⟩ <;> omega
    have hia : i < a.boxes.length := by omega
    have hjb : j < b.boxes.length := by omega
    rw [itemsV_box f hc hia, itemsV_box f (by omega) hjb]
    refine Zerun ?_
    refine CW.regionO T hs ?_
    intro w5 hs
    refine HW.takeS (fuel := 7) 0 rfl (fun _ _ hs => Y.loadRowN T hs 1 rfl rfl rfl rfl rfl rfl rfl) hs rfl (by kernel_rfl) (by kernel_rfl) (by kernel_rfl) ?_
    refine HW.takeS (fuel := 6) 1 rfl (fun _ _ hs => Y.move rfl) hs rfl (by kernel_rfl) (by kernel_rfl) (by kernel_rfl) ?_
    refine HW.takeS (fuel := 5) 3 rfl (fun _ _ hs => Y.loadRowN T hs 0 rfl rfl rfl rfl rfl rfl rfl) hs rfl (by kernel_rfl) (by kernel_rfl) (by kernel_rfl) ?_
    refine HW.takeS (fuel := 4) 4 rfl (fun _ _ hs => Y.move rfl) hs rfl (by kernel_rfl) (by kernel_rfl) (by kernel_rfl) ?_
    refine HW.one (fuel := 3) 2 rfl (by kernel_rfl) ?_
    (refine RW.call T hs rfl rfl rfl (vecBox_con hR h1 _ a i a.boxes[i] _ _ ha' hia) ?_; intro v h29 w29 hle29 hp29 hs)
    obtain ⟨cs29, rfl, _, hR29⟩ := hp29
    rw [List.getD_eq_getElem?_getD, List.getElem?_eq_getElem hia] at hR29
    have hb' := hb'.mono hR hle29
    refine RW.nil ?_
    refine heldQ_normal ⟨_, hs⟩ ?_
    refine HW.one (fuel := 2) 5 rfl (by kernel_rfl) ?_
    (refine RW.call T hs rfl rfl rfl (vecBox_con hR h1 _ b j b.boxes[j] _ _ hb' hjb) ?_; intro v h32 w32 hle32 hp32 hs)
    obtain ⟨cs32, rfl, _, hR32⟩ := hp32
    rw [List.getD_eq_getElem?_getD, List.getElem?_eq_getElem hjb] at hR32
    have hR29 := hR _ _ _ _ hle32 hR29
    refine RW.nil ?_
    refine heldQ_normal ⟨_, hs⟩ ?_
    refine HW.one (fuel := 1) 6 rfl (by kernel_rfl) ?_
    (refine RW.call T hs rfl rfl rfl (ih _ _ _ _ _ _ hR29 hR32 (qa _ (List.getElem_mem hia)) (qb _ (List.getElem_mem hjb))) ?_; intro v h33 w33 hle33 hp33 hs)
    subst hp33
    refine RW.nil ?_
    refine heldQ_normal ⟨_, hs⟩ ?_
    refine HW.takeS (fuel := 0) 7 rfl (fun _ _ hs => Y.assign rfl) hs rfl (by kernel_rfl) (by kernel_rfl) (by kernel_rfl) ?_
    refine HW.done (by kernel_rfl) ?_
    refine calmQ_normal ?_
    refine Zerun ?_
    refine retQ_ret [_] h33 ⟨rfl, trivial⟩ hs.dropAll ?_
    show Value.bool (eqB (f a.boxes[i]) (f b.boxes[j])) = _
    by_cases e : f a.boxes[i] = f b.boxes[j]
    · rw [eqB_of e, eqB_of (by rw [e])]
    · rw [eqB_not e, eqB_not (fun e' => e (by injection e' with _ _ _ e4; injection e4))]
theorem same_step (hR : Mono R) (f : α → β) (q : α → Prop) (ih : ∀ cs cs' a b i j w h, VecAt R h cs a → VecAt R h cs' b → i < a.len → j < b.len → (∀ x ∈ a.boxes, q x) → (∀ x ∈ b.boxes, q x) → Con Try.prog 70 [.agg cs.toArray, .int .i64 (i : Nat), .agg cs'.toArray, .int .i64 (j : Nat)] w h (fun _ u => u = .bool (eqB ((itemsV f a).getD i noItem) ((itemsV f b).getD j noItem))))
    (cs cs' : List Value) (a b : ArrD α) (w : World) (h : GHeap) (ha : ArrR R h cs a) (hb : ArrR R h cs' b) (qa : ∀ x ∈ a.vec.boxes, q x) (qb : ∀ x ∈ b.vec.boxes, q x) (hma : a.vec.len ≤ 1048576) :
    Con Try.prog 69 [.agg cs.toArray, .agg cs'.toArray] w h (fun _ u => u = .bool (eqB (plainA f a) (plainA f b))) := by
  obtain ⟨s, vc, rfl, hl, hv⟩ := ha
  obtain ⟨s2, vc2, rfl, hm, hu⟩ := hb
  have hl' := hl
  have hm' := hm
  obtain ⟨ad, cp, rfl, hS⟩ := hl
  obtain ⟨ad2, cp2, rfl, hS2⟩ := hm
  have hl3 : a.shape.length ≤ 9223372036854775807 := by have := hS.caps; omega
  have hv' := hv
  have hu' := hu
  have hila := itemsV_len f hv
  have hilb := itemsV_len f hu
  obtain ⟨wv, nv, sm, il, fl, ch, bx, ⟨rfl, hoc⟩, hka⟩ := hv
  obtain ⟨wv', nv', sm', il', fl', ch', bx', ⟨rfl, hoc'⟩, hkb⟩ := hu
  clear hka hkb
  refine Con.of_body Try.func69 rfl Try.ntmps69 rfl rfl ?_
  intro hs
  refine Zrun ?_
  (refine RW.boxN hs rfl rfl ?_; intro b1 w1 hs)
  (refine RW.boxN hs rfl rfl ?_; intro b2 w2 hs)
  refine Zerun ?_
  refine CW.meet (fun u : Bool => [(2, .pointer (some ⟨b1, 0, none⟩)), (3, .pointer (some ⟨b2, 0, none⟩)), (29, .bool u)]) (fun u w' => (u = true → ¬ (a.shape = b.shape ∧ a.vec.cls = b.vec.cls ∧ a.vec.len = b.vec.len)) ∧ (u = false → a.shape = b.shape ∧ a.vec.cls = b.vec.cls ∧ a.vec.len = b.vec.len) ∧ Sees w h h [⟨some ⟨b2, 0, none⟩, 1, 1, 63, 9, .slice ad2 b.shape.length cp2 :: vecCells b.vec.kind wv' nv' sm' il' fl' ch' bx'⟩, ⟨some ⟨b1, 0, none⟩, 1, 1, 63, 9, .slice ad a.shape.length cp :: vecCells a.vec.kind wv nv sm il fl ch bx⟩] w') ?_ ?_
  · refine CW.regionQ T hs (Zeqrun ?_) (by kernel_rfl)
    refine QW.call T hs rfl rfl rfl (fun w => same_con _ _ _ _ w _ hl' hm' hl3) ?_
    by_cases c1 : a.shape = b.shape
    · rw [decide_eq_true c1]
      refine Zeqrun ?_
      refine QW.call T hs rfl rfl rfl (fun w => vecClass_con _ a.vec w _ hv') ?_
      refine Zeqrun ?_
      refine QW.call T hs rfl rfl rfl (fun w => vecClass_con _ b.vec w _ hu') ?_
      by_cases c2 : a.vec.cls = b.vec.cls
      · refine Zeqrun ?_
        refine QW.call T hs rfl rfl rfl (fun w => vecLen_con _ a.vec w _ hv') ?_
        refine Zeqrun ?_
        refine QW.call T hs rfl rfl rfl (fun w => vecLen_con _ b.vec w _ hu') ?_
        refine Zeqrun ?_
        intro w3 hs
        refine joinQ_meet (decide ((a.vec.len : Int) ≠ b.vec.len)) ⟨rfl, rfl, rfl, trivial⟩ ⟨fun e g => ?_, fun e => ⟨c1, c2, ?_⟩, hs⟩
        · have := of_decide_eq_true e
          exact this (by rw [g.2.2])
        · have := of_decide_eq_false e
          omega
      · refine Zeqrun ?_
        intro w3 hs
        exact joinQ_meet true ⟨rfl, rfl, rfl, trivial⟩ ⟨fun _ g => c2 g.2.1, fun e => (by cases e), hs⟩
    · rw [decide_eq_false c1]
      refine Zeqrun ?_
      intro w3 hs
      exact joinQ_meet true ⟨rfl, rfl, rfl, trivial⟩ ⟨fun _ g => c1 g.1, fun e => (by cases e), hs⟩
  rintro u w3 ⟨hu1, hu0, hs⟩
  have hlens : ∀ v : ArrD α, (plainA f v).items = itemsV f v.vec := fun _ => rfl
  cases u with
  | true =>
    refine Zerun ?_
    refine retQ_ret [_] h ⟨rfl, trivial⟩ hs.dropAll ?_
    rw [eqB_not]
    · rfl
    · intro e
      refine hu1 rfl ⟨congrArg PlainD.shape e, congrArg PlainD.fill e, ?_⟩
      have := congrArg (fun p : PlainD β => p.items.length) e
      simp only [hlens, hila, hilb] at this
      exact this
  | false =>
    obtain ⟨e1, e2, e3⟩ := hu0 rfl
    refine Zerun ?_
    (refine RW.call T hs rfl rfl rfl (vecLen_con _ a.vec _ _ hv') ?_; intro v h4 w4 hle4 hp4 hs)
    subst hp4
    refine Zerun ?_
    refine CW.loop (fun u : Nat × GHeap => [(2, .pointer (some ⟨b1, 0, none⟩)), (3, .pointer (some ⟨b2, 0, none⟩)), (32, .int .i64 a.vec.len), (33, .int .i64 u.1)]) (fun u w' => u.1 ≤ a.vec.len ∧ GLe h u.2 ∧ (itemsV f a.vec).take u.1 = (itemsV f b.vec).take u.1 ∧ Sees w h u.2 [⟨some ⟨b2, 0, none⟩, 1, 1, 63, 9, .slice ad2 b.shape.length cp2 :: vecCells b.vec.kind wv' nv' sm' il' fl' ch' bx'⟩, ⟨some ⟨b1, 0, none⟩, 1, 1, 63, 9, .slice ad a.shape.length cp :: vecCells a.vec.kind wv nv sm il fl ch bx⟩] w') (fun u => a.vec.len - u.1) (0, h4) ⟨rfl, rfl, rfl, rfl, trivial⟩ ⟨by omega, hle4, rfl, hs⟩ ?_
    rintro ⟨i, hh⟩ w5 ⟨hi, hg, htk, hs⟩
    dsimp only at hi hg htk hs ⊢
    by_cases hlt : i < a.vec.len
    · have hv' := hv'.mono hR hg
      have hu' := hu'.mono hR hg
      refine Zerun ?_
      (refine RW.call T hs rfl rfl rfl (ih _ _ a.vec b.vec i i _ _ hv' hu' hlt (by omega) qa qb) ?_; intro v h6 w6 hle6 hp6 hs)
      subst hp6
      have ga : (itemsV f a.vec).getD i noItem = (itemsV f a.vec)[i]'(by omega) := by rw [List.getD_eq_getElem?_getD, List.getElem?_eq_getElem (by omega)]; rfl
      have gb : (itemsV f b.vec).getD i noItem = (itemsV f b.vec)[i]'(by omega) := by rw [List.getD_eq_getElem?_getD, List.getElem?_eq_getElem (by omega)]; rfl
      rw [ga, gb]
      by_cases e : (itemsV f a.vec)[i]'(by omega) = (itemsV f b.vec)[i]'(by omega)
      · rw [eqB_of e]
        refine Zerun ?_
        exact loopQ_round (i + 1, h6) ⟨rfl, rfl, rfl, rfl, trivial⟩ ⟨by dsimp only; omega, hg.trans hle6, take_eq_succ htk (by omega) (by omega) e, hs⟩ (by dsimp only; omega)
      · rw [eqB_not e]
        refine Zerun ?_
        refine retQ_ret [_] h6 ⟨rfl, trivial⟩ hs.dropAll ?_
        rw [eqB_not]
        · rfl
        · intro e'
          exact ne_of_get (by omega) (by omega) e (congrArg PlainD.items e')
    · obtain rfl : i = a.vec.len := by omega
      refine Zerun ?_
      refine retQ_ret [_] hh ⟨rfl, trivial⟩ hs.dropAll ?_
      rw [eqB_of]
      · rfl
      · have e4 : itemsV f a.vec = itemsV f b.vec := by
          rw [List.take_of_length_le (by omega), List.take_of_length_le (by omega)] at htk
          exact htk
        unfold plainA
        rw [e1, e2, e4]
end
theorem sameV_con : ∀ (k : Nat) (cs cs' : List Value) (a b : AD k) (w : World) (h : GHeap), ArrAt k h cs a → ArrAt k h cs' b → sml k a → sml k b → Con Try.prog 69 [.agg cs.toArray, .agg cs'.toArray] w h (fun _ u => u = .bool (eqB (plain k a) (plain k b)))
  | 0, _, _, _, _, _, _, ha, _, _, _ => ha.elim
  | k + 1, cs, cs', a, b, w, h, ha, hb, sa, sb => same_step (ArrAt.mono k) (plain k) (sml k) (fun cs cs' a b i j w h ha hb hi hj qa qb => alike_step (ArrAt.mono k) (ArrAt.one k) (plain k) (sml k) (sameV_con k) cs cs' a b i j w h ha hb hi hj qa qb) cs cs' a b w h ha hb sa.2.2 sb.2.2 sa.2.1
theorem alikeV_con (k : Nat) (cs cs' : List Value) (a b : VecD (AD k)) (i j : Nat) (w : World) (h : GHeap) (ha : VecAt (ArrAt k) h cs a) (hb : VecAt (ArrAt k) h cs' b) (hi : i < a.len) (hj : j < b.len) (qa : ∀ x ∈ a.boxes, sml k x) (qb : ∀ x ∈ b.boxes, sml k x) : Con Try.prog 70 [.agg cs.toArray, .int .i64 i, .agg cs'.toArray, .int .i64 j] w h (fun _ u => u = .bool (eqB ((itemsV (plain k) a).getD i noItem) ((itemsV (plain k) b).getD j noItem))) :=
  alike_step (ArrAt.mono k) (ArrAt.one k) (plain k) (sml k) (sameV_con k) cs cs' a b i j w h ha hb hi hj qa qb
end Go.Proofs.Ythbfkhklihejiaa

/-
  The program logic, eighteenth part: regions that draw their order and change memory, two of the call's own rows fixed. No statement is proved here.
-/
namespace Go.Proofs.Ythbfkhklihejiaa
open Go Go.RowKit
set_option linter.unusedVariables false
set_option linter.unusedSimpArgs false
set_option linter.unusedVariables false
section
variable {P : Program} {n : Nat} {Q : Post} {L : Env} {w0 w : World} {h0 h : GHeap} {O : List Row} {ops rest : List Oper} {x y : Operand} {t : TypeId} {ra rb : Row}
variable {d : Option Tmp} {ty yt : TypeId} {pos : String} {aft : Array Edge} {fuel : Nat} {listed : Array Bool}
def SR (w0 : World) (h0 : GHeap) (ra rb : Row) (w : World) : Prop := ∃ (h' : GHeap) (O : List Row) (k j : Nat), Sees w0 h0 h' O w ∧ O[k]? = some ra ∧ O[j]? = some rb
theorem CW.regionR (T' : Tab P) (k j : Nat) (hs : Sees w0 h0 h O w) (ha : O[k]? = some ra) (hb : O[j]? = some rb) {id : Nat} {l : List Oper} (K : ∀ w', Sees w0 h0 h O w' → HW P n l (calmQ Q) (SR w0 h0 ra rb) l.length (Array.replicate l.length false) L w') : CW P n Q (.region id l.toArray true) L w :=
  CW.regionH T' (SR w0 h0 ra rb) (fun w' e => by subst e; exact K _ hs.drew)
theorem HW.takeR (i : Nat) {op : Op} {v : Value} (hi : ops.toArray[i]? = some ⟨d, op, ty, pos, aft, none⟩) (hy : ∀ (h' : GHeap) (O : List Row) (ka kb : Nat) (w' : World), Sees w0 h0 h' O w' → O[ka]? = some ra → O[kb]? = some rb → Yields P n L w' op ty v) (hS : SR w0 h0 ra rb w) (hd : dstOk n d = true)
    (hs : Region.noSelect ops.toArray = true) (hf : Region.free .any ops.toArray listed i = true) (hr : (Region.ready .any ops.toArray listed).contains i = true)
    (hh : HW P n ops (calmQ Q) (SR w0 h0 ra rb) fuel (listed.setIfInBounds i true) (updo d v L) w) : HW P n ops (calmQ Q) (SR w0 h0 ra rb) (fuel + 1) listed L w :=
  HW.take i hi (fun w' ⟨h', O, k, j, s, a, b⟩ => hy h' O k j w' s a b) hS hd hs hf hr hh
theorem HW.takeRY (i : Nat) {op : Op} {v : Value} {j : Nat} {want : Bool} {t : Tmp} (hi : ops.toArray[i]? = some ⟨d, op, ty, pos, aft, some (j, want)⟩) (hj : gdst ops j = some t) (ht : get L t = some (.bool want)) (hy : ∀ (h' : GHeap) (O : List Row) (ka kb : Nat) (w' : World), Sees w0 h0 h' O w' → O[ka]? = some ra → O[kb]? = some rb → Yields P n L w' op ty v) (hS : SR w0 h0 ra rb w) (hd : dstOk n d = true)
    (hs : Region.noSelect ops.toArray = true) (hf : Region.free .any ops.toArray listed i = true) (hr : (Region.ready .any ops.toArray listed).contains i = true)
    (hh : HW P n ops (calmQ Q) (SR w0 h0 ra rb) fuel (listed.setIfInBounds i true) (updo d v L) w) : HW P n ops (calmQ Q) (SR w0 h0 ra rb) (fuel + 1) listed L w :=
  HW.takeYes i hi hj ht (fun w' ⟨h', O, k, j, s, a, b⟩ => hy h' O k j w' s a b) hS hd hs hf hr hh
theorem HW.takeRN (i : Nat) {op : Op} {j : Nat} {want b : Bool} {t : Tmp} (hi : ops.toArray[i]? = some ⟨d, op, ty, pos, aft, some (j, want)⟩) (hj : gdst ops j = some t) (ht : get L t = some (.bool b)) (hb : (b == want) = false) (hS : SR w0 h0 ra rb w) (hd : dstOk n d = true)
    (hs : Region.noSelect ops.toArray = true) (hf : Region.free .any ops.toArray listed i = true) (hr : (Region.ready .any ops.toArray listed).contains i = true)
    (hh : HW P n ops (calmQ Q) (SR w0 h0 ra rb) fuel (listed.setIfInBounds i true) (updo d undef L) w) : HW P n ops (calmQ Q) (SR w0 h0 ra rb) (fuel + 1) listed L w :=
  HW.takeNo i hi hj ht hb hS hd hs hf hr hh
end
end Go.Proofs.Ythbfkhklihejiaa

/-
  The program logic, nineteenth part: frozen rows of whole structs, products of words, functions that the model stands in for. No statement is proved here.
-/
namespace Go.Proofs.Ythbfkhklihejiaa
open Go Go.RowKit
set_option linter.unusedVariables false
set_option linter.unusedSimpArgs false
set_option linter.unusedVariables false
section
variable {P : Program} (T : Tab P) {n : Nat} {Q : Post} {L : Env} {w0 w : World} {h0 h : GHeap} {O : List Row} {ops rest : List Oper} {x y : Operand} {t : TypeId}
variable {d : Option Tmp} {ty yt : TypeId} {pos : String} {aft : Array Edge}
/-- a cell of a frozen row -/
theorem Sl.cellAt (hs : Sees w0 h0 h O w) {b sz m cp o : Nat} {xs : List Value} {v : Value} (hS : Sl h sz (some ⟨b, 0, none⟩) m cp xs) (ho : o < m * sz) (hv : xs[o]? = some v) : w.cell? ⟨b, o, none⟩ = some v := by
  obtain ⟨cs, h1, h2⟩ := (hS.2.2.2.2 _ rfl).2 o ho
  refine hs.cell h1 ?_
  rw [Nat.zero_add] at h2
  rw [h2, hv]
theorem Y.ldF1 (hs : Sees w0 h0 h O w) {dd : Ty} {b sz m cp o : Nat} {xs : List Value} {v : Value} (hS : Sl h sz (some ⟨b, 0, none⟩) m cp xs) (hx : opv L x = some (.pointer (some ⟨b, o, none⟩))) (hT : T.ty t = some dd) (hd : dd.agg = false) (ho : Nat.blt o (m * sz) = true) (hv : xs[o]? = some v) : Yields P n L w (.load t x) ty v :=
  Y.load1 T hT hd hx (Sl.cellAt hs hS (Nat.le_of_ble_eq_true ho) hv)
theorem Y.ldFN (hs : Sees w0 h0 h O w) {dd : Ty} {i : Inf} {b sz m cp o : Nat} {xs cs : List Value} (hS : Sl h sz (some ⟨b, 0, none⟩) m cp xs) (hx : opv L x = some (.pointer (some ⟨b, o, none⟩))) (hT : T.ty t = some dd) (hd : dd.agg = true) (hI : T.inf t = some i) (ho : Nat.ble (o + i.size) (m * sz) = true) (hc : (xs.drop o).take i.size = cs) (hl : cs.length = i.size) : Yields P n L w (.load t x) ty (.agg cs.toArray) := by
  have ho := Nat.le_of_ble_eq_true ho
  refine Y.loadN T hT hd hI hl hx ?_
  intro j r hj
  have hjl := (List.getElem?_eq_some_iff.1 hj).1
  refine Sl.cellAt hs hS (by omega) ?_
  rw [← hc, List.getElem?_take, if_pos (by omega), List.getElem?_drop] at hj
  exact hj
/-- a whole number, as a word -/
def wrN (z : Int) : Nat := (z % 18446744073709551616).toNat
theorem wrN_lt (z : Int) : wrN z < 18446744073709551616 := by unfold wrN; omega
theorem wrap_wrN (z : Int) : IntKind.u64.wrap z = (wrN z : Int) := by
  unfold wrN
  have e : IntKind.u64.wrap z = z % 18446744073709551616 := by
    simp [IntKind.wrap, IntKind.signed, IntKind.bits]
  rw [e]; omega
def wr32 (z : Int) : Nat := (z % 4294967296).toNat
theorem wr32_lt (z : Int) : wr32 z < 4294967296 := by unfold wr32; omega
theorem wrap_wr32 (z : Int) : IntKind.u32.wrap z = (wr32 z : Int) := by
  unfold wr32
  have e : IntKind.u32.wrap z = z % 4294967296 := by
    simp [IntKind.wrap, IntKind.signed, IntKind.bits]
  rw [e]; omega
theorem Y.mulU {u v : Nat} (hx : opv L x = some (.int .u64 (u : Int))) (hy : opv L y = some (.int .u64 (v : Int))) : Yields P n L w (.binOp .mul t x y yt) ty (.int .u64 ((u * v % 18446744073709551616 : Nat) : Int)) := by
  have := Y.mul' (P := P) (n := n) (w := w) (ty := ty) (t := t) (yt := yt) hx hy
  have e : IntKind.u64.wrap ((u : Int) * (v : Int)) = ((u * v % 18446744073709551616 : Nat) : Int) := by
    rw [wrap_wrN]; unfold wrN
    rw [← Int.natCast_mul]
    omega
  rwa [e] at this
theorem Y.addU {u v : Nat} (hx : opv L x = some (.int .u64 (u : Int))) (hy : opv L y = some (.int .u64 (v : Int))) (hb : u + v < 18446744073709551616) : Yields P n L w (.binOp .add t x y yt) ty (.int .u64 ((u + v : Nat) : Int)) := by
  have := Y.add' (P := P) (n := n) (w := w) (ty := ty) (t := t) (yt := yt) hx hy
  have e : IntKind.u64.wrap ((u : Int) + (v : Int)) = ((u + v : Nat) : Int) := by
    rw [wrap_wrN]; unfold wrN; omega
  rwa [e] at this
/-- a call of a function that the model stands in for -/
theorem Y.stood {f : FuncId} {fn : Func} {e : Array Value → Sem Value} (hf : P.funcs[f]? = some fn) (hname : (fn.name == "runtime.NumGoroutine") = false) (hb : fn.body.isNone = true) (hn : Extern.findNext fn = none) (he : Extern.find fn = some e)
    {u v : Value} (hx : opv L x = some u) (hr : (e #[u]).run P w = .ok v w) {ats : Array TypeId} : Yields P n L w (.call ⟨.value (.func f), #[x], ats⟩) ty v := by
  intro a ha d pos aft g
  have h1 := run_callFunc_extern hf hname hb hn he #[u] w
  rw [hr] at h1
  have h2 : #[x].map a.eval = #[u] := by simp [ha.eval hx]
  have hcl : a.eval (.func f) = .func (.func f) #[] #[] := rfl
  simp [execOp, resolve, Deferred.ofValue, hcl, invoke, ha.eval hx, h1]
end
/-! ## Regions that draw their order and change memory: two of the call's own rows fixed, and what lies frozen -/
section
variable {P : Program} {n : Nat} {Q : Post} {L : Env} {w0 w : World} {h0 h hb : GHeap} {O : List Row} {ops rest : List Oper} {ra rb : Row}
variable {d : Option Tmp} {ty : TypeId} {pos : String} {aft : Array Edge} {fuel : Nat} {listed : Array Bool}
def SG (w0 : World) (h0 hb : GHeap) (ra rb : Row) (w : World) : Prop := ∃ (h' : GHeap) (O : List Row) (k j : Nat), GLe hb h' ∧ Sees w0 h0 h' O w ∧ O[k]? = some ra ∧ O[j]? = some rb
theorem CW.regionG (T' : Tab P) (k j : Nat) (hs : Sees w0 h0 h O w) (ha : O[k]? = some ra) (hb' : O[j]? = some rb) {id : Nat} {l : List Oper} (K : ∀ w', Sees w0 h0 h O w' → HW P n l (calmQ Q) (SG w0 h0 h ra rb) l.length (Array.replicate l.length false) L w') : CW P n Q (.region id l.toArray true) L w :=
  CW.regionH T' (SG w0 h0 h ra rb) (fun w' e => by subst e; exact K _ hs.drew)
theorem HW.takeG (i : Nat) {op : Op} {v : Value} (hi : ops.toArray[i]? = some ⟨d, op, ty, pos, aft, none⟩) (hy : ∀ (h' : GHeap) (O : List Row) (ka kb : Nat) (w' : World), GLe hb h' → Sees w0 h0 h' O w' → O[ka]? = some ra → O[kb]? = some rb → Yields P n L w' op ty v) (hS : SG w0 h0 hb ra rb w) (hd : dstOk n d = true)
    (hs : Region.noSelect ops.toArray = true) (hf : Region.free .any ops.toArray listed i = true) (hr : (Region.ready .any ops.toArray listed).contains i = true)
    (hh : HW P n ops (calmQ Q) (SG w0 h0 hb ra rb) fuel (listed.setIfInBounds i true) (updo d v L) w) : HW P n ops (calmQ Q) (SG w0 h0 hb ra rb) (fuel + 1) listed L w :=
  HW.take i hi (fun w' ⟨h', O, k, j, g, s, a, b⟩ => hy h' O k j w' g s a b) hS hd hs hf hr hh
theorem HW.takeGY (i : Nat) {op : Op} {v : Value} {j : Nat} {want : Bool} {t : Tmp} (hi : ops.toArray[i]? = some ⟨d, op, ty, pos, aft, some (j, want)⟩) (hj : gdst ops j = some t) (ht : get L t = some (.bool want)) (hy : ∀ (h' : GHeap) (O : List Row) (ka kb : Nat) (w' : World), GLe hb h' → Sees w0 h0 h' O w' → O[ka]? = some ra → O[kb]? = some rb → Yields P n L w' op ty v) (hS : SG w0 h0 hb ra rb w) (hd : dstOk n d = true)
    (hs : Region.noSelect ops.toArray = true) (hf : Region.free .any ops.toArray listed i = true) (hr : (Region.ready .any ops.toArray listed).contains i = true)
    (hh : HW P n ops (calmQ Q) (SG w0 h0 hb ra rb) fuel (listed.setIfInBounds i true) (updo d v L) w) : HW P n ops (calmQ Q) (SG w0 h0 hb ra rb) (fuel + 1) listed L w :=
  HW.takeYes i hi hj ht (fun w' ⟨h', O, k, j, g, s, a, b⟩ => hy h' O k j w' g s a b) hS hd hs hf hr hh
theorem HW.takeGN (i : Nat) {op : Op} {j : Nat} {want b : Bool} {t : Tmp} (hi : ops.toArray[i]? = some ⟨d, op, ty, pos, aft, some (j, want)⟩) (hj : gdst ops j = some t) (ht : get L t = some (.bool b)) (hb' : (b == want) = false) (hS : SG w0 h0 hb ra rb w) (hd : dstOk n d = true)
    (hs : Region.noSelect ops.toArray = true) (hf : Region.free .any ops.toArray listed i = true) (hr : (Region.ready .any ops.toArray listed).contains i = true)
    (hh : HW P n ops (calmQ Q) (SG w0 h0 hb ra rb) fuel (listed.setIfInBounds i true) (updo d undef L) w) : HW P n ops (calmQ Q) (SG w0 h0 hb ra rb) (fuel + 1) listed L w :=
  HW.takeNo i hi hj ht hb' hS hd hs hf hr hh
end
end Go.Proofs.Ythbfkhklihejiaa

/-
  Contracts of functions of package hash: the keys of elements and of whole arrays. No statement is proved here.
-/
namespace Go.Proofs.Ythbfkhklihejiaa
open Go Go.RowKit
set_option linter.unusedVariables false
set_option linter.unusedSimpArgs false
set_option maxHeartbeats 4000000
attribute [local irreducible] CW RW QW SW HW ConM retM heldQ calmQ elemP thenQ blockQ loopQ joinQ retQ Yields Con Sl zF magR unitF truncF fwF wholeF tidySpec elemQ rankF leastN tidyW
set_option maxHeartbeats 1000000

def mixN (a b : Nat) : Nat := ((a ^^^ b) * 11400714819323198485 % 18446744073709551616) ^^^ (((a ^^^ b) * 11400714819323198485 % 18446744073709551616) >>> 29)
theorem xor_lt64 {a b : Nat} (ha : a < 18446744073709551616) (hb : b < 18446744073709551616) : a ^^^ b < 18446744073709551616 := Nat.xor_lt_two_pow (n := 64) ha hb
theorem mixN_lt (a b : Nat) : mixN a b < 18446744073709551616 := by
  unfold mixN
  refine xor_lt64 (Nat.mod_lt _ (by decide)) ?_
  exact Nat.lt_of_le_of_lt (Nat.shiftRight_le _ _) (Nat.mod_lt _ (by decide))
theorem mix_con (a b : Nat) (w : World) (h : GHeap) (ha : a < 18446744073709551616) (hb : b < 18446744073709551616) : Con Try.prog 147 [.int .u64 a, .int .u64 b] w h (fun _ u => u = .int .u64 (mixN a b)) := by
  refine Con.of_body Try.func147 rfl Try.ntmps147 rfl rfl ?_
  intro hs
  refine Zrun ?_
  refine RW.val (Y.xorU rfl rfl ha hb) rfl ?_
  refine Zrun ?_
  refine RW.val (Y.mulU (v := 11400714819323198485) rfl rfl) rfl ?_
  refine Zrun ?_
  refine RW.val (Y.shrU (v := 29) rfl rfl (by omega)) rfl ?_
  refine RW.val (Y.xorU rfl rfl (Nat.mod_lt _ (by decide)) (Nat.lt_of_le_of_lt (Nat.shiftRight_le _ _) (Nat.mod_lt _ (by decide)))) rfl ?_
  refine Zrun ?_
  exact retQ_ret [_] h ⟨rfl, trivial⟩ hs rfl
theorem Y.f64bits {n : Nat} {L : Env} {w : World} {ty : TypeId} {x : Operand} {u : Nat} {ats : Array TypeId} (hx : opv L x = some (.float .f64 u)) : Yields Try.prog n L w (.call ⟨.value (.func 149), #[x], ats⟩) ty (.int .u64 (u : Int)) :=
  Y.stood (e := Extern.MathFloatBits.float64bits) Try.func149 (by kernel_rfl) (by kernel_rfl) (by kernel_rfl) (by kernel_rfl) hx rfl

/-- the key of an item, of a plain array -/
def keyIt {β : Type} (G : β → Nat) (x : ItemD β) : Nat := if x.kind = 1 then mixN 1 (wr32 x.char) else if x.kind = 2 then (x.box.map G).headD 0 else mixN 2 x.num
def keyPl {β : Type} (G : β → Nat) (p : PlainD β) : Nat := p.items.foldl (fun k x => mixN k (keyIt G x)) (p.shape.foldl (fun k d => mixN k (wrN d)) (mixN 3 (wrN p.fill)))
def keyP : (k : Nat) → PD k → Nat
  | 0 => fun _ => 0
  | k + 1 => fun p => keyPl (β := PD k) (keyP k) p
theorem fold_lt {δ : Type} (f : δ → Nat) : ∀ (l : List δ) (a : Nat), a < 18446744073709551616 → l.foldl (fun k x => mixN k (f x)) a < 18446744073709551616
  | [], _, h => h
  | x :: l, a, _ => fold_lt f l _ (mixN_lt _ _)
theorem keyPl_lt {β : Type} (G : β → Nat) (p : PlainD β) : keyPl G p < 18446744073709551616 := fold_lt _ _ _ (fold_lt _ _ _ (mixN_lt _ _))
theorem keyP_lt : ∀ (k : Nat) (p : PD k), keyP k p < 18446744073709551616
  | 0, _ => by show 0 < _; omega
  | k + 1, p => keyPl_lt (β := PD k) _ p
theorem keyIt_lt {β : Type} (G : β → Nat) (hG : ∀ b, G b < 18446744073709551616) (x : ItemD β) : keyIt G x < 18446744073709551616 := by
  unfold keyIt
  split
  · exact mixN_lt _ _
  · split
    · cases x.box with
      | nil => show 0 < _; omega
      | cons b r => exact hG b
    · exact mixN_lt _ _
theorem keyIt_num {β : Type} (G : β → Nat) (n : Nat) : keyIt G ⟨0, n, 0, []⟩ = mixN 2 n := by
  unfold keyIt
  rw [if_neg (show ¬ (0 : Int) = 1 by omega), if_neg (show ¬ (0 : Int) = 2 by omega)]
theorem keyIt_chr {β : Type} (G : β → Nat) (c : Int) : keyIt G ⟨1, 0, c, []⟩ = mixN 1 (wr32 c) := by
  unfold keyIt
  rw [if_pos (show (1 : Int) = 1 by omega)]
theorem keyIt_box {β : Type} (G : β → Nat) (b : β) : keyIt G ⟨2, 0, 0, [b]⟩ = G b := by
  unfold keyIt
  rw [if_neg (show ¬ (2 : Int) = 1 by omega), if_pos (show (2 : Int) = 2 by omega)]
  rfl
attribute [local irreducible] mixN wrN wr32 keyIt

section
variable {α β : Type} {R : GHeap → List Value → α → Prop}
theorem key_step (hR : Mono R) (h1 : One R) (f : α → β) (G : β → Nat) (q : α → Prop) (ih : ∀ cs a w h, R h cs a → q a → Con Try.prog 148 [.agg cs.toArray] w h (fun _ u => u = .int .u64 (G (f a) : Nat)))
    (cs : List Value) (v : VecD α) (i : Nat) (w : World) (h : GHeap) (hv : VecAt R h cs v) (hi : i < v.len) (qb : ∀ x ∈ v.boxes, q x) :
    Con Try.prog 77 [.agg cs.toArray, .int .i64 i] w h (fun _ u => u = .int .u64 (keyIt G ((itemsV f v).getD i noItem) : Nat)) := by
  have hv' := hv
  obtain ⟨wv, nv, sm, il, fl, ch, bx, ⟨rfl, hoc⟩, hk⟩ := hv
  clear hk
  refine Con.of_body Try.func77 rfl Try.ntmps77 rfl rfl ?_
  intro hs
  refine Zrun ?_
  (refine RW.boxN hs rfl rfl ?_; intro b1 w1 hs)
  refine Zerun ?_
  (refine RW.call T hs rfl rfl rfl (vecClass_con _ v _ _ hv') ?_; intro v h2 w2 hle2 hp2 hs)
  subst hp2
  have hv' := hv'.mono hR hle2
  refine Zerun ?_
  rcases hv'.sorts with ⟨hc, hn⟩ | ⟨hc, hn⟩ | ⟨hc, hn⟩
  · rw [itemsV_num f hc (by omega), keyIt_num]
    have tv : v.num i < 18446744073709551616 := by
      unfold VecD.num; rw [if_pos (by omega), Int.toNat_natCast]; exact (hv'.tidy _ (mem_getD _ _ _ (by omega))).1
    refine Zerun ?_
    (refine RW.call T hs rfl rfl rfl (vecNum_con _ v i _ _ hv') ?_; intro v h3 w3 hle3 hp3 hs)
    subst hp3
    refine RW.val (Y.f64bits rfl) rfl ?_
    (refine RW.call T hs rfl rfl rfl (mix_con 2 _ _ _ (by omega) tv) ?_; intro v h4 w4 hle4 hp4 hs)
    subst hp4
    refine Zerun ?_
    exact retQ_ret [_] h4 ⟨rfl, trivial⟩ hs.dropAll rfl
  · rw [itemsV_chr f hc (by omega), keyIt_chr]
    refine Zerun ?_
    (refine RW.call T hs rfl rfl rfl (vecChar_con _ v i _ _ hv') ?_; intro v h3 w3 hle3 hp3 hs)
    subst hp3
    refine RW.val (Y.convII T rfl rfl rfl) rfl ?_
    refine RW.val (Y.convII T rfl rfl rfl) rfl ?_
    rw [wrap_wr32, wrapU _ (Nat.lt_trans (wr32_lt _) (by decide))]
    (refine RW.call T hs rfl rfl rfl (mix_con 1 _ _ _ (by omega) (Nat.lt_trans (wr32_lt _) (by decide))) ?_; intro v h4 w4 hle4 hp4 hs)
    subst hp4
    refine Zerun ?_
    exact retQ_ret [_] h4 ⟨rfl, trivial⟩ hs.dropAll rfl
  · have hia : i < v.boxes.length := by omega
    rw [itemsV_box f hc hia, keyIt_box]
    refine Zerun ?_
    (refine RW.call T hs rfl rfl rfl (vecBox_con hR h1 _ v i v.boxes[i] _ _ hv' hia) ?_; intro v h3 w3 hle3 hp3 hs)
    obtain ⟨cs3, rfl, _, hR3⟩ := hp3
    rw [List.getD_eq_getElem?_getD, List.getElem?_eq_getElem hia] at hR3
    (refine RW.call T hs rfl rfl rfl (ih _ _ _ _ hR3 (qb _ (List.getElem_mem hia))) ?_; intro v h4 w4 hle4 hp4 hs)
    subst hp4
    refine Zerun ?_
    exact retQ_ret [_] h4 ⟨rfl, trivial⟩ hs.dropAll rfl
theorem fold_take {δ : Type} (f : Nat → δ → Nat) (l : List δ) (a : Nat) (i : Nat) (d : δ) (hi : i < l.length) : (l.take (i + 1)).foldl f a = f ((l.take i).foldl f a) (l.getD i d) := by
  rw [List.take_add_one, List.getElem?_eq_getElem hi, Option.toList_some, List.foldl_append]
  simp [List.getD_eq_getElem?_getD, hi]
theorem whole_step (hR : Mono R) (f : α → β) (G : β → Nat) (hG : ∀ b, G b < 18446744073709551616) (q : α → Prop) (ih : ∀ cs v i w h, VecAt R h cs v → i < v.len → (∀ x ∈ v.boxes, q x) → Con Try.prog 77 [.agg cs.toArray, .int .i64 (i : Nat)] w h (fun _ u => u = .int .u64 (keyIt G ((itemsV f v).getD i noItem) : Nat)))
    (cs : List Value) (a : ArrD α) (w : World) (h : GHeap) (ha : ArrR R h cs a) (qa : smlA q a) :
    Con Try.prog 148 [.agg cs.toArray] w h (fun _ u => u = .int .u64 (keyPl G (plainA f a) : Nat)) := by
  obtain ⟨s, vc, rfl, hs', hv⟩ := ha
  have hv' := hv
  obtain ⟨ad, cp, rfl, hS⟩ := hs'
  obtain ⟨wv, nv, sm, il, fl, ch, bx, ⟨rfl, hoc⟩, hk⟩ := hv
  clear hk
  obtain ⟨q1, q2, q3⟩ := qa
  have hlen := itemsV_len f hv'
  have hac : keyPl G (plainA f a) = (itemsV f a.vec).foldl (fun k x => mixN k (keyIt G x)) (a.shape.foldl (fun k d => mixN k (wrN d)) (mixN 3 (wrN a.vec.cls))) := rfl
  rw [hac]
  have hm3 := mixN_lt 3 (wrN a.vec.cls)
  refine Con.of_body Try.func148 rfl Try.ntmps148 rfl rfl ?_
  intro hs
  refine Zrun ?_
  (refine RW.boxN hs rfl rfl ?_; intro b1 w1 hs)
  refine Zerun ?_
  (refine RW.call T hs rfl rfl rfl (vecClass_con _ a.vec _ _ hv') ?_; intro v h2 w2 hle2 hp2 hs)
  subst hp2
  have hv' := hv'.mono hR hle2
  have hS := hS.mono hle2
  refine RW.val (Y.convII T rfl rfl rfl) rfl ?_
  rw [wrap_wrN]
  (refine RW.call T hs rfl rfl rfl (mix_con 3 _ _ _ (by omega) (wrN_lt _)) ?_; intro v h3 w3 hle3 hp3 hs)
  subst hp3
  have hv' := hv'.mono hR hle3
  have hS := hS.mono hle3
  obtain ⟨m3, e3⟩ : ∃ m3, mixN 3 (wrN a.vec.cls) = m3 := ⟨_, rfl⟩
  rw [e3] at hm3 ⊢
  refine Zerun ?_
  refine CW.loop (fun u : Nat × Nat × GHeap => [(1, .pointer (some ⟨b1, 0, none⟩)), (3, .int .u64 (u.2.1 : Int)), (13, .slice ad a.shape.length cp), (14, .int .i64 a.shape.length), (15, .int .i64 u.1)]) (fun u w' => u.1 ≤ a.shape.length ∧ u.2.1 = (a.shape.take u.1).foldl (fun k d => mixN k (wrN d)) m3 ∧ GLe h3 u.2.2 ∧ Sees w h u.2.2 [⟨some ⟨b1, 0, none⟩, 1, 1, 63, 9, .slice ad a.shape.length cp :: vecCells a.vec.kind wv nv sm il fl ch bx⟩] w') (fun u => a.shape.length - u.1) (0, m3, h3) ⟨rfl, rfl, rfl, rfl, rfl, trivial⟩ ⟨by omega, by simp, GLe.refl _, hs⟩ ?_
  rintro ⟨i, acc, hh⟩ w4 ⟨hi, hac, hg, hs⟩
  dsimp only at hi hac hg hs ⊢
  have hS := hS.mono hg
  by_cases hlt : i < a.shape.length
  · have hfl := fold_lt wrN (a.shape.take i) _ hm3
    have hft := fold_take (fun k d => mixN k (wrN d)) a.shape m3 i 0 hlt
    rw [← hac] at hfl hft
    refine Zerun ?_
    refine RW.val (Y.convII T rfl rfl rfl) rfl ?_
    rw [wrap_wrN]
    (refine RW.call T hs rfl rfl rfl (mix_con _ _ _ _ hfl (wrN_lt _)) ?_; intro v h5 w5 hle5 hp5 hs)
    subst hp5
    refine Zerun ?_
    exact loopQ_round (i + 1, _, h5) ⟨rfl, rfl, rfl, rfl, rfl, trivial⟩ ⟨by dsimp only; omega, hft.symm, hg.trans hle5, hs⟩ (by dsimp only; omega)
  have e : i = a.shape.length := by omega
  subst e
  rw [List.take_length] at hac
  have hal := fold_lt wrN a.shape _ hm3
  rw [← hac] at hal ⊢
  clear hac
  have hv' := hv'.mono hR hg
  refine Zerun ?_
  (refine RW.call T hs rfl rfl rfl (vecLen_con _ a.vec _ _ hv') ?_; intro v h6 w6 hle6 hp6 hs)
  subst hp6
  have hv' := hv'.mono hR hle6
  refine Zerun ?_
  refine CW.loop (fun u : Nat × Nat × GHeap => [(1, .pointer (some ⟨b1, 0, none⟩)), (3, .int .u64 (u.2.1 : Int)), (26, .int .i64 a.vec.len), (27, .int .i64 u.1)]) (fun u w' => u.1 ≤ a.vec.len ∧ u.2.1 = ((itemsV f a.vec).take u.1).foldl (fun k x => mixN k (keyIt G x)) acc ∧ GLe h6 u.2.2 ∧ Sees w h u.2.2 [⟨some ⟨b1, 0, none⟩, 1, 1, 63, 9, .slice ad a.shape.length cp :: vecCells a.vec.kind wv nv sm il fl ch bx⟩] w') (fun u => a.vec.len - u.1) (0, acc, h6) ⟨rfl, rfl, rfl, rfl, trivial⟩ ⟨by omega, by simp, GLe.refl _, hs⟩ ?_
  rintro ⟨i, acc2, hh⟩ w4 ⟨hi, hac2, hg, hs⟩
  dsimp only at hi hac2 hg hs ⊢
  have hv' := hv'.mono hR hg
  by_cases hlt : i < a.vec.len
  · have hfl := fold_lt (keyIt G) ((itemsV f a.vec).take i) _ hal
    have hft := fold_take (fun k x => mixN k (keyIt G x)) (itemsV f a.vec) acc i noItem (by omega)
    rw [← hac2] at hfl hft
    refine Zerun ?_
    (refine RW.call T hs rfl rfl rfl (ih _ a.vec i _ _ hv' hlt q3) ?_; intro v h7 w7 hle7 hp7 hs)
    subst hp7
    (refine RW.call T hs rfl rfl rfl (mix_con _ _ _ _ hfl (keyIt_lt G hG _)) ?_; intro v h8 w8 hle8 hp8 hs)
    subst hp8
    refine Zerun ?_
    exact loopQ_round (i + 1, _, h8) ⟨rfl, rfl, rfl, rfl, trivial⟩ ⟨by dsimp only; omega, hft.symm, (hg.trans hle7).trans hle8, hs⟩ (by dsimp only; omega)
  have e : i = (itemsV f a.vec).length := by omega
  subst e
  rw [List.take_length] at hac2
  refine Zerun ?_
  exact retQ_ret [_] hh ⟨rfl, trivial⟩ hs.dropAll (by rw [hac2]; rfl)
end
theorem whole_con : ∀ (k : Nat) (cs : List Value) (a : AD k) (w : World) (h : GHeap), ArrAt k h cs a → sml k a → Con Try.prog 148 [.agg cs.toArray] w h (fun _ u => u = .int .u64 (keyP k (plain k a) : Nat))
  | 0 => fun _ _ _ _ h => h.elim
  | k + 1 => fun cs a w h ha qa => whole_step (α := AD k) (β := PD k) (ArrAt.mono k) (plain k) (keyP k) (keyP_lt k) (sml k) (fun cs v i w h hv hi qb => key_step (ArrAt.mono k) (ArrAt.one k) (plain k) (keyP k) (sml k) (whole_con k) cs v i w h hv hi qb) cs a w h ha qa
theorem key_con (k : Nat) (cs : List Value) (v : VecD (AD k)) (i : Nat) (w : World) (h : GHeap) (hv : VecAt (ArrAt k) h cs v) (hi : i < v.len) (qb : ∀ x ∈ v.boxes, sml k x) : Con Try.prog 77 [.agg cs.toArray, .int .i64 i] w h (fun _ u => u = .int .u64 (keyIt (keyP k) ((itemsV (plain k) v).getD i noItem) : Nat)) :=
  key_step (ArrAt.mono k) (ArrAt.one k) (plain k) (keyP k) (sml k) (whole_con k) cs v i w h hv hi qb
end Go.Proofs.Ythbfkhklihejiaa

/-
  Plain Lean on hash tables: where an element is first in a list, and slots that are looked through in turn. No statement is proved here.
-/
namespace Go.Proofs.Ythbfkhklihejiaa
open Go Go.RowKit
set_option linter.unusedVariables false
set_option linter.unusedSimpArgs false

section
variable {γ : Type}
/-- where an element is first in a list; the list's length, if it isn't there -/
noncomputable def ixOf (l : List γ) (x : γ) : Nat := l.findIdx (fun y => eqB y x)
theorem ixOf_le (l : List γ) (x : γ) : ixOf l x ≤ l.length := List.findIdx_le_length
theorem ixOf_get {l : List γ} {x : γ} (h : ixOf l x < l.length) : l[ixOf l x] = x := (eqB_true _ _).1 (List.findIdx_getElem (p := fun y => eqB y x) (w := h))
theorem ixOf_min {l : List γ} {x : γ} {j : Nat} (h : j < ixOf l x) (hj : j < l.length) : l[j] ≠ x := by
  intro e
  have := List.not_of_lt_findIdx (p := fun y => eqB y x) h
  rw [eqB_of e] at this
  cases this
theorem ixOf_of {l : List γ} {x : γ} {i : Nat} (hi : i < l.length) (he : l[i] = x) (hm : ∀ j (hj : j < i), l[j] ≠ x) : ixOf l x = i := by
  rcases Nat.lt_trichotomy (ixOf l x) i with h | h | h
  · exact absurd (ixOf_get (by omega)) (hm _ h)
  · exact h
  · exact absurd he (ixOf_min h hi)
theorem ixOf_not {l : List γ} {x : γ} (hm : ∀ j (hj : j < l.length), l[j] ≠ x) : ixOf l x = l.length := by
  rcases Nat.lt_or_ge (ixOf l x) l.length with h | h
  · exact absurd (ixOf_get h) (hm _ h)
  · exact Nat.le_antisymm (ixOf_le l x) h

/-- slots: below 0 they are free, the others hold numbers of elements; those of S are in it, each once -/
structure TabOk (key : γ → Nat) (el : Nat → γ) (S : Nat → Prop) (c : Nat) (sl : List Int) : Prop where
  rng : ∀ p, p < sl.length → sl.getD p 0 = -1 ∨ ∃ i : Nat, S i ∧ sl.getD p 0 = (i : Int)
  at_ : ∀ i, S i → ∃ d, sl.getD ((key (el i) + d) % sl.length) 0 = (i : Int) ∧ ∀ e, e < d → 0 ≤ sl.getD ((key (el i) + e) % sl.length) 0
  one : ∀ i j, S i → S j → el i = el j → i = j
  cnt : sl.countP (fun z => decide (0 ≤ z)) ≤ c
/-- so many slots were looked at, and none has the element -/
def Probed (key : γ → Nat) (el : Nat → γ) (sl : List Int) (x : γ) (d : Nat) : Prop := ∀ e, e < d → ∃ i : Nat, sl.getD ((key x + e) % sl.length) 0 = (i : Int) ∧ el i ≠ x
variable {key : γ → Nat} {el : Nat → γ} {S : Nat → Prop} {c : Nat} {sl : List Int} {x : γ} {d : Nat}
theorem countP_all {l : List Int} (h : ∀ p, p < l.length → 0 ≤ l.getD p 0) : l.countP (fun z => decide (0 ≤ z)) = l.length := by
  rw [List.countP_eq_length]
  intro a ha
  obtain ⟨i, hi, rfl⟩ := List.getElem_of_mem ha
  have := h i hi
  rw [List.getD_eq_getElem?_getD, List.getElem?_eq_getElem hi] at this
  simpa using this
theorem TabOk.room (ok : TabOk key el S c sl) (hc : c < sl.length) (hp : Probed key el sl x d) : d < sl.length := by
  rcases Nat.lt_or_ge d sl.length with h | h
  · exact h
  · exfalso
    have := countP_all (l := sl) (fun p hpl => by
      have hm := Nat.mod_lt (key x) (show 0 < sl.length by omega)
      obtain ⟨i, hi, _⟩ := hp ((p + (sl.length - key x % sl.length)) % sl.length) (Nat.lt_of_lt_of_le (Nat.mod_lt _ (by omega)) h)
      have e : (key x + (p + (sl.length - key x % sl.length)) % sl.length) % sl.length = p := by
        rw [Nat.add_mod, Nat.mod_mod, ← Nat.add_mod]
        have e2 : key x + (p + (sl.length - key x % sl.length)) = p + sl.length * (key x / sl.length + 1) := by
          have := Nat.div_add_mod (key x) sl.length
          rw [Nat.mul_add, Nat.mul_one]
          omega
        rw [e2, Nat.add_mul_mod_self_left]
        exact Nat.mod_eq_of_lt hpl
      rw [e] at hi
      omega)
    have := ok.cnt
    omega
theorem TabOk.miss (ok : TabOk key el S c sl) (hp : Probed key el sl x d) (hs : sl.getD ((key x + d) % sl.length) 0 < 0) : ∀ j, S j → el j ≠ x := by
  intro j hj e
  obtain ⟨dj, h1, h2⟩ := ok.at_ j hj
  rw [e] at h1 h2
  rcases Nat.lt_trichotomy d dj with h | h | h
  · have := h2 d h; omega
  · rw [h] at hs; omega
  · obtain ⟨i, h3, h4⟩ := hp dj h
    rw [h1] at h3
    have : j = i := by omega
    exact h4 (this ▸ e)
theorem countP_set_neg : ∀ (l : List Int) (p : Nat) (v : Int), p < l.length → l.getD p 0 < 0 → 0 ≤ v → (l.set p v).countP (fun z => decide (0 ≤ z)) = l.countP (fun z => decide (0 ≤ z)) + 1
  | [], _, _, h, _, _ => absurd h (Nat.not_lt_zero _)
  | a :: l, 0, v, _, hn, hv => by
    have hn : a < 0 := by simpa using hn
    simp only [List.set_cons_zero, List.countP_cons]
    rw [decide_eq_true hv, decide_eq_false (show ¬ 0 ≤ a by omega)]
    simp
  | a :: l, p + 1, v, h, hn, hv => by
    have := countP_set_neg l p v (by simpa using h) (by simpa using hn) hv
    simp only [List.set_cons_succ, List.countP_cons, this]
    omega
theorem getD_setI (l : List Int) (k j : Nat) (v d : Int) (h : k < l.length) : (l.set k v).getD j d = if j = k then v else l.getD j d := by
  simp only [List.getD_eq_getElem?_getD, List.getElem?_set]
  by_cases e : k = j
  · subst e; simp [h]
  · simp [e, Ne.symm e]
theorem TabOk.put (ok : TabOk key el S c sl) {k : Nat} (hp : Probed key el sl (el k) d) (hs : sl.getD ((key (el k) + d) % sl.length) 0 < 0) (hl : 0 < sl.length) :
    TabOk key el (fun i => S i ∨ i = k) (c + 1) (sl.set ((key (el k) + d) % sl.length) (k : Int)) := by
  have hpl := Nat.mod_lt (key (el k) + d) hl
  have hmiss := ok.miss hp hs
  refine ⟨?_, ?_, ?_, ?_⟩
  · intro p hpp
    rw [List.length_set] at hpp
    rw [getD_setI _ _ _ _ _ hpl]
    split
    · exact .inr ⟨k, .inr rfl, rfl⟩
    · rcases ok.rng p hpp with h | ⟨i, h1, h2⟩
      · exact .inl h
      · exact .inr ⟨i, .inl h1, h2⟩
  · intro i hi
    simp only [List.length_set]
    by_cases hik : i = k
    · subst hik
      refine ⟨d, ?_, ?_⟩
      · rw [getD_setI _ _ _ _ _ hpl, if_pos rfl]
      · intro e he
        rw [getD_setI _ _ _ _ _ hpl]
        split
        · omega
        · obtain ⟨i, h1, _⟩ := hp e he; omega
    · have hi' : S i := hi.resolve_right hik
      obtain ⟨di, h1, h2⟩ := ok.at_ i hi'
      refine ⟨di, ?_, ?_⟩
      · rw [getD_setI _ _ _ _ _ hpl, if_neg]
        · exact h1
        · intro e; rw [e] at h1; omega
      · intro e he
        rw [getD_setI _ _ _ _ _ hpl]
        split
        · omega
        · exact h2 e he
  · intro i j hi hj e
    rcases hi with hi | rfl <;> rcases hj with hj | rfl
    · exact ok.one i j hi hj e
    · exact absurd e (hmiss i hi)
    · exact absurd e.symm (hmiss j hj)
    · rfl
  · rw [countP_set_neg _ _ _ hpl hs (by omega)]
    have := ok.cnt
    omega
theorem TabOk.keep (ok : TabOk key el S c sl) {S' : Nat → Prop} (hS : ∀ i, S' i ↔ S i) {c' : Nat} (hc : c ≤ c') : TabOk key el S' c' sl :=
  ⟨fun p hp => (ok.rng p hp).imp id fun ⟨i, a, b⟩ => ⟨i, (hS i).2 a, b⟩, fun i hi => ok.at_ i ((hS i).1 hi), fun i j hi hj => ok.one i j ((hS i).1 hi) ((hS j).1 hj), Nat.le_trans ok.cnt hc⟩
theorem TabOk.empty (key : γ → Nat) (el : Nat → γ) (m : Nat) : TabOk key el (fun _ => False) 0 (List.replicate m (-1)) := by
  refine ⟨fun p hp => .inl ?_, fun i h => h.elim, fun i j h => h.elim, ?_⟩
  · rw [List.length_replicate] at hp
    simp [List.getD_eq_getElem?_getD, hp]
  · rw [List.countP_replicate]; simp
/-- the elements, of the first ones, that aren't like one ahead of them -/
def Firsts (l : List γ) (k : Nat) (i : Nat) : Prop := i < k ∧ ∃ h : i < l.length, ixOf l l[i] = i
theorem firsts_old {l : List γ} {k : Nat} (hk : k < l.length) (h : ixOf l l[k] ≠ k) (i : Nat) : Firsts l (k + 1) i ↔ Firsts l k i := by
  constructor
  · rintro ⟨h1, h2, h3⟩
    refine ⟨?_, h2, h3⟩
    rcases Nat.lt_or_ge i k with h4 | h4
    · exact h4
    · have : i = k := by omega
      subst this; exact absurd h3 h
  · rintro ⟨h1, h2⟩; exact ⟨by omega, h2⟩
theorem firsts_new {l : List γ} {k : Nat} (hk : k < l.length) (h : ixOf l l[k] = k) (i : Nat) : Firsts l (k + 1) i ↔ (Firsts l k i ∨ i = k) := by
  constructor
  · rintro ⟨h1, h2⟩
    rcases Nat.lt_or_ge i k with h4 | h4
    · exact .inl ⟨h4, h2⟩
    · exact .inr (by omega)
  · rintro (⟨h1, h2⟩ | rfl)
    · exact ⟨by omega, h2⟩
    · exact ⟨by omega, hk, h⟩
/-- what a look through the table comes to -/
theorem look_hit {l : List γ} {n : Nat} (d0 : γ) (ok : TabOk key (fun i => l.getD i d0) (Firsts l n) c sl) {d : Nat} {i : Nat} (hs : sl.getD ((key x + d) % sl.length) 0 = (i : Int)) (hl : 0 < sl.length) (hx : l.getD i d0 = x) : i < n ∧ ixOf l x = i := by
  rcases ok.rng _ (Nat.mod_lt (key x + d) hl) with h | ⟨j, ⟨h1, h2, h3⟩, h4⟩
  · omega
  · have : i = j := by omega
    subst this
    rw [List.getD_eq_getElem?_getD, List.getElem?_eq_getElem h2] at hx
    simp only [Option.getD_some] at hx
    rw [hx] at h3
    exact ⟨h1, h3⟩
theorem look_miss {l : List γ} {n : Nat} (d0 : γ) (ok : TabOk key (fun i => l.getD i d0) (Firsts l n) c sl) {d : Nat} (hp : Probed key (fun i => l.getD i d0) sl x d) (hs : sl.getD ((key x + d) % sl.length) 0 < 0) : ∀ j (hj : j < l.length), j < n → l[j] ≠ x := by
  intro j hj hjn e
  have hm := ok.miss hp hs
  have h1 : ixOf l x ≤ j := by
    rcases Nat.lt_or_ge j (ixOf l x) with h | h
    · exact absurd e (ixOf_min h hj)
    · exact h
  have h2 : ixOf l x < l.length := by omega
  have h3 := ixOf_get h2
  refine hm (ixOf l x) ⟨by omega, h2, ?_⟩ ?_
  · rw [h3]
  · show l.getD (ixOf l x) d0 = x
    rw [List.getD_eq_getElem?_getD, List.getElem?_eq_getElem h2]
    exact h3
theorem and_mask (k e : Nat) : k &&& (2 ^ e - 1) = k % 2 ^ e := Nat.and_two_pow_sub_one_eq_mod k e
theorem probe_next (a d m : Nat) : ((a + d) % m + 1) % m = (a + (d + 1)) % m := by
  rw [Nat.add_mod, Nat.mod_mod, ← Nat.add_mod, Nat.add_assoc]
end
end Go.Proofs.Ythbfkhklihejiaa

/-
  Contracts of functions of package hash: a new table. No statement is proved here.
-/
namespace Go.Proofs.Ythbfkhklihejiaa
open Go Go.RowKit
set_option linter.unusedVariables false
set_option linter.unusedSimpArgs false
set_option maxHeartbeats 4000000
attribute [local irreducible] CW RW QW SW HW ConM retM heldQ calmQ elemP thenQ blockQ loopQ joinQ retQ Yields Con Sl zF magR unitF truncF fwF wholeF tidySpec elemQ rankF leastN tidyW
set_option maxHeartbeats 1000000

/-- the cells of a table: the elements, the slots, the mask -/
def tblCells (vc : List Value) (bs m : Nat) : List Value := vc ++ [.slice (some ⟨bs, 0, none⟩) m m, .int .u64 ((m - 1 : Nat) : Int)]
def TblAt (h : GHeap) (bt : Nat) (vc : List Value) (bs m : Nat) : Prop := Sl h 10 (some ⟨bt, 0, none⟩) 1 1 (tblCells vc bs m)
def slotRow (bs m : Nat) (sl : List Int) : Row := ⟨some ⟨bs, 0, none⟩, m, m, 3, 1, sl.map (Value.int .i64)⟩
theorem set_fill {δ : Type} (a b : δ) (i m : Nat) (h : i < m) : (List.replicate i a ++ List.replicate (m - i) b).set i a = List.replicate (i + 1) a ++ List.replicate (m - (i + 1)) b := by
  obtain ⟨r, hr⟩ : ∃ r, m - i = r + 1 := ⟨m - i - 1, by omega⟩
  have e : m - (i + 1) = r := by omega
  rw [hr, e, List.replicate_succ, List.replicate_succ', List.append_assoc]
  rw [List.set_append_right _ _ (by simp)]
  simp
section
variable {α : Type} {R : GHeap → List Value → α → Prop}
theorem hashNew_conM (hR : Mono R) (cs : List Value) (v : VecD α) (n : Nat) (w0 w : World) (h0 h : GHeap) (O : List Row) (hv : VecAt R h cs v) (hn : n ≤ 1048576) : ConM Try.prog 156 [.agg cs.toArray, .int .i64 n] w0 h0 h O w
    (fun h' O' u => ∃ bt bs m, u = .pointer (some ⟨bt, 0, none⟩) ∧ TblAt h' bt cs bs m ∧ O' = slotRow bs m (List.replicate m (-1)) :: O ∧ (∃ e, m = 2 ^ e) ∧ 2 * n ≤ m ∧ 8 ≤ m ∧ m ≤ 4194304) := by
  obtain ⟨wv, nv, sm, il, fl, ch, bx, ⟨rfl, hoc⟩, _⟩ := hv
  refine ConM.of_body Try.func156 rfl Try.ntmps156 rfl rfl ?_
  intro hs
  refine Zrun ?_
  (refine RW.boxN hs rfl rfl ?_; intro b1 w1 hs)
  refine Zrun ?_
  refine CW.loop (fun s : Nat => [(1, .int .i64 n), (2, .pointer (some ⟨b1, 0, none⟩)), (5, .int .i64 s)]) (fun s w' => (∃ e, s = 2 ^ e) ∧ 8 ≤ s ∧ s ≤ 4194304 ∧ Sees w0 h0 h (⟨some ⟨b1, 0, none⟩, 1, 1, 61, 8, vecCells v.kind wv nv sm il fl ch bx⟩ :: O) w') (fun s => 4194304 - s) 8 ⟨rfl, rfl, rfl, trivial⟩ ⟨⟨3, by decide⟩, by omega, by omega, hs⟩ ?_
  rintro s w2 ⟨hpow, hs1, hs2, hs⟩
  refine Zrun ?_
  refine RW.val (Y.mul rfl rfl ?_) rfl ?_
  · omega
  by_cases hlt : s < 2 * n
  · first | (refine A0 ?_; first | refine R1 rfl rfl ?_ | refine R2 rfl rfl ?_ | (refine A1 ?_; first | refine D3 rfl rfl ?_ | refine D4 rfl rfl rfl rfl ?_ | refine D5 rfl rfl rfl ?_ | refine E6 ?_ rfl rfl | refine E7 ?_ rfl rfl) | refine Zb ?_ rfl | (refine A3 ?_; first | refine R34 T hs 0 rfl rfl rfl rfl rfl rfl ?_ | refine R34 T hs 1 rfl rfl rfl rfl rfl rfl ?_ | refine Zl ?_ rfl) | refine Zi ?_ rfl | refine Zo ?_ rfl | refine A8 ?_) | (refine B0 ?_; first | refine B1 ?_ | refine B2 ?_ | refine B3 ?_ | refine B4 ?_ | refine B5 ?_ | refine B6 ?_ | refine B7 rfl ?_ | refine B8 rfl ?_ | refine E8 ?_ rfl | refine E9 ?_ rfl) | refine C1 ?_ | refine C2 ?_ | refine C3 ?_ | refine C4 ?_ | refine C5 ?_ | refine C6 ?_ | refine C7 ?_ | refine C8 ?_ | refine C9 ?_ | refine D1 rfl ?_ | refine D2 rfl ?_
    first | (refine A0 ?_; first | refine R1 rfl rfl ?_ | refine R2 rfl rfl ?_ | (refine A1 ?_; first | refine D3 rfl rfl ?_ | refine D4 rfl rfl rfl rfl ?_ | refine D5 rfl rfl rfl ?_ | refine E6 ?_ rfl rfl | refine E7 ?_ rfl rfl) | refine Zb ?_ rfl | (refine A3 ?_; first | refine R34 T hs 0 rfl rfl rfl rfl rfl rfl ?_ | refine R34 T hs 1 rfl rfl rfl rfl rfl rfl ?_ | refine Zl ?_ rfl) | refine Zi ?_ rfl | refine Zo ?_ rfl | refine A8 ?_) | (refine B0 ?_; first | refine B1 ?_ | refine B2 ?_ | refine B3 ?_ | refine B4 ?_ | refine B5 ?_ | refine B6 ?_ | refine B7 rfl ?_ | refine B8 rfl ?_ | refine E8 ?_ rfl | refine E9 ?_ rfl) | refine C1 ?_ | refine C2 ?_ | refine C3 ?_ | refine C4 ?_ | refine C5 ?_ | refine C6 ?_ | refine C7 ?_ | refine C8 ?_ | refine C9 ?_ | refine D1 rfl ?_ | refine D2 rfl ?_
    first | (refine A0 ?_; first | refine R1 rfl rfl ?_ | refine R2 rfl rfl ?_ | (refine A1 ?_; first | refine D3 rfl rfl ?_ | refine D4 rfl rfl rfl rfl ?_ | refine D5 rfl rfl rfl ?_ | refine E6 ?_ rfl rfl | refine E7 ?_ rfl rfl) | refine Zb ?_ rfl | (refine A3 ?_; first | refine R34 T hs 0 rfl rfl rfl rfl rfl rfl ?_ | refine R34 T hs 1 rfl rfl rfl rfl rfl rfl ?_ | refine Zl ?_ rfl) | refine Zi ?_ rfl | refine Zo ?_ rfl | refine A8 ?_) | (refine B0 ?_; first | refine B1 ?_ | refine B2 ?_ | refine B3 ?_ | refine B4 ?_ | refine B5 ?_ | refine B6 ?_ | refine B7 rfl ?_ | refine B8 rfl ?_ | refine E8 ?_ rfl | refine E9 ?_ rfl) | refine C1 ?_ | refine C2 ?_ | refine C3 ?_ | refine C4 ?_ | refine C5 ?_ | refine C6 ?_ | refine C7 ?_ | refine C8 ?_ | refine C9 ?_ | refine D1 rfl ?_ | refine D2 rfl ?_
    first | (refine A0 ?_; first | refine R1 rfl rfl ?_ | refine R2 rfl rfl ?_ | (refine A1 ?_; first | refine D3 rfl rfl ?_ | refine D4 rfl rfl rfl rfl ?_ | refine D5 rfl rfl rfl ?_ | refine E6 ?_ rfl rfl | refine E7 ?_ rfl rfl) | refine Zb ?_ rfl | (refine A3 ?_; first | refine R34 T hs 0 rfl rfl rfl rfl rfl rfl ?_ | refine R34 T hs 1 rfl rfl rfl rfl rfl rfl ?_ | refine Zl ?_ rfl) | refine Zi ?_ rfl | refine Zo ?_ rfl | refine A8 ?_) | (refine B0 ?_; first | refine B1 ?_ | refine B2 ?_ | refine B3 ?_ | refine B4 ?_ | refine B5 ?_ | refine B6 ?_ | refine B7 rfl ?_ | refine B8 rfl ?_ | refine E8 ?_ rfl | refine E9 ?_ rfl) | refine C1 ?_ | refine C2 ?_ | refine C3 ?_ | refine C4 ?_ | refine C5 ?_ | refine C6 ?_ | refine C7 ?_ | refine C8 ?_ | refine C9 ?_ | refine D1 rfl ?_ | refine D2 rfl ?_
    first | (refine A0 ?_; first | refine R1 rfl rfl ?_ | refine R2 rfl rfl ?_ | (refine A1 ?_; first | refine D3 rfl rfl ?_ | refine D4 rfl rfl rfl rfl ?_ | refine D5 rfl rfl rfl ?_ | refine E6 ?_ rfl rfl | refine E7 ?_ rfl rfl) | refine Zb ?_ rfl | (refine A3 ?_; first | refine R34 T hs 0 rfl rfl rfl rfl rfl rfl ?_ | refine R34 T hs 1 rfl rfl rfl rfl rfl rfl ?_ | refine Zl ?_ rfl) | refine Zi ?_ rfl | refine Zo ?_ rfl | refine A8 ?_) | (refine B0 ?_; first | refine B1 ?_ | refine B2 ?_ | refine B3 ?_ | refine B4 ?_ | refine B5 ?_ | refine B6 ?_ | refine B7 rfl ?_ | refine B8 rfl ?_ | refine E8 ?_ rfl | refine E9 ?_ rfl) | refine C1 ?_ | refine C2 ?_ | refine C3 ?_ | refine C4 ?_ | refine C5 ?_ | refine C6 ?_ | refine C7 ?_ | refine C8 ?_ | refine C9 ?_ | refine D1 rfl ?_ | refine D2 rfl ?_
    first | (refine A0 ?_; first | refine R1 rfl rfl ?_ | refine R2 rfl rfl ?_ | (refine A1 ?_; first | refine D3 rfl rfl ?_ | refine D4 rfl rfl rfl rfl ?_ | refine D5 rfl rfl rfl ?_ | refine E6 ?_ rfl rfl | refine E7 ?_ rfl rfl) | refine Zb ?_ rfl | (refine A3 ?_; first | refine R34 T hs 0 rfl rfl rfl rfl rfl rfl ?_ | refine R34 T hs 1 rfl rfl rfl rfl rfl rfl ?_ | refine Zl ?_ rfl) | refine Zi ?_ rfl | refine Zo ?_ rfl | refine A8 ?_) | (refine B0 ?_; first | refine B1 ?_ | refine B2 ?_ | refine B3 ?_ | refine B4 ?_ | refine B5 ?_ | refine B6 ?_ | refine B7 rfl ?_ | refine B8 rfl ?_ | refine E8 ?_ rfl | refine E9 ?_ rfl) | refine C1 ?_ | refine C2 ?_ | refine C3 ?_ | refine C4 ?_ | refine C5 ?_ | refine C6 ?_ | refine C7 ?_ | refine C8 ?_ | refine C9 ?_ | refine D1 rfl ?_ | refine D2 rfl ?_
    first | (refine A0 ?_; first | refine R1 rfl rfl ?_ | refine R2 rfl rfl ?_ | (refine A1 ?_; first | refine D3 rfl rfl ?_ | refine D4 rfl rfl rfl rfl ?_ | refine D5 rfl rfl rfl ?_ | refine E6 ?_ rfl rfl | refine E7 ?_ rfl rfl) | refine Zb ?_ rfl | (refine A3 ?_; first | refine R34 T hs 0 rfl rfl rfl rfl rfl rfl ?_ | refine R34 T hs 1 rfl rfl rfl rfl rfl rfl ?_ | refine Zl ?_ rfl) | refine Zi ?_ rfl | refine Zo ?_ rfl | refine A8 ?_) | (refine B0 ?_; first | refine B1 ?_ | refine B2 ?_ | refine B3 ?_ | refine B4 ?_ | refine B5 ?_ | refine B6 ?_ | refine B7 rfl ?_ | refine B8 rfl ?_ | refine E8 ?_ rfl | refine E9 ?_ rfl) | refine C1 ?_ | refine C2 ?_ | refine C3 ?_ | refine C4 ?_ | refine C5 ?_ | refine C6 ?_ | refine C7 ?_ | refine C8 ?_ | refine C9 ?_ | refine D1 rfl ?_ | refine D2 rfl ?_
    first | (refine A0 ?_; first | refine R1 rfl rfl ?_ | refine R2 rfl rfl ?_ | (refine A1 ?_; first | refine D3 rfl rfl ?_ | refine D4 rfl rfl rfl rfl ?_ | refine D5 rfl rfl rfl ?_ | refine E6 ?_ rfl rfl | refine E7 ?_ rfl rfl) | refine Zb ?_ rfl | (refine A3 ?_; first | refine R34 T hs 0 rfl rfl rfl rfl rfl rfl ?_ | refine R34 T hs 1 rfl rfl rfl rfl rfl rfl ?_ | refine Zl ?_ rfl) | refine Zi ?_ rfl | refine Zo ?_ rfl | refine A8 ?_) | (refine B0 ?_; first | refine B1 ?_ | refine B2 ?_ | refine B3 ?_ | refine B4 ?_ | refine B5 ?_ | refine B6 ?_ | refine B7 rfl ?_ | refine B8 rfl ?_ | refine E8 ?_ rfl | refine E9 ?_ rfl) | refine C1 ?_ | refine C2 ?_ | refine C3 ?_ | refine C4 ?_ | refine C5 ?_ | refine C6 ?_ | refine C7 ?_ | refine C8 ?_ | refine C9 ?_ | refine D1 rfl ?_ | refine D2 rfl ?_
    refine RW.respell (t := 15) rfl (congrArg Value.bool (decide_eq_true (show (s : Int) < 4194304 by omega))) ?_
    refine Zrun ?_
    refine RW.val (Y.mul rfl rfl ?_) rfl ?_
    · omega
    refine Zrun ?_
    refine loopQ_round (2 * s) ⟨rfl, rfl, seti (by omega), trivial⟩ ⟨?_, by omega, by omega, hs⟩ (by omega)
    obtain ⟨e, he⟩ := hpow
    exact ⟨e + 1, by rw [he, Nat.pow_succ, Nat.mul_comm]⟩
  refine Zrun ?_
  refine CW.meet (fun q : Nat × Nat => [(6, .pointer (some ⟨q.2, 0, none⟩))]) (fun q w' => Sees w0 h0 h (⟨some ⟨q.2, 0, none⟩, 1, 1, 218, 10, tblCells (vecCells v.kind wv nv sm il fl ch bx) q.1 s⟩ :: ⟨some ⟨q.1, 0, none⟩, s, s, 3, 1, List.replicate s (.int .i64 0)⟩ :: ⟨some ⟨b1, 0, none⟩, 1, 1, 61, 8, vecCells v.kind wv nv sm il fl ch bx⟩ :: O) w') ?_ ?_
  · have hwr : IntKind.u64.wrap ((s : Int) - 1) = ((s - 1 : Nat) : Int) := by
      rw [wrap_wrN]; unfold wrN; omega
    refine CW.regionR T 0 0 hs rfl rfl ?_
    intro w4 hs
    refine HW.takeR (fuel := 8) 0 rfl (fun _ _ ka kb _ hs hka hkb => Y.loadRowN T hs ka hka rfl rfl rfl rfl rfl rfl) ⟨_, _, 0, 0, hs, rfl, rfl⟩ rfl (by kernel_rfl) (by kernel_rfl) (by kernel_rfl) ?_
    refine HW.takeR (fuel := 7) 1 rfl (fun _ _ ka kb _ hs hka hkb => Y.move rfl) ⟨_, _, 0, 0, hs, rfl, rfl⟩ rfl (by kernel_rfl) (by kernel_rfl) (by kernel_rfl) ?_
    refine HW.takeR (fuel := 6) 3 rfl (fun _ _ ka kb _ hs hka hkb => Y.move rfl) ⟨_, _, 0, 0, hs, rfl, rfl⟩ rfl (by kernel_rfl) (by kernel_rfl) (by kernel_rfl) ?_
    refine HW.takeR (fuel := 5) 4 rfl (fun _ _ ka kb _ hs hka hkb => Y.sub rfl rfl (by omega)) ⟨_, _, 0, 0, hs, rfl, rfl⟩ rfl (by kernel_rfl) (by kernel_rfl) (by kernel_rfl) ?_
    refine HW.takeR (fuel := 4) 5 rfl (fun _ _ ka kb _ hs hka hkb => Y.convII T rfl rfl rfl) ⟨_, _, 0, 0, hs, rfl, rfl⟩ rfl (by kernel_rfl) (by kernel_rfl) (by kernel_rfl) ?_
    refine HW.one (fuel := 3) 2 rfl (by kernel_rfl) ?_
    (refine RW.make1 T hs rfl rfl rfl rfl rfl rfl rfl (by dsimp only; omega) (by omega) ?_; intro b20 w20 hs)
    refine RW.nil ?_
    refine heldQ_normal ⟨_, _, 1, 1, hs, rfl, rfl⟩ ?_
    refine HW.takeR (fuel := 2) 6 rfl (fun _ _ ka kb _ hs hka hkb => Y.build T rfl rfl rfl rfl rfl rfl rfl) ⟨_, _, 1, 1, hs, rfl, rfl⟩ rfl (by kernel_rfl) (by kernel_rfl) (by kernel_rfl) ?_
    refine HW.one (fuel := 1) 7 rfl (by kernel_rfl) ?_
    (refine RW.boxN hs rfl rfl ?_; intro b25 w25 hs)
    refine RW.nil ?_
    refine heldQ_normal ⟨_, _, 2, 2, hs, rfl, rfl⟩ ?_
    refine HW.takeR (fuel := 0) 8 rfl (fun _ _ ka kb _ hs hka hkb => Y.assign rfl) ⟨_, _, 2, 2, hs, rfl, rfl⟩ rfl (by kernel_rfl) (by kernel_rfl) (by kernel_rfl) ?_
    refine HW.done (by kernel_rfl) ?_
    refine calmQ_normal ?_
    rw [hwr] at hs
    exact joinQ_meet (b20, b25) ⟨rfl, trivial⟩ hs
  rintro ⟨bs, bt⟩ w5 hs
  dsimp only at hs ⊢
  obtain ⟨h3, hle3, hs, hT⟩ := hs.freeze
  have hs := hs.swap.drop
  refine Zrun ?_
  refine RW.val (Y.nilCheck rfl) rfl ?_
  refine Zrun ?_
  refine RW.val (Y.ldF1 T hs hT rfl rfl rfl rfl rfl) rfl ?_
  refine Zrun ?_
  refine CW.loop (fun i : Nat => [(6, .pointer (some ⟨bt, 0, none⟩)), (30, .int .i64 s), (31, .int .i64 i)]) (fun i w' => i ≤ s ∧ Sees w0 h0 h3 (slotRow bs s (List.replicate i (-1) ++ List.replicate (s - i) 0) :: O) w') (fun i => s - i) 0 ⟨rfl, rfl, rfl, trivial⟩ ⟨by omega, by simpa [slotRow] using hs⟩ ?_
  rintro i w6 ⟨hi, hs⟩
  by_cases hlt2 : i < s
  · refine Zrun ?_
    refine RW.val (Y.nilCheck rfl) rfl ?_
    refine Zrun ?_
    refine RW.val (Y.ldF1 T hs hT rfl rfl rfl rfl rfl) rfl ?_
    refine Zrun ?_
    refine RW.val (Y.idxRN T hs 0 rfl rfl rfl rfl rfl rfl hlt2) rfl ?_
    refine RW.st1 T hs 0 rfl rfl rfl rfl rfl rfl rfl hlt2 ?_
    intro w7 hs
    dsimp only [slotRow, List.set_cons_zero] at hs
    rw [map_set_int, set_fill _ _ _ _ hlt2] at hs
    refine Zrun ?_
    exact loopQ_round (i + 1) ⟨rfl, rfl, rfl, trivial⟩ ⟨by omega, hs⟩ (by omega)
  have e2 : i = s := by omega
  subst e2
  refine Zrun ?_
  refine retM_ret [_] h3 _ ⟨rfl, trivial⟩ hle3 hs ⟨bt, bs, i, rfl, hT, ?_, hpow, by omega, hs1, hs2⟩
  rw [Nat.sub_self, List.replicate_zero, List.append_nil]
end
end Go.Proofs.Ythbfkhklihejiaa

/-
  Contracts of methods of hash.Table: the slot of an element. No statement is proved here.
-/
namespace Go.Proofs.Ythbfkhklihejiaa
open Go Go.RowKit
set_option linter.unusedVariables false
set_option linter.unusedSimpArgs false
set_option maxHeartbeats 4000000
attribute [local irreducible] CW RW QW SW HW ConM retM heldQ calmQ elemP thenQ blockQ loopQ joinQ retQ Yields Con Sl zF magR unitF truncF fwF wholeF tidySpec elemQ rankF leastN tidyW
set_option maxHeartbeats 1000000
attribute [local irreducible] mixN wrN wr32 keyIt keyP

theorem mask_of {m a : Nat} (hp : ∃ e, m = 2 ^ e) : a &&& (m - 1) = a % m := by
  obtain ⟨e, rfl⟩ := hp
  exact and_mask a e
section
variable {P : Program} {n : Nat} {ops rest : List Oper} {C : World → Prop} {K : Env → Prop} {L : Env} {d : Option Tmp} {ty : TypeId} {pos : String} {aft : Array Edge} {g : Option (Nat × Bool)}
/-- the elements of a list, by number -/
def elsOf {γ : Type} (l : List (ItemD γ)) (i : Nat) : ItemD γ := l.getD i noItem
end
theorem hashFind_conM (k : Nat) (bt bs m q : Nat) (cs cs' : List Value) (v u : VecD (AD k)) (j : Nat) (S : Nat → Prop) (c : Nat) (sl : List Int) (w0 w : World) (h0 h : GHeap) (O : List Row)
    (hT : TblAt h bt cs bs m) (hv : VecAt (ArrAt k) h cs v) (hu : VecAt (ArrAt k) h cs' u) (hj : j < u.len) (qv : ∀ x ∈ v.boxes, sml k x) (qu : ∀ x ∈ u.boxes, sml k x)
    (hm : ∃ e, m = 2 ^ e) (hml : sl.length = m) (hm2 : m ≤ 4194304) (ok : TabOk (keyIt (keyP k)) (elsOf (itemsV (plain k) v)) S c sl) (hS : ∀ i, S i → i < v.len) (hc : c < m) (hO : O[q]? = some (slotRow bs m sl)) :
    ConM Try.prog 189 [.pointer (some ⟨bt, 0, none⟩), .agg cs'.toArray, .int .i64 j] w0 h0 h O w
      (fun h' O' r => O' = O ∧ h = h' ∧ ∃ d, Probed (keyIt (keyP k)) (elsOf (itemsV (plain k) v)) sl ((itemsV (plain k) u).getD j noItem) d ∧ r = .int .i64 (((keyIt (keyP k) ((itemsV (plain k) u).getD j noItem) + d) % m : Nat) : Int)
        ∧ (sl.getD ((keyIt (keyP k) ((itemsV (plain k) u).getD j noItem) + d) % m) 0 < 0 ∨ ∃ i, S i ∧ sl.getD ((keyIt (keyP k) ((itemsV (plain k) u).getD j noItem) + d) % m) 0 = (i : Int) ∧ elsOf (itemsV (plain k) v) i = (itemsV (plain k) u).getD j noItem)) := by
  have hv' := hv
  have hu' := hu
  obtain ⟨wv, nv, sm, il, fl, ch, bx, ⟨rfl, hoc⟩, _⟩ := hv
  obtain ⟨wv2, nv2, sm2, il2, fl2, ch2, bx2, ⟨rfl, hoc2⟩, _⟩ := hu
  obtain ⟨x, hx⟩ : ∃ x, (itemsV (plain k) u).getD j noItem = x := ⟨_, rfl⟩
  have hm0 : 0 < m := by obtain ⟨e, rfl⟩ := hm; exact Nat.pow_pos (by omega)
  have hkx : keyIt (keyP k) x < 18446744073709551616 := keyIt_lt _ (keyP_lt k) x
  have hkey : ∀ w, Con Try.prog 77 [.agg (vecCells u.kind wv2 nv2 sm2 il2 fl2 ch2 bx2).toArray, .int .i64 j] w h (fun _ r => r = .int .u64 (keyIt (keyP k) x : Nat)) := fun w => by
    rw [← hx]; exact key_con k _ u j w h hu' hj qu
  rw [hx]
  obtain ⟨kx, hkxe⟩ : ∃ kx, keyIt (keyP k) x = kx := ⟨_, rfl⟩
  have hprb : ∀ d, Probed (keyIt (keyP k)) (elsOf (itemsV (plain k) v)) sl x d ↔ ∀ e, e < d → ∃ i : Nat, sl.getD ((kx + e) % m) 0 = (i : Int) ∧ elsOf (itemsV (plain k) v) i ≠ x := fun d => by
    unfold Probed; rw [hkxe, hml]
  rw [hkxe] at hkx hkey ⊢
  refine ConM.of_body Try.func189 rfl Try.ntmps189 rfl rfl ?_
  intro hs
  refine Zrun ?_
  (refine RW.boxN hs rfl rfl ?_; intro b1 w1 hs)
  have hO1 : (⟨some ⟨b1, 0, none⟩, 1, 1, 61, 8, vecCells u.kind wv2 nv2 sm2 il2 fl2 ch2 bx2⟩ :: O : List Row)[q + 1]? = some (slotRow bs m sl) := hO
  refine Zrun ?_
  refine CW.regionQ T hs (Zeqrun ?_) (by kernel_rfl)
  refine QW.call T hs rfl rfl rfl hkey ?_
  refine Zeqrun ?_
  refine QW.val (fun _ _ => Y.nilCheck rfl) rfl ?_
  refine Zeqrun ?_
  refine QW.val (fun _ hs => Y.ldF1 T hs hT rfl rfl rfl rfl rfl) rfl ?_
  refine QW.val (fun _ _ => Y.andU rfl rfl hkx (by omega)) rfl ?_
  rw [mask_of hm]
  refine Zeqrun ?_
  intro w2 hs
  refine Zerun ?_
  refine CW.loop (fun d : Nat => [(0, .pointer (some ⟨bt, 0, none⟩)), (2, .int .i64 j), (4, .pointer (some ⟨b1, 0, none⟩)), (7, .int .u64 (((kx + d) % m : Nat) : Int))]) (fun d w' => Probed (keyIt (keyP k)) (elsOf (itemsV (plain k) v)) sl x d ∧ Sees w0 h0 h (⟨some ⟨b1, 0, none⟩, 1, 1, 61, 8, vecCells u.kind wv2 nv2 sm2 il2 fl2 ch2 bx2⟩ :: O) w') (fun d => m - d) 0 ⟨rfl, rfl, rfl, rfl, trivial⟩ ⟨fun e he => absurd he (Nat.not_lt_zero _), hs⟩ ?_
  rintro d w3 ⟨hp, hs⟩
  have hpm := Nat.mod_lt (kx + d) hm0
  obtain ⟨p, hpe⟩ : ∃ p, (kx + d) % m = p := ⟨_, rfl⟩
  rw [hpe] at hpm ⊢
  have hd : d < m := hml ▸ ok.room (by omega) hp
  refine Zerun ?_
  refine CW.regionQ T hs (Zeqrun ?_) (by kernel_rfl)
  refine QW.val (fun _ _ => Y.nilCheck rfl) rfl ?_
  refine Zeqrun ?_
  refine QW.val (fun _ hs => Y.ldF1 T hs hT rfl rfl rfl rfl rfl) rfl ?_
  refine Zeqrun ?_
  refine QW.val (fun _ hs => Y.idxRN T hs (q + 1) rfl rfl hO1 rfl rfl rfl hpm) rfl ?_
  refine QW.val (fun _ hs => Y.ldRInt T hs (q + 1) rfl hO1 rfl rfl hpm) rfl ?_
  rcases ok.rng p (by omega) with hneg | ⟨i, hSi, hsi⟩
  · rw [hneg]
    refine Zeqrun ?_
    intro w4 hs
    refine Zerun ?_
    refine RW.val (Y.conv64 T rfl rfl rfl ?_) rfl ?_
    · omega
    refine Zerun ?_
    exact retM_ret [_] h _ ⟨rfl, trivial⟩ (GLe.refl _) hs.drop ⟨rfl, rfl, d, hp, by rw [hpe]; rfl, .inl (by rw [hpe, hneg]; omega)⟩
  · rw [hsi]
    refine Zeqrun ?_
    refine QW.val (fun _ _ => Y.nilCheck rfl) rfl ?_
    refine Zeqrun ?_
    refine QW.val (fun _ hs => Y.ldFN T hs hT rfl rfl rfl rfl rfl rfl rfl) rfl ?_
    refine Zeqrun ?_
    refine QW.val (fun _ _ => Y.nilCheck rfl) rfl ?_
    refine Zeqrun ?_
    refine QW.val (fun _ hs => Y.ldF1 T hs hT rfl rfl rfl rfl rfl) rfl ?_
    refine Zeqrun ?_
    refine QW.val (fun _ hs => Y.idxRN T hs (q + 1) rfl rfl hO1 rfl rfl rfl hpm) rfl ?_
    refine Zeqrun ?_
    refine QW.val (fun _ hs => Y.ldRInt T hs (q + 1) rfl hO1 rfl rfl hpm) rfl ?_
    rw [hsi]
    refine Zeqrun ?_
    refine QW.call T hs rfl rfl rfl (fun w => alikeV_con k _ _ v u i j w h hv' hu' (hS i hSi) hj qv qu) ?_
    rw [hx]
    by_cases e : (itemsV (plain k) v).getD i noItem = x
    · rw [eqB_of e]
      refine Zeqrun ?_
      intro w4 hs
      refine Zerun ?_
      refine RW.val (Y.conv64 T rfl rfl rfl ?_) rfl ?_
      · omega
      refine Zerun ?_
      exact retM_ret [_] h _ ⟨rfl, trivial⟩ (GLe.refl _) hs.drop ⟨rfl, rfl, d, hp, by rw [hpe]; rfl, .inr ⟨i, hSi, by rw [hpe, hsi], e⟩⟩
    · rw [eqB_not e]
      refine Zeqrun ?_
      intro w4 hs
      have hp' : Probed (keyIt (keyP k)) (elsOf (itemsV (plain k) v)) sl x (d + 1) := (hprb _).2 fun e2 he2 => by
        rcases Nat.lt_or_ge e2 d with h3 | h3
        · exact (hprb d).1 hp e2 h3
        · have h4 : e2 = d := by omega
          subst h4
          exact ⟨i, by rw [hpe, hsi], e⟩
      have hd' : d + 1 < m := hml ▸ ok.room (by omega) hp'
      refine Zerun ?_
      refine RW.val (Y.addU (v := 1) rfl rfl (by omega)) rfl ?_
      refine Zerun ?_
      refine RW.val (Y.nilCheck rfl) rfl ?_
      refine Zerun ?_
      refine RW.val (Y.ldF1 T hs hT rfl rfl rfl rfl rfl) rfl ?_
      refine RW.val (Y.andU rfl rfl (by omega) (by omega)) rfl ?_
      rw [mask_of hm, ← hpe, probe_next]
      refine Zerun ?_
      exact loopQ_round (d + 1) ⟨rfl, rfl, rfl, rfl, trivial⟩ ⟨hp', hs⟩ (by omega)
end Go.Proofs.Ythbfkhklihejiaa

/-
  Contracts of functions of package hash: whether, and where, an element is in a table; the table of a list. No statement is proved here.
-/
namespace Go.Proofs.Ythbfkhklihejiaa
open Go Go.RowKit
set_option linter.unusedVariables false
set_option linter.unusedSimpArgs false
set_option maxHeartbeats 4000000
attribute [local irreducible] CW RW QW SW HW ConM retM heldQ calmQ elemP thenQ blockQ loopQ joinQ retQ Yields Con Sl zF magR unitF truncF fwF wholeF tidySpec elemQ rankF leastN tidyW
set_option maxHeartbeats 1000000
attribute [local irreducible] mixN wrN wr32 keyIt keyP

theorem hashGet_conM (k : Nat) (bt bs m n : Nat) (cs cs' : List Value) (v u : VecD (AD k)) (j : Nat) (c : Nat) (sl : List Int) (w0 w : World) (h0 h : GHeap) (O : List Row)
    (hT : TblAt h bt cs bs m) (hv : VecAt (ArrAt k) h cs v) (hu : VecAt (ArrAt k) h cs' u) (hj : j < u.len) (qv : ∀ x ∈ v.boxes, sml k x) (qu : ∀ x ∈ u.boxes, sml k x)
    (hm : ∃ e, m = 2 ^ e) (hml : sl.length = m) (hm2 : m ≤ 4194304) (hn : n = v.len) (ok : TabOk (keyIt (keyP k)) (elsOf (itemsV (plain k) v)) (Firsts (itemsV (plain k) v) n) c sl) (hc : c < m) :
    ConM Try.prog 151 [.pointer (some ⟨bt, 0, none⟩), .agg cs'.toArray, .int .i64 j] w0 h0 h (slotRow bs m sl :: O) w
      (fun h' O' r => O' = slotRow bs m sl :: O ∧ h = h' ∧ r = .int .i64 (if ixOf (itemsV (plain k) v) ((itemsV (plain k) u).getD j noItem) < v.len then (ixOf (itemsV (plain k) v) ((itemsV (plain k) u).getD j noItem) : Int) else -1)) := by
  have hv' := hv
  have hu' := hu
  obtain ⟨wv2, nv2, sm2, il2, fl2, ch2, bx2, ⟨rfl, hoc2⟩, _⟩ := hu
  have hlen := itemsV_len (plain k) hv
  obtain ⟨wv, nv, sm, il, fl, ch, bx, ⟨rfl, hoc⟩, _⟩ := hv
  have hm0 : 0 < m := by obtain ⟨e, rfl⟩ := hm; exact Nat.pow_pos (by omega)
  refine ConM.of_body Try.func151 rfl Try.ntmps151 rfl rfl ?_
  intro hs
  refine Zrun ?_
  (refine RW.boxN hs rfl rfl ?_; intro b1 w1 hs)
  refine Zrun ?_
  refine CW.regionG T 0 1 hs rfl rfl ?_
  intro w4 hs
  have hgl := GLe.refl h
  refine HW.takeG (fuel := 10) 0 rfl (fun _ _ ka kb _ hg hs hka hkb => Y.move rfl) ⟨_, _, 0, 1, hgl, hs, rfl, rfl⟩ rfl (by kernel_rfl) (by kernel_rfl) (by kernel_rfl) ?_
  refine HW.takeG (fuel := 9) 1 rfl (fun _ _ ka kb _ hg hs hka hkb => Y.nilCheck rfl) ⟨_, _, 0, 1, hgl, hs, rfl, rfl⟩ rfl (by kernel_rfl) (by kernel_rfl) (by kernel_rfl) ?_
  refine HW.takeG (fuel := 8) 2 rfl (fun _ _ ka kb _ hg hs hka hkb => Y.fieldAddr T rfl rfl rfl rfl rfl) ⟨_, _, 0, 1, hgl, hs, rfl, rfl⟩ rfl (by kernel_rfl) (by kernel_rfl) (by kernel_rfl) ?_
  refine HW.takeG (fuel := 7) 3 rfl (fun _ _ ka kb _ hg hs hka hkb => Y.ldF1 T hs (hT.mono hg) rfl rfl rfl rfl rfl) ⟨_, _, 0, 1, hgl, hs, rfl, rfl⟩ rfl (by kernel_rfl) (by kernel_rfl) (by kernel_rfl) ?_
  refine HW.takeG (fuel := 6) 4 rfl (fun _ _ ka kb _ hg hs hka hkb => Y.move rfl) ⟨_, _, 0, 1, hgl, hs, rfl, rfl⟩ rfl (by kernel_rfl) (by kernel_rfl) (by kernel_rfl) ?_
  refine HW.takeG (fuel := 5) 5 rfl (fun _ _ ka kb _ hg hs hka hkb => Y.loadRowN T hs ka hka rfl rfl rfl rfl rfl rfl) ⟨_, _, 0, 1, hgl, hs, rfl, rfl⟩ rfl (by kernel_rfl) (by kernel_rfl) (by kernel_rfl) ?_
  refine HW.takeG (fuel := 4) 6 rfl (fun _ _ ka kb _ hg hs hka hkb => Y.move rfl) ⟨_, _, 0, 1, hgl, hs, rfl, rfl⟩ rfl (by kernel_rfl) (by kernel_rfl) (by kernel_rfl) ?_
  refine HW.one (fuel := 3) 7 rfl (by kernel_rfl) ?_
  (refine RW.callM T hs rfl rfl rfl (hashFind_conM k bt bs m 1 _ _ v u j _ _ sl _ _ _ _ _ hT hv' hu' hj qv qu hm hml hm2 ok (fun i hi => by rw [← hlen]; exact hi.2.1) hc rfl) ?_; intro v h14 O14 w14 hle14 hp14 hs)
  obtain ⟨rfl, rfl, d, hp, rfl, hfd⟩ := hp14
  have hgl := hgl.trans hle14
  refine RW.nil ?_
  refine heldQ_normal ⟨_, _, 0, 1, hgl, hs, rfl, rfl⟩ ?_
  refine HW.takeG (fuel := 2) 8 rfl (fun _ _ ka kb _ hg hs hka hkb => Y.idxRN T hs kb rfl rfl hkb rfl rfl rfl (Nat.mod_lt _ hm0)) ⟨_, _, 0, 1, hgl, hs, rfl, rfl⟩ rfl (by kernel_rfl) (by kernel_rfl) (by kernel_rfl) ?_
  refine HW.takeG (fuel := 1) 9 rfl (fun _ _ ka kb _ hg hs hka hkb => Y.ldRInt T hs kb rfl hkb rfl rfl (Nat.mod_lt _ hm0)) ⟨_, _, 0, 1, hgl, hs, rfl, rfl⟩ rfl (by kernel_rfl) (by kernel_rfl) (by kernel_rfl) ?_
  refine HW.takeG (fuel := 0) 10 rfl (fun _ _ ka kb _ hg hs hka hkb => Y.assign rfl) ⟨_, _, 0, 1, hgl, hs, rfl, rfl⟩ rfl (by kernel_rfl) (by kernel_rfl) (by kernel_rfl) ?_
  refine HW.done (by kernel_rfl) ?_
  refine calmQ_normal ?_
  refine Zerun ?_
  refine retM_ret [_] _ _ ⟨rfl, trivial⟩ (GLe.refl _) hs.drop ⟨rfl, rfl, ?_⟩
  show Value.int _ _ = Value.int _ _
  congr 1
  rcases hfd with hneg | ⟨i, hSi, hsi, hel⟩
  · have hmiss := look_miss noItem ok hp (by rw [hml]; exact hneg)
    have hno : ixOf (itemsV (plain k) v) ((itemsV (plain k) u).getD j noItem) = (itemsV (plain k) v).length := ixOf_not (fun j' hj' => hmiss j' hj' (by omega))
    rw [hno, if_neg (by omega)]
    rcases ok.rng ((keyIt (keyP k) ((itemsV (plain k) u).getD j noItem) + d) % m) (by rw [hml]; exact Nat.mod_lt _ hm0) with e | ⟨i, _, e⟩
    · exact e
    · omega
  · obtain ⟨h1, h2⟩ := look_hit (x := (itemsV (plain k) u).getD j noItem) noItem ok (d := d) (by rw [hml]; exact hsi) (by omega) hel
    rw [h2, if_pos (by omega)]
    exact hsi
theorem hashPut_conM (k : Nat) (bt bs m i : Nat) (cs : List Value) (v : VecD (AD k)) (sl : List Int) (w0 w : World) (h0 h : GHeap) (O : List Row)
    (hT : TblAt h bt cs bs m) (hv : VecAt (ArrAt k) h cs v) (hi : i < v.len) (qv : ∀ x ∈ v.boxes, sml k x)
    (hm : ∃ e, m = 2 ^ e) (hml : sl.length = m) (hm2 : m ≤ 4194304) (ok : TabOk (keyIt (keyP k)) (elsOf (itemsV (plain k) v)) (Firsts (itemsV (plain k) v) i) i sl) (hc : i < m) :
    ConM Try.prog 157 [.pointer (some ⟨bt, 0, none⟩), .int .i64 i] w0 h0 h (slotRow bs m sl :: O) w
      (fun h' O' r => h = h' ∧ ∃ sl', O' = slotRow bs m sl' :: O ∧ sl'.length = m ∧ TabOk (keyIt (keyP k)) (elsOf (itemsV (plain k) v)) (Firsts (itemsV (plain k) v) (i + 1)) (i + 1) sl' ∧ r = .int .i64 (ixOf (itemsV (plain k) v) ((itemsV (plain k) v).getD i noItem) : Nat)) := by
  have hv' := hv
  obtain ⟨wv, nv, sm, il, fl, ch, bx, ⟨rfl, hoc⟩, _⟩ := hv
  have hlen := itemsV_len (plain k) hv'
  have hm0 : 0 < m := by omega
  have hiL : i < (itemsV (plain k) v).length := by omega
  have hgi : (itemsV (plain k) v).getD i noItem = (itemsV (plain k) v)[i] := by rw [List.getD_eq_getElem?_getD, List.getElem?_eq_getElem hiL]; rfl
  refine ConM.of_body Try.func157 rfl Try.ntmps157 rfl rfl ?_
  intro hs
  refine Zrun ?_
  refine RW.val (Y.nilCheck rfl) rfl ?_
  refine Zrun ?_
  refine RW.val (Y.ldFN T hs hT rfl rfl rfl rfl rfl rfl rfl) rfl ?_
  refine Zrun ?_
  (refine RW.callM T hs rfl rfl rfl (hashFind_conM k bt bs m 0 _ _ v v i _ _ sl _ _ _ _ _ hT hv' hv' hi qv qv hm hml hm2 ok (fun i hi => by rw [← hlen]; exact hi.2.1) hc rfl) ?_; intro v h2 O2 w2 hle2 hp2 hs)
  obtain ⟨rfl, rfl, d, hp, rfl, hfd⟩ := hp2
  obtain ⟨p, hpe⟩ : ∃ p, (keyIt (keyP k) ((itemsV (plain k) v).getD i noItem) + d) % m = p := ⟨_, rfl⟩
  have hpm : p < m := hpe ▸ Nat.mod_lt _ hm0
  rw [hpe] at hfd ⊢
  have hpe' : (keyIt (keyP k) (elsOf (itemsV (plain k) v) i) + d) % sl.length = p := by rw [hml]; exact hpe
  refine Zerun ?_
  refine RW.val (Y.nilCheck rfl) rfl ?_
  refine Zerun ?_
  refine RW.val (Y.ldF1 T hs hT rfl rfl rfl rfl rfl) rfl ?_
  refine Zerun ?_
  refine RW.val (Y.idxRN T hs 0 rfl rfl rfl rfl rfl rfl hpm) rfl ?_
  refine RW.val (Y.ldRInt T hs 0 rfl rfl rfl rfl hpm) rfl ?_
  rcases hfd with hneg | ⟨i', hSi, hsi, hel⟩
  · have hnew := ok.put (k := i) hp (by rw [hpe']; exact hneg) (by omega)
    have hmiss := look_miss (x := (itemsV (plain k) v).getD i noItem) noItem ok hp (by rw [hml, hpe]; exact hneg)
    have hix : ixOf (itemsV (plain k) v) ((itemsV (plain k) v).getD i noItem) = i := by
      refine ixOf_of hiL hgi.symm (fun j' hj' => ?_)
      exact hmiss j' (by omega) hj'
    rw [hpe'] at hnew
    refine Zerun ?_
    refine RW.val (Y.nilCheck rfl) rfl ?_
    refine Zerun ?_
    refine RW.val (Y.ldF1 T hs hT rfl rfl rfl rfl rfl) rfl ?_
    refine Zerun ?_
    refine RW.val (Y.idxRN T hs 0 rfl rfl rfl rfl rfl rfl hpm) rfl ?_
    refine RW.st1 T hs 0 rfl rfl rfl rfl rfl rfl rfl hpm ?_
    intro w7 hs
    dsimp only [slotRow, List.set_cons_zero] at hs
    rw [map_set_int] at hs
    refine Zerun ?_
    refine RW.val (Y.nilCheck rfl) rfl ?_
    refine Zerun ?_
    refine RW.val (Y.ldF1 T hs hT rfl rfl rfl rfl rfl) rfl ?_
    refine Zerun ?_
    refine RW.val (Y.idxRN T hs 0 rfl rfl rfl rfl rfl rfl hpm) rfl ?_
    refine RW.val (Y.ldRInt T hs 0 rfl rfl rfl rfl hpm) rfl ?_
    rw [getD_setI _ _ _ _ _ (by omega), if_pos rfl]
    refine Zerun ?_
    refine retM_ret [_] _ _ ⟨rfl, trivial⟩ (GLe.refl _) hs ⟨rfl, sl.set p (i : Int), rfl, by rw [List.length_set]; exact hml, hnew.keep (fun z => firsts_new hiL (by rw [← hgi]; exact hix) z) (Nat.le_refl _), ?_⟩
    rw [hix]; rfl
  · obtain ⟨h1, h2⟩ := look_hit (x := (itemsV (plain k) v).getD i noItem) noItem ok (d := d) (by rw [hml, hpe]; exact hsi) (by omega) hel
    rw [hsi]
    refine Zerun ?_
    refine RW.val (Y.nilCheck rfl) rfl ?_
    refine Zerun ?_
    refine RW.val (Y.ldF1 T hs hT rfl rfl rfl rfl rfl) rfl ?_
    refine Zerun ?_
    refine RW.val (Y.idxRN T hs 0 rfl rfl rfl rfl rfl rfl hpm) rfl ?_
    refine RW.val (Y.ldRInt T hs 0 rfl rfl rfl rfl hpm) rfl ?_
    rw [hsi]
    refine Zerun ?_
    refine retM_ret [_] _ _ ⟨rfl, trivial⟩ (GLe.refl _) hs ⟨rfl, sl, rfl, hml, ok.keep (fun z => firsts_old hiL (by rw [← hgi]; omega) z) (by omega), ?_⟩
    rw [h2]; rfl
theorem hashTable_conM (k : Nat) (cs : List Value) (v : VecD (AD k)) (w0 w : World) (h0 h : GHeap) (O : List Row) (hv : VecAt (ArrAt k) h cs v) (qv : ∀ x ∈ v.boxes, sml k x) (hm : v.len ≤ 1048576) :
    ConM Try.prog 150 [.agg cs.toArray] w0 h0 h O w
      (fun h' O' r => ∃ bt bs m sl, r = .pointer (some ⟨bt, 0, none⟩) ∧ TblAt h' bt cs bs m ∧ O' = slotRow bs m sl :: O ∧ (∃ e, m = 2 ^ e) ∧ sl.length = m ∧ m ≤ 4194304 ∧ v.len < m ∧ TabOk (keyIt (keyP k)) (elsOf (itemsV (plain k) v)) (Firsts (itemsV (plain k) v) v.len) v.len sl) := by
  have hR := ArrAt.mono k
  have hv' := hv
  obtain ⟨wv, nv, sm, il, fl, ch, bx, ⟨rfl, hoc⟩, _⟩ := hv
  refine ConM.of_body Try.func150 rfl Try.ntmps150 rfl rfl ?_
  intro hs
  refine Zrun ?_
  (refine RW.boxN hs rfl rfl ?_; intro b1 w1 hs)
  refine Zrun ?_
  refine CW.meet (fun q : Nat × Nat × Nat × GHeap => [(1, .pointer (some ⟨b1, 0, none⟩)), (3, .pointer (some ⟨q.1, 0, none⟩))]) (fun q w' => TblAt q.2.2.2 q.1 (vecCells v.kind wv nv sm il fl ch bx) q.2.1 q.2.2.1 ∧ (∃ e, q.2.2.1 = 2 ^ e) ∧ 2 * v.len ≤ q.2.2.1 ∧ 8 ≤ q.2.2.1 ∧ q.2.2.1 ≤ 4194304 ∧ GLe h q.2.2.2 ∧ Sees w0 h0 q.2.2.2 (slotRow q.2.1 q.2.2.1 (List.replicate q.2.2.1 (-1)) :: ⟨some ⟨b1, 0, none⟩, 1, 1, 61, 8, vecCells v.kind wv nv sm il fl ch bx⟩ :: O) w') ?_ ?_
  · refine CW.regionR T 0 0 hs rfl rfl ?_
    intro w4 hs
    refine HW.takeR (fuel := 4) 0 rfl (fun _ _ ka kb _ hs hka hkb => Y.loadRowN T hs ka hka rfl rfl rfl rfl rfl rfl) ⟨_, _, 0, 0, hs, rfl, rfl⟩ rfl (by kernel_rfl) (by kernel_rfl) (by kernel_rfl) ?_
    refine HW.takeR (fuel := 3) 1 rfl (fun _ _ ka kb _ hs hka hkb => Y.loadRowN T hs ka hka rfl rfl rfl rfl rfl rfl) ⟨_, _, 0, 0, hs, rfl, rfl⟩ rfl (by kernel_rfl) (by kernel_rfl) (by kernel_rfl) ?_
    refine HW.one (fuel := 2) 2 rfl (by kernel_rfl) ?_
    (refine RW.call T hs rfl rfl rfl (vecLen_con _ v _ _ hv') ?_; intro v h7 w7 hle7 hp7 hs)
    subst hp7
    have hv' := hv'.mono hR hle7
    refine RW.nil ?_
    refine heldQ_normal ⟨_, _, 0, 0, hs, rfl, rfl⟩ ?_
    refine HW.one (fuel := 1) 3 rfl (by kernel_rfl) ?_
    (refine RW.callM T hs rfl rfl rfl (hashNew_conM hR _ v v.len _ _ _ _ _ hv' hm) ?_; intro v h8 O8 w8 hle8 hp8 hs)
    obtain ⟨bt, bs, m, rfl, hT, rfl, hpow, hm1, hm2, hm3⟩ := hp8
    skip
    refine RW.nil ?_
    refine heldQ_normal ⟨_, _, 1, 1, hs, rfl, rfl⟩ ?_
    refine HW.takeR (fuel := 0) 4 rfl (fun _ _ ka kb _ hs hka hkb => Y.assign rfl) ⟨_, _, 1, 1, hs, rfl, rfl⟩ rfl (by kernel_rfl) (by kernel_rfl) (by kernel_rfl) ?_
    refine HW.done (by kernel_rfl) ?_
    refine calmQ_normal ?_
    exact joinQ_meet (bt, bs, m, h8) ⟨rfl, rfl, trivial⟩ ⟨hT, hpow, hm1, hm2, hm3, hle7.trans hle8, hs⟩
  rintro ⟨bt, bs, m, h2⟩ w5 ⟨hT, hpow, hm1, hm2, hm3, hg, hs⟩
  dsimp only at hT hpow hm1 hm2 hm3 hg hs ⊢
  have hv' := hv'.mono hR hg
  refine Zerun ?_
  (refine RW.call T hs rfl rfl rfl (vecLen_con _ v _ _ hv') ?_; intro v h6 w6 hle6 hp6 hs)
  subst hp6
  have hv' := hv'.mono hR hle6
  have hT : TblAt h6 bt _ bs m := Sl.mono hle6 hT
  have ok0 : TabOk (keyIt (keyP k)) (elsOf (itemsV (plain k) v)) (Firsts (itemsV (plain k) v) 0) 0 (List.replicate m (-1)) := (TabOk.empty _ _ m).keep (fun z => ⟨fun h => absurd h.1 (Nat.not_lt_zero _), fun h => h.elim⟩) (Nat.le_refl _)
  refine Zerun ?_
  refine CW.loop (fun q : Nat × List Int => [(3, .pointer (some ⟨bt, 0, none⟩)), (10, .int .i64 v.len), (11, .int .i64 q.1)]) (fun q w' => q.1 ≤ v.len ∧ q.2.length = m ∧ TabOk (keyIt (keyP k)) (elsOf (itemsV (plain k) v)) (Firsts (itemsV (plain k) v) q.1) q.1 q.2 ∧ Sees w0 h0 h6 (slotRow bs m q.2 :: ⟨some ⟨b1, 0, none⟩, 1, 1, 61, 8, vecCells v.kind wv nv sm il fl ch bx⟩ :: O) w') (fun q => v.len - q.1) (0, List.replicate m (-1)) ⟨rfl, rfl, rfl, trivial⟩ ⟨by omega, List.length_replicate .., ok0, hs⟩ ?_
  rintro ⟨i, sl⟩ w7 ⟨hi, hml, ok, hs⟩
  dsimp only at hi hml ok hs ⊢
  by_cases hlt : i < v.len
  · refine Zerun ?_
    (refine RW.callM T hs rfl rfl rfl (hashPut_conM k bt bs m i _ v sl _ _ _ _ _ hT hv' hlt qv hpow hml hm3 ok (by omega)) ?_; intro v h8 O8 w8 hle8 hp8 hs)
    obtain ⟨rfl, sl', rfl, hml', ok', rfl⟩ := hp8
    refine Zerun ?_
    exact loopQ_round (i + 1, sl') ⟨rfl, rfl, rfl, trivial⟩ ⟨by dsimp only; omega, hml', ok', hs⟩ (by dsimp only; omega)
  have e : i = v.len := by omega
  subst e
  refine Zerun ?_
  exact retM_ret [_] _ _ ⟨rfl, trivial⟩ (hg.trans hle6) hs.swap.drop ⟨bt, bs, m, sl, rfl, hT, rfl, hpow, hml, hm3, by omega, ok⟩
end Go.Proofs.Ythbfkhklihejiaa

/-
  Contracts of functions of packages vec and flat: no elements, what stands for none, elements of a list at some places. No statement is proved here.
-/
namespace Go.Proofs.Ythbfkhklihejiaa
open Go Go.RowKit
set_option linter.unusedVariables false
set_option linter.unusedSimpArgs false
set_option maxHeartbeats 4000000
attribute [local irreducible] CW RW QW SW HW ConM retM heldQ calmQ elemP thenQ blockQ loopQ joinQ retQ Yields Con Sl zF magR unitF truncF fwF wholeF tidySpec elemQ rankF leastN tidyW

theorem bits_none (h : GHeap) : BitsAt h (.slice none 0 0) [] := ⟨Nat.zero_le _, [], RowAt.nil h, ⟨rfl, ⟨fun u hu => (by cases hu), fun i => (by simp)⟩⟩⟩
theorem putCells_mid : ∀ (cs pre mid suf : List Value), mid.length = cs.length → putCells (pre ++ (mid ++ suf)) pre.length cs = pre ++ (cs ++ suf)
  | [], pre, mid, suf, h => by
    have : mid = [] := List.eq_nil_of_length_eq_zero h
    subst this; rfl
  | c :: r, pre, [], suf, h => by simp at h
  | c :: r, pre, m :: mid, suf, h => by
    simp only [putCells]
    have e : (pre ++ (m :: mid ++ suf)).set pre.length c = (pre ++ [c]) ++ (mid ++ suf) := by simp
    rw [e]
    have := putCells_mid r (pre ++ [c]) mid suf (by simpa using h)
    simp only [List.length_append, List.length_singleton] at this
    rw [this]
    simp
section
variable {α : Type} {R : GHeap → List Value → α → Prop}
/-- no elements of a class -/
def noneV (c : Int) : VecD α := if c = 1 then ⟨5, [], [], []⟩ else if c = 2 then ⟨6, [], [], []⟩ else ⟨1, [], [], []⟩
theorem vecNone_con (hR : Mono R) (h1 : One R) (c : Int) (w : World) (h : GHeap) : Con Try.prog 144 [.int .i64 c] w h (fun h' u => ∃ cs', u = .agg cs'.toArray ∧ VecAt R h' cs' (noneV c)) := by
  refine Con.of_body Try.func144 rfl Try.ntmps144 rfl rfl ?_
  intro hs
  refine Zrun ?_
  (refine RW.allocN T hs rfl rfl rfl rfl ?_; intro b1 w1 hs)
  refine Zerun ?_
  unfold noneV
  by_cases c1 : c = 1
  · rw [if_pos c1]
    refine Zerun ?_
    (refine RW.call T hs rfl rfl rfl (vecChars_con (R := R) _ [] _ _ (RowAt.nil _) (by simp)) ?_; intro v h2 w2 hle2 hp2 hs)
    obtain ⟨cs2, rfl, hv2⟩ := hp2
    have hv2' := hv2
    obtain ⟨wv, nv, sm, il, fl, ch, bx, ⟨rfl, hoc⟩, _⟩ := hv2
    (refine RW.storeAll T hs 0 rfl rfl rfl rfl rfl rfl hoc rfl ?_; intro w3 hs)
    refine Zerun ?_
    exact retQ_ret [_] h2 ⟨resN T hs 0 rfl rfl rfl rfl rfl rfl, trivial⟩ hs.dropAll ⟨_, rfl, hv2'⟩
  rw [if_neg c1]
  by_cases c2 : c = 2
  · rw [if_pos c2]
    refine Zerun ?_
    (refine RW.call T hs rfl rfl rfl (vecBoxes_con (R := R) hR h1 _ [] _ _ (RowsAt.nil _) (by simp)) ?_; intro v h2 w2 hle2 hp2 hs)
    obtain ⟨cs2, rfl, hv2⟩ := hp2
    have hv2' := hv2
    obtain ⟨wv, nv, sm, il, fl, ch, bx, ⟨rfl, hoc⟩, _⟩ := hv2
    (refine RW.storeAll T hs 0 rfl rfl rfl rfl rfl rfl hoc rfl ?_; intro w3 hs)
    refine Zerun ?_
    exact retQ_ret [_] h2 ⟨resN T hs 0 rfl rfl rfl rfl rfl rfl, trivial⟩ hs.dropAll ⟨_, rfl, hv2'⟩
  rw [if_neg c2]
  refine Zerun ?_
  refine RW.val (Y.build T rfl rfl rfl rfl rfl rfl rfl) rfl ?_
  (refine RW.call T hs rfl rfl rfl (vecBits_con (R := R) _ [] _ _ (bits_none _)) ?_; intro v h2 w2 hle2 hp2 hs)
  obtain ⟨cs2, rfl, hv2⟩ := hp2
  have hv2' := hv2
  obtain ⟨wv, nv, sm, il, fl, ch, bx, ⟨rfl, hoc⟩, _⟩ := hv2
  (refine RW.storeAll T hs 0 rfl rfl rfl rfl rfl rfl hoc rfl ?_; intro w3 hs)
  refine Zerun ?_
  exact retQ_ret [_] h2 ⟨resN T hs 0 rfl rfl rfl rfl rfl rfl, trivial⟩ hs.dropAll ⟨_, rfl, hv2'⟩
theorem flatBlank_con (hR : Mono R) (h1 : One R) (w : World) (h : GHeap) : Con Try.prog 68 [] w h (fun h' u => ∃ cs', u = .agg cs'.toArray ∧ ArrR R h' cs' ⟨[0], ⟨1, [], [], []⟩⟩) := by
  refine Con.of_body Try.func68 rfl Try.ntmps68 rfl rfl ?_
  intro hs
  refine Zrun ?_
  (refine RW.allocN T hs rfl rfl rfl rfl ?_; intro b1 w1 hs)
  refine Zerun ?_
  (refine RW.lit T hs (vs := [.int .i64 0]) (cs := [.int .i64 0]) rfl rfl rfl rfl (by simp [Value.cells]) rfl rfl rfl rfl rfl ?_; intro b2 w2 hs)
  obtain ⟨h3, hle3, hs, hS3⟩ := hs.freeze
  have hI3 : IntsAt h3 (.slice (some ⟨b2, 0, none⟩) 1 1) [0] := IntsAt.of_sl hS3
  (refine RW.call T hs rfl rfl rfl (vecNone_con (R := R) hR h1 0 _ _) ?_; intro v h4 w4 hle4 hp4 hs)
  obtain ⟨cs4, rfl, hv4⟩ := hp4
  have hv4' : VecAt R h4 cs4 ⟨1, [], [], []⟩ := hv4
  have hv5 := hv4'
  obtain ⟨wv, nv, sm, il, fl, ch, bx, ⟨rfl, hoc⟩, _⟩ := hv5
  refine RW.val (Y.build T rfl rfl rfl rfl rfl rfl rfl) rfl ?_
  (refine RW.storeAll T hs 0 rfl rfl rfl rfl rfl rfl hoc rfl ?_; intro w5 hs)
  refine Zerun ?_
  exact retQ_ret [_] h4 ⟨resN T hs 0 rfl rfl rfl rfl rfl rfl, trivial⟩ hs.dropAll ⟨_, rfl, _, _, rfl, hI3.mono hle4, hv4'⟩
theorem flatFrom_con (cs : List Value) (v : VecD α) (i : Int) (w : World) (h : GHeap) (hv : VecAt R h cs v) : Con Try.prog 139 [.agg cs.toArray, .int .i64 i] w h (fun _ u => u = .float .f64 (v.num i)) := by
  have hv' := hv
  obtain ⟨wv, nv, sm, il, fl, ch, bx, ⟨rfl, hoc⟩, _⟩ := hv
  refine Con.of_body Try.func139 rfl Try.ntmps139 rfl rfl ?_
  intro hs
  refine Zrun ?_
  (refine RW.boxN hs rfl rfl ?_; intro b1 w1 hs)
  refine Zerun ?_
  (refine RW.call T hs rfl rfl rfl (vecNum_con _ v i _ _ hv') ?_; intro v h2 w2 hle2 hp2 hs)
  subst hp2
  refine Zerun ?_
  exact retQ_ret [_] h2 ⟨rfl, trivial⟩ hs.dropAll rfl
end
/-- the elements of a list at a place; another one, where there is no such place -/
def atD {γ : Type} (l : List γ) (i : Int) (d : γ) : γ := if 0 ≤ i then l.getD i.toNat d else d
theorem atD_in {γ : Type} {l : List γ} {i : Int} {d : γ} (h : 0 ≤ i ∧ i < l.length) : atD l i d = l.getD i.toNat d := by unfold atD; rw [if_pos h.1]
theorem atD_out {γ : Type} {l : List γ} {i : Int} {d : γ} (h : ¬ (0 ≤ i ∧ i < l.length)) : atD l i d = d := by
  unfold atD
  by_cases c : 0 ≤ i
  · rw [if_pos c, List.getD_eq_getElem?_getD, List.getElem?_eq_none (by omega)]; rfl
  · rw [if_neg c]
theorem getD_any {γ : Type} (l : List γ) (k : Nat) (a b : γ) (h : k < l.length) : l.getD k a = l.getD k b := by simp [List.getD_eq_getElem?_getD, h]
theorem getElem_getD {γ : Type} (l : List γ) (k : Nat) (d : γ) (h : k < l.length) : l[k] = l.getD k d := by simp [List.getD_eq_getElem?_getD, h]
theorem set_again {β : Type} (a r : List β) (z v : β) : ((a ++ [z]) ++ r).set a.length v = (a ++ [v]) ++ r := by simp
theorem thoseRune_con (v v1 : Value) (l at_ : List Int) (d : Int) (w : World) (h : GHeap) (hl : KAt .i32 h v l) (ha : IntsAt h v1 at_) (hm : at_.length ≤ 1048576) : Con Try.prog 140 [v, v1, .int .i32 d] w h (fun h' u => KAt .i32 h' u (at_.map fun i => atD l i d)) := by
  obtain ⟨ad, cp, rfl, hS⟩ := hl
  obtain ⟨ad1, cp1, rfl, hS1⟩ := ha
  have hlen : l.length ≤ 9223372036854775807 := by have := hS.caps; omega
  refine Con.of_body Try.func140 rfl Try.ntmps140 rfl rfl ?_
  intro hs
  refine Zerun ?_
  (refine RW.make1 T hs rfl rfl rfl rfl rfl rfl rfl (by dsimp only; omega) (by omega) ?_; intro b3 w3 hs)
  refine Zerun ?_
  refine CW.loop (fun i : Nat => [(0, .slice ad l.length cp), (1, .slice ad1 at_.length cp1), (2, .int .i32 d), (7, .slice (some ⟨b3, 0, none⟩) at_.length at_.length), (13, .slice ad1 at_.length cp1), (14, .int .i64 at_.length), (15, .int .i64 i)]) (fun i w' => i ≤ at_.length ∧ Sees w h h [⟨some ⟨b3, 0, none⟩, at_.length, at_.length, 21, 1, ((at_.take i).map fun i => atD l i d).map (Value.int .i32) ++ List.replicate (at_.length - i) (.int .i32 0)⟩] w') (fun i => at_.length - i) 0 ⟨rfl, rfl, rfl, rfl, rfl, rfl, rfl, trivial⟩ ⟨by omega, by simpa using hs⟩ ?_
  rintro i w5 ⟨hi, hs⟩
  by_cases hlt : i < at_.length
  · have htk := take_succ_getD at_ i 0 hlt
    have ga := map_get (Value.int .i64) at_ i 0 hlt
    have fin : ∀ x : Int, x = atD l (at_.getD i 0) d → ((at_.take i).map fun i => atD l i d).map (Value.int .i32) ++ [Value.int .i32 x] ++ List.replicate (at_.length - i - 1) (.int .i32 0) = ((at_.take (i + 1)).map fun i => atD l i d).map (Value.int .i32) ++ List.replicate (at_.length - (i + 1)) (.int .i32 0) := by
      intro x hx
      rw [htk, List.map_append, List.map_append, hx, show at_.length - (i + 1) = at_.length - i - 1 by omega]; rfl
    have e1 := set_snoc (((at_.take i).map fun i => atD l i d).map (Value.int .i32)) (at_.length - i) (Value.int .i32 0) (Value.int .i32 d) (by omega)
    simp only [List.length_map, List.length_take, Nat.min_eq_left hi] at e1
    refine Zerun ?_
    refine RW.val (Y.idxRN T hs 0 rfl rfl rfl rfl rfl rfl ?_) rfl ?_
    · omega
    refine RW.st1 T hs 0 rfl rfl rfl rfl rfl rfl rfl (by omega) ?_
    intro w6 hs
    replace hs := hs.re e1
    refine Zerun ?_
    have done : ∀ (x : Int) (w' : World), x = atD l (at_.getD i 0) d → Sees w h h [⟨some ⟨b3, 0, none⟩, at_.length, at_.length, 21, 1, ((at_.take i).map fun i => atD l i d).map (Value.int .i32) ++ [Value.int .i32 x] ++ List.replicate (at_.length - i - 1) (.int .i32 0)⟩] w' → Sees w h h [⟨some ⟨b3, 0, none⟩, at_.length, at_.length, 21, 1, ((at_.take (i + 1)).map fun i => atD l i d).map (Value.int .i32) ++ List.replicate (at_.length - (i + 1)) (.int .i32 0)⟩] w' := fun x w' hx hs => hs.re (fin x hx)
    by_cases c1 : at_.getD i 0 < 0
    · refine Zerun ?_
      exact loopQ_round (i + 1) ⟨rfl, rfl, rfl, rfl, rfl, rfl, rfl, trivial⟩ ⟨by omega, done d _ (atD_out (by omega)).symm hs⟩ (by omega)
    by_cases c2 : ¬ at_.getD i 0 < l.length
    · refine Zerun ?_
      exact loopQ_round (i + 1) ⟨rfl, rfl, rfl, rfl, rfl, rfl, rfl, trivial⟩ ⟨by omega, done d _ (atD_out (by omega)).symm hs⟩ (by omega)
    have hlk : (at_.getD i 0).toNat < l.length := by omega
    refine Zerun ?_
    refine RW.val (Y.idxRN T hs 0 rfl rfl rfl rfl rfl rfl ?_) rfl ?_
    · omega
    refine RW.st1 T hs 0 rfl rfl rfl rfl rfl rfl rfl (by omega) ?_
    intro w7 hs
    have e2 := set_again (((at_.take i).map fun i => atD l i d).map (Value.int .i32)) (List.replicate (at_.length - i - 1) (.int .i32 0)) (Value.int .i32 d) (Value.int .i32 (l.getD (at_.getD i 0).toNat 0))
    simp only [List.length_map, List.length_take, Nat.min_eq_left hi] at e2
    replace hs := hs.re e2
    refine Zerun ?_
    refine loopQ_round (i + 1) ⟨rfl, rfl, rfl, rfl, rfl, rfl, rfl, trivial⟩ ⟨by omega, done _ _ ?_ hs⟩ (by omega)
    rw [atD_in (by omega)]
    exact getD_any l _ 0 d hlk
  · obtain rfl : i = at_.length := by omega
    rw [List.take_length, Nat.sub_self, List.replicate_zero, List.append_nil] at hs
    obtain ⟨h6, hle6, hs, hS6⟩ := hs.freeze
    refine Zerun ?_
    refine retQ_ret [_] h6 ⟨rfl, trivial⟩ hs.dropAll ?_
    have := RowAt.of_sl (mk := Value.int .i32) hS6
    exact this
theorem length_zeros (n : Nat) : (madeCells (#[.slice none 0 0, .int .i64 0, .slice none 0 0, .int .i64 0, .slice none 0 0, .slice none 0 0, .slice none 0 0, .slice none 0 0, .slice none 0 0] : Array Value) (n * 9)).toList.length = n * 9 := by
  simp [madeCells]
section
variable {α : Type} {R : GHeap → List Value → α → Prop}
theorem thoseArr_con (hR : Mono R) (h1 : One R) (h9 : Siz 9 R) (v v1 : Value) (l : List α) (at_ : List Int) (cs : List Value) (d : α) (w : World) (h : GHeap) (hl : RowsAt 9 (R h) h v l) (ha : IntsAt h v1 at_) (hd : R h cs d) (hm : at_.length ≤ 1048576) : Con Try.prog 142 [v, v1, .agg cs.toArray] w h (fun h' u => RowsAt 9 (R h') h' u (at_.map fun i => atD l i d)) := by
  obtain ⟨ad, cp, xs, rfl, hS, hA⟩ := hl
  obtain ⟨ad1, cp1, rfl, hS1⟩ := ha
  have hlen : l.length ≤ 9223372036854775807 := by have := hS.caps; omega
  have hl9 := h9 _ _ _ hd
  have ho9 := h1 _ _ _ hd
  refine Con.of_body Try.func142 rfl Try.ntmps142 rfl rfl ?_
  intro hs
  refine Zrun ?_
  (refine RW.boxN hs rfl rfl ?_; intro b1 w1 hs)
  refine Zerun ?_
  (refine RW.make T hs rfl rfl rfl rfl rfl ?_ ?_ ?_ ?_ ?_; omega; omega; (dsimp only; omega); omega; intro b3 w3 hs)
  rw [Int.toNat_natCast] at hs ⊢
  have hzl := length_zeros at_.length
  generalize hz : (madeCells (#[.slice none 0 0, .int .i64 0, .slice none 0 0, .int .i64 0, .slice none 0 0, .slice none 0 0, .slice none 0 0, .slice none 0 0, .slice none 0 0] : Array Value) (at_.length * 9)).toList = zs at hzl
  have hs : Sees w h h [⟨some ⟨b3, 0, none⟩, at_.length, at_.length, 63, 9, [] ++ zs⟩, ⟨some ⟨b1, 0, none⟩, 1, 1, 63, cs.length, cs⟩] w3 := by rw [← hz]; exact hs
  refine Zerun ?_
  refine CW.loop (fun u : Nat × List Value × List Value => [(0, .slice ad l.length cp), (1, .slice ad1 at_.length cp1), (5, .pointer (some ⟨b1, 0, none⟩)), (7, .slice (some ⟨b3, 0, none⟩) at_.length at_.length), (13, .slice ad1 at_.length cp1), (14, .int .i64 at_.length), (15, .int .i64 u.1)]) (fun u w' => u.1 ≤ at_.length ∧ u.2.2.length = (at_.length - u.1) * 9 ∧ AllN 9 (R h) u.2.1 ((at_.take u.1).map fun i => atD l i d) ∧ Sees w h h [⟨some ⟨b3, 0, none⟩, at_.length, at_.length, 63, 9, u.2.1 ++ u.2.2⟩, ⟨some ⟨b1, 0, none⟩, 1, 1, 63, cs.length, cs⟩] w') (fun u => at_.length - u.1) (0, [], zs) ⟨rfl, rfl, rfl, rfl, rfl, rfl, rfl, trivial⟩ ⟨by omega, by simpa using hzl, rfl, hs⟩ ?_
  rintro ⟨i, vs, zs⟩ w5 ⟨hi, hzl, hAv, hs⟩
  dsimp only at hi hzl hAv hs ⊢
  by_cases hlt : i < at_.length
  · have htk := take_succ_getD at_ i 0 hlt
    have ga := map_get (Value.int .i64) at_ i 0 hlt
    have hvl : vs.length = i * 9 := by rw [hAv.length]; simp [Nat.min_eq_left hi]
    have hz9 : (zs.take 9).length = 9 := by rw [List.length_take]; have : 9 ≤ zs.length := by rw [hzl]; omega
                                            omega
    have hput := putCells_mid cs vs (zs.take 9) (zs.drop 9) (by rw [hz9, hl9])
    rw [List.take_append_drop, hvl] at hput
    have hzd : (zs.drop 9).length = (at_.length - (i + 1)) * 9 := by rw [List.length_drop, hzl]; omega
    refine Zerun ?_
    refine RW.val (Y.loadRowN (cs := cs) T hs 1 rfl rfl rfl rfl rfl (List.take_of_length_le (by rw [List.drop_zero]; exact Nat.le_of_eq hl9)) hl9) rfl ?_
    refine RW.val (Y.idxRN T hs 0 rfl rfl rfl rfl rfl rfl ?_) rfl ?_
    · omega
    refine RW.stN T hs 0 rfl rfl rfl rfl rfl (by simpa using hl9) (by simpa using ho9) rfl (by omega) ?_
    intro w6 hs
    have hs : Sees w h h [⟨some ⟨b3, 0, none⟩, at_.length, at_.length, 63, 9, vs ++ (cs ++ zs.drop 9)⟩, ⟨some ⟨b1, 0, none⟩, 1, 1, 63, cs.length, cs⟩] w6 := by rw [← hput]; exact hs
    have hlen2 : ∀ ys : List Value, ys.length = 9 → (vs ++ (ys ++ zs.drop 9)) = (vs ++ ys) ++ zs.drop 9 := fun ys _ => by simp
    have done : ∀ (ys : List Value) (x : α), R h ys x → x = atD l (at_.getD i 0) d → AllN 9 (R h) (vs ++ ys) ((at_.take (i + 1)).map fun i => atD l i d) := by
      intro ys x hy hx
      rw [htk, List.map_append]
      show AllN 9 (R h) (vs ++ ys) (_ ++ [atD l (at_.getD i 0) d])
      rw [← hx]
      exact hAv.append (AllN.one (h9 _ _ _ hy) hy)
    refine Zerun ?_
    by_cases c1 : at_.getD i 0 < 0
    · refine Zerun ?_
      exact loopQ_round (i + 1, vs ++ cs, zs.drop 9) ⟨rfl, rfl, rfl, rfl, rfl, rfl, rfl, trivial⟩ ⟨by dsimp only; omega, hzd, done cs d hd (atD_out (by omega)).symm, by dsimp only; rw [← hlen2 cs hl9]; exact hs⟩ (by dsimp only; omega)
    by_cases c2 : ¬ at_.getD i 0 < l.length
    · refine Zerun ?_
      exact loopQ_round (i + 1, vs ++ cs, zs.drop 9) ⟨rfl, rfl, rfl, rfl, rfl, rfl, rfl, trivial⟩ ⟨by dsimp only; omega, hzd, done cs d hd (atD_out (by omega)).symm, by dsimp only; rw [← hlen2 cs hl9]; exact hs⟩ (by dsimp only; omega)
    have hlk : (at_.getD i 0).toNat < l.length := by omega
    obtain ⟨y, hy, hyl, hRy⟩ := hA.elem _ hlk
    have hoy := h1 _ _ _ hRy
    refine Zerun ?_
    refine RW.val (Y.idxRN T hs 0 rfl rfl rfl rfl rfl rfl ?_) rfl ?_
    · omega
    refine RW.stN T hs 0 rfl rfl rfl rfl rfl (by simpa using hyl) (by simpa using hoy) rfl (by omega) ?_
    intro w7 hs
    have hput2 := putCells_mid y vs cs (zs.drop 9) (by rw [hl9, hyl])
    rw [hvl] at hput2
    have hs : Sees w h h [⟨some ⟨b3, 0, none⟩, at_.length, at_.length, 63, 9, vs ++ (y ++ zs.drop 9)⟩, ⟨some ⟨b1, 0, none⟩, 1, 1, 63, cs.length, cs⟩] w7 := by rw [← hput2]; exact hs
    refine Zerun ?_
    refine loopQ_round (i + 1, vs ++ y, zs.drop 9) ⟨rfl, rfl, rfl, rfl, rfl, rfl, rfl, trivial⟩ ⟨by dsimp only; omega, hzd, done y _ hRy ?_, by dsimp only; rw [← hlen2 y hyl]; exact hs⟩ (by dsimp only; omega)
    exact (getElem_getD l _ d hlk).trans (atD_in (by omega)).symm
  · obtain rfl : i = at_.length := by omega
    rw [List.take_length] at hAv
    have hz0 : zs = [] := List.eq_nil_of_length_eq_zero (by rw [hzl]; omega)
    subst hz0
    obtain ⟨h6, hle6, hs, hS6⟩ := hs.freeze
    refine Zerun ?_
    refine retQ_ret [_] h6 ⟨rfl, trivial⟩ hs.dropAll ⟨some ⟨b3, 0, none⟩, at_.length, vs, by simp [packv], ?_, hAv.mono (fun u a => hR _ _ u a hle6)⟩
    simpa using hS6
end
end Go.Proofs.Ythbfkhklihejiaa

/-
  Plain Lean on lists: places of elements that something holds of, and of the first ones. No statement is proved here.
-/
namespace Go.Proofs.Ythbfkhklihejiaa
open Go Go.RowKit
set_option linter.unusedVariables false
set_option linter.unusedSimpArgs false

section
variable {γ : Type}
/-- places, of the first so many, that something holds of -/
def placesN (p : Nat → Bool) (n : Nat) : List Int := ((List.range n).filter p).map fun i => ((i : Nat) : Int)
theorem placesN_zero (p : Nat → Bool) : placesN p 0 = [] := rfl
theorem placesN_yes {p : Nat → Bool} {n : Nat} (h : p n = true) : placesN p (n + 1) = placesN p n ++ [(n : Int)] := by
  unfold placesN
  rw [List.range_succ, List.filter_append, List.map_append]
  simp [h]
theorem placesN_no {p : Nat → Bool} {n : Nat} (h : p n = false) : placesN p (n + 1) = placesN p n := by
  unfold placesN
  rw [List.range_succ, List.filter_append, List.map_append]
  simp [h]
theorem placesN_len (p : Nat → Bool) (n : Nat) : (placesN p n).length ≤ n := by
  unfold placesN
  rw [List.length_map]
  have := List.length_filter_le p (List.range n)
  rw [List.length_range] at this
  exact this
theorem placesN_eq {p q : Nat → Bool} {n : Nat} (h : ∀ i, i < n → p i = q i) : placesN p n = placesN q n := by
  unfold placesN
  congr 1
  apply List.filter_congr
  intro i hi
  exact h i (List.mem_range.1 hi)
theorem atD_nat (l : List γ) (i : Nat) (d : γ) : atD l (i : Int) d = l.getD i d := by unfold atD; rw [if_pos (by omega), Int.toNat_natCast]
theorem placesN_items (p : Nat → Bool) (l : List γ) (n : Nat) (d : γ) : (placesN p n).map (fun i => atD l i d) = ((List.range n).filter p).map (fun i => l.getD i d) := by
  unfold placesN
  rw [List.map_map]
  apply List.map_congr_left
  intro i _
  exact atD_nat l i d
/-- elements that something holds of -/
theorem filter_range (q : γ → Bool) (d : γ) : ∀ (l : List γ) (n : Nat), n ≤ l.length → ((List.range n).filter (fun i => q (l.getD i d))).map (fun i => l.getD i d) = (l.take n).filter q
  | l, 0, _ => by simp
  | l, n + 1, h => by
    rw [List.range_succ, List.filter_append, List.map_append, filter_range q d l n (by omega), List.take_add_one, List.filter_append]
    congr 1
    rw [List.getElem?_eq_getElem (by omega)]
    have e : l.getD n d = l[n] := by rw [List.getD_eq_getElem?_getD, List.getElem?_eq_getElem (by omega)]; rfl
    show List.map _ (List.filter (fun i => q (l.getD i d)) [n]) = List.filter q [l[n]]
    by_cases hq : q l[n] = true
    · rw [List.filter_cons_of_pos (by rw [e]; exact hq), List.filter_cons_of_pos hq]
      show [l.getD n d] = [l[n]]
      rw [e]
    · rw [List.filter_cons_of_neg (by rw [e]; exact hq), List.filter_cons_of_neg hq]
      rfl
theorem places_filter (q : γ → Bool) (l : List γ) (d : γ) : (placesN (fun i => q (l.getD i d)) l.length).map (fun i => atD l i d) = l.filter q := by
  rw [placesN_items, filter_range q d l l.length (Nat.le_refl _), List.take_length]
theorem filter_split (q : γ → Bool) : ∀ l : List γ, (l.filter q).length + (l.filter (fun x => !q x)).length = l.length
  | [] => rfl
  | a :: l => by
    have := filter_split q l
    by_cases h : q a = true
    · simp [h]; omega
    · simp [h]; omega
/-- places of the first ones -/
noncomputable def firstB (l : List γ) (d : γ) (i : Nat) : Bool := decide (ixOf l (l.getD i d) = i)
noncomputable def uniq (l : List γ) (d : γ) : List γ := (placesN (firstB l d) l.length).map fun i => atD l i d
theorem getD_elem {l : List γ} {i : Nat} (h : i < l.length) (d : γ) : l.getD i d = l[i] := by rw [List.getD_eq_getElem?_getD, List.getElem?_eq_getElem h]; rfl
theorem uniq_nodup (l : List γ) (d : γ) : (uniq l d).Nodup := by
  unfold uniq
  rw [placesN_items]
  refine List.Pairwise.map (R := fun i j => i ≠ j ∧ firstB l d i = true ∧ firstB l d j = true) _ ?_ ?_
  · rintro i j ⟨h1, h2, h3⟩ e
    unfold firstB at h2 h3
    simp only [decide_eq_true_eq] at h2 h3
    rw [e] at h2
    exact h1 (h2.symm.trans h3)
  · have hn : ((List.range l.length).filter (firstB l d)).Nodup := List.Nodup.sublist List.filter_sublist List.nodup_range
    have hf : ∀ i ∈ (List.range l.length).filter (firstB l d), firstB l d i = true := fun i hi => (List.mem_filter.1 hi).2
    generalize (List.range l.length).filter (firstB l d) = L at hn hf
    induction L with
    | nil => exact .nil
    | cons a L ih =>
      rw [List.nodup_cons] at hn
      refine List.Pairwise.cons ?_ (ih hn.2 (fun i hi => hf i (List.mem_cons_of_mem _ hi)))
      intro b hb
      exact ⟨fun e => hn.1 (e ▸ hb), hf a (by simp), hf b (List.mem_cons_of_mem _ hb)⟩
theorem nodup_ix {l : List γ} (h : l.Nodup) {i : Nat} (hi : i < l.length) : ixOf l l[i] = i := by
  refine ixOf_of hi rfl (fun j hj e => ?_)
  exact (List.pairwise_iff_getElem.1 h) j i (by omega) hi hj e
theorem firsts_uniq (l : List γ) (d : γ) (i : Nat) (hi : i < (uniq l d).length) : firstB (uniq l d) d i = true := by
  unfold firstB
  rw [getD_elem hi]
  exact decide_eq_true (nodup_ix (uniq_nodup l d) hi)
theorem uniq_uniq (l : List γ) (d : γ) : uniq (uniq l d) d = uniq l d := by
  show (placesN (firstB (uniq l d) d) (uniq l d).length).map (fun i => atD (uniq l d) i d) = uniq l d
  rw [placesN_eq (q := fun _ => true) (fun i hi => firsts_uniq l d i hi)]
  exact (places_filter (fun _ => true) (uniq l d) d).trans (by simp)
end
end Go.Proofs.Ythbfkhklihejiaa

/-
  Contracts of functions of package hash: where elements are in a list first, whether they are there. No statement is proved here.
-/
namespace Go.Proofs.Ythbfkhklihejiaa
open Go Go.RowKit
set_option linter.unusedVariables false
set_option linter.unusedSimpArgs false
set_option maxHeartbeats 4000000
attribute [local irreducible] CW RW QW SW HW ConM retM heldQ calmQ elemP thenQ blockQ loopQ joinQ retQ Yields Con Sl zF magR unitF truncF fwF wholeF tidySpec elemQ rankF leastN tidyW
set_option maxHeartbeats 1000000
attribute [local irreducible] mixN wrN wr32 keyIt keyP

theorem fillA {δ : Type} {A : List δ} {i n : Nat} (hA : A.length = i) (h : i < n) (b z : δ) : (A ++ List.replicate (n - i) b).set i z = (A ++ [z]) ++ List.replicate (n - (i + 1)) b := by
  obtain ⟨r, hr⟩ : ∃ r, n - i = r + 1 := ⟨n - i - 1, by omega⟩
  have e : n - (i + 1) = r := by omega
  rw [hr, e, List.replicate_succ, List.set_append_right _ _ (by omega), ← hA]
  simp
theorem getA {δ : Type} {A Rr : List δ} {i : Nat} (hA : A.length = i) (z d : δ) : ((A ++ [z]) ++ Rr).getD i d = z := by
  subst hA
  simp [List.getD_eq_getElem?_getD]
theorem setA {δ : Type} {A Rr : List δ} {i : Nat} (hA : A.length = i) (z y : δ) : ((A ++ [z]) ++ Rr).set i y = (A ++ [y]) ++ Rr := by
  subst hA
  simp
theorem takeMap {δ ε : Type} (F : δ → ε) (M : List δ) {i : Nat} (h : i < M.length) (d : δ) : (M.take (i + 1)).map F = (M.take i).map F ++ [F (M.getD i d)] := by
  rw [take_succ_getD M i d h, List.map_append]
  rfl
theorem hashFind_con (k : Nat) (cs cs' : List Value) (v u : VecD (AD k)) (w : World) (h : GHeap) (hv : VecAt (ArrAt k) h cs v) (hu : VecAt (ArrAt k) h cs' u) (qv : ∀ x ∈ v.boxes, sml k x) (qu : ∀ x ∈ u.boxes, sml k x) (hm : v.len ≤ 1048576) (hm2 : u.len ≤ 1048576) :
    Con Try.prog 79 [.agg cs.toArray, .agg cs'.toArray] w h (fun h' r => IntsAt h' r ((itemsV (plain k) u).map fun x => ((ixOf (itemsV (plain k) v) x : Nat) : Int))) := by
  have hv' := hv
  have hu' := hu
  obtain ⟨wv, nv, sm, il, fl, ch, bx, ⟨rfl, hoc⟩, _⟩ := hv
  obtain ⟨wv2, nv2, sm2, il2, fl2, ch2, bx2, ⟨rfl, hoc2⟩, _⟩ := hu
  have hR := ArrAt.mono k
  have hML := itemsV_len (plain k) hu'
  have hLL := itemsV_len (plain k) hv'
  refine Con.of_body Try.func79 rfl Try.ntmps79 rfl rfl ?_
  intro hs
  refine Zrun ?_
  (refine RW.boxN hs rfl rfl ?_; intro b1 w1 hs)
  refine Zrun ?_
  (refine RW.boxN hs rfl rfl ?_; intro b2 w2 hs)
  refine Zerun ?_
  (refine RW.call T hs rfl rfl rfl (vecLen_con _ u _ _ hu') ?_; intro v h3 w3 hle3 hp3 hs)
  subst hp3
  have hv' := hv'.mono hR hle3
  have hu' := hu'.mono hR hle3
  refine Zerun ?_
  (refine RW.make1 T hs rfl rfl rfl rfl rfl rfl rfl (by dsimp only; omega) (by omega) ?_; intro b4 w4 hs)
  refine Zerun ?_
  (refine RW.callM T hs rfl rfl rfl (hashTable_conM k _ v _ _ _ _ _ hv' qv hm) ?_; intro v h5 O5 w5 hle5 hp5 hs)
  obtain ⟨bt, bs, m, sl, rfl, hT, rfl, hpow, hml, hm3, hvm, ok⟩ := hp5
  have hv' := hv'.mono hR hle5
  have hu' := hu'.mono hR hle5
  refine Zerun ?_
  refine CW.loop (fun q : Nat × GHeap => [(2, .pointer (some ⟨b1, 0, none⟩)), (3, .pointer (some ⟨b2, 0, none⟩)), (5, .slice (some ⟨b4, 0, none⟩) u.len u.len), (6, .pointer (some ⟨bt, 0, none⟩)), (14, .int .i64 u.len), (15, .int .i64 q.1)]) (fun q w' => q.1 ≤ u.len ∧ GLe h5 q.2 ∧ Sees w h q.2 (slotRow bs m sl :: ⟨some ⟨b4, 0, none⟩, u.len, u.len, 3, 1, ((((itemsV (plain k) u).take q.1).map fun x => ((ixOf (itemsV (plain k) v) x : Nat) : Int)) ++ List.replicate (u.len - q.1) 0).map (Value.int .i64)⟩ :: ⟨some ⟨b2, 0, none⟩, 1, 1, 61, 8, vecCells u.kind wv2 nv2 sm2 il2 fl2 ch2 bx2⟩ :: [⟨some ⟨b1, 0, none⟩, 1, 1, 61, 8, vecCells v.kind wv nv sm il fl ch bx⟩]) w') (fun q => u.len - q.1) (0, h5) ⟨rfl, rfl, rfl, rfl, rfl, rfl, trivial⟩ ⟨by omega, GLe.refl _, by simp only [List.take_zero, List.map_nil, List.nil_append, Nat.sub_zero, List.map_replicate]; exact hs⟩ ?_
  rintro ⟨i, hh⟩ w6 ⟨hi, hg, hs⟩
  dsimp only at hi hg hs ⊢
  have hv' := hv'.mono hR hg
  have hu' := hu'.mono hR hg
  have hT : TblAt hh bt _ bs m := Sl.mono hg hT
  by_cases hlt : i < u.len
  · have htm := takeMap (fun x => ((ixOf (itemsV (plain k) v) x : Nat) : Int)) (itemsV (plain k) u) (show i < (itemsV (plain k) u).length by omega) noItem
    have hAl : (((itemsV (plain k) u).take i).map fun x => ((ixOf (itemsV (plain k) v) x : Nat) : Int)).length = i := by rw [List.length_map, List.length_take]; omega
    refine Zerun ?_
    refine Zerun ?_
    (refine RW.callM T hs rfl rfl rfl (hashGet_conM k bt bs m v.len _ _ v u i v.len sl _ _ _ _ _ hT hv' hu' hlt qv qu hpow hml hm3 rfl ok hvm) ?_; intro v h6 O6 w6 hle6 hp6 hs)
    obtain ⟨rfl, rfl, rfl⟩ := hp6
    refine Zerun ?_
    refine RW.val (Y.idxRN T hs 1 rfl rfl rfl rfl rfl rfl hlt) rfl ?_
    refine RW.st1 T hs 1 rfl rfl rfl rfl rfl rfl rfl hlt ?_
    intro w7 hs
    dsimp only [List.set_cons_zero, List.set_cons_succ] at hs
    rw [map_set_int, fillA hAl hlt] at hs
    refine Zerun ?_
    refine RW.val (Y.idxRN T hs 1 rfl rfl rfl rfl rfl rfl hlt) rfl ?_
    refine RW.val (Y.ldRInt T hs 1 rfl rfl rfl rfl hlt) rfl ?_
    rw [getA hAl]
    by_cases c : ixOf (itemsV (plain k) v) ((itemsV (plain k) u).getD i noItem) < v.len
    · rw [if_pos c] at hs ⊢
      rw [← htm] at hs
      refine Zerun ?_
      exact loopQ_round (i + 1, hh) ⟨rfl, rfl, rfl, rfl, rfl, rfl, trivial⟩ ⟨by dsimp only; omega, hg, hs⟩ (by dsimp only; omega)
    · rw [if_neg c] at hs ⊢
      have hno : ixOf (itemsV (plain k) v) ((itemsV (plain k) u).getD i noItem) = v.len := by
        have := ixOf_le (itemsV (plain k) v) ((itemsV (plain k) u).getD i noItem)
        omega
      refine Zerun ?_
      (refine RW.call T hs rfl rfl rfl (vecLen_con _ v _ _ hv') ?_; intro v h8 w8 hle8 hp8 hs)
      subst hp8
      refine Zerun ?_
      refine RW.val (Y.idxRN T hs 1 rfl rfl rfl rfl rfl rfl hlt) rfl ?_
      refine RW.st1 T hs 1 rfl rfl rfl rfl rfl rfl rfl hlt ?_
      intro w9 hs
      dsimp only [List.set_cons_zero, List.set_cons_succ] at hs
      rw [map_set_int, setA hAl] at hs
      rw [hno] at htm
      rw [← htm] at hs
      refine Zerun ?_
      exact loopQ_round (i + 1, h8) ⟨rfl, rfl, rfl, rfl, rfl, rfl, trivial⟩ ⟨by dsimp only; omega, hg.trans hle8, hs⟩ (by dsimp only; omega)
  have e : i = (itemsV (plain k) u).length := by omega
  subst e
  rw [List.take_length, show u.len - (itemsV (plain k) u).length = 0 by omega, List.replicate_zero, List.append_nil] at hs
  refine Zerun ?_
  obtain ⟨h6, hle6, hs, hS6⟩ := hs.drop.freeze
  refine retQ_ret [_] h6 ⟨rfl, trivial⟩ hs.dropAll ?_
  exact IntsAt.of_sl hS6
theorem hashHas_con (k : Nat) (cs cs' : List Value) (v u : VecD (AD k)) (w : World) (h : GHeap) (hv : VecAt (ArrAt k) h cs v) (hu : VecAt (ArrAt k) h cs' u) (qv : ∀ x ∈ v.boxes, sml k x) (qu : ∀ x ∈ u.boxes, sml k x) (hm : v.len ≤ 1048576) (hm2 : u.len ≤ 1048576) :
    Con Try.prog 81 [.agg cs.toArray, .agg cs'.toArray] w h (fun h' r => TAt h' r ((itemsV (plain k) u).map fun x => decide (ixOf (itemsV (plain k) v) x < v.len))) := by
  have hv' := hv
  have hu' := hu
  obtain ⟨wv, nv, sm, il, fl, ch, bx, ⟨rfl, hoc⟩, _⟩ := hv
  obtain ⟨wv2, nv2, sm2, il2, fl2, ch2, bx2, ⟨rfl, hoc2⟩, _⟩ := hu
  have hR := ArrAt.mono k
  have hML := itemsV_len (plain k) hu'
  have hLL := itemsV_len (plain k) hv'
  refine Con.of_body Try.func81 rfl Try.ntmps81 rfl rfl ?_
  intro hs
  refine Zrun ?_
  (refine RW.boxN hs rfl rfl ?_; intro b1 w1 hs)
  refine Zrun ?_
  (refine RW.boxN hs rfl rfl ?_; intro b2 w2 hs)
  refine Zerun ?_
  (refine RW.call T hs rfl rfl rfl (vecLen_con _ u _ _ hu') ?_; intro v h3 w3 hle3 hp3 hs)
  subst hp3
  have hv' := hv'.mono hR hle3
  have hu' := hu'.mono hR hle3
  refine Zerun ?_
  (refine RW.make1 T hs rfl rfl rfl rfl rfl rfl rfl (by dsimp only; omega) (by omega) ?_; intro b4 w4 hs)
  refine Zerun ?_
  (refine RW.callM T hs rfl rfl rfl (hashTable_conM k _ v _ _ _ _ _ hv' qv hm) ?_; intro v h5 O5 w5 hle5 hp5 hs)
  obtain ⟨bt, bs, m, sl, rfl, hT, rfl, hpow, hml, hm3, hvm, ok⟩ := hp5
  have hv' := hv'.mono hR hle5
  have hu' := hu'.mono hR hle5
  refine Zerun ?_
  refine CW.loop (fun q : Nat => [(3, .pointer (some ⟨b2, 0, none⟩)), (5, .slice (some ⟨b4, 0, none⟩) u.len u.len), (6, .pointer (some ⟨bt, 0, none⟩)), (14, .int .i64 u.len), (15, .int .i64 q)]) (fun q w' => q ≤ u.len ∧ Sees w h h5 (slotRow bs m sl :: ⟨some ⟨b4, 0, none⟩, u.len, u.len, 4, 1, ((((itemsV (plain k) u).take q).map fun x => decide (ixOf (itemsV (plain k) v) x < v.len)) ++ List.replicate (u.len - q) false).map Value.bool⟩ :: ⟨some ⟨b2, 0, none⟩, 1, 1, 61, 8, vecCells u.kind wv2 nv2 sm2 il2 fl2 ch2 bx2⟩ :: [⟨some ⟨b1, 0, none⟩, 1, 1, 61, 8, vecCells v.kind wv nv sm il fl ch bx⟩]) w') (fun q => u.len - q) 0 ⟨rfl, rfl, rfl, rfl, rfl, trivial⟩ ⟨by omega, by simp only [List.take_zero, List.map_nil, List.nil_append, Nat.sub_zero, List.map_replicate]; exact hs⟩ ?_
  rintro i w6 ⟨hi, hs⟩
  by_cases hlt : i < u.len
  · have htm := takeMap (fun x => decide (ixOf (itemsV (plain k) v) x < v.len)) (itemsV (plain k) u) (show i < (itemsV (plain k) u).length by omega) noItem
    have hAl : (((itemsV (plain k) u).take i).map fun x => decide (ixOf (itemsV (plain k) v) x < v.len)).length = i := by rw [List.length_map, List.length_take]; omega
    refine Zerun ?_
    refine Zerun ?_
    (refine RW.callM T hs rfl rfl rfl (hashGet_conM k bt bs m v.len _ _ v u i v.len sl _ _ _ _ _ hT hv' hu' hlt qv qu hpow hml hm3 rfl ok hvm) ?_; intro v h6 O6 w6 hle6 hp6 hs)
    obtain ⟨rfl, e6, rfl⟩ := hp6
    rw [← e6] at hs
    refine Zerun ?_
    refine RW.val (Y.idxRN T hs 1 rfl rfl rfl rfl rfl rfl hlt) rfl ?_
    refine RW.st1 T hs 1 rfl rfl rfl rfl rfl rfl rfl hlt ?_
    intro w7 hs
    dsimp only [List.set_cons_zero, List.set_cons_succ] at hs
    have hdec : decide ((0 : Int) ≤ if ixOf (itemsV (plain k) v) ((itemsV (plain k) u).getD i noItem) < v.len then ((ixOf (itemsV (plain k) v) ((itemsV (plain k) u).getD i noItem) : Nat) : Int) else -1) = decide (ixOf (itemsV (plain k) v) ((itemsV (plain k) u).getD i noItem) < v.len) := by
      by_cases c : ixOf (itemsV (plain k) v) ((itemsV (plain k) u).getD i noItem) < v.len
      · rw [if_pos c, decide_eq_true c, decide_eq_true (by omega)]
      · rw [if_neg c, decide_eq_false c, decide_eq_false (by omega)]
    rw [hdec, ← List.map_set, fillA hAl hlt, ← htm] at hs
    refine Zerun ?_
    exact loopQ_round (i + 1) ⟨rfl, rfl, rfl, rfl, rfl, trivial⟩ ⟨by omega, hs⟩ (by omega)
  have e : i = (itemsV (plain k) u).length := by omega
  subst e
  rw [List.take_length, show u.len - (itemsV (plain k) u).length = 0 by omega, List.replicate_zero, List.append_nil] at hs
  refine Zerun ?_
  obtain ⟨h6, hle6, hs, hS6⟩ := hs.drop.freeze
  refine retQ_ret [_] h6 ⟨rfl, trivial⟩ hs.dropAll ?_
  exact RowAt.of_sl hS6
end Go.Proofs.Ythbfkhklihejiaa

/-
  Contracts of functions of package flat: elements picked. No statement is proved here.
-/
namespace Go.Proofs.Ythbfkhklihejiaa
open Go Go.RowKit
set_option linter.unusedVariables false
set_option linter.unusedSimpArgs false
set_option maxHeartbeats 4000000
attribute [local irreducible] CW RW QW SW HW ConM retM heldQ calmQ elemP thenQ blockQ loopQ joinQ retQ Yields Con Sl zF magR unitF truncF fwF wholeF tidySpec elemQ rankF leastN tidyW
set_option maxHeartbeats 4000000

theorem wholeF_bounds (x : Nat) : -9007199254740992 ≤ (wholeF x).1 ∧ (wholeF x).1 ≤ 9007199254740992 := by
  unfold wholeF
  split
  · rename_i h; exact trunc_bounds x h
  · constructor <;> decide
section
variable {α : Type} {R : GHeap → List Value → α → Prop}
theorem flatPickBits_con (hR : Mono R) (cs : List Value) (v : VecD α) (v1 : Value) (at_ : List Int) (bs : List Bool) (w : World) (h : GHeap) (hv : VecAt R h cs v) (hbs : v = ⟨1, bs.map bitF, [], []⟩) (ha : IntsAt h v1 at_) (hm : at_.length ≤ 1048576) : Con Try.prog 137 [.agg cs.toArray, v1] w h (fun h' u => ∃ cs', u = .agg cs'.toArray ∧ VecAt R h' cs' ⟨1, (at_.map fun i => bitAt bs i).map bitF, [], []⟩) := by
  obtain ⟨ad1, cp1, rfl, hS1⟩ := ha
  have hv' := hv
  obtain ⟨wv, nv, sm, il, fl, ch, bx, ⟨rfl, hoc⟩, hk⟩ := hv
  clear hk
  refine Con.of_body Try.func137 rfl Try.ntmps137 rfl rfl ?_
  intro hs
  refine Zrun ?_
  (refine RW.boxN hs rfl rfl ?_; intro b1 w1 hs)
  (refine RW.allocN T hs rfl rfl rfl rfl ?_; intro b2 w2 hs)
  refine Zerun ?_
  (refine RW.call T hs rfl rfl rfl (vecPacked_con _ v _ _ hv') ?_; intro v h3 w3 hle3 hp3 hs)
  obtain ⟨wv3, bs3, rfl, hb3, hb3', _⟩ := hp3
  have hbb : bs3 = bs := by
    have e := hb3' (by rw [hbs])
    rw [hbs] at e
    have e2 : bs.map bitF = bs3.map bitF := by injection e
    have inj : ∀ a b : Bool, bitF a = bitF b → a = b := by decide
    have key : ∀ (a b : List Bool), a.map bitF = b.map bitF → a = b := by
      intro a
      induction a with
      | nil => intro b hb; cases b with
        | nil => rfl
        | cons => simp at hb
      | cons x a ih => intro b hb; cases b with
        | nil => simp at hb
        | cons y b =>
          simp only [List.map_cons, List.cons.injEq] at hb
          rw [inj x y hb.1, ih b hb.2]
    exact (key _ _ e2).symm
  subst hbb
  have hb3'' := hb3
  obtain ⟨_, ws3, ⟨ad3, cp3, rfl, _⟩, _⟩ := hb3
  have hS1 := hS1.mono hle3
  refine Zerun ?_
  (refine RW.allocN T hs rfl rfl rfl rfl ?_; intro b4 w4 hs)
  (refine RW.storeAll T hs 0 rfl rfl rfl rfl rfl rfl rfl rfl ?_; intro w5 hs)
  refine Zerun ?_
  (refine RW.make1 T hs rfl rfl rfl rfl rfl rfl rfl (by dsimp only; omega) (by omega) ?_; intro b6 w6 hs)
  refine Zerun ?_
  refine CW.loop (fun u : Nat × GHeap => [(1, .slice ad1 at_.length cp1), (2, .pointer (some ⟨b1, 0, none⟩)), (4, .pointer (some ⟨b2, 0, none⟩)), (5, .pointer (some ⟨b4, 0, none⟩)), (7, .slice (some ⟨b6, 0, none⟩) at_.length at_.length), (18, .slice ad1 at_.length cp1), (19, .int .i64 at_.length), (20, .int .i64 u.1)]) (fun u w' => u.1 ≤ at_.length ∧ GLe h3 u.2 ∧ Sees w h u.2 [⟨some ⟨b6, 0, none⟩, at_.length, at_.length, 4, 1, ((at_.take u.1).map fun i => bitAt bs3 i).map Value.bool ++ List.replicate (at_.length - u.1) (.bool false)⟩, ⟨some ⟨b4, 0, none⟩, 1, 1, 54, 2, [.slice ad3 ws3.length cp3, .int .i64 bs3.length]⟩, ⟨some ⟨b2, 0, none⟩, 1, 1, 61, 8, vecCells 0 (.slice none 0 0) 0 (.slice none 0 0) (.slice none 0 0) (.slice none 0 0) (.slice none 0 0) (.slice none 0 0)⟩, ⟨some ⟨b1, 0, none⟩, 1, 1, 61, 8, vecCells v.kind wv nv sm il fl ch bx⟩] w') (fun u => at_.length - u.1) (0, h3) ⟨rfl, rfl, rfl, rfl, rfl, rfl, rfl, rfl, trivial⟩ ⟨by omega, GLe.refl _, by simp only [List.take_zero, List.map_nil, List.nil_append, Nat.sub_zero]; exact hs⟩ ?_
  rintro ⟨i, hh⟩ w7 ⟨hi, hg, hs⟩
  dsimp only at hi hg hs ⊢
  have hS1 := hS1.mono hg
  have hb' := hb3''.mono hg
  by_cases hlt : i < at_.length
  · have htk := take_succ_getD at_ i 0 hlt
    refine Zerun ?_
    (refine RW.call T hs rfl rfl rfl (bitsAt_con _ bs3 (at_.getD i 0) _ _ hb') ?_; intro v h8 w8 hle8 hp8 hs)
    subst hp8
    refine RW.val (Y.idxRN T hs 0 rfl rfl rfl rfl rfl rfl ?_) rfl ?_
    · omega
    refine RW.st1 T hs 0 rfl rfl rfl rfl rfl rfl rfl (by omega) ?_
    intro w9 hs
    have e1 := set_snoc (((at_.take i).map fun i => bitAt bs3 i).map Value.bool) (at_.length - i) (Value.bool false) (Value.bool (bitAt bs3 (at_.getD i 0))) (by omega)
    simp only [List.length_map, List.length_take, Nat.min_eq_left hi] at e1
    have e2 : ((at_.take i).map fun i => bitAt bs3 i).map Value.bool ++ [Value.bool (bitAt bs3 (at_.getD i 0))] ++ List.replicate (at_.length - i - 1) (.bool false) = ((at_.take (i + 1)).map fun i => bitAt bs3 i).map Value.bool ++ List.replicate (at_.length - (i + 1)) (.bool false) := by
      rw [htk, List.map_append, List.map_append, show at_.length - (i + 1) = at_.length - i - 1 by omega]; rfl
    replace hs := hs.re (e1.trans e2)
    refine Zerun ?_
    exact loopQ_round (i + 1, h8) ⟨rfl, rfl, rfl, rfl, rfl, rfl, rfl, rfl, trivial⟩ ⟨by dsimp only; omega, hg.trans hle8, hs⟩ (by dsimp only; omega)
  · obtain rfl : i = at_.length := by omega
    rw [List.take_length, Nat.sub_self, List.replicate_zero, List.append_nil] at hs
    obtain ⟨h8, hle8, hs, hS8⟩ := hs.freeze
    have hT8 : TAt h8 (.slice (some ⟨b6, 0, none⟩) at_.length at_.length) (at_.map fun i => bitAt bs3 i) := RowAt.of_sl hS8
    refine Zerun ?_
    (refine RW.call T hs rfl rfl rfl (bitsPack_con _ _ _ _ hT8 (by simpa using hm)) ?_; intro v h9 w9 hle9 hp9 hs)
    obtain ⟨wv9, rfl, hb9⟩ := hp9
    (refine RW.call T hs rfl rfl rfl (vecBits_con (R := R) _ _ _ _ hb9) ?_; intro v h10 w10 hle10 hp10 hs)
    obtain ⟨cs10, rfl, hv10⟩ := hp10
    have hv10' := hv10
    obtain ⟨wv', nv', sm', il', fl', ch', bx', ⟨rfl, hoc'⟩, _⟩ := hv10
    (refine RW.storeAll T hs 1 rfl rfl rfl rfl rfl rfl hoc' rfl ?_; intro w11 hs)
    refine Zerun ?_
    exact retQ_ret [_] h10 ⟨resN T hs 1 rfl rfl rfl rfl rfl rfl, trivial⟩ hs.dropAll ⟨_, rfl, hv10'⟩
/-- the elements at some places -/
def VecD.pick (v : VecD α) (at_ : List Int) (nb : α) : VecD α :=
  if v.kind = 5 then ⟨5, [], at_.map (fun i => atD v.chars i 32), []⟩
  else if v.kind = 6 then ⟨6, [], [], at_.map (fun i => atD v.boxes i nb)⟩
  else ⟨leastN (at_.map v.num), at_.map v.num, [], []⟩
theorem num_tidy {h : GHeap} {cs : List Value} {v : VecD α} (hv : VecAt R h cs v) (i : Int) : tidyF (v.num i) := by
  unfold VecD.num
  split
  · by_cases c : i.toNat < v.nums.length
    · exact hv.tidy _ (mem_getD _ _ _ c)
    · rw [List.getD_eq_getElem?_getD, List.getElem?_eq_none (by omega)]; exact tidy0
  · exact tidy0
theorem whole_num {h : GHeap} {cs : List Value} {v : VecD α} (hv : VecAt R h cs v) (hk : v.kind = 1 ∨ v.kind = 2 ∨ v.kind = 3) (i : Int) : fwF (v.whole i).1 = v.num i := by
  have hw := hv.wholes hk
  have hn : v.nums.length = v.len := hv.nums_len (by unfold VecD.cls; rw [if_neg (by omega), if_neg (by omega)])
  unfold VecD.whole VecD.num
  by_cases c : 0 ≤ i ∧ i < v.len
  · rw [if_pos ⟨hk, c⟩, if_pos c.1]
    have hm := mem_getD v.nums i.toNat 0 (by omega)
    exact (fw_whole _ _ (hv.tidy _ hm) (by rw [← hw _ hm])).symm
  · rw [if_neg (fun e => c e.2)]
    show fwF 0 = _
    rw [fw0]
    split
    · rw [List.getD_eq_getElem?_getD, List.getElem?_eq_none (by omega)]; rfl
    · rfl
theorem pick_wholes {h : GHeap} {cs : List Value} {v : VecD α} (hv : VecAt R h cs v) (hk : v.kind = 1 ∨ v.kind = 2 ∨ v.kind = 3) (at_ : List Int) (nb : α) : (⟨leastN ((at_.map fun i => (v.whole i).1).map fwF), (at_.map fun i => (v.whole i).1).map fwF, [], []⟩ : VecD α) = v.pick at_ nb := by
  have e : (at_.map fun i => (v.whole i).1).map fwF = at_.map v.num := by
    rw [List.map_map]
    apply List.map_congr_left
    intro i _
    exact whole_num hv hk i
  rw [e]
  unfold VecD.pick
  rw [if_neg (by omega), if_neg (by omega)]
theorem sq_nums3 (N : List Nat) : (⟨3, N, [], []⟩ : VecD α).sq = ⟨leastN N, N, [], []⟩ := by
  unfold VecD.sq VecD.cls
  simp
theorem pick_bits (bs : List Bool) (at_ : List Int) (nb : α) : (⟨1, (at_.map fun i => bitAt bs i).map bitF, [], []⟩ : VecD α) = VecD.pick ⟨1, bs.map bitF, [], []⟩ at_ nb := by
  have e : (at_.map fun i => bitAt bs i).map bitF = at_.map (VecD.num (⟨1, bs.map bitF, [], []⟩ : VecD α)) := by
    rw [List.map_map]
    apply List.map_congr_left
    intro i _
    simp only [Function.comp, bitAt, VecD.num]
    split
    · by_cases c : i.toNat < bs.length
      · rw [getD_map bitF bs i.toNat false 0 c]
      · rw [List.getD_eq_getElem?_getD, List.getElem?_eq_none (by omega), List.getD_eq_getElem?_getD, List.getElem?_eq_none (by simp; omega)]; rfl
    · rfl
  have el : leastN ((at_.map fun i => bitAt bs i).map bitF) = 1 := by
    have h1 := (leastN_bounds ((at_.map fun i => bitAt bs i).map bitF)).1
    have h2 : leastN ((at_.map fun i => bitAt bs i).map bitF) ≤ 1 := by
      rw [leastN.eq_1]
      refine fold_le _ 1 1 (by omega) ?_
      intro x hx
      obtain ⟨b, _, rfl⟩ := List.mem_map.1 hx
      cases b
      · exact (rank_bit _ tidy0).2 (.inl fw0.symm)
      · exact (rank_bit _ tidy1).2 (.inr fw1.symm)
    omega
  unfold VecD.pick
  rw [if_neg (show ¬ (1 : Int) = 5 by decide), if_neg (show ¬ (1 : Int) = 6 by decide), ← e, el]
theorem flatPick_con (hR : Mono R) (h1 : One R) (h9 : Siz 9 R) (nb : α) (hbl : ∀ w h, Con Try.prog 68 [] w h (fun h' u => ∃ cs', u = .agg cs'.toArray ∧ R h' cs' nb))
    (cs : List Value) (v : VecD α) (v1 : Value) (at_ : List Int) (w : World) (h : GHeap) (hv : VecAt R h cs v) (ha : IntsAt h v1 at_) (hm : at_.length ≤ 1048576) (hvm : v.len ≤ 1048576) (hk0 : v.kind ≠ 0) : Con Try.prog 66 [.agg cs.toArray, v1] w h (fun h' u => ∃ cs', u = .agg cs'.toArray ∧ VecAt R h' cs' (v.pick at_ nb)) := by
  have ha' := ha
  obtain ⟨ad1, cp1, rfl, hS1⟩ := ha
  have hv' := hv
  have hv0 := hv
  obtain ⟨wv, nv, sm, il, fl, ch, bx, ⟨rfl, hoc⟩, hk⟩ := hv
  have hkk : (v.kind = 1 ∧ ∃ bs : List Bool, v = ⟨1, bs.map bitF, [], []⟩) ∨ (v.kind = 2 ∨ v.kind = 3) ∨ v.kind = 4 ∨ v.kind = 5 ∨ v.kind = 6 := by
    rcases hk with ⟨e, _⟩ | ⟨e, bs, _, _, e2⟩ | ⟨e, _⟩ | ⟨e, _⟩ | ⟨e, _⟩ | ⟨e, _⟩ | ⟨e, _⟩
    · exact absurd e hk0
    · exact .inl ⟨e, bs, e2⟩
    · exact .inr (.inl (.inl e))
    · exact .inr (.inl (.inr e))
    · exact .inr (.inr (.inl e))
    · exact .inr (.inr (.inr (.inl e)))
    · exact .inr (.inr (.inr (.inr e)))
  clear hk
  refine Con.of_body Try.func66 rfl Try.ntmps66 rfl rfl ?_
  intro hs
  refine Zrun ?_
  (refine RW.boxN hs rfl rfl ?_; intro b1 w1 hs)
  (refine RW.allocN T hs rfl rfl rfl rfl ?_; intro b2 w2 hs)
  refine Zerun ?_
  (refine RW.call T hs rfl rfl rfl (vecKind_con _ v _ _ hv') ?_; intro v h3 w3 hle3 hp3 hs)
  subst hp3
  have hv' := hv'.mono hR hle3
  have ha' := ha'.mono hle3
  have hS1 := hS1.mono hle3
  rcases hkk with ⟨k1, bs, hbs⟩ | k23 | k4 | k5 | k6
  · have hsp := pick_bits bs at_ nb
    rw [← hbs] at hsp
    refine Zerun ?_
    (refine RW.call T hs rfl rfl rfl (flatPickBits_con hR _ v _ at_ bs _ _ hv' hbs ha' hm) ?_; intro v h4 w4 hle4 hp4 hs)
    obtain ⟨cs4, rfl, hv4⟩ := hp4
    rw [hsp] at hv4
    have hv4' := hv4
    obtain ⟨wv', nv', sm', il', fl', ch', bx', ⟨rfl, hoc'⟩, _⟩ := hv4
    (refine RW.storeAll T hs 0 rfl rfl rfl rfl rfl rfl hoc' rfl ?_; intro w5 hs)
    refine Zerun ?_
    exact retQ_ret [_] h4 ⟨resN T hs 0 rfl rfl rfl rfl rfl rfl, trivial⟩ hs.dropAll ⟨_, rfl, hv4'⟩
  · rcases k23 with k2 | k3
    ·
      have hsp := pick_wholes hv0 (by omega) at_ nb
      refine Zerun ?_
      (refine RW.make1 T hs rfl rfl rfl rfl rfl rfl rfl (by dsimp only; omega) (by omega) ?_; intro b6 w6 hs)
      refine Zerun ?_
      refine CW.loop (fun u : Nat × GHeap => [(2, .pointer (some ⟨b1, 0, none⟩)), (4, .pointer (some ⟨b2, 0, none⟩)), (5, .slice (some ⟨b6, 0, none⟩) at_.length at_.length), (28, .slice ad1 at_.length cp1), (29, .int .i64 at_.length), (30, .int .i64 u.1)]) (fun u w' => u.1 ≤ at_.length ∧ GLe h3 u.2 ∧ Sees w h u.2 [⟨some ⟨b6, 0, none⟩, at_.length, at_.length, 2, 1, ((at_.take u.1).map fun i => (v.whole i).1).map (Value.int .i64) ++ List.replicate (at_.length - u.1) (.int .i64 0)⟩, ⟨some ⟨b2, 0, none⟩, 1, 1, 61, 8, vecCells 0 (.slice none 0 0) 0 (.slice none 0 0) (.slice none 0 0) (.slice none 0 0) (.slice none 0 0) (.slice none 0 0)⟩, ⟨some ⟨b1, 0, none⟩, 1, 1, 61, 8, vecCells v.kind wv nv sm il fl ch bx⟩] w') (fun u => at_.length - u.1) (0, h3) ⟨rfl, rfl, rfl, rfl, rfl, rfl, trivial⟩ ⟨by omega, GLe.refl _, by simp only [List.take_zero, List.map_nil, List.nil_append, Nat.sub_zero]; exact hs⟩ ?_
      rintro ⟨i, hh⟩ w7 ⟨hi, hg, hs⟩
      dsimp only at hi hg hs ⊢
      have hS1 := hS1.mono hg
      have hv' := hv'.mono hR hg
      by_cases hlt : i < at_.length
      · have htk := take_succ_getD at_ i 0 hlt
        refine Zerun ?_
        (refine RW.call T hs rfl rfl rfl (vecWhole_con _ v (at_.getD i 0) _ _ hv') ?_; intro v h8 w8 hle8 hp8 hs)
        subst hp8
        refine Zerun ?_
        refine RW.val (Y.idxRN T hs 0 rfl rfl rfl rfl rfl rfl ?_) rfl ?_
        · omega
        refine RW.st1 T hs 0 rfl rfl rfl rfl rfl rfl rfl (by omega) ?_
        intro w9 hs
        have e1 := set_snoc (((at_.take i).map fun i => (v.whole i).1).map (Value.int .i64)) (at_.length - i) (.int .i64 0) (Value.int .i64 ((v.whole (at_.getD i 0)).1)) (by omega)
        simp only [List.length_map, List.length_take, Nat.min_eq_left hi] at e1
        have e2 : ((at_.take i).map fun i => (v.whole i).1).map (Value.int .i64) ++ [Value.int .i64 ((v.whole (at_.getD i 0)).1)] ++ List.replicate (at_.length - i - 1) (.int .i64 0) = ((at_.take (i + 1)).map fun i => (v.whole i).1).map (Value.int .i64) ++ List.replicate (at_.length - (i + 1)) (.int .i64 0) := by
          rw [htk, List.map_append, List.map_append, show at_.length - (i + 1) = at_.length - i - 1 by omega]; rfl
        replace hs := hs.re (e1.trans e2)
        refine Zerun ?_
        exact loopQ_round (i + 1, h8) ⟨rfl, rfl, rfl, rfl, rfl, rfl, trivial⟩ ⟨by dsimp only; omega, hg.trans hle8, hs⟩ (by dsimp only; omega)
      obtain rfl : i = at_.length := by omega
      rw [List.take_length, Nat.sub_self, List.replicate_zero, List.append_nil] at hs
      obtain ⟨h8, hle8, hs, hS8⟩ := hs.freeze
      have hT8 : KAt .i64 h8 (.slice (some ⟨b6, 0, none⟩) at_.length at_.length) (at_.map fun i => (v.whole i).1) := RowAt.of_sl hS8
      refine Zerun ?_
      (refine RW.call T hs rfl rfl rfl (vecInts_con (R := R) _ _ _ _ hT8 (by simp; omega)) ?_; intro v h9 w9 hle9 hp9 hs)
      obtain ⟨cs9, ok, rfl, hok, hv9⟩ := hp9
      obtain rfl : ok = true := by
        rw [hok]
        refine decide_eq_true ?_
        intro u hu
        obtain ⟨i, _, rfl⟩ := List.mem_map.1 hu
        unfold VecD.whole
        split
        · exact wholeF_bounds _
        · constructor <;> decide
      rw [if_pos rfl] at hv9
      have hv9' := hv9
      obtain ⟨wv', nv', sm', il', fl', ch', bx', ⟨rfl, hoc'⟩, _⟩ := hv9
      refine Zerun ?_
      (refine RW.allocN T hs rfl rfl rfl rfl ?_; intro b10 w10 hs)
      (refine RW.storeAll T hs 0 rfl rfl rfl rfl rfl rfl hoc' rfl ?_; intro w11 hs)
      refine Zerun ?_
      (refine RW.call T hs rfl rfl rfl (sqSqueeze_con hR _ _ _ _ hv9' (by simp [VecD.len]; omega)) ?_; intro v h12 w12 hle12 hp12 hs)
      obtain ⟨cs12, rfl, hv12⟩ := hp12
      rw [sq_nums3, hsp] at hv12
      have hv12' := hv12
      obtain ⟨wv2, nv2, sm2, il2, fl2, ch2, bx2, ⟨rfl, hoc2⟩, _⟩ := hv12
      (refine RW.storeAll T hs 1 rfl rfl rfl rfl rfl rfl hoc2 rfl ?_; intro w13 hs)
      refine Zerun ?_
      exact retQ_ret [_] h12 ⟨resN T hs 1 rfl rfl rfl rfl rfl rfl, trivial⟩ hs.dropAll ⟨_, rfl, hv12'⟩
    ·
      have hsp := pick_wholes hv0 (by omega) at_ nb
      refine Zerun ?_
      (refine RW.make1 T hs rfl rfl rfl rfl rfl rfl rfl (by dsimp only; omega) (by omega) ?_; intro b6 w6 hs)
      refine Zerun ?_
      refine CW.loop (fun u : Nat × GHeap => [(2, .pointer (some ⟨b1, 0, none⟩)), (4, .pointer (some ⟨b2, 0, none⟩)), (5, .slice (some ⟨b6, 0, none⟩) at_.length at_.length), (28, .slice ad1 at_.length cp1), (29, .int .i64 at_.length), (30, .int .i64 u.1)]) (fun u w' => u.1 ≤ at_.length ∧ GLe h3 u.2 ∧ Sees w h u.2 [⟨some ⟨b6, 0, none⟩, at_.length, at_.length, 2, 1, ((at_.take u.1).map fun i => (v.whole i).1).map (Value.int .i64) ++ List.replicate (at_.length - u.1) (.int .i64 0)⟩, ⟨some ⟨b2, 0, none⟩, 1, 1, 61, 8, vecCells 0 (.slice none 0 0) 0 (.slice none 0 0) (.slice none 0 0) (.slice none 0 0) (.slice none 0 0) (.slice none 0 0)⟩, ⟨some ⟨b1, 0, none⟩, 1, 1, 61, 8, vecCells v.kind wv nv sm il fl ch bx⟩] w') (fun u => at_.length - u.1) (0, h3) ⟨rfl, rfl, rfl, rfl, rfl, rfl, trivial⟩ ⟨by omega, GLe.refl _, by simp only [List.take_zero, List.map_nil, List.nil_append, Nat.sub_zero]; exact hs⟩ ?_
      rintro ⟨i, hh⟩ w7 ⟨hi, hg, hs⟩
      dsimp only at hi hg hs ⊢
      have hS1 := hS1.mono hg
      have hv' := hv'.mono hR hg
      by_cases hlt : i < at_.length
      · have htk := take_succ_getD at_ i 0 hlt
        refine Zerun ?_
        (refine RW.call T hs rfl rfl rfl (vecWhole_con _ v (at_.getD i 0) _ _ hv') ?_; intro v h8 w8 hle8 hp8 hs)
        subst hp8
        refine Zerun ?_
        refine RW.val (Y.idxRN T hs 0 rfl rfl rfl rfl rfl rfl ?_) rfl ?_
        · omega
        refine RW.st1 T hs 0 rfl rfl rfl rfl rfl rfl rfl (by omega) ?_
        intro w9 hs
        have e1 := set_snoc (((at_.take i).map fun i => (v.whole i).1).map (Value.int .i64)) (at_.length - i) (.int .i64 0) (Value.int .i64 ((v.whole (at_.getD i 0)).1)) (by omega)
        simp only [List.length_map, List.length_take, Nat.min_eq_left hi] at e1
        have e2 : ((at_.take i).map fun i => (v.whole i).1).map (Value.int .i64) ++ [Value.int .i64 ((v.whole (at_.getD i 0)).1)] ++ List.replicate (at_.length - i - 1) (.int .i64 0) = ((at_.take (i + 1)).map fun i => (v.whole i).1).map (Value.int .i64) ++ List.replicate (at_.length - (i + 1)) (.int .i64 0) := by
          rw [htk, List.map_append, List.map_append, show at_.length - (i + 1) = at_.length - i - 1 by omega]; rfl
        replace hs := hs.re (e1.trans e2)
        refine Zerun ?_
        exact loopQ_round (i + 1, h8) ⟨rfl, rfl, rfl, rfl, rfl, rfl, trivial⟩ ⟨by dsimp only; omega, hg.trans hle8, hs⟩ (by dsimp only; omega)
      obtain rfl : i = at_.length := by omega
      rw [List.take_length, Nat.sub_self, List.replicate_zero, List.append_nil] at hs
      obtain ⟨h8, hle8, hs, hS8⟩ := hs.freeze
      have hT8 : KAt .i64 h8 (.slice (some ⟨b6, 0, none⟩) at_.length at_.length) (at_.map fun i => (v.whole i).1) := RowAt.of_sl hS8
      refine Zerun ?_
      (refine RW.call T hs rfl rfl rfl (vecInts_con (R := R) _ _ _ _ hT8 (by simp; omega)) ?_; intro v h9 w9 hle9 hp9 hs)
      obtain ⟨cs9, ok, rfl, hok, hv9⟩ := hp9
      obtain rfl : ok = true := by
        rw [hok]
        refine decide_eq_true ?_
        intro u hu
        obtain ⟨i, _, rfl⟩ := List.mem_map.1 hu
        unfold VecD.whole
        split
        · exact wholeF_bounds _
        · constructor <;> decide
      rw [if_pos rfl] at hv9
      have hv9' := hv9
      obtain ⟨wv', nv', sm', il', fl', ch', bx', ⟨rfl, hoc'⟩, _⟩ := hv9
      refine Zerun ?_
      (refine RW.allocN T hs rfl rfl rfl rfl ?_; intro b10 w10 hs)
      (refine RW.storeAll T hs 0 rfl rfl rfl rfl rfl rfl hoc' rfl ?_; intro w11 hs)
      refine Zerun ?_
      (refine RW.call T hs rfl rfl rfl (sqSqueeze_con hR _ _ _ _ hv9' (by simp [VecD.len]; omega)) ?_; intro v h12 w12 hle12 hp12 hs)
      obtain ⟨cs12, rfl, hv12⟩ := hp12
      rw [sq_nums3, hsp] at hv12
      have hv12' := hv12
      obtain ⟨wv2, nv2, sm2, il2, fl2, ch2, bx2, ⟨rfl, hoc2⟩, _⟩ := hv12
      (refine RW.storeAll T hs 1 rfl rfl rfl rfl rfl rfl hoc2 rfl ?_; intro w13 hs)
      refine Zerun ?_
      exact retQ_ret [_] h12 ⟨resN T hs 1 rfl rfl rfl rfl rfl rfl, trivial⟩ hs.dropAll ⟨_, rfl, hv12'⟩
  ·
    have hsp : (⟨leastN ((at_.map fun i => v.num i).map tidyW), (at_.map fun i => v.num i).map tidyW, [], []⟩ : VecD α) = v.pick at_ nb := by
      have e : (at_.map fun i => v.num i).map tidyW = at_.map v.num := by
        rw [List.map_map]
        apply List.map_congr_left
        intro i _
        simp only [Function.comp]
        unfold tidyW
        rw [tidySpec_of _ (num_tidy hv0 i)]
      rw [e]
      unfold VecD.pick
      rw [if_neg (by omega), if_neg (by omega)]
    refine Zerun ?_
    (refine RW.make1 T hs rfl rfl rfl rfl rfl rfl rfl (by dsimp only; omega) (by omega) ?_; intro b6 w6 hs)
    refine Zerun ?_
    refine CW.loop (fun u : Nat × GHeap => [(2, .pointer (some ⟨b1, 0, none⟩)), (4, .pointer (some ⟨b2, 0, none⟩)), (10, .slice (some ⟨b6, 0, none⟩) at_.length at_.length), (57, .slice ad1 at_.length cp1), (58, .int .i64 at_.length), (59, .int .i64 u.1)]) (fun u w' => u.1 ≤ at_.length ∧ GLe h3 u.2 ∧ Sees w h u.2 [⟨some ⟨b6, 0, none⟩, at_.length, at_.length, 74, 1, ((at_.take u.1).map fun i => v.num i).map (Value.float .f64) ++ List.replicate (at_.length - u.1) (.float .f64 0)⟩, ⟨some ⟨b2, 0, none⟩, 1, 1, 61, 8, vecCells 0 (.slice none 0 0) 0 (.slice none 0 0) (.slice none 0 0) (.slice none 0 0) (.slice none 0 0) (.slice none 0 0)⟩, ⟨some ⟨b1, 0, none⟩, 1, 1, 61, 8, vecCells v.kind wv nv sm il fl ch bx⟩] w') (fun u => at_.length - u.1) (0, h3) ⟨rfl, rfl, rfl, rfl, rfl, rfl, trivial⟩ ⟨by omega, GLe.refl _, by simp only [List.take_zero, List.map_nil, List.nil_append, Nat.sub_zero]; exact hs⟩ ?_
    rintro ⟨i, hh⟩ w7 ⟨hi, hg, hs⟩
    dsimp only at hi hg hs ⊢
    have hS1 := hS1.mono hg
    have hv' := hv'.mono hR hg
    by_cases hlt : i < at_.length
    · have htk := take_succ_getD at_ i 0 hlt
      refine Zerun ?_
      (refine RW.call T hs rfl rfl rfl (flatFrom_con _ v (at_.getD i 0) _ _ hv') ?_; intro v h8 w8 hle8 hp8 hs)
      subst hp8
      skip
      refine RW.val (Y.idxRN T hs 0 rfl rfl rfl rfl rfl rfl ?_) rfl ?_
      · omega
      refine RW.st1 T hs 0 rfl rfl rfl rfl rfl rfl rfl (by omega) ?_
      intro w9 hs
      have e1 := set_snoc (((at_.take i).map fun i => v.num i).map (Value.float .f64)) (at_.length - i) (.float .f64 0) (Value.float .f64 (v.num (at_.getD i 0))) (by omega)
      simp only [List.length_map, List.length_take, Nat.min_eq_left hi] at e1
      have e2 : ((at_.take i).map fun i => v.num i).map (Value.float .f64) ++ [Value.float .f64 (v.num (at_.getD i 0))] ++ List.replicate (at_.length - i - 1) (.float .f64 0) = ((at_.take (i + 1)).map fun i => v.num i).map (Value.float .f64) ++ List.replicate (at_.length - (i + 1)) (.float .f64 0) := by
        rw [htk, List.map_append, List.map_append, show at_.length - (i + 1) = at_.length - i - 1 by omega]; rfl
      replace hs := hs.re (e1.trans e2)
      refine Zerun ?_
      exact loopQ_round (i + 1, h8) ⟨rfl, rfl, rfl, rfl, rfl, rfl, trivial⟩ ⟨by dsimp only; omega, hg.trans hle8, hs⟩ (by dsimp only; omega)
    obtain rfl : i = at_.length := by omega
    rw [List.take_length, Nat.sub_self, List.replicate_zero, List.append_nil] at hs
    obtain ⟨h8, hle8, hs, hS8⟩ := hs.freeze
    have hT8 : FAt h8 (.slice (some ⟨b6, 0, none⟩) at_.length at_.length) (at_.map fun i => v.num i) := RowAt.of_sl hS8
    refine Zerun ?_
    (refine RW.call T hs rfl rfl rfl (sqNumbers_con (R := R) hR _ _ _ _ hT8 (by intro u hu; obtain ⟨i, _, rfl⟩ := List.mem_map.1 hu; exact (num_tidy hv0 i).1) (by simp; omega)) ?_; intro v h9 w9 hle9 hp9 hs)
    obtain ⟨cs9, ok, rfl, hok, hv9⟩ := hp9
    obtain rfl : ok = true := by
      rw [hok]
      refine decide_eq_true ?_
      intro u hu
      obtain ⟨i, _, rfl⟩ := List.mem_map.1 hu
      exact (num_tidy hv0 i).2.1
    rw [if_pos rfl, hsp] at hv9
    have hv9' := hv9
    obtain ⟨wv', nv', sm', il', fl', ch', bx', ⟨rfl, hoc'⟩, _⟩ := hv9
    refine Zerun ?_
    (refine RW.allocN T hs rfl rfl rfl rfl ?_; intro b10 w10 hs)
    (refine RW.storeAll T hs 0 rfl rfl rfl rfl rfl rfl hoc' rfl ?_; intro w11 hs)
    refine Zerun ?_
    (refine RW.storeAll T hs 1 rfl rfl rfl rfl rfl rfl hoc' rfl ?_; intro w12 hs)
    refine Zerun ?_
    exact retQ_ret [_] h9 ⟨resN T hs 1 rfl rfl rfl rfl rfl rfl, trivial⟩ hs.dropAll ⟨_, rfl, hv9'⟩
  · have hsp : (⟨5, [], at_.map (fun i => atD v.chars i 32), []⟩ : VecD α) = v.pick at_ nb := by unfold VecD.pick; rw [if_pos k5]
    refine Zerun ?_
    (refine RW.call T hs rfl rfl rfl (vecText_con _ v _ _ hv' (by omega)) ?_; intro v h4 w4 hle4 hp4 hs)
    refine Zerun ?_
    (refine RW.call T hs rfl rfl rfl (thoseRune_con _ _ _ at_ 32 _ _ hp4 (ha'.mono hle4) hm) ?_; intro v h5 w5 hle5 hp5 hs)
    (refine RW.call T hs rfl rfl rfl (vecChars_con (R := R) _ _ _ _ hp5 (by simp; omega)) ?_; intro v h6 w6 hle6 hp6 hs)
    obtain ⟨cs6, rfl, hv6⟩ := hp6
    rw [hsp] at hv6
    have hv6' := hv6
    obtain ⟨wv', nv', sm', il', fl', ch', bx', ⟨rfl, hoc'⟩, _⟩ := hv6
    (refine RW.storeAll T hs 0 rfl rfl rfl rfl rfl rfl hoc' rfl ?_; intro w7 hs)
    refine Zerun ?_
    exact retQ_ret [_] h6 ⟨resN T hs 0 rfl rfl rfl rfl rfl rfl, trivial⟩ hs.dropAll ⟨_, rfl, hv6'⟩
  · have hsp : (⟨6, [], [], at_.map (fun i => atD v.boxes i nb)⟩ : VecD α) = v.pick at_ nb := by unfold VecD.pick; rw [if_neg (by omega), if_pos k6]
    refine Zerun ?_
    (refine RW.call T hs rfl rfl rfl (vecArrays_con hR h1 _ v _ _ hv' (by omega)) ?_; intro v h4 w4 hle4 hp4 hs)
    refine Zerun ?_
    (refine RW.call T hs rfl rfl rfl (hbl _ _) ?_; intro v h5 w5 hle5 hp5 hs)
    obtain ⟨cs5, rfl, hb5⟩ := hp5
    (refine RW.call T hs rfl rfl rfl (thoseArr_con hR h1 h9 _ _ _ at_ _ nb _ _ (hp4.mono hle5 (fun u a => hR _ _ u a hle5)) (ha'.mono (hle4.trans hle5)) hb5 hm) ?_; intro v h6 w6 hle6 hp6 hs)
    (refine RW.call T hs rfl rfl rfl (vecBoxes_con hR h1 _ _ _ _ hp6 (by simp; omega)) ?_; intro v h7 w7 hle7 hp7 hs)
    obtain ⟨cs7, rfl, hv7⟩ := hp7
    rw [hsp] at hv7
    have hv7' := hv7
    obtain ⟨wv', nv', sm', il', fl', ch', bx', ⟨rfl, hoc'⟩, _⟩ := hv7
    (refine RW.storeAll T hs 0 rfl rfl rfl rfl rfl rfl hoc' rfl ?_; intro w8 hs)
    refine Zerun ?_
    exact retQ_ret [_] h7 ⟨resN T hs 0 rfl rfl rfl rfl rfl rfl, trivial⟩ hs.dropAll ⟨_, rfl, hv7'⟩
end
end Go.Proofs.Ythbfkhklihejiaa

/-
  Contracts of the document's answer and of the law's own functions of layer 8: items picked, lists shown. No statement is proved here.
-/
namespace Go.Proofs.Ythbfkhklihejiaa
open Go Go.RowKit
set_option linter.unusedVariables false
set_option linter.unusedSimpArgs false
set_option maxHeartbeats 4000000
attribute [local irreducible] CW RW QW SW HW ConM retM heldQ calmQ elemP thenQ blockQ loopQ joinQ retQ Yields Con Sl zF magR unitF truncF fwF wholeF tidySpec elemQ rankF leastN tidyW
set_option maxHeartbeats 4000000

section
variable {β : Type} {R : GHeap → List Value → β → Prop}
/-- what stands for none, of a class -/
def blankI (c : Int) : ItemD (PlainD β) := ⟨c, 0, if c = 1 then 32 else 0, if c = 2 then [⟨[0], [], 0⟩] else []⟩
theorem refBlank08_con (hR : Mono R) (c : Int) (w : World) (h : GHeap) : Con Try.prog 143 [.int .i64 c] w h (fun h' u => ∃ cs', u = .agg cs'.toArray ∧ ItemAt (PlainR R) h' cs' (blankI c)) := by
  refine Con.of_body Try.func143 rfl Try.ntmps143 rfl rfl ?_
  intro hs
  refine Zrun ?_
  (refine RW.allocN T hs rfl rfl rfl rfl ?_; intro b1 w1 hs)
  refine Zerun ?_
  refine RW.val (Y.build T rfl rfl rfl rfl rfl rfl rfl) rfl ?_
  (refine RW.allocN T hs rfl rfl rfl rfl ?_; intro b2 w2 hs)
  (refine RW.storeAll T hs 0 rfl rfl rfl rfl rfl rfl rfl rfl ?_; intro w3 hs)
  refine Zerun ?_
  unfold blankI
  by_cases c1 : c = 1
  · rw [if_pos c1, if_neg (by omega)]
    refine Zerun ?_
    (refine RW.store1 T hs 0 rfl rfl rfl rfl rfl rfl rfl rfl ?_; intro w4 hs)
    refine Zerun ?_
    (refine RW.storeAll T hs 1 rfl rfl rfl rfl rfl rfl rfl rfl ?_; intro w5 hs)
    refine Zerun ?_
    exact retQ_ret [_] h ⟨resN T hs 1 rfl rfl rfl rfl rfl rfl, trivial⟩ hs.dropAll ⟨_, rfl, ItemAt.mk' (x := ⟨c, 0, 32, []⟩) (RowsAt.nil _) (Nat.succ_pos _)⟩
  rw [if_neg c1]
  by_cases c2 : c = 2
  · rw [if_pos c2]
    refine Zerun ?_
    (refine RW.lit T hs (vs := [.int .i64 0]) (cs := [.int .i64 0]) rfl rfl rfl rfl (by simp [Value.cells]) rfl rfl rfl rfl rfl ?_; intro b4 w4 hs)
    obtain ⟨h5, hle5, hs, hS5⟩ := hs.freeze
    have hI5 : IntsAt h5 (.slice (some ⟨b4, 0, none⟩) 1 1) [0] := IntsAt.of_sl hS5
    refine RW.val (Y.build T rfl rfl rfl rfl rfl rfl rfl) rfl ?_
    (refine RW.lit T hs (vs := [.agg [.slice (some ⟨b4, 0, none⟩) 1 1, .slice none 0 0, .int .i64 0].toArray]) (cs := [.slice (some ⟨b4, 0, none⟩) 1 1, .slice none 0 0, .int .i64 0]) rfl rfl rfl rfl (by simp [Value.cells]) rfl rfl rfl rfl rfl ?_; intro b6 w6 hs)
    obtain ⟨h7, hle7, hs, hS7⟩ := hs.freeze
    have hR7 : RowsAt 3 (PlainR R h7) h7 (.slice (some ⟨b6, 0, none⟩) 1 1) [(⟨[0], [], 0⟩ : PlainD β)] := RowsAt.single hS7 ⟨_, _, rfl, hI5.mono hle7, RowsAt.nil _⟩
    refine Zerun ?_
    (refine RW.store1 T hs 0 rfl rfl rfl rfl rfl rfl rfl rfl ?_; intro w8 hs)
    refine Zerun ?_
    (refine RW.storeAll T hs 1 rfl rfl rfl rfl rfl rfl rfl rfl ?_; intro w9 hs)
    refine Zerun ?_
    exact retQ_ret [_] h7 ⟨resN T hs 1 rfl rfl rfl rfl rfl rfl, trivial⟩ hs.dropAll ⟨_, rfl, ItemAt.mk' (x := ⟨c, 0, 0, [(⟨[0], [], 0⟩ : PlainD β)]⟩) hR7 (Nat.succ_pos _)⟩
  rw [if_neg c2]
  refine Zerun ?_
  (refine RW.storeAll T hs 1 rfl rfl rfl rfl rfl rfl rfl rfl ?_; intro w5 hs)
  refine Zerun ?_
  exact retQ_ret [_] h ⟨resN T hs 1 rfl rfl rfl rfl rfl rfl, trivial⟩ hs.dropAll ⟨_, rfl, ItemAt.mk' (x := ⟨c, 0, 0, []⟩) (RowsAt.nil _) (Nat.succ_pos _)⟩
theorem refList08_con {γ : Type} {RC : GHeap → List Value → γ → Prop} (hRC : Mono RC) (v : Value) (l : List (ItemD γ)) (c : Int) (w : World) (h : GHeap) (hl : RowsAt 4 (ItemAt RC h) h v l) : Con Try.prog 136 [v, .int .i64 c] w h (fun h' u => ∃ cs', u = .agg cs'.toArray ∧ PlainR RC h' cs' (⟨[(l.length : Int)], l, c⟩ : PlainD γ)) := by
  have hl' := hl
  obtain ⟨ad, cp, xs, rfl, hS, hA⟩ := hl
  refine Con.of_body Try.func136 rfl Try.ntmps136 rfl rfl ?_
  intro hs
  refine Zrun ?_
  (refine RW.allocN T hs rfl rfl rfl rfl ?_; intro b1 w1 hs)
  refine Zerun ?_
  (refine RW.lit T hs (vs := [.int .i64 l.length]) (cs := [.int .i64 l.length]) rfl rfl rfl rfl (by simp [Value.cells]) rfl rfl rfl rfl rfl ?_; intro b2 w2 hs)
  obtain ⟨h3, hle3, hs, hS3⟩ := hs.freeze
  have hI3 : IntsAt h3 (.slice (some ⟨b2, 0, none⟩) 1 1) [(l.length : Int)] := IntsAt.of_sl hS3
  refine Zerun ?_
  refine RW.val (Y.build T rfl rfl rfl rfl rfl rfl rfl) rfl ?_
  (refine RW.storeAll T hs 0 rfl rfl rfl rfl rfl rfl rfl rfl ?_; intro w4 hs)
  refine Zerun ?_
  exact retQ_ret [_] h3 ⟨resN T hs 0 rfl rfl rfl rfl rfl rfl, trivial⟩ hs.dropAll ⟨_, rfl, _, _, rfl, hI3, hl'.mono hle3 (fun u a => ItemAt.mono hRC _ _ u a hle3)⟩
theorem refPick08_con (hR : Mono R) (v v1 : Value) (l : List (ItemD (PlainD β))) (c : Int) (at_ : List Int) (w : World) (h : GHeap) (hl : RowsAt 4 (ItemAt (PlainR R) h) h v l) (ha : IntsAt h v1 at_) (hm : at_.length ≤ 1048576) : Con Try.prog 67 [v, .int .i64 c, v1] w h (fun h' u => RowsAt 4 (ItemAt (PlainR R) h') h' u (at_.map fun i => atD l i (blankI c))) := by
  have hRI := ItemAt.mono (PlainR.mono hR)
  obtain ⟨ad, cp, xs, rfl, hS, hA⟩ := hl
  obtain ⟨ad1, cp1, rfl, hS1⟩ := ha
  have hlen : l.length ≤ 9223372036854775807 := by have := hS.caps; omega
  refine Con.of_body Try.func67 rfl Try.ntmps67 rfl rfl ?_
  intro hs
  refine Zerun ?_
  have hs := hs.nilRow 83 4
  refine CW.loop (fun u : Nat × Option Addr × Nat × List Value × GHeap => [(0, .slice ad l.length cp), (1, .int .i64 c), (2, .slice ad1 at_.length cp1), (7, .slice u.2.1 u.1 u.2.2.1), (8, .int .i64 u.1)]) (fun u w' => u.1 ≤ at_.length ∧ GLe h u.2.2.2.2 ∧ AllN 4 (ItemAt (PlainR R) u.2.2.2.2) u.2.2.2.1 ((at_.take u.1).map fun i => atD l i (blankI c)) ∧ Sees w h u.2.2.2.2 [⟨u.2.1, u.1, u.2.2.1, 83, 4, u.2.2.2.1⟩] w') (fun u => at_.length - u.1) (0, none, 0, [], h) ⟨rfl, rfl, rfl, rfl, rfl, trivial⟩ ⟨by omega, GLe.refl _, rfl, hs⟩ ?_
  rintro ⟨i, ra, rc, vs, hh⟩ w5 ⟨hi, hg, hAv, hs⟩
  dsimp only at hi hg hAv hs ⊢
  have hS := hS.mono hg
  have hS1 := hS1.mono hg
  by_cases hlt : i < at_.length
  · have htk := take_succ_getD at_ i 0 hlt
    have done : ∀ (h6 : GHeap) (cs6 : List Value) (x : ItemD (PlainD β)), GLe hh h6 → cs6.length = 4 → ItemAt (PlainR R) h6 cs6 x → x = atD l (at_.getD i 0) (blankI c) → AllN 4 (ItemAt (PlainR R) h6) (vs ++ cs6) ((at_.take (i + 1)).map fun i => atD l i (blankI c)) := by
      intro h6 cs6 x hle6 hl6 hi6 hx
      rw [htk, List.map_append]
      show AllN 4 _ (vs ++ cs6) (_ ++ [atD l (at_.getD i 0) (blankI c)])
      rw [← hx]
      exact (hAv.mono (fun u a => hRI _ _ u a hle6)).append (AllN.one hl6 hi6)
    by_cases c1 : at_.getD i 0 < 0
    · refine Zerun ?_
      (refine RW.call T hs rfl rfl rfl (refBlank08_con hR c _ _) ?_; intro v h6 w6 hle6 hp6 hs)
      obtain ⟨cs6, rfl, hi6⟩ := hp6
      have hl6 : cs6.length = 4 := by obtain ⟨_, rfl, _⟩ := hi6; rfl
      have ho6 := ItemAt.one _ _ _ hi6
      (refine RW.lit T hs (vs := [.agg cs6.toArray]) (cs := cs6) rfl rfl rfl rfl (by simp [Value.cells, hl6]) rfl (by simp [Value.cells]) rfl rfl rfl ?_; intro b7 w7 hs)
      (refine RW.append T hs 1 rfl rfl (m := 1) (news := cs6) rfl rfl rfl rfl rfl rfl (hs.src0 (by simpa using hl6) ho6) (by simp) (by dsimp only; omega) (by omega) ?_; intro ad8 cp8 w8 hs; replace hs := hs.drop)
      refine Zerun ?_
      exact loopQ_round (i + 1, ad8, cp8, vs ++ cs6, h6) ⟨rfl, rfl, rfl, rfl, rfl, trivial⟩ ⟨by dsimp only; omega, hg.trans hle6, done h6 cs6 _ hle6 hl6 hi6 (atD_out (by omega)).symm, hs⟩ (by dsimp only; omega)
    by_cases c2 : ¬ at_.getD i 0 < l.length
    · refine Zerun ?_
      (refine RW.call T hs rfl rfl rfl (refBlank08_con hR c _ _) ?_; intro v h6 w6 hle6 hp6 hs)
      obtain ⟨cs6, rfl, hi6⟩ := hp6
      have hl6 : cs6.length = 4 := by obtain ⟨_, rfl, _⟩ := hi6; rfl
      have ho6 := ItemAt.one _ _ _ hi6
      (refine RW.lit T hs (vs := [.agg cs6.toArray]) (cs := cs6) rfl rfl rfl rfl (by simp [Value.cells, hl6]) rfl (by simp [Value.cells]) rfl rfl rfl ?_; intro b7 w7 hs)
      (refine RW.append T hs 1 rfl rfl (m := 1) (news := cs6) rfl rfl rfl rfl rfl rfl (hs.src0 (by simpa using hl6) ho6) (by simp) (by dsimp only; omega) (by omega) ?_; intro ad8 cp8 w8 hs; replace hs := hs.drop)
      refine Zerun ?_
      exact loopQ_round (i + 1, ad8, cp8, vs ++ cs6, h6) ⟨rfl, rfl, rfl, rfl, rfl, trivial⟩ ⟨by dsimp only; omega, hg.trans hle6, done h6 cs6 _ hle6 hl6 hi6 (atD_out (by omega)).symm, hs⟩ (by dsimp only; omega)
    have hlk : (at_.getD i 0).toNat < l.length := by omega
    obtain ⟨y, hy, hyl, hRy⟩ := hA.elem _ hlk
    have hoy := ItemAt.one _ _ _ hRy
    have hRy := hRI _ _ _ _ hg hRy
    refine Zerun ?_
    (refine RW.lit T hs (vs := [.agg y.toArray]) (cs := y) rfl rfl rfl rfl (by simp [Value.cells, hyl]) rfl (by simp [Value.cells]) rfl rfl rfl ?_; intro b7 w7 hs)
    (refine RW.append T hs 1 rfl rfl (m := 1) (news := y) rfl rfl rfl rfl rfl rfl (hs.src0 (by simpa using hyl) hoy) (by simp) (by dsimp only; omega) (by omega) ?_; intro ad8 cp8 w8 hs; replace hs := hs.drop)
    refine Zerun ?_
    exact loopQ_round (i + 1, ad8, cp8, vs ++ y, hh) ⟨rfl, rfl, rfl, rfl, rfl, trivial⟩ ⟨by dsimp only; omega, hg, done hh y _ (GLe.refl _) hyl hRy ((getElem_getD l _ _ hlk).trans (atD_in (by omega)).symm), hs⟩ (by dsimp only; omega)
  · obtain rfl : i = at_.length := by omega
    rw [List.take_length] at hAv
    obtain ⟨h6, hle6, hs, hS6⟩ := hs.freeze
    refine Zerun ?_
    exact retQ_ret [_] h6 ⟨rfl, trivial⟩ hs.dropAll ⟨ra, rc, vs, by simp [packv], by simpa using hS6, hAv.mono (fun u a => hRI _ _ u a hle6)⟩
end
theorem shows_con (k : Nat) (cs : List Value) (v : VecD (AD k)) (v1 : Value) (l : List (ItemD (PD k))) (c : Int) (w : World) (h : GHeap) (hv : VecAt (ArrAt k) h cs v) (hl : RowsAt 4 (ItemAt (PlainAt k) h) h v1 l) (hc : v.cls = c) (hk0 : v.kind ≠ 0) (hkl : v.kind = v.least) (hvm : v.len ≤ 1048576) (hsm : ∀ b ∈ v.boxes, sml k b) (he : itemsV (plain k) v = l) (htd : ∀ x ∈ l, tdyIt (tdy k) x) : Con Try.prog 65 [.agg cs.toArray, v1, .int .i64 c] w h (fun _ u => u = .bool true) := by
  have hv' := hv
  have hl' := hl
  have hlv : l.length = v.len := by rw [← he, itemsV_len (plain k) hv]
  have htd1 : tdy (k + 1) (plain (k + 1) (⟨[(v.len : Int)], v⟩ : ArrD (AD k))) := fun x hx => htd x (by rw [← he]; exact hx)
  have htd2 : tdy (k + 1) (⟨[(l.length : Int)], l, c⟩ : PlainD (PD k)) := fun x hx => htd x hx
  have hpe : plain (k + 1) (⟨[(v.len : Int)], v⟩ : ArrD (AD k)) = (⟨[(l.length : Int)], l, c⟩ : PlainD (PD k)) := by
    show (⟨[(v.len : Int)], itemsV (plain k) v, v.cls⟩ : PlainD (PD k)) = _
    rw [he, hlv, hc]
  obtain ⟨wv, nv, sm, il, fl, ch, bx, ⟨rfl, hoc⟩, hkk⟩ := hv
  clear hkk
  obtain ⟨ad, cp, xs, rfl, _, _⟩ := hl
  refine Con.of_body Try.func65 rfl Try.ntmps65 rfl rfl ?_
  intro hs
  refine Zrun ?_
  (refine RW.boxN hs rfl rfl ?_; intro b1 w1 hs)
  refine Zerun ?_
  (refine RW.call T hs rfl rfl rfl (vecClass_con _ v _ _ hv') ?_; intro v h2 w2 hle2 hp2 hs)
  subst hp2
  have hv' := hv'.mono (ArrAt.mono k) hle2
  have hl' := hl'.mono hle2 (fun u a => ItemAt.mono (PlainAt.mono k) _ _ u a hle2)
  refine Zerun ?_
  (refine RW.call T hs rfl rfl rfl (sqTight_con (ArrAt.mono k) _ v _ _ hv' hvm) ?_; intro v h3 w3 hle3 hp3 hs)
  subst hp3
  rw [decide_eq_true hkl]
  have hv' := hv'.mono (ArrAt.mono k) hle3
  have hl' := hl'.mono hle3 (fun u a => ItemAt.mono (PlainAt.mono k) _ _ u a hle3)
  refine Zerun ?_
  (refine RW.call T hs rfl rfl rfl (vecKind_con _ v _ _ hv') ?_; intro v h4 w4 hle4 hp4 hs)
  subst hp4
  have hv' := hv'.mono (ArrAt.mono k) hle4
  have hl' := hl'.mono hle4 (fun u a => ItemAt.mono (PlainAt.mono k) _ _ u a hle4)
  refine Zerun ?_
  refine CW.regionO T hs ?_
  intro w5 hs
  refine HW.takeS (fuel := 10) 0 rfl (fun _ _ hs => Y.loadRowN T hs 0 rfl rfl rfl rfl rfl rfl rfl) hs rfl (by kernel_rfl) (by kernel_rfl) (by kernel_rfl) ?_
  refine HW.takeS (fuel := 9) 3 rfl (fun _ _ hs => Y.loadRowN T hs 0 rfl rfl rfl rfl rfl rfl rfl) hs rfl (by kernel_rfl) (by kernel_rfl) (by kernel_rfl) ?_
  refine HW.takeS (fuel := 8) 6 rfl (fun _ _ hs => Y.move rfl) hs rfl (by kernel_rfl) (by kernel_rfl) (by kernel_rfl) ?_
  refine HW.takeS (fuel := 7) 7 rfl (fun _ _ hs => Y.move rfl) hs rfl (by kernel_rfl) (by kernel_rfl) (by kernel_rfl) ?_
  refine HW.one (fuel := 6) 1 rfl (by kernel_rfl) ?_
  (refine RW.call T hs rfl rfl rfl (vecLen_con _ v _ _ hv') ?_; intro v h22 w22 hle22 hp22 hs)
  subst hp22
  have hv' := hv'.mono (ArrAt.mono k) hle22
  have hl' := hl'.mono hle22 (fun u a => ItemAt.mono (PlainAt.mono k) _ _ u a hle22)
  refine RW.nil ?_
  refine heldQ_normal ⟨_, hs⟩ ?_
  refine HW.one (fuel := 5) 2 rfl (by kernel_rfl) ?_
  (refine RW.lit T hs (vs := [.int .i64 v.len]) (cs := [.int .i64 v.len]) rfl rfl rfl rfl (by simp [Value.cells]) rfl rfl rfl rfl rfl ?_; intro b23 w23 hs)
  obtain ⟨h23, hle23, hs, hS23⟩ := hs.freeze
  have ha23 : ArrAt (k + 1) h23 (.slice (some ⟨b23, 0, none⟩) 1 1 :: (vecCells v.kind wv nv sm il fl ch bx)) (⟨[(v.len : Int)], v⟩ : ArrD (AD k)) := ⟨_, _, rfl, IntsAt.of_sl hS23, hv'.mono (ArrAt.mono k) hle23⟩
  have hl' := hl'.mono hle23 (fun u a => ItemAt.mono (PlainAt.mono k) _ _ u a hle23)
  refine RW.nil ?_
  refine heldQ_normal ⟨_, hs⟩ ?_
  refine HW.takeS (fuel := 4) 4 rfl (fun _ _ hs => Y.build T rfl rfl rfl rfl rfl rfl rfl) hs rfl (by kernel_rfl) (by kernel_rfl) (by kernel_rfl) ?_
  refine HW.one (fuel := 3) 5 rfl (by kernel_rfl) ?_
  (refine RW.call T hs rfl rfl rfl (plainV_con (k + 1) _ _ _ _ ha23 ⟨(by show 1 ≤ 8; omega), hvm, hsm⟩) ?_; intro v h26 w26 hle26 hp26 hs)
  obtain ⟨cs26, rfl, hq26⟩ := hp26
  have hl' := hl'.mono hle26 (fun u a => ItemAt.mono (PlainAt.mono k) _ _ u a hle26)
  refine RW.nil ?_
  refine heldQ_normal ⟨_, hs⟩ ?_
  refine HW.one (fuel := 2) 8 rfl (by kernel_rfl) ?_
  (refine RW.call T hs rfl rfl rfl (refList08_con (PlainAt.mono k) _ _ c _ _ hl') ?_; intro v h29 w29 hle29 hp29 hs)
  obtain ⟨cs29, rfl, hq29⟩ := hp29
  have hq26 := PlainAt.mono (k + 1) _ _ _ _ hle29 hq26
  refine RW.nil ?_
  refine heldQ_normal ⟨_, hs⟩ ?_
  refine HW.one (fuel := 1) 9 rfl (by kernel_rfl) ?_
  (refine RW.call T hs rfl rfl rfl (refSame_con (k + 1) _ _ _ _ _ _ hq26 hq29 htd1 htd2) ?_; intro v h30 w30 hle30 hp30 hs)
  subst hp30
  rw [eqB_of hpe]
  refine RW.nil ?_
  refine heldQ_normal ⟨_, hs⟩ ?_
  refine HW.takeS (fuel := 0) 10 rfl (fun _ _ hs => Y.assign rfl) hs rfl (by kernel_rfl) (by kernel_rfl) (by kernel_rfl) ?_
  refine HW.done (by kernel_rfl) ?_
  refine calmQ_normal ?_
  refine Zerun ?_
  exact retQ_ret [_] h30 ⟨rfl, trivial⟩ hs.dropAll rfl
end Go.Proofs.Ythbfkhklihejiaa

/-
  Contracts of the law's own functions of layer 8: good plain arrays, the chapter's example, elements at all places. No statement is proved here.
-/
namespace Go.Proofs.Ythbfkhklihejiaa
open Go Go.RowKit
set_option linter.unusedVariables false
set_option linter.unusedSimpArgs false
set_option maxHeartbeats 4000000
attribute [local irreducible] CW RW QW SW HW ConM retM heldQ calmQ elemP thenQ blockQ loopQ joinQ retQ Yields Con Sl zF magR unitF truncF fwF wholeF tidySpec elemQ rankF leastN tidyW
set_option maxHeartbeats 4000000

theorem Y.fieldVec {P : Program} (T : Tab P) {n : Nat} {L : Env} {w : World} {ty t : TypeId} {x : Operand} {fs : List (Nat × Nat)} {j ft : Nat} {d : Ty} {i : Inf} {s : Value} {vc : List Value} (hT : T.ty t = some (.struct fs)) (hf : fs[j]? = some (ft, 1)) (hF : T.ty ft = some d) (hd : d.agg = true) (hI : T.inf ft = some i) (hx : opv L x = some (.agg (s :: vc).toArray)) (hl : vc.length = i.size) : Yields P n L w (.field t x j) ty (.agg vc.toArray) := by
  have := Y.fieldN (P := P) (n := n) (w := w) (ty := ty) T hT hf hF hd hI hx
  have e : (s :: vc).toArray.extract 1 (1 + i.size) = vc.toArray := by
    apply Array.ext'
    simp [← hl]
  rwa [e] at this
/-! ## Plain facts -/
theorem atD_map {γ δ : Type} (g : γ → δ) (l : List γ) (i : Int) (d : γ) : atD (l.map g) i (g d) = g (atD l i d) := by
  unfold atD
  split
  · by_cases c : i.toNat < l.length
    · simp [List.getD_eq_getElem?_getD, c]
    · simp [List.getD_eq_getElem?_getD, c]
  · rfl
theorem atD_mem {γ : Type} (l : List γ) (i : Int) (d : γ) : atD l i d ∈ l ∨ atD l i d = d := by
  unfold atD
  split
  · by_cases c : i.toNat < l.length
    · exact .inl (mem_getD _ _ _ c)
    · right; simp [List.getD_eq_getElem?_getD, c]
  · exact .inr rfl
section
variable {α β : Type} {R : GHeap → List Value → α → Prop}
theorem pick_cls (v : VecD α) (at_ : List Int) (nb : α) : (v.pick at_ nb).cls = v.cls := by
  unfold VecD.pick
  by_cases k5 : v.kind = 5
  · rw [if_pos k5]; unfold VecD.cls; rw [if_pos rfl, if_pos k5]
  · rw [if_neg k5]
    by_cases k6 : v.kind = 6
    · rw [if_pos k6]; unfold VecD.cls; rw [if_neg (show ¬ (6 : Int) = 5 by decide), if_pos rfl, if_neg k5, if_pos k6]
    · rw [if_neg k6]
      have := leastN_bounds (at_.map v.num)
      unfold VecD.cls
      rw [if_neg k5, if_neg k6]
      dsimp only
      rw [if_neg (by omega), if_neg (by omega)]
theorem pick_facts (v : VecD α) (at_ : List Int) (nb : α) : (v.pick at_ nb).kind ≠ 0 ∧ (v.pick at_ nb).kind = (v.pick at_ nb).least ∧ (v.pick at_ nb).len = at_.length ∧ ∀ b ∈ (v.pick at_ nb).boxes, b ∈ v.boxes ∨ b = nb := by
  have hc := pick_cls v at_ nb
  unfold VecD.least
  rw [hc]
  unfold VecD.cls VecD.pick
  by_cases k5 : v.kind = 5
  · rw [if_pos k5, if_pos k5]; simp [VecD.len]
  · rw [if_neg k5, if_neg k5]
    by_cases k6 : v.kind = 6
    · rw [if_pos k6, if_pos k6]
      refine ⟨show (6 : Int) ≠ 0 by decide, by simp, by simp [VecD.len], ?_⟩
      intro b hb
      obtain ⟨i, _, rfl⟩ := List.mem_map.1 hb
      exact atD_mem _ _ _
    · rw [if_neg k6, if_neg k6]
      have := leastN_bounds (at_.map v.num)
      exact ⟨by dsimp only; omega, by dsimp only; rw [if_pos ⟨rfl, by omega⟩], by simp [VecD.len], fun b hb => by cases hb⟩
theorem itemsV_c1 (f : α → β) {v : VecD α} (hc : v.cls = 1) : itemsV f v = v.chars.map fun c => ⟨1, 0, c, []⟩ := by unfold itemsV; rw [if_pos hc]
theorem itemsV_c2 (f : α → β) {v : VecD α} (hc : v.cls = 2) : itemsV f v = v.boxes.map fun b => ⟨2, 0, 0, [f b]⟩ := by unfold itemsV; rw [if_neg (by omega), if_pos hc]
theorem itemsV_c0 (f : α → β) {v : VecD α} (hc : v.cls = 0) : itemsV f v = v.nums.map fun x => ⟨0, x, 0, []⟩ := by unfold itemsV; rw [if_neg (by omega), if_neg (by omega)]
theorem pick_items (f : α → PlainD β) (v : VecD α) (at_ : List Int) (nb : α) (hnb : f nb = ⟨[0], [], 0⟩) : itemsV f (v.pick at_ nb) = at_.map (fun i => atD (itemsV f v) i (blankI v.cls)) := by
  have hpc := pick_cls v at_ nb
  have hcl : v.cls = if v.kind = 5 then 1 else if v.kind = 6 then 2 else 0 := rfl
  by_cases k5 : v.kind = 5
  · rw [if_pos k5] at hcl
    have e : (v.pick at_ nb).chars = at_.map (fun i => atD v.chars i 32) := by unfold VecD.pick; rw [if_pos k5]
    rw [itemsV_c1 f (hpc.trans hcl), itemsV_c1 f hcl, hcl, e, List.map_map]
    apply List.map_congr_left
    intro i _
    exact (atD_map (fun c => (⟨1, 0, c, []⟩ : ItemD (PlainD β))) v.chars i 32).symm
  · rw [if_neg k5] at hcl
    by_cases k6 : v.kind = 6
    · rw [if_pos k6] at hcl
      have e : (v.pick at_ nb).boxes = at_.map (fun i => atD v.boxes i nb) := by unfold VecD.pick; rw [if_neg k5, if_pos k6]
      rw [itemsV_c2 f (hpc.trans hcl), itemsV_c2 f hcl, hcl, e, List.map_map]
      apply List.map_congr_left
      intro i _
      have e := (atD_map (fun b => (⟨2, 0, 0, [f b]⟩ : ItemD (PlainD β))) v.boxes i nb).symm
      rw [hnb] at e
      exact e
    · rw [if_neg k6] at hcl
      have e : (v.pick at_ nb).nums = at_.map v.num := by unfold VecD.pick; rw [if_neg k5, if_neg k6]
      rw [itemsV_c0 f (hpc.trans hcl), itemsV_c0 f hcl, hcl, e, List.map_map]
      apply List.map_congr_left
      intro i _
      exact (atD_map (fun x => (⟨0, x, 0, []⟩ : ItemD (PlainD β))) v.nums i 0).symm
theorem pick_items' (f : α → PlainD β) (v : VecD α) (at_ : List Int) (nb : α) (L : List (ItemD (PlainD β))) (c : Int) (hL : itemsV f v = L) (hc : v.cls = c) (hnb : f nb = ⟨[0], [], 0⟩) : itemsV f (v.pick at_ nb) = at_.map (fun i => atD L i (blankI c)) := by
  subst hL hc
  exact pick_items f v at_ nb hnb
end
def blankA (k : Nat) : AD (k + 1) := (⟨[0], ⟨1, [], [], []⟩⟩ : ArrD (AD k))
def blankP (k : Nat) : PD (k + 1) := (⟨[0], [], 0⟩ : PlainD (PD k))
theorem blankA_plain (k : Nat) : plain (k + 1) (blankA k) = blankP k := rfl
theorem blankA_sml (k : Nat) : sml (k + 1) (blankA k) := ⟨by show 1 ≤ 8; omega, Nat.zero_le _, fun b hb => by cases hb⟩
theorem blankP_tdy (k : Nat) : tdy (k + 1) (blankP k) := fun x hx => by cases hx
theorem blankI_tdy (k : Nat) (c : Int) : tdyIt (tdy (k + 1)) (blankI c : ItemD (PlainD (PD k))) := by
  refine ⟨tidy0, fun b hb => ?_⟩
  unfold blankI at hb
  dsimp only at hb
  split at hb
  · rw [List.mem_singleton.1 hb]; exact blankP_tdy k
  · cases hb
theorem good08_con (k : Nat) (cs : List Value) (p : PD k) (w : World) (h : GHeap) (hp : PlainAt k h cs p) : Con Try.prog 63 [.agg cs.toArray] w h (fun _ u => ∃ b, u = .bool b ∧ (b = true → chk k 40 p = 0)) := by
  have hp' := hp
  cases k with
  | zero => exact hp.elim
  | succ k =>
    obtain ⟨s, it, rfl, _⟩ := hp
    refine Con.of_body Try.func63 rfl Try.ntmps63 rfl rfl ?_
    intro hs
    refine Zrun ?_
    (refine RW.boxN hs rfl rfl ?_; intro b1 w1 hs)
    refine Zerun ?_
    (refine RW.call T hs rfl rfl rfl (refCount_con 3000 (k + 1) _ p _ _ hp') ?_; intro v h2 w2 hle2 hp2 hs)
    obtain ⟨r, rfl⟩ := hp2
    by_cases c1 : r ≤ 2000
    · refine Zerun ?_
      (refine RW.call T hs rfl rfl rfl (refCheck_con (k + 1) _ p _ _ (PlainAt.mono (k + 1) _ _ _ _ hle2 hp')) ?_; intro v h3 w3 hle3 hp3 hs)
      subst hp3
      refine Zerun ?_
      exact retQ_ret [_] h3 ⟨rfl, trivial⟩ hs.dropAll ⟨_, rfl, fun e => of_decide_eq_true e⟩
    · refine Zerun ?_
      exact retQ_ret [_] h2 ⟨rfl, trivial⟩ hs.dropAll ⟨_, rfl, fun e => by cases e⟩
theorem tidy5 : tidyF 4617315517961601024 := ⟨by omega, by decide, by omega⟩
theorem tidy6 : tidyF 4618441417868443648 := ⟨by omega, by decide, by omega⟩
theorem tidy7 : tidyF 4619567317775286272 := ⟨by omega, by decide, by omega⟩
theorem l567 : ∀ u ∈ [4617315517961601024, 4618441417868443648, 4619567317775286272], tidyF u := by
  intro u hu
  simp only [List.mem_cons, List.not_mem_nil, or_false] at hu
  rcases hu with rfl | rfl | rfl
  · exact tidy5
  · exact tidy6
  · exact tidy7
theorem awake08_con (w : World) (h : GHeap) : Con Try.prog 64 [] w h (fun _ u => u = .bool true) := by
  refine Con.of_body Try.func64 rfl Try.ntmps64 rfl rfl ?_
  intro hs
  refine Zrun ?_
  (refine RW.lit T hs (vs := [.float .f64 4617315517961601024, .float .f64 4618441417868443648, .float .f64 4619567317775286272]) rfl rfl rfl rfl (by simp [Value.cells]) rfl rfl rfl rfl rfl ?_; intro b1 w1 hs)
  obtain ⟨h1, hle1, hs, hS1⟩ := hs.freeze
  have hF1 : FAt h1 (.slice (some ⟨b1, 0, none⟩) 3 3) [4617315517961601024, 4618441417868443648, 4619567317775286272] := RowAt.of_sl hS1
  (refine RW.call T hs rfl rfl rfl (sqNumbers_con (R := ArrAt 1) (ArrAt.mono 1) _ _ _ _ hF1 (fun u hu => (l567 u hu).1) (by decide)) ?_; intro v h2 w2 hle2 hp2 hs)
  obtain ⟨cs2, ok, rfl, hok, hv2⟩ := hp2
  obtain rfl : ok = true := by rw [hok]; exact decide_eq_true (fun u hu => (l567 u hu).2.1)
  rw [if_pos rfl] at hv2
  have eN : [4617315517961601024, 4618441417868443648, 4619567317775286272].map tidyW = [4617315517961601024, 4618441417868443648, 4619567317775286272] := by
    simp only [List.map_cons, List.map_nil]
    unfold tidyW
    rw [tidySpec_of _ tidy5, tidySpec_of _ tidy6, tidySpec_of _ tidy7]
  rw [eN] at hv2
  have hlb := leastN_bounds [4617315517961601024, 4618441417868443648, 4619567317775286272]
  generalize leastN [4617315517961601024, 4618441417868443648, 4619567317775286272] = ln at hv2 hlb
  have hv2' := hv2
  obtain ⟨wv, nv, sm, il, fl, ch, bx, ⟨rfl, hoc2⟩, _⟩ := hv2
  refine Zerun ?_
  (refine RW.allocN T hs rfl rfl rfl rfl ?_; intro b3 w3 hs)
  (refine RW.storeAll T hs 0 rfl rfl rfl rfl rfl rfl hoc2 rfl ?_; intro w4 hs)
  refine Zerun ?_
  (refine RW.lit T hs (vs := [.int .i64 2, .int .i64 (-1), .int .i64 0]) rfl rfl rfl rfl (by simp [Value.cells]) rfl rfl rfl rfl rfl ?_; intro b5 w5 hs)
  obtain ⟨h5, hle5, hs, hS5⟩ := hs.freeze
  have hI5 : IntsAt h5 (.slice (some ⟨b5, 0, none⟩) 3 3) [2, -1, 0] := IntsAt.of_sl hS5
  (refine RW.call T hs rfl rfl rfl (flatPick_con (ArrAt.mono 1) (ArrAt.one 1) (ArrAt.siz 1) (blankA 0) (fun w h => flatBlank_con (ArrAt.mono 0) (ArrAt.one 0) w h) _ _ _ [2, -1, 0] _ _ (hv2'.mono (ArrAt.mono 1) hle5) hI5 (by decide) (by simp [VecD.len]) (by dsimp only; omega)) ?_; intro v h6 w6 hle6 hp6 hs)
  obtain ⟨cs6, rfl, hv6⟩ := hp6
  have hpf := pick_facts (⟨ln, [4617315517961601024, 4618441417868443648, 4619567317775286272], [], []⟩ : VecD (AD 1)) [2, -1, 0] (blankA 0)
  have hpc := pick_cls (⟨ln, [4617315517961601024, 4618441417868443648, 4619567317775286272], [], []⟩ : VecD (AD 1)) [2, -1, 0] (blankA 0)
  have hcl : (⟨ln, [4617315517961601024, 4618441417868443648, 4619567317775286272], [], []⟩ : VecD (AD 1)).cls = 0 := by unfold VecD.cls; dsimp only; rw [if_neg (by omega), if_neg (by omega)]
  rw [hcl] at hpc
  have hit : itemsV (plain 1) (⟨ln, [4617315517961601024, 4618441417868443648, 4619567317775286272], [], []⟩ : VecD (AD 1)) = [⟨0, 4617315517961601024, 0, []⟩, ⟨0, 4618441417868443648, 0, []⟩, ⟨0, 4619567317775286272, 0, []⟩] := by unfold itemsV; rw [hcl]; rfl
  have hpi : itemsV (plain 1) (VecD.pick (⟨ln, [4617315517961601024, 4618441417868443648, 4619567317775286272], [], []⟩ : VecD (AD 1)) [2, -1, 0] (blankA 0)) = [⟨0, 4619567317775286272, 0, []⟩, ⟨0, 0, 0, []⟩, ⟨0, 4617315517961601024, 0, []⟩] :=
    pick_items' (β := PD 0) (plain 1) _ [2, -1, 0] (blankA 0) _ 0 hit hcl rfl
  have hv6' := hv6
  generalize VecD.pick (⟨ln, [4617315517961601024, 4618441417868443648, 4619567317775286272], [], []⟩ : VecD (AD 1)) [2, -1, 0] (blankA 0) = pv at *
  obtain ⟨wv6, nv6, sm6, il6, fl6, ch6, bx6, ⟨rfl, hoc6⟩, _⟩ := hv6
  refine Zerun ?_
  (refine RW.allocN T hs rfl rfl rfl rfl ?_; intro b7 w7 hs)
  (refine RW.storeAll T hs 0 rfl rfl rfl rfl rfl rfl hoc6 rfl ?_; intro w8 hs)
  refine Zerun ?_
  refine RW.val (Y.build T rfl rfl rfl rfl rfl rfl rfl) rfl ?_
  refine Zerun ?_
  refine RW.val (Y.build T rfl rfl rfl rfl rfl rfl rfl) rfl ?_
  refine Zerun ?_
  refine RW.val (Y.build T rfl rfl rfl rfl rfl rfl rfl) rfl ?_
  refine Zerun ?_
  (refine RW.lit T hs (vs := [.agg [.int .i64 0, .float .f64 4619567317775286272, .int .i32 0, .slice none 0 0].toArray, .agg [.int .i64 0, .float .f64 0, .int .i32 0, .slice none 0 0].toArray, .agg [.int .i64 0, .float .f64 4617315517961601024, .int .i32 0, .slice none 0 0].toArray]) (cs := [.int .i64 0, .float .f64 4619567317775286272, .int .i32 0, .slice none 0 0] ++ ([.int .i64 0, .float .f64 0, .int .i32 0, .slice none 0 0] ++ [.int .i64 0, .float .f64 4617315517961601024, .int .i32 0, .slice none 0 0])) rfl rfl rfl rfl (by simp [Value.cells]) rfl rfl rfl rfl rfl ?_; intro b9 w9 hs)
  obtain ⟨h10, hle10, hs, hS10⟩ := hs.freeze
  have hr10 : RowsAt 4 (ItemAt (PlainAt 1) h10) h10 (.slice (some ⟨b9, 0, none⟩) 3 3) [⟨0, 4619567317775286272, 0, []⟩, ⟨0, 0, 0, []⟩, ⟨0, 4617315517961601024, 0, []⟩] := by
    refine ⟨_, _, _, rfl, hS10, ?_⟩
    refine ⟨rfl, ⟨_, rfl, RowsAt.nil _, by decide⟩, rfl, ⟨_, rfl, RowsAt.nil _, by decide⟩, rfl, ⟨_, rfl, RowsAt.nil _, by decide⟩, rfl⟩
  refine Zerun ?_
  have htt : ∀ x ∈ ([⟨0, 4619567317775286272, 0, []⟩, ⟨0, 0, 0, []⟩, ⟨0, 4617315517961601024, 0, []⟩] : List (ItemD (PD 1))), tdyIt (tdy 1) x := by
    intro x hx
    simp only [List.mem_cons, List.not_mem_nil, or_false] at hx
    rcases hx with rfl | rfl | rfl
    · exact ⟨tidy7, fun b hb => by cases hb⟩
    · exact ⟨tidy0, fun b hb => by cases hb⟩
    · exact ⟨tidy5, fun b hb => by cases hb⟩
  have hsb : ∀ b ∈ pv.boxes, sml 1 b := by
    intro b hb
    rcases hpf.2.2.2 b hb with e | e
    · cases e
    · rw [e]; exact blankA_sml 0
  (refine RW.call T hs rfl rfl rfl (shows_con 1 _ _ _ _ 0 _ _ (hv6'.mono (ArrAt.mono 1) hle10) hr10 hpc hpf.1 hpf.2.1 (by rw [hpf.2.2.1]; decide) hsb hpi htt) ?_; intro v h11 w11 hle11 hp11 hs)
  subst hp11
  refine Zerun ?_
  exact retQ_ret [_] h11 ⟨rfl, trivial⟩ hs.dropAll rfl
theorem flatPicksLaw_con (k : Nat) (cs : List Value) (p : PD (k + 2)) (v1 : Value) (at_ : List Int) (w : World) (h : GHeap) (hp : PlainAt (k + 2) h cs p) (ha : IntsAt h v1 at_) : Con Try.prog 10 [.agg cs.toArray, v1] w h (fun _ u => u = .bool true) := by
  have hp' := hp
  have ha' := ha
  obtain ⟨s, it, rfl, ⟨ad, cp, rfl, _⟩, ⟨ad2, cp2, xs, rfl, _, _⟩⟩ := hp
  obtain ⟨ad1, cp1, rfl, _⟩ := ha
  refine Con.of_body Try.func10 rfl Try.ntmps10 rfl rfl ?_
  intro hs
  refine Zrun ?_
  (refine RW.boxN hs rfl rfl ?_; intro b1 w1 hs)
  refine Zerun ?_
  (refine RW.call T hs rfl rfl rfl (good08_con (k + 2) _ p _ _ hp') ?_; intro v h2 w2 hle2 hp2 hs)
  obtain ⟨b, rfl, hb⟩ := hp2
  have hp' := PlainAt.mono (k + 2) _ _ _ _ hle2 hp'
  have ha' := ha'.mono hle2
  cases b with
  | false =>
    refine Zerun ?_
    (refine RW.call T hs rfl rfl rfl (awake08_con _ _) ?_; intro v h3 w3 hle3 hp3 hs)
    subst hp3
    refine Zerun ?_
    exact retQ_ret [_] h3 ⟨rfl, trivial⟩ hs.dropAll rfl
  | true =>
  have hc := hb rfl
  by_cases c1 : 300 < at_.length
  · refine Zerun ?_
    (refine RW.call T hs rfl rfl rfl (awake08_con _ _) ?_; intro v h3 w3 hle3 hp3 hs)
    subst hp3
    refine Zerun ?_
    exact retQ_ret [_] h3 ⟨rfl, trivial⟩ hs.dropAll rfl
  refine Zerun ?_
  (refine RW.call T hs rfl rfl rfl (refTidyP_con (k + 2) 40 _ p _ _ hp' hc) ?_; intro v h3 w3 hle3 hp3 hs)
  obtain ⟨cs3, rfl, hq3⟩ := hp3
  have htd := tidy_tdy (k + 2) 40 p _ _ hp' hc
  have hp' := PlainAt.mono (k + 2) _ _ _ _ hle3 hp'
  have ha' := ha'.mono hle3
  obtain ⟨s3, it3, rfl, ⟨ad3, cp3, rfl, _⟩, hit'⟩ := hq3
  have hit'' := hit'
  obtain ⟨ad4, cp4, xs4, rfl, _, _⟩ := hit''
  refine Zerun ?_
  (refine RW.allocN T hs rfl rfl rfl rfl ?_; intro b4 w4 hs)
  (refine RW.storeAll T hs 0 rfl rfl rfl rfl rfl rfl rfl rfl ?_; intro w5 hs)
  refine Zerun ?_
  have hgood := good_arr (k + 2) 40 p hc
  have hsml := good_sml (k + 2) 40 _ hgood
  have hfl : (ArrD.vec (α := AD (k + 1)) (arr (k + 2) p)).cls = PlainD.fill (α := PD (k + 1)) p := by
    obtain ⟨_, h2, h3, _, _⟩ := (chkP_ok (α := PD (k + 1)) _ _ _).1 hc
    exact cls_arrV (arr (k + 1)) _ _ h2 h3
  have hlen := hsml.2.1
  have hkn := hgood.2.1
  have hpf := pick_facts (ArrD.vec (α := AD (k + 1)) (arr (k + 2) p)) at_ (blankA k)
  have hS1 : ((ArrD.vec (α := AD (k + 1)) (arr (k + 2) p)).pick at_ (blankA k)).cls = PlainD.fill (α := PD (k + 1)) p := by rw [pick_cls, hfl]
  have hS2 := hpf.1
  have hS3 := hpf.2.1
  have hS4 : ((ArrD.vec (α := AD (k + 1)) (arr (k + 2) p)).pick at_ (blankA k)).len ≤ 1048576 := by rw [hpf.2.2.1]; omega
  have hS5 : ∀ b ∈ ((ArrD.vec (α := AD (k + 1)) (arr (k + 2) p)).pick at_ (blankA k)).boxes, sml (k + 1) b := by
    intro b hb
    rcases hpf.2.2.2 b hb with e | e
    · exact hsml.2.2 b e
    · rw [e]; exact blankA_sml k
  have hS7 : ∀ x ∈ at_.map (fun i => atD (PlainD.items (α := PD (k + 1)) (tidy (k + 2) p)) i (blankI (PlainD.fill (α := PD (k + 1)) p) : ItemD (PlainD (PD k)))), tdyIt (tdy (k + 1)) x := by
    intro x hx
    obtain ⟨i, _, rfl⟩ := List.mem_map.1 hx
    rcases atD_mem (PlainD.items (α := PD (k + 1)) (tidy (k + 2) p)) i (blankI (PlainD.fill (α := PD (k + 1)) p) : ItemD (PlainD (PD k))) with e | e
    · exact htd _ e
    · rw [e]; exact blankI_tdy k _
  have hS6 : itemsV (plain (k + 1)) ((ArrD.vec (α := AD (k + 1)) (arr (k + 2) p)).pick at_ (blankA k)) = at_.map (fun i => atD (PlainD.items (α := PD (k + 1)) (tidy (k + 2) p)) i (blankI (PlainD.fill (α := PD (k + 1)) p) : ItemD (PlainD (PD k)))) := by
    exact pick_items' (β := PD k) (plain (k + 1)) _ at_ (blankA k) _ _ (congrArg (PlainD.items (α := PD (k + 1))) (plain_arr (k + 2) 40 p hc)) hfl rfl
  refine CW.regionO T hs ?_
  intro w6 hs
  refine HW.takeS (fuel := 24) 0 rfl (fun _ _ hs => Y.loadRowN T hs 1 rfl rfl rfl rfl rfl rfl rfl) hs rfl (by kernel_rfl) (by kernel_rfl) (by kernel_rfl) ?_
  refine HW.takeS (fuel := 23) 3 rfl (fun _ _ hs => Y.move rfl) hs rfl (by kernel_rfl) (by kernel_rfl) (by kernel_rfl) ?_
  refine HW.takeS (fuel := 22) 5 rfl (fun _ _ hs => Y.fieldAddr T rfl rfl rfl rfl rfl) hs rfl (by kernel_rfl) (by kernel_rfl) (by kernel_rfl) ?_
  refine HW.takeS (fuel := 21) 6 rfl (fun _ _ hs => Y.loadRow1 T hs 0 rfl rfl rfl rfl rfl) hs rfl (by kernel_rfl) (by kernel_rfl) (by kernel_rfl) ?_
  refine HW.takeS (fuel := 20) 7 rfl (fun _ _ hs => Y.fieldAddr T rfl rfl rfl rfl rfl) hs rfl (by kernel_rfl) (by kernel_rfl) (by kernel_rfl) ?_
  refine HW.takeS (fuel := 19) 8 rfl (fun _ _ hs => Y.loadRow1 T hs 1 rfl rfl rfl rfl rfl) hs rfl (by kernel_rfl) (by kernel_rfl) (by kernel_rfl) ?_
  refine HW.takeS (fuel := 18) 9 rfl (fun _ _ hs => Y.move rfl) hs rfl (by kernel_rfl) (by kernel_rfl) (by kernel_rfl) ?_
  refine HW.takeS (fuel := 17) 11 rfl (fun _ _ hs => Y.fieldAddr T rfl rfl rfl rfl rfl) hs rfl (by kernel_rfl) (by kernel_rfl) (by kernel_rfl) ?_
  refine HW.takeS (fuel := 16) 12 rfl (fun _ _ hs => Y.loadRow1 T hs 1 rfl rfl rfl rfl rfl) hs rfl (by kernel_rfl) (by kernel_rfl) (by kernel_rfl) ?_
  refine HW.one (fuel := 15) 1 rfl (by kernel_rfl) ?_
  (refine RW.call T hs rfl rfl rfl (of07_con (k + 2) _ p _ _ hp' hc) ?_; intro v h18 w18 hle18 hp18 hs)
  obtain ⟨cs18, rfl, _, _, s18, vc18, rfl, _, hv18⟩ := hp18
  have hvs18 := hv18.size
  have hit' := hit'.mono hle18 (fun u a => ItemAt.mono (PlainAt.mono (k + 1)) _ _ u a hle18)
  have ha' := ha'.mono hle18
  refine RW.nil ?_
  refine heldQ_normal ⟨_, hs⟩ ?_
  refine HW.takeS (fuel := 14) 2 rfl (fun _ _ hs => Y.fieldVec T rfl rfl rfl rfl rfl rfl hvs18) hs rfl (by kernel_rfl) (by kernel_rfl) (by kernel_rfl) ?_
  refine HW.one (fuel := 13) 4 rfl (by kernel_rfl) ?_
  (refine RW.call T hs rfl rfl rfl (flatPick_con (ArrAt.mono (k + 1)) (ArrAt.one (k + 1)) (ArrAt.siz (k + 1)) (blankA k) (fun w h => flatBlank_con (ArrAt.mono k) (ArrAt.one k) w h) _ _ _ at_ _ _ hv18 ha' (by omega) hlen hkn) ?_; intro v h21 w21 hle21 hp21 hs)
  obtain ⟨cs21, rfl, hv21⟩ := hp21
  have hit' := hit'.mono hle21 (fun u a => ItemAt.mono (PlainAt.mono (k + 1)) _ _ u a hle21)
  have ha' := ha'.mono hle21
  refine RW.nil ?_
  refine heldQ_normal ⟨_, hs⟩ ?_
  refine HW.one (fuel := 12) 10 rfl (by kernel_rfl) ?_
  (refine RW.call T hs rfl rfl rfl (refPick08_con (PlainAt.mono k) _ _ _ (PlainD.fill (α := PD (k + 1)) p) at_ _ _ hit' ha' (by omega)) ?_; intro v h27 w27 hle27 hp27 hs)
  have hv21 := hv21.mono (ArrAt.mono (k + 1)) hle27
  refine RW.nil ?_
  refine heldQ_normal ⟨_, hs⟩ ?_
  refine HW.one (fuel := 11) 13 rfl (by kernel_rfl) ?_
  (refine RW.call T hs rfl rfl rfl (shows_con (k + 1) _ _ _ _ _ _ _ hv21 hp27 hS1 hS2 hS3 hS4 hS5 hS6 hS7) ?_; intro v h30 w30 hle30 hp30 hs)
  subst hp30
  refine RW.nil ?_
  refine heldQ_normal ⟨_, hs⟩ ?_
  refine HW.takeS (fuel := 10) 14 rfl (fun _ _ hs => Y.move rfl) hs rfl (by kernel_rfl) (by kernel_rfl) (by kernel_rfl) ?_
  refine HW.two (fuel := 9) 15 17 rfl rfl (by kernel_rfl) ?_ ?_
  · refine RW.guardYes rfl rfl ?_
    (refine RW.call T hs rfl rfl rfl (flatBlank_con (ArrAt.mono k) (ArrAt.one k) _ _) ?_; intro v h32 w32 hle32 hp32 hs)
    obtain ⟨cs32, rfl, ha32⟩ := hp32
    have ha32 : ArrAt (k + 1) h32 cs32 (blankA k) := ha32
    refine RW.nil ?_
    refine heldQ_normal ⟨_, hs⟩ ?_
    refine HW.two (fuel := 8) 16 17 rfl rfl (by kernel_rfl) ?_ ?_
    · refine RW.guardYes rfl rfl ?_
      (refine RW.call T hs rfl rfl rfl (plainV_con (k + 1) _ _ _ _ ha32 (blankA_sml k)) ?_; intro v h33 w33 hle33 hp33 hs)
      obtain ⟨cs33, rfl, hq33⟩ := hp33
      rw [blankA_plain] at hq33
      refine RW.nil ?_
      refine heldQ_normal ⟨_, hs⟩ ?_
      refine HW.one (fuel := 7) 17 rfl (by kernel_rfl) ?_
      refine RW.guardYes rfl rfl ?_
      (refine RW.lit T hs (vs := [.int .i64 0]) (cs := [.int .i64 0]) rfl rfl rfl rfl (by simp [Value.cells]) rfl rfl rfl rfl rfl ?_; intro b34 w34 hs)
      obtain ⟨h34, hle34, hs, hS34⟩ := hs.freeze
      have hq34 : PlainAt (k + 1) h34 [.slice (some ⟨b34, 0, none⟩) 1 1, .slice none 0 0, .int .i64 0] (blankP k) := ⟨_, _, rfl, IntsAt.of_sl hS34, RowsAt.nil _⟩
      have hq33 := PlainAt.mono (k + 1) _ _ _ _ hle34 hq33
      refine RW.nil ?_
      refine heldQ_normal ⟨_, hs⟩ ?_
      refine HW.takeSY (fuel := 6) 18 rfl rfl rfl (fun _ _ hs => Y.build T rfl rfl rfl rfl rfl rfl rfl) hs rfl (by kernel_rfl) (by kernel_rfl) (by kernel_rfl) ?_
      refine HW.one (fuel := 5) 19 rfl (by kernel_rfl) ?_
      refine RW.guardYes rfl rfl ?_
      (refine RW.call T hs rfl rfl rfl (refSame_con (k + 1) _ _ _ _ _ _ hq33 hq34 (blankP_tdy k) (blankP_tdy k)) ?_; intro v h36 w36 hle36 hp36 hs)
      subst hp36
      rw [eqB_of (show blankP k = blankP k from rfl)]
      refine RW.nil ?_
      refine heldQ_normal ⟨_, hs⟩ ?_
      refine HW.takeS (fuel := 4) 20 rfl (fun _ _ hs => Y.pickB rfl rfl rfl) hs rfl (by kernel_rfl) (by kernel_rfl) (by kernel_rfl) ?_
      refine HW.takeS (fuel := 3) 21 rfl (fun _ _ hs => Y.move rfl) hs rfl (by kernel_rfl) (by kernel_rfl) (by kernel_rfl) ?_
      refine HW.one (fuel := 2) 22 rfl (by kernel_rfl) ?_
      refine RW.guardYes rfl rfl ?_
      (refine RW.call T hs rfl rfl rfl (awake08_con _ _) ?_; intro v h39 w39 hle39 hp39 hs)
      subst hp39
      refine RW.nil ?_
      refine heldQ_normal ⟨_, hs⟩ ?_
      refine HW.takeS (fuel := 1) 23 rfl (fun _ _ hs => Y.pickB rfl rfl rfl) hs rfl (by kernel_rfl) (by kernel_rfl) (by kernel_rfl) ?_
      refine HW.takeS (fuel := 0) 24 rfl (fun _ _ hs => Y.assign rfl) hs rfl (by kernel_rfl) (by kernel_rfl) (by kernel_rfl) ?_
      refine HW.done (by kernel_rfl) ?_
      refine calmQ_normal ?_
      refine Zerun ?_
      exact retQ_ret [_] h39 ⟨rfl, trivial⟩ hs.dropAll rfl
    · refine RW.guardYes rfl rfl ?_
      (refine RW.lit T hs (vs := [.int .i64 0]) (cs := [.int .i64 0]) rfl rfl rfl rfl (by simp [Value.cells]) rfl rfl rfl rfl rfl ?_; intro b34 w34 hs)
      obtain ⟨h34, hle34, hs, hS34⟩ := hs.freeze
      have hq34 : PlainAt (k + 1) h34 [.slice (some ⟨b34, 0, none⟩) 1 1, .slice none 0 0, .int .i64 0] (blankP k) := ⟨_, _, rfl, IntsAt.of_sl hS34, RowsAt.nil _⟩
      have ha32 := ArrAt.mono (k + 1) _ _ _ _ hle34 ha32
      refine RW.nil ?_
      refine heldQ_normal ⟨_, hs⟩ ?_
      refine HW.takeSY (fuel := 7) 18 rfl rfl rfl (fun _ _ hs => Y.build T rfl rfl rfl rfl rfl rfl rfl) hs rfl (by kernel_rfl) (by kernel_rfl) (by kernel_rfl) ?_
      refine HW.one (fuel := 6) 16 rfl (by kernel_rfl) ?_
      refine RW.guardYes rfl rfl ?_
      (refine RW.call T hs rfl rfl rfl (plainV_con (k + 1) _ _ _ _ ha32 (blankA_sml k)) ?_; intro v h33 w33 hle33 hp33 hs)
      obtain ⟨cs33, rfl, hq33⟩ := hp33
      rw [blankA_plain] at hq33
      have hq34 := PlainAt.mono (k + 1) _ _ _ _ hle33 hq34
      refine RW.nil ?_
      refine heldQ_normal ⟨_, hs⟩ ?_
      refine HW.one (fuel := 5) 19 rfl (by kernel_rfl) ?_
      refine RW.guardYes rfl rfl ?_
      (refine RW.call T hs rfl rfl rfl (refSame_con (k + 1) _ _ _ _ _ _ hq33 hq34 (blankP_tdy k) (blankP_tdy k)) ?_; intro v h36 w36 hle36 hp36 hs)
      subst hp36
      rw [eqB_of (show blankP k = blankP k from rfl)]
      refine RW.nil ?_
      refine heldQ_normal ⟨_, hs⟩ ?_
      refine HW.takeS (fuel := 4) 20 rfl (fun _ _ hs => Y.pickB rfl rfl rfl) hs rfl (by kernel_rfl) (by kernel_rfl) (by kernel_rfl) ?_
      refine HW.takeS (fuel := 3) 21 rfl (fun _ _ hs => Y.move rfl) hs rfl (by kernel_rfl) (by kernel_rfl) (by kernel_rfl) ?_
      refine HW.one (fuel := 2) 22 rfl (by kernel_rfl) ?_
      refine RW.guardYes rfl rfl ?_
      (refine RW.call T hs rfl rfl rfl (awake08_con _ _) ?_; intro v h39 w39 hle39 hp39 hs)
      subst hp39
      refine RW.nil ?_
      refine heldQ_normal ⟨_, hs⟩ ?_
      refine HW.takeS (fuel := 1) 23 rfl (fun _ _ hs => Y.pickB rfl rfl rfl) hs rfl (by kernel_rfl) (by kernel_rfl) (by kernel_rfl) ?_
      refine HW.takeS (fuel := 0) 24 rfl (fun _ _ hs => Y.assign rfl) hs rfl (by kernel_rfl) (by kernel_rfl) (by kernel_rfl) ?_
      refine HW.done (by kernel_rfl) ?_
      refine calmQ_normal ?_
      refine Zerun ?_
      exact retQ_ret [_] h39 ⟨rfl, trivial⟩ hs.dropAll rfl
  · refine RW.guardYes rfl rfl ?_
    (refine RW.lit T hs (vs := [.int .i64 0]) (cs := [.int .i64 0]) rfl rfl rfl rfl (by simp [Value.cells]) rfl rfl rfl rfl rfl ?_; intro b34 w34 hs)
    obtain ⟨h34, hle34, hs, hS34⟩ := hs.freeze
    have hq34 : PlainAt (k + 1) h34 [.slice (some ⟨b34, 0, none⟩) 1 1, .slice none 0 0, .int .i64 0] (blankP k) := ⟨_, _, rfl, IntsAt.of_sl hS34, RowsAt.nil _⟩
    refine RW.nil ?_
    refine heldQ_normal ⟨_, hs⟩ ?_
    refine HW.takeSY (fuel := 8) 18 rfl rfl rfl (fun _ _ hs => Y.build T rfl rfl rfl rfl rfl rfl rfl) hs rfl (by kernel_rfl) (by kernel_rfl) (by kernel_rfl) ?_
    refine HW.one (fuel := 7) 15 rfl (by kernel_rfl) ?_
    refine RW.guardYes rfl rfl ?_
    (refine RW.call T hs rfl rfl rfl (flatBlank_con (ArrAt.mono k) (ArrAt.one k) _ _) ?_; intro v h32 w32 hle32 hp32 hs)
    obtain ⟨cs32, rfl, ha32⟩ := hp32
    have ha32 : ArrAt (k + 1) h32 cs32 (blankA k) := ha32
    have hq34 := PlainAt.mono (k + 1) _ _ _ _ hle32 hq34
    refine RW.nil ?_
    refine heldQ_normal ⟨_, hs⟩ ?_
    refine HW.one (fuel := 6) 16 rfl (by kernel_rfl) ?_
    refine RW.guardYes rfl rfl ?_
    (refine RW.call T hs rfl rfl rfl (plainV_con (k + 1) _ _ _ _ ha32 (blankA_sml k)) ?_; intro v h33 w33 hle33 hp33 hs)
    obtain ⟨cs33, rfl, hq33⟩ := hp33
    rw [blankA_plain] at hq33
    have hq34 := PlainAt.mono (k + 1) _ _ _ _ hle33 hq34
    refine RW.nil ?_
    refine heldQ_normal ⟨_, hs⟩ ?_
    refine HW.one (fuel := 5) 19 rfl (by kernel_rfl) ?_
    refine RW.guardYes rfl rfl ?_
    (refine RW.call T hs rfl rfl rfl (refSame_con (k + 1) _ _ _ _ _ _ hq33 hq34 (blankP_tdy k) (blankP_tdy k)) ?_; intro v h36 w36 hle36 hp36 hs)
    subst hp36
    rw [eqB_of (show blankP k = blankP k from rfl)]
    refine RW.nil ?_
    refine heldQ_normal ⟨_, hs⟩ ?_
    refine HW.takeS (fuel := 4) 20 rfl (fun _ _ hs => Y.pickB rfl rfl rfl) hs rfl (by kernel_rfl) (by kernel_rfl) (by kernel_rfl) ?_
    refine HW.takeS (fuel := 3) 21 rfl (fun _ _ hs => Y.move rfl) hs rfl (by kernel_rfl) (by kernel_rfl) (by kernel_rfl) ?_
    refine HW.one (fuel := 2) 22 rfl (by kernel_rfl) ?_
    refine RW.guardYes rfl rfl ?_
    (refine RW.call T hs rfl rfl rfl (awake08_con _ _) ?_; intro v h39 w39 hle39 hp39 hs)
    subst hp39
    refine RW.nil ?_
    refine heldQ_normal ⟨_, hs⟩ ?_
    refine HW.takeS (fuel := 1) 23 rfl (fun _ _ hs => Y.pickB rfl rfl rfl) hs rfl (by kernel_rfl) (by kernel_rfl) (by kernel_rfl) ?_
    refine HW.takeS (fuel := 0) 24 rfl (fun _ _ hs => Y.assign rfl) hs rfl (by kernel_rfl) (by kernel_rfl) (by kernel_rfl) ?_
    refine HW.done (by kernel_rfl) ?_
    refine calmQ_normal ?_
    refine Zerun ?_
    exact retQ_ret [_] h39 ⟨rfl, trivial⟩ hs.dropAll rfl
end Go.Proofs.Ythbfkhklihejiaa

/-
  Contracts of functions of package hash: the first ones of a list, those that are in another list, or not. No statement is proved here.
-/
namespace Go.Proofs.Ythbfkhklihejiaa
open Go Go.RowKit
set_option linter.unusedVariables false
set_option linter.unusedSimpArgs false
set_option maxHeartbeats 4000000
attribute [local irreducible] CW RW QW SW HW ConM retM heldQ calmQ elemP thenQ blockQ loopQ joinQ retQ Yields Con Sl zF magR unitF truncF fwF wholeF tidySpec elemQ rankF leastN tidyW
set_option maxHeartbeats 1000000
attribute [local irreducible] mixN wrN wr32 keyIt keyP

theorem hashFirsts_con (k : Nat) (cs : List Value) (v : VecD (AD k)) (w : World) (h : GHeap) (hv : VecAt (ArrAt k) h cs v) (qv : ∀ x ∈ v.boxes, sml k x) (hm : v.len ≤ 1048576) :
    Con Try.prog 90 [.agg cs.toArray] w h (fun h' r => IntsAt h' r (placesN (firstB (itemsV (plain k) v) noItem) v.len)) := by
  have hR := ArrAt.mono k
  have hv' := hv
  obtain ⟨wv, nv, sm, il, fl, ch, bx, ⟨rfl, hoc⟩, _⟩ := hv
  refine Con.of_body Try.func90 rfl Try.ntmps90 rfl rfl ?_
  intro hs
  refine Zrun ?_
  (refine RW.boxN hs rfl rfl ?_; intro b1 w1 hs)
  refine Zerun ?_
  refine CW.meet (fun q : Nat × Nat × Nat × GHeap => [(1, .pointer (some ⟨b1, 0, none⟩)), (3, .slice none 0 0), (4, .pointer (some ⟨q.1, 0, none⟩))]) (fun q w' => TblAt q.2.2.2 q.1 (vecCells v.kind wv nv sm il fl ch bx) q.2.1 q.2.2.1 ∧ (∃ e, q.2.2.1 = 2 ^ e) ∧ 2 * v.len ≤ q.2.2.1 ∧ 8 ≤ q.2.2.1 ∧ q.2.2.1 ≤ 4194304 ∧ GLe h q.2.2.2 ∧ Sees w h q.2.2.2 (slotRow q.2.1 q.2.2.1 (List.replicate q.2.2.1 (-1)) :: [⟨some ⟨b1, 0, none⟩, 1, 1, 61, 8, vecCells v.kind wv nv sm il fl ch bx⟩]) w') ?_ ?_
  · refine CW.regionR T 0 0 hs rfl rfl ?_
    intro w4 hs
    refine HW.takeR (fuel := 4) 0 rfl (fun _ _ ka kb _ hs hka hkb => Y.loadRowN T hs ka hka rfl rfl rfl rfl rfl rfl) ⟨_, _, 0, 0, hs, rfl, rfl⟩ rfl (by kernel_rfl) (by kernel_rfl) (by kernel_rfl) ?_
    refine HW.takeR (fuel := 3) 1 rfl (fun _ _ ka kb _ hs hka hkb => Y.loadRowN T hs ka hka rfl rfl rfl rfl rfl rfl) ⟨_, _, 0, 0, hs, rfl, rfl⟩ rfl (by kernel_rfl) (by kernel_rfl) (by kernel_rfl) ?_
    refine HW.one (fuel := 2) 2 rfl (by kernel_rfl) ?_
    (refine RW.call T hs rfl rfl rfl (vecLen_con _ v _ _ hv') ?_; intro v h8 w8 hle8 hp8 hs)
    subst hp8
    have hv' := hv'.mono hR hle8
    refine RW.nil ?_
    refine heldQ_normal ⟨_, _, 0, 0, hs, rfl, rfl⟩ ?_
    refine HW.one (fuel := 1) 3 rfl (by kernel_rfl) ?_
    (refine RW.callM T hs rfl rfl rfl (hashNew_conM hR _ v v.len _ _ _ _ _ hv' hm) ?_; intro v h9 O9 w9 hle9 hp9 hs)
    obtain ⟨bt, bs, m, rfl, hT, rfl, hpow, hm1, hm2, hm3⟩ := hp9
    refine RW.nil ?_
    refine heldQ_normal ⟨_, _, 1, 1, hs, rfl, rfl⟩ ?_
    refine HW.takeR (fuel := 0) 4 rfl (fun _ _ ka kb _ hs hka hkb => Y.assign rfl) ⟨_, _, 1, 1, hs, rfl, rfl⟩ rfl (by kernel_rfl) (by kernel_rfl) (by kernel_rfl) ?_
    refine HW.done (by kernel_rfl) ?_
    refine calmQ_normal ?_
    exact joinQ_meet (bt, bs, m, h9) ⟨rfl, rfl, rfl, trivial⟩ ⟨hT, hpow, hm1, hm2, hm3, hle8.trans hle9, hs⟩
  rintro ⟨bt, bs, m, h2⟩ w5 ⟨hT, hpow, hm1, hm2, hm3, hg, hs⟩
  dsimp only at hT hpow hm1 hm2 hm3 hg hs ⊢
  have hv' := hv'.mono hR hg
  refine Zerun ?_
  (refine RW.call T hs rfl rfl rfl (vecLen_con _ v _ _ hv') ?_; intro v h6 w6 hle6 hp6 hs)
  subst hp6
  have hv' := hv'.mono hR hle6
  have hT : TblAt h6 bt _ bs m := Sl.mono hle6 hT
  have ok0 : TabOk (keyIt (keyP k)) (elsOf (itemsV (plain k) v)) (Firsts (itemsV (plain k) v) 0) 0 (List.replicate m (-1)) := (TabOk.empty _ _ m).keep (fun z => ⟨fun h => absurd h.1 (Nat.not_lt_zero _), fun h => h.elim⟩) (Nat.le_refl _)
  have hs := (hs.nilRow 3 1).swap
  refine Zerun ?_
  refine CW.loop (fun q : Nat × Nat × (Option Addr × Nat) × List Int => [(3, .slice q.2.2.1.1 q.2.1 q.2.2.1.2), (4, .pointer (some ⟨bt, 0, none⟩)), (11, .int .i64 v.len), (12, .int .i64 q.1)]) (fun q w' => q.1 ≤ v.len ∧ q.2.1 = (placesN (firstB (itemsV (plain k) v) noItem) q.1).length ∧ q.2.2.2.length = m ∧ TabOk (keyIt (keyP k)) (elsOf (itemsV (plain k) v)) (Firsts (itemsV (plain k) v) q.1) q.1 q.2.2.2 ∧ Sees w h h6 (slotRow bs m q.2.2.2 :: ⟨q.2.2.1.1, q.2.1, q.2.2.1.2, 3, 1, (placesN (firstB (itemsV (plain k) v) noItem) q.1).map (Value.int .i64)⟩ :: [⟨some ⟨b1, 0, none⟩, 1, 1, 61, 8, vecCells v.kind wv nv sm il fl ch bx⟩]) w') (fun q => v.len - q.1) (0, 0, (none, 0), List.replicate m (-1)) ⟨rfl, rfl, rfl, rfl, trivial⟩ ⟨by omega, by rw [placesN_zero]; rfl, List.length_replicate .., ok0, hs⟩ ?_
  rintro ⟨i, n, ⟨al, cl⟩, sl⟩ w7 ⟨hi, hn, hml, ok, hs⟩
  dsimp only at hi hn hml ok hs ⊢
  have hnl := placesN_len (firstB (itemsV (plain k) v) noItem) i
  by_cases hlt : i < v.len
  · refine Zerun ?_
    (refine RW.callM T hs rfl rfl rfl (hashPut_conM k bt bs m i _ v sl _ _ _ _ _ hT hv' hlt qv hpow hml hm3 ok (by omega)) ?_; intro v h8 O8 w8 hle8 hp8 hs)
    obtain ⟨e8, sl', rfl, hml', ok', rfl⟩ := hp8
    rw [← e8] at hs
    refine Zerun ?_
    by_cases c : ixOf (itemsV (plain k) v) ((itemsV (plain k) v).getD i noItem) = i
    · have hf : firstB (itemsV (plain k) v) noItem i = true := decide_eq_true c
      refine Zerun ?_
      (refine RW.lit T hs (vs := [.int .i64 (i : Int)]) (cs := [.int .i64 (i : Int)]) rfl rfl rfl rfl (by simp [Value.cells]) rfl rfl rfl rfl rfl ?_; intro b9 w9 hs)
      (refine RW.append T hs 2 rfl rfl (m := 1) (news := [.int .i64 (i : Int)]) rfl rfl rfl rfl rfl rfl (hs.src0 rfl (by simp [Value.oneCell'])) (by simp) (by dsimp only; omega) (by omega) ?_; intro ad10 cp10 w10 hs; replace hs := hs.drop)
      refine Zerun ?_
      refine loopQ_round (i + 1, n + 1, (ad10, cp10), sl') ⟨rfl, rfl, rfl, rfl, trivial⟩ ⟨by dsimp only; omega, ?_, hml', ok', ?_⟩ (by dsimp only; omega)
      · dsimp only
        rw [placesN_yes hf, List.length_append, ← hn]; rfl
      · dsimp only
        rw [placesN_yes hf, List.map_append]
        exact hs
    · have hf : firstB (itemsV (plain k) v) noItem i = false := decide_eq_false c
      refine Zerun ?_
      refine loopQ_round (i + 1, n, (al, cl), sl') ⟨rfl, rfl, rfl, rfl, trivial⟩ ⟨by dsimp only; omega, ?_, hml', ok', ?_⟩ (by dsimp only; omega)
      · dsimp only
        rw [placesN_no hf]; exact hn
      · dsimp only
        rw [placesN_no hf]; exact hs
  have e : i = v.len := by omega
  subst e
  refine Zerun ?_
  obtain ⟨h9, hle9, hs, hS9⟩ := hs.drop.freeze
  refine retQ_ret [_] h9 ⟨rfl, trivial⟩ hs.dropAll ?_
  exact IntsAt.of_sl hS9
theorem hashUnique_con (k : Nat) (cs : List Value) (v : VecD (AD (k + 1))) (w : World) (h : GHeap) (hv : VecAt (ArrAt (k + 1)) h cs v) (qv : ∀ x ∈ v.boxes, sml (k + 1) x) (hm : v.len ≤ 1048576) (hk0 : v.kind ≠ 0) :
    Con Try.prog 92 [.agg cs.toArray] w h (fun h' r => ∃ cs', r = .agg cs'.toArray ∧ VecAt (ArrAt (k + 1)) h' cs' (v.pick (placesN (firstB (itemsV (plain (k + 1)) v) noItem) v.len) (blankA k))) := by
  have hv' := hv
  have hpl := Nat.le_trans (placesN_len (firstB (itemsV (plain (k + 1)) v) noItem) v.len) hm
  obtain ⟨wv, nv, sm, il, fl, ch, bx, ⟨rfl, hoc⟩, _⟩ := hv
  refine Con.of_body Try.func92 rfl Try.ntmps92 rfl rfl ?_
  intro hs
  refine Zrun ?_
  (refine RW.boxN hs rfl rfl ?_; intro b1 w1 hs)
  (refine RW.allocN T hs rfl rfl rfl rfl ?_; intro b2 w2 hs)
  refine Zerun ?_
  refine CW.regionR T 1 1 hs rfl rfl ?_
  intro w4 hs
  refine HW.takeR (fuel := 4) 0 rfl (fun _ _ ka kb _ hs hka hkb => Y.loadRowN T hs ka hka rfl rfl rfl rfl rfl rfl) ⟨_, _, 1, 1, hs, rfl, rfl⟩ rfl (by kernel_rfl) (by kernel_rfl) (by kernel_rfl) ?_
  refine HW.takeR (fuel := 3) 1 rfl (fun _ _ ka kb _ hs hka hkb => Y.loadRowN T hs ka hka rfl rfl rfl rfl rfl rfl) ⟨_, _, 1, 1, hs, rfl, rfl⟩ rfl (by kernel_rfl) (by kernel_rfl) (by kernel_rfl) ?_
  refine HW.one (fuel := 2) 2 rfl (by kernel_rfl) ?_
  (refine RW.call T hs rfl rfl rfl (hashFirsts_con (k + 1) _ v _ _ hv' qv hm) ?_; intro v h5 w5 hle5 hp5 hs)
  have hv' := hv'.mono (ArrAt.mono (k + 1)) hle5
  refine RW.nil ?_
  refine heldQ_normal ⟨_, _, 1, 1, hs, rfl, rfl⟩ ?_
  refine HW.one (fuel := 1) 3 rfl (by kernel_rfl) ?_
  (refine RW.call T hs rfl rfl rfl (flatPick_con (ArrAt.mono (k + 1)) (ArrAt.one (k + 1)) (ArrAt.siz (k + 1)) (blankA k) (fun w h => flatBlank_con (ArrAt.mono k) (ArrAt.one k) w h) _ _ _ _ _ _ hv' hp5 hpl hm hk0) ?_; intro v h6 w6 hle6 hp6 hs)
  obtain ⟨cs6, rfl, hv6⟩ := hp6
  have ho6 := hv6.one
  obtain ⟨wv6, nv6, sm6, il6, fl6, ch6, bx6, ⟨rfl, hoc6⟩, _⟩ := id hv6
  have hv' := hv'.mono (ArrAt.mono (k + 1)) hle6
  have hp5 := hp5.mono hle6
  refine RW.nil ?_
  refine heldQ_normal ⟨_, _, 1, 1, hs, rfl, rfl⟩ ?_
  refine HW.one (fuel := 0) 4 rfl (by kernel_rfl) ?_
  (refine RW.storeAll T hs 0 rfl rfl rfl rfl rfl rfl hoc6 rfl ?_; intro w7 hs)
  refine RW.nil ?_
  refine heldQ_normal ⟨_, _, 1, 1, hs, rfl, rfl⟩ ?_
  refine HW.done (by kernel_rfl) ?_
  refine calmQ_normal ?_
  refine Zerun ?_
  exact retQ_ret [_] h6 ⟨resN T hs 0 rfl rfl rfl rfl rfl rfl, trivial⟩ hs.dropAll ⟨_, rfl, hv6⟩
/-- places of elements that are in another list, or are not -/
noncomputable def hasB {γ : Type} (M L : List γ) (n : Nat) (d : γ) (keep : Bool) (i : Nat) : Bool := decide (ixOf M (L.getD i d) < n) == keep
theorem hashWithout_con (k : Nat) (cs cs' : List Value) (v u : VecD (AD (k + 1))) (keep : Bool) (w : World) (h : GHeap) (hv : VecAt (ArrAt (k + 1)) h cs v) (hu : VecAt (ArrAt (k + 1)) h cs' u) (qv : ∀ x ∈ v.boxes, sml (k + 1) x) (qu : ∀ x ∈ u.boxes, sml (k + 1) x) (hm : v.len ≤ 1048576) (hm2 : u.len ≤ 1048576) (hk0 : v.kind ≠ 0) :
    Con Try.prog 93 [.agg cs.toArray, .agg cs'.toArray, .bool keep] w h (fun h' r => ∃ cs2, r = .agg cs2.toArray ∧ VecAt (ArrAt (k + 1)) h' cs2 (v.pick (placesN (hasB (itemsV (plain (k + 1)) u) (itemsV (plain (k + 1)) v) u.len noItem keep) v.len) (blankA k))) := by
  have hR := ArrAt.mono (k + 1)
  have hv' := hv
  have hu' := hu
  have hL := itemsV_len (plain (k + 1)) hv
  obtain ⟨wv, nv, sm, il, fl, ch, bx, ⟨rfl, hoc⟩, _⟩ := hv
  obtain ⟨wv2, nv2, sm2, il2, fl2, ch2, bx2, ⟨rfl, hoc2⟩, _⟩ := hu
  refine Con.of_body Try.func93 rfl Try.ntmps93 rfl rfl ?_
  intro hs
  refine Zrun ?_
  (refine RW.boxN hs rfl rfl ?_; intro b1 w1 hs)
  refine Zrun ?_
  (refine RW.boxN hs rfl rfl ?_; intro b2 w2 hs)
  (refine RW.allocN T hs rfl rfl rfl rfl ?_; intro b3 w3 hs)
  refine Zerun ?_
  (refine RW.call T hs rfl rfl rfl (hashHas_con (k + 1) _ _ u v _ _ hu' hv' qu qv hm2 hm) ?_; intro v h4 w4 hle4 hp4 hs)
  have hv' := hv'.mono hR hle4
  obtain ⟨ah, ch4, rfl, hS⟩ := hp4
  obtain ⟨bsl, hbe⟩ : ∃ bsl, (itemsV (plain (k + 1)) v).map (fun x => decide (ixOf (itemsV (plain (k + 1)) u) x < u.len)) = bsl := ⟨_, rfl⟩
  have hbl : bsl.length = v.len := by rw [← hbe, List.length_map, hL]
  have hbg : ∀ i, i < v.len → bsl.getD i false = decide (ixOf (itemsV (plain (k + 1)) u) ((itemsV (plain (k + 1)) v).getD i noItem) < u.len) := fun i hi => by
    rw [← hbe, getD_map (fun x => decide (ixOf (itemsV (plain (k + 1)) u) x < u.len)) _ _ noItem false (by omega)]
  rw [hbe] at hS ⊢
  rw [hbl] at hS ⊢
  have hs := hs.nilRow 3 1
  refine Zerun ?_
  refine CW.loop (fun q : Nat × Nat × (Option Addr × Nat) => [(2, .bool keep), (3, .pointer (some ⟨b1, 0, none⟩)), (6, .pointer (some ⟨b3, 0, none⟩)), (7, .slice q.2.2.1 q.2.1 q.2.2.2), (12, .slice ah v.len ch4), (13, .int .i64 v.len), (14, .int .i64 q.1)]) (fun q w' => q.1 ≤ v.len ∧ q.2.1 = (placesN (hasB (itemsV (plain (k + 1)) u) (itemsV (plain (k + 1)) v) u.len noItem keep) q.1).length ∧ Sees w h h4 (⟨q.2.2.1, q.2.1, q.2.2.2, 3, 1, (placesN (hasB (itemsV (plain (k + 1)) u) (itemsV (plain (k + 1)) v) u.len noItem keep) q.1).map (Value.int .i64)⟩ :: ⟨some ⟨b3, 0, none⟩, 1, 1, 61, 8, vecCells 0 (.slice none 0 0) 0 (.slice none 0 0) (.slice none 0 0) (.slice none 0 0) (.slice none 0 0) (.slice none 0 0)⟩ :: ⟨some ⟨b2, 0, none⟩, 1, 1, 61, 8, vecCells u.kind wv2 nv2 sm2 il2 fl2 ch2 bx2⟩ :: [⟨some ⟨b1, 0, none⟩, 1, 1, 61, 8, vecCells v.kind wv nv sm il fl ch bx⟩]) w') (fun q => v.len - q.1) (0, 0, none, 0) ⟨rfl, rfl, rfl, rfl, rfl, rfl, rfl, trivial⟩ ⟨by omega, by rw [placesN_zero]; rfl, hs⟩ ?_
  rintro ⟨i, n, al, cl⟩ w7 ⟨hi, hn, hs⟩
  dsimp only at hi hn hs ⊢
  have hnl := placesN_len (hasB (itemsV (plain (k + 1)) u) (itemsV (plain (k + 1)) v) u.len noItem keep) i
  by_cases hlt : i < v.len
  · have hg := map_get Value.bool bsl i false (by omega)
    refine Zerun ?_
    refine RW.val (Y.eqlB T rfl rfl rfl) rfl ?_
    rw [hbg i hlt]
    by_cases c : (decide (ixOf (itemsV (plain (k + 1)) u) ((itemsV (plain (k + 1)) v).getD i noItem) < u.len) == keep) = true
    · have hf : hasB (itemsV (plain (k + 1)) u) (itemsV (plain (k + 1)) v) u.len noItem keep i = true := c
      rw [c]
      refine Zerun ?_
      (refine RW.lit T hs (vs := [.int .i64 (i : Int)]) (cs := [.int .i64 (i : Int)]) rfl rfl rfl rfl (by simp [Value.cells]) rfl rfl rfl rfl rfl ?_; intro b9 w9 hs)
      (refine RW.append T hs 1 rfl rfl (m := 1) (news := [.int .i64 (i : Int)]) rfl rfl rfl rfl rfl rfl (hs.src0 rfl (by simp [Value.oneCell'])) (by simp) (by dsimp only; omega) (by omega) ?_; intro ad10 cp10 w10 hs; replace hs := hs.drop)
      refine Zerun ?_
      refine loopQ_round (i + 1, n + 1, ad10, cp10) ⟨rfl, rfl, rfl, rfl, rfl, rfl, rfl, trivial⟩ ⟨by dsimp only; omega, ?_, ?_⟩ (by dsimp only; omega)
      · dsimp only
        rw [placesN_yes hf, List.length_append, ← hn]; rfl
      · dsimp only
        rw [placesN_yes hf, List.map_append]
        exact hs
    · have c' : (decide (ixOf (itemsV (plain (k + 1)) u) ((itemsV (plain (k + 1)) v).getD i noItem) < u.len) == keep) = false := by simpa using c
      have hf : hasB (itemsV (plain (k + 1)) u) (itemsV (plain (k + 1)) v) u.len noItem keep i = false := c'
      rw [c']
      refine Zerun ?_
      refine loopQ_round (i + 1, n, al, cl) ⟨rfl, rfl, rfl, rfl, rfl, rfl, rfl, trivial⟩ ⟨by dsimp only; omega, ?_, ?_⟩ (by dsimp only; omega)
      · dsimp only
        rw [placesN_no hf]; exact hn
      · dsimp only
        rw [placesN_no hf]; exact hs
  have e : i = v.len := by omega
  subst e
  obtain ⟨h9, hle9, hs, hS9⟩ := hs.freeze
  have hv' := hv'.mono hR hle9
  refine Zerun ?_
  (refine RW.call T hs rfl rfl rfl (flatPick_con (ArrAt.mono (k + 1)) (ArrAt.one (k + 1)) (ArrAt.siz (k + 1)) (blankA k) (fun w h => flatBlank_con (ArrAt.mono k) (ArrAt.one k) w h) _ v _ (placesN (hasB (itemsV (plain (k + 1)) u) (itemsV (plain (k + 1)) v) u.len noItem keep) v.len) _ _ hv' (by rw [hn]; rw [hn] at hS9; exact IntsAt.of_sl hS9) (by omega) hm hk0) ?_; intro v h11 w11 hle11 hp11 hs)
  obtain ⟨cs11, rfl, hv11⟩ := hp11
  obtain ⟨wv6, nv6, sm6, il6, fl6, ch6, bx6, ⟨rfl, hoc6⟩, _⟩ := id hv11
  (refine RW.storeAll T hs 0 rfl rfl rfl rfl rfl rfl hoc6 rfl ?_; intro w12 hs)
  refine Zerun ?_
  exact retQ_ret [_] h11 ⟨resN T hs 0 rfl rfl rfl rfl rfl rfl, trivial⟩ hs.dropAll ⟨_, rfl, hv11⟩
end Go.Proofs.Ythbfkhklihejiaa
