/-
  Own texts of the claim, merged: Bd, PlEa, PlBc, Be, Bf, PlEb, Bg, Bh, Bi. Lemmas of the proof; no statement is proved here.
-/
import Derived.Test.YtmojpbfkpggjhaaGreatMc
import Derived.Test.YtmojpbfkpggjhaaGreatRows
/-
  Contracts of the document's Lists and Enlist: what lies in boxes however deep. No statement is proved here.
-/
namespace Go.Proofs.YtmojpbfkpggjhaaGreat
open Go Go.RowKit
set_option linter.unusedVariables false
set_option linter.unusedSimpArgs false
set_option maxHeartbeats 4000000
attribute [local irreducible] CW RW QW SW HW ConM retM heldQ calmQ elemP thenQ blockQ loopQ joinQ retQ Yields Con Sl zF magR unitF truncF fwF wholeF tidySpec elemQ rankF leastN tidyW
set_option maxHeartbeats 4000000

def flatI {α γ : Type} (x : ItemD α) : ItemD γ := ⟨x.kind, x.num, x.char, []⟩
def flatP {α γ : Type} (p : PlainD α) : PlainD γ := ⟨p.shape, p.items.map flatI, p.fill⟩
def leavesP {γ : Type} : (k : Nat) → PD k → List (PlainD γ)
  | 0 => fun _ => []
  | k + 1 => fun (p : PlainD (PD k)) => if p.fill ≠ 2 then [flatP p] else p.items.flatMap fun x => x.box.flatMap (leavesP k)
/-- boxes only where the fill tells boxes, and one in each such item -/
def bxF : (k : Nat) → PD k → Prop
  | 0 => fun _ => False
  | k + 1 => fun (p : PlainD (PD k)) => if p.fill ≠ 2 then ∀ x ∈ p.items, x.box = [] else ∀ x ∈ p.items, ∃ b, x.box = [b] ∧ bxF k b
theorem ItemAt.flat {α γ : Type} {R : GHeap → List Value → α → Prop} {R' : GHeap → List Value → γ → Prop} {h : GHeap} {cs : List Value} {x : ItemD α} (hx : ItemAt R h cs x) (hb : x.box = []) : ItemAt R' h cs (flatI x) := by
  obtain ⟨bx, e, hr, hn⟩ := hx
  rw [hb] at hr
  obtain ⟨ad, cp, xs, e2, hS, hA⟩ := hr
  exact ⟨bx, e, ⟨ad, cp, xs, e2, hS, hA⟩, hn⟩
theorem AllN.flat {α γ : Type} {R : GHeap → List Value → α → Prop} {R' : GHeap → List Value → γ → Prop} {h : GHeap} : ∀ {xs : List Value} {l : List (ItemD α)}, AllN 4 (ItemAt R h) xs l → (∀ x ∈ l, x.box = []) → AllN 4 (ItemAt R' h) xs (l.map flatI)
  | xs, [], hA, _ => hA
  | xs, x :: l, hA, hb => by
    obtain ⟨h1, h2, h3⟩ := hA
    exact ⟨h1, h2.flat (hb x List.mem_cons_self), AllN.flat h3 fun y hy => hb y (List.mem_cons_of_mem _ hy)⟩
theorem PlainR.flat {α γ : Type} {R : GHeap → List Value → α → Prop} {R' : GHeap → List Value → γ → Prop} {h : GHeap} {cs : List Value} {p : PlainD α} (hp : PlainR R h cs p) (hb : ∀ x ∈ p.items, x.box = []) : PlainR R' h cs (flatP p) := by
  obtain ⟨s, it, e, h1, ⟨ad, cp, xs, e2, hS, hA⟩⟩ := hp
  exact ⟨s, it, e, h1, ⟨ad, cp, xs, by rw [e2]; simp [flatP], by simpa [flatP] using hS, hA.flat hb⟩⟩
theorem refLists_con {γ : Type} {R' : GHeap → List Value → γ → Prop} (hR' : Mono R') : ∀ (k : Nat) (cs : List Value) (p : PD k) (w : World) (h : GHeap), PlainAt k h cs p → bxF k p → (leavesP (γ := γ) k p).length ≤ 1048576 →
    Con Tryz.prog 73 [.agg cs.toArray] w h (fun h' u => RowsAt 3 (PlainR R' h') h' u (leavesP k p))
  | 0, cs, p, w, h => fun hp => hp.elim
  | k + 1, cs, p, w, h => by
    intro hp hb hlv
    have ih := refLists_con (R' := R') hR' k
    have hPM : Mono (PlainR R') := PlainR.mono hR'
    have hp' := hp
    change PlainR (PlainAt k) h cs p at hp
    have hb : (if p.fill ≠ 2 then ∀ x ∈ p.items, x.box = [] else ∀ x ∈ p.items, ∃ b, x.box = [b] ∧ bxF k b) := hb
    have hla : leavesP (γ := γ) (k + 1) p = if p.fill ≠ 2 then [flatP p] else p.items.flatMap fun x => x.box.flatMap (leavesP k) := rfl
    rw [hla] at hlv ⊢
    clear hla hp'
    have hpF := hp
    obtain ⟨s, it, rfl, ⟨ad, cp, rfl, hS⟩, ⟨ad2, cp2, xs, rfl, hS2, hA⟩⟩ := hp
    have hlen : p.items.length ≤ 9223372036854775807 := by have := hS2.caps; omega
    refine Con.of_body Tryz.func73 rfl Tryz.ntmps73 rfl rfl ?_
    intro hs
    refine Zrun ?_
    (refine RW.boxN hs rfl rfl ?_; intro b1 w1 hs)
    refine Zerun ?_
    by_cases c1 : p.fill ≠ 2
    · rw [if_pos c1] at hb hlv ⊢
      have hF := hpF.flat (R' := R') hb
      refine Zerun ?_
      (refine RW.lit T hs (vs := [.agg #[.slice ad p.shape.length cp, .slice ad2 p.items.length cp2, .int .i64 p.fill]]) (cs := [.slice ad p.shape.length cp, .slice ad2 p.items.length cp2, .int .i64 p.fill]) rfl rfl rfl rfl (by simp [Value.cells]) rfl (by simp [Value.cells]) rfl rfl rfl ?_; intro b3 w3 hs)
      obtain ⟨h3, hle3, hs, hS3⟩ := hs.freeze
      refine Zerun ?_
      exact retQ_ret [_] h3 ⟨rfl, trivial⟩ hs.dropAll ⟨_, _, _, rfl, hS3, AllN.one rfl (PlainR.mono hR' _ _ _ _ hle3 hF)⟩
    rw [if_neg c1] at hb hlv ⊢
    generalize hf : (fun x : ItemD (PD k) => x.box.flatMap (leavesP (γ := γ) k)) = f at *
    refine Zerun ?_
    have hs := hs.nilRow 25 3
    refine CW.loop (fun u : Nat × (Option Addr × Nat × Nat) × List Value × GHeap => [(1, .pointer (some ⟨b1, 0, none⟩)), (3, .slice u.2.1.1 u.2.1.2.1 u.2.1.2.2), (4, .int .i64 u.1)]) (fun u w' => u.1 ≤ p.items.length ∧ GLe h u.2.2.2 ∧ u.2.1.2.1 = ((p.items.take u.1).flatMap f).length ∧ AllN 3 (PlainR R' u.2.2.2) u.2.2.1 ((p.items.take u.1).flatMap f) ∧ Sees w h u.2.2.2 [⟨u.2.1.1, u.2.1.2.1, u.2.1.2.2, 25, 3, u.2.2.1⟩, ⟨some ⟨b1, 0, none⟩, 1, 1, 25, 3, [.slice ad p.shape.length cp, .slice ad2 p.items.length cp2, .int .i64 p.fill]⟩] w') (fun u => p.items.length - u.1) (0, (none, 0, 0), [], h) ⟨rfl, rfl, rfl, trivial⟩ ⟨by omega, GLe.refl _, rfl, rfl, hs⟩ ?_
    rintro ⟨i, ⟨ra, rn, rc⟩, vs, hh⟩ w2 ⟨hi, hgl, hn, hAv, hs⟩
    dsimp only at hi hgl hn hAv hs ⊢
    have hS2 := hS2.mono hgl
    by_cases hlt : i < p.items.length
    · obtain ⟨bx, hx4, hx1, ⟨ad3, cp3, ys, rfl, hS3, hA3⟩, hx2, hq0, hq1, hq2, hq3⟩ := ItemAt.cells hA i hlt
      have hS3 := hS3.mono hgl
      have hx := hb (p.items.getD i noItem) (mem_getD _ _ _ hlt)
      have hmem : p.items.getD i noItem = p.items[i] := by simp [List.getD_eq_getElem?_getD, hlt]
      have htk := fm_take_succ f p.items i hlt
      rw [← hmem] at htk
      have hle : ((p.items.take (i + 1)).flatMap f).length ≤ (p.items.flatMap f).length := by
        have e : p.items.flatMap f = (p.items.take (i + 1)).flatMap f ++ (p.items.drop (i + 1)).flatMap f := by rw [← List.flatMap_append, List.take_append_drop]
        rw [e, List.length_append]
        omega
      clear hmem
      generalize p.items.getD i noItem = x at *
      obtain ⟨b, hbl, hqb⟩ := hx
      have hbl1 : x.box.length = 1 := by rw [hbl]; rfl
      have hfx : f x = leavesP k b := by rw [← hf]; show x.box.flatMap _ = _; rw [hbl]; simp
      rw [hfx] at htk
      rw [hbl] at hA3
      obtain ⟨y, hy, hyl, hRb⟩ := hA3.first
      have hRb := PlainAt.mono k _ _ _ _ hgl hRb
      rw [htk, List.length_append] at hle
      refine Zerun ?_
      (refine RW.call T hs rfl rfl rfl (ih _ b _ _ hRb hqb (by omega)) ?_; intro v h5 w5 hle5 hp5 hs)
      obtain ⟨ad5, cp5, xs5, rfl, hS5, hA5⟩ := hp5
      have ho5 := hA5.ones (PlainR.one h5)
      refine Zerun ?_
      refine RW.append T hs 0 rfl rfl (m := (leavesP (γ := γ) k b).length) (news := xs5) rfl rfl rfl rfl rfl rfl (hS5.src hs.agree ho5) (fun e => by subst e; exact hS5.nil0.2) (by dsimp only; omega) (by omega) ?_
      intro ad9 cp9 w9 hs
      refine Zerun ?_
      exact loopQ_round (i + 1, (ad9, rn + (leavesP (γ := γ) k b).length, cp9), vs ++ xs5, h5) ⟨rfl, rfl, rfl, trivial⟩ ⟨by dsimp only; omega, hgl.trans hle5, by dsimp only; rw [htk, List.length_append, hn], by dsimp only; rw [htk]; exact (hAv.mono (fun u a => hPM _ _ u a hle5)).append hA5, hs⟩ (by dsimp only; omega)
    · obtain rfl : i = p.items.length := by omega
      rw [List.take_length] at hAv hn
      subst hn
      obtain ⟨h6, hle6, hs, hS6⟩ := hs.freeze
      refine Zerun ?_
      exact retQ_ret [_] h6 ⟨rfl, trivial⟩ hs.dropAll ⟨_, _, _, rfl, hS6, hAv.mono (fun u a => hPM _ _ u a hle6)⟩
def nilP {γ : Type} : PlainD γ := ⟨[], [], 0⟩
def sumP {γ : Type} (L : List (PlainD γ)) : Nat := (L.map (·.items.length)).sum
def enlP {γ : Type} (L : List (PlainD γ)) (most : Int) : Int × PlainD γ :=
  if most < sumP L then (26, nilP) else match joinP (-1) L with
    | none => (24, nilP)
    | some c => (0, ⟨[((L.flatMap (·.items)).length : Int)], L.flatMap (·.items), if 0 ≤ c then c else headF L⟩)
theorem sumP_take {γ : Type} (L : List (PlainD γ)) (i : Nat) (h : i < L.length) : sumP (L.take (i + 1)) = sumP (L.take i) + L[i].items.length := by
  unfold sumP
  rw [List.take_add_one, List.getElem?_eq_getElem h, List.map_append, List.sum_append]
  simp
theorem sumP_le {γ : Type} (L : List (PlainD γ)) (i : Nat) : sumP (L.take i) ≤ sumP L := by
  have e : sumP L = sumP (L.take i) + sumP (L.drop i) := by
    unfold sumP
    rw [← List.sum_append, ← List.map_append, List.take_append_drop]
  omega
theorem headF_nn {γ : Type} {L : List (PlainD γ)} (hf : ∀ p ∈ L, 0 ≤ p.fill) : 0 ≤ headF L := by
  cases L with
  | nil => exact Int.le_refl _
  | cons a l => exact hf a List.mem_cons_self
theorem refEnlist_con {γ : Type} {R' : GHeap → List Value → γ → Prop} (hR' : Mono R') (k : Nat) (cs : List Value) (p : PD k) (most : Int) (w : World) (h : GHeap) (hp : PlainAt k h cs p) (hb : bxF k p) (hlv : (leavesP (γ := γ) k p).length ≤ 1048576) (hf : ∀ q ∈ leavesP (γ := γ) k p, 0 ≤ q.fill ∧ q.items.length ≤ 1048576) (hm : 0 ≤ most ∧ most ≤ 1048576) :
    Con Tryz.prog 26 [.agg cs.toArray, .int .i64 most] w h (fun h' u => ∃ c2, u = .tuple #[.agg c2.toArray, .int .i64 (enlP (leavesP (γ := γ) k p) most).1] ∧ PlainR R' h' c2 (enlP (leavesP (γ := γ) k p) most).2) := by
  have hl3 : cs.length = 3 := PlainAt.siz k _ _ _ hp
  have hone := PlainAt.one k _ _ _ hp
  obtain ⟨x0, x1, x2, rfl⟩ : ∃ a0 a1 a2, cs = [a0, a1, a2] := by
    match cs, hl3 with
    | [a0, a1, a2], _ => exact ⟨_, _, _, rfl⟩
  have hg := fun w h hp => refLists_con (R' := R') hR' k [x0, x1, x2] p w h hp hb hlv
  obtain ⟨L, hL⟩ : ∃ L, leavesP (γ := γ) k p = L := ⟨_, rfl⟩
  rw [hL] at hg hlv hf ⊢
  refine Con.of_body Tryz.func26 rfl Tryz.ntmps26 rfl rfl ?_
  intro hs
  refine Zrun ?_
  (refine RW.boxN hs rfl rfl ?_; intro b1 w1 hs)
  (refine RW.allocN T hs rfl rfl rfl rfl ?_; intro b2 w2 hs)
  refine Zerun ?_
  (refine RW.call T hs rfl rfl rfl (hg _ _ hp) ?_; intro v h3 w3 hle3 hp3 hs)
  obtain ⟨ad, cp, xs, rfl, hS, hA⟩ := hp3
  refine Zerun ?_
  refine CW.loop (fun u : Nat × Nat => [(1, .int .i64 most), (4, .pointer (some ⟨b2, 0, none⟩)), (6, .slice ad L.length cp), (7, .int .i64 u.2), (8, .int .i64 u.1)]) (fun u w' => u.1 ≤ L.length ∧ u.2 = sumP (L.take u.1) ∧ (u.2 : Int) ≤ most ∧ Sees w h h3 [⟨some ⟨b2, 0, none⟩, 1, 1, 25, 3, [.slice none 0 0, .slice none 0 0, .int .i64 0]⟩, ⟨some ⟨b1, 0, none⟩, 1, 1, 25, 3, [x0, x1, x2]⟩] w') (fun u => L.length - u.1) (0, 0) ⟨rfl, rfl, rfl, rfl, rfl, trivial⟩ ⟨by omega, rfl, by dsimp only; omega, hs⟩ ?_
  rintro ⟨i, n⟩ w5 ⟨hi, hn, hnm, hs⟩
  dsimp only at hi hn hnm hs ⊢
  by_cases hlt : i < L.length
  · obtain ⟨y, hy, hyl, hRy⟩ := hA.elem _ hlt
    have htk := sumP_take L i hlt
    have hle := sumP_le L (i + 1)
    have hf0 := hf _ (List.getElem_mem hlt)
    generalize hve : L[i] = q at *
    obtain ⟨sv, it, rfl, hsh, ⟨ad2, cp2, xs2, rfl, hS2, hA2⟩⟩ := hRy
    have hx1 : xs[i * 3 + 1]? = some (.slice ad2 q.items.length cp2) := by rw [AllN.get4 hy 1 (by omega)]; rfl
    by_cases c1 : most < ((n + q.items.length : Nat) : Int)
    · rw [show enlP L most = (26, nilP) from by unfold enlP; rw [if_pos (by omega)]]
      refine Zerun ?_
      refine RW.val (Y.build T rfl rfl rfl rfl rfl rfl rfl) rfl ?_
      refine Zerun ?_
      (refine RW.storeAll T hs 0 rfl rfl rfl rfl rfl rfl rfl rfl ?_; intro w10 hs)
      refine Zerun ?_
      exact retQ_ret [_, _] h3 ⟨resN T hs 0 rfl rfl rfl rfl rfl rfl, rfl, trivial⟩ hs.dropAll ⟨_, rfl, ⟨_, _, rfl, IntsAt.nil _, RowsAt.nil _⟩⟩
    · refine Zerun ?_
      exact loopQ_round (i + 1, n + q.items.length) ⟨rfl, rfl, rfl, seti (by dsimp only; omega), rfl, trivial⟩ ⟨by dsimp only; omega, by dsimp only; omega, by dsimp only; omega, hs⟩ (by dsimp only; omega)
  obtain rfl : i = L.length := by omega
  rw [List.take_length] at hn
  have hng : ¬ most < (sumP L : Int) := by omega
  have hL3 : RowsAt 3 (PlainR R' h3) h3 (.slice ad L.length cp) L := ⟨_, _, _, rfl, hS, hA⟩
  refine Zerun ?_
  (refine RW.call T hs rfl rfl rfl (refJoin08_con hR' _ L _ _ hL3 (show sumP L ≤ 1048576 by omega) (fun q hq => (hf q hq).1)) ?_; intro v h6 w6 hle6 hp6 hs)
  obtain ⟨s6, cl, rfl, hn6, hp6⟩ := hp6
  cases hj : joinP (-1) L with
  | none =>
    obtain rfl := hn6 hj
    rw [show enlP L most = (24, nilP) from by unfold enlP; rw [if_neg hng, hj]]
    refine Zerun ?_
    refine RW.val (Y.build T rfl rfl rfl rfl rfl rfl rfl) rfl ?_
    refine Zerun ?_
    (refine RW.storeAll T hs 0 rfl rfl rfl rfl rfl rfl rfl rfl ?_; intro w10 hs)
    refine Zerun ?_
    exact retQ_ret [_, _] h6 ⟨resN T hs 0 rfl rfl rfl rfl rfl rfl, rfl, trivial⟩ hs.dropAll ⟨_, rfl, ⟨_, _, rfl, IntsAt.nil _, RowsAt.nil _⟩⟩
  | some c =>
  obtain ⟨hcl, hR6⟩ := hp6 c hj
  have hc0 : 0 ≤ cl := by
    rw [hcl]
    have := headF_nn (L := L) fun q hq => (hf q hq).1
    split <;> omega
  rw [show enlP L most = (0, ⟨[((L.flatMap (·.items)).length : Int)], L.flatMap (·.items), cl⟩) from by unfold enlP; rw [if_neg hng, hj]; dsimp only; rw [← hcl]]
  obtain ⟨M, hM⟩ : ∃ M, L.flatMap (·.items) = M := ⟨_, rfl⟩
  rw [hM] at hR6 ⊢
  have hR6' := hR6
  obtain ⟨ad7, cp7, xs7, rfl, _⟩ := hR6
  refine Zerun ?_
  (refine RW.call T hs rfl rfl rfl (refList08_con hR' _ M cl _ _ hR6') ?_; intro v h11 w11 hle11 hp11 hs)
  obtain ⟨cs11, rfl, hP⟩ := hp11
  have hP' := hP
  obtain ⟨s12, it12, rfl, ⟨ad12, cap12, rfl, _⟩, ⟨ad13, cap13, xs13, rfl, _⟩⟩ := hP
  refine Zerun ?_
  refine RW.storeAll T hs 0 rfl rfl rfl rfl rfl rfl (by simp [Value.oneCell']) rfl ?_
  intro w13 hs
  refine Zerun ?_
  exact retQ_ret [_, _] h11 ⟨resN T hs 0 rfl rfl rfl rfl rfl rfl, rfl, trivial⟩ hs.dropAll ⟨_, rfl, hP'⟩
end Go.Proofs.YtmojpbfkpggjhaaGreat

/-
  Plain laws of what lies in boxes, listed: the code's lists and the document's tell the same. No statement is proved here.
-/
namespace Go.Proofs.YtmojpbfkpggjhaaGreat
open Go Go.RowKit
set_option linter.unusedVariables false
set_option linter.unusedSimpArgs false
set_option maxHeartbeats 4000000
attribute [local irreducible] CW RW QW SW HW ConM retM heldQ calmQ elemP thenQ blockQ loopQ joinQ retQ Yields Con Sl zF magR unitF truncF fwF wholeF tidySpec elemQ rankF leastN tidyW
set_option maxHeartbeats 4000000

theorem good_mono : ∀ (k : Nat) (d e : Int) (a : AD k), 0 ≤ d → d ≤ e → good k d a → good k e a
  | 0, _, _, _, _, _, _ => trivial
  | k + 1, d, e, a, h0, hde, h => by
    obtain ⟨h1, h2, h3, h4, h5⟩ := h
    exact ⟨h1, h2, h3, by omega, fun b hb => good_mono k (d - 1) (e - 1) b (by omega) (by omega) (h5 b hb)⟩
/-- what is told of an array that is good to a depth -/
theorem tells_at (k : Nat) (d : Int) (p : PD (k + 2)) (h0 : 0 ≤ d) (h40 : d ≤ 40) (hc : chk (k + 2) d p = 0) (ht : tdy (k + 2) (tidy (k + 2) p)) : Tells k (ArrD.vec (α := AD (k + 1)) (arr (k + 2) p)) (PlainD.items (α := PD (k + 1)) (tidy (k + 2) p)) (PlainD.fill (α := PD (k + 1)) (tidy (k + 2) p)) ∧ product (PlainD.shape (α := PD (k + 1)) p) 1048576 = (((ArrD.vec (α := AD (k + 1)) (arr (k + 2) p)).len : Int), 0) := by
  obtain ⟨h1, h2, h3, h4, h5⟩ := (chkP_ok (α := PD (k + 1)) _ _ _).1 hc
  have hl : (PlainD.items (α := PD (k + 1)) (tidy (k + 2) p)).length = (PlainD.items (α := PD (k + 1)) p).length := List.length_map ..
  have hg := good_arr (k + 2) d p hc
  have hsml := good_sml (k + 2) d _ hg
  have hg2 : product (PlainD.shape (α := PD (k + 1)) p) 1048576 = (((ArrD.vec (α := AD (k + 1)) (arr (k + 2) p)).len : Int), 0) := hg.1
  refine ⟨⟨⟨cls_arrV (arr (k + 1)) _ _ h2 h3, hg.2.1, hg.2.2.1, hsml.2.1, hsml.2.2, congrArg (PlainD.items (α := PD (k + 1))) (plain_arr (k + 2) d p hc), ht⟩, fun b hb => good_mono (k + 1) (d - 1) (40 - 1) b (by omega) (by omega) (hg.2.2.2.2 b hb), ?_⟩, hg2⟩
  rw [h4] at hg2
  have := congrArg Prod.fst hg2
  dsimp only at this
  omega
theorem joinedV_sq {α : Type} (c : Int) (l : List (VecD α)) : (joinedV c l).sq = joinedV c l := by
  unfold joinedV
  split
  · exact noneSq2 _
  · exact joinSq2 _ _
/-- lists told, behind each other -/
theorem tells_joinL {k : Nat} (Z : List (VecD (AD (k + 1)) × PlainD (PD (k + 1)))) (hZ : ∀ z ∈ Z, Tells k z.1 z.2.items z.2.fill) {c : Int} (hj : joinC (-1) (Z.map Prod.fst) = some c) (hsum : ((Z.map Prod.fst).map VecD.len).sum ≤ 1048576) :
    Tells k (joinedV c (Z.map Prod.fst)) ((Z.map Prod.snd).flatMap (·.items)) (if 0 ≤ c then c else headF (Z.map Prod.snd)) := by
  have hS := shown_join hj (by
    intro v hv
    obtain ⟨z, hz, rfl⟩ := List.mem_map.1 hv
    exact (hZ z hz).sh') hsum
  have e1 : (Z.map Prod.fst).flatMap (itemsV (plain (k + 1))) = (Z.map Prod.snd).flatMap (·.items) := by
    clear hj hsum hS
    induction Z with
    | nil => rfl
    | cons z Z ih =>
      rw [List.map_cons, List.map_cons, List.flatMap_cons, List.flatMap_cons, ih (fun y hy => hZ y (List.mem_cons_of_mem _ hy)), (hZ z List.mem_cons_self).sh.he]
  have e2 : headC (Z.map Prod.fst) = headF (Z.map Prod.snd) := (joinC_joinP (α := AD (k + 1)) (γ := PD (k + 1)) Prod.fst Prod.snd Z (-1) (fun z hz => ⟨(hZ z hz).ln.symm, (hZ z hz).sh.hc⟩)).2
  rw [e1] at hS
  have hS' : Shown (k + 1) (joinedV c (Z.map Prod.fst)) ((Z.map Prod.snd).flatMap (·.items)) (if 0 ≤ c then c else headF (Z.map Prod.snd)) := by rw [← e2]; exact hS
  refine ⟨hS', ?_, ?_⟩
  · unfold joinedV
    split
    · rw [noneBoxes2]; exact fun z hz => nomatch hz
    · intro z hz
      obtain ⟨u, hu, hz2⟩ := joinS_boxes hz
      obtain ⟨y, hy, rfl⟩ := List.mem_map.1 hu
      exact (hZ y hy).hg z hz2
  · rw [← hS'.he]
    unfold joinedV
    split
    · exact noneItems2 _ _
    · exact joinItems2 _ _ _
theorem joins_eq {k : Nat} (Z : List (VecD (AD (k + 1)) × PlainD (PD (k + 1)))) (hZ : ∀ z ∈ Z, Tells k z.1 z.2.items z.2.fill) : joinC (-1) (Z.map Prod.fst) = joinP (-1) (Z.map Prod.snd) :=
  (joinC_joinP (α := AD (k + 1)) (γ := PD (k + 1)) Prod.fst Prod.snd Z (-1) (fun z hz => ⟨(hZ z hz).ln.symm, (hZ z hz).sh.hc⟩)).1
theorem sums_eq {k : Nat} (Z : List (VecD (AD (k + 1)) × PlainD (PD (k + 1)))) (hZ : ∀ z ∈ Z, Tells k z.1 z.2.items z.2.fill) : (Z.map Prod.fst).map VecD.len = (Z.map Prod.snd).map (·.items.length) := by
  rw [List.map_map, List.map_map]
  exact List.map_congr_left fun z hz => (hZ z hz).ln.symm
/-! ## Leaves -/
theorem items_flat {α β γ δ : Type} (f : α → β) (g : γ → δ) (v : VecD α) (h : v.cls ≠ 2) : (itemsV f v).map flatI = itemsV g (flatV v) := by
  have e : (flatV v : VecD γ).cls = v.cls := rfl
  unfold itemsV
  rw [e]
  by_cases h1 : v.cls = 1
  · rw [if_pos h1, if_pos h1, List.map_map]
    rfl
  · rw [if_neg h1, if_neg h1, if_neg h, if_neg h, List.map_map]
    rfl
theorem arrV_boxes {α β : Type} (f : α → β) (fill : Int) (l : List (ItemD α)) (h : fill ≠ 2) : (arrV f fill l).boxes = [] := by
  unfold arrV
  split
  · rfl
  · rfl
theorem leaves_pairs : ∀ (K : Nat) (d : Int) (p : PD K), 0 ≤ d → chk K d p = 0 → tdy K (tidy K p) → ∃ Z : List (VecD (AD 1) × PlainD (PD 1)), Z.map Prod.fst = leavesA (β := AD 1) K (arr K p) ∧ Z.map Prod.snd = leavesP (γ := PD 1) K (tidy K p) ∧ ∀ z ∈ Z, Tells 0 z.1 z.2.items z.2.fill
  | 0, _, _, _, _, _ => ⟨[], rfl, rfl, fun z hz => nomatch hz⟩
  | K + 1, d, p, h0, hc, ht => by
    obtain ⟨h1, h2, h3, h4, h5⟩ := (chkP_ok (α := PD K) _ _ _).1 hc
    have hd1 : 0 ≤ d - 1 := by omega
    have hv : ArrD.vec (α := AD K) (arr (K + 1) p) = arrV (arr K) p.fill p.items := rfl
    have hcl : (arrV (arr K) p.fill p.items).cls = p.fill := cls_arrV (arr K) _ _ h2 h3
    have hA : leavesA (β := AD 1) (K + 1) (arr (K + 1) p) = if (arrV (arr K) p.fill p.items).cls ≠ 2 then [flatV (arrV (arr K) p.fill p.items)] else (arrV (arr K) p.fill p.items).boxes.flatMap (leavesA K) := rfl
    have hP : leavesP (γ := PD 1) (K + 1) (tidy (K + 1) p) = if p.fill ≠ 2 then [flatP (tidyP (tidy K) p)] else (p.items.map (tidyIt (tidy K))).flatMap fun x => x.box.flatMap (leavesP K) := rfl
    rw [hA, hP, hcl]
    have hpl : itemsV (plain K) (arrV (arr K) p.fill p.items) = p.items.map (tidyIt (tidy K)) := congrArg (PlainD.items (α := PD K)) (plain_arr (K + 1) d p hc)
    have hg := good_arr (K + 1) d p hc
    have hln : (arrV (arr K) p.fill p.items).len = p.items.length := len_arrV (arr K) _ _ _ h5
    by_cases c : p.fill ≠ 2
    · rw [if_pos c, if_pos c]
      have hb := arrV_boxes (arr K) p.fill p.items c
      have hfl : (flatV (arrV (arr K) p.fill p.items) : VecD (AD 1)).len = p.items.length := by rw [flatV_len hb, hln]
      have hit : (p.items.map (tidyIt (tidy K))).map flatI = itemsV (plain 1) (flatV (arrV (arr K) p.fill p.items)) := by
        rw [← hpl]
        exact items_flat (plain K) (plain 1) _ (by rw [hcl]; exact c)
      refine ⟨[(flatV (arrV (arr K) p.fill p.items), flatP (tidyP (tidy K) p))], rfl, rfl, fun z hz => ?_⟩
      obtain rfl := List.mem_singleton.1 hz
      have hm := (good_sml (K + 1) d _ hg).2.1
      have hm : (arrV (arr K) p.fill p.items).len ≤ 1048576 := hm
      refine ⟨⟨hcl, hg.2.1, ?_, by rw [hfl]; omega, (fun b hb => nomatch hb), hit.symm, ?_⟩, (fun b hb => nomatch hb), ?_⟩
      · exact hg.2.2.1
      · intro x hx
        have hx : x ∈ (p.items.map (tidyIt (tidy K))).map flatI := hx
        obtain ⟨y, hy, rfl⟩ := List.mem_map.1 hx
        exact ⟨(ht y hy).1, fun b hb => nomatch hb⟩
      · show ((p.items.map (tidyIt (tidy K))).map flatI).length = _
        rw [List.length_map, List.length_map, hfl]
    · have c2 : p.fill = 2 := Decidable.of_not_not c
      rw [if_neg c, if_neg c]
      have hbx : (arrV (arr K) p.fill p.items).boxes = p.items.flatMap fun x => x.box.map (arr K) := by
        unfold arrV
        rw [if_neg (by omega), if_pos c2]
      rw [hbx]
      have ht : ∀ x ∈ p.items.map (tidyIt (tidy K)), tdyIt (tdy K) x := ht
      rw [c2] at h5
      clear hA hP hbx hcl hln hpl hg hv hc h4
      generalize p.items = l at *
      induction l with
      | nil => exact ⟨[], rfl, rfl, fun z hz => nomatch hz⟩
      | cons x l ih =>
        obtain ⟨Z2, e1, e2, e3⟩ := ih (fun y hy => h5 y (List.mem_cons_of_mem _ hy)) (fun y hy => ht y (List.mem_cons_of_mem _ hy))
        obtain ⟨hk, hbk, _⟩ := h5 x List.mem_cons_self
        obtain ⟨b, hb, hcb⟩ := hbk hk
        have htx := ht (tidyIt (tidy K) x) List.mem_cons_self
        have hti : tidyIt (tidy K) x = ⟨2, 0, 0, [tidy K b]⟩ := by
          unfold tidyIt
          rw [if_neg (by omega), if_neg (by omega), if_pos hk, hb]
          rfl
        rw [hti] at htx
        obtain ⟨Z1, g1, g2, g3⟩ := leaves_pairs K (d - 1) b hd1 hcb (htx.2 _ List.mem_cons_self)
        refine ⟨Z1 ++ Z2, ?_, ?_, fun z hz => ?_⟩
        · rw [List.map_append, g1, e1, List.flatMap_cons, hb, List.flatMap_append]
          simp
        · rw [List.map_append, g2, e2, List.map_cons, List.flatMap_cons, hti]
          simp
        · rcases List.mem_append.1 hz with h | h
          · exact g3 z h
          · exact e3 z h
theorem product_one (n : Nat) (h : n ≤ 1048576) : product [(n : Int)] 1048576 = ((n : Int), 0) := by
  have hp : pr [(n : Int)] = max 1 (n : Int) := by show max 1 (n : Int) * 1 = _; omega
  have hg : goodS [(n : Int)] = true := (goodS_spec _).2 ⟨by simp, fun d hd => by have := List.mem_singleton.1 hd; omega, by rw [hp]; omega⟩
  rw [product_good _ hg, hp]
  by_cases c : n = 0
  · rw [if_pos (by rw [c]; exact List.mem_cons_self), c]; rfl
  · rw [if_neg (fun h => by have := List.mem_singleton.1 h; omega)]
    congr 1
    omega
/-- what both tell of all that lies in boxes, listed -/
theorem enl_res (K : Nat) (d : Int) (p : PD K) (h0 : 0 ≤ d) (hc : chk K d p = 0) (ht : tdy K (tidy K p)) (most : Int) (hm : most ≤ 1048576) :
    (enlS (leavesA K (arr K p)) most).1 = (enlP (leavesP (γ := PD 1) K (tidy K p)) most).1 ∧ ResX 1 (enlS (leavesA K (arr K p)) most).1 (enlS (leavesA K (arr K p)) most).2 (enlP (leavesP (γ := PD 1) K (tidy K p)) most).2 := by
  obtain ⟨Z, e1, e2, e3⟩ := leaves_pairs K d p h0 hc ht
  have hs := sums_eq Z e3
  have hj := joins_eq Z e3
  have hsum : sumL (Z.map Prod.fst) = sumP (Z.map Prod.snd) := by unfold sumL sumP; rw [hs]
  rw [← e1, ← e2]
  unfold enlS enlP
  rw [hsum]
  by_cases c : most < (sumP (Z.map Prod.snd) : Int)
  · rw [if_pos c, if_pos c]
    exact ⟨rfl, .inr ⟨.inr (.inr (.inr rfl)), rfl⟩⟩
  rw [if_neg c, if_neg c]
  have hs2 : ((Z.map Prod.fst).map VecD.len).sum ≤ 1048576 := by
    have : ((Z.map Prod.fst).map VecD.len).sum = sumP (Z.map Prod.snd) := hsum
    omega
  rw [hj]
  cases hjc : joinP (-1) (Z.map Prod.snd) with
  | none => exact ⟨rfl, .inr ⟨.inr (.inr (.inl rfl)), rfl⟩⟩
  | some c2 =>
    have HJ := tells_joinL Z e3 (hj.trans hjc) hs2
    refine ⟨rfl, ?_⟩
    dsimp only
    rw [joinedV_sq]
    have hl := HJ.ln
    have hlm := HJ.sh.vm
    have := HJ.shape [((joinedV c2 (Z.map Prod.fst)).len : Int)] (product_one _ hlm)
    rw [hl]
    exact this
end Go.Proofs.YtmojpbfkpggjhaaGreat

/-
  Plain laws of two arrays behind each other: the code's rows and the document's places tell the same. No statement is proved here.
-/
namespace Go.Proofs.YtmojpbfkpggjhaaGreat
open Go Go.RowKit
set_option linter.unusedVariables false
set_option linter.unusedSimpArgs false
set_option maxHeartbeats 4000000
attribute [local irreducible] CW RW QW SW HW ConM retM heldQ calmQ elemP thenQ blockQ loopQ joinQ retQ Yields Con Sl zF magR unitF truncF fwF wholeF tidySpec elemQ rankF leastN tidyW
set_option maxHeartbeats 4000000

/-! ## The answers -/
theorem prod_err {s : List Int} (h8 : s.length ≤ 8) (h0 : ∀ d ∈ s, 0 ≤ d) (most : Int) : (product s most).2 = 0 ∨ (product s most).2 = 26 := by
  by_cases c : pr s ≤ 1048576
  · rw [product_in s most (by omega) h0 c]
    generalize (if (0 : Int) ∈ s then (0 : Int) else pr s) = m
    unfold within
    by_cases c2 : most < m ∨ 1048576 < m
    · rw [if_pos c2]; exact .inr rfl
    · rw [if_neg c2]; exact .inl rfl
  · right
    have key : ∀ k, k ≤ s.length → ¬ pr (s.take k) ≤ 1048576 → ∃ m, m < s.length ∧ 1048576 < pr (s.take m) * s.getD m 0 := by
      intro k
      induction k with
      | zero => intro _ h; exact absurd (show pr (s.take 0) ≤ 1048576 by simp [pr]) h
      | succ k ih =>
        intro hk h
        by_cases c2 : pr (s.take k) ≤ 1048576
        · refine ⟨k, by omega, ?_⟩
          rw [pr_take_succ s k (by omega)] at h
          by_cases c3 : s.getD k 0 ≤ 1
          · rw [show max 1 (s.getD k 0) = 1 by omega, Int.mul_one] at h; omega
          · rw [show max 1 (s.getD k 0) = s.getD k 0 by omega] at h; omega
        · exact ih (by omega) c2
    obtain ⟨m, hm, hb⟩ := key s.length (Nat.le_refl _) (by rw [List.take_length]; exact c)
    rw [product_over s most (by omega) h0 m hm hb]
end Go.Proofs.YtmojpbfkpggjhaaGreat

/-
  Contracts of package part: boxes' arrays put into one, errors told. No statement is proved here.
-/
namespace Go.Proofs.YtmojpbfkpggjhaaGreat
open Go Go.RowKit
set_option linter.unusedVariables false
set_option linter.unusedSimpArgs false
set_option maxHeartbeats 4000000
attribute [local irreducible] CW RW QW SW HW ConM retM heldQ calmQ elemP thenQ blockQ loopQ joinQ retQ Yields Con Sl zF magR unitF truncF fwF wholeF tidySpec elemQ rankF leastN tidyW
set_option maxHeartbeats 4000000

def bsh (k : Nat) (b : AD (k + 1)) : List Int := ArrD.shape (α := AD k) b
def badE (s : List Int) : List (List Int) → Int
  | [] => 0
  | t :: l => if t.length ≠ s.length then 22 else if t ≠ s then 23 else badE s l
def mixL (k : Nat) (sh s0 : List Int) (L : List (AD (k + 1))) (most : Int) : Int × ArrD (AD k) :=
  if badE s0 (L.map (bsh k)) ≠ 0 then (badE s0 (L.map (bsh k)), ⟨[], VecD.none⟩)
  else if (product (sh ++ s0) most).2 ≠ 0 then ((product (sh ++ s0) most).2, ⟨[], VecD.none⟩)
  else match joinC (-1) (L.map (bv k)) with
    | none => (24, ⟨[], VecD.none⟩)
    | some c => (newE (sh ++ s0) (joinedV c (L.map (bv k))), if newE (sh ++ s0) (joinedV c (L.map (bv k))) = 0 then ⟨sh ++ s0, (joinedV c (L.map (bv k))).sq⟩ else ⟨[], VecD.none⟩)
def mixS (k : Nat) (a : ArrD (AD (k + 1))) (most : Int) : Int × ArrD (AD k) :=
  match a.vec.boxes with
  | [] => if (product (a.shape ++ [0]) most).2 ≠ 0 then ((product (a.shape ++ [0]) most).2, ⟨[], VecD.none⟩) else (0, ⟨a.shape ++ [0], noneV 0⟩)
  | b0 :: l => mixL k a.shape (bsh k b0) (b0 :: l) most
theorem partMix0_con (k : Nat) (cs : List Value) (a : ArrD (AD (k + 1))) (most : Int) (w : World) (h : GHeap) (ha : ArrAt (k + 2) h cs a) (hc2 : a.vec.cls ≠ 2) : Con Tryz.prog 23 [.agg cs.toArray, .int .i64 most] w h (fun h' u => ∃ c2, u = .tuple #[.agg c2.toArray, .int .i64 0] ∧ ArrAt (k + 2) h' c2 a) := by
  have ha' := ha
  obtain ⟨_, vca, rfl, ⟨ada, cpa, rfl, hSa⟩, hva⟩ := ha
  have hva' := hva
  obtain ⟨wa, na, sa, ia, fa, ga, xa, ⟨rfl, hoa⟩, -⟩ := hva
  refine Con.of_body Tryz.func23 rfl Tryz.ntmps23 rfl rfl ?_
  intro hs
  refine Zrun ?_
  (refine RW.boxN hs rfl rfl ?_; intro b1 w1 hs)
  (refine RW.allocN T hs rfl rfl rfl rfl ?_; intro b2 w2 hs)
  refine Zerun ?_
  (refine RW.call T hs rfl rfl rfl (vecClass_con _ a.vec _ _ hva') ?_; intro v h20 w20 hle20 hp20 hs)
  subst hp20
  refine Zerun ?_
  (refine RW.storeAll T hs 0 rfl rfl rfl rfl rfl rfl (by show (true && (vecCells a.vec.kind wa na sa ia fa ga xa).all Value.oneCell') = true; rw [hoa]; rfl) rfl ?_; intro w3 hs)
  refine Zerun ?_
  exact retQ_ret [_, _] h20 ⟨resN T hs 0 rfl rfl rfl rfl rfl rfl, rfl, trivial⟩ hs.dropAll ⟨_, rfl, ArrAt.mono (k + 2) _ _ _ _ hle20 ha'⟩
theorem partMix_con (k : Nat) (cs : List Value) (a : ArrD (AD (k + 1))) (most : Int) (w : World) (h : GHeap) (ha : ArrAt (k + 2) h cs a) (hc2 : a.vec.cls = 2) (h8 : a.shape.length ≤ 8) (hlen : a.vec.len ≤ 1048576) (hb8 : ∀ b ∈ a.vec.boxes, (bsh k b).length ≤ 8) (hsum : ((a.vec.boxes.map (bv k)).map VecD.len).sum ≤ 1048576) :
    Con Tryz.prog 23 [.agg cs.toArray, .int .i64 most] w h (fun h' u => ∃ c2, u = .tuple #[.agg c2.toArray, .int .i64 (mixS k a most).1] ∧ ArrR (ArrAt k) h' c2 (mixS k a most).2) := by
  obtain ⟨_, vca, rfl, ⟨ada, cpa, rfl, hSa⟩, hva⟩ := ha
  have hva' := hva
  obtain ⟨wa, na, sa, ia, fa, ga, xa, ⟨rfl, hoa⟩, -⟩ := hva
  have hbl : a.vec.boxes.length ≤ 1048576 := by unfold VecD.len at hlen; omega
  obtain ⟨L, hL⟩ : ∃ L, a.vec.boxes = L := ⟨_, rfl⟩
  refine Con.of_body Tryz.func23 rfl Tryz.ntmps23 rfl rfl ?_
  intro hs
  refine Zrun ?_
  (refine RW.boxN hs rfl rfl ?_; intro b1 w1 hs)
  (refine RW.allocN T hs rfl rfl rfl rfl ?_; intro b2 w2 hs)
  refine Zerun ?_
  (refine RW.call T hs rfl rfl rfl (vecClass_con _ a.vec _ _ hva') ?_; intro v h20 w20 hle20 hp20 hs)
  subst hp20
  rw [hc2]
  have hva' := hva'.mono (ArrAt.mono (k + 1)) hle20
  refine Zerun ?_
  (refine RW.call T hs rfl rfl rfl (vecArrays_con (ArrAt.mono (k + 1)) (ArrAt.one (k + 1)) _ a.vec _ _ hva' (by omega)) ?_; intro v h25 w25 hle25 hp25 hs)
  rw [hL] at hp25 hbl hb8 hsum
  obtain ⟨adl, cpl, xl, rfl, hS, hA⟩ := hp25
  have hSa := hSa.mono (hle20.trans hle25)
  by_cases hL0 : L.length = 0
  · have hL0' : (L.length : Int) = 0 := by omega
    have hLn : L = [] := List.eq_nil_of_length_eq_zero hL0
    have hms : mixS k a most = if (product (a.shape ++ [0]) most).2 ≠ 0 then ((product (a.shape ++ [0]) most).2, ⟨[], VecD.none⟩) else (0, ⟨a.shape ++ [0], noneV 0⟩) := by unfold mixS; rw [hL, hLn]
    refine Zerun ?_
    (refine RW.callM T hs rfl rfl rfl (cloneInt_conM ada cpa a.shape _ _ _ _ _ hSa (by omega)) ?_; intro v h31 O31 w31 hle31 hp31 hs)
    obtain ⟨rfl, ad31, cp31, rfl, rfl⟩ := hp31
    refine Zerun ?_
    (refine RW.lit T hs (vs := [.int .i64 0]) (cs := [.int .i64 0]) rfl rfl rfl rfl (by simp [Value.cells]) rfl rfl rfl rfl rfl ?_; intro b32 w32 hs)
    (refine RW.append T hs 1 rfl rfl (m := 1) (news := [.int .i64 0]) rfl rfl rfl rfl rfl rfl (hs.src0 rfl (by simp [Value.oneCell'])) (by simp) (by dsimp only; omega) (by omega) ?_; intro ad33 cp33 w33 hs; replace hs := hs.drop)
    obtain ⟨h34, hle34, hs, hS34⟩ := hs.freeze
    have hI34 : IntsAt h34 (.slice ad33 (a.shape.length + 1) cp33) (a.shape ++ [0]) := by
      have e : a.shape.length + 1 = (a.shape ++ [(0 : Int)]).length := by simp
      rw [e] at hS34 ⊢
      refine IntsAt.of_sl ?_
      simpa using hS34
    refine Zerun ?_
    (refine RW.call T hs rfl rfl rfl (product_con _ (a.shape ++ [0]) most _ _ hI34 (by rw [List.length_append]; simp; omega)) ?_; intro v h37 w37 hle37 hp37 hs)
    subst hp37
    have hI34 := hI34.mono hle37
    by_cases ep : (product (a.shape ++ [0]) most).2 = 0
    rotate_left
    · obtain ⟨pe, hpe⟩ : ∃ pe, (product (a.shape ++ [0]) most).2 = pe := ⟨_, rfl⟩
      rw [hpe] at ep hms ⊢
      rw [show mixS k a most = (pe, ⟨[], VecD.none⟩) from by rw [hms, if_pos ep]]
      refine Zerun ?_
      refine RW.val (Y.build T rfl rfl rfl rfl rfl rfl rfl) rfl ?_
      refine Zerun ?_
      (refine RW.storeAll T hs 0 rfl rfl rfl rfl rfl rfl rfl rfl ?_; intro w90 hs)
      refine Zerun ?_
      exact retQ_ret [_, _] h37 ⟨resN T hs 0 rfl rfl rfl rfl rfl rfl, rfl, trivial⟩ hs.dropAll ⟨_, rfl, ⟨_, _, rfl, IntsAt.nil _, vecNone _⟩⟩
    rw [ep, show mixS k a most = (0, ⟨a.shape ++ [0], noneV 0⟩) from by rw [hms, if_neg (fun h => h ep)]]
    refine Zerun ?_
    (refine RW.call T hs rfl rfl rfl (vecNone_con (ArrAt.mono k) (ArrAt.one k) 0 _ _) ?_; intro v h45 w45 hle45 hp45 hs)
    obtain ⟨cs45, rfl, hv45⟩ := hp45
    have hI34 := hI34.mono hle45
    have hv45' := hv45
    obtain ⟨wv, nv, sm, il, fl, ch, bx, ⟨rfl, hoc⟩, -⟩ := hv45
    refine Zerun ?_
    refine RW.val (Y.build T rfl rfl rfl rfl rfl rfl rfl) rfl ?_
    (refine RW.storeAll T hs 0 rfl rfl rfl rfl rfl rfl (by show (true && (vecCells _ wv nv sm il fl ch bx).all Value.oneCell') = true; rw [hoc]; rfl) rfl ?_; intro w46 hs)
    refine Zerun ?_
    exact retQ_ret [_, _] h45 ⟨resN T hs 0 rfl rfl rfl rfl rfl rfl, rfl, trivial⟩ hs.dropAll ⟨_, rfl, ⟨_, _, rfl, hI34, hv45'⟩⟩
  have hL0' : ¬ (L.length : Int) = 0 := by omega
  have hLp : 0 < L.length := by omega
  obtain ⟨y0, hy0, hyl0, hR0⟩ := hA.elem 0 hLp
  have hms : mixS k a most = mixL k a.shape (bsh k L[0]) L most := by
    unfold mixS
    rw [hL]
    cases L with
    | nil => exact absurd rfl hL0
    | cons b l => rfl
  rw [hms]
  have hb0 := hb8 _ (List.getElem_mem hLp)
  generalize hb : L[0] = b0 at hR0 hb0 ⊢
  obtain ⟨_, vc0, rfl, ⟨ad0, cp0, rfl, hS0⟩, -⟩ := hR0
  change Sl h25 1 ad0 (bsh k b0).length cp0 ((bsh k b0).map (Value.int .i64)) at hS0
  have hx0 : xl[0 * 9 + 0]? = some (.slice ad0 (bsh k b0).length cp0) := by rw [AllN.get4 hy0 0 (by omega)]; rfl
  have hI0 : IntsAt h25 (.slice ad0 (bsh k b0).length cp0) (bsh k b0) := ⟨_, _, rfl, hS0⟩
  have hIa : IntsAt h25 (.slice ada a.shape.length cpa) a.shape := ⟨_, _, rfl, hSa⟩
  clear hy0
  obtain ⟨s0, hs0⟩ : ∃ s0, bsh k b0 = s0 := ⟨_, rfl⟩
  refine Zerun ?_
  refine RW.make T hs rfl rfl rfl rfl rfl (by omega) (by omega) (by dsimp only; omega) (by omega) ?_
  intro b10 w10 hs
  rw [Int.toNat_natCast] at hs ⊢
  have hzl := (hs.own _ List.mem_cons_self).1.1
  generalize (madeCells _ _).toList = zs at hs hzl
  have hzl : zs.length = (L.length - 0) * 8 := hzl
  have hs : Sees w h h25 [⟨some ⟨b10, 0, none⟩, L.length, L.length, 37, 8, [] ++ zs⟩, ⟨some ⟨b2, 0, none⟩, 1, 1, 39, 9, .slice none 0 0 :: vecCells 0 (.slice none 0 0) 0 (.slice none 0 0) (.slice none 0 0) (.slice none 0 0) (.slice none 0 0) (.slice none 0 0)⟩, ⟨some ⟨b1, 0, none⟩, 1, 1, 39, 9, .slice ada a.shape.length cpa :: vecCells a.vec.kind wa na sa ia fa ga xa⟩] w10 := hs
  refine Zerun ?_
  refine CW.loop (fun u : Nat × List Value × List Value × GHeap => [(1, .int .i64 most), (2, .pointer (some ⟨b1, 0, none⟩)), (4, .pointer (some ⟨b2, 0, none⟩)), (6, .slice adl L.length cpl), (10, .slice (some ⟨b10, 0, none⟩) L.length L.length), (50, .slice adl L.length cpl), (51, .int .i64 L.length), (52, .int .i64 u.1)]) (fun u w' => u.1 ≤ L.length ∧ GLe h25 u.2.2.2 ∧ u.2.2.1.length = (L.length - u.1) * 8 ∧ AllN 8 (VecAt (ArrAt k) u.2.2.2) u.2.1 ((L.take u.1).map (bv k)) ∧ badE s0 (L.map (bsh k)) = badE s0 ((L.drop u.1).map (bsh k)) ∧ Sees w h u.2.2.2 [⟨some ⟨b10, 0, none⟩, L.length, L.length, 37, 8, u.2.1 ++ u.2.2.1⟩, ⟨some ⟨b2, 0, none⟩, 1, 1, 39, 9, .slice none 0 0 :: vecCells 0 (.slice none 0 0) 0 (.slice none 0 0) (.slice none 0 0) (.slice none 0 0) (.slice none 0 0) (.slice none 0 0)⟩, ⟨some ⟨b1, 0, none⟩, 1, 1, 39, 9, .slice ada a.shape.length cpa :: vecCells a.vec.kind wa na sa ia fa ga xa⟩] w') (fun u => L.length - u.1) (0, [], zs, h25) ⟨rfl, rfl, rfl, rfl, rfl, rfl, rfl, rfl, trivial⟩ ⟨by omega, GLe.refl _, hzl, rfl, rfl, hs⟩ ?_
  rintro ⟨i, vs, zs, hh⟩ w11 ⟨hi, hgl, hzl, hAv, hbd, hs⟩
  dsimp only at hi hgl hzl hAv hbd hs ⊢
  have hS := hS.mono hgl
  have hI0 := hI0.mono hgl
  have hIa := hIa.mono hgl
  rw [hs0] at hI0 hx0
  by_cases hlt : i < L.length
  · obtain ⟨y, hy, hyl, hRi⟩ := hA.elem _ hlt
    have htk : (L.take (i + 1)).map (bv k) = (L.take i).map (bv k) ++ [bv k L[i]] := by rw [List.take_add_one, List.getElem?_eq_getElem hlt, List.map_append]; rfl
    have hd := List.drop_eq_getElem_cons hlt
    rw [hd, List.map_cons] at hbd
    have hbi := hb8 _ (List.getElem_mem hlt)
    generalize hbie : L[i] = bi at hRi htk hbd hbi
    have hRi := ArrAt.mono (k + 1) _ _ _ _ hgl hRi
    obtain ⟨_, vci, rfl, ⟨adi, cpi, rfl, hSi⟩, hvi⟩ := hRi
    change Sl hh 1 adi (bsh k bi).length cpi ((bsh k bi).map (Value.int .i64)) at hSi
    change VecAt (ArrAt k) hh vci (bv k bi) at hvi
    change (xl.drop (i * 9)).take 9 = .slice adi (bsh k bi).length cpi :: vci at hy
    have hIi : IntsAt hh (.slice adi (bsh k bi).length cpi) (bsh k bi) := ⟨_, _, rfl, hSi⟩
    have hvi' := hvi
    obtain ⟨wi, ni, si, ii, fi, gi, xi, ⟨rfl, hoi⟩, -⟩ := hvi
    refine Zerun ?_
    (refine RW.allocN T hs rfl rfl rfl rfl ?_; intro b12 w12 hs)
    refine Zerun ?_
    (refine RW.storeAll T hs 0 rfl rfl rfl rfl rfl rfl (by show (true && (vecCells _ wi ni si ii fi gi xi).all Value.oneCell') = true; rw [hoi]; rfl) rfl ?_; intro w13 hs)
    refine Zerun ?_
    refine CW.regionQ T hs (Zeqrun ?_) (by kernel_rfl)
    intro w14 hs
    by_cases c1 : (bsh k bi).length = s0.length
    rotate_left
    · have c1' : ¬ ((bsh k bi).length : Int) = (s0.length : Int) := by omega
      have hbe : badE s0 (L.map (bsh k)) = 22 := by rw [hbd, badE, if_pos c1]
      rw [hs0, show mixL k a.shape s0 L most = (22, ⟨[], VecD.none⟩) from by unfold mixL; rw [hbe, if_pos (by decide)]]
      refine Zerun ?_
      refine RW.val (Y.build T rfl rfl rfl rfl rfl rfl rfl) rfl ?_
      refine Zerun ?_
      (refine RW.storeAll T hs 2 rfl rfl rfl rfl rfl rfl rfl rfl ?_; intro w90 hs)
      refine Zerun ?_
      exact retQ_ret [_, _] hh ⟨resN T hs 2 rfl rfl rfl rfl rfl rfl, rfl, trivial⟩ hs.dropAll ⟨_, rfl, ⟨_, _, rfl, IntsAt.nil _, vecNone _⟩⟩
    have c1' : ((bsh k bi).length : Int) = (s0.length : Int) := by omega
    refine Zerun ?_
    refine CW.regionO T hs ?_
    intro w16 hs
    refine HW.takeS (fuel := 8) 0 rfl (fun _ _ hs => Y.fieldAddr T rfl rfl rfl rfl rfl) hs rfl (by kernel_rfl) (by kernel_rfl) (by kernel_rfl) ?_
    refine HW.takeS (fuel := 7) 1 rfl (fun _ _ hs => Y.loadRow1 T hs 0 rfl rfl rfl rfl rfl) hs rfl (by kernel_rfl) (by kernel_rfl) (by kernel_rfl) ?_
    refine HW.takeS (fuel := 6) 2 rfl (fun _ _ hs => Y.move rfl) hs rfl (by kernel_rfl) (by kernel_rfl) (by kernel_rfl) ?_
    refine HW.takeS (fuel := 5) 3 rfl (fun _ _ hs => Y.idxSN (u := 0) T rfl rfl hS rfl rfl rfl (by omega)) hs rfl (by kernel_rfl) (by kernel_rfl) (by kernel_rfl) ?_
    refine HW.takeS (fuel := 4) 4 rfl (fun _ _ hs => Y.fieldE T rfl rfl rfl rfl rfl hS (by omega)) hs rfl (by kernel_rfl) (by kernel_rfl) (by kernel_rfl) ?_
    refine HW.one (fuel := 3) 5 rfl (by kernel_rfl) ?_
    refine RW.val (Y.ldQ T hs rfl hS rfl rfl (by omega) rfl hx0) rfl ?_
    refine RW.nil ?_
    refine heldQ_normal ⟨_, hs⟩ ?_
    refine HW.one (fuel := 2) 6 rfl (by kernel_rfl) ?_
    (refine RW.call T hs rfl rfl rfl (same_con _ _ (bsh k bi) s0 _ _ hIi hI0 (by omega)) ?_; intro v h75 w75 hle75 hp75 hs)
    subst hp75
    have hS := hS.mono hle75
    have hIi := hIi.mono hle75
    have hI0 := hI0.mono hle75
    have hAv := hAv.mono (fun u a hv => VecAt.mono (ArrAt.mono k) hle75 hv)
    have hgl := hgl.trans hle75
    refine RW.nil ?_
    refine heldQ_normal ⟨_, hs⟩ ?_
    refine HW.takeS (fuel := 1) 7 rfl (fun _ _ hs => Y.not rfl) hs rfl (by kernel_rfl) (by kernel_rfl) (by kernel_rfl) ?_
    refine HW.takeS (fuel := 0) 8 rfl (fun _ _ hs => Y.assign rfl) hs rfl (by kernel_rfl) (by kernel_rfl) (by kernel_rfl) ?_
    refine HW.done (by kernel_rfl) ?_
    refine calmQ_normal ?_
    by_cases c2 : bsh k bi = s0
    rotate_left
    · rw [decide_eq_false c2]
      have hbe : badE s0 (L.map (bsh k)) = 23 := by rw [hbd, badE, if_neg (fun h => h c1), if_pos c2]
      rw [hs0, show mixL k a.shape s0 L most = (23, ⟨[], VecD.none⟩) from by unfold mixL; rw [hbe, if_pos (by decide)]]
      refine Zerun ?_
      refine RW.val (Y.build T rfl rfl rfl rfl rfl rfl rfl) rfl ?_
      refine Zerun ?_
      (refine RW.storeAll T hs 2 rfl rfl rfl rfl rfl rfl rfl rfl ?_; intro w90 hs)
      refine Zerun ?_
      exact retQ_ret [_, _] h75 ⟨resN T hs 2 rfl rfl rfl rfl rfl rfl, rfl, trivial⟩ hs.dropAll ⟨_, rfl, ⟨_, _, rfl, IntsAt.nil _, vecNone _⟩⟩
    rw [decide_eq_true c2]
    rw [badE, if_neg (fun h => h c1), if_neg (fun h => h c2)] at hbd
    have hz8 : (zs.take 8).length = 8 := by
      rw [List.length_take]
      have : 8 ≤ zs.length := by rw [hzl]; omega
      omega
    have hvl : vs.length = i * 8 := by rw [hAv.length]; simp [Nat.min_eq_left hi]
    have hput := putCells_mid (vecCells (bv k bi).kind wi ni si ii fi gi xi) vs (zs.take 8) (zs.drop 8) (by rw [hz8]; rfl)
    rw [List.take_append_drop, hvl] at hput
    have hzd : (zs.drop 8).length = (L.length - (i + 1)) * 8 := by rw [List.length_drop, hzl]; omega
    refine Zerun ?_
    refine RW.val (Y.idxRN T hs 1 rfl rfl rfl rfl rfl rfl ?_) rfl ?_
    · omega
    refine RW.stN T hs 1 rfl rfl rfl rfl rfl rfl (List.all_eq_true.mp hoi) rfl (by omega) ?_
    intro w18 hs
    dsimp only [List.set_cons_succ, List.set_cons_zero] at hs
    have hs := hs.sub (List.sublist_cons_self _ _)
    have hs : Sees w h h75 [⟨some ⟨b10, 0, none⟩, L.length, L.length, 37, 8, (vs ++ vecCells (bv k bi).kind wi ni si ii fi gi xi) ++ zs.drop 8⟩, ⟨some ⟨b2, 0, none⟩, 1, 1, 39, 9, .slice none 0 0 :: vecCells 0 (.slice none 0 0) 0 (.slice none 0 0) (.slice none 0 0) (.slice none 0 0) (.slice none 0 0) (.slice none 0 0)⟩, ⟨some ⟨b1, 0, none⟩, 1, 1, 39, 9, .slice ada a.shape.length cpa :: vecCells a.vec.kind wa na sa ia fa ga xa⟩] w18 := by rw [List.append_assoc, ← hput]; exact hs
    have hnx : AllN 8 (VecAt (ArrAt k) h75) (vs ++ vecCells (bv k bi).kind wi ni si ii fi gi xi) ((L.take (i + 1)).map (bv k)) := by
      rw [htk]
      exact hAv.append (AllN.one rfl (VecAt.mono (ArrAt.mono k) hle75 hvi'))
    refine Zerun ?_
    exact loopQ_round (i + 1, vs ++ vecCells (bv k bi).kind wi ni si ii fi gi xi, zs.drop 8, h75) ⟨rfl, rfl, rfl, rfl, rfl, rfl, rfl, rfl, trivial⟩ ⟨by dsimp only; omega, hgl, hzd, hnx, hbd, hs⟩ (by dsimp only; omega)
  obtain rfl : i = L.length := by omega
  rw [List.take_length] at hAv
  rw [List.drop_length] at hbd
  have hz0 : zs = [] := List.eq_nil_of_length_eq_zero (by rw [hzl]; omega)
  rw [hz0, List.append_nil] at hs
  have hbd : badE s0 (L.map (bsh k)) = 0 := hbd
  have hmx : mixL k a.shape s0 L most = if (product (a.shape ++ s0) most).2 ≠ 0 then ((product (a.shape ++ s0) most).2, ⟨[], VecD.none⟩)
      else match joinC (-1) (L.map (bv k)) with
      | none => (24, ⟨[], VecD.none⟩)
      | some c => (newE (a.shape ++ s0) (joinedV c (L.map (bv k))), if newE (a.shape ++ s0) (joinedV c (L.map (bv k))) = 0 then ⟨a.shape ++ s0, (joinedV c (L.map (bv k))).sq⟩ else ⟨[], VecD.none⟩) := by
    unfold mixL
    rw [if_neg (fun h => h hbd)]
  rw [hs0]
  rw [← hs0] at hI0 hx0
  refine Zerun ?_
  refine CW.regionO T hs ?_
  intro w20 hs
  refine HW.takeS (fuel := 8) 0 rfl (fun _ _ hs => Y.fieldAddr T rfl rfl rfl rfl rfl) hs rfl (by kernel_rfl) (by kernel_rfl) (by kernel_rfl) ?_
  refine HW.takeS (fuel := 7) 1 rfl (fun _ _ hs => Y.loadRow1 T hs 2 rfl rfl rfl rfl rfl) hs rfl (by kernel_rfl) (by kernel_rfl) (by kernel_rfl) ?_
  refine HW.takeS (fuel := 6) 2 rfl (fun _ _ hs => Y.move rfl) hs rfl (by kernel_rfl) (by kernel_rfl) (by kernel_rfl) ?_
  refine HW.takeS (fuel := 5) 3 rfl (fun _ _ hs => Y.idxSN (u := 0) T rfl rfl hS rfl rfl rfl (by omega)) hs rfl (by kernel_rfl) (by kernel_rfl) (by kernel_rfl) ?_
  refine HW.takeS (fuel := 4) 4 rfl (fun _ _ hs => Y.fieldE T rfl rfl rfl rfl rfl hS (by omega)) hs rfl (by kernel_rfl) (by kernel_rfl) (by kernel_rfl) ?_
  refine HW.one (fuel := 3) 5 rfl (by kernel_rfl) ?_
  refine RW.val (Y.ldQ T hs rfl hS rfl rfl (by omega) rfl hx0) rfl ?_
  refine RW.nil ?_
  refine heldQ_normal ⟨_, hs⟩ ?_
  refine HW.one (fuel := 2) 6 rfl (by kernel_rfl) ?_
  (refine RW.lit T hs (vs := [.slice ada a.shape.length cpa, .slice ad0 (bsh k b0).length cp0]) (cs := [.slice ada a.shape.length cpa, .slice ad0 (bsh k b0).length cp0]) rfl rfl rfl rfl (by simp [Value.cells]) rfl rfl rfl rfl rfl ?_; intro b90 w90 hs)
  obtain ⟨h90, hle90, hs, hS90⟩ := hs.freeze
  have hS := hS.mono hle90
  have hIa := hIa.mono hle90
  have hI0 := hI0.mono hle90
  have hAv := hAv.mono (fun u a hv => VecAt.mono (ArrAt.mono k) hle90 hv)
  have hgl := hgl.trans hle90
  refine RW.nil ?_
  refine heldQ_normal ⟨_, hs⟩ ?_
  refine HW.one (fuel := 1) 7 rfl (by kernel_rfl) ?_
  have hR91 : RowsAt 1 (IntsCell h90) h90 (.slice (some ⟨b90, 0, none⟩) 2 2) [a.shape, bsh k b0] := ⟨_, _, _, rfl, hS90, (AllN.one rfl ⟨_, rfl, hIa⟩ : AllN 1 (IntsCell h90) [.slice ada a.shape.length cpa] [a.shape]).append (AllN.one rfl ⟨_, rfl, hI0⟩)⟩
  (refine RW.call T hs rfl rfl rfl (concatInt_con _ [a.shape, bsh k b0] _ _ hR91 (by show a.shape.length + ((bsh k b0).length + 0) ≤ 1048576; omega) (by simp)) ?_; intro v h91 w91 hle91 hp91 hs)
  rw [show [a.shape, bsh k b0].flatten = a.shape ++ bsh k b0 from by simp] at hp91
  have hS := hS.mono hle91
  have hIa := hIa.mono hle91
  have hI0 := hI0.mono hle91
  have hAv := hAv.mono (fun u a hv => VecAt.mono (ArrAt.mono k) hle91 hv)
  have hgl := hgl.trans hle91
  refine RW.nil ?_
  refine heldQ_normal ⟨_, hs⟩ ?_
  refine HW.takeS (fuel := 0) 8 rfl (fun _ _ hs => Y.assign rfl) hs rfl (by kernel_rfl) (by kernel_rfl) (by kernel_rfl) ?_
  refine HW.done (by kernel_rfl) ?_
  refine calmQ_normal ?_
  rw [hs0] at hp91
  have hp91' := hp91
  obtain ⟨ad91, cp91, rfl, hS91⟩ := hp91
  refine Zerun ?_
  (refine RW.call T hs rfl rfl rfl (product_con _ (a.shape ++ s0) most _ _ hp91' (by rw [List.length_append, ← hs0]; omega)) ?_; intro v h95 w95 hle95 hp95 hs)
  subst hp95
  have hp91' := hp91'.mono hle95
  have hAv := hAv.mono (fun u a hv => VecAt.mono (ArrAt.mono k) hle95 hv)
  by_cases ep : (product (a.shape ++ s0) most).2 = 0
  rotate_left
  · obtain ⟨pe, hpe⟩ : ∃ pe, (product (a.shape ++ s0) most).2 = pe := ⟨_, rfl⟩
    rw [hpe] at ep hmx ⊢
    rw [show mixL k a.shape s0 L most = (pe, ⟨[], VecD.none⟩) from by rw [hmx, if_pos ep]]
    refine Zerun ?_
    refine RW.val (Y.build T rfl rfl rfl rfl rfl rfl rfl) rfl ?_
    refine Zerun ?_
    (refine RW.storeAll T hs 1 rfl rfl rfl rfl rfl rfl rfl rfl ?_; intro w90 hs)
    refine Zerun ?_
    exact retQ_ret [_, _] h95 ⟨resN T hs 1 rfl rfl rfl rfl rfl rfl, rfl, trivial⟩ hs.dropAll ⟨_, rfl, ⟨_, _, rfl, IntsAt.nil _, vecNone _⟩⟩
  rw [if_neg (fun h => h ep)] at hmx
  rw [ep]
  refine Zerun ?_
  obtain ⟨h100, hle100, hs, hS100⟩ := hs.freeze
  have hp91' := hp91'.mono hle100
  obtain ⟨V, hV⟩ : ∃ V, L.map (bv k) = V := ⟨_, rfl⟩
  have hVl : L.length = V.length := by rw [← hV, List.length_map]
  rw [hV] at hsum hAv hmx
  rw [hVl] at hS100
  have hR100 : RowsAt 8 (VecAt (ArrAt k) h100) h100 (.slice (some ⟨b10, 0, none⟩) V.length V.length) V := ⟨_, _, _, rfl, hS100, hAv.mono (fun u a hv => VecAt.mono (ArrAt.mono k) hle100 hv)⟩
  rw [← hVl] at hR100
  refine Zerun ?_
  (refine RW.call T hs rfl rfl rfl (flatJoin_con (ArrAt.mono k) (ArrAt.one k) _ V _ _ hR100 hsum) ?_; intro v h104 w104 hle104 hp104 hs)
  obtain ⟨cs104, ok, rfl, hno, hyes⟩ := hp104
  have hp91' := hp91'.mono hle104
  rcases hj : joinC (-1) V with _ | c
  · obtain ⟨rfl, hv104⟩ := hno hj
    rw [hj] at hmx
    obtain ⟨wv, nv, sm, il, fl, ch, bx, ⟨rfl, hoc⟩, -⟩ := hv104
    refine Zerun ?_
    (refine RW.allocN T hs rfl rfl rfl rfl ?_; intro b16 w16 hs)
    (refine RW.storeAll T hs 0 rfl rfl rfl rfl rfl rfl hoc rfl ?_; intro w23 hs)
    rw [show mixL k a.shape s0 L most = (24, ⟨[], VecD.none⟩) from hmx]
    refine Zerun ?_
    refine RW.val (Y.build T rfl rfl rfl rfl rfl rfl rfl) rfl ?_
    refine Zerun ?_
    (refine RW.storeAll T hs 1 rfl rfl rfl rfl rfl rfl rfl rfl ?_; intro w90 hs)
    refine Zerun ?_
    exact retQ_ret [_, _] h104 ⟨resN T hs 1 rfl rfl rfl rfl rfl rfl, rfl, trivial⟩ hs.dropAll ⟨_, rfl, ⟨_, _, rfl, IntsAt.nil _, vecNone _⟩⟩
  obtain ⟨rfl, hv104⟩ := hyes c hj
  rw [hj] at hmx
  change VecAt (ArrAt k) h104 cs104 (joinedV c V) at hv104
  have hmx : mixL k a.shape s0 L most = (newE (a.shape ++ s0) (joinedV c V), if newE (a.shape ++ s0) (joinedV c V) = 0 then ⟨a.shape ++ s0, (joinedV c V).sq⟩ else ⟨[], VecD.none⟩) := hmx
  rw [hmx]
  clear hmx
  obtain ⟨v, hve⟩ : ∃ v, joinedV c V = v := ⟨_, rfl⟩
  rw [hve] at hv104 ⊢
  have hv104' := hv104
  obtain ⟨wv, nv, sm, il, fl, ch, bx, ⟨rfl, hoc⟩, -⟩ := hv104
  refine Zerun ?_
  (refine RW.allocN T hs rfl rfl rfl rfl ?_; intro b16 w16 hs)
  (refine RW.storeAll T hs 0 rfl rfl rfl rfl rfl rfl hoc rfl ?_; intro w23 hs)
  refine Zerun ?_
  (refine RW.call T hs rfl rfl rfl (valueNew_con (ArrAt.mono k) _ (a.shape ++ s0) _ v _ _ hp91' hv104') ?_; intro v h112 w112 hle112 hp112 hs)
  obtain ⟨cs112, rfl, hl112, ho112, hy112, hn112⟩ := hp112
  obtain ⟨x0, x1, x2, x3, x4, x5, x6, x7, x8, rfl⟩ : ∃ a0 a1 a2 a3 a4 a5 a6 a7 a8, cs112 = [a0, a1, a2, a3, a4, a5, a6, a7, a8] := by
    match cs112, hl112 with
    | [a0, a1, a2, a3, a4, a5, a6, a7, a8], _ => exact ⟨_, _, _, _, _, _, _, _, _, rfl⟩
  refine Zerun ?_
  (refine RW.storeAll T hs 1 rfl rfl rfl rfl rfl rfl (List.all_eq_true.mpr ho112) rfl ?_; intro w24 hs)
  refine Zerun ?_
  refine retQ_ret [_, _] h112 ⟨resN T hs 1 rfl rfl rfl rfl rfl rfl, rfl, trivial⟩ hs.dropAll ⟨_, rfl, ?_⟩
  by_cases e : newE (a.shape ++ s0) v = 0
  · dsimp only
    rw [if_pos e]
    exact hy112 e
  · dsimp only
    rw [if_neg e, hn112 e]
    exact ⟨_, _, rfl, IntsAt.nil _, vecNone _⟩
end Go.Proofs.YtmojpbfkpggjhaaGreat

/-
  Contracts of the document's Mix: boxes' arrays put into one, errors told. No statement is proved here.
-/
namespace Go.Proofs.YtmojpbfkpggjhaaGreat
open Go Go.RowKit
set_option linter.unusedVariables false
set_option linter.unusedSimpArgs false
set_option maxHeartbeats 4000000
attribute [local irreducible] CW RW QW SW HW ConM retM heldQ calmQ elemP thenQ blockQ loopQ joinQ retQ Yields Con Sl zF magR unitF truncF fwF wholeF tidySpec elemQ rankF leastN tidyW
set_option maxHeartbeats 4000000

def psh (k : Nat) (b : PD (k + 1)) : List Int := PlainD.shape (α := PD k) b
def bxs {β : Type} (p : PlainD β) : List β := p.items.flatMap (·.box)
abbrev pl {k : Nat} (l : List (PD (k + 1))) : List (PlainD (PD k)) := l
def s0R (k : Nat) (B : List (PD (k + 1))) : List Int := match B with
  | [] => [0]
  | b :: _ => psh k b
def mixR (k : Nat) (p : PlainD (PD (k + 1))) (most : Int) : Int × PlainD (PD k) :=
  if badE (s0R k (bxs p)) ((bxs p).map (psh k)) ≠ 0 then (badE (s0R k (bxs p)) ((bxs p).map (psh k)), nilP)
  else if (product (p.shape ++ s0R k (bxs p)) most).2 ≠ 0 then ((product (p.shape ++ s0R k (bxs p)) most).2, nilP)
  else match joinP (-1) (pl (bxs p)) with
    | none => (24, nilP)
    | some c => (0, ⟨p.shape ++ s0R k (bxs p), (pl (bxs p)).flatMap (·.items), if 0 ≤ c then c else headF (pl (bxs p))⟩)
theorem bxs_len {β : Type} : ∀ (l : List (ItemD β)), (∀ x ∈ l, ∃ b, x.box = [b]) → ∀ i, i ≤ l.length → ((l.take i).flatMap (·.box)).length = i
  | _, _, 0, _ => by simp
  | [], _, i + 1, h => by simp at h
  | x :: l, hb, i + 1, h => by
    obtain ⟨b, e⟩ := hb x List.mem_cons_self
    rw [List.take_succ_cons, List.flatMap_cons, e, List.length_append, bxs_len l (fun y hy => hb y (List.mem_cons_of_mem _ hy)) i (by simpa using h)]
    simp
    omega
theorem bxs_drop {β : Type} : ∀ (l : List (ItemD β)), (∀ x ∈ l, ∃ b, x.box = [b]) → ∀ i, (l.flatMap (·.box)).drop i = (l.drop i).flatMap (·.box)
  | _, _, 0 => rfl
  | [], _, i + 1 => by simp
  | x :: l, hb, i + 1 => by
    obtain ⟨b, e⟩ := hb x List.mem_cons_self
    rw [List.flatMap_cons, e]
    exact bxs_drop l (fun y hy => hb y (List.mem_cons_of_mem _ hy)) i
theorem refMix0_con {γ : Type} {RC : GHeap → List Value → γ → Prop} (hRC : Mono RC) (cs : List Value) (p : PlainD γ) (most : Int) (w : World) (h : GHeap) (hp : PlainR RC h cs p) (hc2 : p.fill ≠ 2) : Con Tryz.prog 24 [.agg cs.toArray, .int .i64 most] w h (fun h' u => ∃ c2, u = .tuple #[.agg c2.toArray, .int .i64 0] ∧ PlainR RC h' c2 p) := by
  have hp' := hp
  obtain ⟨s, it, rfl, ⟨ad, cp, rfl, _⟩, ⟨ad2, cp2, xs, rfl, _, _⟩⟩ := hp
  refine Con.of_body Tryz.func24 rfl Tryz.ntmps24 rfl rfl ?_
  intro hs
  refine Zrun ?_
  (refine RW.boxN hs rfl rfl ?_; intro b1 w1 hs)
  (refine RW.allocN T hs rfl rfl rfl rfl ?_; intro b2 w2 hs)
  refine Zerun ?_
  (refine RW.storeAll T hs 0 rfl rfl rfl rfl rfl rfl rfl rfl ?_; intro w3 hs)
  refine Zerun ?_
  exact retQ_ret [_, _] h ⟨resN T hs 0 rfl rfl rfl rfl rfl rfl, rfl, trivial⟩ hs.dropAll ⟨_, rfl, hp'⟩
theorem refMix_con (k : Nat) (cs : List Value) (p : PlainD (PD (k + 1))) (most : Int) (w : World) (h : GHeap) (hp : PlainAt (k + 2) h cs p) (hc2 : p.fill = 2) (hbx : ∀ x ∈ p.items, ∃ b, x.box = [b]) (h8 : p.shape.length ≤ 8) (hlen : p.items.length ≤ 1048576)
    (hb8 : ∀ b ∈ bxs p, (psh k b).length ≤ 8 ∧ 0 ≤ PlainD.fill (α := PD k) b) (hsum : ((pl (bxs p)).map (·.items.length)).sum ≤ 1048576) :
    Con Tryz.prog 24 [.agg cs.toArray, .int .i64 most] w h (fun h' u => ∃ c2, u = .tuple #[.agg c2.toArray, .int .i64 (mixR k p most).1] ∧ PlainR (PlainAt k) h' c2 (mixR k p most).2) := by
  obtain ⟨s, it, rfl, ⟨ad, cp, rfl, hS⟩, ⟨ad2, cp2, xs, rfl, hS2, hA⟩⟩ := hp
  obtain ⟨B, hB⟩ : ∃ B, bxs p = B := ⟨_, rfl⟩
  have hmx : mixR k p most = if badE (s0R k B) (B.map (psh k)) ≠ 0 then (badE (s0R k B) (B.map (psh k)), nilP)
      else if (product (p.shape ++ s0R k B) most).2 ≠ 0 then ((product (p.shape ++ s0R k B) most).2, nilP)
      else match joinP (-1) (pl B) with
        | none => (24, nilP)
        | some c => (0, ⟨p.shape ++ s0R k B, (pl B).flatMap (·.items), if 0 ≤ c then c else headF (pl B)⟩) := by unfold mixR; rw [hB]
  rw [hB] at hb8 hsum
  obtain ⟨s0, hs0⟩ : ∃ s0, s0R k B = s0 := ⟨_, rfl⟩
  rw [hs0] at hmx
  have hBl : B.length = p.items.length := by
    have := bxs_len p.items hbx p.items.length (Nat.le_refl _)
    rw [List.take_length] at this
    rw [← hB]
    exact this
  have hBd : ∀ i, B.drop i = (p.items.drop i).flatMap (·.box) := fun i => by rw [← hB]; exact bxs_drop _ hbx i
  refine Con.of_body Tryz.func24 rfl Tryz.ntmps24 rfl rfl ?_
  intro hs
  refine Zrun ?_
  (refine RW.boxN hs rfl rfl ?_; intro b1 w1 hs)
  (refine RW.allocN T hs rfl rfl rfl rfl ?_; intro b2 w2 hs)
  refine Zerun ?_
  (refine RW.lit T hs (vs := [.int .i64 0]) (cs := [.int .i64 0]) rfl rfl rfl rfl (by simp [Value.cells]) rfl rfl rfl rfl rfl ?_; intro b19 w19 hs)
  obtain ⟨h19, hle19, hs, hS19⟩ := hs.freeze
  have hI19 : IntsAt h19 (.slice (some ⟨b19, 0, none⟩) 1 1) [0] := IntsAt.of_sl hS19
  refine Zerun ?_
  have hs := hs.nilRow 25 3
  refine CW.loop (fun u : Nat × (Option Addr × Nat × Nat) × (Option Addr × Nat × Nat) × List Value × GHeap => [(1, .int .i64 most), (2, .pointer (some ⟨b1, 0, none⟩)), (4, .pointer (some ⟨b2, 0, none⟩)), (6, .slice u.2.1.1 u.2.1.2.1 u.2.1.2.2), (7, .slice u.2.2.1.1 u.2.2.1.2.1 u.2.2.1.2.2), (8, .int .i64 u.1)]) (fun u w' => u.1 ≤ p.items.length ∧ GLe h u.2.2.2.2 ∧ u.2.2.1.2.1 = u.1 ∧ IntsAt u.2.2.2.2 (.slice u.2.1.1 u.2.1.2.1 u.2.1.2.2) (if u.1 = 0 then [0] else s0) ∧ AllN 3 (PlainAt (k + 1) u.2.2.2.2) u.2.2.2.1 (B.take u.1) ∧ badE s0 (B.map (psh k)) = badE s0 ((B.drop u.1).map (psh k)) ∧ Sees w h u.2.2.2.2 [⟨u.2.2.1.1, u.2.2.1.2.1, u.2.2.1.2.2, 25, 3, u.2.2.2.1⟩, ⟨some ⟨b2, 0, none⟩, 1, 1, 25, 3, [.slice none 0 0, .slice none 0 0, .int .i64 0]⟩, ⟨some ⟨b1, 0, none⟩, 1, 1, 25, 3, [.slice ad p.shape.length cp, .slice ad2 p.items.length cp2, .int .i64 p.fill]⟩] w') (fun u => p.items.length - u.1) (0, (some ⟨b19, 0, none⟩, 1, 1), (none, 0, 0), [], h19) ⟨rfl, rfl, rfl, rfl, rfl, rfl, trivial⟩ ⟨by omega, hle19, rfl, by dsimp only; rw [if_pos rfl]; exact hI19, rfl, rfl, hs⟩ ?_
  rintro ⟨i, ⟨ra, rn, rc⟩, ⟨la, ln, lc⟩, vs, hh⟩ w2 ⟨hi, hgl, hln, hI6, hAv, hbd, hs⟩
  dsimp only at hi hgl hln hI6 hAv hbd hs ⊢
  have hln := hln.symm
  subst hln
  have hS2 := hS2.mono hgl
  by_cases hlt : i < p.items.length
  · obtain ⟨bx, hx4, hx1, ⟨ad3, cp3, ys, rfl, hS3, hA3⟩, hx2, hq0, hq1, hq2, hq3⟩ := ItemAt.cells hA i hlt
    have hS3 := hS3.mono hgl
    have hx := hbx (p.items.getD i noItem) (mem_getD _ _ _ hlt)
    have hmem : p.items.getD i noItem = p.items[i] := by simp [List.getD_eq_getElem?_getD, hlt]
    have hd := hBd i
    rw [List.drop_eq_getElem_cons hlt, ← hmem, List.flatMap_cons, ← hBd (i + 1)] at hd
    clear hmem
    generalize p.items.getD i noItem = x at *
    obtain ⟨b, hbl⟩ := hx
    have hbl1 : x.box.length = 1 := by rw [hbl]; rfl
    rw [hbl] at hd hA3
    change B.drop i = b :: B.drop (i + 1) at hd
    have htk : B.take (i + 1) = B.take i ++ [b] := by
      have e : B.drop i = b :: B.drop (i + 1) := hd
      have e2 : B[i]? = some b := by
        have := congrArg List.head? e
        rw [List.head?_drop] at this
        exact this
      rw [List.take_add_one, e2]
      rfl
    have hbm : b ∈ B := List.mem_of_mem_drop (by rw [hd]; exact List.mem_cons_self)
    obtain ⟨hb8b, _⟩ := hb8 b hbm
    rw [hd, List.map_cons] at hbd
    obtain ⟨y, hy, hyl, hRb⟩ := hA3.first
    have hRb := PlainAt.mono (k + 1) _ _ _ _ hgl hRb
    have hRb' := hRb
    obtain ⟨s5, it5, rfl, ⟨ad5, cp5, rfl, hS5⟩, ⟨ad6, cp6, xs6, rfl, _, _⟩⟩ := hRb
    change Sl hh 1 ad5 (psh k b).length cp5 ((psh k b).map (Value.int .i64)) at hS5
    change (ys.drop (0 * 3)).take 3 = [.slice ad5 (psh k b).length cp5, .slice ad6 (PlainD.items (α := PD k) b).length cp6, .int .i64 (PlainD.fill (α := PD k) b)] at hy
    have hI5 : IntsAt hh (.slice ad5 (psh k b).length cp5) (psh k b) := ⟨_, _, rfl, hS5⟩
    have hRb' : PlainAt (k + 1) hh [.slice ad5 (psh k b).length cp5, .slice ad6 (PlainD.items (α := PD k) b).length cp6, .int .i64 (PlainD.fill (α := PD k) b)] b := hRb'
    refine Zerun ?_
    (refine RW.allocN T hs rfl rfl rfl rfl ?_; intro b9 w9 hs)
    (refine RW.storeAll T hs 0 rfl rfl rfl rfl rfl rfl (by simp [Value.oneCell']) rfl ?_; intro w10 hs)
    refine Zerun ?_
    by_cases hi0 : i = 0
    · subst hi0
      have hsb : s0 = psh k b := by
        rw [← hs0]
        rw [List.drop_zero] at hd
        rw [hd]
        rfl
      have hi0' : ((0 : Nat) : Int) = 0 := rfl
      refine Zerun ?_
      (refine RW.call T hs rfl rfl rfl (refInts_con _ _ (psh k b) (psh k b) _ _ hI5 hI5 (by omega)) ?_; intro v h49 w49 hle49 hp49 hs)
      subst hp49
      rw [decide_eq_true rfl]
      rw [badE, if_neg (fun h => h (by rw [hsb])), if_neg (fun h => h hsb.symm)] at hbd
      have hI5 : IntsAt hh (.slice ad5 (psh k b).length cp5) s0 := hsb.symm ▸ hI5
      have hnx : AllN 3 (PlainAt (k + 1) h49) (vs ++ [.slice ad5 (psh k b).length cp5, .slice ad6 (PlainD.items (α := PD k) b).length cp6, .int .i64 (PlainD.fill (α := PD k) b)]) (B.take (0 + 1)) := by
        rw [htk]
        exact (hAv.mono (fun u a hv => PlainAt.mono (k + 1) _ _ u a hle49 hv)).append (AllN.one rfl (PlainAt.mono (k + 1) _ _ _ _ hle49 hRb'))
      refine Zerun ?_
      (refine RW.lit T hs (vs := [.agg ([.slice ad5 (psh k b).length cp5, .slice ad6 (PlainD.items (α := PD k) b).length cp6, .int .i64 (PlainD.fill (α := PD k) b)] : List Value).toArray]) (cs := [.slice ad5 (psh k b).length cp5, .slice ad6 (PlainD.items (α := PD k) b).length cp6, .int .i64 (PlainD.fill (α := PD k) b)]) rfl rfl rfl rfl (by simp [Value.cells]) rfl (by simp [Value.cells]) rfl rfl rfl ?_; intro b54 w54 hs)
      (refine RW.append T hs 2 rfl rfl (m := 1) (news := [.slice ad5 (psh k b).length cp5, .slice ad6 (PlainD.items (α := PD k) b).length cp6, .int .i64 (PlainD.fill (α := PD k) b)]) rfl rfl rfl rfl rfl rfl (hs.src0 rfl (by simp [Value.oneCell'])) (by simp) (by dsimp only; omega) (by omega) ?_; intro ad55 cp55 w55 hs; replace hs := hs.drop)
      dsimp only [List.set_cons_succ, List.set_cons_zero] at hs
      have hs := hs.sub (List.sublist_cons_self _ _)
      refine Zerun ?_
      exact loopQ_round (0 + 1, (ad5, (psh k b).length, cp5), (ad55, 0 + 1, cp55), vs ++ [.slice ad5 (psh k b).length cp5, .slice ad6 (PlainD.items (α := PD k) b).length cp6, .int .i64 (PlainD.fill (α := PD k) b)], h49) ⟨rfl, rfl, rfl, rfl, rfl, rfl, trivial⟩ ⟨by dsimp only; omega, hgl.trans hle49, rfl, by dsimp only; rw [if_neg (by omega)]; exact hI5.mono hle49, hnx, hbd, hs⟩ (by dsimp only; omega)
    have hi0' : ¬ (i : Int) = 0 := by omega
    rw [if_neg hi0] at hI6
    have hI6' := hI6
    obtain ⟨_, _, e6, hS6⟩ := hI6
    obtain ⟨rfl, rfl, rfl⟩ := Value.slice.inj e6
    refine Zerun ?_
    by_cases c1 : (psh k b).length = s0.length
    rotate_left
    · have c1' : ¬ ((psh k b).length : Int) = (s0.length : Int) := by omega
      have hbe : badE s0 (B.map (psh k)) = 22 := by rw [hbd, badE, if_pos c1]
      rw [show mixR k p most = (22, nilP) from by rw [hmx, hbe, if_pos (by decide)]]
      refine Zerun ?_
      refine RW.val (Y.build T rfl rfl rfl rfl rfl rfl rfl) rfl ?_
      refine Zerun ?_
      (refine RW.storeAll T hs 2 rfl rfl rfl rfl rfl rfl rfl rfl ?_; intro w90 hs)
      refine Zerun ?_
      exact retQ_ret [_, _] hh ⟨resN T hs 2 rfl rfl rfl rfl rfl rfl, rfl, trivial⟩ hs.dropAll ⟨_, rfl, ⟨_, _, rfl, IntsAt.nil _, RowsAt.nil _⟩⟩
    have c1' : ((psh k b).length : Int) = (s0.length : Int) := by omega
    have hI6 := hI6'
    refine Zerun ?_
    (refine RW.call T hs rfl rfl rfl (refInts_con _ _ (psh k b) s0 _ _ hI5 hI6' (by omega)) ?_; intro v h49 w49 hle49 hp49 hs)
    subst hp49
    by_cases c2 : psh k b = s0
    rotate_left
    · rw [decide_eq_false c2]
      have hbe : badE s0 (B.map (psh k)) = 23 := by rw [hbd, badE, if_neg (fun h => h c1), if_pos c2]
      rw [show mixR k p most = (23, nilP) from by rw [hmx, hbe, if_pos (by decide)]]
      refine Zerun ?_
      refine RW.val (Y.build T rfl rfl rfl rfl rfl rfl rfl) rfl ?_
      refine Zerun ?_
      (refine RW.storeAll T hs 2 rfl rfl rfl rfl rfl rfl rfl rfl ?_; intro w90 hs)
      refine Zerun ?_
      exact retQ_ret [_, _] h49 ⟨resN T hs 2 rfl rfl rfl rfl rfl rfl, rfl, trivial⟩ hs.dropAll ⟨_, rfl, ⟨_, _, rfl, IntsAt.nil _, RowsAt.nil _⟩⟩
    rw [decide_eq_true c2]
    rw [badE, if_neg (fun h => h c1), if_neg (fun h => h c2)] at hbd
    have hnx : AllN 3 (PlainAt (k + 1) h49) (vs ++ [.slice ad5 (psh k b).length cp5, .slice ad6 (PlainD.items (α := PD k) b).length cp6, .int .i64 (PlainD.fill (α := PD k) b)]) (B.take (i + 1)) := by
      rw [htk]
      exact (hAv.mono (fun u a hv => PlainAt.mono (k + 1) _ _ u a hle49 hv)).append (AllN.one rfl (PlainAt.mono (k + 1) _ _ _ _ hle49 hRb'))
    refine Zerun ?_
    (refine RW.lit T hs (vs := [.agg ([.slice ad5 (psh k b).length cp5, .slice ad6 (PlainD.items (α := PD k) b).length cp6, .int .i64 (PlainD.fill (α := PD k) b)] : List Value).toArray]) (cs := [.slice ad5 (psh k b).length cp5, .slice ad6 (PlainD.items (α := PD k) b).length cp6, .int .i64 (PlainD.fill (α := PD k) b)]) rfl rfl rfl rfl (by simp [Value.cells]) rfl (by simp [Value.cells]) rfl rfl rfl ?_; intro b54 w54 hs)
    (refine RW.append T hs 2 rfl rfl (m := 1) (news := [.slice ad5 (psh k b).length cp5, .slice ad6 (PlainD.items (α := PD k) b).length cp6, .int .i64 (PlainD.fill (α := PD k) b)]) rfl rfl rfl rfl rfl rfl (hs.src0 rfl (by simp [Value.oneCell'])) (by simp) (by dsimp only; omega) (by omega) ?_; intro ad55 cp55 w55 hs; replace hs := hs.drop)
    dsimp only [List.set_cons_succ, List.set_cons_zero] at hs
    have hs := hs.sub (List.sublist_cons_self _ _)
    refine Zerun ?_
    exact loopQ_round (i + 1, (ra, s0.length, rc), (ad55, i + 1, cp55), vs ++ [.slice ad5 (psh k b).length cp5, .slice ad6 (PlainD.items (α := PD k) b).length cp6, .int .i64 (PlainD.fill (α := PD k) b)], h49) ⟨rfl, rfl, rfl, rfl, rfl, rfl, trivial⟩ ⟨by dsimp only; omega, hgl.trans hle49, rfl, by dsimp only; rw [if_neg (by omega)]; exact hI6.mono hle49, hnx, hbd, hs⟩ (by dsimp only; omega)
  obtain rfl : i = p.items.length := by omega
  rw [show B.take p.items.length = B from List.take_of_length_le (by omega)] at hAv
  rw [show B.drop p.items.length = [] from List.drop_of_length_le (by omega)] at hbd
  have hbd : badE s0 (B.map (psh k)) = 0 := hbd
  have hI6 : IntsAt hh (.slice ra rn rc) s0 := by
    by_cases c : p.items.length = 0
    · rw [if_pos c] at hI6
      have e : B = [] := List.eq_nil_of_length_eq_zero (by omega)
      rw [← hs0, e]
      exact hI6
    · rw [if_neg c] at hI6
      exact hI6
  have hs8 : s0.length ≤ 8 := by
    rw [← hs0]
    cases B with
    | nil => show 1 ≤ 8; omega
    | cons b l => exact (hb8 b List.mem_cons_self).1
  rw [if_neg (fun h => h hbd)] at hmx
  have hI6' := hI6
  obtain ⟨_, _, e6, hS6⟩ := hI6
  obtain ⟨rfl, rfl, rfl⟩ := Value.slice.inj e6
  have hS := hS.mono hgl
  refine Zerun ?_
  (refine RW.lit T hs (vs := []) (cs := []) rfl rfl rfl rfl (by simp [Value.cells]) rfl rfl rfl rfl rfl ?_; intro b56 w56 hs)
  refine Zerun ?_
  refine RW.append T hs 0 rfl rfl (m := p.shape.length) (news := p.shape.map (Value.int .i64)) rfl rfl rfl rfl rfl rfl (hS.src hs.agree (one_intsM _)) (fun e => by subst e; exact hS.nil0.2) (by dsimp only; omega) (by omega) ?_
  intro ad59 cp59 w59 hs
  refine Zerun ?_
  refine RW.append T hs 0 rfl rfl (m := s0.length) (news := s0.map (Value.int .i64)) rfl rfl rfl rfl rfl rfl (hS6.src hs.agree (one_intsM _)) (fun e => by subst e; exact hS6.nil0.2) (by dsimp only; omega) (by omega) ?_
  intro ad61 cp61 w61 hs
  obtain ⟨h62, hle62, hs, hS62⟩ := hs.freeze
  have hI62 : IntsAt h62 (.slice ad61 (0 + p.shape.length + s0.length) cp61) (p.shape ++ s0) := by
    have e : 0 + p.shape.length + s0.length = (p.shape ++ s0).length := by rw [List.length_append]; omega
    dsimp only at hS62
    rw [e] at hS62 ⊢
    refine IntsAt.of_sl ?_
    simpa using hS62
  refine Zerun ?_
  (refine RW.call T hs rfl rfl rfl (refProduct_con _ (p.shape ++ s0) most _ _ hI62 (by rw [List.length_append]; omega)) ?_; intro v h65 w65 hle65 hp65 hs)
  subst hp65
  have hI62 := hI62.mono hle65
  by_cases ep : (product (p.shape ++ s0) most).2 = 0
  rotate_left
  · obtain ⟨pe, hpe⟩ : ∃ pe, (product (p.shape ++ s0) most).2 = pe := ⟨_, rfl⟩
    rw [hpe] at ep hmx ⊢
    rw [show mixR k p most = (pe, nilP) from by rw [hmx, if_pos ep]]
    refine Zerun ?_
    refine RW.val (Y.build T rfl rfl rfl rfl rfl rfl rfl) rfl ?_
    refine Zerun ?_
    (refine RW.storeAll T hs 1 rfl rfl rfl rfl rfl rfl rfl rfl ?_; intro w90 hs)
    refine Zerun ?_
    exact retQ_ret [_, _] h65 ⟨resN T hs 1 rfl rfl rfl rfl rfl rfl, rfl, trivial⟩ hs.dropAll ⟨_, rfl, ⟨_, _, rfl, IntsAt.nil _, RowsAt.nil _⟩⟩
  rw [if_neg (fun h => h ep)] at hmx
  rw [ep]
  refine Zerun ?_
  obtain ⟨h70, hle70, hs, hS70⟩ := hs.freeze
  have hI62 := hI62.mono hle70
  have hAB := hAv.mono (fun u a hv => PlainAt.mono (k + 1) _ _ u a ((hle62.trans hle65).trans hle70) hv)
  have hR70 : RowsAt 3 (PlainR (PlainAt k) h70) h70 (.slice la p.items.length lc) (pl B) := by
    rw [← hBl] at hS70 ⊢
    exact ⟨_, _, _, rfl, hS70, hAB⟩
  refine Zerun ?_
  (refine RW.call T hs rfl rfl rfl (refJoin08_con (PlainAt.mono k) _ (pl B) _ _ hR70 hsum (fun q hq => (hb8 q hq).2)) ?_; intro v h74 w74 hle74 hp74 hs)
  obtain ⟨s74, cl, rfl, hn74, hp74⟩ := hp74
  have hI62 := hI62.mono hle74
  cases hj : joinP (-1) (pl B) with
  | none =>
    obtain rfl := hn74 hj
    rw [hj] at hmx
    rw [show mixR k p most = (24, nilP) from hmx]
    refine Zerun ?_
    refine RW.val (Y.build T rfl rfl rfl rfl rfl rfl rfl) rfl ?_
    refine Zerun ?_
    (refine RW.storeAll T hs 0 rfl rfl rfl rfl rfl rfl rfl rfl ?_; intro w90 hs)
    refine Zerun ?_
    exact retQ_ret [_, _] h74 ⟨resN T hs 0 rfl rfl rfl rfl rfl rfl, rfl, trivial⟩ hs.dropAll ⟨_, rfl, ⟨_, _, rfl, IntsAt.nil _, RowsAt.nil _⟩⟩
  | some c =>
  obtain ⟨hcl, hR74⟩ := hp74 c hj
  have hc0 : 0 ≤ cl := by
    rw [hcl]
    have := headF_nn (L := (pl B)) fun q hq => (hb8 q hq).2
    split <;> omega
  rw [hj] at hmx
  have hmx : mixR k p most = (0, ⟨p.shape ++ s0, (pl B).flatMap (·.items), if 0 ≤ c then c else headF (pl B)⟩) := hmx
  rw [hmx, ← hcl]
  obtain ⟨M, hM⟩ : ∃ M, (pl B).flatMap (·.items) = M := ⟨_, rfl⟩
  rw [hM] at hR74 ⊢
  have hR74' := hR74
  obtain ⟨ad7, cp7, xs7, rfl, _⟩ := hR74
  refine Zerun ?_
  refine RW.val (Y.build T rfl rfl rfl rfl rfl rfl rfl) rfl ?_
  refine Zerun ?_
  (refine RW.storeAll T hs 0 rfl rfl rfl rfl rfl rfl rfl rfl ?_; intro w91 hs)
  refine Zerun ?_
  exact retQ_ret [_, _] h74 ⟨resN T hs 0 rfl rfl rfl rfl rfl rfl, rfl, trivial⟩ hs.dropAll ⟨_, rfl, ⟨_, _, rfl, hI62, hR74'⟩⟩
end Go.Proofs.YtmojpbfkpggjhaaGreat

/-
  Plain laws of boxes' arrays put into one: the code's array and the document's tell the same, or the same error. No statement is proved here.
-/
namespace Go.Proofs.YtmojpbfkpggjhaaGreat
open Go Go.RowKit
set_option linter.unusedVariables false
set_option linter.unusedSimpArgs false
set_option maxHeartbeats 4000000
attribute [local irreducible] CW RW QW SW HW ConM retM heldQ calmQ elemP thenQ blockQ loopQ joinQ retQ Yields Con Sl zF magR unitF truncF fwF wholeF tidySpec elemQ rankF leastN tidyW
set_option maxHeartbeats 4000000

theorem badE_rng (s : List Int) : ∀ l, badE s l = 0 ∨ badE s l = 22 ∨ badE s l = 23
  | [] => .inl rfl
  | t :: l => by
    unfold badE
    split
    · exact .inr (.inl rfl)
    · split
      · exact .inr (.inr rfl)
      · exact badE_rng s l
theorem badE_zero (s : List Int) : ∀ l, badE s l = 0 → ∀ t ∈ l, t = s
  | [], _, t, ht => nomatch ht
  | u :: l, h, t, ht => by
    unfold badE at h
    split at h
    · cases h
    · split at h
      · cases h
      · rename_i c
        rcases List.mem_cons.1 ht with e | e
        · rw [e]; exact Decidable.of_not_not c
        · exact badE_zero s l h t e
theorem prod_errA {s : List Int} (h0 : ∀ d ∈ s, 0 ≤ d) (most : Int) : (product s most).2 = 0 ∨ (product s most).2 = 26 := by
  by_cases h8 : s.length ≤ 8
  · exact prod_err h8 h0 most
  · right
    unfold product
    rw [if_pos (by omega)]
theorem sum_const_of {α : Type} (f : α → Nat) (m : Nat) : ∀ (l : List α), (∀ x ∈ l, f x = m) → (l.map f).sum = l.length * m
  | [], _ => by simp
  | x :: l, h => by
    rw [List.map_cons, List.sum_cons, h x List.mem_cons_self, sum_const_of f m l (fun y hy => h y (List.mem_cons_of_mem _ hy)), List.length_cons, Nat.add_mul, Nat.one_mul, Nat.add_comm]
/-- a box, as both tell it -/
def zp (k : Nat) (b : PD (k + 2)) : VecD (AD (k + 1)) × PlainD (PD (k + 1)) := (bv (k + 1) (arr (k + 2) b), tidy (k + 2) b)
/-- what both tell of boxes' arrays put into one -/
theorem mix_res (k : Nat) (a : ArrD (AD (k + 2))) (t : PlainD (PD (k + 2))) (Q : List (PD (k + 2))) (hsh : t.shape = a.shape) (hb : a.vec.boxes = Q.map (arr (k + 2))) (ht : bxs t = Q.map (tidy (k + 2))) (hQ : ∀ b ∈ Q, chk (k + 2) 39 b = 0 ∧ tdy (k + 2) (tidy (k + 2) b)) (hpr : product a.shape 1048576 = ((Q.length : Int), 0)) (hsum : ((a.vec.boxes.map (bv (k + 1))).map VecD.len).sum ≤ 1048576) (most : Int) (hm : most ≤ 1048576) :
    (mixS (k + 1) a most).1 = (mixR (k + 1) t most).1 ∧ ResX (k + 1) (mixS (k + 1) a most).1 (mixS (k + 1) a most).2 (mixR (k + 1) t most).2 := by
  obtain ⟨Z, hZd⟩ : ∃ Z : List (VecD (AD (k + 1)) × PlainD (PD (k + 1))), Z = Q.map (zp k) := ⟨_, rfl⟩
  have hT := fun b (hb : b ∈ Q) => tells_at k 39 b (by omega) (by omega) (hQ b hb).1 (hQ b hb).2
  have hZ : ∀ z ∈ Z, Tells k z.1 z.2.items z.2.fill := by
    intro z hz
    rw [hZd] at hz
    obtain ⟨b, hb, rfl⟩ := List.mem_map.1 hz
    exact (hT b hb).1
  have hZ1 : Z.map Prod.fst = (Q.map (arr (k + 2))).map (bv (k + 1)) := by rw [hZd, List.map_map, List.map_map]; rfl
  have hZ2 : Z.map Prod.snd = pl (Q.map (tidy (k + 2))) := by rw [hZd, List.map_map]; rfl
  have hshE : (Q.map (tidy (k + 2))).map (psh (k + 1)) = (Q.map (arr (k + 2))).map (bsh (k + 1)) := by rw [List.map_map, List.map_map]; rfl
  rw [hb] at hsum
  rw [← hZ1] at hsum
  have hj := joins_eq Z hZ
  have hgs : goodS a.shape = true := (goodS_iff _).2 (by rw [hpr])
  have hnn := ((goodS_spec _).1 hgs).2.1
  unfold mixR
  rw [ht, hshE, hsh]
  cases Q with
  | nil =>
    unfold mixS
    rw [hb]
    show (if (product (a.shape ++ [0]) most).2 ≠ 0 then ((product (a.shape ++ [0]) most).2, ⟨[], VecD.none⟩) else ((0 : Int), (⟨a.shape ++ [0], noneV 0⟩ : ArrD (AD (k + 1))))).1 = (if (0 : Int) ≠ 0 then ((0 : Int), nilP) else if (product (a.shape ++ [0]) most).2 ≠ 0 then ((product (a.shape ++ [0]) most).2, nilP) else ((0 : Int), (⟨a.shape ++ [0], [], 0⟩ : PlainD (PD (k + 1))))).1 ∧
      ResX (k + 1) (if (product (a.shape ++ [0]) most).2 ≠ 0 then ((product (a.shape ++ [0]) most).2, ⟨[], VecD.none⟩) else ((0 : Int), (⟨a.shape ++ [0], noneV 0⟩ : ArrD (AD (k + 1))))).1 (if (product (a.shape ++ [0]) most).2 ≠ 0 then ((product (a.shape ++ [0]) most).2, ⟨[], VecD.none⟩) else ((0 : Int), (⟨a.shape ++ [0], noneV 0⟩ : ArrD (AD (k + 1))))).2 (if (0 : Int) ≠ 0 then ((0 : Int), nilP) else if (product (a.shape ++ [0]) most).2 ≠ 0 then ((product (a.shape ++ [0]) most).2, nilP) else ((0 : Int), (⟨a.shape ++ [0], [], 0⟩ : PlainD (PD (k + 1))))).2
    rw [if_neg (show ¬ ((0 : Int) ≠ 0) from fun h => h rfl)]
    have hpe := prod_errA (s := a.shape ++ [0]) (fun d hd => by
      rcases List.mem_append.1 hd with h | h
      · exact hnn d h
      · rw [List.mem_singleton.1 h]; exact Int.le_refl _) most
    by_cases ep : (product (a.shape ++ [0]) most).2 = 0
    · have n1 : ¬ (product (a.shape ++ [0]) most).2 ≠ 0 := fun h => h ep
      rw [if_neg n1, if_neg n1]
      refine ⟨rfl, ?_⟩
      have hTn : Tells k (noneV 0 : VecD (AD (k + 1))) [] 0 := tells_joinL (k := k) [] (fun z hz => nomatch hz) (c := -1) rfl (by simp)
      obtain ⟨_, hp2, _, _, hn⟩ := product_fits (a.shape ++ [0]) most (product (a.shape ++ [0]) most).1 (Prod.ext rfl ep)
      rw [if_pos (List.mem_append_right _ List.mem_cons_self)] at hn
      exact hTn.shape (a.shape ++ [0]) (by rw [hp2, hn]; rfl)
    · rw [if_pos ep, if_pos ep]
      have e26 := hpe.resolve_left ep
      rw [e26]
      exact ⟨rfl, .inr ⟨.inr (.inr (.inr rfl)), rfl⟩⟩
  | cons b0 l =>
    have hS : mixS (k + 1) a most = mixL (k + 1) a.shape (bsh (k + 1) (arr (k + 2) b0)) ((b0 :: l).map (arr (k + 2))) most := by
      unfold mixS
      rw [hb]
      rfl
    rw [hS]
    unfold mixL
    have hs0 : s0R (k + 1) ((b0 :: l).map (tidy (k + 2))) = bsh (k + 1) (arr (k + 2) b0) := rfl
    rw [hs0, ← hZ1, ← hZ2]
    obtain ⟨s0, hs0e⟩ : ∃ s0, bsh (k + 1) (arr (k + 2) b0) = s0 := ⟨_, rfl⟩
    rw [hs0e]
    by_cases cb : badE s0 (((b0 :: l).map (arr (k + 2))).map (bsh (k + 1))) = 0
    rotate_left
    · rw [if_pos cb, if_pos cb]
      refine ⟨rfl, .inr ⟨?_, rfl⟩⟩
      rcases badE_rng s0 (((b0 :: l).map (arr (k + 2))).map (bsh (k + 1))) with e | e | e
      · exact absurd e cb
      · exact .inl e
      · exact .inr (.inl e)
    have n1 : ¬ badE s0 (((b0 :: l).map (arr (k + 2))).map (bsh (k + 1))) ≠ 0 := fun h => h cb
    rw [if_neg n1, if_neg n1]
    have hall : ∀ b ∈ b0 :: l, PlainD.shape (α := PD (k + 1)) b = s0 := fun b hb => badE_zero s0 _ cb _ (List.mem_map.2 ⟨arr (k + 2) b, List.mem_map.2 ⟨b, hb, rfl⟩, rfl⟩)
    have hp0 := (hT b0 List.mem_cons_self).2
    rw [hall b0 List.mem_cons_self] at hp0
    have hg0 : goodS s0 = true := (goodS_iff _).2 (by rw [hp0])
    have hpe := prod_errA (s := a.shape ++ s0) (fun d hd => by
      rcases List.mem_append.1 hd with h | h
      · exact hnn d h
      · exact ((goodS_spec _).1 hg0).2.1 d h) most
    by_cases ep : (product (a.shape ++ s0) most).2 = 0
    rotate_left
    · rw [if_pos ep, if_pos ep]
      have e26 := hpe.resolve_left ep
      rw [e26]
      exact ⟨rfl, .inr ⟨.inr (.inr (.inr rfl)), rfl⟩⟩
    have n2 : ¬ (product (a.shape ++ s0) most).2 ≠ 0 := fun h => h ep
    rw [if_neg n2, if_neg n2, hj]
    cases hjc : joinP (-1) (Z.map Prod.snd) with
    | none => exact ⟨rfl, .inr ⟨.inr (.inr (.inl rfl)), rfl⟩⟩
    | some c =>
      have HJ := tells_joinL Z hZ (hj.trans hjc) hsum
      obtain ⟨_, hp2, _, _, hn⟩ := product_fits (a.shape ++ s0) most (product (a.shape ++ s0) most).1 (Prod.ext rfl ep)
      generalize (product (a.shape ++ s0) most).1 = n at hp2 hn
      have hlen : ((joinedV c (Z.map Prod.fst)).len : Int) = n := by
        have hl1 : ((Z.map Prod.snd).flatMap (·.items)).length = (Z.map (fun z => z.2.items.length)).sum := by
          rw [List.length_flatMap, List.map_map]
          rfl
        obtain ⟨m, hmm⟩ : ∃ m, (bv (k + 1) (arr (k + 2) b0)).len = m := ⟨_, rfl⟩
        have hp0 : product s0 1048576 = ((m : Int), 0) := by rw [hp0, ← hmm]; rfl
        have hzm : ∀ z ∈ Z, z.2.items.length = m := by
          intro z hz
          rw [(hZ z hz).ln]
          rw [hZd] at hz
          obtain ⟨b, hb, rfl⟩ := List.mem_map.1 hz
          have e := (hT b hb).2
          rw [hall b hb, hp0] at e
          have e := congrArg Prod.fst e
          dsimp only at e
          have e2 : (zp k b).1.len = (ArrD.vec (α := AD (k + 1)) (arr (k + 2) b)).len := rfl
          omega
        rw [sum_const_of _ m Z hzm] at hl1
        have hzl : Z.length = (b0 :: l).length := by rw [hZd, List.length_map]
        have hln := HJ.ln
        have ha := product_good _ hgs
        rw [hpr] at ha
        have ha := congrArg Prod.fst ha
        have hq := product_good _ hg0
        rw [hp0] at hq
        have hq := congrArg Prod.fst hq
        dsimp only at ha hq
        rw [← hln, hl1, hzl, Int.natCast_mul, ha, hq, hn, pr_append]
        by_cases c1 : 0 ∈ a.shape
        · rw [if_pos c1, if_pos (List.mem_append_left _ c1), Int.zero_mul]
        · by_cases c2 : 0 ∈ s0
          · rw [if_pos c2, if_pos (List.mem_append_right _ c2), Int.mul_zero]
          · rw [if_neg c1, if_neg c2, if_neg (fun h => by rcases List.mem_append.1 h with h | h; exact c1 h; exact c2 h)]
      have hne : newE (a.shape ++ s0) (joinedV c (Z.map Prod.fst)) = 0 := by
        unfold newE
        rw [hp2, if_neg (fun h => h rfl), if_neg HJ.sh.k0, if_neg (fun h => h (by dsimp only; omega))]
      dsimp only
      rw [hne, if_pos rfl, joinedV_sq]
      exact ⟨rfl, HJ.shape (a.shape ++ s0) (by rw [hp2, hlen])⟩
end Go.Proofs.YtmojpbfkpggjhaaGreat

/-
  Contracts of what the law of Mix and Enlist calls: Mix with the level of what it answers, Depth, errors shown. No statement is proved here.
-/
namespace Go.Proofs.YtmojpbfkpggjhaaGreat
open Go Go.RowKit
set_option linter.unusedVariables false
set_option linter.unusedSimpArgs false
set_option maxHeartbeats 4000000
attribute [local irreducible] CW RW QW SW HW ConM retM heldQ calmQ elemP thenQ blockQ loopQ joinQ retQ Yields Con Sl zF magR unitF truncF fwF wholeF tidySpec elemQ rankF leastN tidyW
set_option maxHeartbeats 4000000

theorem shows28E_con {α β : Type} {R : GHeap → List Value → α → Prop} {Rq : GHeap → List Value → β → Prop} (cs cp : List Value) (p : PlainD β) (e : Int) (w : World) (h : GHeap) (he : e = 22 ∨ e = 23 ∨ e = 24 ∨ e = 26) (ha : ArrR R h cs ⟨[], VecD.none⟩) (hp : PlainR Rq h cp p) : Con Tryz.prog 27 [.agg cs.toArray, .int .i64 e, .agg cp.toArray, .int .i64 e] w h (fun _ u => u = .bool true) := by
  obtain ⟨_, vc, rfl, ⟨ad, cap, rfl, _⟩, hv⟩ := ha
  have hv' := hv
  obtain ⟨wv, nv, sm, il, fl, ch, bx, ⟨rfl, hoc⟩, _⟩ := hv
  obtain ⟨s2, it2, rfl, ⟨ad2, cp2, rfl, _⟩, ⟨ad3, cp3, xs3, rfl, _, _⟩⟩ := hp
  rcases he with rfl | rfl | rfl | rfl
  all_goals
    refine Con.of_body Tryz.func27 rfl Tryz.ntmps27 rfl rfl ?_
    intro hs
    refine Zrun ?_
    (refine RW.boxN hs rfl rfl ?_; intro b1 w1 hs)
    refine Zrun ?_
    (refine RW.boxN hs rfl rfl ?_; intro b2 w2 hs)
    refine Zerun ?_
    (refine RW.call T hs rfl rfl rfl (vecKind_con _ VecD.none _ _ hv') ?_; intro v h3 w3 hle3 hp3 hs)
    subst hp3
    refine Zerun ?_
    exact retQ_ret [_] h3 ⟨rfl, trivial⟩ hs.dropAll rfl
theorem shows28X_con (k : Nat) (cs cp : List Value) (e : Int) (a : AD (k + 1)) (p : PD (k + 1)) (w : World) (h : GHeap) (ha : ArrAt (k + 1) h cs a) (hp : PlainAt (k + 1) h cp p) (hr : ResX k e a p) : Con Tryz.prog 27 [.agg cs.toArray, .int .i64 e, .agg cp.toArray, .int .i64 e] w h (fun _ u => u = .bool true) := by
  rcases hr with ⟨rfl, h1, h2, h3⟩ | ⟨he, rfl⟩
  · exact shows28_con k cs cp a p w h ha hp h1 h2 h3
  · exact shows28E_con (α := AD k) (R := ArrAt k) (Rq := PlainAt k) cs cp p e w h he ha hp
theorem partDepth_con (j k : Nat) (cs : List Value) (a : AD (k + 1)) (w : World) (h : GHeap) (ha : ArrAt (k + 1) h cs a) (hg : good (k + 1) 40 a) : Con Tryz.prog 28 [.agg cs.toArray] w h (fun h' u => ∃ c2, u = .agg c2.toArray ∧ ArrAt (j + 1) h' c2 (numA j (fwF (depthV (k + 1) a)))) := by
  have ha' := ha
  obtain ⟨s, vc, rfl, ⟨ad, cap, rfl, _⟩, hv⟩ := ha
  obtain ⟨wv, nv, sm, il, fl, ch, bx, ⟨rfl, hoc⟩, _⟩ := hv
  have hb := depthV_bound (k + 1) 40 a (by omega) hg
  have hsp := (fwF_spec (depthV (k + 1) a) (by omega)).1
  refine Con.of_body Tryz.func28 rfl Tryz.ntmps28 rfl rfl ?_
  intro hs
  refine Zrun ?_
  (refine RW.boxN hs rfl rfl ?_; intro b1 w1 hs)
  (refine RW.allocN T hs rfl rfl rfl rfl ?_; intro b2 w2 hs)
  refine Zerun ?_
  (refine RW.call T hs rfl rfl rfl (valueDepth_con (k + 1) 40 _ a _ _ (by omega) (by omega) ha' hg) ?_; intro v h7 w7 hle7 hp7 hs)
  subst hp7
  obtain ⟨x, hx⟩ : ∃ x, fwF (depthV (k + 1) a) = x := ⟨_, rfl⟩
  refine RW.val (Y.convIF T rfl rfl rfl) rfl ?_
  rw [hx] at hsp ⊢
  (refine RW.call T hs rfl rfl rfl (valueNum_con (R := ArrAt j) (ArrAt.mono j) x _ _ hsp.1) ?_; intro v h6 w6 hle6 hp6 hs)
  obtain ⟨cs6, rfl, ha6⟩ := hp6
  rw [if_pos hsp.2.1, show tidyW x = x by unfold tidyW; rw [tidySpec_of _ hsp]] at ha6
  have ha6' : ArrAt (j + 1) h6 cs6 (numA j x) := ha6
  obtain ⟨s6, vc6, rfl, ⟨ad6, cap6, rfl, _⟩, hv6⟩ := ha6
  obtain ⟨wv6, nv6, sm6, il6, fl6, ch6, bx6, ⟨rfl, hoc6⟩, _⟩ := hv6
  have hall : (Value.oneCell' (.slice ad6 ([] : List Int).length cap6) && (vecCells (⟨leastN [x], [x], [], []⟩ : VecD (AD j)).kind wv6 nv6 sm6 il6 fl6 ch6 bx6).all Value.oneCell') = true := by rw [hoc6]; rfl
  refine Zerun ?_
  (refine RW.allocN T hs rfl rfl rfl rfl ?_; intro b17 w17 hs)
  refine RW.storeAll T hs 0 rfl rfl rfl rfl rfl rfl hall rfl ?_
  intro w8 hs
  refine Zerun ?_
  refine RW.storeAll T hs 1 rfl rfl rfl rfl rfl rfl hall rfl ?_
  intro w9 hs
  refine Zerun ?_
  exact retQ_ret [_] h6 ⟨resN T hs 1 rfl rfl rfl rfl rfl rfl, trivial⟩ hs.dropAll ⟨_, rfl, ha6'⟩
/-! ## Mix, with the level of its answer -/
def fillP (k : Nat) (p : PD (k + 1)) : Int := PlainD.fill (α := PD k) p
def mixE (k : Nat) (p : PD (k + 3)) (most : Int) : Int := if fillP (k + 2) p ≠ 2 then 0 else (mixS (k + 1) (arr (k + 3) p) most).1
def MixA (k : Nat) (p : PD (k + 3)) (most : Int) (h : GHeap) (cs : List Value) : Prop := if fillP (k + 2) p ≠ 2 then ArrAt (k + 3) h cs (arr (k + 3) p) else ArrAt (k + 2) h cs (mixS (k + 1) (arr (k + 3) p) most).2
def MixQ (k : Nat) (p : PD (k + 3)) (most : Int) (h : GHeap) (cs : List Value) : Prop := if fillP (k + 2) p ≠ 2 then PlainAt (k + 3) h cs (tidy (k + 3) p) else PlainAt (k + 2) h cs (mixR (k + 1) (tidy (k + 3) p) most).2
theorem MixA.mono {k : Nat} {p : PD (k + 3)} {most : Int} {h h' : GHeap} {cs : List Value} (H : MixA k p most h cs) (hle : GLe h h') : MixA k p most h' cs := by
  unfold MixA at H ⊢
  split
  · rename_i c; rw [if_pos c] at H; exact ArrAt.mono (k + 3) _ _ _ _ hle H
  · rename_i c; rw [if_neg c] at H; exact ArrAt.mono (k + 2) _ _ _ _ hle H
theorem MixQ.mono {k : Nat} {p : PD (k + 3)} {most : Int} {h h' : GHeap} {cs : List Value} (H : MixQ k p most h cs) (hle : GLe h h') : MixQ k p most h' cs := by
  unfold MixQ at H ⊢
  split
  · rename_i c; rw [if_pos c] at H; exact PlainAt.mono (k + 3) _ _ _ _ hle H
  · rename_i c; rw [if_neg c] at H; exact PlainAt.mono (k + 2) _ _ _ _ hle H
theorem cells9 {K : Nat} {h : GHeap} {cs : List Value} {a : AD K} (H : ArrAt K h cs a) : ∃ a0 a1 a2 a3 a4 a5 a6 a7 a8, cs = [a0, a1, a2, a3, a4, a5, a6, a7, a8] ∧ [a0, a1, a2, a3, a4, a5, a6, a7, a8].all Value.oneCell' = true := by
  have h1 := ArrAt.siz K _ _ _ H
  have h2 : cs.all Value.oneCell' = true := List.all_eq_true.mpr (ArrAt.one K _ _ _ H)
  match cs, h1, h2 with
  | [a0, a1, a2, a3, a4, a5, a6, a7, a8], _, h2 => exact ⟨_, _, _, _, _, _, _, _, _, rfl, h2⟩
theorem cells3 {K : Nat} {h : GHeap} {cs : List Value} {p : PD K} (H : PlainAt K h cs p) : ∃ a0 a1 a2, cs = [a0, a1, a2] ∧ [a0, a1, a2].all Value.oneCell' = true := by
  have h1 := PlainAt.siz K _ _ _ H
  have h2 : cs.all Value.oneCell' = true := List.all_eq_true.mpr (PlainAt.one K _ _ _ H)
  match cs, h1, h2 with
  | [a0, a1, a2], _, h2 => exact ⟨_, _, _, rfl, h2⟩
theorem MixA.cells {k : Nat} {p : PD (k + 3)} {most : Int} {h : GHeap} {cs : List Value} (H : MixA k p most h cs) : ∃ a0 a1 a2 a3 a4 a5 a6 a7 a8, cs = [a0, a1, a2, a3, a4, a5, a6, a7, a8] ∧ [a0, a1, a2, a3, a4, a5, a6, a7, a8].all Value.oneCell' = true := by
  unfold MixA at H
  split at H
  · exact cells9 H
  · exact cells9 H
theorem MixQ.cells {k : Nat} {p : PD (k + 3)} {most : Int} {h : GHeap} {cs : List Value} (H : MixQ k p most h cs) : ∃ a0 a1 a2, cs = [a0, a1, a2] ∧ [a0, a1, a2].all Value.oneCell' = true := by
  unfold MixQ at H
  split at H
  · exact cells3 H
  · exact cells3 H
/-! ## The boxes of a plain array, and of its array -/
def boxQ (k : Nat) (p : PD (k + 3)) : List (PD (k + 2)) := (PlainD.items (α := PD (k + 2)) p).flatMap (·.box)
structure Mixed (k : Nat) (p : PD (k + 3)) : Prop where
  hc : chk (k + 3) 40 p = 0
  ht : tdy (k + 3) (tidy (k + 3) p)
  h8 : (PlainD.shape (α := PD (k + 2)) p).length ≤ 8
  hn : (PlainD.items (α := PD (k + 2)) p).length ≤ 1048576
  hs : ((boxQ k p).map fun b => (PlainD.items (α := PD (k + 1)) b).length).sum ≤ 1048576
theorem Mixed.it {k : Nat} {p : PD (k + 3)} (H : Mixed k p) (h2 : fillP (k + 2) p = 2) : ∀ x ∈ PlainD.items (α := PD (k + 2)) p, x.kind = 2 ∧ ∃ b, x.box = [b] ∧ chk (k + 2) 39 b = 0 := by
  obtain ⟨_, _, _, _, h5⟩ := (chkP_ok (α := PD (k + 2)) _ _ _).1 H.hc
  intro x hx
  obtain ⟨e1, e2, _⟩ := h5 x hx
  have h2 : PlainD.fill (α := PD (k + 2)) p = 2 := h2
  rw [h2] at e1
  obtain ⟨b, e3, e4⟩ := e2 e1
  exact ⟨e1, b, e3, e4⟩
theorem Mixed.boxA {k : Nat} {p : PD (k + 3)} (h2 : fillP (k + 2) p = 2) : (ArrD.vec (α := AD (k + 2)) (arr (k + 3) p)).boxes = (boxQ k p).map (arr (k + 2)) := by
  have h2 : PlainD.fill (α := PD (k + 2)) p = 2 := h2
  show (arrV (arr (k + 2)) (PlainD.fill (α := PD (k + 2)) p) (PlainD.items (α := PD (k + 2)) p)).boxes = _
  unfold arrV boxQ
  rw [if_neg (by omega), if_pos h2, List.map_flatMap]
theorem Mixed.boxT {k : Nat} {p : PD (k + 3)} (H : Mixed k p) (h2 : fillP (k + 2) p = 2) : bxs (β := PD (k + 2)) (tidy (k + 3) p) = (boxQ k p).map (tidy (k + 2)) := by
  have hi := H.it h2
  show ((PlainD.items (α := PD (k + 2)) p).map (tidyIt (tidy (k + 2)))).flatMap (·.box) = ((PlainD.items (α := PD (k + 2)) p).flatMap (·.box)).map (tidy (k + 2))
  generalize PlainD.items (α := PD (k + 2)) p = l at hi
  induction l with
  | nil => rfl
  | cons x l ih =>
    obtain ⟨e1, b, e2, _⟩ := hi x List.mem_cons_self
    rw [List.map_cons, List.flatMap_cons, List.flatMap_cons, List.map_append, ih (fun y hy => hi y (List.mem_cons_of_mem _ hy))]
    congr 1
    unfold tidyIt
    rw [if_neg (by omega), if_neg (by omega), if_pos e1, e2]
    rfl
theorem Mixed.boxOk {k : Nat} {p : PD (k + 3)} (H : Mixed k p) (h2 : fillP (k + 2) p = 2) : ∀ b ∈ boxQ k p, chk (k + 2) 39 b = 0 ∧ tdy (k + 2) (tidy (k + 2) b) := by
  intro b hb
  obtain ⟨x, hx, hbx⟩ := List.mem_flatMap.1 hb
  obtain ⟨e1, b', e2, e3⟩ := H.it h2 x hx
  rw [e2] at hbx
  obtain rfl := List.mem_singleton.1 hbx
  refine ⟨e3, ?_⟩
  have ht : ∀ y ∈ (PlainD.items (α := PD (k + 2)) p).map (tidyIt (tidy (k + 2))), tdyIt (tdy (k + 2)) y := H.ht
  refine (ht _ (List.mem_map.2 ⟨x, hx, rfl⟩)).2 _ ?_
  unfold tidyIt
  rw [if_neg (by omega), if_neg (by omega), if_pos e1, e2]
  exact List.mem_cons_self
theorem Mixed.boxN {k : Nat} {p : PD (k + 3)} (H : Mixed k p) (h2 : fillP (k + 2) p = 2) : product (PlainD.shape (α := PD (k + 2)) p) 1048576 = (((boxQ k p).length : Int), 0) := by
  obtain ⟨_, _, _, h4, _⟩ := (chkP_ok (α := PD (k + 2)) _ _ _).1 H.hc
  have hi := H.it h2
  have hl : (boxQ k p).length = (PlainD.items (α := PD (k + 2)) p).length := by
    have := bxs_len (PlainD.items (α := PD (k + 2)) p) (fun x hx => by obtain ⟨_, b, e, _⟩ := hi x hx; exact ⟨b, e⟩) _ (Nat.le_refl _)
    rw [List.take_length] at this
    exact this
  rw [hl]
  exact h4
theorem Mixed.sumA {k : Nat} {p : PD (k + 3)} (H : Mixed k p) (h2 : fillP (k + 2) p = 2) : (((ArrD.vec (α := AD (k + 2)) (arr (k + 3) p)).boxes.map (bv (k + 1))).map VecD.len).sum ≤ 1048576 := by
  rw [Mixed.boxA h2, List.map_map, List.map_map]
  have hs := H.hs
  have e : (boxQ k p).map ((VecD.len ∘ bv (k + 1)) ∘ arr (k + 2)) = (boxQ k p).map fun b => (PlainD.items (α := PD (k + 1)) b).length := by
    apply List.map_congr_left
    intro b hb
    obtain ⟨_, _, _, h4, h5⟩ := (chkP_ok (α := PD (k + 1)) _ _ _).1 (H.boxOk h2 b hb).1
    exact len_arrV (arr (k + 1)) _ _ _ h5
  rw [e]
  exact hs
theorem Mixed.sumT {k : Nat} {p : PD (k + 3)} (H : Mixed k p) (h2 : fillP (k + 2) p = 2) : ((pl (bxs (β := PD (k + 2)) (tidy (k + 3) p))).map (·.items.length)).sum ≤ 1048576 := by
  rw [H.boxT h2]
  have hs := H.hs
  have e : (pl ((boxQ k p).map (tidy (k + 2)))).map (·.items.length) = (boxQ k p).map fun b => (PlainD.items (α := PD (k + 1)) b).length := by
    clear hs
    generalize boxQ k p = l
    induction l with
    | nil => rfl
    | cons b l ih =>
      have e : (PlainD.items (α := PD (k + 1)) (tidy (k + 2) b)).length = (PlainD.items (α := PD (k + 1)) b).length := List.length_map ..
      exact (congrArg (fun n => n :: (pl (l.map (tidy (k + 2)))).map (·.items.length)) e).trans (congrArg _ ih)
  rw [e]
  exact hs
theorem Mixed.res {k : Nat} {p : PD (k + 3)} (H : Mixed k p) (h2 : fillP (k + 2) p = 2) (most : Int) (hm : most ≤ 1048576) : (mixS (k + 1) (arr (k + 3) p) most).1 = (mixR (k + 1) (tidy (k + 3) p) most).1 ∧ ResX (k + 1) (mixS (k + 1) (arr (k + 3) p) most).1 (mixS (k + 1) (arr (k + 3) p) most).2 (mixR (k + 1) (tidy (k + 3) p) most).2 :=
  mix_res k (arr (k + 3) p) (tidy (k + 3) p) (boxQ k p) rfl (Mixed.boxA h2) (H.boxT h2) (H.boxOk h2) (H.boxN h2) (H.sumA h2) most hm
theorem shape8 {s : List Int} {n : Int} (h : product s 1048576 = (n, 0)) : s.length ≤ 8 := ((goodS_spec _).1 ((goodS_iff _).2 (by rw [h]))).1
theorem mixV_con (k : Nat) (p : PD (k + 3)) (H : Mixed k p) (most : Int) (cs : List Value) (w : World) (h : GHeap) (ha : ArrAt (k + 3) h cs (arr (k + 3) p)) : Con Tryz.prog 23 [.agg cs.toArray, .int .i64 most] w h (fun h' u => ∃ c2, u = .tuple #[.agg c2.toArray, .int .i64 (mixE k p most)] ∧ MixA k p most h' c2) := by
  obtain ⟨_, g2, g3, _, g5⟩ := (chkP_ok (α := PD (k + 2)) _ _ _).1 H.hc
  have hcl : (ArrD.vec (α := AD (k + 2)) (arr (k + 3) p)).cls = fillP (k + 2) p := cls_arrV (arr (k + 2)) _ _ g2 g3
  unfold mixE MixA
  by_cases c : fillP (k + 2) p ≠ 2
  · simp only [if_pos c]
    exact partMix0_con (k + 1) cs (arr (k + 3) p) most w h ha (by rw [hcl]; exact c)
  · have c2 := Decidable.of_not_not c
    simp only [if_neg c]
    refine partMix_con (k + 1) cs (arr (k + 3) p) most w h ha (by rw [hcl]; exact c2) H.h8 ?_ ?_ (H.sumA c2)
    · have := len_arrV (arr (k + 2)) _ _ _ g5
      have hn := H.hn
      show (arrV (arr (k + 2)) (PlainD.fill (α := PD (k + 2)) p) (PlainD.items (α := PD (k + 2)) p)).len ≤ 1048576
      omega
    · rw [Mixed.boxA c2]
      intro b hb
      obtain ⟨q, hq, rfl⟩ := List.mem_map.1 hb
      obtain ⟨_, _, _, h4, _⟩ := (chkP_ok (α := PD (k + 1)) _ _ _).1 (H.boxOk c2 q hq).1
      exact shape8 h4
theorem mixQ_con (k : Nat) (p : PD (k + 3)) (H : Mixed k p) (most : Int) (hm : most ≤ 1048576) (cs : List Value) (w : World) (h : GHeap) (hp : PlainAt (k + 3) h cs (tidy (k + 3) p)) : Con Tryz.prog 24 [.agg cs.toArray, .int .i64 most] w h (fun h' u => ∃ c2, u = .tuple #[.agg c2.toArray, .int .i64 (mixE k p most)] ∧ MixQ k p most h' c2) := by
  have hl : (PlainD.items (α := PD (k + 2)) (tidy (k + 3) p)).length = (PlainD.items (α := PD (k + 2)) p).length := List.length_map ..
  unfold mixE MixQ
  by_cases c : fillP (k + 2) p ≠ 2
  · simp only [if_pos c]
    exact refMix0_con (PlainAt.mono (k + 2)) cs (tidy (k + 3) p) most w h hp c
  · have c2 := Decidable.of_not_not c
    simp only [if_neg c]
    rw [(H.res c2 most hm).1]
    refine refMix_con (k + 1) cs (tidy (k + 3) p) most w h hp c2 ?_ H.h8 (by rw [hl]; exact H.hn) ?_ (H.sumT c2)
    · intro x hx
      have hx : x ∈ (PlainD.items (α := PD (k + 2)) p).map (tidyIt (tidy (k + 2))) := hx
      obtain ⟨y, hy, rfl⟩ := List.mem_map.1 hx
      obtain ⟨e1, b, e2, _⟩ := H.it c2 y hy
      unfold tidyIt
      rw [if_neg (by omega), if_neg (by omega), if_pos e1, e2]
      exact ⟨_, rfl⟩
    · rw [H.boxT c2]
      intro b hb
      obtain ⟨q, hq, rfl⟩ := List.mem_map.1 hb
      obtain ⟨_, h2, _, h4, _⟩ := (chkP_ok (α := PD (k + 1)) _ _ _).1 (H.boxOk c2 q hq).1
      exact ⟨shape8 h4, h2⟩
theorem showsMix_con (k : Nat) (p : PD (k + 3)) (H : Mixed k p) (most : Int) (hm : most ≤ 1048576) (cs cq : List Value) (w : World) (h : GHeap) (ha : MixA k p most h cs) (hq : MixQ k p most h cq) : Con Tryz.prog 27 [.agg cs.toArray, .int .i64 (mixE k p most), .agg cq.toArray, .int .i64 (mixE k p most)] w h (fun _ u => u = .bool true) := by
  unfold mixE
  unfold MixA at ha
  unfold MixQ at hq
  by_cases c : fillP (k + 2) p ≠ 2
  · rw [if_pos c] at ha hq ⊢
    exact shows28_con (k + 2) cs cq (arr (k + 3) p) (tidy (k + 3) p) w h ha hq (good_arr (k + 3) 40 p H.hc) (plain_arr (k + 3) 40 p H.hc) H.ht
  · have c2 := Decidable.of_not_not c
    rw [if_neg c] at ha hq ⊢
    exact shows28X_con (k + 1) cs cq _ _ _ w h ha hq (H.res c2 most hm).2
end Go.Proofs.YtmojpbfkpggjhaaGreat

/-
  The law of Mix, Enlist and Depth: its walk. No statement is proved here.
-/
namespace Go.Proofs.YtmojpbfkpggjhaaGreat
open Go Go.RowKit
set_option linter.unusedVariables false
set_option linter.unusedSimpArgs false
set_option maxHeartbeats 4000000
attribute [local irreducible] CW RW QW SW HW ConM retM heldQ calmQ elemP thenQ blockQ loopQ joinQ retQ Yields Con Sl zF magR unitF truncF fwF wholeF tidySpec elemQ rankF leastN tidyW
set_option maxHeartbeats 4000000

/-- how many plain arrays and items, those in boxes too -/
def totP : (k : Nat) → PD k → Nat
  | 0 => fun _ => 0
  | k + 1 => fun p => 1 + (PlainD.items (α := PD k) p).length + ((PlainD.items (α := PD k) p).map fun x => (x.box.map (totP k)).sum).sum
theorem leaves_tot {γ : Type} : ∀ (K : Nat) (p : PD K), (leavesP (γ := γ) K (tidy K p)).length ≤ totP K p
  | 0, _ => Nat.le_refl _
  | K + 1, p => by
    have e : leavesP (γ := γ) (K + 1) (tidy (K + 1) p) = if PlainD.fill (α := PD K) p ≠ 2 then [flatP (tidyP (tidy K) (p : PlainD (PD K)))] else ((PlainD.items (α := PD K) p).map (tidyIt (tidy K))).flatMap fun x => x.box.flatMap (leavesP K) := rfl
    have e2 : totP (K + 1) p = 1 + (PlainD.items (α := PD K) p).length + ((PlainD.items (α := PD K) p).map fun x => (x.box.map (totP K)).sum).sum := rfl
    rw [e, e2]
    split
    · rw [List.length_singleton]; omega
    · have key : ∀ l : List (ItemD (PD K)), ((l.map (tidyIt (tidy K))).flatMap fun x => x.box.flatMap (leavesP (γ := γ) K)).length ≤ (l.map fun x => (x.box.map (totP K)).sum).sum := by
        intro l
        induction l with
        | nil => exact Nat.le_refl _
        | cons x l ih =>
          rw [List.map_cons, List.flatMap_cons, List.length_append, List.map_cons, List.sum_cons]
          refine Nat.add_le_add ?_ ih
          have hbx : (tidyIt (tidy K) x).box = [] ∨ ∃ b r, x.box = b :: r ∧ (tidyIt (tidy K) x).box = [tidy K b] := by
            unfold tidyIt
            split
            · exact .inl rfl
            · split
              · exact .inl rfl
              · split
                · cases hx : x.box with
                  | nil => exact .inl rfl
                  | cons b r => exact .inr ⟨b, r, rfl, rfl⟩
                · exact .inl rfl
          rcases hbx with e | ⟨b, r, e1, e2⟩
          · rw [e]; exact Nat.zero_le _
          · rw [e2, e1, List.flatMap_cons, List.flatMap_nil, List.append_nil, List.map_cons, List.sum_cons]
            have := leaves_tot (γ := γ) K b
            omega
      have := key (PlainD.items (α := PD K) p)
      omega
theorem items_tot (K : Nat) (p : PD (K + 1)) : (PlainD.items (α := PD K) p).length ≤ totP (K + 1) p := by
  show _ ≤ 1 + (PlainD.items (α := PD K) p).length + ((PlainD.items (α := PD K) p).map fun x => (x.box.map (totP K)).sum).sum
  omega
def nIt (k : Nat) (b : PD (k + 2)) : Nat := (PlainD.items (α := PD (k + 1)) b).length
theorem sums_tot (k : Nat) (p : PD (k + 3)) : ((boxQ k p).map (nIt k)).sum ≤ totP (k + 3) p := by
  have key : ∀ l : List (ItemD (PD (k + 2))), ((l.flatMap (·.box)).map (nIt k)).sum ≤ (l.map fun x => (x.box.map (totP (k + 2))).sum).sum := by
    intro l
    induction l with
    | nil => exact Nat.le_refl _
    | cons x l ih =>
      rw [List.flatMap_cons, List.map_append, List.sum_append, List.map_cons, List.sum_cons]
      refine Nat.add_le_add ?_ ih
      generalize x.box = bx
      induction bx with
      | nil => exact Nat.le_refl _
      | cons b r ihb =>
        rw [List.map_cons, List.sum_cons, List.map_cons, List.sum_cons]
        exact Nat.add_le_add (items_tot (k + 1) b) ihb
  have := key (PlainD.items (α := PD (k + 2)) p)
  have e2 : totP (k + 3) p = 1 + (PlainD.items (α := PD (k + 2)) p).length + ((PlainD.items (α := PD (k + 2)) p).map fun x => (x.box.map (totP (k + 2))).sum).sum := rfl
  rw [e2]
  unfold boxQ
  omega
theorem bxF_tidy : ∀ (K : Nat) (d : Int) (p : PD K) (h : GHeap) (cs : List Value), PlainAt K h cs p → chk K d p = 0 → bxF K (tidy K p)
  | 0, _, _, _, _, hp, _ => hp.elim
  | K + 1, d, p, h, cs, hp, hc => by
    obtain ⟨h1, h2, h3, h4, h5⟩ := (chkP_ok (α := PD K) _ _ _).1 hc
    obtain ⟨s, it, rfl, hl, ⟨ad2, cp2, xs, rfl, hS2, hA⟩⟩ := hp
    show if PlainD.fill (α := PD K) p ≠ 2 then ∀ x ∈ (PlainD.items (α := PD K) p).map (tidyIt (tidy K)), x.box = [] else ∀ x ∈ (PlainD.items (α := PD K) p).map (tidyIt (tidy K)), ∃ b, x.box = [b] ∧ bxF K b
    split
    · rename_i c
      intro x hx
      obtain ⟨y, hy, rfl⟩ := List.mem_map.1 hx
      obtain ⟨e1, _, _⟩ := h5 y hy
      unfold tidyIt
      split
      · rfl
      · split
        · rfl
        · rw [if_neg (fun hk : y.kind = 2 => c (e1.symm.trans hk))]
    · rename_i c
      intro x hx
      obtain ⟨y, hy, rfl⟩ := List.mem_map.1 hx
      obtain ⟨cx, bx, rfl, ⟨ad3, cp3, ys, rfl, hS3, hA3⟩, hn⟩ := hA.mem y hy
      obtain ⟨e1, e2, _⟩ := h5 y hy
      have hk : y.kind = 2 := e1.trans (Decidable.of_not_not c)
      obtain ⟨b, e3, e4⟩ := e2 hk
      have hti : tidyIt (tidy K) y = ⟨2, 0, 0, [tidy K b]⟩ := by
        unfold tidyIt
        rw [if_neg (by rw [hk]; decide), if_neg (by rw [hk]; decide), if_pos hk, e3]
        rfl
      rw [hti]
      rw [e3] at hA3
      obtain ⟨cb, hb⟩ : ∃ cb, PlainAt K h cb b := by
        obtain ⟨u, _, _, hu⟩ := hA3.first
        exact ⟨u, hu⟩
      exact ⟨_, rfl, bxF_tidy K (d - 1) b h cb hb e4⟩
theorem partMixesLaw_con (k : Nat) (cs : List Value) (p : PD (k + 3)) (n : Int) (w : World) (h : GHeap) (hn : 0 ≤ n ∧ n < 65536) (hp : PlainAt (k + 3) h cs p) (hb : totP (k + 3) p ≤ 1048576) : Con Tryz.prog 4 [.agg cs.toArray, .int .u16 n] w h (fun _ u => u = .bool true) := by
  have hp' := hp
  have hp00 := hp
  obtain ⟨s, it, rfl, ⟨ad, cp, rfl, _⟩, ⟨ad2, cp2, xs, rfl, _, _⟩⟩ := hp
  have hp := hp00
  clear hp00
  refine Con.of_body Tryz.func4 rfl Tryz.ntmps4 rfl rfl ?_
  intro hs
  refine Zrun ?_
  (refine RW.boxN hs rfl rfl ?_; intro b1 w1 hs)
  refine Zerun ?_
  (refine RW.call T hs rfl rfl rfl (fine28_con (k + 2) _ p _ _ hp') ?_; intro v h3 w3 hle3 hp3 hs)
  obtain ⟨b, rfl, hbp⟩ := hp3
  have hp' := PlainAt.mono (k + 3) _ _ _ _ hle3 hp'
  cases b with
  | false =>
    refine Zerun ?_
    (refine RW.call T hs rfl rfl rfl (awake28_con _ _) ?_; intro v h4 w4 hle4 hp4 hs)
    subst hp4
    refine Zerun ?_
    exact retQ_ret [_] h4 ⟨rfl, trivial⟩ hs.dropAll rfl
  | true =>
  obtain ⟨hc, h8, hn3⟩ := hbp rfl
  have ht := tidy_tdy (k + 3) 40 p _ _ hp hc
  have hlP : (leavesP (γ := PD 1) (k + 3) (tidy (k + 3) p)).length ≤ 1048576 := Nat.le_trans (leaves_tot (k + 3) p) hb
  obtain ⟨Z, z1, z2, z3⟩ := leaves_pairs (k + 3) 40 p (by omega) hc ht
  have hlA : (leavesA (β := AD 1) (k + 3) (arr (k + 3) p)).length ≤ 1048576 := by rw [← z1, List.length_map]; rw [← z2, List.length_map] at hlP; exact hlP
  have hf : ∀ q ∈ leavesP (γ := PD 1) (k + 3) (tidy (k + 3) p), 0 ≤ q.fill ∧ q.items.length ≤ 1048576 := by
    intro q hq
    rw [← z2] at hq
    obtain ⟨z, hz, rfl⟩ := List.mem_map.1 hq
    have hT := z3 z hz
    have h1 := hT.sh.hc
    have h2 := cls_rng z.1
    have h3 := hT.sh.vm
    have h4 := hT.ln
    exact ⟨by omega, by omega⟩
  have hg := good_arr (k + 3) 40 p hc
  have hsm := good_sml (k + 3) 40 _ hg
  have hM : Mixed k p := ⟨hc, ht, h8, by omega, Nat.le_trans (sums_tot k p) hb⟩
  have hbx := bxF_tidy (k + 3) 40 p _ _ hp hc
  refine Zerun ?_
  refine RW.val (Y.conv64 (u := n % 3000) T rfl rfl rfl (by omega)) rfl ?_
  obtain ⟨most, hme⟩ : ∃ most, n % 3000 = most := ⟨_, rfl⟩
  rw [hme]
  have hm0 : 0 ≤ most ∧ most ≤ 1048576 := by omega
  obtain ⟨he, hr⟩ := enl_res (k + 3) 40 p (by omega) hc ht most hm0.2
  refine Zerun ?_
  (refine RW.call T hs rfl rfl rfl (of07_con (k + 3) _ p _ _ hp' hc) ?_; intro v h23 w23 hle23 hp23 hs)
  obtain ⟨cs23, rfl, _, _, hn23⟩ := hp23
  have hp' := PlainAt.mono (k + 3) _ _ _ _ hle23 hp'
  refine Zerun ?_
  (refine RW.call T hs rfl rfl rfl (mixV_con k p hM most _ _ _ hn23) ?_; intro v h25 w25 hle25 hp25 hs)
  obtain ⟨cs25, rfl, hA6⟩ := hp25
  have hp' := PlainAt.mono (k + 3) _ _ _ _ hle25 hp'
  obtain ⟨x0, x1, x2, x3, x4, x5, x6, x7, x8, rfl, hox⟩ := hA6.cells
  refine Zerun ?_
  (refine RW.allocN T hs rfl rfl rfl rfl ?_; intro b6 w6 hs)
  (refine RW.storeAll T hs 0 rfl rfl rfl rfl rfl rfl hox rfl ?_; intro w16 hs)
  refine Zerun ?_
  (refine RW.call T hs rfl rfl rfl (refTidyP_con (k + 3) 40 _ p _ _ hp' hc) ?_; intro v h30 w30 hle30 hp30 hs)
  obtain ⟨cs30, rfl, hq30⟩ := hp30
  have hp' := PlainAt.mono (k + 3) _ _ _ _ hle30 hp'
  have hA6 := hA6.mono hle30
  refine Zerun ?_
  (refine RW.call T hs rfl rfl rfl (mixQ_con k p hM most hm0.2 _ _ _ hq30) ?_; intro v h32 w32 hle32 hp32 hs)
  obtain ⟨cs32, rfl, hQ8⟩ := hp32
  have hp' := PlainAt.mono (k + 3) _ _ _ _ hle32 hp'
  have hA6 := hA6.mono hle32
  obtain ⟨y0, y1, y2, rfl, hoy⟩ := hQ8.cells
  refine Zerun ?_
  (refine RW.allocN T hs rfl rfl rfl rfl ?_; intro b8 w8 hs)
  (refine RW.storeAll T hs 0 rfl rfl rfl rfl rfl rfl hoy rfl ?_; intro w17 hs)
  refine Zerun ?_
  (refine RW.call T hs rfl rfl rfl (of07_con (k + 3) _ p _ _ hp' hc) ?_; intro v h37 w37 hle37 hp37 hs)
  obtain ⟨cs37, rfl, _, _, hn37⟩ := hp37
  have hp' := PlainAt.mono (k + 3) _ _ _ _ hle37 hp'
  have hA6 := hA6.mono hle37
  have hQ8 := hQ8.mono hle37
  refine Zerun ?_
  (refine RW.call T hs rfl rfl rfl (enlistE_con (k + 3) _ (arr (k + 3) p) most _ _ hn37 hsm hlA hm0) ?_; intro v h39 w39 hle39 hp39 hs)
  obtain ⟨cs39, rfl, hA10⟩ := hp39
  have hA10 : ArrAt 2 h39 cs39 (enlS (leavesA (k + 3) (arr (k + 3) p)) most).2 := hA10
  have hp' := PlainAt.mono (k + 3) _ _ _ _ hle39 hp'
  have hA6 := hA6.mono hle39
  have hQ8 := hQ8.mono hle39
  obtain ⟨u0, u1, u2, u3, u4, u5, u6, u7, u8, rfl, hou⟩ := cells9 (K := 2) hA10
  refine Zerun ?_
  (refine RW.allocN T hs rfl rfl rfl rfl ?_; intro b10 w10 hs)
  (refine RW.storeAll T hs 0 rfl rfl rfl rfl rfl rfl hou rfl ?_; intro w18 hs)
  refine Zerun ?_
  (refine RW.call T hs rfl rfl rfl (refTidyP_con (k + 3) 40 _ p _ _ hp' hc) ?_; intro v h44 w44 hle44 hp44 hs)
  obtain ⟨cs44, rfl, hq44⟩ := hp44
  have hp' := PlainAt.mono (k + 3) _ _ _ _ hle44 hp'
  have hA6 := hA6.mono hle44
  have hQ8 := hQ8.mono hle44
  have hA10 := ArrAt.mono 2 _ _ _ _ hle44 hA10
  refine Zerun ?_
  (refine RW.call T hs rfl rfl rfl (refEnlist_con (γ := PD 1) (R' := PlainAt 1) (PlainAt.mono 1) (k + 3) _ (tidy (k + 3) p) most _ _ hq44 hbx hlP hf hm0) ?_; intro v h46 w46 hle46 hp46 hs)
  obtain ⟨cs46, rfl, hQ12⟩ := hp46
  have hQ12 : PlainAt 2 h46 cs46 (enlP (leavesP (γ := PD 1) (k + 3) (tidy (k + 3) p)) most).2 := hQ12
  have hp' := PlainAt.mono (k + 3) _ _ _ _ hle46 hp'
  have hA6 := hA6.mono hle46
  have hQ8 := hQ8.mono hle46
  have hA10 := ArrAt.mono 2 _ _ _ _ hle46 hA10
  obtain ⟨v0, v1, v2, rfl, hov⟩ := cells3 (K := 2) hQ12
  refine Zerun ?_
  (refine RW.allocN T hs rfl rfl rfl rfl ?_; intro b12 w12 hs)
  (refine RW.storeAll T hs 0 rfl rfl rfl rfl rfl rfl hov rfl ?_; intro w19 hs)
  refine Zerun ?_
  rw [← he]
  have hdp := depth_bound (k + 3) 40 p (by omega) hc
  have hsp := (fwF_spec (depth (k + 3) p) (by omega)).1
  have hda := depth_arr (k + 3) 40 p hc
  refine CW.regionO T hs ?_
  intro w50 hs
  refine HW.takeS (fuel := 25) 0 rfl (fun _ _ hs => Y.loadRowN T hs 3 rfl rfl rfl rfl rfl rfl rfl) hs rfl (by kernel_rfl) (by kernel_rfl) (by kernel_rfl) ?_
  refine HW.takeS (fuel := 24) 1 rfl (fun _ _ hs => Y.move rfl) hs rfl (by kernel_rfl) (by kernel_rfl) (by kernel_rfl) ?_
  refine HW.takeS (fuel := 23) 2 rfl (fun _ _ hs => Y.loadRowN T hs 2 rfl rfl rfl rfl rfl rfl rfl) hs rfl (by kernel_rfl) (by kernel_rfl) (by kernel_rfl) ?_
  refine HW.takeS (fuel := 22) 3 rfl (fun _ _ hs => Y.move rfl) hs rfl (by kernel_rfl) (by kernel_rfl) (by kernel_rfl) ?_
  refine HW.one (fuel := 21) 4 rfl (by kernel_rfl) ?_
  (refine RW.call T hs rfl rfl rfl (showsMix_con k p hM most hm0.2 _ _ _ _ hA6 hQ8) ?_; intro v h53 w53 hle53 hp53 hs)
  subst hp53
  have hp' := PlainAt.mono (k + 3) _ _ _ _ hle53 hp'
  have hA10 := ArrAt.mono 2 _ _ _ _ hle53 hA10
  have hQ12 := PlainAt.mono 2 _ _ _ _ hle53 hQ12
  refine RW.nil ?_
  refine heldQ_normal ⟨_, hs⟩ ?_
  refine HW.takeS (fuel := 20) 5 rfl (fun _ _ hs => Y.move rfl) hs rfl (by kernel_rfl) (by kernel_rfl) (by kernel_rfl) ?_
  refine HW.takeSY (fuel := 19) 6 rfl rfl rfl (fun _ _ hs => Y.loadRowN T hs 1 rfl rfl rfl rfl rfl rfl rfl) hs rfl (by kernel_rfl) (by kernel_rfl) (by kernel_rfl) ?_
  refine HW.takeSY (fuel := 18) 7 rfl rfl rfl (fun _ _ hs => Y.move rfl) hs rfl (by kernel_rfl) (by kernel_rfl) (by kernel_rfl) ?_
  refine HW.takeSY (fuel := 17) 8 rfl rfl rfl (fun _ _ hs => Y.loadRowN T hs 0 rfl rfl rfl rfl rfl rfl rfl) hs rfl (by kernel_rfl) (by kernel_rfl) (by kernel_rfl) ?_
  refine HW.takeSY (fuel := 16) 9 rfl rfl rfl (fun _ _ hs => Y.move rfl) hs rfl (by kernel_rfl) (by kernel_rfl) (by kernel_rfl) ?_
  refine HW.one (fuel := 15) 10 rfl (by kernel_rfl) ?_
  refine RW.guardYes rfl rfl ?_
  (refine RW.call T hs rfl rfl rfl (shows28X_con 1 _ _ (enlS (leavesA (k + 3) (arr (k + 3) p)) most).1 _ _ _ _ hA10 hQ12 hr) ?_; intro v h59 w59 hle59 hp59 hs)
  subst hp59
  have hp' := PlainAt.mono (k + 3) _ _ _ _ hle59 hp'
  refine RW.nil ?_
  refine heldQ_normal ⟨_, hs⟩ ?_
  refine HW.takeS (fuel := 14) 11 rfl (fun _ _ hs => Y.pickT rfl rfl) hs rfl (by kernel_rfl) (by kernel_rfl) (by kernel_rfl) ?_
  refine HW.takeS (fuel := 13) 12 rfl (fun _ _ hs => Y.move rfl) hs rfl (by kernel_rfl) (by kernel_rfl) (by kernel_rfl) ?_
  refine HW.takeSY (fuel := 12) 13 rfl rfl rfl (fun _ _ hs => Y.loadRowN T hs 4 rfl rfl rfl rfl rfl rfl rfl) hs rfl (by kernel_rfl) (by kernel_rfl) (by kernel_rfl) ?_
  refine HW.takeSY (fuel := 11) 16 rfl rfl rfl (fun _ _ hs => Y.loadRowN T hs 4 rfl rfl rfl rfl rfl rfl rfl) hs rfl (by kernel_rfl) (by kernel_rfl) (by kernel_rfl) ?_
  refine HW.one (fuel := 10) 14 rfl (by kernel_rfl) ?_
  refine RW.guardYes rfl rfl ?_
  (refine RW.call T hs rfl rfl rfl (of07_con (k + 3) _ p _ _ hp' hc) ?_; intro v h63 w63 hle63 hp63 hs)
  obtain ⟨cs63, rfl, _, _, hn63⟩ := hp63
  have hp' := PlainAt.mono (k + 3) _ _ _ _ hle63 hp'
  refine RW.nil ?_
  refine heldQ_normal ⟨_, hs⟩ ?_
  refine HW.one (fuel := 9) 15 rfl (by kernel_rfl) ?_
  refine RW.guardYes rfl rfl ?_
  (refine RW.call T hs rfl rfl rfl (partDepth_con 0 (k + 2) _ (arr (k + 3) p) _ _ hn63 hg) ?_; intro v h64 w64 hle64 hp64 hs)
  obtain ⟨cs64, rfl, hd64⟩ := hp64
  rw [hda] at hd64
  have hp' := PlainAt.mono (k + 3) _ _ _ _ hle64 hp'
  refine RW.nil ?_
  refine heldQ_normal ⟨_, hs⟩ ?_
  refine HW.one (fuel := 8) 17 rfl (by kernel_rfl) ?_
  refine RW.guardYes rfl rfl ?_
  (refine RW.call T hs rfl rfl rfl (refDepth_con (k + 3) 40 _ p _ _ (by omega) (by omega) hp' hc) ?_; intro v h66 w66 hle66 hp66 hs)
  subst hp66
  have hp' := PlainAt.mono (k + 3) _ _ _ _ hle66 hp'
  have hd64 := ArrAt.mono 1 _ _ _ _ hle66 hd64
  refine RW.nil ?_
  refine heldQ_normal ⟨_, hs⟩ ?_
  refine HW.takeSY (fuel := 7) 18 rfl rfl rfl (fun _ _ hs => Y.convIF T rfl rfl rfl) hs rfl (by kernel_rfl) (by kernel_rfl) (by kernel_rfl) ?_
  refine HW.one (fuel := 6) 19 rfl (by kernel_rfl) ?_
  refine RW.guardYes rfl rfl ?_
  (refine RW.call T hs rfl rfl rfl (refOne_con (α := PD 0) (R := PlainAt 0) (fwF (depth (k + 3) p)) _ _ hsp.1) ?_; intro v h68 w68 hle68 hp68 hs)
  obtain ⟨cs68, rfl, hq68⟩ := hp68
  have hq68 : PlainAt 1 h68 cs68 (numQ 0 (fwF (depth (k + 3) p))) := hq68
  have hp' := PlainAt.mono (k + 3) _ _ _ _ hle68 hp'
  have hd64 := ArrAt.mono 1 _ _ _ _ hle68 hd64
  refine RW.nil ?_
  refine heldQ_normal ⟨_, hs⟩ ?_
  refine HW.one (fuel := 5) 20 rfl (by kernel_rfl) ?_
  refine RW.guardYes rfl rfl ?_
  (refine RW.call T hs rfl rfl rfl (shows28_con 0 _ _ (numA 0 (fwF (depth (k + 3) p))) (numQ 0 (fwF (depth (k + 3) p))) _ _ hd64 hq68 (numA_good 0 _ 40 (by omega)) (numA_plain 0 _) (numQ_tdy 0 _ hsp)) ?_; intro v h69 w69 hle69 hp69 hs)
  subst hp69
  have hp' := PlainAt.mono (k + 3) _ _ _ _ hle69 hp'
  refine RW.nil ?_
  refine heldQ_normal ⟨_, hs⟩ ?_
  refine HW.takeS (fuel := 4) 21 rfl (fun _ _ hs => Y.pickT rfl rfl) hs rfl (by kernel_rfl) (by kernel_rfl) (by kernel_rfl) ?_
  refine HW.takeS (fuel := 3) 22 rfl (fun _ _ hs => Y.move rfl) hs rfl (by kernel_rfl) (by kernel_rfl) (by kernel_rfl) ?_
  refine HW.one (fuel := 2) 23 rfl (by kernel_rfl) ?_
  refine RW.guardYes rfl rfl ?_
  (refine RW.call T hs rfl rfl rfl (awake28_con _ _) ?_; intro v h72 w72 hle72 hp72 hs)
  subst hp72
  have hp' := PlainAt.mono (k + 3) _ _ _ _ hle72 hp'
  refine RW.nil ?_
  refine heldQ_normal ⟨_, hs⟩ ?_
  refine HW.takeS (fuel := 1) 24 rfl (fun _ _ hs => Y.pickT rfl rfl) hs rfl (by kernel_rfl) (by kernel_rfl) (by kernel_rfl) ?_
  refine HW.takeS (fuel := 0) 25 rfl (fun _ _ hs => Y.assign rfl) hs rfl (by kernel_rfl) (by kernel_rfl) (by kernel_rfl) ?_
  refine HW.done (by kernel_rfl) ?_
  refine calmQ_normal ?_
  refine Zerun ?_
  exact retQ_ret [_] h72 ⟨rfl, trivial⟩ hs.dropAll rfl
end Go.Proofs.YtmojpbfkpggjhaaGreat

/-
  Plain arrays read out of memory, with how many values a reading holds. No statement is proved here.
-/
namespace Go.Proofs.YtmojpbfkpggjhaaGreat
open Go Go.RowKit Go.ChangeShapes Go.WideShapes Go.ChangeAt
set_option linter.unusedVariables false
set_option linter.unusedSimpArgs false
section
variable {H : Type} {enc : TypeId × Value → H} {P : Program} {w : World} {base : Nat} {spare : Nat → Bool} {held : Bool} {fuel n : Nat} {t e : TypeId} {cs : List Value} {x : DataW H × List MemPlace}
theorem bulkAll_app : ∀ (l m : List (DataW H)), Rows.uptoBulkAll (l ++ m) = Rows.uptoBulkAll l + Rows.uptoBulkAll m
  | [], m => by simp [Rows.uptoBulkAll]
  | d :: l, m => by rw [List.cons_append, Rows.uptoBulkAll, Rows.uptoBulkAll, bulkAll_app l m, Nat.add_assoc]
theorem bulkAll_one (d : DataW H) : Rows.uptoBulkAll [d] = Rows.uptoBulk d := by simp [Rows.uptoBulkAll]
/-- a slice of elements that open, with what they hold -/
theorem open_rowsB {α : Type} {sz : Nat} {R : List Value → α → Prop} (f : α → Nat) (ht : P.underlying t = some (.slice e)) (hc : P.cellsOf e = sz) (hz : 0 < sz)
    (he : ∀ n < fuel, ∀ cs x, DataW.trod enc P w base spare held n e cs = some x → ∃ a, R cs a ∧ f a ≤ Rows.uptoBulk x.1) (h : DataW.trod enc P w base spare held fuel t cs = some x) :
    ∃ v l, cs = [v] ∧ RowsAt sz R (ghost w) v l ∧ l.length ≤ 9223372036854775807 ∧ (l.map f).sum + 1 ≤ Rows.uptoBulk x.1 := by
  rcases DataW.trod_slice ht h with ⟨hcs, hx⟩ | ⟨a, len, cap, elems, rest, n, hf, hcs, hx, _, hl, hm, hlen, hel, _⟩
  · exact ⟨_, [], hcs, RowsAt.nil _, by simp, by rw [hx]; simp [Rows.uptoBulk]⟩
  · have key : ∀ m, m ≤ len → ∃ xs, ∃ l : List α, xs.length = m * sz ∧ l.length = m ∧ AllN sz R xs l ∧ (∀ j u, xs[j]? = some u → w.cell? (a.add j) = some u) ∧ (l.map f).sum ≤ Rows.uptoBulkAll ((elems.take m).map (·.1)) := by
      intro m
      induction m with
      | zero => exact fun _ => ⟨[], [], by simp, rfl, rfl, fun j u h => by simp at h, by simp⟩
      | succ m ih =>
        intro hm
        obtain ⟨xs, l, h1, h2, h3, h4, h5⟩ := ih (by omega)
        have hi := hel m (by omega)
        have hme : m < elems.length := by omega
        rw [List.getElem?_eq_getElem hme, Option.bind_eq_some_iff] at hi
        obtain ⟨ys, hy, hr⟩ := hi
        obtain ⟨_, hyl, hyc⟩ := World.cells?_some hy
        obtain ⟨b, hb, hfb⟩ := he n (by omega) ys _ hr
        refine ⟨xs ++ ys, l ++ [b], by rw [List.length_append, hyl, hc, h1, Nat.add_mul, Nat.one_mul], by simp [h2], h3.append (AllN.one (hyl.trans hc) hb), ?_, ?_⟩
        · intro j u hj
          by_cases hj2 : j < xs.length
          · rw [List.getElem?_append_left hj2] at hj
            exact h4 j u hj
          · rw [List.getElem?_append_right (by omega)] at hj
            have hjl := (List.getElem?_eq_some_iff.1 hj).1
            have := hyc (j - xs.length) (by omega)
            rw [hj, Addr.add_add, hc] at this
            rw [← this]
            congr 2
            omega
        · have e1 : (elems.take (m + 1)).map (·.1) = (elems.take m).map (·.1) ++ [elems[m].1] := by rw [List.take_add_one, List.getElem?_eq_getElem hme, List.map_append]; rfl
          rw [e1, bulkAll_app, bulkAll_one, List.map_append, List.sum_append]
          simp only [List.map_cons, List.map_nil, List.sum_cons, List.sum_nil]
          omega
    obtain ⟨xs, l, h1, h2, h3, h4, h5⟩ := key len (Nat.le_refl _)
    refine ⟨_, l, hcs, ⟨some a, cap, xs, by rw [h2], ?_, h3⟩, by rw [h2]; simp [maxLen] at hm; omega, ?_⟩
    · rw [h2]
      exact sl_of_cells h1 hl hm hz h4
    · rw [List.take_of_length_le (by omega)] at h5
      rw [hx]
      show _ ≤ Rows.uptoBulk (.slice (elems.map (·.1)) (rest.map (·.1)))
      rw [Rows.uptoBulk]
      omega
theorem totP_succ (k : Nat) (p : PlainD (PD k)) : totP (k + 1) p = 1 + (p.items.map fun x => 1 + (x.box.map (totP k)).sum).sum := by
  have key : ∀ l : List (ItemD (PD k)), (l.map fun x => 1 + (x.box.map (totP k)).sum).sum = l.length + (l.map fun x => (x.box.map (totP k)).sum).sum := by
    intro l
    induction l with
    | nil => rfl
    | cons x l ih =>
      rw [List.map_cons, List.sum_cons, ih, List.map_cons, List.sum_cons, List.length_cons]
      omega
  rw [key]
  show 1 + p.items.length + _ = _
  omega
/-- a plain array that came in, its boxes too, with what it holds -/
theorem open_plainB {tp tis ti ts tint tf tr tb : TypeId} {fp fi : Array Field} (hp : P.underlying tp = some (.struct fp)) (hi : P.underlying ti = some (.struct fi)) (hts : P.underlying ts = some (.slice tint)) (htis : P.underlying tis = some (.slice ti)) (htb : P.underlying tb = some (.slice tp))
    (htint : P.underlying tint = some (.int .i64)) (htf : P.underlying tf = some (.float .f64)) (htr : P.underlying tr = some (.int .i32))
    (cp : P.cellsOf tp = 3) (ci : P.cellsOf ti = 4) (cint : P.cellsOf tint = 1) (cf : P.cellsOf tf = 1) (cr : P.cellsOf tr = 1) (cts : P.cellsOf ts = 1) (ctis : P.cellsOf tis = 1) (ctb : P.cellsOf tb = 1)
    (efp : fp.toList.map (fun f => (f.type, f.offset)) = [(ts, 0), (tis, 1), (tint, 2)]) (efi : fi.toList.map (fun f => (f.type, f.offset)) = [(tint, 0), (tf, 1), (tr, 2), (tb, 3)]) :
    ∀ (n k : Nat) (cs : List Value) (x : DataW H × List MemPlace), n ≤ k → DataW.trod enc P w base spare held n tp cs = some x → ∃ p : PD k, PlainAt k (ghost w) cs p ∧ totP k p ≤ Rows.uptoBulk x.1 := by
  have fld : ∀ (fs : Array Field) (j : Nat) (a b : Nat), (fs.toList.map (fun f => (f.type, f.offset)))[j]? = some (a, b) → ∃ f, fs[j]? = some f ∧ f.type = a ∧ f.offset = b := by
    intro fs j a b h
    rw [List.getElem?_map] at h
    cases hf : fs.toList[j]? with
    | none => rw [hf] at h; cases h
    | some f =>
      rw [hf] at h
      simp at h
      exact ⟨f, by simpa using hf, h.1, h.2⟩
  intro n
  induction n using Nat.strongRecOn with
  | _ n ih =>
    intro k cs x hk h
    obtain ⟨xs, m, rfl, hx, hlen, hxl, hf⟩ := DataW.trod_struct hp h
    rw [cp] at hlen
    have hxl3 : xs.length = 3 := by
      have := congrArg List.length efp
      simp at this; omega
    match cs, hlen, xs, hxl3 with
    | [c0, c1, c2], _, [y0, y1, y2], _ =>
    obtain ⟨f0, h0, e0, o0⟩ := fld fp 0 ts 0 (by rw [efp]; rfl)
    obtain ⟨f1, h1, e1, o1⟩ := fld fp 1 tis 1 (by rw [efp]; rfl)
    obtain ⟨f2, h2, e2, o2⟩ := fld fp 2 tint 2 (by rw [efp]; rfl)
    have g0 := hf 0 f0 h0
    have g1 := hf 1 f1 h1
    have g2 := hf 2 f2 h2
    rw [e0, o0, cts] at g0
    rw [e1, o1, ctis] at g1
    rw [e2, o2, cint] at g2
    simp at g0 g1 g2
    obtain ⟨vs, ls, es, hs, _⟩ := open_ints2 hts htint cint g0
    obtain ⟨fill, ef, _, _⟩ := DataW.trod_int htint g2
    cases k with
    | zero => omega
    | succ k =>
    obtain ⟨vi, li, ei, hli, _, hbl⟩ := open_rowsB (α := ItemD (PD k)) (sz := 4) (R := ItemAt (PlainAt k) (ghost w)) (fun x => 1 + (x.box.map (totP k)).sum) htis ci (by omega) (fun n' hn' cs' x' h' => by
      obtain ⟨xs', m', rfl, hx', hlen', hxl', hf'⟩ := DataW.trod_struct hi h'
      rw [ci] at hlen'
      have hxl4 : xs'.length = 4 := by
        have := congrArg List.length efi
        simp at this; omega
      match cs', hlen', xs', hxl4 with
      | [d0, d1, d2, d3], _, [z0, z1, z2, z3], _ =>
      obtain ⟨f0, h0, e0, o0⟩ := fld fi 0 tint 0 (by rw [efi]; rfl)
      obtain ⟨f1, h1, e1, o1⟩ := fld fi 1 tf 1 (by rw [efi]; rfl)
      obtain ⟨f2, h2, e2, o2⟩ := fld fi 2 tr 2 (by rw [efi]; rfl)
      obtain ⟨f3, h3, e3, o3⟩ := fld fi 3 tb 3 (by rw [efi]; rfl)
      have g0 := hf' 0 f0 h0
      have g1 := hf' 1 f1 h1
      have g2 := hf' 2 f2 h2
      have g3 := hf' 3 f3 h3
      rw [e0, o0, cint] at g0
      rw [e1, o1, cf] at g1
      rw [e2, o2, cr] at g2
      rw [e3, o3, ctb] at g3
      simp at g0 g1 g2 g3
      obtain ⟨kd, ek, _, _⟩ := DataW.trod_int htint g0
      obtain ⟨nm, en, hn⟩ := open_f64 htf g1
      obtain ⟨ch, ec, _, _⟩ := DataW.trod_int htr g2
      obtain ⟨vb, lb, eb, hb, _, hbb⟩ := open_rowsB (α := PD k) (sz := 3) (R := PlainAt k (ghost w)) (totP k) htb cp (by omega) (fun n'' hn'' cs'' x'' h'' => ih n'' (by omega) k cs'' x'' (by omega) h'') g3
      simp only [List.cons.injEq, and_true] at ek en ec eb
      subst ek; subst en; subst ec; subst eb
      refine ⟨⟨kd, nm, ch, lb⟩, ⟨d3, rfl, hb, hn⟩, ?_⟩
      rw [hx']
      show 1 + (lb.map (totP k)).sum ≤ Rows.uptoBulk (.agg [z0.1, z1.1, z2.1, z3.1])
      rw [Rows.uptoBulk, Rows.uptoBulkAll, Rows.uptoBulkAll, Rows.uptoBulkAll, Rows.uptoBulkAll, Rows.uptoBulkAll]
      omega) g1
    simp only [List.cons.injEq, and_true] at es ei ef
    subst es; subst ei; subst ef
    refine ⟨(⟨ls, li, fill⟩ : PlainD (PD k)), ⟨c0, c1, rfl, hs, hli⟩, ?_⟩
    rw [totP_succ, hx]
    show 1 + (li.map fun x => 1 + (x.box.map (totP k)).sum).sum ≤ Rows.uptoBulk (.agg [y0.1, y1.1, y2.1])
    rw [Rows.uptoBulk, Rows.uptoBulkAll, Rows.uptoBulkAll, Rows.uptoBulkAll, Rows.uptoBulkAll]
    omega
end
end Go.Proofs.YtmojpbfkpggjhaaGreat
