/-
  Own texts of the claim, merged: PlainS, Sa, Sb, Sc, Sd, Se, Sg, Kj, Sh, Yc, Yd, Yf, Yg, Aa, Ab, Ac, Ad. Lemmas of the proof; no statement is proved here.
-/
import Derived.Test.YtmojpbfkpggjhaaGreatMc
import Derived.Lib.TrailingZeros
import Derived.Lib.AppendZerosOnto
import Derived.Lib.Overlaps
/-
  Plain laws of the places of bits that are true. No statement is proved here.
-/
namespace Go.Proofs.YtmojpbfkpggjhaaGreat
open Go Go.RowKit
set_option linter.unusedVariables false
set_option linter.unusedSimpArgs false

end Go.Proofs.YtmojpbfkpggjhaaGreat

/-
  Contracts of package math/bits and of bitvec's places that are true: the table of one variable is read. No statement is proved here.
-/
namespace Go.Proofs.YtmojpbfkpggjhaaGreat
open Go Go.RowKit
set_option linter.unusedVariables false
set_option linter.unusedSimpArgs false
set_option maxHeartbeats 4000000
attribute [local irreducible] CW RW QW SW HW ConM retM heldQ calmQ elemP thenQ blockQ loopQ joinQ retQ Yields Con Sl elemQ
set_option maxHeartbeats 2000000

section
variable {P : Program} {T : Tab P} {n : Nat} {L : Env} {w : World} {ty : TypeId} {x y : Operand} {t : TypeId}
end
end Go.Proofs.YtmojpbfkpggjhaaGreat

/-
  Contracts of package pick: places taken, dropped, and taken so often as counts say. No statement is proved here.
-/
namespace Go.Proofs.YtmojpbfkpggjhaaGreat
open Go Go.RowKit
set_option linter.unusedVariables false
set_option linter.unusedSimpArgs false
set_option maxHeartbeats 4000000
attribute [local irreducible] CW RW QW SW HW ConM retM heldQ calmQ elemP thenQ blockQ loopQ joinQ retQ Yields Con Sl zF magR unitF truncF fwF wholeF tidySpec elemQ rankF leastN tidyW
set_option maxHeartbeats 4000000

end Go.Proofs.YtmojpbfkpggjhaaGreat

/-
  Contracts of the document's answer of layer 15: places turned, taken and dropped. No statement is proved here.
-/
namespace Go.Proofs.YtmojpbfkpggjhaaGreat
open Go Go.RowKit
set_option linter.unusedVariables false
set_option linter.unusedSimpArgs false
set_option maxHeartbeats 4000000
attribute [local irreducible] CW RW QW SW HW ConM retM heldQ calmQ elemP thenQ blockQ loopQ joinQ retQ Yields Con Sl zF magR unitF truncF fwF wholeF tidySpec elemQ rankF leastN tidyW
set_option maxHeartbeats 4000000

end Go.Proofs.YtmojpbfkpggjhaaGreat

/-
  Contract of package pick: places taken so often as counts say. No statement is proved here.
-/
namespace Go.Proofs.YtmojpbfkpggjhaaGreat
open Go Go.RowKit
set_option linter.unusedVariables false
set_option linter.unusedSimpArgs false
set_option maxHeartbeats 4000000
attribute [local irreducible] CW RW QW SW HW ConM retM heldQ calmQ elemP thenQ blockQ loopQ joinQ retQ Yields Con Sl zF magR unitF truncF fwF wholeF tidySpec elemQ rankF leastN tidyW
set_option maxHeartbeats 4000000

section
variable {α : Type} {R : GHeap → List Value → α → Prop}
end
end Go.Proofs.YtmojpbfkpggjhaaGreat

/-
  Contract of the example of layer 15. No statement is proved here.
-/
namespace Go.Proofs.YtmojpbfkpggjhaaGreat
open Go Go.RowKit
set_option linter.unusedVariables false
set_option linter.unusedSimpArgs false
set_option maxHeartbeats 4000000
attribute [local irreducible] CW RW QW SW HW ConM retM heldQ calmQ elemP thenQ blockQ loopQ joinQ retQ Yields Con Sl zF magR unitF truncF fwF wholeF tidySpec elemQ rankF leastN tidyW
set_option maxHeartbeats 4000000

end Go.Proofs.YtmojpbfkpggjhaaGreat

/-
  Contract of the document's answer of layer 15: items picked along an axis. No statement is proved here.
-/
namespace Go.Proofs.YtmojpbfkpggjhaaGreat
open Go Go.RowKit
set_option linter.unusedVariables false
set_option linter.unusedSimpArgs false
set_option maxHeartbeats 4000000
attribute [local irreducible] CW RW QW SW HW ConM retM heldQ calmQ elemP thenQ blockQ loopQ joinQ retQ Yields Con Sl zF magR unitF truncF fwF wholeF tidySpec elemQ rankF leastN tidyW
set_option maxHeartbeats 4000000

section
variable {β : Type} {R : GHeap → List Value → β → Prop}
end
end Go.Proofs.YtmojpbfkpggjhaaGreat

/-
  Contracts of the law's own functions of layer 8: elements cut, repeated and turned. No statement is proved here.
-/
namespace Go.Proofs.YtmojpbfkpggjhaaGreat
open Go Go.RowKit
set_option linter.unusedVariables false
set_option linter.unusedSimpArgs false
set_option maxHeartbeats 4000000
attribute [local irreducible] CW RW QW SW HW ConM retM heldQ calmQ elemP thenQ blockQ loopQ joinQ retQ Yields Con Sl zF magR unitF truncF fwF wholeF tidySpec elemQ rankF leastN tidyW
set_option maxHeartbeats 8000000

theorem AllN.drop {α : Type} {sz : Nat} {R : List Value → α → Prop} : ∀ (j : Nat) {xs : List Value} {l : List α}, AllN sz R xs l → AllN sz R (xs.drop (j * sz)) (l.drop j)
  | 0, xs, l, h => by simpa using h
  | j + 1, xs, [], h => by have : xs = [] := h; rw [this]; simp; rfl
  | j + 1, xs, a :: l, h => by
    have := AllN.drop j h.2.2
    rw [List.drop_drop] at this
    rw [List.drop_succ_cons, Nat.add_mul, Nat.one_mul, Nat.add_comm]
    exact this
theorem AllN.take {α : Type} {sz : Nat} {R : List Value → α → Prop} : ∀ (j : Nat) {xs : List Value} {l : List α}, AllN sz R xs l → AllN sz R (xs.take (j * sz)) (l.take j)
  | 0, xs, l, h => by simp; rfl
  | j + 1, xs, [], h => by have : xs = [] := h; rw [this]; simp; rfl
  | j + 1, xs, a :: l, h => by
    have h2 := AllN.take j h.2.2
    have h1 := h.1
    have e : (xs.take ((j + 1) * sz)).take sz = xs.take sz := by rw [List.take_take, Nat.add_mul, Nat.one_mul, Nat.min_eq_left (by omega)]
    refine ⟨by rw [e]; exact h1, by rw [e]; exact h.2.1, ?_⟩
    rw [List.drop_take, Nat.add_mul, Nat.one_mul, Nat.add_sub_cancel]
    exact h2
theorem RowsAt.sub {α : Type} {sz : Nat} {R : List Value → α → Prop} {h : GHeap} {ad : Option Addr} {n cp x y : Nat} {l : List α} (hl : RowsAt sz R h (.slice ad n cp) l) (hx : x ≤ y) (hy : y ≤ l.length) : RowsAt sz R h (.slice (subAd ad x cp sz) (y - x) (cp - x)) ((l.drop x).take (y - x)) := by
  obtain ⟨ad', cp', xs, e, hS, hA⟩ := hl
  cases e
  have h1 := (hS.from x (by omega)).take (y - x) (by omega)
  have hlen : ((l.drop x).take (y - x)).length = y - x := by simp; omega
  refine ⟨_, _, _, by rw [hlen], by rw [hlen]; exact h1, ?_⟩
  exact (hA.drop x).take (y - x)
end Go.Proofs.YtmojpbfkpggjhaaGreat

/-
  Contract of the law's own function of layer 15: elements picked along an axis. No statement is proved here.
-/
namespace Go.Proofs.YtmojpbfkpggjhaaGreat
open Go Go.RowKit
set_option linter.unusedVariables false
set_option linter.unusedSimpArgs false
set_option maxHeartbeats 4000000
attribute [local irreducible] CW RW QW SW HW ConM retM heldQ calmQ elemP thenQ blockQ loopQ joinQ retQ Yields Con Sl zF magR unitF truncF fwF wholeF tidySpec elemQ rankF leastN tidyW
set_option maxHeartbeats 4000000

section
variable {P : Program} {n : Nat} {L : Env} {w : World} {ty : TypeId} {x y : Operand} {t yt : TypeId}
end
end Go.Proofs.YtmojpbfkpggjhaaGreat

/-
  Contracts of the document's answer of layer 22: axes that an array lacks. No statement is proved here.
-/
namespace Go.Proofs.YtmojpbfkpggjhaaGreat
open Go Go.RowKit
set_option linter.unusedVariables false
set_option linter.unusedSimpArgs false
set_option maxHeartbeats 4000000
attribute [local irreducible] CW RW QW SW HW ConM retM heldQ calmQ elemP thenQ blockQ loopQ joinQ retQ Yields Con Sl zF magR unitF truncF fwF wholeF tidySpec elemQ rankF leastN tidyW
set_option maxHeartbeats 4000000

theorem sl_none {h : GHeap} {sz n cp : Nat} {ad : Option Addr} {xs : List Value} (hS : Sl h sz ad n cp xs) : ad = none → cp = 0 := fun e => by subst e; exact hS.nil0.2
theorem Y.sliceLoN {P : Program} {n : Nat} {L : Env} {w : World} {ty t : TypeId} {x : Operand} (T : Tab P) {e : TypeId} {i : Inf} {ad : Option Addr} {m cp u : Nat} {lo : Operand} (hT : T.ty t = some (.slice e)) (hI : T.inf e = some i) (hx : opv L x = some (.slice ad m cp)) (hh : opv L lo = some (.int .i64 (u : Int))) (h0' : u ≤ m) (hm : m ≤ cp := by omega) :
    Yields P n L w (.slice t x (some lo) none none) ty (.slice (subAd ad u cp i.size) (m - u) (cp - u)) := by
  have := Y.sliceLo T (P := P) (n := n) (w := w) (ty := ty) hT hI hx hh ⟨by omega, by omega⟩ hm
  exact this
noncomputable def spP {β : Type} (p : PlainD (PlainD β)) (s : List Int) (j : Nat) : PlainD (PlainD β) := if spE p.shape s = 0 then spQ p s j else zeroQ
theorem refAllN_con (s : Value) (l : List Int) (most : Nat) (w : World) (h : GHeap) (hl : IntsAt h s l) (hm : l.length ≤ 8) (hmo : most ≤ 100000) (hg : goodS l = true) : Con Tryz.prog 96 [s, .int .i64 most] w h
    (fun h' v => ListsAt h' v (allSpec most l)) := by
  have hl' := hl
  obtain ⟨ad, cp, rfl, hS⟩ := hl
  have hS0 := hS
  have hle : ∀ k, (allSpec most (l.take k)).length ≤ most + 1 := by
    intro k
    unfold allSpec
    rcases List.eq_nil_or_concat (l.take k) with e | ⟨a, b, e⟩
    · rw [e]; simp
    · rw [e, List.concat_eq_append, List.foldl_append]
      simp only [List.foldl_cons, List.foldl_nil, allStep, List.length_take]
      omega
  refine Con.of_body Tryz.func96 rfl Tryz.ntmps96 rfl rfl ?_
  intro hs
  refine Zrun ?_
  (refine RW.lit T hs (vs := []) rfl rfl rfl rfl (by simp [Value.cells]) rfl rfl rfl rfl rfl ?_; intro b1 w1 hs)
  obtain ⟨h1, hle1, hs, hS1⟩ := hs.freeze
  have hI1 : IntsAt h1 (.slice (some ⟨b1, 0, none⟩) 0 0) [] := IntsAt.of_sl hS1
  (refine RW.lit T hs (vs := [.slice (some ⟨b1, 0, none⟩) 0 0]) rfl rfl rfl rfl (by simp [Value.cells]) rfl rfl rfl rfl rfl ?_; intro b2 w2 hs)
  obtain ⟨h2, hle2, hs, hS2⟩ := hs.freeze
  have hL2 : ListsAt h2 (.slice (some ⟨b2, 0, none⟩) 1 1) (allSpec most (l.take 0)) := ⟨_, _, [.slice (some ⟨b1, 0, none⟩) 0 0], rfl, hS2, ⟨hI1.mono hle2, trivial⟩⟩
  have hS := (hS.mono hle1).mono hle2
  have hh2 : GLe h h2 := hle1.trans hle2
  refine Zrun ?_
  refine CW.loop (fun p : Nat × Value × GHeap => [(0, .slice ad l.length cp), (1, .int .i64 most), (5, p.2.1), (6, .int .i64 p.1)]) (fun p w' => p.1 ≤ l.length ∧ GLe h p.2.2 ∧ ListsAt p.2.2 p.2.1 (allSpec most (l.take p.1)) ∧ Sees w h p.2.2 [] w') (fun p => l.length - p.1) (0, _, h2) ⟨rfl, rfl, rfl, rfl, trivial⟩ ⟨by omega, hh2, hL2, hs⟩ ?_
  rintro ⟨k, u, hh⟩ w' ⟨hk, hhh, hL, hs⟩
  dsimp only at hk hhh hL hs ⊢
  have hLL := hL
  obtain ⟨ad5, cp5, us, rfl, hS5, hA5⟩ := hL
  by_cases hlt : k < l.length
  · have hstep := allSpec_take_succ most l k hlt
    have hls := hle k
    have hdk := good_getD l ((goodS_iff l).1 hg) k hlt
    have hxl : ∀ x ∈ allSpec most (l.take k), x.length ≤ 8 := fun x hx => by have := all_len most _ x hx; rw [this, List.length_take]; omega
    have hS := hS0.mono hhh
    generalize allSpec most (l.take k) = ls at *
    have hlu := hA5.length
    refine Zrun ?_
    have hs := hs.nilRow 22 1
    refine CW.loop (fun p : Nat × Option Addr × Nat × List Value × GHeap => [(0, .slice ad l.length cp), (1, .int .i64 most), (5, .slice ad5 ls.length cp5), (6, .int .i64 k), (7, .slice p.2.1 p.2.2.2.1.length p.2.2.1), (8, .int .i64 p.1)]) (fun p w' => p.1 ≤ ls.length ∧ GLe hh p.2.2.2.2 ∧ AllAt (IntsAt p.2.2.2.2) p.2.2.2.1 (((ls.take p.1).flatMap (allRow (l.getD k 0))).take most) ∧ Sees w h p.2.2.2.2 [⟨p.2.1, p.2.2.2.1.length, p.2.2.1, 22, 1, p.2.2.2.1⟩] w') (fun p => ls.length - p.1) (0, none, 0, [], hh) ⟨rfl, rfl, rfl, rfl, rfl, rfl, trivial⟩ ⟨by omega, GLe.refl _, by simp [AllAt], hs⟩ ?_
    rintro ⟨q, ra, rc, vs, h3⟩ w3 ⟨hq, hh3, hA3, hs⟩
    dsimp only at hq hh3 hA3 hs ⊢
    have hvl := hA3.length
    have hvm : vs.length ≤ most := by rw [hvl, List.length_take]; omega
    have hS := hS.mono hh3
    have hS5 := hS5.mono hh3
    have hA5 := hA5.mono (fun _ _ => IntsAt.mono hh3)
    by_cases hgo : q < ls.length ∧ vs.length < most
    · obtain ⟨hq1, hv1⟩ := hgo
      obtain ⟨u5, hu5, hI5⟩ := hA5.get [] q hq1
      rw [take_short _ _ (by omega)] at hA3
      have hX : (ls.take (q + 1)).flatMap (allRow (l.getD k 0)) = (ls.take q).flatMap (allRow (l.getD k 0)) ++ allRow (l.getD k 0) (ls.getD q []) := by
        rw [take_snoc ls q [] hq1, List.flatMap_append]; simp
      have hrow : allRow (l.getD k 0) (ls.getD q []) = (List.range (l.getD k 0).toNat).map fun (j : Nat) => ls.getD q [] ++ [(j : Int)] := rfl
      generalize (ls.take q).flatMap (allRow (l.getD k 0)) = xs at hA3 hX
      have hx5 : (ls.getD q []).length ≤ 8 := hxl _ (by simp [List.getD_eq_getElem?_getD, hq1])
      generalize ls.getD q [] = x5 at hI5 hX hrow hx5
      refine Zrun ?_
      refine CW.loop (fun p : Nat × Option Addr × Nat × List Value × GHeap => [(0, .slice ad l.length cp), (1, .int .i64 most), (5, .slice ad5 ls.length cp5), (6, .int .i64 k), (7, .slice p.2.1 p.2.2.2.1.length p.2.2.1), (8, .int .i64 q), (9, .int .i64 p.1)]) (fun p w' => p.1 ≤ (l.getD k 0).toNat ∧ GLe h3 p.2.2.2.2 ∧ AllAt (IntsAt p.2.2.2.2) p.2.2.2.1 ((xs ++ (List.range p.1).map fun (j : Nat) => x5 ++ [(j : Int)]).take most) ∧ Sees w h p.2.2.2.2 [⟨p.2.1, p.2.2.2.1.length, p.2.2.1, 22, 1, p.2.2.2.1⟩] w') (fun p => (l.getD k 0).toNat - p.1) (0, ra, rc, vs, h3) ⟨rfl, rfl, rfl, rfl, rfl, rfl, rfl, trivial⟩ ⟨by omega, GLe.refl _, by simp; rw [List.take_of_length_le (by have := hA3.length; omega)]; exact hA3, hs⟩ ?_
      rintro ⟨j, rb, rd, ws, h4⟩ w4 ⟨hj, hh4, hA4, hs⟩
      dsimp only at hj hh4 hA4 hs ⊢
      have hwl := hA4.length
      have hwm : ws.length ≤ most := by rw [hwl, List.length_take]; omega
      have hS := hS.mono hh4
      have hS5 := hS5.mono hh4
      have hI5 := hI5.mono hh4
      by_cases hgo2 : (j : Int) < l.getD k 0 ∧ ws.length < most
      · obtain ⟨hj1, hw1⟩ := hgo2
        refine Zrun ?_
        rw [take_short _ _ (by omega)] at hA4
        obtain ⟨ad6, cp6, rfl, hS6⟩ := hI5
        (refine RW.lit T hs (vs := []) rfl rfl rfl rfl (by simp [Value.cells]) rfl rfl rfl rfl rfl ?_; intro b5 w5 hs)
        refine Zrun ?_
        refine RW.append T hs 0 rfl rfl (m := x5.length) (news := x5.map (Value.int .i64)) rfl rfl rfl rfl rfl rfl (hS6.src hs.agree (one_ints _ _)) (fun e => by subst e; exact hS6.nil0.2) (by dsimp only; omega) (by omega) ?_
        intro ad7 cp7 w7 hs
        refine Zrun ?_
        (refine RW.lit T hs (vs := [.int .i64 j]) rfl rfl rfl rfl (by simp [Value.cells]) rfl rfl rfl rfl rfl ?_; intro b8 w8 hs)
        refine RW.append T hs 1 rfl rfl (m := 1) (news := [.int .i64 j]) rfl rfl rfl rfl rfl rfl ⟨rfl, by simp [Value.oneCell'], by simp, fun p hp j u hj => ?_⟩ (by simp) (by dsimp only; omega) (by omega) ?_
        · cases hp
          rw [Addr.add_lit]
          exact hs.rowCell (k := 0) rfl (by simpa [Value.cells] using hj)
        intro ad9 cp9 w9 hs
        replace hs := hs.drop
        obtain ⟨h9, hle9, hs, hS9⟩ := hs.freeze
        have hI9 : IntsAt h9 (.slice ad9 (0 + x5.length + 1) cp9) (x5 ++ [(j : Int)]) := by
          refine IntsAt.of_sl ?_
          rw [List.map_append]; exact hS9
        (refine RW.lit T hs (vs := [.slice ad9 (0 + x5.length + 1) cp9]) rfl rfl rfl rfl (by simp [Value.cells]) rfl rfl rfl rfl rfl ?_; intro b10 w10 hs)
        refine RW.append T hs 1 rfl rfl (m := 1) (news := [.slice ad9 (0 + x5.length + 1) cp9]) rfl rfl rfl rfl rfl rfl ⟨rfl, by simp [Value.oneCell'], by simp, fun p hp j u hj => ?_⟩ (by simp) (by dsimp only; omega) (by omega) ?_
        · cases hp
          rw [Addr.add_lit]
          exact hs.rowCell (k := 0) rfl (by simpa [Value.cells] using hj)
        intro ad11 cp11 w11 hs
        replace hs := hs.drop
        refine Zrun ?_
        have e1 : (ws ++ [Value.slice ad9 (0 + x5.length + 1) cp9]).length = ws.length + 1 := by simp
        refine loopQ_round (j + 1, ad11, cp11, ws ++ [.slice ad9 (0 + x5.length + 1) cp9], h9) ⟨rfl, rfl, rfl, rfl, by dsimp only; rw [e1]; rfl, rfl, rfl, trivial⟩ ⟨by dsimp only; omega, hh4.trans hle9, ?_, ?_⟩ (by dsimp only; omega)
        · dsimp only
          rw [List.range_succ, List.map_append, ← List.append_assoc, List.take_of_length_le (by have := hA4.length; simp only [List.length_append, List.length_map, List.length_range, List.length_cons, List.length_nil] at this ⊢; omega)]
          exact (hA4.mono (fun _ _ => IntsAt.mono hle9)).append ⟨hI9, trivial⟩
        · dsimp only
          rw [e1]; exact hs
      · have hfin : (xs ++ (List.range j).map fun (j : Nat) => x5 ++ [(j : Int)]).take most = ((ls.take (q + 1)).flatMap (allRow (l.getD k 0))).take most := by
          rw [hX, hrow]
          by_cases hjd : (j : Int) < l.getD k 0
          · have hnl : ¬ ((xs ++ (List.range j).map fun (j : Nat) => x5 ++ [(j : Int)]).take most).length < most := by rw [← hwl]; exact fun e => hgo2 ⟨hjd, e⟩
            obtain ⟨e, he⟩ : ∃ e, (l.getD k 0).toNat = j + e := ⟨(l.getD k 0).toNat - j, by omega⟩
            rw [he, List.range_add, List.map_append, ← List.append_assoc, take_full _ _ _ hnl]
          · rw [show (l.getD k 0).toNat = j by omega]
        rw [hfin] at hA4
        by_cases hjd : (j : Int) < l.getD k 0
        · have hwn : ¬ ws.length < most := fun e => hgo2 ⟨hjd, e⟩
          refine Zrun ?_
          exact loopQ_round (q + 1, rb, rd, ws, h4) ⟨rfl, rfl, rfl, rfl, rfl, rfl, trivial⟩ ⟨by dsimp only; omega, hh3.trans hh4, hA4, hs⟩ (by dsimp only; omega)
        · refine Zrun ?_
          exact loopQ_round (q + 1, rb, rd, ws, h4) ⟨rfl, rfl, rfl, rfl, rfl, rfl, trivial⟩ ⟨by dsimp only; omega, hh3.trans hh4, hA4, hs⟩ (by dsimp only; omega)
    · have hfin : ((ls.take q).flatMap (allRow (l.getD k 0))).take most = allSpec most (l.take (k + 1)) := by
        rw [hstep]
        unfold allStep
        by_cases hq1 : q < ls.length
        · have hnl : ¬ (((ls.take q).flatMap (allRow (l.getD k 0))).take most).length < most := by rw [← hvl]; exact fun e => hgo ⟨hq1, e⟩
          have e : ls.flatMap (allRow (l.getD k 0)) = (ls.take q).flatMap (allRow (l.getD k 0)) ++ (ls.drop q).flatMap (allRow (l.getD k 0)) := by rw [← List.flatMap_append, List.take_append_drop]
          rw [e, take_full _ _ _ hnl]
        · rw [List.take_of_length_le (l := ls) (by omega)]
      rw [hfin] at hA3
      obtain ⟨h12, hle12, hs, hS12⟩ := hs.freeze
      have hLn : ListsAt h12 (.slice ra vs.length rc) (allSpec most (l.take (k + 1))) := by
        have hl3 := hA3.length
        refine ⟨ra, rc, vs, by rw [hl3], ?_, hA3.mono (fun _ _ => IntsAt.mono hle12)⟩
        rw [← hl3]; exact hS12
      by_cases hq1 : q < ls.length
      · have hvn : ¬ vs.length < most := fun e => hgo ⟨hq1, e⟩
        refine Zrun ?_
        exact loopQ_round (k + 1, _, h12) ⟨rfl, rfl, rfl, rfl, trivial⟩ ⟨by dsimp only; omega, (hhh.trans hh3).trans hle12, hLn, hs⟩ (by dsimp only; omega)
      · refine Zrun ?_
        exact loopQ_round (k + 1, _, h12) ⟨rfl, rfl, rfl, rfl, trivial⟩ ⟨by dsimp only; omega, (hhh.trans hh3).trans hle12, hLn, hs⟩ (by dsimp only; omega)
  · obtain rfl : k = l.length := by omega
    refine Zrun ?_
    refine retQ_ret [_] hh ⟨rfl, trivial⟩ hs ?_
    rw [show allSpec most l = allSpec most (l.take l.length) by rw [List.take_length]]
    exact hLL

theorem ref22Spread_con (k : Nat) (cp0 : List Value) (p : PlainD (PD (k + 1))) (sv : Value) (s : List Int) (j : Nat) (w : World) (h : GHeap) (hp : PlainAt (k + 2) h cp0 p) (hsv : IntsAt h sv s) (hj : j < s.length) (hg : goodS s = true) (hsh : p.shape.length ≤ 8) (hjk : p.shape.length + 1 = s.length → j ≤ p.shape.length) :
    Con Tryz.prog 93 [.agg cp0.toArray, sv, .int .i64 (j : Int)] w h (fun h' u => ∃ cs', u = .tuple #[.agg cs'.toArray, .int .i64 (spE p.shape s)] ∧ PlainAt (k + 2) h' cs' (spP p s j)) := by
  have hp' := hp
  obtain ⟨_, _, rfl, ⟨adp, cpp, rfl, hSp⟩, hitp⟩ := hp
  have hitp' := hitp
  obtain ⟨aip, cip, xsp, rfl, hSIp, hAIp⟩ := hitp
  have mp : ∀ h', GLe h h' → PlainAt (k + 2) h' [.slice adp p.shape.length cpp, .slice aip p.items.length cip, .int .i64 p.fill] p := fun h' hl => PlainAt.mono (k + 2) _ _ _ _ hl hp'
  have hsv' := hsv
  obtain ⟨ads, cps, rfl, hSs⟩ := hsv
  have h8 := ((goodS_spec s).1 hg).1
  refine Con.of_body Tryz.func93 rfl Tryz.ntmps93 rfl rfl ?_
  intro hs
  refine Zrun ?_
  (refine RW.boxN hs rfl rfl ?_; intro b1 w1 hs)
  (refine RW.allocN T hs rfl rfl rfl rfl ?_; intro b2 w2 hs)
  have hcap := hSp.caps
  by_cases c1 : p.shape.length = s.length
  · have c1' : (p.shape.length : Int) = s.length := by omega
    have e0 : spE p.shape s = 0 := by unfold spE; rw [if_pos (.inl c1)]
    have e1 : spP p s j = p := by unfold spP; rw [if_pos e0]; unfold spQ spS spI; (rw [if_pos c1, if_pos c1]); try rfl
    rw [e0, e1]
    refine Zerun ?_
    (refine RW.storeAll T hs 0 rfl rfl rfl rfl rfl rfl rfl rfl ?_; intro w3 hs)
    refine Zerun ?_
    exact retQ_ret [_, _] h ⟨resN T hs 0 rfl rfl rfl rfl rfl rfl, rfl, trivial⟩ hs.dropAll ⟨_, rfl, hp'⟩
  by_cases c2 : p.shape.length = 0
  · have c2' : (p.shape.length : Int) = 0 := by omega
    have c1' : ¬ (p.shape.length : Int) = s.length := by omega
    have e0 : spE p.shape s = 0 := by unfold spE; rw [if_pos (.inr (.inl c2))]
    have e1 : spP p s j = (⟨s.set j 1, (againL (spN s j).toNat p.items.length).map fun i => atD p.items i (blankI p.fill), p.fill⟩ : PlainD (PlainD (PD k))) := by unfold spP; rw [if_pos e0]; unfold spQ spS spI; (rw [if_neg c1, if_pos c2, if_neg c1, if_pos c2]); try rfl
    obtain ⟨p1, p2, p3⟩ := spN_spec hg j
    rw [e0, e1]
    refine Zerun ?_
    (refine RW.call T hs rfl rfl rfl (refWith_con _ s j 1 _ _ hsv' (by omega) hj) ?_; intro v h5 w5 hle5 hp5 hs)
    have hI5 := hp5
    obtain ⟨ad5, cp5, rfl, _⟩ := hp5
    refine Zerun ?_
    (refine RW.call T hs rfl rfl rfl (refProduct_con _ (s.set j 1) 1048576 _ _ hI5 (by rw [List.length_set]; omega)) ?_; intro v h6 w6 hle6 hp6 hs)
    subst hp6
    rw [p1]
    have hI5 := hI5.mono hle6
    have hitp' := hitp'.mono (hle5.trans hle6) (fun u a => ItemAt.mono (PlainAt.mono (k + 1)) _ _ u a (hle5.trans hle6))
    refine Zerun ?_
    refine CW.regionR T 1 1 hs rfl rfl ?_
    intro w30 hs
    refine HW.takeR (fuel := 11) 0 rfl (fun _ _ ka kb _ hs hka hkb => Y.move rfl) ⟨_, _, 1, 1, hs, rfl, rfl⟩ rfl (by kernel_rfl) (by kernel_rfl) (by kernel_rfl) ?_
    refine HW.takeR (fuel := 10) 1 rfl (fun _ _ ka kb _ hs hka hkb => Y.fieldAddr T rfl rfl rfl rfl rfl) ⟨_, _, 1, 1, hs, rfl, rfl⟩ rfl (by kernel_rfl) (by kernel_rfl) (by kernel_rfl) ?_
    refine HW.takeR (fuel := 9) 2 rfl (fun _ _ ka kb _ hs hka hkb => Y.loadRow1 T hs ka hka rfl rfl rfl rfl) ⟨_, _, 1, 1, hs, rfl, rfl⟩ rfl (by kernel_rfl) (by kernel_rfl) (by kernel_rfl) ?_
    refine HW.takeR (fuel := 8) 3 rfl (fun _ _ ka kb _ hs hka hkb => Y.fieldAddr T rfl rfl rfl rfl rfl) ⟨_, _, 1, 1, hs, rfl, rfl⟩ rfl (by kernel_rfl) (by kernel_rfl) (by kernel_rfl) ?_
    refine HW.takeR (fuel := 7) 4 rfl (fun _ _ ka kb _ hs hka hkb => Y.loadRow1 T hs ka hka rfl rfl rfl rfl) ⟨_, _, 1, 1, hs, rfl, rfl⟩ rfl (by kernel_rfl) (by kernel_rfl) (by kernel_rfl) ?_
    refine HW.takeR (fuel := 6) 5 rfl (fun _ _ ka kb _ hs hka hkb => Y.move rfl) ⟨_, _, 1, 1, hs, rfl, rfl⟩ rfl (by kernel_rfl) (by kernel_rfl) (by kernel_rfl) ?_
    refine HW.takeR (fuel := 5) 7 rfl (fun _ _ ka kb _ hs hka hkb => Y.fieldAddr T rfl rfl rfl rfl rfl) ⟨_, _, 1, 1, hs, rfl, rfl⟩ rfl (by kernel_rfl) (by kernel_rfl) (by kernel_rfl) ?_
    refine HW.takeR (fuel := 4) 8 rfl (fun _ _ ka kb _ hs hka hkb => Y.loadRow1 T hs ka hka rfl rfl rfl rfl) ⟨_, _, 1, 1, hs, rfl, rfl⟩ rfl (by kernel_rfl) (by kernel_rfl) (by kernel_rfl) ?_
    refine HW.one (fuel := 3) 6 rfl (by kernel_rfl) ?_
    (refine RW.call T hs rfl rfl rfl (refAgain08_con (R := PlainAt k) (PlainAt.mono k) _ p.items p.fill (spN s j) _ _ hitp' p3) ?_; intro v h7 w7 hle7 hp7 hs)
    have hI5 := hI5.mono hle7
    obtain ⟨ai7, ci7, xs7, rfl, _, _⟩ := id hp7
    refine RW.nil ?_
    refine heldQ_normal ⟨_, _, 1, 1, hs, rfl, rfl⟩ ?_
    refine HW.takeR (fuel := 2) 9 rfl (fun _ _ ka kb _ hs hka hkb => Y.build T rfl rfl rfl rfl rfl rfl rfl) ⟨_, _, 1, 1, hs, rfl, rfl⟩ rfl (by kernel_rfl) (by kernel_rfl) (by kernel_rfl) ?_
    refine HW.one (fuel := 1) 10 rfl (by kernel_rfl) ?_
    (refine RW.storeAll T hs 0 rfl rfl rfl rfl rfl rfl rfl rfl ?_; intro w8 hs)
    refine RW.nil ?_
    refine heldQ_normal ⟨_, _, 1, 1, hs, rfl, rfl⟩ ?_
    refine HW.takeR (fuel := 0) 11 rfl (fun _ _ ka kb _ hs hka hkb => Y.assign rfl) ⟨_, _, 1, 1, hs, rfl, rfl⟩ rfl (by kernel_rfl) (by kernel_rfl) (by kernel_rfl) ?_
    refine HW.done (by kernel_rfl) ?_
    refine calmQ_normal ?_
    refine Zerun ?_
    exact retQ_ret [_, _] h7 ⟨resN T hs 0 rfl rfl rfl rfl rfl rfl, rfl, trivial⟩ hs.dropAll ⟨_, rfl, _, _, rfl, hI5, hp7⟩
  have c1' : ¬ (p.shape.length : Int) = s.length := by omega
  have c2' : ¬ (p.shape.length : Int) = 0 := by omega
  by_cases c3 : p.shape.length + 1 = s.length
  rotate_left
  · have c3' : ¬ (p.shape.length : Int) = (s.length : Int) - 1 := by omega
    have e0 : spE p.shape s = 22 := by unfold spE; rw [if_neg (by omega)]
    have e1 : spP p s j = (zeroQ : PlainD (PlainD (PD k))) := by unfold spP; rw [if_neg (by omega)]
    rw [e0, e1]
    refine Zerun ?_
    refine RW.val (Y.build T rfl rfl rfl rfl rfl rfl rfl) rfl ?_
    (refine RW.storeAll T hs 0 rfl rfl rfl rfl rfl rfl rfl rfl ?_; intro w9 hs)
    refine Zerun ?_
    exact retQ_ret [_, _] h ⟨resN T hs 0 rfl rfl rfl rfl rfl rfl, rfl, trivial⟩ hs.dropAll ⟨_, rfl, ⟨_, _, rfl, IntsAt.nil _, RowsAt.nil _⟩⟩
  have c3' : (p.shape.length : Int) = (s.length : Int) - 1 := by omega
  have e0 : spE p.shape s = 0 := by unfold spE; rw [if_pos (.inr (.inr c3))]
  have hjl := hjk c3
  have e1 : spP p s j = (⟨p.shape.take j ++ 1 :: p.shape.drop j, p.items, p.fill⟩ : PlainD (PlainD (PD k))) := by unfold spP; rw [if_pos e0]; unfold spQ spS spI; (rw [if_neg c1, if_neg c2, if_neg c1, if_neg c2]); try rfl
  rw [e0, e1]
  refine Zerun ?_
  (refine RW.lit T hs (vs := []) rfl rfl rfl rfl (by simp [Value.cells]) rfl rfl rfl rfl rfl ?_; intro b3 w3 hs)
  refine Zerun ?_
  refine RW.val (Y.sliceHi (u := (j : Int)) T rfl rfl rfl rfl ⟨by omega, by omega⟩) rfl ?_
  rw [Int.toNat_natCast]
  have hT4 : Sl h 1 adp j cpp ((p.shape.take j).map (Value.int .i64)) := by
    have := hSp.take j hjl
    rw [Nat.mul_one, ← List.map_take] at this
    exact this
  refine RW.append T hs 0 rfl rfl (m := j) (news := (p.shape.take j).map (Value.int .i64)) rfl rfl rfl rfl rfl rfl (hT4.src hs.agree (one_ints _ _)) (fun e => by subst e; exact hT4.nil0.2) (by dsimp only; omega) (by omega) ?_
  intro ad5 cp5 w5 hs
  simp only [List.nil_append, Nat.zero_add, List.flatMap_nil] at hs ⊢
  refine Zerun ?_
  (refine RW.lit T hs (vs := [.int .i64 1]) (cs := [.int .i64 1]) rfl rfl rfl rfl (by simp [Value.cells]) rfl rfl rfl rfl rfl ?_; intro b6 w6 hs)
  (refine RW.append T hs 1 rfl rfl (m := 1) (news := [.int .i64 1]) rfl rfl rfl rfl rfl rfl (hs.src0 rfl (by simp [Value.oneCell'])) (by simp) (by dsimp only; omega) (by omega) ?_; intro ad7 cp7 w7 hs; replace hs := hs.drop)
  refine Zerun ?_
  have hT8 : Sl h 1 (subAd adp j cpp 1) (p.shape.length - j) (cpp - j) ((p.shape.drop j).map (Value.int .i64)) := by
    have := hSp.from j hjl
    rw [Nat.mul_one, ← List.map_drop] at this
    exact this
  refine CW.regionR T 2 2 hs rfl rfl ?_
  intro w31 hs
  refine HW.takeR (fuel := 12) 0 rfl (fun _ _ ka kb _ hs hka hkb => Y.move rfl) ⟨_, _, 2, 2, hs, rfl, rfl⟩ rfl (by kernel_rfl) (by kernel_rfl) (by kernel_rfl) ?_
  refine HW.takeR (fuel := 11) 1 rfl (fun _ _ ka kb _ hs hka hkb => Y.fieldAddr T rfl rfl rfl rfl rfl) ⟨_, _, 2, 2, hs, rfl, rfl⟩ rfl (by kernel_rfl) (by kernel_rfl) (by kernel_rfl) ?_
  refine HW.takeR (fuel := 10) 2 rfl (fun _ _ ka kb _ hs hka hkb => Y.loadRow1 T hs ka hka rfl rfl rfl rfl) ⟨_, _, 2, 2, hs, rfl, rfl⟩ rfl (by kernel_rfl) (by kernel_rfl) (by kernel_rfl) ?_
  refine HW.takeR (fuel := 9) 3 rfl (fun _ _ ka kb _ hs hka hkb => Y.move rfl) ⟨_, _, 2, 2, hs, rfl, rfl⟩ rfl (by kernel_rfl) (by kernel_rfl) (by kernel_rfl) ?_
  refine HW.takeR (fuel := 8) 4 rfl (fun _ _ ka kb _ hs hka hkb => Y.sliceLoN T rfl rfl rfl rfl hjl) ⟨_, _, 2, 2, hs, rfl, rfl⟩ rfl (by kernel_rfl) (by kernel_rfl) (by kernel_rfl) ?_
  refine HW.takeR (fuel := 7) 6 rfl (fun _ _ ka kb _ hs hka hkb => Y.fieldAddr T rfl rfl rfl rfl rfl) ⟨_, _, 2, 2, hs, rfl, rfl⟩ rfl (by kernel_rfl) (by kernel_rfl) (by kernel_rfl) ?_
  refine HW.takeR (fuel := 6) 7 rfl (fun _ _ ka kb _ hs hka hkb => Y.loadRow1 T hs ka hka rfl rfl rfl rfl) ⟨_, _, 2, 2, hs, rfl, rfl⟩ rfl (by kernel_rfl) (by kernel_rfl) (by kernel_rfl) ?_
  refine HW.takeR (fuel := 5) 8 rfl (fun _ _ ka kb _ hs hka hkb => Y.fieldAddr T rfl rfl rfl rfl rfl) ⟨_, _, 2, 2, hs, rfl, rfl⟩ rfl (by kernel_rfl) (by kernel_rfl) (by kernel_rfl) ?_
  refine HW.takeR (fuel := 4) 9 rfl (fun _ _ ka kb _ hs hka hkb => Y.loadRow1 T hs ka hka rfl rfl rfl rfl) ⟨_, _, 2, 2, hs, rfl, rfl⟩ rfl (by kernel_rfl) (by kernel_rfl) (by kernel_rfl) ?_
  refine HW.one (fuel := 3) 5 rfl (by kernel_rfl) ?_
  refine RW.append T hs 0 rfl rfl (m := p.shape.length - j) (news := (p.shape.drop j).map (Value.int .i64)) rfl rfl rfl rfl rfl rfl (hT8.src hs.agree (one_ints _ _)) (sl_none hT8) (by dsimp only; omega) (by omega) ?_
  intro ad9 cp9 w9 hs
  refine RW.nil ?_
  refine heldQ_normal ⟨_, _, 2, 2, hs, rfl, rfl⟩ ?_
  refine HW.takeR (fuel := 2) 10 rfl (fun _ _ ka kb _ hs hka hkb => Y.build T rfl rfl rfl rfl rfl rfl rfl) ⟨_, _, 2, 2, hs, rfl, rfl⟩ rfl (by kernel_rfl) (by kernel_rfl) (by kernel_rfl) ?_
  refine HW.one (fuel := 1) 11 rfl (by kernel_rfl) ?_
  (refine RW.storeAll T hs 1 rfl rfl rfl rfl rfl rfl rfl rfl ?_; intro w10 hs)
  refine RW.nil ?_
  refine heldQ_normal ⟨_, _, 2, 2, hs, rfl, rfl⟩ ?_
  refine HW.takeR (fuel := 0) 12 rfl (fun _ _ ka kb _ hs hka hkb => Y.assign rfl) ⟨_, _, 2, 2, hs, rfl, rfl⟩ rfl (by kernel_rfl) (by kernel_rfl) (by kernel_rfl) ?_
  refine HW.done (by kernel_rfl) ?_
  refine calmQ_normal ?_
  obtain ⟨h11, hle11, hs, hS11⟩ := hs.freeze
  have hl11 : (p.shape.take j ++ 1 :: p.shape.drop j).length = j + 1 + (p.shape.length - j) := by rw [List.length_append, List.length_cons, List.length_take, List.length_drop]; omega
  have hI11 : IntsAt h11 (.slice ad9 (j + 1 + (p.shape.length - j)) cp9) (p.shape.take j ++ 1 :: p.shape.drop j) := by
    dsimp only at hS11
    rw [← hl11] at hS11 ⊢
    refine IntsAt.of_sl ?_
    rw [List.map_append, List.map_cons]
    simpa using hS11
  refine Zerun ?_
  exact retQ_ret [_, _] h11 ⟨resN T hs 0 rfl rfl rfl rfl rfl rfl, rfl, trivial⟩ hs.dropAll ⟨_, rfl, _, _, rfl, hI11, hitp'.mono hle11 (fun u a => ItemAt.mono (PlainAt.mono (k + 1)) _ _ u a hle11)⟩
end Go.Proofs.YtmojpbfkpggjhaaGreat

/-
  Contract of the document's answer of layer 22: arrays behind each other. No statement is proved here.
-/
namespace Go.Proofs.YtmojpbfkpggjhaaGreat
open Go Go.RowKit
set_option linter.unusedVariables false
set_option linter.unusedSimpArgs false
set_option maxHeartbeats 4000000
attribute [local irreducible] CW RW QW SW HW ConM retM heldQ calmQ elemP thenQ blockQ loopQ joinQ retQ Yields Con Sl zF magR unitF truncF fwF wholeF tidySpec elemQ rankF leastN tidyW
set_option maxHeartbeats 4000000

noncomputable def catR {k : Nat} (p q : PlainD (PD (k + 1))) (first : Bool) (most : Int) : Int × PlainD (PD (k + 1)) := catRx (β := PD k) p q (catSh p.shape q.shape) (catAx (catSh p.shape q.shape) first) most
theorem catSh_ge (s0 s1 : List Int) : s0.length ≤ (catSh s0 s1).length ∧ s1.length ≤ (catSh s0 s1).length := by
  have key : ∀ m : List Int, m.length ≤ (if m.length = 0 then [1] else m).length := fun m => by
    by_cases d : m.length = 0
    · rw [if_pos d, d]; exact Nat.zero_le _
    · rw [if_neg d]; exact Nat.le_refl _
  have := key (if s0.length < s1.length then s1 else s0)
  unfold catSh
  have h2 : s0.length ≤ (if s0.length < s1.length then s1 else s0).length ∧ s1.length ≤ (if s0.length < s1.length then s1 else s0).length := by
    by_cases c : s0.length < s1.length
    · rw [if_pos c]; omega
    · rw [if_neg c]; omega
  exact ⟨Nat.le_trans h2.1 this, Nat.le_trans h2.2 this⟩
theorem spE_22 {s0 s : List Int} (h : ¬ spE s0 s = 0) : spE s0 s = 22 := by
  unfold spE at h ⊢
  by_cases c : s0.length = s.length ∨ s0.length = 0 ∨ s0.length + 1 = s.length
  · rw [if_pos c] at h; exact absurd rfl h
  · rw [if_neg c]
theorem two_rowsP {α : Type} {R : GHeap → List Value → α → Prop} {h : GHeap} {b : Nat} {c1 c2 : List Value} {x y : α} (hS : Sl h 3 (some ⟨b, 0, none⟩) 2 2 (c1 ++ c2)) (l1 : c1.length = 3) (h1 : R h c1 x) (l2 : c2.length = 3) (h2 : R h c2 y) : RowsAt 3 (R h) h (.slice (some ⟨b, 0, none⟩) 2 2) [x, y] :=
  ⟨_, _, _, rfl, hS, (AllN.one l1 h1).append (AllN.one l2 h2)⟩
theorem sp_prod {k : Nat} {p : PlainD (PD (k + 1))} (hp : product p.shape 1048576 = ((p.items.length : Int), 0)) {s : List Int} (hg : goodS s = true) (he : spE p.shape s = 0) {j : Nat} (hj : j < s.length) : product (spS p.shape s j) 1048576 = (((spI (α := PD k) p s j).length : Int), 0) := by
  obtain ⟨n1, n2, n3⟩ := spN_spec hg j
  have h8 := ((goodS_spec s).1 hg).1
  unfold spI spS
  by_cases c1 : p.shape.length = s.length
  · rw [if_pos c1, if_pos c1]; exact hp
  · rw [if_neg c1, if_neg c1]
    by_cases c2 : p.shape.length = 0
    · rw [if_pos c2, if_pos c2, n1, List.length_map, againL_length]
      congr 1
      omega
    · rw [if_neg c2, if_neg c2]
      refine product_ins hp j ?_
      unfold spE at he
      by_cases c3 : p.shape.length + 1 = s.length
      · omega
      · rw [if_neg (by omega)] at he; cases he
theorem ref22Catenate_con (k : Nat) (cp0 cq0 : List Value) (p q : PlainD (PD (k + 1))) (first : Bool) (most : Int) (w : World) (h : GHeap) (hp : PlainAt (k + 2) h cp0 p) (hq : PlainAt (k + 2) h cq0 q) (hpp : product p.shape 1048576 = ((p.items.length : Int), 0)) (hpq : product q.shape 1048576 = ((q.items.length : Int), 0)) (hfp : 0 ≤ p.fill) (hfq : 0 ≤ q.fill) (hmost : most ≤ 100000) :
    Con Tryz.prog 39 [.agg cp0.toArray, .agg cq0.toArray, .bool first, .int .i64 most] w h (fun h' u => ∃ cs', u = .tuple #[.agg cs'.toArray, .int .i64 (catR p q first most).1] ∧ PlainAt (k + 2) h' cs' (catR p q first most).2) := by
  have hp' := hp
  obtain ⟨_, _, rfl, ⟨adp, cpp, rfl, hSp⟩, hitp⟩ := hp
  obtain ⟨aip, cip, xsp, rfl, _, _⟩ := hitp
  have mp : ∀ h', GLe h h' → PlainAt (k + 2) h' [.slice adp p.shape.length cpp, .slice aip p.items.length cip, .int .i64 p.fill] p := fun h' hl => PlainAt.mono (k + 2) _ _ _ _ hl hp'
  have hq' := hq
  obtain ⟨_, _, rfl, ⟨adq, cpq, rfl, hSq⟩, hitq⟩ := hq
  obtain ⟨aiq, ciq, xsq, rfl, _, _⟩ := hitq
  have mq : ∀ h', GLe h h' → PlainAt (k + 2) h' [.slice adq q.shape.length cpq, .slice aiq q.items.length ciq, .int .i64 q.fill] q := fun h' hl => PlainAt.mono (k + 2) _ _ _ _ hl hq'
  obtain ⟨m, hm⟩ : ∃ m, (if p.shape.length < q.shape.length then q.shape else p.shape) = m := ⟨_, rfl⟩
  obtain ⟨s, hs0⟩ : ∃ s, catSh p.shape q.shape = s := ⟨_, rfl⟩
  have hgp : goodS p.shape = true := (goodS_iff _).2 (by rw [hpp])
  have hgq : goodS q.shape = true := (goodS_iff _).2 (by rw [hpq])
  have hgs := catSh_good hgp hgq
  have hs1 := catSh_pos p.shape q.shape
  have hle := catSh_ge p.shape q.shape
  rw [hs0] at hgs hs1 hle
  have lp8 := ((goodS_spec _).1 hgp).1
  have lq8 := ((goodS_spec _).1 hgq).1
  have hs8 := ((goodS_spec _).1 hgs).1
  have hsm : s = if m.length = 0 then [1] else m := by rw [← hs0, ← hm]; rfl
  have hcs : catR p q first most = catRx (β := PD k) p q s (catAx s first) most := by unfold catR; rw [hs0]
  have hjl := catAx_lt hs1 first
  obtain ⟨j, hj⟩ : ∃ j, catAx s first = j := ⟨_, rfl⟩
  rw [hj] at hcs hjl
  refine Con.of_body Tryz.func39 rfl Tryz.ntmps39 rfl rfl ?_
  intro hs
  refine Zrun ?_
  (refine RW.boxN hs rfl rfl ?_; intro b1 w1 hs)
  refine Zrun ?_
  (refine RW.boxN hs rfl rfl ?_; intro b2 w2 hs)
  refine Zrun ?_
  (refine RW.allocN T hs rfl rfl rfl rfl ?_; intro b3 w3 hs)
  have hcapp := hSp.caps
  have hcapq := hSq.caps
  refine Zerun ?_
  refine CW.meet (fun u : Option Addr × Nat => [(2, .bool first), (3, .int .i64 most), (4, .pointer (some ⟨b1, 0, none⟩)), (5, .pointer (some ⟨b2, 0, none⟩)), (8, .pointer (some ⟨b3, 0, none⟩)), (10, .slice u.1 m.length u.2)]) (fun u w' => Sl h 1 u.1 m.length u.2 (m.map (Value.int .i64)) ∧ Sees w h h [⟨some ⟨b3, 0, none⟩, 1, 1, 25, 3, [.slice none 0 0, .slice none 0 0, .int .i64 0]⟩, ⟨some ⟨b2, 0, none⟩, 1, 1, 25, 3, [.slice adq q.shape.length cpq, .slice aiq q.items.length ciq, .int .i64 q.fill]⟩, ⟨some ⟨b1, 0, none⟩, 1, 1, 25, 3, [.slice adp p.shape.length cpp, .slice aip p.items.length cip, .int .i64 p.fill]⟩] w') ?_ ?_
  · by_cases c : p.shape.length < q.shape.length
    · rw [if_pos c] at hm
      subst hm
      refine Zerun ?_
      exact joinQ_meet (adq, cpq) ⟨rfl, rfl, rfl, rfl, rfl, rfl, trivial⟩ ⟨hSq, hs⟩
    · rw [if_neg c] at hm
      subst hm
      refine Zerun ?_
      exact joinQ_meet (adp, cpp) ⟨rfl, rfl, rfl, rfl, rfl, rfl, trivial⟩ ⟨hSp, hs⟩
  rintro ⟨adm, cpm⟩ w4 ⟨hSm, hs⟩
  dsimp only at hSm hs ⊢
  refine Zerun ?_
  refine CW.meet (fun u : (Option Addr × Nat) × GHeap => [(2, .bool first), (3, .int .i64 most), (4, .pointer (some ⟨b1, 0, none⟩)), (5, .pointer (some ⟨b2, 0, none⟩)), (8, .pointer (some ⟨b3, 0, none⟩)), (10, .slice u.1.1 s.length u.1.2)]) (fun u w' => GLe h u.2 ∧ Sl u.2 1 u.1.1 s.length u.1.2 (s.map (Value.int .i64)) ∧ Sees w h u.2 [⟨some ⟨b3, 0, none⟩, 1, 1, 25, 3, [.slice none 0 0, .slice none 0 0, .int .i64 0]⟩, ⟨some ⟨b2, 0, none⟩, 1, 1, 25, 3, [.slice adq q.shape.length cpq, .slice aiq q.items.length ciq, .int .i64 q.fill]⟩, ⟨some ⟨b1, 0, none⟩, 1, 1, 25, 3, [.slice adp p.shape.length cpp, .slice aip p.items.length cip, .int .i64 p.fill]⟩] w') ?_ ?_
  · by_cases c : m.length = 0
    · rw [if_pos c] at hsm
      subst hsm
      have c' : (m.length : Int) = 0 := by omega
      refine Zerun ?_
      (refine RW.lit T hs (vs := [.int .i64 1]) (cs := [.int .i64 1]) rfl rfl rfl rfl (by simp [Value.cells]) rfl rfl rfl rfl rfl ?_; intro b5 w5 hs)
      obtain ⟨h5, hle5, hs, hS5⟩ := hs.freeze
      refine Zerun ?_
      exact joinQ_meet ((some ⟨b5, 0, none⟩, 1), h5) ⟨rfl, rfl, rfl, rfl, rfl, rfl, trivial⟩ ⟨hle5, hS5, hs⟩
    · rw [if_neg c] at hsm
      subst hsm
      have c' : ¬ (s.length : Int) = 0 := by omega
      refine Zerun ?_
      exact joinQ_meet ((adm, cpm), h) ⟨rfl, rfl, rfl, rfl, rfl, rfl, trivial⟩ ⟨GLe.refl _, hSm, hs⟩
  rintro ⟨⟨ads, cps⟩, h6⟩ w6 ⟨g6, hSs, hs⟩
  dsimp only at g6 hSs hs ⊢
  have hcaps := hSs.caps
  refine Zerun ?_
  refine CW.meet (fun _ : Unit => [(2, .bool first), (3, .int .i64 most), (4, .pointer (some ⟨b1, 0, none⟩)), (5, .pointer (some ⟨b2, 0, none⟩)), (8, .pointer (some ⟨b3, 0, none⟩)), (10, .slice ads s.length cps), (11, .int .i64 (j : Int))]) (fun _ w' => Sees w h h6 [⟨some ⟨b3, 0, none⟩, 1, 1, 25, 3, [.slice none 0 0, .slice none 0 0, .int .i64 0]⟩, ⟨some ⟨b2, 0, none⟩, 1, 1, 25, 3, [.slice adq q.shape.length cpq, .slice aiq q.items.length ciq, .int .i64 q.fill]⟩, ⟨some ⟨b1, 0, none⟩, 1, 1, 25, 3, [.slice adp p.shape.length cpp, .slice aip p.items.length cip, .int .i64 p.fill]⟩] w') ?_ ?_
  · cases first with
    | true =>
      refine Zerun ?_
      exact joinQ_meet () ⟨rfl, rfl, rfl, rfl, rfl, rfl, seti (by rw [← hj]; rfl), trivial⟩ hs
    | false =>
      refine Zerun ?_
      exact joinQ_meet () ⟨rfl, rfl, rfl, rfl, rfl, rfl, seti (by rw [← hj]; unfold catAx; rw [if_neg (by decide)]; omega), trivial⟩ hs
  rintro ⟨⟩ w7 hs
  have hIs : IntsAt h6 (.slice ads s.length cps) s := ⟨ads, cps, rfl, hSs⟩
  have hjk : ∀ n : Nat, n + 1 = s.length → j ≤ n := fun n hn => by omega
  refine Zerun ?_
  (refine RW.call T hs rfl rfl rfl (ref22Spread_con k _ p _ s j _ _ (mp _ g6) hIs hjl hgs lp8 (hjk _)) ?_; intro v h8 w8 hle8 hp8 hs)
  obtain ⟨cs8, rfl, hq8c⟩ := hp8
  have g8 := g6.trans hle8
  have hIs := hIs.mono hle8
  by_cases ea : spE p.shape s = 0
  rotate_left
  · have e22 : spE p.shape s = 22 := spE_22 ea
    rw [e22]
    obtain ⟨zP, hzP⟩ : ∃ zP, spP (β := PD k) p s j = zP := ⟨_, rfl⟩
    rw [hzP] at hq8c
    have hq8 := hq8c
    have hq8' := hq8
    obtain ⟨_, _, rfl, ⟨ad8, cp8, rfl, hS8⟩, hit8⟩ := hq8
    have hit8' := hit8
    obtain ⟨ai8, ci8, xs8, rfl, hSI8, hAI8⟩ := hit8
    refine Zerun ?_
    (refine RW.allocN T hs rfl rfl rfl rfl ?_; intro b12 w12 hs)
    (refine RW.storeAll T hs 0 rfl rfl rfl rfl rfl rfl rfl rfl ?_; intro w9 hs)
    rw [show catR p q first most = (22, zeroQ) from by rw [hcs]; unfold catRx; rw [if_pos (.inl (by omega))]; try rfl]
    refine Zerun ?_
    refine RW.val (Y.build T rfl rfl rfl rfl rfl rfl rfl) rfl ?_
    refine Zerun ?_
    (refine RW.storeAll T hs 1 rfl rfl rfl rfl rfl rfl rfl rfl ?_; intro w10 hs)
    refine Zerun ?_
    exact retQ_ret [_, _] h8 ⟨resN T hs 1 rfl rfl rfl rfl rfl rfl, rfl, trivial⟩ hs.dropAll ⟨_, rfl, ⟨_, _, rfl, IntsAt.nil _, RowsAt.nil _⟩⟩
  rw [ea]
  have hX : spP (β := PD k) p s j = (⟨spS p.shape s j, spI (α := PD k) p s j, p.fill⟩ : PlainD (PD (k + 1))) := by unfold spP; rw [if_pos ea]; rfl
  rw [hX] at hq8c
  obtain ⟨LP, hLP⟩ : ∃ LP : List (ItemD (PD (k + 1))), spI (α := PD k) p s j = LP := ⟨_, rfl⟩
  obtain ⟨X, hXe⟩ : ∃ X, spS p.shape s j = X := ⟨_, rfl⟩
  have hpX := sp_prod (p := p) hpp hgs ea hjl
  rw [hXe, hLP] at hq8c hpX
  have hpX : product X 1048576 = ((LP.length : Int), 0) := hpX
  have lX := sp_len ea hjl
  rw [hXe] at lX
  have hq8 := hq8c
  have hq8' := hq8
  obtain ⟨_, _, rfl, ⟨ad8, cp8, rfl, hS8⟩, hit8⟩ := hq8
  have hit8' := hit8
  obtain ⟨ai8, ci8, xs8, rfl, hSI8, hAI8⟩ := hit8
  refine Zerun ?_
  (refine RW.allocN T hs rfl rfl rfl rfl ?_; intro b12 w12 hs)
  (refine RW.storeAll T hs 0 rfl rfl rfl rfl rfl rfl rfl rfl ?_; intro w9 hs)
  refine Zerun ?_
  (refine RW.call T hs rfl rfl rfl (ref22Spread_con k _ q _ s j _ _ (mq _ g8) hIs hjl hgs lq8 (hjk _)) ?_; intro v h11 w11 hle11 hp11 hs)
  obtain ⟨cs11, rfl, hq11c⟩ := hp11
  have g11 := g8.trans hle11
  have hq8' := PlainAt.mono (k + 2) _ _ _ _ hle11 hq8'
  have hS8 := hS8.mono hle11
  by_cases eb : spE q.shape s = 0
  rotate_left
  · have e22 : spE q.shape s = 22 := spE_22 eb
    rw [e22]
    obtain ⟨zP, hzP⟩ : ∃ zP, spP (β := PD k) q s j = zP := ⟨_, rfl⟩
    rw [hzP] at hq11c
    have hq11 := hq11c
    have hq11' := hq11
    obtain ⟨_, _, rfl, ⟨ad11, cp11, rfl, hS11⟩, hit11⟩ := hq11
    have hit11' := hit11
    obtain ⟨ai11, ci11, xs11, rfl, hSI11, hAI11⟩ := hit11
    refine Zerun ?_
    (refine RW.allocN T hs rfl rfl rfl rfl ?_; intro b14 w14 hs)
    (refine RW.storeAll T hs 0 rfl rfl rfl rfl rfl rfl rfl rfl ?_; intro w12 hs)
    rw [show catR p q first most = (22, zeroQ) from by rw [hcs]; unfold catRx; rw [if_pos (.inr (by omega))]; try rfl]
    refine Zerun ?_
    refine RW.val (Y.build T rfl rfl rfl rfl rfl rfl rfl) rfl ?_
    refine Zerun ?_
    (refine RW.storeAll T hs 2 rfl rfl rfl rfl rfl rfl rfl rfl ?_; intro w10 hs)
    refine Zerun ?_
    exact retQ_ret [_, _] h11 ⟨resN T hs 2 rfl rfl rfl rfl rfl rfl, rfl, trivial⟩ hs.dropAll ⟨_, rfl, ⟨_, _, rfl, IntsAt.nil _, RowsAt.nil _⟩⟩
  rw [eb]
  have hY : spP (β := PD k) q s j = (⟨spS q.shape s j, spI (α := PD k) q s j, q.fill⟩ : PlainD (PD (k + 1))) := by unfold spP; rw [if_pos eb]; rfl
  rw [hY] at hq11c
  obtain ⟨LQ, hLQ⟩ : ∃ LQ : List (ItemD (PD (k + 1))), spI (α := PD k) q s j = LQ := ⟨_, rfl⟩
  obtain ⟨Y0, hYe⟩ : ∃ Y0, spS q.shape s j = Y0 := ⟨_, rfl⟩
  have hpY := sp_prod (p := q) hpq hgs eb hjl
  rw [hYe, hLQ] at hq11c hpY
  have hpY : product Y0 1048576 = ((LQ.length : Int), 0) := hpY
  have lY := sp_len eb hjl
  rw [hYe] at lY
  have hq11 := hq11c
  have hq11' := hq11
  obtain ⟨_, _, rfl, ⟨ad11, cp11, rfl, hS11⟩, hit11⟩ := hq11
  have hit11' := hit11
  obtain ⟨ai11, ci11, xs11, rfl, hSI11, hAI11⟩ := hit11
  have hjx : j < X.length := by omega
  have hjy : j < Y0.length := by omega
  have hcs2 : catR p q first most = if X.eraseIdx j ≠ Y0.eraseIdx j then (23, zeroQ) else if (product (catT X Y0 j) most).2 ≠ 0 then ((product (catT X Y0 j) most).2, zeroQ) else match joinP (-1) [(⟨X, LP, p.fill⟩ : PlainD (PD (k + 1))), ⟨Y0, LQ, q.fill⟩] with
    | none => (24, zeroQ)
    | some c => (0, (⟨catT X Y0 j, catItems X Y0 j LP LQ (product (catT X Y0 j) most).1 noItem, if 0 ≤ c then c else p.fill⟩ : PlainD (PD (k + 1)))) := by
      rw [hcs]
      unfold catRx
      rw [if_neg (by omega)]
      subst hXe hYe hLP hLQ
      rfl
  have hcapX := hS8.caps
  have hcapY := hS11.caps
  have hgX : goodS X = true := (goodS_iff _).2 (by rw [hpX])
  have hgY : goodS Y0 = true := (goodS_iff _).2 (by rw [hpY])
  refine Zerun ?_
  (refine RW.allocN T hs rfl rfl rfl rfl ?_; intro b14 w14 hs)
  (refine RW.storeAll T hs 0 rfl rfl rfl rfl rfl rfl rfl rfl ?_; intro w12 hs)
  refine Zerun ?_
  have hIX : IntsAt h11 (.slice ad8 X.length cp8) X := ⟨ad8, cp8, rfl, hS8⟩
  have hIY : IntsAt h11 (.slice ad11 Y0.length cp11) Y0 := ⟨ad11, cp11, rfl, hS11⟩
  obtain ⟨xe, hxe⟩ : ∃ xe, X.eraseIdx j = xe := ⟨_, rfl⟩
  obtain ⟨ye, hye⟩ : ∃ ye, Y0.eraseIdx j = ye := ⟨_, rfl⟩
  have lxe : xe.length + 1 = X.length := by rw [← hxe, List.length_eraseIdx_of_lt hjx]; omega
  have lye : ye.length + 1 = Y0.length := by rw [← hye, List.length_eraseIdx_of_lt hjy]; omega
  rw [hxe, hye] at hcs2
  refine CW.meet (fun u : (Option Addr × Nat) × (Option Addr × Nat) × GHeap => [(3, .int .i64 most), (8, .pointer (some ⟨b3, 0, none⟩)), (11, .int .i64 (j : Int)), (12, .pointer (some ⟨b12, 0, none⟩)), (14, .pointer (some ⟨b14, 0, none⟩)), (15, .slice u.1.1 xe.length u.1.2), (16, .slice u.2.1.1 ye.length u.2.1.2)]) (fun u w' => GLe h11 u.2.2 ∧ Sl u.2.2 1 u.1.1 xe.length u.1.2 (xe.map (Value.int .i64)) ∧ Sl u.2.2 1 u.2.1.1 ye.length u.2.1.2 (ye.map (Value.int .i64)) ∧ Sees w h u.2.2 [⟨some ⟨b14, 0, none⟩, 1, 1, 25, 3, [.slice ad11 Y0.length cp11, .slice ai11 LQ.length ci11, .int .i64 q.fill]⟩, ⟨some ⟨b12, 0, none⟩, 1, 1, 25, 3, [.slice ad8 X.length cp8, .slice ai8 LP.length ci8, .int .i64 p.fill]⟩, ⟨some ⟨b3, 0, none⟩, 1, 1, 25, 3, [.slice none 0 0, .slice none 0 0, .int .i64 0]⟩, ⟨some ⟨b2, 0, none⟩, 1, 1, 25, 3, [.slice adq q.shape.length cpq, .slice aiq q.items.length ciq, .int .i64 q.fill]⟩, ⟨some ⟨b1, 0, none⟩, 1, 1, 25, 3, [.slice adp p.shape.length cpp, .slice aip p.items.length cip, .int .i64 p.fill]⟩] w') ?_ ?_
  · refine CW.regionG T 1 0 hs rfl rfl ?_
    intro w15 hs
    have hgl := GLe.refl h11
    refine HW.takeG (fuel := 9) 0 rfl (fun _ _ ka kb _ hg hs hka hkb => Y.fieldAddr T rfl rfl rfl rfl rfl) ⟨_, _, 1, 0, hgl, hs, rfl, rfl⟩ rfl (by kernel_rfl) (by kernel_rfl) (by kernel_rfl) ?_
    refine HW.takeG (fuel := 8) 1 rfl (fun _ _ ka kb _ hg hs hka hkb => Y.loadRow1 T hs ka hka rfl rfl rfl rfl) ⟨_, _, 1, 0, hgl, hs, rfl, rfl⟩ rfl (by kernel_rfl) (by kernel_rfl) (by kernel_rfl) ?_
    refine HW.takeG (fuel := 7) 2 rfl (fun _ _ ka kb _ hg hs hka hkb => Y.move rfl) ⟨_, _, 1, 0, hgl, hs, rfl, rfl⟩ rfl (by kernel_rfl) (by kernel_rfl) (by kernel_rfl) ?_
    refine HW.takeG (fuel := 6) 4 rfl (fun _ _ ka kb _ hg hs hka hkb => Y.fieldAddr T rfl rfl rfl rfl rfl) ⟨_, _, 1, 0, hgl, hs, rfl, rfl⟩ rfl (by kernel_rfl) (by kernel_rfl) (by kernel_rfl) ?_
    refine HW.takeG (fuel := 5) 5 rfl (fun _ _ ka kb _ hg hs hka hkb => Y.loadRow1 T hs kb hkb rfl rfl rfl rfl) ⟨_, _, 1, 0, hgl, hs, rfl, rfl⟩ rfl (by kernel_rfl) (by kernel_rfl) (by kernel_rfl) ?_
    refine HW.takeG (fuel := 4) 6 rfl (fun _ _ ka kb _ hg hs hka hkb => Y.move rfl) ⟨_, _, 1, 0, hgl, hs, rfl, rfl⟩ rfl (by kernel_rfl) (by kernel_rfl) (by kernel_rfl) ?_
    refine HW.one (fuel := 3) 3 rfl (by kernel_rfl) ?_
    (refine RW.call T hs rfl rfl rfl (refWithout_con _ X (j : Int) _ _ (hIX.mono hgl) (by omega) (by omega)) ?_; intro v h70 w70 hle70 hp70 hs)
    rw [Int.toNat_natCast, hxe] at hp70
    obtain ⟨adw70, cpw70, rfl, hSw70⟩ := hp70
    have hgl := hgl.trans hle70
    refine RW.nil ?_
    refine heldQ_normal ⟨_, _, 1, 0, hgl, hs, rfl, rfl⟩ ?_
    refine HW.one (fuel := 2) 7 rfl (by kernel_rfl) ?_
    (refine RW.call T hs rfl rfl rfl (refWithout_con _ Y0 (j : Int) _ _ (hIY.mono hgl) (by omega) (by omega)) ?_; intro v h74 w74 hle74 hp74 hs)
    rw [Int.toNat_natCast, hye] at hp74
    obtain ⟨adw74, cpw74, rfl, hSw74⟩ := hp74
    have hSw70 := hSw70.mono hle74
    have hgl := hgl.trans hle74
    refine RW.nil ?_
    refine heldQ_normal ⟨_, _, 1, 0, hgl, hs, rfl, rfl⟩ ?_
    refine HW.takeG (fuel := 1) 8 rfl (fun _ _ ka kb _ hg hs hka hkb => Y.assign rfl) ⟨_, _, 1, 0, hgl, hs, rfl, rfl⟩ rfl (by kernel_rfl) (by kernel_rfl) (by kernel_rfl) ?_
    refine HW.takeG (fuel := 0) 9 rfl (fun _ _ ka kb _ hg hs hka hkb => Y.assign rfl) ⟨_, _, 1, 0, hgl, hs, rfl, rfl⟩ rfl (by kernel_rfl) (by kernel_rfl) (by kernel_rfl) ?_
    refine HW.done (by kernel_rfl) ?_
    refine calmQ_normal ?_
    exact joinQ_meet ((adw70, cpw70), (adw74, cpw74), _) ⟨rfl, rfl, rfl, rfl, rfl, rfl, rfl, trivial⟩ ⟨hgl, hSw70, hSw74, hs⟩
  rintro ⟨⟨adx, cpx⟩, ⟨ady, cpy⟩, h16⟩ w16 ⟨g16, hSx, hSy, hs⟩
  dsimp only at g16 hSx hSy hs ⊢
  have hcapx := hSx.caps
  have hcapy := hSy.caps
  refine Zerun ?_
  refine CW.meetB (fun _ : Unit => [(3, .int .i64 most), (8, .pointer (some ⟨b3, 0, none⟩)), (11, .int .i64 (j : Int)), (12, .pointer (some ⟨b12, 0, none⟩)), (14, .pointer (some ⟨b14, 0, none⟩))]) (fun _ w' => xe = ye ∧ Sees w h h16 [⟨some ⟨b14, 0, none⟩, 1, 1, 25, 3, [.slice ad11 Y0.length cp11, .slice ai11 LQ.length ci11, .int .i64 q.fill]⟩, ⟨some ⟨b12, 0, none⟩, 1, 1, 25, 3, [.slice ad8 X.length cp8, .slice ai8 LP.length ci8, .int .i64 p.fill]⟩, ⟨some ⟨b3, 0, none⟩, 1, 1, 25, 3, [.slice none 0 0, .slice none 0 0, .int .i64 0]⟩, ⟨some ⟨b2, 0, none⟩, 1, 1, 25, 3, [.slice adq q.shape.length cpq, .slice aiq q.items.length ciq, .int .i64 q.fill]⟩, ⟨some ⟨b1, 0, none⟩, 1, 1, 25, 3, [.slice adp p.shape.length cpp, .slice aip p.items.length cip, .int .i64 p.fill]⟩] w') ?_ ?_
  · refine CW.loop (fun i : Nat => [(3, .int .i64 most), (8, .pointer (some ⟨b3, 0, none⟩)), (11, .int .i64 (j : Int)), (12, .pointer (some ⟨b12, 0, none⟩)), (14, .pointer (some ⟨b14, 0, none⟩)), (15, .slice adx xe.length cpx), (16, .slice ady ye.length cpy), (17, .int .i64 i)]) (fun i w' => i ≤ xe.length ∧ xe.take i = ye.take i ∧ Sees w h h16 [⟨some ⟨b14, 0, none⟩, 1, 1, 25, 3, [.slice ad11 Y0.length cp11, .slice ai11 LQ.length ci11, .int .i64 q.fill]⟩, ⟨some ⟨b12, 0, none⟩, 1, 1, 25, 3, [.slice ad8 X.length cp8, .slice ai8 LP.length ci8, .int .i64 p.fill]⟩, ⟨some ⟨b3, 0, none⟩, 1, 1, 25, 3, [.slice none 0 0, .slice none 0 0, .int .i64 0]⟩, ⟨some ⟨b2, 0, none⟩, 1, 1, 25, 3, [.slice adq q.shape.length cpq, .slice aiq q.items.length ciq, .int .i64 q.fill]⟩, ⟨some ⟨b1, 0, none⟩, 1, 1, 25, 3, [.slice adp p.shape.length cpp, .slice aip p.items.length cip, .int .i64 p.fill]⟩] w') (fun i => xe.length - i) 0 ⟨rfl, rfl, rfl, rfl, rfl, rfl, rfl, rfl, trivial⟩ ⟨by omega, rfl, hs⟩ ?_
    rintro i w17 ⟨hi, heq, hs⟩
    by_cases hlt : i < xe.length
    rotate_left
    · obtain rfl : i = xe.length := by omega
      refine Zerun ?_
      exact joinQ_meet () ⟨rfl, rfl, rfl, rfl, rfl, trivial⟩ ⟨by rw [List.take_length, List.take_of_length_le (by omega)] at heq; exact heq, hs⟩
    have hlt2 : i < ye.length := by omega
    have gx := map_get (Value.int .i64) xe i 0 hlt
    have gy := map_get (Value.int .i64) ye i 0 hlt2
    have tx := take_succ_getD xe i 0 hlt
    have ty := take_succ_getD ye i 0 hlt2
    refine Zerun ?_
    refine CW.regionQ T hs (Zeqrun ?_) (by kernel_rfl)
    intro w19 hs
    by_cases ce : xe.getD i 0 = ye.getD i 0
    · have ce' : ¬ (xe.getD i 0 ≠ ye.getD i 0) := fun h => h ce
      refine Zerun ?_
      exact loopQ_round (i + 1) ⟨rfl, rfl, rfl, rfl, rfl, rfl, rfl, rfl, trivial⟩ ⟨by omega, by rw [tx, ty, heq, ce], hs⟩ (by omega)
    have hne : xe ≠ ye := fun e => ce (by rw [e])
    rw [show catR p q first most = (23, zeroQ) from by rw [hcs2, if_pos hne]]
    refine Zerun ?_
    refine RW.val (Y.build T rfl rfl rfl rfl rfl rfl rfl) rfl ?_
    refine Zerun ?_
    (refine RW.storeAll T hs 2 rfl rfl rfl rfl rfl rfl rfl rfl ?_; intro w18 hs)
    refine Zerun ?_
    exact retQ_ret [_, _] h16 ⟨resN T hs 2 rfl rfl rfl rfl rfl rfl, rfl, trivial⟩ hs.dropAll ⟨_, rfl, ⟨_, _, rfl, IntsAt.nil _, RowsAt.nil _⟩⟩
  rintro ⟨⟩ w18 ⟨hxy, hs⟩
  rw [if_neg (fun h => h hxy)] at hcs2
  have ce : X.eraseIdx j = Y0.eraseIdx j := by rw [hxe, hye, hxy]
  have g17 := g11.trans g16
  have hSX := hS8.mono g16
  have hSY := hS11.mono g16
  have gX := map_get (Value.int .i64) X j 0 hjx
  have gY := map_get (Value.int .i64) Y0 j 0 hjy
  have bX := good_le X hgX _ (mem_getD X j 0 hjx)
  have bY := good_le Y0 hgY _ (mem_getD Y0 j 0 hjy)
  have hTl : (catT X Y0 j).length = X.length := catT_len _ _ _
  have hIX := hIX.mono g16
  refine Zerun ?_
  refine CW.meet (fun u : (Option Addr × Nat) × GHeap => [(3, .int .i64 most), (8, .pointer (some ⟨b3, 0, none⟩)), (11, .int .i64 (j : Int)), (12, .pointer (some ⟨b12, 0, none⟩)), (14, .pointer (some ⟨b14, 0, none⟩)), (18, .slice u.1.1 X.length u.1.2)]) (fun u w' => GLe h16 u.2 ∧ IntsAt u.2 (.slice u.1.1 X.length u.1.2) (catT X Y0 j) ∧ Sees w h u.2 [⟨some ⟨b14, 0, none⟩, 1, 1, 25, 3, [.slice ad11 Y0.length cp11, .slice ai11 LQ.length ci11, .int .i64 q.fill]⟩, ⟨some ⟨b12, 0, none⟩, 1, 1, 25, 3, [.slice ad8 X.length cp8, .slice ai8 LP.length ci8, .int .i64 p.fill]⟩, ⟨some ⟨b3, 0, none⟩, 1, 1, 25, 3, [.slice none 0 0, .slice none 0 0, .int .i64 0]⟩, ⟨some ⟨b2, 0, none⟩, 1, 1, 25, 3, [.slice adq q.shape.length cpq, .slice aiq q.items.length ciq, .int .i64 q.fill]⟩, ⟨some ⟨b1, 0, none⟩, 1, 1, 25, 3, [.slice adp p.shape.length cpp, .slice aip p.items.length cip, .int .i64 p.fill]⟩] w') ?_ ?_
  · refine CW.regionG T 1 0 hs rfl rfl ?_
    intro w19 hs
    have hgl := GLe.refl h16
    refine HW.takeG (fuel := 15) 0 rfl (fun _ _ ka kb _ hg hs hka hkb => Y.fieldAddr T rfl rfl rfl rfl rfl) ⟨_, _, 1, 0, hgl, hs, rfl, rfl⟩ rfl (by kernel_rfl) (by kernel_rfl) (by kernel_rfl) ?_
    refine HW.takeG (fuel := 14) 1 rfl (fun _ _ ka kb _ hg hs hka hkb => Y.loadRow1 T hs ka hka rfl rfl rfl rfl) ⟨_, _, 1, 0, hgl, hs, rfl, rfl⟩ rfl (by kernel_rfl) (by kernel_rfl) (by kernel_rfl) ?_
    refine HW.takeG (fuel := 13) 2 rfl (fun _ _ ka kb _ hg hs hka hkb => Y.move rfl) ⟨_, _, 1, 0, hgl, hs, rfl, rfl⟩ rfl (by kernel_rfl) (by kernel_rfl) (by kernel_rfl) ?_
    refine HW.takeG (fuel := 12) 3 rfl (fun _ _ ka kb _ hg hs hka hkb => Y.fieldAddr T rfl rfl rfl rfl rfl) ⟨_, _, 1, 0, hgl, hs, rfl, rfl⟩ rfl (by kernel_rfl) (by kernel_rfl) (by kernel_rfl) ?_
    refine HW.takeG (fuel := 11) 4 rfl (fun _ _ ka kb _ hg hs hka hkb => Y.loadRow1 T hs ka hka rfl rfl rfl rfl) ⟨_, _, 1, 0, hgl, hs, rfl, rfl⟩ rfl (by kernel_rfl) (by kernel_rfl) (by kernel_rfl) ?_
    refine HW.takeG (fuel := 10) 5 rfl (fun _ _ ka kb _ hg hs hka hkb => Y.move rfl) ⟨_, _, 1, 0, hgl, hs, rfl, rfl⟩ rfl (by kernel_rfl) (by kernel_rfl) (by kernel_rfl) ?_
    refine HW.takeG (fuel := 9) 6 rfl (fun _ _ ka kb _ hg hs hka hkb => Y.idxSN T rfl rfl (hSX.mono hg) rfl rfl rfl hjx) ⟨_, _, 1, 0, hgl, hs, rfl, rfl⟩ rfl (by kernel_rfl) (by kernel_rfl) (by kernel_rfl) ?_
    refine HW.takeG (fuel := 8) 7 rfl (fun _ _ ka kb _ hg hs hka hkb => Y.ldS T hs rfl (hSX.mono hg) rfl rfl hjx gX) ⟨_, _, 1, 0, hgl, hs, rfl, rfl⟩ rfl (by kernel_rfl) (by kernel_rfl) (by kernel_rfl) ?_
    refine HW.takeG (fuel := 7) 8 rfl (fun _ _ ka kb _ hg hs hka hkb => Y.fieldAddr T rfl rfl rfl rfl rfl) ⟨_, _, 1, 0, hgl, hs, rfl, rfl⟩ rfl (by kernel_rfl) (by kernel_rfl) (by kernel_rfl) ?_
    refine HW.takeG (fuel := 6) 9 rfl (fun _ _ ka kb _ hg hs hka hkb => Y.loadRow1 T hs kb hkb rfl rfl rfl rfl) ⟨_, _, 1, 0, hgl, hs, rfl, rfl⟩ rfl (by kernel_rfl) (by kernel_rfl) (by kernel_rfl) ?_
    refine HW.takeG (fuel := 5) 10 rfl (fun _ _ ka kb _ hg hs hka hkb => Y.move rfl) ⟨_, _, 1, 0, hgl, hs, rfl, rfl⟩ rfl (by kernel_rfl) (by kernel_rfl) (by kernel_rfl) ?_
    refine HW.takeG (fuel := 4) 11 rfl (fun _ _ ka kb _ hg hs hka hkb => Y.idxSN T rfl rfl (hSY.mono hg) rfl rfl rfl hjy) ⟨_, _, 1, 0, hgl, hs, rfl, rfl⟩ rfl (by kernel_rfl) (by kernel_rfl) (by kernel_rfl) ?_
    refine HW.takeG (fuel := 3) 12 rfl (fun _ _ ka kb _ hg hs hka hkb => Y.ldS T hs rfl (hSY.mono hg) rfl rfl hjy gY) ⟨_, _, 1, 0, hgl, hs, rfl, rfl⟩ rfl (by kernel_rfl) (by kernel_rfl) (by kernel_rfl) ?_
    refine HW.takeG (fuel := 2) 13 rfl (fun _ _ ka kb _ hg hs hka hkb => Y.add rfl rfl (by omega)) ⟨_, _, 1, 0, hgl, hs, rfl, rfl⟩ rfl (by kernel_rfl) (by kernel_rfl) (by kernel_rfl) ?_
    refine HW.one (fuel := 1) 14 rfl (by kernel_rfl) ?_
    (refine RW.call T hs rfl rfl rfl (refWith_con _ X j (X.getD j 0 + Y0.getD j 0) _ _ (hIX.mono hgl) (by omega) hjx) ?_; intro v h105 w105 hle105 hp105 hs)
    have hI105 : IntsAt h105 v (catT X Y0 j) := hp105
    have hI105' := hI105
    obtain ⟨ad105, cp105, rfl, _⟩ := hI105
    rw [hTl] at hI105'
    have hgl := hgl.trans hle105
    refine RW.nil ?_
    refine heldQ_normal ⟨_, _, 1, 0, hgl, hs, rfl, rfl⟩ ?_
    refine HW.takeG (fuel := 0) 15 rfl (fun _ _ ka kb _ hg hs hka hkb => Y.assign rfl) ⟨_, _, 1, 0, hgl, hs, rfl, rfl⟩ rfl (by kernel_rfl) (by kernel_rfl) (by kernel_rfl) ?_
    refine HW.done (by kernel_rfl) ?_
    refine calmQ_normal ?_
    refine joinQ_meet ((ad105, cp105), h105) ⟨rfl, rfl, rfl, rfl, rfl, congrArg (fun z => some (Value.slice ad105 z cp105)) hTl, trivial⟩ ⟨hgl, hI105', hs⟩
  rintro ⟨⟨adT, cpT⟩, h20⟩ w20 ⟨g20, hIT, hs⟩
  dsimp only at g20 hIT hs ⊢
  rw [← hTl] at hIT ⊢
  refine Zerun ?_
  (refine RW.call T hs rfl rfl rfl (refProduct_con _ (catT X Y0 j) most _ _ hIT (by omega)) ?_; intro v h21 w21 hle21 hp21 hs)
  subst hp21
  have hIT := hIT.mono hle21
  have g21 := g20.trans hle21
  by_cases ep : (product (catT X Y0 j) most).2 = 0
  rotate_left
  · obtain ⟨pe, hpe⟩ : ∃ pe, (product (catT X Y0 j) most).2 = pe := ⟨_, rfl⟩
    rw [hpe] at ep ⊢
    rw [show catR p q first most = (pe, zeroQ) from by rw [hcs2, hpe, if_pos ep]]
    refine Zerun ?_
    refine RW.val (Y.build T rfl rfl rfl rfl rfl rfl rfl) rfl ?_
    refine Zerun ?_
    (refine RW.storeAll T hs 2 rfl rfl rfl rfl rfl rfl rfl rfl ?_; intro w22 hs)
    refine Zerun ?_
    exact retQ_ret [_, _] h21 ⟨resN T hs 2 rfl rfl rfl rfl rfl rfl, rfl, trivial⟩ hs.dropAll ⟨_, rfl, ⟨_, _, rfl, IntsAt.nil _, RowsAt.nil _⟩⟩
  rw [if_neg (fun h => h ep)] at hcs2
  rw [ep]
  obtain ⟨pn, hpn⟩ : ∃ pn, (product (catT X Y0 j) most).1 = pn := ⟨_, rfl⟩
  have hpt : product (catT X Y0 j) most = (pn, 0) := by rw [← hpn, ← ep]
  rw [hpn] at hcs2 ⊢
  obtain ⟨⟨hsum, hp1, hnm⟩, hcase⟩ := cat_mid hpX hpY (by omega) hjx ce hpt
  have hq8' := PlainAt.mono (k + 2) _ _ _ _ (g16.trans g21) hq8'
  have hq11' := PlainAt.mono (k + 2) _ _ _ _ (g16.trans g21) hq11'
  refine Zerun ?_
  (refine RW.lit T hs (vs := [.agg [.slice ad8 X.length cp8, .slice ai8 LP.length ci8, .int .i64 p.fill].toArray, .agg [.slice ad11 Y0.length cp11, .slice ai11 LQ.length ci11, .int .i64 q.fill].toArray]) (cs := ([.slice ad8 X.length cp8, .slice ai8 LP.length ci8, .int .i64 p.fill] ++ [.slice ad11 Y0.length cp11, .slice ai11 LQ.length ci11, .int .i64 q.fill])) rfl rfl rfl rfl (by simp [Value.cells]) rfl rfl rfl rfl rfl ?_; intro b23 w23 hs)
  obtain ⟨h23, hle23, hs, hS23⟩ := hs.freeze
  have hR23 : RowsAt 3 (PlainR (PlainAt (k + 1)) h23) h23 (.slice (some ⟨b23, 0, none⟩) 2 2) [(⟨X, LP, p.fill⟩ : PlainD (PD (k + 1))), ⟨Y0, LQ, q.fill⟩] := two_rowsP hS23 rfl (PlainAt.mono (k + 2) _ _ _ _ hle23 hq8') rfl (PlainAt.mono (k + 2) _ _ _ _ hle23 hq11')
  refine Zerun ?_
  (refine RW.call T hs rfl rfl rfl (refJoin08_con (PlainAt.mono (k + 1)) _ [(⟨X, LP, p.fill⟩ : PlainD (PD (k + 1))), ⟨Y0, LQ, q.fill⟩] _ _ hR23 (by show LP.length + (LQ.length + 0) ≤ 1048576; omega) (by intro r hr; simp only [List.mem_cons, List.not_mem_nil, or_false] at hr; rcases hr with rfl | rfl; exact hfp; exact hfq)) ?_; intro v h24 w24 hle24 hp24 hs)
  obtain ⟨s24, cl, rfl, hno, hye24⟩ := hp24
  rcases hjc : joinP (-1) [(⟨X, LP, p.fill⟩ : PlainD (PD (k + 1))), ⟨Y0, LQ, q.fill⟩] with _ | c'
  · obtain rfl := hno hjc
    rw [hjc] at hcs2
    rw [show catR p q first most = (24, zeroQ) from hcs2]
    refine Zerun ?_
    refine RW.val (Y.build T rfl rfl rfl rfl rfl rfl rfl) rfl ?_
    refine Zerun ?_
    (refine RW.storeAll T hs 2 rfl rfl rfl rfl rfl rfl rfl rfl ?_; intro w25 hs)
    refine Zerun ?_
    exact retQ_ret [_, _] h24 ⟨resN T hs 2 rfl rfl rfl rfl rfl rfl, rfl, trivial⟩ hs.dropAll ⟨_, rfl, ⟨_, _, rfl, IntsAt.nil _, RowsAt.nil _⟩⟩
  obtain ⟨hcl, hRj⟩ := hye24 c' hjc
  rw [hjc] at hcs2
  dsimp only at hcs2
  have hcl : cl = if 0 ≤ c' then c' else p.fill := hcl
  rw [← hcl] at hcs2
  have hcl0 : 0 ≤ cl := by rw [hcl]; split; assumption; exact hfp
  obtain ⟨aj, cj, xj, rfl, _, _⟩ := hRj
  rw [hcs2]
  refine Zerun ?_
  refine RW.val (Y.build T rfl rfl rfl rfl rfl rfl rfl) rfl ?_
  refine Zerun ?_
  (refine RW.allocN T hs rfl rfl rfl rfl ?_; intro b22 w22 hs)
  (refine RW.storeAll T hs 0 rfl rfl rfl rfl rfl rfl rfl rfl ?_; intro w26 hs)
  have hIT := hIT.mono (hle23.trans hle24)
  have hIT' := hIT
  obtain ⟨N, rfl⟩ := Int.eq_ofNat_of_zero_le (show 0 ≤ pn by omega)
  refine Zerun ?_
  (refine RW.call T hs rfl rfl rfl (refAllN_con _ (catT X Y0 j) N _ _ hIT (by omega) (by omega) ((goodS_iff _).2 (by rw [hp1]))) ?_; intro v h27 w27 hle27 hp27 hs)
  have g27 := ((g16.trans g21).trans (hle23.trans hle24)).trans hle27
  have hIT' := hIT'.mono hle27
  have hSPX := hSI8.mono (hle11.trans g27)
  have hSPY := hSI11.mono g27
  have hAPX := hAI8.mono (fun u a => ItemAt.mono (PlainAt.mono (k + 1)) _ _ u a (hle11.trans g27))
  have hAPY := hAI11.mono (fun u a => ItemAt.mono (PlainAt.mono (k + 1)) _ _ u a g27)
  have hSX := hS8.mono g27
  have hSY := hS11.mono g27
  obtain ⟨K, hK⟩ : ∃ K : List (ItemD (PD (k + 1))), catItems X Y0 j LP LQ (N : Int) noItem = K := ⟨_, rfl⟩
  rw [hK]
  have hKl : K.length = N := by
    rw [← hK]
    unfold catItems
    rcases hcase with h0 | ⟨P, S, da, db, outer, inner, hC, eX, eY, hPj, eT, hla, hlb, hsp⟩
    · rw [if_pos h0]; show 0 = N; omega
    · by_cases h0 : (N : Int) = 0
      · rw [if_pos h0]; show 0 = N; omega
      · rw [if_neg h0, catL_len, eX, eY, ← hPj, mid_take, mid_drop, mid_get, mid_get, hC.po, hC.ps, ← Int.natCast_mul, ← Int.natCast_mul, Int.toNat_natCast, Int.toNat_natCast, Int.toNat_natCast, Nat.mul_add]; omega
  obtain ⟨ad27, cp27, us, rfl, hS27, hA27⟩ := hp27
  have hus := hA27.length
  have hl27 := hS27.caps
  have hall : 0 < N → allSpec N (catT X Y0 j) = (List.range N).map fun (i : Nat) => idxOf (catT X Y0 j) i := fun h0 => by
    have hgT : goodS (catT X Y0 j) = true := (goodS_iff _).2 (by rw [hp1])
    have hpg := product_good _ hgT
    rw [hp1] at hpg
    have := all_eq N (catT X Y0 j) (N : Int) (by omega) (congrArg Prod.fst hpg) (fun d hd => (good_le _ hgT d hd).1)
    rw [this, Int.toNat_natCast]
  obtain ⟨LA, hLA⟩ : ∃ LA, allSpec N (catT X Y0 j) = LA := ⟨_, rfl⟩
  rw [hLA] at hS27 hA27 hus hall hl27 ⊢
  have hLAl : LA.length ≤ 9223372036854775807 := by omega
  refine Zerun ?_
  have hs := hs.nilRow 69 4
  refine CW.loop (fun u : Nat × (Option Addr × Nat) × List Value × GHeap => [(8, .pointer (some ⟨b3, 0, none⟩)), (11, .int .i64 (j : Int)), (12, .pointer (some ⟨b12, 0, none⟩)), (14, .pointer (some ⟨b14, 0, none⟩)), (19, .int .i64 (N : Int)), (22, .pointer (some ⟨b22, 0, none⟩)), (23, .slice ad27 LA.length cp27), (24, .int .i64 u.1)]) (fun u w' => u.1 ≤ N ∧ GLe h27 u.2.2.2 ∧ AllN 4 (ItemAt (PlainAt (k + 1)) u.2.2.2) u.2.2.1 (K.take u.1) ∧ Sees w h u.2.2.2 [⟨u.2.1.1, u.1, u.2.1.2, 69, 4, u.2.2.1⟩, ⟨some ⟨b22, 0, none⟩, 1, 1, 25, 3, [.slice adT (catT X Y0 j).length cpT, .slice u.2.1.1 u.1 u.2.1.2, .int .i64 cl]⟩, ⟨some ⟨b14, 0, none⟩, 1, 1, 25, 3, [.slice ad11 Y0.length cp11, .slice ai11 LQ.length ci11, .int .i64 q.fill]⟩, ⟨some ⟨b12, 0, none⟩, 1, 1, 25, 3, [.slice ad8 X.length cp8, .slice ai8 LP.length ci8, .int .i64 p.fill]⟩, ⟨some ⟨b3, 0, none⟩, 1, 1, 25, 3, [.slice none 0 0, .slice none 0 0, .int .i64 0]⟩, ⟨some ⟨b2, 0, none⟩, 1, 1, 25, 3, [.slice adq q.shape.length cpq, .slice aiq q.items.length ciq, .int .i64 q.fill]⟩, ⟨some ⟨b1, 0, none⟩, 1, 1, 25, 3, [.slice adp p.shape.length cpp, .slice aip p.items.length cip, .int .i64 p.fill]⟩] w') (fun u => N - u.1) (0, (none, 0), [], h27) ⟨rfl, rfl, rfl, rfl, rfl, rfl, rfl, rfl, trivial⟩ ⟨by omega, GLe.refl _, rfl, hs⟩ ?_
  rintro ⟨i, ⟨ra, rc⟩, vs, hh⟩ w28 ⟨hi, hg, hAv, hs⟩
  dsimp only at hi hg hAv hs ⊢
  by_cases hlt : i < N
  rotate_left
  · obtain rfl : i = N := by omega
    rw [List.take_of_length_le (by omega)] at hAv
    obtain ⟨h29, hle29, hs, hS29⟩ := hs.freeze
    refine Zerun ?_
    (refine RW.storeAll T hs 3 rfl rfl rfl rfl rfl rfl rfl rfl ?_; intro w30 hs)
    refine Zerun ?_
    refine retQ_ret [_, _] h29 ⟨resN T hs 3 rfl rfl rfl rfl rfl rfl, rfl, trivial⟩ hs.dropAll ⟨_, rfl, _, _, rfl, hIT'.mono (hg.trans hle29), ra, rc, vs, by rw [hKl], ?_, hAv.mono (fun u a => ItemAt.mono (PlainAt.mono (k + 1)) _ _ u a hle29)⟩
    rw [hKl]
    exact hS29
  have hN0 : 0 < N := by omega
  have hall := hall hN0
  have hLl : LA.length = N := by rw [hall, List.length_map, List.length_range]
  rcases hcase with h0 | ⟨P, S, da, db, outer, inner, hC, eX, eY, hPj, eT, hla, hlb, hsp⟩
  · omega
  obtain ⟨A, hA⟩ : ∃ A, da * inner = A := ⟨_, rfl⟩
  obtain ⟨B, hB⟩ : ∃ B, db * inner = B := ⟨_, rfl⟩
  have hNe : N = outer * (A + B) := by rw [Nat.mul_add, ← hA, ← hB]; omega
  have hKe : K = catL LP LQ outer A B noItem := by
    rw [← hK]
    unfold catItems
    rw [if_neg (by omega), eX, eY, ← hPj, mid_take, mid_drop, mid_get, mid_get, hC.po, hC.ps, ← Int.natCast_mul, ← Int.natCast_mul, Int.toNat_natCast, Int.toNat_natCast, Int.toNat_natCast, hA, hB]
  have hat := hC.at_ i (by rw [hA, hB, ← hNe]; exact hlt)
  rw [hA, hB, hPj, ← eT, ← eX, ← eY] at hat
  have hda : X.getD j 0 = (da : Int) := by rw [eX, ← hPj, mid_get]
  have hdb : Y0.getD j 0 = (db : Int) := by rw [eY, ← hPj, mid_get]
  obtain ⟨hc1, hc2⟩ := catJ_lt (outer := outer) (a := A) (b := B) (i := i) (by rw [← hNe]; exact hlt)
  have hKn : K.take (i + 1) = K.take i ++ [catD LP LQ A B noItem i] := by
    rw [take_succ_getD K i noItem (by omega), hKe]
    congr 2
    unfold catL
    rw [getD_map' _ _ _ _ (by rw [List.length_range, ← hNe]; exact hlt), List.getElem_range]
  obtain ⟨u6, hu6, hI6⟩ := hA27.get [] i (by omega)
  have hI6 := hI6.mono hg
  have hx6 : LA.getD i [] = idxOf (catT X Y0 j) (i : Int) := by rw [hall, getD_map' _ _ _ _ (by rw [List.length_range]; exact hlt), List.getElem_range]
  rw [hx6] at hI6
  have hxl := length_idxOf (catT X Y0 j) (i : Int)
  obtain ⟨x, hxe0⟩ : ∃ x, idxOf (catT X Y0 j) (i : Int) = x := ⟨_, rfl⟩
  rw [hxe0] at hI6 hxl hat
  have hI6' := hI6
  obtain ⟨ad6, cp6, rfl, hS6⟩ := hI6
  have hS27h := hS27.mono hg
  have hSXh := hSX.mono hg
  have hSYh := hSY.mono hg
  have hIXh : IntsAt hh (.slice ad8 X.length cp8) X := ⟨ad8, cp8, rfl, hSXh⟩
  have hIYh : IntsAt hh (.slice ad11 Y0.length cp11) Y0 := ⟨ad11, cp11, rfl, hSYh⟩
  have hiL : i < LA.length := by omega
  have hjxx : j < x.length := by omega
  have nx : ∀ {h' : GHeap} {y : List Value}, AllN 4 (ItemAt (PlainAt (k + 1)) h') vs (K.take i) → y.length = 4 → ItemAt (PlainAt (k + 1)) h' y (catD LP LQ A B noItem i) → AllN 4 (ItemAt (PlainAt (k + 1)) h') (vs ++ y) (K.take (i + 1)) := by
    intro h' y ha hyl hr
    rw [hKn]
    exact ha.append (AllN.one hyl hr)
  obtain ⟨pl, hpl⟩ : ∃ pl, (if (atSpec X x).2 = true then (atSpec X x).1 else -1) = pl := ⟨_, rfl⟩
  refine Zerun ?_
  refine CW.meet (fun u : GHeap => [(8, .pointer (some ⟨b3, 0, none⟩)), (11, .int .i64 (j : Int)), (12, .pointer (some ⟨b12, 0, none⟩)), (14, .pointer (some ⟨b14, 0, none⟩)), (19, .int .i64 (N : Int)), (22, .pointer (some ⟨b22, 0, none⟩)), (23, .slice ad27 LA.length cp27), (24, .int .i64 i), (25, .int .i64 pl)]) (fun u w' => GLe hh u ∧ Sees w h u [⟨ra, i, rc, 69, 4, vs⟩, ⟨some ⟨b22, 0, none⟩, 1, 1, 25, 3, [.slice adT (catT X Y0 j).length cpT, .slice ra i rc, .int .i64 cl]⟩, ⟨some ⟨b14, 0, none⟩, 1, 1, 25, 3, [.slice ad11 Y0.length cp11, .slice ai11 LQ.length ci11, .int .i64 q.fill]⟩, ⟨some ⟨b12, 0, none⟩, 1, 1, 25, 3, [.slice ad8 X.length cp8, .slice ai8 LP.length ci8, .int .i64 p.fill]⟩, ⟨some ⟨b3, 0, none⟩, 1, 1, 25, 3, [.slice none 0 0, .slice none 0 0, .int .i64 0]⟩, ⟨some ⟨b2, 0, none⟩, 1, 1, 25, 3, [.slice adq q.shape.length cpq, .slice aiq q.items.length ciq, .int .i64 q.fill]⟩, ⟨some ⟨b1, 0, none⟩, 1, 1, 25, 3, [.slice adp p.shape.length cpp, .slice aip p.items.length cip, .int .i64 p.fill]⟩] w') ?_ ?_
  · refine CW.regionG T 3 3 hs rfl rfl ?_
    intro w29 hs
    have hgl := GLe.refl hh
    refine HW.takeG (fuel := 7) 0 rfl (fun _ _ ka kb _ hg hs hka hkb => Y.fieldAddr T rfl rfl rfl rfl rfl) ⟨_, _, 3, 3, hgl, hs, rfl, rfl⟩ rfl (by kernel_rfl) (by kernel_rfl) (by kernel_rfl) ?_
    refine HW.takeG (fuel := 6) 1 rfl (fun _ _ ka kb _ hg hs hka hkb => Y.loadRow1 T hs ka hka rfl rfl rfl rfl) ⟨_, _, 3, 3, hgl, hs, rfl, rfl⟩ rfl (by kernel_rfl) (by kernel_rfl) (by kernel_rfl) ?_
    refine HW.takeG (fuel := 5) 2 rfl (fun _ _ ka kb _ hg hs hka hkb => Y.move rfl) ⟨_, _, 3, 3, hgl, hs, rfl, rfl⟩ rfl (by kernel_rfl) (by kernel_rfl) (by kernel_rfl) ?_
    refine HW.takeG (fuel := 4) 3 rfl (fun _ _ ka kb _ hg hs hka hkb => Y.move rfl) ⟨_, _, 3, 3, hgl, hs, rfl, rfl⟩ rfl (by kernel_rfl) (by kernel_rfl) (by kernel_rfl) ?_
    refine HW.takeG (fuel := 3) 4 rfl (fun _ _ ka kb _ hg hs hka hkb => Y.idxSN T rfl rfl (hS27h.mono hg) rfl rfl rfl hiL) ⟨_, _, 3, 3, hgl, hs, rfl, rfl⟩ rfl (by kernel_rfl) (by kernel_rfl) (by kernel_rfl) ?_
    refine HW.takeG (fuel := 2) 5 rfl (fun _ _ ka kb _ hg hs hka hkb => Y.ldS T hs rfl (hS27h.mono hg) rfl rfl hiL hu6) ⟨_, _, 3, 3, hgl, hs, rfl, rfl⟩ rfl (by kernel_rfl) (by kernel_rfl) (by kernel_rfl) ?_
    refine HW.one (fuel := 1) 6 rfl (by kernel_rfl) ?_
    (refine RW.call T hs rfl rfl rfl (place_con _ _ X x _ _ (hIXh.mono hgl) (hI6'.mono hgl) (by omega)) ?_; intro v h149 w149 hle149 hp149 hs)
    rw [hpl] at hp149
    subst hp149
    have hgl := hgl.trans hle149
    refine RW.nil ?_
    refine heldQ_normal ⟨_, _, 3, 3, hgl, hs, rfl, rfl⟩ ?_
    refine HW.takeG (fuel := 0) 7 rfl (fun _ _ ka kb _ hg hs hka hkb => Y.assign rfl) ⟨_, _, 3, 3, hgl, hs, rfl, rfl⟩ rfl (by kernel_rfl) (by kernel_rfl) (by kernel_rfl) ?_
    refine HW.done (by kernel_rfl) ?_
    refine calmQ_normal ?_
    exact joinQ_meet h149 ⟨rfl, rfl, rfl, rfl, rfl, rfl, rfl, rfl, rfl, trivial⟩ ⟨hgl, hs⟩
  rintro hh2 w30 ⟨hg2, hs⟩
  try dsimp only at hg2
  try dsimp only at hs
  by_cases cA : i % (A + B) < A
  · obtain ⟨q, hq⟩ : ∃ q, catJ A B i = q := ⟨_, rfl⟩
    have hqc := hc1 cA
    rw [hat.1 cA, if_pos rfl] at hpl
    dsimp only at hpl
    have hcd : catD LP LQ A B noItem i = LP.getD q noItem := by unfold catD; rw [if_pos cA, hq]
    rw [hq] at hqc hpl
    subst hpl
    rw [hcd] at nx
    have hqL : q < LP.length := by rw [hla, hA]; exact hqc
    have hq0 : (0 : Int) ≤ (q : Int) := by omega
    obtain ⟨y, hy, hyl, hRy⟩ := hAPX.elem q hqL
    rw [getElem_getD _ _ noItem hqL] at hRy
    have hoy := ItemAt.one _ _ _ hRy
    have hSPXh := hSPX.mono (hg.trans hg2)
    have hRy := ItemAt.mono (PlainAt.mono (k + 1)) _ _ _ _ (hg.trans hg2) hRy
    have hAv := hAv.mono (fun u a => ItemAt.mono (PlainAt.mono (k + 1)) _ _ u a hg2)
    refine Zerun ?_
    refine CW.regionG T 3 3 hs rfl rfl ?_
    intro w31 hs
    have hgl := GLe.refl hh2
    refine HW.takeG (fuel := 10) 0 rfl (fun _ _ ka kb _ hg hs hka hkb => Y.fieldAddr T rfl rfl rfl rfl rfl) ⟨_, _, 3, 3, hgl, hs, rfl, rfl⟩ rfl (by kernel_rfl) (by kernel_rfl) (by kernel_rfl) ?_
    refine HW.takeG (fuel := 9) 2 rfl (fun _ _ ka kb _ hg hs hka hkb => Y.fieldAddr T rfl rfl rfl rfl rfl) ⟨_, _, 3, 3, hgl, hs, rfl, rfl⟩ rfl (by kernel_rfl) (by kernel_rfl) (by kernel_rfl) ?_
    refine HW.takeG (fuel := 8) 3 rfl (fun _ _ ka kb _ hg hs hka hkb => Y.loadRow1 T hs ka hka rfl rfl rfl rfl) ⟨_, _, 3, 3, hgl, hs, rfl, rfl⟩ rfl (by kernel_rfl) (by kernel_rfl) (by kernel_rfl) ?_
    refine HW.takeG (fuel := 7) 4 rfl (fun _ _ ka kb _ hg hs hka hkb => Y.move rfl) ⟨_, _, 3, 3, hgl, hs, rfl, rfl⟩ rfl (by kernel_rfl) (by kernel_rfl) (by kernel_rfl) ?_
    refine HW.takeG (fuel := 6) 5 rfl (fun _ _ ka kb _ hg hs hka hkb => Y.idxSN T rfl rfl (hSPXh.mono hg) rfl rfl rfl hqL) ⟨_, _, 3, 3, hgl, hs, rfl, rfl⟩ rfl (by kernel_rfl) (by kernel_rfl) (by kernel_rfl) ?_
    refine HW.takeG (fuel := 5) 6 rfl (fun _ _ ka kb _ hg hs hka hkb => Y.ldSN T hs rfl (hSPXh.mono hg) rfl rfl rfl rfl hqL hy hyl) ⟨_, _, 3, 3, hgl, hs, rfl, rfl⟩ rfl (by kernel_rfl) (by kernel_rfl) (by kernel_rfl) ?_
    refine HW.two (fuel := 4) 1 7 rfl rfl (by kernel_rfl) ?_ ?_
    · refine RW.val (Y.loadRow1 T hs 1 rfl rfl rfl rfl rfl) rfl ?_
      refine RW.nil ?_
      refine heldQ_normal ⟨_, _, 3, 3, hgl, hs, rfl, rfl⟩ ?_
      refine HW.one (fuel := 3) 7 rfl (by kernel_rfl) ?_
      (refine RW.lit T hs (vs := [.agg y.toArray]) (cs := y) rfl rfl rfl rfl (by simp [Value.cells, hyl]) rfl (by simp [Value.cells]) rfl rfl rfl ?_; intro b159 w159 hs)
      refine RW.nil ?_
      refine heldQ_normal ⟨_, _, 4, 4, hgl, hs, rfl, rfl⟩ ?_
      refine HW.one (fuel := 2) 8 rfl (by kernel_rfl) ?_
      (refine RW.append T hs 1 rfl rfl (m := 1) (news := y) rfl rfl rfl rfl rfl rfl (hs.src0 (by simpa using hyl) hoy) (by simp) (by dsimp only; omega) (by omega) ?_; intro ad160 cp160 w160 hs; replace hs := hs.drop)
      refine RW.nil ?_
      refine heldQ_normal ⟨_, _, 3, 3, hgl, hs, rfl, rfl⟩ ?_
      refine HW.takeG (fuel := 1) 9 rfl (fun _ _ ka kb _ hg hs hka hkb => Y.fieldAddr T rfl rfl rfl rfl rfl) ⟨_, _, 3, 3, hgl, hs, rfl, rfl⟩ rfl (by kernel_rfl) (by kernel_rfl) (by kernel_rfl) ?_
      refine HW.one (fuel := 0) 10 rfl (by kernel_rfl) ?_
      (refine RW.store1 T hs 1 rfl rfl rfl rfl rfl rfl rfl rfl ?_; intro w161 hs)
      refine RW.nil ?_
      refine heldQ_normal ⟨_, _, 3, 3, hgl, hs, rfl, rfl⟩ ?_
      refine HW.done (by kernel_rfl) ?_
      refine calmQ_normal ?_
      refine Zerun ?_
      exact loopQ_round (i + 1, (ad160, cp160), vs ++ y, hh2) ⟨rfl, rfl, rfl, rfl, rfl, rfl, rfl, rfl, trivial⟩ ⟨by dsimp only; omega, hg.trans hg2, nx hAv hyl hRy, hs⟩ (by dsimp only; omega)
    · (refine RW.lit T hs (vs := [.agg y.toArray]) (cs := y) rfl rfl rfl rfl (by simp [Value.cells, hyl]) rfl (by simp [Value.cells]) rfl rfl rfl ?_; intro b159 w159 hs)
      refine RW.nil ?_
      refine heldQ_normal ⟨_, _, 4, 4, hgl, hs, rfl, rfl⟩ ?_
      refine HW.one (fuel := 3) 1 rfl (by kernel_rfl) ?_
      refine RW.val (Y.loadRow1 T hs 2 rfl rfl rfl rfl rfl) rfl ?_
      refine RW.nil ?_
      refine heldQ_normal ⟨_, _, 4, 4, hgl, hs, rfl, rfl⟩ ?_
      refine HW.one (fuel := 2) 8 rfl (by kernel_rfl) ?_
      (refine RW.append T hs 1 rfl rfl (m := 1) (news := y) rfl rfl rfl rfl rfl rfl (hs.src0 (by simpa using hyl) hoy) (by simp) (by dsimp only; omega) (by omega) ?_; intro ad160 cp160 w160 hs; replace hs := hs.drop)
      refine RW.nil ?_
      refine heldQ_normal ⟨_, _, 3, 3, hgl, hs, rfl, rfl⟩ ?_
      refine HW.takeG (fuel := 1) 9 rfl (fun _ _ ka kb _ hg hs hka hkb => Y.fieldAddr T rfl rfl rfl rfl rfl) ⟨_, _, 3, 3, hgl, hs, rfl, rfl⟩ rfl (by kernel_rfl) (by kernel_rfl) (by kernel_rfl) ?_
      refine HW.one (fuel := 0) 10 rfl (by kernel_rfl) ?_
      (refine RW.store1 T hs 1 rfl rfl rfl rfl rfl rfl rfl rfl ?_; intro w161 hs)
      refine RW.nil ?_
      refine heldQ_normal ⟨_, _, 3, 3, hgl, hs, rfl, rfl⟩ ?_
      refine HW.done (by kernel_rfl) ?_
      refine calmQ_normal ?_
      refine Zerun ?_
      exact loopQ_round (i + 1, (ad160, cp160), vs ++ y, hh2) ⟨rfl, rfl, rfl, rfl, rfl, rfl, rfl, rfl, trivial⟩ ⟨by dsimp only; omega, hg.trans hg2, nx hAv hyl hRy, hs⟩ (by dsimp only; omega)
  obtain ⟨ha1, ha2, ha3, ha4⟩ := hat.2 cA
  rw [ha1, if_neg (by decide)] at hpl
  subst hpl
  rw [← hda] at ha4
  obtain ⟨q, hq⟩ : ∃ q, catJ A B i = q := ⟨_, rfl⟩
  have hqc := hc2 cA
  have hcd : catD LP LQ A B noItem i = LQ.getD q noItem := by unfold catD; rw [if_neg cA, hq]
  rw [hq] at hqc ha4
  rw [hcd] at nx
  have hqL : q < LQ.length := by rw [hlb, hB]; exact hqc
  have hq1 : ¬ (0 : Int) ≤ -1 := by omega
  obtain ⟨y, hy, hyl, hRy⟩ := hAPY.elem q hqL
  rw [getElem_getD _ _ noItem hqL] at hRy
  have hoy := ItemAt.one _ _ _ hRy
  have hS27h2 := hS27h.mono hg2
  have hS6 := hS6.mono hg2
  have hSXh2 := hSXh.mono hg2
  refine Zerun ?_
  (refine RW.lit T hs (vs := []) rfl rfl rfl rfl (by simp [Value.cells]) rfl rfl rfl rfl rfl ?_; intro b7 w7 hs)
  refine Zerun ?_
  refine RW.append T hs 0 rfl rfl (m := x.length) (news := x.map (Value.int .i64)) rfl rfl rfl rfl rfl rfl (hS6.src hs.agree (one_ints _ _)) (fun e => by subst e; exact hS6.nil0.2) (by dsimp only; omega) (by omega) ?_
  intro ad7 cp7 w7 hs
  simp only [List.nil_append, Nat.zero_add, List.flatMap_nil] at hs ⊢
  refine Zerun ?_
  refine CW.regionT T 13 hs (fun w hs => ?_) (by kernel_rfl)
  simp only [List.take_succ_cons, List.take_zero, List.drop_succ_cons, List.drop_zero]
  refine Zsrun ?_
  refine SW.val (Y.idxRN T hs 0 rfl rfl rfl rfl rfl rfl hjxx) rfl ?_
  refine SW.val (Y.ldRInt T hs 0 rfl rfl rfl rfl hjxx) rfl ?_
  refine Zsrun ?_
  refine SW.val (Y.loadRow1 T hs 4 rfl rfl rfl rfl rfl) rfl ?_
  refine Zsrun ?_
  try dsimp only
  refine SW.val (Y.sub rfl rfl (by omega)) rfl ?_
  refine SW.val (Y.idxRN T hs 0 rfl rfl rfl rfl rfl rfl hjxx) rfl ?_
  refine SW.nil ?_
  refine RW.st1 T hs 0 rfl rfl rfl rfl rfl rfl rfl hjxx ?_
  intro w8 hs
  dsimp only [List.set_cons_zero] at hs
  rw [map_set_int] at hs
  obtain ⟨h8', hle8', hs, hS8'⟩ := hs.freeze
  have hIx : IntsAt h8' (.slice ad7 x.length cp7) (x.set j (x.getD j 0 - X.getD j 0)) := by
    have hl : (x.set j (x.getD j 0 - X.getD j 0)).length = x.length := List.length_set
    dsimp only at hS8'
    rw [← hl] at hS8' ⊢
    exact IntsAt.of_sl hS8'
  have hIY8 := hIYh.mono (hg2.trans hle8')
  have hSPY8 := hSPY.mono (hg.trans (hg2.trans hle8'))
  have hRy := ItemAt.mono (PlainAt.mono (k + 1)) _ _ _ _ (hg.trans (hg2.trans hle8')) hRy
  have hAv := hAv.mono (fun u a => ItemAt.mono (PlainAt.mono (k + 1)) _ _ u a (hg2.trans hle8'))
  refine Zerun ?_
  refine CW.regionG T 2 2 hs rfl rfl ?_
  intro w31 hs
  have hgl := GLe.refl h8'
  refine HW.takeG (fuel := 13) 0 rfl (fun _ _ ka kb _ hg hs hka hkb => Y.fieldAddr T rfl rfl rfl rfl rfl) ⟨_, _, 2, 2, hgl, hs, rfl, rfl⟩ rfl (by kernel_rfl) (by kernel_rfl) (by kernel_rfl) ?_
  refine HW.takeG (fuel := 12) 2 rfl (fun _ _ ka kb _ hg hs hka hkb => Y.fieldAddr T rfl rfl rfl rfl rfl) ⟨_, _, 2, 2, hgl, hs, rfl, rfl⟩ rfl (by kernel_rfl) (by kernel_rfl) (by kernel_rfl) ?_
  refine HW.takeG (fuel := 11) 3 rfl (fun _ _ ka kb _ hg hs hka hkb => Y.loadRow1 T hs ka hka rfl rfl rfl rfl) ⟨_, _, 2, 2, hgl, hs, rfl, rfl⟩ rfl (by kernel_rfl) (by kernel_rfl) (by kernel_rfl) ?_
  refine HW.takeG (fuel := 10) 4 rfl (fun _ _ ka kb _ hg hs hka hkb => Y.fieldAddr T rfl rfl rfl rfl rfl) ⟨_, _, 2, 2, hgl, hs, rfl, rfl⟩ rfl (by kernel_rfl) (by kernel_rfl) (by kernel_rfl) ?_
  refine HW.takeG (fuel := 9) 5 rfl (fun _ _ ka kb _ hg hs hka hkb => Y.loadRow1 T hs ka hka rfl rfl rfl rfl) ⟨_, _, 2, 2, hgl, hs, rfl, rfl⟩ rfl (by kernel_rfl) (by kernel_rfl) (by kernel_rfl) ?_
  refine HW.takeG (fuel := 8) 6 rfl (fun _ _ ka kb _ hg hs hka hkb => Y.move rfl) ⟨_, _, 2, 2, hgl, hs, rfl, rfl⟩ rfl (by kernel_rfl) (by kernel_rfl) (by kernel_rfl) ?_
  refine HW.two (fuel := 7) 1 7 rfl rfl (by kernel_rfl) ?_ ?_
  · refine RW.val (Y.loadRow1 T hs 1 rfl rfl rfl rfl rfl) rfl ?_
    refine RW.nil ?_
    refine heldQ_normal ⟨_, _, 2, 2, hgl, hs, rfl, rfl⟩ ?_
    refine HW.one (fuel := 6) 7 rfl (by kernel_rfl) ?_
    (refine RW.call T hs rfl rfl rfl (place_con _ _ Y0 (x.set j (x.getD j 0 - X.getD j 0)) _ _ (hIY8.mono hgl) (hIx.mono hgl) (by omega)) ?_; intro v h188 w188 hle188 hp188 hs)
    rw [ha4, if_pos rfl] at hp188
    dsimp only at hp188
    subst hp188
    have hgl := hgl.trans hle188
    refine RW.nil ?_
    refine heldQ_normal ⟨_, _, 2, 2, hgl, hs, rfl, rfl⟩ ?_
    refine HW.takeG (fuel := 5) 8 rfl (fun _ _ ka kb _ hg hs hka hkb => Y.idxSN T rfl rfl (hSPY8.mono hg) rfl rfl rfl hqL) ⟨_, _, 2, 2, hgl, hs, rfl, rfl⟩ rfl (by kernel_rfl) (by kernel_rfl) (by kernel_rfl) ?_
    refine HW.takeG (fuel := 4) 9 rfl (fun _ _ ka kb _ hg hs hka hkb => Y.ldSN T hs rfl (hSPY8.mono hg) rfl rfl rfl rfl hqL hy hyl) ⟨_, _, 2, 2, hgl, hs, rfl, rfl⟩ rfl (by kernel_rfl) (by kernel_rfl) (by kernel_rfl) ?_
    refine HW.one (fuel := 3) 10 rfl (by kernel_rfl) ?_
    (refine RW.lit T hs (vs := [.agg y.toArray]) (cs := y) rfl rfl rfl rfl (by simp [Value.cells, hyl]) rfl (by simp [Value.cells]) rfl rfl rfl ?_; intro b191 w191 hs)
    refine RW.nil ?_
    refine heldQ_normal ⟨_, _, 3, 3, hgl, hs, rfl, rfl⟩ ?_
    refine HW.one (fuel := 2) 11 rfl (by kernel_rfl) ?_
    (refine RW.append T hs 1 rfl rfl (m := 1) (news := y) rfl rfl rfl rfl rfl rfl (hs.src0 (by simpa using hyl) hoy) (by simp) (by dsimp only; omega) (by omega) ?_; intro ad192 cp192 w192 hs; replace hs := hs.drop)
    refine RW.nil ?_
    refine heldQ_normal ⟨_, _, 2, 2, hgl, hs, rfl, rfl⟩ ?_
    refine HW.takeG (fuel := 1) 12 rfl (fun _ _ ka kb _ hg hs hka hkb => Y.fieldAddr T rfl rfl rfl rfl rfl) ⟨_, _, 2, 2, hgl, hs, rfl, rfl⟩ rfl (by kernel_rfl) (by kernel_rfl) (by kernel_rfl) ?_
    refine HW.one (fuel := 0) 13 rfl (by kernel_rfl) ?_
    (refine RW.store1 T hs 1 rfl rfl rfl rfl rfl rfl rfl rfl ?_; intro w193 hs)
    refine RW.nil ?_
    refine heldQ_normal ⟨_, _, 2, 2, hgl, hs, rfl, rfl⟩ ?_
    refine HW.done (by kernel_rfl) ?_
    refine calmQ_normal ?_
    refine Zerun ?_
    exact loopQ_round (i + 1, (ad192, cp192), vs ++ y, h188) ⟨rfl, rfl, rfl, rfl, rfl, rfl, rfl, rfl, trivial⟩ ⟨by dsimp only; omega, hg.trans ((hg2.trans hle8').trans hgl), nx (hAv.mono (fun u a => ItemAt.mono (PlainAt.mono (k + 1)) _ _ u a hgl)) hyl (ItemAt.mono (PlainAt.mono (k + 1)) _ _ _ _ hgl hRy), hs⟩ (by dsimp only; omega)
  · (refine RW.call T hs rfl rfl rfl (place_con _ _ Y0 (x.set j (x.getD j 0 - X.getD j 0)) _ _ (hIY8.mono hgl) (hIx.mono hgl) (by omega)) ?_; intro v h188 w188 hle188 hp188 hs)
    rw [ha4, if_pos rfl] at hp188
    dsimp only at hp188
    subst hp188
    have hgl := hgl.trans hle188
    refine RW.nil ?_
    refine heldQ_normal ⟨_, _, 2, 2, hgl, hs, rfl, rfl⟩ ?_
    refine HW.takeG (fuel := 6) 8 rfl (fun _ _ ka kb _ hg hs hka hkb => Y.idxSN T rfl rfl (hSPY8.mono hg) rfl rfl rfl hqL) ⟨_, _, 2, 2, hgl, hs, rfl, rfl⟩ rfl (by kernel_rfl) (by kernel_rfl) (by kernel_rfl) ?_
    refine HW.takeG (fuel := 5) 9 rfl (fun _ _ ka kb _ hg hs hka hkb => Y.ldSN T hs rfl (hSPY8.mono hg) rfl rfl rfl rfl hqL hy hyl) ⟨_, _, 2, 2, hgl, hs, rfl, rfl⟩ rfl (by kernel_rfl) (by kernel_rfl) (by kernel_rfl) ?_
    refine HW.two (fuel := 4) 1 10 rfl rfl (by kernel_rfl) ?_ ?_
    · refine RW.val (Y.loadRow1 T hs 1 rfl rfl rfl rfl rfl) rfl ?_
      refine RW.nil ?_
      refine heldQ_normal ⟨_, _, 2, 2, hgl, hs, rfl, rfl⟩ ?_
      refine HW.one (fuel := 3) 10 rfl (by kernel_rfl) ?_
      (refine RW.lit T hs (vs := [.agg y.toArray]) (cs := y) rfl rfl rfl rfl (by simp [Value.cells, hyl]) rfl (by simp [Value.cells]) rfl rfl rfl ?_; intro b191 w191 hs)
      refine RW.nil ?_
      refine heldQ_normal ⟨_, _, 3, 3, hgl, hs, rfl, rfl⟩ ?_
      refine HW.one (fuel := 2) 11 rfl (by kernel_rfl) ?_
      (refine RW.append T hs 1 rfl rfl (m := 1) (news := y) rfl rfl rfl rfl rfl rfl (hs.src0 (by simpa using hyl) hoy) (by simp) (by dsimp only; omega) (by omega) ?_; intro ad192 cp192 w192 hs; replace hs := hs.drop)
      refine RW.nil ?_
      refine heldQ_normal ⟨_, _, 2, 2, hgl, hs, rfl, rfl⟩ ?_
      refine HW.takeG (fuel := 1) 12 rfl (fun _ _ ka kb _ hg hs hka hkb => Y.fieldAddr T rfl rfl rfl rfl rfl) ⟨_, _, 2, 2, hgl, hs, rfl, rfl⟩ rfl (by kernel_rfl) (by kernel_rfl) (by kernel_rfl) ?_
      refine HW.one (fuel := 0) 13 rfl (by kernel_rfl) ?_
      (refine RW.store1 T hs 1 rfl rfl rfl rfl rfl rfl rfl rfl ?_; intro w193 hs)
      refine RW.nil ?_
      refine heldQ_normal ⟨_, _, 2, 2, hgl, hs, rfl, rfl⟩ ?_
      refine HW.done (by kernel_rfl) ?_
      refine calmQ_normal ?_
      refine Zerun ?_
      exact loopQ_round (i + 1, (ad192, cp192), vs ++ y, h188) ⟨rfl, rfl, rfl, rfl, rfl, rfl, rfl, rfl, trivial⟩ ⟨by dsimp only; omega, hg.trans ((hg2.trans hle8').trans hgl), nx (hAv.mono (fun u a => ItemAt.mono (PlainAt.mono (k + 1)) _ _ u a hgl)) hyl (ItemAt.mono (PlainAt.mono (k + 1)) _ _ _ _ hgl hRy), hs⟩ (by dsimp only; omega)
    · (refine RW.lit T hs (vs := [.agg y.toArray]) (cs := y) rfl rfl rfl rfl (by simp [Value.cells, hyl]) rfl (by simp [Value.cells]) rfl rfl rfl ?_; intro b191 w191 hs)
      refine RW.nil ?_
      refine heldQ_normal ⟨_, _, 3, 3, hgl, hs, rfl, rfl⟩ ?_
      refine HW.one (fuel := 3) 1 rfl (by kernel_rfl) ?_
      refine RW.val (Y.loadRow1 T hs 2 rfl rfl rfl rfl rfl) rfl ?_
      refine RW.nil ?_
      refine heldQ_normal ⟨_, _, 3, 3, hgl, hs, rfl, rfl⟩ ?_
      refine HW.one (fuel := 2) 11 rfl (by kernel_rfl) ?_
      (refine RW.append T hs 1 rfl rfl (m := 1) (news := y) rfl rfl rfl rfl rfl rfl (hs.src0 (by simpa using hyl) hoy) (by simp) (by dsimp only; omega) (by omega) ?_; intro ad192 cp192 w192 hs; replace hs := hs.drop)
      refine RW.nil ?_
      refine heldQ_normal ⟨_, _, 2, 2, hgl, hs, rfl, rfl⟩ ?_
      refine HW.takeG (fuel := 1) 12 rfl (fun _ _ ka kb _ hg hs hka hkb => Y.fieldAddr T rfl rfl rfl rfl rfl) ⟨_, _, 2, 2, hgl, hs, rfl, rfl⟩ rfl (by kernel_rfl) (by kernel_rfl) (by kernel_rfl) ?_
      refine HW.one (fuel := 0) 13 rfl (by kernel_rfl) ?_
      (refine RW.store1 T hs 1 rfl rfl rfl rfl rfl rfl rfl rfl ?_; intro w193 hs)
      refine RW.nil ?_
      refine heldQ_normal ⟨_, _, 2, 2, hgl, hs, rfl, rfl⟩ ?_
      refine HW.done (by kernel_rfl) ?_
      refine calmQ_normal ?_
      refine Zerun ?_
      exact loopQ_round (i + 1, (ad192, cp192), vs ++ y, h188) ⟨rfl, rfl, rfl, rfl, rfl, rfl, rfl, rfl, trivial⟩ ⟨by dsimp only; omega, hg.trans ((hg2.trans hle8').trans hgl), nx (hAv.mono (fun u a => ItemAt.mono (PlainAt.mono (k + 1)) _ _ u a hgl)) hyl (ItemAt.mono (PlainAt.mono (k + 1)) _ _ _ _ hgl hRy), hs⟩ (by dsimp only; omega)
end Go.Proofs.YtmojpbfkpggjhaaGreat

/-
  Contracts of lists of arrays behind each other: the code's and the document's; and the plain law that both tell the same. No statement is proved here.
-/
namespace Go.Proofs.YtmojpbfkpggjhaaGreat
open Go Go.RowKit
set_option linter.unusedVariables false
set_option linter.unusedSimpArgs false
set_option maxHeartbeats 4000000
attribute [local irreducible] CW RW QW SW HW ConM retM heldQ calmQ elemP thenQ blockQ loopQ joinQ retQ Yields Con Sl zF magR unitF truncF fwF wholeF tidySpec elemQ rankF leastN tidyW
set_option maxHeartbeats 4000000

/-- an array and what it shows -/
structure LOk (k : Nat) (a : ArrD (AD (k + 1))) (p : PlainD (PD (k + 1))) : Prop where
  tl : Tells k a.vec p.items p.fill
  sq : a.vec.sq = a.vec
  sh : a.shape = p.shape
  pr : product a.shape 1048576 = ((a.vec.len : Int), 0)
theorem LOk.prP {k : Nat} {a : ArrD (AD (k + 1))} {p : PlainD (PD (k + 1))} (H : LOk k a p) : product p.shape 1048576 = ((p.items.length : Int), 0) := by rw [← H.sh, H.tl.ln]; exact H.pr
theorem LOk.fill0 {k : Nat} {a : ArrD (AD (k + 1))} {p : PlainD (PD (k + 1))} (H : LOk k a p) : 0 ≤ p.fill := by
  rw [← H.tl.sh.hc]
  have := cls_rng a.vec
  omega
theorem LOk.list {k : Nat} {a : ArrD (AD (k + 1))} {p : PlainD (PD (k + 1))} (H : LOk k a p) : LOk k (⟨[(a.vec.len : Int)], a.vec⟩ : ArrD (AD (k + 1))) (⟨[(p.items.length : Int)], p.items, p.fill⟩ : PlainD (PD (k + 1))) :=
  ⟨H.tl, H.sq, by show [(a.vec.len : Int)] = [(p.items.length : Int)]; rw [H.tl.ln], product_len1 _ H.tl.sh.vm⟩
/-! ## The answers -/
section
variable {k i : Nat} {most e : Int} {out a r : ArrD (AD (k + 1))} {po p ro : PlainD (PD (k + 1))} {Z : List (ArrD (AD (k + 1)))} {Y1 : List (PlainD (PD (k + 1)))}
end
/-! ## Walks -/
end Go.Proofs.YtmojpbfkpggjhaaGreat

/-
  Contract of the law's own function of layer 22: lists of arrays behind each other. No statement is proved here.
-/
namespace Go.Proofs.YtmojpbfkpggjhaaGreat
open Go Go.RowKit
set_option linter.unusedVariables false
set_option linter.unusedSimpArgs false
set_option maxHeartbeats 4000000
attribute [local irreducible] CW RW QW SW HW ConM retM heldQ calmQ elemP thenQ blockQ loopQ joinQ retQ Yields Con Sl zF magR unitF truncF fwF wholeF tidySpec elemQ rankF leastN tidyW
set_option maxHeartbeats 4000000

theorem arrV_sq2 {α β : Type} (f : α → β) (c : Int) (l : List (ItemD α)) : (arrV f c l).sq = arrV f c l := by
  unfold arrV
  by_cases h1 : c = 1
  · rw [if_pos h1]; exact sqC2 (show (1 : Int) ≠ 0 by decide)
  · rw [if_neg h1]
    by_cases h2 : c = 2
    · rw [if_pos h2]; exact sqC2 (show (2 : Int) ≠ 0 by decide)
    · rw [if_neg h2]
      have hb := leastN_bounds (l.map fun x => tidyW x.num)
      exact sq_nums _ _ (by omega) (by omega)
theorem lok_arr {k : Nat} (p : PD (k + 2)) (h : GHeap) (cs : List Value) (hp : PlainAt (k + 2) h cs p) (hc : chk (k + 2) 40 p = 0) : LOk k (arr (k + 2) p) (tidy (k + 2) p) := by
  obtain ⟨h1, h2⟩ := tells_of k p h cs hp hc
  exact ⟨h1, arrV_sq2 _ _ _, rfl, h2⟩
end Go.Proofs.YtmojpbfkpggjhaaGreat

/-
  The program logic, further parts: the room of a slice, noughts put behind a row, a row seen one cell further. No statement is proved here.
-/
namespace Go.Proofs.YtmojpbfkpggjhaaGreat
open Go Go.RowKit
set_option linter.unusedVariables false
set_option linter.unusedSimpArgs false
set_option maxHeartbeats 4000000

section
variable {P : Program} (T : Tab P) {n : Nat} {Q : Post} {L : Env} {w0 w : World} {h0 h : GHeap} {O : List Row} {ops rest : List Oper} {x y : Operand} {t t2 : TypeId}
variable {d : Option Tmp} {ty : TypeId} {pos : String} {aft : Array Edge}
theorem Y.cap {e : TypeId} {ad : Option Addr} {m cp : Nat} (hT : T.ty t = some (.slice e)) (hx : opv L x = some (.slice ad m cp)) : Yields P n L w (.call ⟨.builtin .cap, #[x], #[t]⟩) ty (.int .i64 (cp : Int)) := by
  intro a ha d pos aft g
  have h1 : P.underlying t = some (.slice e) := T.ty_ok _ _ hT
  simp [execOp, resolve, invoke, builtin, Builtin.cap_, ha.eval hx, run_underlying h1, goInt]
theorem Y.stood2 {f : FuncId} {fn : Func} {e : Array Value → Sem Value} (hf : P.funcs[f]? = some fn) (hname : (fn.name == "runtime.NumGoroutine") = false) (hb : fn.body.isNone = true) (hn : Extern.findNext fn = none) (he : Extern.find fn = some e)
    {u u' v : Value} (hx : opv L x = some u) (hy : opv L y = some u') (hr : (e #[u, u']).run P w = .ok v w) {ats : Array TypeId} : Yields P n L w (.call ⟨.value (.func f), #[x, y], ats⟩) ty v := by
  intro a ha d pos aft g
  have h1 := run_callFunc_extern hf hname hb hn he #[u, u'] w
  rw [hr] at h1
  have hcl : a.eval (.func f) = .func (.func f) #[] #[] := rfl
  simp [execOp, resolve, Deferred.ofValue, hcl, invoke, ha.eval hx, ha.eval hy, h1]
/-- noughts behind what a slice holds, where there is no room: a new row -/
theorem RW.appendZ (hs : Sees w0 h0 h O w) {base : Option Addr} {sLen sCap kz : Nat} {e : TypeId} {i : Inf} {kn kq : IntKind} {olds : List Value} {z : Value} (hx : opv L x = some (.slice base sLen sCap)) (hy : opv L y = some (.int kq (kz : Int))) (hd : dstOk n d = true) (hT : T.ty t = some (.slice e)) (hTn : T.ty t2 = some (.int kn))
    (hI : T.inf e = some i) (hi : i.size = 1) (hz : i.zero.cells = #[z]) (hl : olds.length = sLen) (hn : base = none → sLen = 0) (hold : ∀ a, base = some a → ∀ j u, olds[j]? = some u → w.cell? (a.add j) = some u) (h1 : 0 < kz) (hg : sCap < sLen + kz) (hm : (sLen + kz) * i.bytes ≤ 140737488355328) (h63 : sLen + kz ≤ 9223372036854775807)
    (K : ∀ b cp' w', Sees w0 h0 h (⟨some ⟨b, 0, none⟩, sLen + kz, cp', e, 1, olds ++ List.replicate kz z⟩ :: O) w' → RW P n ops Q (updo d (.slice (some ⟨b, 0, none⟩) (sLen + kz) cp') L) w' rest) :
    RW P n ops Q L w (⟨d, .call ⟨.builtin .append, #[x, y], #[t, t2]⟩, ty, pos, aft, none⟩ :: rest) := by
  have ht : P.underlying t = some (.slice e) := T.ty_ok _ _ hT
  have htn : P.underlying t2 = some (.int kn) := T.ty_ok _ _ hTn
  obtain ⟨zi, hzi, hi1, hi2, hi3⟩ := T.inf_ok _ _ hI
  have hf : (Builtin.firstCells zi.size sLen (.slice base sLen sCap)).run P w.drew = .ok olds.toArray w.drew := by
    cases base with
    | none =>
      have h0 := hn rfl
      subst h0
      rw [List.eq_nil_of_length_eq_zero hl]
      exact run_firstCells_none w.drew _ _ _ _
    | some a => exact run_firstCells_some w.drew zi.size sLen a sLen sCap olds (by rw [hi1, hi, Nat.mul_one]; exact hl) (by simpa using hold a rfl)
  have hr := Go.Lib.run_append_grow_zeros (P := P) w t t2 ty e zi i.zero kq kn ht htn hzi hi3 base sLen sCap olds hf kz h1 (by omega) hg (by omega) (by rw [hi2]; have := Nat.mul_le_mul_right i.bytes (show kz ≤ sLen + kz by omega); omega) (growslice_fits (by omega) (by rw [hi2]; exact hm))
  rw [hz] at hr
  have hge := grownCap_ge w (sLen + kz) sCap e
  have hcm : grownCap w (sLen + kz) sCap e ≤ maxLen := grownCap_le_maxLen w (sLen + kz) sCap e (by simp only [maxLen]; omega)
  have hzc : ∀ m, (Builtin.zeroCells #[z] m).toList = List.replicate m z := fun m => by
    have e1 := size_zeroCells #[z] m
    apply List.ext_getElem?
    intro j
    simp only [Builtin.zeroCells, List.size_toArray, List.length_cons, List.length_nil, Nat.zero_add, Nat.mul_one, Array.toList_map, List.getElem?_map, Array.toList_range, Nat.mod_one]
    by_cases hj : j < m
    · rw [List.getElem?_range hj, List.getElem?_replicate, if_pos hj]; rfl
    · rw [List.getElem?_eq_none (by simpa using hj), List.getElem?_replicate, if_neg hj]; rfl
  refine RW.step (v := .slice (some ⟨w.heap.size, 0, none⟩) (sLen + kz) (grownCap w (sLen + kz) sCap e)) (w' := w.drew.alloc (.cells (olds ++ List.replicate kz z ++ List.replicate (grownCap w (sLen + kz) sCap e - (sLen + kz)) z).toArray e)) ?_ hd (K w.heap.size _ _ ?_)
  · intro a ha
    rw [show (olds ++ List.replicate kz z ++ List.replicate (grownCap w (sLen + kz) sCap e - (sLen + kz)) z).toArray = olds.toArray ++ Builtin.zeroCells #[z] kz ++ Builtin.zeroCells #[z] (grownCap w (sLen + kz) sCap e - (sLen + kz)) from by rw [← hzc, ← hzc]; simp]
    simp [execOp, resolve, invoke, builtin, ha.eval hx, ha.eval hy, hr]
  · refine hs.drew.alloc hge hcm ?_ ?_
    · simp only [List.length_append, List.length_replicate, hl]
      omega
    · rw [Nat.mul_one, List.take_append_of_le_length (by simp only [List.length_append, List.length_replicate, hl]; omega), List.take_of_length_le (by simp only [List.length_append, List.length_replicate, hl]; omega)]
/-- a row of the call's own, seen one cell further -/
theorem Sees.stretch {b m cp : Nat} {e : TypeId} {xs : List Value} (hs : Sees w0 h0 h (⟨some ⟨b, 0, none⟩, m, cp, e, 1, xs⟩ :: O) w) (hm : m + 1 ≤ cp) : ∃ y, Sees w0 h0 h (⟨some ⟨b, 0, none⟩, m + 1, cp, e, 1, xs ++ [y]⟩ :: O) w := by
  obtain ⟨h1, h2⟩ := hs.own _ List.mem_cons_self
  obtain ⟨hl, hc⟩ := h1
  rcases hc with ⟨hv, _⟩ | ⟨g, cap, cur, hv, hb, hg, hnc, hcm, hcs, htk⟩
  · simp [Row.v] at hv
  simp only [Row.v, Value.slice.injEq, Option.some.injEq, Addr.mk.injEq, true_and, and_true] at hv
  obtain ⟨rfl, rfl⟩ := hv
  simp only [Nat.mul_one] at hcs htk hl hg hb hcm hnc
  have hlt : m < cur.toList.length := by rw [Array.length_toList]; omega
  refine ⟨cur.toList[m], hs.below, hs.agree, hs.le, hs.old, ?_, ?_⟩
  · intro r hr
    rcases List.mem_cons.1 hr with rfl | hr
    · refine ⟨⟨by simp [hl], .inr ⟨b, cp, cur, rfl, hb, hg, hm, hcm, by simp [hcs], ?_⟩⟩, fun k hk => h2 k hk⟩
      show List.take ((m + 1) * 1) cur.toList = xs ++ _
      rw [Nat.mul_one, List.take_add_one, List.getElem?_eq_getElem hlt, htk, Option.toList_some]
    · exact hs.own r (List.mem_cons_of_mem _ hr)
  · have := hs.apart
    simp only [List.map_cons, List.pairwise_cons] at this ⊢
    exact ⟨fun s hsm => by have h := this.1 s hsm; exact h, this.2⟩
/-- two rows of the call's own do not overlap -/
theorem run_overlaps_rows {b c p m m2 cp cp2 ml mc : Nat} {e : TypeId} {i : Inf} {xs ys : List Value} {tR : TypeId} (hs : Sees w0 h0 h (⟨some ⟨b, 0, none⟩, m, cp, e, 1, xs⟩ :: ⟨some ⟨c, 0, none⟩, m2, cp2, e, 1, ys⟩ :: O) w) (hT : T.ty t = some (.slice e)) (hI : T.inf e = some i) (hm : 0 < cp) :
    (Extern.SlicesOverlaps.overlaps #[t, t] #[tR] #[.slice (some ⟨c, 0, none⟩) m2 cp2, .slice (some ⟨b, p, none⟩) ml mc]).run P w = .ok (.bool false) w := by
  have h1 := (hs.own _ List.mem_cons_self).1
  have h2 := (hs.own _ (List.mem_cons_of_mem _ List.mem_cons_self)).1
  have f2 := World.ownsRow.frozenAt (g := c) h2
  have hne : c ≠ b := by
    have := hs.apart
    simp only [List.map_cons, List.pairwise_cons, List.mem_cons, forall_eq_or_imp] at this
    have h := this.1.1
    rcases h with h | h
    · simp [Row.v, Value.ownBlock] at h
    · intro e
      exact h (by simp [Row.v, Value.ownBlock, e])
  rcases h1.2 with ⟨hv, _⟩ | ⟨g1, cap1, cur1, hv1, _, hg1, _, _, hc1, _⟩
  · simp [Row.v] at hv
  rcases h2.2 with ⟨hv, _⟩ | ⟨g2, cap2, cur2, hv2, _, hg2, _, _, hc2, _⟩
  · simp [Row.v] at hv
  simp only [Row.v, Value.slice.injEq, Option.some.injEq, Addr.mk.injEq, true_and, and_true] at hv1 hv2
  obtain ⟨rfl, rfl⟩ := hv1
  obtain ⟨rfl, rfl⟩ := hv2
  exact Go.Lib.run_overlaps_apart (P := P) w t tR e (T.ty_ok _ _ hT) i.size (fun w => T.sizeOf hI) ⟨c, 0, none⟩ ⟨b, p, none⟩ _ _ _ _ hne e e cur2.size cur1.size (by simp [World.shape?, hg2]) (by simp [World.shape?, hg1]) (by dsimp only at hc1; omega) (f2 0) (f2 _)
end
end Go.Proofs.YtmojpbfkpggjhaaGreat

/-
  Contract of slices.Insert at int. No statement is proved here.
-/
namespace Go.Proofs.YtmojpbfkpggjhaaGreat
open Go Go.RowKit
set_option linter.unusedVariables false
set_option linter.unusedSimpArgs false
set_option maxHeartbeats 4000000
attribute [local irreducible] CW RW QW SW HW ConM retM heldQ calmQ elemP thenQ blockQ loopQ joinQ retQ Yields Con Sl elemQ
set_option maxHeartbeats 4000000

theorem ins_shift (l : List Int) (j : Nat) (x : Int) (y : Value) (h : j < l.length) : (((l.map (Value.int .i64) ++ [y]).take (j + 1) ++ (l.drop j).map (Value.int .i64) ++ (l.map (Value.int .i64) ++ [y]).drop (j + 1 + ((l.drop j).map (Value.int .i64)).length)).take j ++ [Value.int .i64 x] ++ ((l.map (Value.int .i64) ++ [y]).take (j + 1) ++ (l.drop j).map (Value.int .i64) ++ (l.map (Value.int .i64) ++ [y]).drop (j + 1 + ((l.drop j).map (Value.int .i64)).length)).drop (j + 1)) = (l.take j ++ x :: l.drop j).map (Value.int .i64) := by
  have e1 : ((l.map (Value.int .i64) ++ [y]).take (j + 1)).length = j + 1 := by rw [List.length_take, List.length_append, List.length_map]; simp; omega
  have e2 : (l.map (Value.int .i64) ++ [y]).drop (j + 1 + ((l.drop j).map (Value.int .i64)).length) = [] := List.drop_eq_nil_of_le (by simp; omega)
  rw [e2, List.append_nil, List.take_append_of_le_length (by omega), List.drop_append_of_le_length (by omega), List.drop_of_length_le (by omega), List.nil_append, List.take_take, Nat.min_eq_left (by omega), List.take_append_of_le_length (by rw [List.length_map]; omega), List.map_append, List.map_cons, List.map_take]
  simp
theorem ins_grow (l : List Int) (j : Nat) (x : Int) (h : j < l.length) : (((l.take j).map (Value.int .i64) ++ List.replicate (l.length + 1 - j) (Value.int .i64 0)).take j ++ [Value.int .i64 x] ++ ((l.take j).map (Value.int .i64) ++ List.replicate (l.length + 1 - j) (Value.int .i64 0)).drop (j + 1)).take (j + 1) ++ (l.drop j).map (Value.int .i64) ++ (((l.take j).map (Value.int .i64) ++ List.replicate (l.length + 1 - j) (Value.int .i64 0)).take j ++ [Value.int .i64 x] ++ ((l.take j).map (Value.int .i64) ++ List.replicate (l.length + 1 - j) (Value.int .i64 0)).drop (j + 1)).drop (j + 1 + ((l.drop j).map (Value.int .i64)).length) = (l.take j ++ x :: l.drop j).map (Value.int .i64) := by
  have e1 : ((l.take j).map (Value.int .i64)).length = j := by rw [List.length_map, List.length_take]; omega
  generalize hA : (l.take j).map (Value.int .i64) = A at *
  have e3 : (A ++ List.replicate (l.length + 1 - j) (Value.int .i64 0)).take j = A := by rw [List.take_append_of_le_length (by omega), List.take_of_length_le (by omega)]
  have e2 : (A ++ [Value.int .i64 x]).length = j + 1 := by simp [e1]
  rw [e3]
  generalize hD : (A ++ List.replicate (l.length + 1 - j) (Value.int .i64 0)).drop (j + 1) = D
  have e4 : D.length = l.length - j := by rw [← hD, List.length_drop, List.length_append, List.length_replicate]; omega
  rw [List.take_append_of_le_length (by omega), List.take_of_length_le (by omega)]
  have e5 : (A ++ [Value.int .i64 x] ++ D).drop (j + 1 + ((l.drop j).map (Value.int .i64)).length) = [] := List.drop_eq_nil_of_le (by rw [List.length_append, List.length_map, List.length_drop]; omega)
  rw [e5, ← hA]
  simp
theorem one_ints' (l : List Int) : ∀ v ∈ l.map (Value.int .i64), v.oneCell' = true := fun v hv => by obtain ⟨z, _, rfl⟩ := List.mem_map.1 hv; rfl
/-- a number put into a row of the caller's own -/
theorem insertInt_conM (ad : Option Addr) (cp vb vc j : Nat) (x : Int) (l : List Int) (w0 w : World) (h0 h : GHeap) (O : List Row) (hj : j ≤ l.length) (h0l : 0 < l.length) (hm : l.length ≤ 1099511627776) :
    ConM Tryz.prog 140 [.slice ad l.length cp, .int .i64 (j : Int), .slice (some ⟨vb, 0, none⟩) 1 vc] w0 h0 h (⟨ad, l.length, cp, 3, 1, l.map (Value.int .i64)⟩ :: ⟨some ⟨vb, 0, none⟩, 1, vc, 3, 1, [.int .i64 x]⟩ :: O) w
      (fun h' O' v => h' = h ∧ ∃ ad' cp', v = .slice ad' (l.length + 1) cp' ∧ O' = ⟨ad', l.length + 1, cp', 3, 1, (l.take j ++ x :: l.drop j).map (Value.int .i64)⟩ :: O) := by
  refine ConM.of_body Tryz.func140 rfl Tryz.ntmps140 rfl rfl ?_
  intro hs
  obtain ⟨b, rfl⟩ := hs.rowAt (k := 0) rfl (by omega)
  have hcap := (hs.rowCap (k := 0) rfl)
  have hcpn := (hs.rowCap (k := 1) rfl)
  simp only [maxLen] at hcap hcpn
  refine Zerun ?_
  refine RW.val (Y.sliceLo T rfl rfl rfl rfl (by omega) (by omega)) rfl ?_
  refine Zerun ?_
  by_cases ce : j = l.length
  · have ce' : (j : Int) = l.length := by omega
    refine Zerun ?_
    refine RW.append T hs 0 rfl rfl (m := 1) (news := [.int .i64 x]) rfl rfl rfl rfl rfl rfl ⟨rfl, (fun u hu => by rw [List.mem_singleton.1 hu]; rfl), (fun e => nomatch e), (fun p hp j u hu => by cases hp; exact hs.part 1 rfl (o := 0) (news := [.int .i64 x]) (fun j v hv => by rw [Nat.zero_add]; exact hv) j u hu)⟩ (by simp) (by dsimp only; omega) (by omega) ?_
    intro ad1 cp1 w1 hs
    refine Zerun ?_
    refine retM_ret [_] h _ ⟨rfl, trivial⟩ (GLe.refl _) (hs.swap.drop) ⟨rfl, ad1, cp1, rfl, ?_⟩
    subst ce
    simp
  have ce' : ¬ (j : Int) = l.length := by omega
  refine Zerun ?_
  refine RW.val (Y.cap T rfl rfl) rfl ?_
  refine Zerun ?_
  by_cases cr : cp < l.length + 1
  · have cr' : (cp : Int) < (l.length : Int) + 1 := by omega
    refine Zerun ?_
    refine RW.val (Y.sliceHi T rfl rfl rfl rfl (by omega)) rfl ?_
    refine Zerun ?_
    rw [Int.toNat_natCast]
    refine RW.appendZ (kq := .i64) (kz := l.length + 1 - j) (olds := (l.take j).map (Value.int .i64)) (z := .int .i64 0) T hs rfl (by rw [show ((l.length + 1 - j : Nat) : Int) = (l.length : Int) + 1 - j by omega]; rfl) rfl rfl rfl rfl rfl rfl (by rw [List.length_map, List.length_take]; omega) (fun e => nomatch e) ?_ (by omega) (by omega) (by dsimp only; omega) (by omega) ?_
    · intro a ha i u hu
      cases ha
      refine hs.part 0 rfl (o := 0) (news := (l.take j).map (Value.int .i64)) (fun i v hv => ?_) i u hu
      rw [List.map_take, List.getElem?_take] at hv
      split at hv
      · rw [Nat.zero_add]; exact hv
      · cases hv
    intro b2 cp2 w2 hs
    have hj2 : j + (l.length + 1 - j) = l.length + 1 := by omega
    rw [hj2] at hs ⊢
    refine Zerun ?_
    have hc2 := (hs.rowCap (k := 0) rfl).1

    refine RW.val (Y.sliceLo T rfl rfl rfl rfl ⟨by omega, by omega⟩ hc2) rfl ?_
    obtain ⟨q1, hq1, hq1a, _⟩ := subAd_some b2 0 j cp2
    obtain rfl : q1 = j := by have := hq1a (by omega); omega
    refine Zerun ?_
    rw [Int.toNat_natCast]
    refine RW.copyRow (news := [.int .i64 x]) (dLen := l.length + 1 - q1) (dCap := cp2 - q1) (sLen := 1) (sCap := vc) T hs 0 rfl (by rw [← hq1]; rfl) rfl rfl rfl rfl rfl (Nat.min_eq_left (show 1 ≤ l.length + 1 - q1 by omega)).symm (hs.part 2 rfl (o := 0) (fun i v hv => by rw [Nat.zero_add]; exact hv)) (fun u hu => by rw [List.mem_singleton.1 hu]; rfl) (by show q1 + 1 ≤ l.length + 1; omega) ?_
    intro w3 hs
    refine Zerun ?_
    refine CW.regionT T 8 hs ?_ (by kernel_rfl)
    intro w4 hs
    simp only [List.take_succ_cons, List.take_zero, List.drop_succ_cons, List.drop_zero]
    refine SW.val (Y.move rfl) rfl ?_
    refine SW.val (Y.move rfl) rfl ?_
    refine SW.val (Y.move rfl) rfl ?_
    refine SW.val (Y.add rfl rfl ⟨by omega, by omega⟩) rfl ?_
    refine SW.val (Y.sliceLo T rfl rfl rfl rfl ⟨by omega, by omega⟩ hc2) rfl ?_
    refine SW.val (Y.move rfl) rfl ?_
    refine SW.val (Y.move rfl) rfl ?_
    refine SW.val (Y.sliceLo T rfl rfl rfl rfl ⟨by omega, by omega⟩ hcap.1) rfl ?_
    refine SW.nil ?_
    rw [show ((q1 : Int) + ((1 : Nat) : Int)).toNat = q1 + 1 by omega, Int.toNat_natCast]
    obtain ⟨q2, hq2, hq2a, _⟩ := subAd_some b2 0 (q1 + 1) cp2
    obtain rfl : q2 = q1 + 1 := by have := hq2a (by omega); omega
    obtain ⟨q3, hq3, hq3a, _⟩ := subAd_some b 0 q1 cp
    obtain rfl : q3 = q1 := by have := hq3a (by omega); omega
    refine RW.copyRow (news := (l.drop q3).map (Value.int .i64)) (dLen := l.length + 1 - (q3 + 1)) (dCap := cp2 - (q3 + 1)) (sLen := l.length - q3) (sCap := cp - q3) T hs 0 rfl (by rw [← hq2]; rfl) (by rw [← hq3]; rfl) rfl rfl rfl rfl (by rw [List.length_map, List.length_drop]; exact (Nat.min_eq_left (by omega)).symm) (hs.part 1 rfl (fun i v hv => by rw [← hv, List.map_drop, List.getElem?_drop])) (one_ints' _) (by rw [List.length_map, List.length_drop]; omega) ?_
    intro w5 hs
    refine Zerun ?_
    refine retM_ret [_] h _ ⟨rfl, trivial⟩ (GLe.refl _) (hs.swap.drop.swap.drop) ⟨rfl, _, _, rfl, ?_⟩
    exact congrArg (fun z => Row.mk _ _ _ _ _ z :: O) (ins_grow l q3 x (by omega))
  have cr' : ¬ (cp : Int) < (l.length : Int) + 1 := by omega
  refine Zerun ?_
  refine RW.val (Y.sliceHi T rfl rfl rfl rfl (by omega)) rfl ?_
  refine Zerun ?_
  obtain ⟨y, hs⟩ := hs.stretch (by omega)
  refine Zerun ?_
  refine RW.val (Y.sliceLo T rfl rfl rfl rfl ⟨by omega, by omega⟩ (by omega)) rfl ?_
  obtain ⟨q1, hq1, hq1a, _⟩ := subAd_some b 0 (j + 1) cp
  obtain rfl : q1 = j + 1 := by have := hq1a (by omega); omega
  rw [show ((j : Int) + ((1 : Nat) : Int)).toNat = j + 1 by omega, show ((l.length : Int) + ((1 : Nat) : Int)).toNat = l.length + 1 by omega]
  refine RW.val (Y.stood2 (u' := .slice (some ⟨b, j + 1, none⟩) (l.length + 1 - (j + 1)) (cp - (j + 1))) Tryz.func163 (by kernel_rfl) (by kernel_rfl) (by kernel_rfl) (e := Extern.SlicesOverlaps.overlaps #[22, 22] #[4]) (by kernel_rfl) rfl (by rw [← hq1]; rfl) (run_overlaps_rows T hs rfl rfl (by omega))) rfl ?_
  refine Zerun ?_
  refine CW.regionT T 8 hs ?_ (by kernel_rfl)
  intro w4 hs
  simp only [List.take_succ_cons, List.take_zero, List.drop_succ_cons, List.drop_zero]
  refine SW.val (Y.move rfl) rfl ?_
  refine SW.val (Y.move rfl) rfl ?_
  refine SW.val (Y.move rfl) rfl ?_
  refine SW.val (Y.add rfl rfl ⟨by omega, by omega⟩) rfl ?_
  refine SW.val (Y.sliceLo T rfl rfl rfl rfl ⟨by omega, by omega⟩ (by omega)) rfl ?_
  refine SW.val (Y.move rfl) rfl ?_
  refine SW.val (Y.move rfl) rfl ?_
  refine SW.val (Y.sliceLo T rfl rfl rfl rfl ⟨by omega, by omega⟩ (by omega)) rfl ?_
  refine SW.nil ?_
  rw [show ((j : Int) + ((1 : Nat) : Int)).toNat = j + 1 by omega, Int.toNat_natCast]
  obtain ⟨q3, hq3, hq3a, _⟩ := subAd_some b 0 j cp
  obtain rfl : q3 = j := by have := hq3a (by omega); omega
  refine RW.copyRow (news := (l.drop q3).map (Value.int .i64)) (dLen := l.length + 1 - (q3 + 1)) (dCap := cp - (q3 + 1)) (sLen := l.length + 1 - q3) (sCap := cp - q3) T hs 0 rfl (by rw [← hq1]; rfl) (by rw [← hq3]; rfl) rfl rfl rfl rfl (by rw [List.length_map, List.length_drop, show Nat.min (l.length + 1 - q3) (l.length + 1 - (q3 + 1)) = l.length + 1 - (q3 + 1) from Nat.min_eq_right (by omega)]; omega) (hs.part 0 rfl (fun i v hv => by rw [List.getElem?_append_left (by have := (List.getElem?_eq_some_iff.1 hv).1; rw [List.length_map, List.length_drop] at this; rw [List.length_map]; omega), ← hv, List.map_drop, List.getElem?_drop])) (one_ints' _) (by rw [List.length_map, List.length_drop]; omega) ?_
  intro w5 hs
  refine Zerun ?_
  refine RW.val (Y.sliceLo T rfl rfl rfl rfl ⟨by omega, by omega⟩ (by omega)) rfl ?_
  refine Zerun ?_
  rw [Int.toNat_natCast]
  refine RW.copyRow (news := [.int .i64 x]) (dLen := l.length + 1 - q3) (dCap := cp - q3) (sLen := 1) (sCap := vc) T hs 0 rfl (by rw [← hq3]; rfl) rfl rfl rfl rfl rfl (Nat.min_eq_left (show 1 ≤ l.length + 1 - q3 by omega)).symm (hs.part 1 rfl (o := 0) (fun i v hv => by rw [Nat.zero_add]; exact hv)) (fun u hu => by rw [List.mem_singleton.1 hu]; rfl) (by show q3 + 1 ≤ l.length + 1; omega) ?_
  intro w6 hs
  refine Zerun ?_
  refine retM_ret [_] h _ ⟨rfl, trivial⟩ (GLe.refl _) (hs.swap.drop) ⟨rfl, _, _, rfl, ?_⟩
  exact congrArg (fun z => Row.mk _ _ _ _ _ z :: O) (ins_shift l q3 x y (by omega))
end Go.Proofs.YtmojpbfkpggjhaaGreat

/-
  Contracts of join.spread and join.Catenate, where an axis is put in too. No statement is proved here.
-/
namespace Go.Proofs.YtmojpbfkpggjhaaGreat
open Go Go.RowKit
set_option linter.unusedVariables false
set_option linter.unusedSimpArgs false
set_option maxHeartbeats 4000000
attribute [local irreducible] CW RW QW SW HW ConM retM heldQ calmQ elemP thenQ blockQ loopQ joinQ retQ Yields Con Sl zF magR unitF truncF fwF wholeF tidySpec elemQ rankF leastN tidyW
set_option maxHeartbeats 4000000

theorem joinSpreadI_con (k : Nat) (ca : List Value) (a : ArrD (AD (k + 1))) (sv : Value) (s : List Int) (j : Nat) (w : World) (h : GHeap) (ha : ArrAt (k + 2) h ca a) (hsv : IntsAt h sv s) (hj : j < s.length) (hsh : a.shape.length ≤ 8) (h0 : ¬ a.shape.length = 0) (hI : a.shape.length + 1 = s.length) :
    Con Tryz.prog 91 [.agg ca.toArray, sv, .int .i64 (j : Int)] w h (fun h' u => ∃ cs', u = .tuple #[.agg cs'.toArray, .int .i64 0] ∧ ArrAt (k + 2) h' cs' (⟨a.shape.take j ++ 1 :: a.shape.drop j, a.vec⟩ : ArrD (AD (k + 1)))) := by
  obtain ⟨_, vca, rfl, ⟨ada, cpa, rfl, hSa⟩, hva⟩ := ha
  have hva' := hva
  obtain ⟨wa, na, sa, ia, fa, ga, xa, ⟨rfl, hoa⟩, -⟩ := hva
  have hsv' := hsv
  obtain ⟨ads, cps, rfl, hSs⟩ := hsv
  refine Con.of_body Tryz.func91 rfl Tryz.ntmps91 rfl rfl ?_
  intro hs
  refine Zrun ?_
  (refine RW.boxN hs rfl rfl ?_; intro b1 w1 hs)
  (refine RW.allocN T hs rfl rfl rfl rfl ?_; intro b2 w2 hs)
  have c1' : ¬ (a.shape.length : Int) = s.length := by omega
  have c2' : ¬ (a.shape.length : Int) = 0 := by omega
  have c3' : (a.shape.length : Int) = (s.length : Int) - 1 := by omega
  refine Zerun ?_
  refine CW.regionR T 1 1 hs rfl rfl ?_
  intro w3 hs
  refine HW.takeR (fuel := 10) 0 rfl (fun _ _ ka kb _ hs hka hkb => Y.fieldAddr T rfl rfl rfl rfl rfl) ⟨_, _, 1, 1, hs, rfl, rfl⟩ rfl (by kernel_rfl) (by kernel_rfl) (by kernel_rfl) ?_
  refine HW.takeR (fuel := 9) 1 rfl (fun _ _ ka kb _ hs hka hkb => Y.loadRow1 T hs ka hka rfl rfl rfl rfl) ⟨_, _, 1, 1, hs, rfl, rfl⟩ rfl (by kernel_rfl) (by kernel_rfl) (by kernel_rfl) ?_
  refine HW.takeR (fuel := 8) 3 rfl (fun _ _ ka kb _ hs hka hkb => Y.move rfl) ⟨_, _, 1, 1, hs, rfl, rfl⟩ rfl (by kernel_rfl) (by kernel_rfl) (by kernel_rfl) ?_
  refine HW.takeR (fuel := 7) 6 rfl (fun _ _ ka kb _ hs hka hkb => Y.fieldAddr T rfl rfl rfl rfl rfl) ⟨_, _, 1, 1, hs, rfl, rfl⟩ rfl (by kernel_rfl) (by kernel_rfl) (by kernel_rfl) ?_
  refine HW.takeR (fuel := 6) 7 rfl (fun _ _ ka kb _ hs hka hkb => Y.loadRowN T hs ka hka rfl rfl rfl rfl rfl rfl) ⟨_, _, 1, 1, hs, rfl, rfl⟩ rfl (by kernel_rfl) (by kernel_rfl) (by kernel_rfl) ?_
  refine HW.two (fuel := 5) 2 4 rfl rfl (by kernel_rfl) ?_ ?_
  · (refine RW.callM T hs rfl rfl rfl (cloneInt_conM ada cpa a.shape _ _ _ _ _ hSa (by omega)) ?_; intro v h54 O54 w54 hle54 hp54 hs)
    obtain ⟨rfl, ad54, cp54, rfl, rfl⟩ := hp54
    refine RW.nil ?_
    refine heldQ_normal ⟨_, _, 2, 2, hs, rfl, rfl⟩ ?_
    refine HW.one (fuel := 4) 4 rfl (by kernel_rfl) ?_
    (refine RW.lit T hs (vs := [.int .i64 1]) (cs := [.int .i64 1]) rfl rfl rfl rfl (by simp [Value.cells]) rfl rfl rfl rfl rfl ?_; intro b56 w56 hs)
    refine RW.nil ?_
    refine heldQ_normal ⟨_, _, 3, 3, hs, rfl, rfl⟩ ?_
    refine HW.one (fuel := 3) 5 rfl (by kernel_rfl) ?_
    have hs := hs.swap
    (refine RW.callM T hs rfl rfl rfl (insertInt_conM ad54 cp54 b56 1 j 1 a.shape _ _ _ _ _ (by omega) (by omega) (by omega)) ?_; intro v h57 O57 w57 hle57 hp57 hs)
    obtain ⟨rfl, ad57, cp57, rfl, rfl⟩ := hp57
    refine RW.nil ?_
    refine heldQ_normal ⟨_, _, 2, 2, hs, rfl, rfl⟩ ?_
    refine HW.takeR (fuel := 2) 8 rfl (fun _ _ ka kb _ hs hka hkb => Y.build T rfl rfl rfl rfl rfl rfl rfl) ⟨_, _, 2, 2, hs, rfl, rfl⟩ rfl (by kernel_rfl) (by kernel_rfl) (by kernel_rfl) ?_
    refine HW.one (fuel := 1) 9 rfl (by kernel_rfl) ?_
    refine RW.storeAll T hs 1 rfl rfl rfl rfl rfl rfl (by show (true && (vecCells a.vec.kind wa na sa ia fa ga xa).all Value.oneCell') = true; rw [hoa]; rfl) rfl ?_
    intro w909 hs
    refine RW.nil ?_
    refine heldQ_normal ⟨_, _, 2, 2, hs, rfl, rfl⟩ ?_
    refine HW.takeR (fuel := 0) 10 rfl (fun _ _ ka kb _ hs hka hkb => Y.assign rfl) ⟨_, _, 2, 2, hs, rfl, rfl⟩ rfl (by kernel_rfl) (by kernel_rfl) (by kernel_rfl) ?_
    refine HW.done (by kernel_rfl) ?_
    refine calmQ_normal ?_
    obtain ⟨h5, hle5, hs, hS5⟩ := hs.freeze
    have hl5 : (a.shape.take j ++ 1 :: a.shape.drop j).length = a.shape.length + 1 := by rw [List.length_append, List.length_cons, List.length_take, List.length_drop]; omega
    dsimp only at hS5
    rw [← hl5] at hS5
    have hI5 := IntsAt.of_sl hS5
    rw [hl5] at hI5
    have hv5 := hva'.mono (ArrAt.mono (k + 1)) hle5
    refine Zerun ?_
    exact retQ_ret [_, _] h5 ⟨resN T hs 0 rfl rfl rfl rfl rfl rfl, rfl, trivial⟩ hs.dropAll ⟨_, rfl, _, _, rfl, hI5, hv5⟩
  · (refine RW.lit T hs (vs := [.int .i64 1]) (cs := [.int .i64 1]) rfl rfl rfl rfl (by simp [Value.cells]) rfl rfl rfl rfl rfl ?_; intro b56 w56 hs)
    refine RW.nil ?_
    refine heldQ_normal ⟨_, _, 2, 2, hs, rfl, rfl⟩ ?_
    refine HW.one (fuel := 4) 2 rfl (by kernel_rfl) ?_
    (refine RW.callM T hs rfl rfl rfl (cloneInt_conM ada cpa a.shape _ _ _ _ _ hSa (by omega)) ?_; intro v h54 O54 w54 hle54 hp54 hs)
    obtain ⟨rfl, ad54, cp54, rfl, rfl⟩ := hp54
    refine RW.nil ?_
    refine heldQ_normal ⟨_, _, 3, 3, hs, rfl, rfl⟩ ?_
    refine HW.one (fuel := 3) 5 rfl (by kernel_rfl) ?_
    (refine RW.callM T hs rfl rfl rfl (insertInt_conM ad54 cp54 b56 1 j 1 a.shape _ _ _ _ _ (by omega) (by omega) (by omega)) ?_; intro v h57 O57 w57 hle57 hp57 hs)
    obtain ⟨rfl, ad57, cp57, rfl, rfl⟩ := hp57
    refine RW.nil ?_
    refine heldQ_normal ⟨_, _, 2, 2, hs, rfl, rfl⟩ ?_
    refine HW.takeR (fuel := 2) 8 rfl (fun _ _ ka kb _ hs hka hkb => Y.build T rfl rfl rfl rfl rfl rfl rfl) ⟨_, _, 2, 2, hs, rfl, rfl⟩ rfl (by kernel_rfl) (by kernel_rfl) (by kernel_rfl) ?_
    refine HW.one (fuel := 1) 9 rfl (by kernel_rfl) ?_
    refine RW.storeAll T hs 1 rfl rfl rfl rfl rfl rfl (by show (true && (vecCells a.vec.kind wa na sa ia fa ga xa).all Value.oneCell') = true; rw [hoa]; rfl) rfl ?_
    intro w909 hs
    refine RW.nil ?_
    refine heldQ_normal ⟨_, _, 2, 2, hs, rfl, rfl⟩ ?_
    refine HW.takeR (fuel := 0) 10 rfl (fun _ _ ka kb _ hs hka hkb => Y.assign rfl) ⟨_, _, 2, 2, hs, rfl, rfl⟩ rfl (by kernel_rfl) (by kernel_rfl) (by kernel_rfl) ?_
    refine HW.done (by kernel_rfl) ?_
    refine calmQ_normal ?_
    obtain ⟨h5, hle5, hs, hS5⟩ := hs.freeze
    have hl5 : (a.shape.take j ++ 1 :: a.shape.drop j).length = a.shape.length + 1 := by rw [List.length_append, List.length_cons, List.length_take, List.length_drop]; omega
    dsimp only at hS5
    rw [← hl5] at hS5
    have hI5 := IntsAt.of_sl hS5
    rw [hl5] at hI5
    have hv5 := hva'.mono (ArrAt.mono (k + 1)) hle5
    refine Zerun ?_
    exact retQ_ret [_, _] h5 ⟨resN T hs 0 rfl rfl rfl rfl rfl rfl, rfl, trivial⟩ hs.dropAll ⟨_, rfl, _, _, rfl, hI5, hv5⟩
theorem joinSpread2_con (k : Nat) (ca : List Value) (a : ArrD (AD (k + 1))) (sv : Value) (s : List Int) (j : Nat) (w : World) (h : GHeap) (ha : ArrAt (k + 2) h ca a) (hsv : IntsAt h sv s) (hj : j < s.length) (hg : goodS s = true) (hsh : a.shape.length ≤ 8) (hm : a.vec.len ≤ 1048576) (hk0 : a.vec.kind ≠ 0) :
    Con Tryz.prog 91 [.agg ca.toArray, sv, .int .i64 (j : Int)] w h (fun h' u => ∃ cs', u = .tuple #[.agg cs'.toArray, .int .i64 (spE a.shape s)] ∧ ArrAt (k + 2) h' cs' (spA a s j)) := by
  by_cases c : a.shape.length + 1 = s.length
  · by_cases c0 : a.shape.length = 0
    · exact joinSpread_con k ca a sv s j w h ha hsv hj hg hsh hm hk0 (.inr (.inl c0))
    · have e0 : spE a.shape s = 0 := by unfold spE; rw [if_pos (.inr (.inr c))]
      have e1 : spA a s j = ⟨a.shape.take j ++ 1 :: a.shape.drop j, a.vec⟩ := by
        unfold spA
        rw [if_pos e0]
        unfold spS spV
        rw [if_neg (by omega), if_neg c0, if_neg (by omega), if_neg c0]
      rw [e0, e1]
      exact joinSpreadI_con k ca a sv s j w h ha hsv hj hsh c0 c
  · exact joinSpread_con k ca a sv s j w h ha hsv hj hg hsh hm hk0 (.inr (.inr c))
theorem joinCatenate2_con (k : Nat) (ca cb : List Value) (a b : ArrD (AD (k + 1))) (L M : List (ItemD (PD (k + 1)))) (c d : Int) (first : Bool) (most : Int) (w : World) (h : GHeap) (ha : ArrAt (k + 2) h ca a) (hb : ArrAt (k + 2) h cb b) (H : Tells k a.vec L c) (Hb : Tells k b.vec M d) (hpa : product a.shape 1048576 = ((a.vec.len : Int), 0)) (hpb : product b.shape 1048576 = ((b.vec.len : Int), 0)) (hmost : most ≤ 1048576) :
    Con Tryz.prog 38 [.agg ca.toArray, .agg cb.toArray, .bool first, .int .i64 most] w h (fun h' u => ∃ cs', u = .tuple #[.agg cs'.toArray, .int .i64 (catS a b first most).1] ∧ ArrAt (k + 2) h' cs' (catS a b first most).2) := by
  have ha' := ha
  obtain ⟨_, vca, rfl, ⟨ada, cpa, rfl, hSa⟩, hva⟩ := ha
  have hva' := hva
  obtain ⟨wa, na, sa, ia, fa, ga, xa, ⟨rfl, hoa⟩, -⟩ := hva
  have ma : ∀ h', GLe h h' → ArrAt (k + 2) h' (.slice ada a.shape.length cpa :: vecCells a.vec.kind wa na sa ia fa ga xa) a := fun h' hl => ArrAt.mono (k + 2) _ _ _ _ hl ha'
  have hb' := hb
  obtain ⟨_, vcb, rfl, ⟨adb, cpb, rfl, hSb⟩, hvb⟩ := hb
  have hvb' := hvb
  obtain ⟨wb, nb, sb, ib, fb, gb, xb, ⟨rfl, hob⟩, -⟩ := hvb
  have mb : ∀ h', GLe h h' → ArrAt (k + 2) h' (.slice adb b.shape.length cpb :: vecCells b.vec.kind wb nb sb ib fb gb xb) b := fun h' hl => ArrAt.mono (k + 2) _ _ _ _ hl hb'
  obtain ⟨m, hm⟩ : ∃ m, (if a.shape.length < b.shape.length then b.shape else a.shape) = m := ⟨_, rfl⟩
  obtain ⟨s, hs0⟩ : ∃ s, catSh a.shape b.shape = s := ⟨_, rfl⟩
  have hga : goodS a.shape = true := (goodS_iff _).2 (by rw [hpa])
  have hgb : goodS b.shape = true := (goodS_iff _).2 (by rw [hpb])
  have hgs := catSh_good hga hgb
  have hs1 := catSh_pos a.shape b.shape
  rw [hs0] at hgs hs1
  have ha8 := ((goodS_spec _).1 hga).1
  have hb8 := ((goodS_spec _).1 hgb).1
  have hs8 := ((goodS_spec _).1 hgs).1
  have hsm : s = if m.length = 0 then [1] else m := by rw [← hs0, ← hm]; rfl
  have hcs : catS a b first most = catSx a b s (catAx s first) most := by unfold catS; rw [hs0]
  have hjl := catAx_lt hs1 first
  obtain ⟨j, hj⟩ : ∃ j, catAx s first = j := ⟨_, rfl⟩
  rw [hj] at hcs hjl
  have hlx : (if first = true then 0 else s.length - 1) = j := hj
  refine Con.of_body Tryz.func38 rfl Tryz.ntmps38 rfl rfl ?_
  intro hs
  refine Zrun ?_
  (refine RW.boxN hs rfl rfl ?_; intro b1 w1 hs)
  refine Zrun ?_
  (refine RW.boxN hs rfl rfl ?_; intro b2 w2 hs)
  refine Zrun ?_
  (refine RW.allocN T hs rfl rfl rfl rfl ?_; intro b3 w3 hs)
  have hcapa := hSa.caps
  have hcapb := hSb.caps
  refine Zerun ?_
  refine CW.meet (fun u : Option Addr × Nat => [(2, .bool first), (3, .int .i64 most), (4, .pointer (some ⟨b1, 0, none⟩)), (5, .pointer (some ⟨b2, 0, none⟩)), (8, .pointer (some ⟨b3, 0, none⟩)), (10, .slice u.1 m.length u.2)]) (fun u w' => Sl h 1 u.1 m.length u.2 (m.map (Value.int .i64)) ∧ Sees w h h [⟨some ⟨b3, 0, none⟩, 1, 1, 39, 9, .slice none 0 0 :: vecCells 0 (.slice none 0 0) 0 (.slice none 0 0) (.slice none 0 0) (.slice none 0 0) (.slice none 0 0) (.slice none 0 0)⟩, ⟨some ⟨b2, 0, none⟩, 1, 1, 39, 9, .slice adb b.shape.length cpb :: vecCells b.vec.kind wb nb sb ib fb gb xb⟩, ⟨some ⟨b1, 0, none⟩, 1, 1, 39, 9, .slice ada a.shape.length cpa :: vecCells a.vec.kind wa na sa ia fa ga xa⟩] w') ?_ ?_
  · by_cases c : a.shape.length < b.shape.length
    · rw [if_pos c] at hm
      subst hm
      refine Zerun ?_
      exact joinQ_meet (adb, cpb) ⟨rfl, rfl, rfl, rfl, rfl, rfl, trivial⟩ ⟨hSb, hs⟩
    · rw [if_neg c] at hm
      subst hm
      refine Zerun ?_
      exact joinQ_meet (ada, cpa) ⟨rfl, rfl, rfl, rfl, rfl, rfl, trivial⟩ ⟨hSa, hs⟩
  rintro ⟨adm, cpm⟩ w4 ⟨hSm, hs⟩
  dsimp only at hSm hs ⊢
  refine Zerun ?_
  refine CW.meet (fun u : (Option Addr × Nat) × GHeap => [(2, .bool first), (3, .int .i64 most), (4, .pointer (some ⟨b1, 0, none⟩)), (5, .pointer (some ⟨b2, 0, none⟩)), (8, .pointer (some ⟨b3, 0, none⟩)), (10, .slice u.1.1 s.length u.1.2)]) (fun u w' => GLe h u.2 ∧ Sl u.2 1 u.1.1 s.length u.1.2 (s.map (Value.int .i64)) ∧ Sees w h u.2 [⟨some ⟨b3, 0, none⟩, 1, 1, 39, 9, .slice none 0 0 :: vecCells 0 (.slice none 0 0) 0 (.slice none 0 0) (.slice none 0 0) (.slice none 0 0) (.slice none 0 0) (.slice none 0 0)⟩, ⟨some ⟨b2, 0, none⟩, 1, 1, 39, 9, .slice adb b.shape.length cpb :: vecCells b.vec.kind wb nb sb ib fb gb xb⟩, ⟨some ⟨b1, 0, none⟩, 1, 1, 39, 9, .slice ada a.shape.length cpa :: vecCells a.vec.kind wa na sa ia fa ga xa⟩] w') ?_ ?_
  · by_cases c : m.length = 0
    · rw [if_pos c] at hsm
      subst hsm
      have c' : (m.length : Int) = 0 := by omega
      refine Zerun ?_
      (refine RW.lit T hs (vs := [.int .i64 1]) (cs := [.int .i64 1]) rfl rfl rfl rfl (by simp [Value.cells]) rfl rfl rfl rfl rfl ?_; intro b5 w5 hs)
      obtain ⟨h5, hle5, hs, hS5⟩ := hs.freeze
      refine Zerun ?_
      exact joinQ_meet ((some ⟨b5, 0, none⟩, 1), h5) ⟨rfl, rfl, rfl, rfl, rfl, rfl, trivial⟩ ⟨hle5, hS5, hs⟩
    · rw [if_neg c] at hsm
      subst hsm
      have c' : ¬ (s.length : Int) = 0 := by omega
      refine Zerun ?_
      exact joinQ_meet ((adm, cpm), h) ⟨rfl, rfl, rfl, rfl, rfl, rfl, trivial⟩ ⟨GLe.refl _, hSm, hs⟩
  rintro ⟨⟨ads, cps⟩, h6⟩ w6 ⟨g6, hSs, hs⟩
  dsimp only at g6 hSs hs ⊢
  have hcaps := hSs.caps
  refine Zerun ?_
  (refine RW.call T hs rfl rfl rfl (joinAxis_con s.length first _ _ hs1 hs8) ?_; intro v h7 w7 hle7 hp7 hs)
  rw [hlx] at hp7
  subst hp7
  have g7 := g6.trans hle7
  have hIs : IntsAt h7 (.slice ads s.length cps) s := ⟨ads, cps, rfl, hSs.mono hle7⟩
  refine Zerun ?_
  (refine RW.call T hs rfl rfl rfl (joinSpread2_con k _ a _ s j _ _ (ma _ g7) hIs hjl hgs ha8 H.sh.vm H.sh.k0) ?_; intro v h8 w8 hle8 hp8 hs)
  obtain ⟨cs8, rfl, ha8'⟩ := hp8
  have g8 := g7.trans hle8
  have hIs := hIs.mono hle8
  by_cases ea : spE a.shape s = 0
  rotate_left
  · have e22 : spE a.shape s = 22 := by unfold spE at ea ⊢; by_cases c : a.shape.length = s.length ∨ a.shape.length = 0 ∨ a.shape.length + 1 = s.length; rw [if_pos c] at ea; exact absurd rfl ea; rw [if_neg c]
    rw [e22]
    obtain ⟨zA, hzA⟩ : ∃ zA, spA a s j = zA := ⟨_, rfl⟩
    rw [hzA] at ha8'
    have ha8 := ha8'
    have hA8 := ha8
    obtain ⟨_, vc8, rfl, ⟨ad8, cp8, rfl, hS8⟩, hv8⟩ := ha8
    have hv8' := hv8
    obtain ⟨wv8, nv8, sm8, il8, fl8, ch8, bx8, ⟨rfl, hoc8⟩, -⟩ := hv8
    refine Zerun ?_
    (refine RW.storeAll T hs 2 rfl rfl rfl rfl rfl rfl (by show (Value.oneCell' (.slice ad8 _ cp8) && (vecCells _ wv8 nv8 sm8 il8 fl8 ch8 bx8).all Value.oneCell') = true; rw [hoc8]; rfl) rfl ?_; intro w9 hs)
    rw [show catS a b first most = (22, ⟨[], VecD.none⟩) from by rw [hcs]; unfold catSx; rw [if_pos (.inl (by omega))]]
    refine Zerun ?_
    refine RW.val (Y.build T rfl rfl rfl rfl rfl rfl rfl) rfl ?_
    refine Zerun ?_
    (refine RW.storeAll T hs 0 rfl rfl rfl rfl rfl rfl rfl rfl ?_; intro w10 hs)
    refine Zerun ?_
    exact retQ_ret [_, _] h8 ⟨resN T hs 0 rfl rfl rfl rfl rfl rfl, rfl, trivial⟩ hs.dropAll ⟨_, rfl, ⟨_, _, rfl, IntsAt.nil _, vecNone _⟩⟩
  rw [ea]
  have hX : spA a s j = ⟨spS a.shape s j, spV a s j⟩ := by unfold spA; rw [if_pos ea]
  rw [hX] at ha8'
  obtain ⟨Ha, hpX⟩ := Tells.spread (p := (⟨a.shape, L, c⟩ : PlainD (PD (k + 1)))) H rfl hpa hgs ea hjl
  have lX := sp_len ea hjl
  obtain ⟨X, hXe⟩ : ∃ X, spS a.shape s j = X := ⟨_, rfl⟩
  obtain ⟨x, hxe⟩ : ∃ x, spV a s j = x := ⟨_, rfl⟩
  rw [hXe, hxe] at ha8' hpX
  rw [hxe] at Ha
  rw [hXe] at lX
  have ha8 := ha8'
  have hA8 := ha8
  obtain ⟨_, vc8, rfl, ⟨ad8, cp8, rfl, hS8⟩, hv8⟩ := ha8
  have hv8' := hv8
  obtain ⟨wv8, nv8, sm8, il8, fl8, ch8, bx8, ⟨rfl, hoc8⟩, -⟩ := hv8
  refine Zerun ?_
  (refine RW.storeAll T hs 2 rfl rfl rfl rfl rfl rfl (by show (Value.oneCell' (.slice ad8 _ cp8) && (vecCells _ wv8 nv8 sm8 il8 fl8 ch8 bx8).all Value.oneCell') = true; rw [hoc8]; rfl) rfl ?_; intro w9 hs)
  refine Zerun ?_
  (refine RW.call T hs rfl rfl rfl (joinSpread2_con k _ b _ s j _ _ (mb _ g8) hIs hjl hgs hb8 Hb.sh.vm Hb.sh.k0) ?_; intro v h11 w11 hle11 hp11 hs)
  obtain ⟨cs11, rfl, ha11'⟩ := hp11
  have g11 := g8.trans hle11
  have hA8 := ArrAt.mono (k + 2) _ _ _ _ hle11 hA8
  have hS8 := hS8.mono hle11
  have hv8' := hv8'.mono (ArrAt.mono (k + 1)) hle11
  by_cases eb : spE b.shape s = 0
  rotate_left
  · have e22 : spE b.shape s = 22 := by unfold spE at eb ⊢; by_cases c : b.shape.length = s.length ∨ b.shape.length = 0 ∨ b.shape.length + 1 = s.length; rw [if_pos c] at eb; exact absurd rfl eb; rw [if_neg c]
    rw [e22]
    obtain ⟨zA, hzA⟩ : ∃ zA, spA b s j = zA := ⟨_, rfl⟩
    rw [hzA] at ha11'
    have ha11 := ha11'
    have hA11 := ha11
    obtain ⟨_, vc11, rfl, ⟨ad11, cp11, rfl, hS11⟩, hv11⟩ := ha11
    have hv11' := hv11
    obtain ⟨wv11, nv11, sm11, il11, fl11, ch11, bx11, ⟨rfl, hoc11⟩, -⟩ := hv11
    refine Zerun ?_
    (refine RW.storeAll T hs 1 rfl rfl rfl rfl rfl rfl (by show (Value.oneCell' (.slice ad11 _ cp11) && (vecCells _ wv11 nv11 sm11 il11 fl11 ch11 bx11).all Value.oneCell') = true; rw [hoc11]; rfl) rfl ?_; intro w12 hs)
    rw [show catS a b first most = (22, ⟨[], VecD.none⟩) from by rw [hcs]; unfold catSx; rw [if_pos (.inr (by omega))]]
    refine Zerun ?_
    refine RW.val (Y.build T rfl rfl rfl rfl rfl rfl rfl) rfl ?_
    refine Zerun ?_
    (refine RW.storeAll T hs 0 rfl rfl rfl rfl rfl rfl rfl rfl ?_; intro w10 hs)
    refine Zerun ?_
    exact retQ_ret [_, _] h11 ⟨resN T hs 0 rfl rfl rfl rfl rfl rfl, rfl, trivial⟩ hs.dropAll ⟨_, rfl, ⟨_, _, rfl, IntsAt.nil _, vecNone _⟩⟩
  rw [eb]
  have hY : spA b s j = ⟨spS b.shape s j, spV b s j⟩ := by unfold spA; rw [if_pos eb]
  rw [hY] at ha11'
  obtain ⟨Hc, hpY⟩ := Tells.spread (p := (⟨b.shape, M, d⟩ : PlainD (PD (k + 1)))) Hb rfl hpb hgs eb hjl
  have lY := sp_len eb hjl
  obtain ⟨Y0, hYe⟩ : ∃ Y0, spS b.shape s j = Y0 := ⟨_, rfl⟩
  obtain ⟨y, hye⟩ : ∃ y, spV b s j = y := ⟨_, rfl⟩
  rw [hYe, hye] at ha11' hpY
  rw [hye] at Hc
  rw [hYe] at lY
  have ha11 := ha11'
  have hA11 := ha11
  obtain ⟨_, vc11, rfl, ⟨ad11, cp11, rfl, hS11⟩, hv11⟩ := ha11
  have hv11' := hv11
  obtain ⟨wv11, nv11, sm11, il11, fl11, ch11, bx11, ⟨rfl, hoc11⟩, -⟩ := hv11
  have hjx : j < X.length := by omega
  have hjy : j < Y0.length := by omega
  have hcs2 : catS a b first most = if X.eraseIdx j ≠ Y0.eraseIdx j then (23, ⟨[], VecD.none⟩) else if (product (catT X Y0 j) most).2 ≠ 0 then ((product (catT X Y0 j) most).2, ⟨[], VecD.none⟩) else match joinC (-1) [x, y] with
    | none => (24, ⟨[], VecD.none⟩)
    | some c => (0, ⟨catT X Y0 j, rowsV (joinX x y c) X Y0 j x.len⟩) := by
      rw [hcs]
      unfold catSx
      rw [if_neg (by omega), hXe, hYe, hxe, hye]
      try rfl
  have hcapX := hS8.caps
  have hcapY := hS11.caps
  have hgX : goodS X = true := (goodS_iff _).2 (by rw [hpX])
  have hgY : goodS Y0 = true := (goodS_iff _).2 (by rw [hpY])
  refine Zerun ?_
  (refine RW.storeAll T hs 1 rfl rfl rfl rfl rfl rfl (by show (Value.oneCell' (.slice ad11 _ cp11) && (vecCells _ wv11 nv11 sm11 il11 fl11 ch11 bx11).all Value.oneCell') = true; rw [hoc11]; rfl) rfl ?_; intro w12 hs)
  refine Zerun ?_
  have hIX : IntsAt h11 (.slice ad8 X.length cp8) X := ⟨ad8, cp8, rfl, hS8⟩
  have hIY : IntsAt h11 (.slice ad11 Y0.length cp11) Y0 := ⟨ad11, cp11, rfl, hS11⟩
  (refine RW.call T hs rfl rfl rfl (without_con _ X j _ _ hIX (by omega)) ?_; intro v h13 w13 hle13 hp13 hs)
  rw [show withoutSpec X (j : Int) = (X.eraseIdx j, true) by unfold withoutSpec; rw [if_pos ⟨by omega, by omega⟩, Int.toNat_natCast]] at hp13
  obtain ⟨u13, rfl, hI13⟩ := hp13
  have hIY := hIY.mono hle13
  refine Zerun ?_
  (refine RW.call T hs rfl rfl rfl (without_con _ Y0 j _ _ hIY (by omega)) ?_; intro v h14 w14 hle14 hp14 hs)
  rw [show withoutSpec Y0 (j : Int) = (Y0.eraseIdx j, true) by unfold withoutSpec; rw [if_pos ⟨by omega, by omega⟩, Int.toNat_natCast]] at hp14
  obtain ⟨u14, rfl, hI14⟩ := hp14
  have hI13 := hI13.mono hle14
  have hI13' := hI13
  have hI14' := hI14
  obtain ⟨ad13, cp13, rfl, _⟩ := hI13
  obtain ⟨ad14, cp14, rfl, _⟩ := hI14
  refine Zerun ?_
  (refine RW.call T hs rfl rfl rfl (same_con _ _ (X.eraseIdx j) (Y0.eraseIdx j) _ _ hI13' hI14' (by rw [List.length_eraseIdx]; split <;> omega)) ?_; intro v h15 w15 hle15 hp15 hs)
  subst hp15
  have g15 := (hle13.trans hle14).trans hle15
  by_cases ce : X.eraseIdx j = Y0.eraseIdx j
  rotate_left
  · rw [decide_eq_false ce]
    rw [show catS a b first most = (23, ⟨[], VecD.none⟩) from by rw [hcs2, if_pos ce]]
    refine Zerun ?_
    refine RW.val (Y.build T rfl rfl rfl rfl rfl rfl rfl) rfl ?_
    refine Zerun ?_
    (refine RW.storeAll T hs 0 rfl rfl rfl rfl rfl rfl rfl rfl ?_; intro w10 hs)
    refine Zerun ?_
    exact retQ_ret [_, _] h15 ⟨resN T hs 0 rfl rfl rfl rfl rfl rfl, rfl, trivial⟩ hs.dropAll ⟨_, rfl, ⟨_, _, rfl, IntsAt.nil _, vecNone _⟩⟩
  rw [decide_eq_true ce]
  rw [if_neg (fun h => h ce)] at hcs2
  refine Zerun ?_
  (refine RW.callM T hs rfl rfl rfl (cloneInt_conM ad8 cp8 X _ _ _ _ _ (hS8.mono g15) (by omega)) ?_; intro v h16 O16 w16 hle16 hp16 hs)
  obtain ⟨rfl, ad16, cp16, rfl, rfl⟩ := hp16
  have hSX := hS8.mono g15
  have hSY := hS11.mono g15
  refine Zerun ?_
  have gX := map_get (Value.int .i64) X j 0 hjx
  have gY := map_get (Value.int .i64) Y0 j 0 hjy
  have bX := good_le X hgX _ (mem_getD X j 0 hjx)
  have bY := good_le Y0 hgY _ (mem_getD Y0 j 0 hjy)
  refine CW.meet (fun u : Unit => [(3, .int .i64 most), (4, .pointer (some ⟨b1, 0, none⟩)), (5, .pointer (some ⟨b2, 0, none⟩)), (8, .pointer (some ⟨b3, 0, none⟩)), (11, .int .i64 (j : Int)), (17, .slice ad16 X.length cp16)]) (fun _ w' => Sees w h h16 [⟨ad16, X.length, cp16, 3, 1, (catT X Y0 j).map (Value.int .i64)⟩, ⟨some ⟨b3, 0, none⟩, 1, 1, 39, 9, .slice none 0 0 :: vecCells 0 (.slice none 0 0) 0 (.slice none 0 0) (.slice none 0 0) (.slice none 0 0) (.slice none 0 0) (.slice none 0 0)⟩, ⟨some ⟨b2, 0, none⟩, 1, 1, 39, 9, .slice ad11 Y0.length cp11 :: vecCells y.kind wv11 nv11 sm11 il11 fl11 ch11 bx11⟩, ⟨some ⟨b1, 0, none⟩, 1, 1, 39, 9, .slice ad8 X.length cp8 :: vecCells x.kind wv8 nv8 sm8 il8 fl8 ch8 bx8⟩] w') ?_ ?_
  · refine CW.regionT T 11 hs (fun w hs => ?_) (by kernel_rfl)
    simp only [List.take_succ_cons, List.take_zero, List.drop_succ_cons, List.drop_zero]
    refine Zsrun ?_
    refine SW.val (Y.idxRN T hs 0 rfl rfl rfl rfl rfl rfl hjx) rfl ?_
    refine SW.val (Y.ldRInt T hs 0 rfl rfl rfl rfl hjx) rfl ?_
    refine Zsrun ?_
    dsimp only
    refine SW.val (Y.add rfl rfl (by omega)) rfl ?_
    refine SW.val (Y.idxRN T hs 0 rfl rfl rfl rfl rfl rfl hjx) rfl ?_
    refine SW.nil ?_
    refine RW.st1 T hs 0 rfl rfl rfl rfl rfl rfl rfl hjx ?_
    intro w18 hs
    dsimp only [List.set_cons_zero] at hs
    rw [map_set_int] at hs
    refine Zerun ?_
    exact joinQ_meet () ⟨rfl, rfl, rfl, rfl, rfl, rfl, trivial⟩ hs
  rintro ⟨⟩ w18 hs
  have hTl : (catT X Y0 j).length = X.length := catT_len _ _ _
  obtain ⟨h19, hle19, hs, hS19⟩ := hs.freeze
  have hIT : IntsAt h19 (.slice ad16 X.length cp16) (catT X Y0 j) := by
    dsimp only at hS19
    rw [← hTl] at hS19 ⊢
    exact IntsAt.of_sl hS19
  refine Zerun ?_
  (refine RW.call T hs rfl rfl rfl (product_con _ (catT X Y0 j) most _ _ hIT (by omega)) ?_; intro v h20 w20 hle20 hp20 hs)
  subst hp20
  have hIT := hIT.mono hle20
  have g20 := g15.trans (hle19.trans hle20)
  by_cases ep : (product (catT X Y0 j) most).2 = 0
  rotate_left
  · obtain ⟨pe, hpe⟩ : ∃ pe, (product (catT X Y0 j) most).2 = pe := ⟨_, rfl⟩
    rw [hpe] at ep ⊢
    rw [show catS a b first most = (pe, ⟨[], VecD.none⟩) from by rw [hcs2, hpe, if_pos ep]]
    refine Zerun ?_
    refine RW.val (Y.build T rfl rfl rfl rfl rfl rfl rfl) rfl ?_
    refine Zerun ?_
    (refine RW.storeAll T hs 0 rfl rfl rfl rfl rfl rfl rfl rfl ?_; intro w10 hs)
    refine Zerun ?_
    exact retQ_ret [_, _] h20 ⟨resN T hs 0 rfl rfl rfl rfl rfl rfl, rfl, trivial⟩ hs.dropAll ⟨_, rfl, ⟨_, _, rfl, IntsAt.nil _, vecNone _⟩⟩
  rw [if_neg (fun h => h ep)] at hcs2
  rw [ep]
  obtain ⟨pn, hpn⟩ : ∃ pn, (product (catT X Y0 j) most).1 = pn := ⟨_, rfl⟩
  have hpt : product (catT X Y0 j) most = (pn, 0) := by rw [← hpn, ← ep]
  obtain ⟨⟨hsum, hp1, hnm⟩, hcase⟩ := cat_mid hpX hpY (by omega) hjx ce hpt
  have hsum2 : x.len + y.len ≤ 1048576 := by omega
  have hkk := fun (c' : Int) (hc' : joinC (-1) [x, y] = some c') => Ha.join_len Hc hc' hsum2
  have hcase2 : x.len + y.len = 0 ∨ ∃ oo n i m : Nat, splitSpec X j = ((oo : Int), (n : Int), (i : Int), true) ∧ Y0.getD j 0 = (m : Int) ∧ x.len = oo * (n * i) ∧ y.len = oo * (m * i) ∧ 0 < i ∧ 0 < oo := by
    rcases hcase with h0 | ⟨P, S, da, db, outer, inner, hC, eX, eY, hPj, eT, hla, hlb, hsp⟩
    · exact .inl (by omega)
    · refine .inr ⟨outer, da, inner, db, hsp, ?_, hla, hlb, hC.pos.1, hC.pos.2⟩
      rw [eY, ← hPj, mid_get]
  have hAx := ArrAt.mono (k + 2) _ _ _ _ g20 hA8
  have hAy := ArrAt.mono (k + 2) _ _ _ _ g20 hA11
  refine Zerun ?_
  (refine RW.call T hs rfl rfl rfl (joinRows_con k _ _ (⟨X, x⟩ : ArrD (AD (k + 1))) (⟨Y0, y⟩ : ArrD (AD (k + 1))) j _ _ hAx hAy hsum2 (by show X.length ≤ 8; omega) (by show Y0.length ≤ 8; omega) hjy hkk hcase2) ?_; intro v h21 w21 hle21 hp21 hs)
  obtain ⟨cs21, ok, rfl, hno, hyes⟩ := hp21
  have hIT := hIT.mono hle21
  rcases hjc : joinC (-1) [x, y] with _ | c'
  · obtain ⟨rfl, hv21⟩ := hno hjc
    rw [hjc] at hcs2
    obtain ⟨wv, nv, sm, il, fl, ch, bx, ⟨rfl, hoc⟩, -⟩ := hv21
    refine Zerun ?_
    (refine RW.allocN T hs rfl rfl rfl rfl ?_; intro b22 w22 hs)
    (refine RW.storeAll T hs 0 rfl rfl rfl rfl rfl rfl hoc rfl ?_; intro w23 hs)
    rw [show catS a b first most = (24, ⟨[], VecD.none⟩) from hcs2]
    refine Zerun ?_
    refine RW.val (Y.build T rfl rfl rfl rfl rfl rfl rfl) rfl ?_
    refine Zerun ?_
    (refine RW.storeAll T hs 1 rfl rfl rfl rfl rfl rfl rfl rfl ?_; intro w24 hs)
    refine Zerun ?_
    exact retQ_ret [_, _] h21 ⟨resN T hs 1 rfl rfl rfl rfl rfl rfl, rfl, trivial⟩ hs.dropAll ⟨_, rfl, ⟨_, _, rfl, IntsAt.nil _, vecNone _⟩⟩
  obtain ⟨rfl, hv21⟩ := hyes c' hjc
  rw [hjc] at hcs2
  obtain ⟨f1, f2, f3⟩ := cat_fin Ha Hc hpX hpY (by omega) hjx ce hpt hmost hjc
  have hv21 : VecAt (ArrAt (k + 1)) h21 cs21 (rowsV (joinX x y c') X Y0 j x.len) := hv21
  obtain ⟨vJ, hve⟩ : ∃ vJ, rowsV (joinX x y c') X Y0 j x.len = vJ := ⟨_, rfl⟩
  dsimp only at hcs2
  rw [hve] at hv21 f1 f2 f3 hcs2
  have hv21' := hv21
  obtain ⟨wv, nv, sm, il, fl, ch, bx, ⟨rfl, hoc⟩, -⟩ := hv21
  rw [hcs2]
  refine Zerun ?_
  (refine RW.allocN T hs rfl rfl rfl rfl ?_; intro b22 w22 hs)
  (refine RW.storeAll T hs 0 rfl rfl rfl rfl rfl rfl hoc rfl ?_; intro w23 hs)
  refine Zerun ?_
  (refine RW.call T hs rfl rfl rfl (valueNew_con (ArrAt.mono (k + 1)) _ (catT X Y0 j) _ vJ _ _ hIT hv21') ?_; intro v h25 w25 hle25 hp25 hs)
  have hne : newE (catT X Y0 j) vJ = 0 := by
    unfold newE
    rw [if_neg (by rw [hp1]; exact fun h => h rfl), if_neg f1.sh.k0, if_neg (by rw [hp1]; show ¬ pn ≠ (vJ.len : Int); omega)]
  rw [hne, f2] at hp25
  obtain ⟨cs25, rfl, _, hone25, hgo25, _⟩ := hp25
  have hA25 := hgo25 rfl
  have hA25' : ArrAt (k + 2) h25 cs25 (⟨catT X Y0 j, vJ⟩ : ArrD (AD (k + 1))) := hA25
  obtain ⟨_, vc25, rfl, ⟨ad25, cp25, rfl, _⟩, hv25⟩ := hA25
  obtain ⟨wv25, nv25, sm25, il25, fl25, ch25, bx25, ⟨rfl, hoc25⟩, -⟩ := hv25
  refine Zerun ?_
  (refine RW.storeAll T hs 1 rfl rfl rfl rfl rfl rfl (by show (Value.oneCell' (.slice ad25 _ cp25) && (vecCells _ wv25 nv25 sm25 il25 fl25 ch25 bx25).all Value.oneCell') = true; rw [hoc25]; rfl) rfl ?_; intro w26 hs)
  refine Zerun ?_
  exact retQ_ret [_, _] h25 ⟨resN T hs 1 rfl rfl rfl rfl rfl rfl, rfl, trivial⟩ hs.dropAll ⟨_, rfl, hA25'⟩
end Go.Proofs.YtmojpbfkpggjhaaGreat

/-
  Contract of the law's own function of layer 22: two arrays behind each other. No statement is proved here.
-/
namespace Go.Proofs.YtmojpbfkpggjhaaGreat
open Go Go.RowKit
set_option linter.unusedVariables false
set_option linter.unusedSimpArgs false
set_option maxHeartbeats 4000000
attribute [local irreducible] CW RW QW SW HW ConM retM heldQ calmQ elemP thenQ blockQ loopQ joinQ retQ Yields Con Sl zF magR unitF truncF fwF wholeF tidySpec elemQ rankF leastN tidyW
set_option maxHeartbeats 4000000

theorem joinCatenatesLaw_con (k : Nat) (cp0 cq0 : List Value) (p q : PD (k + 2)) (first : Bool) (x : Int) (w : World) (h : GHeap) (hp : PlainAt (k + 2) h cp0 p) (hq : PlainAt (k + 2) h cq0 q) (hx : 0 ≤ x ∧ x ≤ 65535) : Con Tryz.prog 6 [.agg cp0.toArray, .agg cq0.toArray, .bool first, .int .u16 x] w h (fun _ u => u = .bool true) := by
  have hp' := hp
  have hp0 := hp
  have hq' := hq
  have hq0 := hq
  obtain ⟨s_p, it_p, rfl, ⟨ads_p, cps_p, rfl, hSl_p⟩, ⟨adi_p, cpi_p, xs_p, rfl, hIl_p, _⟩⟩ := hp
  obtain ⟨s_q, it_q, rfl, ⟨ads_q, cps_q, rfl, hSl_q⟩, ⟨adi_q, cpi_q, xs_q, rfl, hIl_q, _⟩⟩ := hq
  refine Con.of_body Tryz.func6 rfl Tryz.ntmps6 rfl rfl ?_
  intro hs
  refine Zrun ?_
  (refine RW.boxN hs rfl rfl ?_; intro b1 w1 hs)
  refine Zrun ?_
  (refine RW.boxN hs rfl rfl ?_; intro b2 w2 hs)
  refine Zerun ?_
  (refine RW.call T hs rfl rfl rfl (fine22_con (k + 1) _ p _ _ hp') ?_; intro v h3 w3 hle3 hp3 hs)
  obtain ⟨b, rfl, hbp⟩ := hp3
  have hp' := PlainAt.mono (k + 2) _ _ _ _ hle3 hp'
  have hq' := PlainAt.mono (k + 2) _ _ _ _ hle3 hq'
  cases b with
  | false =>
    refine Zerun ?_
    (refine RW.call T hs rfl rfl rfl (awake22_con _ _) ?_; intro v h13 w13 hle13 hp13 hs)
    subst hp13
    refine Zerun ?_
    exact retQ_ret [_] h13 ⟨rfl, trivial⟩ hs.dropAll rfl
  | true =>
  obtain ⟨hcp, h8p, _⟩ := hbp rfl
  refine Zerun ?_
  (refine RW.call T hs rfl rfl rfl (fine22_con (k + 1) _ q _ _ hq') ?_; intro v h4 w4 hle4 hp4 hs)
  obtain ⟨b, rfl, hbq⟩ := hp4
  have hp' := PlainAt.mono (k + 2) _ _ _ _ hle4 hp'
  have hq' := PlainAt.mono (k + 2) _ _ _ _ hle4 hq'
  cases b with
  | false =>
    refine Zerun ?_
    (refine RW.call T hs rfl rfl rfl (awake22_con _ _) ?_; intro v h14 w14 hle14 hp14 hs)
    subst hp14
    refine Zerun ?_
    exact retQ_ret [_] h14 ⟨rfl, trivial⟩ hs.dropAll rfl
  | true =>
  obtain ⟨hcq, h8q, _⟩ := hbq rfl
  refine Zerun ?_
  obtain ⟨Hp, hpp⟩ := tells_of k p _ _ hp0 hcp
  obtain ⟨Hq, hpq⟩ := tells_of k q _ _ hq0 hcq
  have Lp := lok_arr p _ _ hp0 hcp
  have Lq := lok_arr q _ _ hq0 hcq
  obtain ⟨most, hmost⟩ : ∃ most : Int, x % 3000 = most := ⟨_, rfl⟩
  rw [hmost]
  refine RW.val (Y.conv64 (u := most) T rfl rfl rfl (by omega)) rfl ?_
  refine Zerun ?_
  have hgp : goodS (ArrD.shape (α := AD (k + 1)) (arr (k + 2) p)) = true := (goodS_iff _).2 (congrArg Prod.snd hpp)
  have hgq : goodS (ArrD.shape (α := AD (k + 1)) (arr (k + 2) q)) = true := (goodS_iff _).2 (congrArg Prod.snd hpq)
  obtain ⟨eq, rs, _⟩ := cat_res (k := k) (a := arr (k + 2) p) (b := arr (k + 2) q) (p := tidy (k + 2) p) (q := tidy (k + 2) q) Hp Hq rfl rfl hpp hpq (catSh_good hgp hgq) (catAx_lt (catSh_pos _ _) first) (most := most) (by omega)
  have eq : (catS (k := k) (arr (k + 2) p) (arr (k + 2) q) first most).1 = (catR (k := k) (tidy (k + 2) p) (tidy (k + 2) q) first most).1 := eq
  have rs : ResX (k + 1) (catS (k := k) (arr (k + 2) p) (arr (k + 2) q) first most).1 (catS (k := k) (arr (k + 2) p) (arr (k + 2) q) first most).2 (catR (k := k) (tidy (k + 2) p) (tidy (k + 2) q) first most).2 := rs
  obtain ⟨eC, heCe⟩ : ∃ z, (catS (k := k) (arr (k + 2) p) (arr (k + 2) q) first most).1 = z := ⟨_, rfl⟩
  obtain ⟨aC, haCe⟩ : ∃ z, (catS (k := k) (arr (k + 2) p) (arr (k + 2) q) first most).2 = z := ⟨_, rfl⟩
  obtain ⟨pC, hpCe⟩ : ∃ z, (catR (k := k) (tidy (k + 2) p) (tidy (k + 2) q) first most).2 = z := ⟨_, rfl⟩
  rw [heCe, haCe, hpCe] at rs
  rw [heCe] at eq
  have eq := eq.symm
  refine CW.meet (fun r : Nat × List Value × GHeap => [(2, .bool first), (9, .int .i64 most), (4, .pointer (some ⟨b1, 0, none⟩)), (5, .pointer (some ⟨b2, 0, none⟩)), (10, .pointer (some ⟨r.1, 0, none⟩)), (11, .int .i64 eC)]) (fun r w' => ArrAt (k + 2) r.2.2 r.2.1 aC ∧ PlainAt (k + 2) r.2.2 [.slice ads_p (PlainD.shape (α := PD (k + 1)) p).length cps_p, .slice adi_p (PlainD.items (α := PD (k + 1)) p).length cpi_p, .int .i64 (PlainD.fill (α := PD (k + 1)) p)] p ∧ PlainAt (k + 2) r.2.2 [.slice ads_q (PlainD.shape (α := PD (k + 1)) q).length cps_q, .slice adi_q (PlainD.items (α := PD (k + 1)) q).length cpi_q, .int .i64 (PlainD.fill (α := PD (k + 1)) q)] q ∧ Sees w h r.2.2 [⟨some ⟨r.1, 0, none⟩, 1, 1, 39, 9, r.2.1⟩, ⟨some ⟨b2, 0, none⟩, 1, 1, 25, 3, [.slice ads_q (PlainD.shape (α := PD (k + 1)) q).length cps_q, .slice adi_q (PlainD.items (α := PD (k + 1)) q).length cpi_q, .int .i64 (PlainD.fill (α := PD (k + 1)) q)]⟩, ⟨some ⟨b1, 0, none⟩, 1, 1, 25, 3, [.slice ads_p (PlainD.shape (α := PD (k + 1)) p).length cps_p, .slice adi_p (PlainD.items (α := PD (k + 1)) p).length cpi_p, .int .i64 (PlainD.fill (α := PD (k + 1)) p)]⟩] w') ?_ ?_
  · refine CW.regionR T 1 0 hs rfl rfl ?_
    intro w833 hs
    refine HW.takeR (fuel := 12) 0 rfl (fun _ _ ka kb _ hs hka hkb => Y.loadRowN T hs ka hka rfl rfl rfl rfl rfl rfl) ⟨_, _, 1, 0, hs, rfl, rfl⟩ rfl (by kernel_rfl) (by kernel_rfl) (by kernel_rfl) ?_
    refine HW.takeR (fuel := 11) 2 rfl (fun _ _ ka kb _ hs hka hkb => Y.loadRowN T hs kb hkb rfl rfl rfl rfl rfl rfl) ⟨_, _, 1, 0, hs, rfl, rfl⟩ rfl (by kernel_rfl) (by kernel_rfl) (by kernel_rfl) ?_
    refine HW.takeR (fuel := 10) 4 rfl (fun _ _ ka kb _ hs hka hkb => Y.move rfl) ⟨_, _, 1, 0, hs, rfl, rfl⟩ rfl (by kernel_rfl) (by kernel_rfl) (by kernel_rfl) ?_
    refine HW.takeR (fuel := 9) 5 rfl (fun _ _ ka kb _ hs hka hkb => Y.move rfl) ⟨_, _, 1, 0, hs, rfl, rfl⟩ rfl (by kernel_rfl) (by kernel_rfl) (by kernel_rfl) ?_
    refine HW.two (fuel := 8) 1 10 rfl rfl (by kernel_rfl) ?_ ?_
    · (refine RW.call T hs rfl rfl rfl (of07_con (k + 2) _ p _ _ hp' hcp) ?_; intro v h28 w28 hle28 hp28 hs)
      obtain ⟨cs28, rfl, _, _, hn28⟩ := hp28
      have hp' := PlainAt.mono (k + 2) _ _ _ _ hle28 hp'
      have hq' := PlainAt.mono (k + 2) _ _ _ _ hle28 hq'
      refine RW.nil ?_
      refine heldQ_normal ⟨_, _, 1, 0, hs, rfl, rfl⟩ ?_
      refine HW.two (fuel := 7) 3 10 rfl rfl (by kernel_rfl) ?_ ?_
      · (refine RW.call T hs rfl rfl rfl (of07_con (k + 2) _ q _ _ hq' hcq) ?_; intro v h30 w30 hle30 hp30 hs)
        obtain ⟨cs30, rfl, _, _, hn30⟩ := hp30
        have hp' := PlainAt.mono (k + 2) _ _ _ _ hle30 hp'
        have hq' := PlainAt.mono (k + 2) _ _ _ _ hle30 hq'
        have hn28 := ArrAt.mono (k + 2) _ _ _ _ hle30 hn28
        refine RW.nil ?_
        refine heldQ_normal ⟨_, _, 1, 0, hs, rfl, rfl⟩ ?_
        refine HW.two (fuel := 6) 6 10 rfl rfl (by kernel_rfl) ?_ ?_
        · (refine RW.call T hs rfl rfl rfl (joinCatenate2_con k _ _ (arr (k + 2) p) (arr (k + 2) q) _ _ _ _ first most _ _ hn28 hn30 Hp Hq hpp hpq (by omega)) ?_; intro v h33 w33 hle33 hp33 hs)
          obtain ⟨cs33, rfl, ha33⟩ := hp33
          rw [haCe] at ha33
          rw [heCe]
          obtain ⟨_, vc33, rfl, ⟨ad33, cap33, rfl, _⟩, hv33⟩ := id ha33
          obtain ⟨wv33, nv33, sm33, il33, fl33, ch33, bx33, ⟨rfl, hoc33⟩, -⟩ := hv33
          have hall33 : (Value.oneCell' (.slice ad33 (ArrD.shape (α := AD (k + 1)) aC).length cap33) && (vecCells (ArrD.vec (α := AD (k + 1)) aC).kind wv33 nv33 sm33 il33 fl33 ch33 bx33).all Value.oneCell') = true := by rw [hoc33]; rfl
          have hp' := PlainAt.mono (k + 2) _ _ _ _ hle33 hp'
          have hq' := PlainAt.mono (k + 2) _ _ _ _ hle33 hq'
          have hn28 := ArrAt.mono (k + 2) _ _ _ _ hle33 hn28
          have hn30 := ArrAt.mono (k + 2) _ _ _ _ hle33 hn30
          refine RW.nil ?_
          refine heldQ_normal ⟨_, _, 1, 0, hs, rfl, rfl⟩ ?_
          refine HW.takeR (fuel := 5) 7 rfl (fun _ _ ka kb _ hs hka hkb => Y.move rfl) ⟨_, _, 1, 0, hs, rfl, rfl⟩ rfl (by kernel_rfl) (by kernel_rfl) (by kernel_rfl) ?_
          refine HW.takeR (fuel := 4) 8 rfl (fun _ _ ka kb _ hs hka hkb => Y.extract rfl rfl) ⟨_, _, 1, 0, hs, rfl, rfl⟩ rfl (by kernel_rfl) (by kernel_rfl) (by kernel_rfl) ?_
          refine HW.takeR (fuel := 3) 9 rfl (fun _ _ ka kb _ hs hka hkb => Y.extract rfl rfl) ⟨_, _, 1, 0, hs, rfl, rfl⟩ rfl (by kernel_rfl) (by kernel_rfl) (by kernel_rfl) ?_
          refine HW.one (fuel := 2) 10 rfl (by kernel_rfl) ?_
          (refine RW.allocN T hs rfl rfl rfl rfl ?_; intro b10 w10 hs)
          refine RW.nil ?_
          refine heldQ_normal ⟨_, _, 2, 1, hs, rfl, rfl⟩ ?_
          refine HW.one (fuel := 1) 11 rfl (by kernel_rfl) ?_
          refine RW.storeAll T hs 0 rfl rfl rfl rfl rfl rfl hall33 rfl ?_
          intro w933 hs
          refine RW.nil ?_
          refine heldQ_normal ⟨_, _, 2, 1, hs, rfl, rfl⟩ ?_
          refine HW.takeR (fuel := 0) 12 rfl (fun _ _ ka kb _ hs hka hkb => Y.assign rfl) ⟨_, _, 2, 1, hs, rfl, rfl⟩ rfl (by kernel_rfl) (by kernel_rfl) (by kernel_rfl) ?_
          refine HW.done (by kernel_rfl) ?_
          refine calmQ_normal ?_
          exact joinQ_meet (b10, _, h33) ⟨rfl, rfl, rfl, rfl, rfl, rfl, trivial⟩ ⟨ha33, hp', hq',  hs⟩
        · (refine RW.allocN T hs rfl rfl rfl rfl ?_; intro b10 w10 hs)
          refine RW.nil ?_
          refine heldQ_normal ⟨_, _, 2, 1, hs, rfl, rfl⟩ ?_
          refine HW.one (fuel := 5) 6 rfl (by kernel_rfl) ?_
          (refine RW.call T hs rfl rfl rfl (joinCatenate2_con k _ _ (arr (k + 2) p) (arr (k + 2) q) _ _ _ _ first most _ _ hn28 hn30 Hp Hq hpp hpq (by omega)) ?_; intro v h33 w33 hle33 hp33 hs)
          obtain ⟨cs33, rfl, ha33⟩ := hp33
          rw [haCe] at ha33
          rw [heCe]
          obtain ⟨_, vc33, rfl, ⟨ad33, cap33, rfl, _⟩, hv33⟩ := id ha33
          obtain ⟨wv33, nv33, sm33, il33, fl33, ch33, bx33, ⟨rfl, hoc33⟩, -⟩ := hv33
          have hall33 : (Value.oneCell' (.slice ad33 (ArrD.shape (α := AD (k + 1)) aC).length cap33) && (vecCells (ArrD.vec (α := AD (k + 1)) aC).kind wv33 nv33 sm33 il33 fl33 ch33 bx33).all Value.oneCell') = true := by rw [hoc33]; rfl
          have hp' := PlainAt.mono (k + 2) _ _ _ _ hle33 hp'
          have hq' := PlainAt.mono (k + 2) _ _ _ _ hle33 hq'
          have hn28 := ArrAt.mono (k + 2) _ _ _ _ hle33 hn28
          have hn30 := ArrAt.mono (k + 2) _ _ _ _ hle33 hn30
          refine RW.nil ?_
          refine heldQ_normal ⟨_, _, 2, 1, hs, rfl, rfl⟩ ?_
          refine HW.takeR (fuel := 4) 7 rfl (fun _ _ ka kb _ hs hka hkb => Y.move rfl) ⟨_, _, 2, 1, hs, rfl, rfl⟩ rfl (by kernel_rfl) (by kernel_rfl) (by kernel_rfl) ?_
          refine HW.takeR (fuel := 3) 8 rfl (fun _ _ ka kb _ hs hka hkb => Y.extract rfl rfl) ⟨_, _, 2, 1, hs, rfl, rfl⟩ rfl (by kernel_rfl) (by kernel_rfl) (by kernel_rfl) ?_
          refine HW.takeR (fuel := 2) 9 rfl (fun _ _ ka kb _ hs hka hkb => Y.extract rfl rfl) ⟨_, _, 2, 1, hs, rfl, rfl⟩ rfl (by kernel_rfl) (by kernel_rfl) (by kernel_rfl) ?_
          refine HW.one (fuel := 1) 11 rfl (by kernel_rfl) ?_
          refine RW.storeAll T hs 0 rfl rfl rfl rfl rfl rfl hall33 rfl ?_
          intro w933 hs
          refine RW.nil ?_
          refine heldQ_normal ⟨_, _, 2, 1, hs, rfl, rfl⟩ ?_
          refine HW.takeR (fuel := 0) 12 rfl (fun _ _ ka kb _ hs hka hkb => Y.assign rfl) ⟨_, _, 2, 1, hs, rfl, rfl⟩ rfl (by kernel_rfl) (by kernel_rfl) (by kernel_rfl) ?_
          refine HW.done (by kernel_rfl) ?_
          refine calmQ_normal ?_
          exact joinQ_meet (b10, _, h33) ⟨rfl, rfl, rfl, rfl, rfl, rfl, trivial⟩ ⟨ha33, hp', hq',  hs⟩
      · (refine RW.allocN T hs rfl rfl rfl rfl ?_; intro b10 w10 hs)
        refine RW.nil ?_
        refine heldQ_normal ⟨_, _, 2, 1, hs, rfl, rfl⟩ ?_
        refine HW.one (fuel := 6) 3 rfl (by kernel_rfl) ?_
        (refine RW.call T hs rfl rfl rfl (of07_con (k + 2) _ q _ _ hq' hcq) ?_; intro v h30 w30 hle30 hp30 hs)
        obtain ⟨cs30, rfl, _, _, hn30⟩ := hp30
        have hp' := PlainAt.mono (k + 2) _ _ _ _ hle30 hp'
        have hq' := PlainAt.mono (k + 2) _ _ _ _ hle30 hq'
        have hn28 := ArrAt.mono (k + 2) _ _ _ _ hle30 hn28
        refine RW.nil ?_
        refine heldQ_normal ⟨_, _, 2, 1, hs, rfl, rfl⟩ ?_
        refine HW.one (fuel := 5) 6 rfl (by kernel_rfl) ?_
        (refine RW.call T hs rfl rfl rfl (joinCatenate2_con k _ _ (arr (k + 2) p) (arr (k + 2) q) _ _ _ _ first most _ _ hn28 hn30 Hp Hq hpp hpq (by omega)) ?_; intro v h33 w33 hle33 hp33 hs)
        obtain ⟨cs33, rfl, ha33⟩ := hp33
        rw [haCe] at ha33
        rw [heCe]
        obtain ⟨_, vc33, rfl, ⟨ad33, cap33, rfl, _⟩, hv33⟩ := id ha33
        obtain ⟨wv33, nv33, sm33, il33, fl33, ch33, bx33, ⟨rfl, hoc33⟩, -⟩ := hv33
        have hall33 : (Value.oneCell' (.slice ad33 (ArrD.shape (α := AD (k + 1)) aC).length cap33) && (vecCells (ArrD.vec (α := AD (k + 1)) aC).kind wv33 nv33 sm33 il33 fl33 ch33 bx33).all Value.oneCell') = true := by rw [hoc33]; rfl
        have hp' := PlainAt.mono (k + 2) _ _ _ _ hle33 hp'
        have hq' := PlainAt.mono (k + 2) _ _ _ _ hle33 hq'
        have hn28 := ArrAt.mono (k + 2) _ _ _ _ hle33 hn28
        have hn30 := ArrAt.mono (k + 2) _ _ _ _ hle33 hn30
        refine RW.nil ?_
        refine heldQ_normal ⟨_, _, 2, 1, hs, rfl, rfl⟩ ?_
        refine HW.takeR (fuel := 4) 7 rfl (fun _ _ ka kb _ hs hka hkb => Y.move rfl) ⟨_, _, 2, 1, hs, rfl, rfl⟩ rfl (by kernel_rfl) (by kernel_rfl) (by kernel_rfl) ?_
        refine HW.takeR (fuel := 3) 8 rfl (fun _ _ ka kb _ hs hka hkb => Y.extract rfl rfl) ⟨_, _, 2, 1, hs, rfl, rfl⟩ rfl (by kernel_rfl) (by kernel_rfl) (by kernel_rfl) ?_
        refine HW.takeR (fuel := 2) 9 rfl (fun _ _ ka kb _ hs hka hkb => Y.extract rfl rfl) ⟨_, _, 2, 1, hs, rfl, rfl⟩ rfl (by kernel_rfl) (by kernel_rfl) (by kernel_rfl) ?_
        refine HW.one (fuel := 1) 11 rfl (by kernel_rfl) ?_
        refine RW.storeAll T hs 0 rfl rfl rfl rfl rfl rfl hall33 rfl ?_
        intro w933 hs
        refine RW.nil ?_
        refine heldQ_normal ⟨_, _, 2, 1, hs, rfl, rfl⟩ ?_
        refine HW.takeR (fuel := 0) 12 rfl (fun _ _ ka kb _ hs hka hkb => Y.assign rfl) ⟨_, _, 2, 1, hs, rfl, rfl⟩ rfl (by kernel_rfl) (by kernel_rfl) (by kernel_rfl) ?_
        refine HW.done (by kernel_rfl) ?_
        refine calmQ_normal ?_
        exact joinQ_meet (b10, _, h33) ⟨rfl, rfl, rfl, rfl, rfl, rfl, trivial⟩ ⟨ha33, hp', hq',  hs⟩
    · (refine RW.allocN T hs rfl rfl rfl rfl ?_; intro b10 w10 hs)
      refine RW.nil ?_
      refine heldQ_normal ⟨_, _, 2, 1, hs, rfl, rfl⟩ ?_
      refine HW.one (fuel := 7) 1 rfl (by kernel_rfl) ?_
      (refine RW.call T hs rfl rfl rfl (of07_con (k + 2) _ p _ _ hp' hcp) ?_; intro v h28 w28 hle28 hp28 hs)
      obtain ⟨cs28, rfl, _, _, hn28⟩ := hp28
      have hp' := PlainAt.mono (k + 2) _ _ _ _ hle28 hp'
      have hq' := PlainAt.mono (k + 2) _ _ _ _ hle28 hq'
      refine RW.nil ?_
      refine heldQ_normal ⟨_, _, 2, 1, hs, rfl, rfl⟩ ?_
      refine HW.one (fuel := 6) 3 rfl (by kernel_rfl) ?_
      (refine RW.call T hs rfl rfl rfl (of07_con (k + 2) _ q _ _ hq' hcq) ?_; intro v h30 w30 hle30 hp30 hs)
      obtain ⟨cs30, rfl, _, _, hn30⟩ := hp30
      have hp' := PlainAt.mono (k + 2) _ _ _ _ hle30 hp'
      have hq' := PlainAt.mono (k + 2) _ _ _ _ hle30 hq'
      have hn28 := ArrAt.mono (k + 2) _ _ _ _ hle30 hn28
      refine RW.nil ?_
      refine heldQ_normal ⟨_, _, 2, 1, hs, rfl, rfl⟩ ?_
      refine HW.one (fuel := 5) 6 rfl (by kernel_rfl) ?_
      (refine RW.call T hs rfl rfl rfl (joinCatenate2_con k _ _ (arr (k + 2) p) (arr (k + 2) q) _ _ _ _ first most _ _ hn28 hn30 Hp Hq hpp hpq (by omega)) ?_; intro v h33 w33 hle33 hp33 hs)
      obtain ⟨cs33, rfl, ha33⟩ := hp33
      rw [haCe] at ha33
      rw [heCe]
      obtain ⟨_, vc33, rfl, ⟨ad33, cap33, rfl, _⟩, hv33⟩ := id ha33
      obtain ⟨wv33, nv33, sm33, il33, fl33, ch33, bx33, ⟨rfl, hoc33⟩, -⟩ := hv33
      have hall33 : (Value.oneCell' (.slice ad33 (ArrD.shape (α := AD (k + 1)) aC).length cap33) && (vecCells (ArrD.vec (α := AD (k + 1)) aC).kind wv33 nv33 sm33 il33 fl33 ch33 bx33).all Value.oneCell') = true := by rw [hoc33]; rfl
      have hp' := PlainAt.mono (k + 2) _ _ _ _ hle33 hp'
      have hq' := PlainAt.mono (k + 2) _ _ _ _ hle33 hq'
      have hn28 := ArrAt.mono (k + 2) _ _ _ _ hle33 hn28
      have hn30 := ArrAt.mono (k + 2) _ _ _ _ hle33 hn30
      refine RW.nil ?_
      refine heldQ_normal ⟨_, _, 2, 1, hs, rfl, rfl⟩ ?_
      refine HW.takeR (fuel := 4) 7 rfl (fun _ _ ka kb _ hs hka hkb => Y.move rfl) ⟨_, _, 2, 1, hs, rfl, rfl⟩ rfl (by kernel_rfl) (by kernel_rfl) (by kernel_rfl) ?_
      refine HW.takeR (fuel := 3) 8 rfl (fun _ _ ka kb _ hs hka hkb => Y.extract rfl rfl) ⟨_, _, 2, 1, hs, rfl, rfl⟩ rfl (by kernel_rfl) (by kernel_rfl) (by kernel_rfl) ?_
      refine HW.takeR (fuel := 2) 9 rfl (fun _ _ ka kb _ hs hka hkb => Y.extract rfl rfl) ⟨_, _, 2, 1, hs, rfl, rfl⟩ rfl (by kernel_rfl) (by kernel_rfl) (by kernel_rfl) ?_
      refine HW.one (fuel := 1) 11 rfl (by kernel_rfl) ?_
      refine RW.storeAll T hs 0 rfl rfl rfl rfl rfl rfl hall33 rfl ?_
      intro w933 hs
      refine RW.nil ?_
      refine heldQ_normal ⟨_, _, 2, 1, hs, rfl, rfl⟩ ?_
      refine HW.takeR (fuel := 0) 12 rfl (fun _ _ ka kb _ hs hka hkb => Y.assign rfl) ⟨_, _, 2, 1, hs, rfl, rfl⟩ rfl (by kernel_rfl) (by kernel_rfl) (by kernel_rfl) ?_
      refine HW.done (by kernel_rfl) ?_
      refine calmQ_normal ?_
      exact joinQ_meet (b10, _, h33) ⟨rfl, rfl, rfl, rfl, rfl, rfl, trivial⟩ ⟨ha33, hp', hq',  hs⟩
  rintro ⟨b10, cs33, h33⟩ w33 ⟨haC, hp', hq', hs⟩
  dsimp only at haC hp' hq' hs ⊢
  obtain ⟨_, vc33, rfl, ⟨ad33, cap33, rfl, _⟩, hv33⟩ := id haC
  obtain ⟨wv33, nv33, sm33, il33, fl33, ch33, bx33, ⟨rfl, hoc33⟩, -⟩ := hv33
  refine Zerun ?_
  refine CW.meet (fun r : Nat × List Value × GHeap => [(2, .bool first), (9, .int .i64 most), (4, .pointer (some ⟨b1, 0, none⟩)), (5, .pointer (some ⟨b2, 0, none⟩)), (10, .pointer (some ⟨b10, 0, none⟩)), (11, .int .i64 eC), (12, .pointer (some ⟨r.1, 0, none⟩)), (13, .int .i64 eC)]) (fun r w' => PlainAt (k + 2) r.2.2 r.2.1 pC ∧ PlainAt (k + 2) r.2.2 [.slice ads_p (PlainD.shape (α := PD (k + 1)) p).length cps_p, .slice adi_p (PlainD.items (α := PD (k + 1)) p).length cpi_p, .int .i64 (PlainD.fill (α := PD (k + 1)) p)] p ∧ PlainAt (k + 2) r.2.2 [.slice ads_q (PlainD.shape (α := PD (k + 1)) q).length cps_q, .slice adi_q (PlainD.items (α := PD (k + 1)) q).length cpi_q, .int .i64 (PlainD.fill (α := PD (k + 1)) q)] q ∧ ArrAt (k + 2) r.2.2 (.slice ad33 (ArrD.shape (α := AD (k + 1)) aC).length cap33 :: vecCells (ArrD.vec (α := AD (k + 1)) aC).kind wv33 nv33 sm33 il33 fl33 ch33 bx33) aC ∧ Sees w h r.2.2 [⟨some ⟨r.1, 0, none⟩, 1, 1, 25, 3, r.2.1⟩, ⟨some ⟨b10, 0, none⟩, 1, 1, 39, 9, (.slice ad33 (ArrD.shape (α := AD (k + 1)) aC).length cap33 :: vecCells (ArrD.vec (α := AD (k + 1)) aC).kind wv33 nv33 sm33 il33 fl33 ch33 bx33)⟩, ⟨some ⟨b2, 0, none⟩, 1, 1, 25, 3, [.slice ads_q (PlainD.shape (α := PD (k + 1)) q).length cps_q, .slice adi_q (PlainD.items (α := PD (k + 1)) q).length cpi_q, .int .i64 (PlainD.fill (α := PD (k + 1)) q)]⟩, ⟨some ⟨b1, 0, none⟩, 1, 1, 25, 3, [.slice ads_p (PlainD.shape (α := PD (k + 1)) p).length cps_p, .slice adi_p (PlainD.items (α := PD (k + 1)) p).length cpi_p, .int .i64 (PlainD.fill (α := PD (k + 1)) p)]⟩] w') ?_ ?_
  · refine CW.regionR T 2 1 hs rfl rfl ?_
    intro w843 hs
    refine HW.takeR (fuel := 12) 0 rfl (fun _ _ ka kb _ hs hka hkb => Y.loadRowN T hs ka hka rfl rfl rfl rfl rfl rfl) ⟨_, _, 2, 1, hs, rfl, rfl⟩ rfl (by kernel_rfl) (by kernel_rfl) (by kernel_rfl) ?_
    refine HW.takeR (fuel := 11) 2 rfl (fun _ _ ka kb _ hs hka hkb => Y.loadRowN T hs kb hkb rfl rfl rfl rfl rfl rfl) ⟨_, _, 2, 1, hs, rfl, rfl⟩ rfl (by kernel_rfl) (by kernel_rfl) (by kernel_rfl) ?_
    refine HW.takeR (fuel := 10) 4 rfl (fun _ _ ka kb _ hs hka hkb => Y.move rfl) ⟨_, _, 2, 1, hs, rfl, rfl⟩ rfl (by kernel_rfl) (by kernel_rfl) (by kernel_rfl) ?_
    refine HW.takeR (fuel := 9) 5 rfl (fun _ _ ka kb _ hs hka hkb => Y.move rfl) ⟨_, _, 2, 1, hs, rfl, rfl⟩ rfl (by kernel_rfl) (by kernel_rfl) (by kernel_rfl) ?_
    refine HW.two (fuel := 8) 1 10 rfl rfl (by kernel_rfl) ?_ ?_
    · (refine RW.call T hs rfl rfl rfl (refTidyP_con (k + 2) 40 _ p _ _ hp' hcp) ?_; intro v h38 w38 hle38 hp38 hs)
      obtain ⟨cs38, rfl, hq38⟩ := hp38
      have hp' := PlainAt.mono (k + 2) _ _ _ _ hle38 hp'
      have hq' := PlainAt.mono (k + 2) _ _ _ _ hle38 hq'
      have haC := ArrAt.mono (k + 2) _ _ _ _ hle38 haC
      refine RW.nil ?_
      refine heldQ_normal ⟨_, _, 2, 1, hs, rfl, rfl⟩ ?_
      refine HW.two (fuel := 7) 3 10 rfl rfl (by kernel_rfl) ?_ ?_
      · (refine RW.call T hs rfl rfl rfl (refTidyP_con (k + 2) 40 _ q _ _ hq' hcq) ?_; intro v h40 w40 hle40 hp40 hs)
        obtain ⟨cs40, rfl, hq40⟩ := hp40
        have hp' := PlainAt.mono (k + 2) _ _ _ _ hle40 hp'
        have hq' := PlainAt.mono (k + 2) _ _ _ _ hle40 hq'
        have haC := ArrAt.mono (k + 2) _ _ _ _ hle40 haC
        have hq38 := PlainAt.mono (k + 2) _ _ _ _ hle40 hq38
        refine RW.nil ?_
        refine heldQ_normal ⟨_, _, 2, 1, hs, rfl, rfl⟩ ?_
        refine HW.two (fuel := 6) 6 10 rfl rfl (by kernel_rfl) ?_ ?_
        · (refine RW.call T hs rfl rfl rfl (ref22Catenate_con k _ _ (tidy (k + 2) p) (tidy (k + 2) q) first most _ _ hq38 hq40 Lp.prP Lq.prP Lp.fill0 Lq.fill0 (by omega)) ?_; intro v h43 w43 hle43 hp43 hs)
          obtain ⟨cs43, rfl, hq43⟩ := hp43
          rw [hpCe] at hq43
          rw [eq]
          have hq43 : PlainAt (k + 2) h43 cs43 pC := hq43
          obtain ⟨s43, it43, rfl, ⟨adS43, cpS43, rfl, _⟩, ⟨adI43, cpI43, xsI43, rfl, _, _⟩⟩ := id hq43
          have hp' := PlainAt.mono (k + 2) _ _ _ _ hle43 hp'
          have hq' := PlainAt.mono (k + 2) _ _ _ _ hle43 hq'
          have haC := ArrAt.mono (k + 2) _ _ _ _ hle43 haC
          have hq38 := PlainAt.mono (k + 2) _ _ _ _ hle43 hq38
          have hq40 := PlainAt.mono (k + 2) _ _ _ _ hle43 hq40
          refine RW.nil ?_
          refine heldQ_normal ⟨_, _, 2, 1, hs, rfl, rfl⟩ ?_
          refine HW.takeR (fuel := 5) 7 rfl (fun _ _ ka kb _ hs hka hkb => Y.move rfl) ⟨_, _, 2, 1, hs, rfl, rfl⟩ rfl (by kernel_rfl) (by kernel_rfl) (by kernel_rfl) ?_
          refine HW.takeR (fuel := 4) 8 rfl (fun _ _ ka kb _ hs hka hkb => Y.extract rfl rfl) ⟨_, _, 2, 1, hs, rfl, rfl⟩ rfl (by kernel_rfl) (by kernel_rfl) (by kernel_rfl) ?_
          refine HW.takeR (fuel := 3) 9 rfl (fun _ _ ka kb _ hs hka hkb => Y.extract rfl rfl) ⟨_, _, 2, 1, hs, rfl, rfl⟩ rfl (by kernel_rfl) (by kernel_rfl) (by kernel_rfl) ?_
          refine HW.one (fuel := 2) 10 rfl (by kernel_rfl) ?_
          (refine RW.allocN T hs rfl rfl rfl rfl ?_; intro b12 w12 hs)
          refine RW.nil ?_
          refine heldQ_normal ⟨_, _, 3, 2, hs, rfl, rfl⟩ ?_
          refine HW.one (fuel := 1) 11 rfl (by kernel_rfl) ?_
          refine RW.storeAll T hs 0 rfl rfl rfl rfl rfl rfl rfl rfl ?_
          intro w943 hs
          refine RW.nil ?_
          refine heldQ_normal ⟨_, _, 3, 2, hs, rfl, rfl⟩ ?_
          refine HW.takeR (fuel := 0) 12 rfl (fun _ _ ka kb _ hs hka hkb => Y.assign rfl) ⟨_, _, 3, 2, hs, rfl, rfl⟩ rfl (by kernel_rfl) (by kernel_rfl) (by kernel_rfl) ?_
          refine HW.done (by kernel_rfl) ?_
          refine calmQ_normal ?_
          exact joinQ_meet (b12, _, h43) ⟨rfl, rfl, rfl, rfl, rfl, rfl, rfl, rfl, trivial⟩ ⟨hq43, hp', hq', haC,  hs⟩
        · (refine RW.allocN T hs rfl rfl rfl rfl ?_; intro b12 w12 hs)
          refine RW.nil ?_
          refine heldQ_normal ⟨_, _, 3, 2, hs, rfl, rfl⟩ ?_
          refine HW.one (fuel := 5) 6 rfl (by kernel_rfl) ?_
          (refine RW.call T hs rfl rfl rfl (ref22Catenate_con k _ _ (tidy (k + 2) p) (tidy (k + 2) q) first most _ _ hq38 hq40 Lp.prP Lq.prP Lp.fill0 Lq.fill0 (by omega)) ?_; intro v h43 w43 hle43 hp43 hs)
          obtain ⟨cs43, rfl, hq43⟩ := hp43
          rw [hpCe] at hq43
          rw [eq]
          have hq43 : PlainAt (k + 2) h43 cs43 pC := hq43
          obtain ⟨s43, it43, rfl, ⟨adS43, cpS43, rfl, _⟩, ⟨adI43, cpI43, xsI43, rfl, _, _⟩⟩ := id hq43
          have hp' := PlainAt.mono (k + 2) _ _ _ _ hle43 hp'
          have hq' := PlainAt.mono (k + 2) _ _ _ _ hle43 hq'
          have haC := ArrAt.mono (k + 2) _ _ _ _ hle43 haC
          have hq38 := PlainAt.mono (k + 2) _ _ _ _ hle43 hq38
          have hq40 := PlainAt.mono (k + 2) _ _ _ _ hle43 hq40
          refine RW.nil ?_
          refine heldQ_normal ⟨_, _, 3, 2, hs, rfl, rfl⟩ ?_
          refine HW.takeR (fuel := 4) 7 rfl (fun _ _ ka kb _ hs hka hkb => Y.move rfl) ⟨_, _, 3, 2, hs, rfl, rfl⟩ rfl (by kernel_rfl) (by kernel_rfl) (by kernel_rfl) ?_
          refine HW.takeR (fuel := 3) 8 rfl (fun _ _ ka kb _ hs hka hkb => Y.extract rfl rfl) ⟨_, _, 3, 2, hs, rfl, rfl⟩ rfl (by kernel_rfl) (by kernel_rfl) (by kernel_rfl) ?_
          refine HW.takeR (fuel := 2) 9 rfl (fun _ _ ka kb _ hs hka hkb => Y.extract rfl rfl) ⟨_, _, 3, 2, hs, rfl, rfl⟩ rfl (by kernel_rfl) (by kernel_rfl) (by kernel_rfl) ?_
          refine HW.one (fuel := 1) 11 rfl (by kernel_rfl) ?_
          refine RW.storeAll T hs 0 rfl rfl rfl rfl rfl rfl rfl rfl ?_
          intro w943 hs
          refine RW.nil ?_
          refine heldQ_normal ⟨_, _, 3, 2, hs, rfl, rfl⟩ ?_
          refine HW.takeR (fuel := 0) 12 rfl (fun _ _ ka kb _ hs hka hkb => Y.assign rfl) ⟨_, _, 3, 2, hs, rfl, rfl⟩ rfl (by kernel_rfl) (by kernel_rfl) (by kernel_rfl) ?_
          refine HW.done (by kernel_rfl) ?_
          refine calmQ_normal ?_
          exact joinQ_meet (b12, _, h43) ⟨rfl, rfl, rfl, rfl, rfl, rfl, rfl, rfl, trivial⟩ ⟨hq43, hp', hq', haC,  hs⟩
      · (refine RW.allocN T hs rfl rfl rfl rfl ?_; intro b12 w12 hs)
        refine RW.nil ?_
        refine heldQ_normal ⟨_, _, 3, 2, hs, rfl, rfl⟩ ?_
        refine HW.one (fuel := 6) 3 rfl (by kernel_rfl) ?_
        (refine RW.call T hs rfl rfl rfl (refTidyP_con (k + 2) 40 _ q _ _ hq' hcq) ?_; intro v h40 w40 hle40 hp40 hs)
        obtain ⟨cs40, rfl, hq40⟩ := hp40
        have hp' := PlainAt.mono (k + 2) _ _ _ _ hle40 hp'
        have hq' := PlainAt.mono (k + 2) _ _ _ _ hle40 hq'
        have haC := ArrAt.mono (k + 2) _ _ _ _ hle40 haC
        have hq38 := PlainAt.mono (k + 2) _ _ _ _ hle40 hq38
        refine RW.nil ?_
        refine heldQ_normal ⟨_, _, 3, 2, hs, rfl, rfl⟩ ?_
        refine HW.one (fuel := 5) 6 rfl (by kernel_rfl) ?_
        (refine RW.call T hs rfl rfl rfl (ref22Catenate_con k _ _ (tidy (k + 2) p) (tidy (k + 2) q) first most _ _ hq38 hq40 Lp.prP Lq.prP Lp.fill0 Lq.fill0 (by omega)) ?_; intro v h43 w43 hle43 hp43 hs)
        obtain ⟨cs43, rfl, hq43⟩ := hp43
        rw [hpCe] at hq43
        rw [eq]
        have hq43 : PlainAt (k + 2) h43 cs43 pC := hq43
        obtain ⟨s43, it43, rfl, ⟨adS43, cpS43, rfl, _⟩, ⟨adI43, cpI43, xsI43, rfl, _, _⟩⟩ := id hq43
        have hp' := PlainAt.mono (k + 2) _ _ _ _ hle43 hp'
        have hq' := PlainAt.mono (k + 2) _ _ _ _ hle43 hq'
        have haC := ArrAt.mono (k + 2) _ _ _ _ hle43 haC
        have hq38 := PlainAt.mono (k + 2) _ _ _ _ hle43 hq38
        have hq40 := PlainAt.mono (k + 2) _ _ _ _ hle43 hq40
        refine RW.nil ?_
        refine heldQ_normal ⟨_, _, 3, 2, hs, rfl, rfl⟩ ?_
        refine HW.takeR (fuel := 4) 7 rfl (fun _ _ ka kb _ hs hka hkb => Y.move rfl) ⟨_, _, 3, 2, hs, rfl, rfl⟩ rfl (by kernel_rfl) (by kernel_rfl) (by kernel_rfl) ?_
        refine HW.takeR (fuel := 3) 8 rfl (fun _ _ ka kb _ hs hka hkb => Y.extract rfl rfl) ⟨_, _, 3, 2, hs, rfl, rfl⟩ rfl (by kernel_rfl) (by kernel_rfl) (by kernel_rfl) ?_
        refine HW.takeR (fuel := 2) 9 rfl (fun _ _ ka kb _ hs hka hkb => Y.extract rfl rfl) ⟨_, _, 3, 2, hs, rfl, rfl⟩ rfl (by kernel_rfl) (by kernel_rfl) (by kernel_rfl) ?_
        refine HW.one (fuel := 1) 11 rfl (by kernel_rfl) ?_
        refine RW.storeAll T hs 0 rfl rfl rfl rfl rfl rfl rfl rfl ?_
        intro w943 hs
        refine RW.nil ?_
        refine heldQ_normal ⟨_, _, 3, 2, hs, rfl, rfl⟩ ?_
        refine HW.takeR (fuel := 0) 12 rfl (fun _ _ ka kb _ hs hka hkb => Y.assign rfl) ⟨_, _, 3, 2, hs, rfl, rfl⟩ rfl (by kernel_rfl) (by kernel_rfl) (by kernel_rfl) ?_
        refine HW.done (by kernel_rfl) ?_
        refine calmQ_normal ?_
        exact joinQ_meet (b12, _, h43) ⟨rfl, rfl, rfl, rfl, rfl, rfl, rfl, rfl, trivial⟩ ⟨hq43, hp', hq', haC,  hs⟩
    · (refine RW.allocN T hs rfl rfl rfl rfl ?_; intro b12 w12 hs)
      refine RW.nil ?_
      refine heldQ_normal ⟨_, _, 3, 2, hs, rfl, rfl⟩ ?_
      refine HW.one (fuel := 7) 1 rfl (by kernel_rfl) ?_
      (refine RW.call T hs rfl rfl rfl (refTidyP_con (k + 2) 40 _ p _ _ hp' hcp) ?_; intro v h38 w38 hle38 hp38 hs)
      obtain ⟨cs38, rfl, hq38⟩ := hp38
      have hp' := PlainAt.mono (k + 2) _ _ _ _ hle38 hp'
      have hq' := PlainAt.mono (k + 2) _ _ _ _ hle38 hq'
      have haC := ArrAt.mono (k + 2) _ _ _ _ hle38 haC
      refine RW.nil ?_
      refine heldQ_normal ⟨_, _, 3, 2, hs, rfl, rfl⟩ ?_
      refine HW.one (fuel := 6) 3 rfl (by kernel_rfl) ?_
      (refine RW.call T hs rfl rfl rfl (refTidyP_con (k + 2) 40 _ q _ _ hq' hcq) ?_; intro v h40 w40 hle40 hp40 hs)
      obtain ⟨cs40, rfl, hq40⟩ := hp40
      have hp' := PlainAt.mono (k + 2) _ _ _ _ hle40 hp'
      have hq' := PlainAt.mono (k + 2) _ _ _ _ hle40 hq'
      have haC := ArrAt.mono (k + 2) _ _ _ _ hle40 haC
      have hq38 := PlainAt.mono (k + 2) _ _ _ _ hle40 hq38
      refine RW.nil ?_
      refine heldQ_normal ⟨_, _, 3, 2, hs, rfl, rfl⟩ ?_
      refine HW.one (fuel := 5) 6 rfl (by kernel_rfl) ?_
      (refine RW.call T hs rfl rfl rfl (ref22Catenate_con k _ _ (tidy (k + 2) p) (tidy (k + 2) q) first most _ _ hq38 hq40 Lp.prP Lq.prP Lp.fill0 Lq.fill0 (by omega)) ?_; intro v h43 w43 hle43 hp43 hs)
      obtain ⟨cs43, rfl, hq43⟩ := hp43
      rw [hpCe] at hq43
      rw [eq]
      have hq43 : PlainAt (k + 2) h43 cs43 pC := hq43
      obtain ⟨s43, it43, rfl, ⟨adS43, cpS43, rfl, _⟩, ⟨adI43, cpI43, xsI43, rfl, _, _⟩⟩ := id hq43
      have hp' := PlainAt.mono (k + 2) _ _ _ _ hle43 hp'
      have hq' := PlainAt.mono (k + 2) _ _ _ _ hle43 hq'
      have haC := ArrAt.mono (k + 2) _ _ _ _ hle43 haC
      have hq38 := PlainAt.mono (k + 2) _ _ _ _ hle43 hq38
      have hq40 := PlainAt.mono (k + 2) _ _ _ _ hle43 hq40
      refine RW.nil ?_
      refine heldQ_normal ⟨_, _, 3, 2, hs, rfl, rfl⟩ ?_
      refine HW.takeR (fuel := 4) 7 rfl (fun _ _ ka kb _ hs hka hkb => Y.move rfl) ⟨_, _, 3, 2, hs, rfl, rfl⟩ rfl (by kernel_rfl) (by kernel_rfl) (by kernel_rfl) ?_
      refine HW.takeR (fuel := 3) 8 rfl (fun _ _ ka kb _ hs hka hkb => Y.extract rfl rfl) ⟨_, _, 3, 2, hs, rfl, rfl⟩ rfl (by kernel_rfl) (by kernel_rfl) (by kernel_rfl) ?_
      refine HW.takeR (fuel := 2) 9 rfl (fun _ _ ka kb _ hs hka hkb => Y.extract rfl rfl) ⟨_, _, 3, 2, hs, rfl, rfl⟩ rfl (by kernel_rfl) (by kernel_rfl) (by kernel_rfl) ?_
      refine HW.one (fuel := 1) 11 rfl (by kernel_rfl) ?_
      refine RW.storeAll T hs 0 rfl rfl rfl rfl rfl rfl rfl rfl ?_
      intro w943 hs
      refine RW.nil ?_
      refine heldQ_normal ⟨_, _, 3, 2, hs, rfl, rfl⟩ ?_
      refine HW.takeR (fuel := 0) 12 rfl (fun _ _ ka kb _ hs hka hkb => Y.assign rfl) ⟨_, _, 3, 2, hs, rfl, rfl⟩ rfl (by kernel_rfl) (by kernel_rfl) (by kernel_rfl) ?_
      refine HW.done (by kernel_rfl) ?_
      refine calmQ_normal ?_
      exact joinQ_meet (b12, _, h43) ⟨rfl, rfl, rfl, rfl, rfl, rfl, rfl, rfl, trivial⟩ ⟨hq43, hp', hq', haC,  hs⟩
  rintro ⟨b12, cs43, h43⟩ w43 ⟨hpC, hp', hq', haC, hs⟩
  dsimp only at hpC hp' hq' haC hs ⊢
  obtain ⟨s43, it43, rfl, ⟨adS43, cpS43, rfl, _⟩, ⟨adI43, cpI43, xsI43, rfl, _, _⟩⟩ := id hpC
  refine Zerun ?_
  (refine RW.call T hs rfl rfl rfl (shows22X_con (k + 1) _ _ _ aC pC _ _ haC hpC rs) ?_; intro v h50 w50 hle50 hp50 hs)
  subst hp50
  have hp' := PlainAt.mono (k + 2) _ _ _ _ hle50 hp'
  have hq' := PlainAt.mono (k + 2) _ _ _ _ hle50 hq'
  refine Zerun ?_
  (refine RW.call T hs rfl rfl rfl (awake22_con _ _) ?_; intro v h52 w52 hle52 hp52 hs)
  subst hp52
  refine Zerun ?_
  exact retQ_ret [_] h52 ⟨rfl, trivial⟩ hs.dropAll rfl
end Go.Proofs.YtmojpbfkpggjhaaGreat
