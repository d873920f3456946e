/-
  Own texts of the claim, merged: Ye, PlainS, Sa, Sb, Sc, Io, Na, PlainL, Nb, Nc, Nd, PlainM, Ne, Za, Zb, Zc, Zd. Lemmas of the proof; no statement is proved here.
-/
import Derived.Test.YtmojpbfkpggjhaaGreatMc
import Derived.Lib.TrailingZeros
/-
  Contracts of the law's own functions of layer 22: good plain arrays, arrays shown, the example. No statement is proved here.
-/
namespace Go.Proofs.YtmojpbfkpggjhaaGreat
open Go Go.RowKit
set_option linter.unusedVariables false
set_option linter.unusedSimpArgs false
set_option maxHeartbeats 4000000
attribute [local irreducible] CW RW QW SW HW ConM retM heldQ calmQ elemP thenQ blockQ loopQ joinQ retQ Yields Con Sl zF magR unitF truncF fwF wholeF tidySpec elemQ rankF leastN tidyW
set_option maxHeartbeats 4000000
set_option maxRecDepth 4000

theorem shows22_con (k : Nat) (cs cp : List Value) (a : AD (k + 1)) (p : PD (k + 1)) (w : World) (h : GHeap) (ha : ArrAt (k + 1) h cs a) (hp : PlainAt (k + 1) h cp p) (hg : good (k + 1) 40 a) (he : plain (k + 1) a = p) (ht : tdy (k + 1) p) : Con Tryz.prog 40 [.agg cs.toArray, .int .i64 0, .agg cp.toArray, .int .i64 0] w h (fun _ u => u = .bool true) := by
  have ha' := ha
  have hp' := hp
  obtain ⟨s, vc, rfl, ⟨ad, cap, rfl, _⟩, hv⟩ := ha
  obtain ⟨wv, nv, sm, il, fl, ch, bx, ⟨rfl, hoc⟩, _⟩ := hv
  obtain ⟨s2, it2, rfl, ⟨ad2, cp2, rfl, _⟩, ⟨ad3, cp3, xs3, rfl, _, _⟩⟩ := hp
  refine Con.of_body Tryz.func40 rfl Tryz.ntmps40 rfl rfl ?_
  intro hs
  refine Zrun ?_
  (refine RW.boxN hs rfl rfl ?_; intro b1 w1 hs)
  refine Zrun ?_
  (refine RW.boxN hs rfl rfl ?_; intro b2 w2 hs)
  refine Zerun ?_
  refine CW.regionO T hs ?_
  intro w5 hs
  refine HW.takeS (fuel := 8) 0 rfl (fun _ _ hs => Y.loadRowN T hs 1 rfl rfl rfl rfl rfl rfl rfl) hs rfl (by kernel_rfl) (by kernel_rfl) (by kernel_rfl) ?_
  refine HW.one (fuel := 7) 1 rfl (by kernel_rfl) ?_
  (refine RW.call T hs rfl rfl rfl (valueGood_con (k + 1) _ a _ _ ha') ?_; intro v h25 w25 hle25 hp25 hs)
  subst hp25
  rw [decB_of hg]
  have ha' := ArrAt.mono (k + 1) _ _ _ _ hle25 ha'
  have hp' := PlainAt.mono (k + 1) _ _ _ _ hle25 hp'
  refine RW.nil ?_
  refine heldQ_normal ⟨_, hs⟩ ?_
  refine HW.takeS (fuel := 6) 2 rfl (fun _ _ hs => Y.move rfl) hs rfl (by kernel_rfl) (by kernel_rfl) (by kernel_rfl) ?_
  refine HW.takeSY (fuel := 5) 3 rfl rfl rfl (fun _ _ hs => Y.loadRowN T hs 1 rfl rfl rfl rfl rfl rfl rfl) hs rfl (by kernel_rfl) (by kernel_rfl) (by kernel_rfl) ?_
  refine HW.takeSY (fuel := 4) 5 rfl rfl rfl (fun _ _ hs => Y.loadRowN T hs 0 rfl rfl rfl rfl rfl rfl rfl) hs rfl (by kernel_rfl) (by kernel_rfl) (by kernel_rfl) ?_
  refine HW.one (fuel := 3) 4 rfl (by kernel_rfl) ?_
  refine RW.guardYes rfl rfl ?_
  (refine RW.call T hs rfl rfl rfl (plainV_con (k + 1) _ a _ _ ha' (good_sml (k + 1) 40 a hg)) ?_; intro v h28 w28 hle28 hp28 hs)
  obtain ⟨cs28, rfl, hq28⟩ := hp28
  rw [he] at hq28
  have hp' := PlainAt.mono (k + 1) _ _ _ _ hle28 hp'
  refine RW.nil ?_
  refine heldQ_normal ⟨_, hs⟩ ?_
  refine HW.one (fuel := 2) 6 rfl (by kernel_rfl) ?_
  refine RW.guardYes rfl rfl ?_
  (refine RW.call T hs rfl rfl rfl (refSame_con (k + 1) _ _ p p _ _ hq28 hp' ht ht) ?_; intro v h30 w30 hle30 hp30 hs)
  subst hp30
  rw [eqB_of (show p = p from rfl)]
  have hp' := PlainAt.mono (k + 1) _ _ _ _ hle30 hp'
  refine RW.nil ?_
  refine heldQ_normal ⟨_, hs⟩ ?_
  refine HW.takeS (fuel := 1) 7 rfl (fun _ _ hs => Y.pickT rfl rfl) hs rfl (by kernel_rfl) (by kernel_rfl) (by kernel_rfl) ?_
  refine HW.takeS (fuel := 0) 8 rfl (fun _ _ hs => Y.assign rfl) hs rfl (by kernel_rfl) (by kernel_rfl) (by kernel_rfl) ?_
  refine HW.done (by kernel_rfl) ?_
  refine calmQ_normal ?_
  refine Zerun ?_
  exact retQ_ret [_] h30 ⟨rfl, trivial⟩ hs.dropAll rfl
theorem fine22_con (k : Nat) (cs : List Value) (p : PD (k + 1)) (w : World) (h : GHeap) (hp : PlainAt (k + 1) h cs p) : Con Tryz.prog 36 [.agg cs.toArray] w h (fun _ u => ∃ b, u = .bool b ∧ (b = true → chk (k + 1) 40 p = 0 ∧ (PlainD.shape (α := PD k) p).length ≤ 8 ∧ (PlainD.items (α := PD k) p).length ≤ 3000)) := by
  have hp' := hp
  obtain ⟨s, it, rfl, ⟨ad0, cp0, rfl, hS0⟩, ⟨ad, cp, xs, rfl, hS, _⟩⟩ := hp
  have hcap := hS0.caps
  refine Con.of_body Tryz.func36 rfl Tryz.ntmps36 rfl rfl ?_
  intro hs
  refine Zrun ?_
  (refine RW.boxN hs rfl rfl ?_; intro b1 w1 hs)
  refine Zerun ?_
  (refine RW.call T hs rfl rfl rfl (refCountB_con 3000 k _ p _ _ hp') ?_; intro v h2 w2 hle2 hp2 hs)
  obtain ⟨r, rfl, hr⟩ := hp2
  by_cases c1 : r ≤ 1500
  · by_cases c2 : (PlainD.shape (α := PD k) p).length ≤ 8
    · refine Zerun ?_
      (refine RW.call T hs rfl rfl rfl (refCheck_con (k + 1) _ p _ _ (PlainAt.mono (k + 1) _ _ _ _ hle2 hp')) ?_; intro v h3 w3 hle3 hp3 hs)
      subst hp3
      refine Zerun ?_
      refine retQ_ret [_] h3 ⟨rfl, trivial⟩ hs.dropAll ⟨_, rfl, fun e => ?_⟩
      have hc := of_decide_eq_true e
      have hh := hr hc (by omega)
      exact ⟨hc, c2, by omega⟩
    · refine Zerun ?_
      exact retQ_ret [_] h2 ⟨rfl, trivial⟩ hs.dropAll ⟨_, rfl, fun e => by cases e⟩
  · refine Zerun ?_
    exact retQ_ret [_] h2 ⟨rfl, trivial⟩ hs.dropAll ⟨_, rfl, fun e => by cases e⟩
theorem shows22E_con {α β : Type} {R : GHeap → List Value → α → Prop} {Rq : GHeap → List Value → β → Prop} (cs cp : List Value) (p : PlainD β) (e : Int) (w : World) (h : GHeap) (he : e = 22 ∨ e = 23 ∨ e = 24 ∨ e = 26) (ha : ArrR R h cs ⟨[], VecD.none⟩) (hp : PlainR Rq h cp p) : Con Tryz.prog 40 [.agg cs.toArray, .int .i64 e, .agg cp.toArray, .int .i64 e] w h (fun _ u => u = .bool true) := by
  obtain ⟨_, vc, rfl, ⟨ad, cap, rfl, _⟩, hv⟩ := ha
  have hv' := hv
  obtain ⟨wv, nv, sm, il, fl, ch, bx, ⟨rfl, hoc⟩, _⟩ := hv
  obtain ⟨s2, it2, rfl, ⟨ad2, cp2, rfl, _⟩, ⟨ad3, cp3, xs3, rfl, _, _⟩⟩ := hp
  rcases he with rfl | rfl | rfl | rfl
  all_goals
    refine Con.of_body Tryz.func40 rfl Tryz.ntmps40 rfl rfl ?_
    intro hs
    refine Zrun ?_
    (refine RW.boxN hs rfl rfl ?_; intro b1 w1 hs)
    refine Zrun ?_
    (refine RW.boxN hs rfl rfl ?_; intro b2 w2 hs)
    refine Zerun ?_
    (refine RW.call T hs rfl rfl rfl (vecKind_con _ VecD.none _ _ hv') ?_; intro v h3 w3 hle3 hp3 hs)
    subst hp3
    refine Zerun ?_
    exact retQ_ret [_] h3 ⟨rfl, trivial⟩ hs.dropAll rfl
theorem shows22X_con (k : Nat) (cs cp : List Value) (e : Int) (a : AD (k + 1)) (p : PD (k + 1)) (w : World) (h : GHeap) (ha : ArrAt (k + 1) h cs a) (hp : PlainAt (k + 1) h cp p) (hr : ResX k e a p) : Con Tryz.prog 40 [.agg cs.toArray, .int .i64 e, .agg cp.toArray, .int .i64 e] w h (fun _ u => u = .bool true) := by
  rcases hr with ⟨rfl, h1, h2, h3⟩ | ⟨he, rfl⟩
  · exact shows22_con k cs cp a p w h ha hp h1 h2 h3
  · exact shows22E_con (α := AD k) (R := ArrAt k) (Rq := PlainAt k) cs cp p e w h he ha hp
/-! ## The example -/
abbrev wj_1 : Nat := 4607182418800017408
theorem fwj_1 : fwF 1 = wj_1 := by unfold fwF; decide
theorem twj_1 : tidyF wj_1 := by rw [← fwj_1]; exact (fwF_spec 1 (by omega)).1
abbrev wj_2 : Nat := 4611686018427387904
theorem fwj_2 : fwF 2 = wj_2 := by unfold fwF; decide
theorem twj_2 : tidyF wj_2 := by rw [← fwj_2]; exact (fwF_spec 2 (by omega)).1
abbrev wj_3 : Nat := 4613937818241073152
theorem fwj_3 : fwF 3 = wj_3 := by unfold fwF; decide
theorem twj_3 : tidyF wj_3 := by rw [← fwj_3]; exact (fwF_spec 3 (by omega)).1
theorem tidyWj {x : Nat} (h : tidyF x) : tidyW x = x := by unfold tidyW; rw [tidySpec_of _ h]
theorem tj_12 : ∀ u ∈ [wj_1, wj_2], tidyF u := by
  intro u hu
  simp only [List.mem_cons, List.not_mem_nil, or_false] at hu
  rcases hu with rfl | rfl
  · exact twj_1
  · exact twj_2
theorem tj_123 : ∀ u ∈ [wj_1, wj_2, wj_3], tidyF u := by
  intro u hu
  simp only [List.mem_cons, List.not_mem_nil, or_false] at hu
  rcases hu with rfl | rfl | rfl
  · exact twj_1
  · exact twj_2
  · exact twj_3
def pj12 : PD 2 := (numsP [wj_1, wj_2] : PlainD (PD 1))
def pj3 : PD 2 := numQ 1 wj_3
theorem chkj12 : chk 2 40 pj12 = 0 := numsP_chk 1 _ (fun x hx => (tj_12 x hx).2.1) (by decide)
theorem chkj3 : chk 2 40 pj3 = 0 := numQ_chk 1 _ twj_3.2.1
theorem tidyj12 : tidy 2 pj12 = pj12 := by
  show (⟨[2], [⟨0, tidyW wj_1, 0, []⟩, ⟨0, tidyW wj_2, 0, []⟩], 0⟩ : PlainD (PD 1)) = ⟨[2], [⟨0, wj_1, 0, []⟩, ⟨0, wj_2, 0, []⟩], 0⟩
  rw [tidyWj twj_1, tidyWj twj_2]
theorem tidyj3 : tidy 2 pj3 = pj3 := by
  show (⟨[], [⟨0, tidyW wj_3, 0, []⟩], 0⟩ : PlainD (PD 1)) = ⟨[], [⟨0, wj_3, 0, []⟩], 0⟩
  rw [tidyWj twj_3]
theorem catj : catRx (β := PD 0) (pj12 : PlainD (PD 1)) (pj3 : PlainD (PD 1)) [2] 0 99 = (0, (numsP [wj_1, wj_2, wj_3] : PlainD (PD 1))) := by
  unfold catRx
  rfl
theorem joinj (H1 : Tells 0 (ArrD.vec (α := AD 1) (arr 2 pj12)) (PlainD.items (α := PD 1) (tidy 2 pj12)) (PlainD.fill (α := PD 1) (tidy 2 pj12))) (H3 : Tells 0 (ArrD.vec (α := AD 1) (arr 2 pj3)) (PlainD.items (α := PD 1) (tidy 2 pj3)) (PlainD.fill (α := PD 1) (tidy 2 pj3))) (h1 : product (PlainD.shape (α := PD 1) pj12) 1048576 = (((ArrD.vec (α := AD 1) (arr 2 pj12)).len : Int), 0)) (h3 : product (PlainD.shape (α := PD 1) pj3) 1048576 = (((ArrD.vec (α := AD 1) (arr 2 pj3)).len : Int), 0)) :
    (catS (k := 0) (arr 2 pj12) (arr 2 pj3) false 99).1 = 0 ∧ ResX 1 0 (catS (k := 0) (arr 2 pj12) (arr 2 pj3) false 99).2 (numsP [wj_1, wj_2, wj_3] : PlainD (PD 1)) := by
  have h := cat_res (k := 0) (a := arr 2 pj12) (b := arr 2 pj3) (p := tidy 2 pj12) (q := tidy 2 pj3) H1 H3 rfl rfl h1 h3 (s := [2]) (j := 0) (by decide) (by decide) (most := 99) (by decide)
  have e : catRx (β := PD 0) (tidy 2 pj12 : PlainD (PD 1)) (tidy 2 pj3 : PlainD (PD 1)) [2] 0 99 = (0, (numsP [wj_1, wj_2, wj_3] : PlainD (PD 1))) := by rw [tidyj12, tidyj3]; exact catj
  have hs : catS (k := 0) (arr 2 pj12) (arr 2 pj3) false 99 = catSx (k := 0) (arr 2 pj12) (arr 2 pj3) [2] 0 99 := rfl
  rw [hs]
  rw [e] at h
  have e1 : (catSx (k := 0) (arr 2 pj12) (arr 2 pj3) [2] 0 99).1 = 0 := h.1
  have e2 := h.2.1
  rw [e1] at e2
  exact ⟨e1, e2⟩
theorem awake22_con (w : World) (h : GHeap) : Con Tryz.prog 37 [] w h (fun _ u => u = .bool true) := by
  refine Con.of_body Tryz.func37 rfl Tryz.ntmps37 rfl rfl ?_
  intro hs
  refine Zrun ?_
  (refine RW.lit T hs (vs := [.float .f64 4607182418800017408, .float .f64 4611686018427387904]) rfl rfl rfl rfl (by simp [Value.cells]) rfl rfl rfl rfl rfl ?_; intro b4 w4 hs)
  obtain ⟨h4, hle4, hs, hS4⟩ := hs.freeze
  have hF4 : FAt h4 (.slice (some ⟨b4, 0, none⟩) 2 2) [wj_1, wj_2] := RowAt.of_sl hS4
  refine Zerun ?_
  (refine RW.call T hs rfl rfl rfl (refNums_con (R := PlainAt 1) (PlainAt.mono 1) _ _ _ _ hF4 (fun x hx => (tj_12 x hx).1) (by decide)) ?_; intro v h5 w5 hle5 hp5 hs)
  obtain ⟨cs5, rfl, hq5⟩ := hp5
  have hp1 : PlainAt 2 h5 cs5 pj12 := hq5
  refine Zerun ?_
  (refine RW.call T hs rfl rfl rfl (of07_con 2 _ pj12 _ _ hp1 chkj12) ?_; intro v h6 w6 hle6 hp6 hs)
  obtain ⟨cs6, rfl, _, _, hn6⟩ := hp6
  have hp1 := PlainAt.mono 2 _ _ _ _ hle6 hp1
  refine Zerun ?_
  (refine RW.call T hs rfl rfl rfl (refOne_con (α := PD 1) (R := PlainAt 1) wj_3 _ _ (twj_3).1) ?_; intro v h7 w7 hle7 hp7 hs)
  obtain ⟨cs7, rfl, hq7⟩ := hp7
  have hp3 : PlainAt 2 h7 cs7 pj3 := hq7
  have hp1 := PlainAt.mono 2 _ _ _ _ hle7 hp1
  have hn6 := ArrAt.mono 2 _ _ _ _ hle7 hn6
  refine Zerun ?_
  (refine RW.call T hs rfl rfl rfl (of07_con 2 _ pj3 _ _ hp3 chkj3) ?_; intro v h8 w8 hle8 hp8 hs)
  obtain ⟨cs8, rfl, _, _, hn8⟩ := hp8
  have hp1 := PlainAt.mono 2 _ _ _ _ hle8 hp1
  have hp3 := PlainAt.mono 2 _ _ _ _ hle8 hp3
  have hn6 := ArrAt.mono 2 _ _ _ _ hle8 hn6
  obtain ⟨H1, hpr1⟩ := tells_of 0 pj12 _ _ hp1 chkj12
  obtain ⟨H3, hpr3⟩ := tells_of 0 pj3 _ _ hp3 chkj3
  obtain ⟨he, hres⟩ := joinj H1 H3 hpr1 hpr3
  refine Zerun ?_
  (refine RW.call T hs rfl rfl rfl (joinCatenate_con 0 _ _ (arr 2 pj12) (arr 2 pj3) _ _ _ _ false 99 _ _ hn6 hn8 H1 H3 hpr1 hpr3 (by decide) (.inl (by decide)) (.inr (.inl (by decide)))) ?_; intro v h9 w9 hle9 hp9 hs)
  obtain ⟨cs9, rfl, hr9⟩ := hp9
  rw [he]
  obtain ⟨r, hre⟩ : ∃ r : ArrD (AD 1), (catS (k := 0) (arr 2 pj12) (arr 2 pj3) false 99).2 = r := ⟨_, rfl⟩
  rw [hre] at hr9 hres
  have hA9 := hr9
  obtain ⟨_, vc9, rfl, ⟨ad9, cp9, rfl, _⟩, hv9⟩ := hr9
  obtain ⟨wv9, nv9, sm9, il9, fl9, ch9, bx9, ⟨rfl, hoc9⟩, -⟩ := hv9
  refine Zerun ?_
  (refine RW.allocN T hs rfl rfl rfl rfl ?_; intro b10 w10 hs)
  (refine RW.storeAll T hs 0 rfl rfl rfl rfl rfl rfl (by show (Value.oneCell' (.slice ad9 _ cp9) && (vecCells _ wv9 nv9 sm9 il9 fl9 ch9 bx9).all Value.oneCell') = true; rw [hoc9]; rfl) rfl ?_; intro w11 hs)
  refine Zerun ?_
  refine CW.regionR T 0 0 hs rfl rfl ?_
  intro w13 hs
  refine HW.takeR (fuel := 5) 0 rfl (fun _ _ ka kb _ hs hka hkb => Y.loadRowN T hs ka hka rfl rfl rfl rfl rfl rfl) ⟨_, _, 0, 0, hs, rfl, rfl⟩ rfl (by kernel_rfl) (by kernel_rfl) (by kernel_rfl) ?_
  refine HW.takeR (fuel := 4) 1 rfl (fun _ _ ka kb _ hs hka hkb => Y.move rfl) ⟨_, _, 0, 0, hs, rfl, rfl⟩ rfl (by kernel_rfl) (by kernel_rfl) (by kernel_rfl) ?_
  refine HW.one (fuel := 3) 2 rfl (by kernel_rfl) ?_
  (refine RW.lit T hs (vs := [.float .f64 4607182418800017408, .float .f64 4611686018427387904, .float .f64 4613937818241073152]) rfl rfl rfl rfl (by simp [Value.cells]) rfl rfl rfl rfl rfl ?_; intro b14 w14 hs)
  obtain ⟨h14, hle14, hs, hS14⟩ := hs.freeze
  have hF14 : FAt h14 (.slice (some ⟨b14, 0, none⟩) 3 3) [wj_1, wj_2, wj_3] := RowAt.of_sl hS14
  have hA9 := ArrAt.mono 2 _ _ _ _ hle14 hA9
  refine RW.nil ?_
  refine heldQ_normal ⟨_, _, 0, 0, hs, rfl, rfl⟩ ?_
  refine HW.one (fuel := 2) 3 rfl (by kernel_rfl) ?_
  (refine RW.call T hs rfl rfl rfl (refNums_con (R := PlainAt 1) (PlainAt.mono 1) _ _ _ _ hF14 (fun x hx => (tj_123 x hx).1) (by decide)) ?_; intro v h15 w15 hle15 hp15 hs)
  obtain ⟨cs15, rfl, hq15⟩ := hp15
  have hq15 : PlainAt 2 h15 cs15 (numsP [wj_1, wj_2, wj_3] : PlainD (PD 1)) := hq15
  have hA9 := ArrAt.mono 2 _ _ _ _ hle15 hA9
  refine RW.nil ?_
  refine heldQ_normal ⟨_, _, 0, 0, hs, rfl, rfl⟩ ?_
  refine HW.one (fuel := 1) 4 rfl (by kernel_rfl) ?_
  (refine RW.call T hs rfl rfl rfl (shows22X_con 1 _ _ 0 r (numsP [wj_1, wj_2, wj_3] : PlainD (PD 1)) _ _ hA9 hq15 hres) ?_; intro v h16 w16 hle16 hp16 hs)
  subst hp16
  refine RW.nil ?_
  refine heldQ_normal ⟨_, _, 0, 0, hs, rfl, rfl⟩ ?_
  refine HW.takeR (fuel := 0) 5 rfl (fun _ _ ka kb _ hs hka hkb => Y.assign rfl) ⟨_, _, 0, 0, hs, rfl, rfl⟩ rfl (by kernel_rfl) (by kernel_rfl) (by kernel_rfl) ?_
  refine HW.done (by kernel_rfl) ?_
  refine calmQ_normal ?_
  refine Zerun ?_
  exact retQ_ret [_] h16 ⟨rfl, trivial⟩ hs.dropAll rfl
end Go.Proofs.YtmojpbfkpggjhaaGreat

/-
  Plain laws of the places of bits that are true. No statement is proved here.
-/
namespace Go.Proofs.YtmojpbfkpggjhaaGreat
open Go Go.RowKit
set_option linter.unusedVariables false
set_option linter.unusedSimpArgs false

end Go.Proofs.YtmojpbfkpggjhaaGreat

/-
  Contracts of package math/bits and of bitvec's places that are true: the table of one variable is read. No statement is proved here.
-/
namespace Go.Proofs.YtmojpbfkpggjhaaGreat
open Go Go.RowKit
set_option linter.unusedVariables false
set_option linter.unusedSimpArgs false
set_option maxHeartbeats 4000000
attribute [local irreducible] CW RW QW SW HW ConM retM heldQ calmQ elemP thenQ blockQ loopQ joinQ retQ Yields Con Sl elemQ
set_option maxHeartbeats 2000000

section
variable {P : Program} {T : Tab P} {n : Nat} {L : Env} {w : World} {ty : TypeId} {x y : Operand} {t : TypeId}
end
end Go.Proofs.YtmojpbfkpggjhaaGreat

/-
  Contracts of package pick: places taken, dropped, and taken so often as counts say. No statement is proved here.
-/
namespace Go.Proofs.YtmojpbfkpggjhaaGreat
open Go Go.RowKit
set_option linter.unusedVariables false
set_option linter.unusedSimpArgs false
set_option maxHeartbeats 4000000
attribute [local irreducible] CW RW QW SW HW ConM retM heldQ calmQ elemP thenQ blockQ loopQ joinQ retQ Yields Con Sl zF magR unitF truncF fwF wholeF tidySpec elemQ rankF leastN tidyW
set_option maxHeartbeats 4000000

theorem taken_conM (n : Nat) (many most : Int) (w0 w : World) (h0 h : GHeap) (O : List Row) (hn : n ≤ 1048576) (hmany : -9223372036854775808 ≤ many ∧ many < 9223372036854775808) (hmost : 0 ≤ most ∧ most ≤ 1048576) : ConM Tryz.prog 100 [.int .i64 (n : Int), .int .i64 many, .int .i64 most] w0 h0 h O w
    (fun h' O' v => h = h' ∧ if (many.natAbs : Int) ≤ most then ∃ b, v = .tuple #[.slice (some ⟨b, 0, none⟩) many.natAbs many.natAbs, .bool true] ∧ O' = ⟨some ⟨b, 0, none⟩, many.natAbs, many.natAbs, 3, 1, (takenL n many).map (Value.int .i64)⟩ :: O else v = .tuple #[.slice none 0 0, .bool false] ∧ O' = O) := by
  refine ConM.of_body Tryz.func100 rfl Tryz.ntmps100 rfl rfl ?_
  intro hs
  refine Zrun ?_
  by_cases c0 : many = -9223372036854775808
  · subst c0
    refine RW.val (Y.neg' rfl) rfl ?_
    refine RW.respell (t := 13) (v := .int .i64 (-9223372036854775808)) rfl (by
      have : IntKind.i64.wrap (0 - (-9223372036854775808)) = -9223372036854775808 := by decide
      rw [this]) ?_
    refine Zerun ?_
    exact retM_ret [_, _] h O ⟨rfl, rfl, trivial⟩ (GLe.refl _) hs ⟨rfl, by rw [if_neg (by omega)]; exact ⟨rfl, rfl⟩⟩
  have hmx : max many (-many) = ((many.natAbs : Nat) : Int) := by omega
  refine RW.val (Y.neg rfl ⟨by omega, by omega⟩) rfl ?_
  by_cases c1 : (many.natAbs : Int) ≤ most
  rotate_left
  · refine Zerun ?_
    exact retM_ret [_, _] h O ⟨rfl, rfl, trivial⟩ (GLe.refl _) hs ⟨rfl, by rw [if_neg c1]; exact ⟨rfl, rfl⟩⟩
  refine Zerun ?_
  rw [hmx]
  (refine RW.make1 T hs rfl rfl rfl rfl rfl rfl rfl (by dsimp only; omega) (by omega) ?_; intro b4 w4 hs)
  refine Zerun ?_
  refine CW.loop (fun i : Nat => [(0, .int .i64 (n : Int)), (1, .int .i64 many), (8, .int .i64 (many.natAbs : Int)), (9, .slice (some ⟨b4, 0, none⟩) many.natAbs many.natAbs), (25, .int .i64 (many.natAbs : Int)), (26, .int .i64 i)]) (fun i w' => i ≤ many.natAbs ∧ Sees w0 h0 h (⟨some ⟨b4, 0, none⟩, many.natAbs, many.natAbs, 3, 1, ((takenL n many).take i).map (Value.int .i64) ++ List.replicate (many.natAbs - i) (.int .i64 0)⟩ :: O) w') (fun i => many.natAbs - i) 0 ⟨rfl, rfl, rfl, rfl, rfl, rfl, trivial⟩ ⟨by omega, hs.re (by simp)⟩ ?_
  rintro i w5 ⟨hi, hs⟩
  have hA : (((takenL n many).take i).map (Value.int .i64)).length = i := by rw [List.length_map, List.length_take, taken_len]; omega
  by_cases hlt : i < many.natAbs
  · have htk : (takenL n many).take (i + 1) = (takenL n many).take i ++ [takenI n many i] := by
      rw [take_succ_getD _ _ 0 (by rw [taken_len]; exact hlt)]
      unfold takenL
      rw [getD_map' _ _ _ _ (by rw [List.length_range]; exact hlt), List.getElem_range]
    refine Zerun ?_
    refine RW.val (Y.idxRN T hs 0 rfl rfl rfl rfl rfl rfl (by omega)) rfl ?_
    refine RW.st1 T hs 0 rfl rfl rfl rfl rfl rfl rfl (by omega) ?_
    intro w6 hs
    have hs := hs.re (fillA' hA hlt _ _)
    by_cases c2 : many < 0
    · have hI : takenI n many i = (n : Int) - many.natAbs + i := by unfold takenI; rw [if_pos c2]; omega
      refine Zerun ?_
      refine RW.val (Y.idxRN T hs 0 rfl rfl rfl rfl rfl rfl (by omega)) rfl ?_
      refine RW.st1 T hs 0 rfl rfl rfl rfl rfl rfl rfl (by omega) ?_
      intro w7 hs
      have hs := hs.re (setA' hA _ _)
      have hv : ∀ z : Int, ((((takenL n many).take i).map (Value.int .i64) ++ [.int .i64 z]) ++ List.replicate (many.natAbs - (i + 1)) (.int .i64 0))[i]? = some (.int .i64 z) := by
        intro z
        rw [List.append_assoc, List.getElem?_append_right (by omega), hA, Nat.sub_self]
        rfl
      refine Zerun ?_
      refine RW.val (Y.idxRN T hs 0 rfl rfl rfl rfl rfl rfl (by omega)) rfl ?_
      refine RW.val (Y.ldR T hs 0 rfl rfl rfl rfl (by omega) (hv _)) rfl ?_
      refine Zerun ?_
      exact loopQ_round (i + 1) ⟨rfl, rfl, rfl, rfl, rfl, rfl, trivial⟩ ⟨by omega, hs.re (by rw [htk, hI, List.map_append]; rfl)⟩ (by omega)
    · have hv : ∀ z : Int, ((((takenL n many).take i).map (Value.int .i64) ++ [.int .i64 z]) ++ List.replicate (many.natAbs - (i + 1)) (.int .i64 0))[i]? = some (.int .i64 z) := by
        intro z
        rw [List.append_assoc, List.getElem?_append_right (by omega), hA, Nat.sub_self]
        rfl
      refine Zerun ?_
      refine RW.val (Y.idxRN T hs 0 rfl rfl rfl rfl rfl rfl (by omega)) rfl ?_
      refine RW.val (Y.ldR T hs 0 rfl rfl rfl rfl (by omega) (hv _)) rfl ?_
      by_cases c3 : (i : Int) < n
      · have hI : takenI n many i = (i : Int) := by unfold takenI; rw [if_neg c2, if_pos c3]
        refine Zerun ?_
        exact loopQ_round (i + 1) ⟨rfl, rfl, rfl, rfl, rfl, rfl, trivial⟩ ⟨by omega, hs.re (by rw [htk, hI, List.map_append]; rfl)⟩ (by omega)
      · have hI : takenI n many i = -1 := by unfold takenI; rw [if_neg c2, if_neg c3]
        refine Zerun ?_
        refine RW.val (Y.idxRN T hs 0 rfl rfl rfl rfl rfl rfl (by omega)) rfl ?_
        refine RW.st1 T hs 0 rfl rfl rfl rfl rfl rfl rfl (by omega) ?_
        intro w7 hs
        have hs := hs.re (setA' hA _ _)
        refine Zerun ?_
        exact loopQ_round (i + 1) ⟨rfl, rfl, rfl, rfl, rfl, rfl, trivial⟩ ⟨by omega, hs.re (by rw [htk, hI, List.map_append]; rfl)⟩ (by omega)
  obtain rfl : i = many.natAbs := by omega
  refine Zerun ?_
  refine retM_ret [_, _] h _ ⟨rfl, rfl, trivial⟩ (GLe.refl _) hs ⟨rfl, ?_⟩
  rw [if_pos c1]
  refine ⟨b4, rfl, ?_⟩
  rw [List.take_of_length_le (by rw [taken_len]; exact Nat.le_refl _), Nat.sub_self, List.replicate_zero, List.append_nil]
theorem dropped_con (n : Nat) (many : Int) (w : World) (h : GHeap) (hn : n ≤ 1048576) : Con Tryz.prog 103 [.int .i64 (n : Int), .int .i64 many] w h (fun h' u => IntsAt h' u (droppedL n many)) := by
  have hD : dropN n many ≤ n := by unfold dropN; omega
  refine Con.of_body Tryz.func103 rfl Tryz.ntmps103 rfl rfl ?_
  intro hs
  first | (refine A0 ?_; first | refine R1 rfl rfl ?_ | refine R2 rfl rfl ?_ | (refine A1 ?_; first | refine D3 rfl rfl ?_ | refine D4 rfl rfl rfl rfl ?_ | refine D5 rfl rfl rfl ?_ | refine E6 ?_ rfl rfl | refine E7 ?_ rfl rfl) | refine Zb ?_ rfl | (refine A3 ?_; first | refine R34 T hs 0 rfl rfl rfl rfl rfl rfl ?_ | refine R34 T hs 1 rfl rfl rfl rfl rfl rfl ?_ | refine Zl ?_ rfl) | refine Zi ?_ rfl | refine Zo ?_ rfl | refine A8 ?_) | (refine B0 ?_; first | refine B1 ?_ | refine B2 ?_ | refine B3 ?_ | refine B4 ?_ | refine B5 ?_ | refine B6 ?_ | refine B7 rfl ?_ | refine B8 rfl ?_ | refine E8 ?_ rfl | refine E9 ?_ rfl) | refine C1 ?_ | refine C2 ?_ | refine C3 ?_ | refine C4 ?_ | refine C5 ?_ | refine C6 ?_ | refine C7 ?_ | refine C8 ?_ | refine C9 ?_ | refine D1 rfl ?_ | refine D2 rfl ?_
  first | (refine A0 ?_; first | refine R1 rfl rfl ?_ | refine R2 rfl rfl ?_ | (refine A1 ?_; first | refine D3 rfl rfl ?_ | refine D4 rfl rfl rfl rfl ?_ | refine D5 rfl rfl rfl ?_ | refine E6 ?_ rfl rfl | refine E7 ?_ rfl rfl) | refine Zb ?_ rfl | (refine A3 ?_; first | refine R34 T hs 0 rfl rfl rfl rfl rfl rfl ?_ | refine R34 T hs 1 rfl rfl rfl rfl rfl rfl ?_ | refine Zl ?_ rfl) | refine Zi ?_ rfl | refine Zo ?_ rfl | refine A8 ?_) | (refine B0 ?_; first | refine B1 ?_ | refine B2 ?_ | refine B3 ?_ | refine B4 ?_ | refine B5 ?_ | refine B6 ?_ | refine B7 rfl ?_ | refine B8 rfl ?_ | refine E8 ?_ rfl | refine E9 ?_ rfl) | refine C1 ?_ | refine C2 ?_ | refine C3 ?_ | refine C4 ?_ | refine C5 ?_ | refine C6 ?_ | refine C7 ?_ | refine C8 ?_ | refine C9 ?_ | refine D1 rfl ?_ | refine D2 rfl ?_
  first | (refine A0 ?_; first | refine R1 rfl rfl ?_ | refine R2 rfl rfl ?_ | (refine A1 ?_; first | refine D3 rfl rfl ?_ | refine D4 rfl rfl rfl rfl ?_ | refine D5 rfl rfl rfl ?_ | refine E6 ?_ rfl rfl | refine E7 ?_ rfl rfl) | refine Zb ?_ rfl | (refine A3 ?_; first | refine R34 T hs 0 rfl rfl rfl rfl rfl rfl ?_ | refine R34 T hs 1 rfl rfl rfl rfl rfl rfl ?_ | refine Zl ?_ rfl) | refine Zi ?_ rfl | refine Zo ?_ rfl | refine A8 ?_) | (refine B0 ?_; first | refine B1 ?_ | refine B2 ?_ | refine B3 ?_ | refine B4 ?_ | refine B5 ?_ | refine B6 ?_ | refine B7 rfl ?_ | refine B8 rfl ?_ | refine E8 ?_ rfl | refine E9 ?_ rfl) | refine C1 ?_ | refine C2 ?_ | refine C3 ?_ | refine C4 ?_ | refine C5 ?_ | refine C6 ?_ | refine C7 ?_ | refine C8 ?_ | refine C9 ?_ | refine D1 rfl ?_ | refine D2 rfl ?_
  first | (refine A0 ?_; first | refine R1 rfl rfl ?_ | refine R2 rfl rfl ?_ | (refine A1 ?_; first | refine D3 rfl rfl ?_ | refine D4 rfl rfl rfl rfl ?_ | refine D5 rfl rfl rfl ?_ | refine E6 ?_ rfl rfl | refine E7 ?_ rfl rfl) | refine Zb ?_ rfl | (refine A3 ?_; first | refine R34 T hs 0 rfl rfl rfl rfl rfl rfl ?_ | refine R34 T hs 1 rfl rfl rfl rfl rfl rfl ?_ | refine Zl ?_ rfl) | refine Zi ?_ rfl | refine Zo ?_ rfl | refine A8 ?_) | (refine B0 ?_; first | refine B1 ?_ | refine B2 ?_ | refine B3 ?_ | refine B4 ?_ | refine B5 ?_ | refine B6 ?_ | refine B7 rfl ?_ | refine B8 rfl ?_ | refine E8 ?_ rfl | refine E9 ?_ rfl) | refine C1 ?_ | refine C2 ?_ | refine C3 ?_ | refine C4 ?_ | refine C5 ?_ | refine C6 ?_ | refine C7 ?_ | refine C8 ?_ | refine C9 ?_ | refine D1 rfl ?_ | refine D2 rfl ?_
  first | (refine A0 ?_; first | refine R1 rfl rfl ?_ | refine R2 rfl rfl ?_ | (refine A1 ?_; first | refine D3 rfl rfl ?_ | refine D4 rfl rfl rfl rfl ?_ | refine D5 rfl rfl rfl ?_ | refine E6 ?_ rfl rfl | refine E7 ?_ rfl rfl) | refine Zb ?_ rfl | (refine A3 ?_; first | refine R34 T hs 0 rfl rfl rfl rfl rfl rfl ?_ | refine R34 T hs 1 rfl rfl rfl rfl rfl rfl ?_ | refine Zl ?_ rfl) | refine Zi ?_ rfl | refine Zo ?_ rfl | refine A8 ?_) | (refine B0 ?_; first | refine B1 ?_ | refine B2 ?_ | refine B3 ?_ | refine B4 ?_ | refine B5 ?_ | refine B6 ?_ | refine B7 rfl ?_ | refine B8 rfl ?_ | refine E8 ?_ rfl | refine E9 ?_ rfl) | refine C1 ?_ | refine C2 ?_ | refine C3 ?_ | refine C4 ?_ | refine C5 ?_ | refine C6 ?_ | refine C7 ?_ | refine C8 ?_ | refine C9 ?_ | refine D1 rfl ?_ | refine D2 rfl ?_
  first | (refine A0 ?_; first | refine R1 rfl rfl ?_ | refine R2 rfl rfl ?_ | (refine A1 ?_; first | refine D3 rfl rfl ?_ | refine D4 rfl rfl rfl rfl ?_ | refine D5 rfl rfl rfl ?_ | refine E6 ?_ rfl rfl | refine E7 ?_ rfl rfl) | refine Zb ?_ rfl | (refine A3 ?_; first | refine R34 T hs 0 rfl rfl rfl rfl rfl rfl ?_ | refine R34 T hs 1 rfl rfl rfl rfl rfl rfl ?_ | refine Zl ?_ rfl) | refine Zi ?_ rfl | refine Zo ?_ rfl | refine A8 ?_) | (refine B0 ?_; first | refine B1 ?_ | refine B2 ?_ | refine B3 ?_ | refine B4 ?_ | refine B5 ?_ | refine B6 ?_ | refine B7 rfl ?_ | refine B8 rfl ?_ | refine E8 ?_ rfl | refine E9 ?_ rfl) | refine C1 ?_ | refine C2 ?_ | refine C3 ?_ | refine C4 ?_ | refine C5 ?_ | refine C6 ?_ | refine C7 ?_ | refine C8 ?_ | refine C9 ?_ | refine D1 rfl ?_ | refine D2 rfl ?_
  first | (refine A0 ?_; first | refine R1 rfl rfl ?_ | refine R2 rfl rfl ?_ | (refine A1 ?_; first | refine D3 rfl rfl ?_ | refine D4 rfl rfl rfl rfl ?_ | refine D5 rfl rfl rfl ?_ | refine E6 ?_ rfl rfl | refine E7 ?_ rfl rfl) | refine Zb ?_ rfl | (refine A3 ?_; first | refine R34 T hs 0 rfl rfl rfl rfl rfl rfl ?_ | refine R34 T hs 1 rfl rfl rfl rfl rfl rfl ?_ | refine Zl ?_ rfl) | refine Zi ?_ rfl | refine Zo ?_ rfl | refine A8 ?_) | (refine B0 ?_; first | refine B1 ?_ | refine B2 ?_ | refine B3 ?_ | refine B4 ?_ | refine B5 ?_ | refine B6 ?_ | refine B7 rfl ?_ | refine B8 rfl ?_ | refine E8 ?_ rfl | refine E9 ?_ rfl) | refine C1 ?_ | refine C2 ?_ | refine C3 ?_ | refine C4 ?_ | refine C5 ?_ | refine C6 ?_ | refine C7 ?_ | refine C8 ?_ | refine C9 ?_ | refine D1 rfl ?_ | refine D2 rfl ?_
  first | (refine A0 ?_; first | refine R1 rfl rfl ?_ | refine R2 rfl rfl ?_ | (refine A1 ?_; first | refine D3 rfl rfl ?_ | refine D4 rfl rfl rfl rfl ?_ | refine D5 rfl rfl rfl ?_ | refine E6 ?_ rfl rfl | refine E7 ?_ rfl rfl) | refine Zb ?_ rfl | (refine A3 ?_; first | refine R34 T hs 0 rfl rfl rfl rfl rfl rfl ?_ | refine R34 T hs 1 rfl rfl rfl rfl rfl rfl ?_ | refine Zl ?_ rfl) | refine Zi ?_ rfl | refine Zo ?_ rfl | refine A8 ?_) | (refine B0 ?_; first | refine B1 ?_ | refine B2 ?_ | refine B3 ?_ | refine B4 ?_ | refine B5 ?_ | refine B6 ?_ | refine B7 rfl ?_ | refine B8 rfl ?_ | refine E8 ?_ rfl | refine E9 ?_ rfl) | refine C1 ?_ | refine C2 ?_ | refine C3 ?_ | refine C4 ?_ | refine C5 ?_ | refine C6 ?_ | refine C7 ?_ | refine C8 ?_ | refine C9 ?_ | refine D1 rfl ?_ | refine D2 rfl ?_
  first | (refine A0 ?_; first | refine R1 rfl rfl ?_ | refine R2 rfl rfl ?_ | (refine A1 ?_; first | refine D3 rfl rfl ?_ | refine D4 rfl rfl rfl rfl ?_ | refine D5 rfl rfl rfl ?_ | refine E6 ?_ rfl rfl | refine E7 ?_ rfl rfl) | refine Zb ?_ rfl | (refine A3 ?_; first | refine R34 T hs 0 rfl rfl rfl rfl rfl rfl ?_ | refine R34 T hs 1 rfl rfl rfl rfl rfl rfl ?_ | refine Zl ?_ rfl) | refine Zi ?_ rfl | refine Zo ?_ rfl | refine A8 ?_) | (refine B0 ?_; first | refine B1 ?_ | refine B2 ?_ | refine B3 ?_ | refine B4 ?_ | refine B5 ?_ | refine B6 ?_ | refine B7 rfl ?_ | refine B8 rfl ?_ | refine E8 ?_ rfl | refine E9 ?_ rfl) | refine C1 ?_ | refine C2 ?_ | refine C3 ?_ | refine C4 ?_ | refine C5 ?_ | refine C6 ?_ | refine C7 ?_ | refine C8 ?_ | refine C9 ?_ | refine D1 rfl ?_ | refine D2 rfl ?_
  first | (refine A0 ?_; first | refine R1 rfl rfl ?_ | refine R2 rfl rfl ?_ | (refine A1 ?_; first | refine D3 rfl rfl ?_ | refine D4 rfl rfl rfl rfl ?_ | refine D5 rfl rfl rfl ?_ | refine E6 ?_ rfl rfl | refine E7 ?_ rfl rfl) | refine Zb ?_ rfl | (refine A3 ?_; first | refine R34 T hs 0 rfl rfl rfl rfl rfl rfl ?_ | refine R34 T hs 1 rfl rfl rfl rfl rfl rfl ?_ | refine Zl ?_ rfl) | refine Zi ?_ rfl | refine Zo ?_ rfl | refine A8 ?_) | (refine B0 ?_; first | refine B1 ?_ | refine B2 ?_ | refine B3 ?_ | refine B4 ?_ | refine B5 ?_ | refine B6 ?_ | refine B7 rfl ?_ | refine B8 rfl ?_ | refine E8 ?_ rfl | refine E9 ?_ rfl) | refine C1 ?_ | refine C2 ?_ | refine C3 ?_ | refine C4 ?_ | refine C5 ?_ | refine C6 ?_ | refine C7 ?_ | refine C8 ?_ | refine C9 ?_ | refine D1 rfl ?_ | refine D2 rfl ?_
  first | (refine A0 ?_; first | refine R1 rfl rfl ?_ | refine R2 rfl rfl ?_ | (refine A1 ?_; first | refine D3 rfl rfl ?_ | refine D4 rfl rfl rfl rfl ?_ | refine D5 rfl rfl rfl ?_ | refine E6 ?_ rfl rfl | refine E7 ?_ rfl rfl) | refine Zb ?_ rfl | (refine A3 ?_; first | refine R34 T hs 0 rfl rfl rfl rfl rfl rfl ?_ | refine R34 T hs 1 rfl rfl rfl rfl rfl rfl ?_ | refine Zl ?_ rfl) | refine Zi ?_ rfl | refine Zo ?_ rfl | refine A8 ?_) | (refine B0 ?_; first | refine B1 ?_ | refine B2 ?_ | refine B3 ?_ | refine B4 ?_ | refine B5 ?_ | refine B6 ?_ | refine B7 rfl ?_ | refine B8 rfl ?_ | refine E8 ?_ rfl | refine E9 ?_ rfl) | refine C1 ?_ | refine C2 ?_ | refine C3 ?_ | refine C4 ?_ | refine C5 ?_ | refine C6 ?_ | refine C7 ?_ | refine C8 ?_ | refine C9 ?_ | refine D1 rfl ?_ | refine D2 rfl ?_
  refine CW.seqJ (fun _ : Unit => [(0, .int .i64 (n : Int)), (1, .int .i64 many), (5, .int .i64 (dropN n many : Nat))]) (fun _ w' => Sees w h h [] w') ?_ ?_
  · refine Zerun ?_
    refine RW.val (Y.neg rfl ⟨by omega, by omega⟩) rfl ?_
    by_cases c : -(n : Int) < many ∧ many < n
    · have hmx : max many (-many) = ((dropN n many : Nat) : Int) := by unfold dropN; omega
      obtain ⟨cc1, cc2⟩ := c
      refine Zerun ?_
      refine RW.val (Y.neg rfl ⟨by omega, by omega⟩) rfl ?_
      refine Zerun ?_
      exact joinQ_meet () ⟨rfl, rfl, seti hmx, trivial⟩ hs
    · by_cases c2 : -(n : Int) < many
      · refine Zerun ?_
        exact joinQ_meet () ⟨rfl, rfl, seti (by unfold dropN; omega), trivial⟩ hs
      · refine Zerun ?_
        exact joinQ_meet () ⟨rfl, rfl, seti (by unfold dropN; omega), trivial⟩ hs
  rintro _ w2 hs
  refine Zerun ?_
  refine RW.make T hs rfl rfl rfl rfl rfl (by omega) (by omega) (by dsimp only; omega) (by omega) ?_
  intro b3 w3 hs
  have hs := hs.re (ys := []) (made_one (.int .i64 0) 0)
  rw [show ((n : Int) - (dropN n many : Nat)).toNat = n - dropN n many by omega] at hs ⊢
  have hs : Sees w h h [⟨some ⟨b3, 0, none⟩, 0, n - dropN n many, 3, 1, []⟩] w3 := hs
  rw [show (0 : Int).toNat = 0 from rfl]
  first | (refine A0 ?_; first | refine R1 rfl rfl ?_ | refine R2 rfl rfl ?_ | (refine A1 ?_; first | refine D3 rfl rfl ?_ | refine D4 rfl rfl rfl rfl ?_ | refine D5 rfl rfl rfl ?_ | refine E6 ?_ rfl rfl | refine E7 ?_ rfl rfl) | refine Zb ?_ rfl | (refine A3 ?_; first | refine R34 T hs 0 rfl rfl rfl rfl rfl rfl ?_ | refine R34 T hs 1 rfl rfl rfl rfl rfl rfl ?_ | refine Zl ?_ rfl) | refine Zi ?_ rfl | refine Zo ?_ rfl | refine A8 ?_) | (refine B0 ?_; first | refine B1 ?_ | refine B2 ?_ | refine B3 ?_ | refine B4 ?_ | refine B5 ?_ | refine B6 ?_ | refine B7 rfl ?_ | refine B8 rfl ?_ | refine E8 ?_ rfl | refine E9 ?_ rfl) | refine C1 ?_ | refine C2 ?_ | refine C3 ?_ | refine C4 ?_ | refine C5 ?_ | refine C6 ?_ | refine C7 ?_ | refine C8 ?_ | refine C9 ?_ | refine D1 rfl ?_ | refine D2 rfl ?_
  first | (refine A0 ?_; first | refine R1 rfl rfl ?_ | refine R2 rfl rfl ?_ | (refine A1 ?_; first | refine D3 rfl rfl ?_ | refine D4 rfl rfl rfl rfl ?_ | refine D5 rfl rfl rfl ?_ | refine E6 ?_ rfl rfl | refine E7 ?_ rfl rfl) | refine Zb ?_ rfl | (refine A3 ?_; first | refine R34 T hs 0 rfl rfl rfl rfl rfl rfl ?_ | refine R34 T hs 1 rfl rfl rfl rfl rfl rfl ?_ | refine Zl ?_ rfl) | refine Zi ?_ rfl | refine Zo ?_ rfl | refine A8 ?_) | (refine B0 ?_; first | refine B1 ?_ | refine B2 ?_ | refine B3 ?_ | refine B4 ?_ | refine B5 ?_ | refine B6 ?_ | refine B7 rfl ?_ | refine B8 rfl ?_ | refine E8 ?_ rfl | refine E9 ?_ rfl) | refine C1 ?_ | refine C2 ?_ | refine C3 ?_ | refine C4 ?_ | refine C5 ?_ | refine C6 ?_ | refine C7 ?_ | refine C8 ?_ | refine C9 ?_ | refine D1 rfl ?_ | refine D2 rfl ?_
  first | (refine A0 ?_; first | refine R1 rfl rfl ?_ | refine R2 rfl rfl ?_ | (refine A1 ?_; first | refine D3 rfl rfl ?_ | refine D4 rfl rfl rfl rfl ?_ | refine D5 rfl rfl rfl ?_ | refine E6 ?_ rfl rfl | refine E7 ?_ rfl rfl) | refine Zb ?_ rfl | (refine A3 ?_; first | refine R34 T hs 0 rfl rfl rfl rfl rfl rfl ?_ | refine R34 T hs 1 rfl rfl rfl rfl rfl rfl ?_ | refine Zl ?_ rfl) | refine Zi ?_ rfl | refine Zo ?_ rfl | refine A8 ?_) | (refine B0 ?_; first | refine B1 ?_ | refine B2 ?_ | refine B3 ?_ | refine B4 ?_ | refine B5 ?_ | refine B6 ?_ | refine B7 rfl ?_ | refine B8 rfl ?_ | refine E8 ?_ rfl | refine E9 ?_ rfl) | refine C1 ?_ | refine C2 ?_ | refine C3 ?_ | refine C4 ?_ | refine C5 ?_ | refine C6 ?_ | refine C7 ?_ | refine C8 ?_ | refine C9 ?_ | refine D1 rfl ?_ | refine D2 rfl ?_
  first | (refine A0 ?_; first | refine R1 rfl rfl ?_ | refine R2 rfl rfl ?_ | (refine A1 ?_; first | refine D3 rfl rfl ?_ | refine D4 rfl rfl rfl rfl ?_ | refine D5 rfl rfl rfl ?_ | refine E6 ?_ rfl rfl | refine E7 ?_ rfl rfl) | refine Zb ?_ rfl | (refine A3 ?_; first | refine R34 T hs 0 rfl rfl rfl rfl rfl rfl ?_ | refine R34 T hs 1 rfl rfl rfl rfl rfl rfl ?_ | refine Zl ?_ rfl) | refine Zi ?_ rfl | refine Zo ?_ rfl | refine A8 ?_) | (refine B0 ?_; first | refine B1 ?_ | refine B2 ?_ | refine B3 ?_ | refine B4 ?_ | refine B5 ?_ | refine B6 ?_ | refine B7 rfl ?_ | refine B8 rfl ?_ | refine E8 ?_ rfl | refine E9 ?_ rfl) | refine C1 ?_ | refine C2 ?_ | refine C3 ?_ | refine C4 ?_ | refine C5 ?_ | refine C6 ?_ | refine C7 ?_ | refine C8 ?_ | refine C9 ?_ | refine D1 rfl ?_ | refine D2 rfl ?_
  first | (refine A0 ?_; first | refine R1 rfl rfl ?_ | refine R2 rfl rfl ?_ | (refine A1 ?_; first | refine D3 rfl rfl ?_ | refine D4 rfl rfl rfl rfl ?_ | refine D5 rfl rfl rfl ?_ | refine E6 ?_ rfl rfl | refine E7 ?_ rfl rfl) | refine Zb ?_ rfl | (refine A3 ?_; first | refine R34 T hs 0 rfl rfl rfl rfl rfl rfl ?_ | refine R34 T hs 1 rfl rfl rfl rfl rfl rfl ?_ | refine Zl ?_ rfl) | refine Zi ?_ rfl | refine Zo ?_ rfl | refine A8 ?_) | (refine B0 ?_; first | refine B1 ?_ | refine B2 ?_ | refine B3 ?_ | refine B4 ?_ | refine B5 ?_ | refine B6 ?_ | refine B7 rfl ?_ | refine B8 rfl ?_ | refine E8 ?_ rfl | refine E9 ?_ rfl) | refine C1 ?_ | refine C2 ?_ | refine C3 ?_ | refine C4 ?_ | refine C5 ?_ | refine C6 ?_ | refine C7 ?_ | refine C8 ?_ | refine C9 ?_ | refine D1 rfl ?_ | refine D2 rfl ?_
  first | (refine A0 ?_; first | refine R1 rfl rfl ?_ | refine R2 rfl rfl ?_ | (refine A1 ?_; first | refine D3 rfl rfl ?_ | refine D4 rfl rfl rfl rfl ?_ | refine D5 rfl rfl rfl ?_ | refine E6 ?_ rfl rfl | refine E7 ?_ rfl rfl) | refine Zb ?_ rfl | (refine A3 ?_; first | refine R34 T hs 0 rfl rfl rfl rfl rfl rfl ?_ | refine R34 T hs 1 rfl rfl rfl rfl rfl rfl ?_ | refine Zl ?_ rfl) | refine Zi ?_ rfl | refine Zo ?_ rfl | refine A8 ?_) | (refine B0 ?_; first | refine B1 ?_ | refine B2 ?_ | refine B3 ?_ | refine B4 ?_ | refine B5 ?_ | refine B6 ?_ | refine B7 rfl ?_ | refine B8 rfl ?_ | refine E8 ?_ rfl | refine E9 ?_ rfl) | refine C1 ?_ | refine C2 ?_ | refine C3 ?_ | refine C4 ?_ | refine C5 ?_ | refine C6 ?_ | refine C7 ?_ | refine C8 ?_ | refine C9 ?_ | refine D1 rfl ?_ | refine D2 rfl ?_
  first | (refine A0 ?_; first | refine R1 rfl rfl ?_ | refine R2 rfl rfl ?_ | (refine A1 ?_; first | refine D3 rfl rfl ?_ | refine D4 rfl rfl rfl rfl ?_ | refine D5 rfl rfl rfl ?_ | refine E6 ?_ rfl rfl | refine E7 ?_ rfl rfl) | refine Zb ?_ rfl | (refine A3 ?_; first | refine R34 T hs 0 rfl rfl rfl rfl rfl rfl ?_ | refine R34 T hs 1 rfl rfl rfl rfl rfl rfl ?_ | refine Zl ?_ rfl) | refine Zi ?_ rfl | refine Zo ?_ rfl | refine A8 ?_) | (refine B0 ?_; first | refine B1 ?_ | refine B2 ?_ | refine B3 ?_ | refine B4 ?_ | refine B5 ?_ | refine B6 ?_ | refine B7 rfl ?_ | refine B8 rfl ?_ | refine E8 ?_ rfl | refine E9 ?_ rfl) | refine C1 ?_ | refine C2 ?_ | refine C3 ?_ | refine C4 ?_ | refine C5 ?_ | refine C6 ?_ | refine C7 ?_ | refine C8 ?_ | refine C9 ?_ | refine D1 rfl ?_ | refine D2 rfl ?_
  first | (refine A0 ?_; first | refine R1 rfl rfl ?_ | refine R2 rfl rfl ?_ | (refine A1 ?_; first | refine D3 rfl rfl ?_ | refine D4 rfl rfl rfl rfl ?_ | refine D5 rfl rfl rfl ?_ | refine E6 ?_ rfl rfl | refine E7 ?_ rfl rfl) | refine Zb ?_ rfl | (refine A3 ?_; first | refine R34 T hs 0 rfl rfl rfl rfl rfl rfl ?_ | refine R34 T hs 1 rfl rfl rfl rfl rfl rfl ?_ | refine Zl ?_ rfl) | refine Zi ?_ rfl | refine Zo ?_ rfl | refine A8 ?_) | (refine B0 ?_; first | refine B1 ?_ | refine B2 ?_ | refine B3 ?_ | refine B4 ?_ | refine B5 ?_ | refine B6 ?_ | refine B7 rfl ?_ | refine B8 rfl ?_ | refine E8 ?_ rfl | refine E9 ?_ rfl) | refine C1 ?_ | refine C2 ?_ | refine C3 ?_ | refine C4 ?_ | refine C5 ?_ | refine C6 ?_ | refine C7 ?_ | refine C8 ?_ | refine C9 ?_ | refine D1 rfl ?_ | refine D2 rfl ?_
  refine CW.seqJ (fun _ : Unit => [(0, .int .i64 (n : Int)), (1, .int .i64 many), (5, .int .i64 (dropN n many : Nat)), (6, .slice (some ⟨b3, 0, none⟩) 0 (n - dropN n many)), (7, .int .i64 (if 0 < many then (dropN n many : Int) else 0))]) (fun _ w' => Sees w h h [⟨some ⟨b3, 0, none⟩, 0, n - dropN n many, 3, 1, []⟩] w') ?_ ?_
  · by_cases c : 0 < many
    · rw [if_pos c]
      refine Zerun ?_
      exact joinQ_meet () ⟨rfl, rfl, rfl, rfl, rfl, trivial⟩ hs
    · rw [if_neg c]
      refine Zerun ?_
      exact joinQ_meet () ⟨rfl, rfl, rfl, rfl, rfl, trivial⟩ hs
  rintro _ w4 hs
  refine Zerun ?_
  refine CW.loop (fun u : Nat × Option Addr × Nat => [(6, .slice u.2.1 u.1 u.2.2), (7, .int .i64 (if 0 < many then (dropN n many : Int) else 0)), (32, .int .i64 ((n : Int) - (dropN n many : Nat))), (33, .int .i64 u.1)]) (fun u w' => u.1 ≤ n - dropN n many ∧ Sees w h h [⟨u.2.1, u.1, u.2.2, 3, 1, ((droppedL n many).take u.1).map (Value.int .i64)⟩] w') (fun u => n - dropN n many - u.1) (0, some ⟨b3, 0, none⟩, n - dropN n many) ⟨rfl, rfl, rfl, rfl, trivial⟩ ⟨by omega, hs⟩ ?_
  rintro ⟨i, ra, rc⟩ w5 ⟨hi, hs⟩
  dsimp only at hi hs ⊢
  have hfb : (0 : Int) ≤ (if 0 < many then (dropN n many : Int) else 0) ∧ (if 0 < many then (dropN n many : Int) else 0) ≤ 1048576 := by split <;> omega
  by_cases hlt : i < n - dropN n many
  · have hnx : ((droppedL n many).take i).map (Value.int .i64) ++ [.int .i64 ((if 0 < many then (dropN n many : Int) else 0) + i)] = ((droppedL n many).take (i + 1)).map (Value.int .i64) := by
      rw [take_succ_getD _ _ 0 (by rw [dropped_len]; exact hlt), List.map_append]
      unfold droppedL
      rw [getD_map' _ _ _ _ (by rw [List.length_range]; exact hlt), List.getElem_range]
      rfl
    generalize (if 0 < many then (dropN n many : Int) else 0) = f at *
    refine Zerun ?_
    (refine RW.lit T hs (vs := [.int .i64 (f + i)]) (cs := [.int .i64 (f + i)]) rfl rfl rfl rfl (by simp [Value.cells]) rfl rfl rfl rfl rfl ?_; intro b6 w6 hs)
    (refine RW.append T hs 1 rfl rfl (m := 1) (news := [.int .i64 (f + i)]) rfl rfl rfl rfl rfl rfl (hs.src0 rfl (by simp [Value.oneCell'])) (by simp) (by dsimp only; omega) (by omega) ?_; intro ad7 cp7 w7 hs; replace hs := hs.drop)
    refine Zerun ?_
    exact loopQ_round (i + 1, ad7, cp7) ⟨rfl, rfl, rfl, rfl, trivial⟩ ⟨by dsimp only; omega, hs.re hnx⟩ (by dsimp only; omega)
  · obtain rfl : i = n - dropN n many := by omega
    rw [List.take_of_length_le (by rw [dropped_len]; exact Nat.le_refl _)] at hs
    obtain ⟨h6, hle6, hs, hS6⟩ := hs.freeze
    refine Zerun ?_
    exact retQ_ret [_] h6 ⟨rfl, trivial⟩ hs.dropAll (by
      have := hS6
      dsimp only at this
      have e := dropped_len n many
      generalize droppedL n many = Z at *
      simp only [packv]
      rw [← e] at this ⊢
      exact IntsAt.of_sl this)
end Go.Proofs.YtmojpbfkpggjhaaGreat

/-
  Contracts of the document's answer of layer 15: places turned, taken and dropped. No statement is proved here.
-/
namespace Go.Proofs.YtmojpbfkpggjhaaGreat
open Go Go.RowKit
set_option linter.unusedVariables false
set_option linter.unusedSimpArgs false
set_option maxHeartbeats 4000000
attribute [local irreducible] CW RW QW SW HW ConM retM heldQ calmQ elemP thenQ blockQ loopQ joinQ retQ Yields Con Sl zF magR unitF truncF fwF wholeF tidySpec elemQ rankF leastN tidyW
set_option maxHeartbeats 4000000

theorem freezeI {w0 w : World} {h0 h : GHeap} {ad : Option Addr} {m cp : Nat} {l : List Int} {O : List Row} (hs : Sees w0 h0 h (⟨ad, m, cp, 3, 1, l.map (Value.int .i64)⟩ :: O) w) (hl : l.length = m) : ∃ h', GLe h h' ∧ Sees w0 h0 h' O w ∧ IntsAt h' (.slice ad m cp) l := by
  obtain ⟨h', hle, hs', hS⟩ := hs.freeze
  refine ⟨h', hle, hs', ?_⟩
  dsimp only at hS
  subst hl
  exact IntsAt.of_sl hS
end Go.Proofs.YtmojpbfkpggjhaaGreat

/-
  Contracts of functions of package value: whether arrays, and elements, are alike. No statement is proved here.
-/
namespace Go.Proofs.YtmojpbfkpggjhaaGreat
open Go Go.RowKit
set_option linter.unusedVariables false
set_option linter.unusedSimpArgs false
set_option maxHeartbeats 4000000
attribute [local irreducible] CW RW QW SW HW ConM retM heldQ calmQ elemP thenQ blockQ loopQ joinQ retQ Yields Con Sl zF magR unitF truncF fwF wholeF tidySpec elemQ rankF leastN tidyW

section
variable {α β : Type} {R : GHeap → List Value → α → Prop}
end
end Go.Proofs.YtmojpbfkpggjhaaGreat

/-
  Contracts of functions of package hash: the keys of elements and of whole arrays. No statement is proved here.
-/
namespace Go.Proofs.YtmojpbfkpggjhaaGreat
open Go Go.RowKit
set_option linter.unusedVariables false
set_option linter.unusedSimpArgs false
set_option maxHeartbeats 4000000
attribute [local irreducible] CW RW QW SW HW ConM retM heldQ calmQ elemP thenQ blockQ loopQ joinQ retQ Yields Con Sl zF magR unitF truncF fwF wholeF tidySpec elemQ rankF leastN tidyW
set_option maxHeartbeats 1000000

def mixN (a b : Nat) : Nat := ((a ^^^ b) * 11400714819323198485 % 18446744073709551616) ^^^ (((a ^^^ b) * 11400714819323198485 % 18446744073709551616) >>> 29)
/-- the key of an item, of a plain array -/
def keyIt {β : Type} (G : β → Nat) (x : ItemD β) : Nat := if x.kind = 1 then mixN 1 (wr32 x.char) else if x.kind = 2 then (x.box.map G).headD 0 else mixN 2 x.num
def keyPl {β : Type} (G : β → Nat) (p : PlainD β) : Nat := p.items.foldl (fun k x => mixN k (keyIt G x)) (p.shape.foldl (fun k d => mixN k (wrN d)) (mixN 3 (wrN p.fill)))
def keyP : (k : Nat) → PD k → Nat
  | 0 => fun _ => 0
  | k + 1 => fun p => keyPl (β := PD k) (keyP k) p
attribute [local irreducible] mixN wrN wr32 keyIt

section
variable {α β : Type} {R : GHeap → List Value → α → Prop}
end
end Go.Proofs.YtmojpbfkpggjhaaGreat

/-
  Plain Lean on hash tables: where an element is first in a list, and slots that are looked through in turn. No statement is proved here.
-/
namespace Go.Proofs.YtmojpbfkpggjhaaGreat
open Go Go.RowKit
set_option linter.unusedVariables false
set_option linter.unusedSimpArgs false

section
variable {γ : Type}
/-- slots: below 0 they are free, the others hold numbers of elements; those of S are in it, each once -/
structure TabOk (key : γ → Nat) (el : Nat → γ) (S : Nat → Prop) (c : Nat) (sl : List Int) : Prop where
  rng : ∀ p, p < sl.length → sl.getD p 0 = -1 ∨ ∃ i : Nat, S i ∧ sl.getD p 0 = (i : Int)
  at_ : ∀ i, S i → ∃ d, sl.getD ((key (el i) + d) % sl.length) 0 = (i : Int) ∧ ∀ e, e < d → 0 ≤ sl.getD ((key (el i) + e) % sl.length) 0
  one : ∀ i j, S i → S j → el i = el j → i = j
  cnt : sl.countP (fun z => decide (0 ≤ z)) ≤ c
/-- so many slots were looked at, and none has the element -/
def Probed (key : γ → Nat) (el : Nat → γ) (sl : List Int) (x : γ) (d : Nat) : Prop := ∀ e, e < d → ∃ i : Nat, sl.getD ((key x + e) % sl.length) 0 = (i : Int) ∧ el i ≠ x
variable {key : γ → Nat} {el : Nat → γ} {S : Nat → Prop} {c : Nat} {sl : List Int} {x : γ} {d : Nat}
theorem TabOk.miss (ok : TabOk key el S c sl) (hp : Probed key el sl x d) (hs : sl.getD ((key x + d) % sl.length) 0 < 0) : ∀ j, S j → el j ≠ x := by
  intro j hj e
  obtain ⟨dj, h1, h2⟩ := ok.at_ j hj
  rw [e] at h1 h2
  rcases Nat.lt_trichotomy d dj with h | h | h
  · have := h2 d h; omega
  · rw [h] at hs; omega
  · obtain ⟨i, h3, h4⟩ := hp dj h
    rw [h1] at h3
    have : j = i := by omega
    exact h4 (this ▸ e)
theorem countP_set_neg : ∀ (l : List Int) (p : Nat) (v : Int), p < l.length → l.getD p 0 < 0 → 0 ≤ v → (l.set p v).countP (fun z => decide (0 ≤ z)) = l.countP (fun z => decide (0 ≤ z)) + 1
  | [], _, _, h, _, _ => absurd h (Nat.not_lt_zero _)
  | a :: l, 0, v, _, hn, hv => by
    have hn : a < 0 := by simpa using hn
    simp only [List.set_cons_zero, List.countP_cons]
    rw [decide_eq_true hv, decide_eq_false (show ¬ 0 ≤ a by omega)]
    simp
  | a :: l, p + 1, v, h, hn, hv => by
    have := countP_set_neg l p v (by simpa using h) (by simpa using hn) hv
    simp only [List.set_cons_succ, List.countP_cons, this]
    omega
theorem getD_setI (l : List Int) (k j : Nat) (v d : Int) (h : k < l.length) : (l.set k v).getD j d = if j = k then v else l.getD j d := by
  simp only [List.getD_eq_getElem?_getD, List.getElem?_set]
  by_cases e : k = j
  · subst e; simp [h]
  · simp [e, Ne.symm e]
theorem TabOk.put (ok : TabOk key el S c sl) {k : Nat} (hp : Probed key el sl (el k) d) (hs : sl.getD ((key (el k) + d) % sl.length) 0 < 0) (hl : 0 < sl.length) :
    TabOk key el (fun i => S i ∨ i = k) (c + 1) (sl.set ((key (el k) + d) % sl.length) (k : Int)) := by
  have hpl := Nat.mod_lt (key (el k) + d) hl
  have hmiss := ok.miss hp hs
  refine ⟨?_, ?_, ?_, ?_⟩
  · intro p hpp
    rw [List.length_set] at hpp
    rw [getD_setI _ _ _ _ _ hpl]
    split
    · exact .inr ⟨k, .inr rfl, rfl⟩
    · rcases ok.rng p hpp with h | ⟨i, h1, h2⟩
      · exact .inl h
      · exact .inr ⟨i, .inl h1, h2⟩
  · intro i hi
    simp only [List.length_set]
    by_cases hik : i = k
    · subst hik
      refine ⟨d, ?_, ?_⟩
      · rw [getD_setI _ _ _ _ _ hpl, if_pos rfl]
      · intro e he
        rw [getD_setI _ _ _ _ _ hpl]
        split
        · omega
        · obtain ⟨i, h1, _⟩ := hp e he; omega
    · have hi' : S i := hi.resolve_right hik
      obtain ⟨di, h1, h2⟩ := ok.at_ i hi'
      refine ⟨di, ?_, ?_⟩
      · rw [getD_setI _ _ _ _ _ hpl, if_neg]
        · exact h1
        · intro e; rw [e] at h1; omega
      · intro e he
        rw [getD_setI _ _ _ _ _ hpl]
        split
        · omega
        · exact h2 e he
  · intro i j hi hj e
    rcases hi with hi | rfl <;> rcases hj with hj | rfl
    · exact ok.one i j hi hj e
    · exact absurd e (hmiss i hi)
    · exact absurd e.symm (hmiss j hj)
    · rfl
  · rw [countP_set_neg _ _ _ hpl hs (by omega)]
    have := ok.cnt
    omega
end
end Go.Proofs.YtmojpbfkpggjhaaGreat

/-
  Contracts of functions of package hash: a new table. No statement is proved here.
-/
namespace Go.Proofs.YtmojpbfkpggjhaaGreat
open Go Go.RowKit
set_option linter.unusedVariables false
set_option linter.unusedSimpArgs false
set_option maxHeartbeats 4000000
attribute [local irreducible] CW RW QW SW HW ConM retM heldQ calmQ elemP thenQ blockQ loopQ joinQ retQ Yields Con Sl zF magR unitF truncF fwF wholeF tidySpec elemQ rankF leastN tidyW
set_option maxHeartbeats 1000000

section
variable {α : Type} {R : GHeap → List Value → α → Prop}
end
end Go.Proofs.YtmojpbfkpggjhaaGreat

/-
  Contracts of methods of hash.Table: the slot of an element. No statement is proved here.
-/
namespace Go.Proofs.YtmojpbfkpggjhaaGreat
open Go Go.RowKit
set_option linter.unusedVariables false
set_option linter.unusedSimpArgs false
set_option maxHeartbeats 4000000
attribute [local irreducible] CW RW QW SW HW ConM retM heldQ calmQ elemP thenQ blockQ loopQ joinQ retQ Yields Con Sl zF magR unitF truncF fwF wholeF tidySpec elemQ rankF leastN tidyW
set_option maxHeartbeats 1000000
attribute [local irreducible] mixN wrN wr32 keyIt keyP

section
variable {P : Program} {n : Nat} {ops rest : List Oper} {C : World → Prop} {K : Env → Prop} {L : Env} {d : Option Tmp} {ty : TypeId} {pos : String} {aft : Array Edge} {g : Option (Nat × Bool)}
end
end Go.Proofs.YtmojpbfkpggjhaaGreat

/-
  Contracts of functions of package hash: whether, and where, an element is in a table; the table of a list. No statement is proved here.
-/
namespace Go.Proofs.YtmojpbfkpggjhaaGreat
open Go Go.RowKit
set_option linter.unusedVariables false
set_option linter.unusedSimpArgs false
set_option maxHeartbeats 4000000
attribute [local irreducible] CW RW QW SW HW ConM retM heldQ calmQ elemP thenQ blockQ loopQ joinQ retQ Yields Con Sl zF magR unitF truncF fwF wholeF tidySpec elemQ rankF leastN tidyW
set_option maxHeartbeats 1000000
attribute [local irreducible] mixN wrN wr32 keyIt keyP

end Go.Proofs.YtmojpbfkpggjhaaGreat

/-
  Plain Lean on lists: places of elements that something holds of, and of the first ones. No statement is proved here.
-/
namespace Go.Proofs.YtmojpbfkpggjhaaGreat
open Go Go.RowKit
set_option linter.unusedVariables false
set_option linter.unusedSimpArgs false

section
variable {γ : Type}
end
end Go.Proofs.YtmojpbfkpggjhaaGreat

/-
  Contracts of functions of package hash: where elements are in a list first, whether they are there. No statement is proved here.
-/
namespace Go.Proofs.YtmojpbfkpggjhaaGreat
open Go Go.RowKit
set_option linter.unusedVariables false
set_option linter.unusedSimpArgs false
set_option maxHeartbeats 4000000
attribute [local irreducible] CW RW QW SW HW ConM retM heldQ calmQ elemP thenQ blockQ loopQ joinQ retQ Yields Con Sl zF magR unitF truncF fwF wholeF tidySpec elemQ rankF leastN tidyW
set_option maxHeartbeats 1000000
attribute [local irreducible] mixN wrN wr32 keyIt keyP

theorem fillA {δ : Type} {A : List δ} {i n : Nat} (hA : A.length = i) (h : i < n) (b z : δ) : (A ++ List.replicate (n - i) b).set i z = (A ++ [z]) ++ List.replicate (n - (i + 1)) b := by
  obtain ⟨r, hr⟩ : ∃ r, n - i = r + 1 := ⟨n - i - 1, by omega⟩
  have e : n - (i + 1) = r := by omega
  rw [hr, e, List.replicate_succ, List.set_append_right _ _ (by omega), ← hA]
  simp
end Go.Proofs.YtmojpbfkpggjhaaGreat

/-
  Contracts of package reshape: whole numbers of a list, axes, a pick along an axis, Reshape. No statement is proved here.
-/
namespace Go.Proofs.YtmojpbfkpggjhaaGreat
open Go Go.RowKit
set_option linter.unusedVariables false
set_option linter.unusedSimpArgs false
set_option maxHeartbeats 4000000
attribute [local irreducible] CW RW QW SW HW ConM retM heldQ calmQ elemP thenQ blockQ loopQ joinQ retQ Yields Con Sl zF magR unitF truncF fwF wholeF tidySpec elemQ rankF leastN tidyW
set_option maxHeartbeats 4000000

theorem reWholes_con (k : Nat) (ca : List Value) (a : ArrD (AD (k + 1))) (l : List Int) (w : World) (h : GHeap) (ha : ArrAt (k + 2) h ca a) (hr : a.shape.length ≤ 1) (hk : a.vec.kind = 1 ∨ a.vec.kind = 2 ∨ a.vec.kind = 3) (hl : a.vec.nums.map (fun x => (wholeF x).1) = l) (hm : a.vec.len ≤ 1048576) : Con Tryz.prog 105 [.agg ca.toArray] w h (fun h' u => ∃ s, u = .tuple #[s, .int .i64 0] ∧ IntsAt h' s l) := by
  have ha' := ha
  obtain ⟨_, vca, rfl, ⟨ada, cpa, rfl, hSa⟩, hva⟩ := ha
  have hva' := hva
  obtain ⟨wa, na, sa, ia, fa, ga, xa, ⟨rfl, hoa⟩, -⟩ := hva
  have ma : ∀ h', GLe h h' → ArrAt (k + 2) h' (.slice ada a.shape.length cpa :: vecCells a.vec.kind wa na sa ia fa ga xa) a := fun h' hl => ArrAt.mono (k + 2) _ _ _ _ hl ha'
  have hcapa := hSa.caps
  have hll : l.length ≤ 1048576 := by have := hva'.shorts.1; rw [← hl, List.length_map]; omega
  have hr' : ¬ (1 : Int) < (a.shape.length : Int) := by omega
  refine Con.of_body Tryz.func105 rfl Tryz.ntmps105 rfl rfl ?_
  intro hs
  refine Zrun ?_
  (refine RW.boxN hs rfl rfl ?_; intro b1 w1 hs)
  refine Zerun ?_
  (refine RW.call T hs rfl rfl rfl (valueRank_con (R := ArrAt (k + 1)) _ a _ _ (ma _ (GLe.refl _))) ?_; intro v h2 w2 hle2 hp2 hs)
  subst hp2
  refine Zerun ?_
  (refine RW.call T hs rfl rfl rfl (vecWholes_con (ArrAt.mono (k + 1)) _ a.vec _ _ (hva'.mono (ArrAt.mono (k + 1)) hle2) (by omega)) ?_; intro v h3 w3 hle3 hp3 hs)
  obtain ⟨s3, rfl, hK3⟩ := hp3
  rw [if_pos hk, hl] at hK3
  rw [decide_eq_true hk]
  obtain ⟨ad3, cp3, rfl, hS3⟩ := hK3
  refine Zerun ?_
  (refine RW.make1 T hs rfl rfl rfl rfl rfl rfl rfl (by dsimp only; omega) (by omega) ?_; intro b4 w4 hs)
  have hs := hs.re (ys := (l.take 0 ++ List.replicate (l.length - 0) 0).map (Value.int .i64)) (by rw [List.map_append, List.map_replicate]; rfl)
  refine Zerun ?_
  refine CW.loop (fun i : Nat => [(1, .pointer (some ⟨b1, 0, none⟩)), (6, .slice (some ⟨b4, 0, none⟩) l.length l.length), (35, .slice ad3 l.length cp3), (36, .int .i64 l.length), (37, .int .i64 i)]) (fun i w' => i ≤ l.length ∧ Sees w h h3 [⟨some ⟨b4, 0, none⟩, l.length, l.length, 3, 1, (l.take i ++ List.replicate (l.length - i) 0).map (Value.int .i64)⟩, ⟨some ⟨b1, 0, none⟩, 1, 1, 39, 9, .slice ada a.shape.length cpa :: vecCells a.vec.kind wa na sa ia fa ga xa⟩] w') (fun i => l.length - i) 0 ⟨rfl, rfl, rfl, rfl, rfl, trivial⟩ ⟨by omega, hs⟩ ?_
  rintro i w5 ⟨hi, hs⟩
  by_cases hlt : i < l.length
  · have gi := map_get (Value.int .i64) l i 0 hlt
    have hAl : (l.take i).length = i := by rw [List.length_take]; omega
    have htk := take_succ_getD l i 0 hlt
    refine Zerun ?_
    refine RW.val (Y.idxRN T hs 0 rfl rfl rfl rfl rfl rfl hlt) rfl ?_
    refine RW.st1 T hs 0 rfl rfl rfl rfl rfl rfl rfl hlt ?_
    intro w6 hs
    dsimp only [List.set_cons_zero, List.set_cons_succ] at hs
    rw [map_set_int, fillA hAl hlt, ← htk] at hs
    refine Zerun ?_
    exact loopQ_round (i + 1) ⟨rfl, rfl, rfl, rfl, seti (by omega), trivial⟩ ⟨by omega, hs⟩ (by omega)
  obtain rfl : i = l.length := by omega
  rw [List.take_length, Nat.sub_self, List.replicate_zero, List.append_nil] at hs
  obtain ⟨h7, hle7, hs, hS7⟩ := hs.freeze
  have hI7 : IntsAt h7 (.slice (some ⟨b4, 0, none⟩) l.length l.length) l := IntsAt.of_sl hS7
  refine Zerun ?_
  exact retQ_ret [_, _] h7 ⟨rfl, rfl, trivial⟩ hs.dropAll ⟨_, rfl, hI7⟩
theorem reAxes_con (k : Nat) (cc ca : List Value) (c a : ArrD (AD (k + 1))) (l : List Int) (w : World) (h : GHeap) (hc : ArrAt (k + 2) h cc c) (ha : ArrAt (k + 2) h ca a) (hr : c.shape.length ≤ 1) (hk : c.vec.kind = 1 ∨ c.vec.kind = 2 ∨ c.vec.kind = 3) (hl : c.vec.nums.map (fun x => (wholeF x).1) = l) (hcm : c.vec.len ≤ 1048576) (ha1 : l.length ≤ a.shape.length) (ha0 : 0 < a.shape.length) (ha8 : a.shape.length ≤ 8) :
    Con Tryz.prog 98 [.agg cc.toArray, .agg ca.toArray] w h (fun h' u => ∃ s cs', u = .tuple #[s, .agg cs'.toArray, .int .i64 0] ∧ IntsAt h' s l ∧ ArrAt (k + 2) h' cs' a) := by
  have hc' := hc
  obtain ⟨_, vcc, rfl, ⟨adc, cpc, rfl, hSc⟩, hvc⟩ := hc
  have hvc' := hvc
  obtain ⟨wc, nc, sc, ic, fc, gc, xc, ⟨rfl, hoc⟩, -⟩ := hvc
  have mc : ∀ h', GLe h h' → ArrAt (k + 2) h' (.slice adc c.shape.length cpc :: vecCells c.vec.kind wc nc sc ic fc gc xc) c := fun h' hl => ArrAt.mono (k + 2) _ _ _ _ hl hc'
  have hcapc := hSc.caps
  have ha' := ha
  obtain ⟨_, vca, rfl, ⟨ada, cpa, rfl, hSa⟩, hva⟩ := ha
  have hva' := hva
  obtain ⟨wa, na, sa, ia, fa, ga, xa, ⟨rfl, hoa⟩, -⟩ := hva
  have ma : ∀ h', GLe h h' → ArrAt (k + 2) h' (.slice ada a.shape.length cpa :: vecCells a.vec.kind wa na sa ia fa ga xa) a := fun h' hl => ArrAt.mono (k + 2) _ _ _ _ hl ha'
  have hcapa := hSa.caps
  have hll : l.length ≤ 1048576 := by have := hvc'.shorts.1; rw [← hl, List.length_map]; omega
  have q0 : ¬ (a.shape.length : Int) = 0 := by omega
  have q8 : ¬ (8 : Int) < (a.shape.length : Int) := by omega
  have q1 : ¬ (a.shape.length : Int) < (l.length : Int) := by omega
  refine Con.of_body Tryz.func98 rfl Tryz.ntmps98 rfl rfl ?_
  intro hs
  refine Zrun ?_
  (refine RW.boxN hs rfl rfl ?_; intro b1 w1 hs)
  refine Zrun ?_
  (refine RW.boxN hs rfl rfl ?_; intro b2 w2 hs)
  refine Zrun ?_
  (refine RW.allocN T hs rfl rfl rfl rfl ?_; intro b3 w3 hs)
  refine Zerun ?_
  (refine RW.call T hs rfl rfl rfl (reWholes_con k _ c l _ _ (mc _ (GLe.refl _)) hr hk hl hcm) ?_; intro v h4 w4 hle4 hp4 hs)
  obtain ⟨s4, rfl, hI4⟩ := hp4
  have hI4' := hI4
  obtain ⟨ad4, cp4, rfl, _⟩ := hI4'
  refine Zerun ?_
  refine CW.regionR T 1 1 hs rfl rfl ?_
  intro w9 hs
  refine HW.takeR (fuel := 4) 0 rfl (fun _ _ ka kb _ hs hka hkb => Y.move rfl) ⟨_, _, 1, 1, hs, rfl, rfl⟩ rfl (by kernel_rfl) (by kernel_rfl) (by kernel_rfl) ?_
  refine HW.takeR (fuel := 3) 1 rfl (fun _ _ ka kb _ hs hka hkb => Y.loadRowN T hs ka hka rfl rfl rfl rfl rfl rfl) ⟨_, _, 1, 1, hs, rfl, rfl⟩ rfl (by kernel_rfl) (by kernel_rfl) (by kernel_rfl) ?_
  refine HW.takeR (fuel := 2) 2 rfl (fun _ _ ka kb _ hs hka hkb => Y.assign rfl) ⟨_, _, 1, 1, hs, rfl, rfl⟩ rfl (by kernel_rfl) (by kernel_rfl) (by kernel_rfl) ?_
  refine HW.one (fuel := 1) 3 rfl (by kernel_rfl) ?_
  (refine RW.storeAll T hs 0 rfl rfl rfl rfl rfl rfl (by show (Value.oneCell' (.slice ada _ cpa) && (vecCells _ wa na sa ia fa ga xa).all Value.oneCell') = true; rw [hoa]; rfl) rfl ?_; intro w8 hs)
  refine RW.nil ?_
  refine heldQ_normal ⟨_, _, 1, 1, hs, rfl, rfl⟩ ?_
  refine HW.takeR (fuel := 0) 4 rfl (fun _ _ ka kb _ hs hka hkb => Y.assign rfl) ⟨_, _, 1, 1, hs, rfl, rfl⟩ rfl (by kernel_rfl) (by kernel_rfl) (by kernel_rfl) ?_
  refine HW.done (by kernel_rfl) ?_
  refine calmQ_normal ?_
  refine Zerun ?_
  exact retQ_ret [_, _, _] h4 ⟨rfl, resN T hs 0 rfl rfl rfl rfl rfl rfl, rfl, trivial⟩ hs.dropAll ⟨_, _, rfl, hI4, ma _ hle4⟩
theorem reAlong_con (k : Nat) (ca : List Value) (a : ArrD (AD (k + 1))) (v1 : Value) (K outer n inner : Nat) (at_ s' : List Int) (w : World) (h : GHeap) (ha : ArrAt (k + 2) h ca a) (hat : IntsAt h v1 at_) (hsl : a.shape.length ≤ 8) (hw : withSpec a.shape K at_.length = (s', true)) (hs' : splitSpec a.shape K = ((outer : Int), (n : Int), (inner : Int), true)) (hal : at_.length ≤ 1048576) (hou : outer ≤ 1048576) (hm : outer * (at_.length * inner) ≤ 1048576) (hB : outer * n * inner ≤ 1099511627776) (hBn : outer * n ≤ 1099511627776) (hvm : a.vec.len ≤ 1048576) (hk0 : a.vec.kind ≠ 0) :
    Con Tryz.prog 101 [.agg ca.toArray, .int .i64 (K : Int), v1] w h (fun h' u => ∃ cs', u = .tuple #[.agg cs'.toArray, .int .i64 0] ∧ ArrAt (k + 2) h' cs' (⟨s', a.vec.pick (alongL outer n inner at_) (blankA k)⟩ : ArrD (AD (k + 1)))) := by
  have hat' := hat
  obtain ⟨adt, cpt, rfl, hSt⟩ := hat
  have ha' := ha
  obtain ⟨_, vca, rfl, ⟨ada, cpa, rfl, hSa⟩, hva⟩ := ha
  have hva' := hva
  obtain ⟨wa, na, sa, ia, fa, ga, xa, ⟨rfl, hoa⟩, -⟩ := hva
  have ma : ∀ h', GLe h h' → ArrAt (k + 2) h' (.slice ada a.shape.length cpa :: vecCells a.vec.kind wa na sa ia fa ga xa) a := fun h' hl => ArrAt.mono (k + 2) _ _ _ _ hl ha'
  have hcapa := hSa.caps
  refine Con.of_body Tryz.func101 rfl Tryz.ntmps101 rfl rfl ?_
  intro hs
  refine Zrun ?_
  (refine RW.boxN hs rfl rfl ?_; intro b1 w1 hs)
  refine Zrun ?_
  (refine RW.allocN T hs rfl rfl rfl rfl ?_; intro b2 w2 hs)
  refine Zerun ?_
  (refine RW.call T hs rfl rfl rfl (with_con _ a.shape K at_.length _ _ ⟨ada, cpa, rfl, hSa⟩ (by omega)) ?_; intro v h3 w3 hle3 hp3 hs)
  obtain ⟨u3, rfl, hI3⟩ := hp3
  rw [hw] at hI3 ⊢
  have hI3' := hI3
  obtain ⟨ad3, cp3, rfl, _⟩ := hI3'
  refine Zerun ?_
  (refine RW.call T hs rfl rfl rfl (split_con _ a.shape K _ _ ⟨ada, cpa, rfl, hSa.mono hle3⟩ (by omega)) ?_; intro v h5 w5 hle5 hp5 hs)
  rw [hs'] at hp5
  subst hp5
  have hI3 := hI3.mono hle5
  have g5 := hle3.trans hle5
  refine Zerun ?_
  (refine RW.call T hs rfl rfl rfl (pickAlong_con (ArrAt.mono (k + 1)) (ArrAt.one (k + 1)) (ArrAt.siz (k + 1)) (blankA k) (fun w h => flatBlank_con (ArrAt.mono k) (ArrAt.one k) w h) _ a.vec _ outer n inner at_ _ _ (hva'.mono (ArrAt.mono (k + 1)) g5) (hat'.mono g5) hal hou hm hB hBn hvm hk0) ?_; intro v h6 w6 hle6 hp6 hs)
  obtain ⟨cs6, rfl, hv6⟩ := hp6
  have hv6' := hv6
  have hI3 := hI3.mono hle6
  obtain ⟨wv6, nv6, sm6, il6, fl6, ch6, bx6, ⟨rfl, hoc6⟩, -⟩ := hv6
  refine Zerun ?_
  refine RW.val (Y.build T rfl rfl rfl rfl rfl rfl rfl) rfl ?_
  (refine RW.storeAll T hs 0 rfl rfl rfl rfl rfl rfl (by show (true && (vecCells _ wv6 nv6 sm6 il6 fl6 ch6 bx6).all Value.oneCell') = true; rw [hoc6]; rfl) rfl ?_; intro w8 hs)
  refine Zerun ?_
  exact retQ_ret [_, _] h6 ⟨resN T hs 0 rfl rfl rfl rfl rfl rfl, rfl, trivial⟩ hs.dropAll ⟨_, rfl, _, _, rfl, hI3, hv6'⟩
end Go.Proofs.YtmojpbfkpggjhaaGreat

/-
  Contracts of package reshape: Take and Drop with one count along the first axis. No statement is proved here.
-/
namespace Go.Proofs.YtmojpbfkpggjhaaGreat
open Go Go.RowKit
set_option linter.unusedVariables false
set_option linter.unusedSimpArgs false
set_option maxHeartbeats 4000000
attribute [local irreducible] CW RW QW SW HW ConM retM heldQ calmQ elemP thenQ blockQ loopQ joinQ retQ Yields Con Sl zF magR unitF truncF fwF wholeF tidySpec elemQ rankF leastN tidyW
set_option maxHeartbeats 4000000

theorem product_con' {s : List Int} {ad : Option Addr} {cp n : Nat} {most : Int} {w : World} {h : GHeap} (hI : IntsAt h (.slice ad n cp) s) (hm : s.length ≤ 9223372036854775807) : Con Tryz.prog 58 [.slice ad n cp, .int .i64 most] w h (fun _ v => v = .tuple #[.int .i64 (product s most).1, .int .i64 (product s most).2]) := product_con _ s most w h hI hm
theorem contains_con' {s : List Int} {ad : Option Addr} {cp n : Nat} {w : World} {h : GHeap} (x : Int) (hI : IntsAt h (.slice ad n cp) s) (hm : s.length ≤ 9223372036854775807) : Con Tryz.prog 99 [.slice ad n cp, .int .i64 x] w h (fun _ v => v = .bool (decide (x ∈ s))) := containsInt_con _ s x w h hI hm
theorem sl_of_ints {s : List Int} {ad : Option Addr} {cp n : Nat} {h : GHeap} (hI : IntsAt h (.slice ad n cp) s) (hn : s.length = n) : Sl h 1 ad n cp (s.map (Value.int .i64)) := by
  subst hn
  obtain ⟨a', c', e, q⟩ := hI
  cases e
  exact q
theorem yields_eqv {P n L w op ty} {u1 u2 : Value} (h : Yields P n L w op ty u1) (e : u1 = u2) : Yields P n L w op ty u2 := e ▸ h
theorem neq_ft {p : Prop} [Decidable p] (h : p) : (!(false == decide p)) = true := by rw [decide_eq_true h]; rfl
theorem neq_ff {p : Prop} [Decidable p] (h : ¬ p) : (!(false == decide p)) = false := by rw [decide_eq_false h]; rfl
theorem neq_tt {p : Prop} [Decidable p] (h : p) : (!(true == decide p)) = false := by rw [decide_eq_true h]; rfl
theorem neq_tf {p : Prop} [Decidable p] (h : ¬ p) : (!(true == decide p)) = true := by rw [decide_eq_false h]; rfl
theorem set0_getD {s : List Int} {d : Int} (h : 0 < s.length) : (s.set 0 d).getD 0 0 = d := by
  rw [List.getD_eq_getElem?_getD, List.getElem?_set_self h]; rfl
theorem set0_get {s : List Int} {d : Int} (h : 0 < s.length) : ((s.set 0 d).map (Value.int .i64))[0]? = some (.int .i64 d) := by
  rw [List.getElem?_map, List.getElem?_set_self h]; rfl
theorem reTake_con (k : Nat) (cc ca : List Value) (c a : ArrD (AD (k + 1))) (m most q : Int) (n inner : Nat) (w : World) (h : GHeap) (hc : ArrAt (k + 2) h cc c) (ha : ArrAt (k + 2) h ca a) (hr : c.shape.length ≤ 1) (hk : c.vec.kind = 1 ∨ c.vec.kind = 2 ∨ c.vec.kind = 3) (hl : c.vec.nums.map (fun x => (wholeF x).1) = [m]) (hcm : c.vec.len ≤ 1048576) (ha0 : 0 < a.shape.length) (ha8 : a.shape.length ≤ 8) (hn : a.shape.getD 0 0 = (n : Int)) (hs' : splitSpec a.shape 0 = (1, (n : Int), (inner : Int), true)) (hvm : a.vec.len ≤ 1048576) (hk0 : a.vec.kind ≠ 0) (hnb : n ≤ 1048576) (hib : n * inner ≤ 1048576) (hmb : m.natAbs ≤ 1048576) (hmi : m.natAbs * inner ≤ 1048576) (hp : product (a.shape.set 0 (m.natAbs : Int)) most = (q, 0)) (hq : (0 : Int) ∉ a.shape.set 0 (m.natAbs : Int)) (hw : withSpec a.shape ((0 : Nat) : Int) ((takenL n m).length : Nat) = (a.shape.set 0 (m.natAbs : Int), true)) :
    Con Tryz.prog 43 [.agg cc.toArray, .agg ca.toArray, .int .i64 most] w h (fun h' u => ∃ cs', u = .tuple #[.agg cs'.toArray, .int .i64 0] ∧ ArrAt (k + 2) h' cs' (⟨a.shape.set 0 (m.natAbs : Int), a.vec.pick (alongL 1 n inner (takenL n m)) (blankA k)⟩ : ArrD (AD (k + 1)))) := by
  have hc' := hc
  obtain ⟨_, vcc, rfl, ⟨adc, cpc, rfl, hSc⟩, hvc⟩ := hc
  have hvc' := hvc
  obtain ⟨wc, nc, sc, ic, fc, gc, xc, ⟨rfl, hoc⟩, -⟩ := hvc
  have mc : ∀ h', GLe h h' → ArrAt (k + 2) h' (.slice adc c.shape.length cpc :: vecCells c.vec.kind wc nc sc ic fc gc xc) c := fun h' hl => ArrAt.mono (k + 2) _ _ _ _ hl hc'
  have hcapc := hSc.caps
  have ha' := ha
  obtain ⟨_, vca, rfl, ⟨ada, cpa, rfl, hSa⟩, hva⟩ := ha
  have hva' := hva
  obtain ⟨wa, na, sa, ia, fa, ga, xa, ⟨rfl, hoa⟩, -⟩ := hva
  have ma : ∀ h', GLe h h' → ArrAt (k + 2) h' (.slice ada a.shape.length cpa :: vecCells a.vec.kind wa na sa ia fa ga xa) a := fun h' hl => ArrAt.mono (k + 2) _ _ _ _ hl ha'
  have hcapa := hSa.caps
  refine Con.of_body Tryz.func43 rfl Tryz.ntmps43 rfl rfl ?_
  intro hs
  refine Zrun ?_
  (refine RW.boxN hs rfl rfl ?_; intro b1 w1 hs)
  refine Zrun ?_
  (refine RW.boxN hs rfl rfl ?_; intro b2 w2 hs)
  refine Zrun ?_
  (refine RW.allocN T hs rfl rfl rfl rfl ?_; intro b3 w3 hs)
  refine Zerun ?_
  (refine RW.call T hs rfl rfl rfl (reAxes_con k _ _ c a [m] _ _ (mc _ (GLe.refl _)) (ma _ (GLe.refl _)) hr hk hl hcm (by show 1 ≤ _; omega) ha0 ha8) ?_; intro v h4 w4 hle4 hp4 hs)
  obtain ⟨s4, cs4, rfl, hI4, ha4⟩ := hp4
  obtain ⟨adl, cpl, rfl, hSl⟩ := hI4
  have hA4 := ha4
  obtain ⟨_, vc4, rfl, ⟨ad4, cp4, rfl, hS4⟩, hv4⟩ := ha4
  have hv4' := hv4
  obtain ⟨wv4, nv4, sm4, il4, fl4, ch4, bx4, ⟨rfl, hoc4⟩, -⟩ := hv4
  have hcap4 := hS4.caps
  have hSl : Sl h4 1 adl 1 cpl ([m].map (Value.int .i64)) := hSl
  refine Zerun ?_
  (refine RW.storeAll T hs 1 rfl rfl rfl rfl rfl rfl (by show (Value.oneCell' (.slice ad4 _ cp4) && (vecCells _ wv4 nv4 sm4 il4 fl4 ch4 bx4).all Value.oneCell') = true; rw [hoc4]; rfl) rfl ?_; intro w5 hs)
  refine Zerun ?_
  (refine RW.callM T hs rfl rfl rfl (cloneInt_conM ad4 cp4 a.shape _ _ _ _ _ hS4 (by omega)) ?_; intro v h6 O6 w6 hle6 hp6 hs)
  obtain ⟨rfl, ad6, cp6, rfl, rfl⟩ := hp6
  have gl0 : ([m].map (Value.int .i64))[0]? = some (.int .i64 m) := rfl
  refine Zerun ?_
  refine CW.loop (fun i : Nat => [(2, .int .i64 most), (4, .pointer (some ⟨b2, 0, none⟩)), (6, .pointer (some ⟨b3, 0, none⟩)), (8, .slice adl 1 cpl), (10, .slice ad6 a.shape.length cp6), (35, .slice adl 1 cpl), (36, .int .i64 1), (37, .int .i64 i)]) (fun i w' => i ≤ 1 ∧ Sees w h h6 [⟨ad6, a.shape.length, cp6, 3, 1, (if i = 0 then a.shape else a.shape.set 0 ((m.natAbs : Int))).map (Value.int .i64)⟩, ⟨some ⟨b3, 0, none⟩, 1, 1, 39, 9, .slice none 0 0 :: vecCells 0 (.slice none 0 0) 0 (.slice none 0 0) (.slice none 0 0) (.slice none 0 0) (.slice none 0 0) (.slice none 0 0)⟩, ⟨some ⟨b2, 0, none⟩, 1, 1, 39, 9, .slice ad4 a.shape.length cp4 :: vecCells a.vec.kind wv4 nv4 sm4 il4 fl4 ch4 bx4⟩, ⟨some ⟨b1, 0, none⟩, 1, 1, 39, 9, .slice adc c.shape.length cpc :: vecCells c.vec.kind wc nc sc ic fc gc xc⟩] w') (fun i => 1 - i) 0 ⟨rfl, rfl, rfl, rfl, rfl, rfl, rfl, rfl, trivial⟩ ⟨by omega, hs⟩ ?_
  rintro i w7 ⟨hi, hs⟩
  by_cases hlt : i = 0
  · subst hlt
    rw [if_pos rfl] at hs
    refine Zerun ?_
    refine RW.respell (t := 44) (v := .int .i64 m) rfl rfl ?_
    refine RW.respell (t := 45) (v := .int .i64 m) rfl rfl ?_
    refine RW.val (Y.neg rfl ⟨by omega, by omega⟩) rfl ?_
    refine Zerun ?_
    rw [show max m (-m) = (m.natAbs : Int) by omega]
    refine RW.val (Y.idxRN T hs 0 (u := 0) rfl rfl rfl rfl rfl rfl ha0) rfl ?_
    refine RW.st1 T hs 0 rfl rfl rfl rfl rfl rfl rfl ha0 ?_
    intro w8 hs
    dsimp only [List.set_cons_zero] at hs
    rw [map_set_int] at hs
    refine Zerun ?_
    exact loopQ_round 1 ⟨rfl, rfl, rfl, rfl, rfl, rfl, rfl, rfl, trivial⟩ ⟨by omega, by rw [if_neg (by omega)]; exact hs⟩ (by omega)
  obtain rfl : i = 1 := by omega
  rw [if_neg (by omega)] at hs
  obtain ⟨S, hS⟩ : ∃ S, a.shape.set 0 ((m.natAbs : Int)) = S := ⟨_, rfl⟩
  rw [hS] at hs hp hq hw ⊢
  have hSl0 : S.length = a.shape.length := by rw [← hS, List.length_set]
  obtain ⟨h9, hle9, hs, hS9⟩ := hs.freeze
  dsimp only at hS9
  have hI9 : IntsAt h9 (.slice ad6 a.shape.length cp6) S := by
    rw [← hSl0] at hS9 ⊢
    exact IntsAt.of_sl hS9
  have hSl := hSl.mono hle9
  refine Zerun ?_
  have hI9r := hI9
  rw [← hSl0] at hI9r
  have e10 : (Value.slice ad6 a.shape.length cp6) = .slice ad6 S.length cp6 := by rw [hSl0]
  (refine RW.call T hs rfl rfl rfl (product_con' hI9 (by omega)) ?_; intro v h10 w10 hle10 hp10 hs)
  rw [hp] at hp10
  subst hp10
  have hI9 := hI9.mono hle10
  have hSl := hSl.mono hle10
  refine Zerun ?_
  (refine RW.call T hs rfl rfl rfl (contains_con' 0 hI9 (by omega)) ?_; intro v h11 w11 hle11 hp11 hs)
  rw [decide_eq_false hq] at hp11
  subst hp11
  have hI9 := hI9.mono hle11
  have hSl := hSl.mono hle11
  refine Zerun ?_
  (refine RW.lit T hs (vs := [.bool false, .bool true]) (cs := [.bool false, .bool true]) rfl rfl rfl rfl (by simp [Value.cells]) rfl rfl rfl rfl rfl ?_; intro b12 w12 hs)
  obtain ⟨h12, hle12, hs, hS12⟩ := hs.freeze
  have hI9 := hI9.mono hle12
  have hSl := hSl.mono hle12
  have hS12 : Sl h12 1 (some ⟨b12, 0, none⟩) 2 2 [.bool false, .bool true] := hS12
  have hSS : Sl h12 1 ad6 a.shape.length cp6 (S.map (Value.int .i64)) := sl_of_ints hI9 hSl0
  have gS0 : (S.map (Value.int .i64))[0]? = some (.int .i64 (m.natAbs : Int)) := by rw [← hS]; exact set0_get ha0
  have ga0 : (a.shape.map (Value.int .i64))[0]? = some (.int .i64 (n : Int)) := by rw [map_get (Value.int .i64) a.shape 0 0 ha0, hn]
  have g12 := ((hle9.trans hle10).trans hle11).trans hle12
  have hA12 := ArrAt.mono (k + 2) _ _ _ _ g12 hA4
  obtain ⟨av, hav⟩ : ∃ av : ArrD (AD (k + 1)), (⟨S, a.vec.pick (alongL 1 n inner (takenL n m)) (blankA k)⟩ : ArrD (AD (k + 1))) = av := ⟨_, rfl⟩
  have havS : av.shape = S := by rw [← hav]
  rw [hav]
  refine Zerun ?_
  refine CW.loop (fun u : Nat × List Value × ArrD (AD (k + 1)) × GHeap => [(2, .int .i64 most), (4, .pointer (some ⟨b2, 0, none⟩)), (6, .pointer (some ⟨b3, 0, none⟩)), (8, .slice adl 1 cpl), (10, .slice ad6 a.shape.length cp6), (68, .slice (some ⟨b12, 0, none⟩) 2 2), (69, .int .i64 2), (70, .int .i64 u.1)]) (fun u w' => u.1 ≤ 2 ∧ GLe h12 u.2.2.2 ∧ ArrAt (k + 2) u.2.2.2 u.2.1 u.2.2.1 ∧ u.2.2.1 = (if u.1 = 0 ∨ (u.1 = 1 ∧ n < m.natAbs) then a else av) ∧ Sees w h u.2.2.2 [⟨some ⟨b3, 0, none⟩, 1, 1, 39, 9, .slice none 0 0 :: vecCells 0 (.slice none 0 0) 0 (.slice none 0 0) (.slice none 0 0) (.slice none 0 0) (.slice none 0 0) (.slice none 0 0)⟩, ⟨some ⟨b2, 0, none⟩, 1, 1, 39, 9, u.2.1⟩, ⟨some ⟨b1, 0, none⟩, 1, 1, 39, 9, .slice adc c.shape.length cpc :: vecCells c.vec.kind wc nc sc ic fc gc xc⟩] w') (fun u => 2 - u.1) (0, _, a, h12) ⟨rfl, rfl, rfl, rfl, rfl, rfl, rfl, rfl, trivial⟩ ⟨by omega, GLe.refl _, hA12, by rw [if_pos (.inl rfl)], hs⟩ ?_
  rintro ⟨r, cs13, cur, hh⟩ w13 ⟨hr2, hg, hA13, hcur, hs⟩
  dsimp only at hr2 hg hA13 hcur hs ⊢
  have ha13 := hA13
  have hA13 := ha13
  obtain ⟨_, vc13, rfl, ⟨ad13, cp13, rfl, hS13⟩, hv13⟩ := ha13
  have hv13' := hv13
  obtain ⟨wv13, nv13, sm13, il13, fl13, ch13, bx13, ⟨rfl, hoc13⟩, -⟩ := hv13
  have sS0 : S.getD 0 0 = (m.natAbs : Int) := by rw [← hS]; exact set0_getD ha0
  have havn : av.shape.getD 0 0 = (m.natAbs : Int) := by rw [havS]; exact sS0
  have hav8 : av.shape.length = a.shape.length := by rw [havS]; exact hSl0
  by_cases c2 : r = 2
  · subst c2
    rw [if_neg (by omega)] at hcur
    subst cur
    have havq : av.vec.sq = av.vec := by rw [← hav]; exact pickSq2 _ _ _
    have havm : av.vec.len ≤ 1048576 := by rw [← hav]; show (a.vec.pick _ _).len ≤ _; rw [(pick_facts _ _ _).2.2.1, alongL_len, taken_len]; omega
    refine Zerun ?_
    refine CW.regionG T 1 1 hs rfl rfl ?_
    intro w40 hs
    have hgl := GLe.refl hh
    refine HW.takeG (fuel := 7) 0 rfl (fun _ _ ka kb _ hg hs hka hkb => Y.fieldAddr T rfl rfl rfl rfl rfl) ⟨_, _, 1, 1, hgl, hs, rfl, rfl⟩ rfl (by kernel_rfl) (by kernel_rfl) (by kernel_rfl) ?_
    refine HW.takeG (fuel := 6) 1 rfl (fun _ _ ka kb _ hg hs hka hkb => Y.loadRow1 T hs ka hka rfl rfl rfl rfl) ⟨_, _, 1, 1, hgl, hs, rfl, rfl⟩ rfl (by kernel_rfl) (by kernel_rfl) (by kernel_rfl) ?_
    refine HW.takeG (fuel := 5) 2 rfl (fun _ _ ka kb _ hg hs hka hkb => Y.fieldAddr T rfl rfl rfl rfl rfl) ⟨_, _, 1, 1, hgl, hs, rfl, rfl⟩ rfl (by kernel_rfl) (by kernel_rfl) (by kernel_rfl) ?_
    refine HW.takeG (fuel := 4) 3 rfl (fun _ _ ka kb _ hg hs hka hkb => Y.loadRowN T hs ka hka rfl rfl rfl rfl rfl rfl) ⟨_, _, 1, 1, hgl, hs, rfl, rfl⟩ rfl (by kernel_rfl) (by kernel_rfl) (by kernel_rfl) ?_
    refine HW.one (fuel := 3) 4 rfl (by kernel_rfl) ?_
    (refine RW.call T hs rfl rfl rfl (sqSqueeze_con (ArrAt.mono (k + 1)) _ av.vec _ _ (hv13'.mono (ArrAt.mono (k + 1)) hgl) havm) ?_; intro v h123 w123 hle123 hp123 hs)
    rw [havq] at hp123
    obtain ⟨cs123, rfl, hv123⟩ := hp123
    have hv123' := hv123
    obtain ⟨wv, nv, sm, il, fl, ch, bx, ⟨rfl, hoc⟩, -⟩ := hv123
    have hgl := hgl.trans hle123
    refine RW.nil ?_
    refine heldQ_normal ⟨_, _, 1, 1, hgl, hs, rfl, rfl⟩ ?_
    refine HW.takeG (fuel := 2) 5 rfl (fun _ _ ka kb _ hg hs hka hkb => Y.build T rfl rfl rfl rfl rfl rfl rfl) ⟨_, _, 1, 1, hgl, hs, rfl, rfl⟩ rfl (by kernel_rfl) (by kernel_rfl) (by kernel_rfl) ?_
    refine HW.one (fuel := 1) 6 rfl (by kernel_rfl) ?_
    (refine RW.storeAll T hs 0 rfl rfl rfl rfl rfl rfl (by show (true && (vecCells _ wv nv sm il fl ch bx).all Value.oneCell') = true; rw [hoc]; rfl) rfl ?_; intro w124 hs)
    refine RW.nil ?_
    refine heldQ_normal ⟨_, _, 1, 1, hgl, hs, rfl, rfl⟩ ?_
    refine HW.takeG (fuel := 0) 7 rfl (fun _ _ ka kb _ hg hs hka hkb => Y.assign rfl) ⟨_, _, 1, 1, hgl, hs, rfl, rfl⟩ rfl (by kernel_rfl) (by kernel_rfl) (by kernel_rfl) ?_
    refine HW.done (by kernel_rfl) ?_
    refine calmQ_normal ?_
    refine Zerun ?_
    exact retQ_ret [_, _] h123 ⟨resN T hs 0 rfl rfl rfl rfl rfl rfl, rfl, trivial⟩ hs.dropAll ⟨_, rfl, _, _, rfl, ⟨ad13, cp13, rfl, hS13.mono hgl⟩, hv123'⟩
  by_cases c0 : r = 0
  · subst c0
    rw [if_pos (.inl rfl)] at hcur
    subst cur
    have hS12 := hS12.mono hg
    have gb : ([.bool false, .bool true] : List Value)[0]? = some (.bool false) := rfl
    refine Zerun ?_
    refine CW.loop (fun u : Nat × List Value × ArrD (AD (k + 1)) × GHeap => [(2, .int .i64 most), (4, .pointer (some ⟨b2, 0, none⟩)), (6, .pointer (some ⟨b3, 0, none⟩)), (8, .slice adl 1 cpl), (10, .slice ad6 a.shape.length cp6), (68, .slice (some ⟨b12, 0, none⟩) 2 2), (69, .int .i64 2), (70, .int .i64 ((0 : Nat) : Int)), (16, .bool false), (74, .slice adl 1 cpl), (75, .int .i64 1), (76, .int .i64 u.1)]) (fun u w' => u.1 ≤ 1 ∧ GLe h12 u.2.2.2 ∧ ArrAt (k + 2) u.2.2.2 u.2.1 u.2.2.1 ∧ u.2.2.1 = (if u.1 = 0 then a else (if n < m.natAbs then a else av)) ∧ Sees w h u.2.2.2 [⟨some ⟨b3, 0, none⟩, 1, 1, 39, 9, .slice none 0 0 :: vecCells 0 (.slice none 0 0) 0 (.slice none 0 0) (.slice none 0 0) (.slice none 0 0) (.slice none 0 0) (.slice none 0 0)⟩, ⟨some ⟨b2, 0, none⟩, 1, 1, 39, 9, u.2.1⟩, ⟨some ⟨b1, 0, none⟩, 1, 1, 39, 9, .slice adc c.shape.length cpc :: vecCells c.vec.kind wc nc sc ic fc gc xc⟩] w') (fun u => 1 - u.1) (0, _, a, hh) ⟨rfl, rfl, rfl, rfl, rfl, rfl, rfl, rfl, rfl, rfl, rfl, rfl, trivial⟩ ⟨by omega, hg, hA13, by rw [if_pos rfl], hs⟩ ?_
    rintro ⟨i, cs14, cu, h14⟩ w14 ⟨hi2, hg2, ha14, hcu, hs⟩
    dsimp only at hi2 hg2 ha14 hcu hs ⊢
    have hA14 := ha14
    obtain ⟨_, vc14, rfl, ⟨ad14, cp14, rfl, hS14⟩, hv14⟩ := ha14
    have hv14' := hv14
    obtain ⟨wv14, nv14, sm14, il14, fl14, ch14, bx14, ⟨rfl, hoc14⟩, -⟩ := hv14
    have hc14 := hS14.caps
    by_cases hlt2 : i = 0
    rotate_left
    · obtain rfl : i = 1 := by omega
      rw [if_neg (by omega)] at hcu
      subst cu
      refine Zerun ?_
      exact loopQ_round (0 + 1, _, (if n < m.natAbs then a else av), h14) ⟨rfl, rfl, rfl, rfl, rfl, rfl, rfl, rfl, trivial⟩ ⟨by dsimp only; omega, hg2, hA14, by dsimp only; simp only [Nat.zero_add, show ¬ (1 = 0) by omega, false_or, true_and], hs⟩ (by dsimp only; omega)
    subst hlt2
    rw [if_pos rfl] at hcu
    subst cu
    have hSl := hSl.mono hg2
    have hSS := hSS.mono hg2
    by_cases cc : (n : Int) < (m.natAbs : Int)
    · have ee : (if n < m.natAbs then a else av) = a := if_pos (by omega)
      refine Zerun ?_
      refine CW.regionQ T hs (Zeqrun ?_) (by kernel_rfl)
      refine QW.val (fun _ _ => yields_eqv (u2 := .bool true) (Y.neqB T rfl rfl rfl) (congrArg Value.bool (neq_ft (by omega)))) rfl ?_
      refine Zeqrun ?_
      intro w15 hs
      refine Zerun ?_
      exact loopQ_round (1, _, a, h14) ⟨rfl, rfl, rfl, rfl, rfl, rfl, rfl, rfl, rfl, rfl, rfl, rfl, trivial⟩ ⟨by dsimp only; omega, hg2, hA14, by dsimp only; rw [if_neg (by omega), ee], hs⟩ (by dsimp only; omega)
    have ee : (if n < m.natAbs then a else av) = av := if_neg (by omega)
    refine Zerun ?_
    refine CW.regionQ T hs (Zeqrun ?_) (by kernel_rfl)
    refine QW.val (fun _ _ => yields_eqv (u2 := .bool false) (Y.neqB T rfl rfl rfl) (congrArg Value.bool (neq_ff (by omega)))) rfl ?_
    refine Zeqrun ?_
    intro w15 hs
    refine Zerun ?_
    refine RW.respell (t := 98) (v := .int .i64 (n : Int)) rfl (by rw [hn]) ?_
    (refine RW.callM T hs rfl rfl rfl (taken_conM n m 1048576 _ _ _ _ _ hnb ⟨by omega, by omega⟩ ⟨by decide, by decide⟩) ?_; intro v h16 O16 w16 hle16 hp16 hs)
    obtain ⟨e16, hp16⟩ := hp16
    subst e16
    rw [if_pos (by omega)] at hp16
    obtain ⟨b16, rfl, rfl⟩ := hp16
    obtain ⟨h17, hle17, hs, hI17⟩ := freezeI hs (taken_len n m)
    have hA17 := ArrAt.mono (k + 2) _ _ _ _ hle17 hA14
    have hI17' : IntsAt h17 (.slice (some ⟨b16, 0, none⟩) m.natAbs m.natAbs) (takenL n m) := hI17
    refine Zerun ?_
    (refine RW.call T hs rfl rfl rfl (reAlong_con k _ a _ 0 1 n inner (takenL n m) S _ _ hA17 hI17' ha8 hw hs' (by rw [taken_len]; omega) (by decide) (by rw [taken_len]; omega) (by rw [Nat.one_mul]; omega) (by omega) hvm hk0) ?_; intro v h18 w18 hle18 hp18 hs)
    obtain ⟨cs18, rfl, ha18⟩ := hp18
    rw [hav] at ha18
    have hA18 := ha18
    obtain ⟨_, vc18, rfl, ⟨ad18, cp18, rfl, hS18⟩, hv18⟩ := ha18
    have hv18' := hv18
    obtain ⟨wv18, nv18, sm18, il18, fl18, ch18, bx18, ⟨rfl, hoc18⟩, -⟩ := hv18
    refine Zerun ?_
    (refine RW.storeAll T hs 1 rfl rfl rfl rfl rfl rfl (by show (Value.oneCell' (.slice ad18 _ cp18) && (vecCells _ wv18 nv18 sm18 il18 fl18 ch18 bx18).all Value.oneCell') = true; rw [hoc18]; rfl) rfl ?_; intro w19 hs)
    refine Zerun ?_
    exact loopQ_round (1, _, av, h18) ⟨rfl, rfl, rfl, rfl, rfl, rfl, rfl, rfl, rfl, rfl, rfl, rfl, trivial⟩ ⟨by dsimp only; omega, hg2.trans (hle17.trans hle18), hA18, by dsimp only; rw [if_neg (by omega), ee], hs⟩ (by dsimp only; omega)
  obtain rfl : r = 1 := by omega
  have hS12 := hS12.mono hg
  have gb : ([.bool false, .bool true] : List Value)[1]? = some (.bool true) := rfl
  by_cases cc : (n : Int) < (m.natAbs : Int)
  · rw [if_pos (.inr ⟨rfl, by omega⟩)] at hcur
    subst cur
    refine Zerun ?_
    refine CW.loop (fun u : Nat × List Value × ArrD (AD (k + 1)) × GHeap => [(2, .int .i64 most), (4, .pointer (some ⟨b2, 0, none⟩)), (6, .pointer (some ⟨b3, 0, none⟩)), (8, .slice adl 1 cpl), (10, .slice ad6 a.shape.length cp6), (68, .slice (some ⟨b12, 0, none⟩) 2 2), (69, .int .i64 2), (70, .int .i64 ((1 : Nat) : Int)), (16, .bool true), (74, .slice adl 1 cpl), (75, .int .i64 1), (76, .int .i64 u.1)]) (fun u w' => u.1 ≤ 1 ∧ GLe h12 u.2.2.2 ∧ ArrAt (k + 2) u.2.2.2 u.2.1 u.2.2.1 ∧ u.2.2.1 = (if u.1 = 0 then a else av) ∧ Sees w h u.2.2.2 [⟨some ⟨b3, 0, none⟩, 1, 1, 39, 9, .slice none 0 0 :: vecCells 0 (.slice none 0 0) 0 (.slice none 0 0) (.slice none 0 0) (.slice none 0 0) (.slice none 0 0) (.slice none 0 0)⟩, ⟨some ⟨b2, 0, none⟩, 1, 1, 39, 9, u.2.1⟩, ⟨some ⟨b1, 0, none⟩, 1, 1, 39, 9, .slice adc c.shape.length cpc :: vecCells c.vec.kind wc nc sc ic fc gc xc⟩] w') (fun u => 1 - u.1) (0, _, a, hh) ⟨rfl, rfl, rfl, rfl, rfl, rfl, rfl, rfl, rfl, rfl, rfl, rfl, trivial⟩ ⟨by omega, hg, hA13, by rw [if_pos rfl], hs⟩ ?_
    rintro ⟨i, cs14, cu, h14⟩ w14 ⟨hi2, hg2, ha14, hcu, hs⟩
    dsimp only at hi2 hg2 ha14 hcu hs ⊢
    have hA14 := ha14
    obtain ⟨_, vc14, rfl, ⟨ad14, cp14, rfl, hS14⟩, hv14⟩ := ha14
    have hv14' := hv14
    obtain ⟨wv14, nv14, sm14, il14, fl14, ch14, bx14, ⟨rfl, hoc14⟩, -⟩ := hv14
    have hc14 := hS14.caps
    by_cases hlt2 : i = 0
    rotate_left
    · obtain rfl : i = 1 := by omega
      rw [if_neg (by omega)] at hcu
      subst cu
      refine Zerun ?_
      exact loopQ_round (1 + 1, _, av, h14) ⟨rfl, rfl, rfl, rfl, rfl, rfl, rfl, rfl, trivial⟩ ⟨by dsimp only; omega, hg2, hA14, by dsimp only; rw [if_neg (by omega)], hs⟩ (by dsimp only; omega)
    subst hlt2
    rw [if_pos rfl] at hcu
    subst cu
    have hSl := hSl.mono hg2
    have hSS := hSS.mono hg2
    refine Zerun ?_
    refine CW.regionQ T hs (Zeqrun ?_) (by kernel_rfl)
    refine QW.val (fun _ _ => yields_eqv (u2 := .bool false) (Y.neqB T rfl rfl rfl) (congrArg Value.bool (neq_tt (by omega)))) rfl ?_
    refine Zeqrun ?_
    intro w15 hs
    refine Zerun ?_
    refine RW.respell (t := 98) (v := .int .i64 (n : Int)) rfl (by rw [hn]) ?_
    (refine RW.callM T hs rfl rfl rfl (taken_conM n m 1048576 _ _ _ _ _ hnb ⟨by omega, by omega⟩ ⟨by decide, by decide⟩) ?_; intro v h16 O16 w16 hle16 hp16 hs)
    obtain ⟨e16, hp16⟩ := hp16
    subst e16
    rw [if_pos (by omega)] at hp16
    obtain ⟨b16, rfl, rfl⟩ := hp16
    obtain ⟨h17, hle17, hs, hI17⟩ := freezeI hs (taken_len n m)
    have hA17 := ArrAt.mono (k + 2) _ _ _ _ hle17 hA14
    have hI17' : IntsAt h17 (.slice (some ⟨b16, 0, none⟩) m.natAbs m.natAbs) (takenL n m) := hI17
    refine Zerun ?_
    (refine RW.call T hs rfl rfl rfl (reAlong_con k _ a _ 0 1 n inner (takenL n m) S _ _ hA17 hI17' ha8 hw hs' (by rw [taken_len]; omega) (by decide) (by rw [taken_len]; omega) (by rw [Nat.one_mul]; omega) (by omega) hvm hk0) ?_; intro v h18 w18 hle18 hp18 hs)
    obtain ⟨cs18, rfl, ha18⟩ := hp18
    rw [hav] at ha18
    have hA18 := ha18
    obtain ⟨_, vc18, rfl, ⟨ad18, cp18, rfl, hS18⟩, hv18⟩ := ha18
    have hv18' := hv18
    obtain ⟨wv18, nv18, sm18, il18, fl18, ch18, bx18, ⟨rfl, hoc18⟩, -⟩ := hv18
    refine Zerun ?_
    (refine RW.storeAll T hs 1 rfl rfl rfl rfl rfl rfl (by show (Value.oneCell' (.slice ad18 _ cp18) && (vecCells _ wv18 nv18 sm18 il18 fl18 ch18 bx18).all Value.oneCell') = true; rw [hoc18]; rfl) rfl ?_; intro w19 hs)
    refine Zerun ?_
    exact loopQ_round (1, _, av, h18) ⟨rfl, rfl, rfl, rfl, rfl, rfl, rfl, rfl, rfl, rfl, rfl, rfl, trivial⟩ ⟨by dsimp only; omega, hg2.trans (hle17.trans hle18), hA18, by dsimp only; rw [if_neg (by omega)], hs⟩ (by dsimp only; omega)
  rw [if_neg (by omega)] at hcur
  subst cur
  refine Zerun ?_
  refine CW.loop (fun u : Nat × List Value × ArrD (AD (k + 1)) × GHeap => [(2, .int .i64 most), (4, .pointer (some ⟨b2, 0, none⟩)), (6, .pointer (some ⟨b3, 0, none⟩)), (8, .slice adl 1 cpl), (10, .slice ad6 a.shape.length cp6), (68, .slice (some ⟨b12, 0, none⟩) 2 2), (69, .int .i64 2), (70, .int .i64 ((1 : Nat) : Int)), (16, .bool true), (74, .slice adl 1 cpl), (75, .int .i64 1), (76, .int .i64 u.1)]) (fun u w' => u.1 ≤ 1 ∧ GLe h12 u.2.2.2 ∧ ArrAt (k + 2) u.2.2.2 u.2.1 u.2.2.1 ∧ u.2.2.1 = (if u.1 = 0 then av else av) ∧ Sees w h u.2.2.2 [⟨some ⟨b3, 0, none⟩, 1, 1, 39, 9, .slice none 0 0 :: vecCells 0 (.slice none 0 0) 0 (.slice none 0 0) (.slice none 0 0) (.slice none 0 0) (.slice none 0 0) (.slice none 0 0)⟩, ⟨some ⟨b2, 0, none⟩, 1, 1, 39, 9, u.2.1⟩, ⟨some ⟨b1, 0, none⟩, 1, 1, 39, 9, .slice adc c.shape.length cpc :: vecCells c.vec.kind wc nc sc ic fc gc xc⟩] w') (fun u => 1 - u.1) (0, _, av, hh) ⟨rfl, rfl, rfl, rfl, rfl, rfl, rfl, rfl, rfl, rfl, rfl, rfl, trivial⟩ ⟨by omega, hg, hA13, by rw [if_pos rfl], hs⟩ ?_
  rintro ⟨i, cs14, cu, h14⟩ w14 ⟨hi2, hg2, ha14, hcu, hs⟩
  dsimp only at hi2 hg2 ha14 hcu hs ⊢
  have hA14 := ha14
  obtain ⟨_, vc14, rfl, ⟨ad14, cp14, rfl, hS14⟩, hv14⟩ := ha14
  have hv14' := hv14
  obtain ⟨wv14, nv14, sm14, il14, fl14, ch14, bx14, ⟨rfl, hoc14⟩, -⟩ := hv14
  have hc14 := hS14.caps
  by_cases hlt2 : i = 0
  rotate_left
  · obtain rfl : i = 1 := by omega
    rw [if_neg (by omega)] at hcu
    subst cu
    refine Zerun ?_
    exact loopQ_round (1 + 1, _, av, h14) ⟨rfl, rfl, rfl, rfl, rfl, rfl, rfl, rfl, trivial⟩ ⟨by dsimp only; omega, hg2, hA14, by dsimp only; rw [if_neg (by omega)], hs⟩ (by dsimp only; omega)
  subst hlt2
  rw [if_pos rfl] at hcu
  subst cu
  have hSl := hSl.mono hg2
  have hSS := hSS.mono hg2
  refine Zerun ?_
  refine CW.regionQ T hs (Zeqrun ?_) (by kernel_rfl)
  refine QW.val (fun _ _ => yields_eqv (u2 := .bool true) (Y.neqB T rfl rfl rfl) (congrArg Value.bool (neq_tf (by omega)))) rfl ?_
  refine Zeqrun ?_
  intro w15 hs
  refine Zerun ?_
  exact loopQ_round (1, _, av, h14) ⟨rfl, rfl, rfl, rfl, rfl, rfl, rfl, rfl, rfl, rfl, rfl, rfl, trivial⟩ ⟨by dsimp only; omega, hg2, hA14, by dsimp only; rw [if_neg (by omega)], hs⟩ (by dsimp only; omega)
end Go.Proofs.YtmojpbfkpggjhaaGreat

/-
  Contract of reshape.Drop with one count along the first axis. No statement is proved here.
-/
namespace Go.Proofs.YtmojpbfkpggjhaaGreat
open Go Go.RowKit
set_option linter.unusedVariables false
set_option linter.unusedSimpArgs false
set_option maxHeartbeats 4000000
attribute [local irreducible] CW RW QW SW HW ConM retM heldQ calmQ elemP thenQ blockQ loopQ joinQ retQ Yields Con Sl zF magR unitF truncF fwF wholeF tidySpec elemQ rankF leastN tidyW
set_option maxHeartbeats 4000000

theorem reDrop_con (k : Nat) (cc ca : List Value) (c a : ArrD (AD (k + 1))) (m most q : Int) (n inner : Nat) (w : World) (h : GHeap) (hc : ArrAt (k + 2) h cc c) (ha : ArrAt (k + 2) h ca a) (hr : c.shape.length ≤ 1) (hk : c.vec.kind = 1 ∨ c.vec.kind = 2 ∨ c.vec.kind = 3) (hl : c.vec.nums.map (fun x => (wholeF x).1) = [m]) (hcm : c.vec.len ≤ 1048576) (ha0 : 0 < a.shape.length) (ha8 : a.shape.length ≤ 8) (hn : a.shape.getD 0 0 = (n : Int)) (hs' : splitSpec a.shape 0 = (1, (n : Int), (inner : Int), true)) (hvm : a.vec.len ≤ 1048576) (hk0 : a.vec.kind ≠ 0) (hnb : n ≤ 1048576) (hib : n * inner ≤ 1048576) (hmn : (m.natAbs : Int) ≤ n) (hdl : (droppedL n m).length = n - m.natAbs) (hdi : (n - m.natAbs) * inner ≤ 1048576) (hp : product (a.shape.set 0 ((n : Int) - (m.natAbs : Int))) most = (q, 0)) (hq : (0 : Int) ∉ a.shape.set 0 ((n : Int) - (m.natAbs : Int))) (hw : withSpec a.shape ((0 : Nat) : Int) ((droppedL n m).length : Nat) = (a.shape.set 0 ((n : Int) - (m.natAbs : Int)), true)) :
    Con Tryz.prog 44 [.agg cc.toArray, .agg ca.toArray, .int .i64 most] w h (fun h' u => ∃ cs', u = .tuple #[.agg cs'.toArray, .int .i64 0] ∧ ArrAt (k + 2) h' cs' (⟨a.shape.set 0 ((n : Int) - (m.natAbs : Int)), a.vec.pick (alongL 1 n inner (droppedL n m)) (blankA k)⟩ : ArrD (AD (k + 1)))) := by
  have hc' := hc
  obtain ⟨_, vcc, rfl, ⟨adc, cpc, rfl, hSc⟩, hvc⟩ := hc
  have hvc' := hvc
  obtain ⟨wc, nc, sc, ic, fc, gc, xc, ⟨rfl, hoc⟩, -⟩ := hvc
  have mc : ∀ h', GLe h h' → ArrAt (k + 2) h' (.slice adc c.shape.length cpc :: vecCells c.vec.kind wc nc sc ic fc gc xc) c := fun h' hl => ArrAt.mono (k + 2) _ _ _ _ hl hc'
  have hcapc := hSc.caps
  have ha' := ha
  obtain ⟨_, vca, rfl, ⟨ada, cpa, rfl, hSa⟩, hva⟩ := ha
  have hva' := hva
  obtain ⟨wa, na, sa, ia, fa, ga, xa, ⟨rfl, hoa⟩, -⟩ := hva
  have ma : ∀ h', GLe h h' → ArrAt (k + 2) h' (.slice ada a.shape.length cpa :: vecCells a.vec.kind wa na sa ia fa ga xa) a := fun h' hl => ArrAt.mono (k + 2) _ _ _ _ hl ha'
  have hcapa := hSa.caps
  refine Con.of_body Tryz.func44 rfl Tryz.ntmps44 rfl rfl ?_
  intro hs
  refine Zrun ?_
  (refine RW.boxN hs rfl rfl ?_; intro b1 w1 hs)
  refine Zrun ?_
  (refine RW.boxN hs rfl rfl ?_; intro b2 w2 hs)
  refine Zrun ?_
  (refine RW.allocN T hs rfl rfl rfl rfl ?_; intro b3 w3 hs)
  refine Zerun ?_
  (refine RW.call T hs rfl rfl rfl (reAxes_con k _ _ c a [m] _ _ (mc _ (GLe.refl _)) (ma _ (GLe.refl _)) hr hk hl hcm (by show 1 ≤ _; omega) ha0 ha8) ?_; intro v h4 w4 hle4 hp4 hs)
  obtain ⟨s4, cs4, rfl, hI4, ha4⟩ := hp4
  obtain ⟨adl, cpl, rfl, hSl⟩ := hI4
  have hA4 := ha4
  obtain ⟨_, vc4, rfl, ⟨ad4, cp4, rfl, hS4⟩, hv4⟩ := ha4
  have hv4' := hv4
  obtain ⟨wv4, nv4, sm4, il4, fl4, ch4, bx4, ⟨rfl, hoc4⟩, -⟩ := hv4
  have hcap4 := hS4.caps
  have hSl : Sl h4 1 adl 1 cpl ([m].map (Value.int .i64)) := hSl
  refine Zerun ?_
  (refine RW.storeAll T hs 1 rfl rfl rfl rfl rfl rfl (by show (Value.oneCell' (.slice ad4 _ cp4) && (vecCells _ wv4 nv4 sm4 il4 fl4 ch4 bx4).all Value.oneCell') = true; rw [hoc4]; rfl) rfl ?_; intro w5 hs)
  refine Zerun ?_
  (refine RW.callM T hs rfl rfl rfl (cloneInt_conM ad4 cp4 a.shape _ _ _ _ _ hS4 (by omega)) ?_; intro v h6 O6 w6 hle6 hp6 hs)
  obtain ⟨rfl, ad6, cp6, rfl, rfl⟩ := hp6
  have gl0 : ([m].map (Value.int .i64))[0]? = some (.int .i64 m) := rfl
  refine Zerun ?_
  refine CW.loop (fun i : Nat => [(2, .int .i64 most), (4, .pointer (some ⟨b2, 0, none⟩)), (6, .pointer (some ⟨b3, 0, none⟩)), (8, .slice adl 1 cpl), (10, .slice ad6 a.shape.length cp6), (31, .slice adl 1 cpl), (32, .int .i64 1), (33, .int .i64 i)]) (fun i w' => i ≤ 1 ∧ Sees w h h6 [⟨ad6, a.shape.length, cp6, 3, 1, (if i = 0 then a.shape else a.shape.set 0 ((n : Int) - (m.natAbs : Int))).map (Value.int .i64)⟩, ⟨some ⟨b3, 0, none⟩, 1, 1, 39, 9, .slice none 0 0 :: vecCells 0 (.slice none 0 0) 0 (.slice none 0 0) (.slice none 0 0) (.slice none 0 0) (.slice none 0 0) (.slice none 0 0)⟩, ⟨some ⟨b2, 0, none⟩, 1, 1, 39, 9, .slice ad4 a.shape.length cp4 :: vecCells a.vec.kind wv4 nv4 sm4 il4 fl4 ch4 bx4⟩, ⟨some ⟨b1, 0, none⟩, 1, 1, 39, 9, .slice adc c.shape.length cpc :: vecCells c.vec.kind wc nc sc ic fc gc xc⟩] w') (fun i => 1 - i) 0 ⟨rfl, rfl, rfl, rfl, rfl, rfl, rfl, rfl, trivial⟩ ⟨by omega, hs⟩ ?_
  rintro i w7 ⟨hi, hs⟩
  by_cases hlt : i = 0
  · subst hlt
    rw [if_pos rfl] at hs
    refine Zerun ?_
    refine RW.val (Y.idxRN T hs 0 (u := 0) rfl rfl rfl rfl rfl rfl ha0) rfl ?_
    refine RW.val (Y.ldRInt T hs 0 rfl rfl rfl rfl ha0) rfl ?_
    refine Zerun ?_
    refine RW.respell (t := 44) (v := .int .i64 m) rfl rfl ?_
    refine RW.respell (t := 45) (v := .int .i64 m) rfl rfl ?_
    refine RW.respell (t := 43) (v := .int .i64 (n : Int)) rfl (by rw [hn]) ?_
    refine RW.val (Y.neg rfl ⟨by omega, by omega⟩) rfl ?_
    refine Zerun ?_
    try rw [show max m (-m) = (m.natAbs : Int) by omega]
    refine Zerun ?_
    try rw [show max 0 ((n : Int) - (m.natAbs : Int)) = (n : Int) - (m.natAbs : Int) by omega]
    refine RW.val (Y.idxRN T hs 0 (u := 0) rfl rfl rfl rfl rfl rfl ha0) rfl ?_
    refine RW.st1 T hs 0 rfl rfl rfl rfl rfl rfl rfl ha0 ?_
    intro w8 hs
    dsimp only [List.set_cons_zero] at hs
    rw [map_set_int] at hs
    refine Zerun ?_
    exact loopQ_round 1 ⟨rfl, rfl, rfl, rfl, rfl, rfl, rfl, rfl, trivial⟩ ⟨by omega, by rw [if_neg (by omega)]; exact hs⟩ (by omega)
  obtain rfl : i = 1 := by omega
  rw [if_neg (by omega)] at hs
  obtain ⟨S, hS⟩ : ∃ S, a.shape.set 0 ((n : Int) - (m.natAbs : Int)) = S := ⟨_, rfl⟩
  rw [hS] at hs hp hq hw ⊢
  have hSl0 : S.length = a.shape.length := by rw [← hS, List.length_set]
  obtain ⟨h9, hle9, hs, hS9⟩ := hs.freeze
  dsimp only at hS9
  have hI9 : IntsAt h9 (.slice ad6 a.shape.length cp6) S := by
    rw [← hSl0] at hS9 ⊢
    exact IntsAt.of_sl hS9
  have hSl := hSl.mono hle9
  refine Zerun ?_
  have hI9r := hI9
  rw [← hSl0] at hI9r
  have e10 : (Value.slice ad6 a.shape.length cp6) = .slice ad6 S.length cp6 := by rw [hSl0]
  (refine RW.call T hs rfl rfl rfl (product_con' hI9 (by omega)) ?_; intro v h10 w10 hle10 hp10 hs)
  rw [hp] at hp10
  subst hp10
  have hI9 := hI9.mono hle10
  have hSl := hSl.mono hle10
  refine Zerun ?_
  (refine RW.call T hs rfl rfl rfl (contains_con' 0 hI9 (by omega)) ?_; intro v h11 w11 hle11 hp11 hs)
  rw [decide_eq_false hq] at hp11
  subst hp11
  have hSl := hSl.mono hle11
  refine Zerun ?_
  have ga0 : (a.shape.map (Value.int .i64))[0]? = some (.int .i64 (n : Int)) := by rw [map_get (Value.int .i64) a.shape 0 0 ha0, hn]
  have g12 := (hle9.trans hle10).trans hle11
  have hA12 := ArrAt.mono (k + 2) _ _ _ _ g12 hA4
  obtain ⟨av, hav⟩ : ∃ av : ArrD (AD (k + 1)), (⟨S, a.vec.pick (alongL 1 n inner (droppedL n m)) (blankA k)⟩ : ArrD (AD (k + 1))) = av := ⟨_, rfl⟩
  rw [hav]
  refine CW.loop (fun u : Nat × List Value × ArrD (AD (k + 1)) × GHeap => [(2, .int .i64 most), (4, .pointer (some ⟨b2, 0, none⟩)), (6, .pointer (some ⟨b3, 0, none⟩)), (8, .slice adl 1 cpl), (70, .slice adl 1 cpl), (71, .int .i64 1), (72, .int .i64 u.1)]) (fun u w' => u.1 ≤ 1 ∧ GLe h11 u.2.2.2 ∧ ArrAt (k + 2) u.2.2.2 u.2.1 u.2.2.1 ∧ u.2.2.1 = (if u.1 = 0 then a else av) ∧ Sees w h u.2.2.2 [⟨some ⟨b3, 0, none⟩, 1, 1, 39, 9, .slice none 0 0 :: vecCells 0 (.slice none 0 0) 0 (.slice none 0 0) (.slice none 0 0) (.slice none 0 0) (.slice none 0 0) (.slice none 0 0)⟩, ⟨some ⟨b2, 0, none⟩, 1, 1, 39, 9, u.2.1⟩, ⟨some ⟨b1, 0, none⟩, 1, 1, 39, 9, .slice adc c.shape.length cpc :: vecCells c.vec.kind wc nc sc ic fc gc xc⟩] w') (fun u => 1 - u.1) (0, _, a, h11) ⟨rfl, rfl, rfl, rfl, rfl, rfl, rfl, trivial⟩ ⟨by omega, GLe.refl _, hA12, by rw [if_pos rfl], hs⟩ ?_
  rintro ⟨r, cs13, cur, hh⟩ w13 ⟨hr2, hg, hA13, hcur, hs⟩
  dsimp only at hr2 hg hA13 hcur hs ⊢
  have ha13 := hA13
  have hA13 := ha13
  obtain ⟨_, vc13, rfl, ⟨ad13, cp13, rfl, hS13⟩, hv13⟩ := ha13
  have hv13' := hv13
  obtain ⟨wv13, nv13, sm13, il13, fl13, ch13, bx13, ⟨rfl, hoc13⟩, -⟩ := hv13
  have hc13 := hS13.caps
  by_cases c0 : r = 0
  rotate_left
  · obtain rfl : r = 1 := by omega
    rw [if_neg (by omega)] at hcur
    subst cur
    have havq : av.vec.sq = av.vec := by rw [← hav]; exact pickSq2 _ _ _
    have havm : av.vec.len ≤ 1048576 := by rw [← hav]; show (a.vec.pick _ _).len ≤ _; rw [(pick_facts _ _ _).2.2.1, alongL_len, hdl, Nat.one_mul]; exact hdi
    refine Zerun ?_
    refine CW.regionG T 1 1 hs rfl rfl ?_
    intro w40 hs
    have hgl := GLe.refl hh
    refine HW.takeG (fuel := 7) 0 rfl (fun _ _ ka kb _ hg hs hka hkb => Y.fieldAddr T rfl rfl rfl rfl rfl) ⟨_, _, 1, 1, hgl, hs, rfl, rfl⟩ rfl (by kernel_rfl) (by kernel_rfl) (by kernel_rfl) ?_
    refine HW.takeG (fuel := 6) 1 rfl (fun _ _ ka kb _ hg hs hka hkb => Y.loadRow1 T hs ka hka rfl rfl rfl rfl) ⟨_, _, 1, 1, hgl, hs, rfl, rfl⟩ rfl (by kernel_rfl) (by kernel_rfl) (by kernel_rfl) ?_
    refine HW.takeG (fuel := 5) 2 rfl (fun _ _ ka kb _ hg hs hka hkb => Y.fieldAddr T rfl rfl rfl rfl rfl) ⟨_, _, 1, 1, hgl, hs, rfl, rfl⟩ rfl (by kernel_rfl) (by kernel_rfl) (by kernel_rfl) ?_
    refine HW.takeG (fuel := 4) 3 rfl (fun _ _ ka kb _ hg hs hka hkb => Y.loadRowN T hs ka hka rfl rfl rfl rfl rfl rfl) ⟨_, _, 1, 1, hgl, hs, rfl, rfl⟩ rfl (by kernel_rfl) (by kernel_rfl) (by kernel_rfl) ?_
    refine HW.one (fuel := 3) 4 rfl (by kernel_rfl) ?_
    (refine RW.call T hs rfl rfl rfl (sqSqueeze_con (ArrAt.mono (k + 1)) _ av.vec _ _ (hv13'.mono (ArrAt.mono (k + 1)) hgl) havm) ?_; intro v h123 w123 hle123 hp123 hs)
    rw [havq] at hp123
    obtain ⟨cs123, rfl, hv123⟩ := hp123
    have hv123' := hv123
    obtain ⟨wv, nv, sm, il, fl, ch, bx, ⟨rfl, hoc⟩, -⟩ := hv123
    have hgl := hgl.trans hle123
    refine RW.nil ?_
    refine heldQ_normal ⟨_, _, 1, 1, hgl, hs, rfl, rfl⟩ ?_
    refine HW.takeG (fuel := 2) 5 rfl (fun _ _ ka kb _ hg hs hka hkb => Y.build T rfl rfl rfl rfl rfl rfl rfl) ⟨_, _, 1, 1, hgl, hs, rfl, rfl⟩ rfl (by kernel_rfl) (by kernel_rfl) (by kernel_rfl) ?_
    refine HW.one (fuel := 1) 6 rfl (by kernel_rfl) ?_
    (refine RW.storeAll T hs 0 rfl rfl rfl rfl rfl rfl (by show (true && (vecCells _ wv nv sm il fl ch bx).all Value.oneCell') = true; rw [hoc]; rfl) rfl ?_; intro w124 hs)
    refine RW.nil ?_
    refine heldQ_normal ⟨_, _, 1, 1, hgl, hs, rfl, rfl⟩ ?_
    refine HW.takeG (fuel := 0) 7 rfl (fun _ _ ka kb _ hg hs hka hkb => Y.assign rfl) ⟨_, _, 1, 1, hgl, hs, rfl, rfl⟩ rfl (by kernel_rfl) (by kernel_rfl) (by kernel_rfl) ?_
    refine HW.done (by kernel_rfl) ?_
    refine calmQ_normal ?_
    refine Zerun ?_
    exact retQ_ret [_, _] h123 ⟨resN T hs 0 rfl rfl rfl rfl rfl rfl, rfl, trivial⟩ hs.dropAll ⟨_, rfl, _, _, rfl, ⟨ad13, cp13, rfl, hS13.mono hgl⟩, hv123'⟩
  subst c0
  rw [if_pos rfl] at hcur
  subst cur
  have hSl := hSl.mono hg
  refine Zerun ?_
  refine Zerun ?_
  refine CW.meet (fun u : List Value × GHeap => [(2, .int .i64 most), (4, .pointer (some ⟨b2, 0, none⟩)), (6, .pointer (some ⟨b3, 0, none⟩)), (8, .slice adl 1 cpl), (70, .slice adl 1 cpl), (71, .int .i64 1), (72, .int .i64 0), (9, .int .i64 0)]) (fun u w' => GLe h11 u.2 ∧ ArrAt (k + 2) u.2 u.1 av ∧ Sees w h u.2 [⟨some ⟨b3, 0, none⟩, 1, 1, 39, 9, .slice none 0 0 :: vecCells 0 (.slice none 0 0) 0 (.slice none 0 0) (.slice none 0 0) (.slice none 0 0) (.slice none 0 0) (.slice none 0 0)⟩, ⟨some ⟨b2, 0, none⟩, 1, 1, 39, 9, u.1⟩, ⟨some ⟨b1, 0, none⟩, 1, 1, 39, 9, .slice adc c.shape.length cpc :: vecCells c.vec.kind wc nc sc ic fc gc xc⟩] w') ?_ ?_
  · refine CW.regionG T 0 0 hs rfl rfl ?_
    intro w41 hs
    have hgl := GLe.refl hh
    refine HW.takeG (fuel := 14) 1 rfl (fun _ _ ka kb _ hg hs hka hkb => Y.move rfl) ⟨_, _, 0, 0, hgl, hs, rfl, rfl⟩ rfl (by kernel_rfl) (by kernel_rfl) (by kernel_rfl) ?_
    refine HW.takeG (fuel := 13) 2 rfl (fun _ _ ka kb _ hg hs hka hkb => Y.fieldAddr T rfl rfl rfl rfl rfl) ⟨_, _, 0, 0, hgl, hs, rfl, rfl⟩ rfl (by kernel_rfl) (by kernel_rfl) (by kernel_rfl) ?_
    refine HW.takeG (fuel := 12) 4 rfl (fun _ _ ka kb _ hg hs hka hkb => Y.move rfl) ⟨_, _, 0, 0, hgl, hs, rfl, rfl⟩ rfl (by kernel_rfl) (by kernel_rfl) (by kernel_rfl) ?_
    refine HW.takeG (fuel := 11) 7 rfl (fun _ _ ka kb _ hg hs hka hkb => Y.move rfl) ⟨_, _, 0, 0, hgl, hs, rfl, rfl⟩ rfl (by kernel_rfl) (by kernel_rfl) (by kernel_rfl) ?_
    refine HW.two (fuel := 10) 0 3 rfl rfl (by kernel_rfl) ?_ ?_
    · refine RW.val (Y.loadRowN T hs 1 rfl rfl rfl rfl rfl rfl rfl) rfl ?_
      refine RW.nil ?_
      refine heldQ_normal ⟨_, _, 0, 0, hgl, hs, rfl, rfl⟩ ?_
      refine HW.one (fuel := 9) 3 rfl (by kernel_rfl) ?_
      refine RW.val (Y.loadRow1 T hs 1 rfl rfl rfl rfl rfl) rfl ?_
      refine RW.nil ?_
      refine heldQ_normal ⟨_, _, 0, 0, hgl, hs, rfl, rfl⟩ ?_
      refine HW.takeG (fuel := 8) 5 rfl (fun _ _ ka kb _ hg hs hka hkb => Y.idxSN (u := 0) T rfl rfl (hS13.mono hg) rfl rfl rfl ha0) ⟨_, _, 0, 0, hgl, hs, rfl, rfl⟩ rfl (by kernel_rfl) (by kernel_rfl) (by kernel_rfl) ?_
      refine HW.takeG (fuel := 7) 6 rfl (fun _ _ ka kb _ hg hs hka hkb => Y.ldS (j := 0) T hs rfl (hS13.mono hg) rfl rfl ha0 ga0) ⟨_, _, 0, 0, hgl, hs, rfl, rfl⟩ rfl (by kernel_rfl) (by kernel_rfl) (by kernel_rfl) ?_
      refine HW.one (fuel := 6) 8 rfl (by kernel_rfl) ?_
      refine RW.respell (t := 84) (v := .int .i64 (n : Int)) rfl rfl ?_
      (refine RW.call T hs rfl rfl rfl (dropped_con n m _ _ hnb) ?_; intro v h86 w86 hle86 hp86 hs)
      obtain ⟨adv, cpv, rfl, hSv⟩ := id hp86
      have hgl := hgl.trans hle86
      refine RW.nil ?_
      refine heldQ_normal ⟨_, _, 0, 0, hgl, hs, rfl, rfl⟩ ?_
      refine HW.one (fuel := 5) 9 rfl (by kernel_rfl) ?_
      have hA17 := ArrAt.mono (k + 2) _ _ _ _ hgl hA13
      (refine RW.call T hs rfl rfl rfl (reAlong_con k _ a _ 0 1 n inner (droppedL n m) S _ _ hA17 hp86 ha8 hw hs' (by rw [hdl]; omega) (by decide) (by rw [hdl, Nat.one_mul]; exact hdi) (by rw [Nat.one_mul]; omega) (by omega) hvm hk0) ?_; intro v h87 w87 hle87 hp87 hs)
      obtain ⟨cs87, rfl, ha87⟩ := hp87
      rw [hav] at ha87
      have hA87 := ha87
      obtain ⟨_, vc87, rfl, ⟨ad87, cp87, rfl, hS87⟩, hv87⟩ := ha87
      have hv87' := hv87
      obtain ⟨wv87, nv87, sm87, il87, fl87, ch87, bx87, ⟨rfl, hoc87⟩, -⟩ := hv87
      have hgl := hgl.trans hle87
      refine RW.nil ?_
      refine heldQ_normal ⟨_, _, 0, 0, hgl, hs, rfl, rfl⟩ ?_
      refine HW.takeG (fuel := 4) 10 rfl (fun _ _ ka kb _ hg hs hka hkb => Y.move rfl) ⟨_, _, 0, 0, hgl, hs, rfl, rfl⟩ rfl (by kernel_rfl) (by kernel_rfl) (by kernel_rfl) ?_
      refine HW.takeG (fuel := 3) 11 rfl (fun _ _ ka kb _ hg hs hka hkb => Y.extract rfl rfl) ⟨_, _, 0, 0, hgl, hs, rfl, rfl⟩ rfl (by kernel_rfl) (by kernel_rfl) (by kernel_rfl) ?_
      refine HW.takeG (fuel := 2) 12 rfl (fun _ _ ka kb _ hg hs hka hkb => Y.extract rfl rfl) ⟨_, _, 0, 0, hgl, hs, rfl, rfl⟩ rfl (by kernel_rfl) (by kernel_rfl) (by kernel_rfl) ?_
      refine HW.one (fuel := 1) 13 rfl (by kernel_rfl) ?_
      (refine RW.storeAll T hs 1 rfl rfl rfl rfl rfl rfl (by show (Value.oneCell' (.slice ad87 _ cp87) && (vecCells _ wv87 nv87 sm87 il87 fl87 ch87 bx87).all Value.oneCell') = true; rw [hoc87]; rfl) rfl ?_; intro w88 hs)
      refine RW.nil ?_
      refine heldQ_normal ⟨_, _, 0, 0, hgl, hs, rfl, rfl⟩ ?_
      refine HW.takeG (fuel := 0) 14 rfl (fun _ _ ka kb _ hg hs hka hkb => Y.assign rfl) ⟨_, _, 0, 0, hgl, hs, rfl, rfl⟩ rfl (by kernel_rfl) (by kernel_rfl) (by kernel_rfl) ?_
      refine HW.done (by kernel_rfl) ?_
      refine calmQ_normal ?_
      exact joinQ_meet (_, h87) ⟨rfl, rfl, rfl, rfl, rfl, rfl, rfl, rfl, trivial⟩ ⟨hg.trans hgl, hA87, hs⟩
    · refine RW.val (Y.loadRow1 T hs 1 rfl rfl rfl rfl rfl) rfl ?_
      refine RW.nil ?_
      refine heldQ_normal ⟨_, _, 0, 0, hgl, hs, rfl, rfl⟩ ?_
      refine HW.takeG (fuel := 9) 5 rfl (fun _ _ ka kb _ hg hs hka hkb => Y.idxSN (u := 0) T rfl rfl (hS13.mono hg) rfl rfl rfl ha0) ⟨_, _, 0, 0, hgl, hs, rfl, rfl⟩ rfl (by kernel_rfl) (by kernel_rfl) (by kernel_rfl) ?_
      refine HW.takeG (fuel := 8) 6 rfl (fun _ _ ka kb _ hg hs hka hkb => Y.ldS (j := 0) T hs rfl (hS13.mono hg) rfl rfl ha0 ga0) ⟨_, _, 0, 0, hgl, hs, rfl, rfl⟩ rfl (by kernel_rfl) (by kernel_rfl) (by kernel_rfl) ?_
      refine HW.two (fuel := 7) 0 8 rfl rfl (by kernel_rfl) ?_ ?_
      · refine RW.val (Y.loadRowN T hs 1 rfl rfl rfl rfl rfl rfl rfl) rfl ?_
        refine RW.nil ?_
        refine heldQ_normal ⟨_, _, 0, 0, hgl, hs, rfl, rfl⟩ ?_
        refine HW.one (fuel := 6) 8 rfl (by kernel_rfl) ?_
        refine RW.respell (t := 84) (v := .int .i64 (n : Int)) rfl rfl ?_
        (refine RW.call T hs rfl rfl rfl (dropped_con n m _ _ hnb) ?_; intro v h86 w86 hle86 hp86 hs)
        obtain ⟨adv, cpv, rfl, hSv⟩ := id hp86
        have hgl := hgl.trans hle86
        refine RW.nil ?_
        refine heldQ_normal ⟨_, _, 0, 0, hgl, hs, rfl, rfl⟩ ?_
        refine HW.one (fuel := 5) 9 rfl (by kernel_rfl) ?_
        have hA17 := ArrAt.mono (k + 2) _ _ _ _ hgl hA13
        (refine RW.call T hs rfl rfl rfl (reAlong_con k _ a _ 0 1 n inner (droppedL n m) S _ _ hA17 hp86 ha8 hw hs' (by rw [hdl]; omega) (by decide) (by rw [hdl, Nat.one_mul]; exact hdi) (by rw [Nat.one_mul]; omega) (by omega) hvm hk0) ?_; intro v h87 w87 hle87 hp87 hs)
        obtain ⟨cs87, rfl, ha87⟩ := hp87
        rw [hav] at ha87
        have hA87 := ha87
        obtain ⟨_, vc87, rfl, ⟨ad87, cp87, rfl, hS87⟩, hv87⟩ := ha87
        have hv87' := hv87
        obtain ⟨wv87, nv87, sm87, il87, fl87, ch87, bx87, ⟨rfl, hoc87⟩, -⟩ := hv87
        have hgl := hgl.trans hle87
        refine RW.nil ?_
        refine heldQ_normal ⟨_, _, 0, 0, hgl, hs, rfl, rfl⟩ ?_
        refine HW.takeG (fuel := 4) 10 rfl (fun _ _ ka kb _ hg hs hka hkb => Y.move rfl) ⟨_, _, 0, 0, hgl, hs, rfl, rfl⟩ rfl (by kernel_rfl) (by kernel_rfl) (by kernel_rfl) ?_
        refine HW.takeG (fuel := 3) 11 rfl (fun _ _ ka kb _ hg hs hka hkb => Y.extract rfl rfl) ⟨_, _, 0, 0, hgl, hs, rfl, rfl⟩ rfl (by kernel_rfl) (by kernel_rfl) (by kernel_rfl) ?_
        refine HW.takeG (fuel := 2) 12 rfl (fun _ _ ka kb _ hg hs hka hkb => Y.extract rfl rfl) ⟨_, _, 0, 0, hgl, hs, rfl, rfl⟩ rfl (by kernel_rfl) (by kernel_rfl) (by kernel_rfl) ?_
        refine HW.one (fuel := 1) 13 rfl (by kernel_rfl) ?_
        (refine RW.storeAll T hs 1 rfl rfl rfl rfl rfl rfl (by show (Value.oneCell' (.slice ad87 _ cp87) && (vecCells _ wv87 nv87 sm87 il87 fl87 ch87 bx87).all Value.oneCell') = true; rw [hoc87]; rfl) rfl ?_; intro w88 hs)
        refine RW.nil ?_
        refine heldQ_normal ⟨_, _, 0, 0, hgl, hs, rfl, rfl⟩ ?_
        refine HW.takeG (fuel := 0) 14 rfl (fun _ _ ka kb _ hg hs hka hkb => Y.assign rfl) ⟨_, _, 0, 0, hgl, hs, rfl, rfl⟩ rfl (by kernel_rfl) (by kernel_rfl) (by kernel_rfl) ?_
        refine HW.done (by kernel_rfl) ?_
        refine calmQ_normal ?_
        exact joinQ_meet (_, h87) ⟨rfl, rfl, rfl, rfl, rfl, rfl, rfl, rfl, trivial⟩ ⟨hg.trans hgl, hA87, hs⟩
      · refine RW.respell (t := 84) (v := .int .i64 (n : Int)) rfl rfl ?_
        (refine RW.call T hs rfl rfl rfl (dropped_con n m _ _ hnb) ?_; intro v h86 w86 hle86 hp86 hs)
        obtain ⟨adv, cpv, rfl, hSv⟩ := id hp86
        have hgl := hgl.trans hle86
        refine RW.nil ?_
        refine heldQ_normal ⟨_, _, 0, 0, hgl, hs, rfl, rfl⟩ ?_
        refine HW.one (fuel := 6) 0 rfl (by kernel_rfl) ?_
        refine RW.val (Y.loadRowN T hs 1 rfl rfl rfl rfl rfl rfl rfl) rfl ?_
        refine RW.nil ?_
        refine heldQ_normal ⟨_, _, 0, 0, hgl, hs, rfl, rfl⟩ ?_
        refine HW.one (fuel := 5) 9 rfl (by kernel_rfl) ?_
        have hA17 := ArrAt.mono (k + 2) _ _ _ _ hgl hA13
        (refine RW.call T hs rfl rfl rfl (reAlong_con k _ a _ 0 1 n inner (droppedL n m) S _ _ hA17 hp86 ha8 hw hs' (by rw [hdl]; omega) (by decide) (by rw [hdl, Nat.one_mul]; exact hdi) (by rw [Nat.one_mul]; omega) (by omega) hvm hk0) ?_; intro v h87 w87 hle87 hp87 hs)
        obtain ⟨cs87, rfl, ha87⟩ := hp87
        rw [hav] at ha87
        have hA87 := ha87
        obtain ⟨_, vc87, rfl, ⟨ad87, cp87, rfl, hS87⟩, hv87⟩ := ha87
        have hv87' := hv87
        obtain ⟨wv87, nv87, sm87, il87, fl87, ch87, bx87, ⟨rfl, hoc87⟩, -⟩ := hv87
        have hgl := hgl.trans hle87
        refine RW.nil ?_
        refine heldQ_normal ⟨_, _, 0, 0, hgl, hs, rfl, rfl⟩ ?_
        refine HW.takeG (fuel := 4) 10 rfl (fun _ _ ka kb _ hg hs hka hkb => Y.move rfl) ⟨_, _, 0, 0, hgl, hs, rfl, rfl⟩ rfl (by kernel_rfl) (by kernel_rfl) (by kernel_rfl) ?_
        refine HW.takeG (fuel := 3) 11 rfl (fun _ _ ka kb _ hg hs hka hkb => Y.extract rfl rfl) ⟨_, _, 0, 0, hgl, hs, rfl, rfl⟩ rfl (by kernel_rfl) (by kernel_rfl) (by kernel_rfl) ?_
        refine HW.takeG (fuel := 2) 12 rfl (fun _ _ ka kb _ hg hs hka hkb => Y.extract rfl rfl) ⟨_, _, 0, 0, hgl, hs, rfl, rfl⟩ rfl (by kernel_rfl) (by kernel_rfl) (by kernel_rfl) ?_
        refine HW.one (fuel := 1) 13 rfl (by kernel_rfl) ?_
        (refine RW.storeAll T hs 1 rfl rfl rfl rfl rfl rfl (by show (Value.oneCell' (.slice ad87 _ cp87) && (vecCells _ wv87 nv87 sm87 il87 fl87 ch87 bx87).all Value.oneCell') = true; rw [hoc87]; rfl) rfl ?_; intro w88 hs)
        refine RW.nil ?_
        refine heldQ_normal ⟨_, _, 0, 0, hgl, hs, rfl, rfl⟩ ?_
        refine HW.takeG (fuel := 0) 14 rfl (fun _ _ ka kb _ hg hs hka hkb => Y.assign rfl) ⟨_, _, 0, 0, hgl, hs, rfl, rfl⟩ rfl (by kernel_rfl) (by kernel_rfl) (by kernel_rfl) ?_
        refine HW.done (by kernel_rfl) ?_
        refine calmQ_normal ?_
        exact joinQ_meet (_, h87) ⟨rfl, rfl, rfl, rfl, rfl, rfl, rfl, rfl, trivial⟩ ⟨hg.trans hgl, hA87, hs⟩
  rintro ⟨cs50, h50⟩ w50 ⟨hg5, ha50, hs⟩
  dsimp only at hg5 ha50 hs ⊢
  have hA50 := ha50
  obtain ⟨_, vc50, rfl, ⟨ad50, cp50, rfl, hS50⟩, hv50⟩ := ha50
  have hv50' := hv50
  obtain ⟨wv50, nv50, sm50, il50, fl50, ch50, bx50, ⟨rfl, hoc50⟩, -⟩ := hv50
  refine Zerun ?_
  exact loopQ_round (1, _, av, h50) ⟨rfl, rfl, rfl, rfl, rfl, rfl, rfl, trivial⟩ ⟨by dsimp only; omega, hg5, hA50, by dsimp only; rw [if_neg (by omega)], hs⟩ (by dsimp only; omega)
end Go.Proofs.YtmojpbfkpggjhaaGreat

/-
  Contract of the law's own function of layer 22: what is taken of a join, and what is left. No statement is proved here.
-/
namespace Go.Proofs.YtmojpbfkpggjhaaGreat
open Go Go.RowKit
set_option linter.unusedVariables false
set_option linter.unusedSimpArgs false
set_option maxHeartbeats 4000000
attribute [local irreducible] CW RW QW SW HW ConM retM heldQ calmQ elemP thenQ blockQ loopQ joinQ retQ Yields Con Sl zF magR unitF truncF fwF wholeF tidySpec elemQ rankF leastN tidyW
set_option maxHeartbeats 4000000

theorem catSh_same {s0 s1 : List Int} (h : s0.length = s1.length) (h0 : ¬ s0.length = 0) : catSh s0 s1 = s0 := by
  unfold catSh
  rw [if_neg (show ¬ s0.length < s1.length by omega), if_neg h0]
theorem joinPartsLaw_con (k : Nat) (cp0 cq0 : List Value) (p q : PD (k + 2)) (w : World) (h : GHeap) (hp : PlainAt (k + 2) h cp0 p) (hq : PlainAt (k + 2) h cq0 q) : Con Tryz.prog 8 [.agg cp0.toArray, .agg cq0.toArray] w h (fun _ u => u = .bool true) := by
  have hp' := hp
  have hq' := hq
  have hp0 := hp
  have hq0 := hq
  obtain ⟨s, it, rfl, ⟨ad, cp, rfl, hSp⟩, ⟨ad2, cp2, xs, rfl, hIp, _⟩⟩ := hp
  obtain ⟨s2, it2, rfl, ⟨ad3, cp3, rfl, hSq⟩, ⟨ad4, cp4, xs4, rfl, hIq, _⟩⟩ := hq
  have hc1 := hSp.caps
  have hc2 := hSq.caps
  have hc3 := hIp.caps
  have hc4 := hIq.caps
  refine Con.of_body Tryz.func8 rfl Tryz.ntmps8 rfl rfl ?_
  intro hs
  refine Zrun ?_
  (refine RW.boxN hs rfl rfl ?_; intro b1 w1 hs)
  refine Zrun ?_
  (refine RW.boxN hs rfl rfl ?_; intro b2 w2 hs)
  refine Zerun ?_
  (refine RW.call T hs rfl rfl rfl (fine22_con (k + 1) _ p _ _ hp') ?_; intro v h3 w3 hle3 hp3 hs)
  obtain ⟨b, rfl, hbp⟩ := hp3
  have hp' := PlainAt.mono (k + 2) _ _ _ _ hle3 hp'
  have hq' := PlainAt.mono (k + 2) _ _ _ _ hle3 hq'
  cases b with
  | false =>
    refine Zerun ?_
    (refine RW.call T hs rfl rfl rfl (awake22_con _ _) ?_; intro v h13 w13 hle13 hp13 hs)
    subst hp13
    refine Zerun ?_
    exact retQ_ret [_] h13 ⟨rfl, trivial⟩ hs.dropAll rfl
  | true =>
  obtain ⟨hcp, h8p, _⟩ := hbp rfl
  refine Zerun ?_
  (refine RW.call T hs rfl rfl rfl (fine22_con (k + 1) _ q _ _ hq') ?_; intro v h4 w4 hle4 hp4 hs)
  obtain ⟨b, rfl, hbq⟩ := hp4
  have hp' := PlainAt.mono (k + 2) _ _ _ _ hle4 hp'
  have hq' := PlainAt.mono (k + 2) _ _ _ _ hle4 hq'
  cases b with
  | false =>
    refine Zerun ?_
    (refine RW.call T hs rfl rfl rfl (awake22_con _ _) ?_; intro v h14 w14 hle14 hp14 hs)
    subst hp14
    refine Zerun ?_
    exact retQ_ret [_] h14 ⟨rfl, trivial⟩ hs.dropAll rfl
  | true =>
  obtain ⟨hcq, h8q, _⟩ := hbq rfl
  by_cases d1 : (PlainD.shape (α := PD (k + 1)) p).length = (PlainD.shape (α := PD (k + 1)) q).length
  rotate_left
  · have d1' : ¬ ((PlainD.shape (α := PD (k + 1)) p).length : Int) = (PlainD.shape (α := PD (k + 1)) q).length := by omega
    refine Zerun ?_
    (refine RW.call T hs rfl rfl rfl (awake22_con _ _) ?_; intro v h5 w5 hle5 hp5 hs)
    subst hp5
    refine Zerun ?_
    exact retQ_ret [_] h5 ⟨rfl, trivial⟩ hs.dropAll rfl
  have d1' : ((PlainD.shape (α := PD (k + 1)) p).length : Int) = (PlainD.shape (α := PD (k + 1)) q).length := by omega
  by_cases d2 : (PlainD.shape (α := PD (k + 1)) p).length = 0
  · have d2' : ((PlainD.shape (α := PD (k + 1)) p).length : Int) = 0 := by omega
    refine Zerun ?_
    (refine RW.call T hs rfl rfl rfl (awake22_con _ _) ?_; intro v h5 w5 hle5 hp5 hs)
    subst hp5
    refine Zerun ?_
    exact retQ_ret [_] h5 ⟨rfl, trivial⟩ hs.dropAll rfl
  have d2' : ¬ ((PlainD.shape (α := PD (k + 1)) p).length : Int) = 0 := by omega
  by_cases d3 : (PlainD.items (α := PD (k + 1)) p).length = 0
  · have d3' : ((PlainD.items (α := PD (k + 1)) p).length : Int) = 0 := by omega
    refine Zerun ?_
    (refine RW.call T hs rfl rfl rfl (awake22_con _ _) ?_; intro v h5 w5 hle5 hp5 hs)
    subst hp5
    refine Zerun ?_
    exact retQ_ret [_] h5 ⟨rfl, trivial⟩ hs.dropAll rfl
  have d3' : ¬ ((PlainD.items (α := PD (k + 1)) p).length : Int) = 0 := by omega
  by_cases d4 : (PlainD.items (α := PD (k + 1)) q).length = 0
  · have d4' : ((PlainD.items (α := PD (k + 1)) q).length : Int) = 0 := by omega
    refine Zerun ?_
    (refine RW.call T hs rfl rfl rfl (awake22_con _ _) ?_; intro v h5 w5 hle5 hp5 hs)
    subst hp5
    refine Zerun ?_
    exact retQ_ret [_] h5 ⟨rfl, trivial⟩ hs.dropAll rfl
  have d4' : ¬ ((PlainD.items (α := PD (k + 1)) q).length : Int) = 0 := by omega
  refine Zerun ?_
  obtain ⟨Hp, hpp⟩ := tells_of k p _ _ hp0 hcp
  obtain ⟨Hq, hpq⟩ := tells_of k q _ _ hq0 hcq
  refine CW.meet (fun u : Nat × Nat × List Value × List Value × GHeap => [(2, .pointer (some ⟨b1, 0, none⟩)), (3, .pointer (some ⟨b2, 0, none⟩)), (5, .pointer (some ⟨u.1, 0, none⟩)), (6, .pointer (some ⟨u.2.1, 0, none⟩))]) (fun u w' => PlainAt (k + 2) u.2.2.2.2 [.slice ad (PlainD.shape (α := PD (k + 1)) p).length cp, .slice ad2 (PlainD.items (α := PD (k + 1)) p).length cp2, .int .i64 (PlainD.fill (α := PD (k + 1)) p)] p ∧ PlainAt (k + 2) u.2.2.2.2 [.slice ad3 (PlainD.shape (α := PD (k + 1)) q).length cp3, .slice ad4 (PlainD.items (α := PD (k + 1)) q).length cp4, .int .i64 (PlainD.fill (α := PD (k + 1)) q)] q ∧ ArrAt (k + 2) u.2.2.2.2 u.2.2.1 (arr (k + 2) p) ∧ ArrAt (k + 2) u.2.2.2.2 u.2.2.2.1 (arr (k + 2) q) ∧ Sees w h u.2.2.2.2 [⟨some ⟨u.2.1, 0, none⟩, 1, 1, 39, 9, u.2.2.2.1⟩, ⟨some ⟨u.1, 0, none⟩, 1, 1, 39, 9, u.2.2.1⟩, ⟨some ⟨b2, 0, none⟩, 1, 1, 25, 3, [.slice ad3 (PlainD.shape (α := PD (k + 1)) q).length cp3, .slice ad4 (PlainD.items (α := PD (k + 1)) q).length cp4, .int .i64 (PlainD.fill (α := PD (k + 1)) q)]⟩, ⟨some ⟨b1, 0, none⟩, 1, 1, 25, 3, [.slice ad (PlainD.shape (α := PD (k + 1)) p).length cp, .slice ad2 (PlainD.items (α := PD (k + 1)) p).length cp2, .int .i64 (PlainD.fill (α := PD (k + 1)) p)]⟩] w') ?_ ?_
  · refine CW.regionR T 1 0 hs rfl rfl ?_
    intro w7 hs
    refine HW.takeR (fuel := 7) 0 rfl (fun _ _ ka kb _ hs hka hkb => Y.loadRowN T hs ka hka rfl rfl rfl rfl rfl rfl) ⟨_, _, 1, 0, hs, rfl, rfl⟩ rfl (by kernel_rfl) (by kernel_rfl) (by kernel_rfl) ?_
    refine HW.takeR (fuel := 6) 2 rfl (fun _ _ ka kb _ hs hka hkb => Y.loadRowN T hs kb hkb rfl rfl rfl rfl rfl rfl) ⟨_, _, 1, 0, hs, rfl, rfl⟩ rfl (by kernel_rfl) (by kernel_rfl) (by kernel_rfl) ?_
    refine HW.three (fuel := 5) 1 4 5 rfl rfl rfl (by kernel_rfl) ?_ ?_ ?_
    · (refine RW.call T hs rfl rfl rfl (of07_con (k + 2) _ p _ _ hp' hcp) ?_; intro v h51 w51 hle51 hp51 hs)
      obtain ⟨cs51, rfl, _, _, hn51⟩ := hp51
      have hn51 : ArrAt (k + 2) h51 cs51 (arr (k + 2) p) := hn51
      obtain ⟨_, vc51, rfl, ⟨ad51, cp51, rfl, hS51⟩, hv51⟩ := id hn51
      obtain ⟨wv51, nv51, sm51, il51, fl51, ch51, bx51, ⟨rfl, hoc51⟩, -⟩ := hv51
      have hp' := PlainAt.mono (k + 2) _ _ _ _ hle51 hp'
      have hq' := PlainAt.mono (k + 2) _ _ _ _ hle51 hq'
      refine RW.nil ?_
      refine heldQ_normal ⟨_, _, 1, 0, hs, rfl, rfl⟩ ?_
      refine HW.three (fuel := 4) 3 4 5 rfl rfl rfl (by kernel_rfl) ?_ ?_ ?_
      · (refine RW.call T hs rfl rfl rfl (of07_con (k + 2) _ q _ _ hq' hcq) ?_; intro v h53 w53 hle53 hp53 hs)
        obtain ⟨cs53, rfl, _, _, hn53⟩ := hp53
        have hn53 : ArrAt (k + 2) h53 cs53 (arr (k + 2) q) := hn53
        obtain ⟨_, vc53, rfl, ⟨ad53, cp53, rfl, hS53⟩, hv53⟩ := id hn53
        obtain ⟨wv53, nv53, sm53, il53, fl53, ch53, bx53, ⟨rfl, hoc53⟩, -⟩ := hv53
        have hp' := PlainAt.mono (k + 2) _ _ _ _ hle53 hp'
        have hq' := PlainAt.mono (k + 2) _ _ _ _ hle53 hq'
        have hn51 := ArrAt.mono (k + 2) _ _ _ _ hle53 hn51
        refine RW.nil ?_
        refine heldQ_normal ⟨_, _, 1, 0, hs, rfl, rfl⟩ ?_
        refine HW.two (fuel := 3) 4 5 rfl rfl (by kernel_rfl) ?_ ?_
        · (refine RW.allocN T hs rfl rfl rfl rfl ?_; intro b5 w5 hs)
          refine RW.nil ?_
          refine heldQ_normal ⟨_, _, 2, 1, hs, rfl, rfl⟩ ?_
          refine HW.one (fuel := 2) 5 rfl (by kernel_rfl) ?_
          (refine RW.allocN T hs rfl rfl rfl rfl ?_; intro b6 w6 hs)
          refine RW.nil ?_
          refine heldQ_normal ⟨_, _, 3, 2, hs, rfl, rfl⟩ ?_
          refine HW.one (fuel := 1) 6 rfl (by kernel_rfl) ?_
          refine RW.storeAll T hs 1 rfl rfl rfl rfl rfl rfl (by show (Value.oneCell' (.slice ad51 _ cp51) && (vecCells _ wv51 nv51 sm51 il51 fl51 ch51 bx51).all Value.oneCell') = true; rw [hoc51]; rfl) rfl ?_
          intro w906 hs
          refine RW.nil ?_
          refine heldQ_normal ⟨_, _, 3, 2, hs, rfl, rfl⟩ ?_
          refine HW.one (fuel := 0) 7 rfl (by kernel_rfl) ?_
          refine RW.storeAll T hs 0 rfl rfl rfl rfl rfl rfl (by show (Value.oneCell' (.slice ad53 _ cp53) && (vecCells _ wv53 nv53 sm53 il53 fl53 ch53 bx53).all Value.oneCell') = true; rw [hoc53]; rfl) rfl ?_
          intro w907 hs
          refine RW.nil ?_
          refine heldQ_normal ⟨_, _, 3, 2, hs, rfl, rfl⟩ ?_
          refine HW.done (by kernel_rfl) ?_
          refine calmQ_normal ?_
          exact joinQ_meet (b5, b6, _, _, h53) ⟨rfl, rfl, rfl, rfl, trivial⟩ ⟨hp', hq', hn51, hn53, hs⟩
        · (refine RW.allocN T hs rfl rfl rfl rfl ?_; intro b6 w6 hs)
          refine RW.nil ?_
          refine heldQ_normal ⟨_, _, 2, 1, hs, rfl, rfl⟩ ?_
          refine HW.one (fuel := 2) 4 rfl (by kernel_rfl) ?_
          (refine RW.allocN T hs rfl rfl rfl rfl ?_; intro b5 w5 hs)
          refine RW.nil ?_
          refine heldQ_normal ⟨_, _, 3, 2, hs, rfl, rfl⟩ ?_
          refine HW.one (fuel := 1) 6 rfl (by kernel_rfl) ?_
          refine RW.storeAll T hs 0 rfl rfl rfl rfl rfl rfl (by show (Value.oneCell' (.slice ad51 _ cp51) && (vecCells _ wv51 nv51 sm51 il51 fl51 ch51 bx51).all Value.oneCell') = true; rw [hoc51]; rfl) rfl ?_
          intro w906 hs
          refine RW.nil ?_
          refine heldQ_normal ⟨_, _, 3, 2, hs, rfl, rfl⟩ ?_
          refine HW.one (fuel := 0) 7 rfl (by kernel_rfl) ?_
          refine RW.storeAll T hs 1 rfl rfl rfl rfl rfl rfl (by show (Value.oneCell' (.slice ad53 _ cp53) && (vecCells _ wv53 nv53 sm53 il53 fl53 ch53 bx53).all Value.oneCell') = true; rw [hoc53]; rfl) rfl ?_
          intro w907 hs
          refine RW.nil ?_
          refine heldQ_normal ⟨_, _, 3, 2, hs, rfl, rfl⟩ ?_
          refine HW.done (by kernel_rfl) ?_
          refine calmQ_normal ?_
          exact joinQ_meet (b5, b6, _, _, h53) ⟨rfl, rfl, rfl, rfl, trivial⟩ ⟨hp', hq', hn51, hn53, hs.swap⟩
      · (refine RW.allocN T hs rfl rfl rfl rfl ?_; intro b5 w5 hs)
        refine RW.nil ?_
        refine heldQ_normal ⟨_, _, 2, 1, hs, rfl, rfl⟩ ?_
        refine HW.two (fuel := 3) 3 5 rfl rfl (by kernel_rfl) ?_ ?_
        · (refine RW.call T hs rfl rfl rfl (of07_con (k + 2) _ q _ _ hq' hcq) ?_; intro v h53 w53 hle53 hp53 hs)
          obtain ⟨cs53, rfl, _, _, hn53⟩ := hp53
          have hn53 : ArrAt (k + 2) h53 cs53 (arr (k + 2) q) := hn53
          obtain ⟨_, vc53, rfl, ⟨ad53, cp53, rfl, hS53⟩, hv53⟩ := id hn53
          obtain ⟨wv53, nv53, sm53, il53, fl53, ch53, bx53, ⟨rfl, hoc53⟩, -⟩ := hv53
          have hp' := PlainAt.mono (k + 2) _ _ _ _ hle53 hp'
          have hq' := PlainAt.mono (k + 2) _ _ _ _ hle53 hq'
          have hn51 := ArrAt.mono (k + 2) _ _ _ _ hle53 hn51
          refine RW.nil ?_
          refine heldQ_normal ⟨_, _, 2, 1, hs, rfl, rfl⟩ ?_
          refine HW.one (fuel := 2) 5 rfl (by kernel_rfl) ?_
          (refine RW.allocN T hs rfl rfl rfl rfl ?_; intro b6 w6 hs)
          refine RW.nil ?_
          refine heldQ_normal ⟨_, _, 3, 2, hs, rfl, rfl⟩ ?_
          refine HW.one (fuel := 1) 6 rfl (by kernel_rfl) ?_
          refine RW.storeAll T hs 1 rfl rfl rfl rfl rfl rfl (by show (Value.oneCell' (.slice ad51 _ cp51) && (vecCells _ wv51 nv51 sm51 il51 fl51 ch51 bx51).all Value.oneCell') = true; rw [hoc51]; rfl) rfl ?_
          intro w906 hs
          refine RW.nil ?_
          refine heldQ_normal ⟨_, _, 3, 2, hs, rfl, rfl⟩ ?_
          refine HW.one (fuel := 0) 7 rfl (by kernel_rfl) ?_
          refine RW.storeAll T hs 0 rfl rfl rfl rfl rfl rfl (by show (Value.oneCell' (.slice ad53 _ cp53) && (vecCells _ wv53 nv53 sm53 il53 fl53 ch53 bx53).all Value.oneCell') = true; rw [hoc53]; rfl) rfl ?_
          intro w907 hs
          refine RW.nil ?_
          refine heldQ_normal ⟨_, _, 3, 2, hs, rfl, rfl⟩ ?_
          refine HW.done (by kernel_rfl) ?_
          refine calmQ_normal ?_
          exact joinQ_meet (b5, b6, _, _, h53) ⟨rfl, rfl, rfl, rfl, trivial⟩ ⟨hp', hq', hn51, hn53, hs⟩
        · (refine RW.allocN T hs rfl rfl rfl rfl ?_; intro b6 w6 hs)
          refine RW.nil ?_
          refine heldQ_normal ⟨_, _, 3, 2, hs, rfl, rfl⟩ ?_
          refine HW.one (fuel := 2) 3 rfl (by kernel_rfl) ?_
          (refine RW.call T hs rfl rfl rfl (of07_con (k + 2) _ q _ _ hq' hcq) ?_; intro v h53 w53 hle53 hp53 hs)
          obtain ⟨cs53, rfl, _, _, hn53⟩ := hp53
          have hn53 : ArrAt (k + 2) h53 cs53 (arr (k + 2) q) := hn53
          obtain ⟨_, vc53, rfl, ⟨ad53, cp53, rfl, hS53⟩, hv53⟩ := id hn53
          obtain ⟨wv53, nv53, sm53, il53, fl53, ch53, bx53, ⟨rfl, hoc53⟩, -⟩ := hv53
          have hp' := PlainAt.mono (k + 2) _ _ _ _ hle53 hp'
          have hq' := PlainAt.mono (k + 2) _ _ _ _ hle53 hq'
          have hn51 := ArrAt.mono (k + 2) _ _ _ _ hle53 hn51
          refine RW.nil ?_
          refine heldQ_normal ⟨_, _, 3, 2, hs, rfl, rfl⟩ ?_
          refine HW.one (fuel := 1) 6 rfl (by kernel_rfl) ?_
          refine RW.storeAll T hs 1 rfl rfl rfl rfl rfl rfl (by show (Value.oneCell' (.slice ad51 _ cp51) && (vecCells _ wv51 nv51 sm51 il51 fl51 ch51 bx51).all Value.oneCell') = true; rw [hoc51]; rfl) rfl ?_
          intro w906 hs
          refine RW.nil ?_
          refine heldQ_normal ⟨_, _, 3, 2, hs, rfl, rfl⟩ ?_
          refine HW.one (fuel := 0) 7 rfl (by kernel_rfl) ?_
          refine RW.storeAll T hs 0 rfl rfl rfl rfl rfl rfl (by show (Value.oneCell' (.slice ad53 _ cp53) && (vecCells _ wv53 nv53 sm53 il53 fl53 ch53 bx53).all Value.oneCell') = true; rw [hoc53]; rfl) rfl ?_
          intro w907 hs
          refine RW.nil ?_
          refine heldQ_normal ⟨_, _, 3, 2, hs, rfl, rfl⟩ ?_
          refine HW.done (by kernel_rfl) ?_
          refine calmQ_normal ?_
          exact joinQ_meet (b5, b6, _, _, h53) ⟨rfl, rfl, rfl, rfl, trivial⟩ ⟨hp', hq', hn51, hn53, hs⟩
      · (refine RW.allocN T hs rfl rfl rfl rfl ?_; intro b6 w6 hs)
        refine RW.nil ?_
        refine heldQ_normal ⟨_, _, 2, 1, hs, rfl, rfl⟩ ?_
        refine HW.two (fuel := 3) 3 4 rfl rfl (by kernel_rfl) ?_ ?_
        · (refine RW.call T hs rfl rfl rfl (of07_con (k + 2) _ q _ _ hq' hcq) ?_; intro v h53 w53 hle53 hp53 hs)
          obtain ⟨cs53, rfl, _, _, hn53⟩ := hp53
          have hn53 : ArrAt (k + 2) h53 cs53 (arr (k + 2) q) := hn53
          obtain ⟨_, vc53, rfl, ⟨ad53, cp53, rfl, hS53⟩, hv53⟩ := id hn53
          obtain ⟨wv53, nv53, sm53, il53, fl53, ch53, bx53, ⟨rfl, hoc53⟩, -⟩ := hv53
          have hp' := PlainAt.mono (k + 2) _ _ _ _ hle53 hp'
          have hq' := PlainAt.mono (k + 2) _ _ _ _ hle53 hq'
          have hn51 := ArrAt.mono (k + 2) _ _ _ _ hle53 hn51
          refine RW.nil ?_
          refine heldQ_normal ⟨_, _, 2, 1, hs, rfl, rfl⟩ ?_
          refine HW.one (fuel := 2) 4 rfl (by kernel_rfl) ?_
          (refine RW.allocN T hs rfl rfl rfl rfl ?_; intro b5 w5 hs)
          refine RW.nil ?_
          refine heldQ_normal ⟨_, _, 3, 2, hs, rfl, rfl⟩ ?_
          refine HW.one (fuel := 1) 6 rfl (by kernel_rfl) ?_
          refine RW.storeAll T hs 0 rfl rfl rfl rfl rfl rfl (by show (Value.oneCell' (.slice ad51 _ cp51) && (vecCells _ wv51 nv51 sm51 il51 fl51 ch51 bx51).all Value.oneCell') = true; rw [hoc51]; rfl) rfl ?_
          intro w906 hs
          refine RW.nil ?_
          refine heldQ_normal ⟨_, _, 3, 2, hs, rfl, rfl⟩ ?_
          refine HW.one (fuel := 0) 7 rfl (by kernel_rfl) ?_
          refine RW.storeAll T hs 1 rfl rfl rfl rfl rfl rfl (by show (Value.oneCell' (.slice ad53 _ cp53) && (vecCells _ wv53 nv53 sm53 il53 fl53 ch53 bx53).all Value.oneCell') = true; rw [hoc53]; rfl) rfl ?_
          intro w907 hs
          refine RW.nil ?_
          refine heldQ_normal ⟨_, _, 3, 2, hs, rfl, rfl⟩ ?_
          refine HW.done (by kernel_rfl) ?_
          refine calmQ_normal ?_
          exact joinQ_meet (b5, b6, _, _, h53) ⟨rfl, rfl, rfl, rfl, trivial⟩ ⟨hp', hq', hn51, hn53, hs.swap⟩
        · (refine RW.allocN T hs rfl rfl rfl rfl ?_; intro b5 w5 hs)
          refine RW.nil ?_
          refine heldQ_normal ⟨_, _, 3, 2, hs, rfl, rfl⟩ ?_
          refine HW.one (fuel := 2) 3 rfl (by kernel_rfl) ?_
          (refine RW.call T hs rfl rfl rfl (of07_con (k + 2) _ q _ _ hq' hcq) ?_; intro v h53 w53 hle53 hp53 hs)
          obtain ⟨cs53, rfl, _, _, hn53⟩ := hp53
          have hn53 : ArrAt (k + 2) h53 cs53 (arr (k + 2) q) := hn53
          obtain ⟨_, vc53, rfl, ⟨ad53, cp53, rfl, hS53⟩, hv53⟩ := id hn53
          obtain ⟨wv53, nv53, sm53, il53, fl53, ch53, bx53, ⟨rfl, hoc53⟩, -⟩ := hv53
          have hp' := PlainAt.mono (k + 2) _ _ _ _ hle53 hp'
          have hq' := PlainAt.mono (k + 2) _ _ _ _ hle53 hq'
          have hn51 := ArrAt.mono (k + 2) _ _ _ _ hle53 hn51
          refine RW.nil ?_
          refine heldQ_normal ⟨_, _, 3, 2, hs, rfl, rfl⟩ ?_
          refine HW.one (fuel := 1) 6 rfl (by kernel_rfl) ?_
          refine RW.storeAll T hs 0 rfl rfl rfl rfl rfl rfl (by show (Value.oneCell' (.slice ad51 _ cp51) && (vecCells _ wv51 nv51 sm51 il51 fl51 ch51 bx51).all Value.oneCell') = true; rw [hoc51]; rfl) rfl ?_
          intro w906 hs
          refine RW.nil ?_
          refine heldQ_normal ⟨_, _, 3, 2, hs, rfl, rfl⟩ ?_
          refine HW.one (fuel := 0) 7 rfl (by kernel_rfl) ?_
          refine RW.storeAll T hs 1 rfl rfl rfl rfl rfl rfl (by show (Value.oneCell' (.slice ad53 _ cp53) && (vecCells _ wv53 nv53 sm53 il53 fl53 ch53 bx53).all Value.oneCell') = true; rw [hoc53]; rfl) rfl ?_
          intro w907 hs
          refine RW.nil ?_
          refine heldQ_normal ⟨_, _, 3, 2, hs, rfl, rfl⟩ ?_
          refine HW.done (by kernel_rfl) ?_
          refine calmQ_normal ?_
          exact joinQ_meet (b5, b6, _, _, h53) ⟨rfl, rfl, rfl, rfl, trivial⟩ ⟨hp', hq', hn51, hn53, hs.swap⟩
    · (refine RW.allocN T hs rfl rfl rfl rfl ?_; intro b5 w5 hs)
      refine RW.nil ?_
      refine heldQ_normal ⟨_, _, 2, 1, hs, rfl, rfl⟩ ?_
      refine HW.two (fuel := 4) 1 5 rfl rfl (by kernel_rfl) ?_ ?_
      · (refine RW.call T hs rfl rfl rfl (of07_con (k + 2) _ p _ _ hp' hcp) ?_; intro v h51 w51 hle51 hp51 hs)
        obtain ⟨cs51, rfl, _, _, hn51⟩ := hp51
        have hn51 : ArrAt (k + 2) h51 cs51 (arr (k + 2) p) := hn51
        obtain ⟨_, vc51, rfl, ⟨ad51, cp51, rfl, hS51⟩, hv51⟩ := id hn51
        obtain ⟨wv51, nv51, sm51, il51, fl51, ch51, bx51, ⟨rfl, hoc51⟩, -⟩ := hv51
        have hp' := PlainAt.mono (k + 2) _ _ _ _ hle51 hp'
        have hq' := PlainAt.mono (k + 2) _ _ _ _ hle51 hq'
        refine RW.nil ?_
        refine heldQ_normal ⟨_, _, 2, 1, hs, rfl, rfl⟩ ?_
        refine HW.two (fuel := 3) 3 5 rfl rfl (by kernel_rfl) ?_ ?_
        · (refine RW.call T hs rfl rfl rfl (of07_con (k + 2) _ q _ _ hq' hcq) ?_; intro v h53 w53 hle53 hp53 hs)
          obtain ⟨cs53, rfl, _, _, hn53⟩ := hp53
          have hn53 : ArrAt (k + 2) h53 cs53 (arr (k + 2) q) := hn53
          obtain ⟨_, vc53, rfl, ⟨ad53, cp53, rfl, hS53⟩, hv53⟩ := id hn53
          obtain ⟨wv53, nv53, sm53, il53, fl53, ch53, bx53, ⟨rfl, hoc53⟩, -⟩ := hv53
          have hp' := PlainAt.mono (k + 2) _ _ _ _ hle53 hp'
          have hq' := PlainAt.mono (k + 2) _ _ _ _ hle53 hq'
          have hn51 := ArrAt.mono (k + 2) _ _ _ _ hle53 hn51
          refine RW.nil ?_
          refine heldQ_normal ⟨_, _, 2, 1, hs, rfl, rfl⟩ ?_
          refine HW.one (fuel := 2) 5 rfl (by kernel_rfl) ?_
          (refine RW.allocN T hs rfl rfl rfl rfl ?_; intro b6 w6 hs)
          refine RW.nil ?_
          refine heldQ_normal ⟨_, _, 3, 2, hs, rfl, rfl⟩ ?_
          refine HW.one (fuel := 1) 6 rfl (by kernel_rfl) ?_
          refine RW.storeAll T hs 1 rfl rfl rfl rfl rfl rfl (by show (Value.oneCell' (.slice ad51 _ cp51) && (vecCells _ wv51 nv51 sm51 il51 fl51 ch51 bx51).all Value.oneCell') = true; rw [hoc51]; rfl) rfl ?_
          intro w906 hs
          refine RW.nil ?_
          refine heldQ_normal ⟨_, _, 3, 2, hs, rfl, rfl⟩ ?_
          refine HW.one (fuel := 0) 7 rfl (by kernel_rfl) ?_
          refine RW.storeAll T hs 0 rfl rfl rfl rfl rfl rfl (by show (Value.oneCell' (.slice ad53 _ cp53) && (vecCells _ wv53 nv53 sm53 il53 fl53 ch53 bx53).all Value.oneCell') = true; rw [hoc53]; rfl) rfl ?_
          intro w907 hs
          refine RW.nil ?_
          refine heldQ_normal ⟨_, _, 3, 2, hs, rfl, rfl⟩ ?_
          refine HW.done (by kernel_rfl) ?_
          refine calmQ_normal ?_
          exact joinQ_meet (b5, b6, _, _, h53) ⟨rfl, rfl, rfl, rfl, trivial⟩ ⟨hp', hq', hn51, hn53, hs⟩
        · (refine RW.allocN T hs rfl rfl rfl rfl ?_; intro b6 w6 hs)
          refine RW.nil ?_
          refine heldQ_normal ⟨_, _, 3, 2, hs, rfl, rfl⟩ ?_
          refine HW.one (fuel := 2) 3 rfl (by kernel_rfl) ?_
          (refine RW.call T hs rfl rfl rfl (of07_con (k + 2) _ q _ _ hq' hcq) ?_; intro v h53 w53 hle53 hp53 hs)
          obtain ⟨cs53, rfl, _, _, hn53⟩ := hp53
          have hn53 : ArrAt (k + 2) h53 cs53 (arr (k + 2) q) := hn53
          obtain ⟨_, vc53, rfl, ⟨ad53, cp53, rfl, hS53⟩, hv53⟩ := id hn53
          obtain ⟨wv53, nv53, sm53, il53, fl53, ch53, bx53, ⟨rfl, hoc53⟩, -⟩ := hv53
          have hp' := PlainAt.mono (k + 2) _ _ _ _ hle53 hp'
          have hq' := PlainAt.mono (k + 2) _ _ _ _ hle53 hq'
          have hn51 := ArrAt.mono (k + 2) _ _ _ _ hle53 hn51
          refine RW.nil ?_
          refine heldQ_normal ⟨_, _, 3, 2, hs, rfl, rfl⟩ ?_
          refine HW.one (fuel := 1) 6 rfl (by kernel_rfl) ?_
          refine RW.storeAll T hs 1 rfl rfl rfl rfl rfl rfl (by show (Value.oneCell' (.slice ad51 _ cp51) && (vecCells _ wv51 nv51 sm51 il51 fl51 ch51 bx51).all Value.oneCell') = true; rw [hoc51]; rfl) rfl ?_
          intro w906 hs
          refine RW.nil ?_
          refine heldQ_normal ⟨_, _, 3, 2, hs, rfl, rfl⟩ ?_
          refine HW.one (fuel := 0) 7 rfl (by kernel_rfl) ?_
          refine RW.storeAll T hs 0 rfl rfl rfl rfl rfl rfl (by show (Value.oneCell' (.slice ad53 _ cp53) && (vecCells _ wv53 nv53 sm53 il53 fl53 ch53 bx53).all Value.oneCell') = true; rw [hoc53]; rfl) rfl ?_
          intro w907 hs
          refine RW.nil ?_
          refine heldQ_normal ⟨_, _, 3, 2, hs, rfl, rfl⟩ ?_
          refine HW.done (by kernel_rfl) ?_
          refine calmQ_normal ?_
          exact joinQ_meet (b5, b6, _, _, h53) ⟨rfl, rfl, rfl, rfl, trivial⟩ ⟨hp', hq', hn51, hn53, hs⟩
      · (refine RW.allocN T hs rfl rfl rfl rfl ?_; intro b6 w6 hs)
        refine RW.nil ?_
        refine heldQ_normal ⟨_, _, 3, 2, hs, rfl, rfl⟩ ?_
        refine HW.one (fuel := 3) 1 rfl (by kernel_rfl) ?_
        (refine RW.call T hs rfl rfl rfl (of07_con (k + 2) _ p _ _ hp' hcp) ?_; intro v h51 w51 hle51 hp51 hs)
        obtain ⟨cs51, rfl, _, _, hn51⟩ := hp51
        have hn51 : ArrAt (k + 2) h51 cs51 (arr (k + 2) p) := hn51
        obtain ⟨_, vc51, rfl, ⟨ad51, cp51, rfl, hS51⟩, hv51⟩ := id hn51
        obtain ⟨wv51, nv51, sm51, il51, fl51, ch51, bx51, ⟨rfl, hoc51⟩, -⟩ := hv51
        have hp' := PlainAt.mono (k + 2) _ _ _ _ hle51 hp'
        have hq' := PlainAt.mono (k + 2) _ _ _ _ hle51 hq'
        refine RW.nil ?_
        refine heldQ_normal ⟨_, _, 3, 2, hs, rfl, rfl⟩ ?_
        refine HW.one (fuel := 2) 3 rfl (by kernel_rfl) ?_
        (refine RW.call T hs rfl rfl rfl (of07_con (k + 2) _ q _ _ hq' hcq) ?_; intro v h53 w53 hle53 hp53 hs)
        obtain ⟨cs53, rfl, _, _, hn53⟩ := hp53
        have hn53 : ArrAt (k + 2) h53 cs53 (arr (k + 2) q) := hn53
        obtain ⟨_, vc53, rfl, ⟨ad53, cp53, rfl, hS53⟩, hv53⟩ := id hn53
        obtain ⟨wv53, nv53, sm53, il53, fl53, ch53, bx53, ⟨rfl, hoc53⟩, -⟩ := hv53
        have hp' := PlainAt.mono (k + 2) _ _ _ _ hle53 hp'
        have hq' := PlainAt.mono (k + 2) _ _ _ _ hle53 hq'
        have hn51 := ArrAt.mono (k + 2) _ _ _ _ hle53 hn51
        refine RW.nil ?_
        refine heldQ_normal ⟨_, _, 3, 2, hs, rfl, rfl⟩ ?_
        refine HW.one (fuel := 1) 6 rfl (by kernel_rfl) ?_
        refine RW.storeAll T hs 1 rfl rfl rfl rfl rfl rfl (by show (Value.oneCell' (.slice ad51 _ cp51) && (vecCells _ wv51 nv51 sm51 il51 fl51 ch51 bx51).all Value.oneCell') = true; rw [hoc51]; rfl) rfl ?_
        intro w906 hs
        refine RW.nil ?_
        refine heldQ_normal ⟨_, _, 3, 2, hs, rfl, rfl⟩ ?_
        refine HW.one (fuel := 0) 7 rfl (by kernel_rfl) ?_
        refine RW.storeAll T hs 0 rfl rfl rfl rfl rfl rfl (by show (Value.oneCell' (.slice ad53 _ cp53) && (vecCells _ wv53 nv53 sm53 il53 fl53 ch53 bx53).all Value.oneCell') = true; rw [hoc53]; rfl) rfl ?_
        intro w907 hs
        refine RW.nil ?_
        refine heldQ_normal ⟨_, _, 3, 2, hs, rfl, rfl⟩ ?_
        refine HW.done (by kernel_rfl) ?_
        refine calmQ_normal ?_
        exact joinQ_meet (b5, b6, _, _, h53) ⟨rfl, rfl, rfl, rfl, trivial⟩ ⟨hp', hq', hn51, hn53, hs⟩
    · (refine RW.allocN T hs rfl rfl rfl rfl ?_; intro b6 w6 hs)
      refine RW.nil ?_
      refine heldQ_normal ⟨_, _, 2, 1, hs, rfl, rfl⟩ ?_
      refine HW.two (fuel := 4) 1 4 rfl rfl (by kernel_rfl) ?_ ?_
      · (refine RW.call T hs rfl rfl rfl (of07_con (k + 2) _ p _ _ hp' hcp) ?_; intro v h51 w51 hle51 hp51 hs)
        obtain ⟨cs51, rfl, _, _, hn51⟩ := hp51
        have hn51 : ArrAt (k + 2) h51 cs51 (arr (k + 2) p) := hn51
        obtain ⟨_, vc51, rfl, ⟨ad51, cp51, rfl, hS51⟩, hv51⟩ := id hn51
        obtain ⟨wv51, nv51, sm51, il51, fl51, ch51, bx51, ⟨rfl, hoc51⟩, -⟩ := hv51
        have hp' := PlainAt.mono (k + 2) _ _ _ _ hle51 hp'
        have hq' := PlainAt.mono (k + 2) _ _ _ _ hle51 hq'
        refine RW.nil ?_
        refine heldQ_normal ⟨_, _, 2, 1, hs, rfl, rfl⟩ ?_
        refine HW.two (fuel := 3) 3 4 rfl rfl (by kernel_rfl) ?_ ?_
        · (refine RW.call T hs rfl rfl rfl (of07_con (k + 2) _ q _ _ hq' hcq) ?_; intro v h53 w53 hle53 hp53 hs)
          obtain ⟨cs53, rfl, _, _, hn53⟩ := hp53
          have hn53 : ArrAt (k + 2) h53 cs53 (arr (k + 2) q) := hn53
          obtain ⟨_, vc53, rfl, ⟨ad53, cp53, rfl, hS53⟩, hv53⟩ := id hn53
          obtain ⟨wv53, nv53, sm53, il53, fl53, ch53, bx53, ⟨rfl, hoc53⟩, -⟩ := hv53
          have hp' := PlainAt.mono (k + 2) _ _ _ _ hle53 hp'
          have hq' := PlainAt.mono (k + 2) _ _ _ _ hle53 hq'
          have hn51 := ArrAt.mono (k + 2) _ _ _ _ hle53 hn51
          refine RW.nil ?_
          refine heldQ_normal ⟨_, _, 2, 1, hs, rfl, rfl⟩ ?_
          refine HW.one (fuel := 2) 4 rfl (by kernel_rfl) ?_
          (refine RW.allocN T hs rfl rfl rfl rfl ?_; intro b5 w5 hs)
          refine RW.nil ?_
          refine heldQ_normal ⟨_, _, 3, 2, hs, rfl, rfl⟩ ?_
          refine HW.one (fuel := 1) 6 rfl (by kernel_rfl) ?_
          refine RW.storeAll T hs 0 rfl rfl rfl rfl rfl rfl (by show (Value.oneCell' (.slice ad51 _ cp51) && (vecCells _ wv51 nv51 sm51 il51 fl51 ch51 bx51).all Value.oneCell') = true; rw [hoc51]; rfl) rfl ?_
          intro w906 hs
          refine RW.nil ?_
          refine heldQ_normal ⟨_, _, 3, 2, hs, rfl, rfl⟩ ?_
          refine HW.one (fuel := 0) 7 rfl (by kernel_rfl) ?_
          refine RW.storeAll T hs 1 rfl rfl rfl rfl rfl rfl (by show (Value.oneCell' (.slice ad53 _ cp53) && (vecCells _ wv53 nv53 sm53 il53 fl53 ch53 bx53).all Value.oneCell') = true; rw [hoc53]; rfl) rfl ?_
          intro w907 hs
          refine RW.nil ?_
          refine heldQ_normal ⟨_, _, 3, 2, hs, rfl, rfl⟩ ?_
          refine HW.done (by kernel_rfl) ?_
          refine calmQ_normal ?_
          exact joinQ_meet (b5, b6, _, _, h53) ⟨rfl, rfl, rfl, rfl, trivial⟩ ⟨hp', hq', hn51, hn53, hs.swap⟩
        · (refine RW.allocN T hs rfl rfl rfl rfl ?_; intro b5 w5 hs)
          refine RW.nil ?_
          refine heldQ_normal ⟨_, _, 3, 2, hs, rfl, rfl⟩ ?_
          refine HW.one (fuel := 2) 3 rfl (by kernel_rfl) ?_
          (refine RW.call T hs rfl rfl rfl (of07_con (k + 2) _ q _ _ hq' hcq) ?_; intro v h53 w53 hle53 hp53 hs)
          obtain ⟨cs53, rfl, _, _, hn53⟩ := hp53
          have hn53 : ArrAt (k + 2) h53 cs53 (arr (k + 2) q) := hn53
          obtain ⟨_, vc53, rfl, ⟨ad53, cp53, rfl, hS53⟩, hv53⟩ := id hn53
          obtain ⟨wv53, nv53, sm53, il53, fl53, ch53, bx53, ⟨rfl, hoc53⟩, -⟩ := hv53
          have hp' := PlainAt.mono (k + 2) _ _ _ _ hle53 hp'
          have hq' := PlainAt.mono (k + 2) _ _ _ _ hle53 hq'
          have hn51 := ArrAt.mono (k + 2) _ _ _ _ hle53 hn51
          refine RW.nil ?_
          refine heldQ_normal ⟨_, _, 3, 2, hs, rfl, rfl⟩ ?_
          refine HW.one (fuel := 1) 6 rfl (by kernel_rfl) ?_
          refine RW.storeAll T hs 0 rfl rfl rfl rfl rfl rfl (by show (Value.oneCell' (.slice ad51 _ cp51) && (vecCells _ wv51 nv51 sm51 il51 fl51 ch51 bx51).all Value.oneCell') = true; rw [hoc51]; rfl) rfl ?_
          intro w906 hs
          refine RW.nil ?_
          refine heldQ_normal ⟨_, _, 3, 2, hs, rfl, rfl⟩ ?_
          refine HW.one (fuel := 0) 7 rfl (by kernel_rfl) ?_
          refine RW.storeAll T hs 1 rfl rfl rfl rfl rfl rfl (by show (Value.oneCell' (.slice ad53 _ cp53) && (vecCells _ wv53 nv53 sm53 il53 fl53 ch53 bx53).all Value.oneCell') = true; rw [hoc53]; rfl) rfl ?_
          intro w907 hs
          refine RW.nil ?_
          refine heldQ_normal ⟨_, _, 3, 2, hs, rfl, rfl⟩ ?_
          refine HW.done (by kernel_rfl) ?_
          refine calmQ_normal ?_
          exact joinQ_meet (b5, b6, _, _, h53) ⟨rfl, rfl, rfl, rfl, trivial⟩ ⟨hp', hq', hn51, hn53, hs.swap⟩
      · (refine RW.allocN T hs rfl rfl rfl rfl ?_; intro b5 w5 hs)
        refine RW.nil ?_
        refine heldQ_normal ⟨_, _, 3, 2, hs, rfl, rfl⟩ ?_
        refine HW.one (fuel := 3) 1 rfl (by kernel_rfl) ?_
        (refine RW.call T hs rfl rfl rfl (of07_con (k + 2) _ p _ _ hp' hcp) ?_; intro v h51 w51 hle51 hp51 hs)
        obtain ⟨cs51, rfl, _, _, hn51⟩ := hp51
        have hn51 : ArrAt (k + 2) h51 cs51 (arr (k + 2) p) := hn51
        obtain ⟨_, vc51, rfl, ⟨ad51, cp51, rfl, hS51⟩, hv51⟩ := id hn51
        obtain ⟨wv51, nv51, sm51, il51, fl51, ch51, bx51, ⟨rfl, hoc51⟩, -⟩ := hv51
        have hp' := PlainAt.mono (k + 2) _ _ _ _ hle51 hp'
        have hq' := PlainAt.mono (k + 2) _ _ _ _ hle51 hq'
        refine RW.nil ?_
        refine heldQ_normal ⟨_, _, 3, 2, hs, rfl, rfl⟩ ?_
        refine HW.one (fuel := 2) 3 rfl (by kernel_rfl) ?_
        (refine RW.call T hs rfl rfl rfl (of07_con (k + 2) _ q _ _ hq' hcq) ?_; intro v h53 w53 hle53 hp53 hs)
        obtain ⟨cs53, rfl, _, _, hn53⟩ := hp53
        have hn53 : ArrAt (k + 2) h53 cs53 (arr (k + 2) q) := hn53
        obtain ⟨_, vc53, rfl, ⟨ad53, cp53, rfl, hS53⟩, hv53⟩ := id hn53
        obtain ⟨wv53, nv53, sm53, il53, fl53, ch53, bx53, ⟨rfl, hoc53⟩, -⟩ := hv53
        have hp' := PlainAt.mono (k + 2) _ _ _ _ hle53 hp'
        have hq' := PlainAt.mono (k + 2) _ _ _ _ hle53 hq'
        have hn51 := ArrAt.mono (k + 2) _ _ _ _ hle53 hn51
        refine RW.nil ?_
        refine heldQ_normal ⟨_, _, 3, 2, hs, rfl, rfl⟩ ?_
        refine HW.one (fuel := 1) 6 rfl (by kernel_rfl) ?_
        refine RW.storeAll T hs 0 rfl rfl rfl rfl rfl rfl (by show (Value.oneCell' (.slice ad51 _ cp51) && (vecCells _ wv51 nv51 sm51 il51 fl51 ch51 bx51).all Value.oneCell') = true; rw [hoc51]; rfl) rfl ?_
        intro w906 hs
        refine RW.nil ?_
        refine heldQ_normal ⟨_, _, 3, 2, hs, rfl, rfl⟩ ?_
        refine HW.one (fuel := 0) 7 rfl (by kernel_rfl) ?_
        refine RW.storeAll T hs 1 rfl rfl rfl rfl rfl rfl (by show (Value.oneCell' (.slice ad53 _ cp53) && (vecCells _ wv53 nv53 sm53 il53 fl53 ch53 bx53).all Value.oneCell') = true; rw [hoc53]; rfl) rfl ?_
        intro w907 hs
        refine RW.nil ?_
        refine heldQ_normal ⟨_, _, 3, 2, hs, rfl, rfl⟩ ?_
        refine HW.done (by kernel_rfl) ?_
        refine calmQ_normal ?_
        exact joinQ_meet (b5, b6, _, _, h53) ⟨rfl, rfl, rfl, rfl, trivial⟩ ⟨hp', hq', hn51, hn53, hs.swap⟩
  rintro ⟨b5, b6, cs51, cs53, h8⟩ w8 ⟨hp', hq', hA5, hA6, hs⟩
  dsimp only at hp' hq' hA5 hA6 hs ⊢
  obtain ⟨_, vc51, rfl, ⟨ad51, cp51, rfl, hS51⟩, hv51⟩ := id hA5
  obtain ⟨wv51, nv51, sm51, il51, fl51, ch51, bx51, ⟨rfl, hoc51⟩, -⟩ := hv51
  obtain ⟨_, vc53, rfl, ⟨ad53, cp53, rfl, hS53⟩, hv53⟩ := id hA6
  obtain ⟨wv53, nv53, sm53, il53, fl53, ch53, bx53, ⟨rfl, hoc53⟩, -⟩ := hv53
  refine Zerun ?_
  have hsh : catSh (ArrD.shape (α := AD (k + 1)) (arr (k + 2) p)) (ArrD.shape (α := AD (k + 1)) (arr (k + 2) q)) = ArrD.shape (α := AD (k + 1)) (arr (k + 2) p) := by
    show catSh (PlainD.shape (α := PD (k + 1)) p) (PlainD.shape (α := PD (k + 1)) q) = PlainD.shape (α := PD (k + 1)) p
    exact catSh_same d1 d2
  (refine RW.call T hs rfl rfl rfl (joinCatenate_con k _ _ (arr (k + 2) p) (arr (k + 2) q) _ _ _ _ true 1048576 _ _ hA5 hA6 Hp Hq hpp hpq (by decide) (by rw [hsh]; exact .inl rfl) (by rw [hsh]; exact .inl d1.symm)) ?_; intro v h9 w9 hle9 hp9 hs)
  obtain ⟨cs9, rfl, hA9⟩ := hp9
  have hp' := PlainAt.mono (k + 2) _ _ _ _ hle9 hp'
  have hq' := PlainAt.mono (k + 2) _ _ _ _ hle9 hq'
  obtain ⟨⟨e, r⟩, her⟩ : ∃ z, catS (k := k) (arr (k + 2) p) (arr (k + 2) q) true 1048576 = z := ⟨_, rfl⟩
  rw [her] at hA9 ⊢
  dsimp only at hA9 ⊢
  obtain ⟨_, vc9, rfl, ⟨ad9, cp9, rfl, hS9⟩, hv9⟩ := id hA9
  obtain ⟨wv9, nv9, sm9, il9, fl9, ch9, bx9, ⟨rfl, hoc9⟩, -⟩ := hv9
  refine Zerun ?_
  (refine RW.allocN T hs rfl rfl rfl rfl ?_; intro b7 w7 hs)
  refine RW.storeAll T hs 0 rfl rfl rfl rfl rfl rfl (by show (Value.oneCell' (.slice ad9 _ cp9) && (vecCells _ wv9 nv9 sm9 il9 fl9 ch9 bx9).all Value.oneCell') = true; rw [hoc9]; rfl) rfl ?_
  intro w10 hs
  refine Zerun ?_
  by_cases ce : e = 0
  rotate_left
  · refine Zerun ?_
    (refine RW.call T hs rfl rfl rfl (awake22_con _ _) ?_; intro v h11 w11 hle11 hp11 hs)
    subst hp11
    refine Zerun ?_
    exact retQ_ret [_] h11 ⟨rfl, trivial⟩ hs.dropAll rfl
  subst ce
  have her2 : catSx (k := k) (arr (k + 2) p) (arr (k + 2) q) (ArrD.shape (α := AD (k + 1)) (arr (k + 2) p)) 0 1048576 = (0, r) := by
    have := her
    unfold catS at this
    rw [hsh] at this
    exact this
  have hil1 : (ArrD.vec (α := AD (k + 1)) (arr (k + 2) p)).len ≠ 0 := by have := Hp.ln; have e : (PlainD.items (α := PD (k + 1)) (tidy (k + 2) p)).length = (PlainD.items (α := PD (k + 1)) p).length := List.length_map ..; omega
  have hil2 : (ArrD.vec (α := AD (k + 1)) (arr (k + 2) q)).len ≠ 0 := by have := Hq.ln; have e : (PlainD.items (α := PD (k + 1)) (tidy (k + 2) q)).length = (PlainD.items (α := PD (k + 1)) q).length := List.length_map ..; omega
  obtain ⟨S, da, db, inner, eX, eY, eR, hda, hdb, hin, hlen, hla, hlb, hS1, hprR, hk0R, hspR, hgR, res1, res2⟩ := parts_res (k := k) (a := arr (k + 2) p) (b := arr (k + 2) q) (p := tidy (k + 2) p) (q := tidy (k + 2) q) Hp Hq rfl rfl hpp hpq d1 (Nat.pos_of_ne_zero d2) hil1 hil2 her2
  have eX : PlainD.shape (α := PD (k + 1)) p = (da : Int) :: S := eX
  have eY : PlainD.shape (α := PD (k + 1)) q = (db : Int) :: S := eY
  have hRm : r.vec.len ≤ 1048576 := by
    have g := product_good _ hgR
    have g2 := ((goodS_spec _).1 hgR).2.2
    rw [hprR] at g
    have g := congrArg Prod.fst g
    dsimp only at g
    split at g <;> omega
  have hR8 := ((goodS_spec _).1 hgR).1
  have hdab : da + db ≤ 1048576 := by have := Nat.le_mul_of_pos_right (da + db) hin; omega
  have hddi : (da + db) * inner = da * inner + db * inner := Nat.add_mul _ _ _
  have g0 : (PlainD.shape (α := PD (k + 1)) p).getD 0 0 = (da : Int) := by rw [eX]; rfl
  have hSp' : Sl h9 1 ad (PlainD.shape (α := PD (k + 1)) p).length cp ((PlainD.shape (α := PD (k + 1)) p).map (Value.int .i64)) := by obtain ⟨_, _, e0, ⟨_, _, e1, e2⟩, _⟩ := id hp'; cases e0; cases e1; exact e2
  have gs0 := map_get (Value.int .i64) (PlainD.shape (α := PD (k + 1)) p) 0 0 (by omega)
  have hpos0 : 0 < (PlainD.shape (α := PD (k + 1)) p).length := by omega
  refine Zerun ?_
  refine RW.respell (t := 66) (v := .int .i64 (da : Int)) rfl (by rw [← g0]) ?_
  refine RW.val (Y.convIF T rfl rfl rfl) rfl ?_
  refine Zerun ?_
  have hfd := fwF_spec (da : Int) (by omega)
  obtain ⟨wd, hwd⟩ : ∃ wd, fwF (da : Int) = wd := ⟨_, rfl⟩
  rw [hwd] at hfd ⊢
  (refine RW.call T hs rfl rfl rfl (refOne_con (α := PD (k + 1)) (R := PlainAt (k + 1)) wd _ _ hfd.1.1) ?_; intro v h12 w12 hle12 hp12 hs)
  obtain ⟨cs12, rfl, hq12⟩ := hp12
  have hp' := PlainAt.mono (k + 2) _ _ _ _ hle12 hp'
  have hq' := PlainAt.mono (k + 2) _ _ _ _ hle12 hq'
  have hA9 := ArrAt.mono (k + 2) _ _ _ _ hle12 hA9
  refine Zerun ?_
  (refine RW.call T hs rfl rfl rfl (of07_con (k + 2) _ (numQ (k + 1) wd) _ _ hq12 (numQ_chk (k + 1) _ hfd.1.2.1)) ?_; intro v h13 w13 hle13 hp13 hs)
  obtain ⟨cs13, rfl, _, _, hn13⟩ := hp13
  rw [numQ_arr, tidyWj hfd.1] at hn13
  have hA13 : ArrAt (k + 2) h13 cs13 (numA (k + 1) wd : ArrD (AD (k + 1))) := hn13
  have hp' := PlainAt.mono (k + 2) _ _ _ _ hle13 hp'
  have hq' := PlainAt.mono (k + 2) _ _ _ _ hle13 hq'
  have hA9 := ArrAt.mono (k + 2) _ _ _ _ hle13 hA9
  obtain ⟨nn, hnn⟩ : ∃ nn : ArrD (AD (k + 1)), (numA (k + 1) wd : ArrD (AD (k + 1))) = nn := ⟨_, rfl⟩
  have hnk : nn.vec.kind = 1 ∨ nn.vec.kind = 2 ∨ nn.vec.kind = 3 := by
    rw [← hnn]
    show leastN [wd] = 1 ∨ leastN [wd] = 2 ∨ leastN [wd] = 3
    have hb := leastN_bounds [wd]
    have h3 := fw_rank [(da : Int)] (by intro n hn; rw [List.mem_singleton.1 hn]; omega)
    rw [List.map_cons, List.map_nil, hwd] at h3
    omega
  have hnw : nn.vec.nums.map (fun x => (wholeF x).1) = [(da : Int)] := by
    rw [← hnn]
    show [(wholeF wd).1] = _
    rw [← hwd, wholeF_fw _ (by omega)]
  have hnr : nn.shape.length ≤ 1 := by rw [← hnn]; exact Nat.zero_le _
  have hnm : nn.vec.len ≤ 1048576 := by rw [← hnn]; show 1 ≤ _; omega
  rw [hnn] at hA13
  obtain ⟨_, vc13, rfl, ⟨ad13, cp13, rfl, hS13⟩, hv13⟩ := id hA13
  obtain ⟨wv13, nv13, sm13, il13, fl13, ch13, bx13, ⟨rfl, hoc13⟩, -⟩ := hv13
  refine Zerun ?_
  (refine RW.allocN T hs rfl rfl rfl rfl ?_; intro b14 w14 hs)
  refine RW.storeAll T hs 0 rfl rfl rfl rfl rfl rfl (by show (Value.oneCell' (.slice ad13 _ cp13) && (vecCells _ wv13 nv13 sm13 il13 fl13 ch13 bx13).all Value.oneCell') = true; rw [hoc13]; rfl) rfl ?_
  intro w15 hs
  refine Zerun ?_
  have sx : r.shape.set 0 (((da : Int).natAbs : Nat) : Int) = ArrD.shape (α := AD (k + 1)) (arr (k + 2) p) := by rw [eR, Int.natAbs_natCast]; exact eX.symm
  have sy : r.shape.set 0 (((da + db : Nat) : Int) - (((da : Int).natAbs : Nat) : Int)) = ArrD.shape (α := AD (k + 1)) (arr (k + 2) q) := by rw [eR, Int.natAbs_natCast, show ((da + db : Nat) : Int) - (da : Int) = (db : Int) by omega]; exact eY.symm
  have nz : ∀ (d : Nat), 0 < d → (0 : Int) ∉ (d : Int) :: S := fun d hd h0 => by rcases List.mem_cons.1 h0 with h | h; omega; have := hS1 0 h; omega
  have hR0 : 0 < r.shape.length := by rw [eR]; exact Nat.succ_pos _
  have hRn : r.shape.getD 0 0 = ((da + db : Nat) : Int) := by rw [eR]; rfl
  have gX : goodS (ArrD.shape (α := AD (k + 1)) (arr (k + 2) p)) = true := (goodS_iff _).2 (congrArg Prod.snd hpp)
  have gY : goodS (ArrD.shape (α := AD (k + 1)) (arr (k + 2) q)) = true := (goodS_iff _).2 (congrArg Prod.snd hpq)
  have wx : withSpec r.shape ((0 : Nat) : Int) ((takenL (da + db) (da : Int)).length : Nat) = (r.shape.set 0 (((da : Int).natAbs : Nat) : Int), true) := by
    rw [taken_len]
    unfold withSpec
    rw [if_pos ⟨by omega, by omega, by rw [Int.toNat_natCast, sx]; exact gX⟩, Int.toNat_natCast]
  have hdl : (droppedL (da + db) (da : Int)).length = da + db - (da : Int).natAbs := by rw [dropped_len]; unfold dropN; rw [Int.natAbs_natCast]; omega
  have wy : withSpec r.shape ((0 : Nat) : Int) ((droppedL (da + db) (da : Int)).length : Nat) = (r.shape.set 0 (((da + db : Nat) : Int) - (((da : Int).natAbs : Nat) : Int)), true) := by
    rw [hdl, show ((da + db - (da : Int).natAbs : Nat) : Int) = ((da + db : Nat) : Int) - (((da : Int).natAbs : Nat) : Int) by rw [Int.natAbs_natCast]; omega]
    unfold withSpec
    rw [if_pos ⟨by omega, by omega, by rw [Int.toNat_natCast, sy]; exact gY⟩, Int.toNat_natCast]
  (refine RW.call T hs rfl rfl rfl (reTake_con k _ _ nn r (da : Int) 1048576 _ (da + db) inner _ _ hA13 hA9 hnr hnk hnw hnm hR0 hR8 hRn hspR hRm hk0R hdab (by omega) (by rw [Int.natAbs_natCast]; omega) (by rw [Int.natAbs_natCast]; omega) (by rw [sx]; exact hpp) (by rw [sx]; show (0 : Int) ∉ PlainD.shape (α := PD (k + 1)) p; rw [eX]; exact nz da hda) wx) ?_; intro v h16 w16 hle16 hp16 hs)
  obtain ⟨cs16, rfl, hA16⟩ := hp16
  rw [sx] at hA16
  obtain ⟨rx, hrx⟩ : ∃ rx : ArrD (AD (k + 1)), (⟨ArrD.shape (α := AD (k + 1)) (arr (k + 2) p), r.vec.pick (alongL 1 (da + db) inner (takenL (da + db) (da : Int))) (blankA k)⟩ : ArrD (AD (k + 1))) = rx := ⟨_, rfl⟩
  rw [hrx] at hA16 res1
  have hp' := PlainAt.mono (k + 2) _ _ _ _ hle16 hp'
  have hq' := PlainAt.mono (k + 2) _ _ _ _ hle16 hq'
  have hA9 := ArrAt.mono (k + 2) _ _ _ _ hle16 hA9
  have hA13 := ArrAt.mono (k + 2) _ _ _ _ hle16 hA13
  obtain ⟨_, vc16, rfl, ⟨ad16, cp16, rfl, hS16⟩, hv16⟩ := id hA16
  obtain ⟨wv16, nv16, sm16, il16, fl16, ch16, bx16, ⟨rfl, hoc16⟩, -⟩ := hv16
  refine Zerun ?_
  (refine RW.allocN T hs rfl rfl rfl rfl ?_; intro b17 w17 hs)
  refine RW.storeAll T hs 0 rfl rfl rfl rfl rfl rfl (by show (Value.oneCell' (.slice ad16 _ cp16) && (vecCells _ wv16 nv16 sm16 il16 fl16 ch16 bx16).all Value.oneCell') = true; rw [hoc16]; rfl) rfl ?_
  intro w18 hs
  refine Zerun ?_
  (refine RW.call T hs rfl rfl rfl (reDrop_con k _ _ nn r (da : Int) 1048576 _ (da + db) inner _ _ hA13 hA9 hnr hnk hnw hnm hR0 hR8 hRn hspR hRm hk0R hdab (by omega) (by rw [Int.natAbs_natCast]; omega) hdl (by rw [Int.natAbs_natCast, Nat.add_sub_cancel_left]; omega) (by rw [sy]; exact hpq) (by rw [sy]; show (0 : Int) ∉ PlainD.shape (α := PD (k + 1)) q; rw [eY]; exact nz db hdb) wy) ?_; intro v h19 w19 hle19 hp19 hs)
  obtain ⟨cs19, rfl, hA19⟩ := hp19
  rw [sy] at hA19
  obtain ⟨ry, hry⟩ : ∃ ry : ArrD (AD (k + 1)), (⟨ArrD.shape (α := AD (k + 1)) (arr (k + 2) q), r.vec.pick (alongL 1 (da + db) inner (droppedL (da + db) (da : Int))) (blankA k)⟩ : ArrD (AD (k + 1))) = ry := ⟨_, rfl⟩
  rw [hry] at hA19 res2
  have hp' := PlainAt.mono (k + 2) _ _ _ _ hle19 hp'
  have hq' := PlainAt.mono (k + 2) _ _ _ _ hle19 hq'
  have hA16 := ArrAt.mono (k + 2) _ _ _ _ hle19 hA16
  obtain ⟨_, vc19, rfl, ⟨ad19, cp19, rfl, hS19⟩, hv19⟩ := id hA19
  obtain ⟨wv19, nv19, sm19, il19, fl19, ch19, bx19, ⟨rfl, hoc19⟩, -⟩ := hv19
  refine Zerun ?_
  (refine RW.allocN T hs rfl rfl rfl rfl ?_; intro b20 w20 hs)
  refine RW.storeAll T hs 0 rfl rfl rfl rfl rfl rfl (by show (Value.oneCell' (.slice ad19 _ cp19) && (vecCells _ wv19 nv19 sm19 il19 fl19 ch19 bx19).all Value.oneCell') = true; rw [hoc19]; rfl) rfl ?_
  intro w21 hs
  refine Zerun ?_
  refine CW.regionO T hs ?_
  intro w22 hs
  refine HW.takeS (fuel := 15) 0 rfl (fun _ _ hs => Y.loadRowN T hs 1 rfl rfl rfl rfl rfl rfl rfl) hs rfl (by kernel_rfl) (by kernel_rfl) (by kernel_rfl) ?_
  refine HW.takeS (fuel := 14) 1 rfl (fun _ _ hs => Y.move rfl) hs rfl (by kernel_rfl) (by kernel_rfl) (by kernel_rfl) ?_
  refine HW.takeS (fuel := 13) 2 rfl (fun _ _ hs => Y.loadRowN T hs 7 rfl rfl rfl rfl rfl rfl rfl) hs rfl (by kernel_rfl) (by kernel_rfl) (by kernel_rfl) ?_
  refine HW.one (fuel := 12) 3 rfl (by kernel_rfl) ?_
  (refine RW.call T hs rfl rfl rfl (refTidyP_con (k + 2) 40 _ p _ _ hp' hcp) ?_; intro v h85 w85 hle85 hp85 hs)
  obtain ⟨cs85, rfl, hq85⟩ := hp85
  have hp' := PlainAt.mono (k + 2) _ _ _ _ hle85 hp'
  have hq' := PlainAt.mono (k + 2) _ _ _ _ hle85 hq'
  have hA16 := ArrAt.mono (k + 2) _ _ _ _ hle85 hA16
  have hA19 := ArrAt.mono (k + 2) _ _ _ _ hle85 hA19
  refine RW.nil ?_
  refine heldQ_normal ⟨_, hs⟩ ?_
  refine HW.one (fuel := 11) 4 rfl (by kernel_rfl) ?_
  (refine RW.call T hs rfl rfl rfl (shows22X_con (k + 1) _ _ 0 rx (tidy (k + 2) p) _ _ hA16 hq85 res1) ?_; intro v h86 w86 hle86 hp86 hs)
  subst hp86
  have hp' := PlainAt.mono (k + 2) _ _ _ _ hle86 hp'
  have hq' := PlainAt.mono (k + 2) _ _ _ _ hle86 hq'
  have hA19 := ArrAt.mono (k + 2) _ _ _ _ hle86 hA19
  refine RW.nil ?_
  refine heldQ_normal ⟨_, hs⟩ ?_
  refine HW.takeS (fuel := 10) 5 rfl (fun _ _ hs => Y.move rfl) hs rfl (by kernel_rfl) (by kernel_rfl) (by kernel_rfl) ?_
  refine HW.takeSY (fuel := 9) 6 rfl rfl rfl (fun _ _ hs => Y.loadRowN T hs 0 rfl rfl rfl rfl rfl rfl rfl) hs rfl (by kernel_rfl) (by kernel_rfl) (by kernel_rfl) ?_
  refine HW.takeSY (fuel := 8) 7 rfl rfl rfl (fun _ _ hs => Y.move rfl) hs rfl (by kernel_rfl) (by kernel_rfl) (by kernel_rfl) ?_
  refine HW.takeSY (fuel := 7) 8 rfl rfl rfl (fun _ _ hs => Y.loadRowN T hs 6 rfl rfl rfl rfl rfl rfl rfl) hs rfl (by kernel_rfl) (by kernel_rfl) (by kernel_rfl) ?_
  refine HW.one (fuel := 6) 9 rfl (by kernel_rfl) ?_
  refine RW.guardYes rfl rfl ?_
  (refine RW.call T hs rfl rfl rfl (refTidyP_con (k + 2) 40 _ q _ _ hq' hcq) ?_; intro v h91 w91 hle91 hp91 hs)
  obtain ⟨cs91, rfl, hq91⟩ := hp91
  have hp' := PlainAt.mono (k + 2) _ _ _ _ hle91 hp'
  have hq' := PlainAt.mono (k + 2) _ _ _ _ hle91 hq'
  have hA19 := ArrAt.mono (k + 2) _ _ _ _ hle91 hA19
  refine RW.nil ?_
  refine heldQ_normal ⟨_, hs⟩ ?_
  refine HW.one (fuel := 5) 10 rfl (by kernel_rfl) ?_
  refine RW.guardYes rfl rfl ?_
  (refine RW.call T hs rfl rfl rfl (shows22X_con (k + 1) _ _ 0 ry (tidy (k + 2) q) _ _ hA19 hq91 res2) ?_; intro v h92 w92 hle92 hp92 hs)
  subst hp92
  have hp' := PlainAt.mono (k + 2) _ _ _ _ hle92 hp'
  have hq' := PlainAt.mono (k + 2) _ _ _ _ hle92 hq'
  refine RW.nil ?_
  refine heldQ_normal ⟨_, hs⟩ ?_
  refine HW.takeS (fuel := 4) 11 rfl (fun _ _ hs => Y.pickT rfl rfl) hs rfl (by kernel_rfl) (by kernel_rfl) (by kernel_rfl) ?_
  refine HW.takeS (fuel := 3) 12 rfl (fun _ _ hs => Y.move rfl) hs rfl (by kernel_rfl) (by kernel_rfl) (by kernel_rfl) ?_
  refine HW.one (fuel := 2) 13 rfl (by kernel_rfl) ?_
  refine RW.guardYes rfl rfl ?_
  (refine RW.call T hs rfl rfl rfl (awake22_con _ _) ?_; intro v h95 w95 hle95 hp95 hs)
  subst hp95
  have hp' := PlainAt.mono (k + 2) _ _ _ _ hle95 hp'
  have hq' := PlainAt.mono (k + 2) _ _ _ _ hle95 hq'
  refine RW.nil ?_
  refine heldQ_normal ⟨_, hs⟩ ?_
  refine HW.takeS (fuel := 1) 14 rfl (fun _ _ hs => Y.pickT rfl rfl) hs rfl (by kernel_rfl) (by kernel_rfl) (by kernel_rfl) ?_
  refine HW.takeS (fuel := 0) 15 rfl (fun _ _ hs => Y.assign rfl) hs rfl (by kernel_rfl) (by kernel_rfl) (by kernel_rfl) ?_
  refine HW.done (by kernel_rfl) ?_
  refine calmQ_normal ?_
  refine Zerun ?_
  exact retQ_ret [_] h95 ⟨rfl, trivial⟩ hs.dropAll rfl
end Go.Proofs.YtmojpbfkpggjhaaGreat
