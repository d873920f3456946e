/-
  Own texts of the claim, merged: Ye, Ga, Ge, PlainT, PlainS, Sa, Sb, Sc, Sd, Se, Sg, Kj, Sh, Yc, Yd, Yf, Yg. Lemmas of the proof; no statement is proved here.
-/
import Derived.Test.YtmojpbfkpggjhaaGreatMc
import Derived.Lib.TrailingZeros
/-
  Contracts of the law's own functions of layer 22: good plain arrays, arrays shown, the example. No statement is proved here.
-/
namespace Go.Proofs.YtmojpbfkpggjhaaGreat
open Go Go.RowKit
set_option linter.unusedVariables false
set_option linter.unusedSimpArgs false
set_option maxHeartbeats 4000000
attribute [local irreducible] CW RW QW SW HW ConM retM heldQ calmQ elemP thenQ blockQ loopQ joinQ retQ Yields Con Sl zF magR unitF truncF fwF wholeF tidySpec elemQ rankF leastN tidyW
set_option maxHeartbeats 4000000
set_option maxRecDepth 4000

theorem shows22_con (k : Nat) (cs cp : List Value) (a : AD (k + 1)) (p : PD (k + 1)) (w : World) (h : GHeap) (ha : ArrAt (k + 1) h cs a) (hp : PlainAt (k + 1) h cp p) (hg : good (k + 1) 40 a) (he : plain (k + 1) a = p) (ht : tdy (k + 1) p) : Con Tryz.prog 40 [.agg cs.toArray, .int .i64 0, .agg cp.toArray, .int .i64 0] w h (fun _ u => u = .bool true) := by
  have ha' := ha
  have hp' := hp
  obtain ⟨s, vc, rfl, ⟨ad, cap, rfl, _⟩, hv⟩ := ha
  obtain ⟨wv, nv, sm, il, fl, ch, bx, ⟨rfl, hoc⟩, _⟩ := hv
  obtain ⟨s2, it2, rfl, ⟨ad2, cp2, rfl, _⟩, ⟨ad3, cp3, xs3, rfl, _, _⟩⟩ := hp
  refine Con.of_body Tryz.func40 rfl Tryz.ntmps40 rfl rfl ?_
  intro hs
  refine Zrun ?_
  (refine RW.boxN hs rfl rfl ?_; intro b1 w1 hs)
  refine Zrun ?_
  (refine RW.boxN hs rfl rfl ?_; intro b2 w2 hs)
  refine Zerun ?_
  refine CW.regionO T hs ?_
  intro w5 hs
  refine HW.takeS (fuel := 8) 0 rfl (fun _ _ hs => Y.loadRowN T hs 1 rfl rfl rfl rfl rfl rfl rfl) hs rfl (by kernel_rfl) (by kernel_rfl) (by kernel_rfl) ?_
  refine HW.one (fuel := 7) 1 rfl (by kernel_rfl) ?_
  (refine RW.call T hs rfl rfl rfl (valueGood_con (k + 1) _ a _ _ ha') ?_; intro v h25 w25 hle25 hp25 hs)
  subst hp25
  rw [decB_of hg]
  have ha' := ArrAt.mono (k + 1) _ _ _ _ hle25 ha'
  have hp' := PlainAt.mono (k + 1) _ _ _ _ hle25 hp'
  refine RW.nil ?_
  refine heldQ_normal ⟨_, hs⟩ ?_
  refine HW.takeS (fuel := 6) 2 rfl (fun _ _ hs => Y.move rfl) hs rfl (by kernel_rfl) (by kernel_rfl) (by kernel_rfl) ?_
  refine HW.takeSY (fuel := 5) 3 rfl rfl rfl (fun _ _ hs => Y.loadRowN T hs 1 rfl rfl rfl rfl rfl rfl rfl) hs rfl (by kernel_rfl) (by kernel_rfl) (by kernel_rfl) ?_
  refine HW.takeSY (fuel := 4) 5 rfl rfl rfl (fun _ _ hs => Y.loadRowN T hs 0 rfl rfl rfl rfl rfl rfl rfl) hs rfl (by kernel_rfl) (by kernel_rfl) (by kernel_rfl) ?_
  refine HW.one (fuel := 3) 4 rfl (by kernel_rfl) ?_
  refine RW.guardYes rfl rfl ?_
  (refine RW.call T hs rfl rfl rfl (plainV_con (k + 1) _ a _ _ ha' (good_sml (k + 1) 40 a hg)) ?_; intro v h28 w28 hle28 hp28 hs)
  obtain ⟨cs28, rfl, hq28⟩ := hp28
  rw [he] at hq28
  have hp' := PlainAt.mono (k + 1) _ _ _ _ hle28 hp'
  refine RW.nil ?_
  refine heldQ_normal ⟨_, hs⟩ ?_
  refine HW.one (fuel := 2) 6 rfl (by kernel_rfl) ?_
  refine RW.guardYes rfl rfl ?_
  (refine RW.call T hs rfl rfl rfl (refSame_con (k + 1) _ _ p p _ _ hq28 hp' ht ht) ?_; intro v h30 w30 hle30 hp30 hs)
  subst hp30
  rw [eqB_of (show p = p from rfl)]
  have hp' := PlainAt.mono (k + 1) _ _ _ _ hle30 hp'
  refine RW.nil ?_
  refine heldQ_normal ⟨_, hs⟩ ?_
  refine HW.takeS (fuel := 1) 7 rfl (fun _ _ hs => Y.pickT rfl rfl) hs rfl (by kernel_rfl) (by kernel_rfl) (by kernel_rfl) ?_
  refine HW.takeS (fuel := 0) 8 rfl (fun _ _ hs => Y.assign rfl) hs rfl (by kernel_rfl) (by kernel_rfl) (by kernel_rfl) ?_
  refine HW.done (by kernel_rfl) ?_
  refine calmQ_normal ?_
  refine Zerun ?_
  exact retQ_ret [_] h30 ⟨rfl, trivial⟩ hs.dropAll rfl
theorem fine22_con (k : Nat) (cs : List Value) (p : PD (k + 1)) (w : World) (h : GHeap) (hp : PlainAt (k + 1) h cs p) : Con Tryz.prog 36 [.agg cs.toArray] w h (fun _ u => ∃ b, u = .bool b ∧ (b = true → chk (k + 1) 40 p = 0 ∧ (PlainD.shape (α := PD k) p).length ≤ 8 ∧ (PlainD.items (α := PD k) p).length ≤ 3000)) := by
  have hp' := hp
  obtain ⟨s, it, rfl, ⟨ad0, cp0, rfl, hS0⟩, ⟨ad, cp, xs, rfl, hS, _⟩⟩ := hp
  have hcap := hS0.caps
  refine Con.of_body Tryz.func36 rfl Tryz.ntmps36 rfl rfl ?_
  intro hs
  refine Zrun ?_
  (refine RW.boxN hs rfl rfl ?_; intro b1 w1 hs)
  refine Zerun ?_
  (refine RW.call T hs rfl rfl rfl (refCountB_con 3000 k _ p _ _ hp') ?_; intro v h2 w2 hle2 hp2 hs)
  obtain ⟨r, rfl, hr⟩ := hp2
  by_cases c1 : r ≤ 1500
  · by_cases c2 : (PlainD.shape (α := PD k) p).length ≤ 8
    · refine Zerun ?_
      (refine RW.call T hs rfl rfl rfl (refCheck_con (k + 1) _ p _ _ (PlainAt.mono (k + 1) _ _ _ _ hle2 hp')) ?_; intro v h3 w3 hle3 hp3 hs)
      subst hp3
      refine Zerun ?_
      refine retQ_ret [_] h3 ⟨rfl, trivial⟩ hs.dropAll ⟨_, rfl, fun e => ?_⟩
      have hc := of_decide_eq_true e
      have hh := hr hc (by omega)
      exact ⟨hc, c2, by omega⟩
    · refine Zerun ?_
      exact retQ_ret [_] h2 ⟨rfl, trivial⟩ hs.dropAll ⟨_, rfl, fun e => by cases e⟩
  · refine Zerun ?_
    exact retQ_ret [_] h2 ⟨rfl, trivial⟩ hs.dropAll ⟨_, rfl, fun e => by cases e⟩
theorem shows22E_con {α β : Type} {R : GHeap → List Value → α → Prop} {Rq : GHeap → List Value → β → Prop} (cs cp : List Value) (p : PlainD β) (e : Int) (w : World) (h : GHeap) (he : e = 22 ∨ e = 23 ∨ e = 24 ∨ e = 26) (ha : ArrR R h cs ⟨[], VecD.none⟩) (hp : PlainR Rq h cp p) : Con Tryz.prog 40 [.agg cs.toArray, .int .i64 e, .agg cp.toArray, .int .i64 e] w h (fun _ u => u = .bool true) := by
  obtain ⟨_, vc, rfl, ⟨ad, cap, rfl, _⟩, hv⟩ := ha
  have hv' := hv
  obtain ⟨wv, nv, sm, il, fl, ch, bx, ⟨rfl, hoc⟩, _⟩ := hv
  obtain ⟨s2, it2, rfl, ⟨ad2, cp2, rfl, _⟩, ⟨ad3, cp3, xs3, rfl, _, _⟩⟩ := hp
  rcases he with rfl | rfl | rfl | rfl
  all_goals
    refine Con.of_body Tryz.func40 rfl Tryz.ntmps40 rfl rfl ?_
    intro hs
    refine Zrun ?_
    (refine RW.boxN hs rfl rfl ?_; intro b1 w1 hs)
    refine Zrun ?_
    (refine RW.boxN hs rfl rfl ?_; intro b2 w2 hs)
    refine Zerun ?_
    (refine RW.call T hs rfl rfl rfl (vecKind_con _ VecD.none _ _ hv') ?_; intro v h3 w3 hle3 hp3 hs)
    subst hp3
    refine Zerun ?_
    exact retQ_ret [_] h3 ⟨rfl, trivial⟩ hs.dropAll rfl
theorem shows22X_con (k : Nat) (cs cp : List Value) (e : Int) (a : AD (k + 1)) (p : PD (k + 1)) (w : World) (h : GHeap) (ha : ArrAt (k + 1) h cs a) (hp : PlainAt (k + 1) h cp p) (hr : ResX k e a p) : Con Tryz.prog 40 [.agg cs.toArray, .int .i64 e, .agg cp.toArray, .int .i64 e] w h (fun _ u => u = .bool true) := by
  rcases hr with ⟨rfl, h1, h2, h3⟩ | ⟨he, rfl⟩
  · exact shows22_con k cs cp a p w h ha hp h1 h2 h3
  · exact shows22E_con (α := AD k) (R := ArrAt k) (Rq := PlainAt k) cs cp p e w h he ha hp
/-! ## The example -/
abbrev wj_1 : Nat := 4607182418800017408
theorem fwj_1 : fwF 1 = wj_1 := by unfold fwF; decide
theorem twj_1 : tidyF wj_1 := by rw [← fwj_1]; exact (fwF_spec 1 (by omega)).1
abbrev wj_2 : Nat := 4611686018427387904
theorem fwj_2 : fwF 2 = wj_2 := by unfold fwF; decide
theorem twj_2 : tidyF wj_2 := by rw [← fwj_2]; exact (fwF_spec 2 (by omega)).1
abbrev wj_3 : Nat := 4613937818241073152
theorem fwj_3 : fwF 3 = wj_3 := by unfold fwF; decide
theorem twj_3 : tidyF wj_3 := by rw [← fwj_3]; exact (fwF_spec 3 (by omega)).1
theorem tidyWj {x : Nat} (h : tidyF x) : tidyW x = x := by unfold tidyW; rw [tidySpec_of _ h]
theorem tj_12 : ∀ u ∈ [wj_1, wj_2], tidyF u := by
  intro u hu
  simp only [List.mem_cons, List.not_mem_nil, or_false] at hu
  rcases hu with rfl | rfl
  · exact twj_1
  · exact twj_2
theorem tj_123 : ∀ u ∈ [wj_1, wj_2, wj_3], tidyF u := by
  intro u hu
  simp only [List.mem_cons, List.not_mem_nil, or_false] at hu
  rcases hu with rfl | rfl | rfl
  · exact twj_1
  · exact twj_2
  · exact twj_3
def pj12 : PD 2 := (numsP [wj_1, wj_2] : PlainD (PD 1))
def pj3 : PD 2 := numQ 1 wj_3
theorem chkj12 : chk 2 40 pj12 = 0 := numsP_chk 1 _ (fun x hx => (tj_12 x hx).2.1) (by decide)
theorem chkj3 : chk 2 40 pj3 = 0 := numQ_chk 1 _ twj_3.2.1
theorem tidyj12 : tidy 2 pj12 = pj12 := by
  show (⟨[2], [⟨0, tidyW wj_1, 0, []⟩, ⟨0, tidyW wj_2, 0, []⟩], 0⟩ : PlainD (PD 1)) = ⟨[2], [⟨0, wj_1, 0, []⟩, ⟨0, wj_2, 0, []⟩], 0⟩
  rw [tidyWj twj_1, tidyWj twj_2]
theorem tidyj3 : tidy 2 pj3 = pj3 := by
  show (⟨[], [⟨0, tidyW wj_3, 0, []⟩], 0⟩ : PlainD (PD 1)) = ⟨[], [⟨0, wj_3, 0, []⟩], 0⟩
  rw [tidyWj twj_3]
theorem catj : catRx (β := PD 0) (pj12 : PlainD (PD 1)) (pj3 : PlainD (PD 1)) [2] 0 99 = (0, (numsP [wj_1, wj_2, wj_3] : PlainD (PD 1))) := by
  unfold catRx
  rfl
theorem joinj (H1 : Tells 0 (ArrD.vec (α := AD 1) (arr 2 pj12)) (PlainD.items (α := PD 1) (tidy 2 pj12)) (PlainD.fill (α := PD 1) (tidy 2 pj12))) (H3 : Tells 0 (ArrD.vec (α := AD 1) (arr 2 pj3)) (PlainD.items (α := PD 1) (tidy 2 pj3)) (PlainD.fill (α := PD 1) (tidy 2 pj3))) (h1 : product (PlainD.shape (α := PD 1) pj12) 1048576 = (((ArrD.vec (α := AD 1) (arr 2 pj12)).len : Int), 0)) (h3 : product (PlainD.shape (α := PD 1) pj3) 1048576 = (((ArrD.vec (α := AD 1) (arr 2 pj3)).len : Int), 0)) :
    (catS (k := 0) (arr 2 pj12) (arr 2 pj3) false 99).1 = 0 ∧ ResX 1 0 (catS (k := 0) (arr 2 pj12) (arr 2 pj3) false 99).2 (numsP [wj_1, wj_2, wj_3] : PlainD (PD 1)) := by
  have h := cat_res (k := 0) (a := arr 2 pj12) (b := arr 2 pj3) (p := tidy 2 pj12) (q := tidy 2 pj3) H1 H3 rfl rfl h1 h3 (s := [2]) (j := 0) (by decide) (by decide) (most := 99) (by decide)
  have e : catRx (β := PD 0) (tidy 2 pj12 : PlainD (PD 1)) (tidy 2 pj3 : PlainD (PD 1)) [2] 0 99 = (0, (numsP [wj_1, wj_2, wj_3] : PlainD (PD 1))) := by rw [tidyj12, tidyj3]; exact catj
  have hs : catS (k := 0) (arr 2 pj12) (arr 2 pj3) false 99 = catSx (k := 0) (arr 2 pj12) (arr 2 pj3) [2] 0 99 := rfl
  rw [hs]
  rw [e] at h
  have e1 : (catSx (k := 0) (arr 2 pj12) (arr 2 pj3) [2] 0 99).1 = 0 := h.1
  have e2 := h.2.1
  rw [e1] at e2
  exact ⟨e1, e2⟩
theorem awake22_con (w : World) (h : GHeap) : Con Tryz.prog 37 [] w h (fun _ u => u = .bool true) := by
  refine Con.of_body Tryz.func37 rfl Tryz.ntmps37 rfl rfl ?_
  intro hs
  refine Zrun ?_
  (refine RW.lit T hs (vs := [.float .f64 4607182418800017408, .float .f64 4611686018427387904]) rfl rfl rfl rfl (by simp [Value.cells]) rfl rfl rfl rfl rfl ?_; intro b4 w4 hs)
  obtain ⟨h4, hle4, hs, hS4⟩ := hs.freeze
  have hF4 : FAt h4 (.slice (some ⟨b4, 0, none⟩) 2 2) [wj_1, wj_2] := RowAt.of_sl hS4
  refine Zerun ?_
  (refine RW.call T hs rfl rfl rfl (refNums_con (R := PlainAt 1) (PlainAt.mono 1) _ _ _ _ hF4 (fun x hx => (tj_12 x hx).1) (by decide)) ?_; intro v h5 w5 hle5 hp5 hs)
  obtain ⟨cs5, rfl, hq5⟩ := hp5
  have hp1 : PlainAt 2 h5 cs5 pj12 := hq5
  refine Zerun ?_
  (refine RW.call T hs rfl rfl rfl (of07_con 2 _ pj12 _ _ hp1 chkj12) ?_; intro v h6 w6 hle6 hp6 hs)
  obtain ⟨cs6, rfl, _, _, hn6⟩ := hp6
  have hp1 := PlainAt.mono 2 _ _ _ _ hle6 hp1
  refine Zerun ?_
  (refine RW.call T hs rfl rfl rfl (refOne_con (α := PD 1) (R := PlainAt 1) wj_3 _ _ (twj_3).1) ?_; intro v h7 w7 hle7 hp7 hs)
  obtain ⟨cs7, rfl, hq7⟩ := hp7
  have hp3 : PlainAt 2 h7 cs7 pj3 := hq7
  have hp1 := PlainAt.mono 2 _ _ _ _ hle7 hp1
  have hn6 := ArrAt.mono 2 _ _ _ _ hle7 hn6
  refine Zerun ?_
  (refine RW.call T hs rfl rfl rfl (of07_con 2 _ pj3 _ _ hp3 chkj3) ?_; intro v h8 w8 hle8 hp8 hs)
  obtain ⟨cs8, rfl, _, _, hn8⟩ := hp8
  have hp1 := PlainAt.mono 2 _ _ _ _ hle8 hp1
  have hp3 := PlainAt.mono 2 _ _ _ _ hle8 hp3
  have hn6 := ArrAt.mono 2 _ _ _ _ hle8 hn6
  obtain ⟨H1, hpr1⟩ := tells_of 0 pj12 _ _ hp1 chkj12
  obtain ⟨H3, hpr3⟩ := tells_of 0 pj3 _ _ hp3 chkj3
  obtain ⟨he, hres⟩ := joinj H1 H3 hpr1 hpr3
  refine Zerun ?_
  (refine RW.call T hs rfl rfl rfl (joinCatenate_con 0 _ _ (arr 2 pj12) (arr 2 pj3) _ _ _ _ false 99 _ _ hn6 hn8 H1 H3 hpr1 hpr3 (by decide) (.inl (by decide)) (.inr (.inl (by decide)))) ?_; intro v h9 w9 hle9 hp9 hs)
  obtain ⟨cs9, rfl, hr9⟩ := hp9
  rw [he]
  obtain ⟨r, hre⟩ : ∃ r : ArrD (AD 1), (catS (k := 0) (arr 2 pj12) (arr 2 pj3) false 99).2 = r := ⟨_, rfl⟩
  rw [hre] at hr9 hres
  have hA9 := hr9
  obtain ⟨_, vc9, rfl, ⟨ad9, cp9, rfl, _⟩, hv9⟩ := hr9
  obtain ⟨wv9, nv9, sm9, il9, fl9, ch9, bx9, ⟨rfl, hoc9⟩, -⟩ := hv9
  refine Zerun ?_
  (refine RW.allocN T hs rfl rfl rfl rfl ?_; intro b10 w10 hs)
  (refine RW.storeAll T hs 0 rfl rfl rfl rfl rfl rfl (by show (Value.oneCell' (.slice ad9 _ cp9) && (vecCells _ wv9 nv9 sm9 il9 fl9 ch9 bx9).all Value.oneCell') = true; rw [hoc9]; rfl) rfl ?_; intro w11 hs)
  refine Zerun ?_
  refine CW.regionR T 0 0 hs rfl rfl ?_
  intro w13 hs
  refine HW.takeR (fuel := 5) 0 rfl (fun _ _ ka kb _ hs hka hkb => Y.loadRowN T hs ka hka rfl rfl rfl rfl rfl rfl) ⟨_, _, 0, 0, hs, rfl, rfl⟩ rfl (by kernel_rfl) (by kernel_rfl) (by kernel_rfl) ?_
  refine HW.takeR (fuel := 4) 1 rfl (fun _ _ ka kb _ hs hka hkb => Y.move rfl) ⟨_, _, 0, 0, hs, rfl, rfl⟩ rfl (by kernel_rfl) (by kernel_rfl) (by kernel_rfl) ?_
  refine HW.one (fuel := 3) 2 rfl (by kernel_rfl) ?_
  (refine RW.lit T hs (vs := [.float .f64 4607182418800017408, .float .f64 4611686018427387904, .float .f64 4613937818241073152]) rfl rfl rfl rfl (by simp [Value.cells]) rfl rfl rfl rfl rfl ?_; intro b14 w14 hs)
  obtain ⟨h14, hle14, hs, hS14⟩ := hs.freeze
  have hF14 : FAt h14 (.slice (some ⟨b14, 0, none⟩) 3 3) [wj_1, wj_2, wj_3] := RowAt.of_sl hS14
  have hA9 := ArrAt.mono 2 _ _ _ _ hle14 hA9
  refine RW.nil ?_
  refine heldQ_normal ⟨_, _, 0, 0, hs, rfl, rfl⟩ ?_
  refine HW.one (fuel := 2) 3 rfl (by kernel_rfl) ?_
  (refine RW.call T hs rfl rfl rfl (refNums_con (R := PlainAt 1) (PlainAt.mono 1) _ _ _ _ hF14 (fun x hx => (tj_123 x hx).1) (by decide)) ?_; intro v h15 w15 hle15 hp15 hs)
  obtain ⟨cs15, rfl, hq15⟩ := hp15
  have hq15 : PlainAt 2 h15 cs15 (numsP [wj_1, wj_2, wj_3] : PlainD (PD 1)) := hq15
  have hA9 := ArrAt.mono 2 _ _ _ _ hle15 hA9
  refine RW.nil ?_
  refine heldQ_normal ⟨_, _, 0, 0, hs, rfl, rfl⟩ ?_
  refine HW.one (fuel := 1) 4 rfl (by kernel_rfl) ?_
  (refine RW.call T hs rfl rfl rfl (shows22X_con 1 _ _ 0 r (numsP [wj_1, wj_2, wj_3] : PlainD (PD 1)) _ _ hA9 hq15 hres) ?_; intro v h16 w16 hle16 hp16 hs)
  subst hp16
  refine RW.nil ?_
  refine heldQ_normal ⟨_, _, 0, 0, hs, rfl, rfl⟩ ?_
  refine HW.takeR (fuel := 0) 5 rfl (fun _ _ ka kb _ hs hka hkb => Y.assign rfl) ⟨_, _, 0, 0, hs, rfl, rfl⟩ rfl (by kernel_rfl) (by kernel_rfl) (by kernel_rfl) ?_
  refine HW.done (by kernel_rfl) ?_
  refine calmQ_normal ?_
  refine Zerun ?_
  exact retQ_ret [_] h16 ⟨rfl, trivial⟩ hs.dropAll rfl
end Go.Proofs.YtmojpbfkpggjhaaGreat

/-
  Contracts of the law's own functions of layer 6, first part. No statement is proved here.
-/
namespace Go.Proofs.YtmojpbfkpggjhaaGreat
open Go Go.RowKit
set_option linter.unusedVariables false
set_option linter.unusedSimpArgs false
set_option maxHeartbeats 4000000
attribute [local irreducible] CW RW QW SW HW ConM retM heldQ calmQ elemP thenQ blockQ loopQ joinQ retQ Yields Con Sl


end Go.Proofs.YtmojpbfkpggjhaaGreat

/-
  Contracts of the law's own functions of layer 6, fifth part: all indexes in order. No statement is proved here.
-/
namespace Go.Proofs.YtmojpbfkpggjhaaGreat
open Go Go.RowKit
set_option linter.unusedVariables false
set_option linter.unusedSimpArgs false
set_option maxHeartbeats 4000000
attribute [local irreducible] CW RW QW SW HW ConM retM heldQ calmQ elemP thenQ blockQ loopQ joinQ retQ Yields Con Sl

theorem IntsAt.one {h : GHeap} {u : Value} {x : List Int} (hi : IntsAt h u x) : u.oneCell' = true := by
  obtain ⟨ad, cp, rfl, _⟩ := hi; rfl

end Go.Proofs.YtmojpbfkpggjhaaGreat

/-
  Plain laws of places that are taken and dropped along an axis. No statement is proved here.
-/
namespace Go.Proofs.YtmojpbfkpggjhaaGreat
open Go Go.RowKit
set_option linter.unusedVariables false
set_option linter.unusedSimpArgs false

end Go.Proofs.YtmojpbfkpggjhaaGreat

/-
  Plain laws of the places of bits that are true. No statement is proved here.
-/
namespace Go.Proofs.YtmojpbfkpggjhaaGreat
open Go Go.RowKit
set_option linter.unusedVariables false
set_option linter.unusedSimpArgs false

end Go.Proofs.YtmojpbfkpggjhaaGreat

/-
  Contracts of package math/bits and of bitvec's places that are true: the table of one variable is read. No statement is proved here.
-/
namespace Go.Proofs.YtmojpbfkpggjhaaGreat
open Go Go.RowKit
set_option linter.unusedVariables false
set_option linter.unusedSimpArgs false
set_option maxHeartbeats 4000000
attribute [local irreducible] CW RW QW SW HW ConM retM heldQ calmQ elemP thenQ blockQ loopQ joinQ retQ Yields Con Sl elemQ
set_option maxHeartbeats 2000000

section
variable {P : Program} {T : Tab P} {n : Nat} {L : Env} {w : World} {ty : TypeId} {x y : Operand} {t : TypeId}
end
end Go.Proofs.YtmojpbfkpggjhaaGreat

/-
  Contracts of package pick: places taken, dropped, and taken so often as counts say. No statement is proved here.
-/
namespace Go.Proofs.YtmojpbfkpggjhaaGreat
open Go Go.RowKit
set_option linter.unusedVariables false
set_option linter.unusedSimpArgs false
set_option maxHeartbeats 4000000
attribute [local irreducible] CW RW QW SW HW ConM retM heldQ calmQ elemP thenQ blockQ loopQ joinQ retQ Yields Con Sl zF magR unitF truncF fwF wholeF tidySpec elemQ rankF leastN tidyW
set_option maxHeartbeats 4000000

end Go.Proofs.YtmojpbfkpggjhaaGreat

/-
  Contracts of the document's answer of layer 15: places turned, taken and dropped. No statement is proved here.
-/
namespace Go.Proofs.YtmojpbfkpggjhaaGreat
open Go Go.RowKit
set_option linter.unusedVariables false
set_option linter.unusedSimpArgs false
set_option maxHeartbeats 4000000
attribute [local irreducible] CW RW QW SW HW ConM retM heldQ calmQ elemP thenQ blockQ loopQ joinQ retQ Yields Con Sl zF magR unitF truncF fwF wholeF tidySpec elemQ rankF leastN tidyW
set_option maxHeartbeats 4000000

end Go.Proofs.YtmojpbfkpggjhaaGreat

/-
  Contract of package pick: places taken so often as counts say. No statement is proved here.
-/
namespace Go.Proofs.YtmojpbfkpggjhaaGreat
open Go Go.RowKit
set_option linter.unusedVariables false
set_option linter.unusedSimpArgs false
set_option maxHeartbeats 4000000
attribute [local irreducible] CW RW QW SW HW ConM retM heldQ calmQ elemP thenQ blockQ loopQ joinQ retQ Yields Con Sl zF magR unitF truncF fwF wholeF tidySpec elemQ rankF leastN tidyW
set_option maxHeartbeats 4000000

section
variable {α : Type} {R : GHeap → List Value → α → Prop}
end
end Go.Proofs.YtmojpbfkpggjhaaGreat

/-
  Contract of the example of layer 15. No statement is proved here.
-/
namespace Go.Proofs.YtmojpbfkpggjhaaGreat
open Go Go.RowKit
set_option linter.unusedVariables false
set_option linter.unusedSimpArgs false
set_option maxHeartbeats 4000000
attribute [local irreducible] CW RW QW SW HW ConM retM heldQ calmQ elemP thenQ blockQ loopQ joinQ retQ Yields Con Sl zF magR unitF truncF fwF wholeF tidySpec elemQ rankF leastN tidyW
set_option maxHeartbeats 4000000

end Go.Proofs.YtmojpbfkpggjhaaGreat

/-
  Contract of the document's answer of layer 15: items picked along an axis. No statement is proved here.
-/
namespace Go.Proofs.YtmojpbfkpggjhaaGreat
open Go Go.RowKit
set_option linter.unusedVariables false
set_option linter.unusedSimpArgs false
set_option maxHeartbeats 4000000
attribute [local irreducible] CW RW QW SW HW ConM retM heldQ calmQ elemP thenQ blockQ loopQ joinQ retQ Yields Con Sl zF magR unitF truncF fwF wholeF tidySpec elemQ rankF leastN tidyW
set_option maxHeartbeats 4000000

section
variable {β : Type} {R : GHeap → List Value → β → Prop}
end
end Go.Proofs.YtmojpbfkpggjhaaGreat

/-
  Contracts of the law's own functions of layer 8: elements cut, repeated and turned. No statement is proved here.
-/
namespace Go.Proofs.YtmojpbfkpggjhaaGreat
open Go Go.RowKit
set_option linter.unusedVariables false
set_option linter.unusedSimpArgs false
set_option maxHeartbeats 4000000
attribute [local irreducible] CW RW QW SW HW ConM retM heldQ calmQ elemP thenQ blockQ loopQ joinQ retQ Yields Con Sl zF magR unitF truncF fwF wholeF tidySpec elemQ rankF leastN tidyW
set_option maxHeartbeats 8000000

theorem AllN.drop {α : Type} {sz : Nat} {R : List Value → α → Prop} : ∀ (j : Nat) {xs : List Value} {l : List α}, AllN sz R xs l → AllN sz R (xs.drop (j * sz)) (l.drop j)
  | 0, xs, l, h => by simpa using h
  | j + 1, xs, [], h => by have : xs = [] := h; rw [this]; simp; rfl
  | j + 1, xs, a :: l, h => by
    have := AllN.drop j h.2.2
    rw [List.drop_drop] at this
    rw [List.drop_succ_cons, Nat.add_mul, Nat.one_mul, Nat.add_comm]
    exact this
theorem AllN.take {α : Type} {sz : Nat} {R : List Value → α → Prop} : ∀ (j : Nat) {xs : List Value} {l : List α}, AllN sz R xs l → AllN sz R (xs.take (j * sz)) (l.take j)
  | 0, xs, l, h => by simp; rfl
  | j + 1, xs, [], h => by have : xs = [] := h; rw [this]; simp; rfl
  | j + 1, xs, a :: l, h => by
    have h2 := AllN.take j h.2.2
    have h1 := h.1
    have e : (xs.take ((j + 1) * sz)).take sz = xs.take sz := by rw [List.take_take, Nat.add_mul, Nat.one_mul, Nat.min_eq_left (by omega)]
    refine ⟨by rw [e]; exact h1, by rw [e]; exact h.2.1, ?_⟩
    rw [List.drop_take, Nat.add_mul, Nat.one_mul, Nat.add_sub_cancel]
    exact h2
theorem RowsAt.sub {α : Type} {sz : Nat} {R : List Value → α → Prop} {h : GHeap} {ad : Option Addr} {n cp x y : Nat} {l : List α} (hl : RowsAt sz R h (.slice ad n cp) l) (hx : x ≤ y) (hy : y ≤ l.length) : RowsAt sz R h (.slice (subAd ad x cp sz) (y - x) (cp - x)) ((l.drop x).take (y - x)) := by
  obtain ⟨ad', cp', xs, e, hS, hA⟩ := hl
  cases e
  have h1 := (hS.from x (by omega)).take (y - x) (by omega)
  have hlen : ((l.drop x).take (y - x)).length = y - x := by simp; omega
  refine ⟨_, _, _, by rw [hlen], by rw [hlen]; exact h1, ?_⟩
  exact (hA.drop x).take (y - x)
end Go.Proofs.YtmojpbfkpggjhaaGreat

/-
  Contract of the law's own function of layer 15: elements picked along an axis. No statement is proved here.
-/
namespace Go.Proofs.YtmojpbfkpggjhaaGreat
open Go Go.RowKit
set_option linter.unusedVariables false
set_option linter.unusedSimpArgs false
set_option maxHeartbeats 4000000
attribute [local irreducible] CW RW QW SW HW ConM retM heldQ calmQ elemP thenQ blockQ loopQ joinQ retQ Yields Con Sl zF magR unitF truncF fwF wholeF tidySpec elemQ rankF leastN tidyW
set_option maxHeartbeats 4000000

section
variable {P : Program} {n : Nat} {L : Env} {w : World} {ty : TypeId} {x y : Operand} {t yt : TypeId}
end
end Go.Proofs.YtmojpbfkpggjhaaGreat

/-
  Contracts of the document's answer of layer 22: axes that an array lacks. No statement is proved here.
-/
namespace Go.Proofs.YtmojpbfkpggjhaaGreat
open Go Go.RowKit
set_option linter.unusedVariables false
set_option linter.unusedSimpArgs false
set_option maxHeartbeats 4000000
attribute [local irreducible] CW RW QW SW HW ConM retM heldQ calmQ elemP thenQ blockQ loopQ joinQ retQ Yields Con Sl zF magR unitF truncF fwF wholeF tidySpec elemQ rankF leastN tidyW
set_option maxHeartbeats 4000000

theorem sl_none {h : GHeap} {sz n cp : Nat} {ad : Option Addr} {xs : List Value} (hS : Sl h sz ad n cp xs) : ad = none → cp = 0 := fun e => by subst e; exact hS.nil0.2
theorem Y.sliceLoN {P : Program} {n : Nat} {L : Env} {w : World} {ty t : TypeId} {x : Operand} (T : Tab P) {e : TypeId} {i : Inf} {ad : Option Addr} {m cp u : Nat} {lo : Operand} (hT : T.ty t = some (.slice e)) (hI : T.inf e = some i) (hx : opv L x = some (.slice ad m cp)) (hh : opv L lo = some (.int .i64 (u : Int))) (h0' : u ≤ m) (hm : m ≤ cp := by omega) :
    Yields P n L w (.slice t x (some lo) none none) ty (.slice (subAd ad u cp i.size) (m - u) (cp - u)) := by
  have := Y.sliceLo T (P := P) (n := n) (w := w) (ty := ty) hT hI hx hh ⟨by omega, by omega⟩ hm
  exact this
noncomputable def spP {β : Type} (p : PlainD (PlainD β)) (s : List Int) (j : Nat) : PlainD (PlainD β) := if spE p.shape s = 0 then spQ p s j else zeroQ
theorem refAllN_con (s : Value) (l : List Int) (most : Nat) (w : World) (h : GHeap) (hl : IntsAt h s l) (hm : l.length ≤ 8) (hmo : most ≤ 100000) (hg : goodS l = true) : Con Tryz.prog 96 [s, .int .i64 most] w h
    (fun h' v => ListsAt h' v (allSpec most l)) := by
  have hl' := hl
  obtain ⟨ad, cp, rfl, hS⟩ := hl
  have hS0 := hS
  have hle : ∀ k, (allSpec most (l.take k)).length ≤ most + 1 := by
    intro k
    unfold allSpec
    rcases List.eq_nil_or_concat (l.take k) with e | ⟨a, b, e⟩
    · rw [e]; simp
    · rw [e, List.concat_eq_append, List.foldl_append]
      simp only [List.foldl_cons, List.foldl_nil, allStep, List.length_take]
      omega
  refine Con.of_body Tryz.func96 rfl Tryz.ntmps96 rfl rfl ?_
  intro hs
  refine Zrun ?_
  (refine RW.lit T hs (vs := []) rfl rfl rfl rfl (by simp [Value.cells]) rfl rfl rfl rfl rfl ?_; intro b1 w1 hs)
  obtain ⟨h1, hle1, hs, hS1⟩ := hs.freeze
  have hI1 : IntsAt h1 (.slice (some ⟨b1, 0, none⟩) 0 0) [] := IntsAt.of_sl hS1
  (refine RW.lit T hs (vs := [.slice (some ⟨b1, 0, none⟩) 0 0]) rfl rfl rfl rfl (by simp [Value.cells]) rfl rfl rfl rfl rfl ?_; intro b2 w2 hs)
  obtain ⟨h2, hle2, hs, hS2⟩ := hs.freeze
  have hL2 : ListsAt h2 (.slice (some ⟨b2, 0, none⟩) 1 1) (allSpec most (l.take 0)) := ⟨_, _, [.slice (some ⟨b1, 0, none⟩) 0 0], rfl, hS2, ⟨hI1.mono hle2, trivial⟩⟩
  have hS := (hS.mono hle1).mono hle2
  have hh2 : GLe h h2 := hle1.trans hle2
  refine Zrun ?_
  refine CW.loop (fun p : Nat × Value × GHeap => [(0, .slice ad l.length cp), (1, .int .i64 most), (5, p.2.1), (6, .int .i64 p.1)]) (fun p w' => p.1 ≤ l.length ∧ GLe h p.2.2 ∧ ListsAt p.2.2 p.2.1 (allSpec most (l.take p.1)) ∧ Sees w h p.2.2 [] w') (fun p => l.length - p.1) (0, _, h2) ⟨rfl, rfl, rfl, rfl, trivial⟩ ⟨by omega, hh2, hL2, hs⟩ ?_
  rintro ⟨k, u, hh⟩ w' ⟨hk, hhh, hL, hs⟩
  dsimp only at hk hhh hL hs ⊢
  have hLL := hL
  obtain ⟨ad5, cp5, us, rfl, hS5, hA5⟩ := hL
  by_cases hlt : k < l.length
  · have hstep := allSpec_take_succ most l k hlt
    have hls := hle k
    have hdk := good_getD l ((goodS_iff l).1 hg) k hlt
    have hxl : ∀ x ∈ allSpec most (l.take k), x.length ≤ 8 := fun x hx => by have := all_len most _ x hx; rw [this, List.length_take]; omega
    have hS := hS0.mono hhh
    generalize allSpec most (l.take k) = ls at *
    have hlu := hA5.length
    refine Zrun ?_
    have hs := hs.nilRow 22 1
    refine CW.loop (fun p : Nat × Option Addr × Nat × List Value × GHeap => [(0, .slice ad l.length cp), (1, .int .i64 most), (5, .slice ad5 ls.length cp5), (6, .int .i64 k), (7, .slice p.2.1 p.2.2.2.1.length p.2.2.1), (8, .int .i64 p.1)]) (fun p w' => p.1 ≤ ls.length ∧ GLe hh p.2.2.2.2 ∧ AllAt (IntsAt p.2.2.2.2) p.2.2.2.1 (((ls.take p.1).flatMap (allRow (l.getD k 0))).take most) ∧ Sees w h p.2.2.2.2 [⟨p.2.1, p.2.2.2.1.length, p.2.2.1, 22, 1, p.2.2.2.1⟩] w') (fun p => ls.length - p.1) (0, none, 0, [], hh) ⟨rfl, rfl, rfl, rfl, rfl, rfl, trivial⟩ ⟨by omega, GLe.refl _, by simp [AllAt], hs⟩ ?_
    rintro ⟨q, ra, rc, vs, h3⟩ w3 ⟨hq, hh3, hA3, hs⟩
    dsimp only at hq hh3 hA3 hs ⊢
    have hvl := hA3.length
    have hvm : vs.length ≤ most := by rw [hvl, List.length_take]; omega
    have hS := hS.mono hh3
    have hS5 := hS5.mono hh3
    have hA5 := hA5.mono (fun _ _ => IntsAt.mono hh3)
    by_cases hgo : q < ls.length ∧ vs.length < most
    · obtain ⟨hq1, hv1⟩ := hgo
      obtain ⟨u5, hu5, hI5⟩ := hA5.get [] q hq1
      rw [take_short _ _ (by omega)] at hA3
      have hX : (ls.take (q + 1)).flatMap (allRow (l.getD k 0)) = (ls.take q).flatMap (allRow (l.getD k 0)) ++ allRow (l.getD k 0) (ls.getD q []) := by
        rw [take_snoc ls q [] hq1, List.flatMap_append]; simp
      have hrow : allRow (l.getD k 0) (ls.getD q []) = (List.range (l.getD k 0).toNat).map fun (j : Nat) => ls.getD q [] ++ [(j : Int)] := rfl
      generalize (ls.take q).flatMap (allRow (l.getD k 0)) = xs at hA3 hX
      have hx5 : (ls.getD q []).length ≤ 8 := hxl _ (by simp [List.getD_eq_getElem?_getD, hq1])
      generalize ls.getD q [] = x5 at hI5 hX hrow hx5
      refine Zrun ?_
      refine CW.loop (fun p : Nat × Option Addr × Nat × List Value × GHeap => [(0, .slice ad l.length cp), (1, .int .i64 most), (5, .slice ad5 ls.length cp5), (6, .int .i64 k), (7, .slice p.2.1 p.2.2.2.1.length p.2.2.1), (8, .int .i64 q), (9, .int .i64 p.1)]) (fun p w' => p.1 ≤ (l.getD k 0).toNat ∧ GLe h3 p.2.2.2.2 ∧ AllAt (IntsAt p.2.2.2.2) p.2.2.2.1 ((xs ++ (List.range p.1).map fun (j : Nat) => x5 ++ [(j : Int)]).take most) ∧ Sees w h p.2.2.2.2 [⟨p.2.1, p.2.2.2.1.length, p.2.2.1, 22, 1, p.2.2.2.1⟩] w') (fun p => (l.getD k 0).toNat - p.1) (0, ra, rc, vs, h3) ⟨rfl, rfl, rfl, rfl, rfl, rfl, rfl, trivial⟩ ⟨by omega, GLe.refl _, by simp; rw [List.take_of_length_le (by have := hA3.length; omega)]; exact hA3, hs⟩ ?_
      rintro ⟨j, rb, rd, ws, h4⟩ w4 ⟨hj, hh4, hA4, hs⟩
      dsimp only at hj hh4 hA4 hs ⊢
      have hwl := hA4.length
      have hwm : ws.length ≤ most := by rw [hwl, List.length_take]; omega
      have hS := hS.mono hh4
      have hS5 := hS5.mono hh4
      have hI5 := hI5.mono hh4
      by_cases hgo2 : (j : Int) < l.getD k 0 ∧ ws.length < most
      · obtain ⟨hj1, hw1⟩ := hgo2
        refine Zrun ?_
        rw [take_short _ _ (by omega)] at hA4
        obtain ⟨ad6, cp6, rfl, hS6⟩ := hI5
        (refine RW.lit T hs (vs := []) rfl rfl rfl rfl (by simp [Value.cells]) rfl rfl rfl rfl rfl ?_; intro b5 w5 hs)
        refine Zrun ?_
        refine RW.append T hs 0 rfl rfl (m := x5.length) (news := x5.map (Value.int .i64)) rfl rfl rfl rfl rfl rfl (hS6.src hs.agree (one_ints _ _)) (fun e => by subst e; exact hS6.nil0.2) (by dsimp only; omega) (by omega) ?_
        intro ad7 cp7 w7 hs
        refine Zrun ?_
        (refine RW.lit T hs (vs := [.int .i64 j]) rfl rfl rfl rfl (by simp [Value.cells]) rfl rfl rfl rfl rfl ?_; intro b8 w8 hs)
        refine RW.append T hs 1 rfl rfl (m := 1) (news := [.int .i64 j]) rfl rfl rfl rfl rfl rfl ⟨rfl, by simp [Value.oneCell'], by simp, fun p hp j u hj => ?_⟩ (by simp) (by dsimp only; omega) (by omega) ?_
        · cases hp
          rw [Addr.add_lit]
          exact hs.rowCell (k := 0) rfl (by simpa [Value.cells] using hj)
        intro ad9 cp9 w9 hs
        replace hs := hs.drop
        obtain ⟨h9, hle9, hs, hS9⟩ := hs.freeze
        have hI9 : IntsAt h9 (.slice ad9 (0 + x5.length + 1) cp9) (x5 ++ [(j : Int)]) := by
          refine IntsAt.of_sl ?_
          rw [List.map_append]; exact hS9
        (refine RW.lit T hs (vs := [.slice ad9 (0 + x5.length + 1) cp9]) rfl rfl rfl rfl (by simp [Value.cells]) rfl rfl rfl rfl rfl ?_; intro b10 w10 hs)
        refine RW.append T hs 1 rfl rfl (m := 1) (news := [.slice ad9 (0 + x5.length + 1) cp9]) rfl rfl rfl rfl rfl rfl ⟨rfl, by simp [Value.oneCell'], by simp, fun p hp j u hj => ?_⟩ (by simp) (by dsimp only; omega) (by omega) ?_
        · cases hp
          rw [Addr.add_lit]
          exact hs.rowCell (k := 0) rfl (by simpa [Value.cells] using hj)
        intro ad11 cp11 w11 hs
        replace hs := hs.drop
        refine Zrun ?_
        have e1 : (ws ++ [Value.slice ad9 (0 + x5.length + 1) cp9]).length = ws.length + 1 := by simp
        refine loopQ_round (j + 1, ad11, cp11, ws ++ [.slice ad9 (0 + x5.length + 1) cp9], h9) ⟨rfl, rfl, rfl, rfl, by dsimp only; rw [e1]; rfl, rfl, rfl, trivial⟩ ⟨by dsimp only; omega, hh4.trans hle9, ?_, ?_⟩ (by dsimp only; omega)
        · dsimp only
          rw [List.range_succ, List.map_append, ← List.append_assoc, List.take_of_length_le (by have := hA4.length; simp only [List.length_append, List.length_map, List.length_range, List.length_cons, List.length_nil] at this ⊢; omega)]
          exact (hA4.mono (fun _ _ => IntsAt.mono hle9)).append ⟨hI9, trivial⟩
        · dsimp only
          rw [e1]; exact hs
      · have hfin : (xs ++ (List.range j).map fun (j : Nat) => x5 ++ [(j : Int)]).take most = ((ls.take (q + 1)).flatMap (allRow (l.getD k 0))).take most := by
          rw [hX, hrow]
          by_cases hjd : (j : Int) < l.getD k 0
          · have hnl : ¬ ((xs ++ (List.range j).map fun (j : Nat) => x5 ++ [(j : Int)]).take most).length < most := by rw [← hwl]; exact fun e => hgo2 ⟨hjd, e⟩
            obtain ⟨e, he⟩ : ∃ e, (l.getD k 0).toNat = j + e := ⟨(l.getD k 0).toNat - j, by omega⟩
            rw [he, List.range_add, List.map_append, ← List.append_assoc, take_full _ _ _ hnl]
          · rw [show (l.getD k 0).toNat = j by omega]
        rw [hfin] at hA4
        by_cases hjd : (j : Int) < l.getD k 0
        · have hwn : ¬ ws.length < most := fun e => hgo2 ⟨hjd, e⟩
          refine Zrun ?_
          exact loopQ_round (q + 1, rb, rd, ws, h4) ⟨rfl, rfl, rfl, rfl, rfl, rfl, trivial⟩ ⟨by dsimp only; omega, hh3.trans hh4, hA4, hs⟩ (by dsimp only; omega)
        · refine Zrun ?_
          exact loopQ_round (q + 1, rb, rd, ws, h4) ⟨rfl, rfl, rfl, rfl, rfl, rfl, trivial⟩ ⟨by dsimp only; omega, hh3.trans hh4, hA4, hs⟩ (by dsimp only; omega)
    · have hfin : ((ls.take q).flatMap (allRow (l.getD k 0))).take most = allSpec most (l.take (k + 1)) := by
        rw [hstep]
        unfold allStep
        by_cases hq1 : q < ls.length
        · have hnl : ¬ (((ls.take q).flatMap (allRow (l.getD k 0))).take most).length < most := by rw [← hvl]; exact fun e => hgo ⟨hq1, e⟩
          have e : ls.flatMap (allRow (l.getD k 0)) = (ls.take q).flatMap (allRow (l.getD k 0)) ++ (ls.drop q).flatMap (allRow (l.getD k 0)) := by rw [← List.flatMap_append, List.take_append_drop]
          rw [e, take_full _ _ _ hnl]
        · rw [List.take_of_length_le (l := ls) (by omega)]
      rw [hfin] at hA3
      obtain ⟨h12, hle12, hs, hS12⟩ := hs.freeze
      have hLn : ListsAt h12 (.slice ra vs.length rc) (allSpec most (l.take (k + 1))) := by
        have hl3 := hA3.length
        refine ⟨ra, rc, vs, by rw [hl3], ?_, hA3.mono (fun _ _ => IntsAt.mono hle12)⟩
        rw [← hl3]; exact hS12
      by_cases hq1 : q < ls.length
      · have hvn : ¬ vs.length < most := fun e => hgo ⟨hq1, e⟩
        refine Zrun ?_
        exact loopQ_round (k + 1, _, h12) ⟨rfl, rfl, rfl, rfl, trivial⟩ ⟨by dsimp only; omega, (hhh.trans hh3).trans hle12, hLn, hs⟩ (by dsimp only; omega)
      · refine Zrun ?_
        exact loopQ_round (k + 1, _, h12) ⟨rfl, rfl, rfl, rfl, trivial⟩ ⟨by dsimp only; omega, (hhh.trans hh3).trans hle12, hLn, hs⟩ (by dsimp only; omega)
  · obtain rfl : k = l.length := by omega
    refine Zrun ?_
    refine retQ_ret [_] hh ⟨rfl, trivial⟩ hs ?_
    rw [show allSpec most l = allSpec most (l.take l.length) by rw [List.take_length]]
    exact hLL

theorem ref22Spread_con (k : Nat) (cp0 : List Value) (p : PlainD (PD (k + 1))) (sv : Value) (s : List Int) (j : Nat) (w : World) (h : GHeap) (hp : PlainAt (k + 2) h cp0 p) (hsv : IntsAt h sv s) (hj : j < s.length) (hg : goodS s = true) (hsh : p.shape.length ≤ 8) (hjk : p.shape.length + 1 = s.length → j ≤ p.shape.length) :
    Con Tryz.prog 93 [.agg cp0.toArray, sv, .int .i64 (j : Int)] w h (fun h' u => ∃ cs', u = .tuple #[.agg cs'.toArray, .int .i64 (spE p.shape s)] ∧ PlainAt (k + 2) h' cs' (spP p s j)) := by
  have hp' := hp
  obtain ⟨_, _, rfl, ⟨adp, cpp, rfl, hSp⟩, hitp⟩ := hp
  have hitp' := hitp
  obtain ⟨aip, cip, xsp, rfl, hSIp, hAIp⟩ := hitp
  have mp : ∀ h', GLe h h' → PlainAt (k + 2) h' [.slice adp p.shape.length cpp, .slice aip p.items.length cip, .int .i64 p.fill] p := fun h' hl => PlainAt.mono (k + 2) _ _ _ _ hl hp'
  have hsv' := hsv
  obtain ⟨ads, cps, rfl, hSs⟩ := hsv
  have h8 := ((goodS_spec s).1 hg).1
  refine Con.of_body Tryz.func93 rfl Tryz.ntmps93 rfl rfl ?_
  intro hs
  refine Zrun ?_
  (refine RW.boxN hs rfl rfl ?_; intro b1 w1 hs)
  (refine RW.allocN T hs rfl rfl rfl rfl ?_; intro b2 w2 hs)
  have hcap := hSp.caps
  by_cases c1 : p.shape.length = s.length
  · have c1' : (p.shape.length : Int) = s.length := by omega
    have e0 : spE p.shape s = 0 := by unfold spE; rw [if_pos (.inl c1)]
    have e1 : spP p s j = p := by unfold spP; rw [if_pos e0]; unfold spQ spS spI; (rw [if_pos c1, if_pos c1]); try rfl
    rw [e0, e1]
    refine Zerun ?_
    (refine RW.storeAll T hs 0 rfl rfl rfl rfl rfl rfl rfl rfl ?_; intro w3 hs)
    refine Zerun ?_
    exact retQ_ret [_, _] h ⟨resN T hs 0 rfl rfl rfl rfl rfl rfl, rfl, trivial⟩ hs.dropAll ⟨_, rfl, hp'⟩
  by_cases c2 : p.shape.length = 0
  · have c2' : (p.shape.length : Int) = 0 := by omega
    have c1' : ¬ (p.shape.length : Int) = s.length := by omega
    have e0 : spE p.shape s = 0 := by unfold spE; rw [if_pos (.inr (.inl c2))]
    have e1 : spP p s j = (⟨s.set j 1, (againL (spN s j).toNat p.items.length).map fun i => atD p.items i (blankI p.fill), p.fill⟩ : PlainD (PlainD (PD k))) := by unfold spP; rw [if_pos e0]; unfold spQ spS spI; (rw [if_neg c1, if_pos c2, if_neg c1, if_pos c2]); try rfl
    obtain ⟨p1, p2, p3⟩ := spN_spec hg j
    rw [e0, e1]
    refine Zerun ?_
    (refine RW.call T hs rfl rfl rfl (refWith_con _ s j 1 _ _ hsv' (by omega) hj) ?_; intro v h5 w5 hle5 hp5 hs)
    have hI5 := hp5
    obtain ⟨ad5, cp5, rfl, _⟩ := hp5
    refine Zerun ?_
    (refine RW.call T hs rfl rfl rfl (refProduct_con _ (s.set j 1) 1048576 _ _ hI5 (by rw [List.length_set]; omega)) ?_; intro v h6 w6 hle6 hp6 hs)
    subst hp6
    rw [p1]
    have hI5 := hI5.mono hle6
    have hitp' := hitp'.mono (hle5.trans hle6) (fun u a => ItemAt.mono (PlainAt.mono (k + 1)) _ _ u a (hle5.trans hle6))
    refine Zerun ?_
    refine CW.regionR T 1 1 hs rfl rfl ?_
    intro w30 hs
    refine HW.takeR (fuel := 11) 0 rfl (fun _ _ ka kb _ hs hka hkb => Y.move rfl) ⟨_, _, 1, 1, hs, rfl, rfl⟩ rfl (by kernel_rfl) (by kernel_rfl) (by kernel_rfl) ?_
    refine HW.takeR (fuel := 10) 1 rfl (fun _ _ ka kb _ hs hka hkb => Y.fieldAddr T rfl rfl rfl rfl rfl) ⟨_, _, 1, 1, hs, rfl, rfl⟩ rfl (by kernel_rfl) (by kernel_rfl) (by kernel_rfl) ?_
    refine HW.takeR (fuel := 9) 2 rfl (fun _ _ ka kb _ hs hka hkb => Y.loadRow1 T hs ka hka rfl rfl rfl rfl) ⟨_, _, 1, 1, hs, rfl, rfl⟩ rfl (by kernel_rfl) (by kernel_rfl) (by kernel_rfl) ?_
    refine HW.takeR (fuel := 8) 3 rfl (fun _ _ ka kb _ hs hka hkb => Y.fieldAddr T rfl rfl rfl rfl rfl) ⟨_, _, 1, 1, hs, rfl, rfl⟩ rfl (by kernel_rfl) (by kernel_rfl) (by kernel_rfl) ?_
    refine HW.takeR (fuel := 7) 4 rfl (fun _ _ ka kb _ hs hka hkb => Y.loadRow1 T hs ka hka rfl rfl rfl rfl) ⟨_, _, 1, 1, hs, rfl, rfl⟩ rfl (by kernel_rfl) (by kernel_rfl) (by kernel_rfl) ?_
    refine HW.takeR (fuel := 6) 5 rfl (fun _ _ ka kb _ hs hka hkb => Y.move rfl) ⟨_, _, 1, 1, hs, rfl, rfl⟩ rfl (by kernel_rfl) (by kernel_rfl) (by kernel_rfl) ?_
    refine HW.takeR (fuel := 5) 7 rfl (fun _ _ ka kb _ hs hka hkb => Y.fieldAddr T rfl rfl rfl rfl rfl) ⟨_, _, 1, 1, hs, rfl, rfl⟩ rfl (by kernel_rfl) (by kernel_rfl) (by kernel_rfl) ?_
    refine HW.takeR (fuel := 4) 8 rfl (fun _ _ ka kb _ hs hka hkb => Y.loadRow1 T hs ka hka rfl rfl rfl rfl) ⟨_, _, 1, 1, hs, rfl, rfl⟩ rfl (by kernel_rfl) (by kernel_rfl) (by kernel_rfl) ?_
    refine HW.one (fuel := 3) 6 rfl (by kernel_rfl) ?_
    (refine RW.call T hs rfl rfl rfl (refAgain08_con (R := PlainAt k) (PlainAt.mono k) _ p.items p.fill (spN s j) _ _ hitp' p3) ?_; intro v h7 w7 hle7 hp7 hs)
    have hI5 := hI5.mono hle7
    obtain ⟨ai7, ci7, xs7, rfl, _, _⟩ := id hp7
    refine RW.nil ?_
    refine heldQ_normal ⟨_, _, 1, 1, hs, rfl, rfl⟩ ?_
    refine HW.takeR (fuel := 2) 9 rfl (fun _ _ ka kb _ hs hka hkb => Y.build T rfl rfl rfl rfl rfl rfl rfl) ⟨_, _, 1, 1, hs, rfl, rfl⟩ rfl (by kernel_rfl) (by kernel_rfl) (by kernel_rfl) ?_
    refine HW.one (fuel := 1) 10 rfl (by kernel_rfl) ?_
    (refine RW.storeAll T hs 0 rfl rfl rfl rfl rfl rfl rfl rfl ?_; intro w8 hs)
    refine RW.nil ?_
    refine heldQ_normal ⟨_, _, 1, 1, hs, rfl, rfl⟩ ?_
    refine HW.takeR (fuel := 0) 11 rfl (fun _ _ ka kb _ hs hka hkb => Y.assign rfl) ⟨_, _, 1, 1, hs, rfl, rfl⟩ rfl (by kernel_rfl) (by kernel_rfl) (by kernel_rfl) ?_
    refine HW.done (by kernel_rfl) ?_
    refine calmQ_normal ?_
    refine Zerun ?_
    exact retQ_ret [_, _] h7 ⟨resN T hs 0 rfl rfl rfl rfl rfl rfl, rfl, trivial⟩ hs.dropAll ⟨_, rfl, _, _, rfl, hI5, hp7⟩
  have c1' : ¬ (p.shape.length : Int) = s.length := by omega
  have c2' : ¬ (p.shape.length : Int) = 0 := by omega
  by_cases c3 : p.shape.length + 1 = s.length
  rotate_left
  · have c3' : ¬ (p.shape.length : Int) = (s.length : Int) - 1 := by omega
    have e0 : spE p.shape s = 22 := by unfold spE; rw [if_neg (by omega)]
    have e1 : spP p s j = (zeroQ : PlainD (PlainD (PD k))) := by unfold spP; rw [if_neg (by omega)]
    rw [e0, e1]
    refine Zerun ?_
    refine RW.val (Y.build T rfl rfl rfl rfl rfl rfl rfl) rfl ?_
    (refine RW.storeAll T hs 0 rfl rfl rfl rfl rfl rfl rfl rfl ?_; intro w9 hs)
    refine Zerun ?_
    exact retQ_ret [_, _] h ⟨resN T hs 0 rfl rfl rfl rfl rfl rfl, rfl, trivial⟩ hs.dropAll ⟨_, rfl, ⟨_, _, rfl, IntsAt.nil _, RowsAt.nil _⟩⟩
  have c3' : (p.shape.length : Int) = (s.length : Int) - 1 := by omega
  have e0 : spE p.shape s = 0 := by unfold spE; rw [if_pos (.inr (.inr c3))]
  have hjl := hjk c3
  have e1 : spP p s j = (⟨p.shape.take j ++ 1 :: p.shape.drop j, p.items, p.fill⟩ : PlainD (PlainD (PD k))) := by unfold spP; rw [if_pos e0]; unfold spQ spS spI; (rw [if_neg c1, if_neg c2, if_neg c1, if_neg c2]); try rfl
  rw [e0, e1]
  refine Zerun ?_
  (refine RW.lit T hs (vs := []) rfl rfl rfl rfl (by simp [Value.cells]) rfl rfl rfl rfl rfl ?_; intro b3 w3 hs)
  refine Zerun ?_
  refine RW.val (Y.sliceHi (u := (j : Int)) T rfl rfl rfl rfl ⟨by omega, by omega⟩) rfl ?_
  rw [Int.toNat_natCast]
  have hT4 : Sl h 1 adp j cpp ((p.shape.take j).map (Value.int .i64)) := by
    have := hSp.take j hjl
    rw [Nat.mul_one, ← List.map_take] at this
    exact this
  refine RW.append T hs 0 rfl rfl (m := j) (news := (p.shape.take j).map (Value.int .i64)) rfl rfl rfl rfl rfl rfl (hT4.src hs.agree (one_ints _ _)) (fun e => by subst e; exact hT4.nil0.2) (by dsimp only; omega) (by omega) ?_
  intro ad5 cp5 w5 hs
  simp only [List.nil_append, Nat.zero_add, List.flatMap_nil] at hs ⊢
  refine Zerun ?_
  (refine RW.lit T hs (vs := [.int .i64 1]) (cs := [.int .i64 1]) rfl rfl rfl rfl (by simp [Value.cells]) rfl rfl rfl rfl rfl ?_; intro b6 w6 hs)
  (refine RW.append T hs 1 rfl rfl (m := 1) (news := [.int .i64 1]) rfl rfl rfl rfl rfl rfl (hs.src0 rfl (by simp [Value.oneCell'])) (by simp) (by dsimp only; omega) (by omega) ?_; intro ad7 cp7 w7 hs; replace hs := hs.drop)
  refine Zerun ?_
  have hT8 : Sl h 1 (subAd adp j cpp 1) (p.shape.length - j) (cpp - j) ((p.shape.drop j).map (Value.int .i64)) := by
    have := hSp.from j hjl
    rw [Nat.mul_one, ← List.map_drop] at this
    exact this
  refine CW.regionR T 2 2 hs rfl rfl ?_
  intro w31 hs
  refine HW.takeR (fuel := 12) 0 rfl (fun _ _ ka kb _ hs hka hkb => Y.move rfl) ⟨_, _, 2, 2, hs, rfl, rfl⟩ rfl (by kernel_rfl) (by kernel_rfl) (by kernel_rfl) ?_
  refine HW.takeR (fuel := 11) 1 rfl (fun _ _ ka kb _ hs hka hkb => Y.fieldAddr T rfl rfl rfl rfl rfl) ⟨_, _, 2, 2, hs, rfl, rfl⟩ rfl (by kernel_rfl) (by kernel_rfl) (by kernel_rfl) ?_
  refine HW.takeR (fuel := 10) 2 rfl (fun _ _ ka kb _ hs hka hkb => Y.loadRow1 T hs ka hka rfl rfl rfl rfl) ⟨_, _, 2, 2, hs, rfl, rfl⟩ rfl (by kernel_rfl) (by kernel_rfl) (by kernel_rfl) ?_
  refine HW.takeR (fuel := 9) 3 rfl (fun _ _ ka kb _ hs hka hkb => Y.move rfl) ⟨_, _, 2, 2, hs, rfl, rfl⟩ rfl (by kernel_rfl) (by kernel_rfl) (by kernel_rfl) ?_
  refine HW.takeR (fuel := 8) 4 rfl (fun _ _ ka kb _ hs hka hkb => Y.sliceLoN T rfl rfl rfl rfl hjl) ⟨_, _, 2, 2, hs, rfl, rfl⟩ rfl (by kernel_rfl) (by kernel_rfl) (by kernel_rfl) ?_
  refine HW.takeR (fuel := 7) 6 rfl (fun _ _ ka kb _ hs hka hkb => Y.fieldAddr T rfl rfl rfl rfl rfl) ⟨_, _, 2, 2, hs, rfl, rfl⟩ rfl (by kernel_rfl) (by kernel_rfl) (by kernel_rfl) ?_
  refine HW.takeR (fuel := 6) 7 rfl (fun _ _ ka kb _ hs hka hkb => Y.loadRow1 T hs ka hka rfl rfl rfl rfl) ⟨_, _, 2, 2, hs, rfl, rfl⟩ rfl (by kernel_rfl) (by kernel_rfl) (by kernel_rfl) ?_
  refine HW.takeR (fuel := 5) 8 rfl (fun _ _ ka kb _ hs hka hkb => Y.fieldAddr T rfl rfl rfl rfl rfl) ⟨_, _, 2, 2, hs, rfl, rfl⟩ rfl (by kernel_rfl) (by kernel_rfl) (by kernel_rfl) ?_
  refine HW.takeR (fuel := 4) 9 rfl (fun _ _ ka kb _ hs hka hkb => Y.loadRow1 T hs ka hka rfl rfl rfl rfl) ⟨_, _, 2, 2, hs, rfl, rfl⟩ rfl (by kernel_rfl) (by kernel_rfl) (by kernel_rfl) ?_
  refine HW.one (fuel := 3) 5 rfl (by kernel_rfl) ?_
  refine RW.append T hs 0 rfl rfl (m := p.shape.length - j) (news := (p.shape.drop j).map (Value.int .i64)) rfl rfl rfl rfl rfl rfl (hT8.src hs.agree (one_ints _ _)) (sl_none hT8) (by dsimp only; omega) (by omega) ?_
  intro ad9 cp9 w9 hs
  refine RW.nil ?_
  refine heldQ_normal ⟨_, _, 2, 2, hs, rfl, rfl⟩ ?_
  refine HW.takeR (fuel := 2) 10 rfl (fun _ _ ka kb _ hs hka hkb => Y.build T rfl rfl rfl rfl rfl rfl rfl) ⟨_, _, 2, 2, hs, rfl, rfl⟩ rfl (by kernel_rfl) (by kernel_rfl) (by kernel_rfl) ?_
  refine HW.one (fuel := 1) 11 rfl (by kernel_rfl) ?_
  (refine RW.storeAll T hs 1 rfl rfl rfl rfl rfl rfl rfl rfl ?_; intro w10 hs)
  refine RW.nil ?_
  refine heldQ_normal ⟨_, _, 2, 2, hs, rfl, rfl⟩ ?_
  refine HW.takeR (fuel := 0) 12 rfl (fun _ _ ka kb _ hs hka hkb => Y.assign rfl) ⟨_, _, 2, 2, hs, rfl, rfl⟩ rfl (by kernel_rfl) (by kernel_rfl) (by kernel_rfl) ?_
  refine HW.done (by kernel_rfl) ?_
  refine calmQ_normal ?_
  obtain ⟨h11, hle11, hs, hS11⟩ := hs.freeze
  have hl11 : (p.shape.take j ++ 1 :: p.shape.drop j).length = j + 1 + (p.shape.length - j) := by rw [List.length_append, List.length_cons, List.length_take, List.length_drop]; omega
  have hI11 : IntsAt h11 (.slice ad9 (j + 1 + (p.shape.length - j)) cp9) (p.shape.take j ++ 1 :: p.shape.drop j) := by
    dsimp only at hS11
    rw [← hl11] at hS11 ⊢
    refine IntsAt.of_sl ?_
    rw [List.map_append, List.map_cons]
    simpa using hS11
  refine Zerun ?_
  exact retQ_ret [_, _] h11 ⟨resN T hs 0 rfl rfl rfl rfl rfl rfl, rfl, trivial⟩ hs.dropAll ⟨_, rfl, _, _, rfl, hI11, hitp'.mono hle11 (fun u a => ItemAt.mono (PlainAt.mono (k + 1)) _ _ u a hle11)⟩
end Go.Proofs.YtmojpbfkpggjhaaGreat

/-
  Contract of the document's answer of layer 22: arrays behind each other. No statement is proved here.
-/
namespace Go.Proofs.YtmojpbfkpggjhaaGreat
open Go Go.RowKit
set_option linter.unusedVariables false
set_option linter.unusedSimpArgs false
set_option maxHeartbeats 4000000
attribute [local irreducible] CW RW QW SW HW ConM retM heldQ calmQ elemP thenQ blockQ loopQ joinQ retQ Yields Con Sl zF magR unitF truncF fwF wholeF tidySpec elemQ rankF leastN tidyW
set_option maxHeartbeats 4000000

noncomputable def catR {k : Nat} (p q : PlainD (PD (k + 1))) (first : Bool) (most : Int) : Int × PlainD (PD (k + 1)) := catRx (β := PD k) p q (catSh p.shape q.shape) (catAx (catSh p.shape q.shape) first) most
theorem catSh_ge (s0 s1 : List Int) : s0.length ≤ (catSh s0 s1).length ∧ s1.length ≤ (catSh s0 s1).length := by
  have key : ∀ m : List Int, m.length ≤ (if m.length = 0 then [1] else m).length := fun m => by
    by_cases d : m.length = 0
    · rw [if_pos d, d]; exact Nat.zero_le _
    · rw [if_neg d]; exact Nat.le_refl _
  have := key (if s0.length < s1.length then s1 else s0)
  unfold catSh
  have h2 : s0.length ≤ (if s0.length < s1.length then s1 else s0).length ∧ s1.length ≤ (if s0.length < s1.length then s1 else s0).length := by
    by_cases c : s0.length < s1.length
    · rw [if_pos c]; omega
    · rw [if_neg c]; omega
  exact ⟨Nat.le_trans h2.1 this, Nat.le_trans h2.2 this⟩
theorem spE_22 {s0 s : List Int} (h : ¬ spE s0 s = 0) : spE s0 s = 22 := by
  unfold spE at h ⊢
  by_cases c : s0.length = s.length ∨ s0.length = 0 ∨ s0.length + 1 = s.length
  · rw [if_pos c] at h; exact absurd rfl h
  · rw [if_neg c]
theorem two_rowsP {α : Type} {R : GHeap → List Value → α → Prop} {h : GHeap} {b : Nat} {c1 c2 : List Value} {x y : α} (hS : Sl h 3 (some ⟨b, 0, none⟩) 2 2 (c1 ++ c2)) (l1 : c1.length = 3) (h1 : R h c1 x) (l2 : c2.length = 3) (h2 : R h c2 y) : RowsAt 3 (R h) h (.slice (some ⟨b, 0, none⟩) 2 2) [x, y] :=
  ⟨_, _, _, rfl, hS, (AllN.one l1 h1).append (AllN.one l2 h2)⟩
theorem sp_prod {k : Nat} {p : PlainD (PD (k + 1))} (hp : product p.shape 1048576 = ((p.items.length : Int), 0)) {s : List Int} (hg : goodS s = true) (he : spE p.shape s = 0) {j : Nat} (hj : j < s.length) : product (spS p.shape s j) 1048576 = (((spI (α := PD k) p s j).length : Int), 0) := by
  obtain ⟨n1, n2, n3⟩ := spN_spec hg j
  have h8 := ((goodS_spec s).1 hg).1
  unfold spI spS
  by_cases c1 : p.shape.length = s.length
  · rw [if_pos c1, if_pos c1]; exact hp
  · rw [if_neg c1, if_neg c1]
    by_cases c2 : p.shape.length = 0
    · rw [if_pos c2, if_pos c2, n1, List.length_map, againL_length]
      congr 1
      omega
    · rw [if_neg c2, if_neg c2]
      refine product_ins hp j ?_
      unfold spE at he
      by_cases c3 : p.shape.length + 1 = s.length
      · omega
      · rw [if_neg (by omega)] at he; cases he
theorem ref22Catenate_con (k : Nat) (cp0 cq0 : List Value) (p q : PlainD (PD (k + 1))) (first : Bool) (most : Int) (w : World) (h : GHeap) (hp : PlainAt (k + 2) h cp0 p) (hq : PlainAt (k + 2) h cq0 q) (hpp : product p.shape 1048576 = ((p.items.length : Int), 0)) (hpq : product q.shape 1048576 = ((q.items.length : Int), 0)) (hfp : 0 ≤ p.fill) (hfq : 0 ≤ q.fill) (hmost : most ≤ 100000) :
    Con Tryz.prog 39 [.agg cp0.toArray, .agg cq0.toArray, .bool first, .int .i64 most] w h (fun h' u => ∃ cs', u = .tuple #[.agg cs'.toArray, .int .i64 (catR p q first most).1] ∧ PlainAt (k + 2) h' cs' (catR p q first most).2) := by
  have hp' := hp
  obtain ⟨_, _, rfl, ⟨adp, cpp, rfl, hSp⟩, hitp⟩ := hp
  obtain ⟨aip, cip, xsp, rfl, _, _⟩ := hitp
  have mp : ∀ h', GLe h h' → PlainAt (k + 2) h' [.slice adp p.shape.length cpp, .slice aip p.items.length cip, .int .i64 p.fill] p := fun h' hl => PlainAt.mono (k + 2) _ _ _ _ hl hp'
  have hq' := hq
  obtain ⟨_, _, rfl, ⟨adq, cpq, rfl, hSq⟩, hitq⟩ := hq
  obtain ⟨aiq, ciq, xsq, rfl, _, _⟩ := hitq
  have mq : ∀ h', GLe h h' → PlainAt (k + 2) h' [.slice adq q.shape.length cpq, .slice aiq q.items.length ciq, .int .i64 q.fill] q := fun h' hl => PlainAt.mono (k + 2) _ _ _ _ hl hq'
  obtain ⟨m, hm⟩ : ∃ m, (if p.shape.length < q.shape.length then q.shape else p.shape) = m := ⟨_, rfl⟩
  obtain ⟨s, hs0⟩ : ∃ s, catSh p.shape q.shape = s := ⟨_, rfl⟩
  have hgp : goodS p.shape = true := (goodS_iff _).2 (by rw [hpp])
  have hgq : goodS q.shape = true := (goodS_iff _).2 (by rw [hpq])
  have hgs := catSh_good hgp hgq
  have hs1 := catSh_pos p.shape q.shape
  have hle := catSh_ge p.shape q.shape
  rw [hs0] at hgs hs1 hle
  have lp8 := ((goodS_spec _).1 hgp).1
  have lq8 := ((goodS_spec _).1 hgq).1
  have hs8 := ((goodS_spec _).1 hgs).1
  have hsm : s = if m.length = 0 then [1] else m := by rw [← hs0, ← hm]; rfl
  have hcs : catR p q first most = catRx (β := PD k) p q s (catAx s first) most := by unfold catR; rw [hs0]
  have hjl := catAx_lt hs1 first
  obtain ⟨j, hj⟩ : ∃ j, catAx s first = j := ⟨_, rfl⟩
  rw [hj] at hcs hjl
  refine Con.of_body Tryz.func39 rfl Tryz.ntmps39 rfl rfl ?_
  intro hs
  refine Zrun ?_
  (refine RW.boxN hs rfl rfl ?_; intro b1 w1 hs)
  refine Zrun ?_
  (refine RW.boxN hs rfl rfl ?_; intro b2 w2 hs)
  refine Zrun ?_
  (refine RW.allocN T hs rfl rfl rfl rfl ?_; intro b3 w3 hs)
  have hcapp := hSp.caps
  have hcapq := hSq.caps
  refine Zerun ?_
  refine CW.meet (fun u : Option Addr × Nat => [(2, .bool first), (3, .int .i64 most), (4, .pointer (some ⟨b1, 0, none⟩)), (5, .pointer (some ⟨b2, 0, none⟩)), (8, .pointer (some ⟨b3, 0, none⟩)), (10, .slice u.1 m.length u.2)]) (fun u w' => Sl h 1 u.1 m.length u.2 (m.map (Value.int .i64)) ∧ Sees w h h [⟨some ⟨b3, 0, none⟩, 1, 1, 25, 3, [.slice none 0 0, .slice none 0 0, .int .i64 0]⟩, ⟨some ⟨b2, 0, none⟩, 1, 1, 25, 3, [.slice adq q.shape.length cpq, .slice aiq q.items.length ciq, .int .i64 q.fill]⟩, ⟨some ⟨b1, 0, none⟩, 1, 1, 25, 3, [.slice adp p.shape.length cpp, .slice aip p.items.length cip, .int .i64 p.fill]⟩] w') ?_ ?_
  · by_cases c : p.shape.length < q.shape.length
    · rw [if_pos c] at hm
      subst hm
      refine Zerun ?_
      exact joinQ_meet (adq, cpq) ⟨rfl, rfl, rfl, rfl, rfl, rfl, trivial⟩ ⟨hSq, hs⟩
    · rw [if_neg c] at hm
      subst hm
      refine Zerun ?_
      exact joinQ_meet (adp, cpp) ⟨rfl, rfl, rfl, rfl, rfl, rfl, trivial⟩ ⟨hSp, hs⟩
  rintro ⟨adm, cpm⟩ w4 ⟨hSm, hs⟩
  dsimp only at hSm hs ⊢
  refine Zerun ?_
  refine CW.meet (fun u : (Option Addr × Nat) × GHeap => [(2, .bool first), (3, .int .i64 most), (4, .pointer (some ⟨b1, 0, none⟩)), (5, .pointer (some ⟨b2, 0, none⟩)), (8, .pointer (some ⟨b3, 0, none⟩)), (10, .slice u.1.1 s.length u.1.2)]) (fun u w' => GLe h u.2 ∧ Sl u.2 1 u.1.1 s.length u.1.2 (s.map (Value.int .i64)) ∧ Sees w h u.2 [⟨some ⟨b3, 0, none⟩, 1, 1, 25, 3, [.slice none 0 0, .slice none 0 0, .int .i64 0]⟩, ⟨some ⟨b2, 0, none⟩, 1, 1, 25, 3, [.slice adq q.shape.length cpq, .slice aiq q.items.length ciq, .int .i64 q.fill]⟩, ⟨some ⟨b1, 0, none⟩, 1, 1, 25, 3, [.slice adp p.shape.length cpp, .slice aip p.items.length cip, .int .i64 p.fill]⟩] w') ?_ ?_
  · by_cases c : m.length = 0
    · rw [if_pos c] at hsm
      subst hsm
      have c' : (m.length : Int) = 0 := by omega
      refine Zerun ?_
      (refine RW.lit T hs (vs := [.int .i64 1]) (cs := [.int .i64 1]) rfl rfl rfl rfl (by simp [Value.cells]) rfl rfl rfl rfl rfl ?_; intro b5 w5 hs)
      obtain ⟨h5, hle5, hs, hS5⟩ := hs.freeze
      refine Zerun ?_
      exact joinQ_meet ((some ⟨b5, 0, none⟩, 1), h5) ⟨rfl, rfl, rfl, rfl, rfl, rfl, trivial⟩ ⟨hle5, hS5, hs⟩
    · rw [if_neg c] at hsm
      subst hsm
      have c' : ¬ (s.length : Int) = 0 := by omega
      refine Zerun ?_
      exact joinQ_meet ((adm, cpm), h) ⟨rfl, rfl, rfl, rfl, rfl, rfl, trivial⟩ ⟨GLe.refl _, hSm, hs⟩
  rintro ⟨⟨ads, cps⟩, h6⟩ w6 ⟨g6, hSs, hs⟩
  dsimp only at g6 hSs hs ⊢
  have hcaps := hSs.caps
  refine Zerun ?_
  refine CW.meet (fun _ : Unit => [(2, .bool first), (3, .int .i64 most), (4, .pointer (some ⟨b1, 0, none⟩)), (5, .pointer (some ⟨b2, 0, none⟩)), (8, .pointer (some ⟨b3, 0, none⟩)), (10, .slice ads s.length cps), (11, .int .i64 (j : Int))]) (fun _ w' => Sees w h h6 [⟨some ⟨b3, 0, none⟩, 1, 1, 25, 3, [.slice none 0 0, .slice none 0 0, .int .i64 0]⟩, ⟨some ⟨b2, 0, none⟩, 1, 1, 25, 3, [.slice adq q.shape.length cpq, .slice aiq q.items.length ciq, .int .i64 q.fill]⟩, ⟨some ⟨b1, 0, none⟩, 1, 1, 25, 3, [.slice adp p.shape.length cpp, .slice aip p.items.length cip, .int .i64 p.fill]⟩] w') ?_ ?_
  · cases first with
    | true =>
      refine Zerun ?_
      exact joinQ_meet () ⟨rfl, rfl, rfl, rfl, rfl, rfl, seti (by rw [← hj]; rfl), trivial⟩ hs
    | false =>
      refine Zerun ?_
      exact joinQ_meet () ⟨rfl, rfl, rfl, rfl, rfl, rfl, seti (by rw [← hj]; unfold catAx; rw [if_neg (by decide)]; omega), trivial⟩ hs
  rintro ⟨⟩ w7 hs
  have hIs : IntsAt h6 (.slice ads s.length cps) s := ⟨ads, cps, rfl, hSs⟩
  have hjk : ∀ n : Nat, n + 1 = s.length → j ≤ n := fun n hn => by omega
  refine Zerun ?_
  (refine RW.call T hs rfl rfl rfl (ref22Spread_con k _ p _ s j _ _ (mp _ g6) hIs hjl hgs lp8 (hjk _)) ?_; intro v h8 w8 hle8 hp8 hs)
  obtain ⟨cs8, rfl, hq8c⟩ := hp8
  have g8 := g6.trans hle8
  have hIs := hIs.mono hle8
  by_cases ea : spE p.shape s = 0
  rotate_left
  · have e22 : spE p.shape s = 22 := spE_22 ea
    rw [e22]
    obtain ⟨zP, hzP⟩ : ∃ zP, spP (β := PD k) p s j = zP := ⟨_, rfl⟩
    rw [hzP] at hq8c
    have hq8 := hq8c
    have hq8' := hq8
    obtain ⟨_, _, rfl, ⟨ad8, cp8, rfl, hS8⟩, hit8⟩ := hq8
    have hit8' := hit8
    obtain ⟨ai8, ci8, xs8, rfl, hSI8, hAI8⟩ := hit8
    refine Zerun ?_
    (refine RW.allocN T hs rfl rfl rfl rfl ?_; intro b12 w12 hs)
    (refine RW.storeAll T hs 0 rfl rfl rfl rfl rfl rfl rfl rfl ?_; intro w9 hs)
    rw [show catR p q first most = (22, zeroQ) from by rw [hcs]; unfold catRx; rw [if_pos (.inl (by omega))]; try rfl]
    refine Zerun ?_
    refine RW.val (Y.build T rfl rfl rfl rfl rfl rfl rfl) rfl ?_
    refine Zerun ?_
    (refine RW.storeAll T hs 1 rfl rfl rfl rfl rfl rfl rfl rfl ?_; intro w10 hs)
    refine Zerun ?_
    exact retQ_ret [_, _] h8 ⟨resN T hs 1 rfl rfl rfl rfl rfl rfl, rfl, trivial⟩ hs.dropAll ⟨_, rfl, ⟨_, _, rfl, IntsAt.nil _, RowsAt.nil _⟩⟩
  rw [ea]
  have hX : spP (β := PD k) p s j = (⟨spS p.shape s j, spI (α := PD k) p s j, p.fill⟩ : PlainD (PD (k + 1))) := by unfold spP; rw [if_pos ea]; rfl
  rw [hX] at hq8c
  obtain ⟨LP, hLP⟩ : ∃ LP : List (ItemD (PD (k + 1))), spI (α := PD k) p s j = LP := ⟨_, rfl⟩
  obtain ⟨X, hXe⟩ : ∃ X, spS p.shape s j = X := ⟨_, rfl⟩
  have hpX := sp_prod (p := p) hpp hgs ea hjl
  rw [hXe, hLP] at hq8c hpX
  have hpX : product X 1048576 = ((LP.length : Int), 0) := hpX
  have lX := sp_len ea hjl
  rw [hXe] at lX
  have hq8 := hq8c
  have hq8' := hq8
  obtain ⟨_, _, rfl, ⟨ad8, cp8, rfl, hS8⟩, hit8⟩ := hq8
  have hit8' := hit8
  obtain ⟨ai8, ci8, xs8, rfl, hSI8, hAI8⟩ := hit8
  refine Zerun ?_
  (refine RW.allocN T hs rfl rfl rfl rfl ?_; intro b12 w12 hs)
  (refine RW.storeAll T hs 0 rfl rfl rfl rfl rfl rfl rfl rfl ?_; intro w9 hs)
  refine Zerun ?_
  (refine RW.call T hs rfl rfl rfl (ref22Spread_con k _ q _ s j _ _ (mq _ g8) hIs hjl hgs lq8 (hjk _)) ?_; intro v h11 w11 hle11 hp11 hs)
  obtain ⟨cs11, rfl, hq11c⟩ := hp11
  have g11 := g8.trans hle11
  have hq8' := PlainAt.mono (k + 2) _ _ _ _ hle11 hq8'
  have hS8 := hS8.mono hle11
  by_cases eb : spE q.shape s = 0
  rotate_left
  · have e22 : spE q.shape s = 22 := spE_22 eb
    rw [e22]
    obtain ⟨zP, hzP⟩ : ∃ zP, spP (β := PD k) q s j = zP := ⟨_, rfl⟩
    rw [hzP] at hq11c
    have hq11 := hq11c
    have hq11' := hq11
    obtain ⟨_, _, rfl, ⟨ad11, cp11, rfl, hS11⟩, hit11⟩ := hq11
    have hit11' := hit11
    obtain ⟨ai11, ci11, xs11, rfl, hSI11, hAI11⟩ := hit11
    refine Zerun ?_
    (refine RW.allocN T hs rfl rfl rfl rfl ?_; intro b14 w14 hs)
    (refine RW.storeAll T hs 0 rfl rfl rfl rfl rfl rfl rfl rfl ?_; intro w12 hs)
    rw [show catR p q first most = (22, zeroQ) from by rw [hcs]; unfold catRx; rw [if_pos (.inr (by omega))]; try rfl]
    refine Zerun ?_
    refine RW.val (Y.build T rfl rfl rfl rfl rfl rfl rfl) rfl ?_
    refine Zerun ?_
    (refine RW.storeAll T hs 2 rfl rfl rfl rfl rfl rfl rfl rfl ?_; intro w10 hs)
    refine Zerun ?_
    exact retQ_ret [_, _] h11 ⟨resN T hs 2 rfl rfl rfl rfl rfl rfl, rfl, trivial⟩ hs.dropAll ⟨_, rfl, ⟨_, _, rfl, IntsAt.nil _, RowsAt.nil _⟩⟩
  rw [eb]
  have hY : spP (β := PD k) q s j = (⟨spS q.shape s j, spI (α := PD k) q s j, q.fill⟩ : PlainD (PD (k + 1))) := by unfold spP; rw [if_pos eb]; rfl
  rw [hY] at hq11c
  obtain ⟨LQ, hLQ⟩ : ∃ LQ : List (ItemD (PD (k + 1))), spI (α := PD k) q s j = LQ := ⟨_, rfl⟩
  obtain ⟨Y0, hYe⟩ : ∃ Y0, spS q.shape s j = Y0 := ⟨_, rfl⟩
  have hpY := sp_prod (p := q) hpq hgs eb hjl
  rw [hYe, hLQ] at hq11c hpY
  have hpY : product Y0 1048576 = ((LQ.length : Int), 0) := hpY
  have lY := sp_len eb hjl
  rw [hYe] at lY
  have hq11 := hq11c
  have hq11' := hq11
  obtain ⟨_, _, rfl, ⟨ad11, cp11, rfl, hS11⟩, hit11⟩ := hq11
  have hit11' := hit11
  obtain ⟨ai11, ci11, xs11, rfl, hSI11, hAI11⟩ := hit11
  have hjx : j < X.length := by omega
  have hjy : j < Y0.length := by omega
  have hcs2 : catR p q first most = if X.eraseIdx j ≠ Y0.eraseIdx j then (23, zeroQ) else if (product (catT X Y0 j) most).2 ≠ 0 then ((product (catT X Y0 j) most).2, zeroQ) else match joinP (-1) [(⟨X, LP, p.fill⟩ : PlainD (PD (k + 1))), ⟨Y0, LQ, q.fill⟩] with
    | none => (24, zeroQ)
    | some c => (0, (⟨catT X Y0 j, catItems X Y0 j LP LQ (product (catT X Y0 j) most).1 noItem, if 0 ≤ c then c else p.fill⟩ : PlainD (PD (k + 1)))) := by
      rw [hcs]
      unfold catRx
      rw [if_neg (by omega)]
      subst hXe hYe hLP hLQ
      rfl
  have hcapX := hS8.caps
  have hcapY := hS11.caps
  have hgX : goodS X = true := (goodS_iff _).2 (by rw [hpX])
  have hgY : goodS Y0 = true := (goodS_iff _).2 (by rw [hpY])
  refine Zerun ?_
  (refine RW.allocN T hs rfl rfl rfl rfl ?_; intro b14 w14 hs)
  (refine RW.storeAll T hs 0 rfl rfl rfl rfl rfl rfl rfl rfl ?_; intro w12 hs)
  refine Zerun ?_
  have hIX : IntsAt h11 (.slice ad8 X.length cp8) X := ⟨ad8, cp8, rfl, hS8⟩
  have hIY : IntsAt h11 (.slice ad11 Y0.length cp11) Y0 := ⟨ad11, cp11, rfl, hS11⟩
  obtain ⟨xe, hxe⟩ : ∃ xe, X.eraseIdx j = xe := ⟨_, rfl⟩
  obtain ⟨ye, hye⟩ : ∃ ye, Y0.eraseIdx j = ye := ⟨_, rfl⟩
  have lxe : xe.length + 1 = X.length := by rw [← hxe, List.length_eraseIdx_of_lt hjx]; omega
  have lye : ye.length + 1 = Y0.length := by rw [← hye, List.length_eraseIdx_of_lt hjy]; omega
  rw [hxe, hye] at hcs2
  refine CW.meet (fun u : (Option Addr × Nat) × (Option Addr × Nat) × GHeap => [(3, .int .i64 most), (8, .pointer (some ⟨b3, 0, none⟩)), (11, .int .i64 (j : Int)), (12, .pointer (some ⟨b12, 0, none⟩)), (14, .pointer (some ⟨b14, 0, none⟩)), (15, .slice u.1.1 xe.length u.1.2), (16, .slice u.2.1.1 ye.length u.2.1.2)]) (fun u w' => GLe h11 u.2.2 ∧ Sl u.2.2 1 u.1.1 xe.length u.1.2 (xe.map (Value.int .i64)) ∧ Sl u.2.2 1 u.2.1.1 ye.length u.2.1.2 (ye.map (Value.int .i64)) ∧ Sees w h u.2.2 [⟨some ⟨b14, 0, none⟩, 1, 1, 25, 3, [.slice ad11 Y0.length cp11, .slice ai11 LQ.length ci11, .int .i64 q.fill]⟩, ⟨some ⟨b12, 0, none⟩, 1, 1, 25, 3, [.slice ad8 X.length cp8, .slice ai8 LP.length ci8, .int .i64 p.fill]⟩, ⟨some ⟨b3, 0, none⟩, 1, 1, 25, 3, [.slice none 0 0, .slice none 0 0, .int .i64 0]⟩, ⟨some ⟨b2, 0, none⟩, 1, 1, 25, 3, [.slice adq q.shape.length cpq, .slice aiq q.items.length ciq, .int .i64 q.fill]⟩, ⟨some ⟨b1, 0, none⟩, 1, 1, 25, 3, [.slice adp p.shape.length cpp, .slice aip p.items.length cip, .int .i64 p.fill]⟩] w') ?_ ?_
  · refine CW.regionG T 1 0 hs rfl rfl ?_
    intro w15 hs
    have hgl := GLe.refl h11
    refine HW.takeG (fuel := 9) 0 rfl (fun _ _ ka kb _ hg hs hka hkb => Y.fieldAddr T rfl rfl rfl rfl rfl) ⟨_, _, 1, 0, hgl, hs, rfl, rfl⟩ rfl (by kernel_rfl) (by kernel_rfl) (by kernel_rfl) ?_
    refine HW.takeG (fuel := 8) 1 rfl (fun _ _ ka kb _ hg hs hka hkb => Y.loadRow1 T hs ka hka rfl rfl rfl rfl) ⟨_, _, 1, 0, hgl, hs, rfl, rfl⟩ rfl (by kernel_rfl) (by kernel_rfl) (by kernel_rfl) ?_
    refine HW.takeG (fuel := 7) 2 rfl (fun _ _ ka kb _ hg hs hka hkb => Y.move rfl) ⟨_, _, 1, 0, hgl, hs, rfl, rfl⟩ rfl (by kernel_rfl) (by kernel_rfl) (by kernel_rfl) ?_
    refine HW.takeG (fuel := 6) 4 rfl (fun _ _ ka kb _ hg hs hka hkb => Y.fieldAddr T rfl rfl rfl rfl rfl) ⟨_, _, 1, 0, hgl, hs, rfl, rfl⟩ rfl (by kernel_rfl) (by kernel_rfl) (by kernel_rfl) ?_
    refine HW.takeG (fuel := 5) 5 rfl (fun _ _ ka kb _ hg hs hka hkb => Y.loadRow1 T hs kb hkb rfl rfl rfl rfl) ⟨_, _, 1, 0, hgl, hs, rfl, rfl⟩ rfl (by kernel_rfl) (by kernel_rfl) (by kernel_rfl) ?_
    refine HW.takeG (fuel := 4) 6 rfl (fun _ _ ka kb _ hg hs hka hkb => Y.move rfl) ⟨_, _, 1, 0, hgl, hs, rfl, rfl⟩ rfl (by kernel_rfl) (by kernel_rfl) (by kernel_rfl) ?_
    refine HW.one (fuel := 3) 3 rfl (by kernel_rfl) ?_
    (refine RW.call T hs rfl rfl rfl (refWithout_con _ X (j : Int) _ _ (hIX.mono hgl) (by omega) (by omega)) ?_; intro v h70 w70 hle70 hp70 hs)
    rw [Int.toNat_natCast, hxe] at hp70
    obtain ⟨adw70, cpw70, rfl, hSw70⟩ := hp70
    have hgl := hgl.trans hle70
    refine RW.nil ?_
    refine heldQ_normal ⟨_, _, 1, 0, hgl, hs, rfl, rfl⟩ ?_
    refine HW.one (fuel := 2) 7 rfl (by kernel_rfl) ?_
    (refine RW.call T hs rfl rfl rfl (refWithout_con _ Y0 (j : Int) _ _ (hIY.mono hgl) (by omega) (by omega)) ?_; intro v h74 w74 hle74 hp74 hs)
    rw [Int.toNat_natCast, hye] at hp74
    obtain ⟨adw74, cpw74, rfl, hSw74⟩ := hp74
    have hSw70 := hSw70.mono hle74
    have hgl := hgl.trans hle74
    refine RW.nil ?_
    refine heldQ_normal ⟨_, _, 1, 0, hgl, hs, rfl, rfl⟩ ?_
    refine HW.takeG (fuel := 1) 8 rfl (fun _ _ ka kb _ hg hs hka hkb => Y.assign rfl) ⟨_, _, 1, 0, hgl, hs, rfl, rfl⟩ rfl (by kernel_rfl) (by kernel_rfl) (by kernel_rfl) ?_
    refine HW.takeG (fuel := 0) 9 rfl (fun _ _ ka kb _ hg hs hka hkb => Y.assign rfl) ⟨_, _, 1, 0, hgl, hs, rfl, rfl⟩ rfl (by kernel_rfl) (by kernel_rfl) (by kernel_rfl) ?_
    refine HW.done (by kernel_rfl) ?_
    refine calmQ_normal ?_
    exact joinQ_meet ((adw70, cpw70), (adw74, cpw74), _) ⟨rfl, rfl, rfl, rfl, rfl, rfl, rfl, trivial⟩ ⟨hgl, hSw70, hSw74, hs⟩
  rintro ⟨⟨adx, cpx⟩, ⟨ady, cpy⟩, h16⟩ w16 ⟨g16, hSx, hSy, hs⟩
  dsimp only at g16 hSx hSy hs ⊢
  have hcapx := hSx.caps
  have hcapy := hSy.caps
  refine Zerun ?_
  refine CW.meetB (fun _ : Unit => [(3, .int .i64 most), (8, .pointer (some ⟨b3, 0, none⟩)), (11, .int .i64 (j : Int)), (12, .pointer (some ⟨b12, 0, none⟩)), (14, .pointer (some ⟨b14, 0, none⟩))]) (fun _ w' => xe = ye ∧ Sees w h h16 [⟨some ⟨b14, 0, none⟩, 1, 1, 25, 3, [.slice ad11 Y0.length cp11, .slice ai11 LQ.length ci11, .int .i64 q.fill]⟩, ⟨some ⟨b12, 0, none⟩, 1, 1, 25, 3, [.slice ad8 X.length cp8, .slice ai8 LP.length ci8, .int .i64 p.fill]⟩, ⟨some ⟨b3, 0, none⟩, 1, 1, 25, 3, [.slice none 0 0, .slice none 0 0, .int .i64 0]⟩, ⟨some ⟨b2, 0, none⟩, 1, 1, 25, 3, [.slice adq q.shape.length cpq, .slice aiq q.items.length ciq, .int .i64 q.fill]⟩, ⟨some ⟨b1, 0, none⟩, 1, 1, 25, 3, [.slice adp p.shape.length cpp, .slice aip p.items.length cip, .int .i64 p.fill]⟩] w') ?_ ?_
  · refine CW.loop (fun i : Nat => [(3, .int .i64 most), (8, .pointer (some ⟨b3, 0, none⟩)), (11, .int .i64 (j : Int)), (12, .pointer (some ⟨b12, 0, none⟩)), (14, .pointer (some ⟨b14, 0, none⟩)), (15, .slice adx xe.length cpx), (16, .slice ady ye.length cpy), (17, .int .i64 i)]) (fun i w' => i ≤ xe.length ∧ xe.take i = ye.take i ∧ Sees w h h16 [⟨some ⟨b14, 0, none⟩, 1, 1, 25, 3, [.slice ad11 Y0.length cp11, .slice ai11 LQ.length ci11, .int .i64 q.fill]⟩, ⟨some ⟨b12, 0, none⟩, 1, 1, 25, 3, [.slice ad8 X.length cp8, .slice ai8 LP.length ci8, .int .i64 p.fill]⟩, ⟨some ⟨b3, 0, none⟩, 1, 1, 25, 3, [.slice none 0 0, .slice none 0 0, .int .i64 0]⟩, ⟨some ⟨b2, 0, none⟩, 1, 1, 25, 3, [.slice adq q.shape.length cpq, .slice aiq q.items.length ciq, .int .i64 q.fill]⟩, ⟨some ⟨b1, 0, none⟩, 1, 1, 25, 3, [.slice adp p.shape.length cpp, .slice aip p.items.length cip, .int .i64 p.fill]⟩] w') (fun i => xe.length - i) 0 ⟨rfl, rfl, rfl, rfl, rfl, rfl, rfl, rfl, trivial⟩ ⟨by omega, rfl, hs⟩ ?_
    rintro i w17 ⟨hi, heq, hs⟩
    by_cases hlt : i < xe.length
    rotate_left
    · obtain rfl : i = xe.length := by omega
      refine Zerun ?_
      exact joinQ_meet () ⟨rfl, rfl, rfl, rfl, rfl, trivial⟩ ⟨by rw [List.take_length, List.take_of_length_le (by omega)] at heq; exact heq, hs⟩
    have hlt2 : i < ye.length := by omega
    have gx := map_get (Value.int .i64) xe i 0 hlt
    have gy := map_get (Value.int .i64) ye i 0 hlt2
    have tx := take_succ_getD xe i 0 hlt
    have ty := take_succ_getD ye i 0 hlt2
    refine Zerun ?_
    refine CW.regionQ T hs (Zeqrun ?_) (by kernel_rfl)
    intro w19 hs
    by_cases ce : xe.getD i 0 = ye.getD i 0
    · have ce' : ¬ (xe.getD i 0 ≠ ye.getD i 0) := fun h => h ce
      refine Zerun ?_
      exact loopQ_round (i + 1) ⟨rfl, rfl, rfl, rfl, rfl, rfl, rfl, rfl, trivial⟩ ⟨by omega, by rw [tx, ty, heq, ce], hs⟩ (by omega)
    have hne : xe ≠ ye := fun e => ce (by rw [e])
    rw [show catR p q first most = (23, zeroQ) from by rw [hcs2, if_pos hne]]
    refine Zerun ?_
    refine RW.val (Y.build T rfl rfl rfl rfl rfl rfl rfl) rfl ?_
    refine Zerun ?_
    (refine RW.storeAll T hs 2 rfl rfl rfl rfl rfl rfl rfl rfl ?_; intro w18 hs)
    refine Zerun ?_
    exact retQ_ret [_, _] h16 ⟨resN T hs 2 rfl rfl rfl rfl rfl rfl, rfl, trivial⟩ hs.dropAll ⟨_, rfl, ⟨_, _, rfl, IntsAt.nil _, RowsAt.nil _⟩⟩
  rintro ⟨⟩ w18 ⟨hxy, hs⟩
  rw [if_neg (fun h => h hxy)] at hcs2
  have ce : X.eraseIdx j = Y0.eraseIdx j := by rw [hxe, hye, hxy]
  have g17 := g11.trans g16
  have hSX := hS8.mono g16
  have hSY := hS11.mono g16
  have gX := map_get (Value.int .i64) X j 0 hjx
  have gY := map_get (Value.int .i64) Y0 j 0 hjy
  have bX := good_le X hgX _ (mem_getD X j 0 hjx)
  have bY := good_le Y0 hgY _ (mem_getD Y0 j 0 hjy)
  have hTl : (catT X Y0 j).length = X.length := catT_len _ _ _
  have hIX := hIX.mono g16
  refine Zerun ?_
  refine CW.meet (fun u : (Option Addr × Nat) × GHeap => [(3, .int .i64 most), (8, .pointer (some ⟨b3, 0, none⟩)), (11, .int .i64 (j : Int)), (12, .pointer (some ⟨b12, 0, none⟩)), (14, .pointer (some ⟨b14, 0, none⟩)), (18, .slice u.1.1 X.length u.1.2)]) (fun u w' => GLe h16 u.2 ∧ IntsAt u.2 (.slice u.1.1 X.length u.1.2) (catT X Y0 j) ∧ Sees w h u.2 [⟨some ⟨b14, 0, none⟩, 1, 1, 25, 3, [.slice ad11 Y0.length cp11, .slice ai11 LQ.length ci11, .int .i64 q.fill]⟩, ⟨some ⟨b12, 0, none⟩, 1, 1, 25, 3, [.slice ad8 X.length cp8, .slice ai8 LP.length ci8, .int .i64 p.fill]⟩, ⟨some ⟨b3, 0, none⟩, 1, 1, 25, 3, [.slice none 0 0, .slice none 0 0, .int .i64 0]⟩, ⟨some ⟨b2, 0, none⟩, 1, 1, 25, 3, [.slice adq q.shape.length cpq, .slice aiq q.items.length ciq, .int .i64 q.fill]⟩, ⟨some ⟨b1, 0, none⟩, 1, 1, 25, 3, [.slice adp p.shape.length cpp, .slice aip p.items.length cip, .int .i64 p.fill]⟩] w') ?_ ?_
  · refine CW.regionG T 1 0 hs rfl rfl ?_
    intro w19 hs
    have hgl := GLe.refl h16
    refine HW.takeG (fuel := 15) 0 rfl (fun _ _ ka kb _ hg hs hka hkb => Y.fieldAddr T rfl rfl rfl rfl rfl) ⟨_, _, 1, 0, hgl, hs, rfl, rfl⟩ rfl (by kernel_rfl) (by kernel_rfl) (by kernel_rfl) ?_
    refine HW.takeG (fuel := 14) 1 rfl (fun _ _ ka kb _ hg hs hka hkb => Y.loadRow1 T hs ka hka rfl rfl rfl rfl) ⟨_, _, 1, 0, hgl, hs, rfl, rfl⟩ rfl (by kernel_rfl) (by kernel_rfl) (by kernel_rfl) ?_
    refine HW.takeG (fuel := 13) 2 rfl (fun _ _ ka kb _ hg hs hka hkb => Y.move rfl) ⟨_, _, 1, 0, hgl, hs, rfl, rfl⟩ rfl (by kernel_rfl) (by kernel_rfl) (by kernel_rfl) ?_
    refine HW.takeG (fuel := 12) 3 rfl (fun _ _ ka kb _ hg hs hka hkb => Y.fieldAddr T rfl rfl rfl rfl rfl) ⟨_, _, 1, 0, hgl, hs, rfl, rfl⟩ rfl (by kernel_rfl) (by kernel_rfl) (by kernel_rfl) ?_
    refine HW.takeG (fuel := 11) 4 rfl (fun _ _ ka kb _ hg hs hka hkb => Y.loadRow1 T hs ka hka rfl rfl rfl rfl) ⟨_, _, 1, 0, hgl, hs, rfl, rfl⟩ rfl (by kernel_rfl) (by kernel_rfl) (by kernel_rfl) ?_
    refine HW.takeG (fuel := 10) 5 rfl (fun _ _ ka kb _ hg hs hka hkb => Y.move rfl) ⟨_, _, 1, 0, hgl, hs, rfl, rfl⟩ rfl (by kernel_rfl) (by kernel_rfl) (by kernel_rfl) ?_
    refine HW.takeG (fuel := 9) 6 rfl (fun _ _ ka kb _ hg hs hka hkb => Y.idxSN T rfl rfl (hSX.mono hg) rfl rfl rfl hjx) ⟨_, _, 1, 0, hgl, hs, rfl, rfl⟩ rfl (by kernel_rfl) (by kernel_rfl) (by kernel_rfl) ?_
    refine HW.takeG (fuel := 8) 7 rfl (fun _ _ ka kb _ hg hs hka hkb => Y.ldS T hs rfl (hSX.mono hg) rfl rfl hjx gX) ⟨_, _, 1, 0, hgl, hs, rfl, rfl⟩ rfl (by kernel_rfl) (by kernel_rfl) (by kernel_rfl) ?_
    refine HW.takeG (fuel := 7) 8 rfl (fun _ _ ka kb _ hg hs hka hkb => Y.fieldAddr T rfl rfl rfl rfl rfl) ⟨_, _, 1, 0, hgl, hs, rfl, rfl⟩ rfl (by kernel_rfl) (by kernel_rfl) (by kernel_rfl) ?_
    refine HW.takeG (fuel := 6) 9 rfl (fun _ _ ka kb _ hg hs hka hkb => Y.loadRow1 T hs kb hkb rfl rfl rfl rfl) ⟨_, _, 1, 0, hgl, hs, rfl, rfl⟩ rfl (by kernel_rfl) (by kernel_rfl) (by kernel_rfl) ?_
    refine HW.takeG (fuel := 5) 10 rfl (fun _ _ ka kb _ hg hs hka hkb => Y.move rfl) ⟨_, _, 1, 0, hgl, hs, rfl, rfl⟩ rfl (by kernel_rfl) (by kernel_rfl) (by kernel_rfl) ?_
    refine HW.takeG (fuel := 4) 11 rfl (fun _ _ ka kb _ hg hs hka hkb => Y.idxSN T rfl rfl (hSY.mono hg) rfl rfl rfl hjy) ⟨_, _, 1, 0, hgl, hs, rfl, rfl⟩ rfl (by kernel_rfl) (by kernel_rfl) (by kernel_rfl) ?_
    refine HW.takeG (fuel := 3) 12 rfl (fun _ _ ka kb _ hg hs hka hkb => Y.ldS T hs rfl (hSY.mono hg) rfl rfl hjy gY) ⟨_, _, 1, 0, hgl, hs, rfl, rfl⟩ rfl (by kernel_rfl) (by kernel_rfl) (by kernel_rfl) ?_
    refine HW.takeG (fuel := 2) 13 rfl (fun _ _ ka kb _ hg hs hka hkb => Y.add rfl rfl (by omega)) ⟨_, _, 1, 0, hgl, hs, rfl, rfl⟩ rfl (by kernel_rfl) (by kernel_rfl) (by kernel_rfl) ?_
    refine HW.one (fuel := 1) 14 rfl (by kernel_rfl) ?_
    (refine RW.call T hs rfl rfl rfl (refWith_con _ X j (X.getD j 0 + Y0.getD j 0) _ _ (hIX.mono hgl) (by omega) hjx) ?_; intro v h105 w105 hle105 hp105 hs)
    have hI105 : IntsAt h105 v (catT X Y0 j) := hp105
    have hI105' := hI105
    obtain ⟨ad105, cp105, rfl, _⟩ := hI105
    rw [hTl] at hI105'
    have hgl := hgl.trans hle105
    refine RW.nil ?_
    refine heldQ_normal ⟨_, _, 1, 0, hgl, hs, rfl, rfl⟩ ?_
    refine HW.takeG (fuel := 0) 15 rfl (fun _ _ ka kb _ hg hs hka hkb => Y.assign rfl) ⟨_, _, 1, 0, hgl, hs, rfl, rfl⟩ rfl (by kernel_rfl) (by kernel_rfl) (by kernel_rfl) ?_
    refine HW.done (by kernel_rfl) ?_
    refine calmQ_normal ?_
    refine joinQ_meet ((ad105, cp105), h105) ⟨rfl, rfl, rfl, rfl, rfl, congrArg (fun z => some (Value.slice ad105 z cp105)) hTl, trivial⟩ ⟨hgl, hI105', hs⟩
  rintro ⟨⟨adT, cpT⟩, h20⟩ w20 ⟨g20, hIT, hs⟩
  dsimp only at g20 hIT hs ⊢
  rw [← hTl] at hIT ⊢
  refine Zerun ?_
  (refine RW.call T hs rfl rfl rfl (refProduct_con _ (catT X Y0 j) most _ _ hIT (by omega)) ?_; intro v h21 w21 hle21 hp21 hs)
  subst hp21
  have hIT := hIT.mono hle21
  have g21 := g20.trans hle21
  by_cases ep : (product (catT X Y0 j) most).2 = 0
  rotate_left
  · obtain ⟨pe, hpe⟩ : ∃ pe, (product (catT X Y0 j) most).2 = pe := ⟨_, rfl⟩
    rw [hpe] at ep ⊢
    rw [show catR p q first most = (pe, zeroQ) from by rw [hcs2, hpe, if_pos ep]]
    refine Zerun ?_
    refine RW.val (Y.build T rfl rfl rfl rfl rfl rfl rfl) rfl ?_
    refine Zerun ?_
    (refine RW.storeAll T hs 2 rfl rfl rfl rfl rfl rfl rfl rfl ?_; intro w22 hs)
    refine Zerun ?_
    exact retQ_ret [_, _] h21 ⟨resN T hs 2 rfl rfl rfl rfl rfl rfl, rfl, trivial⟩ hs.dropAll ⟨_, rfl, ⟨_, _, rfl, IntsAt.nil _, RowsAt.nil _⟩⟩
  rw [if_neg (fun h => h ep)] at hcs2
  rw [ep]
  obtain ⟨pn, hpn⟩ : ∃ pn, (product (catT X Y0 j) most).1 = pn := ⟨_, rfl⟩
  have hpt : product (catT X Y0 j) most = (pn, 0) := by rw [← hpn, ← ep]
  rw [hpn] at hcs2 ⊢
  obtain ⟨⟨hsum, hp1, hnm⟩, hcase⟩ := cat_mid hpX hpY (by omega) hjx ce hpt
  have hq8' := PlainAt.mono (k + 2) _ _ _ _ (g16.trans g21) hq8'
  have hq11' := PlainAt.mono (k + 2) _ _ _ _ (g16.trans g21) hq11'
  refine Zerun ?_
  (refine RW.lit T hs (vs := [.agg [.slice ad8 X.length cp8, .slice ai8 LP.length ci8, .int .i64 p.fill].toArray, .agg [.slice ad11 Y0.length cp11, .slice ai11 LQ.length ci11, .int .i64 q.fill].toArray]) (cs := ([.slice ad8 X.length cp8, .slice ai8 LP.length ci8, .int .i64 p.fill] ++ [.slice ad11 Y0.length cp11, .slice ai11 LQ.length ci11, .int .i64 q.fill])) rfl rfl rfl rfl (by simp [Value.cells]) rfl rfl rfl rfl rfl ?_; intro b23 w23 hs)
  obtain ⟨h23, hle23, hs, hS23⟩ := hs.freeze
  have hR23 : RowsAt 3 (PlainR (PlainAt (k + 1)) h23) h23 (.slice (some ⟨b23, 0, none⟩) 2 2) [(⟨X, LP, p.fill⟩ : PlainD (PD (k + 1))), ⟨Y0, LQ, q.fill⟩] := two_rowsP hS23 rfl (PlainAt.mono (k + 2) _ _ _ _ hle23 hq8') rfl (PlainAt.mono (k + 2) _ _ _ _ hle23 hq11')
  refine Zerun ?_
  (refine RW.call T hs rfl rfl rfl (refJoin08_con (PlainAt.mono (k + 1)) _ [(⟨X, LP, p.fill⟩ : PlainD (PD (k + 1))), ⟨Y0, LQ, q.fill⟩] _ _ hR23 (by show LP.length + (LQ.length + 0) ≤ 1048576; omega) (by intro r hr; simp only [List.mem_cons, List.not_mem_nil, or_false] at hr; rcases hr with rfl | rfl; exact hfp; exact hfq)) ?_; intro v h24 w24 hle24 hp24 hs)
  obtain ⟨s24, cl, rfl, hno, hye24⟩ := hp24
  rcases hjc : joinP (-1) [(⟨X, LP, p.fill⟩ : PlainD (PD (k + 1))), ⟨Y0, LQ, q.fill⟩] with _ | c'
  · obtain rfl := hno hjc
    rw [hjc] at hcs2
    rw [show catR p q first most = (24, zeroQ) from hcs2]
    refine Zerun ?_
    refine RW.val (Y.build T rfl rfl rfl rfl rfl rfl rfl) rfl ?_
    refine Zerun ?_
    (refine RW.storeAll T hs 2 rfl rfl rfl rfl rfl rfl rfl rfl ?_; intro w25 hs)
    refine Zerun ?_
    exact retQ_ret [_, _] h24 ⟨resN T hs 2 rfl rfl rfl rfl rfl rfl, rfl, trivial⟩ hs.dropAll ⟨_, rfl, ⟨_, _, rfl, IntsAt.nil _, RowsAt.nil _⟩⟩
  obtain ⟨hcl, hRj⟩ := hye24 c' hjc
  rw [hjc] at hcs2
  dsimp only at hcs2
  have hcl : cl = if 0 ≤ c' then c' else p.fill := hcl
  rw [← hcl] at hcs2
  have hcl0 : 0 ≤ cl := by rw [hcl]; split; assumption; exact hfp
  obtain ⟨aj, cj, xj, rfl, _, _⟩ := hRj
  rw [hcs2]
  refine Zerun ?_
  refine RW.val (Y.build T rfl rfl rfl rfl rfl rfl rfl) rfl ?_
  refine Zerun ?_
  (refine RW.allocN T hs rfl rfl rfl rfl ?_; intro b22 w22 hs)
  (refine RW.storeAll T hs 0 rfl rfl rfl rfl rfl rfl rfl rfl ?_; intro w26 hs)
  have hIT := hIT.mono (hle23.trans hle24)
  have hIT' := hIT
  obtain ⟨N, rfl⟩ := Int.eq_ofNat_of_zero_le (show 0 ≤ pn by omega)
  refine Zerun ?_
  (refine RW.call T hs rfl rfl rfl (refAllN_con _ (catT X Y0 j) N _ _ hIT (by omega) (by omega) ((goodS_iff _).2 (by rw [hp1]))) ?_; intro v h27 w27 hle27 hp27 hs)
  have g27 := ((g16.trans g21).trans (hle23.trans hle24)).trans hle27
  have hIT' := hIT'.mono hle27
  have hSPX := hSI8.mono (hle11.trans g27)
  have hSPY := hSI11.mono g27
  have hAPX := hAI8.mono (fun u a => ItemAt.mono (PlainAt.mono (k + 1)) _ _ u a (hle11.trans g27))
  have hAPY := hAI11.mono (fun u a => ItemAt.mono (PlainAt.mono (k + 1)) _ _ u a g27)
  have hSX := hS8.mono g27
  have hSY := hS11.mono g27
  obtain ⟨K, hK⟩ : ∃ K : List (ItemD (PD (k + 1))), catItems X Y0 j LP LQ (N : Int) noItem = K := ⟨_, rfl⟩
  rw [hK]
  have hKl : K.length = N := by
    rw [← hK]
    unfold catItems
    rcases hcase with h0 | ⟨P, S, da, db, outer, inner, hC, eX, eY, hPj, eT, hla, hlb, hsp⟩
    · rw [if_pos h0]; show 0 = N; omega
    · by_cases h0 : (N : Int) = 0
      · rw [if_pos h0]; show 0 = N; omega
      · rw [if_neg h0, catL_len, eX, eY, ← hPj, mid_take, mid_drop, mid_get, mid_get, hC.po, hC.ps, ← Int.natCast_mul, ← Int.natCast_mul, Int.toNat_natCast, Int.toNat_natCast, Int.toNat_natCast, Nat.mul_add]; omega
  obtain ⟨ad27, cp27, us, rfl, hS27, hA27⟩ := hp27
  have hus := hA27.length
  have hl27 := hS27.caps
  have hall : 0 < N → allSpec N (catT X Y0 j) = (List.range N).map fun (i : Nat) => idxOf (catT X Y0 j) i := fun h0 => by
    have hgT : goodS (catT X Y0 j) = true := (goodS_iff _).2 (by rw [hp1])
    have hpg := product_good _ hgT
    rw [hp1] at hpg
    have := all_eq N (catT X Y0 j) (N : Int) (by omega) (congrArg Prod.fst hpg) (fun d hd => (good_le _ hgT d hd).1)
    rw [this, Int.toNat_natCast]
  obtain ⟨LA, hLA⟩ : ∃ LA, allSpec N (catT X Y0 j) = LA := ⟨_, rfl⟩
  rw [hLA] at hS27 hA27 hus hall hl27 ⊢
  have hLAl : LA.length ≤ 9223372036854775807 := by omega
  refine Zerun ?_
  have hs := hs.nilRow 69 4
  refine CW.loop (fun u : Nat × (Option Addr × Nat) × List Value × GHeap => [(8, .pointer (some ⟨b3, 0, none⟩)), (11, .int .i64 (j : Int)), (12, .pointer (some ⟨b12, 0, none⟩)), (14, .pointer (some ⟨b14, 0, none⟩)), (19, .int .i64 (N : Int)), (22, .pointer (some ⟨b22, 0, none⟩)), (23, .slice ad27 LA.length cp27), (24, .int .i64 u.1)]) (fun u w' => u.1 ≤ N ∧ GLe h27 u.2.2.2 ∧ AllN 4 (ItemAt (PlainAt (k + 1)) u.2.2.2) u.2.2.1 (K.take u.1) ∧ Sees w h u.2.2.2 [⟨u.2.1.1, u.1, u.2.1.2, 69, 4, u.2.2.1⟩, ⟨some ⟨b22, 0, none⟩, 1, 1, 25, 3, [.slice adT (catT X Y0 j).length cpT, .slice u.2.1.1 u.1 u.2.1.2, .int .i64 cl]⟩, ⟨some ⟨b14, 0, none⟩, 1, 1, 25, 3, [.slice ad11 Y0.length cp11, .slice ai11 LQ.length ci11, .int .i64 q.fill]⟩, ⟨some ⟨b12, 0, none⟩, 1, 1, 25, 3, [.slice ad8 X.length cp8, .slice ai8 LP.length ci8, .int .i64 p.fill]⟩, ⟨some ⟨b3, 0, none⟩, 1, 1, 25, 3, [.slice none 0 0, .slice none 0 0, .int .i64 0]⟩, ⟨some ⟨b2, 0, none⟩, 1, 1, 25, 3, [.slice adq q.shape.length cpq, .slice aiq q.items.length ciq, .int .i64 q.fill]⟩, ⟨some ⟨b1, 0, none⟩, 1, 1, 25, 3, [.slice adp p.shape.length cpp, .slice aip p.items.length cip, .int .i64 p.fill]⟩] w') (fun u => N - u.1) (0, (none, 0), [], h27) ⟨rfl, rfl, rfl, rfl, rfl, rfl, rfl, rfl, trivial⟩ ⟨by omega, GLe.refl _, rfl, hs⟩ ?_
  rintro ⟨i, ⟨ra, rc⟩, vs, hh⟩ w28 ⟨hi, hg, hAv, hs⟩
  dsimp only at hi hg hAv hs ⊢
  by_cases hlt : i < N
  rotate_left
  · obtain rfl : i = N := by omega
    rw [List.take_of_length_le (by omega)] at hAv
    obtain ⟨h29, hle29, hs, hS29⟩ := hs.freeze
    refine Zerun ?_
    (refine RW.storeAll T hs 3 rfl rfl rfl rfl rfl rfl rfl rfl ?_; intro w30 hs)
    refine Zerun ?_
    refine retQ_ret [_, _] h29 ⟨resN T hs 3 rfl rfl rfl rfl rfl rfl, rfl, trivial⟩ hs.dropAll ⟨_, rfl, _, _, rfl, hIT'.mono (hg.trans hle29), ra, rc, vs, by rw [hKl], ?_, hAv.mono (fun u a => ItemAt.mono (PlainAt.mono (k + 1)) _ _ u a hle29)⟩
    rw [hKl]
    exact hS29
  have hN0 : 0 < N := by omega
  have hall := hall hN0
  have hLl : LA.length = N := by rw [hall, List.length_map, List.length_range]
  rcases hcase with h0 | ⟨P, S, da, db, outer, inner, hC, eX, eY, hPj, eT, hla, hlb, hsp⟩
  · omega
  obtain ⟨A, hA⟩ : ∃ A, da * inner = A := ⟨_, rfl⟩
  obtain ⟨B, hB⟩ : ∃ B, db * inner = B := ⟨_, rfl⟩
  have hNe : N = outer * (A + B) := by rw [Nat.mul_add, ← hA, ← hB]; omega
  have hKe : K = catL LP LQ outer A B noItem := by
    rw [← hK]
    unfold catItems
    rw [if_neg (by omega), eX, eY, ← hPj, mid_take, mid_drop, mid_get, mid_get, hC.po, hC.ps, ← Int.natCast_mul, ← Int.natCast_mul, Int.toNat_natCast, Int.toNat_natCast, Int.toNat_natCast, hA, hB]
  have hat := hC.at_ i (by rw [hA, hB, ← hNe]; exact hlt)
  rw [hA, hB, hPj, ← eT, ← eX, ← eY] at hat
  have hda : X.getD j 0 = (da : Int) := by rw [eX, ← hPj, mid_get]
  have hdb : Y0.getD j 0 = (db : Int) := by rw [eY, ← hPj, mid_get]
  obtain ⟨hc1, hc2⟩ := catJ_lt (outer := outer) (a := A) (b := B) (i := i) (by rw [← hNe]; exact hlt)
  have hKn : K.take (i + 1) = K.take i ++ [catD LP LQ A B noItem i] := by
    rw [take_succ_getD K i noItem (by omega), hKe]
    congr 2
    unfold catL
    rw [getD_map' _ _ _ _ (by rw [List.length_range, ← hNe]; exact hlt), List.getElem_range]
  obtain ⟨u6, hu6, hI6⟩ := hA27.get [] i (by omega)
  have hI6 := hI6.mono hg
  have hx6 : LA.getD i [] = idxOf (catT X Y0 j) (i : Int) := by rw [hall, getD_map' _ _ _ _ (by rw [List.length_range]; exact hlt), List.getElem_range]
  rw [hx6] at hI6
  have hxl := length_idxOf (catT X Y0 j) (i : Int)
  obtain ⟨x, hxe0⟩ : ∃ x, idxOf (catT X Y0 j) (i : Int) = x := ⟨_, rfl⟩
  rw [hxe0] at hI6 hxl hat
  have hI6' := hI6
  obtain ⟨ad6, cp6, rfl, hS6⟩ := hI6
  have hS27h := hS27.mono hg
  have hSXh := hSX.mono hg
  have hSYh := hSY.mono hg
  have hIXh : IntsAt hh (.slice ad8 X.length cp8) X := ⟨ad8, cp8, rfl, hSXh⟩
  have hIYh : IntsAt hh (.slice ad11 Y0.length cp11) Y0 := ⟨ad11, cp11, rfl, hSYh⟩
  have hiL : i < LA.length := by omega
  have hjxx : j < x.length := by omega
  have nx : ∀ {h' : GHeap} {y : List Value}, AllN 4 (ItemAt (PlainAt (k + 1)) h') vs (K.take i) → y.length = 4 → ItemAt (PlainAt (k + 1)) h' y (catD LP LQ A B noItem i) → AllN 4 (ItemAt (PlainAt (k + 1)) h') (vs ++ y) (K.take (i + 1)) := by
    intro h' y ha hyl hr
    rw [hKn]
    exact ha.append (AllN.one hyl hr)
  obtain ⟨pl, hpl⟩ : ∃ pl, (if (atSpec X x).2 = true then (atSpec X x).1 else -1) = pl := ⟨_, rfl⟩
  refine Zerun ?_
  refine CW.meet (fun u : GHeap => [(8, .pointer (some ⟨b3, 0, none⟩)), (11, .int .i64 (j : Int)), (12, .pointer (some ⟨b12, 0, none⟩)), (14, .pointer (some ⟨b14, 0, none⟩)), (19, .int .i64 (N : Int)), (22, .pointer (some ⟨b22, 0, none⟩)), (23, .slice ad27 LA.length cp27), (24, .int .i64 i), (25, .int .i64 pl)]) (fun u w' => GLe hh u ∧ Sees w h u [⟨ra, i, rc, 69, 4, vs⟩, ⟨some ⟨b22, 0, none⟩, 1, 1, 25, 3, [.slice adT (catT X Y0 j).length cpT, .slice ra i rc, .int .i64 cl]⟩, ⟨some ⟨b14, 0, none⟩, 1, 1, 25, 3, [.slice ad11 Y0.length cp11, .slice ai11 LQ.length ci11, .int .i64 q.fill]⟩, ⟨some ⟨b12, 0, none⟩, 1, 1, 25, 3, [.slice ad8 X.length cp8, .slice ai8 LP.length ci8, .int .i64 p.fill]⟩, ⟨some ⟨b3, 0, none⟩, 1, 1, 25, 3, [.slice none 0 0, .slice none 0 0, .int .i64 0]⟩, ⟨some ⟨b2, 0, none⟩, 1, 1, 25, 3, [.slice adq q.shape.length cpq, .slice aiq q.items.length ciq, .int .i64 q.fill]⟩, ⟨some ⟨b1, 0, none⟩, 1, 1, 25, 3, [.slice adp p.shape.length cpp, .slice aip p.items.length cip, .int .i64 p.fill]⟩] w') ?_ ?_
  · refine CW.regionG T 3 3 hs rfl rfl ?_
    intro w29 hs
    have hgl := GLe.refl hh
    refine HW.takeG (fuel := 7) 0 rfl (fun _ _ ka kb _ hg hs hka hkb => Y.fieldAddr T rfl rfl rfl rfl rfl) ⟨_, _, 3, 3, hgl, hs, rfl, rfl⟩ rfl (by kernel_rfl) (by kernel_rfl) (by kernel_rfl) ?_
    refine HW.takeG (fuel := 6) 1 rfl (fun _ _ ka kb _ hg hs hka hkb => Y.loadRow1 T hs ka hka rfl rfl rfl rfl) ⟨_, _, 3, 3, hgl, hs, rfl, rfl⟩ rfl (by kernel_rfl) (by kernel_rfl) (by kernel_rfl) ?_
    refine HW.takeG (fuel := 5) 2 rfl (fun _ _ ka kb _ hg hs hka hkb => Y.move rfl) ⟨_, _, 3, 3, hgl, hs, rfl, rfl⟩ rfl (by kernel_rfl) (by kernel_rfl) (by kernel_rfl) ?_
    refine HW.takeG (fuel := 4) 3 rfl (fun _ _ ka kb _ hg hs hka hkb => Y.move rfl) ⟨_, _, 3, 3, hgl, hs, rfl, rfl⟩ rfl (by kernel_rfl) (by kernel_rfl) (by kernel_rfl) ?_
    refine HW.takeG (fuel := 3) 4 rfl (fun _ _ ka kb _ hg hs hka hkb => Y.idxSN T rfl rfl (hS27h.mono hg) rfl rfl rfl hiL) ⟨_, _, 3, 3, hgl, hs, rfl, rfl⟩ rfl (by kernel_rfl) (by kernel_rfl) (by kernel_rfl) ?_
    refine HW.takeG (fuel := 2) 5 rfl (fun _ _ ka kb _ hg hs hka hkb => Y.ldS T hs rfl (hS27h.mono hg) rfl rfl hiL hu6) ⟨_, _, 3, 3, hgl, hs, rfl, rfl⟩ rfl (by kernel_rfl) (by kernel_rfl) (by kernel_rfl) ?_
    refine HW.one (fuel := 1) 6 rfl (by kernel_rfl) ?_
    (refine RW.call T hs rfl rfl rfl (place_con _ _ X x _ _ (hIXh.mono hgl) (hI6'.mono hgl) (by omega)) ?_; intro v h149 w149 hle149 hp149 hs)
    rw [hpl] at hp149
    subst hp149
    have hgl := hgl.trans hle149
    refine RW.nil ?_
    refine heldQ_normal ⟨_, _, 3, 3, hgl, hs, rfl, rfl⟩ ?_
    refine HW.takeG (fuel := 0) 7 rfl (fun _ _ ka kb _ hg hs hka hkb => Y.assign rfl) ⟨_, _, 3, 3, hgl, hs, rfl, rfl⟩ rfl (by kernel_rfl) (by kernel_rfl) (by kernel_rfl) ?_
    refine HW.done (by kernel_rfl) ?_
    refine calmQ_normal ?_
    exact joinQ_meet h149 ⟨rfl, rfl, rfl, rfl, rfl, rfl, rfl, rfl, rfl, trivial⟩ ⟨hgl, hs⟩
  rintro hh2 w30 ⟨hg2, hs⟩
  try dsimp only at hg2
  try dsimp only at hs
  by_cases cA : i % (A + B) < A
  · obtain ⟨q, hq⟩ : ∃ q, catJ A B i = q := ⟨_, rfl⟩
    have hqc := hc1 cA
    rw [hat.1 cA, if_pos rfl] at hpl
    dsimp only at hpl
    have hcd : catD LP LQ A B noItem i = LP.getD q noItem := by unfold catD; rw [if_pos cA, hq]
    rw [hq] at hqc hpl
    subst hpl
    rw [hcd] at nx
    have hqL : q < LP.length := by rw [hla, hA]; exact hqc
    have hq0 : (0 : Int) ≤ (q : Int) := by omega
    obtain ⟨y, hy, hyl, hRy⟩ := hAPX.elem q hqL
    rw [getElem_getD _ _ noItem hqL] at hRy
    have hoy := ItemAt.one _ _ _ hRy
    have hSPXh := hSPX.mono (hg.trans hg2)
    have hRy := ItemAt.mono (PlainAt.mono (k + 1)) _ _ _ _ (hg.trans hg2) hRy
    have hAv := hAv.mono (fun u a => ItemAt.mono (PlainAt.mono (k + 1)) _ _ u a hg2)
    refine Zerun ?_
    refine CW.regionG T 3 3 hs rfl rfl ?_
    intro w31 hs
    have hgl := GLe.refl hh2
    refine HW.takeG (fuel := 10) 0 rfl (fun _ _ ka kb _ hg hs hka hkb => Y.fieldAddr T rfl rfl rfl rfl rfl) ⟨_, _, 3, 3, hgl, hs, rfl, rfl⟩ rfl (by kernel_rfl) (by kernel_rfl) (by kernel_rfl) ?_
    refine HW.takeG (fuel := 9) 2 rfl (fun _ _ ka kb _ hg hs hka hkb => Y.fieldAddr T rfl rfl rfl rfl rfl) ⟨_, _, 3, 3, hgl, hs, rfl, rfl⟩ rfl (by kernel_rfl) (by kernel_rfl) (by kernel_rfl) ?_
    refine HW.takeG (fuel := 8) 3 rfl (fun _ _ ka kb _ hg hs hka hkb => Y.loadRow1 T hs ka hka rfl rfl rfl rfl) ⟨_, _, 3, 3, hgl, hs, rfl, rfl⟩ rfl (by kernel_rfl) (by kernel_rfl) (by kernel_rfl) ?_
    refine HW.takeG (fuel := 7) 4 rfl (fun _ _ ka kb _ hg hs hka hkb => Y.move rfl) ⟨_, _, 3, 3, hgl, hs, rfl, rfl⟩ rfl (by kernel_rfl) (by kernel_rfl) (by kernel_rfl) ?_
    refine HW.takeG (fuel := 6) 5 rfl (fun _ _ ka kb _ hg hs hka hkb => Y.idxSN T rfl rfl (hSPXh.mono hg) rfl rfl rfl hqL) ⟨_, _, 3, 3, hgl, hs, rfl, rfl⟩ rfl (by kernel_rfl) (by kernel_rfl) (by kernel_rfl) ?_
    refine HW.takeG (fuel := 5) 6 rfl (fun _ _ ka kb _ hg hs hka hkb => Y.ldSN T hs rfl (hSPXh.mono hg) rfl rfl rfl rfl hqL hy hyl) ⟨_, _, 3, 3, hgl, hs, rfl, rfl⟩ rfl (by kernel_rfl) (by kernel_rfl) (by kernel_rfl) ?_
    refine HW.two (fuel := 4) 1 7 rfl rfl (by kernel_rfl) ?_ ?_
    · refine RW.val (Y.loadRow1 T hs 1 rfl rfl rfl rfl rfl) rfl ?_
      refine RW.nil ?_
      refine heldQ_normal ⟨_, _, 3, 3, hgl, hs, rfl, rfl⟩ ?_
      refine HW.one (fuel := 3) 7 rfl (by kernel_rfl) ?_
      (refine RW.lit T hs (vs := [.agg y.toArray]) (cs := y) rfl rfl rfl rfl (by simp [Value.cells, hyl]) rfl (by simp [Value.cells]) rfl rfl rfl ?_; intro b159 w159 hs)
      refine RW.nil ?_
      refine heldQ_normal ⟨_, _, 4, 4, hgl, hs, rfl, rfl⟩ ?_
      refine HW.one (fuel := 2) 8 rfl (by kernel_rfl) ?_
      (refine RW.append T hs 1 rfl rfl (m := 1) (news := y) rfl rfl rfl rfl rfl rfl (hs.src0 (by simpa using hyl) hoy) (by simp) (by dsimp only; omega) (by omega) ?_; intro ad160 cp160 w160 hs; replace hs := hs.drop)
      refine RW.nil ?_
      refine heldQ_normal ⟨_, _, 3, 3, hgl, hs, rfl, rfl⟩ ?_
      refine HW.takeG (fuel := 1) 9 rfl (fun _ _ ka kb _ hg hs hka hkb => Y.fieldAddr T rfl rfl rfl rfl rfl) ⟨_, _, 3, 3, hgl, hs, rfl, rfl⟩ rfl (by kernel_rfl) (by kernel_rfl) (by kernel_rfl) ?_
      refine HW.one (fuel := 0) 10 rfl (by kernel_rfl) ?_
      (refine RW.store1 T hs 1 rfl rfl rfl rfl rfl rfl rfl rfl ?_; intro w161 hs)
      refine RW.nil ?_
      refine heldQ_normal ⟨_, _, 3, 3, hgl, hs, rfl, rfl⟩ ?_
      refine HW.done (by kernel_rfl) ?_
      refine calmQ_normal ?_
      refine Zerun ?_
      exact loopQ_round (i + 1, (ad160, cp160), vs ++ y, hh2) ⟨rfl, rfl, rfl, rfl, rfl, rfl, rfl, rfl, trivial⟩ ⟨by dsimp only; omega, hg.trans hg2, nx hAv hyl hRy, hs⟩ (by dsimp only; omega)
    · (refine RW.lit T hs (vs := [.agg y.toArray]) (cs := y) rfl rfl rfl rfl (by simp [Value.cells, hyl]) rfl (by simp [Value.cells]) rfl rfl rfl ?_; intro b159 w159 hs)
      refine RW.nil ?_
      refine heldQ_normal ⟨_, _, 4, 4, hgl, hs, rfl, rfl⟩ ?_
      refine HW.one (fuel := 3) 1 rfl (by kernel_rfl) ?_
      refine RW.val (Y.loadRow1 T hs 2 rfl rfl rfl rfl rfl) rfl ?_
      refine RW.nil ?_
      refine heldQ_normal ⟨_, _, 4, 4, hgl, hs, rfl, rfl⟩ ?_
      refine HW.one (fuel := 2) 8 rfl (by kernel_rfl) ?_
      (refine RW.append T hs 1 rfl rfl (m := 1) (news := y) rfl rfl rfl rfl rfl rfl (hs.src0 (by simpa using hyl) hoy) (by simp) (by dsimp only; omega) (by omega) ?_; intro ad160 cp160 w160 hs; replace hs := hs.drop)
      refine RW.nil ?_
      refine heldQ_normal ⟨_, _, 3, 3, hgl, hs, rfl, rfl⟩ ?_
      refine HW.takeG (fuel := 1) 9 rfl (fun _ _ ka kb _ hg hs hka hkb => Y.fieldAddr T rfl rfl rfl rfl rfl) ⟨_, _, 3, 3, hgl, hs, rfl, rfl⟩ rfl (by kernel_rfl) (by kernel_rfl) (by kernel_rfl) ?_
      refine HW.one (fuel := 0) 10 rfl (by kernel_rfl) ?_
      (refine RW.store1 T hs 1 rfl rfl rfl rfl rfl rfl rfl rfl ?_; intro w161 hs)
      refine RW.nil ?_
      refine heldQ_normal ⟨_, _, 3, 3, hgl, hs, rfl, rfl⟩ ?_
      refine HW.done (by kernel_rfl) ?_
      refine calmQ_normal ?_
      refine Zerun ?_
      exact loopQ_round (i + 1, (ad160, cp160), vs ++ y, hh2) ⟨rfl, rfl, rfl, rfl, rfl, rfl, rfl, rfl, trivial⟩ ⟨by dsimp only; omega, hg.trans hg2, nx hAv hyl hRy, hs⟩ (by dsimp only; omega)
  obtain ⟨ha1, ha2, ha3, ha4⟩ := hat.2 cA
  rw [ha1, if_neg (by decide)] at hpl
  subst hpl
  rw [← hda] at ha4
  obtain ⟨q, hq⟩ : ∃ q, catJ A B i = q := ⟨_, rfl⟩
  have hqc := hc2 cA
  have hcd : catD LP LQ A B noItem i = LQ.getD q noItem := by unfold catD; rw [if_neg cA, hq]
  rw [hq] at hqc ha4
  rw [hcd] at nx
  have hqL : q < LQ.length := by rw [hlb, hB]; exact hqc
  have hq1 : ¬ (0 : Int) ≤ -1 := by omega
  obtain ⟨y, hy, hyl, hRy⟩ := hAPY.elem q hqL
  rw [getElem_getD _ _ noItem hqL] at hRy
  have hoy := ItemAt.one _ _ _ hRy
  have hS27h2 := hS27h.mono hg2
  have hS6 := hS6.mono hg2
  have hSXh2 := hSXh.mono hg2
  refine Zerun ?_
  (refine RW.lit T hs (vs := []) rfl rfl rfl rfl (by simp [Value.cells]) rfl rfl rfl rfl rfl ?_; intro b7 w7 hs)
  refine Zerun ?_
  refine RW.append T hs 0 rfl rfl (m := x.length) (news := x.map (Value.int .i64)) rfl rfl rfl rfl rfl rfl (hS6.src hs.agree (one_ints _ _)) (fun e => by subst e; exact hS6.nil0.2) (by dsimp only; omega) (by omega) ?_
  intro ad7 cp7 w7 hs
  simp only [List.nil_append, Nat.zero_add, List.flatMap_nil] at hs ⊢
  refine Zerun ?_
  refine CW.regionT T 13 hs (fun w hs => ?_) (by kernel_rfl)
  simp only [List.take_succ_cons, List.take_zero, List.drop_succ_cons, List.drop_zero]
  refine Zsrun ?_
  refine SW.val (Y.idxRN T hs 0 rfl rfl rfl rfl rfl rfl hjxx) rfl ?_
  refine SW.val (Y.ldRInt T hs 0 rfl rfl rfl rfl hjxx) rfl ?_
  refine Zsrun ?_
  refine SW.val (Y.loadRow1 T hs 4 rfl rfl rfl rfl rfl) rfl ?_
  refine Zsrun ?_
  try dsimp only
  refine SW.val (Y.sub rfl rfl (by omega)) rfl ?_
  refine SW.val (Y.idxRN T hs 0 rfl rfl rfl rfl rfl rfl hjxx) rfl ?_
  refine SW.nil ?_
  refine RW.st1 T hs 0 rfl rfl rfl rfl rfl rfl rfl hjxx ?_
  intro w8 hs
  dsimp only [List.set_cons_zero] at hs
  rw [map_set_int] at hs
  obtain ⟨h8', hle8', hs, hS8'⟩ := hs.freeze
  have hIx : IntsAt h8' (.slice ad7 x.length cp7) (x.set j (x.getD j 0 - X.getD j 0)) := by
    have hl : (x.set j (x.getD j 0 - X.getD j 0)).length = x.length := List.length_set
    dsimp only at hS8'
    rw [← hl] at hS8' ⊢
    exact IntsAt.of_sl hS8'
  have hIY8 := hIYh.mono (hg2.trans hle8')
  have hSPY8 := hSPY.mono (hg.trans (hg2.trans hle8'))
  have hRy := ItemAt.mono (PlainAt.mono (k + 1)) _ _ _ _ (hg.trans (hg2.trans hle8')) hRy
  have hAv := hAv.mono (fun u a => ItemAt.mono (PlainAt.mono (k + 1)) _ _ u a (hg2.trans hle8'))
  refine Zerun ?_
  refine CW.regionG T 2 2 hs rfl rfl ?_
  intro w31 hs
  have hgl := GLe.refl h8'
  refine HW.takeG (fuel := 13) 0 rfl (fun _ _ ka kb _ hg hs hka hkb => Y.fieldAddr T rfl rfl rfl rfl rfl) ⟨_, _, 2, 2, hgl, hs, rfl, rfl⟩ rfl (by kernel_rfl) (by kernel_rfl) (by kernel_rfl) ?_
  refine HW.takeG (fuel := 12) 2 rfl (fun _ _ ka kb _ hg hs hka hkb => Y.fieldAddr T rfl rfl rfl rfl rfl) ⟨_, _, 2, 2, hgl, hs, rfl, rfl⟩ rfl (by kernel_rfl) (by kernel_rfl) (by kernel_rfl) ?_
  refine HW.takeG (fuel := 11) 3 rfl (fun _ _ ka kb _ hg hs hka hkb => Y.loadRow1 T hs ka hka rfl rfl rfl rfl) ⟨_, _, 2, 2, hgl, hs, rfl, rfl⟩ rfl (by kernel_rfl) (by kernel_rfl) (by kernel_rfl) ?_
  refine HW.takeG (fuel := 10) 4 rfl (fun _ _ ka kb _ hg hs hka hkb => Y.fieldAddr T rfl rfl rfl rfl rfl) ⟨_, _, 2, 2, hgl, hs, rfl, rfl⟩ rfl (by kernel_rfl) (by kernel_rfl) (by kernel_rfl) ?_
  refine HW.takeG (fuel := 9) 5 rfl (fun _ _ ka kb _ hg hs hka hkb => Y.loadRow1 T hs ka hka rfl rfl rfl rfl) ⟨_, _, 2, 2, hgl, hs, rfl, rfl⟩ rfl (by kernel_rfl) (by kernel_rfl) (by kernel_rfl) ?_
  refine HW.takeG (fuel := 8) 6 rfl (fun _ _ ka kb _ hg hs hka hkb => Y.move rfl) ⟨_, _, 2, 2, hgl, hs, rfl, rfl⟩ rfl (by kernel_rfl) (by kernel_rfl) (by kernel_rfl) ?_
  refine HW.two (fuel := 7) 1 7 rfl rfl (by kernel_rfl) ?_ ?_
  · refine RW.val (Y.loadRow1 T hs 1 rfl rfl rfl rfl rfl) rfl ?_
    refine RW.nil ?_
    refine heldQ_normal ⟨_, _, 2, 2, hgl, hs, rfl, rfl⟩ ?_
    refine HW.one (fuel := 6) 7 rfl (by kernel_rfl) ?_
    (refine RW.call T hs rfl rfl rfl (place_con _ _ Y0 (x.set j (x.getD j 0 - X.getD j 0)) _ _ (hIY8.mono hgl) (hIx.mono hgl) (by omega)) ?_; intro v h188 w188 hle188 hp188 hs)
    rw [ha4, if_pos rfl] at hp188
    dsimp only at hp188
    subst hp188
    have hgl := hgl.trans hle188
    refine RW.nil ?_
    refine heldQ_normal ⟨_, _, 2, 2, hgl, hs, rfl, rfl⟩ ?_
    refine HW.takeG (fuel := 5) 8 rfl (fun _ _ ka kb _ hg hs hka hkb => Y.idxSN T rfl rfl (hSPY8.mono hg) rfl rfl rfl hqL) ⟨_, _, 2, 2, hgl, hs, rfl, rfl⟩ rfl (by kernel_rfl) (by kernel_rfl) (by kernel_rfl) ?_
    refine HW.takeG (fuel := 4) 9 rfl (fun _ _ ka kb _ hg hs hka hkb => Y.ldSN T hs rfl (hSPY8.mono hg) rfl rfl rfl rfl hqL hy hyl) ⟨_, _, 2, 2, hgl, hs, rfl, rfl⟩ rfl (by kernel_rfl) (by kernel_rfl) (by kernel_rfl) ?_
    refine HW.one (fuel := 3) 10 rfl (by kernel_rfl) ?_
    (refine RW.lit T hs (vs := [.agg y.toArray]) (cs := y) rfl rfl rfl rfl (by simp [Value.cells, hyl]) rfl (by simp [Value.cells]) rfl rfl rfl ?_; intro b191 w191 hs)
    refine RW.nil ?_
    refine heldQ_normal ⟨_, _, 3, 3, hgl, hs, rfl, rfl⟩ ?_
    refine HW.one (fuel := 2) 11 rfl (by kernel_rfl) ?_
    (refine RW.append T hs 1 rfl rfl (m := 1) (news := y) rfl rfl rfl rfl rfl rfl (hs.src0 (by simpa using hyl) hoy) (by simp) (by dsimp only; omega) (by omega) ?_; intro ad192 cp192 w192 hs; replace hs := hs.drop)
    refine RW.nil ?_
    refine heldQ_normal ⟨_, _, 2, 2, hgl, hs, rfl, rfl⟩ ?_
    refine HW.takeG (fuel := 1) 12 rfl (fun _ _ ka kb _ hg hs hka hkb => Y.fieldAddr T rfl rfl rfl rfl rfl) ⟨_, _, 2, 2, hgl, hs, rfl, rfl⟩ rfl (by kernel_rfl) (by kernel_rfl) (by kernel_rfl) ?_
    refine HW.one (fuel := 0) 13 rfl (by kernel_rfl) ?_
    (refine RW.store1 T hs 1 rfl rfl rfl rfl rfl rfl rfl rfl ?_; intro w193 hs)
    refine RW.nil ?_
    refine heldQ_normal ⟨_, _, 2, 2, hgl, hs, rfl, rfl⟩ ?_
    refine HW.done (by kernel_rfl) ?_
    refine calmQ_normal ?_
    refine Zerun ?_
    exact loopQ_round (i + 1, (ad192, cp192), vs ++ y, h188) ⟨rfl, rfl, rfl, rfl, rfl, rfl, rfl, rfl, trivial⟩ ⟨by dsimp only; omega, hg.trans ((hg2.trans hle8').trans hgl), nx (hAv.mono (fun u a => ItemAt.mono (PlainAt.mono (k + 1)) _ _ u a hgl)) hyl (ItemAt.mono (PlainAt.mono (k + 1)) _ _ _ _ hgl hRy), hs⟩ (by dsimp only; omega)
  · (refine RW.call T hs rfl rfl rfl (place_con _ _ Y0 (x.set j (x.getD j 0 - X.getD j 0)) _ _ (hIY8.mono hgl) (hIx.mono hgl) (by omega)) ?_; intro v h188 w188 hle188 hp188 hs)
    rw [ha4, if_pos rfl] at hp188
    dsimp only at hp188
    subst hp188
    have hgl := hgl.trans hle188
    refine RW.nil ?_
    refine heldQ_normal ⟨_, _, 2, 2, hgl, hs, rfl, rfl⟩ ?_
    refine HW.takeG (fuel := 6) 8 rfl (fun _ _ ka kb _ hg hs hka hkb => Y.idxSN T rfl rfl (hSPY8.mono hg) rfl rfl rfl hqL) ⟨_, _, 2, 2, hgl, hs, rfl, rfl⟩ rfl (by kernel_rfl) (by kernel_rfl) (by kernel_rfl) ?_
    refine HW.takeG (fuel := 5) 9 rfl (fun _ _ ka kb _ hg hs hka hkb => Y.ldSN T hs rfl (hSPY8.mono hg) rfl rfl rfl rfl hqL hy hyl) ⟨_, _, 2, 2, hgl, hs, rfl, rfl⟩ rfl (by kernel_rfl) (by kernel_rfl) (by kernel_rfl) ?_
    refine HW.two (fuel := 4) 1 10 rfl rfl (by kernel_rfl) ?_ ?_
    · refine RW.val (Y.loadRow1 T hs 1 rfl rfl rfl rfl rfl) rfl ?_
      refine RW.nil ?_
      refine heldQ_normal ⟨_, _, 2, 2, hgl, hs, rfl, rfl⟩ ?_
      refine HW.one (fuel := 3) 10 rfl (by kernel_rfl) ?_
      (refine RW.lit T hs (vs := [.agg y.toArray]) (cs := y) rfl rfl rfl rfl (by simp [Value.cells, hyl]) rfl (by simp [Value.cells]) rfl rfl rfl ?_; intro b191 w191 hs)
      refine RW.nil ?_
      refine heldQ_normal ⟨_, _, 3, 3, hgl, hs, rfl, rfl⟩ ?_
      refine HW.one (fuel := 2) 11 rfl (by kernel_rfl) ?_
      (refine RW.append T hs 1 rfl rfl (m := 1) (news := y) rfl rfl rfl rfl rfl rfl (hs.src0 (by simpa using hyl) hoy) (by simp) (by dsimp only; omega) (by omega) ?_; intro ad192 cp192 w192 hs; replace hs := hs.drop)
      refine RW.nil ?_
      refine heldQ_normal ⟨_, _, 2, 2, hgl, hs, rfl, rfl⟩ ?_
      refine HW.takeG (fuel := 1) 12 rfl (fun _ _ ka kb _ hg hs hka hkb => Y.fieldAddr T rfl rfl rfl rfl rfl) ⟨_, _, 2, 2, hgl, hs, rfl, rfl⟩ rfl (by kernel_rfl) (by kernel_rfl) (by kernel_rfl) ?_
      refine HW.one (fuel := 0) 13 rfl (by kernel_rfl) ?_
      (refine RW.store1 T hs 1 rfl rfl rfl rfl rfl rfl rfl rfl ?_; intro w193 hs)
      refine RW.nil ?_
      refine heldQ_normal ⟨_, _, 2, 2, hgl, hs, rfl, rfl⟩ ?_
      refine HW.done (by kernel_rfl) ?_
      refine calmQ_normal ?_
      refine Zerun ?_
      exact loopQ_round (i + 1, (ad192, cp192), vs ++ y, h188) ⟨rfl, rfl, rfl, rfl, rfl, rfl, rfl, rfl, trivial⟩ ⟨by dsimp only; omega, hg.trans ((hg2.trans hle8').trans hgl), nx (hAv.mono (fun u a => ItemAt.mono (PlainAt.mono (k + 1)) _ _ u a hgl)) hyl (ItemAt.mono (PlainAt.mono (k + 1)) _ _ _ _ hgl hRy), hs⟩ (by dsimp only; omega)
    · (refine RW.lit T hs (vs := [.agg y.toArray]) (cs := y) rfl rfl rfl rfl (by simp [Value.cells, hyl]) rfl (by simp [Value.cells]) rfl rfl rfl ?_; intro b191 w191 hs)
      refine RW.nil ?_
      refine heldQ_normal ⟨_, _, 3, 3, hgl, hs, rfl, rfl⟩ ?_
      refine HW.one (fuel := 3) 1 rfl (by kernel_rfl) ?_
      refine RW.val (Y.loadRow1 T hs 2 rfl rfl rfl rfl rfl) rfl ?_
      refine RW.nil ?_
      refine heldQ_normal ⟨_, _, 3, 3, hgl, hs, rfl, rfl⟩ ?_
      refine HW.one (fuel := 2) 11 rfl (by kernel_rfl) ?_
      (refine RW.append T hs 1 rfl rfl (m := 1) (news := y) rfl rfl rfl rfl rfl rfl (hs.src0 (by simpa using hyl) hoy) (by simp) (by dsimp only; omega) (by omega) ?_; intro ad192 cp192 w192 hs; replace hs := hs.drop)
      refine RW.nil ?_
      refine heldQ_normal ⟨_, _, 2, 2, hgl, hs, rfl, rfl⟩ ?_
      refine HW.takeG (fuel := 1) 12 rfl (fun _ _ ka kb _ hg hs hka hkb => Y.fieldAddr T rfl rfl rfl rfl rfl) ⟨_, _, 2, 2, hgl, hs, rfl, rfl⟩ rfl (by kernel_rfl) (by kernel_rfl) (by kernel_rfl) ?_
      refine HW.one (fuel := 0) 13 rfl (by kernel_rfl) ?_
      (refine RW.store1 T hs 1 rfl rfl rfl rfl rfl rfl rfl rfl ?_; intro w193 hs)
      refine RW.nil ?_
      refine heldQ_normal ⟨_, _, 2, 2, hgl, hs, rfl, rfl⟩ ?_
      refine HW.done (by kernel_rfl) ?_
      refine calmQ_normal ?_
      refine Zerun ?_
      exact loopQ_round (i + 1, (ad192, cp192), vs ++ y, h188) ⟨rfl, rfl, rfl, rfl, rfl, rfl, rfl, rfl, trivial⟩ ⟨by dsimp only; omega, hg.trans ((hg2.trans hle8').trans hgl), nx (hAv.mono (fun u a => ItemAt.mono (PlainAt.mono (k + 1)) _ _ u a hgl)) hyl (ItemAt.mono (PlainAt.mono (k + 1)) _ _ _ _ hgl hRy), hs⟩ (by dsimp only; omega)
end Go.Proofs.YtmojpbfkpggjhaaGreat

/-
  Contracts of lists of arrays behind each other: the code's and the document's; and the plain law that both tell the same. No statement is proved here.
-/
namespace Go.Proofs.YtmojpbfkpggjhaaGreat
open Go Go.RowKit
set_option linter.unusedVariables false
set_option linter.unusedSimpArgs false
set_option maxHeartbeats 4000000
attribute [local irreducible] CW RW QW SW HW ConM retM heldQ calmQ elemP thenQ blockQ loopQ joinQ retQ Yields Con Sl zF magR unitF truncF fwF wholeF tidySpec elemQ rankF leastN tidyW
set_option maxHeartbeats 4000000

theorem cell_of {xs : List Value} {n m : Nat} {y : List Value} (h : (xs.drop n).take m = y) (j : Nat) (hj : j < m) : xs[n + j]? = y[j]? := by
  rw [← h, List.getElem?_take_of_lt hj, List.getElem?_drop]
/-- an array and what it shows -/
structure LOk (k : Nat) (a : ArrD (AD (k + 1))) (p : PlainD (PD (k + 1))) : Prop where
  tl : Tells k a.vec p.items p.fill
  sq : a.vec.sq = a.vec
  sh : a.shape = p.shape
  pr : product a.shape 1048576 = ((a.vec.len : Int), 0)
theorem LOk.prP {k : Nat} {a : ArrD (AD (k + 1))} {p : PlainD (PD (k + 1))} (H : LOk k a p) : product p.shape 1048576 = ((p.items.length : Int), 0) := by rw [← H.sh, H.tl.ln]; exact H.pr
theorem LOk.fill0 {k : Nat} {a : ArrD (AD (k + 1))} {p : PlainD (PD (k + 1))} (H : LOk k a p) : 0 ≤ p.fill := by
  rw [← H.tl.sh.hc]
  have := cls_rng a.vec
  omega
theorem LOk.list {k : Nat} {a : ArrD (AD (k + 1))} {p : PlainD (PD (k + 1))} (H : LOk k a p) : LOk k (⟨[(a.vec.len : Int)], a.vec⟩ : ArrD (AD (k + 1))) (⟨[(p.items.length : Int)], p.items, p.fill⟩ : PlainD (PD (k + 1))) :=
  ⟨H.tl, H.sq, by show [(a.vec.len : Int)] = [(p.items.length : Int)]; rw [H.tl.ln], product_len1 _ H.tl.sh.vm⟩
theorem cat_one_sh {s0 s1 : List Int} (h0 : s0.length = 1) (h1 : s1.length ≤ 1) : catSh s0 s1 = s0 := by
  unfold catSh
  rw [if_neg (show ¬ s0.length < s1.length by omega), if_neg (by omega)]
theorem cat_ok {k : Nat} {a b : ArrD (AD (k + 1))} {p q : PlainD (PD (k + 1))} (H : LOk k a p) (Hb : LOk k b q) (h1 : a.shape.length = 1) (h2 : b.shape.length ≤ 1) {most : Int} (hmost : most ≤ 1048576) : (catS a b false most).1 = (catR p q false most).1 ∧ ResX (k + 1) (catS a b false most).1 (catS a b false most).2 (catR p q false most).2 ∧ ((catS a b false most).1 = 0 → LOk k (catS a b false most).2 (catR p q false most).2 ∧ (catS a b false most).2.shape.length = 1) := by
  have e := cat_one_sh h1 h2
  have e2 : catSh p.shape q.shape = a.shape := by rw [← H.sh, ← Hb.sh]; exact e
  have hg : goodS a.shape = true := (goodS_iff _).2 (by rw [H.pr])
  have hj : catAx a.shape false < a.shape.length := catAx_lt (by omega) false
  obtain ⟨r1, r2, r3⟩ := cat_res H.tl Hb.tl H.sh Hb.sh H.pr Hb.pr hg hj hmost
  unfold catS catR
  rw [e, e2]
  refine ⟨r1, r2, fun h0 => ?_⟩
  obtain ⟨f1, f2, f3, f4, f5⟩ := r3 _ h0 rfl
  refine ⟨⟨f3, f1.symm, f4, f5⟩, ?_⟩
  have hl : ∀ s j, j < s.length → (catSx a b s j most).1 = 0 → ArrD.shape (catSx a b s j most).2 = ArrD.shape (catSx a b s j most).2 ∧ (ArrD.shape (catSx a b s j most).2).length = s.length := by
    intro s j hjs h0
    refine ⟨rfl, ?_⟩
    unfold catSx at h0 ⊢
    by_cases c1 : spE a.shape s ≠ 0 ∨ spE b.shape s ≠ 0
    · rw [if_pos c1] at h0; exact absurd h0 (show ¬ (22 : Int) = 0 by decide)
    rw [if_neg c1] at h0 ⊢
    by_cases c2 : (spS a.shape s j).eraseIdx j ≠ (spS b.shape s j).eraseIdx j
    · rw [if_pos c2] at h0; exact absurd h0 (show ¬ (23 : Int) = 0 by decide)
    rw [if_neg c2] at h0 ⊢
    by_cases c3 : (product (catT (spS a.shape s j) (spS b.shape s j) j) most).2 ≠ 0
    · rw [if_pos c3] at h0; exact absurd h0 c3
    rw [if_neg c3] at h0 ⊢
    rcases hjc : joinC (-1) [spV a s j, spV b s j] with _ | c
    · rw [hjc] at h0; exact absurd h0 (show ¬ (24 : Int) = 0 by decide)
    · dsimp only
      rw [catT_len]
      exact sp_len (Decidable.of_not_not fun h => c1 (.inl h)) hjs
  rw [(hl _ _ hj h0).2, h1]
/-! ## The answers -/
noncomputable def listGo {k : Nat} (most : Int) : ArrD (AD (k + 1)) → List (ArrD (AD (k + 1))) → Int × ArrD (AD (k + 1))
  | out, [] => (0, out)
  | out, a :: l => if 1 < a.shape.length then (22, ⟨[], VecD.none⟩) else if (catS out a false most).1 ≠ 0 then ((catS out a false most).1, ⟨[], VecD.none⟩) else listGo most (catS out a false most).2 l
def listFin {k : Nat} (most : Int) (z : Int × ArrD (AD (k + 1))) : Int × ArrD (AD (k + 1)) := if z.1 ≠ 0 then (z.1, ⟨[], VecD.none⟩) else if most < (z.2.vec.len : Int) then (26, ⟨[], VecD.none⟩) else z
noncomputable def listS {k : Nat} (most : Int) : List (ArrD (AD (k + 1))) → Int × ArrD (AD (k + 1))
  | [] => listFin most (0, ⟨[0], noneV 0⟩)
  | a :: l => if 1 < a.shape.length then (22, ⟨[], VecD.none⟩) else listFin most (listGo most ⟨[(a.vec.len : Int)], a.vec⟩ l)
noncomputable def listGoR {k : Nat} (most : Int) : PlainD (PD (k + 1)) → List (PlainD (PD (k + 1))) → Int × PlainD (PD (k + 1))
  | out, [] => (0, out)
  | out, a :: l => if 1 < a.shape.length then (22, zeroQ) else if (catR out a false most).1 ≠ 0 then ((catR out a false most).1, zeroQ) else listGoR most (catR out a false most).2 l
def listFinR {k : Nat} (most : Int) (z : Int × PlainD (PD (k + 1))) : Int × PlainD (PD (k + 1)) := if z.1 ≠ 0 then (z.1, zeroQ) else if most < (z.2.items.length : Int) then (26, zeroQ) else z
noncomputable def listR {k : Nat} (most : Int) : List (PlainD (PD (k + 1))) → Int × PlainD (PD (k + 1))
  | [] => listFinR most (0, ⟨[0], [], 0⟩)
  | a :: l => if 1 < a.shape.length then (22, zeroQ) else listFinR most (listGoR most ⟨[(a.items.length : Int)], a.items, a.fill⟩ l)
structure ListOk {k : Nat} (out : ArrD (AD (k + 1))) (res : Int × ArrD (AD (k + 1))) (most : Int) (rest : List (ArrD (AD (k + 1)))) : Prop where
  len : out.shape.length = 1
  ok : ∃ p, LOk k out p
  eq : res = listFin most (listGo most out rest)
structure ListRk {k : Nat} (out : PlainD (PD (k + 1))) (res : Int × PlainD (PD (k + 1))) (most : Int) (rest : List (PlainD (PD (k + 1)))) : Prop where
  len : out.shape.length = 1
  ok : ∃ a, LOk k a out
  eq : res = listFinR most (listGoR most out rest)
section
variable {k i : Nat} {most e : Int} {out a r : ArrD (AD (k + 1))} {po p ro : PlainD (PD (k + 1))} {Z : List (ArrD (AD (k + 1)))} {Y1 : List (PlainD (PD (k + 1)))}
theorem listFin_26 (c : most < (out.vec.len : Int)) : listFin most (0, out) = (26, ⟨[], VecD.none⟩) := by unfold listFin; rw [if_neg (fun h => h rfl), if_pos c]
theorem listFin_0 (c : ¬ most < (out.vec.len : Int)) : listFin most (0, out) = (0, out) := by unfold listFin; rw [if_neg (fun h => h rfl), if_neg c]
theorem listFin_e (c : e ≠ 0) : listFin most (e, out) = (e, ⟨[], VecD.none⟩) := by unfold listFin; rw [if_pos c]
theorem listFinR_26 (c : most < (po.items.length : Int)) : listFinR most (0, po) = (26, zeroQ) := by unfold listFinR; rw [if_neg (fun h => h rfl), if_pos c]
theorem listFinR_0 (c : ¬ most < (po.items.length : Int)) : listFinR most (0, po) = (0, po) := by unfold listFinR; rw [if_neg (fun h => h rfl), if_neg c]
theorem listFinR_e (c : e ≠ 0) : listFinR most (e, po) = (e, zeroQ) := by unfold listFinR; rw [if_pos c]
theorem list_22 (c1 : 1 < a.shape.length) (hdr : Z.drop i = a :: Z.drop (i + 1)) (hst : (i = 0 ∧ out = ⟨[0], noneV 0⟩) ∨ (0 < i ∧ ListOk out (listS most Z) most (Z.drop i))) : listS most Z = (22, ⟨[], VecD.none⟩) := by
  rcases hst with ⟨rfl, _⟩ | ⟨_, h⟩
  · rw [List.drop_zero] at hdr; rw [hdr]; exact if_pos c1
  · rw [h.eq, hdr]
    have : listGo most out (a :: Z.drop (i + 1)) = (22, ⟨[], VecD.none⟩) := if_pos c1
    rw [this, listFin_e (by decide)]
theorem listR_22 (c1 : 1 < p.shape.length) (hdr : Y1.drop i = p :: Y1.drop (i + 1)) (hst : (i = 0 ∧ po = ⟨[0], [], 0⟩) ∨ (0 < i ∧ ListRk po (listR most Y1) most (Y1.drop i))) : listR most Y1 = (22, zeroQ) := by
  rcases hst with ⟨rfl, _⟩ | ⟨_, h⟩
  · rw [List.drop_zero] at hdr; rw [hdr]; exact if_pos c1
  · rw [h.eq, hdr]
    have : listGoR most po (p :: Y1.drop (i + 1)) = (22, zeroQ) := if_pos c1
    rw [this, listFinR_e (by decide)]
theorem list_first (c1 : ¬ 1 < a.shape.length) (hdr : Z.drop 0 = a :: Z.drop (0 + 1)) (hz : LOk k a p) : ListOk (⟨[(a.vec.len : Int)], a.vec⟩ : ArrD (AD (k + 1))) (listS most Z) most (Z.drop 1) := by
  rw [List.drop_zero] at hdr
  refine ⟨rfl, ⟨_, hz.list⟩, ?_⟩
  rw [hdr]
  exact if_neg c1
theorem listR_first (c1 : ¬ 1 < p.shape.length) (hdr : Y1.drop 0 = p :: Y1.drop (0 + 1)) (hz : LOk k a p) : ListRk (⟨[(p.items.length : Int)], p.items, p.fill⟩ : PlainD (PD (k + 1))) (listR most Y1) most (Y1.drop 1) := by
  rw [List.drop_zero] at hdr
  refine ⟨rfl, ⟨_, hz.list⟩, ?_⟩
  rw [hdr]
  exact if_neg c1
theorem list_err (c1 : ¬ 1 < a.shape.length) (hdr : Z.drop i = a :: Z.drop (i + 1)) (hL : ListOk out (listS most Z) most (Z.drop i)) (her : catS out a false most = (e, r)) (ce : ¬ e = 0) : listS most Z = (e, ⟨[], VecD.none⟩) := by
  rw [hL.eq, hdr]
  have : listGo most out (a :: Z.drop (i + 1)) = (e, ⟨[], VecD.none⟩) := by
    show (if 1 < a.shape.length then _ else _) = _
    rw [if_neg c1, her, if_pos ce]
  rw [this, listFin_e ce]
theorem listR_err (c1 : ¬ 1 < p.shape.length) (hdr : Y1.drop i = p :: Y1.drop (i + 1)) (hL : ListRk po (listR most Y1) most (Y1.drop i)) (her : catR po p false most = (e, ro)) (ce : ¬ e = 0) : listR most Y1 = (e, zeroQ) := by
  rw [hL.eq, hdr]
  have : listGoR most po (p :: Y1.drop (i + 1)) = (e, zeroQ) := by
    show (if 1 < p.shape.length then _ else _) = _
    rw [if_neg c1, her, if_pos ce]
  rw [this, listFinR_e ce]
theorem list_next (c1 : ¬ 1 < a.shape.length) (hdr : Z.drop i = a :: Z.drop (i + 1)) (hL : ListOk out (listS most Z) most (Z.drop i)) (hO : LOk k out po) (hz : LOk k a p) (her : catS out a false most = (0, r)) (_ : catSh out.shape a.shape = out.shape) (hmost : most ≤ 1048576) : ListOk r (listS most Z) most (Z.drop (i + 1)) := by
  obtain ⟨_, _, h3⟩ := cat_ok hO hz hL.len (by omega) hmost
  rw [her] at h3
  obtain ⟨h4, h5⟩ := h3 rfl
  refine ⟨h5, ⟨_, h4⟩, ?_⟩
  rw [hL.eq, hdr]
  congr 1
  show (if 1 < a.shape.length then _ else _) = _
  rw [if_neg c1, her, if_neg (fun h => h rfl)]
theorem listR_next (c1 : ¬ 1 < p.shape.length) (hdr : Y1.drop i = p :: Y1.drop (i + 1)) (hL : ListRk po (listR most Y1) most (Y1.drop i)) (hO : LOk k out po) (hz : LOk k a p) (her : catR po p false most = (0, ro)) (hmost : most ≤ 100000) : ListRk ro (listR most Y1) most (Y1.drop (i + 1)) := by
  obtain ⟨h1, _, h3⟩ := cat_ok hO hz (by rw [hO.sh]; exact hL.len) (by rw [hz.sh]; omega) (most := most) (by omega)
  rw [her] at h1 h3
  obtain ⟨h4, h5⟩ := h3 h1
  refine ⟨by have := h4.sh; dsimp only at this; rw [← this]; exact h5, ⟨_, h4⟩, ?_⟩
  rw [hL.eq, hdr]
  congr 1
  show (if 1 < p.shape.length then _ else _) = _
  rw [if_neg c1, her, if_neg (fun h => h rfl)]
end
theorem fin_res {k : Nat} {most : Int} {z : Int × ArrD (AD (k + 1))} {y : Int × PlainD (PD (k + 1))} (he : z.1 = y.1) (hr : ResX (k + 1) z.1 z.2 y.2) (h0 : z.1 = 0 → LOk k z.2 y.2) : (listFin most z).1 = (listFinR most y).1 ∧ ResX (k + 1) (listFin most z).1 (listFin most z).2 (listFinR most y).2 := by
  obtain ⟨e, out⟩ := z
  obtain ⟨e', po⟩ := y
  obtain rfl : e = e' := he
  by_cases c : e = 0
  · subst c
    have H := h0 rfl
    have hl : po.items.length = out.vec.len := H.tl.ln
    by_cases c2 : most < (out.vec.len : Int)
    · rw [listFin_26 c2, listFinR_26 (by omega)]; exact ⟨rfl, .inr ⟨.inr (.inr (.inr rfl)), rfl⟩⟩
    · rw [listFin_0 c2, listFinR_0 (by omega)]; exact ⟨rfl, hr⟩
  · rw [listFin_e c, listFinR_e c]
    refine ⟨rfl, ?_⟩
    rcases hr with ⟨h, _⟩ | ⟨h, _⟩
    · exact absurd h c
    · exact .inr ⟨h, rfl⟩
theorem go_res {k : Nat} {most : Int} (hmost : most ≤ 1048576) : ∀ (Z : List (ArrD (AD (k + 1)) × PlainD (PD (k + 1)))) (out : ArrD (AD (k + 1))) (po : PlainD (PD (k + 1))), (∀ z ∈ Z, LOk k z.1 z.2) → LOk k out po → out.shape.length = 1 →
    (listGo most out (Z.map Prod.fst)).1 = (listGoR most po (Z.map Prod.snd)).1 ∧ ResX (k + 1) (listGo most out (Z.map Prod.fst)).1 (listGo most out (Z.map Prod.fst)).2 (listGoR most po (Z.map Prod.snd)).2 ∧ ((listGo most out (Z.map Prod.fst)).1 = 0 → LOk k (listGo most out (Z.map Prod.fst)).2 (listGoR most po (Z.map Prod.snd)).2)
  | [], out, po, _, H, _ => ⟨rfl, by have := H.tl.shape out.shape H.pr; rw [show (⟨out.shape, po.items, po.fill⟩ : PlainD (PD (k + 1))) = po by rw [H.sh]] at this; exact this, fun _ => H⟩
  | (a, p) :: Z, out, po, hz, H, h1 => by
    have hzz := hz (a, p) List.mem_cons_self
    have hs : a.shape.length = p.shape.length := by rw [hzz.sh]
    by_cases c1 : 1 < a.shape.length
    · have e1 : listGo most out (((a, p) :: Z).map Prod.fst) = (22, ⟨[], VecD.none⟩) := if_pos c1
      have e2 : listGoR most po (((a, p) :: Z).map Prod.snd) = (22, zeroQ) := if_pos (by rw [← hs]; exact c1)
      rw [e1, e2]
      exact ⟨rfl, .inr ⟨.inl rfl, rfl⟩, fun h => absurd h (show ¬ (22 : Int) = 0 by decide)⟩
    obtain ⟨f1, f2, f3⟩ := cat_ok H hzz h1 (show a.shape.length ≤ 1 by omega) hmost
    by_cases c2 : (catS out a false most).1 ≠ 0
    · have e1 : listGo most out (((a, p) :: Z).map Prod.fst) = ((catS out a false most).1, ⟨[], VecD.none⟩) := by
        show (if 1 < a.shape.length then _ else _) = _
        rw [if_neg c1, if_pos c2]
      have e2 : listGoR most po (((a, p) :: Z).map Prod.snd) = ((catR po p false most).1, zeroQ) := by
        show (if 1 < p.shape.length then _ else _) = _
        rw [if_neg (by omega), if_pos (by rw [← f1]; exact c2)]
      rw [e1, e2]
      refine ⟨f1, ?_, fun h => absurd h c2⟩
      rcases f2 with ⟨h, _⟩ | ⟨h, _⟩
      · exact absurd h c2
      · exact .inr ⟨h, rfl⟩
    · have c0 := Decidable.of_not_not c2
      obtain ⟨f4, f5⟩ := f3 c0
      have ih := go_res hmost Z _ _ (fun z hzm => hz z (List.mem_cons_of_mem _ hzm)) f4 f5
      have e1 : listGo most out (((a, p) :: Z).map Prod.fst) = listGo most (catS out a false most).2 (Z.map Prod.fst) := by
        show (if 1 < a.shape.length then _ else _) = _
        rw [if_neg c1, if_neg c2]
      have e2 : listGoR most po (((a, p) :: Z).map Prod.snd) = listGoR most (catR po p false most).2 (Z.map Prod.snd) := by
        show (if 1 < p.shape.length then _ else _) = _
        rw [if_neg (by omega), if_neg (by rw [← f1]; exact c2)]
      rw [e1, e2]
      exact ih
theorem list_res22 {k : Nat} {most : Int} (hmost : 0 ≤ most ∧ most ≤ 1048576) (Z : List (ArrD (AD (k + 1)) × PlainD (PD (k + 1)))) (hz : ∀ z ∈ Z, LOk k z.1 z.2) : (listS most (Z.map Prod.fst)).1 = (listR most (Z.map Prod.snd)).1 ∧ ResX (k + 1) (listS most (Z.map Prod.fst)).1 (listS most (Z.map Prod.fst)).2 (listR most (Z.map Prod.snd)).2 := by
  cases Z with
  | nil =>
    have e1 : listS most (([] : List (ArrD (AD (k + 1)) × PlainD (PD (k + 1)))).map Prod.fst) = (0, ⟨[0], noneV 0⟩) := listFin_0 (by show ¬ most < ((0 : Nat) : Int); omega)
    have e2 : listR most (([] : List (ArrD (AD (k + 1)) × PlainD (PD (k + 1)))).map Prod.snd) = (0, ⟨[0], [], 0⟩) := listFinR_0 (by show ¬ most < ((0 : Nat) : Int); omega)
    rw [e1, e2]
    refine ⟨rfl, .inl ⟨rfl, ?_, rfl, fun x hx => nomatch hx⟩⟩
    exact blankGood2 (k + 1) 40 (by decide)
  | cons z Z =>
    obtain ⟨a, p⟩ := z
    have hzz := hz (a, p) List.mem_cons_self
    have hs : a.shape.length = p.shape.length := by rw [hzz.sh]
    by_cases c1 : 1 < a.shape.length
    · have e1 : listS most (((a, p) :: Z).map Prod.fst) = (22, ⟨[], VecD.none⟩) := if_pos c1
      have e2 : listR most (((a, p) :: Z).map Prod.snd) = (22, zeroQ) := if_pos (by rw [← hs]; exact c1)
      rw [e1, e2]
      exact ⟨rfl, .inr ⟨.inl rfl, rfl⟩⟩
    · have e1 : listS most (((a, p) :: Z).map Prod.fst) = listFin most (listGo most ⟨[(a.vec.len : Int)], a.vec⟩ (Z.map Prod.fst)) := if_neg c1
      have e2 : listR most (((a, p) :: Z).map Prod.snd) = listFinR most (listGoR most ⟨[(p.items.length : Int)], p.items, p.fill⟩ (Z.map Prod.snd)) := if_neg (by rw [← hs]; exact c1)
      rw [e1, e2]
      obtain ⟨g1, g2, g3⟩ := go_res hmost.2 Z _ _ (fun z hzm => hz z (List.mem_cons_of_mem _ hzm)) hzz.list rfl
      exact fin_res g1 g2 g3
/-! ## Walks -/
theorem joinList_con (k : Nat) (ad : Option Addr) (n cp : Nat) (xs : List Value) (Z : List (ArrD (AD (k + 1)) × PlainD (PD (k + 1)))) (hn : n = Z.length) (most : Int) (w : World) (h : GHeap) (hS : Sl h 9 ad n cp xs) (hA : AllN (α := AD (k + 2)) 9 (ArrAt (k + 2) h) xs (Z.map Prod.fst)) (hok : ∀ z ∈ Z, LOk k z.1 z.2) (hmost : most ≤ 1048576) :
    Con Tryz.prog 41 [.slice ad n cp, .int .i64 most] w h (fun h' u => ∃ cs', u = .tuple #[.agg cs'.toArray, .int .i64 (listS most (Z.map Prod.fst)).1] ∧ ArrAt (k + 2) h' cs' (listS most (Z.map Prod.fst)).2) := by
  subst hn
  have hcap := hS.caps
  have hZl : (Z.map Prod.fst).length = Z.length := List.length_map ..
  refine Con.of_body Tryz.func41 rfl Tryz.ntmps41 rfl rfl ?_
  intro hs
  refine Zrun ?_
  (refine RW.allocN T hs rfl rfl rfl rfl ?_; intro b4 w4 hs)
  refine Zerun ?_
  (refine RW.lit T hs (vs := [.int .i64 0]) (cs := [.int .i64 0]) rfl rfl rfl rfl (by simp [Value.cells]) rfl rfl rfl rfl rfl ?_; intro b5 w5 hs)
  obtain ⟨h5, hle5, hs, hS5⟩ := hs.freeze
  have hI5 : IntsAt h5 (.slice (some ⟨b5, 0, none⟩) 1 1) [0] := IntsAt.of_sl hS5
  refine Zerun ?_
  (refine RW.call T hs rfl rfl rfl (vecNone_con (ArrAt.mono (k + 1)) (ArrAt.one (k + 1)) 0 _ _) ?_; intro v h6 w6 hle6 hp6 hs)
  obtain ⟨cs6, rfl, hv6⟩ := hp6
  have hI5 := hI5.mono hle6
  have hv6' := hv6
  obtain ⟨wv6, nv6, sm6, il6, fl6, ch6, bx6, ⟨rfl, hoc6⟩, -⟩ := hv6
  refine Zerun ?_
  refine RW.val (Y.build T rfl rfl rfl rfl rfl rfl rfl) rfl ?_
  (refine RW.allocN T hs rfl rfl rfl rfl ?_; intro b6 w6 hs)
  (refine RW.storeAll T hs 0 rfl rfl rfl rfl rfl rfl (by show (true && (vecCells _ wv6 nv6 sm6 il6 fl6 ch6 bx6).all Value.oneCell') = true; rw [hoc6]; rfl) rfl ?_; intro w7 hs)
  refine Zerun ?_
  have hA0 : ArrAt (k + 2) h6 (.slice (some ⟨b5, 0, none⟩) 1 1 :: vecCells (noneV 0 : VecD (AD (k + 1))).kind wv6 nv6 sm6 il6 fl6 ch6 bx6) (⟨[0], noneV 0⟩ : ArrD (AD (k + 1))) := ⟨_, _, rfl, hI5, hv6'⟩
  refine CW.loop (fun u : Nat × List Value × ArrD (AD (k + 1)) × GHeap => [(1, .int .i64 most), (4, .pointer (some ⟨b4, 0, none⟩)), (6, .pointer (some ⟨b6, 0, none⟩)), (14, .slice ad Z.length cp), (15, .int .i64 (Z.length : Int)), (16, .int .i64 u.1)]) (fun u w' => u.1 ≤ Z.length ∧ GLe h u.2.2.2 ∧ ArrAt (k + 2) u.2.2.2 u.2.1 u.2.2.1 ∧ ((u.1 = 0 ∧ u.2.2.1 = ⟨[0], noneV 0⟩) ∨ (0 < u.1 ∧ ListOk u.2.2.1 (listS most (Z.map Prod.fst)) most ((Z.map Prod.fst).drop u.1))) ∧ Sees w h u.2.2.2 [⟨some ⟨b6, 0, none⟩, 1, 1, 39, 9, u.2.1⟩, ⟨some ⟨b4, 0, none⟩, 1, 1, 39, 9, .slice none 0 0 :: vecCells 0 (.slice none 0 0) 0 (.slice none 0 0) (.slice none 0 0) (.slice none 0 0) (.slice none 0 0) (.slice none 0 0)⟩] w') (fun u => Z.length - u.1) (0, _, ⟨[0], noneV 0⟩, h6) ⟨rfl, rfl, rfl, rfl, rfl, rfl, trivial⟩ ⟨by omega, hle5.trans hle6, hA0, .inl ⟨rfl, rfl⟩, hs⟩ ?_
  rintro ⟨i, cs8, out, hh⟩ w8 ⟨hi, hg, hA8, hst, hs⟩
  dsimp only at hi hg hA8 hst hs ⊢
  obtain ⟨_, vc8, rfl, ⟨ad8, cp8, rfl, hS8⟩, hv8⟩ := id hA8
  have hv8' := hv8
  obtain ⟨wv8, nv8, sm8, il8, fl8, ch8, bx8, ⟨rfl, hoc8⟩, -⟩ := hv8
  by_cases hlt : i < Z.length
  rotate_left
  · obtain rfl : i = Z.length := by omega
    have hend : listS most (Z.map Prod.fst) = listFin most (0, out) := by
      rcases hst with ⟨h0, rfl⟩ | ⟨_, h1⟩
      · have : Z = [] := List.eq_nil_of_length_eq_zero h0
        rw [this]; rfl
      · rw [h1.eq, List.drop_of_length_le (by omega)]; rfl
    refine Zerun ?_
    (refine RW.call T hs rfl rfl rfl (vecLen_con _ out.vec _ _ hv8') ?_; intro v h9 w9 hle9 hp9 hs)
    subst hp9
    have hA8 := ArrAt.mono (k + 2) _ _ _ _ hle9 hA8
    by_cases c : most < (out.vec.len : Int)
    · rw [show listS most (Z.map Prod.fst) = (26, ⟨[], VecD.none⟩) from by rw [hend]; exact listFin_26 c]
      refine Zerun ?_
      refine RW.val (Y.build T rfl rfl rfl rfl rfl rfl rfl) rfl ?_
      refine Zerun ?_
      (refine RW.storeAll T hs 1 rfl rfl rfl rfl rfl rfl rfl rfl ?_; intro w10 hs)
      refine Zerun ?_
      exact retQ_ret [_, _] h9 ⟨resN T hs 1 rfl rfl rfl rfl rfl rfl, rfl, trivial⟩ hs.dropAll ⟨_, rfl, ⟨_, _, rfl, IntsAt.nil _, vecNone _⟩⟩
    rw [hend, listFin_0 c]
    refine Zerun ?_
    (refine RW.storeAll T hs 1 rfl rfl rfl rfl rfl rfl (by show (Value.oneCell' (.slice ad8 _ cp8) && (vecCells _ wv8 nv8 sm8 il8 fl8 ch8 bx8).all Value.oneCell') = true; rw [hoc8]; rfl) rfl ?_; intro w10 hs)
    refine Zerun ?_
    exact retQ_ret [_, _] h9 ⟨resN T hs 1 rfl rfl rfl rfl rfl rfl, rfl, trivial⟩ hs.dropAll ⟨_, rfl, hA8⟩
  have hltm : i < (Z.map Prod.fst).length := by omega
  obtain ⟨y, hy, hyl, hRy⟩ := hA.elem i hltm
  have hge : (Z.map Prod.fst)[i]'hltm = Z[i].1 := List.getElem_map ..
  have hRy : ArrAt (k + 2) h y Z[i].1 := Eq.mp (congrArg (fun z => ArrAt (k + 2) h y z) hge) hRy
  have hdr : (Z.map Prod.fst).drop i = Z[i].1 :: (Z.map Prod.fst).drop (i + 1) := by rw [List.drop_eq_getElem_cons hltm, List.getElem_map]
  have hzok := hok Z[i] (List.getElem_mem hlt)
  obtain ⟨⟨a, p⟩, hz⟩ : ∃ z, Z[i] = z := ⟨_, rfl⟩
  rw [hz] at hRy hdr hzok
  dsimp only at hRy hdr hzok
  have hA9 := ArrAt.mono (k + 2) _ _ _ _ hg hRy
  have hSs := hS.mono hg
  obtain ⟨_, vc9, rfl, ⟨ad9, cp9, rfl, hS9⟩, hv9⟩ := id hA9
  have hv9' := hv9
  obtain ⟨wv9, nv9, sm9, il9, fl9, ch9, bx9, ⟨rfl, hoc9⟩, -⟩ := hv9
  refine Zerun ?_
  (refine RW.allocN T hs rfl rfl rfl rfl ?_; intro b10 w10 hs)
  refine Zerun ?_
  (refine RW.storeAll T hs 0 rfl rfl rfl rfl rfl rfl (by show (Value.oneCell' (.slice ad9 _ cp9) && (vecCells _ wv9 nv9 sm9 il9 fl9 ch9 bx9).all Value.oneCell') = true; rw [hoc9]; rfl) rfl ?_; intro w11 hs)
  refine Zerun ?_
  have h9c := hS9.caps
  by_cases c1 : 1 < a.shape.length
  · rw [show listS most (Z.map Prod.fst) = (22, ⟨[], VecD.none⟩) from list_22 c1 hdr hst]
    refine Zerun ?_
    refine RW.val (Y.build T rfl rfl rfl rfl rfl rfl rfl) rfl ?_
    refine Zerun ?_
    (refine RW.storeAll T hs 2 rfl rfl rfl rfl rfl rfl rfl rfl ?_; intro w12 hs)
    refine Zerun ?_
    exact retQ_ret [_, _] hh ⟨resN T hs 2 rfl rfl rfl rfl rfl rfl, rfl, trivial⟩ hs.dropAll ⟨_, rfl, ⟨_, _, rfl, IntsAt.nil _, vecNone _⟩⟩
  refine Zerun ?_
  by_cases c0 : i = 0
  · subst c0
    have hz0 : ((0 : Nat) : Int) = 0 := rfl
    refine Zerun ?_
    (refine RW.call T hs rfl rfl rfl (valueList_con (ArrAt.mono (k + 1)) _ a.vec _ _ hv9' hzok.tl.sh.vm) ?_; intro v h13 w13 hle13 hp13 hs)
    obtain ⟨cs13, rfl, hA13⟩ := hp13
    rw [hzok.sq] at hA13
    have hA13 : ArrAt (k + 2) h13 cs13 (⟨[(a.vec.len : Int)], a.vec⟩ : ArrD (AD (k + 1))) := hA13
    obtain ⟨_, vc13, rfl, ⟨ad13, cp13, rfl, hS13⟩, hv13⟩ := id hA13
    have hv13' := hv13
    obtain ⟨wv13, nv13, sm13, il13, fl13, ch13, bx13, ⟨rfl, hoc13⟩, -⟩ := hv13
    refine Zerun ?_
    (refine RW.storeAll T hs 1 rfl rfl rfl rfl rfl rfl (by show (Value.oneCell' (.slice ad13 _ cp13) && (vecCells _ wv13 nv13 sm13 il13 fl13 ch13 bx13).all Value.oneCell') = true; rw [hoc13]; rfl) rfl ?_; intro w14 hs)
    refine Zerun ?_
    have hs := hs.drop
    exact loopQ_round (1, _, (⟨[(a.vec.len : Int)], a.vec⟩ : ArrD (AD (k + 1))), h13) ⟨rfl, rfl, rfl, rfl, rfl, rfl, trivial⟩ ⟨by dsimp only; omega, hg.trans hle13, hA13, .inr ⟨by dsimp only; omega, list_first c1 hdr hzok⟩, hs⟩ (by dsimp only; omega)
  obtain ⟨hpos, hL⟩ := hst.resolve_left (fun e => c0 e.1)
  obtain ⟨po, hO⟩ := hL.ok
  have c0' : ¬ (i : Int) = 0 := by omega
  have hcsh := cat_one_sh hL.len (show a.shape.length ≤ 1 by omega)
  refine Zerun ?_
  (refine RW.call T hs rfl rfl rfl (joinCatenate_con k _ _ out a po.items p.items po.fill p.fill false most _ _ hA8 hA9 hO.tl hzok.tl hO.pr hzok.pr hmost (by rw [hcsh]; exact .inl rfl) (by rw [hcsh]; rcases Nat.lt_or_ge 0 a.shape.length with h0 | h0; exact .inl (by have := hL.len; omega); exact .inr (.inl (by omega)))) ?_; intro v h13 w13 hle13 hp13 hs)
  obtain ⟨cs13, rfl, hA13⟩ := hp13
  obtain ⟨⟨e, r⟩, her⟩ : ∃ z, catS out a false most = z := ⟨_, rfl⟩
  rw [her] at hA13
  rw [her]
  dsimp only at hA13 ⊢
  obtain ⟨_, vc13, rfl, ⟨ad13, cp13, rfl, hS13⟩, hv13⟩ := id hA13
  have hv13' := hv13
  obtain ⟨wv13, nv13, sm13, il13, fl13, ch13, bx13, ⟨rfl, hoc13⟩, -⟩ := hv13
  refine Zerun ?_
  (refine RW.allocN T hs rfl rfl rfl rfl ?_; intro b15 w15 hs)
  (refine RW.storeAll T hs 0 rfl rfl rfl rfl rfl rfl (by show (Value.oneCell' (.slice ad13 _ cp13) && (vecCells _ wv13 nv13 sm13 il13 fl13 ch13 bx13).all Value.oneCell') = true; rw [hoc13]; rfl) rfl ?_; intro w14 hs)
  refine Zerun ?_
  by_cases ce : e = 0
  rotate_left
  · rw [show listS most (Z.map Prod.fst) = (e, ⟨[], VecD.none⟩) from list_err c1 hdr hL her ce]
    refine Zerun ?_
    refine RW.val (Y.build T rfl rfl rfl rfl rfl rfl rfl) rfl ?_
    refine Zerun ?_
    (refine RW.storeAll T hs 3 rfl rfl rfl rfl rfl rfl rfl rfl ?_; intro w16 hs)
    refine Zerun ?_
    exact retQ_ret [_, _] h13 ⟨resN T hs 3 rfl rfl rfl rfl rfl rfl, rfl, trivial⟩ hs.dropAll ⟨_, rfl, ⟨_, _, rfl, IntsAt.nil _, vecNone _⟩⟩
  subst ce
  refine Zerun ?_
  (refine RW.storeAll T hs 2 rfl rfl rfl rfl rfl rfl (by show (Value.oneCell' (.slice ad13 _ cp13) && (vecCells _ wv13 nv13 sm13 il13 fl13 ch13 bx13).all Value.oneCell') = true; rw [hoc13]; rfl) rfl ?_; intro w17 hs)
  refine Zerun ?_
  have hs := hs.drop.drop
  exact loopQ_round (i + 1, _, r, h13) ⟨rfl, rfl, rfl, rfl, rfl, seti (by dsimp only; omega), trivial⟩ ⟨by dsimp only; omega, hg.trans hle13, hA13, .inr ⟨by dsimp only; omega, list_next c1 hdr hL hO hzok her hcsh hmost⟩, hs⟩ (by dsimp only; omega)
theorem ref22List_con (k : Nat) (ad : Option Addr) (n cp : Nat) (xs : List Value) (Z : List (ArrD (AD (k + 1)) × PlainD (PD (k + 1)))) (hn : n = Z.length) (most : Int) (w : World) (h : GHeap) (hS : Sl h 3 ad n cp xs) (hA : AllN (α := PD (k + 2)) 3 (PlainAt (k + 2) h) xs (Z.map Prod.snd)) (hok : ∀ z ∈ Z, LOk k z.1 z.2) (hmost : most ≤ 100000) :
    Con Tryz.prog 42 [.slice ad n cp, .int .i64 most] w h (fun h' u => ∃ cs', u = .tuple #[.agg cs'.toArray, .int .i64 (listR most (Z.map Prod.snd)).1] ∧ PlainAt (k + 2) h' cs' (listR most (Z.map Prod.snd)).2) := by
  subst hn
  have hcap := hS.caps
  have hZl : (Z.map Prod.snd).length = Z.length := List.length_map ..
  refine Con.of_body Tryz.func42 rfl Tryz.ntmps42 rfl rfl ?_
  intro hs
  refine Zrun ?_
  (refine RW.allocN T hs rfl rfl rfl rfl ?_; intro b4 w4 hs)
  refine Zerun ?_
  (refine RW.lit T hs (vs := [.int .i64 0]) (cs := [.int .i64 0]) rfl rfl rfl rfl (by simp [Value.cells]) rfl rfl rfl rfl rfl ?_; intro b5 w5 hs)
  obtain ⟨h5, hle5, hs, hS5⟩ := hs.freeze
  have hI5 : IntsAt h5 (.slice (some ⟨b5, 0, none⟩) 1 1) [0] := IntsAt.of_sl hS5
  refine Zerun ?_
  refine RW.val (Y.build T rfl rfl rfl rfl rfl rfl rfl) rfl ?_
  refine Zerun ?_
  (refine RW.allocN T hs rfl rfl rfl rfl ?_; intro b6 w6 hs)
  (refine RW.storeAll T hs 0 rfl rfl rfl rfl rfl rfl rfl rfl ?_; intro w7 hs)
  refine Zerun ?_
  have hQ0 : PlainAt (k + 2) h5 [.slice (some ⟨b5, 0, none⟩) 1 1, .slice none 0 0, .int .i64 0] (⟨[0], [], 0⟩ : PlainD (PD (k + 1))) := ⟨_, _, rfl, hI5, RowsAt.nil _⟩
  refine CW.loop (fun u : Nat × List Value × PlainD (PD (k + 1)) × GHeap => [(0, .slice ad Z.length cp), (1, .int .i64 most), (4, .pointer (some ⟨b4, 0, none⟩)), (6, .pointer (some ⟨b6, 0, none⟩)), (7, .int .i64 u.1)]) (fun u w' => u.1 ≤ Z.length ∧ GLe h u.2.2.2 ∧ PlainAt (k + 2) u.2.2.2 u.2.1 u.2.2.1 ∧ ((u.1 = 0 ∧ u.2.2.1 = ⟨[0], [], 0⟩) ∨ (0 < u.1 ∧ ListRk u.2.2.1 (listR most (Z.map Prod.snd)) most ((Z.map Prod.snd).drop u.1))) ∧ Sees w h u.2.2.2 [⟨some ⟨b6, 0, none⟩, 1, 1, 25, 3, u.2.1⟩, ⟨some ⟨b4, 0, none⟩, 1, 1, 25, 3, [.slice none 0 0, .slice none 0 0, .int .i64 0]⟩] w') (fun u => Z.length - u.1) (0, _, ⟨[0], [], 0⟩, h5) ⟨rfl, rfl, rfl, rfl, rfl, trivial⟩ ⟨by omega, hle5, hQ0, .inl ⟨rfl, rfl⟩, hs⟩ ?_
  rintro ⟨i, cs8, out, hh⟩ w8 ⟨hi, hg, hQ8, hst, hs⟩
  dsimp only at hi hg hQ8 hst hs ⊢
  obtain ⟨_, _, rfl, ⟨ad8, cp8, rfl, hS8⟩, hit8⟩ := id hQ8
  have hit8' := hit8
  obtain ⟨ai8, ci8, xs8, rfl, hSI8, hAI8⟩ := hit8
  by_cases hlt : i < Z.length
  rotate_left
  · obtain rfl : i = Z.length := by omega
    have hend : listR most (Z.map Prod.snd) = listFinR most (0, out) := by
      rcases hst with ⟨h0, rfl⟩ | ⟨_, h1⟩
      · have : Z = [] := List.eq_nil_of_length_eq_zero h0
        rw [this]; rfl
      · rw [h1.eq, List.drop_of_length_le (by omega)]; rfl
    have h8c := hSI8.caps
    refine Zerun ?_
    by_cases c : most < (out.items.length : Int)
    · rw [show listR most (Z.map Prod.snd) = (26, zeroQ) from by rw [hend]; exact listFinR_26 c]
      refine Zerun ?_
      refine RW.val (Y.build T rfl rfl rfl rfl rfl rfl rfl) rfl ?_
      refine Zerun ?_
      (refine RW.storeAll T hs 1 rfl rfl rfl rfl rfl rfl rfl rfl ?_; intro w10 hs)
      refine Zerun ?_
      exact retQ_ret [_, _] hh ⟨resN T hs 1 rfl rfl rfl rfl rfl rfl, rfl, trivial⟩ hs.dropAll ⟨_, rfl, ⟨_, _, rfl, IntsAt.nil _, RowsAt.nil _⟩⟩
    rw [hend, listFinR_0 c]
    refine Zerun ?_
    (refine RW.storeAll T hs 1 rfl rfl rfl rfl rfl rfl rfl rfl ?_; intro w10 hs)
    refine Zerun ?_
    exact retQ_ret [_, _] hh ⟨resN T hs 1 rfl rfl rfl rfl rfl rfl, rfl, trivial⟩ hs.dropAll ⟨_, rfl, hQ8⟩
  have hltm : i < (Z.map Prod.snd).length := by omega
  obtain ⟨y, hy, hyl, hRy⟩ := hA.elem i hltm
  have hge : (Z.map Prod.snd)[i]'hltm = Z[i].2 := List.getElem_map ..
  have hRy : PlainAt (k + 2) h y Z[i].2 := Eq.mp (congrArg (fun z => PlainAt (k + 2) h y z) hge) hRy
  have hdr : (Z.map Prod.snd).drop i = Z[i].2 :: (Z.map Prod.snd).drop (i + 1) := by rw [List.drop_eq_getElem_cons hltm, List.getElem_map]
  have hzok := hok Z[i] (List.getElem_mem hlt)
  obtain ⟨⟨a, p⟩, hz⟩ : ∃ z, Z[i] = z := ⟨_, rfl⟩
  rw [hz] at hRy hdr hzok
  dsimp only at hRy hdr hzok
  have hQ9 := PlainAt.mono (k + 2) _ _ _ _ hg hRy
  have hSs := hS.mono hg
  obtain ⟨_, _, rfl, ⟨ad9, cp9, rfl, hS9⟩, hit9⟩ := id hQ9
  have hit9' := hit9
  obtain ⟨ai9, ci9, xs9, rfl, hSI9, hAI9⟩ := hit9
  have y0 := cell_of hy 0 (by omega)
  have y1 := cell_of hy 1 (by omega)
  have y2 := cell_of hy 2 (by omega)
  have h9c := hS9.caps
  refine Zerun ?_
  by_cases c1 : 1 < p.shape.length
  · rw [show listR most (Z.map Prod.snd) = (22, zeroQ) from listR_22 c1 hdr hst]
    refine Zerun ?_
    refine RW.val (Y.build T rfl rfl rfl rfl rfl rfl rfl) rfl ?_
    refine Zerun ?_
    (refine RW.storeAll T hs 1 rfl rfl rfl rfl rfl rfl rfl rfl ?_; intro w12 hs)
    refine Zerun ?_
    exact retQ_ret [_, _] hh ⟨resN T hs 1 rfl rfl rfl rfl rfl rfl, rfl, trivial⟩ hs.dropAll ⟨_, rfl, ⟨_, _, rfl, IntsAt.nil _, RowsAt.nil _⟩⟩
  by_cases c0 : i = 0
  · subst c0
    have hz0 : ((0 : Nat) : Int) = 0 := rfl
    refine Zerun ?_
    refine CW.regionG T 1 1 hs rfl rfl ?_
    intro w30 hs
    have hgl := GLe.refl hh
    refine HW.takeG (fuel := 9) 0 rfl (fun _ _ ka kb _ hg hs hka hkb => Y.move rfl) ⟨_, _, 1, 1, hgl, hs, rfl, rfl⟩ rfl (by kernel_rfl) (by kernel_rfl) (by kernel_rfl) ?_
    refine HW.takeG (fuel := 8) 1 rfl (fun _ _ ka kb _ hg hs hka hkb => Y.idxSN (u := 0) T rfl rfl (hSs.mono hg) rfl rfl rfl hlt) ⟨_, _, 1, 1, hgl, hs, rfl, rfl⟩ rfl (by kernel_rfl) (by kernel_rfl) (by kernel_rfl) ?_
    refine HW.takeG (fuel := 7) 2 rfl (fun _ _ ka kb _ hg hs hka hkb => Y.fieldE (q := 0) T rfl rfl rfl rfl rfl (hSs.mono hg) hlt) ⟨_, _, 1, 1, hgl, hs, rfl, rfl⟩ rfl (by kernel_rfl) (by kernel_rfl) (by kernel_rfl) ?_
    refine HW.takeG (fuel := 6) 3 rfl (fun _ _ ka kb _ hg hs hka hkb => Y.ldQ (q := 0) T hs rfl (hSs.mono hg) rfl rfl hlt rfl y1) ⟨_, _, 1, 1, hgl, hs, rfl, rfl⟩ rfl (by kernel_rfl) (by kernel_rfl) (by kernel_rfl) ?_
    refine HW.takeG (fuel := 5) 4 rfl (fun _ _ ka kb _ hg hs hka hkb => Y.move rfl) ⟨_, _, 1, 1, hgl, hs, rfl, rfl⟩ rfl (by kernel_rfl) (by kernel_rfl) (by kernel_rfl) ?_
    refine HW.takeG (fuel := 4) 5 rfl (fun _ _ ka kb _ hg hs hka hkb => Y.idxSN (u := 0) T rfl rfl (hSs.mono hg) rfl rfl rfl hlt) ⟨_, _, 1, 1, hgl, hs, rfl, rfl⟩ rfl (by kernel_rfl) (by kernel_rfl) (by kernel_rfl) ?_
    refine HW.takeG (fuel := 3) 6 rfl (fun _ _ ka kb _ hg hs hka hkb => Y.fieldE (q := 0) T rfl rfl rfl rfl rfl (hSs.mono hg) hlt) ⟨_, _, 1, 1, hgl, hs, rfl, rfl⟩ rfl (by kernel_rfl) (by kernel_rfl) (by kernel_rfl) ?_
    refine HW.takeG (fuel := 2) 7 rfl (fun _ _ ka kb _ hg hs hka hkb => Y.ldQ (q := 0) T hs rfl (hSs.mono hg) rfl rfl hlt rfl y2) ⟨_, _, 1, 1, hgl, hs, rfl, rfl⟩ rfl (by kernel_rfl) (by kernel_rfl) (by kernel_rfl) ?_
    refine HW.one (fuel := 1) 8 rfl (by kernel_rfl) ?_
    (refine RW.call T hs rfl rfl rfl (refList08_con (PlainAt.mono (k + 1)) _ p.items p.fill _ _ (hit9'.mono hgl (fun u a => ItemAt.mono (PlainAt.mono (k + 1)) _ _ u a hgl))) ?_; intro v h36 w36 hle36 hp36 hs)
    obtain ⟨cs36, rfl, hQ36⟩ := hp36
    have hQ36 : PlainAt (k + 2) h36 cs36 (⟨[(p.items.length : Int)], p.items, p.fill⟩ : PlainD (PD (k + 1))) := hQ36
    obtain ⟨_, _, rfl, ⟨ad36, cp36, rfl, _⟩, ⟨ai36, ci36, xs36, rfl, _, _⟩⟩ := id hQ36
    have hgl := hgl.trans hle36
    refine RW.nil ?_
    refine heldQ_normal ⟨_, _, 1, 1, hgl, hs, rfl, rfl⟩ ?_
    refine HW.one (fuel := 0) 9 rfl (by kernel_rfl) ?_
    (refine RW.storeAll T hs 0 rfl rfl rfl rfl rfl rfl rfl rfl ?_; intro w37 hs)
    refine RW.nil ?_
    refine heldQ_normal ⟨_, _, 1, 1, hgl, hs, rfl, rfl⟩ ?_
    refine HW.done (by kernel_rfl) ?_
    refine calmQ_normal ?_
    refine Zerun ?_
    exact loopQ_round (1, _, (⟨[(p.items.length : Int)], p.items, p.fill⟩ : PlainD (PD (k + 1))), h36) ⟨rfl, rfl, rfl, rfl, rfl, trivial⟩ ⟨by dsimp only; omega, hg.trans hgl, hQ36, .inr ⟨by dsimp only; omega, listR_first c1 hdr hzok⟩, hs⟩ (by dsimp only; omega)
  obtain ⟨hpos, hL⟩ := hst.resolve_left (fun e => c0 e.1)
  obtain ⟨ao, hO⟩ := hL.ok
  have c0' : ¬ (i : Int) = 0 := by omega
  have hfo := hO.fill0
  have hfp := hzok.fill0
  have hpo := hO.prP
  have hpp := hzok.prP
  refine Zerun ?_
  refine CW.meet (fun u : Nat × List Value × GHeap => [(0, .slice ad Z.length cp), (1, .int .i64 most), (4, .pointer (some ⟨b4, 0, none⟩)), (6, .pointer (some ⟨b6, 0, none⟩)), (7, .int .i64 i), (8, .pointer (some ⟨u.1, 0, none⟩)), (9, .int .i64 (catR out p false most).1)]) (fun u w' => GLe hh u.2.2 ∧ PlainAt (k + 2) u.2.2 u.2.1 (catR out p false most).2 ∧ Sees w h u.2.2 [⟨some ⟨u.1, 0, none⟩, 1, 1, 25, 3, u.2.1⟩, ⟨some ⟨b6, 0, none⟩, 1, 1, 25, 3, [.slice ad8 out.shape.length cp8, .slice ai8 out.items.length ci8, .int .i64 out.fill]⟩, ⟨some ⟨b4, 0, none⟩, 1, 1, 25, 3, [.slice none 0 0, .slice none 0 0, .int .i64 0]⟩] w') ?_ ?_
  · refine CW.regionG T 0 0 hs rfl rfl ?_
    intro w31 hs
    have hgl := GLe.refl hh
    refine HW.takeG (fuel := 12) 0 rfl (fun _ _ ka kb _ hg hs hka hkb => Y.loadRowN T hs ka hka rfl rfl rfl rfl rfl rfl) ⟨_, _, 0, 0, hgl, hs, rfl, rfl⟩ rfl (by kernel_rfl) (by kernel_rfl) (by kernel_rfl) ?_
    refine HW.takeG (fuel := 11) 1 rfl (fun _ _ ka kb _ hg hs hka hkb => Y.move rfl) ⟨_, _, 0, 0, hgl, hs, rfl, rfl⟩ rfl (by kernel_rfl) (by kernel_rfl) (by kernel_rfl) ?_
    refine HW.takeG (fuel := 10) 2 rfl (fun _ _ ka kb _ hg hs hka hkb => Y.move rfl) ⟨_, _, 0, 0, hgl, hs, rfl, rfl⟩ rfl (by kernel_rfl) (by kernel_rfl) (by kernel_rfl) ?_
    refine HW.takeG (fuel := 9) 3 rfl (fun _ _ ka kb _ hg hs hka hkb => Y.idxSN T rfl rfl (hSs.mono hg) rfl rfl rfl hlt) ⟨_, _, 0, 0, hgl, hs, rfl, rfl⟩ rfl (by kernel_rfl) (by kernel_rfl) (by kernel_rfl) ?_
    refine HW.takeG (fuel := 8) 4 rfl (fun _ _ ka kb _ hg hs hka hkb => Y.ldSN T hs rfl (hSs.mono hg) rfl rfl rfl rfl hlt hy rfl) ⟨_, _, 0, 0, hgl, hs, rfl, rfl⟩ rfl (by kernel_rfl) (by kernel_rfl) (by kernel_rfl) ?_
    refine HW.takeG (fuel := 7) 5 rfl (fun _ _ ka kb _ hg hs hka hkb => Y.move rfl) ⟨_, _, 0, 0, hgl, hs, rfl, rfl⟩ rfl (by kernel_rfl) (by kernel_rfl) (by kernel_rfl) ?_
    refine HW.two (fuel := 6) 6 10 rfl rfl (by kernel_rfl) ?_ ?_
    · (refine RW.call T hs rfl rfl rfl (ref22Catenate_con k _ _ out p false most _ _ (PlainAt.mono (k + 2) _ _ _ _ hgl hQ8) (PlainAt.mono (k + 2) _ _ _ _ hgl hQ9) hpo hpp hfo hfp (by omega)) ?_; intro v h44 w44 hle44 hp44 hs)
      obtain ⟨cs44, rfl, hQ44⟩ := hp44
      obtain ⟨_, _, rfl, ⟨ad44, cp44, rfl, _⟩, ⟨ai44, ci44, xs44, rfl, _, _⟩⟩ := id hQ44
      have hgl := hgl.trans hle44
      refine RW.nil ?_
      refine heldQ_normal ⟨_, _, 0, 0, hgl, hs, rfl, rfl⟩ ?_
      refine HW.takeG (fuel := 5) 7 rfl (fun _ _ ka kb _ hg hs hka hkb => Y.move rfl) ⟨_, _, 0, 0, hgl, hs, rfl, rfl⟩ rfl (by kernel_rfl) (by kernel_rfl) (by kernel_rfl) ?_
      refine HW.takeG (fuel := 4) 8 rfl (fun _ _ ka kb _ hg hs hka hkb => Y.extract rfl rfl) ⟨_, _, 0, 0, hgl, hs, rfl, rfl⟩ rfl (by kernel_rfl) (by kernel_rfl) (by kernel_rfl) ?_
      refine HW.takeG (fuel := 3) 9 rfl (fun _ _ ka kb _ hg hs hka hkb => Y.extract rfl rfl) ⟨_, _, 0, 0, hgl, hs, rfl, rfl⟩ rfl (by kernel_rfl) (by kernel_rfl) (by kernel_rfl) ?_
      refine HW.one (fuel := 2) 10 rfl (by kernel_rfl) ?_
      (refine RW.allocN T hs rfl rfl rfl rfl ?_; intro b8 w8 hs)
      refine RW.nil ?_
      refine heldQ_normal ⟨_, _, 1, 1, hgl, hs, rfl, rfl⟩ ?_
      refine HW.one (fuel := 1) 11 rfl (by kernel_rfl) ?_
      (refine RW.storeAll T hs 0 rfl rfl rfl rfl rfl rfl rfl rfl ?_; intro w45 hs)
      refine RW.nil ?_
      refine heldQ_normal ⟨_, _, 1, 1, hgl, hs, rfl, rfl⟩ ?_
      refine HW.takeG (fuel := 0) 12 rfl (fun _ _ ka kb _ hg hs hka hkb => Y.assign rfl) ⟨_, _, 1, 1, hgl, hs, rfl, rfl⟩ rfl (by kernel_rfl) (by kernel_rfl) (by kernel_rfl) ?_
      refine HW.done (by kernel_rfl) ?_
      refine calmQ_normal ?_
      exact joinQ_meet (b8, _, h44) ⟨rfl, rfl, rfl, rfl, rfl, rfl, rfl, trivial⟩ ⟨hgl, hQ44, hs⟩
    · (refine RW.allocN T hs rfl rfl rfl rfl ?_; intro b8 w8 hs)
      refine RW.nil ?_
      refine heldQ_normal ⟨_, _, 1, 1, hgl, hs, rfl, rfl⟩ ?_
      refine HW.one (fuel := 5) 6 rfl (by kernel_rfl) ?_
      (refine RW.call T hs rfl rfl rfl (ref22Catenate_con k _ _ out p false most _ _ (PlainAt.mono (k + 2) _ _ _ _ hgl hQ8) (PlainAt.mono (k + 2) _ _ _ _ hgl hQ9) hpo hpp hfo hfp (by omega)) ?_; intro v h44 w44 hle44 hp44 hs)
      obtain ⟨cs44, rfl, hQ44⟩ := hp44
      obtain ⟨_, _, rfl, ⟨ad44, cp44, rfl, _⟩, ⟨ai44, ci44, xs44, rfl, _, _⟩⟩ := id hQ44
      have hgl := hgl.trans hle44
      refine RW.nil ?_
      refine heldQ_normal ⟨_, _, 1, 1, hgl, hs, rfl, rfl⟩ ?_
      refine HW.takeG (fuel := 4) 7 rfl (fun _ _ ka kb _ hg hs hka hkb => Y.move rfl) ⟨_, _, 1, 1, hgl, hs, rfl, rfl⟩ rfl (by kernel_rfl) (by kernel_rfl) (by kernel_rfl) ?_
      refine HW.takeG (fuel := 3) 8 rfl (fun _ _ ka kb _ hg hs hka hkb => Y.extract rfl rfl) ⟨_, _, 1, 1, hgl, hs, rfl, rfl⟩ rfl (by kernel_rfl) (by kernel_rfl) (by kernel_rfl) ?_
      refine HW.takeG (fuel := 2) 9 rfl (fun _ _ ka kb _ hg hs hka hkb => Y.extract rfl rfl) ⟨_, _, 1, 1, hgl, hs, rfl, rfl⟩ rfl (by kernel_rfl) (by kernel_rfl) (by kernel_rfl) ?_
      refine HW.one (fuel := 1) 11 rfl (by kernel_rfl) ?_
      (refine RW.storeAll T hs 0 rfl rfl rfl rfl rfl rfl rfl rfl ?_; intro w45 hs)
      refine RW.nil ?_
      refine heldQ_normal ⟨_, _, 1, 1, hgl, hs, rfl, rfl⟩ ?_
      refine HW.takeG (fuel := 0) 12 rfl (fun _ _ ka kb _ hg hs hka hkb => Y.assign rfl) ⟨_, _, 1, 1, hgl, hs, rfl, rfl⟩ rfl (by kernel_rfl) (by kernel_rfl) (by kernel_rfl) ?_
      refine HW.done (by kernel_rfl) ?_
      refine calmQ_normal ?_
      exact joinQ_meet (b8, _, h44) ⟨rfl, rfl, rfl, rfl, rfl, rfl, rfl, trivial⟩ ⟨hgl, hQ44, hs⟩
  rintro ⟨b8, cs44, h44⟩ w46 ⟨hg2, hQ44, hs⟩
  dsimp only at hg2 hQ44 hs ⊢
  obtain ⟨⟨e, r⟩, her⟩ : ∃ z, catR out p false most = z := ⟨_, rfl⟩
  rw [her] at hQ44 ⊢
  dsimp only at hQ44 ⊢
  obtain ⟨_, _, rfl, ⟨ad44, cp44, rfl, hS44⟩, hit44⟩ := id hQ44
  have hit44' := hit44
  obtain ⟨ai44, ci44, xs44, rfl, hSI44, hAI44⟩ := hit44
  by_cases ce : e = 0
  rotate_left
  · rw [show listR most (Z.map Prod.snd) = (e, zeroQ) from listR_err c1 hdr hL her ce]
    refine Zerun ?_
    refine RW.val (Y.build T rfl rfl rfl rfl rfl rfl rfl) rfl ?_
    refine Zerun ?_
    (refine RW.storeAll T hs 2 rfl rfl rfl rfl rfl rfl rfl rfl ?_; intro w16 hs)
    refine Zerun ?_
    exact retQ_ret [_, _] h44 ⟨resN T hs 2 rfl rfl rfl rfl rfl rfl, rfl, trivial⟩ hs.dropAll ⟨_, rfl, ⟨_, _, rfl, IntsAt.nil _, RowsAt.nil _⟩⟩
  subst ce
  refine Zerun ?_
  (refine RW.storeAll T hs 1 rfl rfl rfl rfl rfl rfl rfl rfl ?_; intro w17 hs)
  refine Zerun ?_
  have hs := hs.drop
  exact loopQ_round (i + 1, _, r, h44) ⟨rfl, rfl, rfl, rfl, rfl, trivial⟩ ⟨by dsimp only; omega, hg.trans hg2, hQ44, .inr ⟨by dsimp only; omega, listR_next c1 hdr hL hO hzok her hmost⟩, hs⟩ (by dsimp only; omega)
end Go.Proofs.YtmojpbfkpggjhaaGreat

/-
  Contract of the law's own function of layer 22: lists of arrays behind each other. No statement is proved here.
-/
namespace Go.Proofs.YtmojpbfkpggjhaaGreat
open Go Go.RowKit
set_option linter.unusedVariables false
set_option linter.unusedSimpArgs false
set_option maxHeartbeats 4000000
attribute [local irreducible] CW RW QW SW HW ConM retM heldQ calmQ elemP thenQ blockQ loopQ joinQ retQ Yields Con Sl zF magR unitF truncF fwF wholeF tidySpec elemQ rankF leastN tidyW
set_option maxHeartbeats 4000000

theorem arrV_sq2 {α β : Type} (f : α → β) (c : Int) (l : List (ItemD α)) : (arrV f c l).sq = arrV f c l := by
  unfold arrV
  by_cases h1 : c = 1
  · rw [if_pos h1]; exact sqC2 (show (1 : Int) ≠ 0 by decide)
  · rw [if_neg h1]
    by_cases h2 : c = 2
    · rw [if_pos h2]; exact sqC2 (show (2 : Int) ≠ 0 by decide)
    · rw [if_neg h2]
      have hb := leastN_bounds (l.map fun x => tidyW x.num)
      exact sq_nums _ _ (by omega) (by omega)
theorem lok_arr {k : Nat} (p : PD (k + 2)) (h : GHeap) (cs : List Value) (hp : PlainAt (k + 2) h cs p) (hc : chk (k + 2) 40 p = 0) : LOk k (arr (k + 2) p) (tidy (k + 2) p) := by
  obtain ⟨h1, h2⟩ := tells_of k p h cs hp hc
  exact ⟨h1, arrV_sq2 _ _ _, rfl, h2⟩
theorem zips {A B C : Type} (f : A → B) (g : A → C) (l : List A) : ∃ Z : List (B × C), Z.map Prod.fst = l.map f ∧ Z.map Prod.snd = l.map g ∧ Z.length = l.length ∧ ∀ z ∈ Z, ∃ p ∈ l, z = (f p, g p) :=
  ⟨l.map fun p => (f p, g p), by rw [List.map_map]; rfl, by rw [List.map_map]; rfl, by rw [List.length_map], fun z hz => by
    obtain ⟨p, hp, e⟩ := List.mem_map.1 hz
    exact ⟨p, hp, e.symm⟩⟩
theorem joinListsLaw_con (k : Nat) (s : Value) (l : List (PD (k + 2))) (x : Int) (w : World) (h : GHeap) (hl : RowsAt 3 (PlainAt (k + 2) h) h s l) (hx : 0 ≤ x ∧ x ≤ 65535) : Con Tryz.prog 7 [s, .int .u16 x] w h (fun _ u => u = .bool true) := by
  obtain ⟨ad, cp, xs, rfl, hS, hA⟩ := hl
  have hlen : l.length ≤ 9223372036854775807 := by have := hS.caps; omega
  refine Con.of_body Tryz.func7 rfl Tryz.ntmps7 rfl rfl ?_
  intro hs
  by_cases c12 : 10 < l.length
  · refine Zerun ?_
    (refine RW.call T hs rfl rfl rfl (awake22_con _ _) ?_; intro v h3 w3 hle3 hp3 hs)
    subst hp3
    refine Zerun ?_
    exact retQ_ret [_] h3 ⟨rfl, trivial⟩ hs.dropAll rfl
  refine Zerun ?_
  have hs := (hs.nilRow 39 9).nilRow 25 3
  refine CW.loop (fun u : Nat × (Option Addr × Nat) × (Option Addr × Nat) × List Value × List Value × GHeap => [(0, .slice ad l.length cp), (1, .int .u16 x), (5, .slice u.2.1.1 u.1 u.2.1.2), (6, .slice u.2.2.1.1 u.1 u.2.2.1.2), (7, .int .i64 u.1)]) (fun u w' => u.1 ≤ l.length ∧ GLe h u.2.2.2.2.2 ∧ (∀ p ∈ l.take u.1, chk (k + 2) 40 p = 0) ∧ AllN 9 (ArrAt (k + 2) u.2.2.2.2.2) u.2.2.2.1 ((l.take u.1).map fun p => arr (k + 2) p) ∧ AllN 3 (PlainAt (k + 2) u.2.2.2.2.2) u.2.2.2.2.1 ((l.take u.1).map fun p => tidy (k + 2) p) ∧ Sees w h u.2.2.2.2.2 [⟨u.2.2.1.1, u.1, u.2.2.1.2, 25, 3, u.2.2.2.2.1⟩, ⟨u.2.1.1, u.1, u.2.1.2, 39, 9, u.2.2.2.1⟩] w') (fun u => l.length - u.1) (0, (none, 0), (none, 0), [], [], h) ⟨rfl, rfl, rfl, rfl, rfl, trivial⟩ ⟨by omega, GLe.refl _, (fun p hp => nomatch hp), rfl, rfl, hs⟩ ?_
  rintro ⟨i, ⟨av, cv⟩, ⟨ap, cq⟩, vs, ps, hh⟩ w5 ⟨hi, hg, hok, hV, hP, hs⟩
  dsimp only at hi hg hok hV hP hs ⊢
  have hS := hS.mono hg
  by_cases hlt : i < l.length
  · obtain ⟨y, hy, hyl, hRy⟩ := hA.elem i hlt
    have hoy : ∀ u ∈ y, u.oneCell' = true := PlainAt.one (k + 2) _ _ _ hRy
    have hRy := PlainAt.mono (k + 2) _ _ _ _ hg hRy
    have htk : l.take (i + 1) = l.take i ++ [l[i]] := by rw [List.take_add_one, List.getElem?_eq_getElem hlt, Option.toList_some]
    generalize hve : l[i] = p at *
    refine Zerun ?_
    (refine RW.call T hs rfl rfl rfl (fine22_con (k + 1) _ p _ _ hRy) ?_; intro v h6 w6 hle6 hp6 hs)
    obtain ⟨b, rfl, hb⟩ := hp6
    have hRy := PlainAt.mono (k + 2) _ _ _ _ hle6 hRy
    have hS := hS.mono hle6
    cases b with
    | false =>
      refine Zerun ?_
      (refine RW.call T hs rfl rfl rfl (awake22_con _ _) ?_; intro v h7 w7 hle7 hp7 hs)
      subst hp7
      refine Zerun ?_
      exact retQ_ret [_] h7 ⟨rfl, trivial⟩ hs.dropAll rfl
    | true =>
    obtain ⟨hc, _, _⟩ := hb rfl
    refine Zerun ?_
    (refine RW.call T hs rfl rfl rfl (of07_con (k + 2) _ p _ _ hRy hc) ?_; intro v h8 w8 hle8 hp8 hs)
    obtain ⟨cs8, rfl, _, _, hA8⟩ := hp8
    have hA8 : ArrAt (k + 2) h8 cs8 (arr (k + 2) p) := hA8
    have hvs8 : cs8.length = 9 := ArrAt.siz (k + 2) _ _ _ hA8
    have ho8 : ∀ u ∈ cs8, u.oneCell' = true := ArrAt.one (k + 2) _ _ _ hA8
    have hRy := PlainAt.mono (k + 2) _ _ _ _ hle8 hRy
    have hS := hS.mono hle8
    (refine RW.lit T hs (vs := [.agg cs8.toArray]) (cs := cs8) rfl rfl rfl rfl (by simp [Value.cells, hvs8]) rfl (by simp [Value.cells]) rfl rfl rfl ?_; intro b9 w9 hs)
    (refine RW.append T hs 2 rfl rfl (m := 1) (news := cs8) rfl rfl rfl rfl rfl rfl (hs.src0 (by simpa using hvs8) ho8) (by simp) (by dsimp only; omega) (by omega) ?_; intro ad10 cp10 w10 hs; replace hs := hs.drop)
    refine Zerun ?_
    (refine RW.call T hs rfl rfl rfl (refTidyP_con (k + 2) 40 _ p _ _ hRy hc) ?_; intro v h11 w11 hle11 hp11 hs)
    obtain ⟨cs11, rfl, hq11⟩ := hp11
    have ho11 : ∀ u ∈ cs11, u.oneCell' = true := PlainAt.one (k + 2) _ _ _ hq11
    have hl11 : cs11.length = 3 := by have hq11' := hq11; obtain ⟨_, _, rfl, _⟩ := hq11'; rfl
    (refine RW.lit T hs (vs := [.agg cs11.toArray]) (cs := cs11) rfl rfl rfl rfl (by simp [Value.cells, hl11]) rfl (by simp [Value.cells]) rfl rfl rfl ?_; intro b12 w12 hs)
    (refine RW.append T hs 1 rfl rfl (m := 1) (news := cs11) rfl rfl rfl rfl rfl rfl (hs.src0 (by simpa using hl11) ho11) (by simp) (by dsimp only; omega) (by omega) ?_; intro ad13 cp13 w13 hs; replace hs := hs.drop)
    refine Zerun ?_
    have hgl := ((hg.trans hle6).trans hle8).trans hle11
    have hg2 := (hle6.trans hle8).trans hle11
    refine loopQ_round (i + 1, (ad10, cp10), (ad13, cp13), vs ++ cs8, ps ++ cs11, h11) ⟨rfl, rfl, rfl, rfl, rfl, trivial⟩ ⟨by dsimp only; omega, hgl, ?_, ?_, ?_, hs⟩ (by dsimp only; omega)
    · dsimp only
      rw [htk]
      intro q hq
      rcases List.mem_append.1 hq with hq | hq
      · exact hok q hq
      · rw [List.mem_singleton.1 hq]; exact hc
    · dsimp only
      rw [htk, List.map_append]
      exact (hV.mono (fun u a hv => ArrAt.mono (k + 2) _ _ _ _ hg2 hv)).append (AllN.one hvs8 (ArrAt.mono (k + 2) _ _ _ _ hle11 hA8))
    · dsimp only
      rw [htk, List.map_append]
      exact (hP.mono (fun u a hv => PlainAt.mono (k + 2) _ _ _ _ hg2 hv)).append (AllN.one hl11 hq11)
  obtain rfl : i = l.length := by omega
  rw [List.take_length] at hok hV hP
  obtain ⟨h6, hle6, hs, hS6⟩ := hs.freeze
  obtain ⟨h7, hle7, hs, hS7⟩ := hs.freeze
  have hS6 := hS6.mono hle7
  dsimp only at hS6 hS7
  have hV := hV.mono (fun u a hv => ArrAt.mono (k + 2) _ _ _ _ (hle6.trans hle7) hv)
  have hP := hP.mono (fun u a hv => PlainAt.mono (k + 2) _ _ _ _ (hle6.trans hle7) hv)
  obtain ⟨Z, hz1, hz2, hzl, hzm⟩ := zips (B := ArrD (AD (k + 1))) (C := PlainD (PD (k + 1))) (arr (k + 2)) (tidy (k + 2)) l
  have hV : AllN (α := AD (k + 2)) 9 (ArrAt (k + 2) h7) vs (Z.map Prod.fst) := Eq.mp (congrArg (fun z : List (AD (k + 2)) => AllN 9 (ArrAt (k + 2) h7) vs z) hz1.symm) hV
  have hP : AllN (α := PD (k + 2)) 3 (PlainAt (k + 2) h7) ps (Z.map Prod.snd) := Eq.mp (congrArg (fun z : List (PD (k + 2)) => AllN 3 (PlainAt (k + 2) h7) ps z) hz2.symm) hP
  have hzok : ∀ z ∈ Z, LOk k z.1 z.2 := by
    intro z hz
    obtain ⟨p, hp, rfl⟩ := hzm z hz
    obtain ⟨cs, hRp⟩ := hA.mem p hp
    exact lok_arr p _ cs hRp (hok p hp)
  refine Zerun ?_
  obtain ⟨most, hmost⟩ : ∃ most : Int, x % 3000 = most := ⟨_, rfl⟩
  rw [hmost]
  refine RW.val (Y.conv64 (u := most) T rfl rfl rfl (by omega)) rfl ?_
  refine Zerun ?_
  (refine RW.call T hs rfl rfl rfl (joinList_con k av _ cv vs Z hzl.symm most _ _ hS7 hV hzok (by omega)) ?_; intro v h14 w14 hle14 hp14 hs)
  obtain ⟨cs14, rfl, hA14⟩ := hp14
  obtain ⟨r1, r2⟩ := list_res22 (k := k) (most := most) (by omega) Z hzok
  obtain ⟨⟨e, ra⟩, hre⟩ : ∃ z, listS most (Z.map Prod.fst) = z := ⟨_, rfl⟩
  obtain ⟨⟨e', rp⟩, hrp⟩ : ∃ z, listR most (Z.map Prod.snd) = z := ⟨_, rfl⟩
  rw [hre] at hA14 r1 r2
  rw [hrp] at r1 r2
  rw [hre]
  obtain rfl : e = e' := r1
  dsimp only at hA14 r2 ⊢
  have hA14' := hA14
  obtain ⟨_, vc14, rfl, ⟨ad14, cp14, rfl, _⟩, hv14⟩ := hA14
  obtain ⟨wv14, nv14, sm14, il14, fl14, ch14, bx14, ⟨rfl, hoc14⟩, -⟩ := hv14
  refine Zerun ?_
  (refine RW.allocN T hs rfl rfl rfl rfl ?_; intro b9 w9 hs)
  (refine RW.storeAll T hs 0 rfl rfl rfl rfl rfl rfl (by show (Value.oneCell' (.slice ad14 _ cp14) && (vecCells _ wv14 nv14 sm14 il14 fl14 ch14 bx14).all Value.oneCell') = true; rw [hoc14]; rfl) rfl ?_; intro w914 hs)
  refine Zerun ?_
  have hP := hP.mono (fun u a hv => PlainAt.mono (k + 2) _ _ _ _ hle14 hv)
  have hS6 := hS6.mono hle14
  (refine RW.call T hs rfl rfl rfl (ref22List_con k ap _ cq ps Z hzl.symm most _ _ hS6 hP hzok (by omega)) ?_; intro v h15 w15 hle15 hp15 hs)
  obtain ⟨cs15, rfl, hQ15⟩ := hp15
  rw [hrp] at hQ15 ⊢
  dsimp only at hQ15 ⊢
  have hQ15' := hQ15
  obtain ⟨_, _, rfl, ⟨ad15, cp15, rfl, _⟩, ⟨ai15, ci15, xs15, rfl, _, _⟩⟩ := hQ15
  have hA14' := ArrAt.mono (k + 2) _ _ _ _ hle15 hA14'
  refine Zerun ?_
  (refine RW.allocN T hs rfl rfl rfl rfl ?_; intro b11 w11 hs)
  (refine RW.storeAll T hs 0 rfl rfl rfl rfl rfl rfl rfl rfl ?_; intro w915 hs)
  refine Zerun ?_
  (refine RW.call T hs rfl rfl rfl (shows22X_con (k + 1) _ _ e ra rp _ _ hA14' hQ15' r2) ?_; intro v h16 w16 hle16 hp16 hs)
  subst hp16
  refine Zerun ?_
  (refine RW.call T hs rfl rfl rfl (awake22_con _ _) ?_; intro v h17 w17 hle17 hp17 hs)
  subst hp17
  refine Zerun ?_
  exact retQ_ret [_] h17 ⟨rfl, trivial⟩ hs.dropAll rfl
end Go.Proofs.YtmojpbfkpggjhaaGreat
