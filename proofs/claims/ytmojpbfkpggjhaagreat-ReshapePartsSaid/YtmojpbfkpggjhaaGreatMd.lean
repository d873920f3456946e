/-
  Own texts of the claim, merged: Ec. Lemmas of the proof; no statement is proved here.
-/
import Derived.Test.YtmojpbfkpggjhaaGreatMc
/-
  Contract of the law's own function of layer 20: the shape of every array, its parts, its elements. No statement is proved here.
-/
namespace Go.Proofs.YtmojpbfkpggjhaaGreat
open Go Go.RowKit
set_option linter.unusedVariables false
set_option linter.unusedSimpArgs false
set_option maxHeartbeats 4000000
attribute [local irreducible] CW RW QW SW HW ConM retM heldQ calmQ elemP thenQ blockQ loopQ joinQ retQ Yields Con Sl zF magR unitF truncF fwF wholeF tidySpec elemQ rankF leastN tidyW
set_option maxHeartbeats 4000000

theorem product_1 (n : Int) (h : 0 ≤ n ∧ n ≤ 1048576) : product [n] 1048576 = (n, 0) := by
  have hg : goodS [n] = true := (goodS_spec _).2 ⟨by simp, fun d hd => by rw [List.mem_singleton.1 hd]; omega, by show max 1 n * 1 ≤ 1048576; omega⟩
  rw [product_good _ hg]
  by_cases c : n = 0
  · rw [c]; decide
  · rw [if_neg (by simp; omega)]
    have : pr [n] = max 1 n * 1 := rfl
    rw [this]
    congr 1
    omega
theorem reshapePartsLaw_con (k : Nat) (cp0 : List Value) (p : PD (k + 2)) (w : World) (h : GHeap) (hp : PlainAt (k + 2) h cp0 p) : Con Tryz.prog 3 [.agg cp0.toArray] w h (fun _ u => u = .bool true) := by
  have hp' := hp
  have hp0 := hp
  obtain ⟨s_p, it_p, rfl, ⟨ads_p, cps_p, rfl, hSl_p⟩, ⟨adi_p, cpi_p, xs_p, rfl, hIl_p, _⟩⟩ := hp
  refine Con.of_body Tryz.func3 rfl Tryz.ntmps3 rfl rfl ?_
  intro hs
  refine Zrun ?_
  (refine RW.boxN hs rfl rfl ?_; intro b1 w1 hs)
  refine Zerun ?_
  (refine RW.call T hs rfl rfl rfl (fine20_con (k + 1) _ p _ _ hp') ?_; intro v h3 w3 hle3 hp3 hs)
  obtain ⟨b, rfl, hbp⟩ := hp3
  have hp' := PlainAt.mono (k + 2) _ _ _ _ hle3 hp'
  cases b with
  | false =>
    refine Zerun ?_
    (refine RW.call T hs rfl rfl rfl (awake20_con _ _) ?_; intro v h13 w13 hle13 hp13 hs)
    subst hp13
    refine Zerun ?_
    exact retQ_ret [_] h13 ⟨rfl, trivial⟩ hs.dropAll rfl
  | true =>
  obtain ⟨hcp, h8p, _⟩ := hbp rfl
  refine Zerun ?_
  obtain ⟨Hp, hpp⟩ := tells_of k p _ _ hp0 hcp
  have Lp := lok_arr p _ _ hp0 hcp
  have hgp : goodS (PlainD.shape (α := PD (k + 1)) p) = true := (goodS_iff _).2 (congrArg Prod.snd hpp)
  have h8p := ((goodS_spec _).1 hgp).1
  refine CW.meet (fun u : Nat × Nat × List Value × List Value × GHeap => [(1, .pointer (some ⟨b1, 0, none⟩)), (3, .pointer (some ⟨u.1, 0, none⟩)), (4, .pointer (some ⟨u.2.1, 0, none⟩))]) (fun u w' => PlainAt (k + 2) u.2.2.2.2 [.slice ads_p (PlainD.shape (α := PD (k + 1)) p).length cps_p, .slice adi_p (PlainD.items (α := PD (k + 1)) p).length cpi_p, .int .i64 (PlainD.fill (α := PD (k + 1)) p)] p ∧ ArrAt (k + 2) u.2.2.2.2 u.2.2.1 (arr (k + 2) p) ∧ PlainAt (k + 2) u.2.2.2.2 u.2.2.2.1 (tidy (k + 2) p) ∧ Sees w h u.2.2.2.2 [⟨some ⟨u.2.1, 0, none⟩, 1, 1, 25, 3, u.2.2.2.1⟩, ⟨some ⟨u.1, 0, none⟩, 1, 1, 39, 9, u.2.2.1⟩, ⟨some ⟨b1, 0, none⟩, 1, 1, 25, 3, [.slice ads_p (PlainD.shape (α := PD (k + 1)) p).length cps_p, .slice adi_p (PlainD.items (α := PD (k + 1)) p).length cpi_p, .int .i64 (PlainD.fill (α := PD (k + 1)) p)]⟩] w') ?_ ?_
  · refine CW.regionR T 0 0 hs rfl rfl ?_
    intro w7 hs
    refine HW.takeR (fuel := 7) 0 rfl (fun _ _ ka kb _ hs hka hkb => Y.loadRowN T hs ka hka rfl rfl rfl rfl rfl rfl) ⟨_, _, 0, 0, hs, rfl, rfl⟩ rfl (by kernel_rfl) (by kernel_rfl) (by kernel_rfl) ?_
    refine HW.takeR (fuel := 6) 2 rfl (fun _ _ ka kb _ hs hka hkb => Y.loadRowN T hs ka hka rfl rfl rfl rfl rfl rfl) ⟨_, _, 0, 0, hs, rfl, rfl⟩ rfl (by kernel_rfl) (by kernel_rfl) (by kernel_rfl) ?_
    refine HW.three (fuel := 5) 1 4 5 rfl rfl rfl (by kernel_rfl) ?_ ?_ ?_
    · (refine RW.call T hs rfl rfl rfl (of07_con (k + 2) _ p _ _ hp' hcp) ?_; intro v h12 w12 hle12 hp12 hs)
      obtain ⟨cs12, rfl, _, _, hn12⟩ := hp12
      have hn12 : ArrAt (k + 2) h12 cs12 (arr (k + 2) p) := hn12
      obtain ⟨_, vc12, rfl, ⟨ad12, cap12, rfl, _⟩, hv12⟩ := id hn12
      obtain ⟨wv12, nv12, sm12, il12, fl12, ch12, bx12, ⟨rfl, hoc12⟩, -⟩ := hv12
      have hall12 : (Value.oneCell' (.slice ad12 (ArrD.shape (α := AD (k + 1)) (arr (k + 2) p)).length cap12) && (vecCells (ArrD.vec (α := AD (k + 1)) (arr (k + 2) p)).kind wv12 nv12 sm12 il12 fl12 ch12 bx12).all Value.oneCell') = true := by rw [hoc12]; rfl
      have hp' := PlainAt.mono (k + 2) _ _ _ _ hle12 hp'
      refine RW.nil ?_
      refine heldQ_normal ⟨_, _, 0, 0, hs, rfl, rfl⟩ ?_
      refine HW.three (fuel := 4) 3 4 5 rfl rfl rfl (by kernel_rfl) ?_ ?_ ?_
      · (refine RW.call T hs rfl rfl rfl (refTidyP_con (k + 2) 40 _ p _ _ hp' hcp) ?_; intro v h14 w14 hle14 hp14 hs)
        obtain ⟨cs14, rfl, hq14⟩ := hp14
        have hq14 : PlainAt (k + 2) h14 cs14 (tidy (k + 2) p) := hq14
        obtain ⟨s14, it14, rfl, ⟨adS14, cpS14, rfl, _⟩, ⟨adI14, cpI14, xsI14, rfl, _, _⟩⟩ := id hq14
        have hp' := PlainAt.mono (k + 2) _ _ _ _ hle14 hp'
        have hn12 := ArrAt.mono (k + 2) _ _ _ _ hle14 hn12
        refine RW.nil ?_
        refine heldQ_normal ⟨_, _, 0, 0, hs, rfl, rfl⟩ ?_
        refine HW.two (fuel := 3) 4 5 rfl rfl (by kernel_rfl) ?_ ?_
        · (refine RW.allocN T hs rfl rfl rfl rfl ?_; intro b3 w3 hs)
          refine RW.nil ?_
          refine heldQ_normal ⟨_, _, 1, 1, hs, rfl, rfl⟩ ?_
          refine HW.one (fuel := 2) 5 rfl (by kernel_rfl) ?_
          (refine RW.allocN T hs rfl rfl rfl rfl ?_; intro b4 w4 hs)
          refine RW.nil ?_
          refine heldQ_normal ⟨_, _, 2, 2, hs, rfl, rfl⟩ ?_
          refine HW.one (fuel := 1) 6 rfl (by kernel_rfl) ?_
          refine RW.storeAll T hs 1 rfl rfl rfl rfl rfl rfl hall12 rfl ?_
          intro w906 hs
          refine RW.nil ?_
          refine heldQ_normal ⟨_, _, 2, 2, hs, rfl, rfl⟩ ?_
          refine HW.one (fuel := 0) 7 rfl (by kernel_rfl) ?_
          refine RW.storeAll T hs 0 rfl rfl rfl rfl rfl rfl rfl rfl ?_
          intro w907 hs
          refine RW.nil ?_
          refine heldQ_normal ⟨_, _, 2, 2, hs, rfl, rfl⟩ ?_
          refine HW.done (by kernel_rfl) ?_
          refine calmQ_normal ?_
          exact joinQ_meet (b3, b4, _, _, h14) ⟨rfl, rfl, rfl, trivial⟩ ⟨hp', hn12, hq14, hs⟩
        · (refine RW.allocN T hs rfl rfl rfl rfl ?_; intro b4 w4 hs)
          refine RW.nil ?_
          refine heldQ_normal ⟨_, _, 1, 1, hs, rfl, rfl⟩ ?_
          refine HW.one (fuel := 2) 4 rfl (by kernel_rfl) ?_
          (refine RW.allocN T hs rfl rfl rfl rfl ?_; intro b3 w3 hs)
          refine RW.nil ?_
          refine heldQ_normal ⟨_, _, 2, 2, hs, rfl, rfl⟩ ?_
          refine HW.one (fuel := 1) 6 rfl (by kernel_rfl) ?_
          refine RW.storeAll T hs 0 rfl rfl rfl rfl rfl rfl hall12 rfl ?_
          intro w906 hs
          refine RW.nil ?_
          refine heldQ_normal ⟨_, _, 2, 2, hs, rfl, rfl⟩ ?_
          refine HW.one (fuel := 0) 7 rfl (by kernel_rfl) ?_
          refine RW.storeAll T hs 1 rfl rfl rfl rfl rfl rfl rfl rfl ?_
          intro w907 hs
          refine RW.nil ?_
          refine heldQ_normal ⟨_, _, 2, 2, hs, rfl, rfl⟩ ?_
          refine HW.done (by kernel_rfl) ?_
          refine calmQ_normal ?_
          exact joinQ_meet (b3, b4, _, _, h14) ⟨rfl, rfl, rfl, trivial⟩ ⟨hp', hn12, hq14, hs.swap⟩
      · (refine RW.allocN T hs rfl rfl rfl rfl ?_; intro b3 w3 hs)
        refine RW.nil ?_
        refine heldQ_normal ⟨_, _, 1, 1, hs, rfl, rfl⟩ ?_
        refine HW.two (fuel := 3) 3 5 rfl rfl (by kernel_rfl) ?_ ?_
        · (refine RW.call T hs rfl rfl rfl (refTidyP_con (k + 2) 40 _ p _ _ hp' hcp) ?_; intro v h14 w14 hle14 hp14 hs)
          obtain ⟨cs14, rfl, hq14⟩ := hp14
          have hq14 : PlainAt (k + 2) h14 cs14 (tidy (k + 2) p) := hq14
          obtain ⟨s14, it14, rfl, ⟨adS14, cpS14, rfl, _⟩, ⟨adI14, cpI14, xsI14, rfl, _, _⟩⟩ := id hq14
          have hp' := PlainAt.mono (k + 2) _ _ _ _ hle14 hp'
          have hn12 := ArrAt.mono (k + 2) _ _ _ _ hle14 hn12
          refine RW.nil ?_
          refine heldQ_normal ⟨_, _, 1, 1, hs, rfl, rfl⟩ ?_
          refine HW.one (fuel := 2) 5 rfl (by kernel_rfl) ?_
          (refine RW.allocN T hs rfl rfl rfl rfl ?_; intro b4 w4 hs)
          refine RW.nil ?_
          refine heldQ_normal ⟨_, _, 2, 2, hs, rfl, rfl⟩ ?_
          refine HW.one (fuel := 1) 6 rfl (by kernel_rfl) ?_
          refine RW.storeAll T hs 1 rfl rfl rfl rfl rfl rfl hall12 rfl ?_
          intro w906 hs
          refine RW.nil ?_
          refine heldQ_normal ⟨_, _, 2, 2, hs, rfl, rfl⟩ ?_
          refine HW.one (fuel := 0) 7 rfl (by kernel_rfl) ?_
          refine RW.storeAll T hs 0 rfl rfl rfl rfl rfl rfl rfl rfl ?_
          intro w907 hs
          refine RW.nil ?_
          refine heldQ_normal ⟨_, _, 2, 2, hs, rfl, rfl⟩ ?_
          refine HW.done (by kernel_rfl) ?_
          refine calmQ_normal ?_
          exact joinQ_meet (b3, b4, _, _, h14) ⟨rfl, rfl, rfl, trivial⟩ ⟨hp', hn12, hq14, hs⟩
        · (refine RW.allocN T hs rfl rfl rfl rfl ?_; intro b4 w4 hs)
          refine RW.nil ?_
          refine heldQ_normal ⟨_, _, 2, 2, hs, rfl, rfl⟩ ?_
          refine HW.one (fuel := 2) 3 rfl (by kernel_rfl) ?_
          (refine RW.call T hs rfl rfl rfl (refTidyP_con (k + 2) 40 _ p _ _ hp' hcp) ?_; intro v h14 w14 hle14 hp14 hs)
          obtain ⟨cs14, rfl, hq14⟩ := hp14
          have hq14 : PlainAt (k + 2) h14 cs14 (tidy (k + 2) p) := hq14
          obtain ⟨s14, it14, rfl, ⟨adS14, cpS14, rfl, _⟩, ⟨adI14, cpI14, xsI14, rfl, _, _⟩⟩ := id hq14
          have hp' := PlainAt.mono (k + 2) _ _ _ _ hle14 hp'
          have hn12 := ArrAt.mono (k + 2) _ _ _ _ hle14 hn12
          refine RW.nil ?_
          refine heldQ_normal ⟨_, _, 2, 2, hs, rfl, rfl⟩ ?_
          refine HW.one (fuel := 1) 6 rfl (by kernel_rfl) ?_
          refine RW.storeAll T hs 1 rfl rfl rfl rfl rfl rfl hall12 rfl ?_
          intro w906 hs
          refine RW.nil ?_
          refine heldQ_normal ⟨_, _, 2, 2, hs, rfl, rfl⟩ ?_
          refine HW.one (fuel := 0) 7 rfl (by kernel_rfl) ?_
          refine RW.storeAll T hs 0 rfl rfl rfl rfl rfl rfl rfl rfl ?_
          intro w907 hs
          refine RW.nil ?_
          refine heldQ_normal ⟨_, _, 2, 2, hs, rfl, rfl⟩ ?_
          refine HW.done (by kernel_rfl) ?_
          refine calmQ_normal ?_
          exact joinQ_meet (b3, b4, _, _, h14) ⟨rfl, rfl, rfl, trivial⟩ ⟨hp', hn12, hq14, hs⟩
      · (refine RW.allocN T hs rfl rfl rfl rfl ?_; intro b4 w4 hs)
        refine RW.nil ?_
        refine heldQ_normal ⟨_, _, 1, 1, hs, rfl, rfl⟩ ?_
        refine HW.two (fuel := 3) 3 4 rfl rfl (by kernel_rfl) ?_ ?_
        · (refine RW.call T hs rfl rfl rfl (refTidyP_con (k + 2) 40 _ p _ _ hp' hcp) ?_; intro v h14 w14 hle14 hp14 hs)
          obtain ⟨cs14, rfl, hq14⟩ := hp14
          have hq14 : PlainAt (k + 2) h14 cs14 (tidy (k + 2) p) := hq14
          obtain ⟨s14, it14, rfl, ⟨adS14, cpS14, rfl, _⟩, ⟨adI14, cpI14, xsI14, rfl, _, _⟩⟩ := id hq14
          have hp' := PlainAt.mono (k + 2) _ _ _ _ hle14 hp'
          have hn12 := ArrAt.mono (k + 2) _ _ _ _ hle14 hn12
          refine RW.nil ?_
          refine heldQ_normal ⟨_, _, 1, 1, hs, rfl, rfl⟩ ?_
          refine HW.one (fuel := 2) 4 rfl (by kernel_rfl) ?_
          (refine RW.allocN T hs rfl rfl rfl rfl ?_; intro b3 w3 hs)
          refine RW.nil ?_
          refine heldQ_normal ⟨_, _, 2, 2, hs, rfl, rfl⟩ ?_
          refine HW.one (fuel := 1) 6 rfl (by kernel_rfl) ?_
          refine RW.storeAll T hs 0 rfl rfl rfl rfl rfl rfl hall12 rfl ?_
          intro w906 hs
          refine RW.nil ?_
          refine heldQ_normal ⟨_, _, 2, 2, hs, rfl, rfl⟩ ?_
          refine HW.one (fuel := 0) 7 rfl (by kernel_rfl) ?_
          refine RW.storeAll T hs 1 rfl rfl rfl rfl rfl rfl rfl rfl ?_
          intro w907 hs
          refine RW.nil ?_
          refine heldQ_normal ⟨_, _, 2, 2, hs, rfl, rfl⟩ ?_
          refine HW.done (by kernel_rfl) ?_
          refine calmQ_normal ?_
          exact joinQ_meet (b3, b4, _, _, h14) ⟨rfl, rfl, rfl, trivial⟩ ⟨hp', hn12, hq14, hs.swap⟩
        · (refine RW.allocN T hs rfl rfl rfl rfl ?_; intro b3 w3 hs)
          refine RW.nil ?_
          refine heldQ_normal ⟨_, _, 2, 2, hs, rfl, rfl⟩ ?_
          refine HW.one (fuel := 2) 3 rfl (by kernel_rfl) ?_
          (refine RW.call T hs rfl rfl rfl (refTidyP_con (k + 2) 40 _ p _ _ hp' hcp) ?_; intro v h14 w14 hle14 hp14 hs)
          obtain ⟨cs14, rfl, hq14⟩ := hp14
          have hq14 : PlainAt (k + 2) h14 cs14 (tidy (k + 2) p) := hq14
          obtain ⟨s14, it14, rfl, ⟨adS14, cpS14, rfl, _⟩, ⟨adI14, cpI14, xsI14, rfl, _, _⟩⟩ := id hq14
          have hp' := PlainAt.mono (k + 2) _ _ _ _ hle14 hp'
          have hn12 := ArrAt.mono (k + 2) _ _ _ _ hle14 hn12
          refine RW.nil ?_
          refine heldQ_normal ⟨_, _, 2, 2, hs, rfl, rfl⟩ ?_
          refine HW.one (fuel := 1) 6 rfl (by kernel_rfl) ?_
          refine RW.storeAll T hs 0 rfl rfl rfl rfl rfl rfl hall12 rfl ?_
          intro w906 hs
          refine RW.nil ?_
          refine heldQ_normal ⟨_, _, 2, 2, hs, rfl, rfl⟩ ?_
          refine HW.one (fuel := 0) 7 rfl (by kernel_rfl) ?_
          refine RW.storeAll T hs 1 rfl rfl rfl rfl rfl rfl rfl rfl ?_
          intro w907 hs
          refine RW.nil ?_
          refine heldQ_normal ⟨_, _, 2, 2, hs, rfl, rfl⟩ ?_
          refine HW.done (by kernel_rfl) ?_
          refine calmQ_normal ?_
          exact joinQ_meet (b3, b4, _, _, h14) ⟨rfl, rfl, rfl, trivial⟩ ⟨hp', hn12, hq14, hs.swap⟩
    · (refine RW.allocN T hs rfl rfl rfl rfl ?_; intro b3 w3 hs)
      refine RW.nil ?_
      refine heldQ_normal ⟨_, _, 1, 1, hs, rfl, rfl⟩ ?_
      refine HW.two (fuel := 4) 1 5 rfl rfl (by kernel_rfl) ?_ ?_
      · (refine RW.call T hs rfl rfl rfl (of07_con (k + 2) _ p _ _ hp' hcp) ?_; intro v h12 w12 hle12 hp12 hs)
        obtain ⟨cs12, rfl, _, _, hn12⟩ := hp12
        have hn12 : ArrAt (k + 2) h12 cs12 (arr (k + 2) p) := hn12
        obtain ⟨_, vc12, rfl, ⟨ad12, cap12, rfl, _⟩, hv12⟩ := id hn12
        obtain ⟨wv12, nv12, sm12, il12, fl12, ch12, bx12, ⟨rfl, hoc12⟩, -⟩ := hv12
        have hall12 : (Value.oneCell' (.slice ad12 (ArrD.shape (α := AD (k + 1)) (arr (k + 2) p)).length cap12) && (vecCells (ArrD.vec (α := AD (k + 1)) (arr (k + 2) p)).kind wv12 nv12 sm12 il12 fl12 ch12 bx12).all Value.oneCell') = true := by rw [hoc12]; rfl
        have hp' := PlainAt.mono (k + 2) _ _ _ _ hle12 hp'
        refine RW.nil ?_
        refine heldQ_normal ⟨_, _, 1, 1, hs, rfl, rfl⟩ ?_
        refine HW.two (fuel := 3) 3 5 rfl rfl (by kernel_rfl) ?_ ?_
        · (refine RW.call T hs rfl rfl rfl (refTidyP_con (k + 2) 40 _ p _ _ hp' hcp) ?_; intro v h14 w14 hle14 hp14 hs)
          obtain ⟨cs14, rfl, hq14⟩ := hp14
          have hq14 : PlainAt (k + 2) h14 cs14 (tidy (k + 2) p) := hq14
          obtain ⟨s14, it14, rfl, ⟨adS14, cpS14, rfl, _⟩, ⟨adI14, cpI14, xsI14, rfl, _, _⟩⟩ := id hq14
          have hp' := PlainAt.mono (k + 2) _ _ _ _ hle14 hp'
          have hn12 := ArrAt.mono (k + 2) _ _ _ _ hle14 hn12
          refine RW.nil ?_
          refine heldQ_normal ⟨_, _, 1, 1, hs, rfl, rfl⟩ ?_
          refine HW.one (fuel := 2) 5 rfl (by kernel_rfl) ?_
          (refine RW.allocN T hs rfl rfl rfl rfl ?_; intro b4 w4 hs)
          refine RW.nil ?_
          refine heldQ_normal ⟨_, _, 2, 2, hs, rfl, rfl⟩ ?_
          refine HW.one (fuel := 1) 6 rfl (by kernel_rfl) ?_
          refine RW.storeAll T hs 1 rfl rfl rfl rfl rfl rfl hall12 rfl ?_
          intro w906 hs
          refine RW.nil ?_
          refine heldQ_normal ⟨_, _, 2, 2, hs, rfl, rfl⟩ ?_
          refine HW.one (fuel := 0) 7 rfl (by kernel_rfl) ?_
          refine RW.storeAll T hs 0 rfl rfl rfl rfl rfl rfl rfl rfl ?_
          intro w907 hs
          refine RW.nil ?_
          refine heldQ_normal ⟨_, _, 2, 2, hs, rfl, rfl⟩ ?_
          refine HW.done (by kernel_rfl) ?_
          refine calmQ_normal ?_
          exact joinQ_meet (b3, b4, _, _, h14) ⟨rfl, rfl, rfl, trivial⟩ ⟨hp', hn12, hq14, hs⟩
        · (refine RW.allocN T hs rfl rfl rfl rfl ?_; intro b4 w4 hs)
          refine RW.nil ?_
          refine heldQ_normal ⟨_, _, 2, 2, hs, rfl, rfl⟩ ?_
          refine HW.one (fuel := 2) 3 rfl (by kernel_rfl) ?_
          (refine RW.call T hs rfl rfl rfl (refTidyP_con (k + 2) 40 _ p _ _ hp' hcp) ?_; intro v h14 w14 hle14 hp14 hs)
          obtain ⟨cs14, rfl, hq14⟩ := hp14
          have hq14 : PlainAt (k + 2) h14 cs14 (tidy (k + 2) p) := hq14
          obtain ⟨s14, it14, rfl, ⟨adS14, cpS14, rfl, _⟩, ⟨adI14, cpI14, xsI14, rfl, _, _⟩⟩ := id hq14
          have hp' := PlainAt.mono (k + 2) _ _ _ _ hle14 hp'
          have hn12 := ArrAt.mono (k + 2) _ _ _ _ hle14 hn12
          refine RW.nil ?_
          refine heldQ_normal ⟨_, _, 2, 2, hs, rfl, rfl⟩ ?_
          refine HW.one (fuel := 1) 6 rfl (by kernel_rfl) ?_
          refine RW.storeAll T hs 1 rfl rfl rfl rfl rfl rfl hall12 rfl ?_
          intro w906 hs
          refine RW.nil ?_
          refine heldQ_normal ⟨_, _, 2, 2, hs, rfl, rfl⟩ ?_
          refine HW.one (fuel := 0) 7 rfl (by kernel_rfl) ?_
          refine RW.storeAll T hs 0 rfl rfl rfl rfl rfl rfl rfl rfl ?_
          intro w907 hs
          refine RW.nil ?_
          refine heldQ_normal ⟨_, _, 2, 2, hs, rfl, rfl⟩ ?_
          refine HW.done (by kernel_rfl) ?_
          refine calmQ_normal ?_
          exact joinQ_meet (b3, b4, _, _, h14) ⟨rfl, rfl, rfl, trivial⟩ ⟨hp', hn12, hq14, hs⟩
      · (refine RW.allocN T hs rfl rfl rfl rfl ?_; intro b4 w4 hs)
        refine RW.nil ?_
        refine heldQ_normal ⟨_, _, 2, 2, hs, rfl, rfl⟩ ?_
        refine HW.one (fuel := 3) 1 rfl (by kernel_rfl) ?_
        (refine RW.call T hs rfl rfl rfl (of07_con (k + 2) _ p _ _ hp' hcp) ?_; intro v h12 w12 hle12 hp12 hs)
        obtain ⟨cs12, rfl, _, _, hn12⟩ := hp12
        have hn12 : ArrAt (k + 2) h12 cs12 (arr (k + 2) p) := hn12
        obtain ⟨_, vc12, rfl, ⟨ad12, cap12, rfl, _⟩, hv12⟩ := id hn12
        obtain ⟨wv12, nv12, sm12, il12, fl12, ch12, bx12, ⟨rfl, hoc12⟩, -⟩ := hv12
        have hall12 : (Value.oneCell' (.slice ad12 (ArrD.shape (α := AD (k + 1)) (arr (k + 2) p)).length cap12) && (vecCells (ArrD.vec (α := AD (k + 1)) (arr (k + 2) p)).kind wv12 nv12 sm12 il12 fl12 ch12 bx12).all Value.oneCell') = true := by rw [hoc12]; rfl
        have hp' := PlainAt.mono (k + 2) _ _ _ _ hle12 hp'
        refine RW.nil ?_
        refine heldQ_normal ⟨_, _, 2, 2, hs, rfl, rfl⟩ ?_
        refine HW.one (fuel := 2) 3 rfl (by kernel_rfl) ?_
        (refine RW.call T hs rfl rfl rfl (refTidyP_con (k + 2) 40 _ p _ _ hp' hcp) ?_; intro v h14 w14 hle14 hp14 hs)
        obtain ⟨cs14, rfl, hq14⟩ := hp14
        have hq14 : PlainAt (k + 2) h14 cs14 (tidy (k + 2) p) := hq14
        obtain ⟨s14, it14, rfl, ⟨adS14, cpS14, rfl, _⟩, ⟨adI14, cpI14, xsI14, rfl, _, _⟩⟩ := id hq14
        have hp' := PlainAt.mono (k + 2) _ _ _ _ hle14 hp'
        have hn12 := ArrAt.mono (k + 2) _ _ _ _ hle14 hn12
        refine RW.nil ?_
        refine heldQ_normal ⟨_, _, 2, 2, hs, rfl, rfl⟩ ?_
        refine HW.one (fuel := 1) 6 rfl (by kernel_rfl) ?_
        refine RW.storeAll T hs 1 rfl rfl rfl rfl rfl rfl hall12 rfl ?_
        intro w906 hs
        refine RW.nil ?_
        refine heldQ_normal ⟨_, _, 2, 2, hs, rfl, rfl⟩ ?_
        refine HW.one (fuel := 0) 7 rfl (by kernel_rfl) ?_
        refine RW.storeAll T hs 0 rfl rfl rfl rfl rfl rfl rfl rfl ?_
        intro w907 hs
        refine RW.nil ?_
        refine heldQ_normal ⟨_, _, 2, 2, hs, rfl, rfl⟩ ?_
        refine HW.done (by kernel_rfl) ?_
        refine calmQ_normal ?_
        exact joinQ_meet (b3, b4, _, _, h14) ⟨rfl, rfl, rfl, trivial⟩ ⟨hp', hn12, hq14, hs⟩
    · (refine RW.allocN T hs rfl rfl rfl rfl ?_; intro b4 w4 hs)
      refine RW.nil ?_
      refine heldQ_normal ⟨_, _, 1, 1, hs, rfl, rfl⟩ ?_
      refine HW.two (fuel := 4) 1 4 rfl rfl (by kernel_rfl) ?_ ?_
      · (refine RW.call T hs rfl rfl rfl (of07_con (k + 2) _ p _ _ hp' hcp) ?_; intro v h12 w12 hle12 hp12 hs)
        obtain ⟨cs12, rfl, _, _, hn12⟩ := hp12
        have hn12 : ArrAt (k + 2) h12 cs12 (arr (k + 2) p) := hn12
        obtain ⟨_, vc12, rfl, ⟨ad12, cap12, rfl, _⟩, hv12⟩ := id hn12
        obtain ⟨wv12, nv12, sm12, il12, fl12, ch12, bx12, ⟨rfl, hoc12⟩, -⟩ := hv12
        have hall12 : (Value.oneCell' (.slice ad12 (ArrD.shape (α := AD (k + 1)) (arr (k + 2) p)).length cap12) && (vecCells (ArrD.vec (α := AD (k + 1)) (arr (k + 2) p)).kind wv12 nv12 sm12 il12 fl12 ch12 bx12).all Value.oneCell') = true := by rw [hoc12]; rfl
        have hp' := PlainAt.mono (k + 2) _ _ _ _ hle12 hp'
        refine RW.nil ?_
        refine heldQ_normal ⟨_, _, 1, 1, hs, rfl, rfl⟩ ?_
        refine HW.two (fuel := 3) 3 4 rfl rfl (by kernel_rfl) ?_ ?_
        · (refine RW.call T hs rfl rfl rfl (refTidyP_con (k + 2) 40 _ p _ _ hp' hcp) ?_; intro v h14 w14 hle14 hp14 hs)
          obtain ⟨cs14, rfl, hq14⟩ := hp14
          have hq14 : PlainAt (k + 2) h14 cs14 (tidy (k + 2) p) := hq14
          obtain ⟨s14, it14, rfl, ⟨adS14, cpS14, rfl, _⟩, ⟨adI14, cpI14, xsI14, rfl, _, _⟩⟩ := id hq14
          have hp' := PlainAt.mono (k + 2) _ _ _ _ hle14 hp'
          have hn12 := ArrAt.mono (k + 2) _ _ _ _ hle14 hn12
          refine RW.nil ?_
          refine heldQ_normal ⟨_, _, 1, 1, hs, rfl, rfl⟩ ?_
          refine HW.one (fuel := 2) 4 rfl (by kernel_rfl) ?_
          (refine RW.allocN T hs rfl rfl rfl rfl ?_; intro b3 w3 hs)
          refine RW.nil ?_
          refine heldQ_normal ⟨_, _, 2, 2, hs, rfl, rfl⟩ ?_
          refine HW.one (fuel := 1) 6 rfl (by kernel_rfl) ?_
          refine RW.storeAll T hs 0 rfl rfl rfl rfl rfl rfl hall12 rfl ?_
          intro w906 hs
          refine RW.nil ?_
          refine heldQ_normal ⟨_, _, 2, 2, hs, rfl, rfl⟩ ?_
          refine HW.one (fuel := 0) 7 rfl (by kernel_rfl) ?_
          refine RW.storeAll T hs 1 rfl rfl rfl rfl rfl rfl rfl rfl ?_
          intro w907 hs
          refine RW.nil ?_
          refine heldQ_normal ⟨_, _, 2, 2, hs, rfl, rfl⟩ ?_
          refine HW.done (by kernel_rfl) ?_
          refine calmQ_normal ?_
          exact joinQ_meet (b3, b4, _, _, h14) ⟨rfl, rfl, rfl, trivial⟩ ⟨hp', hn12, hq14, hs.swap⟩
        · (refine RW.allocN T hs rfl rfl rfl rfl ?_; intro b3 w3 hs)
          refine RW.nil ?_
          refine heldQ_normal ⟨_, _, 2, 2, hs, rfl, rfl⟩ ?_
          refine HW.one (fuel := 2) 3 rfl (by kernel_rfl) ?_
          (refine RW.call T hs rfl rfl rfl (refTidyP_con (k + 2) 40 _ p _ _ hp' hcp) ?_; intro v h14 w14 hle14 hp14 hs)
          obtain ⟨cs14, rfl, hq14⟩ := hp14
          have hq14 : PlainAt (k + 2) h14 cs14 (tidy (k + 2) p) := hq14
          obtain ⟨s14, it14, rfl, ⟨adS14, cpS14, rfl, _⟩, ⟨adI14, cpI14, xsI14, rfl, _, _⟩⟩ := id hq14
          have hp' := PlainAt.mono (k + 2) _ _ _ _ hle14 hp'
          have hn12 := ArrAt.mono (k + 2) _ _ _ _ hle14 hn12
          refine RW.nil ?_
          refine heldQ_normal ⟨_, _, 2, 2, hs, rfl, rfl⟩ ?_
          refine HW.one (fuel := 1) 6 rfl (by kernel_rfl) ?_
          refine RW.storeAll T hs 0 rfl rfl rfl rfl rfl rfl hall12 rfl ?_
          intro w906 hs
          refine RW.nil ?_
          refine heldQ_normal ⟨_, _, 2, 2, hs, rfl, rfl⟩ ?_
          refine HW.one (fuel := 0) 7 rfl (by kernel_rfl) ?_
          refine RW.storeAll T hs 1 rfl rfl rfl rfl rfl rfl rfl rfl ?_
          intro w907 hs
          refine RW.nil ?_
          refine heldQ_normal ⟨_, _, 2, 2, hs, rfl, rfl⟩ ?_
          refine HW.done (by kernel_rfl) ?_
          refine calmQ_normal ?_
          exact joinQ_meet (b3, b4, _, _, h14) ⟨rfl, rfl, rfl, trivial⟩ ⟨hp', hn12, hq14, hs.swap⟩
      · (refine RW.allocN T hs rfl rfl rfl rfl ?_; intro b3 w3 hs)
        refine RW.nil ?_
        refine heldQ_normal ⟨_, _, 2, 2, hs, rfl, rfl⟩ ?_
        refine HW.one (fuel := 3) 1 rfl (by kernel_rfl) ?_
        (refine RW.call T hs rfl rfl rfl (of07_con (k + 2) _ p _ _ hp' hcp) ?_; intro v h12 w12 hle12 hp12 hs)
        obtain ⟨cs12, rfl, _, _, hn12⟩ := hp12
        have hn12 : ArrAt (k + 2) h12 cs12 (arr (k + 2) p) := hn12
        obtain ⟨_, vc12, rfl, ⟨ad12, cap12, rfl, _⟩, hv12⟩ := id hn12
        obtain ⟨wv12, nv12, sm12, il12, fl12, ch12, bx12, ⟨rfl, hoc12⟩, -⟩ := hv12
        have hall12 : (Value.oneCell' (.slice ad12 (ArrD.shape (α := AD (k + 1)) (arr (k + 2) p)).length cap12) && (vecCells (ArrD.vec (α := AD (k + 1)) (arr (k + 2) p)).kind wv12 nv12 sm12 il12 fl12 ch12 bx12).all Value.oneCell') = true := by rw [hoc12]; rfl
        have hp' := PlainAt.mono (k + 2) _ _ _ _ hle12 hp'
        refine RW.nil ?_
        refine heldQ_normal ⟨_, _, 2, 2, hs, rfl, rfl⟩ ?_
        refine HW.one (fuel := 2) 3 rfl (by kernel_rfl) ?_
        (refine RW.call T hs rfl rfl rfl (refTidyP_con (k + 2) 40 _ p _ _ hp' hcp) ?_; intro v h14 w14 hle14 hp14 hs)
        obtain ⟨cs14, rfl, hq14⟩ := hp14
        have hq14 : PlainAt (k + 2) h14 cs14 (tidy (k + 2) p) := hq14
        obtain ⟨s14, it14, rfl, ⟨adS14, cpS14, rfl, _⟩, ⟨adI14, cpI14, xsI14, rfl, _, _⟩⟩ := id hq14
        have hp' := PlainAt.mono (k + 2) _ _ _ _ hle14 hp'
        have hn12 := ArrAt.mono (k + 2) _ _ _ _ hle14 hn12
        refine RW.nil ?_
        refine heldQ_normal ⟨_, _, 2, 2, hs, rfl, rfl⟩ ?_
        refine HW.one (fuel := 1) 6 rfl (by kernel_rfl) ?_
        refine RW.storeAll T hs 0 rfl rfl rfl rfl rfl rfl hall12 rfl ?_
        intro w906 hs
        refine RW.nil ?_
        refine heldQ_normal ⟨_, _, 2, 2, hs, rfl, rfl⟩ ?_
        refine HW.one (fuel := 0) 7 rfl (by kernel_rfl) ?_
        refine RW.storeAll T hs 1 rfl rfl rfl rfl rfl rfl rfl rfl ?_
        intro w907 hs
        refine RW.nil ?_
        refine heldQ_normal ⟨_, _, 2, 2, hs, rfl, rfl⟩ ?_
        refine HW.done (by kernel_rfl) ?_
        refine calmQ_normal ?_
        exact joinQ_meet (b3, b4, _, _, h14) ⟨rfl, rfl, rfl, trivial⟩ ⟨hp', hn12, hq14, hs.swap⟩
  rintro ⟨b3, b4, cs12, cs14, h8⟩ w8 ⟨hp', hA, hT, hs⟩
  dsimp only at hp' hA hT hs ⊢
  obtain ⟨_, vc12, rfl, ⟨ad12, cap12, rfl, _⟩, hv12⟩ := id hA
  obtain ⟨wv12, nv12, sm12, il12, fl12, ch12, bx12, ⟨rfl, hoc12⟩, -⟩ := hv12
  obtain ⟨s14, it14, rfl, ⟨adS14, cpS14, rfl, _⟩, ⟨adI14, cpI14, xsI14, rfl, _, _⟩⟩ := id hT
  have hSp : Sl h8 1 ads_p (PlainD.shape (α := PD (k + 1)) p).length cps_p ((PlainD.shape (α := PD (k + 1)) p).map (Value.int .i64)) := by obtain ⟨_, _, e0, ⟨_, _, e1, e2⟩, _⟩ := id hp'; cases e0; cases e1; exact e2
  have hcap := hSp.caps
  obtain ⟨n, hn⟩ : ∃ n, tallyN (PlainD.shape (α := PD (k + 1)) p) = n := ⟨_, rfl⟩
  have hrg := tallyN_rng hgp
  rw [hn] at hrg
  refine Zerun ?_
  refine CW.meet (fun u : Unit => [(1, .pointer (some ⟨b1, 0, none⟩)), (3, .pointer (some ⟨b3, 0, none⟩)), (4, .pointer (some ⟨b4, 0, none⟩)), (5, .int .i64 n)]) (fun _ w' => Sees w h h8 [⟨some ⟨b4, 0, none⟩, 1, 1, 25, 3, [.slice adS14 (PlainD.shape (α := PD (k + 1)) (tidy (k + 2) p)).length cpS14, .slice adI14 (PlainD.items (α := PD (k + 1)) (tidy (k + 2) p)).length cpI14, .int .i64 (PlainD.fill (α := PD (k + 1)) (tidy (k + 2) p))]⟩, ⟨some ⟨b3, 0, none⟩, 1, 1, 39, 9, (.slice ad12 (ArrD.shape (α := AD (k + 1)) (arr (k + 2) p)).length cap12 :: vecCells (ArrD.vec (α := AD (k + 1)) (arr (k + 2) p)).kind wv12 nv12 sm12 il12 fl12 ch12 bx12)⟩, ⟨some ⟨b1, 0, none⟩, 1, 1, 25, 3, [.slice ads_p (PlainD.shape (α := PD (k + 1)) p).length cps_p, .slice adi_p (PlainD.items (α := PD (k + 1)) p).length cpi_p, .int .i64 (PlainD.fill (α := PD (k + 1)) p)]⟩] w') ?_ ?_
  · by_cases c : (PlainD.shape (α := PD (k + 1)) p).length = 0
    · have c' : ¬ (0 : Int) < ((PlainD.shape (α := PD (k + 1)) p).length : Int) := by omega
      have e : tallyN (PlainD.shape (α := PD (k + 1)) p) = 1 := if_pos c
      refine Zerun ?_
      exact joinQ_meet () ⟨rfl, rfl, rfl, by rw [← hn, e]; rfl, trivial⟩ hs
    · have c' : (0 : Int) < ((PlainD.shape (α := PD (k + 1)) p).length : Int) := by omega
      have e : tallyN (PlainD.shape (α := PD (k + 1)) p) = (PlainD.shape (α := PD (k + 1)) p).getD 0 0 := if_neg c
      have g0 := map_get (Value.int .i64) (PlainD.shape (α := PD (k + 1)) p) 0 0 (by omega)
      have hpos0 : 0 < (PlainD.shape (α := PD (k + 1)) p).length := by omega
      refine Zerun ?_
      exact joinQ_meet () ⟨rfl, rfl, rfl, by rw [← hn, e]; rfl, trivial⟩ hs
  rintro ⟨⟩ w9 hs
  refine Zerun ?_
  (refine RW.allocN T hs rfl rfl rfl rfl ?_; intro b6 w6 hs)
  (refine RW.storeAll T hs 0 rfl rfl rfl rfl rfl rfl rfl rfl ?_; intro w10 hs)
  refine Zerun ?_
  have hil0 : (PlainD.items (α := PD (k + 1)) (tidy (k + 2) p)).length = (PlainD.items (α := PD (k + 1)) p).length := List.length_map ..
  have hvl : (ArrD.vec (α := AD (k + 1)) (arr (k + 2) p)).len = (PlainD.items (α := PD (k + 1)) p).length := by have := Hp.ln; omega
  (refine RW.lit T hs (vs := [.int .i64 ((PlainD.items (α := PD (k + 1)) p).length : Int)]) (cs := [.int .i64 ((PlainD.items (α := PD (k + 1)) p).length : Int)]) rfl rfl rfl rfl (by simp [Value.cells]) rfl rfl rfl rfl rfl ?_; intro b15 w15 hs)
  obtain ⟨h15, hle15, hs, hS15⟩ := hs.freeze
  have hI15 : IntsAt h15 (.slice (some ⟨b15, 0, none⟩) 1 1) [((PlainD.items (α := PD (k + 1)) p).length : Int)] := IntsAt.of_sl hS15
  have hp' := PlainAt.mono (k + 2) _ _ _ _ hle15 hp'
  have hA := ArrAt.mono (k + 2) _ _ _ _ hle15 hA
  have hT := PlainAt.mono (k + 2) _ _ _ _ hle15 hT
  refine Zerun ?_
  (refine RW.store1 T hs 0 rfl rfl rfl rfl rfl rfl (by simp [Value.oneCell']) rfl ?_; intro w16 hs)
  dsimp only [List.set_cons_zero] at hs
  have hL : PlainAt (k + 2) h15 [.slice (some ⟨b15, 0, none⟩) 1 1, .slice adI14 (PlainD.items (α := PD (k + 1)) (tidy (k + 2) p)).length cpI14, .int .i64 (PlainD.fill (α := PD (k + 1)) (tidy (k + 2) p))] (⟨[((PlainD.items (α := PD (k + 1)) p).length : Int)], PlainD.items (α := PD (k + 1)) (tidy (k + 2) p), PlainD.fill (α := PD (k + 1)) (tidy (k + 2) p)⟩ : PlainD (PD (k + 1))) := by
    obtain ⟨_, it, e0, _, hit⟩ := id hT
    cases e0
    exact ⟨_, _, rfl, hI15, hit⟩
  have hm := Hp.sh.vm
  have hfd : ∀ m ∈ (PlainD.shape (α := PD (k + 1)) p), -9007199254740992 ≤ m ∧ m ≤ 9007199254740992 := fun m hm => by have := good_le _ hgp m hm; omega
  have htd : ∀ u ∈ (PlainD.shape (α := PD (k + 1)) p).map fwF, tidyF u := fun u hu => by obtain ⟨m, hm, rfl⟩ := List.mem_map.1 hu; exact (fwF_spec m (hfd m hm)).1
  have hfn := fwF_spec n (by omega)
  obtain ⟨N, hN⟩ : ∃ N, (PlainD.shape (α := PD (k + 1)) p).map fwF = N := ⟨_, rfl⟩
  have hNl : N.length ≤ 1048576 := by rw [← hN, List.length_map]; omega
  rw [hN] at htd
  have res1 : ResX (k + 1) 0 (numsA (k + 1) N) (numsP N : PlainD (PD (k + 1))) := .inl ⟨rfl, numsA_good (k + 1) N 40 (by decide) hNl, numsA_plain (k + 1) N, numsP_tdy (k + 1) N htd⟩
  have res2 : ResX (k + 1) 0 (numA (k + 1) (fwF n)) (numQ (k + 1) (fwF n)) := .inl ⟨rfl, numA_good (k + 1) _ 40 (by decide), numA_plain (k + 1) _, numQ_tdy (k + 1) _ hfn.1⟩
  obtain ⟨aV, haV⟩ : ∃ x, ArrD.vec (α := AD (k + 1)) (arr (k + 2) p) = x := ⟨_, rfl⟩
  have hsq : (ArrD.vec (α := AD (k + 1)) (arr (k + 2) p)).sq = ArrD.vec (α := AD (k + 1)) (arr (k + 2) p) := Lp.sq
  rw [haV] at hsq hvl hm
  have hp1 : product [((PlainD.items (α := PD (k + 1)) p).length : Int)] 1048576 = ((aV.len : Int), 0) := by rw [← hvl]; exact product_1 _ (by omega)
  have Hp' := Hp
  rw [haV] at Hp'
  have hpp' := hpp
  rw [haV] at hpp'
  have res3 := Hp'.shape _ hp1
  have res4 := Hp'.shape _ (table_prod hpp')
  refine Zerun ?_
  refine CW.regionO T hs ?_
  intro w17 hs
  refine HW.takeS (fuel := 29) 0 rfl (fun _ _ hs => Y.loadRowN T hs 2 rfl rfl rfl rfl rfl rfl rfl) hs rfl (by kernel_rfl) (by kernel_rfl) (by kernel_rfl) ?_
  refine HW.takeS (fuel := 28) 2 rfl (fun _ _ hs => Y.loadRowN T hs 3 rfl rfl rfl rfl rfl rfl rfl) hs rfl (by kernel_rfl) (by kernel_rfl) (by kernel_rfl) ?_
  refine HW.one (fuel := 27) 1 rfl (by kernel_rfl) ?_
  (refine RW.call T hs rfl rfl rfl (reShape_con (k + 1) _ (arr (k + 2) p) _ _ hA hgp) ?_; intro v h30 w30 hle30 hp30 hs)
  obtain ⟨cs30, rfl, hX30⟩ := hp30
  have hX30 : ArrAt (k + 2) h30 cs30 (numsA (k + 1) N) := hN ▸ hX30
  have hp' := PlainAt.mono (k + 2) _ _ _ _ hle30 hp'
  have hA := ArrAt.mono (k + 2) _ _ _ _ hle30 hA
  have hT := PlainAt.mono (k + 2) _ _ _ _ hle30 hT
  have hL := PlainAt.mono (k + 2) _ _ _ _ hle30 hL
  refine RW.nil ?_
  refine heldQ_normal ⟨_, hs⟩ ?_
  refine HW.one (fuel := 26) 3 rfl (by kernel_rfl) ?_
  (refine RW.call T hs rfl rfl rfl (ref20Shape_con (PlainAt.mono (k + 1)) _ p _ _ hp' hgp) ?_; intro v h32 w32 hle32 hp32 hs)
  obtain ⟨cs32, rfl, hY32⟩ := hp32
  have hY32 : PlainAt (k + 2) h32 cs32 (numsP N : PlainD (PD (k + 1))) := hN ▸ hY32
  have hp' := PlainAt.mono (k + 2) _ _ _ _ hle32 hp'
  have hA := ArrAt.mono (k + 2) _ _ _ _ hle32 hA
  have hT := PlainAt.mono (k + 2) _ _ _ _ hle32 hT
  have hL := PlainAt.mono (k + 2) _ _ _ _ hle32 hL
  have hX30 := ArrAt.mono (k + 2) _ _ _ _ hle32 hX30
  refine RW.nil ?_
  refine heldQ_normal ⟨_, hs⟩ ?_
  refine HW.one (fuel := 25) 4 rfl (by kernel_rfl) ?_
  (refine RW.call T hs rfl rfl rfl (shows20X_con (k + 1) _ _ 0 (numsA (k + 1) N) (numsP N : PlainD (PD (k + 1))) _ _ hX30 hY32 res1) ?_; intro v h33 w33 hle33 hp33 hs)
  subst hp33
  have hA := ArrAt.mono (k + 2) _ _ _ _ hle33 hA
  have hT := PlainAt.mono (k + 2) _ _ _ _ hle33 hT
  have hL := PlainAt.mono (k + 2) _ _ _ _ hle33 hL
  refine RW.nil ?_
  refine heldQ_normal ⟨_, hs⟩ ?_
  refine HW.takeS (fuel := 24) 5 rfl (fun _ _ hs => Y.move rfl) hs rfl (by kernel_rfl) (by kernel_rfl) (by kernel_rfl) ?_
  refine HW.takeSY (fuel := 23) 6 rfl rfl rfl (fun _ _ hs => Y.loadRowN T hs 2 rfl rfl rfl rfl rfl rfl rfl) hs rfl (by kernel_rfl) (by kernel_rfl) (by kernel_rfl) ?_
  refine HW.takeSY (fuel := 22) 8 rfl rfl rfl (fun _ _ hs => Y.move rfl) hs rfl (by kernel_rfl) (by kernel_rfl) (by kernel_rfl) ?_
  refine HW.takeSY (fuel := 21) 9 rfl rfl rfl (fun _ _ hs => Y.convIF T rfl rfl rfl) hs rfl (by kernel_rfl) (by kernel_rfl) (by kernel_rfl) ?_
  refine HW.one (fuel := 20) 7 rfl (by kernel_rfl) ?_
  refine RW.guardYes rfl rfl ?_
  (refine RW.call T hs rfl rfl rfl (reTally_con (k + 1) _ (arr (k + 2) p) _ _ hA hgp) ?_; intro v h36 w36 hle36 hp36 hs)
  obtain ⟨cs36, rfl, hX36⟩ := hp36
  have hX36 : ArrAt (k + 2) h36 cs36 (numA (k + 1) (fwF n)) := hn ▸ hX36
  have hA := ArrAt.mono (k + 2) _ _ _ _ hle36 hA
  have hT := PlainAt.mono (k + 2) _ _ _ _ hle36 hT
  have hL := PlainAt.mono (k + 2) _ _ _ _ hle36 hL
  refine RW.nil ?_
  refine heldQ_normal ⟨_, hs⟩ ?_
  refine HW.one (fuel := 19) 10 rfl (by kernel_rfl) ?_
  refine RW.guardYes rfl rfl ?_
  (refine RW.call T hs rfl rfl rfl (refOne_con (α := PD (k + 1)) (R := PlainAt (k + 1)) (fwF n) _ _ hfn.1.1) ?_; intro v h39 w39 hle39 hp39 hs)
  obtain ⟨cs39, rfl, hY39⟩ := hp39
  have hY39 : PlainAt (k + 2) h39 cs39 (numQ (k + 1) (fwF n)) := hY39
  have hA := ArrAt.mono (k + 2) _ _ _ _ hle39 hA
  have hT := PlainAt.mono (k + 2) _ _ _ _ hle39 hT
  have hL := PlainAt.mono (k + 2) _ _ _ _ hle39 hL
  have hX36 := ArrAt.mono (k + 2) _ _ _ _ hle39 hX36
  refine RW.nil ?_
  refine heldQ_normal ⟨_, hs⟩ ?_
  refine HW.one (fuel := 18) 11 rfl (by kernel_rfl) ?_
  refine RW.guardYes rfl rfl ?_
  (refine RW.call T hs rfl rfl rfl (shows20X_con (k + 1) _ _ 0 (numA (k + 1) (fwF n)) (numQ (k + 1) (fwF n)) _ _ hX36 hY39 res2) ?_; intro v h40 w40 hle40 hp40 hs)
  subst hp40
  have hA := ArrAt.mono (k + 2) _ _ _ _ hle40 hA
  have hT := PlainAt.mono (k + 2) _ _ _ _ hle40 hT
  have hL := PlainAt.mono (k + 2) _ _ _ _ hle40 hL
  refine RW.nil ?_
  refine heldQ_normal ⟨_, hs⟩ ?_
  refine HW.takeS (fuel := 17) 12 rfl (fun _ _ hs => Y.pickT rfl rfl) hs rfl (by kernel_rfl) (by kernel_rfl) (by kernel_rfl) ?_
  refine HW.takeS (fuel := 16) 13 rfl (fun _ _ hs => Y.move rfl) hs rfl (by kernel_rfl) (by kernel_rfl) (by kernel_rfl) ?_
  refine HW.takeSY (fuel := 15) 14 rfl rfl rfl (fun _ _ hs => Y.loadRowN T hs 2 rfl rfl rfl rfl rfl rfl rfl) hs rfl (by kernel_rfl) (by kernel_rfl) (by kernel_rfl) ?_
  refine HW.takeSY (fuel := 14) 16 rfl rfl rfl (fun _ _ hs => Y.loadRowN T hs 0 rfl rfl rfl rfl rfl rfl rfl) hs rfl (by kernel_rfl) (by kernel_rfl) (by kernel_rfl) ?_
  refine HW.one (fuel := 13) 15 rfl (by kernel_rfl) ?_
  refine RW.guardYes rfl rfl ?_
  (refine RW.call T hs rfl rfl rfl (reRavel_con (k + 1) _ (arr (k + 2) p) _ _ hA (by rw [haV]; exact hm)) ?_; intro v h44 w44 hle44 hp44 hs)
  obtain ⟨cs44, rfl, hX44⟩ := hp44
  rw [haV, hsq, hvl] at hX44
  have hA := ArrAt.mono (k + 2) _ _ _ _ hle44 hA
  have hT := PlainAt.mono (k + 2) _ _ _ _ hle44 hT
  have hL := PlainAt.mono (k + 2) _ _ _ _ hle44 hL
  refine RW.nil ?_
  refine heldQ_normal ⟨_, hs⟩ ?_
  refine HW.one (fuel := 12) 17 rfl (by kernel_rfl) ?_
  refine RW.guardYes rfl rfl ?_
  (refine RW.call T hs rfl rfl rfl (shows20X_con (k + 1) _ _ 0 _ _ _ _ hX44 hL res3) ?_; intro v h46 w46 hle46 hp46 hs)
  subst hp46
  have hA := ArrAt.mono (k + 2) _ _ _ _ hle46 hA
  have hT := PlainAt.mono (k + 2) _ _ _ _ hle46 hT
  refine RW.nil ?_
  refine heldQ_normal ⟨_, hs⟩ ?_
  refine HW.takeS (fuel := 11) 18 rfl (fun _ _ hs => Y.pickT rfl rfl) hs rfl (by kernel_rfl) (by kernel_rfl) (by kernel_rfl) ?_
  refine HW.takeS (fuel := 10) 19 rfl (fun _ _ hs => Y.move rfl) hs rfl (by kernel_rfl) (by kernel_rfl) (by kernel_rfl) ?_
  refine HW.takeSY (fuel := 9) 20 rfl rfl rfl (fun _ _ hs => Y.loadRowN T hs 2 rfl rfl rfl rfl rfl rfl rfl) hs rfl (by kernel_rfl) (by kernel_rfl) (by kernel_rfl) ?_
  refine HW.takeSY (fuel := 8) 22 rfl rfl rfl (fun _ _ hs => Y.loadRowN T hs 1 rfl rfl rfl rfl rfl rfl rfl) hs rfl (by kernel_rfl) (by kernel_rfl) (by kernel_rfl) ?_
  refine HW.one (fuel := 7) 21 rfl (by kernel_rfl) ?_
  refine RW.guardYes rfl rfl ?_
  (refine RW.call T hs rfl rfl rfl (reTable_con (k + 1) _ (arr (k + 2) p) _ _ hA hgp) ?_; intro v h50 w50 hle50 hp50 hs)
  obtain ⟨cs50, rfl, hX50⟩ := hp50
  rw [haV] at hX50
  have hA := ArrAt.mono (k + 2) _ _ _ _ hle50 hA
  have hT := PlainAt.mono (k + 2) _ _ _ _ hle50 hT
  refine RW.nil ?_
  refine heldQ_normal ⟨_, hs⟩ ?_
  refine HW.one (fuel := 6) 23 rfl (by kernel_rfl) ?_
  refine RW.guardYes rfl rfl ?_
  (refine RW.call T hs rfl rfl rfl (ref20Table_con (PlainAt.mono (k + 1)) _ (tidy (k + 2) p) _ _ hT hgp) ?_; intro v h52 w52 hle52 hp52 hs)
  obtain ⟨cs52, rfl, hY52⟩ := hp52
  have hA := ArrAt.mono (k + 2) _ _ _ _ hle52 hA
  have hT := PlainAt.mono (k + 2) _ _ _ _ hle52 hT
  have hX50 := ArrAt.mono (k + 2) _ _ _ _ hle52 hX50
  refine RW.nil ?_
  refine heldQ_normal ⟨_, hs⟩ ?_
  refine HW.one (fuel := 5) 24 rfl (by kernel_rfl) ?_
  refine RW.guardYes rfl rfl ?_
  (refine RW.call T hs rfl rfl rfl (shows20X_con (k + 1) _ _ 0 _ _ _ _ hX50 hY52 res4) ?_; intro v h53 w53 hle53 hp53 hs)
  subst hp53
  refine RW.nil ?_
  refine heldQ_normal ⟨_, hs⟩ ?_
  refine HW.takeS (fuel := 4) 25 rfl (fun _ _ hs => Y.pickT rfl rfl) hs rfl (by kernel_rfl) (by kernel_rfl) (by kernel_rfl) ?_
  refine HW.takeS (fuel := 3) 26 rfl (fun _ _ hs => Y.move rfl) hs rfl (by kernel_rfl) (by kernel_rfl) (by kernel_rfl) ?_
  refine HW.one (fuel := 2) 27 rfl (by kernel_rfl) ?_
  refine RW.guardYes rfl rfl ?_
  (refine RW.call T hs rfl rfl rfl (awake20_con _ _) ?_; intro v h56 w56 hle56 hp56 hs)
  subst hp56
  refine RW.nil ?_
  refine heldQ_normal ⟨_, hs⟩ ?_
  refine HW.takeS (fuel := 1) 28 rfl (fun _ _ hs => Y.pickT rfl rfl) hs rfl (by kernel_rfl) (by kernel_rfl) (by kernel_rfl) ?_
  refine HW.takeS (fuel := 0) 29 rfl (fun _ _ hs => Y.assign rfl) hs rfl (by kernel_rfl) (by kernel_rfl) (by kernel_rfl) ?_
  refine HW.done (by kernel_rfl) ?_
  refine calmQ_normal ?_
  refine Zerun ?_
  exact retQ_ret [_] h56 ⟨rfl, trivial⟩ hs.dropAll rfl
end Go.Proofs.YtmojpbfkpggjhaaGreat
