/-
  Own texts of the claim, merged: Pe, Rg. Lemmas of the proof; no statement is proved here.
-/
import Derived.Test.YtmfealaaacmohaaGreatMc
/-
  Contracts of the law's own functions of layer 21: the example; what is turned on, and then back. No statement is proved here.
-/
namespace Go.Proofs.YtmfealaaacmohaaGreat
open Go Go.RowKit
set_option linter.unusedVariables false
set_option linter.unusedSimpArgs false
set_option maxHeartbeats 4000000
attribute [local irreducible] CW RW QW SW HW ConM retM heldQ calmQ elemP thenQ blockQ loopQ joinQ retQ Yields Con Sl zF magR unitF truncF fwF wholeF tidySpec elemQ rankF leastN tidyW
set_option maxHeartbeats 4000000

def n5 : Nat := 4617315517961601024
def n6 : Nat := 4618441417868443648
def n7 : Nat := 4619567317775286272
theorem t567 : ∀ u ∈ [n5, n6, n7], tidyF u := by
  intro u hu
  simp only [List.mem_cons, List.not_mem_nil, or_false] at hu
  rcases hu with rfl | rfl | rfl
  · exact tidy5
  · exact tidy6
  · exact tidy7
theorem mem567 {l : List Nat} (h : l.all (fun u => [n5, n6, n7].contains u) = true) : ∀ u ∈ l, u ∈ [n5, n6, n7] := fun u hu => by
  have := List.all_eq_true.1 h u hu
  simpa using this
theorem hsp3 : splitSpec (ArrD.shape (α := AD 1) (numsA 1 [n5, n6, n7])) ((axK (ArrD.shape (α := AD 1) (numsA 1 [n5, n6, n7])) false : Nat) : Int) = (((1 : Nat) : Int), ((3 : Nat) : Int), ((1 : Nat) : Int), true) := by
  show splitSpec [((3 : Nat) : Int)] ((0 : Nat) : Int) = _
  decide
theorem numsA_pick (N : List Nat) (at_ : List Int) (nb : AD 1) (N' : List Nat) (h : at_.map (VecD.num (⟨leastN N, N, [], []⟩ : VecD (AD 1))) = N') : (⟨leastN N, N, [], []⟩ : VecD (AD 1)).pick at_ nb = ⟨leastN N', N', [], []⟩ := by
  have hb := leastN_bounds N
  unfold VecD.pick
  rw [if_neg (by dsimp only; omega), if_neg (by dsimp only; omega), h]
theorem r_rot : (⟨ArrD.shape (α := AD 1) (numsA 1 [n5, n6, n7]), (ArrD.vec (α := AD 1) (numsA 1 [n5, n6, n7])).pick (alongL 1 3 1 (rolledL 3 1)) (blankA 0)⟩ : ArrD (AD 1)) = numsA 1 [n6, n7, n5] := by
  have e : alongL 1 3 1 (rolledL 3 1) = [1, 2, 0] := by decide
  rw [e]
  exact congrArg (fun v => (⟨[3], v⟩ : ArrD (AD 1))) (numsA_pick [n5, n6, n7] [1, 2, 0] (blankA 0) [n6, n7, n5] rfl)
theorem r_rev : (⟨ArrD.shape (α := AD 1) (numsA 1 [n5, n6, n7]), (ArrD.vec (α := AD 1) (numsA 1 [n5, n6, n7])).pick (alongL 1 3 1 (turnL 3)) (blankA 0)⟩ : ArrD (AD 1)) = numsA 1 [n7, n6, n5] := by
  have e : alongL 1 3 1 (turnL 3) = [2, 1, 0] := by decide
  rw [e]
  exact congrArg (fun v => (⟨[3], v⟩ : ArrD (AD 1))) (numsA_pick [n5, n6, n7] [2, 1, 0] (blankA 0) [n7, n6, n5] rfl)
theorem awake21_con (w : World) (h : GHeap) : Con Tryz.prog 12 [] w h (fun _ u => u = .bool true) := by
  have hk5 : (ArrD.vec (α := AD 1) (numsA 1 [n5, n6, n7])).kind ≠ 0 := by
    have := leastN_bounds [n5, n6, n7]
    show leastN [n5, n6, n7] ≠ 0
    omega
  refine Con.of_body Tryz.func12 rfl Tryz.ntmps12 rfl rfl ?_
  intro hs
  refine Zrun ?_
  (refine RW.lit T hs (vs := [.float .f64 4617315517961601024, .float .f64 4618441417868443648, .float .f64 4619567317775286272]) rfl rfl rfl rfl (by simp [Value.cells]) rfl rfl rfl rfl rfl ?_; intro b1 w1 hs)
  obtain ⟨h1, hle1, hs, hS1⟩ := hs.freeze
  have hF1 : FAt h1 (.slice (some ⟨b1, 0, none⟩) 3 3) [n5, n6, n7] := RowAt.of_sl hS1
  (refine RW.call T hs rfl rfl rfl (refNums_con (R := PlainAt 1) (PlainAt.mono 1) _ _ _ _ hF1 (fun x hx => (t567 x hx).1) (by decide)) ?_; intro v h2 w2 hle2 hp2 hs)
  obtain ⟨cs2, rfl, hq2⟩ := hp2
  (refine RW.call T hs rfl rfl rfl (of07_con 2 _ (numsP [n5, n6, n7] : PlainD (PD 1)) _ _ hq2 (numsP_chk 1 _ (fun x hx => (t567 x hx).2.1) (by decide))) ?_; intro v h3 w3 hle3 hp3 hs)
  obtain ⟨cs3, rfl, _, _, ha3⟩ := hp3
  rw [numsP_arr] at ha3
  have eT : [n5, n6, n7].map tidyW = [n5, n6, n7] := by
    conv => rhs; rw [← List.map_id [n5, n6, n7]]
    apply List.map_congr_left
    intro u hu
    exact tidyW_of (t567 u hu)
  rw [eT] at ha3
  obtain ⟨s3, vc3, rfl, ⟨ad3, cap3, rfl, _⟩, hv3⟩ := id ha3
  obtain ⟨wv3, nv3, sm3, il3, fl3, ch3, bx3, ⟨rfl, hoc3⟩, _⟩ := hv3
  have hall3 : (Value.oneCell' (.slice ad3 (ArrD.shape (α := AD 1) (numsA 1 [n5, n6, n7])).length cap3) && (vecCells (ArrD.vec (α := AD 1) (numsA 1 [n5, n6, n7])).kind wv3 nv3 sm3 il3 fl3 ch3 bx3).all Value.oneCell') = true := by rw [hoc3]; rfl
  refine Zerun ?_
  (refine RW.allocN T hs rfl rfl rfl rfl ?_; intro b4 w4 hs)
  refine RW.storeAll T hs 0 rfl rfl rfl rfl rfl rfl hall3 rfl ?_
  intro w5 hs
  refine Zerun ?_
  refine CW.meet (fun r : Nat × List Value × GHeap => [(1, .pointer (some ⟨b4, 0, none⟩)), (2, .pointer (some ⟨r.1, 0, none⟩)), (3, .int .i64 0)]) (fun r w' => ArrAt 2 r.2.2 (.slice ad3 (ArrD.shape (α := AD 1) (numsA 1 [n5, n6, n7])).length cap3 :: vecCells (ArrD.vec (α := AD 1) (numsA 1 [n5, n6, n7])).kind wv3 nv3 sm3 il3 fl3 ch3 bx3) (numsA 1 [n5, n6, n7]) ∧ ArrAt 2 r.2.2 r.2.1 (numsA 1 [n6, n7, n5]) ∧ Sees w h r.2.2 [⟨some ⟨r.1, 0, none⟩, 1, 1, 39, 9, r.2.1⟩, ⟨some ⟨b4, 0, none⟩, 1, 1, 39, 9, .slice ad3 (ArrD.shape (α := AD 1) (numsA 1 [n5, n6, n7])).length cap3 :: vecCells (ArrD.vec (α := AD 1) (numsA 1 [n5, n6, n7])).kind wv3 nv3 sm3 il3 fl3 ch3 bx3⟩] w') ?_ ?_
  · refine CW.regionR T 0 0 hs rfl rfl ?_
    intro w6 hs
    refine HW.takeR (fuel := 9) 2 rfl (fun _ _ ka kb _ hs hka hkb => Y.loadRowN T hs ka hka rfl rfl rfl rfl rfl rfl) ⟨_, _, 0, 0, hs, rfl, rfl⟩ rfl (by kernel_rfl) (by kernel_rfl) (by kernel_rfl) ?_
    refine HW.two (fuel := 8) 0 7 rfl rfl (by kernel_rfl) ?_ ?_
    · (refine RW.call T hs rfl rfl rfl (refOne_con (α := PD (0 + 1)) (R := PlainAt (0 + 1)) (4607182418800017408) _ _ (tidy1).1) ?_; intro v h8 w8 hle8 hp8 hs)
      obtain ⟨cs8, rfl, hq8⟩ := hp8
      have ha3 := ArrAt.mono 2 _ _ _ _ hle8 ha3
      refine RW.nil ?_
      refine heldQ_normal ⟨_, _, 0, 0, hs, rfl, rfl⟩ ?_
      refine HW.two (fuel := 7) 1 7 rfl rfl (by kernel_rfl) ?_ ?_
      · (refine RW.call T hs rfl rfl rfl (of07_con 2 _ (numQ (0 + 1) (4607182418800017408)) _ _ hq8 (numQ_chk (0 + 1) _ (tidy1).2.1)) ?_; intro v h9 w9 hle9 hp9 hs)
        obtain ⟨cs9, rfl, _, _, hn9⟩ := hp9
        rw [numQ_arr, tidyW_of (tidy1)] at hn9
        rw [← fw1] at hn9
        have ha3 := ArrAt.mono 2 _ _ _ _ hle9 ha3
        refine RW.nil ?_
        refine heldQ_normal ⟨_, _, 0, 0, hs, rfl, rfl⟩ ?_
        refine HW.two (fuel := 6) 3 7 rfl rfl (by kernel_rfl) ?_ ?_
        · (refine RW.call T hs rfl rfl rfl (turnRotate_con (ArrAt.mono (0 + 1)) (ArrAt.one (0 + 1)) (ArrAt.siz (0 + 1)) (blankA 0) (fun w h => flatBlank_con (ArrAt.mono 0) (ArrAt.one 0) w h) _ _ _ (fwF (1)) (1) (numsA 1 [n5, n6, n7]) false _ _ hn9 rfl rfl (one_kind (1) (by omega)) (by rw [wholeF_fw _ (by omega)]) ha3 rfl (by decide) hk5) ?_; intro v h11 w11 hle11 hp11 hs)
          obtain ⟨cs11, rfl, hT11⟩ := hp11
          have ha11 := hT11.2 (by decide) (by decide) 1 3 1 hsp3
          rw [r_rot] at ha11
          have ha11 : ArrAt 2 h11 cs11 (numsA 1 [n6, n7, n5]) := ha11
          obtain ⟨s11, vc11, rfl, ⟨ad11, cap11, rfl, _⟩, hv11⟩ := id ha11
          obtain ⟨wv11, nv11, sm11, il11, fl11, ch11, bx11, ⟨rfl, hoc11⟩, _⟩ := hv11
          have hall11 : (Value.oneCell' (.slice ad11 (ArrD.shape (α := AD 1) (numsA 1 [n6, n7, n5])).length cap11) && (vecCells (ArrD.vec (α := AD 1) (numsA 1 [n6, n7, n5])).kind wv11 nv11 sm11 il11 fl11 ch11 bx11).all Value.oneCell') = true := by rw [hoc11]; rfl
          have ha3 := ArrAt.mono 2 _ _ _ _ hle11 ha3
          refine RW.nil ?_
          refine heldQ_normal ⟨_, _, 0, 0, hs, rfl, rfl⟩ ?_
          refine HW.takeR (fuel := 5) 4 rfl (fun _ _ ka kb _ hs hka hkb => Y.move rfl) ⟨_, _, 0, 0, hs, rfl, rfl⟩ rfl (by kernel_rfl) (by kernel_rfl) (by kernel_rfl) ?_
          refine HW.takeR (fuel := 4) 5 rfl (fun _ _ ka kb _ hs hka hkb => Y.extract rfl rfl) ⟨_, _, 0, 0, hs, rfl, rfl⟩ rfl (by kernel_rfl) (by kernel_rfl) (by kernel_rfl) ?_
          refine HW.takeR (fuel := 3) 6 rfl (fun _ _ ka kb _ hs hka hkb => Y.extract rfl rfl) ⟨_, _, 0, 0, hs, rfl, rfl⟩ rfl (by kernel_rfl) (by kernel_rfl) (by kernel_rfl) ?_
          refine HW.one (fuel := 2) 7 rfl (by kernel_rfl) ?_
          (refine RW.allocN T hs rfl rfl rfl rfl ?_; intro b2 w2 hs)
          refine RW.nil ?_
          refine heldQ_normal ⟨_, _, 1, 1, hs, rfl, rfl⟩ ?_
          refine HW.one (fuel := 1) 8 rfl (by kernel_rfl) ?_
          refine RW.storeAll T hs 0 rfl rfl rfl rfl rfl rfl hall11 rfl ?_
          intro w908 hs
          refine RW.nil ?_
          refine heldQ_normal ⟨_, _, 1, 1, hs, rfl, rfl⟩ ?_
          refine HW.takeR (fuel := 0) 9 rfl (fun _ _ ka kb _ hs hka hkb => Y.assign rfl) ⟨_, _, 1, 1, hs, rfl, rfl⟩ rfl (by kernel_rfl) (by kernel_rfl) (by kernel_rfl) ?_
          refine HW.done (by kernel_rfl) ?_
          refine calmQ_normal ?_
          exact joinQ_meet (b2, _, h11) ⟨rfl, rfl, rfl, trivial⟩ ⟨ha3, ha11, hs⟩
        · (refine RW.allocN T hs rfl rfl rfl rfl ?_; intro b2 w2 hs)
          refine RW.nil ?_
          refine heldQ_normal ⟨_, _, 1, 1, hs, rfl, rfl⟩ ?_
          refine HW.one (fuel := 5) 3 rfl (by kernel_rfl) ?_
          (refine RW.call T hs rfl rfl rfl (turnRotate_con (ArrAt.mono (0 + 1)) (ArrAt.one (0 + 1)) (ArrAt.siz (0 + 1)) (blankA 0) (fun w h => flatBlank_con (ArrAt.mono 0) (ArrAt.one 0) w h) _ _ _ (fwF (1)) (1) (numsA 1 [n5, n6, n7]) false _ _ hn9 rfl rfl (one_kind (1) (by omega)) (by rw [wholeF_fw _ (by omega)]) ha3 rfl (by decide) hk5) ?_; intro v h11 w11 hle11 hp11 hs)
          obtain ⟨cs11, rfl, hT11⟩ := hp11
          have ha11 := hT11.2 (by decide) (by decide) 1 3 1 hsp3
          rw [r_rot] at ha11
          have ha11 : ArrAt 2 h11 cs11 (numsA 1 [n6, n7, n5]) := ha11
          obtain ⟨s11, vc11, rfl, ⟨ad11, cap11, rfl, _⟩, hv11⟩ := id ha11
          obtain ⟨wv11, nv11, sm11, il11, fl11, ch11, bx11, ⟨rfl, hoc11⟩, _⟩ := hv11
          have hall11 : (Value.oneCell' (.slice ad11 (ArrD.shape (α := AD 1) (numsA 1 [n6, n7, n5])).length cap11) && (vecCells (ArrD.vec (α := AD 1) (numsA 1 [n6, n7, n5])).kind wv11 nv11 sm11 il11 fl11 ch11 bx11).all Value.oneCell') = true := by rw [hoc11]; rfl
          have ha3 := ArrAt.mono 2 _ _ _ _ hle11 ha3
          refine RW.nil ?_
          refine heldQ_normal ⟨_, _, 1, 1, hs, rfl, rfl⟩ ?_
          refine HW.takeR (fuel := 4) 4 rfl (fun _ _ ka kb _ hs hka hkb => Y.move rfl) ⟨_, _, 1, 1, hs, rfl, rfl⟩ rfl (by kernel_rfl) (by kernel_rfl) (by kernel_rfl) ?_
          refine HW.takeR (fuel := 3) 5 rfl (fun _ _ ka kb _ hs hka hkb => Y.extract rfl rfl) ⟨_, _, 1, 1, hs, rfl, rfl⟩ rfl (by kernel_rfl) (by kernel_rfl) (by kernel_rfl) ?_
          refine HW.takeR (fuel := 2) 6 rfl (fun _ _ ka kb _ hs hka hkb => Y.extract rfl rfl) ⟨_, _, 1, 1, hs, rfl, rfl⟩ rfl (by kernel_rfl) (by kernel_rfl) (by kernel_rfl) ?_
          refine HW.one (fuel := 1) 8 rfl (by kernel_rfl) ?_
          refine RW.storeAll T hs 0 rfl rfl rfl rfl rfl rfl hall11 rfl ?_
          intro w908 hs
          refine RW.nil ?_
          refine heldQ_normal ⟨_, _, 1, 1, hs, rfl, rfl⟩ ?_
          refine HW.takeR (fuel := 0) 9 rfl (fun _ _ ka kb _ hs hka hkb => Y.assign rfl) ⟨_, _, 1, 1, hs, rfl, rfl⟩ rfl (by kernel_rfl) (by kernel_rfl) (by kernel_rfl) ?_
          refine HW.done (by kernel_rfl) ?_
          refine calmQ_normal ?_
          exact joinQ_meet (b2, _, h11) ⟨rfl, rfl, rfl, trivial⟩ ⟨ha3, ha11, hs⟩
      · (refine RW.allocN T hs rfl rfl rfl rfl ?_; intro b2 w2 hs)
        refine RW.nil ?_
        refine heldQ_normal ⟨_, _, 1, 1, hs, rfl, rfl⟩ ?_
        refine HW.one (fuel := 6) 1 rfl (by kernel_rfl) ?_
        (refine RW.call T hs rfl rfl rfl (of07_con 2 _ (numQ (0 + 1) (4607182418800017408)) _ _ hq8 (numQ_chk (0 + 1) _ (tidy1).2.1)) ?_; intro v h9 w9 hle9 hp9 hs)
        obtain ⟨cs9, rfl, _, _, hn9⟩ := hp9
        rw [numQ_arr, tidyW_of (tidy1)] at hn9
        rw [← fw1] at hn9
        have ha3 := ArrAt.mono 2 _ _ _ _ hle9 ha3
        refine RW.nil ?_
        refine heldQ_normal ⟨_, _, 1, 1, hs, rfl, rfl⟩ ?_
        refine HW.one (fuel := 5) 3 rfl (by kernel_rfl) ?_
        (refine RW.call T hs rfl rfl rfl (turnRotate_con (ArrAt.mono (0 + 1)) (ArrAt.one (0 + 1)) (ArrAt.siz (0 + 1)) (blankA 0) (fun w h => flatBlank_con (ArrAt.mono 0) (ArrAt.one 0) w h) _ _ _ (fwF (1)) (1) (numsA 1 [n5, n6, n7]) false _ _ hn9 rfl rfl (one_kind (1) (by omega)) (by rw [wholeF_fw _ (by omega)]) ha3 rfl (by decide) hk5) ?_; intro v h11 w11 hle11 hp11 hs)
        obtain ⟨cs11, rfl, hT11⟩ := hp11
        have ha11 := hT11.2 (by decide) (by decide) 1 3 1 hsp3
        rw [r_rot] at ha11
        have ha11 : ArrAt 2 h11 cs11 (numsA 1 [n6, n7, n5]) := ha11
        obtain ⟨s11, vc11, rfl, ⟨ad11, cap11, rfl, _⟩, hv11⟩ := id ha11
        obtain ⟨wv11, nv11, sm11, il11, fl11, ch11, bx11, ⟨rfl, hoc11⟩, _⟩ := hv11
        have hall11 : (Value.oneCell' (.slice ad11 (ArrD.shape (α := AD 1) (numsA 1 [n6, n7, n5])).length cap11) && (vecCells (ArrD.vec (α := AD 1) (numsA 1 [n6, n7, n5])).kind wv11 nv11 sm11 il11 fl11 ch11 bx11).all Value.oneCell') = true := by rw [hoc11]; rfl
        have ha3 := ArrAt.mono 2 _ _ _ _ hle11 ha3
        refine RW.nil ?_
        refine heldQ_normal ⟨_, _, 1, 1, hs, rfl, rfl⟩ ?_
        refine HW.takeR (fuel := 4) 4 rfl (fun _ _ ka kb _ hs hka hkb => Y.move rfl) ⟨_, _, 1, 1, hs, rfl, rfl⟩ rfl (by kernel_rfl) (by kernel_rfl) (by kernel_rfl) ?_
        refine HW.takeR (fuel := 3) 5 rfl (fun _ _ ka kb _ hs hka hkb => Y.extract rfl rfl) ⟨_, _, 1, 1, hs, rfl, rfl⟩ rfl (by kernel_rfl) (by kernel_rfl) (by kernel_rfl) ?_
        refine HW.takeR (fuel := 2) 6 rfl (fun _ _ ka kb _ hs hka hkb => Y.extract rfl rfl) ⟨_, _, 1, 1, hs, rfl, rfl⟩ rfl (by kernel_rfl) (by kernel_rfl) (by kernel_rfl) ?_
        refine HW.one (fuel := 1) 8 rfl (by kernel_rfl) ?_
        refine RW.storeAll T hs 0 rfl rfl rfl rfl rfl rfl hall11 rfl ?_
        intro w908 hs
        refine RW.nil ?_
        refine heldQ_normal ⟨_, _, 1, 1, hs, rfl, rfl⟩ ?_
        refine HW.takeR (fuel := 0) 9 rfl (fun _ _ ka kb _ hs hka hkb => Y.assign rfl) ⟨_, _, 1, 1, hs, rfl, rfl⟩ rfl (by kernel_rfl) (by kernel_rfl) (by kernel_rfl) ?_
        refine HW.done (by kernel_rfl) ?_
        refine calmQ_normal ?_
        exact joinQ_meet (b2, _, h11) ⟨rfl, rfl, rfl, trivial⟩ ⟨ha3, ha11, hs⟩
    · (refine RW.allocN T hs rfl rfl rfl rfl ?_; intro b2 w2 hs)
      refine RW.nil ?_
      refine heldQ_normal ⟨_, _, 1, 1, hs, rfl, rfl⟩ ?_
      refine HW.one (fuel := 7) 0 rfl (by kernel_rfl) ?_
      (refine RW.call T hs rfl rfl rfl (refOne_con (α := PD (0 + 1)) (R := PlainAt (0 + 1)) (4607182418800017408) _ _ (tidy1).1) ?_; intro v h8 w8 hle8 hp8 hs)
      obtain ⟨cs8, rfl, hq8⟩ := hp8
      have ha3 := ArrAt.mono 2 _ _ _ _ hle8 ha3
      refine RW.nil ?_
      refine heldQ_normal ⟨_, _, 1, 1, hs, rfl, rfl⟩ ?_
      refine HW.one (fuel := 6) 1 rfl (by kernel_rfl) ?_
      (refine RW.call T hs rfl rfl rfl (of07_con 2 _ (numQ (0 + 1) (4607182418800017408)) _ _ hq8 (numQ_chk (0 + 1) _ (tidy1).2.1)) ?_; intro v h9 w9 hle9 hp9 hs)
      obtain ⟨cs9, rfl, _, _, hn9⟩ := hp9
      rw [numQ_arr, tidyW_of (tidy1)] at hn9
      rw [← fw1] at hn9
      have ha3 := ArrAt.mono 2 _ _ _ _ hle9 ha3
      refine RW.nil ?_
      refine heldQ_normal ⟨_, _, 1, 1, hs, rfl, rfl⟩ ?_
      refine HW.one (fuel := 5) 3 rfl (by kernel_rfl) ?_
      (refine RW.call T hs rfl rfl rfl (turnRotate_con (ArrAt.mono (0 + 1)) (ArrAt.one (0 + 1)) (ArrAt.siz (0 + 1)) (blankA 0) (fun w h => flatBlank_con (ArrAt.mono 0) (ArrAt.one 0) w h) _ _ _ (fwF (1)) (1) (numsA 1 [n5, n6, n7]) false _ _ hn9 rfl rfl (one_kind (1) (by omega)) (by rw [wholeF_fw _ (by omega)]) ha3 rfl (by decide) hk5) ?_; intro v h11 w11 hle11 hp11 hs)
      obtain ⟨cs11, rfl, hT11⟩ := hp11
      have ha11 := hT11.2 (by decide) (by decide) 1 3 1 hsp3
      rw [r_rot] at ha11
      have ha11 : ArrAt 2 h11 cs11 (numsA 1 [n6, n7, n5]) := ha11
      obtain ⟨s11, vc11, rfl, ⟨ad11, cap11, rfl, _⟩, hv11⟩ := id ha11
      obtain ⟨wv11, nv11, sm11, il11, fl11, ch11, bx11, ⟨rfl, hoc11⟩, _⟩ := hv11
      have hall11 : (Value.oneCell' (.slice ad11 (ArrD.shape (α := AD 1) (numsA 1 [n6, n7, n5])).length cap11) && (vecCells (ArrD.vec (α := AD 1) (numsA 1 [n6, n7, n5])).kind wv11 nv11 sm11 il11 fl11 ch11 bx11).all Value.oneCell') = true := by rw [hoc11]; rfl
      have ha3 := ArrAt.mono 2 _ _ _ _ hle11 ha3
      refine RW.nil ?_
      refine heldQ_normal ⟨_, _, 1, 1, hs, rfl, rfl⟩ ?_
      refine HW.takeR (fuel := 4) 4 rfl (fun _ _ ka kb _ hs hka hkb => Y.move rfl) ⟨_, _, 1, 1, hs, rfl, rfl⟩ rfl (by kernel_rfl) (by kernel_rfl) (by kernel_rfl) ?_
      refine HW.takeR (fuel := 3) 5 rfl (fun _ _ ka kb _ hs hka hkb => Y.extract rfl rfl) ⟨_, _, 1, 1, hs, rfl, rfl⟩ rfl (by kernel_rfl) (by kernel_rfl) (by kernel_rfl) ?_
      refine HW.takeR (fuel := 2) 6 rfl (fun _ _ ka kb _ hs hka hkb => Y.extract rfl rfl) ⟨_, _, 1, 1, hs, rfl, rfl⟩ rfl (by kernel_rfl) (by kernel_rfl) (by kernel_rfl) ?_
      refine HW.one (fuel := 1) 8 rfl (by kernel_rfl) ?_
      refine RW.storeAll T hs 0 rfl rfl rfl rfl rfl rfl hall11 rfl ?_
      intro w908 hs
      refine RW.nil ?_
      refine heldQ_normal ⟨_, _, 1, 1, hs, rfl, rfl⟩ ?_
      refine HW.takeR (fuel := 0) 9 rfl (fun _ _ ka kb _ hs hka hkb => Y.assign rfl) ⟨_, _, 1, 1, hs, rfl, rfl⟩ rfl (by kernel_rfl) (by kernel_rfl) (by kernel_rfl) ?_
      refine HW.done (by kernel_rfl) ?_
      refine calmQ_normal ?_
      exact joinQ_meet (b2, _, h11) ⟨rfl, rfl, rfl, trivial⟩ ⟨ha3, ha11, hs⟩
  rintro ⟨b2, cs2, h7⟩ w7 ⟨ha3, ha11, hs⟩
  dsimp only at ha3 ha11 hs ⊢
  obtain ⟨s11, vc11, rfl, ⟨ad11, cap11, rfl, _⟩, hv11⟩ := id ha11
  obtain ⟨wv11, nv11, sm11, il11, fl11, ch11, bx11, ⟨rfl, hoc11⟩, _⟩ := hv11
  refine Zerun ?_
  refine CW.regionO T hs ?_
  intro w8 hs
  refine HW.takeS (fuel := 12) 0 rfl (fun _ _ hs => Y.loadRowN T hs 0 rfl rfl rfl rfl rfl rfl rfl) hs rfl (by kernel_rfl) (by kernel_rfl) (by kernel_rfl) ?_
  refine HW.takeS (fuel := 11) 1 rfl (fun _ _ hs => Y.move rfl) hs rfl (by kernel_rfl) (by kernel_rfl) (by kernel_rfl) ?_
  refine HW.one (fuel := 10) 2 rfl (by kernel_rfl) ?_
  (refine RW.lit T hs (vs := [.float .f64 4618441417868443648, .float .f64 4619567317775286272, .float .f64 4617315517961601024]) rfl rfl rfl rfl (by simp [Value.cells]) rfl rfl rfl rfl rfl ?_; intro b16 w16 hs)
  obtain ⟨h16, hle16, hs, hS16⟩ := hs.freeze
  have hF16 : FAt h16 (.slice (some ⟨b16, 0, none⟩) 3 3) [n6, n7, n5] := RowAt.of_sl hS16
  have ha3 := ArrAt.mono 2 _ _ _ _ hle16 ha3
  have ha11 := ArrAt.mono 2 _ _ _ _ hle16 ha11
  refine RW.nil ?_
  refine heldQ_normal ⟨_, hs⟩ ?_
  refine HW.one (fuel := 9) 3 rfl (by kernel_rfl) ?_
  (refine RW.call T hs rfl rfl rfl (refNums_con (R := PlainAt 1) (PlainAt.mono 1) _ _ _ _ hF16 (fun u hu => (t567 u (mem567 rfl u hu)).1) (by decide)) ?_; intro v h17 w17 hle17 hp17 hs)
  obtain ⟨cs17, rfl, hq17⟩ := hp17
  have ha3 := ArrAt.mono 2 _ _ _ _ hle17 ha3
  have ha11 := ArrAt.mono 2 _ _ _ _ hle17 ha11
  refine RW.nil ?_
  refine heldQ_normal ⟨_, hs⟩ ?_
  refine HW.one (fuel := 8) 4 rfl (by kernel_rfl) ?_
  (refine RW.call T hs rfl rfl rfl (shows21_con 1 _ _ (numsA 1 [n6, n7, n5]) (numsP [n6, n7, n5] : PlainD (PD 1)) _ _ ha11 hq17 (numsA_good 1 _ 40 (by omega) (by decide)) (numsA_plain 1 _) (numsP_tdy 1 _ (fun u hu => t567 u (mem567 rfl u hu)))) ?_; intro v h18 w18 hle18 hp18 hs)
  subst hp18
  have ha3 := ArrAt.mono 2 _ _ _ _ hle18 ha3
  refine RW.nil ?_
  refine heldQ_normal ⟨_, hs⟩ ?_
  refine HW.takeS (fuel := 7) 5 rfl (fun _ _ hs => Y.move rfl) hs rfl (by kernel_rfl) (by kernel_rfl) (by kernel_rfl) ?_
  refine HW.takeSY (fuel := 6) 6 rfl rfl rfl (fun _ _ hs => Y.loadRowN T hs 1 rfl rfl rfl rfl rfl rfl rfl) hs rfl (by kernel_rfl) (by kernel_rfl) (by kernel_rfl) ?_
  refine HW.two (fuel := 5) 7 8 rfl rfl (by kernel_rfl) ?_ ?_
  · refine RW.guardYes rfl rfl ?_
    (refine RW.call T hs rfl rfl rfl (turnReverse_con (ArrAt.mono (0 + 1)) (ArrAt.one (0 + 1)) (ArrAt.siz (0 + 1)) (blankA 0) (fun w h => flatBlank_con (ArrAt.mono 0) (ArrAt.one 0) w h) _ (numsA 1 [n5, n6, n7]) false _ _ ha3 rfl (by decide) hk5) ?_; intro v h21 w21 hle21 hp21 hs)
    obtain ⟨cs21, rfl, hT21⟩ := hp21
    have ha21 := hT21.2 (by decide) (by decide) 1 3 1 hsp3
    rw [r_rev] at ha21
    have ha21 : ArrAt 2 h21 cs21 (numsA 1 [n7, n6, n5]) := ha21
    refine RW.nil ?_
    refine heldQ_normal ⟨_, hs⟩ ?_
    refine HW.one (fuel := 4) 8 rfl (by kernel_rfl) ?_
    refine RW.guardYes rfl rfl ?_
    (refine RW.lit T hs (vs := [.float .f64 4619567317775286272, .float .f64 4618441417868443648, .float .f64 4617315517961601024]) rfl rfl rfl rfl (by simp [Value.cells]) rfl rfl rfl rfl rfl ?_; intro b22 w22 hs)
    obtain ⟨h22, hle22, hs, hS22⟩ := hs.freeze
    have hF22 : FAt h22 (.slice (some ⟨b22, 0, none⟩) 3 3) [n7, n6, n5] := RowAt.of_sl hS22
    have ha21 := ArrAt.mono 2 _ _ _ _ hle22 ha21
    refine RW.nil ?_
    refine heldQ_normal ⟨_, hs⟩ ?_
    refine HW.one (fuel := 3) 9 rfl (by kernel_rfl) ?_
    refine RW.guardYes rfl rfl ?_
    (refine RW.call T hs rfl rfl rfl (refNums_con (R := PlainAt 1) (PlainAt.mono 1) _ _ _ _ hF22 (fun u hu => (t567 u (mem567 rfl u hu)).1) (by decide)) ?_; intro v h23 w23 hle23 hp23 hs)
    obtain ⟨cs23, rfl, hq23⟩ := hp23
    have ha21 := ArrAt.mono 2 _ _ _ _ hle23 ha21
    refine RW.nil ?_
    refine heldQ_normal ⟨_, hs⟩ ?_
    refine HW.one (fuel := 2) 10 rfl (by kernel_rfl) ?_
    refine RW.guardYes rfl rfl ?_
    (refine RW.call T hs rfl rfl rfl (shows21_con 1 _ _ (numsA 1 [n7, n6, n5]) (numsP [n7, n6, n5] : PlainD (PD 1)) _ _ ha21 hq23 (numsA_good 1 _ 40 (by omega) (by decide)) (numsA_plain 1 _) (numsP_tdy 1 _ (fun u hu => t567 u (mem567 rfl u hu)))) ?_; intro v h24 w24 hle24 hp24 hs)
    subst hp24
    refine RW.nil ?_
    refine heldQ_normal ⟨_, hs⟩ ?_
    refine HW.takeS (fuel := 1) 11 rfl (fun _ _ hs => Y.pickT rfl rfl) hs rfl (by kernel_rfl) (by kernel_rfl) (by kernel_rfl) ?_
    refine HW.takeS (fuel := 0) 12 rfl (fun _ _ hs => Y.assign rfl) hs rfl (by kernel_rfl) (by kernel_rfl) (by kernel_rfl) ?_
    refine HW.done (by kernel_rfl) ?_
    refine calmQ_normal ?_
    refine Zerun ?_
    exact retQ_ret [_] h24 ⟨rfl, trivial⟩ hs.dropAll rfl
  · refine RW.guardYes rfl rfl ?_
    (refine RW.lit T hs (vs := [.float .f64 4619567317775286272, .float .f64 4618441417868443648, .float .f64 4617315517961601024]) rfl rfl rfl rfl (by simp [Value.cells]) rfl rfl rfl rfl rfl ?_; intro b22 w22 hs)
    obtain ⟨h22, hle22, hs, hS22⟩ := hs.freeze
    have hF22 : FAt h22 (.slice (some ⟨b22, 0, none⟩) 3 3) [n7, n6, n5] := RowAt.of_sl hS22
    have ha3 := ArrAt.mono 2 _ _ _ _ hle22 ha3
    refine RW.nil ?_
    refine heldQ_normal ⟨_, hs⟩ ?_
    refine HW.one (fuel := 4) 7 rfl (by kernel_rfl) ?_
    refine RW.guardYes rfl rfl ?_
    (refine RW.call T hs rfl rfl rfl (turnReverse_con (ArrAt.mono (0 + 1)) (ArrAt.one (0 + 1)) (ArrAt.siz (0 + 1)) (blankA 0) (fun w h => flatBlank_con (ArrAt.mono 0) (ArrAt.one 0) w h) _ (numsA 1 [n5, n6, n7]) false _ _ ha3 rfl (by decide) hk5) ?_; intro v h21 w21 hle21 hp21 hs)
    obtain ⟨cs21, rfl, hT21⟩ := hp21
    have ha21 := hT21.2 (by decide) (by decide) 1 3 1 hsp3
    rw [r_rev] at ha21
    have ha21 : ArrAt 2 h21 cs21 (numsA 1 [n7, n6, n5]) := ha21
    have hF22 := RowAt.mono hle21 hF22
    refine RW.nil ?_
    refine heldQ_normal ⟨_, hs⟩ ?_
    refine HW.one (fuel := 3) 9 rfl (by kernel_rfl) ?_
    refine RW.guardYes rfl rfl ?_
    (refine RW.call T hs rfl rfl rfl (refNums_con (R := PlainAt 1) (PlainAt.mono 1) _ _ _ _ hF22 (fun u hu => (t567 u (mem567 rfl u hu)).1) (by decide)) ?_; intro v h23 w23 hle23 hp23 hs)
    obtain ⟨cs23, rfl, hq23⟩ := hp23
    have ha21 := ArrAt.mono 2 _ _ _ _ hle23 ha21
    refine RW.nil ?_
    refine heldQ_normal ⟨_, hs⟩ ?_
    refine HW.one (fuel := 2) 10 rfl (by kernel_rfl) ?_
    refine RW.guardYes rfl rfl ?_
    (refine RW.call T hs rfl rfl rfl (shows21_con 1 _ _ (numsA 1 [n7, n6, n5]) (numsP [n7, n6, n5] : PlainD (PD 1)) _ _ ha21 hq23 (numsA_good 1 _ 40 (by omega) (by decide)) (numsA_plain 1 _) (numsP_tdy 1 _ (fun u hu => t567 u (mem567 rfl u hu)))) ?_; intro v h24 w24 hle24 hp24 hs)
    subst hp24
    refine RW.nil ?_
    refine heldQ_normal ⟨_, hs⟩ ?_
    refine HW.takeS (fuel := 1) 11 rfl (fun _ _ hs => Y.pickT rfl rfl) hs rfl (by kernel_rfl) (by kernel_rfl) (by kernel_rfl) ?_
    refine HW.takeS (fuel := 0) 12 rfl (fun _ _ hs => Y.assign rfl) hs rfl (by kernel_rfl) (by kernel_rfl) (by kernel_rfl) ?_
    refine HW.done (by kernel_rfl) ?_
    refine calmQ_normal ?_
    refine Zerun ?_
    exact retQ_ret [_] h24 ⟨rfl, trivial⟩ hs.dropAll rfl
end Go.Proofs.YtmfealaaacmohaaGreat

/-
  Contracts of package turn and of the law's own function of layer 21: an array with its axes in the other order, and again. No statement is proved here.
-/
namespace Go.Proofs.YtmfealaaacmohaaGreat
open Go Go.RowKit
set_option linter.unusedVariables false
set_option linter.unusedSimpArgs false
set_option maxHeartbeats 4000000
attribute [local irreducible] CW RW QW SW HW ConM retM heldQ calmQ elemP thenQ blockQ loopQ joinQ retQ Yields Con Sl zF magR unitF truncF fwF wholeF tidySpec elemQ rankF leastN tidyW
set_option maxHeartbeats 4000000

section
variable {α : Type} {R : GHeap → List Value → α → Prop}
theorem turnTranspose_con (hR : Mono R) (h1 : One R) (h9 : Siz 9 R) (nb : α) (hbl : ∀ w h, Con Tryz.prog 159 [] w h (fun h' u => ∃ cs', u = .agg cs'.toArray ∧ R h' cs' nb)) (cs : List Value) (a : ArrD α) (w : World) (h : GHeap) (ha : ArrR R h cs a) (hp : product a.shape 1048576 = ((a.vec.len : Int), 0)) (hvm : a.vec.len ≤ 1048576) (hk0 : a.vec.kind ≠ 0) :
    Con Tryz.prog 28 [.agg cs.toArray] w h (fun h' u => ∃ cs', u = .agg cs'.toArray ∧ ArrR R h' cs' (trV a nb)) := by
  have haR := ha
  obtain ⟨s, vc, rfl, hI, hv⟩ := ha
  obtain ⟨ad, cp, rfl, hS⟩ := hI
  obtain ⟨wv, nv, sm, il, fl, ch, bx, ⟨rfl, hoc⟩, _⟩ := hv
  have hcap := hS.caps
  obtain ⟨hl8, _⟩ := product_le hp
  refine Con.of_body Tryz.func28 rfl Tryz.ntmps28 rfl rfl ?_
  intro hs
  refine Zrun ?_
  (refine RW.boxN hs rfl rfl ?_; intro b1 w1 hs)
  (refine RW.allocN T hs rfl rfl rfl rfl ?_; intro b2 w2 hs)
  refine Zerun ?_
  (refine RW.make1 T hs rfl rfl rfl rfl rfl rfl rfl (by dsimp only; omega) (by omega) ?_; intro b3 w3 hs)
  refine Zerun ?_
  refine CW.loop (fun i : Nat => [(1, .pointer (some ⟨b1, 0, none⟩)), (2, .pointer (some ⟨b2, 0, none⟩)), (3, .slice (some ⟨b3, 0, none⟩) a.shape.length a.shape.length), (10, .int .i64 (a.shape.length : Int)), (11, .int .i64 i)]) (fun i w' => i ≤ a.shape.length ∧ Sees w h h [⟨some ⟨b3, 0, none⟩, a.shape.length, a.shape.length, 3, 1, ((turnL a.shape.length).take i ++ List.replicate (a.shape.length - i) 0).map (Value.int .i64)⟩, ⟨some ⟨b2, 0, none⟩, 1, 1, 39, 9, [.slice none 0 0, .int .i64 0, .slice none 0 0, .int .i64 0, .slice none 0 0, .slice none 0 0, .slice none 0 0, .slice none 0 0, .slice none 0 0]⟩, ⟨some ⟨b1, 0, none⟩, 1, 1, 39, 9, .slice ad a.shape.length cp :: vecCells a.vec.kind wv nv sm il fl ch bx⟩] w') (fun i => a.shape.length - i) 0 ⟨rfl, rfl, rfl, rfl, rfl, trivial⟩ ⟨by omega, hs.re (by simp)⟩ ?_
  rintro i w5 ⟨hi, hs⟩
  by_cases hlt : i < a.shape.length
  · have hnx : (((turnL a.shape.length).take i ++ List.replicate (a.shape.length - i) 0).map (Value.int .i64)).set i (.int .i64 ((a.shape.length : Int) - 1 - i)) = ((turnL a.shape.length).take (i + 1) ++ List.replicate (a.shape.length - (i + 1)) 0).map (Value.int .i64) := by
      have hl := turnL_length a.shape.length
      rw [map_set_int, take_succ_getD _ _ 0 (by omega), turn_at hlt, List.append_assoc, List.set_append_right _ _ (by simp; omega), List.length_take, show i - min i (turnL a.shape.length).length = 0 by omega, show a.shape.length - i = (a.shape.length - (i + 1)) + 1 by omega, List.replicate_succ, List.set_cons_zero, show ((a.shape.length - 1 - i : Nat) : Int) = (a.shape.length : Int) - 1 - i by omega]
      rfl
    refine Zerun ?_
    refine RW.val (Y.idxRN T hs 0 rfl rfl rfl rfl rfl rfl (by omega)) rfl ?_
    refine RW.st1 T hs 0 rfl rfl rfl rfl rfl rfl rfl (by omega) ?_
    intro w6 hs
    refine Zerun ?_
    exact loopQ_round (i + 1) ⟨rfl, rfl, rfl, rfl, rfl, trivial⟩ ⟨by omega, hs.re hnx⟩ (by omega)
  obtain rfl : i = a.shape.length := by omega
  have hs := hs.re (ys := (turnL a.shape.length).map (Value.int .i64)) (by rw [List.take_of_length_le (by rw [turnL_length]; exact Nat.le_refl _), Nat.sub_self, List.replicate_zero, List.append_nil])
  obtain ⟨h6, hle6, hs, hS6⟩ := hs.freeze
  have hI6 : IntsAt h6 (.slice (some ⟨b3, 0, none⟩) a.shape.length a.shape.length) (turnL a.shape.length) := by
    have := hS6
    dsimp only at this
    have e : (turnL a.shape.length).length = a.shape.length := turnL_length _
    generalize turnL a.shape.length = Z at *
    rw [← e] at this ⊢
    exact IntsAt.of_sl this
  have haR := ArrR.mono' hR hs.le haR
  refine Zerun ?_
  (refine RW.call T hs rfl rfl rfl (turnMove_con hR h1 h9 nb hbl _ a _ _ _ haR hI6 hp hvm hk0) ?_; intro v h27 w27 hle27 hp27 hs)
  obtain ⟨cs27, rfl, ha27⟩ := hp27
  obtain ⟨s27, vc27, rfl, ⟨ad27, cap27, rfl, _⟩, hv27⟩ := id ha27
  obtain ⟨wv27, nv27, sm27, il27, fl27, ch27, bx27, ⟨rfl, hoc27⟩, _⟩ := hv27
  have hall27 : (Value.oneCell' (.slice ad27 (ArrD.shape (trV a nb)).length cap27) && (vecCells (ArrD.vec (trV a nb)).kind wv27 nv27 sm27 il27 fl27 ch27 bx27).all Value.oneCell') = true := by rw [hoc27]; rfl
  refine Zerun ?_
  refine RW.storeAll T hs 0 rfl rfl rfl rfl rfl rfl hall27 rfl ?_
  intro w28 hs
  refine Zerun ?_
  exact retQ_ret [_] h27 ⟨resN T hs 0 rfl rfl rfl rfl rfl rfl, trivial⟩ hs.dropAll ⟨_, rfl, ha27⟩
end
theorem trP_tdy {γ : Type} (f : γ → Prop) (p : PlainD γ) (h : ∀ x ∈ p.items, tdyIt f x) : ∀ x ∈ (trP p).items, tdyIt f x := by
  intro x hx
  unfold trP at hx
  obtain ⟨j, _, rfl⟩ := List.mem_map.1 hx
  by_cases c : (trOff p.shape j).toNat < p.items.length
  · exact h _ (mem_getD _ _ _ c)
  · rw [List.getD_eq_getElem?_getD, List.getElem?_eq_none (by omega)]
    exact ⟨tidy0, fun b hb => nomatch hb⟩
theorem turnTransposesLaw_con (k : Nat) (cp0 : List Value) (p : PD (k + 2)) (w : World) (h : GHeap) (hp : PlainAt (k + 2) h cp0 p) : Con Tryz.prog 5 [.agg cp0.toArray] w h (fun _ u => u = .bool true) := by
  have hp' := hp
  have hp0 := hp
  obtain ⟨s, it, rfl, ⟨ad, cp, rfl, _⟩, ⟨ad2, cp2, xs, rfl, _, _⟩⟩ := hp
  refine Con.of_body Tryz.func5 rfl Tryz.ntmps5 rfl rfl ?_
  intro hs
  refine Zrun ?_
  (refine RW.boxN hs rfl rfl ?_; intro b1 w1 hs)
  refine Zerun ?_
  (refine RW.call T hs rfl rfl rfl (fine21_con (k + 1) _ p _ _ hp') ?_; intro v h3 w3 hle3 hp3 hs)
  obtain ⟨b, rfl, hbp⟩ := hp3
  have hp' := PlainAt.mono (k + 2) _ _ _ _ hle3 hp'
  cases b with
  | false =>
    refine Zerun ?_
    (refine RW.call T hs rfl rfl rfl (awake21_con _ _) ?_; intro v h4 w4 hle4 hp4 hs)
    subst hp4
    refine Zerun ?_
    exact retQ_ret [_] h4 ⟨rfl, trivial⟩ hs.dropAll rfl
  | true =>
  obtain ⟨hcp, _, hcn⟩ := hbp rfl
  have htp := tidy_tdy (k + 2) 40 p _ _ hp0 hcp
  have htd1 : tdy (k + 2) (trP (tidy (k + 2) p : PlainD (PD (k + 1))) : PlainD (PD (k + 1))) := trP_tdy (tdy (k + 1)) _ htp
  have hgd := good_arr (k + 2) 40 p hcp
  have hsm := (good_sml (k + 2) 40 _ hgd).2.1
  have lp : (PlainD.items (α := PD (k + 1)) (tidy (k + 2) p)).length = (PlainD.items (α := PD (k + 1)) p).length := List.length_map _
  have hprT : product (PlainD.shape (α := PD (k + 1)) (tidy (k + 2) p)) 1048576 = (((PlainD.items (α := PD (k + 1)) (tidy (k + 2) p)).length : Int), 0) := by
    rw [lp]
    exact ((chkP_ok (α := PD (k + 1)) _ _ _).1 hcp).2.2.2.1
  have hnT : (PlainD.items (α := PD (k + 1)) (tidy (k + 2) p)).length ≤ 100000 := by omega
  refine Zerun ?_
  (refine RW.call T hs rfl rfl rfl (refTidyP_con (k + 2) 40 _ p _ _ hp' hcp) ?_; intro v h10 w10 hle10 hp10 hs)
  obtain ⟨cs10, rfl, hq10⟩ := hp10
  have hp' := PlainAt.mono (k + 2) _ _ _ _ hle10 hp'
  obtain ⟨s10, it10, rfl, ⟨ads10, cps10, rfl, _⟩, ⟨adi10, cpi10, xsi10, rfl, _, _⟩⟩ := id hq10
  refine Zerun ?_
  (refine RW.allocN T hs rfl rfl rfl rfl ?_; intro b3 w3 hs)
  (refine RW.storeAll T hs 0 rfl rfl rfl rfl rfl rfl rfl rfl ?_; intro w11 hs)
  refine Zerun ?_
  (refine RW.call T hs rfl rfl rfl (of07_con (k + 2) _ p _ _ hp' hcp) ?_; intro v h12 w12 hle12 hp12 hs)
  obtain ⟨cs12, rfl, _, _, ha12⟩ := hp12
  have hIL : (itemsV (plain (k + 1)) (ArrD.vec (α := AD (k + 1)) (arr (k + 2) p))).length = (ArrD.vec (α := AD (k + 1)) (arr (k + 2) p)).len := by
    obtain ⟨_, _, _, _, hv⟩ := ha12
    exact itemsV_len (plain (k + 1)) hv
  refine Zerun ?_
  (refine RW.call T hs rfl rfl rfl (turnTranspose_con (ArrAt.mono ((k) + 1)) (ArrAt.one ((k) + 1)) (ArrAt.siz ((k) + 1)) (blankA (k)) (fun w h => flatBlank_con (ArrAt.mono (k)) (ArrAt.one (k)) w h) _ (arr (k + 2) p) _ _ ha12 hgd.1 hsm hgd.2.1) ?_; intro v h13 w13 hle13 hp13 hs)
  obtain ⟨cs13, rfl, ha13⟩ := hp13
  have hg1 := tr_good hgd
  have hpl1 := tr_plain hgd hIL
  rw [plain_arr (k + 2) 40 p hcp] at hpl1
  obtain ⟨a1, ha1e⟩ : ∃ a1 : ArrD (AD (k + 1)), trV (α := AD (k + 1)) (arr (k + 2) p) (blankA k) = a1 := ⟨_, rfl⟩
  rw [ha1e] at ha13 hg1 hpl1
  have ha1 : ArrAt (k + 2) h13 cs13 (a1 : AD (k + 2)) := ha13
  have hsm1 : a1.vec.len ≤ 1048576 := (good_sml (k + 2) 40 (a1 : AD (k + 2)) hg1).2.1
  have hIL1 : (itemsV (plain (k + 1)) a1.vec).length = a1.vec.len := by
    obtain ⟨_, _, _, _, hv⟩ := ha13
    exact itemsV_len (plain (k + 1)) hv
  have hg2 := tr_good hg1
  have hpl2 : plain (k + 2) (trV a1 (blankA k) : ArrD (AD (k + 1))) = tidy (k + 2) p := by
    rw [tr_plain hg1 hIL1, hpl1]
    exact trP_back hprT
  have hq10 := PlainAt.mono (k + 2) _ _ _ _ (hle12.trans hle13) hq10
  obtain ⟨s13, vc13, rfl, ⟨ad13, cap13, rfl, _⟩, hv13⟩ := id ha1
  obtain ⟨wv13, nv13, sm13, il13, fl13, ch13, bx13, ⟨rfl, hoc13⟩, _⟩ := hv13
  have hall13 : (Value.oneCell' (.slice ad13 (ArrD.shape a1).length cap13) && (vecCells (ArrD.vec a1).kind wv13 nv13 sm13 il13 fl13 ch13 bx13).all Value.oneCell') = true := by rw [hoc13]; rfl
  refine Zerun ?_
  (refine RW.allocN T hs rfl rfl rfl rfl ?_; intro b4 w4 hs)
  refine RW.storeAll T hs 0 rfl rfl rfl rfl rfl rfl hall13 rfl ?_
  intro w14 hs
  refine Zerun ?_
  refine CW.regionO T hs ?_
  intro w9 hs
  refine HW.takeS (fuel := 13) 0 rfl (fun _ _ hs => Y.loadRowN T hs 0 rfl rfl rfl rfl rfl rfl rfl) hs rfl (by kernel_rfl) (by kernel_rfl) (by kernel_rfl) ?_
  refine HW.takeS (fuel := 12) 1 rfl (fun _ _ hs => Y.loadRowN T hs 1 rfl rfl rfl rfl rfl rfl rfl) hs rfl (by kernel_rfl) (by kernel_rfl) (by kernel_rfl) ?_
  refine HW.one (fuel := 11) 2 rfl (by kernel_rfl) ?_
  (refine RW.call T hs rfl rfl rfl (refTranspose_con (PlainAt.mono (k + 1)) _ (tidy (k + 2) p : PlainD (PD (k + 1))) _ _ hq10 hprT hnT) ?_; intro v h16 w16 hle16 hp16 hs)
  obtain ⟨cs16, rfl, hq16⟩ := hp16
  have ha1 := ArrAt.mono (k + 2) _ _ _ _ hle16 ha1
  have hq10 := PlainAt.mono (k + 2) _ _ _ _ hle16 hq10
  refine RW.nil ?_
  refine heldQ_normal ⟨_, hs⟩ ?_
  refine HW.one (fuel := 10) 3 rfl (by kernel_rfl) ?_
  (refine RW.call T hs rfl rfl rfl (shows21_con (k + 1) _ _ (a1 : AD (k + 2)) (trP (tidy (k + 2) p : PlainD (PD (k + 1))) : PlainD (PD (k + 1))) _ _ ha1 hq16 hg1 hpl1 htd1) ?_; intro v h17 w17 hle17 hp17 hs)
  subst hp17
  have ha1 := ArrAt.mono (k + 2) _ _ _ _ hle17 ha1
  have hq10 := PlainAt.mono (k + 2) _ _ _ _ hle17 hq10
  refine RW.nil ?_
  refine heldQ_normal ⟨_, hs⟩ ?_
  refine HW.takeS (fuel := 9) 4 rfl (fun _ _ hs => Y.move rfl) hs rfl (by kernel_rfl) (by kernel_rfl) (by kernel_rfl) ?_
  refine HW.takeSY (fuel := 8) 5 rfl rfl rfl (fun _ _ hs => Y.loadRowN T hs 0 rfl rfl rfl rfl rfl rfl rfl) hs rfl (by kernel_rfl) (by kernel_rfl) (by kernel_rfl) ?_
  refine HW.takeSY (fuel := 7) 7 rfl rfl rfl (fun _ _ hs => Y.loadRowN T hs 1 rfl rfl rfl rfl rfl rfl rfl) hs rfl (by kernel_rfl) (by kernel_rfl) (by kernel_rfl) ?_
  refine HW.one (fuel := 6) 6 rfl (by kernel_rfl) ?_
  refine RW.guardYes rfl rfl ?_
  (refine RW.call T hs rfl rfl rfl (turnTranspose_con (ArrAt.mono ((k) + 1)) (ArrAt.one ((k) + 1)) (ArrAt.siz ((k) + 1)) (blankA (k)) (fun w h => flatBlank_con (ArrAt.mono (k)) (ArrAt.one (k)) w h) _ a1 _ _ ha1 hg1.1 hsm1 hg1.2.1) ?_; intro v h20 w20 hle20 hp20 hs)
  obtain ⟨cs20, rfl, ha20⟩ := hp20
  have ha20 : ArrAt (k + 2) h20 cs20 (trV a1 (blankA k) : ArrD (AD (k + 1))) := ha20
  have hq10 := PlainAt.mono (k + 2) _ _ _ _ hle20 hq10
  refine RW.nil ?_
  refine heldQ_normal ⟨_, hs⟩ ?_
  refine HW.one (fuel := 5) 8 rfl (by kernel_rfl) ?_
  refine RW.guardYes rfl rfl ?_
  (refine RW.call T hs rfl rfl rfl (shows21_con (k + 1) _ _ (trV a1 (blankA k) : ArrD (AD (k + 1))) (tidy (k + 2) p) _ _ ha20 hq10 hg2 hpl2 htp) ?_; intro v h22 w22 hle22 hp22 hs)
  subst hp22
  refine RW.nil ?_
  refine heldQ_normal ⟨_, hs⟩ ?_
  refine HW.takeS (fuel := 4) 9 rfl (fun _ _ hs => Y.pickT rfl rfl) hs rfl (by kernel_rfl) (by kernel_rfl) (by kernel_rfl) ?_
  refine HW.takeS (fuel := 3) 10 rfl (fun _ _ hs => Y.move rfl) hs rfl (by kernel_rfl) (by kernel_rfl) (by kernel_rfl) ?_
  refine HW.one (fuel := 2) 11 rfl (by kernel_rfl) ?_
  refine RW.guardYes rfl rfl ?_
  (refine RW.call T hs rfl rfl rfl (awake21_con _ _) ?_; intro v h25 w25 hle25 hp25 hs)
  subst hp25
  refine RW.nil ?_
  refine heldQ_normal ⟨_, hs⟩ ?_
  refine HW.takeS (fuel := 1) 12 rfl (fun _ _ hs => Y.pickT rfl rfl) hs rfl (by kernel_rfl) (by kernel_rfl) (by kernel_rfl) ?_
  refine HW.takeS (fuel := 0) 13 rfl (fun _ _ hs => Y.assign rfl) hs rfl (by kernel_rfl) (by kernel_rfl) (by kernel_rfl) ?_
  refine HW.done (by kernel_rfl) ?_
  refine calmQ_normal ?_
  refine Zerun ?_
  exact retQ_ret [_] h25 ⟨rfl, trivial⟩ hs.dropAll rfl
end Go.Proofs.YtmfealaaacmohaaGreat
