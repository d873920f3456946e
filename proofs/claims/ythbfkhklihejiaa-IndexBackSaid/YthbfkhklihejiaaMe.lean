/-
  Own texts of the claim, merged: Qj, Qk. Lemmas of the proof; no statement is proved here.
-/
import Derived.Test.YthbfkhklihejiaaMd
/-
  Contract of the example of layer 23. No statement is proved here.
-/
namespace Go.Proofs.Ythbfkhklihejiaa
open Go Go.RowKit
set_option linter.unusedVariables false
set_option linter.unusedSimpArgs false
set_option maxHeartbeats 4000000
attribute [local irreducible] CW RW QW SW HW ConM retM heldQ calmQ elemP thenQ blockQ loopQ joinQ retQ Yields Con Sl zF magR unitF truncF fwF wholeF tidySpec elemQ rankF leastN tidyW
set_option maxHeartbeats 4000000

theorem w567 : [5, 6, 7].map fwF = [4617315517961601024, 4618441417868443648, 4619567317775286272] := by show [fwF 5, fwF 6, fwF 7] = _; unfold fwF; decide
theorem w31 : [3, 1].map fwF = [4613937818241073152, 4607182418800017408] := by show [fwF 3, fwF 1] = _; unfold fwF; decide
theorem w75 : [7, 5].map fwF = [4619567317775286272, 4617315517961601024] := by show [fwF 7, fwF 5] = _; unfold fwF; decide
theorem w507 : [5, 0, 7].map fwF = [4617315517961601024, 0, 4619567317775286272] := by show [fwF 5, fwF 0, fwF 7] = _; unfold fwF; decide
theorem e_tidy {l : List Int} (h : l.all (fun n => decide (0 ≤ n ∧ n ≤ 7)) = true) : ∀ x ∈ l.map fwF, tidyF x := fun x hx => by
  obtain ⟨n, hn, rfl⟩ := List.mem_map.1 hx
  exact (fwF_spec n (e_in h n hn)).1
theorem e_lt {l : List Int} (h : l.all (fun n => decide (0 ≤ n ∧ n ≤ 7)) = true) : ∀ x ∈ l.map fwF, x < 18446744073709551616 := fun x hx => (e_tidy h x hx).1
theorem e_fin {l : List Int} (h : l.all (fun n => decide (0 ≤ n ∧ n ≤ 7)) = true) : ∀ x ∈ l.map fwF, finF x := fun x hx => (e_tidy h x hx).2.1
theorem e_kind {l : List Int} (h : l.all (fun n => decide (0 ≤ n ∧ n ≤ 7)) = true) : (ArrD.vec (α := AD 1) (numsA 1 (l.map fwF))).kind = 1 ∨ (ArrD.vec (α := AD 1) (numsA 1 (l.map fwF))).kind = 2 ∨ (ArrD.vec (α := AD 1) (numsA 1 (l.map fwF))).kind = 3 := by
  have h1 := leastN_bounds (l.map fwF)
  have h2 := fw_rank l (e_in h)
  show leastN (l.map fwF) = 1 ∨ leastN (l.map fwF) = 2 ∨ leastN (l.map fwF) = 3
  omega
theorem k567 : (ArrD.vec (α := AD 1) (numsA 1 ([5, 6, 7].map fwF))).kind ≠ 0 := by
  have := e_kind (l := [5, 6, 7]) (by decide)
  omega
theorem k31 : (ArrD.vec (α := AD 1) (numsA 1 ([3, 1].map fwF))).kind = 1 ∨ (ArrD.vec (α := AD 1) (numsA 1 ([3, 1].map fwF))).kind = 2 ∨ (ArrD.vec (α := AD 1) (numsA 1 ([3, 1].map fwF))).kind = 3 := e_kind (by decide)
theorem e_minus (l : List Int) (o : Int) (h : l.all (fun n => decide (0 ≤ n ∧ n ≤ 7)) = true) : ((l.map fwF).map fun y => (wholeF y).1 - o) = l.map (· - o) := by
  rw [List.map_map]
  apply List.map_congr_left
  intro n hn
  show (wholeF (fwF n)).1 - o = n - o
  rw [wholeF_fw n (e_in h n hn)]
theorem r31 : ∀ y ∈ (ArrD.vec (α := AD 1) (numsA 1 ([3, 1].map fwF))).nums, (1 : Int) ≤ (wholeF y).1 ∧ (wholeF y).1 < 1 + 3 := by
  intro y hy
  obtain ⟨n, hn, rfl⟩ := List.mem_map.1 (show y ∈ [3, 1].map fwF from hy)
  rw [wholeF_fw n (e_in (l := [3, 1]) (by decide) n hn)]
  simp only [List.mem_cons, List.not_mem_nil, or_false] at hn
  rcases hn with rfl | rfl <;> decide
theorem p31 : (ArrD.vec (α := AD 1) (numsA 1 ([5, 6, 7].map fwF))).pick ((ArrD.vec (α := AD 1) (numsA 1 ([3, 1].map fwF))).nums.map fun y => (wholeF y).1 - 1) (blankA 0) = ⟨leastN ([7, 5].map fwF), [7, 5].map fwF, [], []⟩ := by
  have e : ((ArrD.vec (α := AD 1) (numsA 1 ([3, 1].map fwF))).nums.map fun y => (wholeF y).1 - 1) = [2, 0] := e_minus [3, 1] 1 (by decide)
  rw [e]
  exact nums_pick ([5, 6, 7].map fwF) [2, 0] (blankA 0)
theorem n31 : newE (ArrD.shape (α := AD 1) (numsA 1 ([3, 1].map fwF))) ((ArrD.vec (α := AD 1) (numsA 1 ([5, 6, 7].map fwF))).pick ((ArrD.vec (α := AD 1) (numsA 1 ([3, 1].map fwF))).nums.map fun y => (wholeF y).1 - 1) (blankA 0)) = 0 := by
  rw [p31]
  exact nums_newE [2] ([7, 5].map fwF) (product_len1 2 (by decide))
theorem a31 : (⟨ArrD.shape (α := AD 1) (numsA 1 ([3, 1].map fwF)), ((ArrD.vec (α := AD 1) (numsA 1 ([5, 6, 7].map fwF))).pick ((ArrD.vec (α := AD 1) (numsA 1 ([3, 1].map fwF))).nums.map fun y => (wholeF y).1 - 1) (blankA 0)).sq⟩ : ArrD (AD 1)) = numsA 1 ([7, 5].map fwF) := by
  rw [pick_sq, p31]
  rfl
theorem one_vec (x : Nat) : ArrD.vec (α := AD 1) (numA 1 x) = ⟨leastN [x], [x], [], []⟩ := rfl
theorem e_one (n : Int) (h : 0 ≤ n ∧ n ≤ 7) : (ArrD.vec (α := AD 1) (numA 1 (fwF n))).kind = 1 ∨ (ArrD.vec (α := AD 1) (numA 1 (fwF n))).kind = 2 ∨ (ArrD.vec (α := AD 1) (numA 1 (fwF n))).kind = 3 := one_kind n (by omega)
theorem r2 : ∀ y ∈ (ArrD.vec (α := AD 1) (numA 1 (fwF 2))).nums, (1 : Int) ≤ (wholeF y).1 ∧ (wholeF y).1 < 1 + ((3 : Nat) : Int) := by
  intro y hy
  rw [List.mem_singleton.1 (show y ∈ [fwF 2] from hy), wholeF_fw 2 (by omega)]
  decide
theorem j507 : joinC (-1) [ArrD.vec (α := AD 1) (numsA 1 ([5, 6, 7].map fwF)), ArrD.vec (α := AD 1) (numA 1 (fwF 0))] = some 0 ∧ joinedW 0 [ArrD.vec (α := AD 1) (numsA 1 ([5, 6, 7].map fwF)), ArrD.vec (α := AD 1) (numA 1 (fwF 0))] = ⟨leastN ([5, 6, 7, 0].map fwF), [5, 6, 7, 0].map fwF, [], []⟩ := nums_joined ([5, 6, 7].map fwF) [fwF 0] (by decide) (by decide)
theorem q507 : (joinedW 0 [ArrD.vec (α := AD 1) (numsA 1 ([5, 6, 7].map fwF)), ArrD.vec (α := AD 1) (numA 1 (fwF 0))]).pick (atL 3 ((ArrD.vec (α := AD 1) (numA 1 (fwF 2))).nums.map fun y => (wholeF y).1 - 1)) (blankA 0) = ⟨leastN ([5, 0, 7].map fwF), [5, 0, 7].map fwF, [], []⟩ := by
  have e : ((ArrD.vec (α := AD 1) (numA 1 (fwF 2))).nums.map fun y => (wholeF y).1 - 1) = [1] := e_minus [2] 1 (by decide)
  have e2 : atL 3 [1] = [0, 3, 2] := by decide
  rw [e, e2, j507.2]
  exact nums_pick ([5, 6, 7, 0].map fwF) [0, 3, 2] (blankA 0)
theorem n507 : newE (ArrD.shape (α := AD 1) (numsA 1 ([5, 6, 7].map fwF))) ((joinedW 0 [ArrD.vec (α := AD 1) (numsA 1 ([5, 6, 7].map fwF)), ArrD.vec (α := AD 1) (numA 1 (fwF 0))]).pick (atL 3 ((ArrD.vec (α := AD 1) (numA 1 (fwF 2))).nums.map fun y => (wholeF y).1 - 1)) (blankA 0)) = 0 := by
  rw [q507]
  exact nums_newE [3] ([5, 0, 7].map fwF) (product_len1 3 (by decide))
theorem a507 : (⟨ArrD.shape (α := AD 1) (numsA 1 ([5, 6, 7].map fwF)), ((joinedW 0 [ArrD.vec (α := AD 1) (numsA 1 ([5, 6, 7].map fwF)), ArrD.vec (α := AD 1) (numA 1 (fwF 0))]).pick (atL 3 ((ArrD.vec (α := AD 1) (numA 1 (fwF 2))).nums.map fun y => (wholeF y).1 - 1)) (blankA 0)).sq⟩ : ArrD (AD 1)) = numsA 1 ([5, 0, 7].map fwF) := by
  rw [pick_sq, q507]
  rfl
theorem arr2 : arr 2 (numQ 1 4611686018427387904) = numA 1 (fwF 2) := by rw [numQ_arr, ← fw2, tidyW_of (fwF_spec 2 (by omega)).1]
theorem arr0 : arr 2 (numQ 1 0) = numA 1 (fwF 0) := by rw [numQ_arr, tidyW_of tidy0, fw0]
theorem fin2 : finF 4611686018427387904 := by rw [← fw2]; exact (fwF_spec 2 (by omega)).1.2.1
theorem vk507 : (joinedW 0 [ArrD.vec (α := AD 1) (numsA 1 ([5, 6, 7].map fwF)), ArrD.vec (α := AD 1) (numA 1 (fwF 0))]).kind ≠ 0 := by
  rw [j507.2]
  have := leastN_bounds ([5, 6, 7, 0].map fwF)
  show leastN _ ≠ 0
  omega
theorem vl507 : (joinedW 0 [ArrD.vec (α := AD 1) (numsA 1 ([5, 6, 7].map fwF)), ArrD.vec (α := AD 1) (numA 1 (fwF 0))]).len ≤ 1048576 := by
  rw [j507.2]
  show 4 ≤ 1048576
  decide
theorem awake23_con (w : World) (h : GHeap) : Con Try.prog 106 [] w h (fun _ u => u = .bool true) := by
  refine Con.of_body Try.func106 rfl Try.ntmps106 rfl rfl ?_
  intro hs
  refine Zrun ?_
  (refine RW.lit T hs (vs := [.float .f64 4617315517961601024, .float .f64 4618441417868443648, .float .f64 4619567317775286272]) rfl rfl rfl rfl (by simp [Value.cells]) rfl rfl rfl rfl rfl ?_; intro b1 w1 hs)
  obtain ⟨h1, hle1, hs, hS1⟩ := hs.freeze
  have hF1 : FAt h1 (.slice (some ⟨b1, 0, none⟩) 3 3) ([5, 6, 7].map fwF) := by rw [w567]; exact RowAt.of_sl hS1
  (refine RW.call T hs rfl rfl rfl (refNums_con (R := PlainAt 1) (PlainAt.mono 1) _ _ _ _ hF1 (e_lt (l := [5, 6, 7]) (by decide)) (by decide)) ?_; intro v h2 w2 hle2 hp2 hs)
  obtain ⟨cs2, rfl, hq2⟩ := hp2
  (refine RW.call T hs rfl rfl rfl (of07_con 2 _ (numsP ([5, 6, 7].map fwF) : PlainD (PD 1)) _ _ hq2 (numsP_chk 1 _ (e_fin (l := [5, 6, 7]) (by decide)) (by decide))) ?_; intro v h3 w3 hle3 hp3 hs)
  obtain ⟨cs3, rfl, _, _, ha3⟩ := hp3
  rw [numsP_arr, fw_tidyW _ (e_in (l := [5, 6, 7]) (by decide))] at ha3
  obtain ⟨s3, vc3, rfl, ⟨ad3, cap3, rfl, _⟩, hv3⟩ := id ha3
  obtain ⟨wv3, nv3, sm3, il3, fl3, ch3, bx3, ⟨rfl, hoc3⟩, _⟩ := hv3
  have hall3 : (Value.oneCell' (.slice ad3 (ArrD.shape (α := AD 1) (numsA 1 ([5, 6, 7].map fwF))).length cap3) && (vecCells (ArrD.vec (α := AD 1) (numsA 1 ([5, 6, 7].map fwF))).kind wv3 nv3 sm3 il3 fl3 ch3 bx3).all Value.oneCell') = true := by rw [hoc3]; rfl
  refine Zerun ?_
  (refine RW.allocN T hs rfl rfl rfl rfl ?_; intro b4 w4 hs)
  refine RW.storeAll T hs 0 rfl rfl rfl rfl rfl rfl hall3 rfl ?_
  intro w5 hs
  refine Zerun ?_
  refine CW.meet (fun r : Nat × List Value × GHeap => [(1, .pointer (some ⟨b4, 0, none⟩)), (2, .pointer (some ⟨r.1, 0, none⟩)), (3, .int .i64 0)]) (fun r w' => ArrAt 2 r.2.2 (.slice ad3 (ArrD.shape (α := AD 1) (numsA 1 ([5, 6, 7].map fwF))).length cap3 :: vecCells (ArrD.vec (α := AD 1) (numsA 1 ([5, 6, 7].map fwF))).kind wv3 nv3 sm3 il3 fl3 ch3 bx3) (numsA 1 ([5, 6, 7].map fwF)) ∧ ArrAt 2 r.2.2 r.2.1 (numsA 1 ([7, 5].map fwF)) ∧ Sees w h r.2.2 [⟨some ⟨r.1, 0, none⟩, 1, 1, 63, 9, r.2.1⟩, ⟨some ⟨b4, 0, none⟩, 1, 1, 63, 9, .slice ad3 (ArrD.shape (α := AD 1) (numsA 1 ([5, 6, 7].map fwF))).length cap3 :: vecCells (ArrD.vec (α := AD 1) (numsA 1 ([5, 6, 7].map fwF))).kind wv3 nv3 sm3 il3 fl3 ch3 bx3⟩] w') ?_ ?_
  · refine CW.regionR T 0 0 hs rfl rfl ?_
    intro w6 hs
    refine HW.takeR (fuel := 12) 0 rfl (fun _ _ ka kb _ hs hka hkb => Y.loadRowN T hs ka hka rfl rfl rfl rfl rfl rfl) ⟨_, _, 0, 0, hs, rfl, rfl⟩ rfl (by kernel_rfl) (by kernel_rfl) (by kernel_rfl) ?_
    refine HW.two (fuel := 11) 1 10 rfl rfl (by kernel_rfl) ?_ ?_
    · (refine RW.lit T hs (vs := [.float .f64 4613937818241073152, .float .f64 4607182418800017408]) rfl rfl rfl rfl (by simp [Value.cells]) rfl rfl rfl rfl rfl ?_; intro b11 w11 hs)
      obtain ⟨h11, hle11, hs, hS11⟩ := hs.freeze
      have hF11 : FAt h11 (.slice (some ⟨b11, 0, none⟩) 2 2) ([3, 1].map fwF) := by rw [w31]; exact RowAt.of_sl hS11
      have ha3 := ArrAt.mono 2 _ _ _ _ hle11 ha3
      refine RW.nil ?_
      refine heldQ_normal ⟨_, _, 0, 0, hs, rfl, rfl⟩ ?_
      refine HW.two (fuel := 10) 2 10 rfl rfl (by kernel_rfl) ?_ ?_
      · (refine RW.call T hs rfl rfl rfl (refNums_con (R := PlainAt 1) (PlainAt.mono 1) _ _ _ _ hF11 (e_lt (l := [3, 1]) (by decide)) (by decide)) ?_; intro v h12 w12 hle12 hp12 hs)
        obtain ⟨cs12, rfl, hq12⟩ := hp12
        have ha3 := ArrAt.mono 2 _ _ _ _ hle12 ha3
        refine RW.nil ?_
        refine heldQ_normal ⟨_, _, 0, 0, hs, rfl, rfl⟩ ?_
        refine HW.two (fuel := 9) 3 10 rfl rfl (by kernel_rfl) ?_ ?_
        · (refine RW.call T hs rfl rfl rfl (of07_con 2 _ (numsP ([3, 1].map fwF) : PlainD (PD 1)) _ _ hq12 (numsP_chk 1 _ (e_fin (l := [3, 1]) (by decide)) (by decide))) ?_; intro v h13 w13 hle13 hp13 hs)
          obtain ⟨cs13, rfl, _, _, ha13⟩ := hp13
          rw [numsP_arr, fw_tidyW _ (e_in (l := [3, 1]) (by decide))] at ha13
          obtain ⟨s13, vc13, rfl, ⟨ad13, cap13, rfl, _⟩, hv13⟩ := id ha13
          obtain ⟨wv13, nv13, sm13, il13, fl13, ch13, bx13, ⟨rfl, hoc13⟩, _⟩ := hv13
          have hall13 : (Value.oneCell' (.slice ad13 (ArrD.shape (α := AD 1) (numsA 1 ([3, 1].map fwF))).length cap13) && (vecCells (ArrD.vec (α := AD 1) (numsA 1 ([3, 1].map fwF))).kind wv13 nv13 sm13 il13 fl13 ch13 bx13).all Value.oneCell') = true := by rw [hoc13]; rfl
          have ha3 := ArrAt.mono 2 _ _ _ _ hle13 ha3
          refine RW.nil ?_
          refine heldQ_normal ⟨_, _, 0, 0, hs, rfl, rfl⟩ ?_
          refine HW.takeR (fuel := 8) 4 rfl (fun _ _ ka kb _ hs hka hkb => Y.build T rfl rfl rfl rfl rfl rfl rfl) ⟨_, _, 0, 0, hs, rfl, rfl⟩ rfl (by kernel_rfl) (by kernel_rfl) (by kernel_rfl) ?_
          refine HW.two (fuel := 7) 5 10 rfl rfl (by kernel_rfl) ?_ ?_
          · (refine RW.lit T hs (vs := [.agg (.bool false :: .slice ad13 (ArrD.shape (α := AD 1) (numsA 1 ([3, 1].map fwF))).length cap13 :: vecCells (ArrD.vec (α := AD 1) (numsA 1 ([3, 1].map fwF))).kind wv13 nv13 sm13 il13 fl13 ch13 bx13).toArray]) (cs := (.bool false :: .slice ad13 (ArrD.shape (α := AD 1) (numsA 1 ([3, 1].map fwF))).length cap13 :: vecCells (ArrD.vec (α := AD 1) (numsA 1 ([3, 1].map fwF))).kind wv13 nv13 sm13 il13 fl13 ch13 bx13)) rfl rfl rfl rfl (by simp [Value.cells, vecCells]) rfl rfl rfl rfl rfl ?_; intro b15 w15 hs)
            obtain ⟨h15, hle15, hs, hS15⟩ := hs.freeze
            have ha3 := ArrAt.mono 2 _ _ _ _ hle15 ha3
            have ha13 := ArrAt.mono 2 _ _ _ _ hle15 ha13
            refine RW.nil ?_
            refine heldQ_normal ⟨_, _, 0, 0, hs, rfl, rfl⟩ ?_
            refine HW.two (fuel := 6) 6 10 rfl rfl (by kernel_rfl) ?_ ?_
            · (refine RW.call T hs rfl rfl rfl (indexBracket_con (ArrAt.mono 1) (ArrAt.one 1) (ArrAt.siz 1) (blankA 0) (fun w h => flatBlank_con (ArrAt.mono 0) (ArrAt.one 0) w h) _ (numsA 1 ([5, 6, 7].map fwF)) (numsA 1 ([3, 1].map fwF)) b15 1 _ 3 1 99 2 _ _ ha3 rfl k567 (by decide) hS15 ha13 k31 (by decide) (by decide) (by decide) ⟨by decide, by decide⟩ ⟨by decide, by decide⟩ r31 (by decide) n31) ?_; intro v h16 w16 hle16 hp16 hs)
              obtain ⟨cs16, rfl, ha16⟩ := hp16
              rw [a31] at ha16
              have ha16 : ArrAt 2 h16 cs16 (numsA 1 ([7, 5].map fwF)) := ha16
              obtain ⟨s16, vc16, rfl, ⟨ad16, cap16, rfl, _⟩, hv16⟩ := id ha16
              obtain ⟨wv16, nv16, sm16, il16, fl16, ch16, bx16, ⟨rfl, hoc16⟩, _⟩ := hv16
              have hall16 : (Value.oneCell' (.slice ad16 (ArrD.shape (α := AD 1) (numsA 1 ([7, 5].map fwF))).length cap16) && (vecCells (ArrD.vec (α := AD 1) (numsA 1 ([7, 5].map fwF))).kind wv16 nv16 sm16 il16 fl16 ch16 bx16).all Value.oneCell') = true := by rw [hoc16]; rfl
              have ha3 := ArrAt.mono 2 _ _ _ _ hle16 ha3
              refine RW.nil ?_
              refine heldQ_normal ⟨_, _, 0, 0, hs, rfl, rfl⟩ ?_
              refine HW.takeR (fuel := 5) 7 rfl (fun _ _ ka kb _ hs hka hkb => Y.move rfl) ⟨_, _, 0, 0, hs, rfl, rfl⟩ rfl (by kernel_rfl) (by kernel_rfl) (by kernel_rfl) ?_
              refine HW.takeR (fuel := 4) 8 rfl (fun _ _ ka kb _ hs hka hkb => Y.extract rfl rfl) ⟨_, _, 0, 0, hs, rfl, rfl⟩ rfl (by kernel_rfl) (by kernel_rfl) (by kernel_rfl) ?_
              refine HW.takeR (fuel := 3) 9 rfl (fun _ _ ka kb _ hs hka hkb => Y.extract rfl rfl) ⟨_, _, 0, 0, hs, rfl, rfl⟩ rfl (by kernel_rfl) (by kernel_rfl) (by kernel_rfl) ?_
              refine HW.one (fuel := 2) 10 rfl (by kernel_rfl) ?_
              (refine RW.allocN T hs rfl rfl rfl rfl ?_; intro b20 w20 hs)
              refine RW.nil ?_
              refine heldQ_normal ⟨_, _, 1, 1, hs, rfl, rfl⟩ ?_
              refine HW.one (fuel := 1) 11 rfl (by kernel_rfl) ?_
              refine RW.storeAll T hs 0 rfl rfl rfl rfl rfl rfl hall16 rfl ?_
              intro w21 hs
              refine RW.nil ?_
              refine heldQ_normal ⟨_, _, 1, 1, hs, rfl, rfl⟩ ?_
              refine HW.takeR (fuel := 0) 12 rfl (fun _ _ ka kb _ hs hka hkb => Y.assign rfl) ⟨_, _, 1, 1, hs, rfl, rfl⟩ rfl (by kernel_rfl) (by kernel_rfl) (by kernel_rfl) ?_
              refine HW.done (by kernel_rfl) ?_
              refine calmQ_normal ?_
              exact joinQ_meet (b20, _, h16) ⟨rfl, rfl, rfl, trivial⟩ ⟨ha3, ha16, hs⟩
            · (refine RW.allocN T hs rfl rfl rfl rfl ?_; intro b20 w20 hs)
              refine RW.nil ?_
              refine heldQ_normal ⟨_, _, 1, 1, hs, rfl, rfl⟩ ?_
              refine HW.one (fuel := 5) 6 rfl (by kernel_rfl) ?_
              (refine RW.call T hs rfl rfl rfl (indexBracket_con (ArrAt.mono 1) (ArrAt.one 1) (ArrAt.siz 1) (blankA 0) (fun w h => flatBlank_con (ArrAt.mono 0) (ArrAt.one 0) w h) _ (numsA 1 ([5, 6, 7].map fwF)) (numsA 1 ([3, 1].map fwF)) b15 1 _ 3 1 99 2 _ _ ha3 rfl k567 (by decide) hS15 ha13 k31 (by decide) (by decide) (by decide) ⟨by decide, by decide⟩ ⟨by decide, by decide⟩ r31 (by decide) n31) ?_; intro v h16 w16 hle16 hp16 hs)
              obtain ⟨cs16, rfl, ha16⟩ := hp16
              rw [a31] at ha16
              have ha16 : ArrAt 2 h16 cs16 (numsA 1 ([7, 5].map fwF)) := ha16
              obtain ⟨s16, vc16, rfl, ⟨ad16, cap16, rfl, _⟩, hv16⟩ := id ha16
              obtain ⟨wv16, nv16, sm16, il16, fl16, ch16, bx16, ⟨rfl, hoc16⟩, _⟩ := hv16
              have hall16 : (Value.oneCell' (.slice ad16 (ArrD.shape (α := AD 1) (numsA 1 ([7, 5].map fwF))).length cap16) && (vecCells (ArrD.vec (α := AD 1) (numsA 1 ([7, 5].map fwF))).kind wv16 nv16 sm16 il16 fl16 ch16 bx16).all Value.oneCell') = true := by rw [hoc16]; rfl
              have ha3 := ArrAt.mono 2 _ _ _ _ hle16 ha3
              refine RW.nil ?_
              refine heldQ_normal ⟨_, _, 1, 1, hs, rfl, rfl⟩ ?_
              refine HW.takeR (fuel := 4) 7 rfl (fun _ _ ka kb _ hs hka hkb => Y.move rfl) ⟨_, _, 1, 1, hs, rfl, rfl⟩ rfl (by kernel_rfl) (by kernel_rfl) (by kernel_rfl) ?_
              refine HW.takeR (fuel := 3) 8 rfl (fun _ _ ka kb _ hs hka hkb => Y.extract rfl rfl) ⟨_, _, 1, 1, hs, rfl, rfl⟩ rfl (by kernel_rfl) (by kernel_rfl) (by kernel_rfl) ?_
              refine HW.takeR (fuel := 2) 9 rfl (fun _ _ ka kb _ hs hka hkb => Y.extract rfl rfl) ⟨_, _, 1, 1, hs, rfl, rfl⟩ rfl (by kernel_rfl) (by kernel_rfl) (by kernel_rfl) ?_
              refine HW.one (fuel := 1) 11 rfl (by kernel_rfl) ?_
              refine RW.storeAll T hs 0 rfl rfl rfl rfl rfl rfl hall16 rfl ?_
              intro w21 hs
              refine RW.nil ?_
              refine heldQ_normal ⟨_, _, 1, 1, hs, rfl, rfl⟩ ?_
              refine HW.takeR (fuel := 0) 12 rfl (fun _ _ ka kb _ hs hka hkb => Y.assign rfl) ⟨_, _, 1, 1, hs, rfl, rfl⟩ rfl (by kernel_rfl) (by kernel_rfl) (by kernel_rfl) ?_
              refine HW.done (by kernel_rfl) ?_
              refine calmQ_normal ?_
              exact joinQ_meet (b20, _, h16) ⟨rfl, rfl, rfl, trivial⟩ ⟨ha3, ha16, hs⟩
          · (refine RW.allocN T hs rfl rfl rfl rfl ?_; intro b20 w20 hs)
            refine RW.nil ?_
            refine heldQ_normal ⟨_, _, 1, 1, hs, rfl, rfl⟩ ?_
            refine HW.one (fuel := 6) 5 rfl (by kernel_rfl) ?_
            (refine RW.lit T hs (vs := [.agg (.bool false :: .slice ad13 (ArrD.shape (α := AD 1) (numsA 1 ([3, 1].map fwF))).length cap13 :: vecCells (ArrD.vec (α := AD 1) (numsA 1 ([3, 1].map fwF))).kind wv13 nv13 sm13 il13 fl13 ch13 bx13).toArray]) (cs := (.bool false :: .slice ad13 (ArrD.shape (α := AD 1) (numsA 1 ([3, 1].map fwF))).length cap13 :: vecCells (ArrD.vec (α := AD 1) (numsA 1 ([3, 1].map fwF))).kind wv13 nv13 sm13 il13 fl13 ch13 bx13)) rfl rfl rfl rfl (by simp [Value.cells, vecCells]) rfl rfl rfl rfl rfl ?_; intro b15 w15 hs)
            obtain ⟨h15, hle15, hs, hS15⟩ := hs.freeze
            have ha3 := ArrAt.mono 2 _ _ _ _ hle15 ha3
            have ha13 := ArrAt.mono 2 _ _ _ _ hle15 ha13
            refine RW.nil ?_
            refine heldQ_normal ⟨_, _, 1, 1, hs, rfl, rfl⟩ ?_
            refine HW.one (fuel := 5) 6 rfl (by kernel_rfl) ?_
            (refine RW.call T hs rfl rfl rfl (indexBracket_con (ArrAt.mono 1) (ArrAt.one 1) (ArrAt.siz 1) (blankA 0) (fun w h => flatBlank_con (ArrAt.mono 0) (ArrAt.one 0) w h) _ (numsA 1 ([5, 6, 7].map fwF)) (numsA 1 ([3, 1].map fwF)) b15 1 _ 3 1 99 2 _ _ ha3 rfl k567 (by decide) hS15 ha13 k31 (by decide) (by decide) (by decide) ⟨by decide, by decide⟩ ⟨by decide, by decide⟩ r31 (by decide) n31) ?_; intro v h16 w16 hle16 hp16 hs)
            obtain ⟨cs16, rfl, ha16⟩ := hp16
            rw [a31] at ha16
            have ha16 : ArrAt 2 h16 cs16 (numsA 1 ([7, 5].map fwF)) := ha16
            obtain ⟨s16, vc16, rfl, ⟨ad16, cap16, rfl, _⟩, hv16⟩ := id ha16
            obtain ⟨wv16, nv16, sm16, il16, fl16, ch16, bx16, ⟨rfl, hoc16⟩, _⟩ := hv16
            have hall16 : (Value.oneCell' (.slice ad16 (ArrD.shape (α := AD 1) (numsA 1 ([7, 5].map fwF))).length cap16) && (vecCells (ArrD.vec (α := AD 1) (numsA 1 ([7, 5].map fwF))).kind wv16 nv16 sm16 il16 fl16 ch16 bx16).all Value.oneCell') = true := by rw [hoc16]; rfl
            have ha3 := ArrAt.mono 2 _ _ _ _ hle16 ha3
            refine RW.nil ?_
            refine heldQ_normal ⟨_, _, 1, 1, hs, rfl, rfl⟩ ?_
            refine HW.takeR (fuel := 4) 7 rfl (fun _ _ ka kb _ hs hka hkb => Y.move rfl) ⟨_, _, 1, 1, hs, rfl, rfl⟩ rfl (by kernel_rfl) (by kernel_rfl) (by kernel_rfl) ?_
            refine HW.takeR (fuel := 3) 8 rfl (fun _ _ ka kb _ hs hka hkb => Y.extract rfl rfl) ⟨_, _, 1, 1, hs, rfl, rfl⟩ rfl (by kernel_rfl) (by kernel_rfl) (by kernel_rfl) ?_
            refine HW.takeR (fuel := 2) 9 rfl (fun _ _ ka kb _ hs hka hkb => Y.extract rfl rfl) ⟨_, _, 1, 1, hs, rfl, rfl⟩ rfl (by kernel_rfl) (by kernel_rfl) (by kernel_rfl) ?_
            refine HW.one (fuel := 1) 11 rfl (by kernel_rfl) ?_
            refine RW.storeAll T hs 0 rfl rfl rfl rfl rfl rfl hall16 rfl ?_
            intro w21 hs
            refine RW.nil ?_
            refine heldQ_normal ⟨_, _, 1, 1, hs, rfl, rfl⟩ ?_
            refine HW.takeR (fuel := 0) 12 rfl (fun _ _ ka kb _ hs hka hkb => Y.assign rfl) ⟨_, _, 1, 1, hs, rfl, rfl⟩ rfl (by kernel_rfl) (by kernel_rfl) (by kernel_rfl) ?_
            refine HW.done (by kernel_rfl) ?_
            refine calmQ_normal ?_
            exact joinQ_meet (b20, _, h16) ⟨rfl, rfl, rfl, trivial⟩ ⟨ha3, ha16, hs⟩
        · (refine RW.allocN T hs rfl rfl rfl rfl ?_; intro b20 w20 hs)
          refine RW.nil ?_
          refine heldQ_normal ⟨_, _, 1, 1, hs, rfl, rfl⟩ ?_
          refine HW.one (fuel := 8) 3 rfl (by kernel_rfl) ?_
          (refine RW.call T hs rfl rfl rfl (of07_con 2 _ (numsP ([3, 1].map fwF) : PlainD (PD 1)) _ _ hq12 (numsP_chk 1 _ (e_fin (l := [3, 1]) (by decide)) (by decide))) ?_; intro v h13 w13 hle13 hp13 hs)
          obtain ⟨cs13, rfl, _, _, ha13⟩ := hp13
          rw [numsP_arr, fw_tidyW _ (e_in (l := [3, 1]) (by decide))] at ha13
          obtain ⟨s13, vc13, rfl, ⟨ad13, cap13, rfl, _⟩, hv13⟩ := id ha13
          obtain ⟨wv13, nv13, sm13, il13, fl13, ch13, bx13, ⟨rfl, hoc13⟩, _⟩ := hv13
          have hall13 : (Value.oneCell' (.slice ad13 (ArrD.shape (α := AD 1) (numsA 1 ([3, 1].map fwF))).length cap13) && (vecCells (ArrD.vec (α := AD 1) (numsA 1 ([3, 1].map fwF))).kind wv13 nv13 sm13 il13 fl13 ch13 bx13).all Value.oneCell') = true := by rw [hoc13]; rfl
          have ha3 := ArrAt.mono 2 _ _ _ _ hle13 ha3
          refine RW.nil ?_
          refine heldQ_normal ⟨_, _, 1, 1, hs, rfl, rfl⟩ ?_
          refine HW.takeR (fuel := 7) 4 rfl (fun _ _ ka kb _ hs hka hkb => Y.build T rfl rfl rfl rfl rfl rfl rfl) ⟨_, _, 1, 1, hs, rfl, rfl⟩ rfl (by kernel_rfl) (by kernel_rfl) (by kernel_rfl) ?_
          refine HW.one (fuel := 6) 5 rfl (by kernel_rfl) ?_
          (refine RW.lit T hs (vs := [.agg (.bool false :: .slice ad13 (ArrD.shape (α := AD 1) (numsA 1 ([3, 1].map fwF))).length cap13 :: vecCells (ArrD.vec (α := AD 1) (numsA 1 ([3, 1].map fwF))).kind wv13 nv13 sm13 il13 fl13 ch13 bx13).toArray]) (cs := (.bool false :: .slice ad13 (ArrD.shape (α := AD 1) (numsA 1 ([3, 1].map fwF))).length cap13 :: vecCells (ArrD.vec (α := AD 1) (numsA 1 ([3, 1].map fwF))).kind wv13 nv13 sm13 il13 fl13 ch13 bx13)) rfl rfl rfl rfl (by simp [Value.cells, vecCells]) rfl rfl rfl rfl rfl ?_; intro b15 w15 hs)
          obtain ⟨h15, hle15, hs, hS15⟩ := hs.freeze
          have ha3 := ArrAt.mono 2 _ _ _ _ hle15 ha3
          have ha13 := ArrAt.mono 2 _ _ _ _ hle15 ha13
          refine RW.nil ?_
          refine heldQ_normal ⟨_, _, 1, 1, hs, rfl, rfl⟩ ?_
          refine HW.one (fuel := 5) 6 rfl (by kernel_rfl) ?_
          (refine RW.call T hs rfl rfl rfl (indexBracket_con (ArrAt.mono 1) (ArrAt.one 1) (ArrAt.siz 1) (blankA 0) (fun w h => flatBlank_con (ArrAt.mono 0) (ArrAt.one 0) w h) _ (numsA 1 ([5, 6, 7].map fwF)) (numsA 1 ([3, 1].map fwF)) b15 1 _ 3 1 99 2 _ _ ha3 rfl k567 (by decide) hS15 ha13 k31 (by decide) (by decide) (by decide) ⟨by decide, by decide⟩ ⟨by decide, by decide⟩ r31 (by decide) n31) ?_; intro v h16 w16 hle16 hp16 hs)
          obtain ⟨cs16, rfl, ha16⟩ := hp16
          rw [a31] at ha16
          have ha16 : ArrAt 2 h16 cs16 (numsA 1 ([7, 5].map fwF)) := ha16
          obtain ⟨s16, vc16, rfl, ⟨ad16, cap16, rfl, _⟩, hv16⟩ := id ha16
          obtain ⟨wv16, nv16, sm16, il16, fl16, ch16, bx16, ⟨rfl, hoc16⟩, _⟩ := hv16
          have hall16 : (Value.oneCell' (.slice ad16 (ArrD.shape (α := AD 1) (numsA 1 ([7, 5].map fwF))).length cap16) && (vecCells (ArrD.vec (α := AD 1) (numsA 1 ([7, 5].map fwF))).kind wv16 nv16 sm16 il16 fl16 ch16 bx16).all Value.oneCell') = true := by rw [hoc16]; rfl
          have ha3 := ArrAt.mono 2 _ _ _ _ hle16 ha3
          refine RW.nil ?_
          refine heldQ_normal ⟨_, _, 1, 1, hs, rfl, rfl⟩ ?_
          refine HW.takeR (fuel := 4) 7 rfl (fun _ _ ka kb _ hs hka hkb => Y.move rfl) ⟨_, _, 1, 1, hs, rfl, rfl⟩ rfl (by kernel_rfl) (by kernel_rfl) (by kernel_rfl) ?_
          refine HW.takeR (fuel := 3) 8 rfl (fun _ _ ka kb _ hs hka hkb => Y.extract rfl rfl) ⟨_, _, 1, 1, hs, rfl, rfl⟩ rfl (by kernel_rfl) (by kernel_rfl) (by kernel_rfl) ?_
          refine HW.takeR (fuel := 2) 9 rfl (fun _ _ ka kb _ hs hka hkb => Y.extract rfl rfl) ⟨_, _, 1, 1, hs, rfl, rfl⟩ rfl (by kernel_rfl) (by kernel_rfl) (by kernel_rfl) ?_
          refine HW.one (fuel := 1) 11 rfl (by kernel_rfl) ?_
          refine RW.storeAll T hs 0 rfl rfl rfl rfl rfl rfl hall16 rfl ?_
          intro w21 hs
          refine RW.nil ?_
          refine heldQ_normal ⟨_, _, 1, 1, hs, rfl, rfl⟩ ?_
          refine HW.takeR (fuel := 0) 12 rfl (fun _ _ ka kb _ hs hka hkb => Y.assign rfl) ⟨_, _, 1, 1, hs, rfl, rfl⟩ rfl (by kernel_rfl) (by kernel_rfl) (by kernel_rfl) ?_
          refine HW.done (by kernel_rfl) ?_
          refine calmQ_normal ?_
          exact joinQ_meet (b20, _, h16) ⟨rfl, rfl, rfl, trivial⟩ ⟨ha3, ha16, hs⟩
      · (refine RW.allocN T hs rfl rfl rfl rfl ?_; intro b20 w20 hs)
        refine RW.nil ?_
        refine heldQ_normal ⟨_, _, 1, 1, hs, rfl, rfl⟩ ?_
        refine HW.one (fuel := 9) 2 rfl (by kernel_rfl) ?_
        (refine RW.call T hs rfl rfl rfl (refNums_con (R := PlainAt 1) (PlainAt.mono 1) _ _ _ _ hF11 (e_lt (l := [3, 1]) (by decide)) (by decide)) ?_; intro v h12 w12 hle12 hp12 hs)
        obtain ⟨cs12, rfl, hq12⟩ := hp12
        have ha3 := ArrAt.mono 2 _ _ _ _ hle12 ha3
        refine RW.nil ?_
        refine heldQ_normal ⟨_, _, 1, 1, hs, rfl, rfl⟩ ?_
        refine HW.one (fuel := 8) 3 rfl (by kernel_rfl) ?_
        (refine RW.call T hs rfl rfl rfl (of07_con 2 _ (numsP ([3, 1].map fwF) : PlainD (PD 1)) _ _ hq12 (numsP_chk 1 _ (e_fin (l := [3, 1]) (by decide)) (by decide))) ?_; intro v h13 w13 hle13 hp13 hs)
        obtain ⟨cs13, rfl, _, _, ha13⟩ := hp13
        rw [numsP_arr, fw_tidyW _ (e_in (l := [3, 1]) (by decide))] at ha13
        obtain ⟨s13, vc13, rfl, ⟨ad13, cap13, rfl, _⟩, hv13⟩ := id ha13
        obtain ⟨wv13, nv13, sm13, il13, fl13, ch13, bx13, ⟨rfl, hoc13⟩, _⟩ := hv13
        have hall13 : (Value.oneCell' (.slice ad13 (ArrD.shape (α := AD 1) (numsA 1 ([3, 1].map fwF))).length cap13) && (vecCells (ArrD.vec (α := AD 1) (numsA 1 ([3, 1].map fwF))).kind wv13 nv13 sm13 il13 fl13 ch13 bx13).all Value.oneCell') = true := by rw [hoc13]; rfl
        have ha3 := ArrAt.mono 2 _ _ _ _ hle13 ha3
        refine RW.nil ?_
        refine heldQ_normal ⟨_, _, 1, 1, hs, rfl, rfl⟩ ?_
        refine HW.takeR (fuel := 7) 4 rfl (fun _ _ ka kb _ hs hka hkb => Y.build T rfl rfl rfl rfl rfl rfl rfl) ⟨_, _, 1, 1, hs, rfl, rfl⟩ rfl (by kernel_rfl) (by kernel_rfl) (by kernel_rfl) ?_
        refine HW.one (fuel := 6) 5 rfl (by kernel_rfl) ?_
        (refine RW.lit T hs (vs := [.agg (.bool false :: .slice ad13 (ArrD.shape (α := AD 1) (numsA 1 ([3, 1].map fwF))).length cap13 :: vecCells (ArrD.vec (α := AD 1) (numsA 1 ([3, 1].map fwF))).kind wv13 nv13 sm13 il13 fl13 ch13 bx13).toArray]) (cs := (.bool false :: .slice ad13 (ArrD.shape (α := AD 1) (numsA 1 ([3, 1].map fwF))).length cap13 :: vecCells (ArrD.vec (α := AD 1) (numsA 1 ([3, 1].map fwF))).kind wv13 nv13 sm13 il13 fl13 ch13 bx13)) rfl rfl rfl rfl (by simp [Value.cells, vecCells]) rfl rfl rfl rfl rfl ?_; intro b15 w15 hs)
        obtain ⟨h15, hle15, hs, hS15⟩ := hs.freeze
        have ha3 := ArrAt.mono 2 _ _ _ _ hle15 ha3
        have ha13 := ArrAt.mono 2 _ _ _ _ hle15 ha13
        refine RW.nil ?_
        refine heldQ_normal ⟨_, _, 1, 1, hs, rfl, rfl⟩ ?_
        refine HW.one (fuel := 5) 6 rfl (by kernel_rfl) ?_
        (refine RW.call T hs rfl rfl rfl (indexBracket_con (ArrAt.mono 1) (ArrAt.one 1) (ArrAt.siz 1) (blankA 0) (fun w h => flatBlank_con (ArrAt.mono 0) (ArrAt.one 0) w h) _ (numsA 1 ([5, 6, 7].map fwF)) (numsA 1 ([3, 1].map fwF)) b15 1 _ 3 1 99 2 _ _ ha3 rfl k567 (by decide) hS15 ha13 k31 (by decide) (by decide) (by decide) ⟨by decide, by decide⟩ ⟨by decide, by decide⟩ r31 (by decide) n31) ?_; intro v h16 w16 hle16 hp16 hs)
        obtain ⟨cs16, rfl, ha16⟩ := hp16
        rw [a31] at ha16
        have ha16 : ArrAt 2 h16 cs16 (numsA 1 ([7, 5].map fwF)) := ha16
        obtain ⟨s16, vc16, rfl, ⟨ad16, cap16, rfl, _⟩, hv16⟩ := id ha16
        obtain ⟨wv16, nv16, sm16, il16, fl16, ch16, bx16, ⟨rfl, hoc16⟩, _⟩ := hv16
        have hall16 : (Value.oneCell' (.slice ad16 (ArrD.shape (α := AD 1) (numsA 1 ([7, 5].map fwF))).length cap16) && (vecCells (ArrD.vec (α := AD 1) (numsA 1 ([7, 5].map fwF))).kind wv16 nv16 sm16 il16 fl16 ch16 bx16).all Value.oneCell') = true := by rw [hoc16]; rfl
        have ha3 := ArrAt.mono 2 _ _ _ _ hle16 ha3
        refine RW.nil ?_
        refine heldQ_normal ⟨_, _, 1, 1, hs, rfl, rfl⟩ ?_
        refine HW.takeR (fuel := 4) 7 rfl (fun _ _ ka kb _ hs hka hkb => Y.move rfl) ⟨_, _, 1, 1, hs, rfl, rfl⟩ rfl (by kernel_rfl) (by kernel_rfl) (by kernel_rfl) ?_
        refine HW.takeR (fuel := 3) 8 rfl (fun _ _ ka kb _ hs hka hkb => Y.extract rfl rfl) ⟨_, _, 1, 1, hs, rfl, rfl⟩ rfl (by kernel_rfl) (by kernel_rfl) (by kernel_rfl) ?_
        refine HW.takeR (fuel := 2) 9 rfl (fun _ _ ka kb _ hs hka hkb => Y.extract rfl rfl) ⟨_, _, 1, 1, hs, rfl, rfl⟩ rfl (by kernel_rfl) (by kernel_rfl) (by kernel_rfl) ?_
        refine HW.one (fuel := 1) 11 rfl (by kernel_rfl) ?_
        refine RW.storeAll T hs 0 rfl rfl rfl rfl rfl rfl hall16 rfl ?_
        intro w21 hs
        refine RW.nil ?_
        refine heldQ_normal ⟨_, _, 1, 1, hs, rfl, rfl⟩ ?_
        refine HW.takeR (fuel := 0) 12 rfl (fun _ _ ka kb _ hs hka hkb => Y.assign rfl) ⟨_, _, 1, 1, hs, rfl, rfl⟩ rfl (by kernel_rfl) (by kernel_rfl) (by kernel_rfl) ?_
        refine HW.done (by kernel_rfl) ?_
        refine calmQ_normal ?_
        exact joinQ_meet (b20, _, h16) ⟨rfl, rfl, rfl, trivial⟩ ⟨ha3, ha16, hs⟩
    · (refine RW.allocN T hs rfl rfl rfl rfl ?_; intro b20 w20 hs)
      refine RW.nil ?_
      refine heldQ_normal ⟨_, _, 1, 1, hs, rfl, rfl⟩ ?_
      refine HW.one (fuel := 10) 1 rfl (by kernel_rfl) ?_
      (refine RW.lit T hs (vs := [.float .f64 4613937818241073152, .float .f64 4607182418800017408]) rfl rfl rfl rfl (by simp [Value.cells]) rfl rfl rfl rfl rfl ?_; intro b11 w11 hs)
      obtain ⟨h11, hle11, hs, hS11⟩ := hs.freeze
      have hF11 : FAt h11 (.slice (some ⟨b11, 0, none⟩) 2 2) ([3, 1].map fwF) := by rw [w31]; exact RowAt.of_sl hS11
      have ha3 := ArrAt.mono 2 _ _ _ _ hle11 ha3
      refine RW.nil ?_
      refine heldQ_normal ⟨_, _, 1, 1, hs, rfl, rfl⟩ ?_
      refine HW.one (fuel := 9) 2 rfl (by kernel_rfl) ?_
      (refine RW.call T hs rfl rfl rfl (refNums_con (R := PlainAt 1) (PlainAt.mono 1) _ _ _ _ hF11 (e_lt (l := [3, 1]) (by decide)) (by decide)) ?_; intro v h12 w12 hle12 hp12 hs)
      obtain ⟨cs12, rfl, hq12⟩ := hp12
      have ha3 := ArrAt.mono 2 _ _ _ _ hle12 ha3
      refine RW.nil ?_
      refine heldQ_normal ⟨_, _, 1, 1, hs, rfl, rfl⟩ ?_
      refine HW.one (fuel := 8) 3 rfl (by kernel_rfl) ?_
      (refine RW.call T hs rfl rfl rfl (of07_con 2 _ (numsP ([3, 1].map fwF) : PlainD (PD 1)) _ _ hq12 (numsP_chk 1 _ (e_fin (l := [3, 1]) (by decide)) (by decide))) ?_; intro v h13 w13 hle13 hp13 hs)
      obtain ⟨cs13, rfl, _, _, ha13⟩ := hp13
      rw [numsP_arr, fw_tidyW _ (e_in (l := [3, 1]) (by decide))] at ha13
      obtain ⟨s13, vc13, rfl, ⟨ad13, cap13, rfl, _⟩, hv13⟩ := id ha13
      obtain ⟨wv13, nv13, sm13, il13, fl13, ch13, bx13, ⟨rfl, hoc13⟩, _⟩ := hv13
      have hall13 : (Value.oneCell' (.slice ad13 (ArrD.shape (α := AD 1) (numsA 1 ([3, 1].map fwF))).length cap13) && (vecCells (ArrD.vec (α := AD 1) (numsA 1 ([3, 1].map fwF))).kind wv13 nv13 sm13 il13 fl13 ch13 bx13).all Value.oneCell') = true := by rw [hoc13]; rfl
      have ha3 := ArrAt.mono 2 _ _ _ _ hle13 ha3
      refine RW.nil ?_
      refine heldQ_normal ⟨_, _, 1, 1, hs, rfl, rfl⟩ ?_
      refine HW.takeR (fuel := 7) 4 rfl (fun _ _ ka kb _ hs hka hkb => Y.build T rfl rfl rfl rfl rfl rfl rfl) ⟨_, _, 1, 1, hs, rfl, rfl⟩ rfl (by kernel_rfl) (by kernel_rfl) (by kernel_rfl) ?_
      refine HW.one (fuel := 6) 5 rfl (by kernel_rfl) ?_
      (refine RW.lit T hs (vs := [.agg (.bool false :: .slice ad13 (ArrD.shape (α := AD 1) (numsA 1 ([3, 1].map fwF))).length cap13 :: vecCells (ArrD.vec (α := AD 1) (numsA 1 ([3, 1].map fwF))).kind wv13 nv13 sm13 il13 fl13 ch13 bx13).toArray]) (cs := (.bool false :: .slice ad13 (ArrD.shape (α := AD 1) (numsA 1 ([3, 1].map fwF))).length cap13 :: vecCells (ArrD.vec (α := AD 1) (numsA 1 ([3, 1].map fwF))).kind wv13 nv13 sm13 il13 fl13 ch13 bx13)) rfl rfl rfl rfl (by simp [Value.cells, vecCells]) rfl rfl rfl rfl rfl ?_; intro b15 w15 hs)
      obtain ⟨h15, hle15, hs, hS15⟩ := hs.freeze
      have ha3 := ArrAt.mono 2 _ _ _ _ hle15 ha3
      have ha13 := ArrAt.mono 2 _ _ _ _ hle15 ha13
      refine RW.nil ?_
      refine heldQ_normal ⟨_, _, 1, 1, hs, rfl, rfl⟩ ?_
      refine HW.one (fuel := 5) 6 rfl (by kernel_rfl) ?_
      (refine RW.call T hs rfl rfl rfl (indexBracket_con (ArrAt.mono 1) (ArrAt.one 1) (ArrAt.siz 1) (blankA 0) (fun w h => flatBlank_con (ArrAt.mono 0) (ArrAt.one 0) w h) _ (numsA 1 ([5, 6, 7].map fwF)) (numsA 1 ([3, 1].map fwF)) b15 1 _ 3 1 99 2 _ _ ha3 rfl k567 (by decide) hS15 ha13 k31 (by decide) (by decide) (by decide) ⟨by decide, by decide⟩ ⟨by decide, by decide⟩ r31 (by decide) n31) ?_; intro v h16 w16 hle16 hp16 hs)
      obtain ⟨cs16, rfl, ha16⟩ := hp16
      rw [a31] at ha16
      have ha16 : ArrAt 2 h16 cs16 (numsA 1 ([7, 5].map fwF)) := ha16
      obtain ⟨s16, vc16, rfl, ⟨ad16, cap16, rfl, _⟩, hv16⟩ := id ha16
      obtain ⟨wv16, nv16, sm16, il16, fl16, ch16, bx16, ⟨rfl, hoc16⟩, _⟩ := hv16
      have hall16 : (Value.oneCell' (.slice ad16 (ArrD.shape (α := AD 1) (numsA 1 ([7, 5].map fwF))).length cap16) && (vecCells (ArrD.vec (α := AD 1) (numsA 1 ([7, 5].map fwF))).kind wv16 nv16 sm16 il16 fl16 ch16 bx16).all Value.oneCell') = true := by rw [hoc16]; rfl
      have ha3 := ArrAt.mono 2 _ _ _ _ hle16 ha3
      refine RW.nil ?_
      refine heldQ_normal ⟨_, _, 1, 1, hs, rfl, rfl⟩ ?_
      refine HW.takeR (fuel := 4) 7 rfl (fun _ _ ka kb _ hs hka hkb => Y.move rfl) ⟨_, _, 1, 1, hs, rfl, rfl⟩ rfl (by kernel_rfl) (by kernel_rfl) (by kernel_rfl) ?_
      refine HW.takeR (fuel := 3) 8 rfl (fun _ _ ka kb _ hs hka hkb => Y.extract rfl rfl) ⟨_, _, 1, 1, hs, rfl, rfl⟩ rfl (by kernel_rfl) (by kernel_rfl) (by kernel_rfl) ?_
      refine HW.takeR (fuel := 2) 9 rfl (fun _ _ ka kb _ hs hka hkb => Y.extract rfl rfl) ⟨_, _, 1, 1, hs, rfl, rfl⟩ rfl (by kernel_rfl) (by kernel_rfl) (by kernel_rfl) ?_
      refine HW.one (fuel := 1) 11 rfl (by kernel_rfl) ?_
      refine RW.storeAll T hs 0 rfl rfl rfl rfl rfl rfl hall16 rfl ?_
      intro w21 hs
      refine RW.nil ?_
      refine heldQ_normal ⟨_, _, 1, 1, hs, rfl, rfl⟩ ?_
      refine HW.takeR (fuel := 0) 12 rfl (fun _ _ ka kb _ hs hka hkb => Y.assign rfl) ⟨_, _, 1, 1, hs, rfl, rfl⟩ rfl (by kernel_rfl) (by kernel_rfl) (by kernel_rfl) ?_
      refine HW.done (by kernel_rfl) ?_
      refine calmQ_normal ?_
      exact joinQ_meet (b20, _, h16) ⟨rfl, rfl, rfl, trivial⟩ ⟨ha3, ha16, hs⟩
  rintro ⟨b2, cs2, h7⟩ w7 ⟨ha3, ha16, hs⟩
  dsimp only at ha3 ha16 hs ⊢
  refine CW.seqJ (fun r : Nat × List Value × GHeap => [(1, .pointer (some ⟨b4, 0, none⟩)), (2, .pointer (some ⟨b2, 0, none⟩)), (3, .int .i64 0), (4, .pointer (some ⟨r.1, 0, none⟩)), (5, .int .i64 0)]) (fun r w' => ArrAt 2 r.2.2 cs2 (numsA 1 ([7, 5].map fwF)) ∧ ArrAt 2 r.2.2 r.2.1 (numsA 1 ([5, 0, 7].map fwF)) ∧ Sees w h r.2.2 [⟨some ⟨r.1, 0, none⟩, 1, 1, 63, 9, r.2.1⟩, ⟨some ⟨b2, 0, none⟩, 1, 1, 63, 9, cs2⟩, ⟨some ⟨b4, 0, none⟩, 1, 1, 63, 9, .slice ad3 (ArrD.shape (α := AD 1) (numsA 1 ([5, 6, 7].map fwF))).length cap3 :: vecCells (ArrD.vec (α := AD 1) (numsA 1 ([5, 6, 7].map fwF))).kind wv3 nv3 sm3 il3 fl3 ch3 bx3⟩] w') ?_ ?_
  · refine CW.regionR T 0 1 hs rfl rfl ?_
    intro w8 hs
    refine HW.takeR (fuel := 13) 0 rfl (fun _ _ ka kb _ hs hka hkb => Y.loadRowN T hs kb hkb rfl rfl rfl rfl rfl rfl) ⟨_, _, 0, 1, hs, rfl, rfl⟩ rfl (by kernel_rfl) (by kernel_rfl) (by kernel_rfl) ?_
    refine HW.two (fuel := 12) 1 11 rfl rfl (by kernel_rfl) ?_ ?_
    · (refine RW.call T hs rfl rfl rfl (refOne_con (α := PD 1) (R := PlainAt 1) 4611686018427387904 _ _ (by decide)) ?_; intro v h21 w21 hle21 hp21 hs)
      obtain ⟨cs21, rfl, hq21⟩ := hp21
      have ha3 := ArrAt.mono 2 _ _ _ _ hle21 ha3
      have ha16 := ArrAt.mono 2 _ _ _ _ hle21 ha16
      refine RW.nil ?_
      refine heldQ_normal ⟨_, _, 0, 1, hs, rfl, rfl⟩ ?_
      refine HW.two (fuel := 11) 2 11 rfl rfl (by kernel_rfl) ?_ ?_
      · (refine RW.call T hs rfl rfl rfl (of07_con 2 _ (numQ 1 4611686018427387904) _ _ hq21 (numQ_chk 1 _ fin2)) ?_; intro v h22 w22 hle22 hp22 hs)
        obtain ⟨cs22, rfl, _, _, ha22⟩ := hp22
        rw [arr2] at ha22
        obtain ⟨s22, vc22, rfl, ⟨ad22, cap22, rfl, _⟩, hv22⟩ := id ha22
        obtain ⟨wv22, nv22, sm22, il22, fl22, ch22, bx22, ⟨rfl, hoc22⟩, _⟩ := hv22
        have hall22 : (Value.oneCell' (.slice ad22 (ArrD.shape (α := AD 1) (numA 1 (fwF 2))).length cap22) && (vecCells (ArrD.vec (α := AD 1) (numA 1 (fwF 2))).kind wv22 nv22 sm22 il22 fl22 ch22 bx22).all Value.oneCell') = true := by rw [hoc22]; rfl
        have ha3 := ArrAt.mono 2 _ _ _ _ hle22 ha3
        have ha16 := ArrAt.mono 2 _ _ _ _ hle22 ha16
        refine RW.nil ?_
        refine heldQ_normal ⟨_, _, 0, 1, hs, rfl, rfl⟩ ?_
        refine HW.takeR (fuel := 10) 3 rfl (fun _ _ ka kb _ hs hka hkb => Y.build T rfl rfl rfl rfl rfl rfl rfl) ⟨_, _, 0, 1, hs, rfl, rfl⟩ rfl (by kernel_rfl) (by kernel_rfl) (by kernel_rfl) ?_
        refine HW.three (fuel := 9) 4 5 11 rfl rfl rfl (by kernel_rfl) ?_ ?_ ?_
        · (refine RW.lit T hs (vs := [.agg (.bool false :: .slice ad22 (ArrD.shape (α := AD 1) (numA 1 (fwF 2))).length cap22 :: vecCells (ArrD.vec (α := AD 1) (numA 1 (fwF 2))).kind wv22 nv22 sm22 il22 fl22 ch22 bx22).toArray]) (cs := (.bool false :: .slice ad22 (ArrD.shape (α := AD 1) (numA 1 (fwF 2))).length cap22 :: vecCells (ArrD.vec (α := AD 1) (numA 1 (fwF 2))).kind wv22 nv22 sm22 il22 fl22 ch22 bx22)) rfl rfl rfl rfl (by simp [Value.cells, vecCells]) rfl rfl rfl rfl rfl ?_; intro b24 w24 hs)
          obtain ⟨h24, hle24, hs, hS24⟩ := hs.freeze
          have ha3 := ArrAt.mono 2 _ _ _ _ hle24 ha3
          have ha16 := ArrAt.mono 2 _ _ _ _ hle24 ha16
          have ha22 := ArrAt.mono 2 _ _ _ _ hle24 ha22
          refine RW.nil ?_
          refine heldQ_normal ⟨_, _, 0, 1, hs, rfl, rfl⟩ ?_
          refine HW.two (fuel := 8) 5 11 rfl rfl (by kernel_rfl) ?_ ?_
          · (refine RW.call T hs rfl rfl rfl (refOne_con (α := PD 1) (R := PlainAt 1) 0 _ _ (by decide)) ?_; intro v h25 w25 hle25 hp25 hs)
            obtain ⟨cs25, rfl, hq25⟩ := hp25
            have ha3 := ArrAt.mono 2 _ _ _ _ hle25 ha3
            have ha16 := ArrAt.mono 2 _ _ _ _ hle25 ha16
            have ha22 := ArrAt.mono 2 _ _ _ _ hle25 ha22
            have hS24 := hS24.mono hle25
            refine RW.nil ?_
            refine heldQ_normal ⟨_, _, 0, 1, hs, rfl, rfl⟩ ?_
            refine HW.two (fuel := 7) 6 11 rfl rfl (by kernel_rfl) ?_ ?_
            · (refine RW.call T hs rfl rfl rfl (of07_con 2 _ (numQ 1 0) _ _ hq25 (numQ_chk 1 _ tidy0.2.1)) ?_; intro v h26 w26 hle26 hp26 hs)
              obtain ⟨cs26, rfl, _, _, ha26⟩ := hp26
              rw [arr0] at ha26
              have ha3 := ArrAt.mono 2 _ _ _ _ hle26 ha3
              have ha16 := ArrAt.mono 2 _ _ _ _ hle26 ha16
              have ha22 := ArrAt.mono 2 _ _ _ _ hle26 ha22
              have hS24 := hS24.mono hle26
              refine RW.nil ?_
              refine heldQ_normal ⟨_, _, 0, 1, hs, rfl, rfl⟩ ?_
              refine HW.two (fuel := 6) 7 11 rfl rfl (by kernel_rfl) ?_ ?_
              · (refine RW.call T hs rfl rfl rfl (indexSet_con (ArrAt.mono 1) (ArrAt.one 1) (ArrAt.siz 1) (blankA 0) (fun w h => flatBlank_con (ArrAt.mono 0) (ArrAt.one 0) w h) _ _ (numsA 1 ([5, 6, 7].map fwF)) (numA 1 (fwF 0)) (numA 1 (fwF 2)) b24 1 3 _ 1 99 1 0 _ _ ha3 ha26 rfl rfl k567 (by decide) rfl hS24 ha22 (e_one 2 (by omega)) (by decide) (by decide) (by decide) ⟨by decide, by decide⟩ r2 (by decide) (by decide) j507.1 vk507 vl507 n507) ?_; intro v h27 w27 hle27 hp27 hs)
                obtain ⟨cs27, rfl, ha27⟩ := hp27
                rw [a507] at ha27
                have ha27 : ArrAt 2 h27 cs27 (numsA 1 ([5, 0, 7].map fwF)) := ha27
                obtain ⟨s27, vc27, rfl, ⟨ad27, cap27, rfl, _⟩, hv27⟩ := id ha27
                obtain ⟨wv27, nv27, sm27, il27, fl27, ch27, bx27, ⟨rfl, hoc27⟩, _⟩ := hv27
                have hall27 : (Value.oneCell' (.slice ad27 (ArrD.shape (α := AD 1) (numsA 1 ([5, 0, 7].map fwF))).length cap27) && (vecCells (ArrD.vec (α := AD 1) (numsA 1 ([5, 0, 7].map fwF))).kind wv27 nv27 sm27 il27 fl27 ch27 bx27).all Value.oneCell') = true := by rw [hoc27]; rfl
                have ha16 := ArrAt.mono 2 _ _ _ _ hle27 ha16
                refine RW.nil ?_
                refine heldQ_normal ⟨_, _, 0, 1, hs, rfl, rfl⟩ ?_
                refine HW.takeR (fuel := 5) 8 rfl (fun _ _ ka kb _ hs hka hkb => Y.move rfl) ⟨_, _, 0, 1, hs, rfl, rfl⟩ rfl (by kernel_rfl) (by kernel_rfl) (by kernel_rfl) ?_
                refine HW.takeR (fuel := 4) 9 rfl (fun _ _ ka kb _ hs hka hkb => Y.extract rfl rfl) ⟨_, _, 0, 1, hs, rfl, rfl⟩ rfl (by kernel_rfl) (by kernel_rfl) (by kernel_rfl) ?_
                refine HW.takeR (fuel := 3) 10 rfl (fun _ _ ka kb _ hs hka hkb => Y.extract rfl rfl) ⟨_, _, 0, 1, hs, rfl, rfl⟩ rfl (by kernel_rfl) (by kernel_rfl) (by kernel_rfl) ?_
                refine HW.one (fuel := 2) 11 rfl (by kernel_rfl) ?_
                (refine RW.allocN T hs rfl rfl rfl rfl ?_; intro b30 w30 hs)
                refine RW.nil ?_
                refine heldQ_normal ⟨_, _, 1, 2, hs, rfl, rfl⟩ ?_
                refine HW.one (fuel := 1) 12 rfl (by kernel_rfl) ?_
                refine RW.storeAll T hs 0 rfl rfl rfl rfl rfl rfl hall27 rfl ?_
                intro w31 hs
                refine RW.nil ?_
                refine heldQ_normal ⟨_, _, 1, 2, hs, rfl, rfl⟩ ?_
                refine HW.takeR (fuel := 0) 13 rfl (fun _ _ ka kb _ hs hka hkb => Y.assign rfl) ⟨_, _, 1, 2, hs, rfl, rfl⟩ rfl (by kernel_rfl) (by kernel_rfl) (by kernel_rfl) ?_
                refine HW.done (by kernel_rfl) ?_
                refine calmQ_normal ?_
                exact joinQ_meet (b30, _, h27) ⟨rfl, rfl, rfl, rfl, rfl, trivial⟩ ⟨ha16, ha27, hs⟩
              · (refine RW.allocN T hs rfl rfl rfl rfl ?_; intro b30 w30 hs)
                refine RW.nil ?_
                refine heldQ_normal ⟨_, _, 1, 2, hs, rfl, rfl⟩ ?_
                refine HW.one (fuel := 5) 7 rfl (by kernel_rfl) ?_
                (refine RW.call T hs rfl rfl rfl (indexSet_con (ArrAt.mono 1) (ArrAt.one 1) (ArrAt.siz 1) (blankA 0) (fun w h => flatBlank_con (ArrAt.mono 0) (ArrAt.one 0) w h) _ _ (numsA 1 ([5, 6, 7].map fwF)) (numA 1 (fwF 0)) (numA 1 (fwF 2)) b24 1 3 _ 1 99 1 0 _ _ ha3 ha26 rfl rfl k567 (by decide) rfl hS24 ha22 (e_one 2 (by omega)) (by decide) (by decide) (by decide) ⟨by decide, by decide⟩ r2 (by decide) (by decide) j507.1 vk507 vl507 n507) ?_; intro v h27 w27 hle27 hp27 hs)
                obtain ⟨cs27, rfl, ha27⟩ := hp27
                rw [a507] at ha27
                have ha27 : ArrAt 2 h27 cs27 (numsA 1 ([5, 0, 7].map fwF)) := ha27
                obtain ⟨s27, vc27, rfl, ⟨ad27, cap27, rfl, _⟩, hv27⟩ := id ha27
                obtain ⟨wv27, nv27, sm27, il27, fl27, ch27, bx27, ⟨rfl, hoc27⟩, _⟩ := hv27
                have hall27 : (Value.oneCell' (.slice ad27 (ArrD.shape (α := AD 1) (numsA 1 ([5, 0, 7].map fwF))).length cap27) && (vecCells (ArrD.vec (α := AD 1) (numsA 1 ([5, 0, 7].map fwF))).kind wv27 nv27 sm27 il27 fl27 ch27 bx27).all Value.oneCell') = true := by rw [hoc27]; rfl
                have ha16 := ArrAt.mono 2 _ _ _ _ hle27 ha16
                refine RW.nil ?_
                refine heldQ_normal ⟨_, _, 1, 2, hs, rfl, rfl⟩ ?_
                refine HW.takeR (fuel := 4) 8 rfl (fun _ _ ka kb _ hs hka hkb => Y.move rfl) ⟨_, _, 1, 2, hs, rfl, rfl⟩ rfl (by kernel_rfl) (by kernel_rfl) (by kernel_rfl) ?_
                refine HW.takeR (fuel := 3) 9 rfl (fun _ _ ka kb _ hs hka hkb => Y.extract rfl rfl) ⟨_, _, 1, 2, hs, rfl, rfl⟩ rfl (by kernel_rfl) (by kernel_rfl) (by kernel_rfl) ?_
                refine HW.takeR (fuel := 2) 10 rfl (fun _ _ ka kb _ hs hka hkb => Y.extract rfl rfl) ⟨_, _, 1, 2, hs, rfl, rfl⟩ rfl (by kernel_rfl) (by kernel_rfl) (by kernel_rfl) ?_
                refine HW.one (fuel := 1) 12 rfl (by kernel_rfl) ?_
                refine RW.storeAll T hs 0 rfl rfl rfl rfl rfl rfl hall27 rfl ?_
                intro w31 hs
                refine RW.nil ?_
                refine heldQ_normal ⟨_, _, 1, 2, hs, rfl, rfl⟩ ?_
                refine HW.takeR (fuel := 0) 13 rfl (fun _ _ ka kb _ hs hka hkb => Y.assign rfl) ⟨_, _, 1, 2, hs, rfl, rfl⟩ rfl (by kernel_rfl) (by kernel_rfl) (by kernel_rfl) ?_
                refine HW.done (by kernel_rfl) ?_
                refine calmQ_normal ?_
                exact joinQ_meet (b30, _, h27) ⟨rfl, rfl, rfl, rfl, rfl, trivial⟩ ⟨ha16, ha27, hs⟩
            · (refine RW.allocN T hs rfl rfl rfl rfl ?_; intro b30 w30 hs)
              refine RW.nil ?_
              refine heldQ_normal ⟨_, _, 1, 2, hs, rfl, rfl⟩ ?_
              refine HW.one (fuel := 6) 6 rfl (by kernel_rfl) ?_
              (refine RW.call T hs rfl rfl rfl (of07_con 2 _ (numQ 1 0) _ _ hq25 (numQ_chk 1 _ tidy0.2.1)) ?_; intro v h26 w26 hle26 hp26 hs)
              obtain ⟨cs26, rfl, _, _, ha26⟩ := hp26
              rw [arr0] at ha26
              have ha3 := ArrAt.mono 2 _ _ _ _ hle26 ha3
              have ha16 := ArrAt.mono 2 _ _ _ _ hle26 ha16
              have ha22 := ArrAt.mono 2 _ _ _ _ hle26 ha22
              have hS24 := hS24.mono hle26
              refine RW.nil ?_
              refine heldQ_normal ⟨_, _, 1, 2, hs, rfl, rfl⟩ ?_
              refine HW.one (fuel := 5) 7 rfl (by kernel_rfl) ?_
              (refine RW.call T hs rfl rfl rfl (indexSet_con (ArrAt.mono 1) (ArrAt.one 1) (ArrAt.siz 1) (blankA 0) (fun w h => flatBlank_con (ArrAt.mono 0) (ArrAt.one 0) w h) _ _ (numsA 1 ([5, 6, 7].map fwF)) (numA 1 (fwF 0)) (numA 1 (fwF 2)) b24 1 3 _ 1 99 1 0 _ _ ha3 ha26 rfl rfl k567 (by decide) rfl hS24 ha22 (e_one 2 (by omega)) (by decide) (by decide) (by decide) ⟨by decide, by decide⟩ r2 (by decide) (by decide) j507.1 vk507 vl507 n507) ?_; intro v h27 w27 hle27 hp27 hs)
              obtain ⟨cs27, rfl, ha27⟩ := hp27
              rw [a507] at ha27
              have ha27 : ArrAt 2 h27 cs27 (numsA 1 ([5, 0, 7].map fwF)) := ha27
              obtain ⟨s27, vc27, rfl, ⟨ad27, cap27, rfl, _⟩, hv27⟩ := id ha27
              obtain ⟨wv27, nv27, sm27, il27, fl27, ch27, bx27, ⟨rfl, hoc27⟩, _⟩ := hv27
              have hall27 : (Value.oneCell' (.slice ad27 (ArrD.shape (α := AD 1) (numsA 1 ([5, 0, 7].map fwF))).length cap27) && (vecCells (ArrD.vec (α := AD 1) (numsA 1 ([5, 0, 7].map fwF))).kind wv27 nv27 sm27 il27 fl27 ch27 bx27).all Value.oneCell') = true := by rw [hoc27]; rfl
              have ha16 := ArrAt.mono 2 _ _ _ _ hle27 ha16
              refine RW.nil ?_
              refine heldQ_normal ⟨_, _, 1, 2, hs, rfl, rfl⟩ ?_
              refine HW.takeR (fuel := 4) 8 rfl (fun _ _ ka kb _ hs hka hkb => Y.move rfl) ⟨_, _, 1, 2, hs, rfl, rfl⟩ rfl (by kernel_rfl) (by kernel_rfl) (by kernel_rfl) ?_
              refine HW.takeR (fuel := 3) 9 rfl (fun _ _ ka kb _ hs hka hkb => Y.extract rfl rfl) ⟨_, _, 1, 2, hs, rfl, rfl⟩ rfl (by kernel_rfl) (by kernel_rfl) (by kernel_rfl) ?_
              refine HW.takeR (fuel := 2) 10 rfl (fun _ _ ka kb _ hs hka hkb => Y.extract rfl rfl) ⟨_, _, 1, 2, hs, rfl, rfl⟩ rfl (by kernel_rfl) (by kernel_rfl) (by kernel_rfl) ?_
              refine HW.one (fuel := 1) 12 rfl (by kernel_rfl) ?_
              refine RW.storeAll T hs 0 rfl rfl rfl rfl rfl rfl hall27 rfl ?_
              intro w31 hs
              refine RW.nil ?_
              refine heldQ_normal ⟨_, _, 1, 2, hs, rfl, rfl⟩ ?_
              refine HW.takeR (fuel := 0) 13 rfl (fun _ _ ka kb _ hs hka hkb => Y.assign rfl) ⟨_, _, 1, 2, hs, rfl, rfl⟩ rfl (by kernel_rfl) (by kernel_rfl) (by kernel_rfl) ?_
              refine HW.done (by kernel_rfl) ?_
              refine calmQ_normal ?_
              exact joinQ_meet (b30, _, h27) ⟨rfl, rfl, rfl, rfl, rfl, trivial⟩ ⟨ha16, ha27, hs⟩
          · (refine RW.allocN T hs rfl rfl rfl rfl ?_; intro b30 w30 hs)
            refine RW.nil ?_
            refine heldQ_normal ⟨_, _, 1, 2, hs, rfl, rfl⟩ ?_
            refine HW.one (fuel := 7) 5 rfl (by kernel_rfl) ?_
            (refine RW.call T hs rfl rfl rfl (refOne_con (α := PD 1) (R := PlainAt 1) 0 _ _ (by decide)) ?_; intro v h25 w25 hle25 hp25 hs)
            obtain ⟨cs25, rfl, hq25⟩ := hp25
            have ha3 := ArrAt.mono 2 _ _ _ _ hle25 ha3
            have ha16 := ArrAt.mono 2 _ _ _ _ hle25 ha16
            have ha22 := ArrAt.mono 2 _ _ _ _ hle25 ha22
            have hS24 := hS24.mono hle25
            refine RW.nil ?_
            refine heldQ_normal ⟨_, _, 1, 2, hs, rfl, rfl⟩ ?_
            refine HW.one (fuel := 6) 6 rfl (by kernel_rfl) ?_
            (refine RW.call T hs rfl rfl rfl (of07_con 2 _ (numQ 1 0) _ _ hq25 (numQ_chk 1 _ tidy0.2.1)) ?_; intro v h26 w26 hle26 hp26 hs)
            obtain ⟨cs26, rfl, _, _, ha26⟩ := hp26
            rw [arr0] at ha26
            have ha3 := ArrAt.mono 2 _ _ _ _ hle26 ha3
            have ha16 := ArrAt.mono 2 _ _ _ _ hle26 ha16
            have ha22 := ArrAt.mono 2 _ _ _ _ hle26 ha22
            have hS24 := hS24.mono hle26
            refine RW.nil ?_
            refine heldQ_normal ⟨_, _, 1, 2, hs, rfl, rfl⟩ ?_
            refine HW.one (fuel := 5) 7 rfl (by kernel_rfl) ?_
            (refine RW.call T hs rfl rfl rfl (indexSet_con (ArrAt.mono 1) (ArrAt.one 1) (ArrAt.siz 1) (blankA 0) (fun w h => flatBlank_con (ArrAt.mono 0) (ArrAt.one 0) w h) _ _ (numsA 1 ([5, 6, 7].map fwF)) (numA 1 (fwF 0)) (numA 1 (fwF 2)) b24 1 3 _ 1 99 1 0 _ _ ha3 ha26 rfl rfl k567 (by decide) rfl hS24 ha22 (e_one 2 (by omega)) (by decide) (by decide) (by decide) ⟨by decide, by decide⟩ r2 (by decide) (by decide) j507.1 vk507 vl507 n507) ?_; intro v h27 w27 hle27 hp27 hs)
            obtain ⟨cs27, rfl, ha27⟩ := hp27
            rw [a507] at ha27
            have ha27 : ArrAt 2 h27 cs27 (numsA 1 ([5, 0, 7].map fwF)) := ha27
            obtain ⟨s27, vc27, rfl, ⟨ad27, cap27, rfl, _⟩, hv27⟩ := id ha27
            obtain ⟨wv27, nv27, sm27, il27, fl27, ch27, bx27, ⟨rfl, hoc27⟩, _⟩ := hv27
            have hall27 : (Value.oneCell' (.slice ad27 (ArrD.shape (α := AD 1) (numsA 1 ([5, 0, 7].map fwF))).length cap27) && (vecCells (ArrD.vec (α := AD 1) (numsA 1 ([5, 0, 7].map fwF))).kind wv27 nv27 sm27 il27 fl27 ch27 bx27).all Value.oneCell') = true := by rw [hoc27]; rfl
            have ha16 := ArrAt.mono 2 _ _ _ _ hle27 ha16
            refine RW.nil ?_
            refine heldQ_normal ⟨_, _, 1, 2, hs, rfl, rfl⟩ ?_
            refine HW.takeR (fuel := 4) 8 rfl (fun _ _ ka kb _ hs hka hkb => Y.move rfl) ⟨_, _, 1, 2, hs, rfl, rfl⟩ rfl (by kernel_rfl) (by kernel_rfl) (by kernel_rfl) ?_
            refine HW.takeR (fuel := 3) 9 rfl (fun _ _ ka kb _ hs hka hkb => Y.extract rfl rfl) ⟨_, _, 1, 2, hs, rfl, rfl⟩ rfl (by kernel_rfl) (by kernel_rfl) (by kernel_rfl) ?_
            refine HW.takeR (fuel := 2) 10 rfl (fun _ _ ka kb _ hs hka hkb => Y.extract rfl rfl) ⟨_, _, 1, 2, hs, rfl, rfl⟩ rfl (by kernel_rfl) (by kernel_rfl) (by kernel_rfl) ?_
            refine HW.one (fuel := 1) 12 rfl (by kernel_rfl) ?_
            refine RW.storeAll T hs 0 rfl rfl rfl rfl rfl rfl hall27 rfl ?_
            intro w31 hs
            refine RW.nil ?_
            refine heldQ_normal ⟨_, _, 1, 2, hs, rfl, rfl⟩ ?_
            refine HW.takeR (fuel := 0) 13 rfl (fun _ _ ka kb _ hs hka hkb => Y.assign rfl) ⟨_, _, 1, 2, hs, rfl, rfl⟩ rfl (by kernel_rfl) (by kernel_rfl) (by kernel_rfl) ?_
            refine HW.done (by kernel_rfl) ?_
            refine calmQ_normal ?_
            exact joinQ_meet (b30, _, h27) ⟨rfl, rfl, rfl, rfl, rfl, trivial⟩ ⟨ha16, ha27, hs⟩
        · (refine RW.call T hs rfl rfl rfl (refOne_con (α := PD 1) (R := PlainAt 1) 0 _ _ (by decide)) ?_; intro v h25 w25 hle25 hp25 hs)
          obtain ⟨cs25, rfl, hq25⟩ := hp25
          have ha3 := ArrAt.mono 2 _ _ _ _ hle25 ha3
          have ha16 := ArrAt.mono 2 _ _ _ _ hle25 ha16
          have ha22 := ArrAt.mono 2 _ _ _ _ hle25 ha22
          refine RW.nil ?_
          refine heldQ_normal ⟨_, _, 0, 1, hs, rfl, rfl⟩ ?_
          refine HW.three (fuel := 8) 4 6 11 rfl rfl rfl (by kernel_rfl) ?_ ?_ ?_
          · (refine RW.lit T hs (vs := [.agg (.bool false :: .slice ad22 (ArrD.shape (α := AD 1) (numA 1 (fwF 2))).length cap22 :: vecCells (ArrD.vec (α := AD 1) (numA 1 (fwF 2))).kind wv22 nv22 sm22 il22 fl22 ch22 bx22).toArray]) (cs := (.bool false :: .slice ad22 (ArrD.shape (α := AD 1) (numA 1 (fwF 2))).length cap22 :: vecCells (ArrD.vec (α := AD 1) (numA 1 (fwF 2))).kind wv22 nv22 sm22 il22 fl22 ch22 bx22)) rfl rfl rfl rfl (by simp [Value.cells, vecCells]) rfl rfl rfl rfl rfl ?_; intro b24 w24 hs)
            obtain ⟨h24, hle24, hs, hS24⟩ := hs.freeze
            have ha3 := ArrAt.mono 2 _ _ _ _ hle24 ha3
            have ha16 := ArrAt.mono 2 _ _ _ _ hle24 ha16
            have ha22 := ArrAt.mono 2 _ _ _ _ hle24 ha22
            have hq25 := PlainAt.mono 2 _ _ _ _ hle24 hq25
            refine RW.nil ?_
            refine heldQ_normal ⟨_, _, 0, 1, hs, rfl, rfl⟩ ?_
            refine HW.two (fuel := 7) 6 11 rfl rfl (by kernel_rfl) ?_ ?_
            · (refine RW.call T hs rfl rfl rfl (of07_con 2 _ (numQ 1 0) _ _ hq25 (numQ_chk 1 _ tidy0.2.1)) ?_; intro v h26 w26 hle26 hp26 hs)
              obtain ⟨cs26, rfl, _, _, ha26⟩ := hp26
              rw [arr0] at ha26
              have ha3 := ArrAt.mono 2 _ _ _ _ hle26 ha3
              have ha16 := ArrAt.mono 2 _ _ _ _ hle26 ha16
              have ha22 := ArrAt.mono 2 _ _ _ _ hle26 ha22
              have hS24 := hS24.mono hle26
              refine RW.nil ?_
              refine heldQ_normal ⟨_, _, 0, 1, hs, rfl, rfl⟩ ?_
              refine HW.two (fuel := 6) 7 11 rfl rfl (by kernel_rfl) ?_ ?_
              · (refine RW.call T hs rfl rfl rfl (indexSet_con (ArrAt.mono 1) (ArrAt.one 1) (ArrAt.siz 1) (blankA 0) (fun w h => flatBlank_con (ArrAt.mono 0) (ArrAt.one 0) w h) _ _ (numsA 1 ([5, 6, 7].map fwF)) (numA 1 (fwF 0)) (numA 1 (fwF 2)) b24 1 3 _ 1 99 1 0 _ _ ha3 ha26 rfl rfl k567 (by decide) rfl hS24 ha22 (e_one 2 (by omega)) (by decide) (by decide) (by decide) ⟨by decide, by decide⟩ r2 (by decide) (by decide) j507.1 vk507 vl507 n507) ?_; intro v h27 w27 hle27 hp27 hs)
                obtain ⟨cs27, rfl, ha27⟩ := hp27
                rw [a507] at ha27
                have ha27 : ArrAt 2 h27 cs27 (numsA 1 ([5, 0, 7].map fwF)) := ha27
                obtain ⟨s27, vc27, rfl, ⟨ad27, cap27, rfl, _⟩, hv27⟩ := id ha27
                obtain ⟨wv27, nv27, sm27, il27, fl27, ch27, bx27, ⟨rfl, hoc27⟩, _⟩ := hv27
                have hall27 : (Value.oneCell' (.slice ad27 (ArrD.shape (α := AD 1) (numsA 1 ([5, 0, 7].map fwF))).length cap27) && (vecCells (ArrD.vec (α := AD 1) (numsA 1 ([5, 0, 7].map fwF))).kind wv27 nv27 sm27 il27 fl27 ch27 bx27).all Value.oneCell') = true := by rw [hoc27]; rfl
                have ha16 := ArrAt.mono 2 _ _ _ _ hle27 ha16
                refine RW.nil ?_
                refine heldQ_normal ⟨_, _, 0, 1, hs, rfl, rfl⟩ ?_
                refine HW.takeR (fuel := 5) 8 rfl (fun _ _ ka kb _ hs hka hkb => Y.move rfl) ⟨_, _, 0, 1, hs, rfl, rfl⟩ rfl (by kernel_rfl) (by kernel_rfl) (by kernel_rfl) ?_
                refine HW.takeR (fuel := 4) 9 rfl (fun _ _ ka kb _ hs hka hkb => Y.extract rfl rfl) ⟨_, _, 0, 1, hs, rfl, rfl⟩ rfl (by kernel_rfl) (by kernel_rfl) (by kernel_rfl) ?_
                refine HW.takeR (fuel := 3) 10 rfl (fun _ _ ka kb _ hs hka hkb => Y.extract rfl rfl) ⟨_, _, 0, 1, hs, rfl, rfl⟩ rfl (by kernel_rfl) (by kernel_rfl) (by kernel_rfl) ?_
                refine HW.one (fuel := 2) 11 rfl (by kernel_rfl) ?_
                (refine RW.allocN T hs rfl rfl rfl rfl ?_; intro b30 w30 hs)
                refine RW.nil ?_
                refine heldQ_normal ⟨_, _, 1, 2, hs, rfl, rfl⟩ ?_
                refine HW.one (fuel := 1) 12 rfl (by kernel_rfl) ?_
                refine RW.storeAll T hs 0 rfl rfl rfl rfl rfl rfl hall27 rfl ?_
                intro w31 hs
                refine RW.nil ?_
                refine heldQ_normal ⟨_, _, 1, 2, hs, rfl, rfl⟩ ?_
                refine HW.takeR (fuel := 0) 13 rfl (fun _ _ ka kb _ hs hka hkb => Y.assign rfl) ⟨_, _, 1, 2, hs, rfl, rfl⟩ rfl (by kernel_rfl) (by kernel_rfl) (by kernel_rfl) ?_
                refine HW.done (by kernel_rfl) ?_
                refine calmQ_normal ?_
                exact joinQ_meet (b30, _, h27) ⟨rfl, rfl, rfl, rfl, rfl, trivial⟩ ⟨ha16, ha27, hs⟩
              · (refine RW.allocN T hs rfl rfl rfl rfl ?_; intro b30 w30 hs)
                refine RW.nil ?_
                refine heldQ_normal ⟨_, _, 1, 2, hs, rfl, rfl⟩ ?_
                refine HW.one (fuel := 5) 7 rfl (by kernel_rfl) ?_
                (refine RW.call T hs rfl rfl rfl (indexSet_con (ArrAt.mono 1) (ArrAt.one 1) (ArrAt.siz 1) (blankA 0) (fun w h => flatBlank_con (ArrAt.mono 0) (ArrAt.one 0) w h) _ _ (numsA 1 ([5, 6, 7].map fwF)) (numA 1 (fwF 0)) (numA 1 (fwF 2)) b24 1 3 _ 1 99 1 0 _ _ ha3 ha26 rfl rfl k567 (by decide) rfl hS24 ha22 (e_one 2 (by omega)) (by decide) (by decide) (by decide) ⟨by decide, by decide⟩ r2 (by decide) (by decide) j507.1 vk507 vl507 n507) ?_; intro v h27 w27 hle27 hp27 hs)
                obtain ⟨cs27, rfl, ha27⟩ := hp27
                rw [a507] at ha27
                have ha27 : ArrAt 2 h27 cs27 (numsA 1 ([5, 0, 7].map fwF)) := ha27
                obtain ⟨s27, vc27, rfl, ⟨ad27, cap27, rfl, _⟩, hv27⟩ := id ha27
                obtain ⟨wv27, nv27, sm27, il27, fl27, ch27, bx27, ⟨rfl, hoc27⟩, _⟩ := hv27
                have hall27 : (Value.oneCell' (.slice ad27 (ArrD.shape (α := AD 1) (numsA 1 ([5, 0, 7].map fwF))).length cap27) && (vecCells (ArrD.vec (α := AD 1) (numsA 1 ([5, 0, 7].map fwF))).kind wv27 nv27 sm27 il27 fl27 ch27 bx27).all Value.oneCell') = true := by rw [hoc27]; rfl
                have ha16 := ArrAt.mono 2 _ _ _ _ hle27 ha16
                refine RW.nil ?_
                refine heldQ_normal ⟨_, _, 1, 2, hs, rfl, rfl⟩ ?_
                refine HW.takeR (fuel := 4) 8 rfl (fun _ _ ka kb _ hs hka hkb => Y.move rfl) ⟨_, _, 1, 2, hs, rfl, rfl⟩ rfl (by kernel_rfl) (by kernel_rfl) (by kernel_rfl) ?_
                refine HW.takeR (fuel := 3) 9 rfl (fun _ _ ka kb _ hs hka hkb => Y.extract rfl rfl) ⟨_, _, 1, 2, hs, rfl, rfl⟩ rfl (by kernel_rfl) (by kernel_rfl) (by kernel_rfl) ?_
                refine HW.takeR (fuel := 2) 10 rfl (fun _ _ ka kb _ hs hka hkb => Y.extract rfl rfl) ⟨_, _, 1, 2, hs, rfl, rfl⟩ rfl (by kernel_rfl) (by kernel_rfl) (by kernel_rfl) ?_
                refine HW.one (fuel := 1) 12 rfl (by kernel_rfl) ?_
                refine RW.storeAll T hs 0 rfl rfl rfl rfl rfl rfl hall27 rfl ?_
                intro w31 hs
                refine RW.nil ?_
                refine heldQ_normal ⟨_, _, 1, 2, hs, rfl, rfl⟩ ?_
                refine HW.takeR (fuel := 0) 13 rfl (fun _ _ ka kb _ hs hka hkb => Y.assign rfl) ⟨_, _, 1, 2, hs, rfl, rfl⟩ rfl (by kernel_rfl) (by kernel_rfl) (by kernel_rfl) ?_
                refine HW.done (by kernel_rfl) ?_
                refine calmQ_normal ?_
                exact joinQ_meet (b30, _, h27) ⟨rfl, rfl, rfl, rfl, rfl, trivial⟩ ⟨ha16, ha27, hs⟩
            · (refine RW.allocN T hs rfl rfl rfl rfl ?_; intro b30 w30 hs)
              refine RW.nil ?_
              refine heldQ_normal ⟨_, _, 1, 2, hs, rfl, rfl⟩ ?_
              refine HW.one (fuel := 6) 6 rfl (by kernel_rfl) ?_
              (refine RW.call T hs rfl rfl rfl (of07_con 2 _ (numQ 1 0) _ _ hq25 (numQ_chk 1 _ tidy0.2.1)) ?_; intro v h26 w26 hle26 hp26 hs)
              obtain ⟨cs26, rfl, _, _, ha26⟩ := hp26
              rw [arr0] at ha26
              have ha3 := ArrAt.mono 2 _ _ _ _ hle26 ha3
              have ha16 := ArrAt.mono 2 _ _ _ _ hle26 ha16
              have ha22 := ArrAt.mono 2 _ _ _ _ hle26 ha22
              have hS24 := hS24.mono hle26
              refine RW.nil ?_
              refine heldQ_normal ⟨_, _, 1, 2, hs, rfl, rfl⟩ ?_
              refine HW.one (fuel := 5) 7 rfl (by kernel_rfl) ?_
              (refine RW.call T hs rfl rfl rfl (indexSet_con (ArrAt.mono 1) (ArrAt.one 1) (ArrAt.siz 1) (blankA 0) (fun w h => flatBlank_con (ArrAt.mono 0) (ArrAt.one 0) w h) _ _ (numsA 1 ([5, 6, 7].map fwF)) (numA 1 (fwF 0)) (numA 1 (fwF 2)) b24 1 3 _ 1 99 1 0 _ _ ha3 ha26 rfl rfl k567 (by decide) rfl hS24 ha22 (e_one 2 (by omega)) (by decide) (by decide) (by decide) ⟨by decide, by decide⟩ r2 (by decide) (by decide) j507.1 vk507 vl507 n507) ?_; intro v h27 w27 hle27 hp27 hs)
              obtain ⟨cs27, rfl, ha27⟩ := hp27
              rw [a507] at ha27
              have ha27 : ArrAt 2 h27 cs27 (numsA 1 ([5, 0, 7].map fwF)) := ha27
              obtain ⟨s27, vc27, rfl, ⟨ad27, cap27, rfl, _⟩, hv27⟩ := id ha27
              obtain ⟨wv27, nv27, sm27, il27, fl27, ch27, bx27, ⟨rfl, hoc27⟩, _⟩ := hv27
              have hall27 : (Value.oneCell' (.slice ad27 (ArrD.shape (α := AD 1) (numsA 1 ([5, 0, 7].map fwF))).length cap27) && (vecCells (ArrD.vec (α := AD 1) (numsA 1 ([5, 0, 7].map fwF))).kind wv27 nv27 sm27 il27 fl27 ch27 bx27).all Value.oneCell') = true := by rw [hoc27]; rfl
              have ha16 := ArrAt.mono 2 _ _ _ _ hle27 ha16
              refine RW.nil ?_
              refine heldQ_normal ⟨_, _, 1, 2, hs, rfl, rfl⟩ ?_
              refine HW.takeR (fuel := 4) 8 rfl (fun _ _ ka kb _ hs hka hkb => Y.move rfl) ⟨_, _, 1, 2, hs, rfl, rfl⟩ rfl (by kernel_rfl) (by kernel_rfl) (by kernel_rfl) ?_
              refine HW.takeR (fuel := 3) 9 rfl (fun _ _ ka kb _ hs hka hkb => Y.extract rfl rfl) ⟨_, _, 1, 2, hs, rfl, rfl⟩ rfl (by kernel_rfl) (by kernel_rfl) (by kernel_rfl) ?_
              refine HW.takeR (fuel := 2) 10 rfl (fun _ _ ka kb _ hs hka hkb => Y.extract rfl rfl) ⟨_, _, 1, 2, hs, rfl, rfl⟩ rfl (by kernel_rfl) (by kernel_rfl) (by kernel_rfl) ?_
              refine HW.one (fuel := 1) 12 rfl (by kernel_rfl) ?_
              refine RW.storeAll T hs 0 rfl rfl rfl rfl rfl rfl hall27 rfl ?_
              intro w31 hs
              refine RW.nil ?_
              refine heldQ_normal ⟨_, _, 1, 2, hs, rfl, rfl⟩ ?_
              refine HW.takeR (fuel := 0) 13 rfl (fun _ _ ka kb _ hs hka hkb => Y.assign rfl) ⟨_, _, 1, 2, hs, rfl, rfl⟩ rfl (by kernel_rfl) (by kernel_rfl) (by kernel_rfl) ?_
              refine HW.done (by kernel_rfl) ?_
              refine calmQ_normal ?_
              exact joinQ_meet (b30, _, h27) ⟨rfl, rfl, rfl, rfl, rfl, trivial⟩ ⟨ha16, ha27, hs⟩
          · (refine RW.call T hs rfl rfl rfl (of07_con 2 _ (numQ 1 0) _ _ hq25 (numQ_chk 1 _ tidy0.2.1)) ?_; intro v h26 w26 hle26 hp26 hs)
            obtain ⟨cs26, rfl, _, _, ha26⟩ := hp26
            rw [arr0] at ha26
            have ha3 := ArrAt.mono 2 _ _ _ _ hle26 ha3
            have ha16 := ArrAt.mono 2 _ _ _ _ hle26 ha16
            have ha22 := ArrAt.mono 2 _ _ _ _ hle26 ha22
            refine RW.nil ?_
            refine heldQ_normal ⟨_, _, 0, 1, hs, rfl, rfl⟩ ?_
            refine HW.two (fuel := 7) 4 11 rfl rfl (by kernel_rfl) ?_ ?_
            · (refine RW.lit T hs (vs := [.agg (.bool false :: .slice ad22 (ArrD.shape (α := AD 1) (numA 1 (fwF 2))).length cap22 :: vecCells (ArrD.vec (α := AD 1) (numA 1 (fwF 2))).kind wv22 nv22 sm22 il22 fl22 ch22 bx22).toArray]) (cs := (.bool false :: .slice ad22 (ArrD.shape (α := AD 1) (numA 1 (fwF 2))).length cap22 :: vecCells (ArrD.vec (α := AD 1) (numA 1 (fwF 2))).kind wv22 nv22 sm22 il22 fl22 ch22 bx22)) rfl rfl rfl rfl (by simp [Value.cells, vecCells]) rfl rfl rfl rfl rfl ?_; intro b24 w24 hs)
              obtain ⟨h24, hle24, hs, hS24⟩ := hs.freeze
              have ha3 := ArrAt.mono 2 _ _ _ _ hle24 ha3
              have ha16 := ArrAt.mono 2 _ _ _ _ hle24 ha16
              have ha22 := ArrAt.mono 2 _ _ _ _ hle24 ha22
              have ha26 := ArrAt.mono 2 _ _ _ _ hle24 ha26
              refine RW.nil ?_
              refine heldQ_normal ⟨_, _, 0, 1, hs, rfl, rfl⟩ ?_
              refine HW.two (fuel := 6) 7 11 rfl rfl (by kernel_rfl) ?_ ?_
              · (refine RW.call T hs rfl rfl rfl (indexSet_con (ArrAt.mono 1) (ArrAt.one 1) (ArrAt.siz 1) (blankA 0) (fun w h => flatBlank_con (ArrAt.mono 0) (ArrAt.one 0) w h) _ _ (numsA 1 ([5, 6, 7].map fwF)) (numA 1 (fwF 0)) (numA 1 (fwF 2)) b24 1 3 _ 1 99 1 0 _ _ ha3 ha26 rfl rfl k567 (by decide) rfl hS24 ha22 (e_one 2 (by omega)) (by decide) (by decide) (by decide) ⟨by decide, by decide⟩ r2 (by decide) (by decide) j507.1 vk507 vl507 n507) ?_; intro v h27 w27 hle27 hp27 hs)
                obtain ⟨cs27, rfl, ha27⟩ := hp27
                rw [a507] at ha27
                have ha27 : ArrAt 2 h27 cs27 (numsA 1 ([5, 0, 7].map fwF)) := ha27
                obtain ⟨s27, vc27, rfl, ⟨ad27, cap27, rfl, _⟩, hv27⟩ := id ha27
                obtain ⟨wv27, nv27, sm27, il27, fl27, ch27, bx27, ⟨rfl, hoc27⟩, _⟩ := hv27
                have hall27 : (Value.oneCell' (.slice ad27 (ArrD.shape (α := AD 1) (numsA 1 ([5, 0, 7].map fwF))).length cap27) && (vecCells (ArrD.vec (α := AD 1) (numsA 1 ([5, 0, 7].map fwF))).kind wv27 nv27 sm27 il27 fl27 ch27 bx27).all Value.oneCell') = true := by rw [hoc27]; rfl
                have ha16 := ArrAt.mono 2 _ _ _ _ hle27 ha16
                refine RW.nil ?_
                refine heldQ_normal ⟨_, _, 0, 1, hs, rfl, rfl⟩ ?_
                refine HW.takeR (fuel := 5) 8 rfl (fun _ _ ka kb _ hs hka hkb => Y.move rfl) ⟨_, _, 0, 1, hs, rfl, rfl⟩ rfl (by kernel_rfl) (by kernel_rfl) (by kernel_rfl) ?_
                refine HW.takeR (fuel := 4) 9 rfl (fun _ _ ka kb _ hs hka hkb => Y.extract rfl rfl) ⟨_, _, 0, 1, hs, rfl, rfl⟩ rfl (by kernel_rfl) (by kernel_rfl) (by kernel_rfl) ?_
                refine HW.takeR (fuel := 3) 10 rfl (fun _ _ ka kb _ hs hka hkb => Y.extract rfl rfl) ⟨_, _, 0, 1, hs, rfl, rfl⟩ rfl (by kernel_rfl) (by kernel_rfl) (by kernel_rfl) ?_
                refine HW.one (fuel := 2) 11 rfl (by kernel_rfl) ?_
                (refine RW.allocN T hs rfl rfl rfl rfl ?_; intro b30 w30 hs)
                refine RW.nil ?_
                refine heldQ_normal ⟨_, _, 1, 2, hs, rfl, rfl⟩ ?_
                refine HW.one (fuel := 1) 12 rfl (by kernel_rfl) ?_
                refine RW.storeAll T hs 0 rfl rfl rfl rfl rfl rfl hall27 rfl ?_
                intro w31 hs
                refine RW.nil ?_
                refine heldQ_normal ⟨_, _, 1, 2, hs, rfl, rfl⟩ ?_
                refine HW.takeR (fuel := 0) 13 rfl (fun _ _ ka kb _ hs hka hkb => Y.assign rfl) ⟨_, _, 1, 2, hs, rfl, rfl⟩ rfl (by kernel_rfl) (by kernel_rfl) (by kernel_rfl) ?_
                refine HW.done (by kernel_rfl) ?_
                refine calmQ_normal ?_
                exact joinQ_meet (b30, _, h27) ⟨rfl, rfl, rfl, rfl, rfl, trivial⟩ ⟨ha16, ha27, hs⟩
              · (refine RW.allocN T hs rfl rfl rfl rfl ?_; intro b30 w30 hs)
                refine RW.nil ?_
                refine heldQ_normal ⟨_, _, 1, 2, hs, rfl, rfl⟩ ?_
                refine HW.one (fuel := 5) 7 rfl (by kernel_rfl) ?_
                (refine RW.call T hs rfl rfl rfl (indexSet_con (ArrAt.mono 1) (ArrAt.one 1) (ArrAt.siz 1) (blankA 0) (fun w h => flatBlank_con (ArrAt.mono 0) (ArrAt.one 0) w h) _ _ (numsA 1 ([5, 6, 7].map fwF)) (numA 1 (fwF 0)) (numA 1 (fwF 2)) b24 1 3 _ 1 99 1 0 _ _ ha3 ha26 rfl rfl k567 (by decide) rfl hS24 ha22 (e_one 2 (by omega)) (by decide) (by decide) (by decide) ⟨by decide, by decide⟩ r2 (by decide) (by decide) j507.1 vk507 vl507 n507) ?_; intro v h27 w27 hle27 hp27 hs)
                obtain ⟨cs27, rfl, ha27⟩ := hp27
                rw [a507] at ha27
                have ha27 : ArrAt 2 h27 cs27 (numsA 1 ([5, 0, 7].map fwF)) := ha27
                obtain ⟨s27, vc27, rfl, ⟨ad27, cap27, rfl, _⟩, hv27⟩ := id ha27
                obtain ⟨wv27, nv27, sm27, il27, fl27, ch27, bx27, ⟨rfl, hoc27⟩, _⟩ := hv27
                have hall27 : (Value.oneCell' (.slice ad27 (ArrD.shape (α := AD 1) (numsA 1 ([5, 0, 7].map fwF))).length cap27) && (vecCells (ArrD.vec (α := AD 1) (numsA 1 ([5, 0, 7].map fwF))).kind wv27 nv27 sm27 il27 fl27 ch27 bx27).all Value.oneCell') = true := by rw [hoc27]; rfl
                have ha16 := ArrAt.mono 2 _ _ _ _ hle27 ha16
                refine RW.nil ?_
                refine heldQ_normal ⟨_, _, 1, 2, hs, rfl, rfl⟩ ?_
                refine HW.takeR (fuel := 4) 8 rfl (fun _ _ ka kb _ hs hka hkb => Y.move rfl) ⟨_, _, 1, 2, hs, rfl, rfl⟩ rfl (by kernel_rfl) (by kernel_rfl) (by kernel_rfl) ?_
                refine HW.takeR (fuel := 3) 9 rfl (fun _ _ ka kb _ hs hka hkb => Y.extract rfl rfl) ⟨_, _, 1, 2, hs, rfl, rfl⟩ rfl (by kernel_rfl) (by kernel_rfl) (by kernel_rfl) ?_
                refine HW.takeR (fuel := 2) 10 rfl (fun _ _ ka kb _ hs hka hkb => Y.extract rfl rfl) ⟨_, _, 1, 2, hs, rfl, rfl⟩ rfl (by kernel_rfl) (by kernel_rfl) (by kernel_rfl) ?_
                refine HW.one (fuel := 1) 12 rfl (by kernel_rfl) ?_
                refine RW.storeAll T hs 0 rfl rfl rfl rfl rfl rfl hall27 rfl ?_
                intro w31 hs
                refine RW.nil ?_
                refine heldQ_normal ⟨_, _, 1, 2, hs, rfl, rfl⟩ ?_
                refine HW.takeR (fuel := 0) 13 rfl (fun _ _ ka kb _ hs hka hkb => Y.assign rfl) ⟨_, _, 1, 2, hs, rfl, rfl⟩ rfl (by kernel_rfl) (by kernel_rfl) (by kernel_rfl) ?_
                refine HW.done (by kernel_rfl) ?_
                refine calmQ_normal ?_
                exact joinQ_meet (b30, _, h27) ⟨rfl, rfl, rfl, rfl, rfl, trivial⟩ ⟨ha16, ha27, hs⟩
            · (refine RW.allocN T hs rfl rfl rfl rfl ?_; intro b30 w30 hs)
              refine RW.nil ?_
              refine heldQ_normal ⟨_, _, 1, 2, hs, rfl, rfl⟩ ?_
              refine HW.one (fuel := 6) 4 rfl (by kernel_rfl) ?_
              (refine RW.lit T hs (vs := [.agg (.bool false :: .slice ad22 (ArrD.shape (α := AD 1) (numA 1 (fwF 2))).length cap22 :: vecCells (ArrD.vec (α := AD 1) (numA 1 (fwF 2))).kind wv22 nv22 sm22 il22 fl22 ch22 bx22).toArray]) (cs := (.bool false :: .slice ad22 (ArrD.shape (α := AD 1) (numA 1 (fwF 2))).length cap22 :: vecCells (ArrD.vec (α := AD 1) (numA 1 (fwF 2))).kind wv22 nv22 sm22 il22 fl22 ch22 bx22)) rfl rfl rfl rfl (by simp [Value.cells, vecCells]) rfl rfl rfl rfl rfl ?_; intro b24 w24 hs)
              obtain ⟨h24, hle24, hs, hS24⟩ := hs.freeze
              have ha3 := ArrAt.mono 2 _ _ _ _ hle24 ha3
              have ha16 := ArrAt.mono 2 _ _ _ _ hle24 ha16
              have ha22 := ArrAt.mono 2 _ _ _ _ hle24 ha22
              have ha26 := ArrAt.mono 2 _ _ _ _ hle24 ha26
              refine RW.nil ?_
              refine heldQ_normal ⟨_, _, 1, 2, hs, rfl, rfl⟩ ?_
              refine HW.one (fuel := 5) 7 rfl (by kernel_rfl) ?_
              (refine RW.call T hs rfl rfl rfl (indexSet_con (ArrAt.mono 1) (ArrAt.one 1) (ArrAt.siz 1) (blankA 0) (fun w h => flatBlank_con (ArrAt.mono 0) (ArrAt.one 0) w h) _ _ (numsA 1 ([5, 6, 7].map fwF)) (numA 1 (fwF 0)) (numA 1 (fwF 2)) b24 1 3 _ 1 99 1 0 _ _ ha3 ha26 rfl rfl k567 (by decide) rfl hS24 ha22 (e_one 2 (by omega)) (by decide) (by decide) (by decide) ⟨by decide, by decide⟩ r2 (by decide) (by decide) j507.1 vk507 vl507 n507) ?_; intro v h27 w27 hle27 hp27 hs)
              obtain ⟨cs27, rfl, ha27⟩ := hp27
              rw [a507] at ha27
              have ha27 : ArrAt 2 h27 cs27 (numsA 1 ([5, 0, 7].map fwF)) := ha27
              obtain ⟨s27, vc27, rfl, ⟨ad27, cap27, rfl, _⟩, hv27⟩ := id ha27
              obtain ⟨wv27, nv27, sm27, il27, fl27, ch27, bx27, ⟨rfl, hoc27⟩, _⟩ := hv27
              have hall27 : (Value.oneCell' (.slice ad27 (ArrD.shape (α := AD 1) (numsA 1 ([5, 0, 7].map fwF))).length cap27) && (vecCells (ArrD.vec (α := AD 1) (numsA 1 ([5, 0, 7].map fwF))).kind wv27 nv27 sm27 il27 fl27 ch27 bx27).all Value.oneCell') = true := by rw [hoc27]; rfl
              have ha16 := ArrAt.mono 2 _ _ _ _ hle27 ha16
              refine RW.nil ?_
              refine heldQ_normal ⟨_, _, 1, 2, hs, rfl, rfl⟩ ?_
              refine HW.takeR (fuel := 4) 8 rfl (fun _ _ ka kb _ hs hka hkb => Y.move rfl) ⟨_, _, 1, 2, hs, rfl, rfl⟩ rfl (by kernel_rfl) (by kernel_rfl) (by kernel_rfl) ?_
              refine HW.takeR (fuel := 3) 9 rfl (fun _ _ ka kb _ hs hka hkb => Y.extract rfl rfl) ⟨_, _, 1, 2, hs, rfl, rfl⟩ rfl (by kernel_rfl) (by kernel_rfl) (by kernel_rfl) ?_
              refine HW.takeR (fuel := 2) 10 rfl (fun _ _ ka kb _ hs hka hkb => Y.extract rfl rfl) ⟨_, _, 1, 2, hs, rfl, rfl⟩ rfl (by kernel_rfl) (by kernel_rfl) (by kernel_rfl) ?_
              refine HW.one (fuel := 1) 12 rfl (by kernel_rfl) ?_
              refine RW.storeAll T hs 0 rfl rfl rfl rfl rfl rfl hall27 rfl ?_
              intro w31 hs
              refine RW.nil ?_
              refine heldQ_normal ⟨_, _, 1, 2, hs, rfl, rfl⟩ ?_
              refine HW.takeR (fuel := 0) 13 rfl (fun _ _ ka kb _ hs hka hkb => Y.assign rfl) ⟨_, _, 1, 2, hs, rfl, rfl⟩ rfl (by kernel_rfl) (by kernel_rfl) (by kernel_rfl) ?_
              refine HW.done (by kernel_rfl) ?_
              refine calmQ_normal ?_
              exact joinQ_meet (b30, _, h27) ⟨rfl, rfl, rfl, rfl, rfl, trivial⟩ ⟨ha16, ha27, hs⟩
          · (refine RW.allocN T hs rfl rfl rfl rfl ?_; intro b30 w30 hs)
            refine RW.nil ?_
            refine heldQ_normal ⟨_, _, 1, 2, hs, rfl, rfl⟩ ?_
            refine HW.two (fuel := 7) 4 6 rfl rfl (by kernel_rfl) ?_ ?_
            · (refine RW.lit T hs (vs := [.agg (.bool false :: .slice ad22 (ArrD.shape (α := AD 1) (numA 1 (fwF 2))).length cap22 :: vecCells (ArrD.vec (α := AD 1) (numA 1 (fwF 2))).kind wv22 nv22 sm22 il22 fl22 ch22 bx22).toArray]) (cs := (.bool false :: .slice ad22 (ArrD.shape (α := AD 1) (numA 1 (fwF 2))).length cap22 :: vecCells (ArrD.vec (α := AD 1) (numA 1 (fwF 2))).kind wv22 nv22 sm22 il22 fl22 ch22 bx22)) rfl rfl rfl rfl (by simp [Value.cells, vecCells]) rfl rfl rfl rfl rfl ?_; intro b24 w24 hs)
              obtain ⟨h24, hle24, hs, hS24⟩ := hs.freeze
              have ha3 := ArrAt.mono 2 _ _ _ _ hle24 ha3
              have ha16 := ArrAt.mono 2 _ _ _ _ hle24 ha16
              have ha22 := ArrAt.mono 2 _ _ _ _ hle24 ha22
              have hq25 := PlainAt.mono 2 _ _ _ _ hle24 hq25
              refine RW.nil ?_
              refine heldQ_normal ⟨_, _, 1, 2, hs, rfl, rfl⟩ ?_
              refine HW.one (fuel := 6) 6 rfl (by kernel_rfl) ?_
              (refine RW.call T hs rfl rfl rfl (of07_con 2 _ (numQ 1 0) _ _ hq25 (numQ_chk 1 _ tidy0.2.1)) ?_; intro v h26 w26 hle26 hp26 hs)
              obtain ⟨cs26, rfl, _, _, ha26⟩ := hp26
              rw [arr0] at ha26
              have ha3 := ArrAt.mono 2 _ _ _ _ hle26 ha3
              have ha16 := ArrAt.mono 2 _ _ _ _ hle26 ha16
              have ha22 := ArrAt.mono 2 _ _ _ _ hle26 ha22
              have hS24 := hS24.mono hle26
              refine RW.nil ?_
              refine heldQ_normal ⟨_, _, 1, 2, hs, rfl, rfl⟩ ?_
              refine HW.one (fuel := 5) 7 rfl (by kernel_rfl) ?_
              (refine RW.call T hs rfl rfl rfl (indexSet_con (ArrAt.mono 1) (ArrAt.one 1) (ArrAt.siz 1) (blankA 0) (fun w h => flatBlank_con (ArrAt.mono 0) (ArrAt.one 0) w h) _ _ (numsA 1 ([5, 6, 7].map fwF)) (numA 1 (fwF 0)) (numA 1 (fwF 2)) b24 1 3 _ 1 99 1 0 _ _ ha3 ha26 rfl rfl k567 (by decide) rfl hS24 ha22 (e_one 2 (by omega)) (by decide) (by decide) (by decide) ⟨by decide, by decide⟩ r2 (by decide) (by decide) j507.1 vk507 vl507 n507) ?_; intro v h27 w27 hle27 hp27 hs)
              obtain ⟨cs27, rfl, ha27⟩ := hp27
              rw [a507] at ha27
              have ha27 : ArrAt 2 h27 cs27 (numsA 1 ([5, 0, 7].map fwF)) := ha27
              obtain ⟨s27, vc27, rfl, ⟨ad27, cap27, rfl, _⟩, hv27⟩ := id ha27
              obtain ⟨wv27, nv27, sm27, il27, fl27, ch27, bx27, ⟨rfl, hoc27⟩, _⟩ := hv27
              have hall27 : (Value.oneCell' (.slice ad27 (ArrD.shape (α := AD 1) (numsA 1 ([5, 0, 7].map fwF))).length cap27) && (vecCells (ArrD.vec (α := AD 1) (numsA 1 ([5, 0, 7].map fwF))).kind wv27 nv27 sm27 il27 fl27 ch27 bx27).all Value.oneCell') = true := by rw [hoc27]; rfl
              have ha16 := ArrAt.mono 2 _ _ _ _ hle27 ha16
              refine RW.nil ?_
              refine heldQ_normal ⟨_, _, 1, 2, hs, rfl, rfl⟩ ?_
              refine HW.takeR (fuel := 4) 8 rfl (fun _ _ ka kb _ hs hka hkb => Y.move rfl) ⟨_, _, 1, 2, hs, rfl, rfl⟩ rfl (by kernel_rfl) (by kernel_rfl) (by kernel_rfl) ?_
              refine HW.takeR (fuel := 3) 9 rfl (fun _ _ ka kb _ hs hka hkb => Y.extract rfl rfl) ⟨_, _, 1, 2, hs, rfl, rfl⟩ rfl (by kernel_rfl) (by kernel_rfl) (by kernel_rfl) ?_
              refine HW.takeR (fuel := 2) 10 rfl (fun _ _ ka kb _ hs hka hkb => Y.extract rfl rfl) ⟨_, _, 1, 2, hs, rfl, rfl⟩ rfl (by kernel_rfl) (by kernel_rfl) (by kernel_rfl) ?_
              refine HW.one (fuel := 1) 12 rfl (by kernel_rfl) ?_
              refine RW.storeAll T hs 0 rfl rfl rfl rfl rfl rfl hall27 rfl ?_
              intro w31 hs
              refine RW.nil ?_
              refine heldQ_normal ⟨_, _, 1, 2, hs, rfl, rfl⟩ ?_
              refine HW.takeR (fuel := 0) 13 rfl (fun _ _ ka kb _ hs hka hkb => Y.assign rfl) ⟨_, _, 1, 2, hs, rfl, rfl⟩ rfl (by kernel_rfl) (by kernel_rfl) (by kernel_rfl) ?_
              refine HW.done (by kernel_rfl) ?_
              refine calmQ_normal ?_
              exact joinQ_meet (b30, _, h27) ⟨rfl, rfl, rfl, rfl, rfl, trivial⟩ ⟨ha16, ha27, hs⟩
            · (refine RW.call T hs rfl rfl rfl (of07_con 2 _ (numQ 1 0) _ _ hq25 (numQ_chk 1 _ tidy0.2.1)) ?_; intro v h26 w26 hle26 hp26 hs)
              obtain ⟨cs26, rfl, _, _, ha26⟩ := hp26
              rw [arr0] at ha26
              have ha3 := ArrAt.mono 2 _ _ _ _ hle26 ha3
              have ha16 := ArrAt.mono 2 _ _ _ _ hle26 ha16
              have ha22 := ArrAt.mono 2 _ _ _ _ hle26 ha22
              refine RW.nil ?_
              refine heldQ_normal ⟨_, _, 1, 2, hs, rfl, rfl⟩ ?_
              refine HW.one (fuel := 6) 4 rfl (by kernel_rfl) ?_
              (refine RW.lit T hs (vs := [.agg (.bool false :: .slice ad22 (ArrD.shape (α := AD 1) (numA 1 (fwF 2))).length cap22 :: vecCells (ArrD.vec (α := AD 1) (numA 1 (fwF 2))).kind wv22 nv22 sm22 il22 fl22 ch22 bx22).toArray]) (cs := (.bool false :: .slice ad22 (ArrD.shape (α := AD 1) (numA 1 (fwF 2))).length cap22 :: vecCells (ArrD.vec (α := AD 1) (numA 1 (fwF 2))).kind wv22 nv22 sm22 il22 fl22 ch22 bx22)) rfl rfl rfl rfl (by simp [Value.cells, vecCells]) rfl rfl rfl rfl rfl ?_; intro b24 w24 hs)
              obtain ⟨h24, hle24, hs, hS24⟩ := hs.freeze
              have ha3 := ArrAt.mono 2 _ _ _ _ hle24 ha3
              have ha16 := ArrAt.mono 2 _ _ _ _ hle24 ha16
              have ha22 := ArrAt.mono 2 _ _ _ _ hle24 ha22
              have ha26 := ArrAt.mono 2 _ _ _ _ hle24 ha26
              refine RW.nil ?_
              refine heldQ_normal ⟨_, _, 1, 2, hs, rfl, rfl⟩ ?_
              refine HW.one (fuel := 5) 7 rfl (by kernel_rfl) ?_
              (refine RW.call T hs rfl rfl rfl (indexSet_con (ArrAt.mono 1) (ArrAt.one 1) (ArrAt.siz 1) (blankA 0) (fun w h => flatBlank_con (ArrAt.mono 0) (ArrAt.one 0) w h) _ _ (numsA 1 ([5, 6, 7].map fwF)) (numA 1 (fwF 0)) (numA 1 (fwF 2)) b24 1 3 _ 1 99 1 0 _ _ ha3 ha26 rfl rfl k567 (by decide) rfl hS24 ha22 (e_one 2 (by omega)) (by decide) (by decide) (by decide) ⟨by decide, by decide⟩ r2 (by decide) (by decide) j507.1 vk507 vl507 n507) ?_; intro v h27 w27 hle27 hp27 hs)
              obtain ⟨cs27, rfl, ha27⟩ := hp27
              rw [a507] at ha27
              have ha27 : ArrAt 2 h27 cs27 (numsA 1 ([5, 0, 7].map fwF)) := ha27
              obtain ⟨s27, vc27, rfl, ⟨ad27, cap27, rfl, _⟩, hv27⟩ := id ha27
              obtain ⟨wv27, nv27, sm27, il27, fl27, ch27, bx27, ⟨rfl, hoc27⟩, _⟩ := hv27
              have hall27 : (Value.oneCell' (.slice ad27 (ArrD.shape (α := AD 1) (numsA 1 ([5, 0, 7].map fwF))).length cap27) && (vecCells (ArrD.vec (α := AD 1) (numsA 1 ([5, 0, 7].map fwF))).kind wv27 nv27 sm27 il27 fl27 ch27 bx27).all Value.oneCell') = true := by rw [hoc27]; rfl
              have ha16 := ArrAt.mono 2 _ _ _ _ hle27 ha16
              refine RW.nil ?_
              refine heldQ_normal ⟨_, _, 1, 2, hs, rfl, rfl⟩ ?_
              refine HW.takeR (fuel := 4) 8 rfl (fun _ _ ka kb _ hs hka hkb => Y.move rfl) ⟨_, _, 1, 2, hs, rfl, rfl⟩ rfl (by kernel_rfl) (by kernel_rfl) (by kernel_rfl) ?_
              refine HW.takeR (fuel := 3) 9 rfl (fun _ _ ka kb _ hs hka hkb => Y.extract rfl rfl) ⟨_, _, 1, 2, hs, rfl, rfl⟩ rfl (by kernel_rfl) (by kernel_rfl) (by kernel_rfl) ?_
              refine HW.takeR (fuel := 2) 10 rfl (fun _ _ ka kb _ hs hka hkb => Y.extract rfl rfl) ⟨_, _, 1, 2, hs, rfl, rfl⟩ rfl (by kernel_rfl) (by kernel_rfl) (by kernel_rfl) ?_
              refine HW.one (fuel := 1) 12 rfl (by kernel_rfl) ?_
              refine RW.storeAll T hs 0 rfl rfl rfl rfl rfl rfl hall27 rfl ?_
              intro w31 hs
              refine RW.nil ?_
              refine heldQ_normal ⟨_, _, 1, 2, hs, rfl, rfl⟩ ?_
              refine HW.takeR (fuel := 0) 13 rfl (fun _ _ ka kb _ hs hka hkb => Y.assign rfl) ⟨_, _, 1, 2, hs, rfl, rfl⟩ rfl (by kernel_rfl) (by kernel_rfl) (by kernel_rfl) ?_
              refine HW.done (by kernel_rfl) ?_
              refine calmQ_normal ?_
              exact joinQ_meet (b30, _, h27) ⟨rfl, rfl, rfl, rfl, rfl, trivial⟩ ⟨ha16, ha27, hs⟩
        · (refine RW.allocN T hs rfl rfl rfl rfl ?_; intro b30 w30 hs)
          refine RW.nil ?_
          refine heldQ_normal ⟨_, _, 1, 2, hs, rfl, rfl⟩ ?_
          refine HW.two (fuel := 8) 4 5 rfl rfl (by kernel_rfl) ?_ ?_
          · (refine RW.lit T hs (vs := [.agg (.bool false :: .slice ad22 (ArrD.shape (α := AD 1) (numA 1 (fwF 2))).length cap22 :: vecCells (ArrD.vec (α := AD 1) (numA 1 (fwF 2))).kind wv22 nv22 sm22 il22 fl22 ch22 bx22).toArray]) (cs := (.bool false :: .slice ad22 (ArrD.shape (α := AD 1) (numA 1 (fwF 2))).length cap22 :: vecCells (ArrD.vec (α := AD 1) (numA 1 (fwF 2))).kind wv22 nv22 sm22 il22 fl22 ch22 bx22)) rfl rfl rfl rfl (by simp [Value.cells, vecCells]) rfl rfl rfl rfl rfl ?_; intro b24 w24 hs)
            obtain ⟨h24, hle24, hs, hS24⟩ := hs.freeze
            have ha3 := ArrAt.mono 2 _ _ _ _ hle24 ha3
            have ha16 := ArrAt.mono 2 _ _ _ _ hle24 ha16
            have ha22 := ArrAt.mono 2 _ _ _ _ hle24 ha22
            refine RW.nil ?_
            refine heldQ_normal ⟨_, _, 1, 2, hs, rfl, rfl⟩ ?_
            refine HW.one (fuel := 7) 5 rfl (by kernel_rfl) ?_
            (refine RW.call T hs rfl rfl rfl (refOne_con (α := PD 1) (R := PlainAt 1) 0 _ _ (by decide)) ?_; intro v h25 w25 hle25 hp25 hs)
            obtain ⟨cs25, rfl, hq25⟩ := hp25
            have ha3 := ArrAt.mono 2 _ _ _ _ hle25 ha3
            have ha16 := ArrAt.mono 2 _ _ _ _ hle25 ha16
            have ha22 := ArrAt.mono 2 _ _ _ _ hle25 ha22
            have hS24 := hS24.mono hle25
            refine RW.nil ?_
            refine heldQ_normal ⟨_, _, 1, 2, hs, rfl, rfl⟩ ?_
            refine HW.one (fuel := 6) 6 rfl (by kernel_rfl) ?_
            (refine RW.call T hs rfl rfl rfl (of07_con 2 _ (numQ 1 0) _ _ hq25 (numQ_chk 1 _ tidy0.2.1)) ?_; intro v h26 w26 hle26 hp26 hs)
            obtain ⟨cs26, rfl, _, _, ha26⟩ := hp26
            rw [arr0] at ha26
            have ha3 := ArrAt.mono 2 _ _ _ _ hle26 ha3
            have ha16 := ArrAt.mono 2 _ _ _ _ hle26 ha16
            have ha22 := ArrAt.mono 2 _ _ _ _ hle26 ha22
            have hS24 := hS24.mono hle26
            refine RW.nil ?_
            refine heldQ_normal ⟨_, _, 1, 2, hs, rfl, rfl⟩ ?_
            refine HW.one (fuel := 5) 7 rfl (by kernel_rfl) ?_
            (refine RW.call T hs rfl rfl rfl (indexSet_con (ArrAt.mono 1) (ArrAt.one 1) (ArrAt.siz 1) (blankA 0) (fun w h => flatBlank_con (ArrAt.mono 0) (ArrAt.one 0) w h) _ _ (numsA 1 ([5, 6, 7].map fwF)) (numA 1 (fwF 0)) (numA 1 (fwF 2)) b24 1 3 _ 1 99 1 0 _ _ ha3 ha26 rfl rfl k567 (by decide) rfl hS24 ha22 (e_one 2 (by omega)) (by decide) (by decide) (by decide) ⟨by decide, by decide⟩ r2 (by decide) (by decide) j507.1 vk507 vl507 n507) ?_; intro v h27 w27 hle27 hp27 hs)
            obtain ⟨cs27, rfl, ha27⟩ := hp27
            rw [a507] at ha27
            have ha27 : ArrAt 2 h27 cs27 (numsA 1 ([5, 0, 7].map fwF)) := ha27
            obtain ⟨s27, vc27, rfl, ⟨ad27, cap27, rfl, _⟩, hv27⟩ := id ha27
            obtain ⟨wv27, nv27, sm27, il27, fl27, ch27, bx27, ⟨rfl, hoc27⟩, _⟩ := hv27
            have hall27 : (Value.oneCell' (.slice ad27 (ArrD.shape (α := AD 1) (numsA 1 ([5, 0, 7].map fwF))).length cap27) && (vecCells (ArrD.vec (α := AD 1) (numsA 1 ([5, 0, 7].map fwF))).kind wv27 nv27 sm27 il27 fl27 ch27 bx27).all Value.oneCell') = true := by rw [hoc27]; rfl
            have ha16 := ArrAt.mono 2 _ _ _ _ hle27 ha16
            refine RW.nil ?_
            refine heldQ_normal ⟨_, _, 1, 2, hs, rfl, rfl⟩ ?_
            refine HW.takeR (fuel := 4) 8 rfl (fun _ _ ka kb _ hs hka hkb => Y.move rfl) ⟨_, _, 1, 2, hs, rfl, rfl⟩ rfl (by kernel_rfl) (by kernel_rfl) (by kernel_rfl) ?_
            refine HW.takeR (fuel := 3) 9 rfl (fun _ _ ka kb _ hs hka hkb => Y.extract rfl rfl) ⟨_, _, 1, 2, hs, rfl, rfl⟩ rfl (by kernel_rfl) (by kernel_rfl) (by kernel_rfl) ?_
            refine HW.takeR (fuel := 2) 10 rfl (fun _ _ ka kb _ hs hka hkb => Y.extract rfl rfl) ⟨_, _, 1, 2, hs, rfl, rfl⟩ rfl (by kernel_rfl) (by kernel_rfl) (by kernel_rfl) ?_
            refine HW.one (fuel := 1) 12 rfl (by kernel_rfl) ?_
            refine RW.storeAll T hs 0 rfl rfl rfl rfl rfl rfl hall27 rfl ?_
            intro w31 hs
            refine RW.nil ?_
            refine heldQ_normal ⟨_, _, 1, 2, hs, rfl, rfl⟩ ?_
            refine HW.takeR (fuel := 0) 13 rfl (fun _ _ ka kb _ hs hka hkb => Y.assign rfl) ⟨_, _, 1, 2, hs, rfl, rfl⟩ rfl (by kernel_rfl) (by kernel_rfl) (by kernel_rfl) ?_
            refine HW.done (by kernel_rfl) ?_
            refine calmQ_normal ?_
            exact joinQ_meet (b30, _, h27) ⟨rfl, rfl, rfl, rfl, rfl, trivial⟩ ⟨ha16, ha27, hs⟩
          · (refine RW.call T hs rfl rfl rfl (refOne_con (α := PD 1) (R := PlainAt 1) 0 _ _ (by decide)) ?_; intro v h25 w25 hle25 hp25 hs)
            obtain ⟨cs25, rfl, hq25⟩ := hp25
            have ha3 := ArrAt.mono 2 _ _ _ _ hle25 ha3
            have ha16 := ArrAt.mono 2 _ _ _ _ hle25 ha16
            have ha22 := ArrAt.mono 2 _ _ _ _ hle25 ha22
            refine RW.nil ?_
            refine heldQ_normal ⟨_, _, 1, 2, hs, rfl, rfl⟩ ?_
            refine HW.two (fuel := 7) 4 6 rfl rfl (by kernel_rfl) ?_ ?_
            · (refine RW.lit T hs (vs := [.agg (.bool false :: .slice ad22 (ArrD.shape (α := AD 1) (numA 1 (fwF 2))).length cap22 :: vecCells (ArrD.vec (α := AD 1) (numA 1 (fwF 2))).kind wv22 nv22 sm22 il22 fl22 ch22 bx22).toArray]) (cs := (.bool false :: .slice ad22 (ArrD.shape (α := AD 1) (numA 1 (fwF 2))).length cap22 :: vecCells (ArrD.vec (α := AD 1) (numA 1 (fwF 2))).kind wv22 nv22 sm22 il22 fl22 ch22 bx22)) rfl rfl rfl rfl (by simp [Value.cells, vecCells]) rfl rfl rfl rfl rfl ?_; intro b24 w24 hs)
              obtain ⟨h24, hle24, hs, hS24⟩ := hs.freeze
              have ha3 := ArrAt.mono 2 _ _ _ _ hle24 ha3
              have ha16 := ArrAt.mono 2 _ _ _ _ hle24 ha16
              have ha22 := ArrAt.mono 2 _ _ _ _ hle24 ha22
              have hq25 := PlainAt.mono 2 _ _ _ _ hle24 hq25
              refine RW.nil ?_
              refine heldQ_normal ⟨_, _, 1, 2, hs, rfl, rfl⟩ ?_
              refine HW.one (fuel := 6) 6 rfl (by kernel_rfl) ?_
              (refine RW.call T hs rfl rfl rfl (of07_con 2 _ (numQ 1 0) _ _ hq25 (numQ_chk 1 _ tidy0.2.1)) ?_; intro v h26 w26 hle26 hp26 hs)
              obtain ⟨cs26, rfl, _, _, ha26⟩ := hp26
              rw [arr0] at ha26
              have ha3 := ArrAt.mono 2 _ _ _ _ hle26 ha3
              have ha16 := ArrAt.mono 2 _ _ _ _ hle26 ha16
              have ha22 := ArrAt.mono 2 _ _ _ _ hle26 ha22
              have hS24 := hS24.mono hle26
              refine RW.nil ?_
              refine heldQ_normal ⟨_, _, 1, 2, hs, rfl, rfl⟩ ?_
              refine HW.one (fuel := 5) 7 rfl (by kernel_rfl) ?_
              (refine RW.call T hs rfl rfl rfl (indexSet_con (ArrAt.mono 1) (ArrAt.one 1) (ArrAt.siz 1) (blankA 0) (fun w h => flatBlank_con (ArrAt.mono 0) (ArrAt.one 0) w h) _ _ (numsA 1 ([5, 6, 7].map fwF)) (numA 1 (fwF 0)) (numA 1 (fwF 2)) b24 1 3 _ 1 99 1 0 _ _ ha3 ha26 rfl rfl k567 (by decide) rfl hS24 ha22 (e_one 2 (by omega)) (by decide) (by decide) (by decide) ⟨by decide, by decide⟩ r2 (by decide) (by decide) j507.1 vk507 vl507 n507) ?_; intro v h27 w27 hle27 hp27 hs)
              obtain ⟨cs27, rfl, ha27⟩ := hp27
              rw [a507] at ha27
              have ha27 : ArrAt 2 h27 cs27 (numsA 1 ([5, 0, 7].map fwF)) := ha27
              obtain ⟨s27, vc27, rfl, ⟨ad27, cap27, rfl, _⟩, hv27⟩ := id ha27
              obtain ⟨wv27, nv27, sm27, il27, fl27, ch27, bx27, ⟨rfl, hoc27⟩, _⟩ := hv27
              have hall27 : (Value.oneCell' (.slice ad27 (ArrD.shape (α := AD 1) (numsA 1 ([5, 0, 7].map fwF))).length cap27) && (vecCells (ArrD.vec (α := AD 1) (numsA 1 ([5, 0, 7].map fwF))).kind wv27 nv27 sm27 il27 fl27 ch27 bx27).all Value.oneCell') = true := by rw [hoc27]; rfl
              have ha16 := ArrAt.mono 2 _ _ _ _ hle27 ha16
              refine RW.nil ?_
              refine heldQ_normal ⟨_, _, 1, 2, hs, rfl, rfl⟩ ?_
              refine HW.takeR (fuel := 4) 8 rfl (fun _ _ ka kb _ hs hka hkb => Y.move rfl) ⟨_, _, 1, 2, hs, rfl, rfl⟩ rfl (by kernel_rfl) (by kernel_rfl) (by kernel_rfl) ?_
              refine HW.takeR (fuel := 3) 9 rfl (fun _ _ ka kb _ hs hka hkb => Y.extract rfl rfl) ⟨_, _, 1, 2, hs, rfl, rfl⟩ rfl (by kernel_rfl) (by kernel_rfl) (by kernel_rfl) ?_
              refine HW.takeR (fuel := 2) 10 rfl (fun _ _ ka kb _ hs hka hkb => Y.extract rfl rfl) ⟨_, _, 1, 2, hs, rfl, rfl⟩ rfl (by kernel_rfl) (by kernel_rfl) (by kernel_rfl) ?_
              refine HW.one (fuel := 1) 12 rfl (by kernel_rfl) ?_
              refine RW.storeAll T hs 0 rfl rfl rfl rfl rfl rfl hall27 rfl ?_
              intro w31 hs
              refine RW.nil ?_
              refine heldQ_normal ⟨_, _, 1, 2, hs, rfl, rfl⟩ ?_
              refine HW.takeR (fuel := 0) 13 rfl (fun _ _ ka kb _ hs hka hkb => Y.assign rfl) ⟨_, _, 1, 2, hs, rfl, rfl⟩ rfl (by kernel_rfl) (by kernel_rfl) (by kernel_rfl) ?_
              refine HW.done (by kernel_rfl) ?_
              refine calmQ_normal ?_
              exact joinQ_meet (b30, _, h27) ⟨rfl, rfl, rfl, rfl, rfl, trivial⟩ ⟨ha16, ha27, hs⟩
            · (refine RW.call T hs rfl rfl rfl (of07_con 2 _ (numQ 1 0) _ _ hq25 (numQ_chk 1 _ tidy0.2.1)) ?_; intro v h26 w26 hle26 hp26 hs)
              obtain ⟨cs26, rfl, _, _, ha26⟩ := hp26
              rw [arr0] at ha26
              have ha3 := ArrAt.mono 2 _ _ _ _ hle26 ha3
              have ha16 := ArrAt.mono 2 _ _ _ _ hle26 ha16
              have ha22 := ArrAt.mono 2 _ _ _ _ hle26 ha22
              refine RW.nil ?_
              refine heldQ_normal ⟨_, _, 1, 2, hs, rfl, rfl⟩ ?_
              refine HW.one (fuel := 6) 4 rfl (by kernel_rfl) ?_
              (refine RW.lit T hs (vs := [.agg (.bool false :: .slice ad22 (ArrD.shape (α := AD 1) (numA 1 (fwF 2))).length cap22 :: vecCells (ArrD.vec (α := AD 1) (numA 1 (fwF 2))).kind wv22 nv22 sm22 il22 fl22 ch22 bx22).toArray]) (cs := (.bool false :: .slice ad22 (ArrD.shape (α := AD 1) (numA 1 (fwF 2))).length cap22 :: vecCells (ArrD.vec (α := AD 1) (numA 1 (fwF 2))).kind wv22 nv22 sm22 il22 fl22 ch22 bx22)) rfl rfl rfl rfl (by simp [Value.cells, vecCells]) rfl rfl rfl rfl rfl ?_; intro b24 w24 hs)
              obtain ⟨h24, hle24, hs, hS24⟩ := hs.freeze
              have ha3 := ArrAt.mono 2 _ _ _ _ hle24 ha3
              have ha16 := ArrAt.mono 2 _ _ _ _ hle24 ha16
              have ha22 := ArrAt.mono 2 _ _ _ _ hle24 ha22
              have ha26 := ArrAt.mono 2 _ _ _ _ hle24 ha26
              refine RW.nil ?_
              refine heldQ_normal ⟨_, _, 1, 2, hs, rfl, rfl⟩ ?_
              refine HW.one (fuel := 5) 7 rfl (by kernel_rfl) ?_
              (refine RW.call T hs rfl rfl rfl (indexSet_con (ArrAt.mono 1) (ArrAt.one 1) (ArrAt.siz 1) (blankA 0) (fun w h => flatBlank_con (ArrAt.mono 0) (ArrAt.one 0) w h) _ _ (numsA 1 ([5, 6, 7].map fwF)) (numA 1 (fwF 0)) (numA 1 (fwF 2)) b24 1 3 _ 1 99 1 0 _ _ ha3 ha26 rfl rfl k567 (by decide) rfl hS24 ha22 (e_one 2 (by omega)) (by decide) (by decide) (by decide) ⟨by decide, by decide⟩ r2 (by decide) (by decide) j507.1 vk507 vl507 n507) ?_; intro v h27 w27 hle27 hp27 hs)
              obtain ⟨cs27, rfl, ha27⟩ := hp27
              rw [a507] at ha27
              have ha27 : ArrAt 2 h27 cs27 (numsA 1 ([5, 0, 7].map fwF)) := ha27
              obtain ⟨s27, vc27, rfl, ⟨ad27, cap27, rfl, _⟩, hv27⟩ := id ha27
              obtain ⟨wv27, nv27, sm27, il27, fl27, ch27, bx27, ⟨rfl, hoc27⟩, _⟩ := hv27
              have hall27 : (Value.oneCell' (.slice ad27 (ArrD.shape (α := AD 1) (numsA 1 ([5, 0, 7].map fwF))).length cap27) && (vecCells (ArrD.vec (α := AD 1) (numsA 1 ([5, 0, 7].map fwF))).kind wv27 nv27 sm27 il27 fl27 ch27 bx27).all Value.oneCell') = true := by rw [hoc27]; rfl
              have ha16 := ArrAt.mono 2 _ _ _ _ hle27 ha16
              refine RW.nil ?_
              refine heldQ_normal ⟨_, _, 1, 2, hs, rfl, rfl⟩ ?_
              refine HW.takeR (fuel := 4) 8 rfl (fun _ _ ka kb _ hs hka hkb => Y.move rfl) ⟨_, _, 1, 2, hs, rfl, rfl⟩ rfl (by kernel_rfl) (by kernel_rfl) (by kernel_rfl) ?_
              refine HW.takeR (fuel := 3) 9 rfl (fun _ _ ka kb _ hs hka hkb => Y.extract rfl rfl) ⟨_, _, 1, 2, hs, rfl, rfl⟩ rfl (by kernel_rfl) (by kernel_rfl) (by kernel_rfl) ?_
              refine HW.takeR (fuel := 2) 10 rfl (fun _ _ ka kb _ hs hka hkb => Y.extract rfl rfl) ⟨_, _, 1, 2, hs, rfl, rfl⟩ rfl (by kernel_rfl) (by kernel_rfl) (by kernel_rfl) ?_
              refine HW.one (fuel := 1) 12 rfl (by kernel_rfl) ?_
              refine RW.storeAll T hs 0 rfl rfl rfl rfl rfl rfl hall27 rfl ?_
              intro w31 hs
              refine RW.nil ?_
              refine heldQ_normal ⟨_, _, 1, 2, hs, rfl, rfl⟩ ?_
              refine HW.takeR (fuel := 0) 13 rfl (fun _ _ ka kb _ hs hka hkb => Y.assign rfl) ⟨_, _, 1, 2, hs, rfl, rfl⟩ rfl (by kernel_rfl) (by kernel_rfl) (by kernel_rfl) ?_
              refine HW.done (by kernel_rfl) ?_
              refine calmQ_normal ?_
              exact joinQ_meet (b30, _, h27) ⟨rfl, rfl, rfl, rfl, rfl, trivial⟩ ⟨ha16, ha27, hs⟩
      · (refine RW.allocN T hs rfl rfl rfl rfl ?_; intro b30 w30 hs)
        refine RW.nil ?_
        refine heldQ_normal ⟨_, _, 1, 2, hs, rfl, rfl⟩ ?_
        refine HW.one (fuel := 10) 2 rfl (by kernel_rfl) ?_
        (refine RW.call T hs rfl rfl rfl (of07_con 2 _ (numQ 1 4611686018427387904) _ _ hq21 (numQ_chk 1 _ fin2)) ?_; intro v h22 w22 hle22 hp22 hs)
        obtain ⟨cs22, rfl, _, _, ha22⟩ := hp22
        rw [arr2] at ha22
        obtain ⟨s22, vc22, rfl, ⟨ad22, cap22, rfl, _⟩, hv22⟩ := id ha22
        obtain ⟨wv22, nv22, sm22, il22, fl22, ch22, bx22, ⟨rfl, hoc22⟩, _⟩ := hv22
        have hall22 : (Value.oneCell' (.slice ad22 (ArrD.shape (α := AD 1) (numA 1 (fwF 2))).length cap22) && (vecCells (ArrD.vec (α := AD 1) (numA 1 (fwF 2))).kind wv22 nv22 sm22 il22 fl22 ch22 bx22).all Value.oneCell') = true := by rw [hoc22]; rfl
        have ha3 := ArrAt.mono 2 _ _ _ _ hle22 ha3
        have ha16 := ArrAt.mono 2 _ _ _ _ hle22 ha16
        refine RW.nil ?_
        refine heldQ_normal ⟨_, _, 1, 2, hs, rfl, rfl⟩ ?_
        refine HW.takeR (fuel := 9) 3 rfl (fun _ _ ka kb _ hs hka hkb => Y.build T rfl rfl rfl rfl rfl rfl rfl) ⟨_, _, 1, 2, hs, rfl, rfl⟩ rfl (by kernel_rfl) (by kernel_rfl) (by kernel_rfl) ?_
        refine HW.two (fuel := 8) 4 5 rfl rfl (by kernel_rfl) ?_ ?_
        · (refine RW.lit T hs (vs := [.agg (.bool false :: .slice ad22 (ArrD.shape (α := AD 1) (numA 1 (fwF 2))).length cap22 :: vecCells (ArrD.vec (α := AD 1) (numA 1 (fwF 2))).kind wv22 nv22 sm22 il22 fl22 ch22 bx22).toArray]) (cs := (.bool false :: .slice ad22 (ArrD.shape (α := AD 1) (numA 1 (fwF 2))).length cap22 :: vecCells (ArrD.vec (α := AD 1) (numA 1 (fwF 2))).kind wv22 nv22 sm22 il22 fl22 ch22 bx22)) rfl rfl rfl rfl (by simp [Value.cells, vecCells]) rfl rfl rfl rfl rfl ?_; intro b24 w24 hs)
          obtain ⟨h24, hle24, hs, hS24⟩ := hs.freeze
          have ha3 := ArrAt.mono 2 _ _ _ _ hle24 ha3
          have ha16 := ArrAt.mono 2 _ _ _ _ hle24 ha16
          have ha22 := ArrAt.mono 2 _ _ _ _ hle24 ha22
          refine RW.nil ?_
          refine heldQ_normal ⟨_, _, 1, 2, hs, rfl, rfl⟩ ?_
          refine HW.one (fuel := 7) 5 rfl (by kernel_rfl) ?_
          (refine RW.call T hs rfl rfl rfl (refOne_con (α := PD 1) (R := PlainAt 1) 0 _ _ (by decide)) ?_; intro v h25 w25 hle25 hp25 hs)
          obtain ⟨cs25, rfl, hq25⟩ := hp25
          have ha3 := ArrAt.mono 2 _ _ _ _ hle25 ha3
          have ha16 := ArrAt.mono 2 _ _ _ _ hle25 ha16
          have ha22 := ArrAt.mono 2 _ _ _ _ hle25 ha22
          have hS24 := hS24.mono hle25
          refine RW.nil ?_
          refine heldQ_normal ⟨_, _, 1, 2, hs, rfl, rfl⟩ ?_
          refine HW.one (fuel := 6) 6 rfl (by kernel_rfl) ?_
          (refine RW.call T hs rfl rfl rfl (of07_con 2 _ (numQ 1 0) _ _ hq25 (numQ_chk 1 _ tidy0.2.1)) ?_; intro v h26 w26 hle26 hp26 hs)
          obtain ⟨cs26, rfl, _, _, ha26⟩ := hp26
          rw [arr0] at ha26
          have ha3 := ArrAt.mono 2 _ _ _ _ hle26 ha3
          have ha16 := ArrAt.mono 2 _ _ _ _ hle26 ha16
          have ha22 := ArrAt.mono 2 _ _ _ _ hle26 ha22
          have hS24 := hS24.mono hle26
          refine RW.nil ?_
          refine heldQ_normal ⟨_, _, 1, 2, hs, rfl, rfl⟩ ?_
          refine HW.one (fuel := 5) 7 rfl (by kernel_rfl) ?_
          (refine RW.call T hs rfl rfl rfl (indexSet_con (ArrAt.mono 1) (ArrAt.one 1) (ArrAt.siz 1) (blankA 0) (fun w h => flatBlank_con (ArrAt.mono 0) (ArrAt.one 0) w h) _ _ (numsA 1 ([5, 6, 7].map fwF)) (numA 1 (fwF 0)) (numA 1 (fwF 2)) b24 1 3 _ 1 99 1 0 _ _ ha3 ha26 rfl rfl k567 (by decide) rfl hS24 ha22 (e_one 2 (by omega)) (by decide) (by decide) (by decide) ⟨by decide, by decide⟩ r2 (by decide) (by decide) j507.1 vk507 vl507 n507) ?_; intro v h27 w27 hle27 hp27 hs)
          obtain ⟨cs27, rfl, ha27⟩ := hp27
          rw [a507] at ha27
          have ha27 : ArrAt 2 h27 cs27 (numsA 1 ([5, 0, 7].map fwF)) := ha27
          obtain ⟨s27, vc27, rfl, ⟨ad27, cap27, rfl, _⟩, hv27⟩ := id ha27
          obtain ⟨wv27, nv27, sm27, il27, fl27, ch27, bx27, ⟨rfl, hoc27⟩, _⟩ := hv27
          have hall27 : (Value.oneCell' (.slice ad27 (ArrD.shape (α := AD 1) (numsA 1 ([5, 0, 7].map fwF))).length cap27) && (vecCells (ArrD.vec (α := AD 1) (numsA 1 ([5, 0, 7].map fwF))).kind wv27 nv27 sm27 il27 fl27 ch27 bx27).all Value.oneCell') = true := by rw [hoc27]; rfl
          have ha16 := ArrAt.mono 2 _ _ _ _ hle27 ha16
          refine RW.nil ?_
          refine heldQ_normal ⟨_, _, 1, 2, hs, rfl, rfl⟩ ?_
          refine HW.takeR (fuel := 4) 8 rfl (fun _ _ ka kb _ hs hka hkb => Y.move rfl) ⟨_, _, 1, 2, hs, rfl, rfl⟩ rfl (by kernel_rfl) (by kernel_rfl) (by kernel_rfl) ?_
          refine HW.takeR (fuel := 3) 9 rfl (fun _ _ ka kb _ hs hka hkb => Y.extract rfl rfl) ⟨_, _, 1, 2, hs, rfl, rfl⟩ rfl (by kernel_rfl) (by kernel_rfl) (by kernel_rfl) ?_
          refine HW.takeR (fuel := 2) 10 rfl (fun _ _ ka kb _ hs hka hkb => Y.extract rfl rfl) ⟨_, _, 1, 2, hs, rfl, rfl⟩ rfl (by kernel_rfl) (by kernel_rfl) (by kernel_rfl) ?_
          refine HW.one (fuel := 1) 12 rfl (by kernel_rfl) ?_
          refine RW.storeAll T hs 0 rfl rfl rfl rfl rfl rfl hall27 rfl ?_
          intro w31 hs
          refine RW.nil ?_
          refine heldQ_normal ⟨_, _, 1, 2, hs, rfl, rfl⟩ ?_
          refine HW.takeR (fuel := 0) 13 rfl (fun _ _ ka kb _ hs hka hkb => Y.assign rfl) ⟨_, _, 1, 2, hs, rfl, rfl⟩ rfl (by kernel_rfl) (by kernel_rfl) (by kernel_rfl) ?_
          refine HW.done (by kernel_rfl) ?_
          refine calmQ_normal ?_
          exact joinQ_meet (b30, _, h27) ⟨rfl, rfl, rfl, rfl, rfl, trivial⟩ ⟨ha16, ha27, hs⟩
        · (refine RW.call T hs rfl rfl rfl (refOne_con (α := PD 1) (R := PlainAt 1) 0 _ _ (by decide)) ?_; intro v h25 w25 hle25 hp25 hs)
          obtain ⟨cs25, rfl, hq25⟩ := hp25
          have ha3 := ArrAt.mono 2 _ _ _ _ hle25 ha3
          have ha16 := ArrAt.mono 2 _ _ _ _ hle25 ha16
          have ha22 := ArrAt.mono 2 _ _ _ _ hle25 ha22
          refine RW.nil ?_
          refine heldQ_normal ⟨_, _, 1, 2, hs, rfl, rfl⟩ ?_
          refine HW.two (fuel := 7) 4 6 rfl rfl (by kernel_rfl) ?_ ?_
          · (refine RW.lit T hs (vs := [.agg (.bool false :: .slice ad22 (ArrD.shape (α := AD 1) (numA 1 (fwF 2))).length cap22 :: vecCells (ArrD.vec (α := AD 1) (numA 1 (fwF 2))).kind wv22 nv22 sm22 il22 fl22 ch22 bx22).toArray]) (cs := (.bool false :: .slice ad22 (ArrD.shape (α := AD 1) (numA 1 (fwF 2))).length cap22 :: vecCells (ArrD.vec (α := AD 1) (numA 1 (fwF 2))).kind wv22 nv22 sm22 il22 fl22 ch22 bx22)) rfl rfl rfl rfl (by simp [Value.cells, vecCells]) rfl rfl rfl rfl rfl ?_; intro b24 w24 hs)
            obtain ⟨h24, hle24, hs, hS24⟩ := hs.freeze
            have ha3 := ArrAt.mono 2 _ _ _ _ hle24 ha3
            have ha16 := ArrAt.mono 2 _ _ _ _ hle24 ha16
            have ha22 := ArrAt.mono 2 _ _ _ _ hle24 ha22
            have hq25 := PlainAt.mono 2 _ _ _ _ hle24 hq25
            refine RW.nil ?_
            refine heldQ_normal ⟨_, _, 1, 2, hs, rfl, rfl⟩ ?_
            refine HW.one (fuel := 6) 6 rfl (by kernel_rfl) ?_
            (refine RW.call T hs rfl rfl rfl (of07_con 2 _ (numQ 1 0) _ _ hq25 (numQ_chk 1 _ tidy0.2.1)) ?_; intro v h26 w26 hle26 hp26 hs)
            obtain ⟨cs26, rfl, _, _, ha26⟩ := hp26
            rw [arr0] at ha26
            have ha3 := ArrAt.mono 2 _ _ _ _ hle26 ha3
            have ha16 := ArrAt.mono 2 _ _ _ _ hle26 ha16
            have ha22 := ArrAt.mono 2 _ _ _ _ hle26 ha22
            have hS24 := hS24.mono hle26
            refine RW.nil ?_
            refine heldQ_normal ⟨_, _, 1, 2, hs, rfl, rfl⟩ ?_
            refine HW.one (fuel := 5) 7 rfl (by kernel_rfl) ?_
            (refine RW.call T hs rfl rfl rfl (indexSet_con (ArrAt.mono 1) (ArrAt.one 1) (ArrAt.siz 1) (blankA 0) (fun w h => flatBlank_con (ArrAt.mono 0) (ArrAt.one 0) w h) _ _ (numsA 1 ([5, 6, 7].map fwF)) (numA 1 (fwF 0)) (numA 1 (fwF 2)) b24 1 3 _ 1 99 1 0 _ _ ha3 ha26 rfl rfl k567 (by decide) rfl hS24 ha22 (e_one 2 (by omega)) (by decide) (by decide) (by decide) ⟨by decide, by decide⟩ r2 (by decide) (by decide) j507.1 vk507 vl507 n507) ?_; intro v h27 w27 hle27 hp27 hs)
            obtain ⟨cs27, rfl, ha27⟩ := hp27
            rw [a507] at ha27
            have ha27 : ArrAt 2 h27 cs27 (numsA 1 ([5, 0, 7].map fwF)) := ha27
            obtain ⟨s27, vc27, rfl, ⟨ad27, cap27, rfl, _⟩, hv27⟩ := id ha27
            obtain ⟨wv27, nv27, sm27, il27, fl27, ch27, bx27, ⟨rfl, hoc27⟩, _⟩ := hv27
            have hall27 : (Value.oneCell' (.slice ad27 (ArrD.shape (α := AD 1) (numsA 1 ([5, 0, 7].map fwF))).length cap27) && (vecCells (ArrD.vec (α := AD 1) (numsA 1 ([5, 0, 7].map fwF))).kind wv27 nv27 sm27 il27 fl27 ch27 bx27).all Value.oneCell') = true := by rw [hoc27]; rfl
            have ha16 := ArrAt.mono 2 _ _ _ _ hle27 ha16
            refine RW.nil ?_
            refine heldQ_normal ⟨_, _, 1, 2, hs, rfl, rfl⟩ ?_
            refine HW.takeR (fuel := 4) 8 rfl (fun _ _ ka kb _ hs hka hkb => Y.move rfl) ⟨_, _, 1, 2, hs, rfl, rfl⟩ rfl (by kernel_rfl) (by kernel_rfl) (by kernel_rfl) ?_
            refine HW.takeR (fuel := 3) 9 rfl (fun _ _ ka kb _ hs hka hkb => Y.extract rfl rfl) ⟨_, _, 1, 2, hs, rfl, rfl⟩ rfl (by kernel_rfl) (by kernel_rfl) (by kernel_rfl) ?_
            refine HW.takeR (fuel := 2) 10 rfl (fun _ _ ka kb _ hs hka hkb => Y.extract rfl rfl) ⟨_, _, 1, 2, hs, rfl, rfl⟩ rfl (by kernel_rfl) (by kernel_rfl) (by kernel_rfl) ?_
            refine HW.one (fuel := 1) 12 rfl (by kernel_rfl) ?_
            refine RW.storeAll T hs 0 rfl rfl rfl rfl rfl rfl hall27 rfl ?_
            intro w31 hs
            refine RW.nil ?_
            refine heldQ_normal ⟨_, _, 1, 2, hs, rfl, rfl⟩ ?_
            refine HW.takeR (fuel := 0) 13 rfl (fun _ _ ka kb _ hs hka hkb => Y.assign rfl) ⟨_, _, 1, 2, hs, rfl, rfl⟩ rfl (by kernel_rfl) (by kernel_rfl) (by kernel_rfl) ?_
            refine HW.done (by kernel_rfl) ?_
            refine calmQ_normal ?_
            exact joinQ_meet (b30, _, h27) ⟨rfl, rfl, rfl, rfl, rfl, trivial⟩ ⟨ha16, ha27, hs⟩
          · (refine RW.call T hs rfl rfl rfl (of07_con 2 _ (numQ 1 0) _ _ hq25 (numQ_chk 1 _ tidy0.2.1)) ?_; intro v h26 w26 hle26 hp26 hs)
            obtain ⟨cs26, rfl, _, _, ha26⟩ := hp26
            rw [arr0] at ha26
            have ha3 := ArrAt.mono 2 _ _ _ _ hle26 ha3
            have ha16 := ArrAt.mono 2 _ _ _ _ hle26 ha16
            have ha22 := ArrAt.mono 2 _ _ _ _ hle26 ha22
            refine RW.nil ?_
            refine heldQ_normal ⟨_, _, 1, 2, hs, rfl, rfl⟩ ?_
            refine HW.one (fuel := 6) 4 rfl (by kernel_rfl) ?_
            (refine RW.lit T hs (vs := [.agg (.bool false :: .slice ad22 (ArrD.shape (α := AD 1) (numA 1 (fwF 2))).length cap22 :: vecCells (ArrD.vec (α := AD 1) (numA 1 (fwF 2))).kind wv22 nv22 sm22 il22 fl22 ch22 bx22).toArray]) (cs := (.bool false :: .slice ad22 (ArrD.shape (α := AD 1) (numA 1 (fwF 2))).length cap22 :: vecCells (ArrD.vec (α := AD 1) (numA 1 (fwF 2))).kind wv22 nv22 sm22 il22 fl22 ch22 bx22)) rfl rfl rfl rfl (by simp [Value.cells, vecCells]) rfl rfl rfl rfl rfl ?_; intro b24 w24 hs)
            obtain ⟨h24, hle24, hs, hS24⟩ := hs.freeze
            have ha3 := ArrAt.mono 2 _ _ _ _ hle24 ha3
            have ha16 := ArrAt.mono 2 _ _ _ _ hle24 ha16
            have ha22 := ArrAt.mono 2 _ _ _ _ hle24 ha22
            have ha26 := ArrAt.mono 2 _ _ _ _ hle24 ha26
            refine RW.nil ?_
            refine heldQ_normal ⟨_, _, 1, 2, hs, rfl, rfl⟩ ?_
            refine HW.one (fuel := 5) 7 rfl (by kernel_rfl) ?_
            (refine RW.call T hs rfl rfl rfl (indexSet_con (ArrAt.mono 1) (ArrAt.one 1) (ArrAt.siz 1) (blankA 0) (fun w h => flatBlank_con (ArrAt.mono 0) (ArrAt.one 0) w h) _ _ (numsA 1 ([5, 6, 7].map fwF)) (numA 1 (fwF 0)) (numA 1 (fwF 2)) b24 1 3 _ 1 99 1 0 _ _ ha3 ha26 rfl rfl k567 (by decide) rfl hS24 ha22 (e_one 2 (by omega)) (by decide) (by decide) (by decide) ⟨by decide, by decide⟩ r2 (by decide) (by decide) j507.1 vk507 vl507 n507) ?_; intro v h27 w27 hle27 hp27 hs)
            obtain ⟨cs27, rfl, ha27⟩ := hp27
            rw [a507] at ha27
            have ha27 : ArrAt 2 h27 cs27 (numsA 1 ([5, 0, 7].map fwF)) := ha27
            obtain ⟨s27, vc27, rfl, ⟨ad27, cap27, rfl, _⟩, hv27⟩ := id ha27
            obtain ⟨wv27, nv27, sm27, il27, fl27, ch27, bx27, ⟨rfl, hoc27⟩, _⟩ := hv27
            have hall27 : (Value.oneCell' (.slice ad27 (ArrD.shape (α := AD 1) (numsA 1 ([5, 0, 7].map fwF))).length cap27) && (vecCells (ArrD.vec (α := AD 1) (numsA 1 ([5, 0, 7].map fwF))).kind wv27 nv27 sm27 il27 fl27 ch27 bx27).all Value.oneCell') = true := by rw [hoc27]; rfl
            have ha16 := ArrAt.mono 2 _ _ _ _ hle27 ha16
            refine RW.nil ?_
            refine heldQ_normal ⟨_, _, 1, 2, hs, rfl, rfl⟩ ?_
            refine HW.takeR (fuel := 4) 8 rfl (fun _ _ ka kb _ hs hka hkb => Y.move rfl) ⟨_, _, 1, 2, hs, rfl, rfl⟩ rfl (by kernel_rfl) (by kernel_rfl) (by kernel_rfl) ?_
            refine HW.takeR (fuel := 3) 9 rfl (fun _ _ ka kb _ hs hka hkb => Y.extract rfl rfl) ⟨_, _, 1, 2, hs, rfl, rfl⟩ rfl (by kernel_rfl) (by kernel_rfl) (by kernel_rfl) ?_
            refine HW.takeR (fuel := 2) 10 rfl (fun _ _ ka kb _ hs hka hkb => Y.extract rfl rfl) ⟨_, _, 1, 2, hs, rfl, rfl⟩ rfl (by kernel_rfl) (by kernel_rfl) (by kernel_rfl) ?_
            refine HW.one (fuel := 1) 12 rfl (by kernel_rfl) ?_
            refine RW.storeAll T hs 0 rfl rfl rfl rfl rfl rfl hall27 rfl ?_
            intro w31 hs
            refine RW.nil ?_
            refine heldQ_normal ⟨_, _, 1, 2, hs, rfl, rfl⟩ ?_
            refine HW.takeR (fuel := 0) 13 rfl (fun _ _ ka kb _ hs hka hkb => Y.assign rfl) ⟨_, _, 1, 2, hs, rfl, rfl⟩ rfl (by kernel_rfl) (by kernel_rfl) (by kernel_rfl) ?_
            refine HW.done (by kernel_rfl) ?_
            refine calmQ_normal ?_
            exact joinQ_meet (b30, _, h27) ⟨rfl, rfl, rfl, rfl, rfl, trivial⟩ ⟨ha16, ha27, hs⟩
    · (refine RW.allocN T hs rfl rfl rfl rfl ?_; intro b30 w30 hs)
      refine RW.nil ?_
      refine heldQ_normal ⟨_, _, 1, 2, hs, rfl, rfl⟩ ?_
      refine HW.one (fuel := 11) 1 rfl (by kernel_rfl) ?_
      (refine RW.call T hs rfl rfl rfl (refOne_con (α := PD 1) (R := PlainAt 1) 4611686018427387904 _ _ (by decide)) ?_; intro v h21 w21 hle21 hp21 hs)
      obtain ⟨cs21, rfl, hq21⟩ := hp21
      have ha3 := ArrAt.mono 2 _ _ _ _ hle21 ha3
      have ha16 := ArrAt.mono 2 _ _ _ _ hle21 ha16
      refine RW.nil ?_
      refine heldQ_normal ⟨_, _, 1, 2, hs, rfl, rfl⟩ ?_
      refine HW.one (fuel := 10) 2 rfl (by kernel_rfl) ?_
      (refine RW.call T hs rfl rfl rfl (of07_con 2 _ (numQ 1 4611686018427387904) _ _ hq21 (numQ_chk 1 _ fin2)) ?_; intro v h22 w22 hle22 hp22 hs)
      obtain ⟨cs22, rfl, _, _, ha22⟩ := hp22
      rw [arr2] at ha22
      obtain ⟨s22, vc22, rfl, ⟨ad22, cap22, rfl, _⟩, hv22⟩ := id ha22
      obtain ⟨wv22, nv22, sm22, il22, fl22, ch22, bx22, ⟨rfl, hoc22⟩, _⟩ := hv22
      have hall22 : (Value.oneCell' (.slice ad22 (ArrD.shape (α := AD 1) (numA 1 (fwF 2))).length cap22) && (vecCells (ArrD.vec (α := AD 1) (numA 1 (fwF 2))).kind wv22 nv22 sm22 il22 fl22 ch22 bx22).all Value.oneCell') = true := by rw [hoc22]; rfl
      have ha3 := ArrAt.mono 2 _ _ _ _ hle22 ha3
      have ha16 := ArrAt.mono 2 _ _ _ _ hle22 ha16
      refine RW.nil ?_
      refine heldQ_normal ⟨_, _, 1, 2, hs, rfl, rfl⟩ ?_
      refine HW.takeR (fuel := 9) 3 rfl (fun _ _ ka kb _ hs hka hkb => Y.build T rfl rfl rfl rfl rfl rfl rfl) ⟨_, _, 1, 2, hs, rfl, rfl⟩ rfl (by kernel_rfl) (by kernel_rfl) (by kernel_rfl) ?_
      refine HW.two (fuel := 8) 4 5 rfl rfl (by kernel_rfl) ?_ ?_
      · (refine RW.lit T hs (vs := [.agg (.bool false :: .slice ad22 (ArrD.shape (α := AD 1) (numA 1 (fwF 2))).length cap22 :: vecCells (ArrD.vec (α := AD 1) (numA 1 (fwF 2))).kind wv22 nv22 sm22 il22 fl22 ch22 bx22).toArray]) (cs := (.bool false :: .slice ad22 (ArrD.shape (α := AD 1) (numA 1 (fwF 2))).length cap22 :: vecCells (ArrD.vec (α := AD 1) (numA 1 (fwF 2))).kind wv22 nv22 sm22 il22 fl22 ch22 bx22)) rfl rfl rfl rfl (by simp [Value.cells, vecCells]) rfl rfl rfl rfl rfl ?_; intro b24 w24 hs)
        obtain ⟨h24, hle24, hs, hS24⟩ := hs.freeze
        have ha3 := ArrAt.mono 2 _ _ _ _ hle24 ha3
        have ha16 := ArrAt.mono 2 _ _ _ _ hle24 ha16
        have ha22 := ArrAt.mono 2 _ _ _ _ hle24 ha22
        refine RW.nil ?_
        refine heldQ_normal ⟨_, _, 1, 2, hs, rfl, rfl⟩ ?_
        refine HW.one (fuel := 7) 5 rfl (by kernel_rfl) ?_
        (refine RW.call T hs rfl rfl rfl (refOne_con (α := PD 1) (R := PlainAt 1) 0 _ _ (by decide)) ?_; intro v h25 w25 hle25 hp25 hs)
        obtain ⟨cs25, rfl, hq25⟩ := hp25
        have ha3 := ArrAt.mono 2 _ _ _ _ hle25 ha3
        have ha16 := ArrAt.mono 2 _ _ _ _ hle25 ha16
        have ha22 := ArrAt.mono 2 _ _ _ _ hle25 ha22
        have hS24 := hS24.mono hle25
        refine RW.nil ?_
        refine heldQ_normal ⟨_, _, 1, 2, hs, rfl, rfl⟩ ?_
        refine HW.one (fuel := 6) 6 rfl (by kernel_rfl) ?_
        (refine RW.call T hs rfl rfl rfl (of07_con 2 _ (numQ 1 0) _ _ hq25 (numQ_chk 1 _ tidy0.2.1)) ?_; intro v h26 w26 hle26 hp26 hs)
        obtain ⟨cs26, rfl, _, _, ha26⟩ := hp26
        rw [arr0] at ha26
        have ha3 := ArrAt.mono 2 _ _ _ _ hle26 ha3
        have ha16 := ArrAt.mono 2 _ _ _ _ hle26 ha16
        have ha22 := ArrAt.mono 2 _ _ _ _ hle26 ha22
        have hS24 := hS24.mono hle26
        refine RW.nil ?_
        refine heldQ_normal ⟨_, _, 1, 2, hs, rfl, rfl⟩ ?_
        refine HW.one (fuel := 5) 7 rfl (by kernel_rfl) ?_
        (refine RW.call T hs rfl rfl rfl (indexSet_con (ArrAt.mono 1) (ArrAt.one 1) (ArrAt.siz 1) (blankA 0) (fun w h => flatBlank_con (ArrAt.mono 0) (ArrAt.one 0) w h) _ _ (numsA 1 ([5, 6, 7].map fwF)) (numA 1 (fwF 0)) (numA 1 (fwF 2)) b24 1 3 _ 1 99 1 0 _ _ ha3 ha26 rfl rfl k567 (by decide) rfl hS24 ha22 (e_one 2 (by omega)) (by decide) (by decide) (by decide) ⟨by decide, by decide⟩ r2 (by decide) (by decide) j507.1 vk507 vl507 n507) ?_; intro v h27 w27 hle27 hp27 hs)
        obtain ⟨cs27, rfl, ha27⟩ := hp27
        rw [a507] at ha27
        have ha27 : ArrAt 2 h27 cs27 (numsA 1 ([5, 0, 7].map fwF)) := ha27
        obtain ⟨s27, vc27, rfl, ⟨ad27, cap27, rfl, _⟩, hv27⟩ := id ha27
        obtain ⟨wv27, nv27, sm27, il27, fl27, ch27, bx27, ⟨rfl, hoc27⟩, _⟩ := hv27
        have hall27 : (Value.oneCell' (.slice ad27 (ArrD.shape (α := AD 1) (numsA 1 ([5, 0, 7].map fwF))).length cap27) && (vecCells (ArrD.vec (α := AD 1) (numsA 1 ([5, 0, 7].map fwF))).kind wv27 nv27 sm27 il27 fl27 ch27 bx27).all Value.oneCell') = true := by rw [hoc27]; rfl
        have ha16 := ArrAt.mono 2 _ _ _ _ hle27 ha16
        refine RW.nil ?_
        refine heldQ_normal ⟨_, _, 1, 2, hs, rfl, rfl⟩ ?_
        refine HW.takeR (fuel := 4) 8 rfl (fun _ _ ka kb _ hs hka hkb => Y.move rfl) ⟨_, _, 1, 2, hs, rfl, rfl⟩ rfl (by kernel_rfl) (by kernel_rfl) (by kernel_rfl) ?_
        refine HW.takeR (fuel := 3) 9 rfl (fun _ _ ka kb _ hs hka hkb => Y.extract rfl rfl) ⟨_, _, 1, 2, hs, rfl, rfl⟩ rfl (by kernel_rfl) (by kernel_rfl) (by kernel_rfl) ?_
        refine HW.takeR (fuel := 2) 10 rfl (fun _ _ ka kb _ hs hka hkb => Y.extract rfl rfl) ⟨_, _, 1, 2, hs, rfl, rfl⟩ rfl (by kernel_rfl) (by kernel_rfl) (by kernel_rfl) ?_
        refine HW.one (fuel := 1) 12 rfl (by kernel_rfl) ?_
        refine RW.storeAll T hs 0 rfl rfl rfl rfl rfl rfl hall27 rfl ?_
        intro w31 hs
        refine RW.nil ?_
        refine heldQ_normal ⟨_, _, 1, 2, hs, rfl, rfl⟩ ?_
        refine HW.takeR (fuel := 0) 13 rfl (fun _ _ ka kb _ hs hka hkb => Y.assign rfl) ⟨_, _, 1, 2, hs, rfl, rfl⟩ rfl (by kernel_rfl) (by kernel_rfl) (by kernel_rfl) ?_
        refine HW.done (by kernel_rfl) ?_
        refine calmQ_normal ?_
        exact joinQ_meet (b30, _, h27) ⟨rfl, rfl, rfl, rfl, rfl, trivial⟩ ⟨ha16, ha27, hs⟩
      · (refine RW.call T hs rfl rfl rfl (refOne_con (α := PD 1) (R := PlainAt 1) 0 _ _ (by decide)) ?_; intro v h25 w25 hle25 hp25 hs)
        obtain ⟨cs25, rfl, hq25⟩ := hp25
        have ha3 := ArrAt.mono 2 _ _ _ _ hle25 ha3
        have ha16 := ArrAt.mono 2 _ _ _ _ hle25 ha16
        have ha22 := ArrAt.mono 2 _ _ _ _ hle25 ha22
        refine RW.nil ?_
        refine heldQ_normal ⟨_, _, 1, 2, hs, rfl, rfl⟩ ?_
        refine HW.two (fuel := 7) 4 6 rfl rfl (by kernel_rfl) ?_ ?_
        · (refine RW.lit T hs (vs := [.agg (.bool false :: .slice ad22 (ArrD.shape (α := AD 1) (numA 1 (fwF 2))).length cap22 :: vecCells (ArrD.vec (α := AD 1) (numA 1 (fwF 2))).kind wv22 nv22 sm22 il22 fl22 ch22 bx22).toArray]) (cs := (.bool false :: .slice ad22 (ArrD.shape (α := AD 1) (numA 1 (fwF 2))).length cap22 :: vecCells (ArrD.vec (α := AD 1) (numA 1 (fwF 2))).kind wv22 nv22 sm22 il22 fl22 ch22 bx22)) rfl rfl rfl rfl (by simp [Value.cells, vecCells]) rfl rfl rfl rfl rfl ?_; intro b24 w24 hs)
          obtain ⟨h24, hle24, hs, hS24⟩ := hs.freeze
          have ha3 := ArrAt.mono 2 _ _ _ _ hle24 ha3
          have ha16 := ArrAt.mono 2 _ _ _ _ hle24 ha16
          have ha22 := ArrAt.mono 2 _ _ _ _ hle24 ha22
          have hq25 := PlainAt.mono 2 _ _ _ _ hle24 hq25
          refine RW.nil ?_
          refine heldQ_normal ⟨_, _, 1, 2, hs, rfl, rfl⟩ ?_
          refine HW.one (fuel := 6) 6 rfl (by kernel_rfl) ?_
          (refine RW.call T hs rfl rfl rfl (of07_con 2 _ (numQ 1 0) _ _ hq25 (numQ_chk 1 _ tidy0.2.1)) ?_; intro v h26 w26 hle26 hp26 hs)
          obtain ⟨cs26, rfl, _, _, ha26⟩ := hp26
          rw [arr0] at ha26
          have ha3 := ArrAt.mono 2 _ _ _ _ hle26 ha3
          have ha16 := ArrAt.mono 2 _ _ _ _ hle26 ha16
          have ha22 := ArrAt.mono 2 _ _ _ _ hle26 ha22
          have hS24 := hS24.mono hle26
          refine RW.nil ?_
          refine heldQ_normal ⟨_, _, 1, 2, hs, rfl, rfl⟩ ?_
          refine HW.one (fuel := 5) 7 rfl (by kernel_rfl) ?_
          (refine RW.call T hs rfl rfl rfl (indexSet_con (ArrAt.mono 1) (ArrAt.one 1) (ArrAt.siz 1) (blankA 0) (fun w h => flatBlank_con (ArrAt.mono 0) (ArrAt.one 0) w h) _ _ (numsA 1 ([5, 6, 7].map fwF)) (numA 1 (fwF 0)) (numA 1 (fwF 2)) b24 1 3 _ 1 99 1 0 _ _ ha3 ha26 rfl rfl k567 (by decide) rfl hS24 ha22 (e_one 2 (by omega)) (by decide) (by decide) (by decide) ⟨by decide, by decide⟩ r2 (by decide) (by decide) j507.1 vk507 vl507 n507) ?_; intro v h27 w27 hle27 hp27 hs)
          obtain ⟨cs27, rfl, ha27⟩ := hp27
          rw [a507] at ha27
          have ha27 : ArrAt 2 h27 cs27 (numsA 1 ([5, 0, 7].map fwF)) := ha27
          obtain ⟨s27, vc27, rfl, ⟨ad27, cap27, rfl, _⟩, hv27⟩ := id ha27
          obtain ⟨wv27, nv27, sm27, il27, fl27, ch27, bx27, ⟨rfl, hoc27⟩, _⟩ := hv27
          have hall27 : (Value.oneCell' (.slice ad27 (ArrD.shape (α := AD 1) (numsA 1 ([5, 0, 7].map fwF))).length cap27) && (vecCells (ArrD.vec (α := AD 1) (numsA 1 ([5, 0, 7].map fwF))).kind wv27 nv27 sm27 il27 fl27 ch27 bx27).all Value.oneCell') = true := by rw [hoc27]; rfl
          have ha16 := ArrAt.mono 2 _ _ _ _ hle27 ha16
          refine RW.nil ?_
          refine heldQ_normal ⟨_, _, 1, 2, hs, rfl, rfl⟩ ?_
          refine HW.takeR (fuel := 4) 8 rfl (fun _ _ ka kb _ hs hka hkb => Y.move rfl) ⟨_, _, 1, 2, hs, rfl, rfl⟩ rfl (by kernel_rfl) (by kernel_rfl) (by kernel_rfl) ?_
          refine HW.takeR (fuel := 3) 9 rfl (fun _ _ ka kb _ hs hka hkb => Y.extract rfl rfl) ⟨_, _, 1, 2, hs, rfl, rfl⟩ rfl (by kernel_rfl) (by kernel_rfl) (by kernel_rfl) ?_
          refine HW.takeR (fuel := 2) 10 rfl (fun _ _ ka kb _ hs hka hkb => Y.extract rfl rfl) ⟨_, _, 1, 2, hs, rfl, rfl⟩ rfl (by kernel_rfl) (by kernel_rfl) (by kernel_rfl) ?_
          refine HW.one (fuel := 1) 12 rfl (by kernel_rfl) ?_
          refine RW.storeAll T hs 0 rfl rfl rfl rfl rfl rfl hall27 rfl ?_
          intro w31 hs
          refine RW.nil ?_
          refine heldQ_normal ⟨_, _, 1, 2, hs, rfl, rfl⟩ ?_
          refine HW.takeR (fuel := 0) 13 rfl (fun _ _ ka kb _ hs hka hkb => Y.assign rfl) ⟨_, _, 1, 2, hs, rfl, rfl⟩ rfl (by kernel_rfl) (by kernel_rfl) (by kernel_rfl) ?_
          refine HW.done (by kernel_rfl) ?_
          refine calmQ_normal ?_
          exact joinQ_meet (b30, _, h27) ⟨rfl, rfl, rfl, rfl, rfl, trivial⟩ ⟨ha16, ha27, hs⟩
        · (refine RW.call T hs rfl rfl rfl (of07_con 2 _ (numQ 1 0) _ _ hq25 (numQ_chk 1 _ tidy0.2.1)) ?_; intro v h26 w26 hle26 hp26 hs)
          obtain ⟨cs26, rfl, _, _, ha26⟩ := hp26
          rw [arr0] at ha26
          have ha3 := ArrAt.mono 2 _ _ _ _ hle26 ha3
          have ha16 := ArrAt.mono 2 _ _ _ _ hle26 ha16
          have ha22 := ArrAt.mono 2 _ _ _ _ hle26 ha22
          refine RW.nil ?_
          refine heldQ_normal ⟨_, _, 1, 2, hs, rfl, rfl⟩ ?_
          refine HW.one (fuel := 6) 4 rfl (by kernel_rfl) ?_
          (refine RW.lit T hs (vs := [.agg (.bool false :: .slice ad22 (ArrD.shape (α := AD 1) (numA 1 (fwF 2))).length cap22 :: vecCells (ArrD.vec (α := AD 1) (numA 1 (fwF 2))).kind wv22 nv22 sm22 il22 fl22 ch22 bx22).toArray]) (cs := (.bool false :: .slice ad22 (ArrD.shape (α := AD 1) (numA 1 (fwF 2))).length cap22 :: vecCells (ArrD.vec (α := AD 1) (numA 1 (fwF 2))).kind wv22 nv22 sm22 il22 fl22 ch22 bx22)) rfl rfl rfl rfl (by simp [Value.cells, vecCells]) rfl rfl rfl rfl rfl ?_; intro b24 w24 hs)
          obtain ⟨h24, hle24, hs, hS24⟩ := hs.freeze
          have ha3 := ArrAt.mono 2 _ _ _ _ hle24 ha3
          have ha16 := ArrAt.mono 2 _ _ _ _ hle24 ha16
          have ha22 := ArrAt.mono 2 _ _ _ _ hle24 ha22
          have ha26 := ArrAt.mono 2 _ _ _ _ hle24 ha26
          refine RW.nil ?_
          refine heldQ_normal ⟨_, _, 1, 2, hs, rfl, rfl⟩ ?_
          refine HW.one (fuel := 5) 7 rfl (by kernel_rfl) ?_
          (refine RW.call T hs rfl rfl rfl (indexSet_con (ArrAt.mono 1) (ArrAt.one 1) (ArrAt.siz 1) (blankA 0) (fun w h => flatBlank_con (ArrAt.mono 0) (ArrAt.one 0) w h) _ _ (numsA 1 ([5, 6, 7].map fwF)) (numA 1 (fwF 0)) (numA 1 (fwF 2)) b24 1 3 _ 1 99 1 0 _ _ ha3 ha26 rfl rfl k567 (by decide) rfl hS24 ha22 (e_one 2 (by omega)) (by decide) (by decide) (by decide) ⟨by decide, by decide⟩ r2 (by decide) (by decide) j507.1 vk507 vl507 n507) ?_; intro v h27 w27 hle27 hp27 hs)
          obtain ⟨cs27, rfl, ha27⟩ := hp27
          rw [a507] at ha27
          have ha27 : ArrAt 2 h27 cs27 (numsA 1 ([5, 0, 7].map fwF)) := ha27
          obtain ⟨s27, vc27, rfl, ⟨ad27, cap27, rfl, _⟩, hv27⟩ := id ha27
          obtain ⟨wv27, nv27, sm27, il27, fl27, ch27, bx27, ⟨rfl, hoc27⟩, _⟩ := hv27
          have hall27 : (Value.oneCell' (.slice ad27 (ArrD.shape (α := AD 1) (numsA 1 ([5, 0, 7].map fwF))).length cap27) && (vecCells (ArrD.vec (α := AD 1) (numsA 1 ([5, 0, 7].map fwF))).kind wv27 nv27 sm27 il27 fl27 ch27 bx27).all Value.oneCell') = true := by rw [hoc27]; rfl
          have ha16 := ArrAt.mono 2 _ _ _ _ hle27 ha16
          refine RW.nil ?_
          refine heldQ_normal ⟨_, _, 1, 2, hs, rfl, rfl⟩ ?_
          refine HW.takeR (fuel := 4) 8 rfl (fun _ _ ka kb _ hs hka hkb => Y.move rfl) ⟨_, _, 1, 2, hs, rfl, rfl⟩ rfl (by kernel_rfl) (by kernel_rfl) (by kernel_rfl) ?_
          refine HW.takeR (fuel := 3) 9 rfl (fun _ _ ka kb _ hs hka hkb => Y.extract rfl rfl) ⟨_, _, 1, 2, hs, rfl, rfl⟩ rfl (by kernel_rfl) (by kernel_rfl) (by kernel_rfl) ?_
          refine HW.takeR (fuel := 2) 10 rfl (fun _ _ ka kb _ hs hka hkb => Y.extract rfl rfl) ⟨_, _, 1, 2, hs, rfl, rfl⟩ rfl (by kernel_rfl) (by kernel_rfl) (by kernel_rfl) ?_
          refine HW.one (fuel := 1) 12 rfl (by kernel_rfl) ?_
          refine RW.storeAll T hs 0 rfl rfl rfl rfl rfl rfl hall27 rfl ?_
          intro w31 hs
          refine RW.nil ?_
          refine heldQ_normal ⟨_, _, 1, 2, hs, rfl, rfl⟩ ?_
          refine HW.takeR (fuel := 0) 13 rfl (fun _ _ ka kb _ hs hka hkb => Y.assign rfl) ⟨_, _, 1, 2, hs, rfl, rfl⟩ rfl (by kernel_rfl) (by kernel_rfl) (by kernel_rfl) ?_
          refine HW.done (by kernel_rfl) ?_
          refine calmQ_normal ?_
          exact joinQ_meet (b30, _, h27) ⟨rfl, rfl, rfl, rfl, rfl, trivial⟩ ⟨ha16, ha27, hs⟩
  rintro ⟨b5, cs5, h9⟩ w9 ⟨ha16, ha27, hs⟩
  dsimp only at ha16 ha27 hs ⊢
  obtain ⟨s16, vc16, rfl, ⟨ad16, cap16, rfl, _⟩, hv16⟩ := id ha16
  obtain ⟨wv16, nv16, sm16, il16, fl16, ch16, bx16, ⟨rfl, hoc16⟩, _⟩ := hv16
  have hall16 : (Value.oneCell' (.slice ad16 (ArrD.shape (α := AD 1) (numsA 1 ([7, 5].map fwF))).length cap16) && (vecCells (ArrD.vec (α := AD 1) (numsA 1 ([7, 5].map fwF))).kind wv16 nv16 sm16 il16 fl16 ch16 bx16).all Value.oneCell') = true := by rw [hoc16]; rfl
  obtain ⟨s27, vc27, rfl, ⟨ad27, cap27, rfl, _⟩, hv27⟩ := id ha27
  obtain ⟨wv27, nv27, sm27, il27, fl27, ch27, bx27, ⟨rfl, hoc27⟩, _⟩ := hv27
  have hall27 : (Value.oneCell' (.slice ad27 (ArrD.shape (α := AD 1) (numsA 1 ([5, 0, 7].map fwF))).length cap27) && (vecCells (ArrD.vec (α := AD 1) (numsA 1 ([5, 0, 7].map fwF))).kind wv27 nv27 sm27 il27 fl27 ch27 bx27).all Value.oneCell') = true := by rw [hoc27]; rfl
  refine Zerun ?_
  refine CW.regionO T hs ?_
  intro w10 hs
  refine HW.takeS (fuel := 12) 0 rfl (fun _ _ hs => Y.loadRowN T hs 1 rfl rfl rfl rfl rfl rfl rfl) hs rfl (by kernel_rfl) (by kernel_rfl) (by kernel_rfl) ?_
  refine HW.takeS (fuel := 11) 1 rfl (fun _ _ hs => Y.move rfl) hs rfl (by kernel_rfl) (by kernel_rfl) (by kernel_rfl) ?_
  refine HW.one (fuel := 10) 2 rfl (by kernel_rfl) ?_
  (refine RW.lit T hs (vs := [.float .f64 4619567317775286272, .float .f64 4617315517961601024]) rfl rfl rfl rfl (by simp [Value.cells]) rfl rfl rfl rfl rfl ?_; intro b32 w32 hs)
  obtain ⟨h32, hle32, hs, hS32⟩ := hs.freeze
  have hF32 : FAt h32 (.slice (some ⟨b32, 0, none⟩) 2 2) ([7, 5].map fwF) := by rw [w75]; exact RowAt.of_sl hS32
  have ha16 := ArrAt.mono 2 _ _ _ _ hle32 ha16
  have ha27 := ArrAt.mono 2 _ _ _ _ hle32 ha27
  refine RW.nil ?_
  refine heldQ_normal ⟨_, hs⟩ ?_
  refine HW.one (fuel := 9) 3 rfl (by kernel_rfl) ?_
  (refine RW.call T hs rfl rfl rfl (refNums_con (R := PlainAt 1) (PlainAt.mono 1) _ _ _ _ hF32 (e_lt (l := [7, 5]) (by decide)) (by decide)) ?_; intro v h33 w33 hle33 hp33 hs)
  obtain ⟨cs33, rfl, hq33⟩ := hp33
  have ha16 := ArrAt.mono 2 _ _ _ _ hle33 ha16
  have ha27 := ArrAt.mono 2 _ _ _ _ hle33 ha27
  refine RW.nil ?_
  refine heldQ_normal ⟨_, hs⟩ ?_
  refine HW.one (fuel := 8) 4 rfl (by kernel_rfl) ?_
  (refine RW.call T hs rfl rfl rfl (shows23_con 1 _ _ (numsA 1 ([7, 5].map fwF)) (numsP ([7, 5].map fwF) : PlainD (PD 1)) _ _ ha16 hq33 (numsA_good 1 _ 40 (by omega) (by decide)) (numsA_plain 1 _) (numsP_tdy 1 _ (e_tidy (l := [7, 5]) (by decide)))) ?_; intro v h34 w34 hle34 hp34 hs)
  subst hp34
  have ha27 := ArrAt.mono 2 _ _ _ _ hle34 ha27
  refine RW.nil ?_
  refine heldQ_normal ⟨_, hs⟩ ?_
  refine HW.takeS (fuel := 7) 5 rfl (fun _ _ hs => Y.move rfl) hs rfl (by kernel_rfl) (by kernel_rfl) (by kernel_rfl) ?_
  refine HW.takeSY (fuel := 6) 6 rfl rfl rfl (fun _ _ hs => Y.loadRowN T hs 0 rfl rfl rfl rfl rfl rfl rfl) hs rfl (by kernel_rfl) (by kernel_rfl) (by kernel_rfl) ?_
  refine HW.takeSY (fuel := 5) 7 rfl rfl rfl (fun _ _ hs => Y.move rfl) hs rfl (by kernel_rfl) (by kernel_rfl) (by kernel_rfl) ?_
  refine HW.one (fuel := 4) 8 rfl (by kernel_rfl) ?_
  refine RW.guardYes rfl rfl ?_
  (refine RW.lit T hs (vs := [.float .f64 4617315517961601024, .float .f64 0, .float .f64 4619567317775286272]) rfl rfl rfl rfl (by simp [Value.cells]) rfl rfl rfl rfl rfl ?_; intro b38 w38 hs)
  obtain ⟨h38, hle38, hs, hS38⟩ := hs.freeze
  have hF38 : FAt h38 (.slice (some ⟨b38, 0, none⟩) 3 3) ([5, 0, 7].map fwF) := by rw [w507]; exact RowAt.of_sl hS38
  have ha27 := ArrAt.mono 2 _ _ _ _ hle38 ha27
  refine RW.nil ?_
  refine heldQ_normal ⟨_, hs⟩ ?_
  refine HW.one (fuel := 3) 9 rfl (by kernel_rfl) ?_
  refine RW.guardYes rfl rfl ?_
  (refine RW.call T hs rfl rfl rfl (refNums_con (R := PlainAt 1) (PlainAt.mono 1) _ _ _ _ hF38 (e_lt (l := [5, 0, 7]) (by decide)) (by decide)) ?_; intro v h39 w39 hle39 hp39 hs)
  obtain ⟨cs39, rfl, hq39⟩ := hp39
  have ha27 := ArrAt.mono 2 _ _ _ _ hle39 ha27
  refine RW.nil ?_
  refine heldQ_normal ⟨_, hs⟩ ?_
  refine HW.one (fuel := 2) 10 rfl (by kernel_rfl) ?_
  refine RW.guardYes rfl rfl ?_
  (refine RW.call T hs rfl rfl rfl (shows23_con 1 _ _ (numsA 1 ([5, 0, 7].map fwF)) (numsP ([5, 0, 7].map fwF) : PlainD (PD 1)) _ _ ha27 hq39 (numsA_good 1 _ 40 (by omega) (by decide)) (numsA_plain 1 _) (numsP_tdy 1 _ (e_tidy (l := [5, 0, 7]) (by decide)))) ?_; intro v h40 w40 hle40 hp40 hs)
  subst hp40
  refine RW.nil ?_
  refine heldQ_normal ⟨_, hs⟩ ?_
  refine HW.takeS (fuel := 1) 11 rfl (fun _ _ hs => Y.pickT rfl rfl) hs rfl (by kernel_rfl) (by kernel_rfl) (by kernel_rfl) ?_
  refine HW.takeS (fuel := 0) 12 rfl (fun _ _ hs => Y.assign rfl) hs rfl (by kernel_rfl) (by kernel_rfl) (by kernel_rfl) ?_
  refine HW.done (by kernel_rfl) ?_
  refine calmQ_normal ?_
  refine Zerun ?_
  exact retQ_ret [_] h40 ⟨rfl, trivial⟩ hs.dropAll rfl
end Go.Proofs.Ythbfkhklihejiaa

/-
  Contract of the law's own function of layer 23: what was set at an index is told there. No statement is proved here.
-/
namespace Go.Proofs.Ythbfkhklihejiaa
open Go Go.RowKit
set_option linter.unusedVariables false
set_option linter.unusedSimpArgs false
set_option maxHeartbeats 4000000
attribute [local irreducible] CW RW QW SW HW ConM retM heldQ calmQ elemP thenQ blockQ loopQ joinQ retQ Yields Con Sl zF magR unitF truncF fwF wholeF tidySpec elemQ rankF leastN tidyW
set_option maxHeartbeats 4000000

theorem product_one {x n : Int} (h : product [x] 1048576 = (n, 0)) : x = n := by
  by_cases c : x < 0
  · unfold product at h
    rw [if_neg (by simp), if_pos ⟨x, by simp, c⟩] at h
    cases h
  · by_cases c2 : x ≤ 1048576
    · obtain ⟨y, rfl⟩ : ∃ y : Nat, x = y := ⟨x.toNat, by omega⟩
      rw [product_len1 y (by omega)] at h
      exact (Prod.mk.inj h).1
    · unfold product at h
      rw [if_neg (by simp), if_neg (by simp; omega), if_pos (by simp [pr]; omega)] at h
      cases h
theorem arr_len (k : Nat) (p : PD (k + 2)) (hc : chk (k + 2) 40 p = 0) : (ArrD.vec (α := AD (k + 1)) (arr (k + 2) p)).len = (PlainD.items (α := PD (k + 1)) p).length := by
  obtain ⟨_, _, _, _, h5⟩ := (chkP_ok (α := PD (k + 1)) _ _ _).1 hc
  exact len_arrV (arr (k + 1)) _ _ _ h5
structure BackFacts (k i j : Nat) (p q : PD (k + 2)) (c' : Int) : Prop where
  F : IdxFacts k (PlainD.items (α := PD (k + 1)) p).length i j (ArrD.vec (α := AD (k + 1)) (arr (k + 2) p)) (ArrD.vec (α := AD (k + 1)) (arr (k + 2) q)) (PlainD.items (α := PD (k + 1)) (tidy (k + 2) p)) (PlainD.items (α := PD (k + 1)) (tidy (k + 2) q)) (PlainD.fill (α := PD (k + 1)) p) c'
  sh : ArrD.shape (α := AD (k + 1)) (arr (k + 2) p) = [((PlainD.items (α := PD (k + 1)) p).length : Int)]
  ml : (ArrD.vec (α := AD (k + 1)) (arr (k + 2) p)).len = (PlainD.items (α := PD (k + 1)) p).length
  b1 : (ArrD.vec (α := AD (k + 1)) (arr (k + 2) q)).len = 1
  ka : (ArrD.vec (α := AD (k + 1)) (arr (k + 2) p)).kind ≠ 0
  lp : (PlainD.items (α := PD (k + 1)) (tidy (k + 2) p)).length = (PlainD.items (α := PD (k + 1)) p).length
  lq : (PlainD.items (α := PD (k + 1)) (tidy (k + 2) q)).length = 1
  tp : ∀ x ∈ PlainD.items (α := PD (k + 1)) (tidy (k + 2) p), tdyIt (tdy (k + 1)) x
  tq : ∀ x ∈ PlainD.items (α := PD (k + 1)) (tidy (k + 2) q), tdyIt (tdy (k + 1)) x
theorem back_facts (k i j : Nat) (h : GHeap) (cs cs' : List Value) (p q : PD (k + 2)) (hp : PlainAt (k + 2) h cs p) (hq : PlainAt (k + 2) h cs' q) (hcp : chk (k + 2) 40 p = 0) (hcq : chk (k + 2) 40 q = 0) (c1 : (PlainD.shape (α := PD (k + 1)) p).length = 1) (c3 : (PlainD.items (α := PD (k + 1)) q).length = 1) (c4 : PlainD.fill (α := PD (k + 1)) q = PlainD.fill (α := PD (k + 1)) p)
    (hm : (PlainD.items (α := PD (k + 1)) p).length ≤ 3000) (hi : i < (PlainD.items (α := PD (k + 1)) p).length) (hj : j < (PlainD.items (α := PD (k + 1)) p).length) : ∃ c', BackFacts k i j p q c' := by
  have Ha := shown_of k p h cs hp hcp
  have Hb := shown_of k q h cs' hq hcq
  rw [c4] at Hb
  have hgp := good_arr (k + 2) 40 p hcp
  have hgq := good_arr (k + 2) 40 q hcq
  have hma := arr_len k p hcp
  have hmb := arr_len k q hcq
  have lp : (PlainD.items (α := PD (k + 1)) (tidy (k + 2) p)).length = (PlainD.items (α := PD (k + 1)) p).length := List.length_map _
  have lq : (PlainD.items (α := PD (k + 1)) (tidy (k + 2) q)).length = (PlainD.items (α := PD (k + 1)) q).length := List.length_map _
  obtain ⟨c', F⟩ := idx_facts Ha Hb hma (hmb.trans c3) hm hgp.2.2.2.2 hgq.2.2.2.2 hi hj lp (lq.trans c3)
  refine ⟨c', F, ?_, hma, hmb.trans c3, Ha.k0, lp, lq.trans c3, Ha.td, Hb.td⟩
  have hpr : product (PlainD.shape (α := PD (k + 1)) p) 1048576 = (((PlainD.items (α := PD (k + 1)) p).length : Int), 0) := ((chkP_ok (α := PD (k + 1)) _ _ _).1 hcp).2.2.2.1
  show PlainD.shape (α := PD (k + 1)) p = _
  obtain ⟨x, hx⟩ := List.length_eq_one_iff.1 c1
  rw [hx] at hpr ⊢
  rw [product_one hpr]
theorem one_nums (k : Nat) (i : Nat) (h : i ≤ 3000) : ((ArrD.vec (α := AD (k + 1)) (numA (k + 1) (fwF i))).nums.map fun y => (wholeF y).1 - 0) = [(i : Int)] := by
  show [(wholeF (fwF i)).1 - 0] = _
  rw [wholeF_fw _ (by omega)]
  simp
theorem one_in (k : Nat) (i m : Nat) (h : i ≤ 3000) (hm : i < m) : ∀ y ∈ (ArrD.vec (α := AD (k + 1)) (numA (k + 1) (fwF i))).nums, (0 : Int) ≤ (wholeF y).1 ∧ (wholeF y).1 < 0 + (m : Int) := by
  intro y hy
  rw [List.mem_singleton.1 (show y ∈ [fwF i] from hy), wholeF_fw _ (by omega)]
  omega
theorem indexBackLaw_con (k : Nat) (cp0 cq0 : List Value) (p q : PD (k + 2)) (at_ ot : Int) (w : World) (h : GHeap) (hat : 0 ≤ at_ ∧ at_ < 65536) (hot : 0 ≤ ot ∧ ot < 65536) (hp : PlainAt (k + 2) h cp0 p) (hq : PlainAt (k + 2) h cq0 q) : Con Try.prog 21 [.agg cp0.toArray, .int .u16 at_, .int .u16 ot, .agg cq0.toArray] w h (fun _ u => u = .bool true) := by
  have hp' := hp
  have hp0 := hp
  have hq' := hq
  have hq0 := hq
  obtain ⟨s, it, rfl, ⟨ad, cp, rfl, _⟩, ⟨ad2, cp2, xs, rfl, _, _⟩⟩ := hp
  obtain ⟨sq, itq, rfl, ⟨ad3, cp3, rfl, _⟩, ⟨ad4, cp4, xq, rfl, _, _⟩⟩ := hq
  refine Con.of_body Try.func21 rfl Try.ntmps21 rfl rfl ?_
  intro hs
  refine Zrun ?_
  (refine RW.boxN hs rfl rfl ?_; intro b1 w1 hs)
  refine Zerun ?_
  (refine RW.boxN hs rfl rfl ?_; intro b2 w2 hs)
  refine Zerun ?_
  (refine RW.call T hs rfl rfl rfl (fine23_con (k + 1) _ p _ _ hp') ?_; intro v h3 w3 hle3 hp3 hs)
  obtain ⟨b, rfl, hbp⟩ := hp3
  have hp' := PlainAt.mono (k + 2) _ _ _ _ hle3 hp'
  have hq' := PlainAt.mono (k + 2) _ _ _ _ hle3 hq'
  cases b with
  | false =>
    refine Zerun ?_
    (refine RW.call T hs rfl rfl rfl (awake23_con _ _) ?_; intro v h4 w4 hle4 hp4 hs)
    subst hp4
    refine Zerun ?_
    exact retQ_ret [_] h4 ⟨rfl, trivial⟩ hs.dropAll rfl
  | true =>
  obtain ⟨hcp, _, hcp3⟩ := hbp rfl
  refine Zerun ?_
  (refine RW.call T hs rfl rfl rfl (fine23_con (k + 1) _ q _ _ hq') ?_; intro v h5 w5 hle5 hp5 hs)
  obtain ⟨b, rfl, hbq⟩ := hp5
  have hp' := PlainAt.mono (k + 2) _ _ _ _ hle5 hp'
  have hq' := PlainAt.mono (k + 2) _ _ _ _ hle5 hq'
  cases b with
  | false =>
    refine Zerun ?_
    (refine RW.call T hs rfl rfl rfl (awake23_con _ _) ?_; intro v h6 w6 hle6 hp6 hs)
    subst hp6
    refine Zerun ?_
    exact retQ_ret [_] h6 ⟨rfl, trivial⟩ hs.dropAll rfl
  | true =>
  obtain ⟨hcq, _, hcq3⟩ := hbq rfl
  by_cases c1 : (PlainD.shape (α := PD (k + 1)) p).length = 1
  rotate_left
  · refine Zerun ?_
    (refine RW.call T hs rfl rfl rfl (awake23_con _ _) ?_; intro v h6 w6 hle6 hp6 hs)
    subst hp6
    refine Zerun ?_
    exact retQ_ret [_] h6 ⟨rfl, trivial⟩ hs.dropAll rfl
  by_cases c2 : (PlainD.items (α := PD (k + 1)) p).length = 0
  · refine Zerun ?_
    (refine RW.call T hs rfl rfl rfl (awake23_con _ _) ?_; intro v h6 w6 hle6 hp6 hs)
    subst hp6
    refine Zerun ?_
    exact retQ_ret [_] h6 ⟨rfl, trivial⟩ hs.dropAll rfl
  by_cases c3 : (PlainD.items (α := PD (k + 1)) q).length = 1
  rotate_left
  · refine Zerun ?_
    (refine RW.call T hs rfl rfl rfl (awake23_con _ _) ?_; intro v h6 w6 hle6 hp6 hs)
    subst hp6
    refine Zerun ?_
    exact retQ_ret [_] h6 ⟨rfl, trivial⟩ hs.dropAll rfl
  by_cases c4 : PlainD.fill (α := PD (k + 1)) q = PlainD.fill (α := PD (k + 1)) p
  rotate_left
  · refine Zerun ?_
    (refine RW.call T hs rfl rfl rfl (awake23_con _ _) ?_; intro v h6 w6 hle6 hp6 hs)
    subst hp6
    refine Zerun ?_
    exact retQ_ret [_] h6 ⟨rfl, trivial⟩ hs.dropAll rfl
  refine Zerun ?_
  have hml0 : (0 : Int) < ((PlainD.items (α := PD (k + 1)) p).length : Int) := by omega
  obtain ⟨i, hi⟩ : ∃ i : Nat, at_ % ((PlainD.items (α := PD (k + 1)) p).length : Int) = (i : Int) := ⟨(at_ % ((PlainD.items (α := PD (k + 1)) p).length : Int)).toNat, by have := Int.emod_nonneg at_ (show ((PlainD.items (α := PD (k + 1)) p).length : Int) ≠ 0 by omega); omega⟩
  obtain ⟨j, hj⟩ : ∃ j : Nat, ot % ((PlainD.items (α := PD (k + 1)) p).length : Int) = (j : Int) := ⟨(ot % ((PlainD.items (α := PD (k + 1)) p).length : Int)).toNat, by have := Int.emod_nonneg ot (show ((PlainD.items (α := PD (k + 1)) p).length : Int) ≠ 0 by omega); omega⟩
  have hi0 : i < (PlainD.items (α := PD (k + 1)) p).length := by have := Int.emod_lt_of_pos at_ hml0; omega
  have hj0 : j < (PlainD.items (α := PD (k + 1)) p).length := by have := Int.emod_lt_of_pos ot hml0; omega
  refine CW.meet (fun _ : Unit => [(4, .pointer (some ⟨b1, 0, none⟩)), (7, .pointer (some ⟨b2, 0, none⟩)), (8, .bool false), (9, .int .i64 (i : Int)), (10, .int .i64 (j : Int))]) (fun _ w' => Sees w h h5 [⟨some ⟨b2, 0, none⟩, 1, 1, 50, 3, [.slice ad3 (PlainD.shape (α := PD (k + 1)) q).length cp3, .slice ad4 (PlainD.items (α := PD (k + 1)) q).length cp4, .int .i64 (PlainD.fill (α := PD (k + 1)) q)]⟩, ⟨some ⟨b1, 0, none⟩, 1, 1, 50, 3, [.slice ad (PlainD.shape (α := PD (k + 1)) p).length cp, .slice ad2 (PlainD.items (α := PD (k + 1)) p).length cp2, .int .i64 (PlainD.fill (α := PD (k + 1)) p)]⟩] w') ?_ ?_
  · refine CW.regionR T 1 0 hs rfl rfl ?_
    intro w6 hs
    refine HW.takeR (fuel := 13) 0 rfl (fun _ _ ka kb _ hs hka hkb => Y.move rfl) ⟨_, _, 1, 0, hs, rfl, rfl⟩ rfl (by kernel_rfl) (by kernel_rfl) (by kernel_rfl) ?_
    refine HW.takeR (fuel := 12) 1 rfl (fun _ _ ka kb _ hs hka hkb => Y.conv64 T rfl rfl rfl ⟨by omega, by omega⟩) ⟨_, _, 1, 0, hs, rfl, rfl⟩ rfl (by kernel_rfl) (by kernel_rfl) (by kernel_rfl) ?_
    refine HW.takeR (fuel := 11) 2 rfl (fun _ _ ka kb _ hs hka hkb => Y.fieldAddr T rfl rfl rfl rfl rfl) ⟨_, _, 1, 0, hs, rfl, rfl⟩ rfl (by kernel_rfl) (by kernel_rfl) (by kernel_rfl) ?_
    refine HW.takeR (fuel := 10) 3 rfl (fun _ _ ka kb _ hs hka hkb => Y.loadRow1 T hs ka hka rfl rfl rfl rfl) ⟨_, _, 1, 0, hs, rfl, rfl⟩ rfl (by kernel_rfl) (by kernel_rfl) (by kernel_rfl) ?_
    refine HW.takeR (fuel := 9) 4 rfl (fun _ _ ka kb _ hs hka hkb => Y.len T rfl rfl) ⟨_, _, 1, 0, hs, rfl, rfl⟩ rfl (by kernel_rfl) (by kernel_rfl) (by kernel_rfl) ?_
    refine HW.takeR (fuel := 8) 5 rfl (fun _ _ ka kb _ hs hka hkb => Y.rem rfl rfl hml0 hat.1) ⟨_, _, 1, 0, hs, rfl, rfl⟩ rfl (by kernel_rfl) (by kernel_rfl) (by kernel_rfl) ?_
    refine HW.takeR (fuel := 7) 6 rfl (fun _ _ ka kb _ hs hka hkb => Y.move rfl) ⟨_, _, 1, 0, hs, rfl, rfl⟩ rfl (by kernel_rfl) (by kernel_rfl) (by kernel_rfl) ?_
    refine HW.takeR (fuel := 6) 7 rfl (fun _ _ ka kb _ hs hka hkb => Y.conv64 T rfl rfl rfl ⟨by omega, by omega⟩) ⟨_, _, 1, 0, hs, rfl, rfl⟩ rfl (by kernel_rfl) (by kernel_rfl) (by kernel_rfl) ?_
    refine HW.takeR (fuel := 5) 8 rfl (fun _ _ ka kb _ hs hka hkb => Y.fieldAddr T rfl rfl rfl rfl rfl) ⟨_, _, 1, 0, hs, rfl, rfl⟩ rfl (by kernel_rfl) (by kernel_rfl) (by kernel_rfl) ?_
    refine HW.takeR (fuel := 4) 9 rfl (fun _ _ ka kb _ hs hka hkb => Y.loadRow1 T hs ka hka rfl rfl rfl rfl) ⟨_, _, 1, 0, hs, rfl, rfl⟩ rfl (by kernel_rfl) (by kernel_rfl) (by kernel_rfl) ?_
    refine HW.takeR (fuel := 3) 10 rfl (fun _ _ ka kb _ hs hka hkb => Y.len T rfl rfl) ⟨_, _, 1, 0, hs, rfl, rfl⟩ rfl (by kernel_rfl) (by kernel_rfl) (by kernel_rfl) ?_
    refine HW.takeR (fuel := 2) 11 rfl (fun _ _ ka kb _ hs hka hkb => Y.rem rfl rfl hml0 hot.1) ⟨_, _, 1, 0, hs, rfl, rfl⟩ rfl (by kernel_rfl) (by kernel_rfl) (by kernel_rfl) ?_
    refine HW.takeR (fuel := 1) 12 rfl (fun _ _ ka kb _ hs hka hkb => Y.assign rfl) ⟨_, _, 1, 0, hs, rfl, rfl⟩ rfl (by kernel_rfl) (by kernel_rfl) (by kernel_rfl) ?_
    refine HW.takeR (fuel := 0) 13 rfl (fun _ _ ka kb _ hs hka hkb => Y.assign rfl) ⟨_, _, 1, 0, hs, rfl, rfl⟩ rfl (by kernel_rfl) (by kernel_rfl) (by kernel_rfl) ?_
    refine HW.done (by kernel_rfl) ?_
    refine calmQ_normal ?_
    rw [← hi, ← hj]
    exact joinQ_meet () ⟨rfl, rfl, rfl, rfl, rfl, trivial⟩ hs
  rintro _ w7 hs
  obtain ⟨c', BF⟩ := back_facts k i j _ _ _ p q hp0 hq0 hcp hcq c1 c3 c4 hcp3 hi0 hj0
  have hi3 : i ≤ 3000 := by omega
  have hj3 : j ≤ 3000 := by omega
  have numi := fwF_spec i (by omega)
  have numj := fwF_spec j (by omega)
  have hsp := (good_sml (k + 2) 40 _ (good_arr (k + 2) 40 p hcp)).2.1
  refine CW.seqJ (fun r : Nat × List Value × GHeap => [(4, .pointer (some ⟨b1, 0, none⟩)), (7, .pointer (some ⟨b2, 0, none⟩)), (8, .bool false), (9, .int .i64 (i : Int)), (10, .int .i64 (j : Int)), (11, .pointer (some ⟨r.1, 0, none⟩)), (12, .int .i64 0)]) (fun r w' => ArrAt (k + 2) r.2.2 r.2.1 ((⟨[((PlainD.items (α := PD (k + 1)) p).length : Int)], (joinedW c' [ArrD.vec (α := AD (k + 1)) (arr (k + 2) p), ArrD.vec (α := AD (k + 1)) (arr (k + 2) q)]).pick (atL (PlainD.items (α := PD (k + 1)) p).length [(i : Int)]) (blankA k)⟩ : ArrD (AD (k + 1)))) ∧ PlainAt (k + 2) r.2.2 [.slice ad (PlainD.shape (α := PD (k + 1)) p).length cp, .slice ad2 (PlainD.items (α := PD (k + 1)) p).length cp2, .int .i64 (PlainD.fill (α := PD (k + 1)) p)] p ∧ PlainAt (k + 2) r.2.2 [.slice ad3 (PlainD.shape (α := PD (k + 1)) q).length cp3, .slice ad4 (PlainD.items (α := PD (k + 1)) q).length cp4, .int .i64 (PlainD.fill (α := PD (k + 1)) q)] q ∧ Sees w h r.2.2 [⟨some ⟨r.1, 0, none⟩, 1, 1, 63, 9, r.2.1⟩, ⟨some ⟨b2, 0, none⟩, 1, 1, 50, 3, [.slice ad3 (PlainD.shape (α := PD (k + 1)) q).length cp3, .slice ad4 (PlainD.items (α := PD (k + 1)) q).length cp4, .int .i64 (PlainD.fill (α := PD (k + 1)) q)]⟩, ⟨some ⟨b1, 0, none⟩, 1, 1, 50, 3, [.slice ad (PlainD.shape (α := PD (k + 1)) p).length cp, .slice ad2 (PlainD.items (α := PD (k + 1)) p).length cp2, .int .i64 (PlainD.fill (α := PD (k + 1)) p)]⟩] w') ?_ ?_
  · refine CW.regionR T 1 0 hs rfl rfl ?_
    intro w8 hs
    refine HW.takeR (fuel := 16) 0 rfl (fun _ _ ka kb _ hs hka hkb => Y.loadRowN T hs ka hka rfl rfl rfl rfl rfl rfl) ⟨_, _, 1, 0, hs, rfl, rfl⟩ rfl (by kernel_rfl) (by kernel_rfl) (by kernel_rfl) ?_
    refine HW.takeR (fuel := 15) 2 rfl (fun _ _ ka kb _ hs hka hkb => Y.move rfl) ⟨_, _, 1, 0, hs, rfl, rfl⟩ rfl (by kernel_rfl) (by kernel_rfl) (by kernel_rfl) ?_
    refine HW.takeR (fuel := 14) 3 rfl (fun _ _ ka kb _ hs hka hkb => Y.convIF T rfl rfl rfl) ⟨_, _, 1, 0, hs, rfl, rfl⟩ rfl (by kernel_rfl) (by kernel_rfl) (by kernel_rfl) ?_
    refine HW.takeR (fuel := 13) 8 rfl (fun _ _ ka kb _ hs hka hkb => Y.loadRowN T hs kb hkb rfl rfl rfl rfl rfl rfl) ⟨_, _, 1, 0, hs, rfl, rfl⟩ rfl (by kernel_rfl) (by kernel_rfl) (by kernel_rfl) ?_
    refine HW.two (fuel := 12) 1 14 rfl rfl (by kernel_rfl) ?_ ?_
    · (refine RW.call T hs rfl rfl rfl (of07_con (k + 2) _ p _ _ hp' hcp) ?_; intro v h64 w64 hle64 hp64 hs)
      obtain ⟨cs64, rfl, _, _, ha64⟩ := hp64
      have hp' := PlainAt.mono (k + 2) _ _ _ _ hle64 hp'
      have hq' := PlainAt.mono (k + 2) _ _ _ _ hle64 hq'
      refine RW.nil ?_
      refine heldQ_normal ⟨_, _, 1, 0, hs, rfl, rfl⟩ ?_
      refine HW.two (fuel := 11) 4 14 rfl rfl (by kernel_rfl) ?_ ?_
      · (refine RW.call T hs rfl rfl rfl (refOne_con (α := PD (k + 1)) (R := PlainAt (k + 1)) (fwF i) _ _ numi.1.1) ?_; intro v h67 w67 hle67 hp67 hs)
        obtain ⟨cs67, rfl, hq67⟩ := hp67
        have hp' := PlainAt.mono (k + 2) _ _ _ _ hle67 hp'
        have hq' := PlainAt.mono (k + 2) _ _ _ _ hle67 hq'
        have ha64 := ArrAt.mono (k + 2) _ _ _ _ hle67 ha64
        refine RW.nil ?_
        refine heldQ_normal ⟨_, _, 1, 0, hs, rfl, rfl⟩ ?_
        refine HW.two (fuel := 10) 5 14 rfl rfl (by kernel_rfl) ?_ ?_
        · (refine RW.call T hs rfl rfl rfl (of07_con (k + 2) _ (numQ (k + 1) (fwF i)) _ _ hq67 (numQ_chk (k + 1) _ numi.1.2.1)) ?_; intro v h68 w68 hle68 hp68 hs)
          obtain ⟨cs68, rfl, _, _, hn68⟩ := hp68
          rw [numQ_arr, tidyW_of numi.1] at hn68
          obtain ⟨s68, vc68, rfl, ⟨ad68, cap68, rfl, _⟩, hv68⟩ := id hn68
          obtain ⟨wv68, nv68, sm68, il68, fl68, ch68, bx68, ⟨rfl, hoc68⟩, _⟩ := hv68
          have hall68 : (Value.oneCell' (.slice ad68 (ArrD.shape (α := AD (k + 1)) (numA (k + 1) (fwF i))).length cap68) && (vecCells (ArrD.vec (α := AD (k + 1)) (numA (k + 1) (fwF i))).kind wv68 nv68 sm68 il68 fl68 ch68 bx68).all Value.oneCell') = true := by rw [hoc68]; rfl
          have hp' := PlainAt.mono (k + 2) _ _ _ _ hle68 hp'
          have hq' := PlainAt.mono (k + 2) _ _ _ _ hle68 hq'
          have ha64 := ArrAt.mono (k + 2) _ _ _ _ hle68 ha64
          refine RW.nil ?_
          refine heldQ_normal ⟨_, _, 1, 0, hs, rfl, rfl⟩ ?_
          refine HW.takeR (fuel := 9) 6 rfl (fun _ _ ka kb _ hs hka hkb => Y.build T rfl rfl rfl rfl rfl rfl rfl) ⟨_, _, 1, 0, hs, rfl, rfl⟩ rfl (by kernel_rfl) (by kernel_rfl) (by kernel_rfl) ?_
          refine HW.three (fuel := 8) 7 9 14 rfl rfl rfl (by kernel_rfl) ?_ ?_ ?_
          · (refine RW.lit T hs (vs := [.agg (.bool false :: .slice ad68 (ArrD.shape (α := AD (k + 1)) (numA (k + 1) (fwF i))).length cap68 :: vecCells (ArrD.vec (α := AD (k + 1)) (numA (k + 1) (fwF i))).kind wv68 nv68 sm68 il68 fl68 ch68 bx68).toArray]) (cs := (.bool false :: .slice ad68 (ArrD.shape (α := AD (k + 1)) (numA (k + 1) (fwF i))).length cap68 :: vecCells (ArrD.vec (α := AD (k + 1)) (numA (k + 1) (fwF i))).kind wv68 nv68 sm68 il68 fl68 ch68 bx68)) rfl rfl rfl rfl (by simp [Value.cells, vecCells]) rfl rfl rfl rfl rfl ?_; intro b70 w70 hs)
            obtain ⟨h70, hle70, hs, hS70⟩ := hs.freeze
            have hp' := PlainAt.mono (k + 2) _ _ _ _ hle70 hp'
            have hq' := PlainAt.mono (k + 2) _ _ _ _ hle70 hq'
            have ha64 := ArrAt.mono (k + 2) _ _ _ _ hle70 ha64
            have hn68 := ArrAt.mono (k + 2) _ _ _ _ hle70 hn68
            refine RW.nil ?_
            refine heldQ_normal ⟨_, _, 1, 0, hs, rfl, rfl⟩ ?_
            refine HW.two (fuel := 7) 9 14 rfl rfl (by kernel_rfl) ?_ ?_
            · (refine RW.call T hs rfl rfl rfl (of07_con (k + 2) _ q _ _ hq' hcq) ?_; intro v h72 w72 hle72 hp72 hs)
              obtain ⟨cs72, rfl, _, _, ha72⟩ := hp72
              have hp' := PlainAt.mono (k + 2) _ _ _ _ hle72 hp'
              have hq' := PlainAt.mono (k + 2) _ _ _ _ hle72 hq'
              have ha64 := ArrAt.mono (k + 2) _ _ _ _ hle72 ha64
              have hn68 := ArrAt.mono (k + 2) _ _ _ _ hle72 hn68
              have hS70 := hS70.mono hle72
              refine RW.nil ?_
              refine heldQ_normal ⟨_, _, 1, 0, hs, rfl, rfl⟩ ?_
              refine HW.two (fuel := 6) 10 14 rfl rfl (by kernel_rfl) ?_ ?_
              · (refine RW.call T hs rfl rfl rfl (indexSet_con (ArrAt.mono (k + 1)) (ArrAt.one (k + 1)) (ArrAt.siz (k + 1)) (blankA k) (fun w h => flatBlank_con (ArrAt.mono k) (ArrAt.one k) w h) _ _ (arr (k + 2) p) (arr (k + 2) q) (numA (k + 1) (fwF i)) b70 1 (PlainD.items (α := PD (k + 1)) p).length _ 0 3000 1 c' _ _ ha64 ha72 BF.sh BF.ml BF.ka (by omega) BF.b1 hS70 hn68 (one_kind i (by omega)) (show 1 ≤ 1048576 by decide) (show 1 ≤ 1048576 by decide) (show 0 ≤ 1048576 by decide) ⟨by decide, by decide⟩ (one_in k i _ hi3 hi0) (show product [] 3000 = (1, 0) by decide) (by decide) BF.F.hj BF.F.k1 BF.F.l1 (by rw [BF.sh, one_nums k i hi3]; exact BF.F.n1)) ?_; intro v h73 w73 hle73 hp73 hs)
                obtain ⟨cs73, rfl, ha73⟩ := hp73
                rw [BF.sh, one_nums k i hi3, pick_sq] at ha73
                have ha73 : ArrAt (k + 2) h73 cs73 ((⟨[((PlainD.items (α := PD (k + 1)) p).length : Int)], (joinedW c' [ArrD.vec (α := AD (k + 1)) (arr (k + 2) p), ArrD.vec (α := AD (k + 1)) (arr (k + 2) q)]).pick (atL (PlainD.items (α := PD (k + 1)) p).length [(i : Int)]) (blankA k)⟩ : ArrD (AD (k + 1)))) := ha73
                obtain ⟨s73, vc73, rfl, ⟨ad73, cap73, rfl, _⟩, hv73⟩ := id ha73
                obtain ⟨wv73, nv73, sm73, il73, fl73, ch73, bx73, ⟨rfl, hoc73⟩, _⟩ := hv73
                have hall73 : (Value.oneCell' (.slice ad73 (ArrD.shape (α := AD (k + 1)) ((⟨[((PlainD.items (α := PD (k + 1)) p).length : Int)], (joinedW c' [ArrD.vec (α := AD (k + 1)) (arr (k + 2) p), ArrD.vec (α := AD (k + 1)) (arr (k + 2) q)]).pick (atL (PlainD.items (α := PD (k + 1)) p).length [(i : Int)]) (blankA k)⟩ : ArrD (AD (k + 1))))).length cap73) && (vecCells (ArrD.vec (α := AD (k + 1)) ((⟨[((PlainD.items (α := PD (k + 1)) p).length : Int)], (joinedW c' [ArrD.vec (α := AD (k + 1)) (arr (k + 2) p), ArrD.vec (α := AD (k + 1)) (arr (k + 2) q)]).pick (atL (PlainD.items (α := PD (k + 1)) p).length [(i : Int)]) (blankA k)⟩ : ArrD (AD (k + 1))))).kind wv73 nv73 sm73 il73 fl73 ch73 bx73).all Value.oneCell') = true := by rw [hoc73]; rfl
                have hp' := PlainAt.mono (k + 2) _ _ _ _ hle73 hp'
                have hq' := PlainAt.mono (k + 2) _ _ _ _ hle73 hq'
                refine RW.nil ?_
                refine heldQ_normal ⟨_, _, 1, 0, hs, rfl, rfl⟩ ?_
                refine HW.takeR (fuel := 5) 11 rfl (fun _ _ ka kb _ hs hka hkb => Y.move rfl) ⟨_, _, 1, 0, hs, rfl, rfl⟩ rfl (by kernel_rfl) (by kernel_rfl) (by kernel_rfl) ?_
                refine HW.takeR (fuel := 4) 12 rfl (fun _ _ ka kb _ hs hka hkb => Y.extract rfl rfl) ⟨_, _, 1, 0, hs, rfl, rfl⟩ rfl (by kernel_rfl) (by kernel_rfl) (by kernel_rfl) ?_
                refine HW.takeR (fuel := 3) 13 rfl (fun _ _ ka kb _ hs hka hkb => Y.extract rfl rfl) ⟨_, _, 1, 0, hs, rfl, rfl⟩ rfl (by kernel_rfl) (by kernel_rfl) (by kernel_rfl) ?_
                refine HW.one (fuel := 2) 14 rfl (by kernel_rfl) ?_
                (refine RW.allocN T hs rfl rfl rfl rfl ?_; intro b11 w11 hs)
                refine RW.nil ?_
                refine heldQ_normal ⟨_, _, 2, 1, hs, rfl, rfl⟩ ?_
                refine HW.one (fuel := 1) 15 rfl (by kernel_rfl) ?_
                refine RW.storeAll T hs 0 rfl rfl rfl rfl rfl rfl hall73 rfl ?_
                intro w20 hs
                refine RW.nil ?_
                refine heldQ_normal ⟨_, _, 2, 1, hs, rfl, rfl⟩ ?_
                refine HW.takeR (fuel := 0) 16 rfl (fun _ _ ka kb _ hs hka hkb => Y.assign rfl) ⟨_, _, 2, 1, hs, rfl, rfl⟩ rfl (by kernel_rfl) (by kernel_rfl) (by kernel_rfl) ?_
                refine HW.done (by kernel_rfl) ?_
                refine calmQ_normal ?_
                exact joinQ_meet (b11, _, h73) ⟨rfl, rfl, rfl, rfl, rfl, rfl, rfl, trivial⟩ ⟨ha73, hp', hq', hs⟩
              · (refine RW.allocN T hs rfl rfl rfl rfl ?_; intro b11 w11 hs)
                refine RW.nil ?_
                refine heldQ_normal ⟨_, _, 2, 1, hs, rfl, rfl⟩ ?_
                refine HW.one (fuel := 5) 10 rfl (by kernel_rfl) ?_
                (refine RW.call T hs rfl rfl rfl (indexSet_con (ArrAt.mono (k + 1)) (ArrAt.one (k + 1)) (ArrAt.siz (k + 1)) (blankA k) (fun w h => flatBlank_con (ArrAt.mono k) (ArrAt.one k) w h) _ _ (arr (k + 2) p) (arr (k + 2) q) (numA (k + 1) (fwF i)) b70 1 (PlainD.items (α := PD (k + 1)) p).length _ 0 3000 1 c' _ _ ha64 ha72 BF.sh BF.ml BF.ka (by omega) BF.b1 hS70 hn68 (one_kind i (by omega)) (show 1 ≤ 1048576 by decide) (show 1 ≤ 1048576 by decide) (show 0 ≤ 1048576 by decide) ⟨by decide, by decide⟩ (one_in k i _ hi3 hi0) (show product [] 3000 = (1, 0) by decide) (by decide) BF.F.hj BF.F.k1 BF.F.l1 (by rw [BF.sh, one_nums k i hi3]; exact BF.F.n1)) ?_; intro v h73 w73 hle73 hp73 hs)
                obtain ⟨cs73, rfl, ha73⟩ := hp73
                rw [BF.sh, one_nums k i hi3, pick_sq] at ha73
                have ha73 : ArrAt (k + 2) h73 cs73 ((⟨[((PlainD.items (α := PD (k + 1)) p).length : Int)], (joinedW c' [ArrD.vec (α := AD (k + 1)) (arr (k + 2) p), ArrD.vec (α := AD (k + 1)) (arr (k + 2) q)]).pick (atL (PlainD.items (α := PD (k + 1)) p).length [(i : Int)]) (blankA k)⟩ : ArrD (AD (k + 1)))) := ha73
                obtain ⟨s73, vc73, rfl, ⟨ad73, cap73, rfl, _⟩, hv73⟩ := id ha73
                obtain ⟨wv73, nv73, sm73, il73, fl73, ch73, bx73, ⟨rfl, hoc73⟩, _⟩ := hv73
                have hall73 : (Value.oneCell' (.slice ad73 (ArrD.shape (α := AD (k + 1)) ((⟨[((PlainD.items (α := PD (k + 1)) p).length : Int)], (joinedW c' [ArrD.vec (α := AD (k + 1)) (arr (k + 2) p), ArrD.vec (α := AD (k + 1)) (arr (k + 2) q)]).pick (atL (PlainD.items (α := PD (k + 1)) p).length [(i : Int)]) (blankA k)⟩ : ArrD (AD (k + 1))))).length cap73) && (vecCells (ArrD.vec (α := AD (k + 1)) ((⟨[((PlainD.items (α := PD (k + 1)) p).length : Int)], (joinedW c' [ArrD.vec (α := AD (k + 1)) (arr (k + 2) p), ArrD.vec (α := AD (k + 1)) (arr (k + 2) q)]).pick (atL (PlainD.items (α := PD (k + 1)) p).length [(i : Int)]) (blankA k)⟩ : ArrD (AD (k + 1))))).kind wv73 nv73 sm73 il73 fl73 ch73 bx73).all Value.oneCell') = true := by rw [hoc73]; rfl
                have hp' := PlainAt.mono (k + 2) _ _ _ _ hle73 hp'
                have hq' := PlainAt.mono (k + 2) _ _ _ _ hle73 hq'
                refine RW.nil ?_
                refine heldQ_normal ⟨_, _, 2, 1, hs, rfl, rfl⟩ ?_
                refine HW.takeR (fuel := 4) 11 rfl (fun _ _ ka kb _ hs hka hkb => Y.move rfl) ⟨_, _, 2, 1, hs, rfl, rfl⟩ rfl (by kernel_rfl) (by kernel_rfl) (by kernel_rfl) ?_
                refine HW.takeR (fuel := 3) 12 rfl (fun _ _ ka kb _ hs hka hkb => Y.extract rfl rfl) ⟨_, _, 2, 1, hs, rfl, rfl⟩ rfl (by kernel_rfl) (by kernel_rfl) (by kernel_rfl) ?_
                refine HW.takeR (fuel := 2) 13 rfl (fun _ _ ka kb _ hs hka hkb => Y.extract rfl rfl) ⟨_, _, 2, 1, hs, rfl, rfl⟩ rfl (by kernel_rfl) (by kernel_rfl) (by kernel_rfl) ?_
                refine HW.one (fuel := 1) 15 rfl (by kernel_rfl) ?_
                refine RW.storeAll T hs 0 rfl rfl rfl rfl rfl rfl hall73 rfl ?_
                intro w20 hs
                refine RW.nil ?_
                refine heldQ_normal ⟨_, _, 2, 1, hs, rfl, rfl⟩ ?_
                refine HW.takeR (fuel := 0) 16 rfl (fun _ _ ka kb _ hs hka hkb => Y.assign rfl) ⟨_, _, 2, 1, hs, rfl, rfl⟩ rfl (by kernel_rfl) (by kernel_rfl) (by kernel_rfl) ?_
                refine HW.done (by kernel_rfl) ?_
                refine calmQ_normal ?_
                exact joinQ_meet (b11, _, h73) ⟨rfl, rfl, rfl, rfl, rfl, rfl, rfl, trivial⟩ ⟨ha73, hp', hq', hs⟩
            · (refine RW.allocN T hs rfl rfl rfl rfl ?_; intro b11 w11 hs)
              refine RW.nil ?_
              refine heldQ_normal ⟨_, _, 2, 1, hs, rfl, rfl⟩ ?_
              refine HW.one (fuel := 6) 9 rfl (by kernel_rfl) ?_
              (refine RW.call T hs rfl rfl rfl (of07_con (k + 2) _ q _ _ hq' hcq) ?_; intro v h72 w72 hle72 hp72 hs)
              obtain ⟨cs72, rfl, _, _, ha72⟩ := hp72
              have hp' := PlainAt.mono (k + 2) _ _ _ _ hle72 hp'
              have hq' := PlainAt.mono (k + 2) _ _ _ _ hle72 hq'
              have ha64 := ArrAt.mono (k + 2) _ _ _ _ hle72 ha64
              have hn68 := ArrAt.mono (k + 2) _ _ _ _ hle72 hn68
              have hS70 := hS70.mono hle72
              refine RW.nil ?_
              refine heldQ_normal ⟨_, _, 2, 1, hs, rfl, rfl⟩ ?_
              refine HW.one (fuel := 5) 10 rfl (by kernel_rfl) ?_
              (refine RW.call T hs rfl rfl rfl (indexSet_con (ArrAt.mono (k + 1)) (ArrAt.one (k + 1)) (ArrAt.siz (k + 1)) (blankA k) (fun w h => flatBlank_con (ArrAt.mono k) (ArrAt.one k) w h) _ _ (arr (k + 2) p) (arr (k + 2) q) (numA (k + 1) (fwF i)) b70 1 (PlainD.items (α := PD (k + 1)) p).length _ 0 3000 1 c' _ _ ha64 ha72 BF.sh BF.ml BF.ka (by omega) BF.b1 hS70 hn68 (one_kind i (by omega)) (show 1 ≤ 1048576 by decide) (show 1 ≤ 1048576 by decide) (show 0 ≤ 1048576 by decide) ⟨by decide, by decide⟩ (one_in k i _ hi3 hi0) (show product [] 3000 = (1, 0) by decide) (by decide) BF.F.hj BF.F.k1 BF.F.l1 (by rw [BF.sh, one_nums k i hi3]; exact BF.F.n1)) ?_; intro v h73 w73 hle73 hp73 hs)
              obtain ⟨cs73, rfl, ha73⟩ := hp73
              rw [BF.sh, one_nums k i hi3, pick_sq] at ha73
              have ha73 : ArrAt (k + 2) h73 cs73 ((⟨[((PlainD.items (α := PD (k + 1)) p).length : Int)], (joinedW c' [ArrD.vec (α := AD (k + 1)) (arr (k + 2) p), ArrD.vec (α := AD (k + 1)) (arr (k + 2) q)]).pick (atL (PlainD.items (α := PD (k + 1)) p).length [(i : Int)]) (blankA k)⟩ : ArrD (AD (k + 1)))) := ha73
              obtain ⟨s73, vc73, rfl, ⟨ad73, cap73, rfl, _⟩, hv73⟩ := id ha73
              obtain ⟨wv73, nv73, sm73, il73, fl73, ch73, bx73, ⟨rfl, hoc73⟩, _⟩ := hv73
              have hall73 : (Value.oneCell' (.slice ad73 (ArrD.shape (α := AD (k + 1)) ((⟨[((PlainD.items (α := PD (k + 1)) p).length : Int)], (joinedW c' [ArrD.vec (α := AD (k + 1)) (arr (k + 2) p), ArrD.vec (α := AD (k + 1)) (arr (k + 2) q)]).pick (atL (PlainD.items (α := PD (k + 1)) p).length [(i : Int)]) (blankA k)⟩ : ArrD (AD (k + 1))))).length cap73) && (vecCells (ArrD.vec (α := AD (k + 1)) ((⟨[((PlainD.items (α := PD (k + 1)) p).length : Int)], (joinedW c' [ArrD.vec (α := AD (k + 1)) (arr (k + 2) p), ArrD.vec (α := AD (k + 1)) (arr (k + 2) q)]).pick (atL (PlainD.items (α := PD (k + 1)) p).length [(i : Int)]) (blankA k)⟩ : ArrD (AD (k + 1))))).kind wv73 nv73 sm73 il73 fl73 ch73 bx73).all Value.oneCell') = true := by rw [hoc73]; rfl
              have hp' := PlainAt.mono (k + 2) _ _ _ _ hle73 hp'
              have hq' := PlainAt.mono (k + 2) _ _ _ _ hle73 hq'
              refine RW.nil ?_
              refine heldQ_normal ⟨_, _, 2, 1, hs, rfl, rfl⟩ ?_
              refine HW.takeR (fuel := 4) 11 rfl (fun _ _ ka kb _ hs hka hkb => Y.move rfl) ⟨_, _, 2, 1, hs, rfl, rfl⟩ rfl (by kernel_rfl) (by kernel_rfl) (by kernel_rfl) ?_
              refine HW.takeR (fuel := 3) 12 rfl (fun _ _ ka kb _ hs hka hkb => Y.extract rfl rfl) ⟨_, _, 2, 1, hs, rfl, rfl⟩ rfl (by kernel_rfl) (by kernel_rfl) (by kernel_rfl) ?_
              refine HW.takeR (fuel := 2) 13 rfl (fun _ _ ka kb _ hs hka hkb => Y.extract rfl rfl) ⟨_, _, 2, 1, hs, rfl, rfl⟩ rfl (by kernel_rfl) (by kernel_rfl) (by kernel_rfl) ?_
              refine HW.one (fuel := 1) 15 rfl (by kernel_rfl) ?_
              refine RW.storeAll T hs 0 rfl rfl rfl rfl rfl rfl hall73 rfl ?_
              intro w20 hs
              refine RW.nil ?_
              refine heldQ_normal ⟨_, _, 2, 1, hs, rfl, rfl⟩ ?_
              refine HW.takeR (fuel := 0) 16 rfl (fun _ _ ka kb _ hs hka hkb => Y.assign rfl) ⟨_, _, 2, 1, hs, rfl, rfl⟩ rfl (by kernel_rfl) (by kernel_rfl) (by kernel_rfl) ?_
              refine HW.done (by kernel_rfl) ?_
              refine calmQ_normal ?_
              exact joinQ_meet (b11, _, h73) ⟨rfl, rfl, rfl, rfl, rfl, rfl, rfl, trivial⟩ ⟨ha73, hp', hq', hs⟩
          · (refine RW.call T hs rfl rfl rfl (of07_con (k + 2) _ q _ _ hq' hcq) ?_; intro v h72 w72 hle72 hp72 hs)
            obtain ⟨cs72, rfl, _, _, ha72⟩ := hp72
            have hp' := PlainAt.mono (k + 2) _ _ _ _ hle72 hp'
            have hq' := PlainAt.mono (k + 2) _ _ _ _ hle72 hq'
            have ha64 := ArrAt.mono (k + 2) _ _ _ _ hle72 ha64
            have hn68 := ArrAt.mono (k + 2) _ _ _ _ hle72 hn68
            refine RW.nil ?_
            refine heldQ_normal ⟨_, _, 1, 0, hs, rfl, rfl⟩ ?_
            refine HW.two (fuel := 7) 7 14 rfl rfl (by kernel_rfl) ?_ ?_
            · (refine RW.lit T hs (vs := [.agg (.bool false :: .slice ad68 (ArrD.shape (α := AD (k + 1)) (numA (k + 1) (fwF i))).length cap68 :: vecCells (ArrD.vec (α := AD (k + 1)) (numA (k + 1) (fwF i))).kind wv68 nv68 sm68 il68 fl68 ch68 bx68).toArray]) (cs := (.bool false :: .slice ad68 (ArrD.shape (α := AD (k + 1)) (numA (k + 1) (fwF i))).length cap68 :: vecCells (ArrD.vec (α := AD (k + 1)) (numA (k + 1) (fwF i))).kind wv68 nv68 sm68 il68 fl68 ch68 bx68)) rfl rfl rfl rfl (by simp [Value.cells, vecCells]) rfl rfl rfl rfl rfl ?_; intro b70 w70 hs)
              obtain ⟨h70, hle70, hs, hS70⟩ := hs.freeze
              have hp' := PlainAt.mono (k + 2) _ _ _ _ hle70 hp'
              have hq' := PlainAt.mono (k + 2) _ _ _ _ hle70 hq'
              have ha64 := ArrAt.mono (k + 2) _ _ _ _ hle70 ha64
              have hn68 := ArrAt.mono (k + 2) _ _ _ _ hle70 hn68
              have ha72 := ArrAt.mono (k + 2) _ _ _ _ hle70 ha72
              refine RW.nil ?_
              refine heldQ_normal ⟨_, _, 1, 0, hs, rfl, rfl⟩ ?_
              refine HW.two (fuel := 6) 10 14 rfl rfl (by kernel_rfl) ?_ ?_
              · (refine RW.call T hs rfl rfl rfl (indexSet_con (ArrAt.mono (k + 1)) (ArrAt.one (k + 1)) (ArrAt.siz (k + 1)) (blankA k) (fun w h => flatBlank_con (ArrAt.mono k) (ArrAt.one k) w h) _ _ (arr (k + 2) p) (arr (k + 2) q) (numA (k + 1) (fwF i)) b70 1 (PlainD.items (α := PD (k + 1)) p).length _ 0 3000 1 c' _ _ ha64 ha72 BF.sh BF.ml BF.ka (by omega) BF.b1 hS70 hn68 (one_kind i (by omega)) (show 1 ≤ 1048576 by decide) (show 1 ≤ 1048576 by decide) (show 0 ≤ 1048576 by decide) ⟨by decide, by decide⟩ (one_in k i _ hi3 hi0) (show product [] 3000 = (1, 0) by decide) (by decide) BF.F.hj BF.F.k1 BF.F.l1 (by rw [BF.sh, one_nums k i hi3]; exact BF.F.n1)) ?_; intro v h73 w73 hle73 hp73 hs)
                obtain ⟨cs73, rfl, ha73⟩ := hp73
                rw [BF.sh, one_nums k i hi3, pick_sq] at ha73
                have ha73 : ArrAt (k + 2) h73 cs73 ((⟨[((PlainD.items (α := PD (k + 1)) p).length : Int)], (joinedW c' [ArrD.vec (α := AD (k + 1)) (arr (k + 2) p), ArrD.vec (α := AD (k + 1)) (arr (k + 2) q)]).pick (atL (PlainD.items (α := PD (k + 1)) p).length [(i : Int)]) (blankA k)⟩ : ArrD (AD (k + 1)))) := ha73
                obtain ⟨s73, vc73, rfl, ⟨ad73, cap73, rfl, _⟩, hv73⟩ := id ha73
                obtain ⟨wv73, nv73, sm73, il73, fl73, ch73, bx73, ⟨rfl, hoc73⟩, _⟩ := hv73
                have hall73 : (Value.oneCell' (.slice ad73 (ArrD.shape (α := AD (k + 1)) ((⟨[((PlainD.items (α := PD (k + 1)) p).length : Int)], (joinedW c' [ArrD.vec (α := AD (k + 1)) (arr (k + 2) p), ArrD.vec (α := AD (k + 1)) (arr (k + 2) q)]).pick (atL (PlainD.items (α := PD (k + 1)) p).length [(i : Int)]) (blankA k)⟩ : ArrD (AD (k + 1))))).length cap73) && (vecCells (ArrD.vec (α := AD (k + 1)) ((⟨[((PlainD.items (α := PD (k + 1)) p).length : Int)], (joinedW c' [ArrD.vec (α := AD (k + 1)) (arr (k + 2) p), ArrD.vec (α := AD (k + 1)) (arr (k + 2) q)]).pick (atL (PlainD.items (α := PD (k + 1)) p).length [(i : Int)]) (blankA k)⟩ : ArrD (AD (k + 1))))).kind wv73 nv73 sm73 il73 fl73 ch73 bx73).all Value.oneCell') = true := by rw [hoc73]; rfl
                have hp' := PlainAt.mono (k + 2) _ _ _ _ hle73 hp'
                have hq' := PlainAt.mono (k + 2) _ _ _ _ hle73 hq'
                refine RW.nil ?_
                refine heldQ_normal ⟨_, _, 1, 0, hs, rfl, rfl⟩ ?_
                refine HW.takeR (fuel := 5) 11 rfl (fun _ _ ka kb _ hs hka hkb => Y.move rfl) ⟨_, _, 1, 0, hs, rfl, rfl⟩ rfl (by kernel_rfl) (by kernel_rfl) (by kernel_rfl) ?_
                refine HW.takeR (fuel := 4) 12 rfl (fun _ _ ka kb _ hs hka hkb => Y.extract rfl rfl) ⟨_, _, 1, 0, hs, rfl, rfl⟩ rfl (by kernel_rfl) (by kernel_rfl) (by kernel_rfl) ?_
                refine HW.takeR (fuel := 3) 13 rfl (fun _ _ ka kb _ hs hka hkb => Y.extract rfl rfl) ⟨_, _, 1, 0, hs, rfl, rfl⟩ rfl (by kernel_rfl) (by kernel_rfl) (by kernel_rfl) ?_
                refine HW.one (fuel := 2) 14 rfl (by kernel_rfl) ?_
                (refine RW.allocN T hs rfl rfl rfl rfl ?_; intro b11 w11 hs)
                refine RW.nil ?_
                refine heldQ_normal ⟨_, _, 2, 1, hs, rfl, rfl⟩ ?_
                refine HW.one (fuel := 1) 15 rfl (by kernel_rfl) ?_
                refine RW.storeAll T hs 0 rfl rfl rfl rfl rfl rfl hall73 rfl ?_
                intro w20 hs
                refine RW.nil ?_
                refine heldQ_normal ⟨_, _, 2, 1, hs, rfl, rfl⟩ ?_
                refine HW.takeR (fuel := 0) 16 rfl (fun _ _ ka kb _ hs hka hkb => Y.assign rfl) ⟨_, _, 2, 1, hs, rfl, rfl⟩ rfl (by kernel_rfl) (by kernel_rfl) (by kernel_rfl) ?_
                refine HW.done (by kernel_rfl) ?_
                refine calmQ_normal ?_
                exact joinQ_meet (b11, _, h73) ⟨rfl, rfl, rfl, rfl, rfl, rfl, rfl, trivial⟩ ⟨ha73, hp', hq', hs⟩
              · (refine RW.allocN T hs rfl rfl rfl rfl ?_; intro b11 w11 hs)
                refine RW.nil ?_
                refine heldQ_normal ⟨_, _, 2, 1, hs, rfl, rfl⟩ ?_
                refine HW.one (fuel := 5) 10 rfl (by kernel_rfl) ?_
                (refine RW.call T hs rfl rfl rfl (indexSet_con (ArrAt.mono (k + 1)) (ArrAt.one (k + 1)) (ArrAt.siz (k + 1)) (blankA k) (fun w h => flatBlank_con (ArrAt.mono k) (ArrAt.one k) w h) _ _ (arr (k + 2) p) (arr (k + 2) q) (numA (k + 1) (fwF i)) b70 1 (PlainD.items (α := PD (k + 1)) p).length _ 0 3000 1 c' _ _ ha64 ha72 BF.sh BF.ml BF.ka (by omega) BF.b1 hS70 hn68 (one_kind i (by omega)) (show 1 ≤ 1048576 by decide) (show 1 ≤ 1048576 by decide) (show 0 ≤ 1048576 by decide) ⟨by decide, by decide⟩ (one_in k i _ hi3 hi0) (show product [] 3000 = (1, 0) by decide) (by decide) BF.F.hj BF.F.k1 BF.F.l1 (by rw [BF.sh, one_nums k i hi3]; exact BF.F.n1)) ?_; intro v h73 w73 hle73 hp73 hs)
                obtain ⟨cs73, rfl, ha73⟩ := hp73
                rw [BF.sh, one_nums k i hi3, pick_sq] at ha73
                have ha73 : ArrAt (k + 2) h73 cs73 ((⟨[((PlainD.items (α := PD (k + 1)) p).length : Int)], (joinedW c' [ArrD.vec (α := AD (k + 1)) (arr (k + 2) p), ArrD.vec (α := AD (k + 1)) (arr (k + 2) q)]).pick (atL (PlainD.items (α := PD (k + 1)) p).length [(i : Int)]) (blankA k)⟩ : ArrD (AD (k + 1)))) := ha73
                obtain ⟨s73, vc73, rfl, ⟨ad73, cap73, rfl, _⟩, hv73⟩ := id ha73
                obtain ⟨wv73, nv73, sm73, il73, fl73, ch73, bx73, ⟨rfl, hoc73⟩, _⟩ := hv73
                have hall73 : (Value.oneCell' (.slice ad73 (ArrD.shape (α := AD (k + 1)) ((⟨[((PlainD.items (α := PD (k + 1)) p).length : Int)], (joinedW c' [ArrD.vec (α := AD (k + 1)) (arr (k + 2) p), ArrD.vec (α := AD (k + 1)) (arr (k + 2) q)]).pick (atL (PlainD.items (α := PD (k + 1)) p).length [(i : Int)]) (blankA k)⟩ : ArrD (AD (k + 1))))).length cap73) && (vecCells (ArrD.vec (α := AD (k + 1)) ((⟨[((PlainD.items (α := PD (k + 1)) p).length : Int)], (joinedW c' [ArrD.vec (α := AD (k + 1)) (arr (k + 2) p), ArrD.vec (α := AD (k + 1)) (arr (k + 2) q)]).pick (atL (PlainD.items (α := PD (k + 1)) p).length [(i : Int)]) (blankA k)⟩ : ArrD (AD (k + 1))))).kind wv73 nv73 sm73 il73 fl73 ch73 bx73).all Value.oneCell') = true := by rw [hoc73]; rfl
                have hp' := PlainAt.mono (k + 2) _ _ _ _ hle73 hp'
                have hq' := PlainAt.mono (k + 2) _ _ _ _ hle73 hq'
                refine RW.nil ?_
                refine heldQ_normal ⟨_, _, 2, 1, hs, rfl, rfl⟩ ?_
                refine HW.takeR (fuel := 4) 11 rfl (fun _ _ ka kb _ hs hka hkb => Y.move rfl) ⟨_, _, 2, 1, hs, rfl, rfl⟩ rfl (by kernel_rfl) (by kernel_rfl) (by kernel_rfl) ?_
                refine HW.takeR (fuel := 3) 12 rfl (fun _ _ ka kb _ hs hka hkb => Y.extract rfl rfl) ⟨_, _, 2, 1, hs, rfl, rfl⟩ rfl (by kernel_rfl) (by kernel_rfl) (by kernel_rfl) ?_
                refine HW.takeR (fuel := 2) 13 rfl (fun _ _ ka kb _ hs hka hkb => Y.extract rfl rfl) ⟨_, _, 2, 1, hs, rfl, rfl⟩ rfl (by kernel_rfl) (by kernel_rfl) (by kernel_rfl) ?_
                refine HW.one (fuel := 1) 15 rfl (by kernel_rfl) ?_
                refine RW.storeAll T hs 0 rfl rfl rfl rfl rfl rfl hall73 rfl ?_
                intro w20 hs
                refine RW.nil ?_
                refine heldQ_normal ⟨_, _, 2, 1, hs, rfl, rfl⟩ ?_
                refine HW.takeR (fuel := 0) 16 rfl (fun _ _ ka kb _ hs hka hkb => Y.assign rfl) ⟨_, _, 2, 1, hs, rfl, rfl⟩ rfl (by kernel_rfl) (by kernel_rfl) (by kernel_rfl) ?_
                refine HW.done (by kernel_rfl) ?_
                refine calmQ_normal ?_
                exact joinQ_meet (b11, _, h73) ⟨rfl, rfl, rfl, rfl, rfl, rfl, rfl, trivial⟩ ⟨ha73, hp', hq', hs⟩
            · (refine RW.allocN T hs rfl rfl rfl rfl ?_; intro b11 w11 hs)
              refine RW.nil ?_
              refine heldQ_normal ⟨_, _, 2, 1, hs, rfl, rfl⟩ ?_
              refine HW.one (fuel := 6) 7 rfl (by kernel_rfl) ?_
              (refine RW.lit T hs (vs := [.agg (.bool false :: .slice ad68 (ArrD.shape (α := AD (k + 1)) (numA (k + 1) (fwF i))).length cap68 :: vecCells (ArrD.vec (α := AD (k + 1)) (numA (k + 1) (fwF i))).kind wv68 nv68 sm68 il68 fl68 ch68 bx68).toArray]) (cs := (.bool false :: .slice ad68 (ArrD.shape (α := AD (k + 1)) (numA (k + 1) (fwF i))).length cap68 :: vecCells (ArrD.vec (α := AD (k + 1)) (numA (k + 1) (fwF i))).kind wv68 nv68 sm68 il68 fl68 ch68 bx68)) rfl rfl rfl rfl (by simp [Value.cells, vecCells]) rfl rfl rfl rfl rfl ?_; intro b70 w70 hs)
              obtain ⟨h70, hle70, hs, hS70⟩ := hs.freeze
              have hp' := PlainAt.mono (k + 2) _ _ _ _ hle70 hp'
              have hq' := PlainAt.mono (k + 2) _ _ _ _ hle70 hq'
              have ha64 := ArrAt.mono (k + 2) _ _ _ _ hle70 ha64
              have hn68 := ArrAt.mono (k + 2) _ _ _ _ hle70 hn68
              have ha72 := ArrAt.mono (k + 2) _ _ _ _ hle70 ha72
              refine RW.nil ?_
              refine heldQ_normal ⟨_, _, 2, 1, hs, rfl, rfl⟩ ?_
              refine HW.one (fuel := 5) 10 rfl (by kernel_rfl) ?_
              (refine RW.call T hs rfl rfl rfl (indexSet_con (ArrAt.mono (k + 1)) (ArrAt.one (k + 1)) (ArrAt.siz (k + 1)) (blankA k) (fun w h => flatBlank_con (ArrAt.mono k) (ArrAt.one k) w h) _ _ (arr (k + 2) p) (arr (k + 2) q) (numA (k + 1) (fwF i)) b70 1 (PlainD.items (α := PD (k + 1)) p).length _ 0 3000 1 c' _ _ ha64 ha72 BF.sh BF.ml BF.ka (by omega) BF.b1 hS70 hn68 (one_kind i (by omega)) (show 1 ≤ 1048576 by decide) (show 1 ≤ 1048576 by decide) (show 0 ≤ 1048576 by decide) ⟨by decide, by decide⟩ (one_in k i _ hi3 hi0) (show product [] 3000 = (1, 0) by decide) (by decide) BF.F.hj BF.F.k1 BF.F.l1 (by rw [BF.sh, one_nums k i hi3]; exact BF.F.n1)) ?_; intro v h73 w73 hle73 hp73 hs)
              obtain ⟨cs73, rfl, ha73⟩ := hp73
              rw [BF.sh, one_nums k i hi3, pick_sq] at ha73
              have ha73 : ArrAt (k + 2) h73 cs73 ((⟨[((PlainD.items (α := PD (k + 1)) p).length : Int)], (joinedW c' [ArrD.vec (α := AD (k + 1)) (arr (k + 2) p), ArrD.vec (α := AD (k + 1)) (arr (k + 2) q)]).pick (atL (PlainD.items (α := PD (k + 1)) p).length [(i : Int)]) (blankA k)⟩ : ArrD (AD (k + 1)))) := ha73
              obtain ⟨s73, vc73, rfl, ⟨ad73, cap73, rfl, _⟩, hv73⟩ := id ha73
              obtain ⟨wv73, nv73, sm73, il73, fl73, ch73, bx73, ⟨rfl, hoc73⟩, _⟩ := hv73
              have hall73 : (Value.oneCell' (.slice ad73 (ArrD.shape (α := AD (k + 1)) ((⟨[((PlainD.items (α := PD (k + 1)) p).length : Int)], (joinedW c' [ArrD.vec (α := AD (k + 1)) (arr (k + 2) p), ArrD.vec (α := AD (k + 1)) (arr (k + 2) q)]).pick (atL (PlainD.items (α := PD (k + 1)) p).length [(i : Int)]) (blankA k)⟩ : ArrD (AD (k + 1))))).length cap73) && (vecCells (ArrD.vec (α := AD (k + 1)) ((⟨[((PlainD.items (α := PD (k + 1)) p).length : Int)], (joinedW c' [ArrD.vec (α := AD (k + 1)) (arr (k + 2) p), ArrD.vec (α := AD (k + 1)) (arr (k + 2) q)]).pick (atL (PlainD.items (α := PD (k + 1)) p).length [(i : Int)]) (blankA k)⟩ : ArrD (AD (k + 1))))).kind wv73 nv73 sm73 il73 fl73 ch73 bx73).all Value.oneCell') = true := by rw [hoc73]; rfl
              have hp' := PlainAt.mono (k + 2) _ _ _ _ hle73 hp'
              have hq' := PlainAt.mono (k + 2) _ _ _ _ hle73 hq'
              refine RW.nil ?_
              refine heldQ_normal ⟨_, _, 2, 1, hs, rfl, rfl⟩ ?_
              refine HW.takeR (fuel := 4) 11 rfl (fun _ _ ka kb _ hs hka hkb => Y.move rfl) ⟨_, _, 2, 1, hs, rfl, rfl⟩ rfl (by kernel_rfl) (by kernel_rfl) (by kernel_rfl) ?_
              refine HW.takeR (fuel := 3) 12 rfl (fun _ _ ka kb _ hs hka hkb => Y.extract rfl rfl) ⟨_, _, 2, 1, hs, rfl, rfl⟩ rfl (by kernel_rfl) (by kernel_rfl) (by kernel_rfl) ?_
              refine HW.takeR (fuel := 2) 13 rfl (fun _ _ ka kb _ hs hka hkb => Y.extract rfl rfl) ⟨_, _, 2, 1, hs, rfl, rfl⟩ rfl (by kernel_rfl) (by kernel_rfl) (by kernel_rfl) ?_
              refine HW.one (fuel := 1) 15 rfl (by kernel_rfl) ?_
              refine RW.storeAll T hs 0 rfl rfl rfl rfl rfl rfl hall73 rfl ?_
              intro w20 hs
              refine RW.nil ?_
              refine heldQ_normal ⟨_, _, 2, 1, hs, rfl, rfl⟩ ?_
              refine HW.takeR (fuel := 0) 16 rfl (fun _ _ ka kb _ hs hka hkb => Y.assign rfl) ⟨_, _, 2, 1, hs, rfl, rfl⟩ rfl (by kernel_rfl) (by kernel_rfl) (by kernel_rfl) ?_
              refine HW.done (by kernel_rfl) ?_
              refine calmQ_normal ?_
              exact joinQ_meet (b11, _, h73) ⟨rfl, rfl, rfl, rfl, rfl, rfl, rfl, trivial⟩ ⟨ha73, hp', hq', hs⟩
          · (refine RW.allocN T hs rfl rfl rfl rfl ?_; intro b11 w11 hs)
            refine RW.nil ?_
            refine heldQ_normal ⟨_, _, 2, 1, hs, rfl, rfl⟩ ?_
            refine HW.two (fuel := 7) 7 9 rfl rfl (by kernel_rfl) ?_ ?_
            · (refine RW.lit T hs (vs := [.agg (.bool false :: .slice ad68 (ArrD.shape (α := AD (k + 1)) (numA (k + 1) (fwF i))).length cap68 :: vecCells (ArrD.vec (α := AD (k + 1)) (numA (k + 1) (fwF i))).kind wv68 nv68 sm68 il68 fl68 ch68 bx68).toArray]) (cs := (.bool false :: .slice ad68 (ArrD.shape (α := AD (k + 1)) (numA (k + 1) (fwF i))).length cap68 :: vecCells (ArrD.vec (α := AD (k + 1)) (numA (k + 1) (fwF i))).kind wv68 nv68 sm68 il68 fl68 ch68 bx68)) rfl rfl rfl rfl (by simp [Value.cells, vecCells]) rfl rfl rfl rfl rfl ?_; intro b70 w70 hs)
              obtain ⟨h70, hle70, hs, hS70⟩ := hs.freeze
              have hp' := PlainAt.mono (k + 2) _ _ _ _ hle70 hp'
              have hq' := PlainAt.mono (k + 2) _ _ _ _ hle70 hq'
              have ha64 := ArrAt.mono (k + 2) _ _ _ _ hle70 ha64
              have hn68 := ArrAt.mono (k + 2) _ _ _ _ hle70 hn68
              refine RW.nil ?_
              refine heldQ_normal ⟨_, _, 2, 1, hs, rfl, rfl⟩ ?_
              refine HW.one (fuel := 6) 9 rfl (by kernel_rfl) ?_
              (refine RW.call T hs rfl rfl rfl (of07_con (k + 2) _ q _ _ hq' hcq) ?_; intro v h72 w72 hle72 hp72 hs)
              obtain ⟨cs72, rfl, _, _, ha72⟩ := hp72
              have hp' := PlainAt.mono (k + 2) _ _ _ _ hle72 hp'
              have hq' := PlainAt.mono (k + 2) _ _ _ _ hle72 hq'
              have ha64 := ArrAt.mono (k + 2) _ _ _ _ hle72 ha64
              have hn68 := ArrAt.mono (k + 2) _ _ _ _ hle72 hn68
              have hS70 := hS70.mono hle72
              refine RW.nil ?_
              refine heldQ_normal ⟨_, _, 2, 1, hs, rfl, rfl⟩ ?_
              refine HW.one (fuel := 5) 10 rfl (by kernel_rfl) ?_
              (refine RW.call T hs rfl rfl rfl (indexSet_con (ArrAt.mono (k + 1)) (ArrAt.one (k + 1)) (ArrAt.siz (k + 1)) (blankA k) (fun w h => flatBlank_con (ArrAt.mono k) (ArrAt.one k) w h) _ _ (arr (k + 2) p) (arr (k + 2) q) (numA (k + 1) (fwF i)) b70 1 (PlainD.items (α := PD (k + 1)) p).length _ 0 3000 1 c' _ _ ha64 ha72 BF.sh BF.ml BF.ka (by omega) BF.b1 hS70 hn68 (one_kind i (by omega)) (show 1 ≤ 1048576 by decide) (show 1 ≤ 1048576 by decide) (show 0 ≤ 1048576 by decide) ⟨by decide, by decide⟩ (one_in k i _ hi3 hi0) (show product [] 3000 = (1, 0) by decide) (by decide) BF.F.hj BF.F.k1 BF.F.l1 (by rw [BF.sh, one_nums k i hi3]; exact BF.F.n1)) ?_; intro v h73 w73 hle73 hp73 hs)
              obtain ⟨cs73, rfl, ha73⟩ := hp73
              rw [BF.sh, one_nums k i hi3, pick_sq] at ha73
              have ha73 : ArrAt (k + 2) h73 cs73 ((⟨[((PlainD.items (α := PD (k + 1)) p).length : Int)], (joinedW c' [ArrD.vec (α := AD (k + 1)) (arr (k + 2) p), ArrD.vec (α := AD (k + 1)) (arr (k + 2) q)]).pick (atL (PlainD.items (α := PD (k + 1)) p).length [(i : Int)]) (blankA k)⟩ : ArrD (AD (k + 1)))) := ha73
              obtain ⟨s73, vc73, rfl, ⟨ad73, cap73, rfl, _⟩, hv73⟩ := id ha73
              obtain ⟨wv73, nv73, sm73, il73, fl73, ch73, bx73, ⟨rfl, hoc73⟩, _⟩ := hv73
              have hall73 : (Value.oneCell' (.slice ad73 (ArrD.shape (α := AD (k + 1)) ((⟨[((PlainD.items (α := PD (k + 1)) p).length : Int)], (joinedW c' [ArrD.vec (α := AD (k + 1)) (arr (k + 2) p), ArrD.vec (α := AD (k + 1)) (arr (k + 2) q)]).pick (atL (PlainD.items (α := PD (k + 1)) p).length [(i : Int)]) (blankA k)⟩ : ArrD (AD (k + 1))))).length cap73) && (vecCells (ArrD.vec (α := AD (k + 1)) ((⟨[((PlainD.items (α := PD (k + 1)) p).length : Int)], (joinedW c' [ArrD.vec (α := AD (k + 1)) (arr (k + 2) p), ArrD.vec (α := AD (k + 1)) (arr (k + 2) q)]).pick (atL (PlainD.items (α := PD (k + 1)) p).length [(i : Int)]) (blankA k)⟩ : ArrD (AD (k + 1))))).kind wv73 nv73 sm73 il73 fl73 ch73 bx73).all Value.oneCell') = true := by rw [hoc73]; rfl
              have hp' := PlainAt.mono (k + 2) _ _ _ _ hle73 hp'
              have hq' := PlainAt.mono (k + 2) _ _ _ _ hle73 hq'
              refine RW.nil ?_
              refine heldQ_normal ⟨_, _, 2, 1, hs, rfl, rfl⟩ ?_
              refine HW.takeR (fuel := 4) 11 rfl (fun _ _ ka kb _ hs hka hkb => Y.move rfl) ⟨_, _, 2, 1, hs, rfl, rfl⟩ rfl (by kernel_rfl) (by kernel_rfl) (by kernel_rfl) ?_
              refine HW.takeR (fuel := 3) 12 rfl (fun _ _ ka kb _ hs hka hkb => Y.extract rfl rfl) ⟨_, _, 2, 1, hs, rfl, rfl⟩ rfl (by kernel_rfl) (by kernel_rfl) (by kernel_rfl) ?_
              refine HW.takeR (fuel := 2) 13 rfl (fun _ _ ka kb _ hs hka hkb => Y.extract rfl rfl) ⟨_, _, 2, 1, hs, rfl, rfl⟩ rfl (by kernel_rfl) (by kernel_rfl) (by kernel_rfl) ?_
              refine HW.one (fuel := 1) 15 rfl (by kernel_rfl) ?_
              refine RW.storeAll T hs 0 rfl rfl rfl rfl rfl rfl hall73 rfl ?_
              intro w20 hs
              refine RW.nil ?_
              refine heldQ_normal ⟨_, _, 2, 1, hs, rfl, rfl⟩ ?_
              refine HW.takeR (fuel := 0) 16 rfl (fun _ _ ka kb _ hs hka hkb => Y.assign rfl) ⟨_, _, 2, 1, hs, rfl, rfl⟩ rfl (by kernel_rfl) (by kernel_rfl) (by kernel_rfl) ?_
              refine HW.done (by kernel_rfl) ?_
              refine calmQ_normal ?_
              exact joinQ_meet (b11, _, h73) ⟨rfl, rfl, rfl, rfl, rfl, rfl, rfl, trivial⟩ ⟨ha73, hp', hq', hs⟩
            · (refine RW.call T hs rfl rfl rfl (of07_con (k + 2) _ q _ _ hq' hcq) ?_; intro v h72 w72 hle72 hp72 hs)
              obtain ⟨cs72, rfl, _, _, ha72⟩ := hp72
              have hp' := PlainAt.mono (k + 2) _ _ _ _ hle72 hp'
              have hq' := PlainAt.mono (k + 2) _ _ _ _ hle72 hq'
              have ha64 := ArrAt.mono (k + 2) _ _ _ _ hle72 ha64
              have hn68 := ArrAt.mono (k + 2) _ _ _ _ hle72 hn68
              refine RW.nil ?_
              refine heldQ_normal ⟨_, _, 2, 1, hs, rfl, rfl⟩ ?_
              refine HW.one (fuel := 6) 7 rfl (by kernel_rfl) ?_
              (refine RW.lit T hs (vs := [.agg (.bool false :: .slice ad68 (ArrD.shape (α := AD (k + 1)) (numA (k + 1) (fwF i))).length cap68 :: vecCells (ArrD.vec (α := AD (k + 1)) (numA (k + 1) (fwF i))).kind wv68 nv68 sm68 il68 fl68 ch68 bx68).toArray]) (cs := (.bool false :: .slice ad68 (ArrD.shape (α := AD (k + 1)) (numA (k + 1) (fwF i))).length cap68 :: vecCells (ArrD.vec (α := AD (k + 1)) (numA (k + 1) (fwF i))).kind wv68 nv68 sm68 il68 fl68 ch68 bx68)) rfl rfl rfl rfl (by simp [Value.cells, vecCells]) rfl rfl rfl rfl rfl ?_; intro b70 w70 hs)
              obtain ⟨h70, hle70, hs, hS70⟩ := hs.freeze
              have hp' := PlainAt.mono (k + 2) _ _ _ _ hle70 hp'
              have hq' := PlainAt.mono (k + 2) _ _ _ _ hle70 hq'
              have ha64 := ArrAt.mono (k + 2) _ _ _ _ hle70 ha64
              have hn68 := ArrAt.mono (k + 2) _ _ _ _ hle70 hn68
              have ha72 := ArrAt.mono (k + 2) _ _ _ _ hle70 ha72
              refine RW.nil ?_
              refine heldQ_normal ⟨_, _, 2, 1, hs, rfl, rfl⟩ ?_
              refine HW.one (fuel := 5) 10 rfl (by kernel_rfl) ?_
              (refine RW.call T hs rfl rfl rfl (indexSet_con (ArrAt.mono (k + 1)) (ArrAt.one (k + 1)) (ArrAt.siz (k + 1)) (blankA k) (fun w h => flatBlank_con (ArrAt.mono k) (ArrAt.one k) w h) _ _ (arr (k + 2) p) (arr (k + 2) q) (numA (k + 1) (fwF i)) b70 1 (PlainD.items (α := PD (k + 1)) p).length _ 0 3000 1 c' _ _ ha64 ha72 BF.sh BF.ml BF.ka (by omega) BF.b1 hS70 hn68 (one_kind i (by omega)) (show 1 ≤ 1048576 by decide) (show 1 ≤ 1048576 by decide) (show 0 ≤ 1048576 by decide) ⟨by decide, by decide⟩ (one_in k i _ hi3 hi0) (show product [] 3000 = (1, 0) by decide) (by decide) BF.F.hj BF.F.k1 BF.F.l1 (by rw [BF.sh, one_nums k i hi3]; exact BF.F.n1)) ?_; intro v h73 w73 hle73 hp73 hs)
              obtain ⟨cs73, rfl, ha73⟩ := hp73
              rw [BF.sh, one_nums k i hi3, pick_sq] at ha73
              have ha73 : ArrAt (k + 2) h73 cs73 ((⟨[((PlainD.items (α := PD (k + 1)) p).length : Int)], (joinedW c' [ArrD.vec (α := AD (k + 1)) (arr (k + 2) p), ArrD.vec (α := AD (k + 1)) (arr (k + 2) q)]).pick (atL (PlainD.items (α := PD (k + 1)) p).length [(i : Int)]) (blankA k)⟩ : ArrD (AD (k + 1)))) := ha73
              obtain ⟨s73, vc73, rfl, ⟨ad73, cap73, rfl, _⟩, hv73⟩ := id ha73
              obtain ⟨wv73, nv73, sm73, il73, fl73, ch73, bx73, ⟨rfl, hoc73⟩, _⟩ := hv73
              have hall73 : (Value.oneCell' (.slice ad73 (ArrD.shape (α := AD (k + 1)) ((⟨[((PlainD.items (α := PD (k + 1)) p).length : Int)], (joinedW c' [ArrD.vec (α := AD (k + 1)) (arr (k + 2) p), ArrD.vec (α := AD (k + 1)) (arr (k + 2) q)]).pick (atL (PlainD.items (α := PD (k + 1)) p).length [(i : Int)]) (blankA k)⟩ : ArrD (AD (k + 1))))).length cap73) && (vecCells (ArrD.vec (α := AD (k + 1)) ((⟨[((PlainD.items (α := PD (k + 1)) p).length : Int)], (joinedW c' [ArrD.vec (α := AD (k + 1)) (arr (k + 2) p), ArrD.vec (α := AD (k + 1)) (arr (k + 2) q)]).pick (atL (PlainD.items (α := PD (k + 1)) p).length [(i : Int)]) (blankA k)⟩ : ArrD (AD (k + 1))))).kind wv73 nv73 sm73 il73 fl73 ch73 bx73).all Value.oneCell') = true := by rw [hoc73]; rfl
              have hp' := PlainAt.mono (k + 2) _ _ _ _ hle73 hp'
              have hq' := PlainAt.mono (k + 2) _ _ _ _ hle73 hq'
              refine RW.nil ?_
              refine heldQ_normal ⟨_, _, 2, 1, hs, rfl, rfl⟩ ?_
              refine HW.takeR (fuel := 4) 11 rfl (fun _ _ ka kb _ hs hka hkb => Y.move rfl) ⟨_, _, 2, 1, hs, rfl, rfl⟩ rfl (by kernel_rfl) (by kernel_rfl) (by kernel_rfl) ?_
              refine HW.takeR (fuel := 3) 12 rfl (fun _ _ ka kb _ hs hka hkb => Y.extract rfl rfl) ⟨_, _, 2, 1, hs, rfl, rfl⟩ rfl (by kernel_rfl) (by kernel_rfl) (by kernel_rfl) ?_
              refine HW.takeR (fuel := 2) 13 rfl (fun _ _ ka kb _ hs hka hkb => Y.extract rfl rfl) ⟨_, _, 2, 1, hs, rfl, rfl⟩ rfl (by kernel_rfl) (by kernel_rfl) (by kernel_rfl) ?_
              refine HW.one (fuel := 1) 15 rfl (by kernel_rfl) ?_
              refine RW.storeAll T hs 0 rfl rfl rfl rfl rfl rfl hall73 rfl ?_
              intro w20 hs
              refine RW.nil ?_
              refine heldQ_normal ⟨_, _, 2, 1, hs, rfl, rfl⟩ ?_
              refine HW.takeR (fuel := 0) 16 rfl (fun _ _ ka kb _ hs hka hkb => Y.assign rfl) ⟨_, _, 2, 1, hs, rfl, rfl⟩ rfl (by kernel_rfl) (by kernel_rfl) (by kernel_rfl) ?_
              refine HW.done (by kernel_rfl) ?_
              refine calmQ_normal ?_
              exact joinQ_meet (b11, _, h73) ⟨rfl, rfl, rfl, rfl, rfl, rfl, rfl, trivial⟩ ⟨ha73, hp', hq', hs⟩
        · (refine RW.allocN T hs rfl rfl rfl rfl ?_; intro b11 w11 hs)
          refine RW.nil ?_
          refine heldQ_normal ⟨_, _, 2, 1, hs, rfl, rfl⟩ ?_
          refine HW.one (fuel := 9) 5 rfl (by kernel_rfl) ?_
          (refine RW.call T hs rfl rfl rfl (of07_con (k + 2) _ (numQ (k + 1) (fwF i)) _ _ hq67 (numQ_chk (k + 1) _ numi.1.2.1)) ?_; intro v h68 w68 hle68 hp68 hs)
          obtain ⟨cs68, rfl, _, _, hn68⟩ := hp68
          rw [numQ_arr, tidyW_of numi.1] at hn68
          obtain ⟨s68, vc68, rfl, ⟨ad68, cap68, rfl, _⟩, hv68⟩ := id hn68
          obtain ⟨wv68, nv68, sm68, il68, fl68, ch68, bx68, ⟨rfl, hoc68⟩, _⟩ := hv68
          have hall68 : (Value.oneCell' (.slice ad68 (ArrD.shape (α := AD (k + 1)) (numA (k + 1) (fwF i))).length cap68) && (vecCells (ArrD.vec (α := AD (k + 1)) (numA (k + 1) (fwF i))).kind wv68 nv68 sm68 il68 fl68 ch68 bx68).all Value.oneCell') = true := by rw [hoc68]; rfl
          have hp' := PlainAt.mono (k + 2) _ _ _ _ hle68 hp'
          have hq' := PlainAt.mono (k + 2) _ _ _ _ hle68 hq'
          have ha64 := ArrAt.mono (k + 2) _ _ _ _ hle68 ha64
          refine RW.nil ?_
          refine heldQ_normal ⟨_, _, 2, 1, hs, rfl, rfl⟩ ?_
          refine HW.takeR (fuel := 8) 6 rfl (fun _ _ ka kb _ hs hka hkb => Y.build T rfl rfl rfl rfl rfl rfl rfl) ⟨_, _, 2, 1, hs, rfl, rfl⟩ rfl (by kernel_rfl) (by kernel_rfl) (by kernel_rfl) ?_
          refine HW.two (fuel := 7) 7 9 rfl rfl (by kernel_rfl) ?_ ?_
          · (refine RW.lit T hs (vs := [.agg (.bool false :: .slice ad68 (ArrD.shape (α := AD (k + 1)) (numA (k + 1) (fwF i))).length cap68 :: vecCells (ArrD.vec (α := AD (k + 1)) (numA (k + 1) (fwF i))).kind wv68 nv68 sm68 il68 fl68 ch68 bx68).toArray]) (cs := (.bool false :: .slice ad68 (ArrD.shape (α := AD (k + 1)) (numA (k + 1) (fwF i))).length cap68 :: vecCells (ArrD.vec (α := AD (k + 1)) (numA (k + 1) (fwF i))).kind wv68 nv68 sm68 il68 fl68 ch68 bx68)) rfl rfl rfl rfl (by simp [Value.cells, vecCells]) rfl rfl rfl rfl rfl ?_; intro b70 w70 hs)
            obtain ⟨h70, hle70, hs, hS70⟩ := hs.freeze
            have hp' := PlainAt.mono (k + 2) _ _ _ _ hle70 hp'
            have hq' := PlainAt.mono (k + 2) _ _ _ _ hle70 hq'
            have ha64 := ArrAt.mono (k + 2) _ _ _ _ hle70 ha64
            have hn68 := ArrAt.mono (k + 2) _ _ _ _ hle70 hn68
            refine RW.nil ?_
            refine heldQ_normal ⟨_, _, 2, 1, hs, rfl, rfl⟩ ?_
            refine HW.one (fuel := 6) 9 rfl (by kernel_rfl) ?_
            (refine RW.call T hs rfl rfl rfl (of07_con (k + 2) _ q _ _ hq' hcq) ?_; intro v h72 w72 hle72 hp72 hs)
            obtain ⟨cs72, rfl, _, _, ha72⟩ := hp72
            have hp' := PlainAt.mono (k + 2) _ _ _ _ hle72 hp'
            have hq' := PlainAt.mono (k + 2) _ _ _ _ hle72 hq'
            have ha64 := ArrAt.mono (k + 2) _ _ _ _ hle72 ha64
            have hn68 := ArrAt.mono (k + 2) _ _ _ _ hle72 hn68
            have hS70 := hS70.mono hle72
            refine RW.nil ?_
            refine heldQ_normal ⟨_, _, 2, 1, hs, rfl, rfl⟩ ?_
            refine HW.one (fuel := 5) 10 rfl (by kernel_rfl) ?_
            (refine RW.call T hs rfl rfl rfl (indexSet_con (ArrAt.mono (k + 1)) (ArrAt.one (k + 1)) (ArrAt.siz (k + 1)) (blankA k) (fun w h => flatBlank_con (ArrAt.mono k) (ArrAt.one k) w h) _ _ (arr (k + 2) p) (arr (k + 2) q) (numA (k + 1) (fwF i)) b70 1 (PlainD.items (α := PD (k + 1)) p).length _ 0 3000 1 c' _ _ ha64 ha72 BF.sh BF.ml BF.ka (by omega) BF.b1 hS70 hn68 (one_kind i (by omega)) (show 1 ≤ 1048576 by decide) (show 1 ≤ 1048576 by decide) (show 0 ≤ 1048576 by decide) ⟨by decide, by decide⟩ (one_in k i _ hi3 hi0) (show product [] 3000 = (1, 0) by decide) (by decide) BF.F.hj BF.F.k1 BF.F.l1 (by rw [BF.sh, one_nums k i hi3]; exact BF.F.n1)) ?_; intro v h73 w73 hle73 hp73 hs)
            obtain ⟨cs73, rfl, ha73⟩ := hp73
            rw [BF.sh, one_nums k i hi3, pick_sq] at ha73
            have ha73 : ArrAt (k + 2) h73 cs73 ((⟨[((PlainD.items (α := PD (k + 1)) p).length : Int)], (joinedW c' [ArrD.vec (α := AD (k + 1)) (arr (k + 2) p), ArrD.vec (α := AD (k + 1)) (arr (k + 2) q)]).pick (atL (PlainD.items (α := PD (k + 1)) p).length [(i : Int)]) (blankA k)⟩ : ArrD (AD (k + 1)))) := ha73
            obtain ⟨s73, vc73, rfl, ⟨ad73, cap73, rfl, _⟩, hv73⟩ := id ha73
            obtain ⟨wv73, nv73, sm73, il73, fl73, ch73, bx73, ⟨rfl, hoc73⟩, _⟩ := hv73
            have hall73 : (Value.oneCell' (.slice ad73 (ArrD.shape (α := AD (k + 1)) ((⟨[((PlainD.items (α := PD (k + 1)) p).length : Int)], (joinedW c' [ArrD.vec (α := AD (k + 1)) (arr (k + 2) p), ArrD.vec (α := AD (k + 1)) (arr (k + 2) q)]).pick (atL (PlainD.items (α := PD (k + 1)) p).length [(i : Int)]) (blankA k)⟩ : ArrD (AD (k + 1))))).length cap73) && (vecCells (ArrD.vec (α := AD (k + 1)) ((⟨[((PlainD.items (α := PD (k + 1)) p).length : Int)], (joinedW c' [ArrD.vec (α := AD (k + 1)) (arr (k + 2) p), ArrD.vec (α := AD (k + 1)) (arr (k + 2) q)]).pick (atL (PlainD.items (α := PD (k + 1)) p).length [(i : Int)]) (blankA k)⟩ : ArrD (AD (k + 1))))).kind wv73 nv73 sm73 il73 fl73 ch73 bx73).all Value.oneCell') = true := by rw [hoc73]; rfl
            have hp' := PlainAt.mono (k + 2) _ _ _ _ hle73 hp'
            have hq' := PlainAt.mono (k + 2) _ _ _ _ hle73 hq'
            refine RW.nil ?_
            refine heldQ_normal ⟨_, _, 2, 1, hs, rfl, rfl⟩ ?_
            refine HW.takeR (fuel := 4) 11 rfl (fun _ _ ka kb _ hs hka hkb => Y.move rfl) ⟨_, _, 2, 1, hs, rfl, rfl⟩ rfl (by kernel_rfl) (by kernel_rfl) (by kernel_rfl) ?_
            refine HW.takeR (fuel := 3) 12 rfl (fun _ _ ka kb _ hs hka hkb => Y.extract rfl rfl) ⟨_, _, 2, 1, hs, rfl, rfl⟩ rfl (by kernel_rfl) (by kernel_rfl) (by kernel_rfl) ?_
            refine HW.takeR (fuel := 2) 13 rfl (fun _ _ ka kb _ hs hka hkb => Y.extract rfl rfl) ⟨_, _, 2, 1, hs, rfl, rfl⟩ rfl (by kernel_rfl) (by kernel_rfl) (by kernel_rfl) ?_
            refine HW.one (fuel := 1) 15 rfl (by kernel_rfl) ?_
            refine RW.storeAll T hs 0 rfl rfl rfl rfl rfl rfl hall73 rfl ?_
            intro w20 hs
            refine RW.nil ?_
            refine heldQ_normal ⟨_, _, 2, 1, hs, rfl, rfl⟩ ?_
            refine HW.takeR (fuel := 0) 16 rfl (fun _ _ ka kb _ hs hka hkb => Y.assign rfl) ⟨_, _, 2, 1, hs, rfl, rfl⟩ rfl (by kernel_rfl) (by kernel_rfl) (by kernel_rfl) ?_
            refine HW.done (by kernel_rfl) ?_
            refine calmQ_normal ?_
            exact joinQ_meet (b11, _, h73) ⟨rfl, rfl, rfl, rfl, rfl, rfl, rfl, trivial⟩ ⟨ha73, hp', hq', hs⟩
          · (refine RW.call T hs rfl rfl rfl (of07_con (k + 2) _ q _ _ hq' hcq) ?_; intro v h72 w72 hle72 hp72 hs)
            obtain ⟨cs72, rfl, _, _, ha72⟩ := hp72
            have hp' := PlainAt.mono (k + 2) _ _ _ _ hle72 hp'
            have hq' := PlainAt.mono (k + 2) _ _ _ _ hle72 hq'
            have ha64 := ArrAt.mono (k + 2) _ _ _ _ hle72 ha64
            have hn68 := ArrAt.mono (k + 2) _ _ _ _ hle72 hn68
            refine RW.nil ?_
            refine heldQ_normal ⟨_, _, 2, 1, hs, rfl, rfl⟩ ?_
            refine HW.one (fuel := 6) 7 rfl (by kernel_rfl) ?_
            (refine RW.lit T hs (vs := [.agg (.bool false :: .slice ad68 (ArrD.shape (α := AD (k + 1)) (numA (k + 1) (fwF i))).length cap68 :: vecCells (ArrD.vec (α := AD (k + 1)) (numA (k + 1) (fwF i))).kind wv68 nv68 sm68 il68 fl68 ch68 bx68).toArray]) (cs := (.bool false :: .slice ad68 (ArrD.shape (α := AD (k + 1)) (numA (k + 1) (fwF i))).length cap68 :: vecCells (ArrD.vec (α := AD (k + 1)) (numA (k + 1) (fwF i))).kind wv68 nv68 sm68 il68 fl68 ch68 bx68)) rfl rfl rfl rfl (by simp [Value.cells, vecCells]) rfl rfl rfl rfl rfl ?_; intro b70 w70 hs)
            obtain ⟨h70, hle70, hs, hS70⟩ := hs.freeze
            have hp' := PlainAt.mono (k + 2) _ _ _ _ hle70 hp'
            have hq' := PlainAt.mono (k + 2) _ _ _ _ hle70 hq'
            have ha64 := ArrAt.mono (k + 2) _ _ _ _ hle70 ha64
            have hn68 := ArrAt.mono (k + 2) _ _ _ _ hle70 hn68
            have ha72 := ArrAt.mono (k + 2) _ _ _ _ hle70 ha72
            refine RW.nil ?_
            refine heldQ_normal ⟨_, _, 2, 1, hs, rfl, rfl⟩ ?_
            refine HW.one (fuel := 5) 10 rfl (by kernel_rfl) ?_
            (refine RW.call T hs rfl rfl rfl (indexSet_con (ArrAt.mono (k + 1)) (ArrAt.one (k + 1)) (ArrAt.siz (k + 1)) (blankA k) (fun w h => flatBlank_con (ArrAt.mono k) (ArrAt.one k) w h) _ _ (arr (k + 2) p) (arr (k + 2) q) (numA (k + 1) (fwF i)) b70 1 (PlainD.items (α := PD (k + 1)) p).length _ 0 3000 1 c' _ _ ha64 ha72 BF.sh BF.ml BF.ka (by omega) BF.b1 hS70 hn68 (one_kind i (by omega)) (show 1 ≤ 1048576 by decide) (show 1 ≤ 1048576 by decide) (show 0 ≤ 1048576 by decide) ⟨by decide, by decide⟩ (one_in k i _ hi3 hi0) (show product [] 3000 = (1, 0) by decide) (by decide) BF.F.hj BF.F.k1 BF.F.l1 (by rw [BF.sh, one_nums k i hi3]; exact BF.F.n1)) ?_; intro v h73 w73 hle73 hp73 hs)
            obtain ⟨cs73, rfl, ha73⟩ := hp73
            rw [BF.sh, one_nums k i hi3, pick_sq] at ha73
            have ha73 : ArrAt (k + 2) h73 cs73 ((⟨[((PlainD.items (α := PD (k + 1)) p).length : Int)], (joinedW c' [ArrD.vec (α := AD (k + 1)) (arr (k + 2) p), ArrD.vec (α := AD (k + 1)) (arr (k + 2) q)]).pick (atL (PlainD.items (α := PD (k + 1)) p).length [(i : Int)]) (blankA k)⟩ : ArrD (AD (k + 1)))) := ha73
            obtain ⟨s73, vc73, rfl, ⟨ad73, cap73, rfl, _⟩, hv73⟩ := id ha73
            obtain ⟨wv73, nv73, sm73, il73, fl73, ch73, bx73, ⟨rfl, hoc73⟩, _⟩ := hv73
            have hall73 : (Value.oneCell' (.slice ad73 (ArrD.shape (α := AD (k + 1)) ((⟨[((PlainD.items (α := PD (k + 1)) p).length : Int)], (joinedW c' [ArrD.vec (α := AD (k + 1)) (arr (k + 2) p), ArrD.vec (α := AD (k + 1)) (arr (k + 2) q)]).pick (atL (PlainD.items (α := PD (k + 1)) p).length [(i : Int)]) (blankA k)⟩ : ArrD (AD (k + 1))))).length cap73) && (vecCells (ArrD.vec (α := AD (k + 1)) ((⟨[((PlainD.items (α := PD (k + 1)) p).length : Int)], (joinedW c' [ArrD.vec (α := AD (k + 1)) (arr (k + 2) p), ArrD.vec (α := AD (k + 1)) (arr (k + 2) q)]).pick (atL (PlainD.items (α := PD (k + 1)) p).length [(i : Int)]) (blankA k)⟩ : ArrD (AD (k + 1))))).kind wv73 nv73 sm73 il73 fl73 ch73 bx73).all Value.oneCell') = true := by rw [hoc73]; rfl
            have hp' := PlainAt.mono (k + 2) _ _ _ _ hle73 hp'
            have hq' := PlainAt.mono (k + 2) _ _ _ _ hle73 hq'
            refine RW.nil ?_
            refine heldQ_normal ⟨_, _, 2, 1, hs, rfl, rfl⟩ ?_
            refine HW.takeR (fuel := 4) 11 rfl (fun _ _ ka kb _ hs hka hkb => Y.move rfl) ⟨_, _, 2, 1, hs, rfl, rfl⟩ rfl (by kernel_rfl) (by kernel_rfl) (by kernel_rfl) ?_
            refine HW.takeR (fuel := 3) 12 rfl (fun _ _ ka kb _ hs hka hkb => Y.extract rfl rfl) ⟨_, _, 2, 1, hs, rfl, rfl⟩ rfl (by kernel_rfl) (by kernel_rfl) (by kernel_rfl) ?_
            refine HW.takeR (fuel := 2) 13 rfl (fun _ _ ka kb _ hs hka hkb => Y.extract rfl rfl) ⟨_, _, 2, 1, hs, rfl, rfl⟩ rfl (by kernel_rfl) (by kernel_rfl) (by kernel_rfl) ?_
            refine HW.one (fuel := 1) 15 rfl (by kernel_rfl) ?_
            refine RW.storeAll T hs 0 rfl rfl rfl rfl rfl rfl hall73 rfl ?_
            intro w20 hs
            refine RW.nil ?_
            refine heldQ_normal ⟨_, _, 2, 1, hs, rfl, rfl⟩ ?_
            refine HW.takeR (fuel := 0) 16 rfl (fun _ _ ka kb _ hs hka hkb => Y.assign rfl) ⟨_, _, 2, 1, hs, rfl, rfl⟩ rfl (by kernel_rfl) (by kernel_rfl) (by kernel_rfl) ?_
            refine HW.done (by kernel_rfl) ?_
            refine calmQ_normal ?_
            exact joinQ_meet (b11, _, h73) ⟨rfl, rfl, rfl, rfl, rfl, rfl, rfl, trivial⟩ ⟨ha73, hp', hq', hs⟩
      · (refine RW.allocN T hs rfl rfl rfl rfl ?_; intro b11 w11 hs)
        refine RW.nil ?_
        refine heldQ_normal ⟨_, _, 2, 1, hs, rfl, rfl⟩ ?_
        refine HW.one (fuel := 10) 4 rfl (by kernel_rfl) ?_
        (refine RW.call T hs rfl rfl rfl (refOne_con (α := PD (k + 1)) (R := PlainAt (k + 1)) (fwF i) _ _ numi.1.1) ?_; intro v h67 w67 hle67 hp67 hs)
        obtain ⟨cs67, rfl, hq67⟩ := hp67
        have hp' := PlainAt.mono (k + 2) _ _ _ _ hle67 hp'
        have hq' := PlainAt.mono (k + 2) _ _ _ _ hle67 hq'
        have ha64 := ArrAt.mono (k + 2) _ _ _ _ hle67 ha64
        refine RW.nil ?_
        refine heldQ_normal ⟨_, _, 2, 1, hs, rfl, rfl⟩ ?_
        refine HW.one (fuel := 9) 5 rfl (by kernel_rfl) ?_
        (refine RW.call T hs rfl rfl rfl (of07_con (k + 2) _ (numQ (k + 1) (fwF i)) _ _ hq67 (numQ_chk (k + 1) _ numi.1.2.1)) ?_; intro v h68 w68 hle68 hp68 hs)
        obtain ⟨cs68, rfl, _, _, hn68⟩ := hp68
        rw [numQ_arr, tidyW_of numi.1] at hn68
        obtain ⟨s68, vc68, rfl, ⟨ad68, cap68, rfl, _⟩, hv68⟩ := id hn68
        obtain ⟨wv68, nv68, sm68, il68, fl68, ch68, bx68, ⟨rfl, hoc68⟩, _⟩ := hv68
        have hall68 : (Value.oneCell' (.slice ad68 (ArrD.shape (α := AD (k + 1)) (numA (k + 1) (fwF i))).length cap68) && (vecCells (ArrD.vec (α := AD (k + 1)) (numA (k + 1) (fwF i))).kind wv68 nv68 sm68 il68 fl68 ch68 bx68).all Value.oneCell') = true := by rw [hoc68]; rfl
        have hp' := PlainAt.mono (k + 2) _ _ _ _ hle68 hp'
        have hq' := PlainAt.mono (k + 2) _ _ _ _ hle68 hq'
        have ha64 := ArrAt.mono (k + 2) _ _ _ _ hle68 ha64
        refine RW.nil ?_
        refine heldQ_normal ⟨_, _, 2, 1, hs, rfl, rfl⟩ ?_
        refine HW.takeR (fuel := 8) 6 rfl (fun _ _ ka kb _ hs hka hkb => Y.build T rfl rfl rfl rfl rfl rfl rfl) ⟨_, _, 2, 1, hs, rfl, rfl⟩ rfl (by kernel_rfl) (by kernel_rfl) (by kernel_rfl) ?_
        refine HW.two (fuel := 7) 7 9 rfl rfl (by kernel_rfl) ?_ ?_
        · (refine RW.lit T hs (vs := [.agg (.bool false :: .slice ad68 (ArrD.shape (α := AD (k + 1)) (numA (k + 1) (fwF i))).length cap68 :: vecCells (ArrD.vec (α := AD (k + 1)) (numA (k + 1) (fwF i))).kind wv68 nv68 sm68 il68 fl68 ch68 bx68).toArray]) (cs := (.bool false :: .slice ad68 (ArrD.shape (α := AD (k + 1)) (numA (k + 1) (fwF i))).length cap68 :: vecCells (ArrD.vec (α := AD (k + 1)) (numA (k + 1) (fwF i))).kind wv68 nv68 sm68 il68 fl68 ch68 bx68)) rfl rfl rfl rfl (by simp [Value.cells, vecCells]) rfl rfl rfl rfl rfl ?_; intro b70 w70 hs)
          obtain ⟨h70, hle70, hs, hS70⟩ := hs.freeze
          have hp' := PlainAt.mono (k + 2) _ _ _ _ hle70 hp'
          have hq' := PlainAt.mono (k + 2) _ _ _ _ hle70 hq'
          have ha64 := ArrAt.mono (k + 2) _ _ _ _ hle70 ha64
          have hn68 := ArrAt.mono (k + 2) _ _ _ _ hle70 hn68
          refine RW.nil ?_
          refine heldQ_normal ⟨_, _, 2, 1, hs, rfl, rfl⟩ ?_
          refine HW.one (fuel := 6) 9 rfl (by kernel_rfl) ?_
          (refine RW.call T hs rfl rfl rfl (of07_con (k + 2) _ q _ _ hq' hcq) ?_; intro v h72 w72 hle72 hp72 hs)
          obtain ⟨cs72, rfl, _, _, ha72⟩ := hp72
          have hp' := PlainAt.mono (k + 2) _ _ _ _ hle72 hp'
          have hq' := PlainAt.mono (k + 2) _ _ _ _ hle72 hq'
          have ha64 := ArrAt.mono (k + 2) _ _ _ _ hle72 ha64
          have hn68 := ArrAt.mono (k + 2) _ _ _ _ hle72 hn68
          have hS70 := hS70.mono hle72
          refine RW.nil ?_
          refine heldQ_normal ⟨_, _, 2, 1, hs, rfl, rfl⟩ ?_
          refine HW.one (fuel := 5) 10 rfl (by kernel_rfl) ?_
          (refine RW.call T hs rfl rfl rfl (indexSet_con (ArrAt.mono (k + 1)) (ArrAt.one (k + 1)) (ArrAt.siz (k + 1)) (blankA k) (fun w h => flatBlank_con (ArrAt.mono k) (ArrAt.one k) w h) _ _ (arr (k + 2) p) (arr (k + 2) q) (numA (k + 1) (fwF i)) b70 1 (PlainD.items (α := PD (k + 1)) p).length _ 0 3000 1 c' _ _ ha64 ha72 BF.sh BF.ml BF.ka (by omega) BF.b1 hS70 hn68 (one_kind i (by omega)) (show 1 ≤ 1048576 by decide) (show 1 ≤ 1048576 by decide) (show 0 ≤ 1048576 by decide) ⟨by decide, by decide⟩ (one_in k i _ hi3 hi0) (show product [] 3000 = (1, 0) by decide) (by decide) BF.F.hj BF.F.k1 BF.F.l1 (by rw [BF.sh, one_nums k i hi3]; exact BF.F.n1)) ?_; intro v h73 w73 hle73 hp73 hs)
          obtain ⟨cs73, rfl, ha73⟩ := hp73
          rw [BF.sh, one_nums k i hi3, pick_sq] at ha73
          have ha73 : ArrAt (k + 2) h73 cs73 ((⟨[((PlainD.items (α := PD (k + 1)) p).length : Int)], (joinedW c' [ArrD.vec (α := AD (k + 1)) (arr (k + 2) p), ArrD.vec (α := AD (k + 1)) (arr (k + 2) q)]).pick (atL (PlainD.items (α := PD (k + 1)) p).length [(i : Int)]) (blankA k)⟩ : ArrD (AD (k + 1)))) := ha73
          obtain ⟨s73, vc73, rfl, ⟨ad73, cap73, rfl, _⟩, hv73⟩ := id ha73
          obtain ⟨wv73, nv73, sm73, il73, fl73, ch73, bx73, ⟨rfl, hoc73⟩, _⟩ := hv73
          have hall73 : (Value.oneCell' (.slice ad73 (ArrD.shape (α := AD (k + 1)) ((⟨[((PlainD.items (α := PD (k + 1)) p).length : Int)], (joinedW c' [ArrD.vec (α := AD (k + 1)) (arr (k + 2) p), ArrD.vec (α := AD (k + 1)) (arr (k + 2) q)]).pick (atL (PlainD.items (α := PD (k + 1)) p).length [(i : Int)]) (blankA k)⟩ : ArrD (AD (k + 1))))).length cap73) && (vecCells (ArrD.vec (α := AD (k + 1)) ((⟨[((PlainD.items (α := PD (k + 1)) p).length : Int)], (joinedW c' [ArrD.vec (α := AD (k + 1)) (arr (k + 2) p), ArrD.vec (α := AD (k + 1)) (arr (k + 2) q)]).pick (atL (PlainD.items (α := PD (k + 1)) p).length [(i : Int)]) (blankA k)⟩ : ArrD (AD (k + 1))))).kind wv73 nv73 sm73 il73 fl73 ch73 bx73).all Value.oneCell') = true := by rw [hoc73]; rfl
          have hp' := PlainAt.mono (k + 2) _ _ _ _ hle73 hp'
          have hq' := PlainAt.mono (k + 2) _ _ _ _ hle73 hq'
          refine RW.nil ?_
          refine heldQ_normal ⟨_, _, 2, 1, hs, rfl, rfl⟩ ?_
          refine HW.takeR (fuel := 4) 11 rfl (fun _ _ ka kb _ hs hka hkb => Y.move rfl) ⟨_, _, 2, 1, hs, rfl, rfl⟩ rfl (by kernel_rfl) (by kernel_rfl) (by kernel_rfl) ?_
          refine HW.takeR (fuel := 3) 12 rfl (fun _ _ ka kb _ hs hka hkb => Y.extract rfl rfl) ⟨_, _, 2, 1, hs, rfl, rfl⟩ rfl (by kernel_rfl) (by kernel_rfl) (by kernel_rfl) ?_
          refine HW.takeR (fuel := 2) 13 rfl (fun _ _ ka kb _ hs hka hkb => Y.extract rfl rfl) ⟨_, _, 2, 1, hs, rfl, rfl⟩ rfl (by kernel_rfl) (by kernel_rfl) (by kernel_rfl) ?_
          refine HW.one (fuel := 1) 15 rfl (by kernel_rfl) ?_
          refine RW.storeAll T hs 0 rfl rfl rfl rfl rfl rfl hall73 rfl ?_
          intro w20 hs
          refine RW.nil ?_
          refine heldQ_normal ⟨_, _, 2, 1, hs, rfl, rfl⟩ ?_
          refine HW.takeR (fuel := 0) 16 rfl (fun _ _ ka kb _ hs hka hkb => Y.assign rfl) ⟨_, _, 2, 1, hs, rfl, rfl⟩ rfl (by kernel_rfl) (by kernel_rfl) (by kernel_rfl) ?_
          refine HW.done (by kernel_rfl) ?_
          refine calmQ_normal ?_
          exact joinQ_meet (b11, _, h73) ⟨rfl, rfl, rfl, rfl, rfl, rfl, rfl, trivial⟩ ⟨ha73, hp', hq', hs⟩
        · (refine RW.call T hs rfl rfl rfl (of07_con (k + 2) _ q _ _ hq' hcq) ?_; intro v h72 w72 hle72 hp72 hs)
          obtain ⟨cs72, rfl, _, _, ha72⟩ := hp72
          have hp' := PlainAt.mono (k + 2) _ _ _ _ hle72 hp'
          have hq' := PlainAt.mono (k + 2) _ _ _ _ hle72 hq'
          have ha64 := ArrAt.mono (k + 2) _ _ _ _ hle72 ha64
          have hn68 := ArrAt.mono (k + 2) _ _ _ _ hle72 hn68
          refine RW.nil ?_
          refine heldQ_normal ⟨_, _, 2, 1, hs, rfl, rfl⟩ ?_
          refine HW.one (fuel := 6) 7 rfl (by kernel_rfl) ?_
          (refine RW.lit T hs (vs := [.agg (.bool false :: .slice ad68 (ArrD.shape (α := AD (k + 1)) (numA (k + 1) (fwF i))).length cap68 :: vecCells (ArrD.vec (α := AD (k + 1)) (numA (k + 1) (fwF i))).kind wv68 nv68 sm68 il68 fl68 ch68 bx68).toArray]) (cs := (.bool false :: .slice ad68 (ArrD.shape (α := AD (k + 1)) (numA (k + 1) (fwF i))).length cap68 :: vecCells (ArrD.vec (α := AD (k + 1)) (numA (k + 1) (fwF i))).kind wv68 nv68 sm68 il68 fl68 ch68 bx68)) rfl rfl rfl rfl (by simp [Value.cells, vecCells]) rfl rfl rfl rfl rfl ?_; intro b70 w70 hs)
          obtain ⟨h70, hle70, hs, hS70⟩ := hs.freeze
          have hp' := PlainAt.mono (k + 2) _ _ _ _ hle70 hp'
          have hq' := PlainAt.mono (k + 2) _ _ _ _ hle70 hq'
          have ha64 := ArrAt.mono (k + 2) _ _ _ _ hle70 ha64
          have hn68 := ArrAt.mono (k + 2) _ _ _ _ hle70 hn68
          have ha72 := ArrAt.mono (k + 2) _ _ _ _ hle70 ha72
          refine RW.nil ?_
          refine heldQ_normal ⟨_, _, 2, 1, hs, rfl, rfl⟩ ?_
          refine HW.one (fuel := 5) 10 rfl (by kernel_rfl) ?_
          (refine RW.call T hs rfl rfl rfl (indexSet_con (ArrAt.mono (k + 1)) (ArrAt.one (k + 1)) (ArrAt.siz (k + 1)) (blankA k) (fun w h => flatBlank_con (ArrAt.mono k) (ArrAt.one k) w h) _ _ (arr (k + 2) p) (arr (k + 2) q) (numA (k + 1) (fwF i)) b70 1 (PlainD.items (α := PD (k + 1)) p).length _ 0 3000 1 c' _ _ ha64 ha72 BF.sh BF.ml BF.ka (by omega) BF.b1 hS70 hn68 (one_kind i (by omega)) (show 1 ≤ 1048576 by decide) (show 1 ≤ 1048576 by decide) (show 0 ≤ 1048576 by decide) ⟨by decide, by decide⟩ (one_in k i _ hi3 hi0) (show product [] 3000 = (1, 0) by decide) (by decide) BF.F.hj BF.F.k1 BF.F.l1 (by rw [BF.sh, one_nums k i hi3]; exact BF.F.n1)) ?_; intro v h73 w73 hle73 hp73 hs)
          obtain ⟨cs73, rfl, ha73⟩ := hp73
          rw [BF.sh, one_nums k i hi3, pick_sq] at ha73
          have ha73 : ArrAt (k + 2) h73 cs73 ((⟨[((PlainD.items (α := PD (k + 1)) p).length : Int)], (joinedW c' [ArrD.vec (α := AD (k + 1)) (arr (k + 2) p), ArrD.vec (α := AD (k + 1)) (arr (k + 2) q)]).pick (atL (PlainD.items (α := PD (k + 1)) p).length [(i : Int)]) (blankA k)⟩ : ArrD (AD (k + 1)))) := ha73
          obtain ⟨s73, vc73, rfl, ⟨ad73, cap73, rfl, _⟩, hv73⟩ := id ha73
          obtain ⟨wv73, nv73, sm73, il73, fl73, ch73, bx73, ⟨rfl, hoc73⟩, _⟩ := hv73
          have hall73 : (Value.oneCell' (.slice ad73 (ArrD.shape (α := AD (k + 1)) ((⟨[((PlainD.items (α := PD (k + 1)) p).length : Int)], (joinedW c' [ArrD.vec (α := AD (k + 1)) (arr (k + 2) p), ArrD.vec (α := AD (k + 1)) (arr (k + 2) q)]).pick (atL (PlainD.items (α := PD (k + 1)) p).length [(i : Int)]) (blankA k)⟩ : ArrD (AD (k + 1))))).length cap73) && (vecCells (ArrD.vec (α := AD (k + 1)) ((⟨[((PlainD.items (α := PD (k + 1)) p).length : Int)], (joinedW c' [ArrD.vec (α := AD (k + 1)) (arr (k + 2) p), ArrD.vec (α := AD (k + 1)) (arr (k + 2) q)]).pick (atL (PlainD.items (α := PD (k + 1)) p).length [(i : Int)]) (blankA k)⟩ : ArrD (AD (k + 1))))).kind wv73 nv73 sm73 il73 fl73 ch73 bx73).all Value.oneCell') = true := by rw [hoc73]; rfl
          have hp' := PlainAt.mono (k + 2) _ _ _ _ hle73 hp'
          have hq' := PlainAt.mono (k + 2) _ _ _ _ hle73 hq'
          refine RW.nil ?_
          refine heldQ_normal ⟨_, _, 2, 1, hs, rfl, rfl⟩ ?_
          refine HW.takeR (fuel := 4) 11 rfl (fun _ _ ka kb _ hs hka hkb => Y.move rfl) ⟨_, _, 2, 1, hs, rfl, rfl⟩ rfl (by kernel_rfl) (by kernel_rfl) (by kernel_rfl) ?_
          refine HW.takeR (fuel := 3) 12 rfl (fun _ _ ka kb _ hs hka hkb => Y.extract rfl rfl) ⟨_, _, 2, 1, hs, rfl, rfl⟩ rfl (by kernel_rfl) (by kernel_rfl) (by kernel_rfl) ?_
          refine HW.takeR (fuel := 2) 13 rfl (fun _ _ ka kb _ hs hka hkb => Y.extract rfl rfl) ⟨_, _, 2, 1, hs, rfl, rfl⟩ rfl (by kernel_rfl) (by kernel_rfl) (by kernel_rfl) ?_
          refine HW.one (fuel := 1) 15 rfl (by kernel_rfl) ?_
          refine RW.storeAll T hs 0 rfl rfl rfl rfl rfl rfl hall73 rfl ?_
          intro w20 hs
          refine RW.nil ?_
          refine heldQ_normal ⟨_, _, 2, 1, hs, rfl, rfl⟩ ?_
          refine HW.takeR (fuel := 0) 16 rfl (fun _ _ ka kb _ hs hka hkb => Y.assign rfl) ⟨_, _, 2, 1, hs, rfl, rfl⟩ rfl (by kernel_rfl) (by kernel_rfl) (by kernel_rfl) ?_
          refine HW.done (by kernel_rfl) ?_
          refine calmQ_normal ?_
          exact joinQ_meet (b11, _, h73) ⟨rfl, rfl, rfl, rfl, rfl, rfl, rfl, trivial⟩ ⟨ha73, hp', hq', hs⟩
    · (refine RW.allocN T hs rfl rfl rfl rfl ?_; intro b11 w11 hs)
      refine RW.nil ?_
      refine heldQ_normal ⟨_, _, 2, 1, hs, rfl, rfl⟩ ?_
      refine HW.one (fuel := 11) 1 rfl (by kernel_rfl) ?_
      (refine RW.call T hs rfl rfl rfl (of07_con (k + 2) _ p _ _ hp' hcp) ?_; intro v h64 w64 hle64 hp64 hs)
      obtain ⟨cs64, rfl, _, _, ha64⟩ := hp64
      have hp' := PlainAt.mono (k + 2) _ _ _ _ hle64 hp'
      have hq' := PlainAt.mono (k + 2) _ _ _ _ hle64 hq'
      refine RW.nil ?_
      refine heldQ_normal ⟨_, _, 2, 1, hs, rfl, rfl⟩ ?_
      refine HW.one (fuel := 10) 4 rfl (by kernel_rfl) ?_
      (refine RW.call T hs rfl rfl rfl (refOne_con (α := PD (k + 1)) (R := PlainAt (k + 1)) (fwF i) _ _ numi.1.1) ?_; intro v h67 w67 hle67 hp67 hs)
      obtain ⟨cs67, rfl, hq67⟩ := hp67
      have hp' := PlainAt.mono (k + 2) _ _ _ _ hle67 hp'
      have hq' := PlainAt.mono (k + 2) _ _ _ _ hle67 hq'
      have ha64 := ArrAt.mono (k + 2) _ _ _ _ hle67 ha64
      refine RW.nil ?_
      refine heldQ_normal ⟨_, _, 2, 1, hs, rfl, rfl⟩ ?_
      refine HW.one (fuel := 9) 5 rfl (by kernel_rfl) ?_
      (refine RW.call T hs rfl rfl rfl (of07_con (k + 2) _ (numQ (k + 1) (fwF i)) _ _ hq67 (numQ_chk (k + 1) _ numi.1.2.1)) ?_; intro v h68 w68 hle68 hp68 hs)
      obtain ⟨cs68, rfl, _, _, hn68⟩ := hp68
      rw [numQ_arr, tidyW_of numi.1] at hn68
      obtain ⟨s68, vc68, rfl, ⟨ad68, cap68, rfl, _⟩, hv68⟩ := id hn68
      obtain ⟨wv68, nv68, sm68, il68, fl68, ch68, bx68, ⟨rfl, hoc68⟩, _⟩ := hv68
      have hall68 : (Value.oneCell' (.slice ad68 (ArrD.shape (α := AD (k + 1)) (numA (k + 1) (fwF i))).length cap68) && (vecCells (ArrD.vec (α := AD (k + 1)) (numA (k + 1) (fwF i))).kind wv68 nv68 sm68 il68 fl68 ch68 bx68).all Value.oneCell') = true := by rw [hoc68]; rfl
      have hp' := PlainAt.mono (k + 2) _ _ _ _ hle68 hp'
      have hq' := PlainAt.mono (k + 2) _ _ _ _ hle68 hq'
      have ha64 := ArrAt.mono (k + 2) _ _ _ _ hle68 ha64
      refine RW.nil ?_
      refine heldQ_normal ⟨_, _, 2, 1, hs, rfl, rfl⟩ ?_
      refine HW.takeR (fuel := 8) 6 rfl (fun _ _ ka kb _ hs hka hkb => Y.build T rfl rfl rfl rfl rfl rfl rfl) ⟨_, _, 2, 1, hs, rfl, rfl⟩ rfl (by kernel_rfl) (by kernel_rfl) (by kernel_rfl) ?_
      refine HW.two (fuel := 7) 7 9 rfl rfl (by kernel_rfl) ?_ ?_
      · (refine RW.lit T hs (vs := [.agg (.bool false :: .slice ad68 (ArrD.shape (α := AD (k + 1)) (numA (k + 1) (fwF i))).length cap68 :: vecCells (ArrD.vec (α := AD (k + 1)) (numA (k + 1) (fwF i))).kind wv68 nv68 sm68 il68 fl68 ch68 bx68).toArray]) (cs := (.bool false :: .slice ad68 (ArrD.shape (α := AD (k + 1)) (numA (k + 1) (fwF i))).length cap68 :: vecCells (ArrD.vec (α := AD (k + 1)) (numA (k + 1) (fwF i))).kind wv68 nv68 sm68 il68 fl68 ch68 bx68)) rfl rfl rfl rfl (by simp [Value.cells, vecCells]) rfl rfl rfl rfl rfl ?_; intro b70 w70 hs)
        obtain ⟨h70, hle70, hs, hS70⟩ := hs.freeze
        have hp' := PlainAt.mono (k + 2) _ _ _ _ hle70 hp'
        have hq' := PlainAt.mono (k + 2) _ _ _ _ hle70 hq'
        have ha64 := ArrAt.mono (k + 2) _ _ _ _ hle70 ha64
        have hn68 := ArrAt.mono (k + 2) _ _ _ _ hle70 hn68
        refine RW.nil ?_
        refine heldQ_normal ⟨_, _, 2, 1, hs, rfl, rfl⟩ ?_
        refine HW.one (fuel := 6) 9 rfl (by kernel_rfl) ?_
        (refine RW.call T hs rfl rfl rfl (of07_con (k + 2) _ q _ _ hq' hcq) ?_; intro v h72 w72 hle72 hp72 hs)
        obtain ⟨cs72, rfl, _, _, ha72⟩ := hp72
        have hp' := PlainAt.mono (k + 2) _ _ _ _ hle72 hp'
        have hq' := PlainAt.mono (k + 2) _ _ _ _ hle72 hq'
        have ha64 := ArrAt.mono (k + 2) _ _ _ _ hle72 ha64
        have hn68 := ArrAt.mono (k + 2) _ _ _ _ hle72 hn68
        have hS70 := hS70.mono hle72
        refine RW.nil ?_
        refine heldQ_normal ⟨_, _, 2, 1, hs, rfl, rfl⟩ ?_
        refine HW.one (fuel := 5) 10 rfl (by kernel_rfl) ?_
        (refine RW.call T hs rfl rfl rfl (indexSet_con (ArrAt.mono (k + 1)) (ArrAt.one (k + 1)) (ArrAt.siz (k + 1)) (blankA k) (fun w h => flatBlank_con (ArrAt.mono k) (ArrAt.one k) w h) _ _ (arr (k + 2) p) (arr (k + 2) q) (numA (k + 1) (fwF i)) b70 1 (PlainD.items (α := PD (k + 1)) p).length _ 0 3000 1 c' _ _ ha64 ha72 BF.sh BF.ml BF.ka (by omega) BF.b1 hS70 hn68 (one_kind i (by omega)) (show 1 ≤ 1048576 by decide) (show 1 ≤ 1048576 by decide) (show 0 ≤ 1048576 by decide) ⟨by decide, by decide⟩ (one_in k i _ hi3 hi0) (show product [] 3000 = (1, 0) by decide) (by decide) BF.F.hj BF.F.k1 BF.F.l1 (by rw [BF.sh, one_nums k i hi3]; exact BF.F.n1)) ?_; intro v h73 w73 hle73 hp73 hs)
        obtain ⟨cs73, rfl, ha73⟩ := hp73
        rw [BF.sh, one_nums k i hi3, pick_sq] at ha73
        have ha73 : ArrAt (k + 2) h73 cs73 ((⟨[((PlainD.items (α := PD (k + 1)) p).length : Int)], (joinedW c' [ArrD.vec (α := AD (k + 1)) (arr (k + 2) p), ArrD.vec (α := AD (k + 1)) (arr (k + 2) q)]).pick (atL (PlainD.items (α := PD (k + 1)) p).length [(i : Int)]) (blankA k)⟩ : ArrD (AD (k + 1)))) := ha73
        obtain ⟨s73, vc73, rfl, ⟨ad73, cap73, rfl, _⟩, hv73⟩ := id ha73
        obtain ⟨wv73, nv73, sm73, il73, fl73, ch73, bx73, ⟨rfl, hoc73⟩, _⟩ := hv73
        have hall73 : (Value.oneCell' (.slice ad73 (ArrD.shape (α := AD (k + 1)) ((⟨[((PlainD.items (α := PD (k + 1)) p).length : Int)], (joinedW c' [ArrD.vec (α := AD (k + 1)) (arr (k + 2) p), ArrD.vec (α := AD (k + 1)) (arr (k + 2) q)]).pick (atL (PlainD.items (α := PD (k + 1)) p).length [(i : Int)]) (blankA k)⟩ : ArrD (AD (k + 1))))).length cap73) && (vecCells (ArrD.vec (α := AD (k + 1)) ((⟨[((PlainD.items (α := PD (k + 1)) p).length : Int)], (joinedW c' [ArrD.vec (α := AD (k + 1)) (arr (k + 2) p), ArrD.vec (α := AD (k + 1)) (arr (k + 2) q)]).pick (atL (PlainD.items (α := PD (k + 1)) p).length [(i : Int)]) (blankA k)⟩ : ArrD (AD (k + 1))))).kind wv73 nv73 sm73 il73 fl73 ch73 bx73).all Value.oneCell') = true := by rw [hoc73]; rfl
        have hp' := PlainAt.mono (k + 2) _ _ _ _ hle73 hp'
        have hq' := PlainAt.mono (k + 2) _ _ _ _ hle73 hq'
        refine RW.nil ?_
        refine heldQ_normal ⟨_, _, 2, 1, hs, rfl, rfl⟩ ?_
        refine HW.takeR (fuel := 4) 11 rfl (fun _ _ ka kb _ hs hka hkb => Y.move rfl) ⟨_, _, 2, 1, hs, rfl, rfl⟩ rfl (by kernel_rfl) (by kernel_rfl) (by kernel_rfl) ?_
        refine HW.takeR (fuel := 3) 12 rfl (fun _ _ ka kb _ hs hka hkb => Y.extract rfl rfl) ⟨_, _, 2, 1, hs, rfl, rfl⟩ rfl (by kernel_rfl) (by kernel_rfl) (by kernel_rfl) ?_
        refine HW.takeR (fuel := 2) 13 rfl (fun _ _ ka kb _ hs hka hkb => Y.extract rfl rfl) ⟨_, _, 2, 1, hs, rfl, rfl⟩ rfl (by kernel_rfl) (by kernel_rfl) (by kernel_rfl) ?_
        refine HW.one (fuel := 1) 15 rfl (by kernel_rfl) ?_
        refine RW.storeAll T hs 0 rfl rfl rfl rfl rfl rfl hall73 rfl ?_
        intro w20 hs
        refine RW.nil ?_
        refine heldQ_normal ⟨_, _, 2, 1, hs, rfl, rfl⟩ ?_
        refine HW.takeR (fuel := 0) 16 rfl (fun _ _ ka kb _ hs hka hkb => Y.assign rfl) ⟨_, _, 2, 1, hs, rfl, rfl⟩ rfl (by kernel_rfl) (by kernel_rfl) (by kernel_rfl) ?_
        refine HW.done (by kernel_rfl) ?_
        refine calmQ_normal ?_
        exact joinQ_meet (b11, _, h73) ⟨rfl, rfl, rfl, rfl, rfl, rfl, rfl, trivial⟩ ⟨ha73, hp', hq', hs⟩
      · (refine RW.call T hs rfl rfl rfl (of07_con (k + 2) _ q _ _ hq' hcq) ?_; intro v h72 w72 hle72 hp72 hs)
        obtain ⟨cs72, rfl, _, _, ha72⟩ := hp72
        have hp' := PlainAt.mono (k + 2) _ _ _ _ hle72 hp'
        have hq' := PlainAt.mono (k + 2) _ _ _ _ hle72 hq'
        have ha64 := ArrAt.mono (k + 2) _ _ _ _ hle72 ha64
        have hn68 := ArrAt.mono (k + 2) _ _ _ _ hle72 hn68
        refine RW.nil ?_
        refine heldQ_normal ⟨_, _, 2, 1, hs, rfl, rfl⟩ ?_
        refine HW.one (fuel := 6) 7 rfl (by kernel_rfl) ?_
        (refine RW.lit T hs (vs := [.agg (.bool false :: .slice ad68 (ArrD.shape (α := AD (k + 1)) (numA (k + 1) (fwF i))).length cap68 :: vecCells (ArrD.vec (α := AD (k + 1)) (numA (k + 1) (fwF i))).kind wv68 nv68 sm68 il68 fl68 ch68 bx68).toArray]) (cs := (.bool false :: .slice ad68 (ArrD.shape (α := AD (k + 1)) (numA (k + 1) (fwF i))).length cap68 :: vecCells (ArrD.vec (α := AD (k + 1)) (numA (k + 1) (fwF i))).kind wv68 nv68 sm68 il68 fl68 ch68 bx68)) rfl rfl rfl rfl (by simp [Value.cells, vecCells]) rfl rfl rfl rfl rfl ?_; intro b70 w70 hs)
        obtain ⟨h70, hle70, hs, hS70⟩ := hs.freeze
        have hp' := PlainAt.mono (k + 2) _ _ _ _ hle70 hp'
        have hq' := PlainAt.mono (k + 2) _ _ _ _ hle70 hq'
        have ha64 := ArrAt.mono (k + 2) _ _ _ _ hle70 ha64
        have hn68 := ArrAt.mono (k + 2) _ _ _ _ hle70 hn68
        have ha72 := ArrAt.mono (k + 2) _ _ _ _ hle70 ha72
        refine RW.nil ?_
        refine heldQ_normal ⟨_, _, 2, 1, hs, rfl, rfl⟩ ?_
        refine HW.one (fuel := 5) 10 rfl (by kernel_rfl) ?_
        (refine RW.call T hs rfl rfl rfl (indexSet_con (ArrAt.mono (k + 1)) (ArrAt.one (k + 1)) (ArrAt.siz (k + 1)) (blankA k) (fun w h => flatBlank_con (ArrAt.mono k) (ArrAt.one k) w h) _ _ (arr (k + 2) p) (arr (k + 2) q) (numA (k + 1) (fwF i)) b70 1 (PlainD.items (α := PD (k + 1)) p).length _ 0 3000 1 c' _ _ ha64 ha72 BF.sh BF.ml BF.ka (by omega) BF.b1 hS70 hn68 (one_kind i (by omega)) (show 1 ≤ 1048576 by decide) (show 1 ≤ 1048576 by decide) (show 0 ≤ 1048576 by decide) ⟨by decide, by decide⟩ (one_in k i _ hi3 hi0) (show product [] 3000 = (1, 0) by decide) (by decide) BF.F.hj BF.F.k1 BF.F.l1 (by rw [BF.sh, one_nums k i hi3]; exact BF.F.n1)) ?_; intro v h73 w73 hle73 hp73 hs)
        obtain ⟨cs73, rfl, ha73⟩ := hp73
        rw [BF.sh, one_nums k i hi3, pick_sq] at ha73
        have ha73 : ArrAt (k + 2) h73 cs73 ((⟨[((PlainD.items (α := PD (k + 1)) p).length : Int)], (joinedW c' [ArrD.vec (α := AD (k + 1)) (arr (k + 2) p), ArrD.vec (α := AD (k + 1)) (arr (k + 2) q)]).pick (atL (PlainD.items (α := PD (k + 1)) p).length [(i : Int)]) (blankA k)⟩ : ArrD (AD (k + 1)))) := ha73
        obtain ⟨s73, vc73, rfl, ⟨ad73, cap73, rfl, _⟩, hv73⟩ := id ha73
        obtain ⟨wv73, nv73, sm73, il73, fl73, ch73, bx73, ⟨rfl, hoc73⟩, _⟩ := hv73
        have hall73 : (Value.oneCell' (.slice ad73 (ArrD.shape (α := AD (k + 1)) ((⟨[((PlainD.items (α := PD (k + 1)) p).length : Int)], (joinedW c' [ArrD.vec (α := AD (k + 1)) (arr (k + 2) p), ArrD.vec (α := AD (k + 1)) (arr (k + 2) q)]).pick (atL (PlainD.items (α := PD (k + 1)) p).length [(i : Int)]) (blankA k)⟩ : ArrD (AD (k + 1))))).length cap73) && (vecCells (ArrD.vec (α := AD (k + 1)) ((⟨[((PlainD.items (α := PD (k + 1)) p).length : Int)], (joinedW c' [ArrD.vec (α := AD (k + 1)) (arr (k + 2) p), ArrD.vec (α := AD (k + 1)) (arr (k + 2) q)]).pick (atL (PlainD.items (α := PD (k + 1)) p).length [(i : Int)]) (blankA k)⟩ : ArrD (AD (k + 1))))).kind wv73 nv73 sm73 il73 fl73 ch73 bx73).all Value.oneCell') = true := by rw [hoc73]; rfl
        have hp' := PlainAt.mono (k + 2) _ _ _ _ hle73 hp'
        have hq' := PlainAt.mono (k + 2) _ _ _ _ hle73 hq'
        refine RW.nil ?_
        refine heldQ_normal ⟨_, _, 2, 1, hs, rfl, rfl⟩ ?_
        refine HW.takeR (fuel := 4) 11 rfl (fun _ _ ka kb _ hs hka hkb => Y.move rfl) ⟨_, _, 2, 1, hs, rfl, rfl⟩ rfl (by kernel_rfl) (by kernel_rfl) (by kernel_rfl) ?_
        refine HW.takeR (fuel := 3) 12 rfl (fun _ _ ka kb _ hs hka hkb => Y.extract rfl rfl) ⟨_, _, 2, 1, hs, rfl, rfl⟩ rfl (by kernel_rfl) (by kernel_rfl) (by kernel_rfl) ?_
        refine HW.takeR (fuel := 2) 13 rfl (fun _ _ ka kb _ hs hka hkb => Y.extract rfl rfl) ⟨_, _, 2, 1, hs, rfl, rfl⟩ rfl (by kernel_rfl) (by kernel_rfl) (by kernel_rfl) ?_
        refine HW.one (fuel := 1) 15 rfl (by kernel_rfl) ?_
        refine RW.storeAll T hs 0 rfl rfl rfl rfl rfl rfl hall73 rfl ?_
        intro w20 hs
        refine RW.nil ?_
        refine heldQ_normal ⟨_, _, 2, 1, hs, rfl, rfl⟩ ?_
        refine HW.takeR (fuel := 0) 16 rfl (fun _ _ ka kb _ hs hka hkb => Y.assign rfl) ⟨_, _, 2, 1, hs, rfl, rfl⟩ rfl (by kernel_rfl) (by kernel_rfl) (by kernel_rfl) ?_
        refine HW.done (by kernel_rfl) ?_
        refine calmQ_normal ?_
        exact joinQ_meet (b11, _, h73) ⟨rfl, rfl, rfl, rfl, rfl, rfl, rfl, trivial⟩ ⟨ha73, hp', hq', hs⟩
  rintro ⟨b11, cs11, h9⟩ w9 ⟨ha73, hp', hq', hs⟩
  dsimp only at ha73 hp' hq' hs ⊢
  obtain ⟨s73, vc73, rfl, ⟨ad73, cap73, rfl, _⟩, hv73⟩ := id ha73
  obtain ⟨wv73, nv73, sm73, il73, fl73, ch73, bx73, ⟨rfl, hoc73⟩, _⟩ := hv73
  have hall73 : (Value.oneCell' (.slice ad73 (ArrD.shape (α := AD (k + 1)) ((⟨[((PlainD.items (α := PD (k + 1)) p).length : Int)], (joinedW c' [ArrD.vec (α := AD (k + 1)) (arr (k + 2) p), ArrD.vec (α := AD (k + 1)) (arr (k + 2) q)]).pick (atL (PlainD.items (α := PD (k + 1)) p).length [(i : Int)]) (blankA k)⟩ : ArrD (AD (k + 1))))).length cap73) && (vecCells (ArrD.vec (α := AD (k + 1)) ((⟨[((PlainD.items (α := PD (k + 1)) p).length : Int)], (joinedW c' [ArrD.vec (α := AD (k + 1)) (arr (k + 2) p), ArrD.vec (α := AD (k + 1)) (arr (k + 2) q)]).pick (atL (PlainD.items (α := PD (k + 1)) p).length [(i : Int)]) (blankA k)⟩ : ArrD (AD (k + 1))))).kind wv73 nv73 sm73 il73 fl73 ch73 bx73).all Value.oneCell') = true := by rw [hoc73]; rfl
  refine Zerun ?_
  refine CW.meet (fun r : Nat × List Value × GHeap => [(4, .pointer (some ⟨b1, 0, none⟩)), (7, .pointer (some ⟨b2, 0, none⟩)), (8, .bool false), (9, .int .i64 (i : Int)), (10, .int .i64 (j : Int)), (13, .pointer (some ⟨r.1, 0, none⟩)), (14, .int .i64 0)]) (fun r w' => ArrAt (k + 2) r.2.2 r.2.1 ((⟨[], ((joinedW c' [ArrD.vec (α := AD (k + 1)) (arr (k + 2) p), ArrD.vec (α := AD (k + 1)) (arr (k + 2) q)]).pick (atL (PlainD.items (α := PD (k + 1)) p).length [(i : Int)]) (blankA k)).pick [(j : Int)] (blankA k)⟩ : ArrD (AD (k + 1)))) ∧ PlainAt (k + 2) r.2.2 [.slice ad (PlainD.shape (α := PD (k + 1)) p).length cp, .slice ad2 (PlainD.items (α := PD (k + 1)) p).length cp2, .int .i64 (PlainD.fill (α := PD (k + 1)) p)] p ∧ PlainAt (k + 2) r.2.2 [.slice ad3 (PlainD.shape (α := PD (k + 1)) q).length cp3, .slice ad4 (PlainD.items (α := PD (k + 1)) q).length cp4, .int .i64 (PlainD.fill (α := PD (k + 1)) q)] q ∧ Sees w h r.2.2 [⟨some ⟨r.1, 0, none⟩, 1, 1, 63, 9, r.2.1⟩, ⟨some ⟨b2, 0, none⟩, 1, 1, 50, 3, [.slice ad3 (PlainD.shape (α := PD (k + 1)) q).length cp3, .slice ad4 (PlainD.items (α := PD (k + 1)) q).length cp4, .int .i64 (PlainD.fill (α := PD (k + 1)) q)]⟩, ⟨some ⟨b1, 0, none⟩, 1, 1, 50, 3, [.slice ad (PlainD.shape (α := PD (k + 1)) p).length cp, .slice ad2 (PlainD.items (α := PD (k + 1)) p).length cp2, .int .i64 (PlainD.fill (α := PD (k + 1)) p)]⟩] w') ?_ ?_
  · refine CW.regionR T 0 1 hs rfl rfl ?_
    intro w10 hs
    refine HW.takeR (fuel := 13) 0 rfl (fun _ _ ka kb _ hs hka hkb => Y.loadRowN T hs ka hka rfl rfl rfl rfl rfl rfl) ⟨_, _, 0, 1, hs, rfl, rfl⟩ rfl (by kernel_rfl) (by kernel_rfl) (by kernel_rfl) ?_
    refine HW.takeR (fuel := 12) 1 rfl (fun _ _ ka kb _ hs hka hkb => Y.move rfl) ⟨_, _, 0, 1, hs, rfl, rfl⟩ rfl (by kernel_rfl) (by kernel_rfl) (by kernel_rfl) ?_
    refine HW.takeR (fuel := 11) 2 rfl (fun _ _ ka kb _ hs hka hkb => Y.convIF T rfl rfl rfl) ⟨_, _, 0, 1, hs, rfl, rfl⟩ rfl (by kernel_rfl) (by kernel_rfl) (by kernel_rfl) ?_
    refine HW.two (fuel := 10) 3 11 rfl rfl (by kernel_rfl) ?_ ?_
    · (refine RW.call T hs rfl rfl rfl (refOne_con (α := PD (k + 1)) (R := PlainAt (k + 1)) (fwF j) _ _ numj.1.1) ?_; intro v h82 w82 hle82 hp82 hs)
      obtain ⟨cs82, rfl, hq82⟩ := hp82
      have hp' := PlainAt.mono (k + 2) _ _ _ _ hle82 hp'
      have hq' := PlainAt.mono (k + 2) _ _ _ _ hle82 hq'
      have ha73 := ArrAt.mono (k + 2) _ _ _ _ hle82 ha73
      refine RW.nil ?_
      refine heldQ_normal ⟨_, _, 0, 1, hs, rfl, rfl⟩ ?_
      refine HW.two (fuel := 9) 4 11 rfl rfl (by kernel_rfl) ?_ ?_
      · (refine RW.call T hs rfl rfl rfl (of07_con (k + 2) _ (numQ (k + 1) (fwF j)) _ _ hq82 (numQ_chk (k + 1) _ numj.1.2.1)) ?_; intro v h83 w83 hle83 hp83 hs)
        obtain ⟨cs83, rfl, _, _, hn83⟩ := hp83
        rw [numQ_arr, tidyW_of numj.1] at hn83
        obtain ⟨s83, vc83, rfl, ⟨ad83, cap83, rfl, _⟩, hv83⟩ := id hn83
        obtain ⟨wv83, nv83, sm83, il83, fl83, ch83, bx83, ⟨rfl, hoc83⟩, _⟩ := hv83
        have hall83 : (Value.oneCell' (.slice ad83 (ArrD.shape (α := AD (k + 1)) (numA (k + 1) (fwF j))).length cap83) && (vecCells (ArrD.vec (α := AD (k + 1)) (numA (k + 1) (fwF j))).kind wv83 nv83 sm83 il83 fl83 ch83 bx83).all Value.oneCell') = true := by rw [hoc83]; rfl
        have hp' := PlainAt.mono (k + 2) _ _ _ _ hle83 hp'
        have hq' := PlainAt.mono (k + 2) _ _ _ _ hle83 hq'
        have ha73 := ArrAt.mono (k + 2) _ _ _ _ hle83 ha73
        refine RW.nil ?_
        refine heldQ_normal ⟨_, _, 0, 1, hs, rfl, rfl⟩ ?_
        refine HW.takeR (fuel := 8) 5 rfl (fun _ _ ka kb _ hs hka hkb => Y.build T rfl rfl rfl rfl rfl rfl rfl) ⟨_, _, 0, 1, hs, rfl, rfl⟩ rfl (by kernel_rfl) (by kernel_rfl) (by kernel_rfl) ?_
        refine HW.two (fuel := 7) 6 11 rfl rfl (by kernel_rfl) ?_ ?_
        · (refine RW.lit T hs (vs := [.agg (.bool false :: .slice ad83 (ArrD.shape (α := AD (k + 1)) (numA (k + 1) (fwF j))).length cap83 :: vecCells (ArrD.vec (α := AD (k + 1)) (numA (k + 1) (fwF j))).kind wv83 nv83 sm83 il83 fl83 ch83 bx83).toArray]) (cs := (.bool false :: .slice ad83 (ArrD.shape (α := AD (k + 1)) (numA (k + 1) (fwF j))).length cap83 :: vecCells (ArrD.vec (α := AD (k + 1)) (numA (k + 1) (fwF j))).kind wv83 nv83 sm83 il83 fl83 ch83 bx83)) rfl rfl rfl rfl (by simp [Value.cells, vecCells]) rfl rfl rfl rfl rfl ?_; intro b85 w85 hs)
          obtain ⟨h85, hle85, hs, hS85⟩ := hs.freeze
          have hp' := PlainAt.mono (k + 2) _ _ _ _ hle85 hp'
          have hq' := PlainAt.mono (k + 2) _ _ _ _ hle85 hq'
          have ha73 := ArrAt.mono (k + 2) _ _ _ _ hle85 ha73
          have hn83 := ArrAt.mono (k + 2) _ _ _ _ hle85 hn83
          refine RW.nil ?_
          refine heldQ_normal ⟨_, _, 0, 1, hs, rfl, rfl⟩ ?_
          refine HW.two (fuel := 6) 7 11 rfl rfl (by kernel_rfl) ?_ ?_
          · (refine RW.call T hs rfl rfl rfl (indexBracket_con (ArrAt.mono (k + 1)) (ArrAt.one (k + 1)) (ArrAt.siz (k + 1)) (blankA k) (fun w h => flatBlank_con (ArrAt.mono k) (ArrAt.one k) w h) _ ((⟨[((PlainD.items (α := PD (k + 1)) p).length : Int)], (joinedW c' [ArrD.vec (α := AD (k + 1)) (arr (k + 2) p), ArrD.vec (α := AD (k + 1)) (arr (k + 2) q)]).pick (atL (PlainD.items (α := PD (k + 1)) p).length [(i : Int)]) (blankA k)⟩ : ArrD (AD (k + 1)))) (numA (k + 1) (fwF j)) b85 1 _ (PlainD.items (α := PD (k + 1)) p).length 0 3000 1 _ _ ha73 rfl BF.F.s1.k0 BF.F.s1.vm hS85 hn83 (one_kind j (by omega)) (show 1 ≤ 1048576 by decide) (show 1 ≤ 1048576 by decide) (show 0 ≤ 1048576 by decide) ⟨by omega, by omega⟩ ⟨by decide, by decide⟩ (one_in k j _ hj3 hj0) (show product [] 3000 = (1, 0) by decide) (by rw [one_nums k j hj3]; exact BF.F.n2)) ?_; intro v h86 w86 hle86 hp86 hs)
            obtain ⟨cs86, rfl, ha86⟩ := hp86
            rw [one_nums k j hj3, pick_sq] at ha86
            have ha86 : ArrAt (k + 2) h86 cs86 ((⟨[], ((joinedW c' [ArrD.vec (α := AD (k + 1)) (arr (k + 2) p), ArrD.vec (α := AD (k + 1)) (arr (k + 2) q)]).pick (atL (PlainD.items (α := PD (k + 1)) p).length [(i : Int)]) (blankA k)).pick [(j : Int)] (blankA k)⟩ : ArrD (AD (k + 1)))) := ha86
            obtain ⟨s86, vc86, rfl, ⟨ad86, cap86, rfl, _⟩, hv86⟩ := id ha86
            obtain ⟨wv86, nv86, sm86, il86, fl86, ch86, bx86, ⟨rfl, hoc86⟩, _⟩ := hv86
            have hall86 : (Value.oneCell' (.slice ad86 (ArrD.shape (α := AD (k + 1)) ((⟨[], ((joinedW c' [ArrD.vec (α := AD (k + 1)) (arr (k + 2) p), ArrD.vec (α := AD (k + 1)) (arr (k + 2) q)]).pick (atL (PlainD.items (α := PD (k + 1)) p).length [(i : Int)]) (blankA k)).pick [(j : Int)] (blankA k)⟩ : ArrD (AD (k + 1))))).length cap86) && (vecCells (ArrD.vec (α := AD (k + 1)) ((⟨[], ((joinedW c' [ArrD.vec (α := AD (k + 1)) (arr (k + 2) p), ArrD.vec (α := AD (k + 1)) (arr (k + 2) q)]).pick (atL (PlainD.items (α := PD (k + 1)) p).length [(i : Int)]) (blankA k)).pick [(j : Int)] (blankA k)⟩ : ArrD (AD (k + 1))))).kind wv86 nv86 sm86 il86 fl86 ch86 bx86).all Value.oneCell') = true := by rw [hoc86]; rfl
            have hp' := PlainAt.mono (k + 2) _ _ _ _ hle86 hp'
            have hq' := PlainAt.mono (k + 2) _ _ _ _ hle86 hq'
            refine RW.nil ?_
            refine heldQ_normal ⟨_, _, 0, 1, hs, rfl, rfl⟩ ?_
            refine HW.takeR (fuel := 5) 8 rfl (fun _ _ ka kb _ hs hka hkb => Y.move rfl) ⟨_, _, 0, 1, hs, rfl, rfl⟩ rfl (by kernel_rfl) (by kernel_rfl) (by kernel_rfl) ?_
            refine HW.takeR (fuel := 4) 9 rfl (fun _ _ ka kb _ hs hka hkb => Y.extract rfl rfl) ⟨_, _, 0, 1, hs, rfl, rfl⟩ rfl (by kernel_rfl) (by kernel_rfl) (by kernel_rfl) ?_
            refine HW.takeR (fuel := 3) 10 rfl (fun _ _ ka kb _ hs hka hkb => Y.extract rfl rfl) ⟨_, _, 0, 1, hs, rfl, rfl⟩ rfl (by kernel_rfl) (by kernel_rfl) (by kernel_rfl) ?_
            refine HW.one (fuel := 2) 11 rfl (by kernel_rfl) ?_
            (refine RW.allocN T hs rfl rfl rfl rfl ?_; intro b13 w13 hs)
            refine RW.nil ?_
            refine heldQ_normal ⟨_, _, 1, 2, hs, rfl, rfl⟩ ?_
            refine HW.one (fuel := 1) 12 rfl (by kernel_rfl) ?_
            refine RW.storeAll T hs 0 rfl rfl rfl rfl rfl rfl hall86 rfl ?_
            intro w21 hs
            refine RW.nil ?_
            refine heldQ_normal ⟨_, _, 1, 2, hs, rfl, rfl⟩ ?_
            refine HW.takeR (fuel := 0) 13 rfl (fun _ _ ka kb _ hs hka hkb => Y.assign rfl) ⟨_, _, 1, 2, hs, rfl, rfl⟩ rfl (by kernel_rfl) (by kernel_rfl) (by kernel_rfl) ?_
            refine HW.done (by kernel_rfl) ?_
            refine calmQ_normal ?_
            exact joinQ_meet (b13, _, h86) ⟨rfl, rfl, rfl, rfl, rfl, rfl, rfl, trivial⟩ ⟨ha86, hp', hq', hs.sub (.cons_cons _ (.cons _ (.refl _)))⟩
          · (refine RW.allocN T hs rfl rfl rfl rfl ?_; intro b13 w13 hs)
            refine RW.nil ?_
            refine heldQ_normal ⟨_, _, 1, 2, hs, rfl, rfl⟩ ?_
            refine HW.one (fuel := 5) 7 rfl (by kernel_rfl) ?_
            (refine RW.call T hs rfl rfl rfl (indexBracket_con (ArrAt.mono (k + 1)) (ArrAt.one (k + 1)) (ArrAt.siz (k + 1)) (blankA k) (fun w h => flatBlank_con (ArrAt.mono k) (ArrAt.one k) w h) _ ((⟨[((PlainD.items (α := PD (k + 1)) p).length : Int)], (joinedW c' [ArrD.vec (α := AD (k + 1)) (arr (k + 2) p), ArrD.vec (α := AD (k + 1)) (arr (k + 2) q)]).pick (atL (PlainD.items (α := PD (k + 1)) p).length [(i : Int)]) (blankA k)⟩ : ArrD (AD (k + 1)))) (numA (k + 1) (fwF j)) b85 1 _ (PlainD.items (α := PD (k + 1)) p).length 0 3000 1 _ _ ha73 rfl BF.F.s1.k0 BF.F.s1.vm hS85 hn83 (one_kind j (by omega)) (show 1 ≤ 1048576 by decide) (show 1 ≤ 1048576 by decide) (show 0 ≤ 1048576 by decide) ⟨by omega, by omega⟩ ⟨by decide, by decide⟩ (one_in k j _ hj3 hj0) (show product [] 3000 = (1, 0) by decide) (by rw [one_nums k j hj3]; exact BF.F.n2)) ?_; intro v h86 w86 hle86 hp86 hs)
            obtain ⟨cs86, rfl, ha86⟩ := hp86
            rw [one_nums k j hj3, pick_sq] at ha86
            have ha86 : ArrAt (k + 2) h86 cs86 ((⟨[], ((joinedW c' [ArrD.vec (α := AD (k + 1)) (arr (k + 2) p), ArrD.vec (α := AD (k + 1)) (arr (k + 2) q)]).pick (atL (PlainD.items (α := PD (k + 1)) p).length [(i : Int)]) (blankA k)).pick [(j : Int)] (blankA k)⟩ : ArrD (AD (k + 1)))) := ha86
            obtain ⟨s86, vc86, rfl, ⟨ad86, cap86, rfl, _⟩, hv86⟩ := id ha86
            obtain ⟨wv86, nv86, sm86, il86, fl86, ch86, bx86, ⟨rfl, hoc86⟩, _⟩ := hv86
            have hall86 : (Value.oneCell' (.slice ad86 (ArrD.shape (α := AD (k + 1)) ((⟨[], ((joinedW c' [ArrD.vec (α := AD (k + 1)) (arr (k + 2) p), ArrD.vec (α := AD (k + 1)) (arr (k + 2) q)]).pick (atL (PlainD.items (α := PD (k + 1)) p).length [(i : Int)]) (blankA k)).pick [(j : Int)] (blankA k)⟩ : ArrD (AD (k + 1))))).length cap86) && (vecCells (ArrD.vec (α := AD (k + 1)) ((⟨[], ((joinedW c' [ArrD.vec (α := AD (k + 1)) (arr (k + 2) p), ArrD.vec (α := AD (k + 1)) (arr (k + 2) q)]).pick (atL (PlainD.items (α := PD (k + 1)) p).length [(i : Int)]) (blankA k)).pick [(j : Int)] (blankA k)⟩ : ArrD (AD (k + 1))))).kind wv86 nv86 sm86 il86 fl86 ch86 bx86).all Value.oneCell') = true := by rw [hoc86]; rfl
            have hp' := PlainAt.mono (k + 2) _ _ _ _ hle86 hp'
            have hq' := PlainAt.mono (k + 2) _ _ _ _ hle86 hq'
            refine RW.nil ?_
            refine heldQ_normal ⟨_, _, 1, 2, hs, rfl, rfl⟩ ?_
            refine HW.takeR (fuel := 4) 8 rfl (fun _ _ ka kb _ hs hka hkb => Y.move rfl) ⟨_, _, 1, 2, hs, rfl, rfl⟩ rfl (by kernel_rfl) (by kernel_rfl) (by kernel_rfl) ?_
            refine HW.takeR (fuel := 3) 9 rfl (fun _ _ ka kb _ hs hka hkb => Y.extract rfl rfl) ⟨_, _, 1, 2, hs, rfl, rfl⟩ rfl (by kernel_rfl) (by kernel_rfl) (by kernel_rfl) ?_
            refine HW.takeR (fuel := 2) 10 rfl (fun _ _ ka kb _ hs hka hkb => Y.extract rfl rfl) ⟨_, _, 1, 2, hs, rfl, rfl⟩ rfl (by kernel_rfl) (by kernel_rfl) (by kernel_rfl) ?_
            refine HW.one (fuel := 1) 12 rfl (by kernel_rfl) ?_
            refine RW.storeAll T hs 0 rfl rfl rfl rfl rfl rfl hall86 rfl ?_
            intro w21 hs
            refine RW.nil ?_
            refine heldQ_normal ⟨_, _, 1, 2, hs, rfl, rfl⟩ ?_
            refine HW.takeR (fuel := 0) 13 rfl (fun _ _ ka kb _ hs hka hkb => Y.assign rfl) ⟨_, _, 1, 2, hs, rfl, rfl⟩ rfl (by kernel_rfl) (by kernel_rfl) (by kernel_rfl) ?_
            refine HW.done (by kernel_rfl) ?_
            refine calmQ_normal ?_
            exact joinQ_meet (b13, _, h86) ⟨rfl, rfl, rfl, rfl, rfl, rfl, rfl, trivial⟩ ⟨ha86, hp', hq', hs.sub (.cons_cons _ (.cons _ (.refl _)))⟩
        · (refine RW.allocN T hs rfl rfl rfl rfl ?_; intro b13 w13 hs)
          refine RW.nil ?_
          refine heldQ_normal ⟨_, _, 1, 2, hs, rfl, rfl⟩ ?_
          refine HW.one (fuel := 6) 6 rfl (by kernel_rfl) ?_
          (refine RW.lit T hs (vs := [.agg (.bool false :: .slice ad83 (ArrD.shape (α := AD (k + 1)) (numA (k + 1) (fwF j))).length cap83 :: vecCells (ArrD.vec (α := AD (k + 1)) (numA (k + 1) (fwF j))).kind wv83 nv83 sm83 il83 fl83 ch83 bx83).toArray]) (cs := (.bool false :: .slice ad83 (ArrD.shape (α := AD (k + 1)) (numA (k + 1) (fwF j))).length cap83 :: vecCells (ArrD.vec (α := AD (k + 1)) (numA (k + 1) (fwF j))).kind wv83 nv83 sm83 il83 fl83 ch83 bx83)) rfl rfl rfl rfl (by simp [Value.cells, vecCells]) rfl rfl rfl rfl rfl ?_; intro b85 w85 hs)
          obtain ⟨h85, hle85, hs, hS85⟩ := hs.freeze
          have hp' := PlainAt.mono (k + 2) _ _ _ _ hle85 hp'
          have hq' := PlainAt.mono (k + 2) _ _ _ _ hle85 hq'
          have ha73 := ArrAt.mono (k + 2) _ _ _ _ hle85 ha73
          have hn83 := ArrAt.mono (k + 2) _ _ _ _ hle85 hn83
          refine RW.nil ?_
          refine heldQ_normal ⟨_, _, 1, 2, hs, rfl, rfl⟩ ?_
          refine HW.one (fuel := 5) 7 rfl (by kernel_rfl) ?_
          (refine RW.call T hs rfl rfl rfl (indexBracket_con (ArrAt.mono (k + 1)) (ArrAt.one (k + 1)) (ArrAt.siz (k + 1)) (blankA k) (fun w h => flatBlank_con (ArrAt.mono k) (ArrAt.one k) w h) _ ((⟨[((PlainD.items (α := PD (k + 1)) p).length : Int)], (joinedW c' [ArrD.vec (α := AD (k + 1)) (arr (k + 2) p), ArrD.vec (α := AD (k + 1)) (arr (k + 2) q)]).pick (atL (PlainD.items (α := PD (k + 1)) p).length [(i : Int)]) (blankA k)⟩ : ArrD (AD (k + 1)))) (numA (k + 1) (fwF j)) b85 1 _ (PlainD.items (α := PD (k + 1)) p).length 0 3000 1 _ _ ha73 rfl BF.F.s1.k0 BF.F.s1.vm hS85 hn83 (one_kind j (by omega)) (show 1 ≤ 1048576 by decide) (show 1 ≤ 1048576 by decide) (show 0 ≤ 1048576 by decide) ⟨by omega, by omega⟩ ⟨by decide, by decide⟩ (one_in k j _ hj3 hj0) (show product [] 3000 = (1, 0) by decide) (by rw [one_nums k j hj3]; exact BF.F.n2)) ?_; intro v h86 w86 hle86 hp86 hs)
          obtain ⟨cs86, rfl, ha86⟩ := hp86
          rw [one_nums k j hj3, pick_sq] at ha86
          have ha86 : ArrAt (k + 2) h86 cs86 ((⟨[], ((joinedW c' [ArrD.vec (α := AD (k + 1)) (arr (k + 2) p), ArrD.vec (α := AD (k + 1)) (arr (k + 2) q)]).pick (atL (PlainD.items (α := PD (k + 1)) p).length [(i : Int)]) (blankA k)).pick [(j : Int)] (blankA k)⟩ : ArrD (AD (k + 1)))) := ha86
          obtain ⟨s86, vc86, rfl, ⟨ad86, cap86, rfl, _⟩, hv86⟩ := id ha86
          obtain ⟨wv86, nv86, sm86, il86, fl86, ch86, bx86, ⟨rfl, hoc86⟩, _⟩ := hv86
          have hall86 : (Value.oneCell' (.slice ad86 (ArrD.shape (α := AD (k + 1)) ((⟨[], ((joinedW c' [ArrD.vec (α := AD (k + 1)) (arr (k + 2) p), ArrD.vec (α := AD (k + 1)) (arr (k + 2) q)]).pick (atL (PlainD.items (α := PD (k + 1)) p).length [(i : Int)]) (blankA k)).pick [(j : Int)] (blankA k)⟩ : ArrD (AD (k + 1))))).length cap86) && (vecCells (ArrD.vec (α := AD (k + 1)) ((⟨[], ((joinedW c' [ArrD.vec (α := AD (k + 1)) (arr (k + 2) p), ArrD.vec (α := AD (k + 1)) (arr (k + 2) q)]).pick (atL (PlainD.items (α := PD (k + 1)) p).length [(i : Int)]) (blankA k)).pick [(j : Int)] (blankA k)⟩ : ArrD (AD (k + 1))))).kind wv86 nv86 sm86 il86 fl86 ch86 bx86).all Value.oneCell') = true := by rw [hoc86]; rfl
          have hp' := PlainAt.mono (k + 2) _ _ _ _ hle86 hp'
          have hq' := PlainAt.mono (k + 2) _ _ _ _ hle86 hq'
          refine RW.nil ?_
          refine heldQ_normal ⟨_, _, 1, 2, hs, rfl, rfl⟩ ?_
          refine HW.takeR (fuel := 4) 8 rfl (fun _ _ ka kb _ hs hka hkb => Y.move rfl) ⟨_, _, 1, 2, hs, rfl, rfl⟩ rfl (by kernel_rfl) (by kernel_rfl) (by kernel_rfl) ?_
          refine HW.takeR (fuel := 3) 9 rfl (fun _ _ ka kb _ hs hka hkb => Y.extract rfl rfl) ⟨_, _, 1, 2, hs, rfl, rfl⟩ rfl (by kernel_rfl) (by kernel_rfl) (by kernel_rfl) ?_
          refine HW.takeR (fuel := 2) 10 rfl (fun _ _ ka kb _ hs hka hkb => Y.extract rfl rfl) ⟨_, _, 1, 2, hs, rfl, rfl⟩ rfl (by kernel_rfl) (by kernel_rfl) (by kernel_rfl) ?_
          refine HW.one (fuel := 1) 12 rfl (by kernel_rfl) ?_
          refine RW.storeAll T hs 0 rfl rfl rfl rfl rfl rfl hall86 rfl ?_
          intro w21 hs
          refine RW.nil ?_
          refine heldQ_normal ⟨_, _, 1, 2, hs, rfl, rfl⟩ ?_
          refine HW.takeR (fuel := 0) 13 rfl (fun _ _ ka kb _ hs hka hkb => Y.assign rfl) ⟨_, _, 1, 2, hs, rfl, rfl⟩ rfl (by kernel_rfl) (by kernel_rfl) (by kernel_rfl) ?_
          refine HW.done (by kernel_rfl) ?_
          refine calmQ_normal ?_
          exact joinQ_meet (b13, _, h86) ⟨rfl, rfl, rfl, rfl, rfl, rfl, rfl, trivial⟩ ⟨ha86, hp', hq', hs.sub (.cons_cons _ (.cons _ (.refl _)))⟩
      · (refine RW.allocN T hs rfl rfl rfl rfl ?_; intro b13 w13 hs)
        refine RW.nil ?_
        refine heldQ_normal ⟨_, _, 1, 2, hs, rfl, rfl⟩ ?_
        refine HW.one (fuel := 8) 4 rfl (by kernel_rfl) ?_
        (refine RW.call T hs rfl rfl rfl (of07_con (k + 2) _ (numQ (k + 1) (fwF j)) _ _ hq82 (numQ_chk (k + 1) _ numj.1.2.1)) ?_; intro v h83 w83 hle83 hp83 hs)
        obtain ⟨cs83, rfl, _, _, hn83⟩ := hp83
        rw [numQ_arr, tidyW_of numj.1] at hn83
        obtain ⟨s83, vc83, rfl, ⟨ad83, cap83, rfl, _⟩, hv83⟩ := id hn83
        obtain ⟨wv83, nv83, sm83, il83, fl83, ch83, bx83, ⟨rfl, hoc83⟩, _⟩ := hv83
        have hall83 : (Value.oneCell' (.slice ad83 (ArrD.shape (α := AD (k + 1)) (numA (k + 1) (fwF j))).length cap83) && (vecCells (ArrD.vec (α := AD (k + 1)) (numA (k + 1) (fwF j))).kind wv83 nv83 sm83 il83 fl83 ch83 bx83).all Value.oneCell') = true := by rw [hoc83]; rfl
        have hp' := PlainAt.mono (k + 2) _ _ _ _ hle83 hp'
        have hq' := PlainAt.mono (k + 2) _ _ _ _ hle83 hq'
        have ha73 := ArrAt.mono (k + 2) _ _ _ _ hle83 ha73
        refine RW.nil ?_
        refine heldQ_normal ⟨_, _, 1, 2, hs, rfl, rfl⟩ ?_
        refine HW.takeR (fuel := 7) 5 rfl (fun _ _ ka kb _ hs hka hkb => Y.build T rfl rfl rfl rfl rfl rfl rfl) ⟨_, _, 1, 2, hs, rfl, rfl⟩ rfl (by kernel_rfl) (by kernel_rfl) (by kernel_rfl) ?_
        refine HW.one (fuel := 6) 6 rfl (by kernel_rfl) ?_
        (refine RW.lit T hs (vs := [.agg (.bool false :: .slice ad83 (ArrD.shape (α := AD (k + 1)) (numA (k + 1) (fwF j))).length cap83 :: vecCells (ArrD.vec (α := AD (k + 1)) (numA (k + 1) (fwF j))).kind wv83 nv83 sm83 il83 fl83 ch83 bx83).toArray]) (cs := (.bool false :: .slice ad83 (ArrD.shape (α := AD (k + 1)) (numA (k + 1) (fwF j))).length cap83 :: vecCells (ArrD.vec (α := AD (k + 1)) (numA (k + 1) (fwF j))).kind wv83 nv83 sm83 il83 fl83 ch83 bx83)) rfl rfl rfl rfl (by simp [Value.cells, vecCells]) rfl rfl rfl rfl rfl ?_; intro b85 w85 hs)
        obtain ⟨h85, hle85, hs, hS85⟩ := hs.freeze
        have hp' := PlainAt.mono (k + 2) _ _ _ _ hle85 hp'
        have hq' := PlainAt.mono (k + 2) _ _ _ _ hle85 hq'
        have ha73 := ArrAt.mono (k + 2) _ _ _ _ hle85 ha73
        have hn83 := ArrAt.mono (k + 2) _ _ _ _ hle85 hn83
        refine RW.nil ?_
        refine heldQ_normal ⟨_, _, 1, 2, hs, rfl, rfl⟩ ?_
        refine HW.one (fuel := 5) 7 rfl (by kernel_rfl) ?_
        (refine RW.call T hs rfl rfl rfl (indexBracket_con (ArrAt.mono (k + 1)) (ArrAt.one (k + 1)) (ArrAt.siz (k + 1)) (blankA k) (fun w h => flatBlank_con (ArrAt.mono k) (ArrAt.one k) w h) _ ((⟨[((PlainD.items (α := PD (k + 1)) p).length : Int)], (joinedW c' [ArrD.vec (α := AD (k + 1)) (arr (k + 2) p), ArrD.vec (α := AD (k + 1)) (arr (k + 2) q)]).pick (atL (PlainD.items (α := PD (k + 1)) p).length [(i : Int)]) (blankA k)⟩ : ArrD (AD (k + 1)))) (numA (k + 1) (fwF j)) b85 1 _ (PlainD.items (α := PD (k + 1)) p).length 0 3000 1 _ _ ha73 rfl BF.F.s1.k0 BF.F.s1.vm hS85 hn83 (one_kind j (by omega)) (show 1 ≤ 1048576 by decide) (show 1 ≤ 1048576 by decide) (show 0 ≤ 1048576 by decide) ⟨by omega, by omega⟩ ⟨by decide, by decide⟩ (one_in k j _ hj3 hj0) (show product [] 3000 = (1, 0) by decide) (by rw [one_nums k j hj3]; exact BF.F.n2)) ?_; intro v h86 w86 hle86 hp86 hs)
        obtain ⟨cs86, rfl, ha86⟩ := hp86
        rw [one_nums k j hj3, pick_sq] at ha86
        have ha86 : ArrAt (k + 2) h86 cs86 ((⟨[], ((joinedW c' [ArrD.vec (α := AD (k + 1)) (arr (k + 2) p), ArrD.vec (α := AD (k + 1)) (arr (k + 2) q)]).pick (atL (PlainD.items (α := PD (k + 1)) p).length [(i : Int)]) (blankA k)).pick [(j : Int)] (blankA k)⟩ : ArrD (AD (k + 1)))) := ha86
        obtain ⟨s86, vc86, rfl, ⟨ad86, cap86, rfl, _⟩, hv86⟩ := id ha86
        obtain ⟨wv86, nv86, sm86, il86, fl86, ch86, bx86, ⟨rfl, hoc86⟩, _⟩ := hv86
        have hall86 : (Value.oneCell' (.slice ad86 (ArrD.shape (α := AD (k + 1)) ((⟨[], ((joinedW c' [ArrD.vec (α := AD (k + 1)) (arr (k + 2) p), ArrD.vec (α := AD (k + 1)) (arr (k + 2) q)]).pick (atL (PlainD.items (α := PD (k + 1)) p).length [(i : Int)]) (blankA k)).pick [(j : Int)] (blankA k)⟩ : ArrD (AD (k + 1))))).length cap86) && (vecCells (ArrD.vec (α := AD (k + 1)) ((⟨[], ((joinedW c' [ArrD.vec (α := AD (k + 1)) (arr (k + 2) p), ArrD.vec (α := AD (k + 1)) (arr (k + 2) q)]).pick (atL (PlainD.items (α := PD (k + 1)) p).length [(i : Int)]) (blankA k)).pick [(j : Int)] (blankA k)⟩ : ArrD (AD (k + 1))))).kind wv86 nv86 sm86 il86 fl86 ch86 bx86).all Value.oneCell') = true := by rw [hoc86]; rfl
        have hp' := PlainAt.mono (k + 2) _ _ _ _ hle86 hp'
        have hq' := PlainAt.mono (k + 2) _ _ _ _ hle86 hq'
        refine RW.nil ?_
        refine heldQ_normal ⟨_, _, 1, 2, hs, rfl, rfl⟩ ?_
        refine HW.takeR (fuel := 4) 8 rfl (fun _ _ ka kb _ hs hka hkb => Y.move rfl) ⟨_, _, 1, 2, hs, rfl, rfl⟩ rfl (by kernel_rfl) (by kernel_rfl) (by kernel_rfl) ?_
        refine HW.takeR (fuel := 3) 9 rfl (fun _ _ ka kb _ hs hka hkb => Y.extract rfl rfl) ⟨_, _, 1, 2, hs, rfl, rfl⟩ rfl (by kernel_rfl) (by kernel_rfl) (by kernel_rfl) ?_
        refine HW.takeR (fuel := 2) 10 rfl (fun _ _ ka kb _ hs hka hkb => Y.extract rfl rfl) ⟨_, _, 1, 2, hs, rfl, rfl⟩ rfl (by kernel_rfl) (by kernel_rfl) (by kernel_rfl) ?_
        refine HW.one (fuel := 1) 12 rfl (by kernel_rfl) ?_
        refine RW.storeAll T hs 0 rfl rfl rfl rfl rfl rfl hall86 rfl ?_
        intro w21 hs
        refine RW.nil ?_
        refine heldQ_normal ⟨_, _, 1, 2, hs, rfl, rfl⟩ ?_
        refine HW.takeR (fuel := 0) 13 rfl (fun _ _ ka kb _ hs hka hkb => Y.assign rfl) ⟨_, _, 1, 2, hs, rfl, rfl⟩ rfl (by kernel_rfl) (by kernel_rfl) (by kernel_rfl) ?_
        refine HW.done (by kernel_rfl) ?_
        refine calmQ_normal ?_
        exact joinQ_meet (b13, _, h86) ⟨rfl, rfl, rfl, rfl, rfl, rfl, rfl, trivial⟩ ⟨ha86, hp', hq', hs.sub (.cons_cons _ (.cons _ (.refl _)))⟩
    · (refine RW.allocN T hs rfl rfl rfl rfl ?_; intro b13 w13 hs)
      refine RW.nil ?_
      refine heldQ_normal ⟨_, _, 1, 2, hs, rfl, rfl⟩ ?_
      refine HW.one (fuel := 9) 3 rfl (by kernel_rfl) ?_
      (refine RW.call T hs rfl rfl rfl (refOne_con (α := PD (k + 1)) (R := PlainAt (k + 1)) (fwF j) _ _ numj.1.1) ?_; intro v h82 w82 hle82 hp82 hs)
      obtain ⟨cs82, rfl, hq82⟩ := hp82
      have hp' := PlainAt.mono (k + 2) _ _ _ _ hle82 hp'
      have hq' := PlainAt.mono (k + 2) _ _ _ _ hle82 hq'
      have ha73 := ArrAt.mono (k + 2) _ _ _ _ hle82 ha73
      refine RW.nil ?_
      refine heldQ_normal ⟨_, _, 1, 2, hs, rfl, rfl⟩ ?_
      refine HW.one (fuel := 8) 4 rfl (by kernel_rfl) ?_
      (refine RW.call T hs rfl rfl rfl (of07_con (k + 2) _ (numQ (k + 1) (fwF j)) _ _ hq82 (numQ_chk (k + 1) _ numj.1.2.1)) ?_; intro v h83 w83 hle83 hp83 hs)
      obtain ⟨cs83, rfl, _, _, hn83⟩ := hp83
      rw [numQ_arr, tidyW_of numj.1] at hn83
      obtain ⟨s83, vc83, rfl, ⟨ad83, cap83, rfl, _⟩, hv83⟩ := id hn83
      obtain ⟨wv83, nv83, sm83, il83, fl83, ch83, bx83, ⟨rfl, hoc83⟩, _⟩ := hv83
      have hall83 : (Value.oneCell' (.slice ad83 (ArrD.shape (α := AD (k + 1)) (numA (k + 1) (fwF j))).length cap83) && (vecCells (ArrD.vec (α := AD (k + 1)) (numA (k + 1) (fwF j))).kind wv83 nv83 sm83 il83 fl83 ch83 bx83).all Value.oneCell') = true := by rw [hoc83]; rfl
      have hp' := PlainAt.mono (k + 2) _ _ _ _ hle83 hp'
      have hq' := PlainAt.mono (k + 2) _ _ _ _ hle83 hq'
      have ha73 := ArrAt.mono (k + 2) _ _ _ _ hle83 ha73
      refine RW.nil ?_
      refine heldQ_normal ⟨_, _, 1, 2, hs, rfl, rfl⟩ ?_
      refine HW.takeR (fuel := 7) 5 rfl (fun _ _ ka kb _ hs hka hkb => Y.build T rfl rfl rfl rfl rfl rfl rfl) ⟨_, _, 1, 2, hs, rfl, rfl⟩ rfl (by kernel_rfl) (by kernel_rfl) (by kernel_rfl) ?_
      refine HW.one (fuel := 6) 6 rfl (by kernel_rfl) ?_
      (refine RW.lit T hs (vs := [.agg (.bool false :: .slice ad83 (ArrD.shape (α := AD (k + 1)) (numA (k + 1) (fwF j))).length cap83 :: vecCells (ArrD.vec (α := AD (k + 1)) (numA (k + 1) (fwF j))).kind wv83 nv83 sm83 il83 fl83 ch83 bx83).toArray]) (cs := (.bool false :: .slice ad83 (ArrD.shape (α := AD (k + 1)) (numA (k + 1) (fwF j))).length cap83 :: vecCells (ArrD.vec (α := AD (k + 1)) (numA (k + 1) (fwF j))).kind wv83 nv83 sm83 il83 fl83 ch83 bx83)) rfl rfl rfl rfl (by simp [Value.cells, vecCells]) rfl rfl rfl rfl rfl ?_; intro b85 w85 hs)
      obtain ⟨h85, hle85, hs, hS85⟩ := hs.freeze
      have hp' := PlainAt.mono (k + 2) _ _ _ _ hle85 hp'
      have hq' := PlainAt.mono (k + 2) _ _ _ _ hle85 hq'
      have ha73 := ArrAt.mono (k + 2) _ _ _ _ hle85 ha73
      have hn83 := ArrAt.mono (k + 2) _ _ _ _ hle85 hn83
      refine RW.nil ?_
      refine heldQ_normal ⟨_, _, 1, 2, hs, rfl, rfl⟩ ?_
      refine HW.one (fuel := 5) 7 rfl (by kernel_rfl) ?_
      (refine RW.call T hs rfl rfl rfl (indexBracket_con (ArrAt.mono (k + 1)) (ArrAt.one (k + 1)) (ArrAt.siz (k + 1)) (blankA k) (fun w h => flatBlank_con (ArrAt.mono k) (ArrAt.one k) w h) _ ((⟨[((PlainD.items (α := PD (k + 1)) p).length : Int)], (joinedW c' [ArrD.vec (α := AD (k + 1)) (arr (k + 2) p), ArrD.vec (α := AD (k + 1)) (arr (k + 2) q)]).pick (atL (PlainD.items (α := PD (k + 1)) p).length [(i : Int)]) (blankA k)⟩ : ArrD (AD (k + 1)))) (numA (k + 1) (fwF j)) b85 1 _ (PlainD.items (α := PD (k + 1)) p).length 0 3000 1 _ _ ha73 rfl BF.F.s1.k0 BF.F.s1.vm hS85 hn83 (one_kind j (by omega)) (show 1 ≤ 1048576 by decide) (show 1 ≤ 1048576 by decide) (show 0 ≤ 1048576 by decide) ⟨by omega, by omega⟩ ⟨by decide, by decide⟩ (one_in k j _ hj3 hj0) (show product [] 3000 = (1, 0) by decide) (by rw [one_nums k j hj3]; exact BF.F.n2)) ?_; intro v h86 w86 hle86 hp86 hs)
      obtain ⟨cs86, rfl, ha86⟩ := hp86
      rw [one_nums k j hj3, pick_sq] at ha86
      have ha86 : ArrAt (k + 2) h86 cs86 ((⟨[], ((joinedW c' [ArrD.vec (α := AD (k + 1)) (arr (k + 2) p), ArrD.vec (α := AD (k + 1)) (arr (k + 2) q)]).pick (atL (PlainD.items (α := PD (k + 1)) p).length [(i : Int)]) (blankA k)).pick [(j : Int)] (blankA k)⟩ : ArrD (AD (k + 1)))) := ha86
      obtain ⟨s86, vc86, rfl, ⟨ad86, cap86, rfl, _⟩, hv86⟩ := id ha86
      obtain ⟨wv86, nv86, sm86, il86, fl86, ch86, bx86, ⟨rfl, hoc86⟩, _⟩ := hv86
      have hall86 : (Value.oneCell' (.slice ad86 (ArrD.shape (α := AD (k + 1)) ((⟨[], ((joinedW c' [ArrD.vec (α := AD (k + 1)) (arr (k + 2) p), ArrD.vec (α := AD (k + 1)) (arr (k + 2) q)]).pick (atL (PlainD.items (α := PD (k + 1)) p).length [(i : Int)]) (blankA k)).pick [(j : Int)] (blankA k)⟩ : ArrD (AD (k + 1))))).length cap86) && (vecCells (ArrD.vec (α := AD (k + 1)) ((⟨[], ((joinedW c' [ArrD.vec (α := AD (k + 1)) (arr (k + 2) p), ArrD.vec (α := AD (k + 1)) (arr (k + 2) q)]).pick (atL (PlainD.items (α := PD (k + 1)) p).length [(i : Int)]) (blankA k)).pick [(j : Int)] (blankA k)⟩ : ArrD (AD (k + 1))))).kind wv86 nv86 sm86 il86 fl86 ch86 bx86).all Value.oneCell') = true := by rw [hoc86]; rfl
      have hp' := PlainAt.mono (k + 2) _ _ _ _ hle86 hp'
      have hq' := PlainAt.mono (k + 2) _ _ _ _ hle86 hq'
      refine RW.nil ?_
      refine heldQ_normal ⟨_, _, 1, 2, hs, rfl, rfl⟩ ?_
      refine HW.takeR (fuel := 4) 8 rfl (fun _ _ ka kb _ hs hka hkb => Y.move rfl) ⟨_, _, 1, 2, hs, rfl, rfl⟩ rfl (by kernel_rfl) (by kernel_rfl) (by kernel_rfl) ?_
      refine HW.takeR (fuel := 3) 9 rfl (fun _ _ ka kb _ hs hka hkb => Y.extract rfl rfl) ⟨_, _, 1, 2, hs, rfl, rfl⟩ rfl (by kernel_rfl) (by kernel_rfl) (by kernel_rfl) ?_
      refine HW.takeR (fuel := 2) 10 rfl (fun _ _ ka kb _ hs hka hkb => Y.extract rfl rfl) ⟨_, _, 1, 2, hs, rfl, rfl⟩ rfl (by kernel_rfl) (by kernel_rfl) (by kernel_rfl) ?_
      refine HW.one (fuel := 1) 12 rfl (by kernel_rfl) ?_
      refine RW.storeAll T hs 0 rfl rfl rfl rfl rfl rfl hall86 rfl ?_
      intro w21 hs
      refine RW.nil ?_
      refine heldQ_normal ⟨_, _, 1, 2, hs, rfl, rfl⟩ ?_
      refine HW.takeR (fuel := 0) 13 rfl (fun _ _ ka kb _ hs hka hkb => Y.assign rfl) ⟨_, _, 1, 2, hs, rfl, rfl⟩ rfl (by kernel_rfl) (by kernel_rfl) (by kernel_rfl) ?_
      refine HW.done (by kernel_rfl) ?_
      refine calmQ_normal ?_
      exact joinQ_meet (b13, _, h86) ⟨rfl, rfl, rfl, rfl, rfl, rfl, rfl, trivial⟩ ⟨ha86, hp', hq', hs.sub (.cons_cons _ (.cons _ (.refl _)))⟩
  rintro ⟨b13, cs13, h11⟩ w11 ⟨ha86, hp', hq', hs⟩
  dsimp only at ha86 hp' hq' hs ⊢
  obtain ⟨s86, vc86, rfl, ⟨ad86, cap86, rfl, _⟩, hv86⟩ := id ha86
  obtain ⟨wv86, nv86, sm86, il86, fl86, ch86, bx86, ⟨rfl, hoc86⟩, _⟩ := hv86
  have hall86 : (Value.oneCell' (.slice ad86 (ArrD.shape (α := AD (k + 1)) ((⟨[], ((joinedW c' [ArrD.vec (α := AD (k + 1)) (arr (k + 2) p), ArrD.vec (α := AD (k + 1)) (arr (k + 2) q)]).pick (atL (PlainD.items (α := PD (k + 1)) p).length [(i : Int)]) (blankA k)).pick [(j : Int)] (blankA k)⟩ : ArrD (AD (k + 1))))).length cap86) && (vecCells (ArrD.vec (α := AD (k + 1)) ((⟨[], ((joinedW c' [ArrD.vec (α := AD (k + 1)) (arr (k + 2) p), ArrD.vec (α := AD (k + 1)) (arr (k + 2) q)]).pick (atL (PlainD.items (α := PD (k + 1)) p).length [(i : Int)]) (blankA k)).pick [(j : Int)] (blankA k)⟩ : ArrD (AD (k + 1))))).kind wv86 nv86 sm86 il86 fl86 ch86 bx86).all Value.oneCell') = true := by rw [hoc86]; rfl
  refine Zerun ?_
  (refine RW.call T hs rfl rfl rfl (refTidyP_con (k + 2) 40 _ p _ _ hp' hcp) ?_; intro v h90 w90 hle90 hp90 hs)
  obtain ⟨cs90, rfl, hq90⟩ := hp90
  obtain ⟨s90, it90, rfl, ⟨ad90, cp90, rfl, _⟩, ⟨adI, cpI, xsI, rfl, hSI, hAI⟩⟩ := id hq90
  have hjt : j < (PlainD.items (α := PD (k + 1)) (tidy (k + 2) p)).length := by rw [BF.lp]; exact hj0
  obtain ⟨y, hy, hyl, hRy⟩ := hAI.elem j hjt
  rw [getElem_getD _ _ noItem hjt] at hRy
  obtain ⟨bx90, rfl, hbx90, hnx90⟩ := id hRy
  refine RW.val (Y.field1 T rfl rfl rfl rfl rfl rfl) rfl ?_
  refine Zerun ?_
  (refine RW.allocN T hs rfl rfl rfl rfl ?_; intro b92 w92 hs)
  refine RW.storeAll T hs 0 rfl rfl rfl rfl rfl rfl (List.all_eq_true.2 (ItemAt.one _ _ _ hRy)) rfl ?_
  intro w93 hs
  refine Zerun ?_
  refine CW.meet (fun _ : ItemD (PD (k + 1)) × Value × GHeap => [(4, .pointer (some ⟨b1, 0, none⟩)), (8, .bool false), (13, .pointer (some ⟨b13, 0, none⟩)), (14, .int .i64 0), (15, .pointer (some ⟨b92, 0, none⟩))]) (fun r w' => r.1 = (if j = i then (PlainD.items (α := PD (k + 1)) (tidy (k + 2) q)).getD 0 noItem else (PlainD.items (α := PD (k + 1)) (tidy (k + 2) p)).getD j noItem) ∧ ItemAt (PlainAt (k + 1)) r.2.2 [.int .i64 r.1.kind, .float .f64 r.1.num, .int .i32 r.1.char, r.2.1] r.1 ∧ ArrAt (k + 2) r.2.2 (.slice ad86 (ArrD.shape (α := AD (k + 1)) ((⟨[], ((joinedW c' [ArrD.vec (α := AD (k + 1)) (arr (k + 2) p), ArrD.vec (α := AD (k + 1)) (arr (k + 2) q)]).pick (atL (PlainD.items (α := PD (k + 1)) p).length [(i : Int)]) (blankA k)).pick [(j : Int)] (blankA k)⟩ : ArrD (AD (k + 1))))).length cap86 :: vecCells (ArrD.vec (α := AD (k + 1)) ((⟨[], ((joinedW c' [ArrD.vec (α := AD (k + 1)) (arr (k + 2) p), ArrD.vec (α := AD (k + 1)) (arr (k + 2) q)]).pick (atL (PlainD.items (α := PD (k + 1)) p).length [(i : Int)]) (blankA k)).pick [(j : Int)] (blankA k)⟩ : ArrD (AD (k + 1))))).kind wv86 nv86 sm86 il86 fl86 ch86 bx86) ((⟨[], ((joinedW c' [ArrD.vec (α := AD (k + 1)) (arr (k + 2) p), ArrD.vec (α := AD (k + 1)) (arr (k + 2) q)]).pick (atL (PlainD.items (α := PD (k + 1)) p).length [(i : Int)]) (blankA k)).pick [(j : Int)] (blankA k)⟩ : ArrD (AD (k + 1)))) ∧ Sees w h r.2.2 [⟨some ⟨b92, 0, none⟩, 1, 1, 83, 4, [.int .i64 r.1.kind, .float .f64 r.1.num, .int .i32 r.1.char, r.2.1]⟩, ⟨some ⟨b13, 0, none⟩, 1, 1, 63, 9, .slice ad86 (ArrD.shape (α := AD (k + 1)) ((⟨[], ((joinedW c' [ArrD.vec (α := AD (k + 1)) (arr (k + 2) p), ArrD.vec (α := AD (k + 1)) (arr (k + 2) q)]).pick (atL (PlainD.items (α := PD (k + 1)) p).length [(i : Int)]) (blankA k)).pick [(j : Int)] (blankA k)⟩ : ArrD (AD (k + 1))))).length cap86 :: vecCells (ArrD.vec (α := AD (k + 1)) ((⟨[], ((joinedW c' [ArrD.vec (α := AD (k + 1)) (arr (k + 2) p), ArrD.vec (α := AD (k + 1)) (arr (k + 2) q)]).pick (atL (PlainD.items (α := PD (k + 1)) p).length [(i : Int)]) (blankA k)).pick [(j : Int)] (blankA k)⟩ : ArrD (AD (k + 1))))).kind wv86 nv86 sm86 il86 fl86 ch86 bx86⟩, ⟨some ⟨b2, 0, none⟩, 1, 1, 50, 3, [.slice ad3 (PlainD.shape (α := PD (k + 1)) q).length cp3, .slice ad4 (PlainD.items (α := PD (k + 1)) q).length cp4, .int .i64 (PlainD.fill (α := PD (k + 1)) q)]⟩, ⟨some ⟨b1, 0, none⟩, 1, 1, 50, 3, [.slice ad (PlainD.shape (α := PD (k + 1)) p).length cp, .slice ad2 (PlainD.items (α := PD (k + 1)) p).length cp2, .int .i64 (PlainD.fill (α := PD (k + 1)) p)]⟩] w') ?_ ?_
  · by_cases e : j = i
    · refine CW.condY rfl (show (i : Int) = (j : Int) by omega) ?_
      refine Zerun ?_
      have hq' := PlainAt.mono (k + 2) _ _ _ _ hle90 hq'
      (refine RW.call T hs rfl rfl rfl (refTidyP_con (k + 2) 40 _ q _ _ hq' hcq) ?_; intro v h99 w99 hle99 hp99 hs)
      obtain ⟨cs99, rfl, hq99⟩ := hp99
      obtain ⟨s99, it99, rfl, ⟨ad99, cp99, rfl, _⟩, ⟨adJ, cpJ, xsJ, rfl, hSJ, hAJ⟩⟩ := id hq99
      have hj1 : 0 < (PlainD.items (α := PD (k + 1)) (tidy (k + 2) q)).length := by rw [BF.lq]; decide
      obtain ⟨y, hy9, hyl9, hRy9⟩ := hAJ.elem 0 hj1
      rw [getElem_getD _ _ noItem hj1] at hRy9
      obtain ⟨bx99, rfl, hbx99, hnx99⟩ := id hRy9
      refine RW.val (Y.field1 T rfl rfl rfl rfl rfl rfl) rfl ?_
      refine Zerun ?_
      refine RW.storeAll T hs 0 rfl rfl rfl rfl rfl rfl (List.all_eq_true.2 (ItemAt.one _ _ _ hRy9)) rfl ?_
      intro w100 hs
      refine Zerun ?_
      exact joinQ_meet ((PlainD.items (α := PD (k + 1)) (tidy (k + 2) q)).getD 0 noItem, bx99, h99) ⟨rfl, rfl, rfl, rfl, rfl, trivial⟩ ⟨by dsimp only; rw [if_pos e], hRy9, ArrAt.mono (k + 2) _ _ _ _ (hle90.trans hle99) ha86, hs⟩
    · refine CW.condN rfl (show ¬ (i : Int) = (j : Int) by omega) ?_
      refine Zerun ?_
      exact joinQ_meet ((PlainD.items (α := PD (k + 1)) (tidy (k + 2) p)).getD j noItem, bx90, h90) ⟨rfl, rfl, rfl, rfl, rfl, trivial⟩ ⟨by dsimp only; rw [if_neg e], hRy, ArrAt.mono (k + 2) _ _ _ _ hle90 ha86, hs⟩
  rintro ⟨x, bx, hh⟩ w94 ⟨hx, hix, ha86, hs⟩
  dsimp only at hx hix ha86 hs ⊢
  refine Zerun ?_
  have hox := ItemAt.one _ _ _ hix
  (refine RW.lit T hs (vs := [.agg [.int .i64 x.kind, .float .f64 x.num, .int .i32 x.char, bx].toArray]) (cs := [.int .i64 x.kind, .float .f64 x.num, .int .i32 x.char, bx]) rfl rfl rfl rfl (by simp [Value.cells]) rfl rfl rfl rfl rfl ?_; intro b106 w106 hs)
  obtain ⟨h107, hle107, hs, hS107⟩ := hs.freeze
  have hR107 : RowsAt 4 (ItemAt (PlainAt (k + 1)) h107) h107 (.slice (some ⟨b106, 0, none⟩) 1 1) [x] := RowsAt.single hS107 (ItemAt.mono (PlainAt.mono (k + 1)) _ _ _ _ hle107 hix)
  have hP : PlainAt (k + 2) h107 [.slice none 0 0, .slice (some ⟨b106, 0, none⟩) 1 1, .int .i64 (PlainD.fill (α := PD (k + 1)) p)] (⟨[], [x], PlainD.fill (α := PD (k + 1)) p⟩ : PlainD (PD (k + 1))) := ⟨_, _, rfl, IntsAt.nil _, hR107⟩
  refine Zerun ?_
  refine RW.val (Y.build T rfl rfl rfl rfl rfl rfl rfl) rfl ?_
  have htd : tdy (k + 2) (⟨[], [x], PlainD.fill (α := PD (k + 1)) p⟩ : PlainD (PD (k + 1))) := by
    intro x' hx'
    rw [List.mem_singleton.1 (show x' ∈ [x] from hx'), hx]
    split
    · exact BF.tq _ (mem_getD _ _ _ (by rw [BF.lq]; decide))
    · exact BF.tp _ (mem_getD _ _ _ (by rw [BF.lp]; exact hj0))
  (refine RW.call T hs rfl rfl rfl (shows23_con (k + 1) _ _ ((⟨[], ((joinedW c' [ArrD.vec (α := AD (k + 1)) (arr (k + 2) p), ArrD.vec (α := AD (k + 1)) (arr (k + 2) q)]).pick (atL (PlainD.items (α := PD (k + 1)) p).length [(i : Int)]) (blankA k)).pick [(j : Int)] (blankA k)⟩ : ArrD (AD (k + 1)))) (⟨[], [x], PlainD.fill (α := PD (k + 1)) p⟩ : PlainD (PD (k + 1))) _ _ (ArrAt.mono (k + 2) _ _ _ _ hle107 ha86) hP BF.F.g2 (BF.F.p2.trans (by rw [hx])) htd) ?_; intro v h110 w110 hle110 hp110 hs)
  subst hp110
  refine Zerun ?_
  (refine RW.call T hs rfl rfl rfl (awake23_con _ _) ?_; intro v h112 w112 hle112 hp112 hs)
  subst hp112
  refine Zerun ?_
  exact retQ_ret [_] h112 ⟨rfl, trivial⟩ hs.dropAll rfl
end Go.Proofs.Ythbfkhklihejiaa
