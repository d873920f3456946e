/-
  Own texts of the claim, merged: Ve, Io, LibY, Na, PlainL, Nb, Nc, Nd, PlainM, Ne, Nf, Ng, Wa, Wb, LibZ, PlainW, Ta, Tb, PlainX, Tc, PlainY, PlainZ, Td, Te, Tf, Ua, PlAa, PlAb, PlainV, PlAc, PlAd, Ud, Ue, Ip, Uf, Uh, Ui, Uj, Uk, Ul, Um, Wg, Wd, Wi, We, Wj, Ca, Cb, Cc, PlainP, PlainQ, PlBa, PlBb, PlBc, Cd, Ce, Ff, Cf. Lemmas of the proof; no statement is proved here.
-/
import Derived.Test.YtmojpbfkpggjhaaGreatDoorMc
import Derived.Laws.Externs
/-
  Contracts of the law's own functions of layer 27: good plain arrays, arrays shown, the example. No statement is proved here.
-/
namespace Go.Proofs.YtmojpbfkpggjhaaGreatDoor
open Go Go.RowKit
set_option linter.unusedVariables false
set_option linter.unusedSimpArgs false
set_option maxHeartbeats 4000000
attribute [local irreducible] CW RW QW SW HW ConM retM heldQ calmQ elemP thenQ blockQ loopQ joinQ retQ Yields Con Sl zF magR unitF truncF fwF wholeF tidySpec elemQ rankF leastN tidyW
set_option maxHeartbeats 4000000

theorem shows27_con (k : Nat) (cs cp : List Value) (a : AD (k + 1)) (p : PD (k + 1)) (w : World) (h : GHeap) (ha : ArrAt (k + 1) h cs a) (hp : PlainAt (k + 1) h cp p) (hg : good (k + 1) 40 a) (he : plain (k + 1) a = p) (ht : tdy (k + 1) p) : Con Tryz.prog 16 [.agg cs.toArray, .int .i64 0, .agg cp.toArray, .int .i64 0] w h (fun _ u => u = .bool true) := by
  have ha' := ha
  have hp' := hp
  obtain ⟨s, vc, rfl, ⟨ad, cap, rfl, _⟩, hv⟩ := ha
  obtain ⟨wv, nv, sm, il, fl, ch, bx, ⟨rfl, hoc⟩, _⟩ := hv
  obtain ⟨s2, it2, rfl, ⟨ad2, cp2, rfl, _⟩, ⟨ad3, cp3, xs3, rfl, _, _⟩⟩ := hp
  refine Con.of_body Tryz.func16 rfl Tryz.ntmps16 rfl rfl ?_
  intro hs
  refine Zrun ?_
  (refine RW.boxN hs rfl rfl ?_; intro b1 w1 hs)
  refine Zrun ?_
  (refine RW.boxN hs rfl rfl ?_; intro b2 w2 hs)
  refine Zerun ?_
  refine CW.regionO T hs ?_
  intro w5 hs
  refine HW.takeS (fuel := 8) 0 rfl (fun _ _ hs => Y.loadRowN T hs 1 rfl rfl rfl rfl rfl rfl rfl) hs rfl (by kernel_rfl) (by kernel_rfl) (by kernel_rfl) ?_
  refine HW.one (fuel := 7) 1 rfl (by kernel_rfl) ?_
  (refine RW.call T hs rfl rfl rfl (valueGood_con (k + 1) _ a _ _ ha') ?_; intro v h25 w25 hle25 hp25 hs)
  subst hp25
  rw [decB_of hg]
  have ha' := ArrAt.mono (k + 1) _ _ _ _ hle25 ha'
  have hp' := PlainAt.mono (k + 1) _ _ _ _ hle25 hp'
  refine RW.nil ?_
  refine heldQ_normal ⟨_, hs⟩ ?_
  refine HW.takeS (fuel := 6) 2 rfl (fun _ _ hs => Y.move rfl) hs rfl (by kernel_rfl) (by kernel_rfl) (by kernel_rfl) ?_
  refine HW.takeSY (fuel := 5) 3 rfl rfl rfl (fun _ _ hs => Y.loadRowN T hs 1 rfl rfl rfl rfl rfl rfl rfl) hs rfl (by kernel_rfl) (by kernel_rfl) (by kernel_rfl) ?_
  refine HW.takeSY (fuel := 4) 5 rfl rfl rfl (fun _ _ hs => Y.loadRowN T hs 0 rfl rfl rfl rfl rfl rfl rfl) hs rfl (by kernel_rfl) (by kernel_rfl) (by kernel_rfl) ?_
  refine HW.one (fuel := 3) 4 rfl (by kernel_rfl) ?_
  refine RW.guardYes rfl rfl ?_
  (refine RW.call T hs rfl rfl rfl (plainV_con (k + 1) _ a _ _ ha' (good_sml (k + 1) 40 a hg)) ?_; intro v h28 w28 hle28 hp28 hs)
  obtain ⟨cs28, rfl, hq28⟩ := hp28
  rw [he] at hq28
  have hp' := PlainAt.mono (k + 1) _ _ _ _ hle28 hp'
  refine RW.nil ?_
  refine heldQ_normal ⟨_, hs⟩ ?_
  refine HW.one (fuel := 2) 6 rfl (by kernel_rfl) ?_
  refine RW.guardYes rfl rfl ?_
  (refine RW.call T hs rfl rfl rfl (refSame_con (k + 1) _ _ p p _ _ hq28 hp' ht ht) ?_; intro v h30 w30 hle30 hp30 hs)
  subst hp30
  rw [eqB_of (show p = p from rfl)]
  have hp' := PlainAt.mono (k + 1) _ _ _ _ hle30 hp'
  refine RW.nil ?_
  refine heldQ_normal ⟨_, hs⟩ ?_
  refine HW.takeS (fuel := 1) 7 rfl (fun _ _ hs => Y.pickT rfl rfl) hs rfl (by kernel_rfl) (by kernel_rfl) (by kernel_rfl) ?_
  refine HW.takeS (fuel := 0) 8 rfl (fun _ _ hs => Y.assign rfl) hs rfl (by kernel_rfl) (by kernel_rfl) (by kernel_rfl) ?_
  refine HW.done (by kernel_rfl) ?_
  refine calmQ_normal ?_
  refine Zerun ?_
  exact retQ_ret [_] h30 ⟨rfl, trivial⟩ hs.dropAll rfl
theorem fine27_con (k : Nat) (cs : List Value) (p : PD (k + 1)) (w : World) (h : GHeap) (hp : PlainAt (k + 1) h cs p) : Con Tryz.prog 8 [.agg cs.toArray] w h (fun _ u => ∃ b, u = .bool b ∧ (b = true → chk (k + 1) 40 p = 0 ∧ (PlainD.shape (α := PD k) p).length ≤ 8 ∧ (PlainD.items (α := PD k) p).length ≤ 3000)) := by
  have hp' := hp
  obtain ⟨s, it, rfl, ⟨ad0, cp0, rfl, hS0⟩, ⟨ad, cp, xs, rfl, hS, _⟩⟩ := hp
  have hcap := hS0.caps
  refine Con.of_body Tryz.func8 rfl Tryz.ntmps8 rfl rfl ?_
  intro hs
  refine Zrun ?_
  (refine RW.boxN hs rfl rfl ?_; intro b1 w1 hs)
  refine Zerun ?_
  (refine RW.call T hs rfl rfl rfl (refCountB_con 3000 k _ p _ _ hp') ?_; intro v h2 w2 hle2 hp2 hs)
  obtain ⟨r, rfl, hr⟩ := hp2
  by_cases c1 : r ≤ 1500
  · by_cases c2 : (PlainD.shape (α := PD k) p).length ≤ 8
    · refine Zerun ?_
      (refine RW.call T hs rfl rfl rfl (refCheck_con (k + 1) _ p _ _ (PlainAt.mono (k + 1) _ _ _ _ hle2 hp')) ?_; intro v h3 w3 hle3 hp3 hs)
      subst hp3
      refine Zerun ?_
      refine retQ_ret [_] h3 ⟨rfl, trivial⟩ hs.dropAll ⟨_, rfl, fun e => ?_⟩
      have hc := of_decide_eq_true e
      have hh := hr hc (by omega)
      exact ⟨hc, c2, by omega⟩
    · refine Zerun ?_
      exact retQ_ret [_] h2 ⟨rfl, trivial⟩ hs.dropAll ⟨_, rfl, fun e => by cases e⟩
  · refine Zerun ?_
    exact retQ_ret [_] h2 ⟨rfl, trivial⟩ hs.dropAll ⟨_, rfl, fun e => by cases e⟩
theorem tidyW_of {x : Nat} (h : tidyF x) : tidyW x = x := by unfold tidyW; rw [tidySpec_of _ h]
theorem tidyL {l : List Nat} (h : ∀ u ∈ l, tidyF u) : l.map tidyW = l := by
  conv => rhs; rw [← List.map_id l]
  apply List.map_congr_left
  intro u hu
  exact tidyW_of (h u hu)
abbrev w27_1 : Nat := 4607182418800017408
theorem fwq_1 : fwF 1 = w27_1 := by unfold fwF; decide
theorem tw_1 : tidyF w27_1 := by rw [← fwq_1]; exact (fwF_spec 1 (by omega)).1
abbrev w27_2 : Nat := 4611686018427387904
theorem fwq_2 : fwF 2 = w27_2 := by unfold fwF; decide
theorem tw_2 : tidyF w27_2 := by rw [← fwq_2]; exact (fwF_spec 2 (by omega)).1
abbrev w27_3 : Nat := 4613937818241073152
theorem fwq_3 : fwF 3 = w27_3 := by unfold fwF; decide
theorem tw_3 : tidyF w27_3 := by rw [← fwq_3]; exact (fwF_spec 3 (by omega)).1
abbrev w27_10 : Nat := 4621819117588971520
theorem fwq_10 : fwF 10 = w27_10 := by unfold fwF; decide
theorem tw_10 : tidyF w27_10 := by rw [← fwq_10]; exact (fwF_spec 10 (by omega)).1
abbrev w27_24 : Nat := 4627448617123184640
theorem fwq_24 : fwF 24 = w27_24 := by unfold fwF; decide
theorem tw_24 : tidyF w27_24 := by rw [← fwq_24]; exact (fwF_spec 24 (by omega)).1
abbrev w27_60 : Nat := 4633641066610819072
theorem fwq_60 : fwF 60 = w27_60 := by unfold fwF; decide
theorem tw_60 : tidyF w27_60 := by rw [← fwq_60]; exact (fwF_spec 60 (by omega)).1
abbrev w27_1500 : Nat := 4654311885213007872
theorem fwq_1500 : fwF 1500 = w27_1500 := by unfold fwF; decide
theorem tw_1500 : tidyF w27_1500 := by rw [← fwq_1500]; exact (fwF_spec 1500 (by omega)).1
abbrev w27_123 : Nat := 4638355772470722560
theorem fwq_123 : fwF 123 = w27_123 := by unfold fwF; decide
theorem tw_123 : tidyF w27_123 := by rw [← fwq_123]; exact (fwF_spec 123 (by omega)).1
abbrev w27_5 : Nat := 4617315517961601024
theorem fwq_5 : fwF 5 = w27_5 := by unfold fwF; decide
theorem tw_5 : tidyF w27_5 := by rw [← fwq_5]; exact (fwF_spec 5 (by omega)).1
abbrev w27_6 : Nat := 4618441417868443648
theorem fwq_6 : fwF 6 = w27_6 := by unfold fwF; decide
theorem tw_6 : tidyF w27_6 := by rw [← fwq_6]; exact (fwF_spec 6 (by omega)).1
abbrev w27_7 : Nat := 4619567317775286272
theorem fwq_7 : fwF 7 = w27_7 := by unfold fwF; decide
theorem tw_7 : tidyF w27_7 := by rw [← fwq_7]; exact (fwF_spec 7 (by omega)).1
abbrev w27_0 : Nat := 0
theorem fwq_0 : fwF 0 = w27_0 := by unfold fwF; decide
theorem tw_0 : tidyF w27_0 := by rw [← fwq_0]; exact (fwF_spec 0 (by omega)).1
theorem t27_3 : ∀ u ∈ [w27_1, w27_2, w27_3], tidyF u := by
  intro u hu
  simp only [List.mem_cons, List.not_mem_nil, or_false] at hu
  rcases hu with rfl | rfl | rfl
  · exact tw_1
  · exact tw_2
  · exact tw_3
theorem t27_11 : ∀ u ∈ [w27_24, w27_60], tidyF u := by
  intro u hu
  simp only [List.mem_cons, List.not_mem_nil, or_false] at hu
  rcases hu with rfl | rfl
  · exact tw_24
  · exact tw_60
theorem t27_21 : ∀ u ∈ [w27_1, w27_0, w27_2], tidyF u := by
  intro u hu
  simp only [List.mem_cons, List.not_mem_nil, or_false] at hu
  rcases hu with rfl | rfl | rfl
  · exact tw_1
  · exact tw_0
  · exact tw_2
theorem t27_24 : ∀ u ∈ [w27_5, w27_6, w27_7], tidyF u := by
  intro u hu
  simp only [List.mem_cons, List.not_mem_nil, or_false] at hu
  rcases hu with rfl | rfl | rfl
  · exact tw_5
  · exact tw_6
  · exact tw_7
theorem t27_42 : ∀ u ∈ [w27_1, w27_0], tidyF u := by
  intro u hu
  simp only [List.mem_cons, List.not_mem_nil, or_false] at hu
  rcases hu with rfl | rfl
  · exact tw_1
  · exact tw_0
theorem t27_49 : ∀ u ∈ [w27_5, w27_7, w27_7], tidyF u := by
  intro u hu
  simp only [List.mem_cons, List.not_mem_nil, or_false] at hu
  rcases hu with rfl | rfl | rfl
  · exact tw_5
  · exact tw_7
  · exact tw_7
theorem numsA_pick' {α : Type} (N : List Nat) (at_ : List Int) (nb : α) (N' : List Nat) (h : at_.map (VecD.num (⟨leastN N, N, [], []⟩ : VecD α)) = N') : (⟨leastN N, N, [], []⟩ : VecD α).pick at_ nb = ⟨leastN N', N', [], []⟩ := by
  have hb := leastN_bounds N
  unfold VecD.pick
  rw [if_neg (by dsimp only; omega), if_neg (by dsimp only; omega), h]
theorem kind27 {α : Type} (zs : List Int) (N : List Nat) (he : zs.map fwF = N) (h : ∀ n ∈ zs, -9007199254740992 ≤ n ∧ n ≤ 9007199254740992) : (⟨leastN N, N, [], []⟩ : VecD α).kind = 1 ∨ (⟨leastN N, N, [], []⟩ : VecD α).kind = 2 ∨ (⟨leastN N, N, [], []⟩ : VecD α).kind = 3 := by
  subst he
  have hb := leastN_bounds (zs.map fwF)
  have h3 := fw_rank zs h
  dsimp only
  omega
theorem whole27 {α : Type} (zs : List Int) (N : List Nat) (he : zs.map fwF = N) (h : ∀ n ∈ zs, -9007199254740992 ≤ n ∧ n ≤ 9007199254740992) : (⟨leastN N, N, [], []⟩ : VecD α).nums.map (fun u => (wholeF u).1) = zs := by
  subst he
  show (zs.map fwF).map (fun u => (wholeF u).1) = zs
  rw [List.map_map]
  conv => rhs; rw [← List.map_id zs]
  apply List.map_congr_left
  intro u hu
  show (wholeF (fwF u)).1 = u
  rw [wholeF_fw u (h u hu)]
theorem in27b : ∀ n ∈ ([24, 60] : List Int), -9007199254740992 ≤ n ∧ n ≤ 9007199254740992 := by decide
theorem bas27 : ∀ n ∈ ([24, 60] : List Int), 1 ≤ n ∧ n ≤ 9007199254740992 := by decide
theorem in27c : ∀ n ∈ ([1, 0, 2] : List Int), -9007199254740992 ≤ n ∧ n ≤ 9007199254740992 := by decide
theorem cop27 : copiesRes [1, 0, 2] 3 99 = ([0, 2, 2], 0) := by decide
theorem wit27 : withSpec (axS [3]) ((axN [3] false : Nat) : Int) (([0, 2, 2] : List Int).length : Nat) = ([3], true) := by decide
theorem spl27 : splitSpec (axS [3]) ((axN [3] false : Nat) : Int) = (((1 : Nat) : Int), ((3 : Nat) : Int), ((1 : Nat) : Int), true) := by decide
theorem knz27 {α : Type} {N : List Nat} : (⟨leastN N, N, [], []⟩ : VecD α).kind ≠ 0 := by have := leastN_bounds N; dsimp only; omega
theorem one27 : (⟨leastN [w27_1500], [w27_1500], [], []⟩ : VecD (AD 1)).whole 0 = (1500, true) := by
  have hk := kind27 (α := AD 1) [1500] [w27_1500] (by rw [← fwq_1500]; rfl) (by decide)
  unfold VecD.whole
  rw [if_pos ⟨hk, by decide, by decide⟩]
  show ((wholeF w27_1500).1, true) = _
  rw [← fwq_1500, wholeF_fw 1500 (by omega)]
theorem pic27v : (⟨leastN [w27_5, w27_6, w27_7], [w27_5, w27_6, w27_7], [], []⟩ : VecD (AD 1)).pick (alongL 1 3 1 [0, 2, 2]) (blankA 0) = ⟨leastN [w27_5, w27_7, w27_7], [w27_5, w27_7, w27_7], [], []⟩ := by
  rw [show alongL 1 3 1 [0, 2, 2] = [0, 2, 2] by decide]
  exact numsA_pick' _ _ _ _ rfl
theorem pic27 : (⟨[3], (ArrD.vec (⟨[3], ⟨leastN [w27_5, w27_6, w27_7], [w27_5, w27_6, w27_7], [], []⟩⟩ : ArrD (AD 1))).pick (alongL 1 3 1 [0, 2, 2]) (blankA 0)⟩ : ArrD (AD 1)) = ⟨[3], ⟨leastN [w27_5, w27_7, w27_7], [w27_5, w27_7, w27_7], [], []⟩⟩ := congrArg (ArrD.mk [3]) pic27v
theorem new27 : newE [3] ((ArrD.vec (⟨[3], ⟨leastN [w27_5, w27_6, w27_7], [w27_5, w27_6, w27_7], [], []⟩⟩ : ArrD (AD 1))).pick (alongL 1 3 1 [0, 2, 2]) (blankA 0)) = 0 := by
  show newE [3] ((⟨leastN [w27_5, w27_6, w27_7], [w27_5, w27_6, w27_7], [], []⟩ : VecD (AD 1)).pick (alongL 1 3 1 [0, 2, 2]) (blankA 0)) = 0
  rw [pic27v]
  unfold newE
  rw [if_neg (by decide), if_neg knz27, if_neg (by decide)]
theorem x27 : ∀ i : Nat, i < 3 → (⟨leastN [w27_10], [w27_10], [], []⟩ : VecD (AD 1)).num (if (⟨leastN [w27_10], [w27_10], [], []⟩ : VecD (AD 1)).len = 1 then 0 else (i : Int)) = fwF 10 := by
  intro i _
  rw [if_pos (by show (1 : Nat) = 1; rfl), fwq_10]; rfl
theorem y27 : ∀ i : Nat, i < 3 → (⟨leastN [w27_1, w27_2, w27_3], [w27_1, w27_2, w27_3], [], []⟩ : VecD (AD 1)).num (if (⟨leastN [w27_1, w27_2, w27_3], [w27_1, w27_2, w27_3], [], []⟩ : VecD (AD 1)).len = 1 then 0 else (i : Int)) = fwF (([1, 2, 3] : List Int).getD i 0) := by
  intro i hi
  rw [if_neg (by show ¬ (3 : Nat) = 1; decide)]
  match i, hi with
  | 0, _ => exact fwq_1.symm
  | 1, _ => exact fwq_2.symm
  | 2, _ => exact fwq_3.symm
theorem s27 : ∀ i : Nat, i < 3 → ([0, 1, 12, 123] : List Int).getD (i + 1) 0 = ([0, 1, 12, 123] : List Int).getD i 0 * 10 + ([1, 2, 3] : List Int).getD i 0 ∧ (0 : Int) ≤ 10 ∧ (10 : Int) ≤ 9007199254740992 ∧ 0 ≤ ([1, 2, 3] : List Int).getD i 0 ∧ ([1, 2, 3] : List Int).getD i 0 ≤ 9007199254740992 ∧ ([0, 1, 12, 123] : List Int).getD i 0 * 10 ≤ 9007199254740992 := by
  intro i hi
  match i, hi with
  | 0, _ => decide
  | 1, _ => decide
  | 2, _ => decide
theorem r27 : ∀ i : Nat, i ≤ 3 → 0 ≤ ([0, 1, 12, 123] : List Int).getD i 0 ∧ ([0, 1, 12, 123] : List Int).getD i 0 ≤ 9007199254740992 := by
  intro i hi
  match i, hi with
  | 0, _ => decide
  | 1, _ => decide
  | 2, _ => decide
  | 3, _ => decide
theorem awake27_con (w : World) (h : GHeap) (hT : TzTab h) : Con Tryz.prog 9 [] w h (fun _ u => u = .bool true) := by
  refine Con.of_body Tryz.func9 rfl Tryz.ntmps9 rfl rfl ?_
  intro hs
  refine Zrun ?_
  (refine RW.call T hs rfl rfl rfl (refOne_con (α := PD 1) (R := PlainAt 1) w27_10 _ _ (tw_10).1) ?_; intro v h1 w1 hle1 hp1 hs)
  obtain ⟨cs1, rfl, hq1⟩ := hp1
  have hT := hT.mono hle1
  refine Zerun ?_
  (refine RW.call T hs rfl rfl rfl (of07_con 2 _ (numQ 1 w27_10) _ _ hq1 (numQ_chk 1 _ (tw_10).2.1)) ?_; intro v h2 w2 hle2 hp2 hs)
  obtain ⟨cs2, rfl, _, _, hn2⟩ := hp2
  rw [numQ_arr, tidyW_of (tw_10)] at hn2
  have hT := hT.mono hle2
  refine Zerun ?_
  (refine RW.lit T hs (vs := [.float .f64 4607182418800017408, .float .f64 4611686018427387904, .float .f64 4613937818241073152]) rfl rfl rfl rfl (by simp [Value.cells]) rfl rfl rfl rfl rfl ?_; intro b3 w3 hs)
  obtain ⟨h3, hle3, hs, hS3⟩ := hs.freeze
  have hF3 : FAt h3 (.slice (some ⟨b3, 0, none⟩) 3 3) [w27_1, w27_2, w27_3] := RowAt.of_sl hS3
  have hn2 := ArrAt.mono 2 _ _ _ _ hle3 hn2
  have hT := hT.mono hle3
  refine Zerun ?_
  (refine RW.call T hs rfl rfl rfl (refNums_con (R := PlainAt 1) (PlainAt.mono 1) _ _ _ _ hF3 (fun x hx => (t27_3 x hx).1) (by decide)) ?_; intro v h4 w4 hle4 hp4 hs)
  obtain ⟨cs4, rfl, hq4⟩ := hp4
  have hn2 := ArrAt.mono 2 _ _ _ _ hle4 hn2
  have hT := hT.mono hle4
  refine Zerun ?_
  (refine RW.call T hs rfl rfl rfl (of07_con 2 _ (numsP [w27_1, w27_2, w27_3] : PlainD (PD 1)) _ _ hq4 (numsP_chk 1 _ (fun x hx => (t27_3 x hx).2.1) (by decide))) ?_; intro v h5 w5 hle5 hp5 hs)
  obtain ⟨cs5, rfl, _, _, hn5⟩ := hp5
  rw [numsP_arr, tidyL (t27_3)] at hn5
  have hn2 := ArrAt.mono 2 _ _ _ _ hle5 hn2
  have hT := hT.mono hle5
  refine Zerun ?_
  (refine RW.call T hs rfl rfl rfl (baseDecode_con 1 _ _ (ArrD.mk [] ⟨leastN [w27_10], [w27_10], [], []⟩) (ArrD.mk [3] ⟨leastN [w27_1, w27_2, w27_3], [w27_1, w27_2, w27_3], [], []⟩) 3 (fun _ => 10) (fun i => ([1, 2, 3] : List Int).getD i 0) (fun i => ([0, 1, 12, 123] : List Int).getD i 0) _ _ hn2 hn5 (by decide) (by decide) (numV_cls _) (numV_cls _) (.inl rfl) rfl (by decide) x27 y27 rfl s27 r27) ?_; intro v h6 w6 hle6 hp6 hs)
  obtain ⟨cs6, rfl, hr6⟩ := hp6
  rw [show fwF (([0, 1, 12, 123] : List Int).getD 3 0) = w27_123 from fwq_123] at hr6
  have hT := hT.mono hle6
  have hA6 := hr6
  obtain ⟨_, vc6, rfl, ⟨ad6, cp6, rfl, _⟩, hv6⟩ := hr6
  obtain ⟨wv6, nv6, sm6, il6, fl6, ch6, bx6, ⟨rfl, hoc6⟩, -⟩ := hv6
  refine Zerun ?_
  (refine RW.allocN T hs rfl rfl rfl rfl ?_; intro b7 w7 hs)
  (refine RW.storeAll T hs 0 rfl rfl rfl rfl rfl rfl (by show (Value.oneCell' (.slice ad6 _ cp6) && (vecCells _ wv6 nv6 sm6 il6 fl6 ch6 bx6).all Value.oneCell') = true; rw [hoc6]; rfl) rfl ?_; intro w8 hs)
  refine Zerun ?_
  (refine RW.lit T hs (vs := [.float .f64 4627448617123184640, .float .f64 4633641066610819072]) rfl rfl rfl rfl (by simp [Value.cells]) rfl rfl rfl rfl rfl ?_; intro b11 w11 hs)
  obtain ⟨h11, hle11, hs, hS11⟩ := hs.freeze
  have hF11 : FAt h11 (.slice (some ⟨b11, 0, none⟩) 2 2) [w27_24, w27_60] := RowAt.of_sl hS11
  have hT := hT.mono hle11
  have hA6 := ArrAt.mono 2 _ _ _ _ hle11 hA6
  refine Zerun ?_
  (refine RW.call T hs rfl rfl rfl (refNums_con (R := PlainAt 1) (PlainAt.mono 1) _ _ _ _ hF11 (fun x hx => (t27_11 x hx).1) (by decide)) ?_; intro v h12 w12 hle12 hp12 hs)
  obtain ⟨cs12, rfl, hq12⟩ := hp12
  have hT := hT.mono hle12
  have hA6 := ArrAt.mono 2 _ _ _ _ hle12 hA6
  refine Zerun ?_
  (refine RW.call T hs rfl rfl rfl (of07_con 2 _ (numsP [w27_24, w27_60] : PlainD (PD 1)) _ _ hq12 (numsP_chk 1 _ (fun x hx => (t27_11 x hx).2.1) (by decide))) ?_; intro v h13 w13 hle13 hp13 hs)
  obtain ⟨cs13, rfl, _, _, hn13⟩ := hp13
  rw [numsP_arr, tidyL (t27_11)] at hn13
  have hT := hT.mono hle13
  have hA6 := ArrAt.mono 2 _ _ _ _ hle13 hA6
  refine Zerun ?_
  (refine RW.call T hs rfl rfl rfl (refOne_con (α := PD 1) (R := PlainAt 1) w27_1500 _ _ (tw_1500).1) ?_; intro v h14 w14 hle14 hp14 hs)
  obtain ⟨cs14, rfl, hq14⟩ := hp14
  have hT := hT.mono hle14
  have hA6 := ArrAt.mono 2 _ _ _ _ hle14 hA6
  have hn13 := ArrAt.mono 2 _ _ _ _ hle14 hn13
  refine Zerun ?_
  (refine RW.call T hs rfl rfl rfl (of07_con 2 _ (numQ 1 w27_1500) _ _ hq14 (numQ_chk 1 _ (tw_1500).2.1)) ?_; intro v h15 w15 hle15 hp15 hs)
  obtain ⟨cs15, rfl, _, _, hn15⟩ := hp15
  rw [numQ_arr, tidyW_of (tw_1500)] at hn15
  have hT := hT.mono hle15
  have hA6 := ArrAt.mono 2 _ _ _ _ hle15 hA6
  have hn13 := ArrAt.mono 2 _ _ _ _ hle15 hn13
  refine Zerun ?_
  (refine RW.call T hs rfl rfl rfl (baseEncode_con 1 _ _ (ArrD.mk [2] ⟨leastN [w27_24, w27_60], [w27_24, w27_60], [], []⟩) (ArrD.mk [] ⟨leastN [w27_1500], [w27_1500], [], []⟩) [24, 60] 1500 _ _ hn13 hn15 (by decide) (by decide) (kind27 [24, 60] _ (by rw [← fwq_24, ← fwq_60]; rfl) in27b) (whole27 [24, 60] _ (by rw [← fwq_24, ← fwq_60]; rfl) in27b) (by decide) rfl one27 (by omega) bas27) ?_; intro v h16 w16 hle16 hp16 hs)
  obtain ⟨cs16, rfl, hr16⟩ := hp16
  rw [show (encD [24, 60] 1500).1 = [1, 0] by decide, show ([1, 0] : List Int).map fwF = [w27_1, w27_0] by rw [← fwq_1, ← fwq_0]; rfl] at hr16
  have hT := hT.mono hle16
  have hA6 := ArrAt.mono 2 _ _ _ _ hle16 hA6
  have hA16 := hr16
  obtain ⟨_, vc16, rfl, ⟨ad16, cp16, rfl, _⟩, hv16⟩ := hr16
  obtain ⟨wv16, nv16, sm16, il16, fl16, ch16, bx16, ⟨rfl, hoc16⟩, -⟩ := hv16
  refine Zerun ?_
  (refine RW.allocN T hs rfl rfl rfl rfl ?_; intro b17 w17 hs)
  (refine RW.storeAll T hs 0 rfl rfl rfl rfl rfl rfl (by show (Value.oneCell' (.slice ad16 _ cp16) && (vecCells _ wv16 nv16 sm16 il16 fl16 ch16 bx16).all Value.oneCell') = true; rw [hoc16]; rfl) rfl ?_; intro w18 hs)
  refine Zerun ?_
  (refine RW.lit T hs (vs := [.float .f64 4607182418800017408, .float .f64 0, .float .f64 4611686018427387904]) rfl rfl rfl rfl (by simp [Value.cells]) rfl rfl rfl rfl rfl ?_; intro b21 w21 hs)
  obtain ⟨h21, hle21, hs, hS21⟩ := hs.freeze
  have hF21 : FAt h21 (.slice (some ⟨b21, 0, none⟩) 3 3) [w27_1, w27_0, w27_2] := RowAt.of_sl hS21
  have hT := hT.mono hle21
  have hA6 := ArrAt.mono 2 _ _ _ _ hle21 hA6
  have hA16 := ArrAt.mono 2 _ _ _ _ hle21 hA16
  refine Zerun ?_
  (refine RW.call T hs rfl rfl rfl (refNums_con (R := PlainAt 1) (PlainAt.mono 1) _ _ _ _ hF21 (fun x hx => (t27_21 x hx).1) (by decide)) ?_; intro v h22 w22 hle22 hp22 hs)
  obtain ⟨cs22, rfl, hq22⟩ := hp22
  have hT := hT.mono hle22
  have hA6 := ArrAt.mono 2 _ _ _ _ hle22 hA6
  have hA16 := ArrAt.mono 2 _ _ _ _ hle22 hA16
  refine Zerun ?_
  (refine RW.call T hs rfl rfl rfl (of07_con 2 _ (numsP [w27_1, w27_0, w27_2] : PlainD (PD 1)) _ _ hq22 (numsP_chk 1 _ (fun x hx => (t27_21 x hx).2.1) (by decide))) ?_; intro v h23 w23 hle23 hp23 hs)
  obtain ⟨cs23, rfl, _, _, hn23⟩ := hp23
  rw [numsP_arr, tidyL (t27_21)] at hn23
  have hT := hT.mono hle23
  have hA6 := ArrAt.mono 2 _ _ _ _ hle23 hA6
  have hA16 := ArrAt.mono 2 _ _ _ _ hle23 hA16
  refine Zerun ?_
  (refine RW.lit T hs (vs := [.float .f64 4617315517961601024, .float .f64 4618441417868443648, .float .f64 4619567317775286272]) rfl rfl rfl rfl (by simp [Value.cells]) rfl rfl rfl rfl rfl ?_; intro b24 w24 hs)
  obtain ⟨h24, hle24, hs, hS24⟩ := hs.freeze
  have hF24 : FAt h24 (.slice (some ⟨b24, 0, none⟩) 3 3) [w27_5, w27_6, w27_7] := RowAt.of_sl hS24
  have hT := hT.mono hle24
  have hA6 := ArrAt.mono 2 _ _ _ _ hle24 hA6
  have hA16 := ArrAt.mono 2 _ _ _ _ hle24 hA16
  have hn23 := ArrAt.mono 2 _ _ _ _ hle24 hn23
  refine Zerun ?_
  (refine RW.call T hs rfl rfl rfl (refNums_con (R := PlainAt 1) (PlainAt.mono 1) _ _ _ _ hF24 (fun x hx => (t27_24 x hx).1) (by decide)) ?_; intro v h25 w25 hle25 hp25 hs)
  obtain ⟨cs25, rfl, hq25⟩ := hp25
  have hT := hT.mono hle25
  have hA6 := ArrAt.mono 2 _ _ _ _ hle25 hA6
  have hA16 := ArrAt.mono 2 _ _ _ _ hle25 hA16
  have hn23 := ArrAt.mono 2 _ _ _ _ hle25 hn23
  refine Zerun ?_
  (refine RW.call T hs rfl rfl rfl (of07_con 2 _ (numsP [w27_5, w27_6, w27_7] : PlainD (PD 1)) _ _ hq25 (numsP_chk 1 _ (fun x hx => (t27_24 x hx).2.1) (by decide))) ?_; intro v h26 w26 hle26 hp26 hs)
  obtain ⟨cs26, rfl, _, _, hn26⟩ := hp26
  rw [numsP_arr, tidyL (t27_24)] at hn26
  have hT := hT.mono hle26
  have hA6 := ArrAt.mono 2 _ _ _ _ hle26 hA6
  have hA16 := ArrAt.mono 2 _ _ _ _ hle26 hA16
  have hn23 := ArrAt.mono 2 _ _ _ _ hle26 hn23
  refine Zerun ?_
  (refine RW.call T hs rfl rfl rfl (baseCopy_con 0 _ _ (ArrD.mk [3] ⟨leastN [w27_1, w27_0, w27_2], [w27_1, w27_0, w27_2], [], []⟩) (ArrD.mk [3] ⟨leastN [w27_5, w27_6, w27_7], [w27_5, w27_6, w27_7], [], []⟩) false [1, 0, 2] 1 3 1 [0, 2, 2] [3] 99 _ _ hT hn23 hn26 (by decide) (kind27 [1, 0, 2] _ (by rw [← fwq_1, ← fwq_0, ← fwq_2]; rfl) in27c) (whole27 [1, 0, 2] _ (by rw [← fwq_1, ← fwq_0, ← fwq_2]; rfl) in27c).symm in27c (by decide) (by decide) (by decide) (by decide) (by decide) (by decide) cop27 wit27 (by decide) spl27 (by decide) (by decide) (by decide) (by decide) (by decide) (by decide) knz27 new27) ?_; intro v h27 w27 hle27 hp27 hs)
  obtain ⟨cs27, rfl, hr27⟩ := hp27
  rw [pic27] at hr27
  have hT := hT.mono hle27
  have hA6 := ArrAt.mono 2 _ _ _ _ hle27 hA6
  have hA16 := ArrAt.mono 2 _ _ _ _ hle27 hA16
  have hA27 := hr27
  obtain ⟨_, vc27, rfl, ⟨ad27, cp27, rfl, _⟩, hv27⟩ := hr27
  obtain ⟨wv27, nv27, sm27, il27, fl27, ch27, bx27, ⟨rfl, hoc27⟩, -⟩ := hv27
  refine Zerun ?_
  (refine RW.allocN T hs rfl rfl rfl rfl ?_; intro b28 w28 hs)
  (refine RW.storeAll T hs 0 rfl rfl rfl rfl rfl rfl (by show (Value.oneCell' (.slice ad27 _ cp27) && (vecCells _ wv27 nv27 sm27 il27 fl27 ch27 bx27).all Value.oneCell') = true; rw [hoc27]; rfl) rfl ?_; intro w29 hs)
  refine Zerun ?_
  refine CW.regionO T hs ?_
  intro w99 hs
  refine HW.takeS (fuel := 18) 0 rfl (fun _ _ hs => Y.loadRowN T hs 2 rfl rfl rfl rfl rfl rfl rfl) hs rfl (by kernel_rfl) (by kernel_rfl) (by kernel_rfl) ?_
  refine HW.takeS (fuel := 17) 1 rfl (fun _ _ hs => Y.move rfl) hs rfl (by kernel_rfl) (by kernel_rfl) (by kernel_rfl) ?_
  refine HW.one (fuel := 16) 2 rfl (by kernel_rfl) ?_
  (refine RW.call T hs rfl rfl rfl (refOne_con (α := PD 1) (R := PlainAt 1) w27_123 _ _ tw_123.1) ?_; intro v h37 w37 hle37 hp37 hs)
  obtain ⟨cs37, rfl, hq37⟩ := hp37
  have hA6 := ArrAt.mono 2 _ _ _ _ hle37 hA6
  have hA16 := ArrAt.mono 2 _ _ _ _ hle37 hA16
  have hA27 := ArrAt.mono 2 _ _ _ _ hle37 hA27
  refine RW.nil ?_
  refine heldQ_normal ⟨_, hs⟩ ?_
  refine HW.one (fuel := 15) 3 rfl (by kernel_rfl) ?_
  (refine RW.call T hs rfl rfl rfl (shows27_con 1 _ _ (numA 1 w27_123) (numQ 1 w27_123) _ _ hA6 hq37 (numA_good 1 _ 40 (by omega)) (numA_plain 1 _) (numQ_tdy 1 _ tw_123)) ?_; intro v h38 w38 hle38 hp38 hs)
  subst hp38
  have hA16 := ArrAt.mono 2 _ _ _ _ hle38 hA16
  have hA27 := ArrAt.mono 2 _ _ _ _ hle38 hA27
  refine RW.nil ?_
  refine heldQ_normal ⟨_, hs⟩ ?_
  refine HW.takeS (fuel := 14) 4 rfl (fun _ _ hs => Y.move rfl) hs rfl (by kernel_rfl) (by kernel_rfl) (by kernel_rfl) ?_
  refine HW.takeSY (fuel := 13) 5 rfl rfl rfl (fun _ _ hs => Y.loadRowN T hs 1 rfl rfl rfl rfl rfl rfl rfl) hs rfl (by kernel_rfl) (by kernel_rfl) (by kernel_rfl) ?_
  refine HW.takeSY (fuel := 12) 6 rfl rfl rfl (fun _ _ hs => Y.move rfl) hs rfl (by kernel_rfl) (by kernel_rfl) (by kernel_rfl) ?_
  refine HW.one (fuel := 11) 7 rfl (by kernel_rfl) ?_
  refine RW.guardYes rfl rfl ?_
  (refine RW.lit T hs (vs := [.float .f64 4607182418800017408, .float .f64 0]) rfl rfl rfl rfl (by simp [Value.cells]) rfl rfl rfl rfl rfl ?_; intro b42 w42 hs)
  obtain ⟨h42, hle42, hs, hS42⟩ := hs.freeze
  have hF42 : FAt h42 (.slice (some ⟨b42, 0, none⟩) 2 2) [w27_1, w27_0] := RowAt.of_sl hS42
  have hA16 := ArrAt.mono 2 _ _ _ _ hle42 hA16
  have hA27 := ArrAt.mono 2 _ _ _ _ hle42 hA27
  refine RW.nil ?_
  refine heldQ_normal ⟨_, hs⟩ ?_
  refine HW.one (fuel := 10) 8 rfl (by kernel_rfl) ?_
  refine RW.guardYes rfl rfl ?_
  (refine RW.call T hs rfl rfl rfl (refNums_con (R := PlainAt 1) (PlainAt.mono 1) _ _ _ _ hF42 (fun x hx => (t27_42 x hx).1) (by decide)) ?_; intro v h43 w43 hle43 hp43 hs)
  obtain ⟨cs43, rfl, hq43⟩ := hp43
  have hA16 := ArrAt.mono 2 _ _ _ _ hle43 hA16
  have hA27 := ArrAt.mono 2 _ _ _ _ hle43 hA27
  refine RW.nil ?_
  refine heldQ_normal ⟨_, hs⟩ ?_
  refine HW.one (fuel := 9) 9 rfl (by kernel_rfl) ?_
  refine RW.guardYes rfl rfl ?_
  (refine RW.call T hs rfl rfl rfl (shows27_con 1 _ _ (numsA 1 [w27_1, w27_0]) ((numsP [w27_1, w27_0] : PlainD (PD 1))) _ _ hA16 hq43 (numsA_good 1 _ 40 (by omega) (by decide)) (numsA_plain 1 _) (numsP_tdy 1 _ t27_42)) ?_; intro v h44 w44 hle44 hp44 hs)
  subst hp44
  have hA27 := ArrAt.mono 2 _ _ _ _ hle44 hA27
  refine RW.nil ?_
  refine heldQ_normal ⟨_, hs⟩ ?_
  refine HW.takeS (fuel := 8) 10 rfl (fun _ _ hs => Y.pickT rfl rfl) hs rfl (by kernel_rfl) (by kernel_rfl) (by kernel_rfl) ?_
  refine HW.takeS (fuel := 7) 11 rfl (fun _ _ hs => Y.move rfl) hs rfl (by kernel_rfl) (by kernel_rfl) (by kernel_rfl) ?_
  refine HW.takeSY (fuel := 6) 12 rfl rfl rfl (fun _ _ hs => Y.loadRowN T hs 0 rfl rfl rfl rfl rfl rfl rfl) hs rfl (by kernel_rfl) (by kernel_rfl) (by kernel_rfl) ?_
  refine HW.takeSY (fuel := 5) 13 rfl rfl rfl (fun _ _ hs => Y.move rfl) hs rfl (by kernel_rfl) (by kernel_rfl) (by kernel_rfl) ?_
  refine HW.one (fuel := 4) 14 rfl (by kernel_rfl) ?_
  refine RW.guardYes rfl rfl ?_
  (refine RW.lit T hs (vs := [.float .f64 4617315517961601024, .float .f64 4619567317775286272, .float .f64 4619567317775286272]) rfl rfl rfl rfl (by simp [Value.cells]) rfl rfl rfl rfl rfl ?_; intro b49 w49 hs)
  obtain ⟨h49, hle49, hs, hS49⟩ := hs.freeze
  have hF49 : FAt h49 (.slice (some ⟨b49, 0, none⟩) 3 3) [w27_5, w27_7, w27_7] := RowAt.of_sl hS49
  have hA27 := ArrAt.mono 2 _ _ _ _ hle49 hA27
  refine RW.nil ?_
  refine heldQ_normal ⟨_, hs⟩ ?_
  refine HW.one (fuel := 3) 15 rfl (by kernel_rfl) ?_
  refine RW.guardYes rfl rfl ?_
  (refine RW.call T hs rfl rfl rfl (refNums_con (R := PlainAt 1) (PlainAt.mono 1) _ _ _ _ hF49 (fun x hx => (t27_49 x hx).1) (by decide)) ?_; intro v h50 w50 hle50 hp50 hs)
  obtain ⟨cs50, rfl, hq50⟩ := hp50
  have hA27 := ArrAt.mono 2 _ _ _ _ hle50 hA27
  refine RW.nil ?_
  refine heldQ_normal ⟨_, hs⟩ ?_
  refine HW.one (fuel := 2) 16 rfl (by kernel_rfl) ?_
  refine RW.guardYes rfl rfl ?_
  (refine RW.call T hs rfl rfl rfl (shows27_con 1 _ _ (numsA 1 [w27_5, w27_7, w27_7]) ((numsP [w27_5, w27_7, w27_7] : PlainD (PD 1))) _ _ hA27 hq50 (numsA_good 1 _ 40 (by omega) (by decide)) (numsA_plain 1 _) (numsP_tdy 1 _ t27_49)) ?_; intro v h51 w51 hle51 hp51 hs)
  subst hp51
  refine RW.nil ?_
  refine heldQ_normal ⟨_, hs⟩ ?_
  refine HW.takeS (fuel := 1) 17 rfl (fun _ _ hs => Y.pickT rfl rfl) hs rfl (by kernel_rfl) (by kernel_rfl) (by kernel_rfl) ?_
  refine HW.takeS (fuel := 0) 18 rfl (fun _ _ hs => Y.assign rfl) hs rfl (by kernel_rfl) (by kernel_rfl) (by kernel_rfl) ?_
  refine HW.done (by kernel_rfl) ?_
  refine calmQ_normal ?_
  refine Zerun ?_
  exact retQ_ret [_] h51 ⟨rfl, trivial⟩ hs.dropAll rfl
end Go.Proofs.YtmojpbfkpggjhaaGreatDoor

/-
  Contracts of functions of package value: whether arrays, and elements, are alike. No statement is proved here.
-/
namespace Go.Proofs.YtmojpbfkpggjhaaGreatDoor
open Go Go.RowKit
set_option linter.unusedVariables false
set_option linter.unusedSimpArgs false
set_option maxHeartbeats 4000000
attribute [local irreducible] CW RW QW SW HW ConM retM heldQ calmQ elemP thenQ blockQ loopQ joinQ retQ Yields Con Sl zF magR unitF truncF fwF wholeF tidySpec elemQ rankF leastN tidyW

section
variable {α β : Type} {R : GHeap → List Value → α → Prop}
end
end Go.Proofs.YtmojpbfkpggjhaaGreatDoor

/-
  The program logic, nineteenth part: frozen rows of whole structs, products of words, functions that the model stands in for. No statement is proved here.
-/
namespace Go.Proofs.YtmojpbfkpggjhaaGreatDoor
open Go Go.RowKit
set_option linter.unusedVariables false
set_option linter.unusedSimpArgs false
set_option linter.unusedVariables false
section
variable {P : Program} (T : Tab P) {n : Nat} {Q : Post} {L : Env} {w0 w : World} {h0 h : GHeap} {O : List Row} {ops rest : List Oper} {x y : Operand} {t : TypeId}
variable {d : Option Tmp} {ty yt : TypeId} {pos : String} {aft : Array Edge}
/-- a cell of a frozen row -/
theorem Sl.cellAt (hs : Sees w0 h0 h O w) {b sz m cp o : Nat} {xs : List Value} {v : Value} (hS : Sl h sz (some ⟨b, 0, none⟩) m cp xs) (ho : o < m * sz) (hv : xs[o]? = some v) : w.cell? ⟨b, o, none⟩ = some v := by
  obtain ⟨cs, h1, h2⟩ := (hS.2.2.2.2 _ rfl).2 o ho
  refine hs.cell h1 ?_
  rw [Nat.zero_add] at h2
  rw [h2, hv]
/-- a whole number, as a word -/
def wrN (z : Int) : Nat := (z % 18446744073709551616).toNat
theorem wrap_wrN (z : Int) : IntKind.u64.wrap z = (wrN z : Int) := by
  unfold wrN
  have e : IntKind.u64.wrap z = z % 18446744073709551616 := by
    simp [IntKind.wrap, IntKind.signed, IntKind.bits]
  rw [e]; omega
def wr32 (z : Int) : Nat := (z % 4294967296).toNat
theorem Y.addU {u v : Nat} (hx : opv L x = some (.int .u64 (u : Int))) (hy : opv L y = some (.int .u64 (v : Int))) (hb : u + v < 18446744073709551616) : Yields P n L w (.binOp .add t x y yt) ty (.int .u64 ((u + v : Nat) : Int)) := by
  have := Y.add' (P := P) (n := n) (w := w) (ty := ty) (t := t) (yt := yt) hx hy
  have e : IntKind.u64.wrap ((u : Int) + (v : Int)) = ((u + v : Nat) : Int) := by
    rw [wrap_wrN]; unfold wrN; omega
  rwa [e] at this
/-- a call of a function that the model stands in for -/
theorem Y.stood {f : FuncId} {fn : Func} {e : Array Value → Sem Value} (hf : P.funcs[f]? = some fn) (hname : (fn.name == "runtime.NumGoroutine") = false) (hb : fn.body.isNone = true) (hn : Extern.findNext fn = none) (he : Extern.find fn = some e)
    {u v : Value} (hx : opv L x = some u) (hr : (e #[u]).run P w = .ok v w) {ats : Array TypeId} : Yields P n L w (.call ⟨.value (.func f), #[x], ats⟩) ty v := by
  intro a ha d pos aft g
  have h1 := run_callFunc_extern hf hname hb hn he #[u] w
  rw [hr] at h1
  have h2 : #[x].map a.eval = #[u] := by simp [ha.eval hx]
  have hcl : a.eval (.func f) = .func (.func f) #[] #[] := rfl
  simp [execOp, resolve, Deferred.ofValue, hcl, invoke, ha.eval hx, h1]
end
/-! ## Regions that draw their order and change memory: two of the call's own rows fixed, and what lies frozen -/
section
variable {P : Program} {n : Nat} {Q : Post} {L : Env} {w0 w : World} {h0 h hb : GHeap} {O : List Row} {ops rest : List Oper} {ra rb : Row}
variable {d : Option Tmp} {ty : TypeId} {pos : String} {aft : Array Edge} {fuel : Nat} {listed : Array Bool}
def SG (w0 : World) (h0 hb : GHeap) (ra rb : Row) (w : World) : Prop := ∃ (h' : GHeap) (O : List Row) (k j : Nat), GLe hb h' ∧ Sees w0 h0 h' O w ∧ O[k]? = some ra ∧ O[j]? = some rb
theorem CW.regionG (T' : Tab P) (k j : Nat) (hs : Sees w0 h0 h O w) (ha : O[k]? = some ra) (hb' : O[j]? = some rb) {id : Nat} {l : List Oper} (K : ∀ w', Sees w0 h0 h O w' → HW P n l (calmQ Q) (SG w0 h0 h ra rb) l.length (Array.replicate l.length false) L w') : CW P n Q (.region id l.toArray true) L w :=
  CW.regionH T' (SG w0 h0 h ra rb) (fun w' e => by subst e; exact K _ hs.drew)
theorem HW.takeG (i : Nat) {op : Op} {v : Value} (hi : ops.toArray[i]? = some ⟨d, op, ty, pos, aft, none⟩) (hy : ∀ (h' : GHeap) (O : List Row) (ka kb : Nat) (w' : World), GLe hb h' → Sees w0 h0 h' O w' → O[ka]? = some ra → O[kb]? = some rb → Yields P n L w' op ty v) (hS : SG w0 h0 hb ra rb w) (hd : dstOk n d = true)
    (hs : Region.noSelect ops.toArray = true) (hf : Region.free .any ops.toArray listed i = true) (hr : (Region.ready .any ops.toArray listed).contains i = true)
    (hh : HW P n ops (calmQ Q) (SG w0 h0 hb ra rb) fuel (listed.setIfInBounds i true) (updo d v L) w) : HW P n ops (calmQ Q) (SG w0 h0 hb ra rb) (fuel + 1) listed L w :=
  HW.take i hi (fun w' ⟨h', O, k, j, g, s, a, b⟩ => hy h' O k j w' g s a b) hS hd hs hf hr hh
end
end Go.Proofs.YtmojpbfkpggjhaaGreatDoor

/-
  Contracts of functions of package hash: the keys of elements and of whole arrays. No statement is proved here.
-/
namespace Go.Proofs.YtmojpbfkpggjhaaGreatDoor
open Go Go.RowKit
set_option linter.unusedVariables false
set_option linter.unusedSimpArgs false
set_option maxHeartbeats 4000000
attribute [local irreducible] CW RW QW SW HW ConM retM heldQ calmQ elemP thenQ blockQ loopQ joinQ retQ Yields Con Sl zF magR unitF truncF fwF wholeF tidySpec elemQ rankF leastN tidyW
set_option maxHeartbeats 1000000

def mixN (a b : Nat) : Nat := ((a ^^^ b) * 11400714819323198485 % 18446744073709551616) ^^^ (((a ^^^ b) * 11400714819323198485 % 18446744073709551616) >>> 29)
/-- the key of an item, of a plain array -/
def keyIt {β : Type} (G : β → Nat) (x : ItemD β) : Nat := if x.kind = 1 then mixN 1 (wr32 x.char) else if x.kind = 2 then (x.box.map G).headD 0 else mixN 2 x.num
def keyPl {β : Type} (G : β → Nat) (p : PlainD β) : Nat := p.items.foldl (fun k x => mixN k (keyIt G x)) (p.shape.foldl (fun k d => mixN k (wrN d)) (mixN 3 (wrN p.fill)))
def keyP : (k : Nat) → PD k → Nat
  | 0 => fun _ => 0
  | k + 1 => fun p => keyPl (β := PD k) (keyP k) p
attribute [local irreducible] mixN wrN wr32 keyIt

section
variable {α β : Type} {R : GHeap → List Value → α → Prop}
end
end Go.Proofs.YtmojpbfkpggjhaaGreatDoor

/-
  Plain Lean on hash tables: where an element is first in a list, and slots that are looked through in turn. No statement is proved here.
-/
namespace Go.Proofs.YtmojpbfkpggjhaaGreatDoor
open Go Go.RowKit
set_option linter.unusedVariables false
set_option linter.unusedSimpArgs false

section
variable {γ : Type}
/-- slots: below 0 they are free, the others hold numbers of elements; those of S are in it, each once -/
structure TabOk (key : γ → Nat) (el : Nat → γ) (S : Nat → Prop) (c : Nat) (sl : List Int) : Prop where
  rng : ∀ p, p < sl.length → sl.getD p 0 = -1 ∨ ∃ i : Nat, S i ∧ sl.getD p 0 = (i : Int)
  at_ : ∀ i, S i → ∃ d, sl.getD ((key (el i) + d) % sl.length) 0 = (i : Int) ∧ ∀ e, e < d → 0 ≤ sl.getD ((key (el i) + e) % sl.length) 0
  one : ∀ i j, S i → S j → el i = el j → i = j
  cnt : sl.countP (fun z => decide (0 ≤ z)) ≤ c
/-- so many slots were looked at, and none has the element -/
def Probed (key : γ → Nat) (el : Nat → γ) (sl : List Int) (x : γ) (d : Nat) : Prop := ∀ e, e < d → ∃ i : Nat, sl.getD ((key x + e) % sl.length) 0 = (i : Int) ∧ el i ≠ x
variable {key : γ → Nat} {el : Nat → γ} {S : Nat → Prop} {c : Nat} {sl : List Int} {x : γ} {d : Nat}
theorem TabOk.miss (ok : TabOk key el S c sl) (hp : Probed key el sl x d) (hs : sl.getD ((key x + d) % sl.length) 0 < 0) : ∀ j, S j → el j ≠ x := by
  intro j hj e
  obtain ⟨dj, h1, h2⟩ := ok.at_ j hj
  rw [e] at h1 h2
  rcases Nat.lt_trichotomy d dj with h | h | h
  · have := h2 d h; omega
  · rw [h] at hs; omega
  · obtain ⟨i, h3, h4⟩ := hp dj h
    rw [h1] at h3
    have : j = i := by omega
    exact h4 (this ▸ e)
theorem countP_set_neg : ∀ (l : List Int) (p : Nat) (v : Int), p < l.length → l.getD p 0 < 0 → 0 ≤ v → (l.set p v).countP (fun z => decide (0 ≤ z)) = l.countP (fun z => decide (0 ≤ z)) + 1
  | [], _, _, h, _, _ => absurd h (Nat.not_lt_zero _)
  | a :: l, 0, v, _, hn, hv => by
    have hn : a < 0 := by simpa using hn
    simp only [List.set_cons_zero, List.countP_cons]
    rw [decide_eq_true hv, decide_eq_false (show ¬ 0 ≤ a by omega)]
    simp
  | a :: l, p + 1, v, h, hn, hv => by
    have := countP_set_neg l p v (by simpa using h) (by simpa using hn) hv
    simp only [List.set_cons_succ, List.countP_cons, this]
    omega
theorem getD_setI (l : List Int) (k j : Nat) (v d : Int) (h : k < l.length) : (l.set k v).getD j d = if j = k then v else l.getD j d := by
  simp only [List.getD_eq_getElem?_getD, List.getElem?_set]
  by_cases e : k = j
  · subst e; simp [h]
  · simp [e, Ne.symm e]
theorem TabOk.put (ok : TabOk key el S c sl) {k : Nat} (hp : Probed key el sl (el k) d) (hs : sl.getD ((key (el k) + d) % sl.length) 0 < 0) (hl : 0 < sl.length) :
    TabOk key el (fun i => S i ∨ i = k) (c + 1) (sl.set ((key (el k) + d) % sl.length) (k : Int)) := by
  have hpl := Nat.mod_lt (key (el k) + d) hl
  have hmiss := ok.miss hp hs
  refine ⟨?_, ?_, ?_, ?_⟩
  · intro p hpp
    rw [List.length_set] at hpp
    rw [getD_setI _ _ _ _ _ hpl]
    split
    · exact .inr ⟨k, .inr rfl, rfl⟩
    · rcases ok.rng p hpp with h | ⟨i, h1, h2⟩
      · exact .inl h
      · exact .inr ⟨i, .inl h1, h2⟩
  · intro i hi
    simp only [List.length_set]
    by_cases hik : i = k
    · subst hik
      refine ⟨d, ?_, ?_⟩
      · rw [getD_setI _ _ _ _ _ hpl, if_pos rfl]
      · intro e he
        rw [getD_setI _ _ _ _ _ hpl]
        split
        · omega
        · obtain ⟨i, h1, _⟩ := hp e he; omega
    · have hi' : S i := hi.resolve_right hik
      obtain ⟨di, h1, h2⟩ := ok.at_ i hi'
      refine ⟨di, ?_, ?_⟩
      · rw [getD_setI _ _ _ _ _ hpl, if_neg]
        · exact h1
        · intro e; rw [e] at h1; omega
      · intro e he
        rw [getD_setI _ _ _ _ _ hpl]
        split
        · omega
        · exact h2 e he
  · intro i j hi hj e
    rcases hi with hi | rfl <;> rcases hj with hj | rfl
    · exact ok.one i j hi hj e
    · exact absurd e (hmiss i hi)
    · exact absurd e.symm (hmiss j hj)
    · rfl
  · rw [countP_set_neg _ _ _ hpl hs (by omega)]
    have := ok.cnt
    omega
end
end Go.Proofs.YtmojpbfkpggjhaaGreatDoor

/-
  Contracts of functions of package hash: a new table. No statement is proved here.
-/
namespace Go.Proofs.YtmojpbfkpggjhaaGreatDoor
open Go Go.RowKit
set_option linter.unusedVariables false
set_option linter.unusedSimpArgs false
set_option maxHeartbeats 4000000
attribute [local irreducible] CW RW QW SW HW ConM retM heldQ calmQ elemP thenQ blockQ loopQ joinQ retQ Yields Con Sl zF magR unitF truncF fwF wholeF tidySpec elemQ rankF leastN tidyW
set_option maxHeartbeats 1000000

section
variable {α : Type} {R : GHeap → List Value → α → Prop}
end
end Go.Proofs.YtmojpbfkpggjhaaGreatDoor

/-
  Contracts of methods of hash.Table: the slot of an element. No statement is proved here.
-/
namespace Go.Proofs.YtmojpbfkpggjhaaGreatDoor
open Go Go.RowKit
set_option linter.unusedVariables false
set_option linter.unusedSimpArgs false
set_option maxHeartbeats 4000000
attribute [local irreducible] CW RW QW SW HW ConM retM heldQ calmQ elemP thenQ blockQ loopQ joinQ retQ Yields Con Sl zF magR unitF truncF fwF wholeF tidySpec elemQ rankF leastN tidyW
set_option maxHeartbeats 1000000
attribute [local irreducible] mixN wrN wr32 keyIt keyP

section
variable {P : Program} {n : Nat} {ops rest : List Oper} {C : World → Prop} {K : Env → Prop} {L : Env} {d : Option Tmp} {ty : TypeId} {pos : String} {aft : Array Edge} {g : Option (Nat × Bool)}
end
end Go.Proofs.YtmojpbfkpggjhaaGreatDoor

/-
  Contracts of functions of package hash: whether, and where, an element is in a table; the table of a list. No statement is proved here.
-/
namespace Go.Proofs.YtmojpbfkpggjhaaGreatDoor
open Go Go.RowKit
set_option linter.unusedVariables false
set_option linter.unusedSimpArgs false
set_option maxHeartbeats 4000000
attribute [local irreducible] CW RW QW SW HW ConM retM heldQ calmQ elemP thenQ blockQ loopQ joinQ retQ Yields Con Sl zF magR unitF truncF fwF wholeF tidySpec elemQ rankF leastN tidyW
set_option maxHeartbeats 1000000
attribute [local irreducible] mixN wrN wr32 keyIt keyP

end Go.Proofs.YtmojpbfkpggjhaaGreatDoor

/-
  Plain Lean on lists: places of elements that something holds of, and of the first ones. No statement is proved here.
-/
namespace Go.Proofs.YtmojpbfkpggjhaaGreatDoor
open Go Go.RowKit
set_option linter.unusedVariables false
set_option linter.unusedSimpArgs false

section
variable {γ : Type}
end
end Go.Proofs.YtmojpbfkpggjhaaGreatDoor

/-
  Contracts of functions of package hash: where elements are in a list first, whether they are there. No statement is proved here.
-/
namespace Go.Proofs.YtmojpbfkpggjhaaGreatDoor
open Go Go.RowKit
set_option linter.unusedVariables false
set_option linter.unusedSimpArgs false
set_option maxHeartbeats 4000000
attribute [local irreducible] CW RW QW SW HW ConM retM heldQ calmQ elemP thenQ blockQ loopQ joinQ retQ Yields Con Sl zF magR unitF truncF fwF wholeF tidySpec elemQ rankF leastN tidyW
set_option maxHeartbeats 1000000
attribute [local irreducible] mixN wrN wr32 keyIt keyP

theorem fillA {δ : Type} {A : List δ} {i n : Nat} (hA : A.length = i) (h : i < n) (b z : δ) : (A ++ List.replicate (n - i) b).set i z = (A ++ [z]) ++ List.replicate (n - (i + 1)) b := by
  obtain ⟨r, hr⟩ : ∃ r, n - i = r + 1 := ⟨n - i - 1, by omega⟩
  have e : n - (i + 1) = r := by omega
  rw [hr, e, List.replicate_succ, List.set_append_right _ _ (by omega), ← hA]
  simp
end Go.Proofs.YtmojpbfkpggjhaaGreatDoor

/-
  Contracts of functions of package hash: the first ones of a list, those that are in another list, or not. No statement is proved here.
-/
namespace Go.Proofs.YtmojpbfkpggjhaaGreatDoor
open Go Go.RowKit
set_option linter.unusedVariables false
set_option linter.unusedSimpArgs false
set_option maxHeartbeats 4000000
attribute [local irreducible] CW RW QW SW HW ConM retM heldQ calmQ elemP thenQ blockQ loopQ joinQ retQ Yields Con Sl zF magR unitF truncF fwF wholeF tidySpec elemQ rankF leastN tidyW
set_option maxHeartbeats 1000000
attribute [local irreducible] mixN wrN wr32 keyIt keyP

end Go.Proofs.YtmojpbfkpggjhaaGreatDoor

/-
  Contracts of the document's answer of layer 19 and of the law's own functions: where items are first, lists shown. No statement is proved here.
-/
namespace Go.Proofs.YtmojpbfkpggjhaaGreatDoor
open Go Go.RowKit
set_option linter.unusedVariables false
set_option linter.unusedSimpArgs false
set_option maxHeartbeats 4000000
attribute [local irreducible] CW RW QW SW HW ConM retM heldQ calmQ elemP thenQ blockQ loopQ joinQ retQ Yields Con Sl zF magR unitF truncF fwF wholeF tidySpec elemQ rankF leastN tidyW
set_option maxHeartbeats 2000000
attribute [local irreducible] mixN wrN wr32 keyIt keyP

theorem Yields.to {P : Program} {n : Nat} {L : Env} {w : World} {op : Op} {ty : TypeId} {v u : Value} (h : Yields P n L w op ty v) (e : v = u) : Yields P n L w op ty u := e ▸ h
end Go.Proofs.YtmojpbfkpggjhaaGreatDoor

/-
  Contracts of base.ints, of the document's ints, of the origin, and of errors shown. No statement is proved here.
-/
namespace Go.Proofs.YtmojpbfkpggjhaaGreatDoor
open Go Go.RowKit
set_option linter.unusedVariables false
set_option linter.unusedSimpArgs false
set_option maxHeartbeats 4000000
attribute [local irreducible] CW RW QW SW HW ConM retM heldQ calmQ elemP thenQ blockQ loopQ joinQ retQ Yields Con Sl zF magR unitF truncF fwF wholeF tidySpec elemQ rankF leastN tidyW
set_option maxHeartbeats 4000000
attribute [local irreducible] mixN wrN wr32 keyIt keyP

theorem shows27E_con {α β : Type} {R : GHeap → List Value → α → Prop} {Rq : GHeap → List Value → β → Prop} (cs cp : List Value) (p : PlainD β) (e : Int) (w : World) (h : GHeap) (he : e = 22 ∨ e = 23 ∨ e = 24 ∨ e = 26) (ha : ArrR R h cs ⟨[], VecD.none⟩) (hp : PlainR Rq h cp p) : Con Tryz.prog 16 [.agg cs.toArray, .int .i64 e, .agg cp.toArray, .int .i64 e] w h (fun _ u => u = .bool true) := by
  obtain ⟨_, vc, rfl, ⟨ad, cap, rfl, _⟩, hv⟩ := ha
  have hv' := hv
  obtain ⟨wv, nv, sm, il, fl, ch, bx, ⟨rfl, hoc⟩, _⟩ := hv
  obtain ⟨s2, it2, rfl, ⟨ad2, cp2, rfl, _⟩, ⟨ad3, cp3, xs3, rfl, _, _⟩⟩ := hp
  rcases he with rfl | rfl | rfl | rfl
  all_goals
    refine Con.of_body Tryz.func16 rfl Tryz.ntmps16 rfl rfl ?_
    intro hs
    refine Zrun ?_
    (refine RW.boxN hs rfl rfl ?_; intro b1 w1 hs)
    refine Zrun ?_
    (refine RW.boxN hs rfl rfl ?_; intro b2 w2 hs)
    refine Zerun ?_
    (refine RW.call T hs rfl rfl rfl (vecKind_con _ VecD.none _ _ hv') ?_; intro v h3 w3 hle3 hp3 hs)
    subst hp3
    refine Zerun ?_
    exact retQ_ret [_] h3 ⟨rfl, trivial⟩ hs.dropAll rfl
end Go.Proofs.YtmojpbfkpggjhaaGreatDoor

/-
  Contracts of base.IndexOf, base.Member and of the document's answers to them. No statement is proved here.
-/
namespace Go.Proofs.YtmojpbfkpggjhaaGreatDoor
open Go Go.RowKit
set_option linter.unusedVariables false
set_option linter.unusedSimpArgs false
set_option maxHeartbeats 4000000
attribute [local irreducible] CW RW QW SW HW ConM retM heldQ calmQ elemP thenQ blockQ loopQ joinQ retQ Yields Con Sl zF magR unitF truncF fwF wholeF tidySpec elemQ rankF leastN tidyW
set_option maxHeartbeats 4000000
attribute [local irreducible] mixN wrN wr32 keyIt keyP

section
variable {k : Nat}
end
end Go.Proofs.YtmojpbfkpggjhaaGreatDoor

/-
  The program logic, further parts: elements of a reslice of an own row, copies into an own row, slices of truths that came in. No statement is proved here.
-/
namespace Go.Proofs.YtmojpbfkpggjhaaGreatDoor
open Go Go.RowKit
set_option linter.unusedVariables false
set_option linter.unusedSimpArgs false

section
open Go.ChangeShapes Go.WideShapes Go.ChangeAt
variable {H : Type} {enc : TypeId × Value → H} {P : Program} {w : World} {base : Nat} {spare : Nat → Bool} {held : Bool} {fuel n : Nat} {t e : TypeId} {cs : List Value} {x : DataW H × List MemPlace}
theorem open_bools (ht : P.underlying t = some (.slice e)) (he : P.underlying e = some .bool) (hc : P.cellsOf e = 1) (h : DataW.trod enc P w base spare held fuel t cs = some x) :
    ∃ v l, cs = [v] ∧ TAt (ghost w) v l ∧ l.length ≤ 9223372036854775807 := by
  obtain ⟨v, l, h1, h2, h3⟩ := open_rows (R := fun cs (a : Bool) => cs = [.bool a]) ht hc (by omega) (fun n _ cs x h => by
    obtain ⟨b, hb, _⟩ := DataW.trod_bool he h
    exact ⟨b, hb⟩) h
  exact ⟨v, l, h1, RowsAt.row h2, h3⟩
end
section
variable {P : Program} (T : Tab P) {n : Nat} {Q : Post} {L : Env} {w0 w : World} {h0 h : GHeap} {O : List Row} {ops rest : List Oper} {x y : Operand} {t t2 : TypeId}
variable {d : Option Tmp} {ty : TypeId} {pos : String} {aft : Array Edge}
theorem Sl.cap0 {ad : Option Addr} {m cp sz : Nat} {xs : List Value} (hS : Sl h sz ad m cp xs) : ad = none → cp = 0 := hS.2.2.2.1
/-- cells of a part of an own row, as a copy takes them -/
theorem Sees.part (hs : Sees w0 h0 h O w) (k : Nat) {b o m cp : Nat} {e : TypeId} {xs news : List Value} (hO : O[k]? = some ⟨some ⟨b, 0, none⟩, m, cp, e, 1, xs⟩) (hn : ∀ j v, news[j]? = some v → xs[o + j]? = some v) : ∀ j v, news[j]? = some v → w.cell? ((⟨b, o, none⟩ : Addr).add j) = some v := by
  intro j v hj
  rw [Addr.add_lit]
  exact hs.rowCell hO (hn j v hj)
end
end Go.Proofs.YtmojpbfkpggjhaaGreatDoor

/-
  Plain facts on keys that have the order of whole numbers and characters, and on the bits in which keys differ. No program is in sight, and no statement is proved here.
-/
namespace Go.Proofs.YtmojpbfkpggjhaaGreatDoor

end Go.Proofs.YtmojpbfkpggjhaaGreatDoor

/-
  Contracts of package radix: keys, and the bits in which they differ. No statement is proved here.
-/
namespace Go.Proofs.YtmojpbfkpggjhaaGreatDoor
open Go Go.RowKit
set_option linter.unusedVariables false
set_option linter.unusedSimpArgs false
set_option maxHeartbeats 4000000
attribute [local irreducible] CW RW QW SW HW ConM retM heldQ calmQ elemP thenQ blockQ loopQ joinQ retQ Yields Con Sl zF magR unitF truncF fwF wholeF tidySpec
set_option maxHeartbeats 4000000
attribute [local irreducible] rankF leastN

section
variable {P : Program} {n : Nat} {L : Env} {w : World} {ty : TypeId} {x y : Operand} {t yt : TypeId} {u v : Nat}
end
section
variable {α : Type} {R : GHeap → List Value → α → Prop}
end
end Go.Proofs.YtmojpbfkpggjhaaGreatDoor

/-
  Contract of a pass of package radix: the array of counts, and the place in a digit. No statement is proved here.
-/
namespace Go.Proofs.YtmojpbfkpggjhaaGreatDoor
open Go Go.RowKit
set_option linter.unusedVariables false
set_option linter.unusedSimpArgs false
set_option maxHeartbeats 4000000
attribute [local irreducible] CW RW QW SW HW ConM retM heldQ calmQ elemP thenQ blockQ loopQ joinQ retQ Yields Con Sl zF magR unitF truncF fwF wholeF tidySpec
set_option maxHeartbeats 4000000

section
variable {P : Program} {n : Nat} {Q : Post} {L : Env} {w0 w : World} {h0 h : GHeap} {O : List Row} {ops rest : List Oper}
variable {d : Option Tmp} {ty : TypeId} {pos : String} {aft : Array Edge}
end
end Go.Proofs.YtmojpbfkpggjhaaGreatDoor

/-
  Plain facts on ranks: how many are below, and how many alike stand ahead. No program is in sight, and no statement is proved here.
-/
namespace Go.Proofs.YtmojpbfkpggjhaaGreatDoor

def below (dl : List Nat) (p : Nat) : Nat := dl.countP fun x => decide (x < p)
def alike (dl : List Nat) (m p : Nat) : Nat := (dl.take m).countP fun x => decide (x = p)
/-- the rank of an element: those below it and those alike ahead of it -/
def rankP (dl : List Nat) (j : Nat) : Nat := below dl (dl.getD j 0) + alike dl j (dl.getD j 0)
theorem below_succ (dl : List Nat) (p : Nat) : below dl (p + 1) = below dl p + alike dl dl.length p := by
  unfold below alike
  rw [List.take_length]
  induction dl with
  | nil => rfl
  | cons x l ih =>
    simp only [List.countP_cons, ih]
    by_cases h1 : x < p
    · rw [if_pos (by simp; omega), if_pos (by simp; omega), if_neg (by simp; omega)]; omega
    · by_cases h2 : x = p
      · rw [if_pos (by simp; omega), if_neg (by simp; omega), if_pos (by simp; omega)]; omega
      · rw [if_neg (by simp; omega), if_neg (by simp; omega), if_neg (by simp; omega)]; omega
theorem below_mono (dl : List Nat) {p q : Nat} (h : p ≤ q) : below dl p ≤ below dl q := by
  induction q with
  | zero => obtain rfl : p = 0 := by omega
            exact Nat.le_refl _
  | succ q ih =>
    by_cases e : p = q + 1
    · rw [e]; exact Nat.le_refl _
    · have := ih (by omega)
      rw [below_succ]; omega
theorem below_le (dl : List Nat) (p : Nat) : below dl p ≤ dl.length := List.countP_le_length
theorem alike_succ (dl : List Nat) (m p : Nat) (h : m < dl.length) : alike dl (m + 1) p = alike dl m p + if dl.getD m 0 = p then 1 else 0 := by
  unfold alike
  rw [take_snoc dl m 0 h, List.countP_append, List.countP_singleton]
  by_cases e : dl.getD m 0 = p
  · rw [if_pos (by simpa using e), if_pos e]
  · rw [if_neg (by simpa using e), if_neg e]
theorem alike_mono (dl : List Nat) (p : Nat) {m k : Nat} (h : m ≤ k) (hk : k ≤ dl.length) : alike dl m p ≤ alike dl k p := by
  induction k with
  | zero => obtain rfl : m = 0 := by omega
            exact Nat.le_refl _
  | succ k ih =>
    by_cases e : m = k + 1
    · rw [e]; exact Nat.le_refl _
    · have := ih (by omega) (by omega)
      rw [alike_succ _ _ _ (by omega)]; omega
theorem alike_lt (dl : List Nat) {j : Nat} (h : j < dl.length) : alike dl j (dl.getD j 0) < alike dl dl.length (dl.getD j 0) := by
  have h1 := alike_mono dl (dl.getD j 0) (show j + 1 ≤ dl.length by omega) (Nat.le_refl _)
  rw [alike_succ _ _ _ h, if_pos rfl] at h1
  omega
theorem rank_below (dl : List Nat) {j : Nat} (h : j < dl.length) : below dl (dl.getD j 0) ≤ rankP dl j ∧ rankP dl j < below dl (dl.getD j 0 + 1) := by
  have := alike_lt dl h
  rw [below_succ]
  unfold rankP
  omega
theorem rank_lt (dl : List Nat) {j : Nat} (h : j < dl.length) : rankP dl j < dl.length := by
  have h1 := (rank_below dl h).2
  have h2 := below_le dl (dl.getD j 0 + 1)
  omega
theorem rank_less (dl : List Nat) {i j : Nat} (hi : i < dl.length) (hj : j < dl.length) (h : dl.getD i 0 < dl.getD j 0 ∨ (dl.getD i 0 = dl.getD j 0 ∧ i < j)) : rankP dl i < rankP dl j := by
  rcases h with h | ⟨h, hij⟩
  · have h1 := (rank_below dl hi).2
    have h2 := (rank_below dl hj).1
    have h3 := below_mono dl (show dl.getD i 0 + 1 ≤ dl.getD j 0 by omega)
    omega
  · unfold rankP
    rw [h]
    have h1 := alike_mono dl (dl.getD j 0) (show i + 1 ≤ j by omega) (by omega)
    rw [alike_succ _ _ _ hi, if_pos h] at h1
    omega
theorem rank_inj (dl : List Nat) {i j : Nat} (hi : i < dl.length) (hj : j < dl.length) (h : rankP dl i = rankP dl j) : i = j := by
  apply Classical.byContradiction
  intro hne
  have key : rankP dl i < rankP dl j ∨ rankP dl j < rankP dl i := by
    rcases Nat.lt_trichotomy (dl.getD i 0) (dl.getD j 0) with c | c | c
    · exact .inl (rank_less dl hi hj (.inl c))
    · by_cases e : i < j
      · exact .inl (rank_less dl hi hj (.inr ⟨c, e⟩))
      · exact .inr (rank_less dl hj hi (.inr ⟨c.symm, by omega⟩))
    · exact .inr (rank_less dl hj hi (.inl c))
  omega
/-- lists whose elements stand at their ranks -/
def Placed (dl : List Nat) (at_ out : List Nat) : Prop := out.length = at_.length ∧ ∀ j, j < at_.length → out.getD (rankP dl j) 0 = at_.getD j 0
end Go.Proofs.YtmojpbfkpggjhaaGreatDoor

/-
  Contract of a pass of package radix: places put where their ranks tell. No statement is proved here.
-/
namespace Go.Proofs.YtmojpbfkpggjhaaGreatDoor
open Go Go.RowKit
set_option linter.unusedVariables false
set_option linter.unusedSimpArgs false
set_option maxHeartbeats 4000000
attribute [local irreducible] CW RW QW SW HW ConM retM heldQ calmQ elemP thenQ blockQ loopQ joinQ retQ Yields Con Sl zF magR unitF truncF fwF wholeF tidySpec
set_option maxHeartbeats 4000000
set_option maxRecDepth 100000

section
variable {P : Program} (T : Tab P) {n : Nat} {L : Env} {w : World} {ty : TypeId} {x y : Operand} {t : TypeId}
end
theorem Cell0.mono {h h' : GHeap} (hl : GLe h h') {b : Nat} {v : Value} (q : ∃ cs, h b = some cs ∧ cs[0]? = some v) : ∃ cs, h' b = some cs ∧ cs[0]? = some v := let ⟨cs, e, f⟩ := q; ⟨cs, hl _ _ e, f⟩
end Go.Proofs.YtmojpbfkpggjhaaGreatDoor

/-
  Plain facts on places in order: a pass by digits keeps them so, and there is one such list. No program is in sight, and no statement is proved here.
-/
namespace Go.Proofs.YtmojpbfkpggjhaaGreatDoor

theorem inj_surj : ∀ (n : Nat) (f : Nat → Nat), (∀ j, j < n → f j < n) → (∀ i j, i < n → j < n → f i = f j → i = j) → ∀ a, a < n → ∃ j, j < n ∧ f j = a
  | 0, _, _, _, a, h => absurd h (Nat.not_lt_zero _)
  | n + 1, f, hf, hi, a, ha => by
    have hg := inj_surj n (fun j => if f j = n then f n else f j) (fun j hj => by
      have h1 := hf j (by omega)
      by_cases e : f j = n
      · rw [if_pos e]
        have h2 := hf n (by omega)
        have : f n ≠ n := fun e2 => by have := hi j n (by omega) (by omega) (by rw [e, e2]); omega
        omega
      · rw [if_neg e]; omega) (fun i j hi' hj' e => by

      by_cases e1 : f i = n
      · by_cases e2 : f j = n
        · exact hi i j (by omega) (by omega) (by rw [e1, e2])
        · rw [if_pos e1, if_neg e2] at e
          have := hi n j (by omega) (by omega) e; omega
      · by_cases e2 : f j = n
        · rw [if_neg e1, if_pos e2] at e
          have := hi i n (by omega) (by omega) e; omega
        · rw [if_neg e1, if_neg e2] at e
          exact hi i j (by omega) (by omega) e)
    by_cases hb : f n = a
    · exact ⟨n, by omega, hb⟩
    · by_cases hn : a < n
      · obtain ⟨j, hj, e⟩ := hg a hn
  
        by_cases e1 : f j = n
        · rw [if_pos e1] at e; exact absurd e hb
        · rw [if_neg e1] at e; exact ⟨j, by omega, e⟩
      · obtain rfl : a = n := by omega
        have hfn := hf a (by omega)
        obtain ⟨j, hj, e⟩ := hg (f a) (by omega)
  
        by_cases e1 : f j = a
        · exact ⟨j, by omega, e1⟩
        · rw [if_neg e1] at e
          have := hi j a (by omega) (by omega) e; omega
/-- places from 0 on, each once, in an order -/
structure InOrder (lt : Nat → Nat → Prop) (n : Nat) (l : List Nat) : Prop where
  len : l.length = n
  lt_n : ∀ j, j < n → l.getD j 0 < n
  all : ∀ i, i < n → ∃ j, j < n ∧ l.getD j 0 = i
  ord : ∀ a b, a < b → b < n → lt (l.getD a 0) (l.getD b 0)
theorem InOrder.eq {lt : Nat → Nat → Prop} {n : Nat} {l m : List Nat} (h1 : InOrder lt n l) (h2 : InOrder lt n m) (asym : ∀ i j, lt i j → ¬ lt j i) : l = m := by
  have irr : ∀ i, ¬ lt i i := fun i h => asym i i h h
  have inj1 : ∀ a b, a < n → b < n → l.getD a 0 = l.getD b 0 → a = b := by
    intro a b ha hb e
    rcases Nat.lt_trichotomy a b with c | c | c
    · have := h1.ord a b c hb; rw [e] at this; exact absurd this (irr _)
    · exact c
    · have := h1.ord b a c ha; rw [e] at this; exact absurd this (irr _)
  have inj2 : ∀ a b, a < n → b < n → m.getD a 0 = m.getD b 0 → a = b := by
    intro a b ha hb e
    rcases Nat.lt_trichotomy a b with c | c | c
    · have := h2.ord a b c hb; rw [e] at this; exact absurd this (irr _)
    · exact c
    · have := h2.ord b a c ha; rw [e] at this; exact absurd this (irr _)
  have key : ∀ a, a < n → l.getD a 0 = m.getD a 0 := by
    intro a
    induction a using Nat.strongRecOn with
    | _ a ih =>
      intro ha
      apply Classical.byContradiction
      intro hne
      obtain ⟨b, hb, eb⟩ := h2.all (l.getD a 0) (h1.lt_n a ha)
      obtain ⟨c, hc, ec⟩ := h1.all (m.getD a 0) (h2.lt_n a ha)
      have hab : a < b := by
        rcases Nat.lt_trichotomy a b with x | x | x
        · exact x
        · subst x; exact absurd eb.symm hne
        · have := ih b x hb
          rw [eb] at this
          have := inj1 b a hb ha this
          omega
      have hac : a < c := by
        rcases Nat.lt_trichotomy a c with x | x | x
        · exact x
        · subst x; exact absurd ec hne
        · have := ih c x hc
          rw [ec] at this
          have := inj2 a c ha hc this
          omega
      have o1 := h2.ord a b hab hb
      have o2 := h1.ord a c hac hc
      rw [eb] at o1
      rw [ec] at o2
      exact asym _ _ o1 o2
  apply List.ext_getElem
  · rw [h1.len, h2.len]
  · intro a ha hb
    have := key a (by rw [← h1.len]; exact ha)
    rw [List.getD_eq_getElem?_getD, List.getD_eq_getElem?_getD, List.getElem?_eq_getElem ha, List.getElem?_eq_getElem hb] at this
    exact this
/-- a pass: by digits first, then as it stood -/
theorem InOrder.pass {lt : Nat → Nat → Prop} {n : Nat} {l out : List Nat} (h : InOrder lt n l) (dg : Nat → Nat) (hp : Placed (l.map dg) l out) : InOrder (fun i j => dg i < dg j ∨ (dg i = dg j ∧ lt i j)) n out := by
  obtain ⟨hl, hp⟩ := hp
  have hln := h.len
  obtain ⟨dl, hdl⟩ : ∃ dl, l.map dg = dl := ⟨_, rfl⟩
  have hdn : dl.length = n := by rw [← hdl, List.length_map, hln]
  have hget : ∀ j, j < n → dl.getD j 0 = dg (l.getD j 0) := by
    intro j hj
    rw [← hdl, List.getD_eq_getElem?_getD, List.getD_eq_getElem?_getD, List.getElem?_map, List.getElem?_eq_getElem (by omega)]
    rfl
  rw [hdl] at hp
  rw [hln] at hl hp
  have hlt : ∀ j, j < n → rankP dl j < n := fun j hj => by have := rank_lt dl (j := j) (by omega); omega
  have hsur := inj_surj n (rankP dl) hlt (fun i j hi hj e => rank_inj dl (by omega) (by omega) e)
  refine ⟨hl, ?_, ?_, ?_⟩
  · intro a ha
    obtain ⟨j, hj, rfl⟩ := hsur a ha
    rw [hp j hj]; exact h.lt_n j hj
  · intro i hi
    obtain ⟨j, hj, e⟩ := h.all i hi
    exact ⟨rankP dl j, hlt j hj, by rw [hp j hj, e]⟩
  · intro a b hab hb
    obtain ⟨i, hi, rfl⟩ := hsur a (by omega)
    obtain ⟨j, hj, rfl⟩ := hsur b hb
    rw [hp i hi, hp j hj, ← hget i hi, ← hget j hj]
    rcases Nat.lt_trichotomy (dl.getD i 0) (dl.getD j 0) with c | c | c
    · exact .inl c
    · refine .inr ⟨c, ?_⟩
      rcases Nat.lt_trichotomy i j with x | x | x
      · exact h.ord i j x hj
      · subst x; omega
      · have := rank_less dl (i := j) (j := i) (by omega) (by omega) (.inr ⟨c.symm, x⟩); omega
    · have := rank_less dl (i := j) (j := i) (by omega) (by omega) (.inl c); omega
theorem InOrder.imp {lt lt' : Nat → Nat → Prop} {n : Nat} {l : List Nat} (h : InOrder lt n l) (hh : ∀ i j, i < n → j < n → lt i j → lt' i j) : InOrder lt' n l :=
  ⟨h.len, h.lt_n, h.all, fun a b hab hb => hh _ _ (h.lt_n a (by omega)) (h.lt_n b hb) (h.ord a b hab hb)⟩
theorem InOrder.range (n : Nat) : InOrder (fun i j => i < j) n (List.range n) := by
  have hg : ∀ j, j < n → (List.range n).getD j 0 = j := fun j hj => by rw [List.getD_eq_getElem?_getD, List.getElem?_range hj]; rfl
  exact ⟨List.length_range, fun j hj => by rw [hg j hj]; exact hj, fun i hi => ⟨i, hi, hg i hi⟩, fun a b hab hb => by rw [hg a (by omega), hg b hb]; exact hab⟩
end Go.Proofs.YtmojpbfkpggjhaaGreatDoor

/-
  Plain facts on keys in order by their digits. No program is in sight, and no statement is proved here.
-/
namespace Go.Proofs.YtmojpbfkpggjhaaGreatDoor

end Go.Proofs.YtmojpbfkpggjhaaGreatDoor

/-
  Contract of radix.Grade, of whole numbers and characters. No statement is proved here.
-/
namespace Go.Proofs.YtmojpbfkpggjhaaGreatDoor
open Go Go.RowKit
set_option linter.unusedVariables false
set_option linter.unusedSimpArgs false
set_option maxHeartbeats 4000000
attribute [local irreducible] CW RW QW SW HW ConM retM heldQ calmQ elemP thenQ blockQ loopQ joinQ retQ Yields Con Sl zF magR unitF truncF fwF wholeF tidySpec
set_option maxHeartbeats 4000000
set_option maxRecDepth 4000
attribute [local irreducible] rankF leastN

section
variable {α : Type} {R : GHeap → List Value → α → Prop}
end
end Go.Proofs.YtmojpbfkpggjhaaGreatDoor

/-
  Contract of the example of layer 17. No statement is proved here.
-/
namespace Go.Proofs.YtmojpbfkpggjhaaGreatDoor
open Go Go.RowKit
set_option linter.unusedVariables false
set_option linter.unusedSimpArgs false
set_option maxHeartbeats 4000000
attribute [local irreducible] CW RW QW SW HW ConM retM heldQ calmQ elemP thenQ blockQ loopQ joinQ retQ Yields Con Sl zF magR unitF truncF fwF wholeF tidySpec
set_option maxHeartbeats 4000000

end Go.Proofs.YtmojpbfkpggjhaaGreatDoor

/-
  Contract of the document's answer of layer 17: the bits in which keys differ. No statement is proved here.
-/
namespace Go.Proofs.YtmojpbfkpggjhaaGreatDoor
open Go Go.RowKit
set_option linter.unusedVariables false
set_option linter.unusedSimpArgs false
set_option maxHeartbeats 4000000
attribute [local irreducible] CW RW QW SW HW ConM retM heldQ calmQ elemP thenQ blockQ loopQ joinQ retQ Yields Con Sl zF magR unitF truncF fwF wholeF tidySpec
set_option maxHeartbeats 4000000

section
variable {P : Program} (T : Tab P) {n : Nat} {L : Env} {w : World} {ty : TypeId} {x y : Operand} {t yt : TypeId} {u v : Nat}
end
end Go.Proofs.YtmojpbfkpggjhaaGreatDoor

/-
  Contracts: packed truths turned, the places that are true as an own row, and truths graded by radix.Bits. No statement is proved here.
-/
namespace Go.Proofs.YtmojpbfkpggjhaaGreatDoor
open Go Go.RowKit
set_option linter.unusedVariables false
set_option linter.unusedSimpArgs false
set_option maxHeartbeats 4000000
attribute [local irreducible] CW RW QW SW HW ConM retM heldQ calmQ elemP thenQ blockQ loopQ joinQ retQ Yields Con Sl zF magR unitF truncF fwF wholeF tidySpec elemQ rankF leastN tidyW
set_option maxHeartbeats 4000000

/-! ## Plain facts -/
/-! ## Walks -/
end Go.Proofs.YtmojpbfkpggjhaaGreatDoor

/-
  Plain facts: one put in behind all that aren't above it keeps places at their ranks. No program is in sight, and no statement is proved here.
-/
namespace Go.Proofs.YtmojpbfkpggjhaaGreatDoor

/-- how many of the first ones aren't above the next one -/
def putN (dl : List Nat) (i : Nat) : Nat := below (dl.take i) (dl.getD i 0 + 1)
theorem putN_le (dl : List Nat) (i : Nat) : putN dl i ≤ i := Nat.le_trans (below_le _ _) (by rw [List.length_take]; omega)
theorem take_getD (dl : List Nat) (i j : Nat) (h : j < i) : (dl.take i).getD j 0 = dl.getD j 0 := by
  rw [List.getD_eq_getElem?_getD, List.getElem?_take, if_pos h, ← List.getD_eq_getElem?_getD]
theorem rank_put_lt (dl : List Nat) (i j : Nat) (hi : i < dl.length) (hj : j < i) : rankP (dl.take i) j < putN dl i ↔ dl.getD j 0 ≤ dl.getD i 0 := by
  have hl : j < (dl.take i).length := by rw [List.length_take]; omega
  have hb := rank_below (dl.take i) hl
  rw [take_getD dl i j hj] at hb
  unfold putN
  constructor
  · intro h
    apply Classical.byContradiction
    intro hn
    have := below_mono (dl.take i) (show dl.getD i 0 + 1 ≤ dl.getD j 0 by omega)
    omega
  · intro h
    have := below_mono (dl.take i) (show dl.getD j 0 + 1 ≤ dl.getD i 0 + 1 by omega)
    omega
theorem below_take_succ (dl : List Nat) (i p : Nat) (hi : i < dl.length) : below (dl.take (i + 1)) p = below (dl.take i) p + if dl.getD i 0 < p then 1 else 0 := by
  unfold below
  rw [take_snoc dl i 0 hi, List.countP_append, List.countP_singleton]
  by_cases e : dl.getD i 0 < p
  · rw [if_pos (by simpa using e), if_pos e]
  · rw [if_neg (by simpa using e), if_neg e]
theorem alike_take (dl : List Nat) (i j p : Nat) (h : j ≤ i) : alike (dl.take i) j p = alike dl j p := by
  unfold alike
  rw [List.take_take, Nat.min_eq_left h]
theorem rank_new (dl : List Nat) (i : Nat) (hi : i < dl.length) : rankP (dl.take (i + 1)) i = putN dl i := by
  unfold rankP putN
  rw [take_getD dl (i + 1) i (by omega), below_take_succ dl i _ hi, if_neg (by omega), alike_take dl (i + 1) i _ (by omega), below_succ]
  rw [alike_take dl i (dl.take i).length _ (by rw [List.length_take]; omega), List.length_take, Nat.min_eq_left (by omega)]
  omega
theorem rank_old (dl : List Nat) (i j : Nat) (hi : i < dl.length) (hj : j < i) : rankP (dl.take (i + 1)) j = rankP (dl.take i) j + if dl.getD i 0 < dl.getD j 0 then 1 else 0 := by
  unfold rankP
  rw [take_getD dl (i + 1) j (by omega), take_getD dl i j hj, below_take_succ dl i _ hi, alike_take dl (i + 1) j _ (by omega), alike_take dl i j _ (by omega)]
  omega
/-- the next one, put in -/
def putIn (out : List Nat) (p x : Nat) : List Nat := out.take p ++ x :: out.drop p
theorem putIn_len (out : List Nat) (p x : Nat) : (putIn out p x).length = out.length + 1 := by
  unfold putIn; rw [List.length_append, List.length_cons, List.length_take, List.length_drop]; omega
theorem putIn_at (out : List Nat) (p x : Nat) (h : p ≤ out.length) : (putIn out p x).getD p 0 = x := by
  unfold putIn
  rw [List.getD_eq_getElem?_getD, List.getElem?_append_right (by rw [List.length_take]; omega), List.length_take, Nat.min_eq_left h, Nat.sub_self]; rfl
theorem putIn_low (out : List Nat) (p x q : Nat) (h : p ≤ out.length) (hq : q < p) : (putIn out p x).getD q 0 = out.getD q 0 := by
  unfold putIn
  rw [List.getD_eq_getElem?_getD, List.getElem?_append_left (by rw [List.length_take]; omega), List.getElem?_take, if_pos hq, ← List.getD_eq_getElem?_getD]
theorem putIn_high (out : List Nat) (p x q : Nat) (h : p ≤ out.length) (hq : p ≤ q) : (putIn out p x).getD (q + 1) 0 = out.getD q 0 := by
  unfold putIn
  rw [List.getD_eq_getElem?_getD, List.getElem?_append_right (by rw [List.length_take]; omega), List.length_take, Nat.min_eq_left h, show q + 1 - p = (q - p) + 1 by omega, List.getElem?_cons_succ, List.getElem?_drop, show p + (q - p) = q by omega, ← List.getD_eq_getElem?_getD]
theorem Placed.nil (dl at_ : List Nat) : Placed (dl.take 0) (at_.take 0) [] := ⟨rfl, fun j hj => absurd hj (by simp)⟩
theorem Placed.put {dl at_ out : List Nat} {i : Nat} (h : Placed (dl.take i) (at_.take i) out) (hi : i < at_.length) (hl : dl.length = at_.length) : Placed (dl.take (i + 1)) (at_.take (i + 1)) (putIn out (putN dl i) (at_.getD i 0)) := by
  obtain ⟨h1, h2⟩ := h
  rw [List.length_take, Nat.min_eq_left (by omega)] at h1 h2
  have hp := putN_le dl i
  refine ⟨by rw [putIn_len, h1, List.length_take]; omega, fun j hj => ?_⟩
  rw [List.length_take, Nat.min_eq_left (by omega)] at hj
  rw [take_getD at_ (i + 1) j hj]
  by_cases e : j = i
  · subst e
    rw [rank_new dl j (by omega), putIn_at _ _ _ (by omega)]
  · have hlt := rank_put_lt dl i j (by omega) (by omega)
    have h3 := h2 j (by omega)
    rw [take_getD at_ i j (by omega)] at h3
    rw [rank_old dl i j (by omega) (by omega)]
    by_cases c : dl.getD i 0 < dl.getD j 0
    · rw [if_pos c, putIn_high _ _ _ _ (by omega) (by omega)]
      exact h3
    · rw [if_neg c, Nat.add_zero, putIn_low _ _ _ _ (by omega) (hlt.2 (by omega))]
      exact h3
theorem Placed.eq {dl at_ o1 o2 : List Nat} (h1 : Placed dl at_ o1) (h2 : Placed dl at_ o2) (hl : dl.length = at_.length) : o1 = o2 := by
  obtain ⟨a1, b1⟩ := h1
  obtain ⟨a2, b2⟩ := h2
  have hsur := inj_surj dl.length (rankP dl) (fun j hj => rank_lt dl hj) (fun i j hi hj e => rank_inj dl hi hj e)
  apply List.ext_getElem?
  intro q
  by_cases hq : q < dl.length
  · obtain ⟨j, hj, rfl⟩ := hsur q hq
    have e1 := b1 j (by omega)
    have e2 := b2 j (by omega)
    have r := rank_lt dl hj
    rw [List.getD_eq_getElem?_getD] at e1 e2
    rw [List.getElem?_eq_getElem (by omega)] at e1 e2 ⊢
    rw [List.getElem?_eq_getElem (by omega)]
    simp only [Option.getD_some] at e1 e2
    rw [e1, e2]
  · rw [List.getElem?_eq_none (by omega), List.getElem?_eq_none (by omega)]
/-- the place that stands at one of the first ranks, and what its digit tells -/
theorem Placed.turn {dl at_ out : List Nat} {i n : Nat} (h : Placed (dl.take i) (at_.take i) out) (hi : i < at_.length) (hl : dl.length = at_.length) (hn : n < i) : ∃ j, j < i ∧ out.getD n 0 = at_.getD j 0 ∧ (dl.getD j 0 ≤ dl.getD i 0 ↔ n < putN dl i) := by
  obtain ⟨h1, h2⟩ := h
  rw [List.length_take, Nat.min_eq_left (by omega)] at h1 h2
  have hl2 : (dl.take i).length = i := by rw [List.length_take]; omega
  have hsur := inj_surj i (rankP (dl.take i)) (fun j hj => by have := rank_lt (dl.take i) (j := j) (by omega); omega) (fun a b ha hb e => rank_inj (dl.take i) (by omega) (by omega) e)
  obtain ⟨j, hj, rfl⟩ := hsur n hn
  refine ⟨j, hj, ?_, ?_⟩
  · have := h2 j hj
    rwa [take_getD at_ i j hj] at this
  · exact (rank_put_lt dl i j (by omega) hj).symm
end Go.Proofs.YtmojpbfkpggjhaaGreatDoor

/-
  Plain facts on putting places in order by comparing: put in one by one, and merged. No program is in sight, and no statement is proved here.
-/
namespace Go.Proofs.YtmojpbfkpggjhaaGreatDoor

/-- what a comparison has to be: an order of classes of alike ones -/
structure WeakOrd (ah : Nat → Nat → Bool) : Prop where
  asym : ∀ i j, ah i j = true → ah j i = false
  ntr : ∀ i j k, ah i j = false → ah j k = false → ah i k = false
/-- ahead of it, or alike and earlier -/
def ltS (ah : Nat → Nat → Bool) (i j : Nat) : Prop := ah i j = true ∨ (ah j i = false ∧ i < j)
theorem ltS_trans {ah : Nat → Nat → Bool} (hw : WeakOrd ah) (i j k : Nat) (h1 : ltS ah i j) (h2 : ltS ah j k) : ltS ah i k := by
  have n1 : ah j i = false := by
    rcases h1 with h | ⟨h, _⟩
    · exact hw.asym _ _ h
    · exact h
  have n2 : ah k j = false := by
    rcases h2 with h | ⟨h, _⟩
    · exact hw.asym _ _ h
    · exact h
  have n3 : ah k i = false := hw.ntr _ _ _ n2 n1
  by_cases c : ah i k = true
  · exact .inl c
  · have c : ah i k = false := by simpa using c
    refine .inr ⟨n3, ?_⟩
    have m1 : ¬ ah i j = true := by
      intro e
      have : ah i j = false := hw.ntr i k j c n2
      rw [e] at this; cases this
    have m2 : ¬ ah j k = true := by
      intro e
      have : ah j k = false := hw.ntr j i k n1 c
      rw [e] at this; cases this
    rcases h1 with h | ⟨_, h1⟩
    · exact absurd h m1
    · rcases h2 with h | ⟨_, h2⟩
      · exact absurd h m2
      · omega
/-- the numbers from a to b, each once, in order -/
structure InSeg (ah : Nat → Nat → Bool) (a b : Nat) (s : List Nat) : Prop where
  len : s.length = b - a
  mem : ∀ i, i ∈ s ↔ a ≤ i ∧ i < b
  ord : s.Pairwise (ltS ah)
theorem InSeg.one (ah : Nat → Nat → Bool) (a : Nat) : InSeg ah a (a + 1) [a] := ⟨by simp, fun i => by simp; omega, List.pairwise_singleton _ _⟩
theorem InSeg.none (ah : Nat → Nat → Bool) (a b : Nat) (h : b ≤ a) : InSeg ah a b [] := ⟨by simp; omega, fun i => by simp; omega, .nil⟩
/-- a merge under way: what is out, and what is left of two runs -/
structure Merging (ah : Nat → Nat → Bool) (s1 s2 : List Nat) (i k : Nat) (o : List Nat) : Prop where
  len : o.length = i + k
  perm : o.Perm (s1.take i ++ s2.take k)
  o1 : (o ++ s1.drop i).Pairwise (ltS ah)
  o2 : (o ++ s2.drop k).Pairwise (ltS ah)
theorem Merging.start {ah : Nat → Nat → Bool} {a m b : Nat} {s1 s2 : List Nat} (h1 : InSeg ah a m s1) (h2 : InSeg ah m b s2) : Merging ah s1 s2 0 0 [] := ⟨rfl, .refl _, h1.ord, h2.ord⟩
theorem drop_cons' (s : List Nat) (i : Nat) (h : i < s.length) : s.drop i = s.getD i 0 :: s.drop (i + 1) := by
  rw [List.drop_eq_getElem_cons h, List.getD_eq_getElem?_getD, List.getElem?_eq_getElem h]; rfl
theorem pair_mid {R : Nat → Nat → Prop} {o d : List Nat} {x : Nat} (h : (o ++ d).Pairwise R) (h1 : ∀ y ∈ o, R y x) (h2 : ∀ y ∈ d, R x y) : (o ++ [x] ++ d).Pairwise R := by
  rw [List.pairwise_append] at h ⊢
  refine ⟨?_, h.2.1, ?_⟩
  · rw [List.pairwise_append]
    exact ⟨h.1, List.pairwise_singleton _ _, fun y hy z hz => by rw [List.mem_singleton] at hz; rw [hz]; exact h1 y hy⟩
  · intro y hy z hz
    rw [List.mem_append, List.mem_singleton] at hy
    rcases hy with hy | rfl
    · exact h.2.2 y hy z hz
    · exact h2 z hz
theorem Merging.left {ah : Nat → Nat → Bool} (hw : WeakOrd ah) {s1 s2 : List Nat} {i k : Nat} {o : List Nat} (h : Merging ah s1 s2 i k o) (hi : i < s1.length) (hx : k < s2.length → ltS ah (s1.getD i 0) (s2.getD k 0)) : Merging ah s1 s2 (i + 1) k (o ++ [s1.getD i 0]) := by
  have ho1 := h.o1
  rw [drop_cons' s1 i hi] at ho1
  have ho2 := h.o2
  refine ⟨by rw [List.length_append, h.len]; simp; omega, ?_, ?_, ?_⟩
  · rw [take_snoc s1 i 0 hi]
    have := h.perm.append_right [s1.getD i 0]
    refine this.trans ?_
    rw [List.append_assoc, List.append_assoc]
    exact List.Perm.append_left _ List.perm_append_comm
  · rw [List.append_assoc]; exact ho1
  · refine pair_mid ho2 ?_ ?_
    · rw [List.pairwise_append] at ho1
      exact fun y hy => ho1.2.2 y hy _ (List.mem_cons_self ..)
    · intro y hy
      by_cases hk : k < s2.length
      · rw [drop_cons' s2 k hk] at hy ho2
        rw [List.pairwise_append, List.pairwise_cons] at ho2
        rcases List.mem_cons.1 hy with rfl | hy
        · exact hx hk
        · exact ltS_trans hw _ _ _ (hx hk) (ho2.2.1.1 y hy)
      · rw [List.drop_eq_nil_of_le (by omega)] at hy; cases hy
theorem Merging.right {ah : Nat → Nat → Bool} (hw : WeakOrd ah) {s1 s2 : List Nat} {i k : Nat} {o : List Nat} (h : Merging ah s1 s2 i k o) (hk : k < s2.length) (hx : i < s1.length → ltS ah (s2.getD k 0) (s1.getD i 0)) : Merging ah s1 s2 i (k + 1) (o ++ [s2.getD k 0]) := by
  have ho1 := h.o1
  have ho2 := h.o2
  rw [drop_cons' s2 k hk] at ho2
  refine ⟨by rw [List.length_append, h.len]; simp; omega, ?_, ?_, ?_⟩
  · rw [take_snoc s2 k 0 hk, ← List.append_assoc]
    exact h.perm.append_right _
  · refine pair_mid ho1 ?_ ?_
    · rw [List.pairwise_append] at ho2
      exact fun y hy => ho2.2.2 y hy _ (List.mem_cons_self ..)
    · intro y hy
      by_cases hi : i < s1.length
      · rw [drop_cons' s1 i hi] at hy ho1
        rw [List.pairwise_append, List.pairwise_cons] at ho1
        rcases List.mem_cons.1 hy with rfl | hy
        · exact hx hi
        · exact ltS_trans hw _ _ _ (hx hi) (ho1.2.1.1 y hy)
      · rw [List.drop_eq_nil_of_le (by omega)] at hy; cases hy
  · rw [List.append_assoc]; exact ho2
theorem Merging.done {ah : Nat → Nat → Bool} {a m b : Nat} {s1 s2 o : List Nat} (h1 : InSeg ah a m s1) (h2 : InSeg ah m b s2) (ham : a ≤ m) (hmb : m ≤ b) (h : Merging ah s1 s2 s1.length s2.length o) : InSeg ah a b o := by
  have hp := h.perm
  rw [List.take_length, List.take_length] at hp
  have ho := h.o1
  rw [List.drop_length, List.append_nil] at ho
  refine ⟨by rw [h.len, h1.len, h2.len]; omega, fun i => ?_, ho⟩
  rw [hp.mem_iff, List.mem_append, h1.mem, h2.mem]
  omega
/-- runs of one length in order, up to a place -/
def Runs (ah : Nat → Nat → Bool) (r n upto : Nat) (l : List Nat) : Prop := ∀ q, q * r < upto → InSeg ah (q * r) (min (q * r + r) n) ((l.drop (q * r)).take r)
theorem Runs.none (ah : Nat → Nat → Bool) (r n : Nat) (l : List Nat) : Runs ah r n 0 l := fun _ hq => absurd hq (Nat.not_lt_zero _)
theorem Runs.all {ah : Nat → Nat → Bool} {r n : Nat} {l : List Nat} (h : Runs ah r n n l) (hl : l.length = n) (hr : n ≤ r) : InSeg ah 0 n l := by
  by_cases c : n = 0
  · subst c
    rw [List.eq_nil_of_length_eq_zero hl]
    exact InSeg.none _ _ _ (Nat.le_refl _)
  · have := h 0 (by omega)
    rw [Nat.zero_mul, List.drop_zero, Nat.zero_add, List.take_of_length_le (by omega), Nat.min_eq_right hr] at this
    exact this
end Go.Proofs.YtmojpbfkpggjhaaGreatDoor

/-
  Plain facts: places put where the count of those ahead of them tells stand in order. No program is in sight, and no statement is proved here.
-/
namespace Go.Proofs.YtmojpbfkpggjhaaGreatDoor

end Go.Proofs.YtmojpbfkpggjhaaGreatDoor

/-
  Plain facts on cells compared element by element, and on truths in order. No program is in sight, and no statement is proved here.
-/
namespace Go.Proofs.YtmojpbfkpggjhaaGreatDoor

/-! ## Truths in order -/
end Go.Proofs.YtmojpbfkpggjhaaGreatDoor

/-
  Plain facts: comparing on from a place, and counting those ahead. No program is in sight, and no statement is proved here.
-/
namespace Go.Proofs.YtmojpbfkpggjhaaGreatDoor

end Go.Proofs.YtmojpbfkpggjhaaGreatDoor

/-
  Contracts of the document's answer of layer 16: items and cells compared, and places in order. No statement is proved here.
-/
namespace Go.Proofs.YtmojpbfkpggjhaaGreatDoor
open Go Go.RowKit
set_option linter.unusedVariables false
set_option linter.unusedSimpArgs false
set_option maxHeartbeats 4000000
attribute [local irreducible] CW RW QW SW HW ConM retM heldQ calmQ elemP thenQ blockQ loopQ joinQ retQ Yields Con Sl zF magR unitF truncF fwF wholeF tidySpec elemQ rankF leastN tidyW
set_option maxHeartbeats 4000000

section
variable {α : Type} {R : GHeap → List Value → α → Prop}
end
end Go.Proofs.YtmojpbfkpggjhaaGreatDoor

/-
  Contract of the document's answer of layer 16: the one list of places in order. No statement is proved here.
-/
namespace Go.Proofs.YtmojpbfkpggjhaaGreatDoor
open Go Go.RowKit
set_option linter.unusedVariables false
set_option linter.unusedSimpArgs false
set_option maxHeartbeats 4000000
attribute [local irreducible] CW RW QW SW HW ConM retM heldQ calmQ elemP thenQ blockQ loopQ joinQ retQ Yields Con Sl zF magR unitF truncF fwF wholeF tidySpec elemQ rankF leastN tidyW
set_option maxHeartbeats 4000000

section
variable {α : Type} {R : GHeap → List Value → α → Prop}
end
end Go.Proofs.YtmojpbfkpggjhaaGreatDoor

/-
  Contracts of the law's own functions of layer 7: which arrays are alike. No statement is proved here.
-/
namespace Go.Proofs.YtmojpbfkpggjhaaGreatDoor
open Go Go.RowKit
set_option linter.unusedVariables false
set_option linter.unusedSimpArgs false
set_option maxHeartbeats 4000000
attribute [local irreducible] CW RW QW SW HW ConM retM heldQ calmQ elemP thenQ blockQ loopQ joinQ retQ Yields Con Sl zF magR unitF truncF fwF wholeF tidySpec elemQ rankF leastN tidyW
set_option maxHeartbeats 4000000

end Go.Proofs.YtmojpbfkpggjhaaGreatDoor

/-
  Contract of radix.Grade for every store: places in the order of their elements. No statement is proved here.
-/
namespace Go.Proofs.YtmojpbfkpggjhaaGreatDoor
open Go Go.RowKit
set_option linter.unusedVariables false
set_option linter.unusedSimpArgs false
set_option maxHeartbeats 4000000
attribute [local irreducible] CW RW QW SW HW ConM retM heldQ calmQ elemP thenQ blockQ loopQ joinQ retQ Yields Con Sl zF magR unitF truncF fwF wholeF tidySpec elemQ rankF leastN tidyW
set_option maxHeartbeats 4000000

section
variable {α : Type} {R : GHeap → List Value → α → Prop}
end
end Go.Proofs.YtmojpbfkpggjhaaGreatDoor

/-
  Contracts of package merge: a run put in order one by one. No statement is proved here.
-/
namespace Go.Proofs.YtmojpbfkpggjhaaGreatDoor
open Go Go.RowKit
set_option linter.unusedVariables false
set_option linter.unusedSimpArgs false
set_option maxHeartbeats 4000000
attribute [local irreducible] CW RW QW SW HW ConM retM heldQ calmQ elemP thenQ blockQ loopQ joinQ retQ Yields Con Sl zF magR unitF truncF fwF wholeF tidySpec elemQ rankF leastN tidyW
set_option maxHeartbeats 4000000

section
variable {P : Program} (T : Tab P) {n : Nat} {L : Env} {w0 w : World} {h0 h : GHeap} {O : List Row} {ops rest : List Oper} {K : Env → Prop}
variable {d : Option Tmp} {ty : TypeId} {pos : String} {aft : Array Edge}
attribute [local semireducible] QW Con
/-- a call of a function's value whose answer hangs on nothing that the order may turn -/
theorem QW.callV (_hs : Sees w0 h0 h O w) {f : FuncId} {l : List Operand} {vs fi ca : List Value} {cl : Operand} (hcl : opv L cl = some (.func (.func f) fi.toArray ca.toArray)) (hargs : opvs L l = some vs) (hf : T.call f = true) (hd : dstOk n d = true) {ats : Array TypeId} {v : Value} (hc : ∀ w, Con P f (fi ++ vs ++ ca) w h (fun _ u => u = v))
    (hk : QW P n ops (Sees w0 h0 h O) K (updo d v L) rest) :
    QW P n ops (Sees w0 h0 h O) K L (⟨d, .call ⟨.value cl, l.toArray, ats⟩, ty, pos, aft, none⟩ :: rest) := by
  intro a ha
  unfold wpQuiet
  rw [if_pos (by simp [Region.wanted])]
  refine ⟨v, fun w1 hs => ?_, hk _ (ha.put v hd)⟩
  obtain ⟨fn, hfn, hname, hbody⟩ := T.call_ok f hf
  have hrun : (execOp a.eval ⟨d, .call ⟨.value cl, l.toArray, ats⟩, ty, pos, aft, none⟩).run P w1 = .ok (.enter f (fi ++ vs ++ ca).toArray) w1 := by
    have hargs' : l.map a.eval = vs := ha.evals hargs
    have hname' : ¬ fn.name = "runtime.NumGoroutine" := by simpa using hname
    have hbody' : ¬ fn.body = none := fun e => by rw [e] at hbody; simp at hbody
    simp [execOp, resolve, Deferred.ofValue, ha.eval hcl, invoke, callFunc, hfn, hname', hbody', ← hargs']
  unfold Oper.quietAt
  rw [hrun]
  refine ⟨rfl, (hc w1 hs.agree).mono ?_⟩
  rintro e w' ⟨u, h', rfl, hs', rfl⟩
  exact ⟨rfl, hs.weaken (hs.call hs') hs'.le⟩
end
/-- what a comparison, handed over as a function, has to be -/
def AheadOk (P : Program) (F : FuncId) (ca : List Value) (ah : Nat → Nat → Bool) (N : Nat) (h : GHeap) : Prop := ∀ (i k : Nat) (w : World) (h' : GHeap), GLe h h' → i < N → k < N → Con P F ([] ++ [.int .i64 (i : Int), .int .i64 (k : Int)] ++ ca) w h' (fun _ u => u = .bool (ah i k))
theorem AheadOk.mono {P : Program} {F : FuncId} {ca : List Value} {ah : Nat → Nat → Bool} {N : Nat} {h h' : GHeap} (hl : GLe h h') (ho : AheadOk P F ca ah N h) : AheadOk P F ca ah N h' := fun i k w h2 hl2 hi hk => ho i k w h2 (hl.trans hl2) hi hk
end Go.Proofs.YtmojpbfkpggjhaaGreatDoor

/-
  Contracts of package merge: two runs in order merged into one. No statement is proved here.
-/
namespace Go.Proofs.YtmojpbfkpggjhaaGreatDoor
open Go Go.RowKit
set_option linter.unusedVariables false
set_option linter.unusedSimpArgs false
set_option maxHeartbeats 4000000
attribute [local irreducible] CW RW QW SW HW ConM retM heldQ calmQ elemP thenQ blockQ loopQ joinQ retQ Yields Con Sl zF magR unitF truncF fwF wholeF tidySpec elemQ rankF leastN tidyW
set_option maxHeartbeats 4000000

end Go.Proofs.YtmojpbfkpggjhaaGreatDoor

/-
  Contract of merge.Sort: places in the order of a comparison. No statement is proved here.
-/
namespace Go.Proofs.YtmojpbfkpggjhaaGreatDoor
open Go Go.RowKit
set_option linter.unusedVariables false
set_option linter.unusedSimpArgs false
set_option maxHeartbeats 4000000
attribute [local irreducible] CW RW QW SW HW ConM retM heldQ calmQ elemP thenQ blockQ loopQ joinQ retQ Yields Con Sl zF magR unitF truncF fwF wholeF tidySpec elemQ rankF leastN tidyW
set_option maxHeartbeats 4000000

theorem Runs.cut {ah : Nat → Nat → Bool} {r n u v : Nat} {l : List Nat} (h : Runs ah r n u l) (hv : v ≤ u) : Runs ah r n v l := fun q hq => h q (by omega)
end Go.Proofs.YtmojpbfkpggjhaaGreatDoor

/-
  Contracts of package order and of merge.Cells: elements and cells compared, cells in order. No statement is proved here.
-/
namespace Go.Proofs.YtmojpbfkpggjhaaGreatDoor
open Go Go.RowKit
set_option linter.unusedVariables false
set_option linter.unusedSimpArgs false
set_option maxHeartbeats 4000000
attribute [local irreducible] CW RW QW SW HW ConM retM heldQ calmQ elemP thenQ blockQ loopQ joinQ retQ Yields Con Sl zF magR unitF truncF fwF wholeF tidySpec elemQ rankF leastN tidyW
set_option maxHeartbeats 4000000

section
variable {α : Type} {R : GHeap → List Value → α → Prop}
end
end Go.Proofs.YtmojpbfkpggjhaaGreatDoor

/-
  Contracts of package merge: cells graded by comparing, and by digits. No statement is proved here.
-/
namespace Go.Proofs.YtmojpbfkpggjhaaGreatDoor
open Go Go.RowKit
set_option linter.unusedVariables false
set_option linter.unusedSimpArgs false
set_option maxHeartbeats 4000000
attribute [local irreducible] CW RW QW SW HW ConM retM heldQ calmQ elemP thenQ blockQ loopQ joinQ retQ Yields Con Sl zF magR unitF truncF fwF wholeF tidySpec elemQ rankF leastN tidyW
set_option maxHeartbeats 4000000

section
variable {α : Type} {R : GHeap → List Value → α → Prop}
end
end Go.Proofs.YtmojpbfkpggjhaaGreatDoor

/-
  Contracts of package merge: cells graded, lists in order; the example of layer 18. No statement is proved here.
-/
namespace Go.Proofs.YtmojpbfkpggjhaaGreatDoor
open Go Go.RowKit
set_option linter.unusedVariables false
set_option linter.unusedSimpArgs false
set_option maxHeartbeats 4000000
attribute [local irreducible] CW RW QW SW HW ConM retM heldQ calmQ elemP thenQ blockQ loopQ joinQ retQ Yields Con Sl zF magR unitF truncF fwF wholeF tidySpec elemQ rankF leastN tidyW
set_option maxHeartbeats 4000000

section
variable {α : Type} {R : GHeap → List Value → α → Prop}
end
end Go.Proofs.YtmojpbfkpggjhaaGreatDoor

/-
  Contracts of base.Grade and of the document's answer to it. No statement is proved here.
-/
namespace Go.Proofs.YtmojpbfkpggjhaaGreatDoor
open Go Go.RowKit
set_option linter.unusedVariables false
set_option linter.unusedSimpArgs false
set_option maxHeartbeats 4000000
attribute [local irreducible] CW RW QW SW HW ConM retM heldQ calmQ elemP thenQ blockQ loopQ joinQ retQ Yields Con Sl zF magR unitF truncF fwF wholeF tidySpec elemQ rankF leastN tidyW
set_option maxHeartbeats 4000000
attribute [local irreducible] mixN wrN wr32 keyIt keyP

end Go.Proofs.YtmojpbfkpggjhaaGreatDoor

/-
  Contracts of base.Unique, base.Without, base.Union and of the document's answers to them. No statement is proved here.
-/
namespace Go.Proofs.YtmojpbfkpggjhaaGreatDoor
open Go Go.RowKit
set_option linter.unusedVariables false
set_option linter.unusedSimpArgs false
set_option maxHeartbeats 4000000
attribute [local irreducible] CW RW QW SW HW ConM retM heldQ calmQ elemP thenQ blockQ loopQ joinQ retQ Yields Con Sl zF magR unitF truncF fwF wholeF tidySpec elemQ rankF leastN tidyW
set_option maxHeartbeats 4000000
attribute [local irreducible] mixN wrN wr32 keyIt keyP

theorem ref27List_con {α : Type} {R : GHeap → List Value → α → Prop} (cs : List Value) (p : PlainD α) (w : World) (h : GHeap) (hp : PlainR R h cs p) : Con Tryz.prog 48 [.agg cs.toArray] w h (fun _ u => u = .bool (decide ((p.shape.length : Int) ≤ 1))) := by
  obtain ⟨s, it, rfl, ⟨ad, cp, rfl, _⟩, ⟨ad2, cp2, xs, rfl, _, _⟩⟩ := hp
  refine Con.of_body Tryz.func48 rfl Tryz.ntmps48 rfl rfl ?_
  intro hs
  refine Zrun ?_
  (refine RW.boxN hs rfl rfl ?_; intro b1 w1 hs)
  refine Zerun ?_
  exact retQ_ret [_] h ⟨rfl, trivial⟩ hs.dropAll rfl
end Go.Proofs.YtmojpbfkpggjhaaGreatDoor

/-
  Contracts of base.Iota and base.Where, and of the document's answers to them. No statement is proved here.
-/
namespace Go.Proofs.YtmojpbfkpggjhaaGreatDoor
open Go Go.RowKit
set_option linter.unusedVariables false
set_option linter.unusedSimpArgs false
set_option maxHeartbeats 4000000
attribute [local irreducible] CW RW QW SW HW ConM retM heldQ calmQ elemP thenQ blockQ loopQ joinQ retQ Yields Con Sl zF magR unitF truncF fwF wholeF tidySpec elemQ rankF leastN tidyW
set_option maxHeartbeats 4000000
set_option maxRecDepth 4000
attribute [local irreducible] mixN wrN wr32 keyIt keyP

/-! ## Plain facts -/
def truthsB (l : List Nat) : Bool := l.all fun u => decide (u = 0 ∨ u = 4607182418800017408)
def bsOf (l : List Nat) : List Bool := l.map fun u => decide (u = 4607182418800017408)
theorem bsOf_len (l : List Nat) : (bsOf l).length = l.length := List.length_map ..
theorem truthsB_mem {l : List Nat} (h : truthsB l = true) : ∀ u ∈ l, u = 0 ∨ u = 4607182418800017408 := fun u hu => of_decide_eq_true (List.all_eq_true.1 h u hu)
theorem truthsB_of {l : List Nat} (h : ∀ u ∈ l, u = 0 ∨ u = 4607182418800017408) : truthsB l = true := List.all_eq_true.2 fun u hu => decide_eq_true (h u hu)
theorem truths_bits (bs : List Bool) : truthsB (bs.map bitF) = true := truthsB_of fun u hu => by
  obtain ⟨b, _, rfl⟩ := List.mem_map.1 hu
  cases b
  · exact .inl rfl
  · exact .inr rfl
theorem bits_bsOf (bs : List Bool) : bs = bsOf (bs.map bitF) := by
  unfold bsOf
  rw [List.map_map]
  conv => lhs; rw [← List.map_id bs]
  apply List.map_congr_left
  intro b _
  cases b <;> rfl
theorem truths_rank {l : List Nat} (h : ∀ u ∈ l, tidyF u) : truthsB l = true ↔ ∀ x ∈ l, rankF x ≤ 1 := by
  constructor
  · intro e x hx
    rw [rank_bit x (h x hx), fw0, fw1]
    exact truthsB_mem e x hx
  · intro e
    refine truthsB_of fun x hx => ?_
    have := (rank_bit x (h x hx)).1 (e x hx)
    rw [fw0, fw1] at this
    exact this
def numsOf {α : Type} (p : PlainD α) : List Nat := p.items.map (·.num)
theorem numsOf_len {α : Type} (p : PlainD α) : (numsOf p).length = p.items.length := List.length_map ..
theorem items_num {α : Type} {R : GHeap → List Value → α → Prop} {h : GHeap} {p : PlainD α} {xs : List Value} (hA : AllN 4 (ItemAt R h) xs p.items) (i : Nat) (hi : i < p.items.length) : xs[i * 4 + 1]? = some (.float .f64 ((numsOf p).getD i 0)) := by
  obtain ⟨y, hy, hyl, hRy⟩ := hA.elem i hi
  have e : (numsOf p).getD i 0 = (p.items[i]).num := by
    unfold numsOf
    rw [List.getD_eq_getElem?_getD, List.getElem?_map, List.getElem?_eq_getElem hi]; rfl
  obtain ⟨bx, rfl, _⟩ := hRy
  have := congrArg (fun z : List Value => z[1]?) hy
  try dsimp only at this
  rw [List.getElem?_take_of_lt (by omega), List.getElem?_drop] at this
  rw [this, e]
  rfl
/-! ## Walks -/
section
variable {α : Type} {R : GHeap → List Value → α → Prop}
theorem logicTruths_con (hR : Mono R) (cs : List Value) (v : VecD α) (w : World) (h : GHeap) (hv : VecAt R h cs v) (hm : v.len ≤ 1048576) (hk0 : v.kind ≠ 0) : Con Tryz.prog 121 [.agg cs.toArray] w h (fun h' u => ∃ wv bs, u = .tuple #[.agg [wv, .int .i64 ((bs : List Bool).length)].toArray, .bool (decide (v.cls = 0 ∧ truthsB v.nums = true))] ∧ BitsAt h' wv bs ∧ (v.cls = 0 ∧ truthsB v.nums = true → bs = bsOf v.nums)) := by
  have hv' := hv
  have htd := hv.tidy
  have hcl : v.cls ≠ 0 → v.kind ≠ 1 := fun h e => h (by unfold VecD.cls; rw [e]; rfl)
  have hb1 : v.kind = 1 → v.cls = 0 ∧ truthsB v.nums = true := fun e => by
    obtain ⟨_, _, _, _, _, _, _, _, hk⟩ := hv
    have h1 : ∃ bs : List Bool, v = ⟨1, bs.map bitF, [], []⟩ := by
      rcases hk with ⟨e, _⟩ | ⟨e, bs, _, _, h⟩ | ⟨e, _⟩ | ⟨e, _⟩ | ⟨e, _⟩ | ⟨e, _⟩ | ⟨e, _⟩
      all_goals first | exact ⟨_, h⟩ | omega
    obtain ⟨bs, rfl⟩ := h1
    exact ⟨rfl, truths_bits bs⟩
  have hi2 : (v.into 1).2 = decide (v.cls = 0 ∧ truthsB v.nums = true) ∧ ((v.into 1).2 = true → (v.into 1).1 = ⟨1, v.nums, [], []⟩) := by
    unfold VecD.into
    by_cases c : v.kind = 1
    · rw [if_pos c]
      refine ⟨(decide_eq_true (hb1 c)).symm, fun _ => ?_⟩
      obtain ⟨_, _, _, _, _, _, _, _, hk⟩ := hv
      rcases hk with ⟨e, _⟩ | ⟨e, bs, _, _, h⟩ | ⟨e, _⟩ | ⟨e, _⟩ | ⟨e, _⟩ | ⟨e, _⟩ | ⟨e, _⟩
      all_goals first | (rw [h]; done) | omega
    · rw [if_neg c]
      by_cases c2 : v.cls ≠ 0 ∨ v.kind = 0
      · rw [if_pos c2, decide_eq_false (fun e => by omega)]; exact ⟨rfl, fun e => by cases e⟩
      · rw [if_neg c2]
        by_cases c3 : 1 ≤ (1 : Int) ∧ (1 : Int) ≤ 4 ∧ ∀ x ∈ v.nums, rankF x ≤ 1
        · rw [if_pos c3, decide_eq_true ⟨by omega, (truths_rank htd).2 c3.2.2⟩]; exact ⟨rfl, fun _ => rfl⟩
        · rw [if_neg c3, decide_eq_false (fun e => c3 ⟨by omega, by omega, (truths_rank htd).1 e.2⟩)]; exact ⟨rfl, fun e => by cases e⟩
  obtain ⟨wv, nv, sm, il, fl, ch, bx, ⟨rfl, hoc⟩, _⟩ := hv
  refine Con.of_body Tryz.func121 rfl Tryz.ntmps121 rfl rfl ?_
  intro hs
  refine Zrun ?_
  (refine RW.boxN hs rfl rfl ?_; intro b1 w1 hs)
  (refine RW.allocN T hs rfl rfl rfl rfl ?_; intro b2 w2 hs)
  refine Zerun ?_
  (refine RW.call T hs rfl rfl rfl (sqInto_con hR _ v 1 _ _ hv' hm) ?_; intro v h3 w3 hle3 hp3 hs)
  obtain ⟨cs3, rfl, hv3⟩ := hp3
  have hv' := hv'.mono hR hle3
  obtain ⟨V3, hV3⟩ : ∃ V3, (v.into 1).1 = V3 := ⟨_, rfl⟩
  obtain ⟨ok, hok⟩ : ∃ ok, (v.into 1).2 = ok := ⟨_, rfl⟩
  rw [hV3, hok] at hi2
  rw [hV3] at hv3
  rw [hok]
  have hv3' := hv3
  obtain ⟨wv3, nv3, sm3, il3, fl3, ch3, bx3, ⟨rfl, hoc3⟩, _⟩ := hv3
  refine Zerun ?_
  (refine RW.allocN T hs rfl rfl rfl rfl ?_; intro b4 w4 hs)
  (refine RW.storeAll T hs 0 rfl rfl rfl rfl rfl rfl hoc3 rfl ?_; intro w5 hs)
  refine Zerun ?_
  cases ok with
  | false =>
    rw [← hi2.1]
    refine Zerun ?_
    refine RW.val (Y.build T rfl rfl rfl rfl rfl rfl rfl) rfl ?_
    (refine RW.storeAll T hs 1 rfl rfl rfl rfl rfl rfl rfl rfl ?_; intro w6 hs)
    refine Zerun ?_
    exact retQ_ret [_, _] h3 ⟨resN T hs 1 rfl rfl rfl rfl rfl rfl, rfl, trivial⟩ hs.dropAll ⟨.slice none 0 0, [], rfl, ⟨Nat.zero_le _, [], RowAt.nil _, rfl, (fun u hu => nomatch hu), fun i => by simp⟩, fun e => absurd (hi2.1.trans (decide_eq_true e)) (by decide)⟩
  | true =>
    have hd := of_decide_eq_true hi2.1.symm
    rw [← hi2.1]
    obtain rfl := hi2.2 rfl
    refine Zerun ?_
    (refine RW.call T hs rfl rfl rfl (vecClass_con _ v _ _ hv') ?_; intro v h7 w7 hle7 hp7 hs)
    subst hp7
    rw [hd.1]
    have hv3' := hv3'.mono hR hle7
    refine Zerun ?_
    (refine RW.call T hs rfl rfl rfl (vecPacked_con _ _ _ _ hv3') ?_; intro v h8 w8 hle8 hp8 hs)
    obtain ⟨wb, bs, rfl, hb, hb8, _⟩ := hp8
    have hb8 := hb8 rfl
    rw [decide_eq_true (show (1 : Int) = 1 from rfl)]
    have hob : wb.oneCell' = true := by obtain ⟨_, ws, ⟨_, _, rfl, _⟩, _⟩ := id hb; rfl
    refine Zerun ?_
    (refine RW.storeAll T hs 1 rfl rfl rfl rfl rfl rfl (by show (wb.oneCell' && true) = true; rw [hob]; rfl) rfl ?_; intro w9 hs)
    refine Zerun ?_
    exact retQ_ret [_, _] h8 ⟨resN T hs 1 rfl rfl rfl rfl rfl rfl, rfl, trivial⟩ hs.dropAll ⟨wb, bs, rfl, hb, fun _ => by have e : v.nums = bs.map bitF := congrArg VecD.nums hb8; rw [e]; exact bits_bsOf bs⟩
end
theorem refTruths_con (s : Value) (l : List Nat) (w : World) (h : GHeap) (hl : FAt h s l) (hx : ∀ u ∈ l, tidyF u) (hm : l.length ≤ 1048576) : Con Tryz.prog 55 [s] w h (fun h' u => ∃ s', u = .tuple #[s', .bool (truthsB l)] ∧ TAt h' s' (if truthsB l = true then bsOf l else [])) := by
  obtain ⟨ad, cp, rfl, hS⟩ := hl
  have hcap := hS.caps
  refine Con.of_body Tryz.func55 rfl Tryz.ntmps55 rfl rfl ?_
  intro hs
  refine Zrun ?_
  have hs := hs.nilRow 4 1
  refine CW.loop (fun u : Nat × Option Addr × Nat => [(0, .slice ad l.length cp), (4, .slice u.2.1 u.1 u.2.2), (5, .int .i64 u.1)]) (fun u w' => u.1 ≤ l.length ∧ (∀ x ∈ l.take u.1, x = 0 ∨ x = 4607182418800017408) ∧ Sees w h h [⟨u.2.1, u.1, u.2.2, 4, 1, (bsOf (l.take u.1)).map Value.bool⟩] w') (fun u => l.length - u.1) (0, none, 0) ⟨rfl, rfl, rfl, trivial⟩ ⟨by omega, (fun x hx => nomatch hx), hs⟩ ?_
  rintro ⟨i, ra, rc⟩ w5 ⟨hi, hok, hs⟩
  dsimp only at hi hok hs ⊢
  by_cases hlt : i < l.length
  · have gi := map_get (Value.float .f64) l i 0 hlt
    have hxi := hx _ (mem_getD l i 0 hlt)
    have hnx := take_succ_getD l i 0 hlt
    obtain ⟨x, hxe⟩ : ∃ x, l.getD i 0 = x := ⟨_, rfl⟩
    have hmx : x ∈ l := hxe ▸ mem_getD l i 0 hlt
    have hok2 : (x = 0 ∨ x = 4607182418800017408) → ∀ y ∈ l.take (i + 1), y = 0 ∨ y = 4607182418800017408 := fun e y hy => by
      rw [hnx, List.mem_append, List.mem_singleton, hxe] at hy
      rcases hy with hy | rfl
      · exact hok y hy
      · exact e
    rw [hxe] at gi hxi hnx
    refine Zerun ?_
    refine RW.val (Y.fNeq hxi.2.1 fin0 rfl rfl) rfl ?_
    by_cases c0 : x = 0
    · subst c0
      rw [decide_eq_false (show ¬ (zF 0 ≠ zF 0) from fun e => e rfl)]
      refine Zerun ?_
      refine RW.val (Y.fEql fin0 fin1 rfl rfl) rfl ?_
      rw [decide_eq_false (show ¬ (zF 0 = zF 4607182418800017408) from fun e => absurd (zF_inj tidy0 tidy1 e) (by decide))]
      refine Zerun ?_
      (refine RW.lit T hs (vs := [.bool false]) (cs := [.bool false]) rfl rfl rfl rfl (by simp [Value.cells]) rfl rfl rfl rfl rfl ?_; intro b6 w6 hs)
      (refine RW.append T hs 1 rfl rfl (m := 1) (news := [.bool false]) rfl rfl rfl rfl rfl rfl (hs.src0 rfl (by simp [Value.oneCell'])) (by simp) (by dsimp only; omega) (by omega) ?_; intro ad7 cp7 w7 hs; replace hs := hs.drop)
      refine Zerun ?_
      exact loopQ_round (i + 1, ad7, cp7) ⟨rfl, rfl, rfl, trivial⟩ ⟨by dsimp only; omega, hok2 (.inl rfl), hs.re (by rw [hnx]; simp [bsOf])⟩ (by dsimp only; omega)
    rw [decide_eq_true (show zF x ≠ zF 0 from fun e => c0 (zF_inj hxi tidy0 e))]
    refine Zerun ?_
    refine RW.val (Y.fNeq hxi.2.1 fin1 rfl rfl) rfl ?_
    by_cases c1 : x = 4607182418800017408
    · subst c1
      rw [decide_eq_false (show ¬ (zF 4607182418800017408 ≠ zF 4607182418800017408) from fun e => e rfl)]
      refine Zerun ?_
      refine RW.val (Y.fEql fin1 fin1 rfl rfl) rfl ?_
      rw [decide_eq_true rfl]
      refine Zerun ?_
      (refine RW.lit T hs (vs := [.bool true]) (cs := [.bool true]) rfl rfl rfl rfl (by simp [Value.cells]) rfl rfl rfl rfl rfl ?_; intro b6 w6 hs)
      (refine RW.append T hs 1 rfl rfl (m := 1) (news := [.bool true]) rfl rfl rfl rfl rfl rfl (hs.src0 rfl (by simp [Value.oneCell'])) (by simp) (by dsimp only; omega) (by omega) ?_; intro ad7 cp7 w7 hs; replace hs := hs.drop)
      refine Zerun ?_
      exact loopQ_round (i + 1, ad7, cp7) ⟨rfl, rfl, rfl, trivial⟩ ⟨by dsimp only; omega, hok2 (.inr rfl), hs.re (by rw [hnx]; simp [bsOf])⟩ (by dsimp only; omega)
    rw [decide_eq_true (show zF x ≠ zF 4607182418800017408 from fun e => c1 (zF_inj hxi tidy1 e))]
    have hno : ¬ truthsB l = true := fun e => by
      rcases truthsB_mem e x hmx with e | e
      · exact c0 e
      · exact c1 e
    rw [if_neg hno, Bool.eq_false_iff.2 hno]
    refine Zerun ?_
    exact retQ_ret [_, _] h ⟨rfl, rfl, trivial⟩ hs.dropAll ⟨_, rfl, RowAt.nil _⟩
  obtain rfl : i = l.length := by omega
  rw [List.take_length] at hs hok
  have hyes : truthsB l = true := truthsB_of hok
  obtain ⟨h6, hle6, hs, hS6⟩ := hs.freeze
  rw [hyes, if_pos rfl]
  refine Zerun ?_
  refine retQ_ret [_, _] h6 ⟨rfl, rfl, trivial⟩ hs.dropAll ⟨_, rfl, ?_⟩
  have hl := bsOf_len l
  dsimp only at hS6
  rw [← hl] at hS6 ⊢
  exact RowAt.of_sl hS6
theorem ref27Numbers_con {α : Type} {R : GHeap → List Value → α → Prop} (cp0 : List Value) (p : PlainD α) (w : World) (h : GHeap) (hp : PlainR R h cp0 p) (hm : p.items.length ≤ 1048576) : Con Tryz.prog 51 [.agg cp0.toArray] w h (fun h' u => FAt h' u (numsOf p)) := by
  obtain ⟨s, it, rfl, ⟨ad1, cp1, rfl, hS1⟩, hit⟩ := hp
  obtain ⟨ad2, cp2, xs, rfl, hS2, hA2⟩ := hit
  have hcap := hS2.caps
  refine Con.of_body Tryz.func51 rfl Tryz.ntmps51 rfl rfl ?_
  intro hs
  refine Zrun ?_
  (refine RW.boxN hs rfl rfl ?_; intro b1 w1 hs)
  refine Zerun ?_
  have hs := hs.nilRow 67 1
  refine CW.loop (fun u : Nat × Option Addr × Nat => [(1, .pointer (some ⟨b1, 0, none⟩)), (3, .slice u.2.1 u.1 u.2.2), (4, .int .i64 u.1)]) (fun u w' => u.1 ≤ p.items.length ∧ Sees w h h [⟨u.2.1, u.1, u.2.2, 67, 1, ((numsOf p).take u.1).map (Value.float .f64)⟩, ⟨some ⟨b1, 0, none⟩, 1, 1, 25, 3, [.slice ad1 p.shape.length cp1, .slice ad2 p.items.length cp2, .int .i64 p.fill]⟩] w') (fun u => p.items.length - u.1) (0, none, 0) ⟨rfl, rfl, rfl, trivial⟩ ⟨by omega, hs⟩ ?_
  rintro ⟨i, ra, rc⟩ w5 ⟨hi, hs⟩
  dsimp only at hi hs ⊢
  by_cases hlt : i < p.items.length
  · have hxi := items_num hA2 i hlt
    have hnx := take_succ_getD (numsOf p) i 0 (by rw [numsOf_len]; exact hlt)
    obtain ⟨x, hxe⟩ : ∃ x, (numsOf p).getD i 0 = x := ⟨_, rfl⟩
    rw [hxe] at hxi hnx
    refine Zerun ?_
    (refine RW.lit T hs (vs := [.float .f64 x]) (cs := [.float .f64 x]) rfl rfl rfl rfl (by simp [Value.cells]) rfl rfl rfl rfl rfl ?_; intro b6 w6 hs)
    (refine RW.append T hs 1 rfl rfl (m := 1) (news := [.float .f64 x]) rfl rfl rfl rfl rfl rfl (hs.src0 rfl (by simp [Value.oneCell'])) (by simp) (by dsimp only; omega) (by omega) ?_; intro ad7 cp7 w7 hs; replace hs := hs.drop)
    refine Zerun ?_
    exact loopQ_round (i + 1, ad7, cp7) ⟨rfl, rfl, rfl, trivial⟩ ⟨by dsimp only; omega, hs.re (by rw [hnx, List.map_append]; rfl)⟩ (by dsimp only; omega)
  obtain rfl : i = p.items.length := by omega
  rw [List.take_of_length_le (by rw [numsOf_len]; exact Nat.le_refl _)] at hs
  obtain ⟨h6, hle6, hs, hS6⟩ := hs.freeze
  refine Zerun ?_
  refine retQ_ret [_] h6 ⟨rfl, trivial⟩ hs.dropAll ?_
  have hl := numsOf_len p
  dsimp only at hS6
  rw [← hl] at hS6 ⊢
  exact RowAt.of_sl hS6
end Go.Proofs.YtmojpbfkpggjhaaGreatDoor

/-
  What sets tell, and why not: the code's answers and the document's. No statement is proved here.
-/
namespace Go.Proofs.YtmojpbfkpggjhaaGreatDoor
open Go Go.RowKit
set_option linter.unusedVariables false
set_option linter.unusedSimpArgs false
set_option maxHeartbeats 4000000
attribute [local irreducible] CW RW QW SW HW ConM retM heldQ calmQ elemP thenQ blockQ loopQ joinQ retQ Yields Con Sl zF magR unitF truncF fwF wholeF tidySpec elemQ rankF leastN tidyW
set_option maxHeartbeats 4000000
attribute [local irreducible] mixN wrN wr32 keyIt keyP

/-- what is told of an array, and of a plain one; or an error's number -/
def ResA (k : Nat) (e : Int) (a : AD (k + 1)) (p : PD (k + 1)) : Prop := (e = 0 ∧ good (k + 1) 40 a ∧ plain (k + 1) a = p ∧ tdy (k + 1) p) ∨ ((e = 22 ∨ e = 23 ∨ e = 24 ∨ e = 26) ∧ a = (⟨[], VecD.none⟩ : ArrD (AD k)))
theorem shows27R_con (k : Nat) (cs cp : List Value) (e : Int) (a : AD (k + 1)) (p : PD (k + 1)) (w : World) (h : GHeap) (ha : ArrAt (k + 1) h cs a) (hp : PlainAt (k + 1) h cp p) (hr : ResA k e a p) : Con Tryz.prog 16 [.agg cs.toArray, .int .i64 e, .agg cp.toArray, .int .i64 e] w h (fun _ u => u = .bool true) := by
  rcases hr with ⟨rfl, h1, h2, h3⟩ | ⟨he, rfl⟩
  · exact shows27_con k cs cp a p w h ha hp h1 h2 h3
  · exact shows27E_con (α := AD k) (R := ArrAt k) (Rq := PlainAt k) cs cp p e w h he ha hp
end Go.Proofs.YtmojpbfkpggjhaaGreatDoor

/-
  Contracts of the law's own functions of layer 27: numbers counted, places that are true. No statement is proved here.
-/
namespace Go.Proofs.YtmojpbfkpggjhaaGreatDoor
open Go Go.RowKit
set_option linter.unusedVariables false
set_option linter.unusedSimpArgs false
set_option maxHeartbeats 4000000
attribute [local irreducible] CW RW QW SW HW ConM retM heldQ calmQ elemP thenQ blockQ loopQ joinQ retQ Yields Con Sl zF magR unitF truncF fwF wholeF tidySpec elemQ rankF leastN tidyW
set_option maxHeartbeats 4000000
attribute [local irreducible] mixN wrN wr32 keyIt keyP

theorem nums_same {k : Nat} {v : VecD (AD (k + 1))} {L : List (ItemD (PD (k + 1)))} {c : Int} (H : Shown (k + 1) v L c) (h0 : c = 0) : L.map (·.num) = v.nums := by
  rw [← H.he, itemsV_c0 _ (H.hc.trans h0), List.map_map]
  conv => rhs; rw [← List.map_id v.nums]
  rfl
end Go.Proofs.YtmojpbfkpggjhaaGreatDoor

/-
  Rows that a call hands over, framed; contracts of bitvec.Ones and pick.Copies that hand their row over; the document's Along at any size. No statement is proved here.
-/
namespace Go.Proofs.YtmojpbfkpggjhaaGreatDoor
open Go Go.RowKit
set_option linter.unusedVariables false
set_option linter.unusedSimpArgs false
set_option maxHeartbeats 4000000
attribute [local irreducible] CW RW QW SW HW ConM retM heldQ calmQ elemP thenQ blockQ loopQ joinQ retQ Yields Con Sl zF magR unitF truncF fwF wholeF tidySpec elemQ rankF leastN tidyW
set_option maxHeartbeats 4000000

theorem Sees.callM {w0 w w' : World} {h0 h h' : GHeap} {O O' : List Row} (hs : Sees w0 h0 h O w) (hc : Sees w h h' O' w') : Sees w0 h0 h' (O' ++ O) w' := by
  have h1 := hs.call hc.dropAll
  refine ⟨h1.below, h1.agree, h1.le, h1.old, ?_, ?_⟩
  · intro r hr
    rcases List.mem_append.1 hr with hr | hr
    · obtain ⟨a, b⟩ := hc.own r hr
      refine ⟨⟨a.1, ?_⟩, b⟩
      rcases a.2 with e | ⟨g, cap, cur, e1, e2, e3⟩
      · exact .inl e
      · exact .inr ⟨g, cap, cur, e1, Nat.le_trans hs.base e2, e3⟩
    · exact h1.own r hr
  · rw [List.map_append, List.pairwise_append]
    refine ⟨hc.apart, hs.apart, ?_⟩
    intro a ha b hb
    obtain ⟨r, hr, rfl⟩ := List.mem_map.1 ha
    obtain ⟨s, hs', rfl⟩ := List.mem_map.1 hb
    rcases e : r.v.ownBlock with _ | k
    · exact .inl e
    · refine .inr fun e2 => ?_
      have l1 := (hc.own r hr).1.lt k e
      have l2 := (hs.own s hs').1.lt k (e2 ▸ e)
      omega
theorem ConM.framed {P : Program} {f : FuncId} {args : List Value} {w0 w : World} {h0 h : GHeap} {O : List Row} {post : GHeap → List Row → Value → Prop} (hc : ConM P f args w h h [] w post) : ConM P f args w0 h0 h O w (fun h' O'' v => ∃ O', O'' = O' ++ O ∧ post h' O' v) := by
  unfold ConM at hc ⊢
  intro hs
  exact (hc (Sees.start hs.agree)).mono fun e w' ⟨v, h', O', he, hle, hs', hp⟩ => ⟨v, h', O' ++ O, he, hle, hs.callM hs', O', rfl, hp⟩
theorem pickLimited_raw (ad : Option Addr) (n cp : Nat) (most : Int) (w : World) (h : GHeap) : Con Tryz.prog 110 [.slice ad n cp, .int .i64 most] w h (fun _ u => u = .tuple #[if (n : Int) ≤ most then .slice ad n cp else .slice none 0 0, .int .i64 (if (n : Int) ≤ most then 0 else 26)]) := by
  refine Con.of_body Tryz.func110 rfl Tryz.ntmps110 rfl rfl ?_
  intro hs
  by_cases c : (n : Int) ≤ most
  · rw [if_pos c, if_pos c]
    refine Zrun ?_
    exact retQ_ret [_, _] h ⟨rfl, rfl, trivial⟩ hs.dropAll rfl
  · rw [if_neg c, if_neg c]
    refine Zrun ?_
    exact retQ_ret [_, _] h ⟨rfl, rfl, trivial⟩ hs.dropAll rfl
theorem bitsOnes_conM0 (wv : Value) (bs : List Bool) (w : World) (h : GHeap) (hT : TzTab h) (hb : BitsAt h wv bs) : ConM Tryz.prog 111 [.agg [wv, .int .i64 bs.length].toArray] w h h [] w (fun _ O' u => ∃ ad cp, u = .slice ad (onesL bs).length cp ∧ O' = [⟨ad, (onesL bs).length, cp, 3, 1, (onesL bs).map (Value.int .i64)⟩]) := by
  have hb' := hb
  obtain ⟨hlen, ws, ⟨ad, cp, rfl, hS⟩, hw, hr, hbit⟩ := hb
  have hwl : ws.length ≤ 16385 := by omega
  have hword : ∀ i j : Nat, j < 64 → (ws.getD i 0).toNat.testBit j = bs.getD (64 * i + j) false := by
    intro i j hj
    rw [← hbit (64 * i + j), show (64 * i + j) / 64 = i by omega, show (64 * i + j) % 64 = j by omega]
  refine ConM.of_body Tryz.func111 rfl Tryz.ntmps111 rfl rfl ?_
  intro hs
  refine Zrun ?_
  (refine RW.boxN hs rfl rfl ?_; intro b1 w1 hs)
  refine Zerun ?_
  (refine RW.call T hs rfl rfl rfl (bitsCount_con _ bs _ _ hb') ?_; intro v h2 w2 hle2 hp2 hs)
  obtain ⟨n, hn, rfl⟩ := hp2
  have hT := hT.mono hle2
  have hS2 := hS.mono hle2
  refine RW.make T hs rfl rfl rfl rfl rfl (by omega) (by omega) (by dsimp only; omega) (by omega) ?_
  intro b3 w3 hs
  have hs := hs.re (ys := []) (made_one (.int .i64 0) 0)
  rw [Int.toNat_natCast]
  refine Zerun ?_
  refine CW.loop (fun r : Nat × Nat × Option Addr × Nat × GHeap => [(1, .pointer (some ⟨b1, 0, none⟩)), (3, .slice r.2.2.1 r.2.1 r.2.2.2.1), (10, .slice ad ws.length cp), (11, .int .i64 (ws.length : Int)), (12, .int .i64 r.1)]) (fun r w' => r.1 ≤ ws.length ∧ (onesTo bs (64 * r.1)).length = r.2.1 ∧ GLe h2 r.2.2.2.2 ∧ Sees w h r.2.2.2.2 [⟨r.2.2.1, r.2.1, r.2.2.2.1, 3, 1, (onesTo bs (64 * r.1)).map (Value.int .i64)⟩, ⟨some ⟨b1, 0, none⟩, 1, 1, 31, 2, [.slice ad ws.length cp, .int .i64 bs.length]⟩] w') (fun r => ws.length - r.1) (0, 0, some ⟨b3, 0, none⟩, n, h2) ⟨rfl, rfl, rfl, rfl, rfl, trivial⟩ ⟨by omega, rfl, GLe.refl _, hs⟩ ?_
  rintro ⟨i, m, ra, rc, hh⟩ w4 ⟨hi, hm, hg, hs⟩
  dsimp only at hi hm hg hs ⊢
  have hS4 := hS2.mono hg
  by_cases hlt : i < ws.length
  · have hwi := hr _ (mem_getD ws i 0 hlt)
    refine Zerun ?_
    refine CW.loop (fun r : Nat × Nat × Nat × Option Addr × Nat × GHeap => [(1, .pointer (some ⟨b1, 0, none⟩)), (3, .slice r.2.2.2.1 r.2.2.1 r.2.2.2.2.1), (4, .int .i64 (i : Int)), (5, .int .u64 (r.1 : Int)), (10, .slice ad ws.length cp), (11, .int .i64 (ws.length : Int)), (12, .int .i64 (i : Int))]) (fun r w' => r.1 < 18446744073709551616 ∧ r.2.1 ≤ 64 ∧ (∀ j, j < 64 → r.1.testBit j = (decide (r.2.1 ≤ j) && bs.getD (64 * i + j) false)) ∧ (onesTo bs (64 * i + r.2.1)).length = r.2.2.1 ∧ GLe h2 r.2.2.2.2.2 ∧ Sees w h r.2.2.2.2.2 [⟨r.2.2.2.1, r.2.2.1, r.2.2.2.2.1, 3, 1, (onesTo bs (64 * i + r.2.1)).map (Value.int .i64)⟩, ⟨some ⟨b1, 0, none⟩, 1, 1, 31, 2, [.slice ad ws.length cp, .int .i64 bs.length]⟩] w') (fun r => 64 - r.2.1) ((ws.getD i 0).toNat, 0, m, ra, rc, hh) ⟨rfl, rfl, rfl, by dsimp only; rw [Int.toNat_of_nonneg hwi.1]; rfl, rfl, rfl, rfl, trivial⟩ ⟨by dsimp only; omega, by dsimp only; omega, fun j hj => by rw [hword i j hj]; simp, hm, hg, hs⟩ ?_
    rintro ⟨x, t, m2, rb, rd, h5⟩ w5 ⟨hx, ht, hxb, hm2, hg5, hs⟩
    dsimp only at hx ht hxb hm2 hg5 hs ⊢
    by_cases c : x = 0
    · subst c
      have hz : ∀ j, 64 * i + t ≤ j → j < 64 * (i + 1) → bs.getD j false = false := by
        intro j h1 h2
        have := hxb (j - 64 * i) (by omega)
        rw [Nat.zero_testBit, decide_eq_true (by omega), Bool.true_and, show 64 * i + (j - 64 * i) = j by omega] at this
        exact this.symm
      have e : onesTo bs (64 * (i + 1)) = onesTo bs (64 * i + t) := onesTo_none (by omega) hz
      refine Zerun ?_
      exact loopQ_round (i + 1, m2, rb, rd, h5) ⟨rfl, rfl, rfl, rfl, rfl, trivial⟩ ⟨by dsimp only; omega, by dsimp only; rw [e]; exact hm2, hg5, by dsimp only; rw [e]; exact hs⟩ (by dsimp only; omega)
    obtain ⟨hk, hbel, hat, hnx⟩ := low_bit c hx
    have hT5 := hT.mono hg5
    have hm3 := onesTo_len bs (64 * i + t)
    have htz := tz_con x
    generalize Lib.ctz 64 x = k at hk hbel hat hnx htz
    have hkb := hxb k hk
    rw [hat] at hkb
    have htk : t ≤ k := by
      by_cases c2 : t ≤ k
      · exact c2
      · rw [decide_eq_false c2] at hkb; cases hkb
    have hkt : bs.getD (64 * i + k) false = true := by rw [decide_eq_true htk, Bool.true_and] at hkb; exact hkb.symm
    have hone : onesTo bs (64 * i + k + 1) = onesTo bs (64 * i + t) ++ [((64 * i + k : Nat) : Int)] := onesTo_next (by omega) (fun j h1 h2 => by
      have := hxb (j - 64 * i) (by omega)
      rw [hbel _ (by omega), decide_eq_true (by omega), Bool.true_and, show 64 * i + (j - 64 * i) = j by omega] at this
      exact this.symm) hkt
    refine Zerun ?_
    refine RW.val (Y.shl' rfl rfl (by decide)) rfl ?_
    refine RW.respell (t := 21) (v := .int .i64 ((64 * i : Nat) : Int)) rfl (by
      have : IntKind.i64.wrap ((i : Int) * 2 ^ min (6 : Int).toNat IntKind.i64.bits) = ((64 * i : Nat) : Int) := by
        rw [show (2 : Int) ^ min (6 : Int).toNat IntKind.i64.bits = 64 by decide, wrap64 ⟨by omega, by omega⟩]
        omega
      rw [this]) ?_
    refine Zerun ?_
    (refine RW.call T hs rfl rfl rfl (htz _ _ hx hT5) ?_; intro v h6 w6 hle6 hp6 hs)
    subst hp6
    refine Zerun ?_
    (refine RW.lit T hs (vs := [.int .i64 ((64 * i : Nat) + (k : Nat) : Int)]) (cs := [.int .i64 ((64 * i : Nat) + (k : Nat) : Int)]) rfl rfl rfl rfl (by simp [Value.cells]) rfl rfl rfl rfl rfl ?_; intro b7 w7 hs)
    (refine RW.append T hs 1 rfl rfl (m := 1) (news := [.int .i64 ((64 * i : Nat) + (k : Nat) : Int)]) rfl rfl rfl rfl rfl rfl (hs.src0 rfl (by simp [Value.oneCell'])) (by simp) (by dsimp only; omega) (by omega) ?_; intro ad8 cp8 w8 hs; replace hs := hs.drop)
    refine Zerun ?_
    refine RW.val (Y.sub' rfl rfl) rfl ?_
    refine RW.respell (t := 29) (v := .int .u64 ((x - 1 : Nat) : Int)) rfl (by
      rw [show (x : Int) - 1 = ((x - 1 : Nat) : Int) by omega, wrapU _ (by omega)]) ?_
    refine RW.val (Y.andU rfl rfl hx (by omega)) rfl ?_
    refine Zerun ?_
    have hlen1 : (onesTo bs (64 * i + (k + 1))).length = m2 + 1 := by rw [show 64 * i + (k + 1) = 64 * i + k + 1 by omega, hone, List.length_append, hm2]; rfl
    refine loopQ_round (x &&& (x - 1), k + 1, m2 + 1, ad8, cp8, h6) ⟨rfl, rfl, rfl, rfl, rfl, rfl, rfl, trivial⟩ ⟨by dsimp only; have := Nat.and_le_left (n := x) (m := x - 1); omega, by dsimp only; omega, fun j hj => ?_, hlen1, hg5.trans hle6, hs.re ?_⟩ (by dsimp only; omega)
    · dsimp only
      rw [hnx, hxb j hj]
      by_cases c2 : j = k
      · subst c2; rw [decide_eq_false (show ¬ j + 1 ≤ j by omega)]; simp
      · by_cases c3 : k + 1 ≤ j
        · rw [decide_eq_true (show t ≤ j by omega), decide_eq_true c3, decide_eq_true c2]; simp
        · rw [decide_eq_false c3]
          have := hxb j hj
          rw [hbel j (by omega)] at this
          rw [← this]; simp
    · rw [show 64 * i + (k + 1) = 64 * i + k + 1 by omega, hone, List.map_append, Int.natCast_add]
      rfl
  · obtain rfl : i = ws.length := by omega
    have e : onesTo bs (64 * ws.length) = onesL bs := onesTo_ge (by omega)
    rw [e] at hm hs
    refine Zerun ?_
    rw [← hm] at hs ⊢
    exact retM_ret [_] hh _ ⟨rfl, trivial⟩ (hle2.trans hg) (hs.swap.drop) ⟨_, _, rfl, rfl⟩
section
variable {α : Type} {R : GHeap → List Value → α → Prop}
theorem pickCopies_conM0 (hR : Mono R) (cs : List Value) (v : VecD α) (n : Nat) (most : Int) (ks : List Int) (w : World) (h : GHeap) (hT : TzTab h) (hv : VecAt R h cs v) (hm : v.len ≤ 1048576) (hk : v.kind = 1 ∨ v.kind = 2 ∨ v.kind = 3) (hks : ks = v.nums.map (fun x => (wholeF x).1)) (hkb : ∀ c ∈ ks, -9007199254740992 ≤ c ∧ c ≤ 9007199254740992) (hn : n ≤ 1048576) (hmost : 0 ≤ most ∧ most ≤ 1048576) :
    ConM Tryz.prog 45 [.agg cs.toArray, .int .i64 (n : Int), .int .i64 most] w h h [] w (fun _ O' u => ∃ ad cp, u = .tuple #[.slice ad (copiesRes ks n most).1.length cp, .int .i64 (copiesRes ks n most).2] ∧ O' = [⟨ad, (copiesRes ks n most).1.length, cp, 3, 1, (copiesRes ks n most).1.map (Value.int .i64)⟩]) := by
  have hv' := hv
  obtain ⟨wv, nv, sm, il, fl, ch, bx, ⟨rfl, hoc⟩, _⟩ := hv
  refine ConM.of_body Tryz.func45 rfl Tryz.ntmps45 rfl rfl ?_
  intro hs
  refine Zrun ?_
  (refine RW.boxN hs rfl rfl ?_; intro b1 w1 hs)
  refine Zerun ?_
  (refine RW.call T hs rfl rfl rfl (pickWholes_con hR _ v _ _ hv' (by omega) (by omega)) ?_; intro v h2 w2 hle2 hp2 hs)
  obtain ⟨s2, rfl, hs2⟩ := hp2
  rw [decide_eq_true (show v.kind ≠ 4 ∨ v.len = 0 by omega)]
  rw [if_neg (show ¬ v.kind = 4 by omega), ← hks] at hs2
  obtain ⟨ad2, cp2, rfl, hS2⟩ := hs2
  have hv' := hv'.mono hR hle2
  have hT := hT.mono hle2
  have hcap := hS2.caps
  have hcap := hS2.caps
  first | (refine A0 ?_; first | refine R1 rfl rfl ?_ | refine R2 rfl rfl ?_ | (refine A1 ?_; first | refine D3 rfl rfl ?_ | refine D4 rfl rfl rfl rfl ?_ | refine D5 rfl rfl rfl ?_ | refine E6 ?_ rfl rfl | refine E7 ?_ rfl rfl) | refine Zb ?_ rfl | (refine A3 ?_; first | refine R34 T hs 0 rfl rfl rfl rfl rfl rfl ?_ | refine R34 T hs 1 rfl rfl rfl rfl rfl rfl ?_ | refine Zl ?_ rfl) | refine Zi ?_ rfl | refine Zo ?_ rfl | refine A8 ?_) | (refine B0 ?_; first | refine B1 ?_ | refine B2 ?_ | refine B3 ?_ | refine B4 ?_ | refine B5 ?_ | refine B6 ?_ | refine B7 rfl ?_ | refine B8 rfl ?_ | refine E8 ?_ rfl | refine E9 ?_ rfl) | refine C1 ?_ | refine C2 ?_ | refine C3 ?_ | refine C4 ?_ | refine C5 ?_ | refine C6 ?_ | refine C7 ?_ | refine C8 ?_ | refine C9 ?_ | refine D1 rfl ?_ | refine D2 rfl ?_
  first | (refine A0 ?_; first | refine R1 rfl rfl ?_ | refine R2 rfl rfl ?_ | (refine A1 ?_; first | refine D3 rfl rfl ?_ | refine D4 rfl rfl rfl rfl ?_ | refine D5 rfl rfl rfl ?_ | refine E6 ?_ rfl rfl | refine E7 ?_ rfl rfl) | refine Zb ?_ rfl | (refine A3 ?_; first | refine R34 T hs 0 rfl rfl rfl rfl rfl rfl ?_ | refine R34 T hs 1 rfl rfl rfl rfl rfl rfl ?_ | refine Zl ?_ rfl) | refine Zi ?_ rfl | refine Zo ?_ rfl | refine A8 ?_) | (refine B0 ?_; first | refine B1 ?_ | refine B2 ?_ | refine B3 ?_ | refine B4 ?_ | refine B5 ?_ | refine B6 ?_ | refine B7 rfl ?_ | refine B8 rfl ?_ | refine E8 ?_ rfl | refine E9 ?_ rfl) | refine C1 ?_ | refine C2 ?_ | refine C3 ?_ | refine C4 ?_ | refine C5 ?_ | refine C6 ?_ | refine C7 ?_ | refine C8 ?_ | refine C9 ?_ | refine D1 rfl ?_ | refine D2 rfl ?_
  first | (refine A0 ?_; first | refine R1 rfl rfl ?_ | refine R2 rfl rfl ?_ | (refine A1 ?_; first | refine D3 rfl rfl ?_ | refine D4 rfl rfl rfl rfl ?_ | refine D5 rfl rfl rfl ?_ | refine E6 ?_ rfl rfl | refine E7 ?_ rfl rfl) | refine Zb ?_ rfl | (refine A3 ?_; first | refine R34 T hs 0 rfl rfl rfl rfl rfl rfl ?_ | refine R34 T hs 1 rfl rfl rfl rfl rfl rfl ?_ | refine Zl ?_ rfl) | refine Zi ?_ rfl | refine Zo ?_ rfl | refine A8 ?_) | (refine B0 ?_; first | refine B1 ?_ | refine B2 ?_ | refine B3 ?_ | refine B4 ?_ | refine B5 ?_ | refine B6 ?_ | refine B7 rfl ?_ | refine B8 rfl ?_ | refine E8 ?_ rfl | refine E9 ?_ rfl) | refine C1 ?_ | refine C2 ?_ | refine C3 ?_ | refine C4 ?_ | refine C5 ?_ | refine C6 ?_ | refine C7 ?_ | refine C8 ?_ | refine C9 ?_ | refine D1 rfl ?_ | refine D2 rfl ?_
  first | (refine A0 ?_; first | refine R1 rfl rfl ?_ | refine R2 rfl rfl ?_ | (refine A1 ?_; first | refine D3 rfl rfl ?_ | refine D4 rfl rfl rfl rfl ?_ | refine D5 rfl rfl rfl ?_ | refine E6 ?_ rfl rfl | refine E7 ?_ rfl rfl) | refine Zb ?_ rfl | (refine A3 ?_; first | refine R34 T hs 0 rfl rfl rfl rfl rfl rfl ?_ | refine R34 T hs 1 rfl rfl rfl rfl rfl rfl ?_ | refine Zl ?_ rfl) | refine Zi ?_ rfl | refine Zo ?_ rfl | refine A8 ?_) | (refine B0 ?_; first | refine B1 ?_ | refine B2 ?_ | refine B3 ?_ | refine B4 ?_ | refine B5 ?_ | refine B6 ?_ | refine B7 rfl ?_ | refine B8 rfl ?_ | refine E8 ?_ rfl | refine E9 ?_ rfl) | refine C1 ?_ | refine C2 ?_ | refine C3 ?_ | refine C4 ?_ | refine C5 ?_ | refine C6 ?_ | refine C7 ?_ | refine C8 ?_ | refine C9 ?_ | refine D1 rfl ?_ | refine D2 rfl ?_
  first | (refine A0 ?_; first | refine R1 rfl rfl ?_ | refine R2 rfl rfl ?_ | (refine A1 ?_; first | refine D3 rfl rfl ?_ | refine D4 rfl rfl rfl rfl ?_ | refine D5 rfl rfl rfl ?_ | refine E6 ?_ rfl rfl | refine E7 ?_ rfl rfl) | refine Zb ?_ rfl | (refine A3 ?_; first | refine R34 T hs 0 rfl rfl rfl rfl rfl rfl ?_ | refine R34 T hs 1 rfl rfl rfl rfl rfl rfl ?_ | refine Zl ?_ rfl) | refine Zi ?_ rfl | refine Zo ?_ rfl | refine A8 ?_) | (refine B0 ?_; first | refine B1 ?_ | refine B2 ?_ | refine B3 ?_ | refine B4 ?_ | refine B5 ?_ | refine B6 ?_ | refine B7 rfl ?_ | refine B8 rfl ?_ | refine E8 ?_ rfl | refine E9 ?_ rfl) | refine C1 ?_ | refine C2 ?_ | refine C3 ?_ | refine C4 ?_ | refine C5 ?_ | refine C6 ?_ | refine C7 ?_ | refine C8 ?_ | refine C9 ?_ | refine D1 rfl ?_ | refine D2 rfl ?_
  first | (refine A0 ?_; first | refine R1 rfl rfl ?_ | refine R2 rfl rfl ?_ | (refine A1 ?_; first | refine D3 rfl rfl ?_ | refine D4 rfl rfl rfl rfl ?_ | refine D5 rfl rfl rfl ?_ | refine E6 ?_ rfl rfl | refine E7 ?_ rfl rfl) | refine Zb ?_ rfl | (refine A3 ?_; first | refine R34 T hs 0 rfl rfl rfl rfl rfl rfl ?_ | refine R34 T hs 1 rfl rfl rfl rfl rfl rfl ?_ | refine Zl ?_ rfl) | refine Zi ?_ rfl | refine Zo ?_ rfl | refine A8 ?_) | (refine B0 ?_; first | refine B1 ?_ | refine B2 ?_ | refine B3 ?_ | refine B4 ?_ | refine B5 ?_ | refine B6 ?_ | refine B7 rfl ?_ | refine B8 rfl ?_ | refine E8 ?_ rfl | refine E9 ?_ rfl) | refine C1 ?_ | refine C2 ?_ | refine C3 ?_ | refine C4 ?_ | refine C5 ?_ | refine C6 ?_ | refine C7 ?_ | refine C8 ?_ | refine C9 ?_ | refine D1 rfl ?_ | refine D2 rfl ?_
  first | (refine A0 ?_; first | refine R1 rfl rfl ?_ | refine R2 rfl rfl ?_ | (refine A1 ?_; first | refine D3 rfl rfl ?_ | refine D4 rfl rfl rfl rfl ?_ | refine D5 rfl rfl rfl ?_ | refine E6 ?_ rfl rfl | refine E7 ?_ rfl rfl) | refine Zb ?_ rfl | (refine A3 ?_; first | refine R34 T hs 0 rfl rfl rfl rfl rfl rfl ?_ | refine R34 T hs 1 rfl rfl rfl rfl rfl rfl ?_ | refine Zl ?_ rfl) | refine Zi ?_ rfl | refine Zo ?_ rfl | refine A8 ?_) | (refine B0 ?_; first | refine B1 ?_ | refine B2 ?_ | refine B3 ?_ | refine B4 ?_ | refine B5 ?_ | refine B6 ?_ | refine B7 rfl ?_ | refine B8 rfl ?_ | refine E8 ?_ rfl | refine E9 ?_ rfl) | refine C1 ?_ | refine C2 ?_ | refine C3 ?_ | refine C4 ?_ | refine C5 ?_ | refine C6 ?_ | refine C7 ?_ | refine C8 ?_ | refine C9 ?_ | refine D1 rfl ?_ | refine D2 rfl ?_
  first | (refine A0 ?_; first | refine R1 rfl rfl ?_ | refine R2 rfl rfl ?_ | (refine A1 ?_; first | refine D3 rfl rfl ?_ | refine D4 rfl rfl rfl rfl ?_ | refine D5 rfl rfl rfl ?_ | refine E6 ?_ rfl rfl | refine E7 ?_ rfl rfl) | refine Zb ?_ rfl | (refine A3 ?_; first | refine R34 T hs 0 rfl rfl rfl rfl rfl rfl ?_ | refine R34 T hs 1 rfl rfl rfl rfl rfl rfl ?_ | refine Zl ?_ rfl) | refine Zi ?_ rfl | refine Zo ?_ rfl | refine A8 ?_) | (refine B0 ?_; first | refine B1 ?_ | refine B2 ?_ | refine B3 ?_ | refine B4 ?_ | refine B5 ?_ | refine B6 ?_ | refine B7 rfl ?_ | refine B8 rfl ?_ | refine E8 ?_ rfl | refine E9 ?_ rfl) | refine C1 ?_ | refine C2 ?_ | refine C3 ?_ | refine C4 ?_ | refine C5 ?_ | refine C6 ?_ | refine C7 ?_ | refine C8 ?_ | refine C9 ?_ | refine D1 rfl ?_ | refine D2 rfl ?_
  refine CW.meet (fun _ : Unit => [(1, .int .i64 (n : Int)), (2, .int .i64 most), (3, .pointer (some ⟨b1, 0, none⟩)), (8, .slice ad2 ks.length cp2)]) (fun _ w' => (ks.length = n ∨ ks.length = 1) ∧ Sees w h h2 [⟨some ⟨b1, 0, none⟩, 1, 1, 38, 8, vecCells v.kind wv nv sm il fl ch bx⟩] w') ?_ ?_
  · by_cases c1 : ks.length = n
    · refine Zerun ?_
      exact joinQ_meet () ⟨rfl, rfl, rfl, rfl, trivial⟩ ⟨.inl c1, hs⟩
    by_cases c2 : ks.length = 1
    · refine Zerun ?_
      exact joinQ_meet () ⟨rfl, rfl, rfl, rfl, trivial⟩ ⟨.inr c2, hs⟩
    have he : copiesRes ks n most = ([], 23) := by unfold copiesRes; rw [if_pos ⟨c1, c2⟩]
    refine Zerun ?_
    exact retM_ret [_, _] h2 _ ⟨rfl, rfl, trivial⟩ hle2 (hs.dropAll.nilRow 3 1) ⟨none, 0, by rw [he]; rfl, by rw [he]; rfl⟩
  rintro _ w3 ⟨clen, hs⟩
  have hres : copiesRes ks n most = if ((copiesTo ks n).length : Int) ≤ most then (copiesTo ks n, 0) else ([], 26) := by unfold copiesRes; rw [if_neg (by omega)]
  refine Zerun ?_
  (refine RW.call T hs rfl rfl rfl (vecPacked_con _ v _ _ hv') ?_; intro v h4 w4 hle4 hp4 hs)
  obtain ⟨wb, bs, rfl, hb4, hb1, hb2⟩ := hp4
  have hT := hT.mono hle4
  have hS2 := hS2.mono hle4
  have hwo : wb.oneCell' = true := by obtain ⟨_, ws, ⟨_, _, rfl, _⟩, _⟩ := hb4; rfl
  by_cases ck : v.kind = 1 ∧ bs.length = n
  · obtain ⟨ck1, ck2⟩ := ck
    have hv1 := hb1 ck1
    have hkbs : ks = bs.map fun b => if b then 1 else 0 := by
      rw [hks, hv1, List.map_map]
      apply List.map_congr_left
      intro b _
      simp only [Function.comp]
      cases b with
      | true => show (wholeF 4607182418800017408).1 = 1; rw [← fw1, wholeF_fw 1 (by omega)]
      | false => show (wholeF 0).1 = 0; rw [← fw0, wholeF_fw 0 (by omega)]
    have hones : copiesTo ks n = onesL bs := by rw [hkbs, ← ck2]; exact copies_bits bs bs.length (Nat.le_refl _)
    rw [decide_eq_true ck1]
    refine Zerun ?_
    (refine RW.allocN T hs rfl rfl rfl rfl ?_; intro b5 w5 hs)
    refine RW.storeAll T hs 0 rfl rfl rfl rfl rfl rfl (by show (wb.oneCell' && (true && true)) = true; rw [hwo]; rfl) rfl ?_
    intro w6 hs
    refine Zerun ?_
    (refine RW.call T hs rfl rfl rfl (bitsLen_con wb _ _ _) ?_; intro v h7 w7 hle7 hp7 hs)
    subst hp7
    have hT := hT.mono hle7
    have hb4 := hb4.mono hle7
    refine Zerun ?_
    (refine RW.callM T hs rfl rfl rfl ((bitsOnes_conM0 wb bs _ _ hT hb4).framed) ?_; intro v h8 O8 w8 hle8 hp8 hs)
    obtain ⟨_, rfl, ad8, cp8, rfl, rfl⟩ := hp8
    refine Zerun ?_
    (refine RW.call T hs rfl rfl rfl (pickLimited_raw ad8 _ cp8 most _ _) ?_; intro v h9 w9 hle9 hp9 hs)
    subst hp9
    have g9 := (((hle2.trans hle4).trans hle7).trans hle8).trans hle9
    by_cases c : ((onesL bs).length : Int) ≤ most
    · rw [if_pos c, if_pos c]
      refine Zerun ?_
      exact retM_ret [_, _] h9 _ ⟨rfl, rfl, trivial⟩ g9 (hs.swap.drop.swap.drop) ⟨ad8, cp8, by rw [hres, hones, if_pos c]; rfl, by rw [hres, hones, if_pos c]⟩
    · rw [if_neg c, if_neg c]
      refine Zerun ?_
      exact retM_ret [_, _] h9 _ ⟨rfl, rfl, trivial⟩ g9 (hs.dropAll.nilRow 3 1) ⟨none, 0, by rw [hres, hones, if_neg c]; rfl, by rw [hres, hones, if_neg c]; rfl⟩
  refine RW.meet (fun b : Nat => [(1, .int .i64 (n : Int)), (2, .int .i64 most), (3, .pointer (some ⟨b1, 0, none⟩)), (8, .slice ad2 ks.length cp2), (10, .pointer (some ⟨b, 0, none⟩)), (11, .bool (decide (v.kind = 1)))]) (fun b w' => Sees w h h4 [⟨some ⟨b, 0, none⟩, 1, 1, 31, 2, [wb, .int .i64 bs.length]⟩, ⟨some ⟨b1, 0, none⟩, 1, 1, 38, 8, vecCells v.kind wv nv sm il fl ch bx⟩] w') ?_ ?_
  · refine Zerun ?_
    (refine RW.allocN T hs rfl rfl rfl rfl ?_; intro b5 w5 hs)
    refine RW.storeAll T hs 0 rfl rfl rfl rfl rfl rfl (by show (wb.oneCell' && (true && true)) = true; rw [hwo]; rfl) rfl ?_
    intro w6 hs
    refine Zerun ?_
    exact joinQ_meet b5 ⟨rfl, rfl, rfl, rfl, rfl, rfl, trivial⟩ hs
  rintro b5 w5 hs
  refine CW.meet (fun _ : GHeap => [(1, .int .i64 (n : Int)), (2, .int .i64 most), (8, .slice ad2 ks.length cp2)]) (fun r w' => GLe h4 r ∧ Sees w h r [⟨some ⟨b5, 0, none⟩, 1, 1, 31, 2, [wb, .int .i64 bs.length]⟩, ⟨some ⟨b1, 0, none⟩, 1, 1, 38, 8, vecCells v.kind wv nv sm il fl ch bx⟩] w') ?_ ?_
  · by_cases c1 : v.kind = 1
    · have c2 : ¬ bs.length = n := fun e => ck ⟨c1, e⟩
      rw [decide_eq_true c1]
      refine Zerun ?_
      (refine RW.call T hs rfl rfl rfl (bitsLen_con wb _ _ _) ?_; intro v h7 w7 hle7 hp7 hs)
      subst hp7
      refine Zerun ?_
      exact joinQ_meet h7 ⟨rfl, rfl, rfl, trivial⟩ ⟨hle7, hs⟩
    · rw [decide_eq_false c1]
      refine Zerun ?_
      exact joinQ_meet h4 ⟨rfl, rfl, rfl, trivial⟩ ⟨GLe.refl _, hs⟩
  rintro hh w6 ⟨hg, hs⟩
  have hS := hS2.mono hg
  refine Zerun ?_
  have hcm : ∀ i, i < n → i % ks.length < ks.length ∧ -9007199254740992 ≤ cAt ks i ∧ cAt ks i ≤ 9007199254740992 := by
    intro i hi
    have hl : 0 < ks.length := by omega
    have hq := Nat.mod_lt i hl
    exact ⟨hq, hkb _ (mem_getD ks _ 0 hq)⟩
  refine CW.loop (fun i : Nat => [(1, .int .i64 (n : Int)), (2, .int .i64 most), (8, .slice ad2 ks.length cp2), (12, .int .i64 ((copiesTo ks i).length : Int)), (55, .int .i64 (n : Int)), (56, .int .i64 i)]) (fun i w' => i ≤ n ∧ ((copiesTo ks i).length : Int) ≤ most ∧ Sees w h hh [⟨some ⟨b5, 0, none⟩, 1, 1, 31, 2, [wb, .int .i64 bs.length]⟩, ⟨some ⟨b1, 0, none⟩, 1, 1, 38, 8, vecCells v.kind wv nv sm il fl ch bx⟩] w') (fun i => n - i) 0 ⟨rfl, rfl, rfl, rfl, rfl, rfl, trivial⟩ ⟨by omega, hmost.1, hs⟩ ?_
  rintro i w7 ⟨hi, hsum, hs⟩
  by_cases hlt : i < n
  · obtain ⟨hq, hc1, hc2⟩ := hcm i hlt
    have hcg : ks.getD ((i : Int) % (ks.length : Int)).toNat 0 = cAt ks i := by rw [← Int.natCast_emod, Int.toNat_natCast]; rfl
    have hls := copiesTo_len_succ ks i
    generalize cAt ks i = c at hc1 hc2 hcg hls
    have hmx : max c (-c) = ((c.natAbs : Nat) : Int) := by omega
    refine Zerun ?_
    rw [hcg]
    refine RW.val (Y.neg rfl ⟨by omega, by omega⟩) rfl ?_
    refine Zerun ?_
    by_cases c3 : ((copiesTo ks (i + 1)).length : Int) ≤ most
    · refine Zerun ?_
      exact loopQ_round (i + 1) ⟨rfl, rfl, rfl, seti (by rw [hls, hmx]; omega), rfl, rfl, trivial⟩ ⟨by omega, c3, hs⟩ (by omega)
    · have hnot : ¬ ((copiesTo ks n).length : Int) ≤ most := by
        have := copiesTo_mono ks (a := i + 1) (b := n) (by omega)
        omega
      refine Zerun ?_
      exact retM_ret [_, _] hh _ ⟨rfl, rfl, trivial⟩ ((hle2.trans hle4).trans hg) (hs.dropAll.nilRow 3 1) ⟨none, 0, by rw [hres, if_neg hnot]; rfl, by rw [hres, if_neg hnot]; rfl⟩
  obtain rfl : i = n := by omega
  have hs := hs.sub (List.nil_sublist _)
  refine Zerun ?_
  refine RW.make T hs rfl rfl rfl rfl rfl (by omega) (by omega) (by dsimp only; omega) (by omega) ?_
  intro b3 w8 hs
  have hs := hs.re (ys := []) (made_one (.int .i64 0) 0)
  rw [Int.toNat_natCast] at hs ⊢
  have hs : Sees w h hh [⟨some ⟨b3, 0, none⟩, 0, (copiesTo ks i).length, 3, 1, []⟩] w8 := hs
  rw [show (0 : Int).toNat = 0 from rfl]
  refine Zerun ?_
  refine CW.loop (fun u : Nat × Nat × Option Addr × Nat => [(1, .int .i64 (i : Int)), (8, .slice ad2 ks.length cp2), (15, .slice u.2.2.1 u.2.1 u.2.2.2), (81, .int .i64 (i : Int)), (82, .int .i64 u.1)]) (fun u w' => u.1 ≤ i ∧ (copiesTo ks u.1).length = u.2.1 ∧ Sees w h hh [⟨u.2.2.1, u.2.1, u.2.2.2, 3, 1, (copiesTo ks u.1).map (Value.int .i64)⟩] w') (fun u => i - u.1) (0, 0, some ⟨b3, 0, none⟩, (copiesTo ks i).length) ⟨rfl, rfl, rfl, rfl, rfl, trivial⟩ ⟨by omega, rfl, hs⟩ ?_
  rintro ⟨j, m, ra, rc⟩ w9 ⟨hj, hm9, hs⟩
  dsimp only at hj hm9 hs ⊢
  by_cases hlt2 : j < i
  · obtain ⟨hq, hc1, hc2⟩ := hcm j hlt2
    have hcg : ks.getD ((j : Int) % (ks.length : Int)).toNat 0 = cAt ks j := by rw [← Int.natCast_emod, Int.toNat_natCast]; rfl
    have hmono := copiesTo_mono ks (a := j + 1) (b := i) (by omega)
    have hls := copiesTo_len_succ ks j
    have hsu := copiesTo_succ ks j
    generalize cAt ks j = c at hc1 hc2 hcg hls hsu
    obtain ⟨at_, hat⟩ : ∃ z : Int, (if c < 0 then -1 else (j : Int)) = z := ⟨_, rfl⟩
    have hseg : segC c j = List.replicate c.natAbs at_ := by unfold segC; rw [hat]
    refine Zerun ?_
    rw [hcg]
    refine Zerun ?_
    refine CW.meet (fun _ : Unit => [(1, .int .i64 (i : Int)), (8, .slice ad2 ks.length cp2), (15, .slice ra m rc), (17, .int .i64 (c.natAbs : Int)), (18, .int .i64 at_), (81, .int .i64 (i : Int)), (82, .int .i64 j)]) (fun _ w' => Sees w h hh [⟨ra, m, rc, 3, 1, (copiesTo ks j).map (Value.int .i64)⟩] w') ?_ ?_
    · by_cases c4 : c < 0
      · rw [if_pos c4] at hat
        refine Zerun ?_
        refine RW.val (Y.neg rfl ⟨by omega, by omega⟩) rfl ?_
        refine Zerun ?_
        exact joinQ_meet () ⟨rfl, rfl, rfl, seti (by omega), seti hat, rfl, rfl, trivial⟩ hs
      · rw [if_neg c4] at hat
        refine Zerun ?_
        exact joinQ_meet () ⟨rfl, rfl, rfl, seti (by omega), seti hat, rfl, rfl, trivial⟩ hs
    rintro _ w10 hs
    refine Zerun ?_
    refine CW.loop (fun u : Nat × Option Addr × Nat => [(1, .int .i64 (i : Int)), (8, .slice ad2 ks.length cp2), (15, .slice u.2.1 (m + u.1) u.2.2), (18, .int .i64 at_), (81, .int .i64 (i : Int)), (82, .int .i64 j), (97, .int .i64 (c.natAbs : Int)), (98, .int .i64 u.1)]) (fun u w' => u.1 ≤ c.natAbs ∧ Sees w h hh [⟨u.2.1, m + u.1, u.2.2, 3, 1, (copiesTo ks j ++ List.replicate u.1 at_).map (Value.int .i64)⟩] w') (fun u => c.natAbs - u.1) (0, ra, rc) ⟨rfl, rfl, rfl, rfl, rfl, rfl, rfl, rfl, trivial⟩ ⟨by omega, hs.re (by simp)⟩ ?_
    rintro ⟨q, rb, rd⟩ w11 ⟨hq9, hs⟩
    dsimp only at hq9 hs ⊢
    by_cases hq8 : q < c.natAbs
    · refine Zerun ?_
      (refine RW.lit T hs (vs := [.int .i64 at_]) (cs := [.int .i64 at_]) rfl rfl rfl rfl (by simp [Value.cells]) rfl rfl rfl rfl rfl ?_; intro b6 w6 hs)
      (refine RW.append T hs 1 rfl rfl (m := 1) (news := [.int .i64 at_]) rfl rfl rfl rfl rfl rfl (hs.src0 rfl (by simp [Value.oneCell'])) (by simp) (by dsimp only; omega) (by omega) ?_; intro ad7 cp7 w7 hs; replace hs := hs.drop)
      refine Zerun ?_
      exact loopQ_round (q + 1, ad7, cp7) ⟨rfl, rfl, rfl, rfl, rfl, rfl, rfl, rfl, trivial⟩ ⟨by dsimp only; omega, hs.re (by dsimp only; rw [List.replicate_succ', ← List.append_assoc, List.map_append (l₁ := copiesTo ks j ++ List.replicate q at_)]; rfl)⟩ (by dsimp only; omega)
    · obtain rfl : q = c.natAbs := by omega
      refine Zerun ?_
      exact loopQ_round (j + 1, m + c.natAbs, rb, rd) ⟨rfl, rfl, rfl, rfl, rfl, trivial⟩ ⟨by dsimp only; omega, by dsimp only; omega, hs.re (by dsimp only; rw [hsu, hseg])⟩ (by dsimp only; omega)
  have hs9 := hs
  obtain rfl : j = i := by omega
  rw [← hm9] at hs9 ⊢
  have hs := hs9
  refine Zerun ?_
  exact retM_ret [_, _] hh _ ⟨rfl, rfl, trivial⟩ ((hle2.trans hle4).trans hg) hs ⟨ra, rc, by rw [hres, if_pos hsum]; rfl, by rw [hres, if_pos hsum]⟩
end
section
variable {β : Type} {R : GHeap → List Value → β → Prop}
theorem refAlong2_con (hR : Mono R) (v v1 : Value) (l : List (ItemD (PlainD β))) (c : Int) (outer n inner : Nat) (at_ : List Int) (w : World) (h : GHeap) (hl : RowsAt 4 (ItemAt (PlainR R) h) h v l) (ha : IntsAt h v1 at_) (hlen : l.length = outer * n * inner) (hlm : l.length ≤ 1048576) (hm : outer * (at_.length * inner) ≤ 1048576) (hoi : outer ≤ 1048576 ∧ inner ≤ 1048576 ∧ n ≤ 1048576) (hal : at_.length ≤ 1048576) : Con Tryz.prog 119 [v, .int .i64 c, .int .i64 (outer : Int), .int .i64 (n : Int), .int .i64 (inner : Int), v1] w h (fun h' u => RowsAt 4 (ItemAt (PlainR R) h') h' u ((alongL outer n inner at_).map fun i => atD l i (blankI c))) := by
  have hRI := ItemAt.mono (PlainR.mono hR)
  obtain ⟨ad, cp, xs, rfl, hS, hA⟩ := hl
  obtain ⟨ad1, cp1, rfl, hS1⟩ := ha
  have hwb : ∀ o j k, o < outer → j < at_.length → k < inner → (alO n inner o at_ j k).length ≤ 1048576 := by
    intro o j k h1 h2 h3
    unfold alO
    rw [List.length_append, List.length_append, alongL_len, List.length_map, List.length_range, List.length_flatMap]
    have e1 : ((at_.take j).map fun i => ((List.range inner).map fun k => alongI n inner o i k).length) = (at_.take j).map fun _ => inner := by
      apply List.map_congr_left
      intro i _
      rw [List.length_map, List.length_range]
    rw [e1, sum_const, List.length_take, Nat.min_eq_left (by omega)]
    have e2 : (o + 1) * (at_.length * inner) ≤ outer * (at_.length * inner) := Nat.mul_le_mul_right _ h1
    have e3 : (j + 1) * inner ≤ at_.length * inner := Nat.mul_le_mul_right _ h2
    rw [Nat.add_mul, Nat.one_mul] at e2 e3
    omega
  refine Con.of_body Tryz.func119 rfl Tryz.ntmps119 rfl rfl ?_
  intro hs
  refine Zerun ?_
  have hs := hs.nilRow 70 4
  refine CW.loop (fun u : Nat × Nat × Option Addr × Nat × List Value × GHeap => [(0, .slice ad l.length cp), (1, .int .i64 c), (2, .int .i64 (outer : Int)), (3, .int .i64 (n : Int)), (4, .int .i64 (inner : Int)), (5, .slice ad1 at_.length cp1), (13, .slice u.2.2.1 u.2.1 u.2.2.2.1), (14, .int .i64 u.1)]) (fun u w' => u.1 ≤ outer ∧ (alO n inner u.1 at_ 0 0).length = u.2.1 ∧ GLe h u.2.2.2.2.2 ∧ AllN 4 (ItemAt (PlainR R) u.2.2.2.2.2) u.2.2.2.2.1 ((alO n inner u.1 at_ 0 0).map fun i => atD l i (blankI c)) ∧ Sees w h u.2.2.2.2.2 [⟨u.2.2.1, u.2.1, u.2.2.2.1, 70, 4, u.2.2.2.2.1⟩] w') (fun u => outer - u.1) (0, 0, none, 0, [], h) ⟨rfl, rfl, rfl, rfl, rfl, rfl, rfl, rfl, trivial⟩ ⟨by omega, rfl, GLe.refl _, rfl, hs⟩ ?_
  rintro ⟨o, m, ra, rc, vs, hh⟩ w5 ⟨ho, hml, hg, hAv, hs⟩
  dsimp only at ho hml hg hAv hs ⊢
  by_cases ho1 : o < outer
  · refine Zerun ?_
    refine CW.loop (fun u : Nat × Nat × Option Addr × Nat × List Value × GHeap => [(0, .slice ad l.length cp), (1, .int .i64 c), (2, .int .i64 (outer : Int)), (3, .int .i64 (n : Int)), (4, .int .i64 (inner : Int)), (5, .slice ad1 at_.length cp1), (13, .slice u.2.2.1 u.2.1 u.2.2.2.1), (14, .int .i64 (o : Int)), (15, .int .i64 u.1)]) (fun u w' => u.1 ≤ at_.length ∧ (alO n inner o at_ u.1 0).length = u.2.1 ∧ GLe h u.2.2.2.2.2 ∧ AllN 4 (ItemAt (PlainR R) u.2.2.2.2.2) u.2.2.2.2.1 ((alO n inner o at_ u.1 0).map fun i => atD l i (blankI c)) ∧ Sees w h u.2.2.2.2.2 [⟨u.2.2.1, u.2.1, u.2.2.2.1, 70, 4, u.2.2.2.2.1⟩] w') (fun u => at_.length - u.1) (0, m, ra, rc, vs, hh) ⟨rfl, rfl, rfl, rfl, rfl, rfl, rfl, rfl, rfl, trivial⟩ ⟨by dsimp only; omega, hml, hg, hAv, hs⟩ ?_
    rintro ⟨j, m2, rb, rd, vs2, h2⟩ w6 ⟨hj, hml2, hg2, hAv2, hs⟩
    dsimp only at hj hml2 hg2 hAv2 hs ⊢
    by_cases hj1 : j < at_.length
    · refine Zerun ?_
      refine CW.loop (fun u : Nat × Nat × Option Addr × Nat × List Value × GHeap => [(0, .slice ad l.length cp), (1, .int .i64 c), (2, .int .i64 (outer : Int)), (3, .int .i64 (n : Int)), (4, .int .i64 (inner : Int)), (5, .slice ad1 at_.length cp1), (13, .slice u.2.2.1 u.2.1 u.2.2.2.1), (14, .int .i64 (o : Int)), (15, .int .i64 (j : Int)), (16, .int .i64 u.1)]) (fun u w' => u.1 ≤ inner ∧ (alO n inner o at_ j u.1).length = u.2.1 ∧ GLe h u.2.2.2.2.2 ∧ AllN 4 (ItemAt (PlainR R) u.2.2.2.2.2) u.2.2.2.2.1 ((alO n inner o at_ j u.1).map fun i => atD l i (blankI c)) ∧ Sees w h u.2.2.2.2.2 [⟨u.2.2.1, u.2.1, u.2.2.2.1, 70, 4, u.2.2.2.2.1⟩] w') (fun u => inner - u.1) (0, m2, rb, rd, vs2, h2) ⟨rfl, rfl, rfl, rfl, rfl, rfl, rfl, rfl, rfl, rfl, trivial⟩ ⟨by dsimp only; omega, hml2, hg2, hAv2, hs⟩ ?_
      rintro ⟨k, m3, re, rf, vs3, h3⟩ w7 ⟨hk, hml3, hg3, hAv3, hs⟩
      dsimp only at hk hml3 hg3 hAv3 hs ⊢
      have hSh := hS.mono hg3
      have hS1h := hS1.mono hg3
      by_cases hk1 : k < inner
      · have hwk := hwb o j k (by omega) (by omega) (by omega)
        have hsuc := alO_k n inner o at_ j k
        have hsl : (alO n inner o at_ j (k + 1)).length = m3 + 1 := by rw [hsuc, List.length_append, hml3]; rfl
        have done : ∀ (h6 : GHeap) (cs6 : List Value) (x : ItemD (PlainD β)), GLe h3 h6 → cs6.length = 4 → ItemAt (PlainR R) h6 cs6 x → x = atD l (alongI n inner o (at_.getD j 0) k) (blankI c) → AllN 4 (ItemAt (PlainR R) h6) (vs3 ++ cs6) ((alO n inner o at_ j (k + 1)).map fun i => atD l i (blankI c)) := by
          intro h6 cs6 x hle6 hl6 hi6 hx
          rw [hsuc, List.map_append]
          show AllN 4 _ (vs3 ++ cs6) (_ ++ [atD l (alongI n inner o (at_.getD j 0) k) (blankI c)])
          rw [← hx]
          exact (hAv3.mono (fun u a => hRI _ _ u a hle6)).append (AllN.one hl6 hi6)
        by_cases c1 : at_.getD j 0 < 0
        · have hI : alongI n inner o (at_.getD j 0) k = -1 := by unfold alongI; rw [if_neg (by omega)]
          refine Zerun ?_
          (refine RW.call T hs rfl rfl rfl (refBlank08_con hR c _ _) ?_; intro v h6 w6 hle6 hp6 hs)
          obtain ⟨cs6, rfl, hi6⟩ := hp6
          have hl6 : cs6.length = 4 := by obtain ⟨_, rfl, _⟩ := hi6; rfl
          have ho6 := ItemAt.one _ _ _ hi6
          (refine RW.lit T hs (vs := [.agg cs6.toArray]) (cs := cs6) rfl rfl rfl rfl (by simp [Value.cells, hl6]) rfl (by simp [Value.cells]) rfl rfl rfl ?_; intro b7 w7 hs)
          (refine RW.append T hs 1 rfl rfl (m := 1) (news := cs6) rfl rfl rfl rfl rfl rfl (hs.src0 (by simpa using hl6) ho6) (by simp) (by dsimp only; omega) (by omega) ?_; intro ad8 cp8 w8 hs; replace hs := hs.drop)
          refine Zerun ?_
          exact loopQ_round (k + 1, m3 + 1, ad8, cp8, vs3 ++ cs6, h6) ⟨rfl, rfl, rfl, rfl, rfl, rfl, rfl, rfl, rfl, rfl, trivial⟩ ⟨by dsimp only; omega, hsl, hg3.trans hle6, done h6 cs6 _ hle6 hl6 hi6 (by rw [hI]; exact (atD_out (by omega)).symm), hs⟩ (by dsimp only; omega)
        by_cases c2 : (n : Int) ≤ at_.getD j 0
        · have hI : alongI n inner o (at_.getD j 0) k = -1 := by unfold alongI; rw [if_neg (by omega)]
          refine Zerun ?_
          (refine RW.call T hs rfl rfl rfl (refBlank08_con hR c _ _) ?_; intro v h6 w6 hle6 hp6 hs)
          obtain ⟨cs6, rfl, hi6⟩ := hp6
          have hl6 : cs6.length = 4 := by obtain ⟨_, rfl, _⟩ := hi6; rfl
          have ho6 := ItemAt.one _ _ _ hi6
          (refine RW.lit T hs (vs := [.agg cs6.toArray]) (cs := cs6) rfl rfl rfl rfl (by simp [Value.cells, hl6]) rfl (by simp [Value.cells]) rfl rfl rfl ?_; intro b7 w7 hs)
          (refine RW.append T hs 1 rfl rfl (m := 1) (news := cs6) rfl rfl rfl rfl rfl rfl (hs.src0 (by simpa using hl6) ho6) (by simp) (by dsimp only; omega) (by omega) ?_; intro ad8 cp8 w8 hs; replace hs := hs.drop)
          refine Zerun ?_
          exact loopQ_round (k + 1, m3 + 1, ad8, cp8, vs3 ++ cs6, h6) ⟨rfl, rfl, rfl, rfl, rfl, rfl, rfl, rfl, rfl, rfl, trivial⟩ ⟨by dsimp only; omega, hsl, hg3.trans hle6, done h6 cs6 _ hle6 hl6 hi6 (by rw [hI]; exact (atD_out (by omega)).symm), hs⟩ (by dsimp only; omega)
        obtain ⟨q, hq⟩ : ∃ q : Nat, at_.getD j 0 = (q : Int) := ⟨(at_.getD j 0).toNat, by omega⟩
        have hqn : q < n := by omega
        have hI : alongI n inner o (at_.getD j 0) k = (((o * n + q) * inner + k : Nat) : Int) := by unfold alongI; rw [if_pos (by omega), hq, Int.toNat_natCast]
        have hix : (o * n + q) * inner + k < l.length := by rw [hlen]; exact along_ix ho1 hqn hk1
        obtain ⟨y, hy, hyl, hRy⟩ := hA.elem _ hix
        have hoy := ItemAt.one _ _ _ hRy
        have hRy := hRI _ _ _ _ hg3 hRy
        have hb1 : o * n + q ≤ (o * n + q) * inner := Nat.le_mul_of_pos_right _ (by omega)
        refine Zerun ?_
        refine RW.val (Y.mul rfl rfl (by rw [← Int.natCast_mul]; omega)) rfl ?_
        refine RW.respell (t := 55) (v := .int .i64 ((o * n : Nat) : Int)) rfl (by rw [Int.natCast_mul]) ?_
        refine Zerun ?_
        refine RW.respell (t := 60) (v := .int .i64 ((o * n + q : Nat) : Int)) rfl (by rw [hq, Int.natCast_add]) ?_
        refine RW.val (Y.mul rfl rfl (by rw [← Int.natCast_mul]; omega)) rfl ?_
        refine RW.respell (t := 62) (v := .int .i64 (((o * n + q) * inner : Nat) : Int)) rfl (by rw [Int.natCast_mul]) ?_
        first | (refine A0 ?_; first | refine R1 rfl rfl ?_ | refine R2 rfl rfl ?_ | (refine A1 ?_; first | refine D3 rfl rfl ?_ | refine D4 rfl rfl rfl rfl ?_ | refine D5 rfl rfl rfl ?_ | refine E6 ?_ rfl rfl | refine E7 ?_ rfl rfl) | refine Zb ?_ rfl | (refine A3 ?_; first | refine R34 T hs 0 rfl rfl rfl rfl rfl rfl ?_ | refine R34 T hs 1 rfl rfl rfl rfl rfl rfl ?_ | refine Zl ?_ rfl) | refine Zi ?_ rfl | refine Zo ?_ rfl | refine A8 ?_) | (refine B0 ?_; first | refine B1 ?_ | refine B2 ?_ | refine B3 ?_ | refine B4 ?_ | refine B5 ?_ | refine B6 ?_ | refine B7 rfl ?_ | refine B8 rfl ?_ | refine E8 ?_ rfl | refine E9 ?_ rfl) | refine C1 ?_ | refine C2 ?_ | refine C3 ?_ | refine C4 ?_ | refine C5 ?_ | refine C6 ?_ | refine C7 ?_ | refine C8 ?_ | refine C9 ?_ | refine D1 rfl ?_ | refine D2 rfl ?_
        first | (refine A0 ?_; first | refine R1 rfl rfl ?_ | refine R2 rfl rfl ?_ | (refine A1 ?_; first | refine D3 rfl rfl ?_ | refine D4 rfl rfl rfl rfl ?_ | refine D5 rfl rfl rfl ?_ | refine E6 ?_ rfl rfl | refine E7 ?_ rfl rfl) | refine Zb ?_ rfl | (refine A3 ?_; first | refine R34 T hs 0 rfl rfl rfl rfl rfl rfl ?_ | refine R34 T hs 1 rfl rfl rfl rfl rfl rfl ?_ | refine Zl ?_ rfl) | refine Zi ?_ rfl | refine Zo ?_ rfl | refine A8 ?_) | (refine B0 ?_; first | refine B1 ?_ | refine B2 ?_ | refine B3 ?_ | refine B4 ?_ | refine B5 ?_ | refine B6 ?_ | refine B7 rfl ?_ | refine B8 rfl ?_ | refine E8 ?_ rfl | refine E9 ?_ rfl) | refine C1 ?_ | refine C2 ?_ | refine C3 ?_ | refine C4 ?_ | refine C5 ?_ | refine C6 ?_ | refine C7 ?_ | refine C8 ?_ | refine C9 ?_ | refine D1 rfl ?_ | refine D2 rfl ?_
        refine RW.respell (t := 64) (v := .int .i64 (((o * n + q) * inner + k : Nat) : Int)) rfl (by rw [Int.natCast_add]) ?_
        refine Zerun ?_
        (refine RW.lit T hs (vs := [.agg y.toArray]) (cs := y) rfl rfl rfl rfl (by simp [Value.cells, hyl]) rfl (by simp [Value.cells]) rfl rfl rfl ?_; intro b7 w7 hs)
        (refine RW.append T hs 1 rfl rfl (m := 1) (news := y) rfl rfl rfl rfl rfl rfl (hs.src0 (by simpa using hyl) hoy) (by simp) (by dsimp only; omega) (by omega) ?_; intro ad8 cp8 w8 hs; replace hs := hs.drop)
        refine Zerun ?_
        exact loopQ_round (k + 1, m3 + 1, ad8, cp8, vs3 ++ y, h3) ⟨rfl, rfl, rfl, rfl, rfl, rfl, rfl, rfl, rfl, rfl, trivial⟩ ⟨by dsimp only; omega, hsl, hg3, done h3 y _ (GLe.refl _) hyl hRy (by rw [hI, atD_in ⟨by omega, by omega⟩, Int.toNat_natCast]; exact getElem_getD l _ _ hix), hs⟩ (by dsimp only; omega)
      · obtain rfl : k = inner := by omega
        rw [← alO_j n k o at_ j hj1] at hml3 hAv3
        refine Zerun ?_
        exact loopQ_round (j + 1, m3, re, rf, vs3, h3) ⟨rfl, rfl, rfl, rfl, rfl, rfl, rfl, rfl, rfl, trivial⟩ ⟨by dsimp only; omega, hml3, hg3, hAv3, hs⟩ (by dsimp only; omega)
    · obtain rfl : j = at_.length := by omega
      rw [← alO_o n inner o at_] at hml2 hAv2
      refine Zerun ?_
      exact loopQ_round (o + 1, m2, rb, rd, vs2, h2) ⟨rfl, rfl, rfl, rfl, rfl, rfl, rfl, rfl, trivial⟩ ⟨by dsimp only; omega, hml2, hg2, hAv2, hs⟩ (by dsimp only; omega)
  · have hs9 := hs
    obtain rfl : o = outer := by omega
    have e : alO n inner o at_ 0 0 = alongL o n inner at_ := by unfold alO; simp
    rw [e] at hml hAv
    obtain ⟨h6, hle6, hs, hS6⟩ := hs9.freeze
    refine Zerun ?_
    exact retQ_ret [_] h6 ⟨rfl, trivial⟩ hs.dropAll ⟨ra, rc, vs, by rw [List.length_map, hml]; rfl, by rw [List.length_map, hml]; exact hS6, hAv.mono (fun u a => hRI _ _ u a hle6)⟩
end
end Go.Proofs.YtmojpbfkpggjhaaGreatDoor

/-
  Contracts of math/bits.OnesCount64 and of bitvec's Count: how many bits are true. No statement is proved here.
-/
namespace Go.Proofs.YtmojpbfkpggjhaaGreatDoor
open Go Go.RowKit
set_option linter.unusedVariables false
set_option linter.unusedSimpArgs false
set_option maxHeartbeats 4000000
attribute [local irreducible] CW RW QW SW HW ConM retM heldQ calmQ elemP thenQ blockQ loopQ joinQ retQ Yields Con Sl zF magR unitF truncF fwF wholeF tidySpec elemQ rankF leastN tidyW
set_option maxHeartbeats 4000000

/-- true ones among the first truths, by words -/
theorem cnt_onesTo (bs : List Bool) (x i : Nat) (h : ∀ j, j < 64 → x.testBit j = bs.getD (64 * i + j) false) (t : Nat) (ht : t ≤ 64) : (onesTo bs (64 * i + t)).length = (onesTo bs (64 * i)).length + cntB x t := by
  induction t with
  | zero => rw [Nat.add_zero, cntB_zero, Nat.add_zero]
  | succ t ih =>
    have ih := ih (by omega)
    have hb := h t (by omega)
    rw [cntB_succ, hb, ← Nat.add_assoc, onesTo_succ]
    by_cases c : bs.getD (64 * i + t) false = true
    · rw [if_pos c, if_pos c, List.length_append, ih]
      rfl
    · rw [if_neg c, if_neg c, ih]
      rfl
theorem onesCountX_con (x : Nat) (w : World) (h : GHeap) (hx : x < 18446744073709551616) : Con Tryz.prog 157 [.int .u64 (x : Int)] w h (fun _ u => u = .int .i64 (cntB x 64 : Nat)) := by
  obtain ⟨y, hy, hyb, hpop⟩ := pop_spec x
  have hp : ppN 8 x = pp3 8 (pp2 8 (pp1 8 x)) := rfl
  rw [hy] at hp
  unfold pp3 pp2 pp1 at hp
  rw [reps_85, reps_51, reps_15] at hp
  refine Con.of_body Tryz.func157 rfl Tryz.ntmps157 rfl rfl ?_
  intro hs
  refine Zrun ?_
  have a1 : (x >>> 1) &&& 6148914691236517205 ≤ 6148914691236517205 := Nat.and_le_right
  have a2 : x &&& 6148914691236517205 ≤ 6148914691236517205 := Nat.and_le_right
  refine RW.val (Y.shrU (u := x) (v := 1) rfl rfl (by omega)) rfl ?_
  refine RW.val (Y.andU (v := 6148914691236517205) rfl rfl (by rw [Nat.shiftRight_eq_div_pow]; omega) (by omega)) rfl ?_
  refine Zerun ?_
  refine RW.val (Y.andU (u := x) (v := 6148914691236517205) rfl rfl hx (by omega)) rfl ?_
  refine RW.val (Y.addU rfl rfl (by omega)) rfl ?_
  obtain ⟨x1, hx1⟩ : ∃ z, ((x >>> 1) &&& 6148914691236517205) + (x &&& 6148914691236517205) = z := ⟨_, rfl⟩
  rw [hx1] at hp ⊢
  have b1 : x1 < 18446744073709551616 := by omega
  have a3 : (x1 >>> 2) &&& 3689348814741910323 ≤ 3689348814741910323 := Nat.and_le_right
  have a4 : x1 &&& 3689348814741910323 ≤ 3689348814741910323 := Nat.and_le_right
  refine Zerun ?_
  refine RW.val (Y.shrU (u := x1) (v := 2) rfl rfl (by omega)) rfl ?_
  refine RW.val (Y.andU (v := 3689348814741910323) rfl rfl (by rw [Nat.shiftRight_eq_div_pow]; omega) (by omega)) rfl ?_
  refine Zerun ?_
  refine RW.val (Y.andU (u := x1) (v := 3689348814741910323) rfl rfl b1 (by omega)) rfl ?_
  refine RW.val (Y.addU rfl rfl (by omega)) rfl ?_
  obtain ⟨x2, hx2⟩ : ∃ z, ((x1 >>> 2) &&& 3689348814741910323) + (x1 &&& 3689348814741910323) = z := ⟨_, rfl⟩
  rw [hx2] at hp ⊢
  have b2 : x2 ≤ 7378697629483820646 := by omega
  have b3 : x2 >>> 4 ≤ 461168601842738790 := by rw [Nat.shiftRight_eq_div_pow]; omega
  refine Zerun ?_
  refine RW.val (Y.shrU (u := x2) (v := 4) rfl rfl (by omega)) rfl ?_
  refine Zerun ?_
  refine RW.val (Y.addU (v := x2) rfl rfl (by omega)) rfl ?_
  refine RW.val (Y.andU (v := 1085102592571150095) rfl rfl (by omega) (by omega)) rfl ?_
  rw [← hp]
  have c1 : y >>> 8 ≤ 4521260802379792 := by rw [Nat.shiftRight_eq_div_pow]; omega
  refine Zerun ?_
  refine RW.val (Y.shrU (u := y) (v := 8) rfl rfl (by omega)) rfl ?_
  refine RW.val (Y.addU (u := y) rfl rfl (by omega)) rfl ?_
  obtain ⟨z1, hz1⟩ : ∃ z, y + y >>> 8 = z := ⟨_, rfl⟩
  rw [hz1] at hpop ⊢
  have c2 : z1 >>> 16 ≤ 18000000000000 := by rw [Nat.shiftRight_eq_div_pow]; omega
  refine Zerun ?_
  refine RW.val (Y.shrU (u := z1) (v := 16) rfl rfl (by omega)) rfl ?_
  refine RW.val (Y.addU (u := z1) rfl rfl (by omega)) rfl ?_
  obtain ⟨z2, hz2⟩ : ∃ z, z1 + z1 >>> 16 = z := ⟨_, rfl⟩
  rw [hz2] at hpop ⊢
  have c3 : z2 >>> 32 ≤ 300000000 := by rw [Nat.shiftRight_eq_div_pow]; omega
  refine Zerun ?_
  refine RW.val (Y.shrU (u := z2) (v := 32) rfl rfl (by omega)) rfl ?_
  refine RW.val (Y.addU (u := z2) rfl rfl (by omega)) rfl ?_
  obtain ⟨z3, hz3⟩ : ∃ z, z2 + z2 >>> 32 = z := ⟨_, rfl⟩
  rw [hz3] at hpop ⊢
  refine Zerun ?_
  refine RW.val (Y.conv64 (u := (z3 : Int)) T rfl rfl rfl (by omega)) rfl ?_
  refine RW.val (Y.andI (u := z3) (v := 127) rfl rfl (by omega) (by omega)) rfl ?_
  rw [show z3 &&& 127 = z3 % 128 from Nat.and_two_pow_sub_one_eq_mod z3 7, hpop]
  refine Zerun ?_
  exact retQ_ret [_] h ⟨rfl, trivial⟩ hs.dropAll rfl
theorem bitsCountX_con (wv : Value) (bs : List Bool) (w : World) (h : GHeap) (hb : BitsAt h wv bs) : Con Tryz.prog 122 [.agg [wv, .int .i64 bs.length].toArray] w h (fun _ u => u = .int .i64 ((onesL bs).length : Nat)) := by
  obtain ⟨hlen, ws, ⟨ad, cp, rfl, hS⟩, hw, hr, hbit⟩ := hb
  have hwl : ws.length ≤ 16385 := by omega
  have hword : ∀ i j : Nat, j < 64 → (ws.getD i 0).toNat.testBit j = bs.getD (64 * i + j) false := by
    intro i j hj
    rw [← hbit (64 * i + j), show (64 * i + j) / 64 = i by omega, show (64 * i + j) % 64 = j by omega]
  refine Con.of_body Tryz.func122 rfl Tryz.ntmps122 rfl rfl ?_
  intro hs
  refine Zrun ?_
  (refine RW.boxN hs rfl rfl ?_; intro b1 w1 hs)
  refine Zerun ?_
  refine CW.loop (fun r : Nat => [(1, .pointer (some ⟨b1, 0, none⟩)), (3, .int .i64 ((onesTo bs (64 * r)).length : Nat)), (7, .slice ad ws.length cp), (8, .int .i64 (ws.length : Int)), (9, .int .i64 r)]) (fun r w' => r ≤ ws.length ∧ (onesTo bs (64 * r)).length ≤ 64 * r ∧ ∃ h', GLe h h' ∧ Sees w h h' [⟨some ⟨b1, 0, none⟩, 1, 1, 31, 2, [.slice ad ws.length cp, .int .i64 bs.length]⟩] w') (fun r => ws.length - r) 0 ⟨rfl, rfl, rfl, rfl, rfl, trivial⟩ ⟨by omega, Nat.le_refl _, h, GLe.refl _, hs⟩ ?_
  rintro i w2 ⟨hi, hm, h2, hg, hs⟩
  have hS2 := hS.mono hg
  by_cases hlt : i < ws.length
  · obtain ⟨x, hx⟩ : ∃ x : Nat, ws.getD i 0 = (x : Int) := Int.eq_ofNat_of_zero_le (hr _ (mem_getD ws i 0 hlt)).1
    have hx2 : x < 18446744073709551616 := by have := (hr _ (mem_getD ws i 0 hlt)).2; omega
    have hwd : ∀ j, j < 64 → x.testBit j = bs.getD (64 * i + j) false := fun j hj => by have := hword i j hj; rw [hx, Int.toNat_natCast] at this; exact this
    have hc := cnt_onesTo bs x i hwd 64 (Nat.le_refl _)
    have hcl := cntB_le x 64
    rw [show 64 * i + 64 = 64 * (i + 1) by omega] at hc
    refine Zerun ?_
    rw [hx]
    (refine RW.call T hs rfl rfl rfl (onesCountX_con x _ _ hx2) ?_; intro v h3 w3 hle3 hp3 hs)
    subst hp3
    refine Zerun ?_
    exact loopQ_round (i + 1) ⟨rfl, seti (by rw [hc]; omega), rfl, rfl, rfl, trivial⟩ ⟨by omega, by omega, h3, hg.trans hle3, hs⟩ (by omega)
  · obtain rfl : i = ws.length := by omega
    have e : onesTo bs (64 * ws.length) = onesL bs := onesTo_ge (by omega)
    rw [e]
    refine Zerun ?_
    exact retQ_ret [_] h2 ⟨rfl, trivial⟩ hs.dropAll rfl
end Go.Proofs.YtmojpbfkpggjhaaGreatDoor

/-
  Contracts of pick.Expand and of the document's: the places of a mask; the document's Copies that hands its row over. No statement is proved here.
-/
namespace Go.Proofs.YtmojpbfkpggjhaaGreatDoor
open Go Go.RowKit
set_option linter.unusedVariables false
set_option linter.unusedSimpArgs false
set_option maxHeartbeats 4000000
attribute [local irreducible] CW RW QW SW HW ConM retM heldQ calmQ elemP thenQ blockQ loopQ joinQ retQ Yields Con Sl zF magR unitF truncF fwF wholeF tidySpec elemQ rankF leastN tidyW
set_option maxHeartbeats 4000000

def expI (bs : List Bool) (n i : Nat) : Int := if bs.getD i false = true then (if n = 1 then 0 else ((onesTo bs i).length : Int)) else -1
def expTo (bs : List Bool) (n m : Nat) : List Int := (List.range m).map (expI bs n)
def expRes (bs : List Bool) (n : Nat) : List Int × Int := if (onesL bs).length ≠ n ∧ n ≠ 1 then ([], 23) else (expTo bs n bs.length, 0)
def nextN (bs : List Bool) (n i : Nat) : Int := if n = 1 then 0 else ((onesTo bs i).length : Int)
theorem expTo_len (bs : List Bool) (n m : Nat) : (expTo bs n m).length = m := by unfold expTo; rw [List.length_map, List.length_range]
theorem expTo_succ (bs : List Bool) (n m : Nat) : expTo bs n (m + 1) = expTo bs n m ++ [expI bs n m] := by unfold expTo; rw [List.range_succ, List.map_append]; rfl
theorem next_yes {bs : List Bool} {n i : Nat} (h : bs.getD i false = true) : nextN bs n (i + 1) = if n = 1 then 0 else nextN bs n i + 1 := by
  unfold nextN
  by_cases c : n = 1
  · rw [if_pos c, if_pos c]
  · rw [if_neg c, if_neg c, if_neg c, onesTo_succ, if_pos h, List.length_append]
    simp
theorem next_no {bs : List Bool} {n i : Nat} (h : ¬ bs.getD i false = true) : nextN bs n (i + 1) = nextN bs n i := by
  unfold nextN
  by_cases c : n = 1
  · rw [if_pos c, if_pos c]
  · rw [if_neg c, if_neg c, onesTo_succ, if_neg h]
theorem expI_yes {bs : List Bool} {n i : Nat} (h : bs.getD i false = true) : expI bs n i = nextN bs n i := if_pos h
theorem expI_no {bs : List Bool} {n i : Nat} (h : ¬ bs.getD i false = true) : expI bs n i = -1 := if_neg h
theorem next_rng (bs : List Bool) (n i : Nat) : 0 ≤ nextN bs n i ∧ nextN bs n i ≤ i := by
  have := onesTo_len bs i
  unfold nextN
  split <;> omega
def expandS (c : Int) (nums : List Nat) (n : Nat) : List Int × Int := if c = 0 ∧ truthsB nums = true then expRes (bsOf nums) n else ([], 24)
theorem onesTo_mono2 (bs : List Bool) {a b : Nat} (h : a ≤ b) : (onesTo bs a).length ≤ (onesTo bs b).length := by
  induction b with
  | zero => rw [Nat.le_zero.1 h]; exact Nat.le_refl _
  | succ b ih =>
    by_cases c : a = b + 1
    · rw [c]; exact Nat.le_refl _
    · have := ih (by omega)
      rw [onesTo_succ]
      split
      · rw [List.length_append]; omega
      · exact this
theorem set_mid {γ : Type} {A : List γ} {i : Nat} (h : A.length = i) (x z : γ) (S : List γ) : (A ++ x :: S).set i z = A ++ z :: S := by
  rw [← h, List.set_append_right _ _ (Nat.le_refl _), Nat.sub_self, List.set_cons_zero]
section
variable {α : Type} {R : GHeap → List Value → α → Prop}
theorem pickExpand_con (hR : Mono R) (cs : List Value) (v : VecD α) (n : Nat) (w : World) (h : GHeap) (hv : VecAt R h cs v) (hm : v.len ≤ 1048576) (hk0 : v.kind ≠ 0) (hn : n ≤ 1048576) : Con Tryz.prog 54 [.agg cs.toArray, .int .i64 (n : Int)] w h (fun h' u => ∃ s, u = .tuple #[s, .int .i64 (expandS v.cls v.nums n).2] ∧ IntsAt h' s (expandS v.cls v.nums n).1) := by
  have hv' := hv
  obtain ⟨wv, nv, sm, il, fl, ch, bx, ⟨rfl, hoc⟩, _⟩ := hv
  refine Con.of_body Tryz.func54 rfl Tryz.ntmps54 rfl rfl ?_
  intro hs
  refine Zrun ?_
  (refine RW.boxN hs rfl rfl ?_; intro b1 w1 hs)
  refine Zerun ?_
  (refine RW.call T hs rfl rfl rfl (logicTruths_con hR _ v _ _ hv' hm hk0) ?_; intro v h2 w2 hle2 hp2 hs)
  obtain ⟨wb, bs, rfl, hb, hbs⟩ := hp2
  have hob : wb.oneCell' = true := by obtain ⟨_, ws, ⟨_, _, rfl, _⟩, _⟩ := id hb; rfl
  refine Zerun ?_
  (refine RW.allocN T hs rfl rfl rfl rfl ?_; intro b3 w3 hs)
  (refine RW.storeAll T hs 0 rfl rfl rfl rfl rfl rfl (by show (wb.oneCell' && true) = true; rw [hob]; rfl) rfl ?_; intro w4 hs)
  by_cases c : v.cls = 0 ∧ truthsB v.nums = true
  rotate_left
  · have he : expandS v.cls v.nums n = ([], 24) := if_neg c
    rw [decide_eq_false c, he]
    refine Zerun ?_
    exact retQ_ret [_, _] h2 ⟨rfl, rfl, trivial⟩ hs.dropAll ⟨_, rfl, IntsAt.nil _⟩
  have he : expandS v.cls v.nums n = expRes (bsOf v.nums) n := if_pos c
  rw [decide_eq_true c, he]
  obtain rfl := hbs c
  obtain ⟨bs, hbse⟩ : ∃ bs, bsOf v.nums = bs := ⟨_, rfl⟩
  rw [hbse] at hb hs ⊢
  have hbl : bs.length ≤ 1048576 := by obtain ⟨hx, _⟩ := id hb; exact hx
  refine Zerun ?_
  (refine RW.call T hs rfl rfl rfl (bitsCountX_con wb bs _ _ hb) ?_; intro v h5 w5 hle5 hp5 hs)
  subst hp5
  have hb := hb.mono hle5
  obtain ⟨cn, hcn⟩ : ∃ cn, (onesL bs).length = cn := ⟨_, rfl⟩
  rw [hcn]
  by_cases c1 : cn ≠ n ∧ n ≠ 1
  · have he2 : expRes bs n = ([], 23) := if_pos (by rw [hcn]; exact c1)
    have d1 : ¬ (cn : Int) = n := by omega
    have d2 : ¬ (n : Int) = 1 := by omega
    rw [he2]
    refine Zerun ?_
    exact retQ_ret [_, _] h5 ⟨rfl, rfl, trivial⟩ hs.dropAll ⟨_, rfl, IntsAt.nil _⟩
  have he2 : expRes bs n = (expTo bs n bs.length, 0) := if_neg (by rw [hcn]; exact c1)
  rw [he2]
  refine RW.meet (fun _ : Unit => [(1, .int .i64 (n : Int)), (6, .pointer (some ⟨b3, 0, none⟩)), (25, .bool false)]) (fun _ w' => Sees w h h5 [⟨some ⟨b3, 0, none⟩, 1, 1, 31, 2, [wb, .int .i64 bs.length]⟩] w') ?_ ?_
  · by_cases d1 : cn = n
    · have d1' : (cn : Int) = n := by omega
      refine Zerun ?_
      exact joinQ_meet () ⟨rfl, rfl, rfl, trivial⟩ hs.swap.drop
    · have d1' : ¬ (cn : Int) = n := by omega
      have d2 : (n : Int) = 1 := by omega
      refine Zerun ?_
      exact joinQ_meet () ⟨rfl, rfl, (by show some (Value.bool (decide ((n : Int) ≠ 1))) = _; rw [decide_eq_false (fun h => h d2)]), trivial⟩ hs.swap.drop
  rintro ⟨⟩ w6 hs
  refine Zerun ?_
  (refine RW.call T hs rfl rfl rfl (bitsLen_con wb _ _ _) ?_; intro v h7 w7 hle7 hp7 hs)
  subst hp7
  have hb := hb.mono hle7
  refine Zerun ?_
  (refine RW.make1 T hs rfl rfl rfl rfl rfl rfl rfl (by dsimp only; omega) (by omega) ?_; intro b8 w8 hs)
  have hs := hs.re (ys := (expTo bs n 0 ++ List.replicate (bs.length - 0) 0).map (Value.int .i64)) (by unfold expTo; rw [List.map_append, List.map_replicate]; rfl)
  refine Zerun ?_
  refine CW.loop (fun u : Nat × GHeap => [(1, .int .i64 (n : Int)), (6, .pointer (some ⟨b3, 0, none⟩)), (8, .slice (some ⟨b8, 0, none⟩) bs.length bs.length), (9, .int .i64 (nextN bs n u.1)), (30, .int .i64 bs.length), (31, .int .i64 u.1)]) (fun u w' => u.1 ≤ bs.length ∧ GLe h7 u.2 ∧ Sees w h u.2 [⟨some ⟨b8, 0, none⟩, bs.length, bs.length, 3, 1, (expTo bs n u.1 ++ List.replicate (bs.length - u.1) 0).map (Value.int .i64)⟩, ⟨some ⟨b3, 0, none⟩, 1, 1, 31, 2, [wb, .int .i64 bs.length]⟩] w') (fun u => bs.length - u.1) (0, h7) ⟨rfl, rfl, rfl, by unfold nextN; split <;> rfl, rfl, rfl, trivial⟩ ⟨by omega, GLe.refl _, hs⟩ ?_
  rintro ⟨i, hh⟩ w9 ⟨hi, hg, hs⟩
  dsimp only at hi hg hs ⊢
  by_cases hlt : i < bs.length
  · have hAl := expTo_len bs n i
    have hsu := expTo_succ bs n i
    have hnr := next_rng bs n i
    have hny := @next_yes bs n i
    have hnn := @next_no bs n i
    have hey := @expI_yes bs n i
    have hen := @expI_no bs n i
    obtain ⟨nx, hnx⟩ : ∃ nx, nextN bs n i = nx := ⟨_, rfl⟩
    rw [hnx] at hnr hny hnn hey ⊢
    refine Zerun ?_
    refine RW.val (Y.idxRN T hs 0 rfl rfl rfl rfl rfl rfl hlt) rfl ?_
    refine RW.st1 T hs 0 rfl rfl rfl rfl rfl rfl rfl hlt ?_
    intro w10 hs
    dsimp only [List.set_cons_zero, List.set_cons_succ] at hs
    rw [map_set_int, fillA hAl hlt] at hs
    refine Zerun ?_
    (refine RW.call T hs rfl rfl rfl (bitsAt_con wb bs (i : Int) _ _ (hb.mono hg)) ?_; intro v h11 w11 hle11 hp11 hs)
    subst hp11
    rw [show bitAt bs (i : Int) = bs.getD i false by unfold bitAt; rw [if_pos (by omega), Int.toNat_natCast]]
    have hg2 := hg.trans hle11
    by_cases cb : bs.getD i false = true
    · rw [cb]
      have hny := hny cb
      have hey := hey cb
      refine Zerun ?_
      refine RW.val (Y.idxRN T hs 0 rfl rfl rfl rfl rfl rfl hlt) rfl ?_
      refine RW.st1 T hs 0 rfl rfl rfl rfl rfl rfl rfl hlt ?_
      intro w12 hs
      dsimp only [List.set_cons_zero, List.set_cons_succ] at hs
      rw [map_set_int, List.append_assoc, show ([-1] ++ List.replicate (bs.length - (i + 1)) (0 : Int)) = (-1) :: List.replicate (bs.length - (i + 1)) 0 from rfl, set_mid hAl, List.append_cons, ← hey, ← hsu] at hs
      by_cases c1 : n = 1
      · have c1' : (n : Int) = 1 := by omega
        rw [if_pos c1] at hny
        have hz : nx = 0 := by rw [← hnx]; unfold nextN; rw [if_pos c1]
        refine Zerun ?_
        exact loopQ_round (i + 1, h11) ⟨rfl, rfl, rfl, seti (by dsimp only; omega), rfl, rfl, trivial⟩ ⟨by dsimp only; omega, hg2, hs⟩ (by dsimp only; omega)
      · have c1' : ¬ (n : Int) = 1 := by omega
        rw [if_neg c1] at hny
        refine Zerun ?_
        exact loopQ_round (i + 1, h11) ⟨rfl, rfl, rfl, seti (by dsimp only; omega), rfl, rfl, trivial⟩ ⟨by dsimp only; omega, hg2, hs⟩ (by dsimp only; omega)
    · have cb0 : bs.getD i false = false := by cases e : bs.getD i false; rfl; exact absurd e cb
      rw [cb0]
      have hnn := hnn cb
      have hen := hen cb
      rw [← hen, ← hsu] at hs
      refine Zerun ?_
      exact loopQ_round (i + 1, h11) ⟨rfl, rfl, rfl, seti (by dsimp only; omega), rfl, rfl, trivial⟩ ⟨by dsimp only; omega, hg2, hs⟩ (by dsimp only; omega)
  obtain rfl : i = bs.length := by omega
  rw [Nat.sub_self, List.replicate_zero, List.append_nil] at hs
  obtain ⟨h12, hle12, hs, hS12⟩ := hs.freeze
  have hl2 := expTo_len bs n bs.length
  dsimp only at hS12
  obtain ⟨E, hE⟩ : ∃ E, expTo bs n bs.length = E := ⟨_, rfl⟩
  rw [hE] at hS12 hl2 ⊢
  rw [← hl2] at hS12 ⊢
  refine Zerun ?_
  exact retQ_ret [_, _] h12 ⟨rfl, rfl, trivial⟩ hs.dropAll ⟨_, rfl, IntsAt.of_sl hS12⟩
end
theorem refExpand_con (s : Value) (bs : List Bool) (n : Nat) (w : World) (h : GHeap) (hl : TAt h s bs) (hm : bs.length ≤ 1048576) (hn : n ≤ 1048576) : Con Tryz.prog 56 [s, .int .i64 (n : Int)] w h (fun h' u => ∃ s', u = .tuple #[s', .int .i64 (expRes bs n).2] ∧ IntsAt h' s' (expRes bs n).1) := by
  obtain ⟨ad, cp, rfl, hS⟩ := hl
  refine Con.of_body Tryz.func56 rfl Tryz.ntmps56 rfl rfl ?_
  intro hs
  refine Zerun ?_
  refine CW.meetB (fun _ : Unit => [(0, .slice ad bs.length cp), (1, .int .i64 (n : Int)), (6, .int .i64 ((onesTo bs bs.length).length : Nat))]) (fun _ w' => Sees w h h [] w') ?_ ?_
  · refine CW.loop (fun u : Nat => [(0, .slice ad bs.length cp), (1, .int .i64 (n : Int)), (6, .int .i64 ((onesTo bs u).length : Nat)), (7, .int .i64 u)]) (fun u w' => u ≤ bs.length ∧ Sees w h h [] w') (fun u => bs.length - u) 0 ⟨rfl, rfl, rfl, rfl, trivial⟩ ⟨by omega, hs⟩ ?_
    rintro i w2 ⟨hi, hs⟩
    by_cases hlt : i < bs.length
    · have gi := map_get Value.bool bs i false hlt
      have hol := onesTo_len bs i
      have hsu := onesTo_succ bs i
      obtain ⟨b, hbe⟩ : ∃ b, bs.getD i false = b := ⟨_, rfl⟩
      rw [hbe] at gi hsu
      cases b with
      | true =>
        rw [if_pos rfl] at hsu
        refine Zerun ?_
        exact loopQ_round (i + 1) ⟨rfl, rfl, seti (by rw [hsu, List.length_append]; simp), rfl, trivial⟩ ⟨by omega, hs⟩ (by omega)
      | false =>
        rw [if_neg (by decide)] at hsu
        refine Zerun ?_
        exact loopQ_round (i + 1) ⟨rfl, rfl, seti (by rw [hsu]), rfl, trivial⟩ ⟨by omega, hs⟩ (by omega)
    obtain rfl : i = bs.length := by omega
    refine Zerun ?_
    exact joinQ_meet () ⟨rfl, rfl, rfl, trivial⟩ hs
  rintro ⟨⟩ w3 hs
  obtain ⟨cn, hcn⟩ : ∃ cn, (onesTo bs bs.length).length = cn := ⟨_, rfl⟩
  have hcn2 : (onesL bs).length = cn := hcn
  rw [hcn]
  by_cases c1 : cn ≠ n ∧ n ≠ 1
  · have he2 : expRes bs n = ([], 23) := if_pos (by rw [hcn2]; exact c1)
    have d1 : ¬ (cn : Int) = n := by omega
    have d2 : ¬ (n : Int) = 1 := by omega
    rw [he2]
    refine Zerun ?_
    exact retQ_ret [_, _] h ⟨rfl, rfl, trivial⟩ hs.dropAll ⟨_, rfl, IntsAt.nil _⟩
  have he2 : expRes bs n = (expTo bs n bs.length, 0) := if_neg (by rw [hcn2]; exact c1)
  rw [he2]
  refine CW.seqJ (fun _ : Unit => [(0, .slice ad bs.length cp), (1, .int .i64 (n : Int))]) (fun _ w' => Sees w h h [] w') ?_ ?_
  · by_cases d1 : cn = n
    · have d1' : (cn : Int) = n := by omega
      refine Zerun ?_
      exact joinQ_meet () ⟨rfl, rfl, trivial⟩ hs
    · have d1' : ¬ (cn : Int) = n := by omega
      have d2 : (n : Int) = 1 := by omega
      refine Zerun ?_
      exact joinQ_meet () ⟨rfl, rfl, trivial⟩ hs
  rintro ⟨⟩ w4 hs
  have hs := hs.nilRow 3 1
  refine Zerun ?_
  refine CW.loop (fun u : Nat × (Option Addr × Nat) => [(0, .slice ad bs.length cp), (1, .int .i64 (n : Int)), (8, .slice u.2.1 u.1 u.2.2), (9, .int .i64 (nextN bs n u.1)), (10, .int .i64 u.1)]) (fun u w' => u.1 ≤ bs.length ∧ Sees w h h [⟨u.2.1, u.1, u.2.2, 3, 1, (expTo bs n u.1).map (Value.int .i64)⟩] w') (fun u => bs.length - u.1) (0, (none, 0)) ⟨rfl, rfl, rfl, by unfold nextN; split <;> rfl, rfl, trivial⟩ ⟨by omega, hs⟩ ?_
  rintro ⟨i, ⟨ra, rc⟩⟩ w9 ⟨hi, hs⟩
  dsimp only at hi hs ⊢
  by_cases hlt : i < bs.length
  · have gi := map_get Value.bool bs i false hlt
    have hsu := expTo_succ bs n i
    have hnr := next_rng bs n i
    have hny := @next_yes bs n i
    have hnn := @next_no bs n i
    have hey := @expI_yes bs n i
    have hen := @expI_no bs n i
    obtain ⟨nx, hnx⟩ : ∃ nx, nextN bs n i = nx := ⟨_, rfl⟩
    rw [hnx] at hnr hny hnn hey ⊢
    obtain ⟨b, hbe⟩ : ∃ b, bs.getD i false = b := ⟨_, rfl⟩
    rw [hbe] at gi hny hnn hey hen
    cases b with
    | true =>
      have hny := hny rfl
      have hey := hey rfl
      refine Zerun ?_
      (refine RW.lit T hs (vs := [.int .i64 nx]) (cs := [.int .i64 nx]) rfl rfl rfl rfl (by simp [Value.cells]) rfl rfl rfl rfl rfl ?_; intro b33 w33 hs)
      (refine RW.append T hs 1 rfl rfl (m := 1) (news := [.int .i64 nx]) rfl rfl rfl rfl rfl rfl (hs.src0 rfl (by simp [Value.oneCell'])) (by simp) (by dsimp only; omega) (by omega) ?_; intro ad34 cp34 w34 hs; replace hs := hs.drop)
      have hs := hs.re (ys := (expTo bs n (i + 1)).map (Value.int .i64)) (by rw [hsu, hey, List.map_append]; rfl)
      by_cases c1 : n = 1
      · have c1' : ¬ (1 : Int) < (n : Int) := by omega
        rw [if_pos c1] at hny
        have hz : nx = 0 := by rw [← hnx]; unfold nextN; rw [if_pos c1]
        refine Zerun ?_
        exact loopQ_round (i + 1, (ad34, cp34)) ⟨rfl, rfl, rfl, seti (by dsimp only; omega), rfl, trivial⟩ ⟨by dsimp only; omega, hs⟩ (by dsimp only; omega)
      · have hc0 : 0 < cn := by
          rw [← hcn2]
          have h1 := onesTo_succ bs i
          rw [hbe, if_pos rfl] at h1
          have h2 : (onesTo bs (i + 1)).length ≤ (onesTo bs bs.length).length := onesTo_mono2 bs (by omega)
          rw [h1, List.length_append] at h2
          show 0 < (onesTo bs bs.length).length
          simp at h2
          omega
        have c1' : (1 : Int) < (n : Int) := by omega
        rw [if_neg c1] at hny
        refine Zerun ?_
        exact loopQ_round (i + 1, (ad34, cp34)) ⟨rfl, rfl, rfl, seti (by dsimp only; omega), rfl, trivial⟩ ⟨by dsimp only; omega, hs⟩ (by dsimp only; omega)
    | false =>
      have hnn := hnn (by decide)
      have hen := hen (by decide)
      refine Zerun ?_
      (refine RW.lit T hs (vs := [.int .i64 (-1)]) (cs := [.int .i64 (-1)]) rfl rfl rfl rfl (by simp [Value.cells]) rfl rfl rfl rfl rfl ?_; intro b33 w33 hs)
      (refine RW.append T hs 1 rfl rfl (m := 1) (news := [.int .i64 (-1)]) rfl rfl rfl rfl rfl rfl (hs.src0 rfl (by simp [Value.oneCell'])) (by simp) (by dsimp only; omega) (by omega) ?_; intro ad34 cp34 w34 hs; replace hs := hs.drop)
      have hs := hs.re (ys := (expTo bs n (i + 1)).map (Value.int .i64)) (by rw [hsu, hen, List.map_append]; rfl)
      refine Zerun ?_
      exact loopQ_round (i + 1, (ad34, cp34)) ⟨rfl, rfl, rfl, seti (by dsimp only; omega), rfl, trivial⟩ ⟨by dsimp only; omega, hs⟩ (by dsimp only; omega)
  obtain rfl : i = bs.length := by omega
  obtain ⟨h12, hle12, hs, hS12⟩ := hs.freeze
  have hl2 := expTo_len bs n bs.length
  dsimp only at hS12
  obtain ⟨E, hE⟩ : ∃ E, expTo bs n bs.length = E := ⟨_, rfl⟩
  rw [hE] at hS12 hl2 ⊢
  rw [← hl2] at hS12 ⊢
  refine Zerun ?_
  exact retQ_ret [_, _] h12 ⟨rfl, rfl, trivial⟩ hs.dropAll ⟨_, rfl, IntsAt.of_sl hS12⟩
theorem refCopies_conM0 (s : Value) (l : List Nat) (n most : Nat) (w : World) (h : GHeap) (hl : FAt h s l) (htd : ∀ u ∈ l, tidyF u) (hm : l.length ≤ 1048576) (hn : n ≤ 1048576) (hmost : most ≤ 1048576) : ConM Tryz.prog 50 [s, .int .i64 (n : Int), .int .i64 (most : Int)] w h h [] w
    (fun _ O' u => ∃ ad cp, u = .tuple #[.slice ad (refCopiesRes l n most).1.length cp, .int .i64 (refCopiesRes l n most).2] ∧ O' = [⟨ad, (refCopiesRes l n most).1.length, cp, 3, 1, (refCopiesRes l n most).1.map (Value.int .i64)⟩]) := by
  have hl' := hl
  obtain ⟨ad, cp, rfl, hS⟩ := hl
  refine ConM.of_body Tryz.func50 rfl Tryz.ntmps50 rfl rfl ?_
  intro hs
  refine Zrun ?_
  refine CW.meetB (fun hh : GHeap => [(0, .slice ad l.length cp), (1, .int .i64 (n : Int)), (2, .int .i64 (most : Int))]) (fun hh w' => (∀ u ∈ l, (wholeF u).2 = true) ∧ GLe h hh ∧ Sees w h hh [] w') ?_ ?_
  · refine CW.loop (fun u : Nat × GHeap => [(0, .slice ad l.length cp), (1, .int .i64 (n : Int)), (2, .int .i64 (most : Int)), (8, .int .i64 u.1)]) (fun u w' => u.1 ≤ l.length ∧ (∀ j, j < u.1 → (wholeF (l.getD j 0)).2 = true) ∧ GLe h u.2 ∧ Sees w h u.2 [] w') (fun u => l.length - u.1) (0, h) ⟨rfl, rfl, rfl, rfl, trivial⟩ ⟨by omega, fun j hj => by exfalso; exact Nat.not_lt_zero _ hj, GLe.refl _, hs⟩ ?_
    rintro ⟨i, hh⟩ w5 ⟨hi, hno, hgl, hs⟩
    dsimp only at hi hno hgl hs ⊢
    have hS := hS.mono hgl
    by_cases hlt : i < l.length
    · have hg := map_get (Value.float .f64) l i 0 hlt
      have hmem : l.getD i 0 ∈ l := by simp [List.getD_eq_getElem?_getD, hlt]
      refine Zerun ?_
      (refine RW.call T hs rfl rfl rfl (refWhole_con (l.getD i 0) _ _ (htd _ hmem).2.1) ?_; intro v h3 w3 hle3 hp3 hs)
      subst hp3
      cases hw : (wholeF (l.getD i 0)).2 with
      | true =>
        refine Zerun ?_
        refine loopQ_round (i + 1, h3) ⟨rfl, rfl, rfl, rfl, trivial⟩ ⟨by dsimp only; omega, fun j hj => ?_, hgl.trans hle3, hs⟩ (by dsimp only; omega)
        by_cases e : j = i
        · subst e; exact hw
        · exact hno j (by dsimp only at hj; omega)
      | false =>
        refine Zerun ?_
        have he : refCopiesRes l n most = ([], 24) := if_neg (fun e => by rw [e _ hmem] at hw; cases hw)
        exact retM_ret [_, _] h3 _ ⟨rfl, rfl, trivial⟩ (hgl.trans hle3) (hs.dropAll.nilRow 3 1) ⟨none, 0, by rw [he]; rfl, by rw [he]; rfl⟩
    · obtain rfl : i = l.length := by omega
      have hall : ∀ u ∈ l, (wholeF u).2 = true := by
        intro u hu
        obtain ⟨j, hj, e⟩ := List.getElem_of_mem hu
        have := hno j hj
        rw [List.getD_eq_getElem?_getD, List.getElem?_eq_getElem hj] at this
        rw [← e]; exact this
      refine Zerun ?_
      exact joinQ_meet hh ⟨rfl, rfl, rfl, trivial⟩ ⟨hall, hgl, hs⟩
  intro hh w6 hq
  obtain ⟨hall, hgl, hs⟩ := hq
  have hS := hS.mono hgl
  have he : refCopiesRes l n most = copiesRes (l.map fun x => (wholeF x).1) n most := if_pos hall
  rw [he]
  obtain ⟨ks, hks⟩ : ∃ ks, (l.map fun x => (wholeF x).1) = ks := ⟨_, rfl⟩
  have hkl : ks.length = l.length := by rw [← hks, List.length_map]
  rw [hks]
  refine CW.seqJ (fun _ : Unit => [(0, .slice ad l.length cp), (1, .int .i64 (n : Int)), (2, .int .i64 (most : Int))]) (fun _ w' => (l.length = n ∨ l.length = 1) ∧ Sees w h hh [] w') ?_ ?_
  · by_cases c1 : l.length = n
    · refine Zerun ?_
      exact joinQ_meet () ⟨rfl, rfl, rfl, trivial⟩ ⟨.inl c1, hs⟩
    by_cases c2 : l.length = 1
    · refine Zerun ?_
      exact joinQ_meet () ⟨rfl, rfl, rfl, trivial⟩ ⟨.inr c2, hs⟩
    have he : copiesRes ks n most = ([], 23) := by unfold copiesRes; rw [if_pos (by rw [hkl]; exact ⟨c1, c2⟩)]
    refine Zerun ?_
    exact retM_ret [_, _] hh _ ⟨rfl, rfl, trivial⟩ hgl (hs.dropAll.nilRow 3 1) ⟨none, 0, by rw [he]; rfl, by rw [he]; rfl⟩
  rintro _ w7 ⟨clen, hs⟩
  have hres : copiesRes ks n most = if ((copiesTo ks n).length : Int) ≤ most then (copiesTo ks n, 0) else ([], 26) := by unfold copiesRes; rw [if_neg (by rw [hkl]; omega)]
  have hlim : (most : Int) < (copiesTo ks n).length → copiesRes ks n most = ([], 26) := fun e => by rw [hres, if_neg (by omega)]
  refine Zrun ?_
  have hs := hs.nilRow 3 1
  refine CW.loop (fun u : Nat × Option Addr × Nat => [(0, .slice ad l.length cp), (1, .int .i64 (n : Int)), (2, .int .i64 (most : Int)), (9, .slice u.2.1 (copiesTo ks u.1).length u.2.2), (10, .int .i64 u.1)]) (fun u w' => u.1 ≤ n ∧ (copiesTo ks u.1).length ≤ most ∧ Sees w h hh [⟨u.2.1, (copiesTo ks u.1).length, u.2.2, 3, 1, (copiesTo ks u.1).map (Value.int .i64)⟩] w') (fun u => n - u.1) (0, none, 0) ⟨rfl, rfl, rfl, rfl, rfl, trivial⟩ ⟨by omega, by show 0 ≤ most; omega, hs⟩ ?_
  rintro ⟨i, ra, rc⟩ w8 ⟨hi, hcm, hs⟩
  dsimp only at hi hcm hs ⊢
  by_cases hlt : i < n
  · have hpos : 0 < l.length := by omega
    have hg0 := map_get (Value.float .f64) l 0 0 hpos
    obtain ⟨c, hc⟩ : ∃ c, cAt ks i = c := ⟨_, rfl⟩
    have hcw : l.getD (i % l.length) 0 = fwF c ∧ -9007199254740992 ≤ c ∧ c ≤ 9007199254740992 := by
      have hil : i % l.length < l.length := Nat.mod_lt _ hpos
      have hmem : l.getD (i % l.length) 0 ∈ l := by rw [List.getD_eq_getElem?_getD, List.getElem?_eq_getElem hil]; exact List.getElem_mem hil
      have e : c = (wholeF (l.getD (i % l.length) 0)).1 := by
        rw [← hc]
        unfold cAt
        rw [hkl, ← hks, getD_map' _ _ _ _ hil, List.getD_eq_getElem?_getD, List.getElem?_eq_getElem hil]
        rfl
      have e2 : wholeF (l.getD (i % l.length) 0) = (c, true) := by rw [e, ← hall _ hmem]
      exact ⟨fw_whole _ c (htd _ hmem) e2, by rw [e]; exact wholeF_bounds _⟩
    obtain ⟨hcw, hcb⟩ := hcw
    have hfc := fwF_spec c hcb
    have hsuc := copiesTo_succ ks i
    rw [hc] at hsuc
    have hmono := copiesTo_mono ks (show i + 1 ≤ n by omega)
    have hneg : (c * (unitF : Int) < 0) ↔ c < 0 := by
      have hu := unitF_pos
      have := Int.mul_lt_mul_right (b := c) (c := 0) (show (0 : Int) < (unitF : Int) by omega)
      rwa [Int.zero_mul] at this
    obtain ⟨a, ha⟩ : ∃ a, (if c < 0 then -1 else (i : Int)) = a := ⟨_, rfl⟩
    refine Zerun ?_
    refine CW.meet (fun _ : Unit => [(0, .slice ad l.length cp), (1, .int .i64 (n : Int)), (2, .int .i64 (most : Int)), (9, .slice ra (copiesTo ks i).length rc), (10, .int .i64 i), (11, .float .f64 (fwF c))]) (fun _ w' => Sees w h hh [⟨ra, (copiesTo ks i).length, rc, 3, 1, (copiesTo ks i).map (Value.int .i64)⟩] w') ?_ ?_
    · by_cases c1 : 1 < l.length
      · have hil : i % l.length = i := Nat.mod_eq_of_lt (by omega)
        rw [hil] at hcw
        have hgi := map_get (Value.float .f64) l i 0 (by omega)
        rw [hcw] at hgi
        refine Zerun ?_
        exact joinQ_meet () ⟨rfl, rfl, rfl, rfl, rfl, rfl, trivial⟩ hs
      · have hil : i % l.length = 0 := by rw [show l.length = 1 by omega]; exact Nat.mod_one i
        rw [hil] at hcw
        refine Zerun ?_
        exact joinQ_meet () ⟨rfl, rfl, rfl, rfl, rfl, setf hcw, trivial⟩ hs
    rintro _ w9 hs
    refine Zerun ?_
    refine RW.val (Y.fLss hfc.1.2.1 fin0 rfl rfl) rfl ?_
    rw [zF0, hfc.2, decide_eq_decide.2 hneg]
    refine Zerun ?_
    refine CW.meet (fun _ : Unit => [(0, .slice ad l.length cp), (1, .int .i64 (n : Int)), (2, .int .i64 (most : Int)), (9, .slice ra (copiesTo ks i).length rc), (10, .int .i64 i), (11, .float .f64 (fwF (c.natAbs : Int))), (12, .int .i64 a)]) (fun _ w' => Sees w h hh [⟨ra, (copiesTo ks i).length, rc, 3, 1, (copiesTo ks i).map (Value.int .i64)⟩] w') ?_ ?_
    · by_cases c1 : c < 0
      · rw [if_pos c1] at ha
        have hsub : Ieee.double.sub 0 (fwF c) = some (fwF (0 - c)) := sub_fw 0 (fwF c) 0 c fin0 hfc.1.2.1 (by rw [zF0, Int.zero_mul]) hfc.2 (fun e => by omega)
        rw [show (0 : Int) - c = (c.natAbs : Int) by omega] at hsub
        refine Zerun ?_
        refine RW.val (Y.fSubW rfl rfl hsub) rfl ?_
        refine Zerun ?_
        exact joinQ_meet () ⟨rfl, rfl, rfl, rfl, rfl, rfl, seti ha, trivial⟩ hs
      · rw [if_neg c1] at ha
        refine Zerun ?_
        exact joinQ_meet () ⟨rfl, rfl, rfl, rfl, rfl, setf (by rw [show (c.natAbs : Int) = c by omega]), seti ha, trivial⟩ hs
    rintro _ w10 hs
    refine Zerun ?_
    refine CW.loop (fun u : Nat × Option Addr × Nat => [(0, .slice ad l.length cp), (1, .int .i64 (n : Int)), (2, .int .i64 (most : Int)), (9, .slice u.2.1 ((copiesTo ks i).length + u.1) u.2.2), (10, .int .i64 i), (11, .float .f64 (fwF (c.natAbs : Int))), (12, .int .i64 a), (13, .float .f64 (fwF (u.1 : Int)))]) (fun u w' => u.1 ≤ c.natAbs ∧ (copiesTo ks i).length + u.1 ≤ most ∧ Sees w h hh [⟨u.2.1, (copiesTo ks i).length + u.1, u.2.2, 3, 1, (copiesTo ks i ++ List.replicate u.1 a).map (Value.int .i64)⟩] w') (fun u => c.natAbs - u.1) (0, ra, rc) ⟨rfl, rfl, rfl, rfl, rfl, rfl, rfl, setf fw0.symm, trivial⟩ ⟨by omega, by dsimp only; omega, hs.re (by simp)⟩ ?_
    rintro ⟨m, rb, rd⟩ w11 ⟨hm', hcm', hs⟩
    dsimp only at hm' hcm' hs ⊢
    have hfm := fwF_spec (m : Int) (by omega)
    have hfa := fwF_spec (c.natAbs : Int) (by omega)
    have hlt2 : ((m : Int) * (unitF : Int) < (c.natAbs : Int) * (unitF : Int)) ↔ m < c.natAbs := by
      have := unitF_pos
      rw [Int.mul_lt_mul_right (by omega)]; omega
    by_cases c2 : m < c.natAbs
    · refine Zerun ?_
      refine RW.val (Y.fLss hfm.1.2.1 hfa.1.2.1 rfl rfl) rfl ?_
      rw [hfm.2, hfa.2, decide_eq_true (hlt2.2 c2)]
      by_cases c3 : most ≤ (copiesTo ks i).length + m
      · have hl1 : (copiesTo ks (i + 1)).length = (copiesTo ks i).length + c.natAbs := by rw [copiesTo_len_succ, hc]
        have he := hlim (by omega)
        refine Zerun ?_
        exact retM_ret [_, _] hh _ ⟨rfl, rfl, trivial⟩ hgl (hs.dropAll.nilRow 3 1) ⟨none, 0, by rw [he]; rfl, by rw [he]; rfl⟩
      · have hadd : Ieee.double.add (fwF (m : Int)) 4607182418800017408 = some (fwF ((m + 1 : Nat) : Int)) := by
          have := add_fw (fwF (m : Int)) 4607182418800017408 m 1 hfm.1.2.1 fin1 hfm.2 (by rw [zF1, Int.one_mul]) (fun e => by omega)
          rw [this]; rfl
        refine Zerun ?_
        (refine RW.lit T hs (vs := [.int .i64 a]) (cs := [.int .i64 a]) rfl rfl rfl rfl (by simp [Value.cells]) rfl rfl rfl rfl rfl ?_; intro b6 w6 hs)
        (refine RW.append T hs 1 rfl rfl (m := 1) (news := [.int .i64 a]) rfl rfl rfl rfl rfl rfl (hs.src0 rfl (by simp [Value.oneCell'])) (by simp) (by dsimp only; omega) (by omega) ?_; intro ad7 cp7 w7 hs; replace hs := hs.drop)
        refine Zerun ?_
        refine RW.val (Y.fAddW rfl rfl hadd) rfl ?_
        refine Zerun ?_
        exact loopQ_round (m + 1, ad7, cp7) ⟨rfl, rfl, rfl, rfl, rfl, rfl, rfl, rfl, trivial⟩ ⟨by dsimp only; omega, by dsimp only; omega, hs.re (by simp [List.replicate_succ'])⟩ (by dsimp only; omega)
    · obtain rfl : m = c.natAbs := by omega
      refine Zerun ?_
      refine RW.val (Y.fLss hfm.1.2.1 hfa.1.2.1 rfl rfl) rfl ?_
      rw [hfm.2, decide_eq_false (Int.lt_irrefl _)]
      have hl1 : (copiesTo ks (i + 1)).length = (copiesTo ks i).length + c.natAbs := by rw [copiesTo_len_succ, hc]
      have hrow : (copiesTo ks i ++ List.replicate c.natAbs a) = copiesTo ks (i + 1) := by rw [hsuc, ← ha]; rfl
      rw [hrow, ← hl1] at hs
      rw [← hl1] at hcm'
      refine Zerun ?_
      exact loopQ_round (i + 1, rb, rd) ⟨rfl, rfl, rfl, by rw [hl1]; rfl, rfl, trivial⟩ ⟨by dsimp only; omega, hcm', hs⟩ (by dsimp only; omega)
  · obtain rfl : i = n := by omega
    refine Zerun ?_
    exact retM_ret [_, _] hh _ ⟨rfl, rfl, trivial⟩ hgl hs ⟨ra, rc, by rw [hres, if_pos (by omega)]; rfl, by rw [hres, if_pos (by omega)]⟩
end Go.Proofs.YtmojpbfkpggjhaaGreatDoor

/-
  Plain laws of arrays turned backwards: where each element lies. No statement is proved here.
-/
namespace Go.Proofs.YtmojpbfkpggjhaaGreatDoor
open Go Go.RowKit
set_option linter.unusedVariables false
set_option linter.unusedSimpArgs false

end Go.Proofs.YtmojpbfkpggjhaaGreatDoor

/-
  Plain laws of arrays with their axes in the other order. No statement is proved here.
-/
namespace Go.Proofs.YtmojpbfkpggjhaaGreatDoor
open Go Go.RowKit
set_option linter.unusedVariables false
set_option linter.unusedSimpArgs false

/-! ## sums of products -/
/-! ## counting on -/
end Go.Proofs.YtmojpbfkpggjhaaGreatDoor

/-
  Plain laws of two lists of elements put behind each other along an axis. No statement is proved here.
-/
namespace Go.Proofs.YtmojpbfkpggjhaaGreatDoor
open Go Go.RowKit
set_option linter.unusedVariables false
set_option linter.unusedSimpArgs false

theorem idxOf_app : ∀ (P T : List Int) (a : Int), (∀ d ∈ T, 1 ≤ d) → idxOf (P ++ T) a = idxOf P (a / prn T) ++ idxOf T a
  | [], _, _, _ => rfl
  | d :: P, T, a, h => by
    have hp := prn_pos T h
    show (a / prn (P ++ T)) % d :: idxOf (P ++ T) a = (a / prn T / prn P) % d :: idxOf P (a / prn T) ++ idxOf T a
    rw [idxOf_app P T a h, prn_append, Int.mul_comm (prn P) (prn T), Int.ediv_ediv_of_nonneg (by omega)]
    rfl
theorem off_app : ∀ (P T u v : List Int), u.length = P.length → off (P ++ T) (u ++ v) = off P u * prn T + off T v
  | [], T, [], v, _ => by simp [off]
  | [], _, _ :: _, _, h => by simp at h
  | _ :: _, _, [], _, h => by simp at h
  | d :: P, T, i :: u, v, h => by
    rw [List.cons_append, List.cons_append]
    simp only [off]
    rw [off_app P T u v (by simpa using h), prn_append, Int.add_mul, Int.mul_assoc, Int.add_assoc]
theorem inR_app : ∀ (P T u v : List Int), u.length = P.length → inR (P ++ T) (u ++ v) = (inR P u && inR T v)
  | [], T, [], v, _ => by simp [inR]
  | [], _, _ :: _, _, h => by simp at h
  | _ :: _, _, [], _, h => by simp at h
  | d :: P, T, i :: u, v, h => by
    rw [List.cons_append, List.cons_append]
    simp only [inR]
    rw [inR_app P T u v (by simpa using h), Bool.and_assoc]
/-- two shapes that are alike but for one axis -/
structure CatS (P S : List Int) (da db outer inner : Nat) : Prop where
  hP : ∀ d ∈ P, 1 ≤ d
  hS : ∀ d ∈ S, 1 ≤ d
  po : prn P = outer
  ps : prn S = inner
  h0 : 0 < da + db
  gx : goodS (P ++ (da : Int) :: S) = true
  gy : goodS (P ++ (db : Int) :: S) = true
theorem CatS.pos {P S : List Int} {da db outer inner : Nat} (H : CatS P S da db outer inner) : 0 < inner ∧ 0 < outer := by
  have h1 := prn_pos S H.hS
  have h2 := prn_pos P H.hP
  rw [H.ps] at h1
  rw [H.po] at h2
  omega
theorem CatS.split {P S : List Int} {da db outer inner : Nat} (H : CatS P S da db outer inner) (i : Nat) :
    idxOf (P ++ ((da + db : Nat) : Int) :: S) i = idxOf P ((i / ((da + db) * inner) : Nat) : Int) ++ ((i / inner % (da + db) : Nat) : Int) :: idxOf S i ∧ i % ((da + db) * inner) = i / inner % (da + db) * inner + i % inner := by
  have hT : ∀ d ∈ (((da + db : Nat) : Int) :: S), 1 ≤ d := by
    intro d hd
    rcases List.mem_cons.1 hd with rfl | hd
    · have := H.h0; omega
    · exact H.hS d hd
  constructor
  · rw [idxOf_app _ _ _ hT]
    have hq : (i : Int) / prn (((da + db : Nat) : Int) :: S) = ((i / ((da + db) * inner) : Nat) : Int) := by
      show (i : Int) / (((da + db : Nat) : Int) * prn S) = _
      rw [H.ps, ← Int.natCast_mul]
      rfl
    rw [hq]
    show _ ++ ((i : Int) / prn S) % ((da + db : Nat) : Int) :: idxOf S i = _
    rw [H.ps]
    rfl
  · have := emod_split (i : Int) (inner : Int) ((da + db : Nat) : Int) (by have := H.pos; omega) (by have := H.h0; omega)
    rw [← Int.natCast_mul] at this
    have e : ((i % ((da + db) * inner) : Nat) : Int) = ((i / inner % (da + db) * inner + i % inner : Nat) : Int) := by
      rw [Int.natCast_add, Int.natCast_mul]
      exact this
    omega
theorem CatS.offs {P S : List Int} {da db outer inner : Nat} (H : CatS P S da db outer inner) (i : Nat) (hi : i < outer * ((da + db) * inner)) (d j : Nat) : inR (P ++ (d : Int) :: S) (idxOf P ((i / ((da + db) * inner) : Nat) : Int) ++ (j : Int) :: idxOf S i) = decide (j < d) ∧
    off (P ++ (d : Int) :: S) (idxOf P ((i / ((da + db) * inner) : Nat) : Int) ++ (j : Int) :: idxOf S i) = ((i / ((da + db) * inner) * (d * inner) + (j * inner + i % inner) : Nat) : Int) := by
  have hl := length_idxOf P ((i / ((da + db) * inner) : Nat) : Int)
  have hq : i / ((da + db) * inner) < outer := by
    refine Nat.div_lt_of_lt_mul ?_
    rw [Nat.mul_comm]; exact hi
  generalize i / ((da + db) * inner) = q at *
  constructor
  · rw [inR_app _ _ _ _ hl, inR_idxOf P _ H.hP, Bool.true_and]
    simp only [inR]
    rw [inR_idxOf S _ H.hS, Bool.and_true]
    by_cases c : j < d
    · rw [decide_eq_true c, decide_eq_true (by omega)]
    · rw [decide_eq_false c, decide_eq_false (by omega)]
  · rw [off_app _ _ _ _ hl, off_idxOf P _ H.hP, H.po]
    have e1 : off ((d : Int) :: S) ((j : Int) :: idxOf S i) = (j : Int) * inner + ((i % inner : Nat) : Int) := by
      show (j : Int) * prn S + off S (idxOf S i) = _
      rw [off_idxOf S _ H.hS, H.ps]
      rfl
    have e2 : prn ((d : Int) :: S) = ((d * inner : Nat) : Int) := by
      show (d : Int) * prn S = _
      rw [H.ps, Int.natCast_mul]
    rw [e1, e2, Int.emod_eq_of_lt (by omega) (by omega)]
    simp only [Int.natCast_add, Int.natCast_mul]
/-- the place of an element of the join in the first list, or in the second one -/
def catJ (a b i : Nat) : Nat := if i % (a + b) < a then i / (a + b) * a + i % (a + b) else i / (a + b) * b + (i % (a + b) - a)
theorem CatS.at_ {P S : List Int} {da db outer inner : Nat} (H : CatS P S da db outer inner) (i : Nat) (hi : i < outer * (da * inner + db * inner)) :
    (i % (da * inner + db * inner) < da * inner → atSpec (P ++ (da : Int) :: S) (idxOf (P ++ ((da + db : Nat) : Int) :: S) i) = ((catJ (da * inner) (db * inner) i : Int), true)) ∧
    (¬ i % (da * inner + db * inner) < da * inner → atSpec (P ++ (da : Int) :: S) (idxOf (P ++ ((da + db : Nat) : Int) :: S) i) = (0, false) ∧ 0 ≤ (idxOf (P ++ ((da + db : Nat) : Int) :: S) i).getD P.length 0 ∧ (idxOf (P ++ ((da + db : Nat) : Int) :: S) i).getD P.length 0 < da + db ∧
      atSpec (P ++ (db : Int) :: S) ((idxOf (P ++ ((da + db : Nat) : Int) :: S) i).set P.length ((idxOf (P ++ ((da + db : Nat) : Int) :: S) i).getD P.length 0 - da)) = ((catJ (da * inner) (db * inner) i : Int), true)) := by
  obtain ⟨e1, e2⟩ := H.split i
  have hpos := H.pos.1
  have h0 := H.h0
  have hl := length_idxOf P ((i / ((da + db) * inner) : Nat) : Int)
  rw [← Nat.add_mul] at hi ⊢
  rw [e1]
  unfold catJ
  rw [← Nat.add_mul]
  have hz : i % inner < inner := Nat.mod_lt _ hpos
  have hjD : i / inner % (da + db) < da + db := Nat.mod_lt _ h0
  have cross : i % ((da + db) * inner) < da * inner ↔ i / inner % (da + db) < da := by
    rw [e2]
    constructor
    · intro h
      by_cases c : i / inner % (da + db) < da
      · exact c
      · have := Nat.mul_le_mul_right inner (Nat.le_of_not_lt c); omega
    · intro h
      have := Nat.mul_le_mul_right inner (show i / inner % (da + db) + 1 ≤ da from h)
      rw [Nat.add_mul, Nat.one_mul] at this
      omega
  constructor
  · intro h
    obtain ⟨f1, f2⟩ := H.offs i hi da (i / inner % (da + db))
    rw [decide_eq_true (cross.1 h)] at f1
    unfold atSpec
    rw [if_pos ⟨H.gx, f1⟩, f2, if_pos h, e2]
  · intro h
    have hj : da ≤ i / inner % (da + db) := by
      have := mt cross.2 h; omega
    obtain ⟨f1, _⟩ := H.offs i hi da (i / inner % (da + db))
    rw [decide_eq_false (by omega)] at f1
    obtain ⟨g1, g2⟩ := H.offs i hi db (i / inner % (da + db) - da)
    rw [decide_eq_true (by omega)] at g1
    have hg : (idxOf P ((i / ((da + db) * inner) : Nat) : Int) ++ ((i / inner % (da + db) : Nat) : Int) :: idxOf S i).getD P.length 0 = ((i / inner % (da + db) : Nat) : Int) := by
      rw [List.getD_eq_getElem?_getD, List.getElem?_append_right (by omega), hl, Nat.sub_self]; rfl
    have hst : (idxOf P ((i / ((da + db) * inner) : Nat) : Int) ++ ((i / inner % (da + db) : Nat) : Int) :: idxOf S i).set P.length (((i / inner % (da + db) : Nat) : Int) - da) = idxOf P ((i / ((da + db) * inner) : Nat) : Int) ++ ((i / inner % (da + db) - da : Nat) : Int) :: idxOf S i := by
      rw [List.set_append_right _ _ (by omega), hl, Nat.sub_self, List.set_cons_zero]
      congr 2
      omega
    refine ⟨by unfold atSpec; rw [if_neg (fun e => by rw [e.2] at f1; cases f1)], by rw [hg]; omega, by rw [hg]; omega, ?_⟩
    rw [hg, hst]
    unfold atSpec
    rw [if_pos ⟨H.gy, g1⟩, g2, if_neg h, e2]
    have e3 : i / inner % (da + db) * inner + i % inner - da * inner = (i / inner % (da + db) - da) * inner + i % inner := by
      rw [Nat.sub_mul]
      have := Nat.mul_le_mul_right inner hj
      omega
    rw [e3]
/-! ## Lists -/
end Go.Proofs.YtmojpbfkpggjhaaGreatDoor

/-
  Plain laws of arrays behind each other: what is told, or which error. No statement is proved here.
-/
namespace Go.Proofs.YtmojpbfkpggjhaaGreatDoor
open Go Go.RowKit
set_option linter.unusedVariables false
set_option linter.unusedSimpArgs false
set_option maxHeartbeats 4000000
attribute [local irreducible] CW RW QW SW HW ConM retM heldQ calmQ elemP thenQ blockQ loopQ joinQ retQ Yields Con Sl zF magR unitF truncF fwF wholeF tidySpec elemQ rankF leastN tidyW
set_option maxHeartbeats 4000000

/-! ## What is told -/
def zeroQ {α : Type} : PlainD α := ⟨[], [], 0⟩
/-- what is told of an array, and of a plain one; or an error's number -/
def ResX (k : Nat) (e : Int) (a : AD (k + 1)) (p : PD (k + 1)) : Prop := (e = 0 ∧ good (k + 1) 40 a ∧ plain (k + 1) a = p ∧ tdy (k + 1) p) ∨ ((e = 22 ∨ e = 23 ∨ e = 24 ∨ e = 26) ∧ a = (⟨[], VecD.none⟩ : ArrD (AD k)))
structure Tells (k : Nat) (x : VecD (AD (k + 1))) (L : List (ItemD (PD (k + 1)))) (c : Int) : Prop where
  sh : Shown (k + 1) x L c
  hg : ∀ b ∈ x.boxes, good (k + 1) (40 - 1) b
  ln : L.length = x.len
theorem tells_of (k : Nat) (p : PD (k + 2)) (h : GHeap) (cs : List Value) (hp : PlainAt (k + 2) h cs p) (hc : chk (k + 2) 40 p = 0) : Tells k (ArrD.vec (α := AD (k + 1)) (arr (k + 2) p)) (PlainD.items (α := PD (k + 1)) (tidy (k + 2) p)) (PlainD.fill (α := PD (k + 1)) (tidy (k + 2) p)) ∧ product (PlainD.shape (α := PD (k + 1)) p) 1048576 = (((ArrD.vec (α := AD (k + 1)) (arr (k + 2) p)).len : Int), 0) := by
  obtain ⟨_, _, _, h4, _⟩ := (chkP_ok (α := PD (k + 1)) _ _ _).1 hc
  have hl : (PlainD.items (α := PD (k + 1)) (tidy (k + 2) p)).length = (PlainD.items (α := PD (k + 1)) p).length := List.length_map ..
  have hg := good_arr (k + 2) 40 p hc
  have hg2 : product (PlainD.shape (α := PD (k + 1)) p) 1048576 = (((ArrD.vec (α := AD (k + 1)) (arr (k + 2) p)).len : Int), 0) := hg.1
  refine ⟨⟨shown_of k p h cs hp hc, hg.2.2.2.2, ?_⟩, hg2⟩
  rw [h4] at hg2
  have := congrArg Prod.fst hg2
  dsimp only at this
  omega
theorem leastNil2 : leastN [] = 1 := by unfold leastN; rfl
theorem noneItems2 {α β : Type} (f : α → β) (c : Int) : (itemsV f (noneV c : VecD α)).length = (noneV c : VecD α).len := by
  unfold noneV
  split
  · rfl
  · split <;> rfl
theorem joinItems2 {α β : Type} (f : α → β) (c : Int) (l : List (VecD α)) : (itemsV f (joinS c l)).length = (joinS c l).len := by
  unfold joinS
  split
  · show ((l.flatMap (·.chars)).map _).length = 0 + (l.flatMap (·.chars)).length + 0
    rw [List.length_map]; omega
  · split
    · show ((l.flatMap (·.boxes)).map _).length = 0 + 0 + (l.flatMap (·.boxes)).length
      rw [List.length_map]; omega
    · rw [itemsV_c0 f (numV_cls _), List.length_map]
      rfl
theorem noneBoxes2 {α : Type} (c : Int) : (noneV c : VecD α).boxes = [] := by
  unfold noneV
  split
  · rfl
  · split <;> rfl
theorem blankGood2 (k : Nat) (d : Int) (hd : d ≠ 0) : good (k + 1) d (blankA k) := by
  refine ⟨(by show product [0] 1048576 = (((0 : Nat) : Int), 0); decide), (by show (1 : Int) ≠ 0; omega), ?_, hd, fun b hb => nomatch hb⟩
  show (1 : Int) = VecD.least (⟨1, [], [], []⟩ : VecD (AD k))
  unfold VecD.least
  rw [if_pos ⟨rfl, by dsimp only; omega⟩]
  exact leastNil2.symm
theorem Tells.pick {k : Nat} {x : VecD (AD (k + 1))} {L L' : List (ItemD (PD (k + 1)))} {c : Int} (H : Tells k x L c) (at_ : List Int) (hm : at_.length ≤ 1048576) (hL : at_.map (fun i => atD L i (blankI c : ItemD (PlainD (PD k)))) = L') : Tells k (x.pick at_ (blankA k)) L' c := by
  subst hL
  have f := pick_facts x at_ (blankA k)
  refine ⟨H.sh.pick at_ hm, fun b hb => ?_, by rw [List.length_map, f.2.2.1]⟩
  rcases f.2.2.2 b hb with e | e
  · exact H.hg b e
  · rw [e]; exact blankGood2 k _ (by omega)
/-- an array of what is told, in a shape -/
theorem Tells.shape {k : Nat} {x : VecD (AD (k + 1))} {L : List (ItemD (PD (k + 1)))} {c : Int} (H : Tells k x L c) (t : List Int) (ht : product t 1048576 = ((x.len : Int), 0)) : ResX (k + 1) 0 (⟨t, x⟩ : ArrD (AD (k + 1))) (⟨t, L, c⟩ : PlainD (PD (k + 1))) := by
  refine .inl ⟨rfl, ⟨ht, H.sh.k0, H.sh.kl, by omega, H.hg⟩, ?_, H.sh.td⟩
  show (⟨t, itemsV (plain (k + 1)) x, x.cls⟩ : PlainD (PD (k + 1))) = _
  rw [H.sh.he, H.sh.hc]
theorem Tells.sh' {k : Nat} {x : VecD (AD (k + 1))} {L : List (ItemD (PD (k + 1)))} {c : Int} (H : Tells k x L c) : Shown (k + 1) x (itemsV (plain (k + 1)) x) x.cls := by
  have := H.sh; rw [← H.sh.he, ← H.sh.hc] at this; exact this
noncomputable def joinX {k : Nat} (x y : VecD (AD (k + 1))) (c : Int) : VecD (AD (k + 1)) := if c < 0 then noneV (headC [x, y]) else joinS c [x, y]
theorem Tells.join {k : Nat} {x y : VecD (AD (k + 1))} {L M : List (ItemD (PD (k + 1)))} {c d cj : Int} (H : Tells k x L c) (Hb : Tells k y M d) (hj : joinC (-1) [x, y] = some cj) (hsum : x.len + y.len ≤ 1048576) : Tells k (joinX x y cj) (L ++ M) (if 0 ≤ cj then cj else c) := by
  have hS := shown_join hj (by
    intro z hz
    simp only [List.mem_cons, List.not_mem_nil, or_false] at hz
    rcases hz with rfl | rfl
    · exact H.sh'
    · exact Hb.sh') (by show x.len + (y.len + 0) ≤ 1048576; omega)
  have e1 : [x, y].flatMap (itemsV (plain (k + 1))) = L ++ M := by
    show itemsV (plain (k + 1)) x ++ (itemsV (plain (k + 1)) y ++ []) = _
    rw [List.append_nil, H.sh.he, Hb.sh.he]
  have e2 : headC [x, y] = c := H.sh.hc
  rw [e1, e2] at hS
  refine ⟨by unfold joinX; rw [e2]; exact hS, ?_, ?_⟩
  · unfold joinX
    split
    · rw [noneBoxes2]; exact fun z hz => nomatch hz
    · intro z hz
      obtain ⟨u, hu, hz2⟩ := joinS_boxes hz
      simp only [List.mem_cons, List.not_mem_nil, or_false] at hu
      rcases hu with e | e
      · exact H.hg z (e ▸ hz2)
      · exact Hb.hg z (e ▸ hz2)
  · rw [← hS.he]
    unfold joinX
    rw [e2]
    split
    · exact noneItems2 _ _
    · exact joinItems2 _ _ _
/-! ## Axes that an array lacks -/
end Go.Proofs.YtmojpbfkpggjhaaGreatDoor

/-
  Plain laws of two arrays behind each other: the code's rows and the document's places tell the same. No statement is proved here.
-/
namespace Go.Proofs.YtmojpbfkpggjhaaGreatDoor
open Go Go.RowKit
set_option linter.unusedVariables false
set_option linter.unusedSimpArgs false
set_option maxHeartbeats 4000000
attribute [local irreducible] CW RW QW SW HW ConM retM heldQ calmQ elemP thenQ blockQ loopQ joinQ retQ Yields Con Sl zF magR unitF truncF fwF wholeF tidySpec elemQ rankF leastN tidyW
set_option maxHeartbeats 4000000

theorem mid_take (P S : List Int) (d : Int) : (P ++ d :: S).take P.length = P := by simp
theorem mid_drop (P S : List Int) (d : Int) : (P ++ d :: S).drop (P.length + 1) = S := by simp
theorem mid_get (P S : List Int) (d : Int) : (P ++ d :: S).getD P.length 0 = d := by simp
theorem mid_set (P S : List Int) (d e : Int) : (P ++ d :: S).set P.length e = P ++ e :: S := by
  rw [List.set_append_right _ _ (Nat.le_refl _), Nat.sub_self, List.set_cons_zero]
theorem mid_of (X : List Int) (j : Nat) (h : j < X.length) : ∃ P S d, X = P ++ d :: S ∧ P.length = j :=
  ⟨X.take j, X.drop (j + 1), X.getD j 0, by rw [← drop_pred X j h, List.take_append_drop], by rw [List.length_take]; omega⟩
theorem good_mid {P S : List Int} {d : Int} (h : goodS (P ++ d :: S) = true) : goodS P = true ∧ goodS S = true ∧ 0 ≤ d := by
  obtain ⟨h1, h2, h3⟩ := (goodS_spec _).1 h
  rw [List.length_append, List.length_cons] at h1
  have hp1 := pr_take_le (P ++ d :: S) P.length
  have hp2 := pr_drop_le (P ++ d :: S) (P.length + 1)
  rw [mid_take] at hp1
  rw [mid_drop] at hp2
  refine ⟨(goodS_spec _).2 ⟨by omega, fun e he => h2 e (List.mem_append_left _ he), by omega⟩, (goodS_spec _).2 ⟨by omega, fun e he => h2 e (List.mem_append_right _ (List.mem_cons_of_mem _ he)), by omega⟩, h2 d (List.mem_append_right _ List.mem_cons_self)⟩
/-! ## The answers -/
theorem prod_err {s : List Int} (h8 : s.length ≤ 8) (h0 : ∀ d ∈ s, 0 ≤ d) (most : Int) : (product s most).2 = 0 ∨ (product s most).2 = 26 := by
  by_cases c : pr s ≤ 1048576
  · rw [product_in s most (by omega) h0 c]
    generalize (if (0 : Int) ∈ s then (0 : Int) else pr s) = m
    unfold within
    by_cases c2 : most < m ∨ 1048576 < m
    · rw [if_pos c2]; exact .inr rfl
    · rw [if_neg c2]; exact .inl rfl
  · right
    have key : ∀ k, k ≤ s.length → ¬ pr (s.take k) ≤ 1048576 → ∃ m, m < s.length ∧ 1048576 < pr (s.take m) * s.getD m 0 := by
      intro k
      induction k with
      | zero => intro _ h; exact absurd (show pr (s.take 0) ≤ 1048576 by simp [pr]) h
      | succ k ih =>
        intro hk h
        by_cases c2 : pr (s.take k) ≤ 1048576
        · refine ⟨k, by omega, ?_⟩
          rw [pr_take_succ s k (by omega)] at h
          by_cases c3 : s.getD k 0 ≤ 1
          · rw [show max 1 (s.getD k 0) = 1 by omega, Int.mul_one] at h; omega
          · rw [show max 1 (s.getD k 0) = s.getD k 0 by omega] at h; omega
        · exact ih (by omega) c2
    obtain ⟨m, hm, hb⟩ := key s.length (Nat.le_refl _) (by rw [List.take_length]; exact c)
    rw [product_over s most (by omega) h0 m hm hb]
end Go.Proofs.YtmojpbfkpggjhaaGreatDoor

/-
  Contracts of base.picked, base.Copy and base.Expand, errors told. No statement is proved here.
-/
namespace Go.Proofs.YtmojpbfkpggjhaaGreatDoor
open Go Go.RowKit
set_option linter.unusedVariables false
set_option linter.unusedSimpArgs false
set_option maxHeartbeats 4000000
attribute [local irreducible] CW RW QW SW HW ConM retM heldQ calmQ elemP thenQ blockQ loopQ joinQ retQ Yields Con Sl zF magR unitF truncF fwF wholeF tidySpec elemQ rankF leastN tidyW
set_option maxHeartbeats 4000000

theorem prn_zero : ∀ s : List Int, 0 ∈ s → prn s = 0
  | [], h => nomatch h
  | d :: r, h => by
    rw [prn]
    rcases List.mem_cons.1 h with e | h
    · rw [← e, Int.zero_mul]
    · rw [prn_zero r h, Int.mul_zero]
theorem prod_prn {s : List Int} (hg : goodS s = true) : product s 1048576 = (prn s, 0) := by
  rw [product_good s hg]
  by_cases c : 0 ∈ s
  · rw [if_pos c, prn_zero s c]
  · rw [if_neg c, prn_eq_pr s (fun d hd => by
      have := ((goodS_spec s).1 hg).2.1 d hd
      have : d ≠ 0 := fun e => c (e ▸ hd)
      omega)]
theorem prn_rng {s : List Int} (hg : goodS s = true) : 0 ≤ prn s ∧ prn s ≤ 1048576 := by
  obtain ⟨_, _, h1, h2, _⟩ := product_fits _ _ _ (prod_prn hg)
  exact ⟨h1, h2⟩
/-- an axis of a good shape -/
theorem ax_facts {s : List Int} {la : Nat} (h : product s 1048576 = ((la : Int), 0)) {K : Nat} (hK : K < s.length) : ∃ outer n inner : Nat, splitSpec s (K : Int) = ((outer : Int), (n : Int), (inner : Int), true) ∧ s.getD K 0 = (n : Int) ∧ outer ≤ 1048576 ∧ inner ≤ 1048576 ∧ n ≤ 1048576 ∧ la = outer * n * inner ∧ (∀ (L : Nat) (m q : Int), product (s.set K (L : Int)) m = (q, 0) → q = ((outer * (L * inner) : Nat) : Int)) ∧ (product (s.take K) 1048576) = ((outer : Int), 0) ∧ (product (s.drop (K + 1)) 1048576) = ((inner : Int), 0) := by
  have hg : goodS s = true := (goodS_iff _).2 (by rw [h])
  obtain ⟨P, S, d, rfl, rfl⟩ := mid_of s K hK
  obtain ⟨gP, gS, hd⟩ := good_mid hg
  have rP := prn_rng gP
  have rS := prn_rng gS
  have pP := prod_prn gP
  have pS := prod_prn gS
  have hd2 := (good_le _ hg d (List.mem_append_right _ List.mem_cons_self)).2
  obtain ⟨outer, ho⟩ := Int.eq_ofNat_of_zero_le rP.1
  obtain ⟨inner, hi⟩ := Int.eq_ofNat_of_zero_le rS.1
  obtain ⟨n, hn⟩ := Int.eq_ofNat_of_zero_le hd
  rw [ho] at pP rP
  rw [hi] at pS rS
  refine ⟨outer, n, inner, ?_, by rw [mid_get, hn], by omega, by omega, by omega, ?_, ?_, by rw [mid_take]; exact pP, by rw [mid_drop]; exact pS⟩
  · unfold splitSpec
    rw [if_pos ⟨hg, by omega, by rw [List.length_append, List.length_cons]; omega, by rw [Int.toNat_natCast, mid_take, pP], by rw [Int.toNat_natCast, mid_drop, pS]⟩, Int.toNat_natCast, mid_take, mid_drop, mid_get, pP, pS, hn]
  · rw [prod_prn hg, prn_append] at h
    have h := congrArg Prod.fst h
    dsimp only [prn] at h
    rw [ho, hi, hn, ← Int.natCast_mul, ← Int.natCast_mul] at h
    rw [Nat.mul_assoc]
    omega
  · intro L m q hq
    obtain ⟨hg2, hp2, _, _, _⟩ := product_fits _ _ _ hq
    rw [prod_prn hg2, mid_set, prn_append] at hp2
    have h := congrArg Prod.fst hp2
    dsimp only [prn] at h
    rw [ho, hi, ← Int.natCast_mul, ← Int.natCast_mul] at h
    omega
theorem axS_prod {s : List Int} {la : Nat} (h : product s 1048576 = ((la : Int), 0)) : product (axS s) 1048576 = ((la : Int), 0) := by
  unfold axS
  by_cases c : s = []
  · rw [if_pos c]
    rw [c] at h
    have h2 : product ([] : List Int) 1048576 = (1, 0) := by decide
    rw [h2] at h
    rw [← h]
    decide
  · rw [if_neg c]; exact h
theorem axN_lt (s : List Int) (first : Bool) : axN s first < (axS s).length := by
  have hpos : 1 ≤ (axS s).length := by
    unfold axS
    by_cases e : s = []
    · rw [if_pos e]; decide
    · rw [if_neg e]; exact List.length_pos_iff.2 e
  unfold axN
  split <;> omega
def splitN (s : List Int) (K : Nat) : Nat × Nat × Nat := ((splitSpec s K).1.toNat, (splitSpec s K).2.1.toNat, (splitSpec s K).2.2.1.toNat)
noncomputable def pickedS {k : Nat} (a : ArrD (AD (k + 1))) (K : Nat) (at_ : List Int) (most : Int) : Int × ArrD (AD (k + 1)) :=
  if ¬ goodS (a.shape.set K (at_.length : Int)) = true then (26, ⟨[], VecD.none⟩)
  else if (product (a.shape.set K (at_.length : Int)) most).2 ≠ 0 then ((product (a.shape.set K (at_.length : Int)) most).2, ⟨[], VecD.none⟩)
  else (0, ⟨a.shape.set K (at_.length : Int), a.vec.pick (alongL (splitN a.shape K).1 (splitN a.shape K).2.1 (splitN a.shape K).2.2 at_) (blankA k)⟩)
theorem basePicked2_con (k : Nat) (cs : List Value) (a : ArrD (AD (k + 1))) (v1 : Value) (K : Nat) (at_ : List Int) (most : Int) (w : World) (h : GHeap) (ha : ArrAt (k + 2) h cs a) (hat : IntsAt h v1 at_) (hpr : product a.shape 1048576 = ((a.vec.len : Int), 0)) (hK : K < a.shape.length) (hal : at_.length ≤ 1048576) (hvm : a.vec.len ≤ 1048576) (hk0 : a.vec.kind ≠ 0) (hmost : most ≤ 1048576) :
    Con Tryz.prog 46 [.agg cs.toArray, .int .i64 (K : Int), v1, .int .i64 most] w h (fun h' u => ∃ cs', u = .tuple #[.agg cs'.toArray, .int .i64 (pickedS a K at_ most).1] ∧ ArrAt (k + 2) h' cs' (pickedS a K at_ most).2) := by
  have hg : goodS a.shape = true := (goodS_iff _).2 (by rw [hpr])
  have hsl := ((goodS_spec _).1 hg).1
  obtain ⟨outer, n, inner, hsp, hn, ho, hi, hn2, hla, hset, _, _⟩ := ax_facts hpr hK
  by_cases c1 : goodS (a.shape.set K (at_.length : Int)) = true
  · have hw : withSpec a.shape (K : Int) (at_.length : Int) = (a.shape.set K (at_.length : Int), true) := by
      unfold withSpec
      rw [if_pos ⟨by omega, by omega, by rw [Int.toNat_natCast]; exact c1⟩, Int.toNat_natCast]
    by_cases c2 : (product (a.shape.set K (at_.length : Int)) most).2 = 0
    · obtain ⟨q, hq⟩ : ∃ q, (product (a.shape.set K (at_.length : Int)) most).1 = q := ⟨_, rfl⟩
      have hpq : product (a.shape.set K (at_.length : Int)) most = (q, 0) := by rw [← hq, ← c2]
      have hqe := hset _ _ _ hpq
      obtain ⟨_, hp2, _, hqm, _⟩ := product_fits _ _ _ hpq
      have hm : outer * (at_.length * inner) ≤ 1048576 := by omega
      have e : pickedS a K at_ most = (0, ⟨a.shape.set K (at_.length : Int), a.vec.pick (alongL outer n inner at_) (blankA k)⟩) := by
        unfold pickedS splitN
        rw [if_neg (fun h => h c1), if_neg (fun h => h c2), hsp]
        rfl
      rw [e]
      have hB : outer * n * inner ≤ 1099511627776 := by omega
      have hBn : outer * n ≤ 1099511627776 := Nat.le_trans (Nat.mul_le_mul ho hn2) (by decide)
      have hpf := pick_facts a.vec (alongL outer n inner at_) (blankA k)
      have hne : newE (a.shape.set K (at_.length : Int)) (a.vec.pick (alongL outer n inner at_) (blankA k)) = 0 := by
        unfold newE
        rw [hp2, if_neg (fun h => h rfl), if_neg hpf.1, if_neg]
        dsimp only
        rw [hpf.2.2.1, alongL_len]
        exact fun h => h hqe
      exact basePicked_con k cs a v1 K outer n inner at_ _ most w h ha hat hsl hw c2 hsp hal ho hm hB hBn hvm hk0 hne
    · have e : pickedS a K at_ most = ((product (a.shape.set K (at_.length : Int)) most).2, ⟨[], VecD.none⟩) := by
        unfold pickedS
        rw [if_neg (fun h => h c1), if_pos c2]
      rw [e]
      obtain ⟨_, vc, rfl, ⟨ad, cp, rfl, hS⟩, hv⟩ := ha
      obtain ⟨ad1, cp1, rfl, hS1⟩ := hat
      obtain ⟨wv, nv, sm, il, fl, ch, bx, ⟨rfl, hoc⟩, -⟩ := hv
      refine Con.of_body Tryz.func46 rfl Tryz.ntmps46 rfl rfl ?_
      intro hs
      refine Zrun ?_
      (refine RW.boxN hs rfl rfl ?_; intro b1 w1 hs)
      refine Zrun ?_
      (refine RW.allocN T hs rfl rfl rfl rfl ?_; intro b2 w2 hs)
      refine Zerun ?_
      (refine RW.call T hs rfl rfl rfl (with_con _ a.shape K at_.length _ _ ⟨ad, cp, rfl, hS⟩ (by omega)) ?_; intro v h3 w3 hle3 hp3 hs)
      obtain ⟨u3, rfl, hI3⟩ := hp3
      rw [hw] at hI3 ⊢
      have hI3' := hI3
      obtain ⟨ad3, cp3, rfl, _⟩ := hI3
      refine Zerun ?_
      (refine RW.call T hs rfl rfl rfl (product_con _ (a.shape.set K (at_.length : Int)) most _ _ hI3' (by rw [List.length_set]; omega)) ?_; intro v h4 w4 hle4 hp4 hs)
      subst hp4
      obtain ⟨pe, hpe⟩ : ∃ pe, (product (a.shape.set K (at_.length : Int)) most).2 = pe := ⟨_, rfl⟩
      rw [hpe] at c2 ⊢
      refine Zerun ?_
      refine RW.val (Y.build T rfl rfl rfl rfl rfl rfl rfl) rfl ?_
      refine Zerun ?_
      (refine RW.storeAll T hs 0 rfl rfl rfl rfl rfl rfl rfl rfl ?_; intro w5 hs)
      refine Zerun ?_
      exact retQ_ret [_, _] h4 ⟨resN T hs 0 rfl rfl rfl rfl rfl rfl, rfl, trivial⟩ hs.dropAll ⟨_, rfl, ⟨_, _, rfl, IntsAt.nil _, vecNone _⟩⟩
  · have e : pickedS a K at_ most = (26, ⟨[], VecD.none⟩) := by
      unfold pickedS
      rw [if_pos c1]
    rw [e]
    have hw : withSpec a.shape (K : Int) (at_.length : Int) = ([], false) := by
      unfold withSpec
      rw [if_neg (fun h => c1 (by have := h.2.2; rwa [Int.toNat_natCast] at this))]
    obtain ⟨_, vc, rfl, ⟨ad, cp, rfl, hS⟩, hv⟩ := ha
    obtain ⟨ad1, cp1, rfl, hS1⟩ := hat
    obtain ⟨wv, nv, sm, il, fl, ch, bx, ⟨rfl, hoc⟩, -⟩ := hv
    refine Con.of_body Tryz.func46 rfl Tryz.ntmps46 rfl rfl ?_
    intro hs
    refine Zrun ?_
    (refine RW.boxN hs rfl rfl ?_; intro b1 w1 hs)
    refine Zrun ?_
    (refine RW.allocN T hs rfl rfl rfl rfl ?_; intro b2 w2 hs)
    refine Zerun ?_
    (refine RW.call T hs rfl rfl rfl (with_con _ a.shape K at_.length _ _ ⟨ad, cp, rfl, hS⟩ (by omega)) ?_; intro v h3 w3 hle3 hp3 hs)
    obtain ⟨u3, rfl, hI3⟩ := hp3
    rw [hw] at hI3 ⊢
    refine Zerun ?_
    refine RW.val (Y.build T rfl rfl rfl rfl rfl rfl rfl) rfl ?_
    refine Zerun ?_
    (refine RW.storeAll T hs 0 rfl rfl rfl rfl rfl rfl rfl rfl ?_; intro w5 hs)
    refine Zerun ?_
    exact retQ_ret [_, _] h3 ⟨resN T hs 0 rfl rfl rfl rfl rfl rfl, rfl, trivial⟩ hs.dropAll ⟨_, rfl, ⟨_, _, rfl, IntsAt.nil _, vecNone _⟩⟩
/-! ## Copies -/
def copyN (clen N0 : Nat) : Nat := if N0 = 1 ∧ clen ≠ 1 then clen else N0
def clampL (l : List Int) : List Int := l.map fun z => min z 0
def copyE (rank : Nat) (cls : Int) (nums : List Nat) (clen N0 most : Nat) : List Int × Int :=
  if 1 < rank then ([], 22) else if cls ≠ 0 then ([], 24) else (if N0 = 1 then clampL (refCopiesRes nums (copyN clen N0) most).1 else (refCopiesRes nums (copyN clen N0) most).1, (refCopiesRes nums (copyN clen N0) most).2)
theorem clamp_self {l : List Int} (h : ∀ z ∈ l, z ≤ 0) : clampL l = l := by
  unfold clampL
  conv => rhs; rw [← List.map_id l]
  exact List.map_congr_left (fun z hz => by have := h z hz; show min z 0 = z; omega)
theorem copies_one (nums : List Nat) (most : Nat) : ∀ z ∈ (refCopiesRes nums 1 most).1, z ≤ 0 := by
  unfold refCopiesRes
  split
  · unfold copiesRes
    split
    · intro z hz; nomatch hz
    · split
      · intro z hz
        unfold copiesTo at hz
        rw [show List.range 1 = [0] from rfl, List.flatMap_cons, List.flatMap_nil, List.append_nil] at hz
        unfold segC at hz
        have := (List.mem_replicate.1 hz).2
        rw [this]
        split <;> omega
      · intro z hz; nomatch hz
  · intro z hz; nomatch hz
noncomputable def copyS {k : Nat} (c a : ArrD (AD (k + 1))) (first : Bool) (N0 most : Nat) : Int × ArrD (AD (k + 1)) :=
  if (copyE c.shape.length c.vec.cls c.vec.nums c.vec.len N0 most).2 ≠ 0 then ((copyE c.shape.length c.vec.cls c.vec.nums c.vec.len N0 most).2, ⟨[], VecD.none⟩)
  else pickedS (⟨axS a.shape, a.vec⟩ : ArrD (AD (k + 1))) (axN a.shape first) (copyE c.shape.length c.vec.cls c.vec.nums c.vec.len N0 most).1 most
theorem copiesRes_two (ks : List Int) (n : Nat) (most : Int) : (copiesRes ks n most).2 = 0 ∨ (copiesRes ks n most).2 = 23 ∨ (copiesRes ks n most).2 = 26 := by
  unfold copiesRes
  split
  · exact .inr (.inl rfl)
  · split
    · exact .inl rfl
    · exact .inr (.inr rfl)
end Go.Proofs.YtmojpbfkpggjhaaGreatDoor

/-
  Contracts of base.Copy and base.Expand, errors told. No statement is proved here.
-/
namespace Go.Proofs.YtmojpbfkpggjhaaGreatDoor
open Go Go.RowKit
set_option linter.unusedVariables false
set_option linter.unusedSimpArgs false
set_option maxHeartbeats 4000000
attribute [local irreducible] CW RW QW SW HW ConM retM heldQ calmQ elemP thenQ blockQ loopQ joinQ retQ Yields Con Sl zF magR unitF truncF fwF wholeF tidySpec elemQ rankF leastN tidyW
set_option maxHeartbeats 4000000

theorem clamp_take (l : List Int) (i : Nat) (h : i < l.length) : (((l.map fun z => min z 0).take i ++ l.drop i).set i (min (l.getD i 0) 0)) = ((l.map fun z => min z 0).take (i + 1) ++ l.drop (i + 1)) := by
  have hl : ((l.map fun z => min z 0).take i).length = i := by rw [List.length_take, List.length_map]; omega
  rw [drop_getD l i 0 h, set_mid hl, List.take_add_one, List.getElem?_map, List.getElem?_eq_getElem h]
  have : l.getD i 0 = l[i] := by rw [List.getD_eq_getElem?_getD, List.getElem?_eq_getElem h]; rfl
  rw [this]
  simp
theorem baseCopy2_con (k : Nat) (cc ca : List Value) (c a : ArrD (AD (k + 1))) (first : Bool) (N0 most : Nat) (w : World) (h : GHeap) (hT : TzTab h) (hc : ArrAt (k + 2) h cc c) (ha : ArrAt (k + 2) h ca a) (hcv : c.vec.cls = 0 → c.vec = ⟨leastN c.vec.nums, c.vec.nums, [], []⟩) (hcm : c.vec.len ≤ 1048576) (hmost : most ≤ 1048576)
    (hpr : product a.shape 1048576 = ((a.vec.len : Int), 0)) (hN0 : (axS a.shape).getD (axN a.shape first) 0 = (N0 : Int)) (hvm : a.vec.len ≤ 1048576) (hk0 : a.vec.kind ≠ 0) :
    Con Tryz.prog 10 [.agg cc.toArray, .agg ca.toArray, .bool first, .int .i64 (most : Int)] w h (fun h' u => ∃ cs', u = .tuple #[.agg cs'.toArray, .int .i64 (copyS c a first N0 most).1] ∧ ArrAt (k + 2) h' cs' (copyS c a first N0 most).2) := by
  have ha' := ha
  have hc' := hc
  obtain ⟨_, vca, rfl, ⟨ada, cpa, rfl, hSa⟩, hva⟩ := ha
  obtain ⟨_, vcc, rfl, ⟨adc, cpc, rfl, hSc⟩, hvc⟩ := hc
  have hvc' := hvc
  obtain ⟨wa, na, sa, ia, fa, ga, xa, ⟨rfl, hoa⟩, -⟩ := hva
  obtain ⟨wc, nc, sc, ic, fc, gc, xc, ⟨rfl, hoc⟩, -⟩ := hvc
  have hpx := axS_prod hpr
  have hgx : goodS (axS a.shape) = true := (goodS_iff _).2 (by rw [hpx])
  have hsx := ((goodS_spec _).1 hgx).1
  obtain ⟨X, hX⟩ : ∃ X, axS a.shape = X := ⟨_, rfl⟩
  obtain ⟨K, hK⟩ : ∃ K, axN a.shape first = K := ⟨_, rfl⟩
  have hKlt := axN_lt a.shape first
  have hcS : copyS c a first N0 most = if (copyE c.shape.length c.vec.cls c.vec.nums c.vec.len N0 most).2 ≠ 0 then ((copyE c.shape.length c.vec.cls c.vec.nums c.vec.len N0 most).2, ⟨[], VecD.none⟩) else pickedS (⟨X, a.vec⟩ : ArrD (AD (k + 1))) K (copyE c.shape.length c.vec.cls c.vec.nums c.vec.len N0 most).1 most := by unfold copyS; rw [hX, hK]
  rw [hX] at hpx hgx hsx hKlt hN0
  rw [hK] at hKlt hN0
  have hN0m : N0 ≤ 1048576 := by have := (good_le X hgx _ (mem_getD X K 0 hKlt)).2; omega
  have hgn := map_get (Value.int .i64) X K 0 hKlt
  have hscap := hSc.caps
  refine Con.of_body Tryz.func10 rfl Tryz.ntmps10 rfl rfl ?_
  intro hs
  refine Zrun ?_
  (refine RW.boxN hs rfl rfl ?_; intro b1 w1 hs)
  refine Zrun ?_
  (refine RW.boxN hs rfl rfl ?_; intro b2 w2 hs)
  refine Zrun ?_
  (refine RW.allocN T hs rfl rfl rfl rfl ?_; intro b3 w3 hs)
  refine Zerun ?_
  (refine RW.call T hs rfl rfl rfl (valueRank_con (R := ArrAt (k + 1)) _ c _ _ hc') ?_; intro v h4 w4 hle4 hp4 hs)
  subst hp4
  have ha' := ArrAt.mono (k + 2) _ _ _ _ hle4 ha'
  have hvc' := hvc'.mono (ArrAt.mono (k + 1)) hle4
  have hT := hT.mono hle4
  by_cases cr : 1 < c.shape.length
  · have e : copyE c.shape.length c.vec.cls c.vec.nums c.vec.len N0 most = ([], 22) := if_pos cr
    rw [show copyS c a first N0 most = (22, ⟨[], VecD.none⟩) from by rw [hcS, e]; rfl]
    refine Zerun ?_
    refine RW.val (Y.build T rfl rfl rfl rfl rfl rfl rfl) rfl ?_
    refine Zerun ?_
    (refine RW.storeAll T hs 0 rfl rfl rfl rfl rfl rfl rfl rfl ?_; intro w5 hs)
    refine Zerun ?_
    exact retQ_ret [_, _] h4 ⟨resN T hs 0 rfl rfl rfl rfl rfl rfl, rfl, trivial⟩ hs.dropAll ⟨_, rfl, ⟨_, _, rfl, IntsAt.nil _, vecNone _⟩⟩
  refine Zerun ?_
  (refine RW.call T hs rfl rfl rfl (baseAlong_con (k + 1) _ a first _ _ ha') ?_; intro v h5 w5 hle5 hp5 hs)
  obtain ⟨s5, vc5, rfl, hI5, hv5⟩ := hp5
  rw [hX] at hI5
  rw [hK]
  have hI5' := hI5
  have hv5' := hv5
  obtain ⟨ad5, cp5, rfl, hS5⟩ := hI5
  obtain ⟨wv, nv, sm, il, fl, ch, bx, ⟨rfl, ho5⟩, -⟩ := hv5
  have hvc' := hvc'.mono (ArrAt.mono (k + 1)) hle5
  have hT := hT.mono hle5
  refine Zerun ?_
  (refine RW.storeAll T hs 1 rfl rfl rfl rfl rfl rfl (by show (Value.oneCell' (.slice ad5 X.length cp5) && (vecCells _ wv nv sm il fl ch bx).all Value.oneCell') = true; rw [ho5]; rfl) rfl ?_; intro w6 hs)
  refine Zerun ?_
  rw [hN0]
  obtain ⟨M, hM⟩ : ∃ M, copyN c.vec.len N0 = M := ⟨_, rfl⟩
  have hMm : M ≤ 1048576 := by rw [← hM]; unfold copyN; split <;> omega
  refine RW.meet (fun u : GHeap => [(3, .int .i64 (most : Int)), (4, .pointer (some ⟨b1, 0, none⟩)), (5, .pointer (some ⟨b2, 0, none⟩)), (8, .pointer (some ⟨b3, 0, none⟩)), (10, .int .i64 (K : Int)), (11, .int .i64 (N0 : Int)), (37, .bool (decide (N0 = 1 ∧ c.vec.len ≠ 1)))]) (fun u w' => GLe h5 u ∧ Sees w h u [⟨some ⟨b3, 0, none⟩, 1, 1, 40, 9, .slice none 0 0 :: vecCells 0 (.slice none 0 0) 0 (.slice none 0 0) (.slice none 0 0) (.slice none 0 0) (.slice none 0 0) (.slice none 0 0)⟩, ⟨some ⟨b2, 0, none⟩, 1, 1, 40, 9, .slice ad5 X.length cp5 :: vecCells a.vec.kind wv nv sm il fl ch bx⟩, ⟨some ⟨b1, 0, none⟩, 1, 1, 40, 9, .slice adc c.shape.length cpc :: vecCells c.vec.kind wc nc sc ic fc gc xc⟩] w') ?_ ?_
  · by_cases n1 : N0 = 1
    · have n1' : (N0 : Int) = 1 := by omega
      refine Zerun ?_
      (refine RW.call T hs rfl rfl rfl (vecLen_con _ c.vec _ _ hvc') ?_; intro v h8 w8 hle8 hp8 hs)
      subst hp8
      by_cases l1 : c.vec.len = 1
      · have l1' : (c.vec.len : Int) = 1 := by omega
        refine Zerun ?_
        exact joinQ_meet h8 ⟨rfl, rfl, rfl, rfl, rfl, rfl, (by show some (Value.bool (decide ((c.vec.len : Int) ≠ 1))) = _; rw [decide_eq_false (fun h => h l1'), decide_eq_false (fun h => h.2 l1)]), trivial⟩ ⟨hle8, hs⟩
      · have l1' : ¬ (c.vec.len : Int) = 1 := by omega
        refine Zerun ?_
        exact joinQ_meet h8 ⟨rfl, rfl, rfl, rfl, rfl, rfl, (by show some (Value.bool (decide ((c.vec.len : Int) ≠ 1))) = _; rw [decide_eq_true l1', decide_eq_true ⟨n1, l1⟩]), trivial⟩ ⟨hle8, hs⟩
    · have n1' : ¬ (N0 : Int) = 1 := by omega
      refine Zerun ?_
      exact joinQ_meet h5 ⟨rfl, rfl, rfl, rfl, rfl, rfl, (by show some (Value.bool false) = _; rw [decide_eq_false (fun h : N0 = 1 ∧ c.vec.len ≠ 1 => n1 h.1)]), trivial⟩ ⟨GLe.refl _, hs⟩
  rintro h8 w8 ⟨g8, hs⟩
  have hvc' := hvc'.mono (ArrAt.mono (k + 1)) g8
  have hT := hT.mono g8
  have hS5 := hS5.mono g8
  have hv5' := hv5'.mono (ArrAt.mono (k + 1)) g8
  refine CW.meet (fun u : GHeap => [(3, .int .i64 (most : Int)), (4, .pointer (some ⟨b1, 0, none⟩)), (5, .pointer (some ⟨b2, 0, none⟩)), (8, .pointer (some ⟨b3, 0, none⟩)), (10, .int .i64 (K : Int)), (11, .int .i64 (M : Int))]) (fun u w' => GLe h8 u ∧ Sees w h u [⟨some ⟨b3, 0, none⟩, 1, 1, 40, 9, .slice none 0 0 :: vecCells 0 (.slice none 0 0) 0 (.slice none 0 0) (.slice none 0 0) (.slice none 0 0) (.slice none 0 0) (.slice none 0 0)⟩, ⟨some ⟨b2, 0, none⟩, 1, 1, 40, 9, .slice ad5 X.length cp5 :: vecCells a.vec.kind wv nv sm il fl ch bx⟩, ⟨some ⟨b1, 0, none⟩, 1, 1, 40, 9, .slice adc c.shape.length cpc :: vecCells c.vec.kind wc nc sc ic fc gc xc⟩] w') ?_ ?_
  · by_cases n1 : N0 = 1 ∧ c.vec.len ≠ 1
    · have eM : M = c.vec.len := by rw [← hM]; unfold copyN; rw [if_pos n1]
      rw [decide_eq_true n1]
      refine Zerun ?_
      (refine RW.call T hs rfl rfl rfl (vecLen_con _ c.vec _ _ hvc') ?_; intro v h9 w9 hle9 hp9 hs)
      subst hp9
      refine Zerun ?_
      exact joinQ_meet h9 ⟨rfl, rfl, rfl, rfl, rfl, by rw [eM]; rfl, trivial⟩ ⟨hle9, hs⟩
    · have eM : M = N0 := by rw [← hM]; unfold copyN; rw [if_neg n1]
      rw [decide_eq_false n1]
      refine Zerun ?_
      exact joinQ_meet h8 ⟨rfl, rfl, rfl, rfl, rfl, by rw [eM]; rfl, trivial⟩ ⟨GLe.refl _, hs⟩
  rintro h9 w9 ⟨g9, hs⟩
  have hvc' := hvc'.mono (ArrAt.mono (k + 1)) g9
  have hT := hT.mono g9
  have hS5 := hS5.mono g9
  have hv5' := hv5'.mono (ArrAt.mono (k + 1)) g9
  refine Zerun ?_
  by_cases ck : c.vec.cls = 0
  rotate_left
  · have e : copyE c.shape.length c.vec.cls c.vec.nums c.vec.len N0 most = ([], 24) := by unfold copyE; rw [if_neg cr, if_pos ck]
    rw [show copyS c a first N0 most = (24, ⟨[], VecD.none⟩) from by rw [hcS, e]; rfl]
    (refine RW.call T hs rfl rfl rfl (pickCopiesNo_con (ArrAt.mono (k + 1)) _ c.vec M most _ _ hvc' hcm (.inl ck)) ?_; intro v h10 w10 hle10 hp10 hs)
    subst hp10
    refine Zerun ?_
    refine RW.val (Y.build T rfl rfl rfl rfl rfl rfl rfl) rfl ?_
    refine Zerun ?_
    (refine RW.storeAll T hs 0 rfl rfl rfl rfl rfl rfl rfl rfl ?_; intro w11 hs)
    refine Zerun ?_
    exact retQ_ret [_, _] h10 ⟨resN T hs 0 rfl rfl rfl rfl rfl rfl, rfl, trivial⟩ hs.dropAll ⟨_, rfl, ⟨_, _, rfl, IntsAt.nil _, vecNone _⟩⟩
  have hce := hcv ck
  obtain ⟨ts, hts⟩ : ∃ ts, c.vec.nums = ts := ⟨_, rfl⟩
  rw [hts] at hce
  have htl : ts.length ≤ 1048576 := by rw [hce] at hcm; show ts.length ≤ _; have : ts.length + 0 + 0 ≤ 1048576 := hcm; omega
  have e : copyE c.shape.length c.vec.cls c.vec.nums c.vec.len N0 most = (if N0 = 1 then clampL (refCopiesRes ts M most).1 else (refCopiesRes ts M most).1, (refCopiesRes ts M most).2) := by unfold copyE; rw [if_neg cr, if_neg (fun h => h ck), hM, hts]
  rw [e] at hcS
  have hrl := refCopiesRes_len ts M most
  have hone := copies_one ts most
  have hkk := hce
  have hvk : VecAt (ArrAt (k + 1)) h9 (vecCells c.vec.kind wc nc sc ic fc gc xc) ⟨leastN ts, ts, [], []⟩ := hce ▸ hvc'
  by_cases ce : (refCopiesRes ts M most).2 = 0
  rotate_left
  · rw [if_pos ce] at hcS
    (refine RW.call T hs rfl rfl rfl (pickCopiesAll_con (ArrAt.mono (k + 1)) _ ts M most _ _ hT hvk htl hMm hmost) ?_; intro v h10 w10 hle10 hp10 hs)
    obtain ⟨s10, rfl, hI10⟩ := hp10
    obtain ⟨pe, hpe⟩ : ∃ pe, (refCopiesRes ts M most).2 = pe := ⟨_, rfl⟩
    rw [hpe] at ce hcS ⊢
    rw [hcS]
    refine Zerun ?_
    refine RW.val (Y.build T rfl rfl rfl rfl rfl rfl rfl) rfl ?_
    refine Zerun ?_
    (refine RW.storeAll T hs 0 rfl rfl rfl rfl rfl rfl rfl rfl ?_; intro w11 hs)
    refine Zerun ?_
    exact retQ_ret [_, _] h10 ⟨resN T hs 0 rfl rfl rfl rfl rfl rfl, rfl, trivial⟩ hs.dropAll ⟨_, rfl, ⟨_, _, rfl, IntsAt.nil _, vecNone _⟩⟩
  rw [if_neg (fun h => h ce)] at hcS
  have hwh : ∀ u ∈ ts, (wholeF u).2 = true := by
    by_cases hq : ∀ u ∈ ts, (wholeF u).2 = true
    · exact hq
    · exfalso
      have : refCopiesRes ts M most = ([], 24) := if_neg hq
      rw [this] at ce
      exact absurd ce (by decide)
  have hrc : refCopiesRes ts M most = copiesRes (ts.map fun x => (wholeF x).1) M most := if_pos hwh
  have hk3 : c.vec.kind = 1 ∨ c.vec.kind = 2 ∨ c.vec.kind = 3 := by
    rw [hce]
    show leastN ts = 1 ∨ leastN ts = 2 ∨ leastN ts = 3
    have hb := leastN_bounds ts
    have : leastN ts ≤ 3 := by
      unfold leastN
      exact fold_le _ _ _ (by omega) (fun x hx => (rank_int x).2 (hwh x hx))
    omega
  (refine RW.callM T hs rfl rfl rfl ((pickCopies_conM0 (ArrAt.mono (k + 1)) _ c.vec M most (ts.map fun x => (wholeF x).1) _ _ hT hvc' hcm hk3 (by rw [hts]) (by intro z hz; obtain ⟨x, hx, rfl⟩ := List.mem_map.1 hz; exact wholeF_bounds _) hMm (by omega)).framed) ?_; intro v h10 O10 w10 hle10 hp10 hs)
  obtain ⟨_, rfl, ad10, cp10, rfl, rfl⟩ := hp10
  rw [← hrc] at hs ⊢
  rw [ce]
  obtain ⟨at_, hat⟩ : ∃ at_, (refCopiesRes ts M most).1 = at_ := ⟨_, rfl⟩
  rw [hat] at hs hrl hcS ⊢
  have hS5 := hS5.mono hle10
  have hv5' := hv5'.mono (ArrAt.mono (k + 1)) hle10
  refine Zerun ?_
  refine CW.meet (fun u : Option Addr × Nat × GHeap => [(3, .int .i64 (most : Int)), (5, .pointer (some ⟨b2, 0, none⟩)), (8, .pointer (some ⟨b3, 0, none⟩)), (10, .int .i64 (K : Int)), (12, .slice u.1 at_.length u.2.1)]) (fun u w' => GLe h10 u.2.2 ∧ IntsAt u.2.2 (.slice u.1 at_.length u.2.1) (if N0 = 1 then clampL at_ else at_) ∧ Sees w h u.2.2 [⟨some ⟨b3, 0, none⟩, 1, 1, 40, 9, .slice none 0 0 :: vecCells 0 (.slice none 0 0) 0 (.slice none 0 0) (.slice none 0 0) (.slice none 0 0) (.slice none 0 0) (.slice none 0 0)⟩, ⟨some ⟨b2, 0, none⟩, 1, 1, 40, 9, .slice ad5 X.length cp5 :: vecCells a.vec.kind wv nv sm il fl ch bx⟩, ⟨some ⟨b1, 0, none⟩, 1, 1, 40, 9, .slice adc c.shape.length cpc :: vecCells c.vec.kind wc nc sc ic fc gc xc⟩] w') ?_ ?_
  · by_cases cm : M = N0
    · have cm' : (M : Int) = N0 := by omega
      have eC : (if N0 = 1 then clampL at_ else at_) = at_ := by
        by_cases n1 : N0 = 1
        · rw [if_pos n1]
          refine clamp_self ?_
          rw [← hat, cm, n1]
          exact hone
        · rw [if_neg n1]
      rw [eC]
      refine Zerun ?_
      rw [hN0]
      obtain ⟨h11, hle11, hs, hS11⟩ := hs.freeze
      refine Zerun ?_
      exact joinQ_meet (ad10, cp10, h11) ⟨rfl, rfl, rfl, rfl, rfl, trivial⟩ ⟨hle11, IntsAt.of_sl hS11, hs⟩
    · have cm' : ¬ (M : Int) = N0 := by omega
      have n1 : N0 = 1 := by
        by_cases n1 : N0 = 1
        · exact n1
        · exfalso
          apply cm
          rw [← hM]
          unfold copyN
          rw [if_neg (fun h => n1 h.1)]
      rw [if_pos n1]
      refine Zerun ?_
      rw [hN0]
      refine Zerun ?_
      refine CW.loop (fun i : Nat => [(3, .int .i64 (most : Int)), (5, .pointer (some ⟨b2, 0, none⟩)), (8, .pointer (some ⟨b3, 0, none⟩)), (10, .int .i64 (K : Int)), (12, .slice ad10 at_.length cp10), (61, .int .i64 at_.length), (62, .int .i64 i)]) (fun i w' => i ≤ at_.length ∧ Sees w h h10 [⟨ad10, at_.length, cp10, 3, 1, ((at_.map fun z => min z 0).take i ++ at_.drop i).map (Value.int .i64)⟩, ⟨some ⟨b3, 0, none⟩, 1, 1, 40, 9, .slice none 0 0 :: vecCells 0 (.slice none 0 0) 0 (.slice none 0 0) (.slice none 0 0) (.slice none 0 0) (.slice none 0 0) (.slice none 0 0)⟩, ⟨some ⟨b2, 0, none⟩, 1, 1, 40, 9, .slice ad5 X.length cp5 :: vecCells a.vec.kind wv nv sm il fl ch bx⟩, ⟨some ⟨b1, 0, none⟩, 1, 1, 40, 9, .slice adc c.shape.length cpc :: vecCells c.vec.kind wc nc sc ic fc gc xc⟩] w') (fun i => at_.length - i) 0 ⟨rfl, rfl, rfl, rfl, rfl, rfl, rfl, trivial⟩ ⟨by omega, hs.re (by simp)⟩ ?_
      rintro i w12 ⟨hi, hs⟩
      by_cases hlt : i < at_.length
      · have hrow : ((at_.map fun z => min z 0).take i ++ at_.drop i).getD i 0 = at_.getD i 0 := by
          rw [List.getD_eq_getElem?_getD, List.getElem?_append_right (by rw [List.length_take, List.length_map]; omega), List.length_take, List.length_map, List.getElem?_drop, ← List.getD_eq_getElem?_getD]
          congr 1
          omega
        have hstep := clamp_take at_ i hlt
        have hll : ((at_.map fun z => min z 0).take i ++ at_.drop i).length = at_.length := by rw [List.length_append, List.length_take, List.length_map, List.length_drop]; omega
        obtain ⟨Z, hZ⟩ : ∃ Z, (at_.map fun z => min z 0).take i ++ at_.drop i = Z := ⟨_, rfl⟩
        rw [hZ] at hs hrow hstep hll
        refine Zerun ?_
        refine RW.val (Y.idxRN T hs 0 rfl rfl rfl rfl rfl rfl hlt) rfl ?_
        refine RW.val (Y.ldRInt T hs 0 rfl rfl rfl rfl (by omega)) rfl ?_
        rw [hrow]
        refine RW.val (Y.min2 rfl rfl) rfl ?_
        refine RW.val (Y.idxRN T hs 0 rfl rfl rfl rfl rfl rfl hlt) rfl ?_
        refine RW.st1 T hs 0 rfl rfl rfl rfl rfl rfl rfl (by omega) ?_
        intro w13 hs
        dsimp only [List.set_cons_zero, List.set_cons_succ] at hs
        rw [map_set_int, hstep] at hs
        refine Zerun ?_
        exact loopQ_round (i + 1) ⟨rfl, rfl, rfl, rfl, rfl, rfl, seti (by omega), trivial⟩ ⟨by omega, hs⟩ (by omega)
      obtain rfl : i = at_.length := by omega
      rw [List.take_of_length_le (by rw [List.length_map]; omega), List.drop_length, List.append_nil] at hs
      obtain ⟨h11, hle11, hs, hS11⟩ := hs.freeze
      have hll : (clampL at_).length = at_.length := List.length_map ..
      refine Zerun ?_
      refine joinQ_meet (ad10, cp10, h11) ⟨rfl, rfl, rfl, rfl, rfl, trivial⟩ ⟨hle11, ?_, hs⟩
      dsimp only at hS11 ⊢
      have hS12 : Sl h11 1 ad10 at_.length cp10 ((clampL at_).map (Value.int .i64)) := hS11
      rw [← hll] at hS12 ⊢
      exact IntsAt.of_sl hS12
  rintro ⟨ad11, cp11, h11⟩ w11 ⟨g11, hI11, hs⟩
  dsimp only at g11 hI11 hs ⊢
  obtain ⟨A, hA⟩ : ∃ A, (if N0 = 1 then clampL at_ else at_) = A := ⟨_, rfl⟩
  have hAl : A.length = at_.length := by rw [← hA]; split; exact List.length_map ..; rfl
  rw [hA] at hI11 hcS
  have hA11 : ArrAt (k + 2) h11 (.slice ad5 X.length cp5 :: vecCells a.vec.kind wv nv sm il fl ch bx) (⟨X, a.vec⟩ : ArrD (AD (k + 1))) := ⟨_, _, rfl, ⟨ad5, cp5, rfl, hS5.mono g11⟩, hv5'.mono (ArrAt.mono (k + 1)) g11⟩
  rw [hcS]
  refine Zerun ?_
  (refine RW.call T hs rfl rfl rfl (basePicked2_con k _ (⟨X, a.vec⟩ : ArrD (AD (k + 1))) _ K A most _ _ hA11 hI11 hpx hKlt (by omega) hvm hk0 (by omega)) ?_; intro v h13 w13 hle13 hp13 hs)
  obtain ⟨cs13, rfl, hA13⟩ := hp13
  obtain ⟨⟨pe, pr⟩, hpz⟩ : ∃ z, pickedS (⟨X, a.vec⟩ : ArrD (AD (k + 1))) K A most = z := ⟨_, rfl⟩
  rw [hpz] at hA13 ⊢
  have hA13' := hA13
  obtain ⟨_, vc13, rfl, ⟨ad13, cp13, rfl, _⟩, hv13⟩ := hA13
  obtain ⟨wv13, nv13, sm13, il13, fl13, ch13, bx13, ⟨rfl, hoc13⟩, -⟩ := hv13
  refine Zerun ?_
  (refine RW.storeAll T hs 0 rfl rfl rfl rfl rfl rfl (by show (Value.oneCell' (.slice ad13 _ cp13) && (vecCells _ wv13 nv13 sm13 il13 fl13 ch13 bx13).all Value.oneCell') = true; rw [hoc13]; rfl) rfl ?_; intro w14 hs)
  refine Zerun ?_
  exact retQ_ret [_, _] h13 ⟨resN T hs 0 rfl rfl rfl rfl rfl rfl, rfl, trivial⟩ hs.dropAll ⟨_, rfl, hA13'⟩
/-! ## Masks -/
def expandE (rank : Nat) (cls : Int) (nums : List Nat) (N0 : Nat) : List Int × Int := if 1 < rank then ([], 22) else expandS cls nums N0
noncomputable def expandA {k : Nat} (c a : ArrD (AD (k + 1))) (first : Bool) (N0 most : Nat) : Int × ArrD (AD (k + 1)) :=
  if (expandE c.shape.length c.vec.cls c.vec.nums N0).2 ≠ 0 then ((expandE c.shape.length c.vec.cls c.vec.nums N0).2, ⟨[], VecD.none⟩)
  else pickedS (⟨axS a.shape, a.vec⟩ : ArrD (AD (k + 1))) (axN a.shape first) (expandE c.shape.length c.vec.cls c.vec.nums N0).1 most
theorem expandS_len (cls : Int) (nums : List Nat) (n : Nat) : (expandS cls nums n).1.length ≤ nums.length := by
  unfold expandS
  split
  · unfold expRes
    split
    · exact Nat.zero_le _
    · dsimp only
      rw [expTo_len, bsOf_len]
      exact Nat.le_refl _
  · exact Nat.zero_le _
theorem baseExpand_con (k : Nat) (cc ca : List Value) (c a : ArrD (AD (k + 1))) (first : Bool) (N0 most : Nat) (w : World) (h : GHeap) (hc : ArrAt (k + 2) h cc c) (ha : ArrAt (k + 2) h ca a) (hcm : c.vec.len ≤ 1048576) (hck : c.vec.kind ≠ 0) (hmost : most ≤ 1048576)
    (hpr : product a.shape 1048576 = ((a.vec.len : Int), 0)) (hN0 : (axS a.shape).getD (axN a.shape first) 0 = (N0 : Int)) (hvm : a.vec.len ≤ 1048576) (hk0 : a.vec.kind ≠ 0) :
    Con Tryz.prog 14 [.agg cc.toArray, .agg ca.toArray, .bool first, .int .i64 (most : Int)] w h (fun h' u => ∃ cs', u = .tuple #[.agg cs'.toArray, .int .i64 (expandA c a first N0 most).1] ∧ ArrAt (k + 2) h' cs' (expandA c a first N0 most).2) := by
  have ha' := ha
  have hc' := hc
  obtain ⟨_, vca, rfl, ⟨ada, cpa, rfl, hSa⟩, hva⟩ := ha
  obtain ⟨_, vcc, rfl, ⟨adc, cpc, rfl, hSc⟩, hvc⟩ := hc
  have hvc' := hvc
  obtain ⟨wa, na, sa, ia, fa, ga, xa, ⟨rfl, hoa⟩, -⟩ := hva
  obtain ⟨wc, nc, sc, ic, fc, gc, xc, ⟨rfl, hoc⟩, -⟩ := hvc
  have hpx := axS_prod hpr
  have hgx : goodS (axS a.shape) = true := (goodS_iff _).2 (by rw [hpx])
  have hsx := ((goodS_spec _).1 hgx).1
  obtain ⟨X, hX⟩ : ∃ X, axS a.shape = X := ⟨_, rfl⟩
  obtain ⟨K, hK⟩ : ∃ K, axN a.shape first = K := ⟨_, rfl⟩
  have hKlt := axN_lt a.shape first
  have hcS : expandA c a first N0 most = if (expandE c.shape.length c.vec.cls c.vec.nums N0).2 ≠ 0 then ((expandE c.shape.length c.vec.cls c.vec.nums N0).2, ⟨[], VecD.none⟩) else pickedS (⟨X, a.vec⟩ : ArrD (AD (k + 1))) K (expandE c.shape.length c.vec.cls c.vec.nums N0).1 most := by unfold expandA; rw [hX, hK]
  rw [hX] at hpx hgx hsx hKlt hN0
  rw [hK] at hKlt hN0
  have hN0m : N0 ≤ 1048576 := by have := (good_le X hgx _ (mem_getD X K 0 hKlt)).2; omega
  have hgn := map_get (Value.int .i64) X K 0 hKlt
  rw [hN0] at hgn
  have hscap := hSc.caps
  refine Con.of_body Tryz.func14 rfl Tryz.ntmps14 rfl rfl ?_
  intro hs
  refine Zrun ?_
  (refine RW.boxN hs rfl rfl ?_; intro b1 w1 hs)
  refine Zrun ?_
  (refine RW.boxN hs rfl rfl ?_; intro b2 w2 hs)
  refine Zrun ?_
  (refine RW.allocN T hs rfl rfl rfl rfl ?_; intro b3 w3 hs)
  refine Zerun ?_
  (refine RW.call T hs rfl rfl rfl (valueRank_con (R := ArrAt (k + 1)) _ c _ _ hc') ?_; intro v h4 w4 hle4 hp4 hs)
  subst hp4
  have ha' := ArrAt.mono (k + 2) _ _ _ _ hle4 ha'
  have hvc' := hvc'.mono (ArrAt.mono (k + 1)) hle4
  by_cases cr : 1 < c.shape.length
  · have e : expandE c.shape.length c.vec.cls c.vec.nums N0 = ([], 22) := if_pos cr
    rw [show expandA c a first N0 most = (22, ⟨[], VecD.none⟩) from by rw [hcS, e]; rfl]
    refine Zerun ?_
    refine RW.val (Y.build T rfl rfl rfl rfl rfl rfl rfl) rfl ?_
    refine Zerun ?_
    (refine RW.storeAll T hs 0 rfl rfl rfl rfl rfl rfl rfl rfl ?_; intro w5 hs)
    refine Zerun ?_
    exact retQ_ret [_, _] h4 ⟨resN T hs 0 rfl rfl rfl rfl rfl rfl, rfl, trivial⟩ hs.dropAll ⟨_, rfl, ⟨_, _, rfl, IntsAt.nil _, vecNone _⟩⟩
  have e : expandE c.shape.length c.vec.cls c.vec.nums N0 = expandS c.vec.cls c.vec.nums N0 := if_neg cr
  rw [e] at hcS
  refine Zerun ?_
  (refine RW.call T hs rfl rfl rfl (baseAlong_con (k + 1) _ a first _ _ ha') ?_; intro v h5 w5 hle5 hp5 hs)
  obtain ⟨s5, vc5, rfl, hI5, hv5⟩ := hp5
  rw [hX] at hI5
  rw [hK]
  have hI5' := hI5
  have hv5' := hv5
  obtain ⟨ad5, cp5, rfl, hS5⟩ := hI5
  obtain ⟨wv, nv, sm, il, fl, ch, bx, ⟨rfl, ho5⟩, -⟩ := hv5
  have hvc' := hvc'.mono (ArrAt.mono (k + 1)) hle5
  refine Zerun ?_
  (refine RW.storeAll T hs 1 rfl rfl rfl rfl rfl rfl (by show (Value.oneCell' (.slice ad5 X.length cp5) && (vecCells _ wv nv sm il fl ch bx).all Value.oneCell') = true; rw [ho5]; rfl) rfl ?_; intro w6 hs)
  refine Zerun ?_
  obtain ⟨Z, hZ⟩ : ∃ Z, expandS c.vec.cls c.vec.nums N0 = Z := ⟨_, rfl⟩
  have hZl := expandS_len c.vec.cls c.vec.nums N0
  rw [hZ] at hcS hZl
  have hnl : c.vec.nums.length ≤ 1048576 := by unfold VecD.len at hcm; omega
  refine CW.meet (fun u : Option Addr × Nat × GHeap => [(3, .int .i64 (most : Int)), (5, .pointer (some ⟨b2, 0, none⟩)), (8, .pointer (some ⟨b3, 0, none⟩)), (10, .int .i64 (K : Int)), (11, .slice u.1 Z.1.length u.2.1), (12, .int .i64 Z.2)]) (fun u w' => GLe h5 u.2.2 ∧ IntsAt u.2.2 (.slice u.1 Z.1.length u.2.1) Z.1 ∧ Sees w h u.2.2 [⟨some ⟨b3, 0, none⟩, 1, 1, 40, 9, .slice none 0 0 :: vecCells 0 (.slice none 0 0) 0 (.slice none 0 0) (.slice none 0 0) (.slice none 0 0) (.slice none 0 0) (.slice none 0 0)⟩, ⟨some ⟨b2, 0, none⟩, 1, 1, 40, 9, .slice ad5 X.length cp5 :: vecCells a.vec.kind wv nv sm il fl ch bx⟩, ⟨some ⟨b1, 0, none⟩, 1, 1, 40, 9, .slice adc c.shape.length cpc :: vecCells c.vec.kind wc nc sc ic fc gc xc⟩] w') ?_ ?_
  · refine CW.regionG T 2 1 hs rfl rfl ?_
    intro w6 hs
    have hgl := GLe.refl h5
    refine HW.takeG (fuel := 12) 0 rfl (fun _ _ ka kb _ hg hs hka hkb => Y.fieldAddr T rfl rfl rfl rfl rfl) ⟨_, _, 2, 1, hgl, hs, rfl, rfl⟩ rfl (by kernel_rfl) (by kernel_rfl) (by kernel_rfl) ?_
    refine HW.takeG (fuel := 11) 1 rfl (fun _ _ ka kb _ hg hs hka hkb => Y.loadRowN T hs ka hka rfl rfl rfl rfl rfl rfl) ⟨_, _, 2, 1, hgl, hs, rfl, rfl⟩ rfl (by kernel_rfl) (by kernel_rfl) (by kernel_rfl) ?_
    refine HW.takeG (fuel := 10) 2 rfl (fun _ _ ka kb _ hg hs hka hkb => Y.fieldAddr T rfl rfl rfl rfl rfl) ⟨_, _, 2, 1, hgl, hs, rfl, rfl⟩ rfl (by kernel_rfl) (by kernel_rfl) (by kernel_rfl) ?_
    refine HW.takeG (fuel := 9) 3 rfl (fun _ _ ka kb _ hg hs hka hkb => Y.loadRow1 T hs kb hkb rfl rfl rfl rfl) ⟨_, _, 2, 1, hgl, hs, rfl, rfl⟩ rfl (by kernel_rfl) (by kernel_rfl) (by kernel_rfl) ?_
    refine HW.takeG (fuel := 8) 4 rfl (fun _ _ ka kb _ hg hs hka hkb => Y.move rfl) ⟨_, _, 2, 1, hgl, hs, rfl, rfl⟩ rfl (by kernel_rfl) (by kernel_rfl) (by kernel_rfl) ?_
    refine HW.takeG (fuel := 7) 5 rfl (fun _ _ ka kb _ hg hs hka hkb => Y.idxSN T rfl rfl (hS5.mono hg) rfl rfl rfl hKlt) ⟨_, _, 2, 1, hgl, hs, rfl, rfl⟩ rfl (by kernel_rfl) (by kernel_rfl) (by kernel_rfl) ?_
    refine HW.takeG (fuel := 6) 6 rfl (fun _ _ ka kb _ hg hs hka hkb => Y.ldS T hs rfl (hS5.mono hg) rfl rfl hKlt hgn) ⟨_, _, 2, 1, hgl, hs, rfl, rfl⟩ rfl (by kernel_rfl) (by kernel_rfl) (by kernel_rfl) ?_
    refine HW.one (fuel := 5) 7 rfl (by kernel_rfl) ?_
    (refine RW.call T hs rfl rfl rfl (pickExpand_con (ArrAt.mono (k + 1)) _ c.vec N0 _ _ hvc' hcm hck hN0m) ?_; intro v h31 w31 hle31 hp31 hs)
    rw [hZ] at hp31
    obtain ⟨s31, rfl, hI31⟩ := hp31
    have hI31' := hI31
    obtain ⟨ad31, cp31, rfl, _⟩ := hI31
    have hgl := hgl.trans hle31
    refine RW.nil ?_
    refine heldQ_normal ⟨_, _, 2, 1, hgl, hs, rfl, rfl⟩ ?_
    refine HW.takeG (fuel := 4) 8 rfl (fun _ _ ka kb _ hg hs hka hkb => Y.move rfl) ⟨_, _, 2, 1, hgl, hs, rfl, rfl⟩ rfl (by kernel_rfl) (by kernel_rfl) (by kernel_rfl) ?_
    refine HW.takeG (fuel := 3) 9 rfl (fun _ _ ka kb _ hg hs hka hkb => Y.extract rfl rfl) ⟨_, _, 2, 1, hgl, hs, rfl, rfl⟩ rfl (by kernel_rfl) (by kernel_rfl) (by kernel_rfl) ?_
    refine HW.takeG (fuel := 2) 10 rfl (fun _ _ ka kb _ hg hs hka hkb => Y.extract rfl rfl) ⟨_, _, 2, 1, hgl, hs, rfl, rfl⟩ rfl (by kernel_rfl) (by kernel_rfl) (by kernel_rfl) ?_
    refine HW.takeG (fuel := 1) 11 rfl (fun _ _ ka kb _ hg hs hka hkb => Y.assign rfl) ⟨_, _, 2, 1, hgl, hs, rfl, rfl⟩ rfl (by kernel_rfl) (by kernel_rfl) (by kernel_rfl) ?_
    refine HW.takeG (fuel := 0) 12 rfl (fun _ _ ka kb _ hg hs hka hkb => Y.assign rfl) ⟨_, _, 2, 1, hgl, hs, rfl, rfl⟩ rfl (by kernel_rfl) (by kernel_rfl) (by kernel_rfl) ?_
    refine HW.done (by kernel_rfl) ?_
    refine calmQ_normal ?_
    exact joinQ_meet (ad31, cp31, h31) ⟨rfl, rfl, rfl, rfl, rfl, rfl, trivial⟩ ⟨hle31, hI31', hs⟩
  rintro ⟨ad7, cp7, h7⟩ w7 ⟨g7, hI7, hs⟩
  dsimp only at g7 hI7 hs ⊢
  by_cases ce : Z.2 = 0
  rotate_left
  · rw [if_pos ce] at hcS
    rw [hcS]
    obtain ⟨pe, hpe⟩ : ∃ pe, Z.2 = pe := ⟨_, rfl⟩
    rw [hpe] at ce ⊢
    refine Zerun ?_
    refine RW.val (Y.build T rfl rfl rfl rfl rfl rfl rfl) rfl ?_
    refine Zerun ?_
    (refine RW.storeAll T hs 0 rfl rfl rfl rfl rfl rfl rfl rfl ?_; intro w11 hs)
    refine Zerun ?_
    exact retQ_ret [_, _] h7 ⟨resN T hs 0 rfl rfl rfl rfl rfl rfl, rfl, trivial⟩ hs.dropAll ⟨_, rfl, ⟨_, _, rfl, IntsAt.nil _, vecNone _⟩⟩
  rw [if_neg (fun h => h ce)] at hcS
  rw [ce, hcS]
  have hA11 : ArrAt (k + 2) h7 (.slice ad5 X.length cp5 :: vecCells a.vec.kind wv nv sm il fl ch bx) (⟨X, a.vec⟩ : ArrD (AD (k + 1))) := ⟨_, _, rfl, ⟨ad5, cp5, rfl, hS5.mono g7⟩, hv5'.mono (ArrAt.mono (k + 1)) g7⟩
  refine Zerun ?_
  (refine RW.call T hs rfl rfl rfl (basePicked2_con k _ (⟨X, a.vec⟩ : ArrD (AD (k + 1))) _ K Z.1 most _ _ hA11 hI7 hpx hKlt (by omega) hvm hk0 (by omega)) ?_; intro v h13 w13 hle13 hp13 hs)
  obtain ⟨cs13, rfl, hA13⟩ := hp13
  obtain ⟨⟨pe, pr⟩, hpz⟩ : ∃ z, pickedS (⟨X, a.vec⟩ : ArrD (AD (k + 1))) K Z.1 most = z := ⟨_, rfl⟩
  rw [hpz] at hA13 ⊢
  have hA13' := hA13
  obtain ⟨_, vc13, rfl, ⟨ad13, cp13, rfl, _⟩, hv13⟩ := hA13
  obtain ⟨wv13, nv13, sm13, il13, fl13, ch13, bx13, ⟨rfl, hoc13⟩, -⟩ := hv13
  refine Zerun ?_
  (refine RW.storeAll T hs 0 rfl rfl rfl rfl rfl rfl (by show (Value.oneCell' (.slice ad13 _ cp13) && (vecCells _ wv13 nv13 sm13 il13 fl13 ch13 bx13).all Value.oneCell') = true; rw [hoc13]; rfl) rfl ?_; intro w14 hs)
  refine Zerun ?_
  exact retQ_ret [_, _] h13 ⟨resN T hs 0 rfl rfl rfl rfl rfl rfl, rfl, trivial⟩ hs.dropAll ⟨_, rfl, hA13'⟩
end Go.Proofs.YtmojpbfkpggjhaaGreatDoor

/-
  Contracts of functions of package shape and of its reference, sixth part. No statement is proved here.
-/
namespace Go.Proofs.YtmojpbfkpggjhaaGreatDoor
open Go Go.RowKit
set_option linter.unusedVariables false
set_option linter.unusedSimpArgs false
set_option maxHeartbeats 4000000
attribute [local irreducible] CW RW QW SW HW ConM retM heldQ calmQ elemP thenQ blockQ loopQ joinQ retQ Yields Con Sl

theorem refWith_con (s : Value) (l : List Int) (axis : Nat) (n : Int) (w : World) (h : GHeap) (hl : IntsAt h s l) (hm : l.length ≤ 17592186044416) (ha : axis < l.length) : Con Tryz.prog 117 [s, .int .i64 axis, .int .i64 n] w h
    (fun h' v => IntsAt h' v (l.set axis n)) := by
  obtain ⟨ad, cp, rfl, hS⟩ := hl
  refine Con.of_body Tryz.func117 rfl Tryz.ntmps117 rfl rfl ?_
  intro hs
  refine Zrun ?_
  (refine RW.lit T hs (vs := []) rfl rfl rfl rfl (by simp [Value.cells]) rfl rfl rfl rfl rfl ?_; intro b1 w1 hs)
  refine Zrun ?_
  refine RW.append T hs 0 rfl rfl (m := l.length) (news := l.map (Value.int .i64)) rfl rfl rfl rfl rfl rfl (hS.src hs.agree (one_ints _ _)) (fun e => by subst e; exact hS.nil0.2) (by dsimp only; omega) (by omega) ?_
  intro ad' cp' w2 hs
  refine Zrun ?_
  refine RW.val (Y.idxRN T hs 0 rfl rfl rfl rfl rfl rfl ?_) rfl ?_
  · omega
  refine RW.st1 T hs 0 rfl rfl rfl rfl rfl rfl rfl (by omega) ?_
  intro w3 hs
  obtain ⟨h3, hle3, hs, hS3⟩ := hs.freeze
  refine Zrun ?_
  refine retQ_ret [_] h3 ⟨rfl, trivial⟩ hs ?_
  simp only [List.flatMap_nil, List.nil_append, map_set_int] at hS3
  exact IntsAt.of_sl hS3

end Go.Proofs.YtmojpbfkpggjhaaGreatDoor

/-
  Contracts of the document's answers of layer 27: parts along an axis, copies, masks. No statement is proved here.
-/
namespace Go.Proofs.YtmojpbfkpggjhaaGreatDoor
open Go Go.RowKit
set_option linter.unusedVariables false
set_option linter.unusedSimpArgs false
set_option maxHeartbeats 4000000
attribute [local irreducible] CW RW QW SW HW ConM retM heldQ calmQ elemP thenQ blockQ loopQ joinQ retQ Yields Con Sl zF magR unitF truncF fwF wholeF tidySpec elemQ rankF leastN tidyW
set_option maxHeartbeats 4000000

noncomputable def pickedR {β : Type} (p : PlainD (PlainD β)) (K : Nat) (at_ : List Int) (most : Int) : Int × PlainD (PlainD β) :=
  if ¬ goodS (p.shape.set K (at_.length : Int)) = true then (26, zeroQ)
  else if (product (p.shape.set K (at_.length : Int)) most).2 ≠ 0 then ((product (p.shape.set K (at_.length : Int)) most).2, zeroQ)
  else (0, ⟨p.shape.set K (at_.length : Int), (alongL (splitN p.shape K).1 (splitN p.shape K).2.1 (splitN p.shape K).2.2 at_).map (fun i => atD p.items i (blankI p.fill)), p.fill⟩)
theorem ref27Along_con {α : Type} {R : GHeap → List Value → α → Prop} (hR : Mono R) (cs : List Value) (p : PlainD α) (first : Bool) (w : World) (h : GHeap) (hp : PlainR R h cs p) : Con Tryz.prog 49 [.agg cs.toArray, .bool first] w h (fun h' u => ∃ s' it, u = .tuple #[.agg [s', it, .int .i64 p.fill].toArray, .int .i64 (axN p.shape first : Nat)] ∧ IntsAt h' s' (axS p.shape) ∧ RowsAt 4 (ItemAt R h') h' it p.items) := by
  obtain ⟨_, it, rfl, ⟨ad, cp, rfl, hS⟩, hv⟩ := hp
  have hv' := hv
  have hcap := hS.caps
  obtain ⟨adI, cpI, xsI, rfl, _, _⟩ := id hv
  refine Con.of_body Tryz.func49 rfl Tryz.ntmps49 rfl rfl ?_
  intro hs
  refine Zrun ?_
  (refine RW.boxN hs rfl rfl ?_; intro b1 w1 hs)
  refine Zrun ?_
  (refine RW.allocN T hs rfl rfl rfl rfl ?_; intro b2 w2 hs)
  refine Zerun ?_
  refine CW.meet (fun u : (Option Addr × Nat) × GHeap => [(1, .bool first), (2, .pointer (some ⟨b1, 0, none⟩)), (4, .pointer (some ⟨b2, 0, none⟩))]) (fun u w' => GLe h u.2 ∧ Sl u.2 1 u.1.1 (axS p.shape).length u.1.2 ((axS p.shape).map (Value.int .i64)) ∧ Sees w h u.2 [⟨some ⟨b2, 0, none⟩, 1, 1, 25, 3, [.slice none 0 0, .slice none 0 0, .int .i64 0]⟩, ⟨some ⟨b1, 0, none⟩, 1, 1, 25, 3, [.slice u.1.1 (axS p.shape).length u.1.2, .slice adI p.items.length cpI, .int .i64 p.fill]⟩] w') ?_ ?_
  · by_cases e : p.shape = []
    · have hx : axS p.shape = [1] := by unfold axS; rw [if_pos e]
      have hl0 : p.shape.length = 0 := by rw [e]; rfl
      rw [hx, hl0]
      refine Zerun ?_
      (refine RW.lit T hs (vs := [.int .i64 1]) (cs := [.int .i64 1]) rfl rfl rfl rfl (by simp [Value.cells]) rfl rfl rfl rfl rfl ?_; intro b3 w3 hs)
      obtain ⟨h3, hle3, hs, hS3⟩ := hs.freeze
      refine Zerun ?_
      (refine RW.store1 T hs 1 rfl rfl rfl rfl rfl rfl (by simp [Value.oneCell']) rfl ?_; intro w4 hs)
      refine Zerun ?_
      exact joinQ_meet ((some ⟨b3, 0, none⟩, 1), h3) ⟨rfl, rfl, rfl, trivial⟩ ⟨hle3, hS3, hs⟩
    · have hx : axS p.shape = p.shape := by unfold axS; rw [if_neg e]
      have hl0 : (p.shape.length : Int) ≠ 0 := by
        intro h0
        exact e (List.eq_nil_of_length_eq_zero (by omega))
      rw [hx]
      refine Zerun ?_
      exact joinQ_meet ((ad, cp), h) ⟨rfl, rfl, rfl, trivial⟩ ⟨GLe.refl _, hS, hs⟩
  rintro ⟨⟨ad5, cp5⟩, h5⟩ w5 ⟨g5, hS5, hs⟩
  dsimp only at g5 hS5 hs ⊢
  have hpos : 1 ≤ (axS p.shape).length := by
    unfold axS
    by_cases e : p.shape = []
    · rw [if_pos e]; decide
    · rw [if_neg e]; exact List.length_pos_iff.2 e
  have hcap5 := hS5.caps
  cases first with
  | true =>
    refine Zerun ?_
    (refine RW.storeAll T hs 0 rfl rfl rfl rfl rfl rfl rfl rfl ?_; intro w6 hs)
    refine Zerun ?_
    refine retQ_ret [_, _] h5 ⟨resN T hs 0 rfl rfl rfl rfl rfl rfl, rfl, trivial⟩ hs.dropAll ⟨_, _, ?_, ⟨ad5, cp5, rfl, hS5⟩, hv'.mono g5 (fun u a => ItemAt.mono hR _ _ u a g5)⟩
    unfold axN
    rw [if_pos rfl]
    rfl
  | false =>
    refine Zerun ?_
    refine CW.regionR T 1 1 hs rfl rfl ?_
    intro w7 hs
    refine HW.takeR (fuel := 6) 0 rfl (fun _ _ ka kb _ hs hka hkb => Y.loadRowN T hs kb hkb rfl rfl rfl rfl rfl rfl) ⟨_, _, 1, 1, hs, rfl, rfl⟩ rfl (by kernel_rfl) (by kernel_rfl) (by kernel_rfl) ?_
    refine HW.takeR (fuel := 5) 1 rfl (fun _ _ ka kb _ hs hka hkb => Y.fieldAddr T rfl rfl rfl rfl rfl) ⟨_, _, 1, 1, hs, rfl, rfl⟩ rfl (by kernel_rfl) (by kernel_rfl) (by kernel_rfl) ?_
    refine HW.takeR (fuel := 4) 2 rfl (fun _ _ ka kb _ hs hka hkb => Y.loadRow1 T hs kb hkb rfl rfl rfl rfl) ⟨_, _, 1, 1, hs, rfl, rfl⟩ rfl (by kernel_rfl) (by kernel_rfl) (by kernel_rfl) ?_
    refine HW.takeR (fuel := 3) 3 rfl (fun _ _ ka kb _ hs hka hkb => Y.len T rfl rfl) ⟨_, _, 1, 1, hs, rfl, rfl⟩ rfl (by kernel_rfl) (by kernel_rfl) (by kernel_rfl) ?_
    refine HW.takeR (fuel := 2) 4 rfl (fun _ _ ka kb _ hs hka hkb => Y.sub rfl rfl ⟨by omega, by omega⟩) ⟨_, _, 1, 1, hs, rfl, rfl⟩ rfl (by kernel_rfl) (by kernel_rfl) (by kernel_rfl) ?_
    refine HW.one (fuel := 1) 5 rfl (by kernel_rfl) ?_
    (refine RW.storeAll T hs 0 rfl rfl rfl rfl rfl rfl rfl rfl ?_; intro w8 hs)
    refine RW.nil ?_
    refine heldQ_normal ⟨_, _, 1, 1, hs, rfl, rfl⟩ ?_
    refine HW.takeR (fuel := 0) 6 rfl (fun _ _ ka kb _ hs hka hkb => Y.assign rfl) ⟨_, _, 1, 1, hs, rfl, rfl⟩ rfl (by kernel_rfl) (by kernel_rfl) (by kernel_rfl) ?_
    refine HW.done (by kernel_rfl) ?_
    refine calmQ_normal ?_
    refine Zerun ?_
    refine retQ_ret [_, _] h5 ⟨resN T hs 0 rfl rfl rfl rfl rfl rfl, seti (by unfold axN; rw [if_neg (by decide)]; omega), trivial⟩ hs.dropAll ⟨_, _, rfl, ⟨ad5, cp5, rfl, hS5⟩, hv'.mono g5 (fun u a => ItemAt.mono hR _ _ u a g5)⟩
theorem ref27Picked_con (k : Nat) (cs : List Value) (p : PlainD (PD (k + 1))) (v1 : Value) (K : Nat) (at_ : List Int) (most : Int) (w : World) (h : GHeap) (hp : PlainAt (k + 2) h cs p) (hat : IntsAt h v1 at_) (hpr : product p.shape 1048576 = ((p.items.length : Int), 0)) (hK : K < p.shape.length) (hal : at_.length ≤ 1048576) (hvm : p.items.length ≤ 1048576) (hmost : most ≤ 1048576) :
    Con Tryz.prog 52 [.agg cs.toArray, .int .i64 (K : Int), v1, .int .i64 most] w h (fun h' u => ∃ cs', u = .tuple #[.agg cs'.toArray, .int .i64 (pickedR (β := PD k) p K at_ most).1] ∧ PlainAt (k + 2) h' cs' (pickedR (β := PD k) p K at_ most).2) := by
  have hg0 : goodS p.shape = true := (goodS_iff _).2 (by rw [hpr])
  have hsl := ((goodS_spec _).1 hg0).1
  obtain ⟨outer, n, inner, hsp, hn, ho, hi, hn2, hla, hset, hpT, hpD⟩ := ax_facts hpr hK
  obtain ⟨_, _, rfl, ⟨ad, cp, rfl, hS⟩, hIt⟩ := hp
  have hIt' := hIt
  obtain ⟨ad3, cp3, xs3, rfl, _, _⟩ := hIt
  have hIt := hIt'
  have hAt := hat
  obtain ⟨ad1, cp1, rfl, hS1⟩ := hat
  have hcap := hS.caps
  have hcap1 := hS1.caps
  have hgn := map_get (Value.int .i64) p.shape K 0 hK
  rw [hn] at hgn
  refine Con.of_body Tryz.func52 rfl Tryz.ntmps52 rfl rfl ?_
  intro hs
  refine Zrun ?_
  (refine RW.boxN hs rfl rfl ?_; intro b1 w1 hs)
  refine Zrun ?_
  (refine RW.allocN T hs rfl rfl rfl rfl ?_; intro b2 w2 hs)
  refine Zerun ?_
  (refine RW.call T hs rfl rfl rfl (refWith_con _ p.shape K at_.length _ _ ⟨ad, cp, rfl, hS⟩ (by omega) hK) ?_; intro v h3 w3 hle3 hp3 hs)
  have hI3 : IntsAt h3 v (p.shape.set K (at_.length : Int)) := hp3
  obtain ⟨ad30, cp30, rfl, _⟩ := id hI3
  have hSl : (p.shape.set K (at_.length : Int)).length = p.shape.length := List.length_set
  refine Zerun ?_
  (refine RW.call T hs rfl rfl rfl (refGood_con _ (p.shape.set K (at_.length : Int)) _ _ hI3 (by omega)) ?_; intro v h4 w4 hle4 hp4 hs)
  subst hp4
  have hI3 := hI3.mono hle4
  by_cases c1 : goodS (p.shape.set K (at_.length : Int)) = true
  rotate_left
  · have c1' : ¬ (product (p.shape.set K (at_.length : Int)) 1048576).2 = 0 := fun h => c1 ((goodS_iff _).2 h)
    rw [decide_eq_false c1', show pickedR p K at_ most = (26, zeroQ) from by unfold pickedR; rw [if_pos c1]]
    refine Zerun ?_
    refine RW.val (Y.build T rfl rfl rfl rfl rfl rfl rfl) rfl ?_
    refine Zerun ?_
    (refine RW.storeAll T hs 0 rfl rfl rfl rfl rfl rfl rfl rfl ?_; intro w5 hs)
    refine Zerun ?_
    exact retQ_ret [_, _] h4 ⟨resN T hs 0 rfl rfl rfl rfl rfl rfl, rfl, trivial⟩ hs.dropAll ⟨_, rfl, ⟨_, _, rfl, IntsAt.nil _, RowsAt.nil _⟩⟩
  rw [decide_eq_true ((goodS_iff _).1 c1)]
  refine Zerun ?_
  (refine RW.call T hs rfl rfl rfl (refProduct_con _ (p.shape.set K (at_.length : Int)) most _ _ hI3 (by omega)) ?_; intro v h5 w5 hle5 hp5 hs)
  subst hp5
  have hI3 := hI3.mono hle5
  by_cases c2 : (product (p.shape.set K (at_.length : Int)) most).2 = 0
  rotate_left
  · obtain ⟨pe, hpe⟩ : ∃ pe, (product (p.shape.set K (at_.length : Int)) most).2 = pe := ⟨_, rfl⟩
    rw [show pickedR p K at_ most = (pe, zeroQ) from by unfold pickedR; rw [if_neg (fun h => h c1), if_pos c2, hpe]]
    rw [hpe] at c2 ⊢
    refine Zerun ?_
    refine RW.val (Y.build T rfl rfl rfl rfl rfl rfl rfl) rfl ?_
    refine Zerun ?_
    (refine RW.storeAll T hs 0 rfl rfl rfl rfl rfl rfl rfl rfl ?_; intro w6 hs)
    refine Zerun ?_
    exact retQ_ret [_, _] h5 ⟨resN T hs 0 rfl rfl rfl rfl rfl rfl, rfl, trivial⟩ hs.dropAll ⟨_, rfl, ⟨_, _, rfl, IntsAt.nil _, RowsAt.nil _⟩⟩
  obtain ⟨q, hq⟩ : ∃ q, (product (p.shape.set K (at_.length : Int)) most).1 = q := ⟨_, rfl⟩
  have hpq : product (p.shape.set K (at_.length : Int)) most = (q, 0) := by rw [← hq, ← c2]
  have hqe := hset _ _ _ hpq
  obtain ⟨_, hp2, _, hqm, _⟩ := product_fits _ _ _ hpq
  have hm2 : outer * (at_.length * inner) ≤ 1048576 := by omega
  rw [c2, show pickedR p K at_ most = (0, ⟨p.shape.set K (at_.length : Int), (alongL outer n inner at_).map (fun i => atD p.items i (blankI p.fill)), p.fill⟩) from by unfold pickedR splitN; rw [if_neg (fun h => h c1), if_neg (fun h => h c2), hsp]; rfl]
  have g5 := (hle3.trans hle4).trans hle5
  refine Zerun ?_
  refine RW.val (Y.sliceHi T rfl rfl rfl rfl ⟨by omega, by omega⟩) rfl ?_
  rw [Int.toNat_natCast]
  have hT1 : IntsAt h5 (.slice ad K cp) (p.shape.take K) := by
    have := (hS.mono g5).take K (by omega)
    rw [Nat.mul_one, ← List.map_take] at this
    have hl : (p.shape.take K).length = K := by rw [List.length_take]; omega
    conv at this => arg 4; rw [← hl]
    have h2 := IntsAt.of_sl this
    rw [hl] at h2
    exact h2
  (refine RW.call T hs rfl rfl rfl (refProduct_con _ (p.shape.take K) 1048576 _ _ hT1 (by rw [List.length_take]; omega)) ?_; intro v h7 w7 hle7 hp7 hs)
  rw [hpT] at hp7
  subst hp7
  have hI3 := hI3.mono hle7
  have g7 := g5.trans hle7
  refine Zerun ?_
  refine RW.val (Y.sliceLo T rfl rfl rfl rfl ⟨by omega, by omega⟩ (by omega)) rfl ?_
  have hT2 : IntsAt h7 (.slice (subAd ad (K + 1) cp 1) (p.shape.length - (K + 1)) (cp - (K + 1))) (p.shape.drop (K + 1)) := by
    have := (hS.mono g7).from (K + 1) (by omega)
    rw [Nat.mul_one, ← List.map_drop] at this
    have hl : (p.shape.drop (K + 1)).length = p.shape.length - (K + 1) := List.length_drop
    rw [← hl] at this ⊢
    exact IntsAt.of_sl this
  rw [show ((K : Int) + 1).toNat = K + 1 by omega]
  (refine RW.call T hs rfl rfl rfl (refProduct_con _ (p.shape.drop (K + 1)) 1048576 _ _ hT2 (by rw [List.length_drop]; omega)) ?_; intro v h6 w6 hle6 hp6 hs)
  rw [hpD] at hp6
  subst hp6
  have hI3 := hI3.mono hle6
  have g6 := g7.trans hle6
  have hIt := hIt.mono g6 (fun u a => ItemAt.mono (PlainAt.mono (k + 1)) _ _ u a g6)
  have hAt := hAt.mono g6
  have hS := hS.mono g6
  refine Zerun ?_
  refine CW.regionG T 1 1 hs rfl rfl ?_
  intro w8 hs
  have hgl := GLe.refl h6
  refine HW.takeG (fuel := 18) 0 rfl (fun _ _ ka kb _ hg hs hka hkb => Y.move rfl) ⟨_, _, 1, 1, hgl, hs, rfl, rfl⟩ rfl (by kernel_rfl) (by kernel_rfl) (by kernel_rfl) ?_
  refine HW.takeG (fuel := 17) 1 rfl (fun _ _ ka kb _ hg hs hka hkb => Y.fieldAddr T rfl rfl rfl rfl rfl) ⟨_, _, 1, 1, hgl, hs, rfl, rfl⟩ rfl (by kernel_rfl) (by kernel_rfl) (by kernel_rfl) ?_
  refine HW.takeG (fuel := 16) 2 rfl (fun _ _ ka kb _ hg hs hka hkb => Y.loadRow1 T hs ka hka rfl rfl rfl rfl) ⟨_, _, 1, 1, hgl, hs, rfl, rfl⟩ rfl (by kernel_rfl) (by kernel_rfl) (by kernel_rfl) ?_
  refine HW.takeG (fuel := 15) 3 rfl (fun _ _ ka kb _ hg hs hka hkb => Y.fieldAddr T rfl rfl rfl rfl rfl) ⟨_, _, 1, 1, hgl, hs, rfl, rfl⟩ rfl (by kernel_rfl) (by kernel_rfl) (by kernel_rfl) ?_
  refine HW.takeG (fuel := 14) 4 rfl (fun _ _ ka kb _ hg hs hka hkb => Y.loadRow1 T hs ka hka rfl rfl rfl rfl) ⟨_, _, 1, 1, hgl, hs, rfl, rfl⟩ rfl (by kernel_rfl) (by kernel_rfl) (by kernel_rfl) ?_
  refine HW.takeG (fuel := 13) 5 rfl (fun _ _ ka kb _ hg hs hka hkb => Y.move rfl) ⟨_, _, 1, 1, hgl, hs, rfl, rfl⟩ rfl (by kernel_rfl) (by kernel_rfl) (by kernel_rfl) ?_
  refine HW.takeG (fuel := 12) 6 rfl (fun _ _ ka kb _ hg hs hka hkb => Y.fieldAddr T rfl rfl rfl rfl rfl) ⟨_, _, 1, 1, hgl, hs, rfl, rfl⟩ rfl (by kernel_rfl) (by kernel_rfl) (by kernel_rfl) ?_
  refine HW.takeG (fuel := 11) 7 rfl (fun _ _ ka kb _ hg hs hka hkb => Y.loadRow1 T hs ka hka rfl rfl rfl rfl) ⟨_, _, 1, 1, hgl, hs, rfl, rfl⟩ rfl (by kernel_rfl) (by kernel_rfl) (by kernel_rfl) ?_
  refine HW.takeG (fuel := 10) 8 rfl (fun _ _ ka kb _ hg hs hka hkb => Y.move rfl) ⟨_, _, 1, 1, hgl, hs, rfl, rfl⟩ rfl (by kernel_rfl) (by kernel_rfl) (by kernel_rfl) ?_
  refine HW.takeG (fuel := 9) 9 rfl (fun _ _ ka kb _ hg hs hka hkb => Y.idxSN T rfl rfl (hS.mono hg) rfl rfl rfl hK) ⟨_, _, 1, 1, hgl, hs, rfl, rfl⟩ rfl (by kernel_rfl) (by kernel_rfl) (by kernel_rfl) ?_
  refine HW.takeG (fuel := 8) 10 rfl (fun _ _ ka kb _ hg hs hka hkb => Y.ldS T hs rfl (hS.mono hg) rfl rfl hK hgn) ⟨_, _, 1, 1, hgl, hs, rfl, rfl⟩ rfl (by kernel_rfl) (by kernel_rfl) (by kernel_rfl) ?_
  refine HW.takeG (fuel := 7) 11 rfl (fun _ _ ka kb _ hg hs hka hkb => Y.move rfl) ⟨_, _, 1, 1, hgl, hs, rfl, rfl⟩ rfl (by kernel_rfl) (by kernel_rfl) (by kernel_rfl) ?_
  refine HW.takeG (fuel := 6) 12 rfl (fun _ _ ka kb _ hg hs hka hkb => Y.move rfl) ⟨_, _, 1, 1, hgl, hs, rfl, rfl⟩ rfl (by kernel_rfl) (by kernel_rfl) (by kernel_rfl) ?_
  refine HW.takeG (fuel := 5) 14 rfl (fun _ _ ka kb _ hg hs hka hkb => Y.fieldAddr T rfl rfl rfl rfl rfl) ⟨_, _, 1, 1, hgl, hs, rfl, rfl⟩ rfl (by kernel_rfl) (by kernel_rfl) (by kernel_rfl) ?_
  refine HW.takeG (fuel := 4) 15 rfl (fun _ _ ka kb _ hg hs hka hkb => Y.loadRow1 T hs ka hka rfl rfl rfl rfl) ⟨_, _, 1, 1, hgl, hs, rfl, rfl⟩ rfl (by kernel_rfl) (by kernel_rfl) (by kernel_rfl) ?_
  refine HW.one (fuel := 3) 13 rfl (by kernel_rfl) ?_
  (refine RW.call T hs rfl rfl rfl (refAlong2_con (PlainAt.mono k) _ _ p.items p.fill outer n inner at_ _ _ hIt hAt hla hvm hm2 ⟨ho, hi, hn2⟩ hal) ?_; intro v h67 w67 hle67 hp67 hs)
  have hR67 := hp67
  obtain ⟨ad67, cp67, xs67, rfl, _, _⟩ := hp67
  have hI3 := hI3.mono hle67
  have hIt := hIt.mono hle67 (fun u a => ItemAt.mono (PlainAt.mono (k + 1)) _ _ u a hle67)
  have hAt := hAt.mono hle67
  have hgl := hgl.trans hle67
  refine RW.nil ?_
  refine heldQ_normal ⟨_, _, 1, 1, hgl, hs, rfl, rfl⟩ ?_
  refine HW.takeG (fuel := 2) 16 rfl (fun _ _ ka kb _ hg hs hka hkb => Y.build T rfl rfl rfl rfl rfl rfl rfl) ⟨_, _, 1, 1, hgl, hs, rfl, rfl⟩ rfl (by kernel_rfl) (by kernel_rfl) (by kernel_rfl) ?_
  refine HW.one (fuel := 1) 17 rfl (by kernel_rfl) ?_
  refine RW.storeAll T hs 0 rfl rfl rfl rfl rfl rfl rfl rfl ?_
  intro w917 hs
  refine RW.nil ?_
  refine heldQ_normal ⟨_, _, 1, 1, hgl, hs, rfl, rfl⟩ ?_
  refine HW.takeG (fuel := 0) 18 rfl (fun _ _ ka kb _ hg hs hka hkb => Y.assign rfl) ⟨_, _, 1, 1, hgl, hs, rfl, rfl⟩ rfl (by kernel_rfl) (by kernel_rfl) (by kernel_rfl) ?_
  refine HW.done (by kernel_rfl) ?_
  refine calmQ_normal ?_
  refine Zerun ?_
  exact retQ_ret [_, _] h67 ⟨resN T hs 0 rfl rfl rfl rfl rfl rfl, rfl, trivial⟩ hs.dropAll ⟨_, rfl, ⟨_, _, rfl, hI3, hR67⟩⟩
end Go.Proofs.YtmojpbfkpggjhaaGreatDoor
