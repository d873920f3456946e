/-
  Own texts of the claim, merged: Ij, Ik, Il, Im, In. Lemmas of the proof; no statement is proved here.
-/
import Derived.Test.YthbfkhklihejiaaMd
/-
  Contracts of the law's own functions of layer 7: the chapter's example; the array of a plain one. No statement is proved here.
-/
namespace Go.Proofs.Ythbfkhklihejiaa
open Go Go.RowKit
set_option linter.unusedVariables false
set_option linter.unusedSimpArgs false
set_option maxHeartbeats 4000000
attribute [local irreducible] CW RW QW SW HW ConM retM heldQ calmQ elemP thenQ blockQ loopQ joinQ retQ Yields Con Sl zF magR unitF truncF fwF wholeF tidySpec elemQ rankF leastN tidyW

/-! ## Plain facts -/
theorem AllN.mem {α : Type} {sz : Nat} {R : List Value → α → Prop} : ∀ {xs : List Value} {l : List α}, AllN sz R xs l → ∀ a ∈ l, ∃ cs, R cs a
  | _, [], _, _, h => by cases h
  | xs, b :: l, h, a, ha => by
    rcases List.mem_cons.1 ha with rfl | ha
    · exact ⟨_, h.2.1⟩
    · exact AllN.mem h.2.2 a ha
theorem tidy_tdy : ∀ (k : Nat) (d : Int) (p : PD k) (h : GHeap) (cs : List Value), PlainAt k h cs p → chk k d p = 0 → tdy k (tidy k p)
  | 0, _, _, _, _, _, _ => trivial
  | k + 1, d, p, h, cs, hp, hc => by
    obtain ⟨h1, h2, h3, h4, h5⟩ := (chkP_ok (α := PD k) _ _ _).1 hc
    obtain ⟨s, it, rfl, hl, ⟨ad2, cp2, xs, rfl, hS2, hA⟩⟩ := hp
    show tdyP (tdy k) (tidyP (tidy k) p)
    intro y hy
    obtain ⟨x, hx, rfl⟩ := List.mem_map.1 hy
    obtain ⟨cx, bx, rfl, ⟨ad3, cp3, ys, rfl, hS3, hA3⟩, hn⟩ := hA.mem x hx
    obtain ⟨o1, o2, o3⟩ := h5 x hx
    unfold tidyIt
    by_cases k0 : x.kind = 0
    · rw [if_pos k0]
      exact ⟨tidyW_tidy hn (o3 k0), by simp⟩
    rw [if_neg k0]
    by_cases k1 : x.kind = 1
    · rw [if_pos k1]
      exact ⟨tidy0, by simp⟩
    rw [if_neg k1]
    by_cases k2 : x.kind = 2
    · rw [if_pos k2]
      refine ⟨tidy0, ?_⟩
      obtain ⟨b, hb, hcb⟩ := o2 k2
      intro b' hb'
      dsimp only at hb'
      rw [hb] at hb' hA3
      simp at hb'
      subst hb'
      obtain ⟨cb, hRb⟩ := hA3.mem b (by simp)
      exact tidy_tdy k (d - 1) b h cb hRb hcb
    · rw [if_neg k2]
      exact ⟨tidy0, by simp⟩
/-- the chapter's example: the identity of two rows -/
def p0 : PD 1 := (⟨[2, 2], [⟨0, 4607182418800017408, 0, []⟩, ⟨0, 0, 0, []⟩, ⟨0, 0, 0, []⟩, ⟨0, 4607182418800017408, 0, []⟩], 0⟩ : PlainD Unit)
theorem tidy1 : tidyF 4607182418800017408 := ⟨by omega, fin1, by omega⟩
theorem tidyW0 : tidyW 0 = 0 := by unfold tidyW; rw [tidySpec_of 0 tidy0]
theorem tidyW1 : tidyW 4607182418800017408 = 4607182418800017408 := by unfold tidyW; rw [tidySpec_of _ tidy1]
theorem p0_mem {x : ItemD (PD 0)} (hx : x ∈ PlainD.items (α := PD 0) p0) : x = ⟨0, 4607182418800017408, 0, []⟩ ∨ x = ⟨0, 0, 0, []⟩ := by
  have h : x ∈ ([⟨0, 4607182418800017408, 0, []⟩, ⟨0, 0, 0, []⟩, ⟨0, 0, 0, []⟩, ⟨0, 4607182418800017408, 0, []⟩] : List (ItemD (PD 0))) := hx
  simp only [List.mem_cons, List.not_mem_nil, or_false] at h
  rcases h with h | h | h | h
  · exact .inl h
  · exact .inr h
  · exact .inr h
  · exact .inl h
theorem p0_chk : chk 1 40 p0 = 0 := by
  refine (chkP_ok (α := PD 0) _ _ _).2 ⟨by omega, by decide, by decide, by decide, ?_⟩
  intro x hx
  rcases p0_mem hx with rfl | rfl
  · exact ⟨rfl, fun e => absurd e (by decide), fun _ => fin1⟩
  · exact ⟨rfl, fun e => absurd e (by decide), fun _ => fin0⟩
theorem p0_tidy : tidy 1 p0 = p0 := by
  have t1 : tidyIt (tidy 0) (⟨0, 4607182418800017408, 0, []⟩ : ItemD (PD 0)) = ⟨0, 4607182418800017408, 0, []⟩ := by unfold tidyIt; rw [if_pos rfl, tidyW1]
  have t0 : tidyIt (tidy 0) (⟨0, 0, 0, []⟩ : ItemD (PD 0)) = ⟨0, 0, 0, []⟩ := by unfold tidyIt; rw [if_pos rfl, tidyW0]
  show (⟨[2, 2], [tidyIt (tidy 0) ⟨0, 4607182418800017408, 0, []⟩, tidyIt (tidy 0) ⟨0, 0, 0, []⟩, tidyIt (tidy 0) ⟨0, 0, 0, []⟩, tidyIt (tidy 0) ⟨0, 4607182418800017408, 0, []⟩], 0⟩ : PlainD (PD 0)) = _
  rw [t1, t0]
  rfl
theorem p0_tdy : tdy 1 p0 := by
  intro x hx
  rcases p0_mem hx with rfl | rfl
  · exact ⟨tidy1, by simp⟩
  · exact ⟨tidy0, by simp⟩
theorem p0_depth : depth 1 p0 = 1 := by
  show depthP _ _ = _
  unfold depthP
  rfl
theorem p0_kind : (ArrD.vec (α := AD 0) (arr 1 p0)).kind = 1 := by
  have e : (arrV (arr 0) 0 [⟨0, 4607182418800017408, 0, []⟩, ⟨0, 0, 0, []⟩, ⟨0, 0, 0, []⟩, ⟨0, 4607182418800017408, 0, []⟩]).kind = leastN [4607182418800017408, 0, 0, 4607182418800017408] := by
    unfold arrV
    rw [if_neg (by omega), if_neg (by omega)]
    simp [tidyW0, tidyW1]
  show (arrV (arr 0) 0 [⟨0, 4607182418800017408, 0, []⟩, ⟨0, 0, 0, []⟩, ⟨0, 0, 0, []⟩, ⟨0, 4607182418800017408, 0, []⟩]).kind = 1
  rw [e]
  have h1 := (leastN_bounds [4607182418800017408, 0, 0, 4607182418800017408]).1
  have h2 : leastN [4607182418800017408, 0, 0, 4607182418800017408] ≤ 1 := by
    rw [leastN.eq_1]
    refine fold_le _ 1 1 (by omega) ?_
    intro x hx
    simp only [List.mem_cons, List.not_mem_nil, or_false] at hx
    rcases hx with rfl | rfl | rfl | rfl
    · exact (rank_bit _ tidy1).2 (.inr fw1.symm)
    · exact (rank_bit _ tidy0).2 (.inl fw0.symm)
    · exact (rank_bit _ tidy0).2 (.inl fw0.symm)
    · exact (rank_bit _ tidy1).2 (.inr fw1.symm)
  omega

theorem awake07_con (w : World) (h : GHeap) : Con Try.prog 41 [] w h (fun _ u => u = .bool true) := by
  refine Con.of_body Try.func41 rfl Try.ntmps41 rfl rfl ?_
  intro hs
  repeat (first | (refine A0 ?_; first | refine R1 rfl rfl ?_ | refine R2 rfl rfl ?_ | (refine A1 ?_; first | refine D3 rfl rfl ?_ | refine D4 rfl rfl rfl rfl ?_ | refine D5 rfl rfl rfl ?_ | refine E6 ?_ rfl rfl | refine E7 ?_ rfl rfl) | refine Zb ?_ rfl | (refine A3 ?_; first | refine R34 T hs 0 rfl rfl rfl rfl rfl rfl ?_ | refine R34 T hs 1 rfl rfl rfl rfl rfl rfl ?_ | refine Zl ?_ rfl) | refine Zi ?_ rfl | refine Zo ?_ rfl | refine A8 ?_) | (refine B0 ?_; first | refine B1 ?_ | refine B2 ?_ | refine B3 ?_ | refine B4 ?_ | refine B5 ?_ | refine B6 ?_ | refine B7 rfl ?_ | refine B8 rfl ?_ | refine E8 ?_ rfl | refine E9 ?_ rfl) | refine C1 ?_ | refine C2 ?_ | refine C3 ?_ | refine C4 ?_ | refine C5 ?_ | refine C6 ?_ | refine C7 ?_ | refine C8 ?_ | refine C9 ?_ | refine D1 rfl ?_ | refine D2 rfl ?_)
  (refine RW.lit T hs (vs := [.int .i64 2, .int .i64 2]) rfl rfl rfl rfl (by simp [Value.cells]) rfl rfl rfl rfl rfl ?_; intro b1 w1 hs)
  obtain ⟨h1, hle1, hs, hS1⟩ := hs.freeze
  have hI1 : IntsAt h1 (.slice (some ⟨b1, 0, none⟩) 2 2) [2, 2] := IntsAt.of_sl hS1
  refine RW.val (Y.build T rfl rfl rfl rfl rfl rfl rfl) rfl ?_
  refine RW.val (Y.build T rfl rfl rfl rfl rfl rfl rfl) rfl ?_
  refine RW.val (Y.build T rfl rfl rfl rfl rfl rfl rfl) rfl ?_
  refine RW.val (Y.build T rfl rfl rfl rfl rfl rfl rfl) rfl ?_
  (refine RW.lit T hs (vs := [.agg [.int .i64 0, .float .f64 4607182418800017408, .int .i32 0, .slice none 0 0].toArray, .agg [.int .i64 0, .float .f64 0, .int .i32 0, .slice none 0 0].toArray, .agg [.int .i64 0, .float .f64 0, .int .i32 0, .slice none 0 0].toArray, .agg [.int .i64 0, .float .f64 4607182418800017408, .int .i32 0, .slice none 0 0].toArray]) (cs := [.int .i64 0, .float .f64 4607182418800017408, .int .i32 0, .slice none 0 0, .int .i64 0, .float .f64 0, .int .i32 0, .slice none 0 0, .int .i64 0, .float .f64 0, .int .i32 0, .slice none 0 0, .int .i64 0, .float .f64 4607182418800017408, .int .i32 0, .slice none 0 0]) rfl rfl rfl rfl (by simp [Value.cells]) rfl rfl rfl rfl rfl ?_; intro b2 w2 hs)
  obtain ⟨h2, hle2, hs, hS2⟩ := hs.freeze
  have hp : PlainAt 1 h2 [.slice (some ⟨b1, 0, none⟩) 2 2, .slice (some ⟨b2, 0, none⟩) 4 4, .int .i64 0] p0 := by
    refine ⟨_, _, rfl, hI1.mono hle2, some ⟨b2, 0, none⟩, 4, _, rfl, hS2, ?_⟩
    refine ⟨rfl, ⟨_, rfl, RowsAt.nil _, by decide⟩, rfl, ⟨_, rfl, RowsAt.nil _, by decide⟩, rfl, ⟨_, rfl, RowsAt.nil _, by decide⟩, rfl, ⟨_, rfl, RowsAt.nil _, by decide⟩, rfl⟩
  refine RW.val (Y.build T rfl rfl rfl rfl rfl rfl rfl) rfl ?_
  (refine RW.allocN T hs rfl rfl rfl rfl ?_; intro b3 w3 hs)
  (refine RW.storeAll T hs 0 rfl rfl rfl rfl rfl rfl rfl rfl ?_; intro w4 hs)
  repeat (first | (refine A0 ?_; first | refine R1 rfl rfl ?_ | refine R2 rfl rfl ?_ | (refine A1 ?_; first | refine D3 rfl rfl ?_ | refine D4 rfl rfl rfl rfl ?_ | refine D5 rfl rfl rfl ?_ | refine E6 ?_ rfl rfl | refine E7 ?_ rfl rfl) | refine Zb ?_ rfl | (refine A3 ?_; first | refine R34 T hs 0 rfl rfl rfl rfl rfl rfl ?_ | refine R34 T hs 1 rfl rfl rfl rfl rfl rfl ?_ | refine Zk ?_ rfl) | refine Zi ?_ rfl | refine Zq ?_ rfl | refine A8 ?_) | (refine B0 ?_; first | refine B1 ?_ | refine B2 ?_ | refine B3 ?_ | refine B4 ?_ | refine B5 ?_ | refine B6 ?_ | refine B7 rfl ?_ | refine B8 rfl ?_ | refine E8 ?_ rfl | refine E9 ?_ rfl) | refine C1 ?_ | refine C2 ?_ | refine C3 ?_ | refine C4 ?_ | refine C5 ?_ | refine C6 ?_ | refine C7 ?_ | refine C8 ?_ | refine C9 ?_ | refine D1 rfl ?_ | refine D2 rfl ?_)
  (refine RW.call T hs rfl rfl rfl (valueOf_con 1 _ p0 _ _ hp) ?_; intro v h5 w5 hle5 hp5 hs)
  rw [p0_chk] at hp5
  obtain ⟨cs5, rfl, hl5, ho5, ha5, _⟩ := hp5
  have ha' := ha5 rfl
  have hp' := PlainAt.mono 1 _ _ _ _ hle5 hp
  have ha2 := ha'
  obtain ⟨s5, vc5, rfl, _, hv'⟩ := ha2
  have hv2 := hv'
  obtain ⟨wv, nv, sm, il, fl, ch, bx, ⟨rfl, _⟩, _⟩ := hv2
  repeat (first | (refine A0 ?_; first | refine R1 rfl rfl ?_ | refine R2 rfl rfl ?_ | (refine A1 ?_; first | refine D3 rfl rfl ?_ | refine D4 rfl rfl rfl rfl ?_ | refine D5 rfl rfl rfl ?_ | refine E6 ?_ rfl rfl | refine E7 ?_ rfl rfl) | refine Zb ?_ rfl | (refine A3 ?_; first | refine R34 T hs 0 rfl rfl rfl rfl rfl rfl ?_ | refine R34 T hs 1 rfl rfl rfl rfl rfl rfl ?_ | refine Zk ?_ rfl) | refine Zi ?_ rfl | refine Zq ?_ rfl | refine A8 ?_) | (refine B0 ?_; first | refine B1 ?_ | refine B2 ?_ | refine B3 ?_ | refine B4 ?_ | refine B5 ?_ | refine B6 ?_ | refine B7 rfl ?_ | refine B8 rfl ?_ | refine E8 ?_ rfl | refine E9 ?_ rfl) | refine C1 ?_ | refine C2 ?_ | refine C3 ?_ | refine C4 ?_ | refine C5 ?_ | refine C6 ?_ | refine C7 ?_ | refine C8 ?_ | refine C9 ?_ | refine D1 rfl ?_ | refine D2 rfl ?_)
  (refine RW.allocN T hs rfl rfl rfl rfl ?_; intro b6 w6 hs)
  (refine RW.storeAll T hs 0 rfl rfl rfl rfl rfl rfl (List.all_eq_true.2 ho5) rfl ?_; intro w7 hs)
  repeat (first | (refine A0 ?_; first | refine R1 rfl rfl ?_ | refine R2 rfl rfl ?_ | (refine A1 ?_; first | refine D3 rfl rfl ?_ | refine D4 rfl rfl rfl rfl ?_ | refine D5 rfl rfl rfl ?_ | refine E6 ?_ rfl rfl | refine E7 ?_ rfl rfl) | refine Zb ?_ rfl | (refine A3 ?_; first | refine R34 T hs 0 rfl rfl rfl rfl rfl rfl ?_ | refine R34 T hs 1 rfl rfl rfl rfl rfl rfl ?_ | refine Zk ?_ rfl) | refine Zi ?_ rfl | refine Zq ?_ rfl | refine A8 ?_) | (refine B0 ?_; first | refine B1 ?_ | refine B2 ?_ | refine B3 ?_ | refine B4 ?_ | refine B5 ?_ | refine B6 ?_ | refine B7 rfl ?_ | refine B8 rfl ?_ | refine E8 ?_ rfl | refine E9 ?_ rfl) | refine C1 ?_ | refine C2 ?_ | refine C3 ?_ | refine C4 ?_ | refine C5 ?_ | refine C6 ?_ | refine C7 ?_ | refine C8 ?_ | refine C9 ?_ | refine D1 rfl ?_ | refine D2 rfl ?_)
  refine CW.regionO T hs ?_
  intro w8 hs
  refine HW.takeS (fuel := 23) 0 rfl (fun _ _ hs => Y.move rfl) hs rfl (by kernel_rfl) (by kernel_rfl) (by kernel_rfl) ?_
  refine HW.takeS (fuel := 22) 1 rfl (fun _ _ hs => Y.eqT rfl rfl rfl) hs rfl (by kernel_rfl) (by kernel_rfl) (by kernel_rfl) ?_
  refine HW.takeS (fuel := 21) 2 rfl (fun _ _ hs => Y.move rfl) hs rfl (by kernel_rfl) (by kernel_rfl) (by kernel_rfl) ?_
  refine HW.takeSY (fuel := 20) 3 rfl rfl rfl (fun _ _ hs => Y.fieldAddr T rfl rfl rfl rfl rfl) hs rfl (by kernel_rfl) (by kernel_rfl) (by kernel_rfl) ?_
  refine HW.takeSY (fuel := 19) 4 rfl rfl rfl (fun _ _ hs => Y.loadRowN T hs 0 rfl rfl rfl rfl rfl rfl rfl) hs rfl (by kernel_rfl) (by kernel_rfl) (by kernel_rfl) ?_
  refine HW.one (fuel := 18) 5 rfl (by kernel_rfl) ?_
  refine RW.guardYes rfl rfl ?_
  (refine RW.call T hs rfl rfl rfl (vecKind_con _ (arr 1 p0).vec _ _ hv') ?_; intro v h21 w21 hle21 hp21 hs)
  subst hp21
  have ha' := ArrAt.mono 1 _ _ _ _ hle21 ha'
  have hv' := hv'.mono (ArrAt.mono 0) hle21
  have hp' := PlainAt.mono 1 _ _ _ _ hle21 hp'
  refine RW.nil ?_
  refine heldQ_normal ⟨_, hs⟩ ?_
  refine HW.takeSY (fuel := 17) 6 rfl rfl rfl (fun _ _ hs => Y.eqT rfl rfl p0_kind) hs rfl (by kernel_rfl) (by kernel_rfl) (by kernel_rfl) ?_
  refine HW.takeS (fuel := 16) 7 rfl (fun _ _ hs => Y.pickT rfl rfl) hs rfl (by kernel_rfl) (by kernel_rfl) (by kernel_rfl) ?_
  refine HW.takeS (fuel := 15) 8 rfl (fun _ _ hs => Y.move rfl) hs rfl (by kernel_rfl) (by kernel_rfl) (by kernel_rfl) ?_
  refine HW.takeSY (fuel := 14) 9 rfl rfl rfl (fun _ _ hs => Y.loadRowN T hs 0 rfl rfl rfl rfl rfl rfl rfl) hs rfl (by kernel_rfl) (by kernel_rfl) (by kernel_rfl) ?_
  refine HW.one (fuel := 13) 10 rfl (by kernel_rfl) ?_
  refine RW.guardYes rfl rfl ?_
  (refine RW.call T hs rfl rfl rfl (valueDepth_con 1 40 _ (arr 1 p0) _ _ (by omega) (by omega) ha' (good_arr 1 40 p0 p0_chk)) ?_; intro v h26 w26 hle26 hp26 hs)
  subst hp26
  have ha' := ArrAt.mono 1 _ _ _ _ hle26 ha'
  have hp' := PlainAt.mono 1 _ _ _ _ hle26 hp'
  refine RW.nil ?_
  refine heldQ_normal ⟨_, hs⟩ ?_
  refine HW.takeSY (fuel := 12) 11 rfl rfl rfl (fun _ _ hs => Y.eqT rfl rfl (by rw [depth_arr 1 40 p0 p0_chk, p0_depth])) hs rfl (by kernel_rfl) (by kernel_rfl) (by kernel_rfl) ?_
  refine HW.takeS (fuel := 11) 12 rfl (fun _ _ hs => Y.pickT rfl rfl) hs rfl (by kernel_rfl) (by kernel_rfl) (by kernel_rfl) ?_
  refine HW.takeS (fuel := 10) 13 rfl (fun _ _ hs => Y.move rfl) hs rfl (by kernel_rfl) (by kernel_rfl) (by kernel_rfl) ?_
  refine HW.takeSY (fuel := 9) 14 rfl rfl rfl (fun _ _ hs => Y.loadRowN T hs 0 rfl rfl rfl rfl rfl rfl rfl) hs rfl (by kernel_rfl) (by kernel_rfl) (by kernel_rfl) ?_
  refine HW.takeSY (fuel := 8) 16 rfl rfl rfl (fun _ _ hs => Y.loadRowN T hs 1 rfl rfl rfl rfl rfl rfl rfl) hs rfl (by kernel_rfl) (by kernel_rfl) (by kernel_rfl) ?_
  refine HW.one (fuel := 7) 15 rfl (by kernel_rfl) ?_
  refine RW.guardYes rfl rfl ?_
  (refine RW.call T hs rfl rfl rfl (plainV_con 1 _ (arr 1 p0) _ _ ha' (good_sml 1 40 _ (good_arr 1 40 p0 p0_chk))) ?_; intro v h31 w31 hle31 hp31 hs)
  obtain ⟨cs31, rfl, hq31⟩ := hp31
  rw [plain_arr 1 40 p0 p0_chk, p0_tidy] at hq31
  have ha' := ArrAt.mono 1 _ _ _ _ hle31 ha'
  have hp' := PlainAt.mono 1 _ _ _ _ hle31 hp'
  refine RW.nil ?_
  refine heldQ_normal ⟨_, hs⟩ ?_
  refine HW.one (fuel := 6) 17 rfl (by kernel_rfl) ?_
  refine RW.guardYes rfl rfl ?_
  (refine RW.call T hs rfl rfl rfl (refSame_con 1 _ _ p0 p0 _ _ hq31 hp' p0_tdy p0_tdy) ?_; intro v h33 w33 hle33 hp33 hs)
  subst hp33
  rw [eqB_of (show p0 = p0 from rfl)]
  have ha' := ArrAt.mono 1 _ _ _ _ hle33 ha'
  refine RW.nil ?_
  refine heldQ_normal ⟨_, hs⟩ ?_
  refine HW.takeS (fuel := 5) 18 rfl (fun _ _ hs => Y.pickT rfl rfl) hs rfl (by kernel_rfl) (by kernel_rfl) (by kernel_rfl) ?_
  refine HW.takeS (fuel := 4) 19 rfl (fun _ _ hs => Y.move rfl) hs rfl (by kernel_rfl) (by kernel_rfl) (by kernel_rfl) ?_
  refine HW.takeSY (fuel := 3) 20 rfl rfl rfl (fun _ _ hs => Y.loadRowN T hs 0 rfl rfl rfl rfl rfl rfl rfl) hs rfl (by kernel_rfl) (by kernel_rfl) (by kernel_rfl) ?_
  refine HW.one (fuel := 2) 21 rfl (by kernel_rfl) ?_
  refine RW.guardYes rfl rfl ?_
  (refine RW.call T hs rfl rfl rfl (valueGood_con 1 _ (arr 1 p0) _ _ ha') ?_; intro v h37 w37 hle37 hp37 hs)
  subst hp37
  rw [decB_of (good_arr 1 40 p0 p0_chk)]
  refine RW.nil ?_
  refine heldQ_normal ⟨_, hs⟩ ?_
  refine HW.takeS (fuel := 1) 22 rfl (fun _ _ hs => Y.pickT rfl rfl) hs rfl (by kernel_rfl) (by kernel_rfl) (by kernel_rfl) ?_
  refine HW.takeS (fuel := 0) 23 rfl (fun _ _ hs => Y.assign rfl) hs rfl (by kernel_rfl) (by kernel_rfl) (by kernel_rfl) ?_
  refine HW.done (by kernel_rfl) ?_
  refine calmQ_normal ?_
  repeat (first | (refine A0 ?_; first | refine R1 rfl rfl ?_ | refine R2 rfl rfl ?_ | (refine A1 ?_; first | refine D3 rfl rfl ?_ | refine D4 rfl rfl rfl rfl ?_ | refine D5 rfl rfl rfl ?_ | refine E6 ?_ rfl rfl | refine E7 ?_ rfl rfl) | refine Zb ?_ rfl | (refine A3 ?_; first | refine R34 T hs 0 rfl rfl rfl rfl rfl rfl ?_ | refine R34 T hs 1 rfl rfl rfl rfl rfl rfl ?_ | refine Zk ?_ rfl) | refine Zi ?_ rfl | refine Zq ?_ rfl | refine A8 ?_) | (refine B0 ?_; first | refine B1 ?_ | refine B2 ?_ | refine B3 ?_ | refine B4 ?_ | refine B5 ?_ | refine B6 ?_ | refine B7 rfl ?_ | refine B8 rfl ?_ | refine E8 ?_ rfl | refine E9 ?_ rfl) | refine C1 ?_ | refine C2 ?_ | refine C3 ?_ | refine C4 ?_ | refine C5 ?_ | refine C6 ?_ | refine C7 ?_ | refine C8 ?_ | refine C9 ?_ | refine D1 rfl ?_ | refine D2 rfl ?_)
  exact retQ_ret [_] h37 ⟨rfl, trivial⟩ hs.dropAll rfl
theorem of07_con (k : Nat) (cs : List Value) (p : PD k) (w : World) (h : GHeap) (hp : PlainAt k h cs p) (hc : chk k 40 p = 0) : Con Try.prog 56 [.agg cs.toArray] w h (fun h' u => ∃ cs', u = .agg cs'.toArray ∧ cs'.length = 9 ∧ (∀ u ∈ cs', u.oneCell' = true) ∧ ArrAt k h' cs' (arr k p)) := by
  have hp' := hp
  cases k with
  | zero => exact hp.elim
  | succ k =>
    obtain ⟨s, it, rfl, _⟩ := hp
    refine Con.of_body Try.func56 rfl Try.ntmps56 rfl rfl ?_
    intro hs
    repeat (first | (refine A0 ?_; first | refine R1 rfl rfl ?_ | refine R2 rfl rfl ?_ | (refine A1 ?_; first | refine D3 rfl rfl ?_ | refine D4 rfl rfl rfl rfl ?_ | refine D5 rfl rfl rfl ?_ | refine E6 ?_ rfl rfl | refine E7 ?_ rfl rfl) | refine Zb ?_ rfl | (refine A3 ?_; first | refine R34 T hs 0 rfl rfl rfl rfl rfl rfl ?_ | refine R34 T hs 1 rfl rfl rfl rfl rfl rfl ?_ | refine Zl ?_ rfl) | refine Zi ?_ rfl | refine Zo ?_ rfl | refine A8 ?_) | (refine B0 ?_; first | refine B1 ?_ | refine B2 ?_ | refine B3 ?_ | refine B4 ?_ | refine B5 ?_ | refine B6 ?_ | refine B7 rfl ?_ | refine B8 rfl ?_ | refine E8 ?_ rfl | refine E9 ?_ rfl) | refine C1 ?_ | refine C2 ?_ | refine C3 ?_ | refine C4 ?_ | refine C5 ?_ | refine C6 ?_ | refine C7 ?_ | refine C8 ?_ | refine C9 ?_ | refine D1 rfl ?_ | refine D2 rfl ?_)
    (refine RW.boxN hs rfl rfl ?_; intro b1 w1 hs)
    (refine RW.allocN T hs rfl rfl rfl rfl ?_; intro b2 w2 hs)
    repeat (first | (refine A0 ?_; first | refine R1 rfl rfl ?_ | refine R2 rfl rfl ?_ | (refine A1 ?_; first | refine D3 rfl rfl ?_ | refine D4 rfl rfl rfl rfl ?_ | refine D5 rfl rfl rfl ?_ | refine E6 ?_ rfl rfl | refine E7 ?_ rfl rfl) | refine Zb ?_ rfl | (refine A3 ?_; first | refine R34 T hs 0 rfl rfl rfl rfl rfl rfl ?_ | refine R34 T hs 1 rfl rfl rfl rfl rfl rfl ?_ | refine Zk ?_ rfl) | refine Zi ?_ rfl | refine Zq ?_ rfl | refine A8 ?_) | (refine B0 ?_; first | refine B1 ?_ | refine B2 ?_ | refine B3 ?_ | refine B4 ?_ | refine B5 ?_ | refine B6 ?_ | refine B7 rfl ?_ | refine B8 rfl ?_ | refine E8 ?_ rfl | refine E9 ?_ rfl) | refine C1 ?_ | refine C2 ?_ | refine C3 ?_ | refine C4 ?_ | refine C5 ?_ | refine C6 ?_ | refine C7 ?_ | refine C8 ?_ | refine C9 ?_ | refine D1 rfl ?_ | refine D2 rfl ?_)
    (refine RW.call T hs rfl rfl rfl (valueOf_con _ _ _ _ _ hp') ?_; intro v h3 w3 hle3 hp3 hs)
    rw [hc] at hp3
    obtain ⟨cs3, rfl, hl3, ho3, hz3, hn3⟩ := hp3
    repeat (first | (refine A0 ?_; first | refine R1 rfl rfl ?_ | refine R2 rfl rfl ?_ | (refine A1 ?_; first | refine D3 rfl rfl ?_ | refine D4 rfl rfl rfl rfl ?_ | refine D5 rfl rfl rfl ?_ | refine E6 ?_ rfl rfl | refine E7 ?_ rfl rfl) | refine Zb ?_ rfl | (refine A3 ?_; first | refine R34 T hs 0 rfl rfl rfl rfl rfl rfl ?_ | refine R34 T hs 1 rfl rfl rfl rfl rfl rfl ?_ | refine Zk ?_ rfl) | refine Zi ?_ rfl | refine Zq ?_ rfl | refine A8 ?_) | (refine B0 ?_; first | refine B1 ?_ | refine B2 ?_ | refine B3 ?_ | refine B4 ?_ | refine B5 ?_ | refine B6 ?_ | refine B7 rfl ?_ | refine B8 rfl ?_ | refine E8 ?_ rfl | refine E9 ?_ rfl) | refine C1 ?_ | refine C2 ?_ | refine C3 ?_ | refine C4 ?_ | refine C5 ?_ | refine C6 ?_ | refine C7 ?_ | refine C8 ?_ | refine C9 ?_ | refine D1 rfl ?_ | refine D2 rfl ?_)
    (refine RW.allocN T hs rfl rfl rfl rfl ?_; intro b4 w4 hs)
    refine RW.storeAll T hs 0 rfl rfl rfl rfl rfl hl3 (List.all_eq_true.2 ho3) hl3 ?_
    intro w5 hs
    repeat (first | (refine A0 ?_; first | refine R1 rfl rfl ?_ | refine R2 rfl rfl ?_ | (refine A1 ?_; first | refine D3 rfl rfl ?_ | refine D4 rfl rfl rfl rfl ?_ | refine D5 rfl rfl rfl ?_ | refine E6 ?_ rfl rfl | refine E7 ?_ rfl rfl) | refine Zb ?_ rfl | (refine A3 ?_; first | refine R34 T hs 0 rfl rfl rfl rfl rfl rfl ?_ | refine R34 T hs 1 rfl rfl rfl rfl rfl rfl ?_ | refine Zk ?_ rfl) | refine Zi ?_ rfl | refine Zq ?_ rfl | refine A8 ?_) | (refine B0 ?_; first | refine B1 ?_ | refine B2 ?_ | refine B3 ?_ | refine B4 ?_ | refine B5 ?_ | refine B6 ?_ | refine B7 rfl ?_ | refine B8 rfl ?_ | refine E8 ?_ rfl | refine E9 ?_ rfl) | refine C1 ?_ | refine C2 ?_ | refine C3 ?_ | refine C4 ?_ | refine C5 ?_ | refine C6 ?_ | refine C7 ?_ | refine C8 ?_ | refine C9 ?_ | refine D1 rfl ?_ | refine D2 rfl ?_)
    refine RW.val (Y.loadRowN (cs := cs3) T hs 0 rfl rfl rfl rfl rfl (List.take_of_length_le (by rw [List.drop_zero]; exact Nat.le_of_eq hl3)) hl3) rfl ?_
    refine RW.storeAll T hs 1 rfl rfl rfl rfl rfl hl3 (List.all_eq_true.2 ho3) hl3 ?_
    intro w6 hs
    repeat (first | (refine A0 ?_; first | refine R1 rfl rfl ?_ | refine R2 rfl rfl ?_ | (refine A1 ?_; first | refine D3 rfl rfl ?_ | refine D4 rfl rfl rfl rfl ?_ | refine D5 rfl rfl rfl ?_ | refine E6 ?_ rfl rfl | refine E7 ?_ rfl rfl) | refine Zb ?_ rfl | (refine A3 ?_; first | refine R34 T hs 0 rfl rfl rfl rfl rfl rfl ?_ | refine R34 T hs 1 rfl rfl rfl rfl rfl rfl ?_ | refine Zk ?_ rfl) | refine Zi ?_ rfl | refine Zq ?_ rfl | refine A8 ?_) | (refine B0 ?_; first | refine B1 ?_ | refine B2 ?_ | refine B3 ?_ | refine B4 ?_ | refine B5 ?_ | refine B6 ?_ | refine B7 rfl ?_ | refine B8 rfl ?_ | refine E8 ?_ rfl | refine E9 ?_ rfl) | refine C1 ?_ | refine C2 ?_ | refine C3 ?_ | refine C4 ?_ | refine C5 ?_ | refine C6 ?_ | refine C7 ?_ | refine C8 ?_ | refine C9 ?_ | refine D1 rfl ?_ | refine D2 rfl ?_)
    exact retQ_ret [_] h3 ⟨resN T hs 1 rfl rfl rfl rfl rfl hl3, trivial⟩ hs.dropAll ⟨_, rfl, hl3, ho3, hz3 rfl⟩
end Go.Proofs.Ythbfkhklihejiaa

/-
  Contracts of the law's own functions of layer 7: which plain arrays are arrays. No statement is proved here.
-/
namespace Go.Proofs.Ythbfkhklihejiaa
open Go Go.RowKit
set_option linter.unusedVariables false
set_option linter.unusedSimpArgs false
set_option maxHeartbeats 4000000
attribute [local irreducible] CW RW QW SW HW ConM retM heldQ calmQ elemP thenQ blockQ loopQ joinQ retQ Yields Con Sl zF magR unitF truncF fwF wholeF tidySpec elemQ rankF leastN tidyW

theorem Y.eqlBT {P : Program} (T : Tab P) {n : Nat} {L : Env} {w : World} {ty : TypeId} {x y : Operand} {t yt : TypeId} {b b' : Bool} (hT : T.ty t = some .bool) (hx : opv L x = some (.bool b)) (hy : opv L y = some (.bool b')) (h : b = b') : Yields P n L w (.binOp .eql t x y yt) ty (.bool true) := by
  have := Y.eqlB (P := P) (n := n) (w := w) (ty := ty) (yt := yt) T hT hx hy
  rw [h] at this
  simpa using this
theorem zeroArr_at (k : Nat) (h : GHeap) : ArrAt (k + 1) h zeroArr (⟨[], VecD.none⟩ : ArrD (AD k)) := ⟨_, _, rfl, RowAt.nil h, vecNone h⟩
theorem zeroArr_bad (k : Nat) (d : Int) : ¬ good (k + 1) d (⟨[], VecD.none⟩ : ArrD (AD k)) := fun g => g.2.1 rfl
theorem valueOfLaw_con (k : Nat) (cs : List Value) (p : PD (k + 1)) (w : World) (h : GHeap) (hp : PlainAt (k + 1) h cs p) : Con Try.prog 7 [.agg cs.toArray] w h (fun _ u => u = .bool true) := by
  have hp' := hp
  obtain ⟨s, it, rfl, ⟨ad, cp, rfl, hS⟩, ⟨ad2, cp2, xs, rfl, hS2, hA⟩⟩ := hp
  refine Con.of_body Try.func7 rfl Try.ntmps7 rfl rfl ?_
  intro hs
  repeat (first | (refine A0 ?_; first | refine R1 rfl rfl ?_ | refine R2 rfl rfl ?_ | (refine A1 ?_; first | refine D3 rfl rfl ?_ | refine D4 rfl rfl rfl rfl ?_ | refine D5 rfl rfl rfl ?_ | refine E6 ?_ rfl rfl | refine E7 ?_ rfl rfl) | refine Zb ?_ rfl | (refine A3 ?_; first | refine R34 T hs 0 rfl rfl rfl rfl rfl rfl ?_ | refine R34 T hs 1 rfl rfl rfl rfl rfl rfl ?_ | refine Zl ?_ rfl) | refine Zi ?_ rfl | refine Zo ?_ rfl | refine A8 ?_) | (refine B0 ?_; first | refine B1 ?_ | refine B2 ?_ | refine B3 ?_ | refine B4 ?_ | refine B5 ?_ | refine B6 ?_ | refine B7 rfl ?_ | refine B8 rfl ?_ | refine E8 ?_ rfl | refine E9 ?_ rfl) | refine C1 ?_ | refine C2 ?_ | refine C3 ?_ | refine C4 ?_ | refine C5 ?_ | refine C6 ?_ | refine C7 ?_ | refine C8 ?_ | refine C9 ?_ | refine D1 rfl ?_ | refine D2 rfl ?_)
  (refine RW.boxN hs rfl rfl ?_; intro b1 w1 hs)
  repeat (first | (refine A0 ?_; first | refine R1 rfl rfl ?_ | refine R2 rfl rfl ?_ | (refine A1 ?_; first | refine D3 rfl rfl ?_ | refine D4 rfl rfl rfl rfl ?_ | refine D5 rfl rfl rfl ?_ | refine E6 ?_ rfl rfl | refine E7 ?_ rfl rfl) | refine Zb ?_ rfl | (refine A3 ?_; first | refine R34 T hs 0 rfl rfl rfl rfl rfl rfl ?_ | refine R34 T hs 1 rfl rfl rfl rfl rfl rfl ?_ | refine Zk ?_ rfl) | refine Zi ?_ rfl | refine Zq ?_ rfl | refine A8 ?_) | (refine B0 ?_; first | refine B1 ?_ | refine B2 ?_ | refine B3 ?_ | refine B4 ?_ | refine B5 ?_ | refine B6 ?_ | refine B7 rfl ?_ | refine B8 rfl ?_ | refine E8 ?_ rfl | refine E9 ?_ rfl) | refine C1 ?_ | refine C2 ?_ | refine C3 ?_ | refine C4 ?_ | refine C5 ?_ | refine C6 ?_ | refine C7 ?_ | refine C8 ?_ | refine C9 ?_ | refine D1 rfl ?_ | refine D2 rfl ?_)
  (refine RW.call T hs rfl rfl rfl (refCount_con 3000 (k + 1) _ p _ _ hp') ?_; intro v h2 w2 hle2 hp2 hs)
  obtain ⟨r, rfl⟩ := hp2
  have hp' := PlainAt.mono (k + 1) _ _ _ _ hle2 hp'
  by_cases c1 : 2000 < r
  · repeat (first | (refine A0 ?_; first | refine R1 rfl rfl ?_ | refine R2 rfl rfl ?_ | (refine A1 ?_; first | refine D3 rfl rfl ?_ | refine D4 rfl rfl rfl rfl ?_ | refine D5 rfl rfl rfl ?_ | refine E6 ?_ rfl rfl | refine E7 ?_ rfl rfl) | refine Zb ?_ rfl | (refine A3 ?_; first | refine R34 T hs 0 rfl rfl rfl rfl rfl rfl ?_ | refine R34 T hs 1 rfl rfl rfl rfl rfl rfl ?_ | refine Zk ?_ rfl) | refine Zi ?_ rfl | refine Zq ?_ rfl | refine A8 ?_) | (refine B0 ?_; first | refine B1 ?_ | refine B2 ?_ | refine B3 ?_ | refine B4 ?_ | refine B5 ?_ | refine B6 ?_ | refine B7 rfl ?_ | refine B8 rfl ?_ | refine E8 ?_ rfl | refine E9 ?_ rfl) | refine C1 ?_ | refine C2 ?_ | refine C3 ?_ | refine C4 ?_ | refine C5 ?_ | refine C6 ?_ | refine C7 ?_ | refine C8 ?_ | refine C9 ?_ | refine D1 rfl ?_ | refine D2 rfl ?_)
    (refine RW.call T hs rfl rfl rfl (awake07_con _ _) ?_; intro v h3 w3 hle3 hp3 hs)
    subst hp3
    repeat (first | (refine A0 ?_; first | refine R1 rfl rfl ?_ | refine R2 rfl rfl ?_ | (refine A1 ?_; first | refine D3 rfl rfl ?_ | refine D4 rfl rfl rfl rfl ?_ | refine D5 rfl rfl rfl ?_ | refine E6 ?_ rfl rfl | refine E7 ?_ rfl rfl) | refine Zb ?_ rfl | (refine A3 ?_; first | refine R34 T hs 0 rfl rfl rfl rfl rfl rfl ?_ | refine R34 T hs 1 rfl rfl rfl rfl rfl rfl ?_ | refine Zk ?_ rfl) | refine Zi ?_ rfl | refine Zq ?_ rfl | refine A8 ?_) | (refine B0 ?_; first | refine B1 ?_ | refine B2 ?_ | refine B3 ?_ | refine B4 ?_ | refine B5 ?_ | refine B6 ?_ | refine B7 rfl ?_ | refine B8 rfl ?_ | refine E8 ?_ rfl | refine E9 ?_ rfl) | refine C1 ?_ | refine C2 ?_ | refine C3 ?_ | refine C4 ?_ | refine C5 ?_ | refine C6 ?_ | refine C7 ?_ | refine C8 ?_ | refine C9 ?_ | refine D1 rfl ?_ | refine D2 rfl ?_)
    exact retQ_ret [_] h3 ⟨rfl, trivial⟩ hs.dropAll rfl
  repeat (first | (refine A0 ?_; first | refine R1 rfl rfl ?_ | refine R2 rfl rfl ?_ | (refine A1 ?_; first | refine D3 rfl rfl ?_ | refine D4 rfl rfl rfl rfl ?_ | refine D5 rfl rfl rfl ?_ | refine E6 ?_ rfl rfl | refine E7 ?_ rfl rfl) | refine Zb ?_ rfl | (refine A3 ?_; first | refine R34 T hs 0 rfl rfl rfl rfl rfl rfl ?_ | refine R34 T hs 1 rfl rfl rfl rfl rfl rfl ?_ | refine Zk ?_ rfl) | refine Zi ?_ rfl | refine Zq ?_ rfl | refine A8 ?_) | (refine B0 ?_; first | refine B1 ?_ | refine B2 ?_ | refine B3 ?_ | refine B4 ?_ | refine B5 ?_ | refine B6 ?_ | refine B7 rfl ?_ | refine B8 rfl ?_ | refine E8 ?_ rfl | refine E9 ?_ rfl) | refine C1 ?_ | refine C2 ?_ | refine C3 ?_ | refine C4 ?_ | refine C5 ?_ | refine C6 ?_ | refine C7 ?_ | refine C8 ?_ | refine C9 ?_ | refine D1 rfl ?_ | refine D2 rfl ?_)
  (refine RW.call T hs rfl rfl rfl (valueOf_con (k + 1) _ p _ _ hp') ?_; intro v h3 w3 hle3 hp3 hs)
  obtain ⟨cs3, rfl, hl3, ho3, hz3, hn3⟩ := hp3
  have hp' := PlainAt.mono (k + 1) _ _ _ _ hle3 hp'
  repeat (first | (refine A0 ?_; first | refine R1 rfl rfl ?_ | refine R2 rfl rfl ?_ | (refine A1 ?_; first | refine D3 rfl rfl ?_ | refine D4 rfl rfl rfl rfl ?_ | refine D5 rfl rfl rfl ?_ | refine E6 ?_ rfl rfl | refine E7 ?_ rfl rfl) | refine Zb ?_ rfl | (refine A3 ?_; first | refine R34 T hs 0 rfl rfl rfl rfl rfl rfl ?_ | refine R34 T hs 1 rfl rfl rfl rfl rfl rfl ?_ | refine Zk ?_ rfl) | refine Zi ?_ rfl | refine Zq ?_ rfl | refine A8 ?_) | (refine B0 ?_; first | refine B1 ?_ | refine B2 ?_ | refine B3 ?_ | refine B4 ?_ | refine B5 ?_ | refine B6 ?_ | refine B7 rfl ?_ | refine B8 rfl ?_ | refine E8 ?_ rfl | refine E9 ?_ rfl) | refine C1 ?_ | refine C2 ?_ | refine C3 ?_ | refine C4 ?_ | refine C5 ?_ | refine C6 ?_ | refine C7 ?_ | refine C8 ?_ | refine C9 ?_ | refine D1 rfl ?_ | refine D2 rfl ?_)
  (refine RW.allocN T hs rfl rfl rfl rfl ?_; intro b4 w4 hs)
  refine RW.storeAll T hs 0 rfl rfl rfl rfl rfl hl3 (List.all_eq_true.2 ho3) hl3 ?_
  intro w5 hs
  repeat (first | (refine A0 ?_; first | refine R1 rfl rfl ?_ | refine R2 rfl rfl ?_ | (refine A1 ?_; first | refine D3 rfl rfl ?_ | refine D4 rfl rfl rfl rfl ?_ | refine D5 rfl rfl rfl ?_ | refine E6 ?_ rfl rfl | refine E7 ?_ rfl rfl) | refine Zb ?_ rfl | (refine A3 ?_; first | refine R34 T hs 0 rfl rfl rfl rfl rfl rfl ?_ | refine R34 T hs 1 rfl rfl rfl rfl rfl rfl ?_ | refine Zk ?_ rfl) | refine Zi ?_ rfl | refine Zq ?_ rfl | refine A8 ?_) | (refine B0 ?_; first | refine B1 ?_ | refine B2 ?_ | refine B3 ?_ | refine B4 ?_ | refine B5 ?_ | refine B6 ?_ | refine B7 rfl ?_ | refine B8 rfl ?_ | refine E8 ?_ rfl | refine E9 ?_ rfl) | refine C1 ?_ | refine C2 ?_ | refine C3 ?_ | refine C4 ?_ | refine C5 ?_ | refine C6 ?_ | refine C7 ?_ | refine C8 ?_ | refine C9 ?_ | refine D1 rfl ?_ | refine D2 rfl ?_)
  (refine RW.call T hs rfl rfl rfl (refCheck_con (k + 1) _ p _ _ hp') ?_; intro v h6 w6 hle6 hp6 hs)
  subst hp6
  have hp' := PlainAt.mono (k + 1) _ _ _ _ hle6 hp'
  by_cases hc : chk (k + 1) 40 p = 0
  · have ha3 := ArrAt.mono (k + 1) _ _ _ _ hle6 (hz3 hc)
    have hgood := good_arr (k + 1) 40 p hc
    have hsml := good_sml (k + 1) 40 _ hgood
    have htdy := tidy_tdy (k + 1) 40 p _ _ hp' hc
    have hdep := depth_arr (k + 1) 40 p hc
    have hsing : decide ((ArrD.vec (α := AD k) (arr (k + 1) p)).len = 1) = decide (((PlainD.items (α := PD k) p).length : Int) = 1) := by
      have e : (ArrD.vec (α := AD k) (arr (k + 1) p)).len = (PlainD.items (α := PD k) p).length := by
        obtain ⟨_, _, _, _, h5⟩ := (chkP_ok (α := PD k) _ _ _).1 hc
        exact len_arrV (arr k) _ _ _ h5
      rw [e, decide_eq_decide]; omega
    have ha' := ha3
    obtain ⟨s5, vc5, rfl, hl5, hv5⟩ := ha3
    obtain ⟨ad5, cp5, rfl, _⟩ := hl5
    obtain ⟨wv, nv, sm, il, fl, ch, bx, ⟨rfl, _⟩, _⟩ := hv5
    repeat (first | (refine A0 ?_; first | refine R1 rfl rfl ?_ | refine R2 rfl rfl ?_ | (refine A1 ?_; first | refine D3 rfl rfl ?_ | refine D4 rfl rfl rfl rfl ?_ | refine D5 rfl rfl rfl ?_ | refine E6 ?_ rfl rfl | refine E7 ?_ rfl rfl) | refine Zb ?_ rfl | (refine A3 ?_; first | refine R34 T hs 0 rfl rfl rfl rfl rfl rfl ?_ | refine R34 T hs 1 rfl rfl rfl rfl rfl rfl ?_ | refine Zk ?_ rfl) | refine Zi ?_ rfl | refine Zq ?_ rfl | refine A8 ?_) | (refine B0 ?_; first | refine B1 ?_ | refine B2 ?_ | refine B3 ?_ | refine B4 ?_ | refine B5 ?_ | refine B6 ?_ | refine B7 rfl ?_ | refine B8 rfl ?_ | refine E8 ?_ rfl | refine E9 ?_ rfl) | refine C1 ?_ | refine C2 ?_ | refine C3 ?_ | refine C4 ?_ | refine C5 ?_ | refine C6 ?_ | refine C7 ?_ | refine C8 ?_ | refine C9 ?_ | refine D1 rfl ?_ | refine D2 rfl ?_)
    · refine CW.regionO T hs ?_
      intro w8 hs
      refine HW.takeS (fuel := 36) 0 rfl (fun _ _ hs => Y.loadRowN T hs 0 rfl rfl rfl rfl rfl rfl rfl) hs rfl (by kernel_rfl) (by kernel_rfl) (by kernel_rfl) ?_
      refine HW.one (fuel := 35) 1 rfl (by kernel_rfl) ?_
      (refine RW.call T hs rfl rfl rfl (valueGood_con (k + 1) _ (arr (k + 1) p) _ _ ha') ?_; intro v h39 w39 hle39 hp39 hs)
      subst hp39
      rw [decB_of hgood]
      have ha' := ArrAt.mono (k + 1) _ _ _ _ hle39 ha'
      have hp' := PlainAt.mono (k + 1) _ _ _ _ hle39 hp'
      refine RW.nil ?_
      refine heldQ_normal ⟨_, hs⟩ ?_
      refine HW.takeS (fuel := 34) 2 rfl (fun _ _ hs => Y.move rfl) hs rfl (by kernel_rfl) (by kernel_rfl) (by kernel_rfl) ?_
      refine HW.takeSY (fuel := 33) 3 rfl rfl rfl (fun _ _ hs => Y.loadRowN T hs 0 rfl rfl rfl rfl rfl rfl rfl) hs rfl (by kernel_rfl) (by kernel_rfl) (by kernel_rfl) ?_
      refine HW.takeSY (fuel := 32) 5 rfl rfl rfl (fun _ _ hs => Y.loadRowN T hs 1 rfl rfl rfl rfl rfl rfl rfl) hs rfl (by kernel_rfl) (by kernel_rfl) (by kernel_rfl) ?_
      refine HW.one (fuel := 31) 4 rfl (by kernel_rfl) ?_
      refine RW.guardYes rfl rfl ?_
      (refine RW.call T hs rfl rfl rfl (plainV_con (k + 1) _ (arr (k + 1) p) _ _ ha' hsml) ?_; intro v h42 w42 hle42 hp42 hs)
      obtain ⟨cs42, rfl, hq42⟩ := hp42
      rw [plain_arr (k + 1) 40 p hc] at hq42
      have ha' := ArrAt.mono (k + 1) _ _ _ _ hle42 ha'
      have hp' := PlainAt.mono (k + 1) _ _ _ _ hle42 hp'
      refine RW.nil ?_
      refine heldQ_normal ⟨_, hs⟩ ?_
      refine HW.one (fuel := 30) 6 rfl (by kernel_rfl) ?_
      refine RW.guardYes rfl rfl ?_
      (refine RW.call T hs rfl rfl rfl (refTidyP_con (k + 1) 40 _ p _ _ hp' hc) ?_; intro v h44 w44 hle44 hp44 hs)
      obtain ⟨cs44, rfl, hq44⟩ := hp44
      have ha' := ArrAt.mono (k + 1) _ _ _ _ hle44 ha'
      have hp' := PlainAt.mono (k + 1) _ _ _ _ hle44 hp'
      have hq42 := PlainAt.mono (k + 1) _ _ _ _ hle44 hq42
      refine RW.nil ?_
      refine heldQ_normal ⟨_, hs⟩ ?_
      refine HW.one (fuel := 29) 7 rfl (by kernel_rfl) ?_
      refine RW.guardYes rfl rfl ?_
      (refine RW.call T hs rfl rfl rfl (refSame_con (k + 1) _ _ (tidy (k + 1) p) (tidy (k + 1) p) _ _ hq42 hq44 htdy htdy) ?_; intro v h45 w45 hle45 hp45 hs)
      subst hp45
      rw [eqB_of (show tidy (k + 1) p = tidy (k + 1) p from rfl)]
      have ha' := ArrAt.mono (k + 1) _ _ _ _ hle45 ha'
      have hp' := PlainAt.mono (k + 1) _ _ _ _ hle45 hp'
      refine RW.nil ?_
      refine heldQ_normal ⟨_, hs⟩ ?_
      refine HW.takeS (fuel := 28) 8 rfl (fun _ _ hs => Y.pickT rfl rfl) hs rfl (by kernel_rfl) (by kernel_rfl) (by kernel_rfl) ?_
      refine HW.takeS (fuel := 27) 9 rfl (fun _ _ hs => Y.move rfl) hs rfl (by kernel_rfl) (by kernel_rfl) (by kernel_rfl) ?_
      refine HW.takeSY (fuel := 26) 10 rfl rfl rfl (fun _ _ hs => Y.loadRowN T hs 0 rfl rfl rfl rfl rfl rfl rfl) hs rfl (by kernel_rfl) (by kernel_rfl) (by kernel_rfl) ?_
      refine HW.takeSY (fuel := 25) 12 rfl rfl rfl (fun _ _ hs => Y.loadRowN T hs 1 rfl rfl rfl rfl rfl rfl rfl) hs rfl (by kernel_rfl) (by kernel_rfl) (by kernel_rfl) ?_
      refine HW.one (fuel := 24) 11 rfl (by kernel_rfl) ?_
      refine RW.guardYes rfl rfl ?_
      (refine RW.call T hs rfl rfl rfl (valueDepth_con (k + 1) 40 _ (arr (k + 1) p) _ _ (by omega) (by omega) ha' hgood) ?_; intro v h49 w49 hle49 hp49 hs)
      subst hp49
      have ha' := ArrAt.mono (k + 1) _ _ _ _ hle49 ha'
      have hp' := PlainAt.mono (k + 1) _ _ _ _ hle49 hp'
      refine RW.nil ?_
      refine heldQ_normal ⟨_, hs⟩ ?_
      refine HW.one (fuel := 23) 13 rfl (by kernel_rfl) ?_
      refine RW.guardYes rfl rfl ?_
      (refine RW.call T hs rfl rfl rfl (refDepth_con (k + 1) 40 _ p _ _ (by omega) (by omega) hp' hc) ?_; intro v h51 w51 hle51 hp51 hs)
      subst hp51
      have ha' := ArrAt.mono (k + 1) _ _ _ _ hle51 ha'
      have hp' := PlainAt.mono (k + 1) _ _ _ _ hle51 hp'
      refine RW.nil ?_
      refine heldQ_normal ⟨_, hs⟩ ?_
      refine HW.takeSY (fuel := 22) 14 rfl rfl rfl (fun _ _ hs => Y.eqT rfl rfl hdep) hs rfl (by kernel_rfl) (by kernel_rfl) (by kernel_rfl) ?_
      refine HW.takeS (fuel := 21) 15 rfl (fun _ _ hs => Y.pickT rfl rfl) hs rfl (by kernel_rfl) (by kernel_rfl) (by kernel_rfl) ?_
      refine HW.takeS (fuel := 20) 16 rfl (fun _ _ hs => Y.move rfl) hs rfl (by kernel_rfl) (by kernel_rfl) (by kernel_rfl) ?_
      refine HW.takeSY (fuel := 19) 17 rfl rfl rfl (fun _ _ hs => Y.loadRowN T hs 0 rfl rfl rfl rfl rfl rfl rfl) hs rfl (by kernel_rfl) (by kernel_rfl) (by kernel_rfl) ?_
      refine HW.takeSY (fuel := 18) 19 rfl rfl rfl (fun _ _ hs => Y.fieldAddr T rfl rfl rfl rfl rfl) hs rfl (by kernel_rfl) (by kernel_rfl) (by kernel_rfl) ?_
      refine HW.takeSY (fuel := 17) 20 rfl rfl rfl (fun _ _ hs => Y.loadRow1 T hs 1 rfl rfl rfl rfl rfl) hs rfl (by kernel_rfl) (by kernel_rfl) (by kernel_rfl) ?_
      refine HW.takeSY (fuel := 16) 21 rfl rfl rfl (fun _ _ hs => Y.len T rfl rfl) hs rfl (by kernel_rfl) (by kernel_rfl) (by kernel_rfl) ?_
      refine HW.one (fuel := 15) 18 rfl (by kernel_rfl) ?_
      refine RW.guardYes rfl rfl ?_
      (refine RW.call T hs rfl rfl rfl (valueRank_con (R := ArrAt k) _ (arr (k + 1) p) _ _ ha') ?_; intro v h56 w56 hle56 hp56 hs)
      subst hp56
      have ha' := ArrAt.mono (k + 1) _ _ _ _ hle56 ha'
      have hp' := PlainAt.mono (k + 1) _ _ _ _ hle56 hp'
      refine RW.nil ?_
      refine heldQ_normal ⟨_, hs⟩ ?_
      refine HW.takeSY (fuel := 14) 22 rfl rfl rfl (fun _ _ hs => Y.eqT rfl rfl rfl) hs rfl (by kernel_rfl) (by kernel_rfl) (by kernel_rfl) ?_
      refine HW.takeS (fuel := 13) 23 rfl (fun _ _ hs => Y.pickT rfl rfl) hs rfl (by kernel_rfl) (by kernel_rfl) (by kernel_rfl) ?_
      refine HW.takeS (fuel := 12) 24 rfl (fun _ _ hs => Y.move rfl) hs rfl (by kernel_rfl) (by kernel_rfl) (by kernel_rfl) ?_
      refine HW.takeSY (fuel := 11) 25 rfl rfl rfl (fun _ _ hs => Y.loadRowN T hs 0 rfl rfl rfl rfl rfl rfl rfl) hs rfl (by kernel_rfl) (by kernel_rfl) (by kernel_rfl) ?_
      refine HW.takeSY (fuel := 10) 27 rfl rfl rfl (fun _ _ hs => Y.fieldAddr T rfl rfl rfl rfl rfl) hs rfl (by kernel_rfl) (by kernel_rfl) (by kernel_rfl) ?_
      refine HW.takeSY (fuel := 9) 28 rfl rfl rfl (fun _ _ hs => Y.loadRow1 T hs 1 rfl rfl rfl rfl rfl) hs rfl (by kernel_rfl) (by kernel_rfl) (by kernel_rfl) ?_
      refine HW.takeSY (fuel := 8) 29 rfl rfl rfl (fun _ _ hs => Y.len T rfl rfl) hs rfl (by kernel_rfl) (by kernel_rfl) (by kernel_rfl) ?_
      refine HW.takeSY (fuel := 7) 30 rfl rfl rfl (fun _ _ hs => Y.eql rfl rfl) hs rfl (by kernel_rfl) (by kernel_rfl) (by kernel_rfl) ?_
      refine HW.one (fuel := 6) 26 rfl (by kernel_rfl) ?_
      refine RW.guardYes rfl rfl ?_
      (refine RW.call T hs rfl rfl rfl (valueSingle_con (R := ArrAt k) _ (arr (k + 1) p) _ _ ha') ?_; intro v h64 w64 hle64 hp64 hs)
      subst hp64
      have ha' := ArrAt.mono (k + 1) _ _ _ _ hle64 ha'
      have hp' := PlainAt.mono (k + 1) _ _ _ _ hle64 hp'
      refine RW.nil ?_
      refine heldQ_normal ⟨_, hs⟩ ?_
      refine HW.takeSY (fuel := 5) 31 rfl rfl rfl (fun _ _ hs => Y.eqlBT T rfl rfl rfl hsing) hs rfl (by kernel_rfl) (by kernel_rfl) (by kernel_rfl) ?_
      refine HW.takeS (fuel := 4) 32 rfl (fun _ _ hs => Y.pickT rfl rfl) hs rfl (by kernel_rfl) (by kernel_rfl) (by kernel_rfl) ?_
      refine HW.takeS (fuel := 3) 33 rfl (fun _ _ hs => Y.move rfl) hs rfl (by kernel_rfl) (by kernel_rfl) (by kernel_rfl) ?_
      refine HW.one (fuel := 2) 34 rfl (by kernel_rfl) ?_
      refine RW.guardYes rfl rfl ?_
      (refine RW.call T hs rfl rfl rfl (awake07_con _ _) ?_; intro v h72 w72 hle72 hp72 hs)
      subst hp72
      refine RW.nil ?_
      refine heldQ_normal ⟨_, hs⟩ ?_
      refine HW.takeS (fuel := 1) 35 rfl (fun _ _ hs => Y.pickT rfl rfl) hs rfl (by kernel_rfl) (by kernel_rfl) (by kernel_rfl) ?_
      refine HW.takeS (fuel := 0) 36 rfl (fun _ _ hs => Y.assign rfl) hs rfl (by kernel_rfl) (by kernel_rfl) (by kernel_rfl) ?_
      refine HW.done (by kernel_rfl) ?_
      refine calmQ_normal ?_
      repeat (first | (refine A0 ?_; first | refine R1 rfl rfl ?_ | refine R2 rfl rfl ?_ | (refine A1 ?_; first | refine D3 rfl rfl ?_ | refine D4 rfl rfl rfl rfl ?_ | refine D5 rfl rfl rfl ?_ | refine E6 ?_ rfl rfl | refine E7 ?_ rfl rfl) | refine Zb ?_ rfl | (refine A3 ?_; first | refine R34 T hs 0 rfl rfl rfl rfl rfl rfl ?_ | refine R34 T hs 1 rfl rfl rfl rfl rfl rfl ?_ | refine Zk ?_ rfl) | refine Zi ?_ rfl | refine Zq ?_ rfl | refine A8 ?_) | (refine B0 ?_; first | refine B1 ?_ | refine B2 ?_ | refine B3 ?_ | refine B4 ?_ | refine B5 ?_ | refine B6 ?_ | refine B7 rfl ?_ | refine B8 rfl ?_ | refine E8 ?_ rfl | refine E9 ?_ rfl) | refine C1 ?_ | refine C2 ?_ | refine C3 ?_ | refine C4 ?_ | refine C5 ?_ | refine C6 ?_ | refine C7 ?_ | refine C8 ?_ | refine C9 ?_ | refine D1 rfl ?_ | refine D2 rfl ?_)
      exact retQ_ret [_] h72 ⟨rfl, trivial⟩ hs.dropAll rfl
  · obtain rfl := hn3 hc
    repeat (first | (refine A0 ?_; first | refine R1 rfl rfl ?_ | refine R2 rfl rfl ?_ | (refine A1 ?_; first | refine D3 rfl rfl ?_ | refine D4 rfl rfl rfl rfl ?_ | refine D5 rfl rfl rfl ?_ | refine E6 ?_ rfl rfl | refine E7 ?_ rfl rfl) | refine Zb ?_ rfl | (refine A3 ?_; first | refine R34 T hs 0 rfl rfl rfl rfl rfl rfl ?_ | refine R34 T hs 1 rfl rfl rfl rfl rfl rfl ?_ | refine Zk ?_ rfl) | refine Zi ?_ rfl | refine Zq ?_ rfl | refine A8 ?_) | (refine B0 ?_; first | refine B1 ?_ | refine B2 ?_ | refine B3 ?_ | refine B4 ?_ | refine B5 ?_ | refine B6 ?_ | refine B7 rfl ?_ | refine B8 rfl ?_ | refine E8 ?_ rfl | refine E9 ?_ rfl) | refine C1 ?_ | refine C2 ?_ | refine C3 ?_ | refine C4 ?_ | refine C5 ?_ | refine C6 ?_ | refine C7 ?_ | refine C8 ?_ | refine C9 ?_ | refine D1 rfl ?_ | refine D2 rfl ?_)
    (refine RW.call T hs rfl rfl rfl (vecKind_con (R := ArrAt k) _ VecD.none _ _ (vecNone _)) ?_; intro v h7 w7 hle7 hp7 hs)
    subst hp7
    repeat (first | (refine A0 ?_; first | refine R1 rfl rfl ?_ | refine R2 rfl rfl ?_ | (refine A1 ?_; first | refine D3 rfl rfl ?_ | refine D4 rfl rfl rfl rfl ?_ | refine D5 rfl rfl rfl ?_ | refine E6 ?_ rfl rfl | refine E7 ?_ rfl rfl) | refine Zb ?_ rfl | (refine A3 ?_; first | refine R34 T hs 0 rfl rfl rfl rfl rfl rfl ?_ | refine R34 T hs 1 rfl rfl rfl rfl rfl rfl ?_ | refine Zk ?_ rfl) | refine Zi ?_ rfl | refine Zq ?_ rfl | refine A8 ?_) | (refine B0 ?_; first | refine B1 ?_ | refine B2 ?_ | refine B3 ?_ | refine B4 ?_ | refine B5 ?_ | refine B6 ?_ | refine B7 rfl ?_ | refine B8 rfl ?_ | refine E8 ?_ rfl | refine E9 ?_ rfl) | refine C1 ?_ | refine C2 ?_ | refine C3 ?_ | refine C4 ?_ | refine C5 ?_ | refine C6 ?_ | refine C7 ?_ | refine C8 ?_ | refine C9 ?_ | refine D1 rfl ?_ | refine D2 rfl ?_)
    (refine RW.call T hs rfl rfl rfl (valueGood_con (k + 1) _ _ _ _ (zeroArr_at k _)) ?_; intro v h8 w8 hle8 hp8 hs)
    subst hp8
    rw [decB_not (zeroArr_bad k 40)]
    repeat (first | (refine A0 ?_; first | refine R1 rfl rfl ?_ | refine R2 rfl rfl ?_ | (refine A1 ?_; first | refine D3 rfl rfl ?_ | refine D4 rfl rfl rfl rfl ?_ | refine D5 rfl rfl rfl ?_ | refine E6 ?_ rfl rfl | refine E7 ?_ rfl rfl) | refine Zb ?_ rfl | (refine A3 ?_; first | refine R34 T hs 0 rfl rfl rfl rfl rfl rfl ?_ | refine R34 T hs 1 rfl rfl rfl rfl rfl rfl ?_ | refine Zk ?_ rfl) | refine Zi ?_ rfl | refine Zq ?_ rfl | refine A8 ?_) | (refine B0 ?_; first | refine B1 ?_ | refine B2 ?_ | refine B3 ?_ | refine B4 ?_ | refine B5 ?_ | refine B6 ?_ | refine B7 rfl ?_ | refine B8 rfl ?_ | refine E8 ?_ rfl | refine E9 ?_ rfl) | refine C1 ?_ | refine C2 ?_ | refine C3 ?_ | refine C4 ?_ | refine C5 ?_ | refine C6 ?_ | refine C7 ?_ | refine C8 ?_ | refine C9 ?_ | refine D1 rfl ?_ | refine D2 rfl ?_)
    (refine RW.call T hs rfl rfl rfl (awake07_con _ _) ?_; intro v h9 w9 hle9 hp9 hs)
    subst hp9
    repeat (first | (refine A0 ?_; first | refine R1 rfl rfl ?_ | refine R2 rfl rfl ?_ | (refine A1 ?_; first | refine D3 rfl rfl ?_ | refine D4 rfl rfl rfl rfl ?_ | refine D5 rfl rfl rfl ?_ | refine E6 ?_ rfl rfl | refine E7 ?_ rfl rfl) | refine Zb ?_ rfl | (refine A3 ?_; first | refine R34 T hs 0 rfl rfl rfl rfl rfl rfl ?_ | refine R34 T hs 1 rfl rfl rfl rfl rfl rfl ?_ | refine Zk ?_ rfl) | refine Zi ?_ rfl | refine Zq ?_ rfl | refine A8 ?_) | (refine B0 ?_; first | refine B1 ?_ | refine B2 ?_ | refine B3 ?_ | refine B4 ?_ | refine B5 ?_ | refine B6 ?_ | refine B7 rfl ?_ | refine B8 rfl ?_ | refine E8 ?_ rfl | refine E9 ?_ rfl) | refine C1 ?_ | refine C2 ?_ | refine C3 ?_ | refine C4 ?_ | refine C5 ?_ | refine C6 ?_ | refine C7 ?_ | refine C8 ?_ | refine C9 ?_ | refine D1 rfl ?_ | refine D2 rfl ?_)
    exact retQ_ret [_] h9 ⟨rfl, trivial⟩ hs.dropAll rfl
end Go.Proofs.Ythbfkhklihejiaa

/-
  Contracts of functions of package value: arrays made of elements, a number, a character, a box alone. No statement is proved here.
-/
namespace Go.Proofs.Ythbfkhklihejiaa
open Go Go.RowKit
set_option linter.unusedVariables false
set_option linter.unusedSimpArgs false
set_option maxHeartbeats 4000000
attribute [local irreducible] CW RW QW SW HW ConM retM heldQ calmQ elemP thenQ blockQ loopQ joinQ retQ Yields Con Sl zF magR unitF truncF fwF wholeF tidySpec elemQ rankF leastN tidyW

section
variable {α : Type} {R : GHeap → List Value → α → Prop}
/-- what is wrong with elements of a shape -/
def newE (l : List Int) (v : VecD α) : Int := if (product l 1048576).2 ≠ 0 then (product l 1048576).2 else if v.kind = 0 then 1 else if (product l 1048576).1 ≠ v.len then 23 else 0
theorem valueNew_con (hR : Mono R) (s : Value) (l : List Int) (cs : List Value) (v : VecD α) (w : World) (h : GHeap) (hl : IntsAt h s l) (hv : VecAt R h cs v) : Con Try.prog 62 [s, .agg cs.toArray] w h (OfPost (ArrR R) (newE l v) ⟨l, v.sq⟩) := by
  have hl' := hl
  obtain ⟨ad, cp, rfl, hS⟩ := hl
  have hsl : l.length ≤ 9223372036854775807 := by have := hS.caps; omega
  have hv' := hv
  obtain ⟨wv, nv, sm, il, fl, ch, bx, ⟨rfl, hoc⟩, hk⟩ := hv
  clear hk
  unfold newE
  refine Con.of_body Try.func62 rfl Try.ntmps62 rfl rfl ?_
  intro hs
  repeat (first | (refine A0 ?_; first | refine R1 rfl rfl ?_ | refine R2 rfl rfl ?_ | (refine A1 ?_; first | refine D3 rfl rfl ?_ | refine D4 rfl rfl rfl rfl ?_ | refine D5 rfl rfl rfl ?_ | refine E6 ?_ rfl rfl | refine E7 ?_ rfl rfl) | refine Zb ?_ rfl | (refine A3 ?_; first | refine R34 T hs 0 rfl rfl rfl rfl rfl rfl ?_ | refine R34 T hs 1 rfl rfl rfl rfl rfl rfl ?_ | refine Zl ?_ rfl) | refine Zi ?_ rfl | refine Zo ?_ rfl | refine A8 ?_) | (refine B0 ?_; first | refine B1 ?_ | refine B2 ?_ | refine B3 ?_ | refine B4 ?_ | refine B5 ?_ | refine B6 ?_ | refine B7 rfl ?_ | refine B8 rfl ?_ | refine E8 ?_ rfl | refine E9 ?_ rfl) | refine C1 ?_ | refine C2 ?_ | refine C3 ?_ | refine C4 ?_ | refine C5 ?_ | refine C6 ?_ | refine C7 ?_ | refine C8 ?_ | refine C9 ?_ | refine D1 rfl ?_ | refine D2 rfl ?_)
  (refine RW.boxN hs rfl rfl ?_; intro b1 w1 hs)
  (refine RW.allocN T hs rfl rfl rfl rfl ?_; intro b2 w2 hs)
  repeat (first | (refine A0 ?_; first | refine R1 rfl rfl ?_ | refine R2 rfl rfl ?_ | (refine A1 ?_; first | refine D3 rfl rfl ?_ | refine D4 rfl rfl rfl rfl ?_ | refine D5 rfl rfl rfl ?_ | refine E6 ?_ rfl rfl | refine E7 ?_ rfl rfl) | refine Zb ?_ rfl | (refine A3 ?_; first | refine R34 T hs 0 rfl rfl rfl rfl rfl rfl ?_ | refine R34 T hs 1 rfl rfl rfl rfl rfl rfl ?_ | refine Zk ?_ rfl) | refine Zi ?_ rfl | refine Zq ?_ rfl | refine A8 ?_) | (refine B0 ?_; first | refine B1 ?_ | refine B2 ?_ | refine B3 ?_ | refine B4 ?_ | refine B5 ?_ | refine B6 ?_ | refine B7 rfl ?_ | refine B8 rfl ?_ | refine E8 ?_ rfl | refine E9 ?_ rfl) | refine C1 ?_ | refine C2 ?_ | refine C3 ?_ | refine C4 ?_ | refine C5 ?_ | refine C6 ?_ | refine C7 ?_ | refine C8 ?_ | refine C9 ?_ | refine D1 rfl ?_ | refine D2 rfl ?_)
  (refine RW.call T hs rfl rfl rfl (product_con _ l 1048576 _ _ hl' hsl) ?_; intro v h3 w3 hle3 hp3 hs)
  subst hp3
  have hl' := hl'.mono hle3
  have hv' := hv'.mono hR hle3
  generalize hpr : product l 1048576 = r
  obtain ⟨n, e⟩ := r
  dsimp only
  by_cases c1 : e ≠ 0
  · rw [if_pos c1]
    repeat (first | (refine A0 ?_; first | refine R1 rfl rfl ?_ | refine R2 rfl rfl ?_ | (refine A1 ?_; first | refine D3 rfl rfl ?_ | refine D4 rfl rfl rfl rfl ?_ | refine D5 rfl rfl rfl ?_ | refine E6 ?_ rfl rfl | refine E7 ?_ rfl rfl) | refine Zb ?_ rfl | (refine A3 ?_; first | refine R34 T hs 0 rfl rfl rfl rfl rfl rfl ?_ | refine R34 T hs 1 rfl rfl rfl rfl rfl rfl ?_ | refine Zk ?_ rfl) | refine Zi ?_ rfl | refine Zq ?_ rfl | refine A8 ?_) | (refine B0 ?_; first | refine B1 ?_ | refine B2 ?_ | refine B3 ?_ | refine B4 ?_ | refine B5 ?_ | refine B6 ?_ | refine B7 rfl ?_ | refine B8 rfl ?_ | refine E8 ?_ rfl | refine E9 ?_ rfl) | refine C1 ?_ | refine C2 ?_ | refine C3 ?_ | refine C4 ?_ | refine C5 ?_ | refine C6 ?_ | refine C7 ?_ | refine C8 ?_ | refine C9 ?_ | refine D1 rfl ?_ | refine D2 rfl ?_)
    refine RW.val (Y.build T rfl rfl rfl rfl rfl rfl rfl) rfl ?_
    repeat (first | (refine A0 ?_; first | refine R1 rfl rfl ?_ | refine R2 rfl rfl ?_ | (refine A1 ?_; first | refine D3 rfl rfl ?_ | refine D4 rfl rfl rfl rfl ?_ | refine D5 rfl rfl rfl ?_ | refine E6 ?_ rfl rfl | refine E7 ?_ rfl rfl) | refine Zb ?_ rfl | (refine A3 ?_; first | refine R34 T hs 0 rfl rfl rfl rfl rfl rfl ?_ | refine R34 T hs 1 rfl rfl rfl rfl rfl rfl ?_ | refine Zk ?_ rfl) | refine Zi ?_ rfl | refine Zq ?_ rfl | refine A8 ?_) | (refine B0 ?_; first | refine B1 ?_ | refine B2 ?_ | refine B3 ?_ | refine B4 ?_ | refine B5 ?_ | refine B6 ?_ | refine B7 rfl ?_ | refine B8 rfl ?_ | refine E8 ?_ rfl | refine E9 ?_ rfl) | refine C1 ?_ | refine C2 ?_ | refine C3 ?_ | refine C4 ?_ | refine C5 ?_ | refine C6 ?_ | refine C7 ?_ | refine C8 ?_ | refine C9 ?_ | refine D1 rfl ?_ | refine D2 rfl ?_)
    (refine RW.storeAll T hs 0 rfl rfl rfl rfl rfl rfl rfl rfl ?_; intro w4 hs)
    repeat (first | (refine A0 ?_; first | refine R1 rfl rfl ?_ | refine R2 rfl rfl ?_ | (refine A1 ?_; first | refine D3 rfl rfl ?_ | refine D4 rfl rfl rfl rfl ?_ | refine D5 rfl rfl rfl ?_ | refine E6 ?_ rfl rfl | refine E7 ?_ rfl rfl) | refine Zb ?_ rfl | (refine A3 ?_; first | refine R34 T hs 0 rfl rfl rfl rfl rfl rfl ?_ | refine R34 T hs 1 rfl rfl rfl rfl rfl rfl ?_ | refine Zk ?_ rfl) | refine Zi ?_ rfl | refine Zq ?_ rfl | refine A8 ?_) | (refine B0 ?_; first | refine B1 ?_ | refine B2 ?_ | refine B3 ?_ | refine B4 ?_ | refine B5 ?_ | refine B6 ?_ | refine B7 rfl ?_ | refine B8 rfl ?_ | refine E8 ?_ rfl | refine E9 ?_ rfl) | refine C1 ?_ | refine C2 ?_ | refine C3 ?_ | refine C4 ?_ | refine C5 ?_ | refine C6 ?_ | refine C7 ?_ | refine C8 ?_ | refine C9 ?_ | refine D1 rfl ?_ | refine D2 rfl ?_)
    exact retQ_ret [_, _] h3 ⟨resN T hs 0 rfl rfl rfl rfl rfl rfl, rfl, trivial⟩ hs.dropAll (OfPost.bad c1)
  rw [if_neg c1]
  repeat (first | (refine A0 ?_; first | refine R1 rfl rfl ?_ | refine R2 rfl rfl ?_ | (refine A1 ?_; first | refine D3 rfl rfl ?_ | refine D4 rfl rfl rfl rfl ?_ | refine D5 rfl rfl rfl ?_ | refine E6 ?_ rfl rfl | refine E7 ?_ rfl rfl) | refine Zb ?_ rfl | (refine A3 ?_; first | refine R34 T hs 0 rfl rfl rfl rfl rfl rfl ?_ | refine R34 T hs 1 rfl rfl rfl rfl rfl rfl ?_ | refine Zk ?_ rfl) | refine Zi ?_ rfl | refine Zq ?_ rfl | refine A8 ?_) | (refine B0 ?_; first | refine B1 ?_ | refine B2 ?_ | refine B3 ?_ | refine B4 ?_ | refine B5 ?_ | refine B6 ?_ | refine B7 rfl ?_ | refine B8 rfl ?_ | refine E8 ?_ rfl | refine E9 ?_ rfl) | refine C1 ?_ | refine C2 ?_ | refine C3 ?_ | refine C4 ?_ | refine C5 ?_ | refine C6 ?_ | refine C7 ?_ | refine C8 ?_ | refine C9 ?_ | refine D1 rfl ?_ | refine D2 rfl ?_)
  (refine RW.call T hs rfl rfl rfl (vecKind_con _ v _ _ hv') ?_; intro v h4 w4 hle4 hp4 hs)
  subst hp4
  have hl' := hl'.mono hle4
  have hv' := hv'.mono hR hle4
  by_cases c2 : v.kind = 0
  · rw [if_pos c2]
    repeat (first | (refine A0 ?_; first | refine R1 rfl rfl ?_ | refine R2 rfl rfl ?_ | (refine A1 ?_; first | refine D3 rfl rfl ?_ | refine D4 rfl rfl rfl rfl ?_ | refine D5 rfl rfl rfl ?_ | refine E6 ?_ rfl rfl | refine E7 ?_ rfl rfl) | refine Zb ?_ rfl | (refine A3 ?_; first | refine R34 T hs 0 rfl rfl rfl rfl rfl rfl ?_ | refine R34 T hs 1 rfl rfl rfl rfl rfl rfl ?_ | refine Zk ?_ rfl) | refine Zi ?_ rfl | refine Zq ?_ rfl | refine A8 ?_) | (refine B0 ?_; first | refine B1 ?_ | refine B2 ?_ | refine B3 ?_ | refine B4 ?_ | refine B5 ?_ | refine B6 ?_ | refine B7 rfl ?_ | refine B8 rfl ?_ | refine E8 ?_ rfl | refine E9 ?_ rfl) | refine C1 ?_ | refine C2 ?_ | refine C3 ?_ | refine C4 ?_ | refine C5 ?_ | refine C6 ?_ | refine C7 ?_ | refine C8 ?_ | refine C9 ?_ | refine D1 rfl ?_ | refine D2 rfl ?_)
    refine RW.val (Y.build T rfl rfl rfl rfl rfl rfl rfl) rfl ?_
    (refine RW.storeAll T hs 0 rfl rfl rfl rfl rfl rfl rfl rfl ?_; intro w5 hs)
    repeat (first | (refine A0 ?_; first | refine R1 rfl rfl ?_ | refine R2 rfl rfl ?_ | (refine A1 ?_; first | refine D3 rfl rfl ?_ | refine D4 rfl rfl rfl rfl ?_ | refine D5 rfl rfl rfl ?_ | refine E6 ?_ rfl rfl | refine E7 ?_ rfl rfl) | refine Zb ?_ rfl | (refine A3 ?_; first | refine R34 T hs 0 rfl rfl rfl rfl rfl rfl ?_ | refine R34 T hs 1 rfl rfl rfl rfl rfl rfl ?_ | refine Zk ?_ rfl) | refine Zi ?_ rfl | refine Zq ?_ rfl | refine A8 ?_) | (refine B0 ?_; first | refine B1 ?_ | refine B2 ?_ | refine B3 ?_ | refine B4 ?_ | refine B5 ?_ | refine B6 ?_ | refine B7 rfl ?_ | refine B8 rfl ?_ | refine E8 ?_ rfl | refine E9 ?_ rfl) | refine C1 ?_ | refine C2 ?_ | refine C3 ?_ | refine C4 ?_ | refine C5 ?_ | refine C6 ?_ | refine C7 ?_ | refine C8 ?_ | refine C9 ?_ | refine D1 rfl ?_ | refine D2 rfl ?_)
    exact retQ_ret [_, _] h4 ⟨resN T hs 0 rfl rfl rfl rfl rfl rfl, rfl, trivial⟩ hs.dropAll (OfPost.bad (by omega))
  rw [if_neg c2]
  repeat (first | (refine A0 ?_; first | refine R1 rfl rfl ?_ | refine R2 rfl rfl ?_ | (refine A1 ?_; first | refine D3 rfl rfl ?_ | refine D4 rfl rfl rfl rfl ?_ | refine D5 rfl rfl rfl ?_ | refine E6 ?_ rfl rfl | refine E7 ?_ rfl rfl) | refine Zb ?_ rfl | (refine A3 ?_; first | refine R34 T hs 0 rfl rfl rfl rfl rfl rfl ?_ | refine R34 T hs 1 rfl rfl rfl rfl rfl rfl ?_ | refine Zk ?_ rfl) | refine Zi ?_ rfl | refine Zq ?_ rfl | refine A8 ?_) | (refine B0 ?_; first | refine B1 ?_ | refine B2 ?_ | refine B3 ?_ | refine B4 ?_ | refine B5 ?_ | refine B6 ?_ | refine B7 rfl ?_ | refine B8 rfl ?_ | refine E8 ?_ rfl | refine E9 ?_ rfl) | refine C1 ?_ | refine C2 ?_ | refine C3 ?_ | refine C4 ?_ | refine C5 ?_ | refine C6 ?_ | refine C7 ?_ | refine C8 ?_ | refine C9 ?_ | refine D1 rfl ?_ | refine D2 rfl ?_)
  (refine RW.call T hs rfl rfl rfl (vecLen_con _ v _ _ hv') ?_; intro v h5 w5 hle5 hp5 hs)
  subst hp5
  have hl' := hl'.mono hle5
  have hv' := hv'.mono hR hle5
  by_cases c3 : n ≠ v.len
  · rw [if_pos c3]
    repeat (first | (refine A0 ?_; first | refine R1 rfl rfl ?_ | refine R2 rfl rfl ?_ | (refine A1 ?_; first | refine D3 rfl rfl ?_ | refine D4 rfl rfl rfl rfl ?_ | refine D5 rfl rfl rfl ?_ | refine E6 ?_ rfl rfl | refine E7 ?_ rfl rfl) | refine Zb ?_ rfl | (refine A3 ?_; first | refine R34 T hs 0 rfl rfl rfl rfl rfl rfl ?_ | refine R34 T hs 1 rfl rfl rfl rfl rfl rfl ?_ | refine Zk ?_ rfl) | refine Zi ?_ rfl | refine Zq ?_ rfl | refine A8 ?_) | (refine B0 ?_; first | refine B1 ?_ | refine B2 ?_ | refine B3 ?_ | refine B4 ?_ | refine B5 ?_ | refine B6 ?_ | refine B7 rfl ?_ | refine B8 rfl ?_ | refine E8 ?_ rfl | refine E9 ?_ rfl) | refine C1 ?_ | refine C2 ?_ | refine C3 ?_ | refine C4 ?_ | refine C5 ?_ | refine C6 ?_ | refine C7 ?_ | refine C8 ?_ | refine C9 ?_ | refine D1 rfl ?_ | refine D2 rfl ?_)
    refine RW.val (Y.build T rfl rfl rfl rfl rfl rfl rfl) rfl ?_
    (refine RW.storeAll T hs 0 rfl rfl rfl rfl rfl rfl rfl rfl ?_; intro w6 hs)
    repeat (first | (refine A0 ?_; first | refine R1 rfl rfl ?_ | refine R2 rfl rfl ?_ | (refine A1 ?_; first | refine D3 rfl rfl ?_ | refine D4 rfl rfl rfl rfl ?_ | refine D5 rfl rfl rfl ?_ | refine E6 ?_ rfl rfl | refine E7 ?_ rfl rfl) | refine Zb ?_ rfl | (refine A3 ?_; first | refine R34 T hs 0 rfl rfl rfl rfl rfl rfl ?_ | refine R34 T hs 1 rfl rfl rfl rfl rfl rfl ?_ | refine Zk ?_ rfl) | refine Zi ?_ rfl | refine Zq ?_ rfl | refine A8 ?_) | (refine B0 ?_; first | refine B1 ?_ | refine B2 ?_ | refine B3 ?_ | refine B4 ?_ | refine B5 ?_ | refine B6 ?_ | refine B7 rfl ?_ | refine B8 rfl ?_ | refine E8 ?_ rfl | refine E9 ?_ rfl) | refine C1 ?_ | refine C2 ?_ | refine C3 ?_ | refine C4 ?_ | refine C5 ?_ | refine C6 ?_ | refine C7 ?_ | refine C8 ?_ | refine C9 ?_ | refine D1 rfl ?_ | refine D2 rfl ?_)
    exact retQ_ret [_, _] h5 ⟨resN T hs 0 rfl rfl rfl rfl rfl rfl, rfl, trivial⟩ hs.dropAll (OfPost.bad (by omega))
  rw [if_neg c3]
  have hpr2 : product l 1048576 = ((v.len : Int), 0) := by rw [hpr, Decidable.of_not_not c1, Decidable.of_not_not c3]
  have hln := product_le hpr2
  have hlen := hln.2
  repeat (first | (refine A0 ?_; first | refine R1 rfl rfl ?_ | refine R2 rfl rfl ?_ | (refine A1 ?_; first | refine D3 rfl rfl ?_ | refine D4 rfl rfl rfl rfl ?_ | refine D5 rfl rfl rfl ?_ | refine E6 ?_ rfl rfl | refine E7 ?_ rfl rfl) | refine Zb ?_ rfl | (refine A3 ?_; first | refine R34 T hs 0 rfl rfl rfl rfl rfl rfl ?_ | refine R34 T hs 1 rfl rfl rfl rfl rfl rfl ?_ | refine Zk ?_ rfl) | refine Zi ?_ rfl | refine Zq ?_ rfl | refine A8 ?_) | (refine B0 ?_; first | refine B1 ?_ | refine B2 ?_ | refine B3 ?_ | refine B4 ?_ | refine B5 ?_ | refine B6 ?_ | refine B7 rfl ?_ | refine B8 rfl ?_ | refine E8 ?_ rfl | refine E9 ?_ rfl) | refine C1 ?_ | refine C2 ?_ | refine C3 ?_ | refine C4 ?_ | refine C5 ?_ | refine C6 ?_ | refine C7 ?_ | refine C8 ?_ | refine C9 ?_ | refine D1 rfl ?_ | refine D2 rfl ?_)
  refine CW.regionH T (fun w' : World => ∃ (h' : GHeap) (O : List Row) (k : Nat), Sees w h h' O w' ∧ O[k]? = some (Row.mk (some ⟨b1, 0, none⟩) 1 1 61 8 (vecCells v.kind wv nv sm il fl ch bx))) ?_
  rintro w4 rfl
  have hs := hs.drew
  refine HW.take (fuel := 6) 0 rfl (v := .slice ad l.length cp) ?_ ?_ rfl (by kernel_rfl) (by kernel_rfl) (by kernel_rfl) ?_
  · intro w' _; exact Y.move rfl
  · exact ⟨_, _, 1, hs, rfl⟩
  refine HW.take (fuel := 5) 2 rfl (v := .agg (vecCells v.kind wv nv sm il fl ch bx).toArray) ?_ ?_ rfl (by kernel_rfl) (by kernel_rfl) (by kernel_rfl) ?_
  · rintro w' ⟨h', O, k, hs', e0⟩; exact Y.loadRowN T hs' k e0 rfl rfl rfl rfl rfl rfl
  · exact ⟨_, _, 1, hs, rfl⟩
  refine HW.one (fuel := 4) 1 rfl (by kernel_rfl) ?_
  (refine RW.call T hs rfl rfl rfl (cloneInts_con _ l _ _ hl' (by omega)) ?_; intro v h5 w5 hle5 hp5 hs)
  have hl5 := hp5
  obtain ⟨ad5, cp5, rfl, _⟩ := hp5
  have hv' := hv'.mono hR hle5
  refine RW.nil ?_
  refine heldQ_normal ⟨_, _, 1, hs, rfl⟩ ?_
  refine HW.one (fuel := 3) 3 rfl (by kernel_rfl) ?_
  (refine RW.call T hs rfl rfl rfl (sqSqueeze_con hR _ v _ _ hv' hlen) ?_; intro v h6 w6 hle6 hp6 hs)
  obtain ⟨cs6, rfl, hv6⟩ := hp6
  have hl5 := hl5.mono hle6
  have hv6' := hv6
  obtain ⟨wv', nv', sm', il', fl', ch', bx', ⟨rfl, hoc6⟩, _⟩ := hv6
  generalize v.sq.kind = vk at *
  refine RW.nil ?_
  refine heldQ_normal ⟨_, _, 1, hs, rfl⟩ ?_
  refine HW.take (fuel := 2) 4 rfl (v := .agg (.slice ad5 l.length cp5 :: vecCells vk wv' nv' sm' il' fl' ch' bx').toArray) ?_ ?_ rfl (by kernel_rfl) (by kernel_rfl) (by kernel_rfl) ?_
  · intro w' _; exact Y.build T rfl rfl rfl rfl rfl rfl rfl
  · exact ⟨_, _, 1, hs, rfl⟩
  refine HW.one (fuel := 1) 5 rfl (by kernel_rfl) ?_
  (refine RW.storeAll T hs 0 rfl rfl rfl rfl rfl rfl hoc6 rfl ?_; intro w7 hs)
  refine RW.nil ?_
  refine heldQ_normal ⟨_, _, 1, hs, rfl⟩ ?_
  refine HW.one (fuel := 0) 6 rfl (by kernel_rfl) ?_
  refine RW.val (Y.assign rfl) rfl ?_
  refine RW.nil ?_
  refine heldQ_normal ⟨_, _, 1, hs, rfl⟩ ?_
  refine HW.done (by kernel_rfl) ?_
  refine calmQ_normal ?_
  repeat (first | (refine A0 ?_; first | refine R1 rfl rfl ?_ | refine R2 rfl rfl ?_ | (refine A1 ?_; first | refine D3 rfl rfl ?_ | refine D4 rfl rfl rfl rfl ?_ | refine D5 rfl rfl rfl ?_ | refine E6 ?_ rfl rfl | refine E7 ?_ rfl rfl) | refine Zb ?_ rfl | (refine A3 ?_; first | refine R34 T hs 0 rfl rfl rfl rfl rfl rfl ?_ | refine R34 T hs 1 rfl rfl rfl rfl rfl rfl ?_ | refine Zk ?_ rfl) | refine Zi ?_ rfl | refine Zq ?_ rfl | refine A8 ?_) | (refine B0 ?_; first | refine B1 ?_ | refine B2 ?_ | refine B3 ?_ | refine B4 ?_ | refine B5 ?_ | refine B6 ?_ | refine B7 rfl ?_ | refine B8 rfl ?_ | refine E8 ?_ rfl | refine E9 ?_ rfl) | refine C1 ?_ | refine C2 ?_ | refine C3 ?_ | refine C4 ?_ | refine C5 ?_ | refine C6 ?_ | refine C7 ?_ | refine C8 ?_ | refine C9 ?_ | refine D1 rfl ?_ | refine D2 rfl ?_)
  refine retQ_ret [_, _] h6 ⟨resN T hs 0 rfl rfl rfl rfl rfl rfl, rfl, trivial⟩ hs.dropAll ⟨_, rfl, rfl, ?_, fun _ => ⟨_, _, rfl, hl5, hv6'⟩, fun e => absurd rfl e⟩
  intro u hu
  rcases List.mem_cons.1 hu with rfl | hu
  · rfl
  · exact List.all_eq_true.1 hoc6 u hu
theorem valueList_con (hR : Mono R) (cs : List Value) (v : VecD α) (w : World) (h : GHeap) (hv : VecAt R h cs v) (hm : v.len ≤ 1048576) : Con Try.prog 59 [.agg cs.toArray] w h (fun h' u => ∃ cs', u = .agg cs'.toArray ∧ ArrR R h' cs' ⟨[(v.len : Int)], v.sq⟩) := by
  have hv' := hv
  obtain ⟨wv, nv, sm, il, fl, ch, bx, ⟨rfl, hoc⟩, hk⟩ := hv
  clear hk
  refine Con.of_body Try.func59 rfl Try.ntmps59 rfl rfl ?_
  intro hs
  repeat (first | (refine A0 ?_; first | refine R1 rfl rfl ?_ | refine R2 rfl rfl ?_ | (refine A1 ?_; first | refine D3 rfl rfl ?_ | refine D4 rfl rfl rfl rfl ?_ | refine D5 rfl rfl rfl ?_ | refine E6 ?_ rfl rfl | refine E7 ?_ rfl rfl) | refine Zb ?_ rfl | (refine A3 ?_; first | refine R34 T hs 0 rfl rfl rfl rfl rfl rfl ?_ | refine R34 T hs 1 rfl rfl rfl rfl rfl rfl ?_ | refine Zl ?_ rfl) | refine Zi ?_ rfl | refine Zo ?_ rfl | refine A8 ?_) | (refine B0 ?_; first | refine B1 ?_ | refine B2 ?_ | refine B3 ?_ | refine B4 ?_ | refine B5 ?_ | refine B6 ?_ | refine B7 rfl ?_ | refine B8 rfl ?_ | refine E8 ?_ rfl | refine E9 ?_ rfl) | refine C1 ?_ | refine C2 ?_ | refine C3 ?_ | refine C4 ?_ | refine C5 ?_ | refine C6 ?_ | refine C7 ?_ | refine C8 ?_ | refine C9 ?_ | refine D1 rfl ?_ | refine D2 rfl ?_)
  (refine RW.boxN hs rfl rfl ?_; intro b1 w1 hs)
  (refine RW.allocN T hs rfl rfl rfl rfl ?_; intro b2 w2 hs)
  repeat (first | (refine A0 ?_; first | refine R1 rfl rfl ?_ | refine R2 rfl rfl ?_ | (refine A1 ?_; first | refine D3 rfl rfl ?_ | refine D4 rfl rfl rfl rfl ?_ | refine D5 rfl rfl rfl ?_ | refine E6 ?_ rfl rfl | refine E7 ?_ rfl rfl) | refine Zb ?_ rfl | (refine A3 ?_; first | refine R34 T hs 0 rfl rfl rfl rfl rfl rfl ?_ | refine R34 T hs 1 rfl rfl rfl rfl rfl rfl ?_ | refine Zk ?_ rfl) | refine Zi ?_ rfl | refine Zq ?_ rfl | refine A8 ?_) | (refine B0 ?_; first | refine B1 ?_ | refine B2 ?_ | refine B3 ?_ | refine B4 ?_ | refine B5 ?_ | refine B6 ?_ | refine B7 rfl ?_ | refine B8 rfl ?_ | refine E8 ?_ rfl | refine E9 ?_ rfl) | refine C1 ?_ | refine C2 ?_ | refine C3 ?_ | refine C4 ?_ | refine C5 ?_ | refine C6 ?_ | refine C7 ?_ | refine C8 ?_ | refine C9 ?_ | refine D1 rfl ?_ | refine D2 rfl ?_)
  refine CW.regionH T (fun w' : World => ∃ (h' : GHeap) (O : List Row) (k : Nat), Sees w h h' O w' ∧ O[k]? = some (Row.mk (some ⟨b1, 0, none⟩) 1 1 61 8 (vecCells v.kind wv nv sm il fl ch bx))) ?_
  rintro w4 rfl
  have hs := hs.drew
  refine HW.take (fuel := 6) 0 rfl (v := .agg (vecCells v.kind wv nv sm il fl ch bx).toArray) ?_ ?_ rfl (by kernel_rfl) (by kernel_rfl) (by kernel_rfl) ?_
  · rintro w' ⟨h', O, k, hs', e0⟩; exact Y.loadRowN T hs' k e0 rfl rfl rfl rfl rfl rfl
  · exact ⟨_, _, 1, hs, rfl⟩
  refine HW.take (fuel := 5) 3 rfl (v := .agg (vecCells v.kind wv nv sm il fl ch bx).toArray) ?_ ?_ rfl (by kernel_rfl) (by kernel_rfl) (by kernel_rfl) ?_
  · rintro w' ⟨h', O, k, hs', e0⟩; exact Y.loadRowN T hs' k e0 rfl rfl rfl rfl rfl rfl
  · exact ⟨_, _, 1, hs, rfl⟩
  refine HW.one (fuel := 4) 1 rfl (by kernel_rfl) ?_
  (refine RW.call T hs rfl rfl rfl (vecLen_con _ v _ _ hv') ?_; intro v h5 w5 hle5 hp5 hs)
  subst hp5
  have hv' := hv'.mono hR hle5
  refine RW.nil ?_
  refine heldQ_normal ⟨_, _, 1, hs, rfl⟩ ?_
  refine HW.two (fuel := 3) 2 4 rfl rfl (by kernel_rfl) ?_ ?_
  · (refine RW.lit T hs (vs := [.int .i64 v.len]) (cs := [.int .i64 v.len]) rfl rfl rfl rfl (by simp [Value.cells]) rfl rfl rfl rfl rfl ?_; intro b7 w7 hs)
    refine RW.nil ?_
    refine heldQ_normal ⟨_, _, 2, hs, rfl⟩ ?_
    refine HW.one (fuel := 2) 4 rfl (by kernel_rfl) ?_
    (refine RW.call T hs rfl rfl rfl (sqSqueeze_con hR _ v _ _ hv' hm) ?_; intro v h6 w6 hle6 hp6 hs)
    obtain ⟨cs6, rfl, hv6⟩ := hp6
    have hv6' := hv6
    obtain ⟨wv', nv', sm', il', fl', ch', bx', ⟨rfl, hoc6⟩, _⟩ := hv6
    generalize v.sq.kind = vk at *
    refine RW.nil ?_
    refine heldQ_normal ⟨_, _, 2, hs, rfl⟩ ?_
    refine HW.take (fuel := 1) 5 rfl (v := .agg (.slice (some ⟨b7, 0, none⟩) 1 1 :: vecCells vk wv' nv' sm' il' fl' ch' bx').toArray) ?_ ?_ rfl (by kernel_rfl) (by kernel_rfl) (by kernel_rfl) ?_
    · intro w' _; exact Y.build T rfl rfl rfl rfl rfl rfl rfl
    · exact ⟨_, _, 2, hs, rfl⟩
    refine HW.one (fuel := 0) 6 rfl (by kernel_rfl) ?_
    (refine RW.storeAll T hs 1 rfl rfl rfl rfl rfl rfl hoc6 rfl ?_; intro w8 hs)
    refine RW.nil ?_
    refine heldQ_normal ⟨_, _, 2, hs, rfl⟩ ?_
    refine HW.done (by kernel_rfl) ?_
    refine calmQ_normal ?_
    repeat (first | (refine A0 ?_; first | refine R1 rfl rfl ?_ | refine R2 rfl rfl ?_ | (refine A1 ?_; first | refine D3 rfl rfl ?_ | refine D4 rfl rfl rfl rfl ?_ | refine D5 rfl rfl rfl ?_ | refine E6 ?_ rfl rfl | refine E7 ?_ rfl rfl) | refine Zb ?_ rfl | (refine A3 ?_; first | refine R34 T hs 0 rfl rfl rfl rfl rfl rfl ?_ | refine R34 T hs 1 rfl rfl rfl rfl rfl rfl ?_ | refine Zk ?_ rfl) | refine Zi ?_ rfl | refine Zq ?_ rfl | refine A8 ?_) | (refine B0 ?_; first | refine B1 ?_ | refine B2 ?_ | refine B3 ?_ | refine B4 ?_ | refine B5 ?_ | refine B6 ?_ | refine B7 rfl ?_ | refine B8 rfl ?_ | refine E8 ?_ rfl | refine E9 ?_ rfl) | refine C1 ?_ | refine C2 ?_ | refine C3 ?_ | refine C4 ?_ | refine C5 ?_ | refine C6 ?_ | refine C7 ?_ | refine C8 ?_ | refine C9 ?_ | refine D1 rfl ?_ | refine D2 rfl ?_)
    obtain ⟨h9, hle9, hs, hS9⟩ := hs.freeze
    exact retQ_ret [_] h9 ⟨resN T hs 0 rfl rfl rfl rfl rfl rfl, trivial⟩ hs.dropAll ⟨_, rfl, _, _, rfl, IntsAt.of_sl hS9, hv6'.mono hR hle9⟩
  · (refine RW.call T hs rfl rfl rfl (sqSqueeze_con hR _ v _ _ hv' hm) ?_; intro v h6 w6 hle6 hp6 hs)
    obtain ⟨cs6, rfl, hv6⟩ := hp6
    have hv6' := hv6
    obtain ⟨wv', nv', sm', il', fl', ch', bx', ⟨rfl, hoc6⟩, _⟩ := hv6
    generalize v.sq.kind = vk at *
    refine RW.nil ?_
    refine heldQ_normal ⟨_, _, 1, hs, rfl⟩ ?_
    refine HW.one (fuel := 2) 2 rfl (by kernel_rfl) ?_
    (refine RW.lit T hs (vs := [.int .i64 v.len]) (cs := [.int .i64 v.len]) rfl rfl rfl rfl (by simp [Value.cells]) rfl rfl rfl rfl rfl ?_; intro b7 w7 hs)
    refine RW.nil ?_
    refine heldQ_normal ⟨_, _, 2, hs, rfl⟩ ?_
    refine HW.take (fuel := 1) 5 rfl (v := .agg (.slice (some ⟨b7, 0, none⟩) 1 1 :: vecCells vk wv' nv' sm' il' fl' ch' bx').toArray) ?_ ?_ rfl (by kernel_rfl) (by kernel_rfl) (by kernel_rfl) ?_
    · intro w' _; exact Y.build T rfl rfl rfl rfl rfl rfl rfl
    · exact ⟨_, _, 2, hs, rfl⟩
    refine HW.one (fuel := 0) 6 rfl (by kernel_rfl) ?_
    (refine RW.storeAll T hs 1 rfl rfl rfl rfl rfl rfl hoc6 rfl ?_; intro w8 hs)
    refine RW.nil ?_
    refine heldQ_normal ⟨_, _, 2, hs, rfl⟩ ?_
    refine HW.done (by kernel_rfl) ?_
    refine calmQ_normal ?_
    repeat (first | (refine A0 ?_; first | refine R1 rfl rfl ?_ | refine R2 rfl rfl ?_ | (refine A1 ?_; first | refine D3 rfl rfl ?_ | refine D4 rfl rfl rfl rfl ?_ | refine D5 rfl rfl rfl ?_ | refine E6 ?_ rfl rfl | refine E7 ?_ rfl rfl) | refine Zb ?_ rfl | (refine A3 ?_; first | refine R34 T hs 0 rfl rfl rfl rfl rfl rfl ?_ | refine R34 T hs 1 rfl rfl rfl rfl rfl rfl ?_ | refine Zk ?_ rfl) | refine Zi ?_ rfl | refine Zq ?_ rfl | refine A8 ?_) | (refine B0 ?_; first | refine B1 ?_ | refine B2 ?_ | refine B3 ?_ | refine B4 ?_ | refine B5 ?_ | refine B6 ?_ | refine B7 rfl ?_ | refine B8 rfl ?_ | refine E8 ?_ rfl | refine E9 ?_ rfl) | refine C1 ?_ | refine C2 ?_ | refine C3 ?_ | refine C4 ?_ | refine C5 ?_ | refine C6 ?_ | refine C7 ?_ | refine C8 ?_ | refine C9 ?_ | refine D1 rfl ?_ | refine D2 rfl ?_)
    obtain ⟨h9, hle9, hs, hS9⟩ := hs.freeze
    exact retQ_ret [_] h9 ⟨resN T hs 0 rfl rfl rfl rfl rfl rfl, trivial⟩ hs.dropAll ⟨_, rfl, _, _, rfl, IntsAt.of_sl hS9, hv6'.mono hR hle9⟩
theorem valueNum_con (hR : Mono R) (x : Nat) (w : World) (h : GHeap) (hx : x < 18446744073709551616) : Con Try.prog 53 [.float .f64 x] w h (fun h' u => ∃ cs', u = .tuple #[.agg cs'.toArray, .bool (decide (finF x))] ∧ ArrR R h' cs' ⟨[], if finF x then ⟨leastN [tidyW x], [tidyW x], [], []⟩ else VecD.none⟩) := by
  refine Con.of_body Try.func53 rfl Try.ntmps53 rfl rfl ?_
  intro hs
  repeat (first | (refine A0 ?_; first | refine R1 rfl rfl ?_ | refine R2 rfl rfl ?_ | (refine A1 ?_; first | refine D3 rfl rfl ?_ | refine D4 rfl rfl rfl rfl ?_ | refine D5 rfl rfl rfl ?_ | refine E6 ?_ rfl rfl | refine E7 ?_ rfl rfl) | refine Zb ?_ rfl | (refine A3 ?_; first | refine R34 T hs 0 rfl rfl rfl rfl rfl rfl ?_ | refine R34 T hs 1 rfl rfl rfl rfl rfl rfl ?_ | refine Zl ?_ rfl) | refine Zi ?_ rfl | refine Zo ?_ rfl | refine A8 ?_) | (refine B0 ?_; first | refine B1 ?_ | refine B2 ?_ | refine B3 ?_ | refine B4 ?_ | refine B5 ?_ | refine B6 ?_ | refine B7 rfl ?_ | refine B8 rfl ?_ | refine E8 ?_ rfl | refine E9 ?_ rfl) | refine C1 ?_ | refine C2 ?_ | refine C3 ?_ | refine C4 ?_ | refine C5 ?_ | refine C6 ?_ | refine C7 ?_ | refine C8 ?_ | refine C9 ?_ | refine D1 rfl ?_ | refine D2 rfl ?_)
  (refine RW.allocN T hs rfl rfl rfl rfl ?_; intro b1 w1 hs)
  repeat (first | (refine A0 ?_; first | refine R1 rfl rfl ?_ | refine R2 rfl rfl ?_ | (refine A1 ?_; first | refine D3 rfl rfl ?_ | refine D4 rfl rfl rfl rfl ?_ | refine D5 rfl rfl rfl ?_ | refine E6 ?_ rfl rfl | refine E7 ?_ rfl rfl) | refine Zb ?_ rfl | (refine A3 ?_; first | refine R34 T hs 0 rfl rfl rfl rfl rfl rfl ?_ | refine R34 T hs 1 rfl rfl rfl rfl rfl rfl ?_ | refine Zk ?_ rfl) | refine Zi ?_ rfl | refine Zq ?_ rfl | refine A8 ?_) | (refine B0 ?_; first | refine B1 ?_ | refine B2 ?_ | refine B3 ?_ | refine B4 ?_ | refine B5 ?_ | refine B6 ?_ | refine B7 rfl ?_ | refine B8 rfl ?_ | refine E8 ?_ rfl | refine E9 ?_ rfl) | refine C1 ?_ | refine C2 ?_ | refine C3 ?_ | refine C4 ?_ | refine C5 ?_ | refine C6 ?_ | refine C7 ?_ | refine C8 ?_ | refine C9 ?_ | refine D1 rfl ?_ | refine D2 rfl ?_)
  (refine RW.lit T hs (vs := [.float .f64 x]) (cs := [.float .f64 x]) rfl rfl rfl rfl (by simp [Value.cells]) rfl rfl rfl rfl rfl ?_; intro b2 w2 hs)
  obtain ⟨h3, hle3, hs, hS3⟩ := hs.freeze
  have hF3 : FAt h3 (.slice (some ⟨b2, 0, none⟩) 1 1) [x] := RowAt.of_sl hS3
  (refine RW.call T hs rfl rfl rfl (sqNumbers_con (R := R) hR _ [x] _ _ hF3 (by intro u hu; rw [List.mem_singleton.1 hu]; exact hx) (by simp)) ?_; intro v h4 w4 hle4 hp4 hs)
  obtain ⟨cs4, ok, rfl, hok, hv4⟩ := hp4
  have hok : ok = decide (finF x) := by rw [hok]; exact decide_eq_decide.2 ⟨fun e => e x (by simp), fun e u hu => by rw [List.mem_singleton.1 hu]; exact e⟩
  have hv4' := hv4
  obtain ⟨wv, nv, sm, il, fl, ch, bx, ⟨hcs4, hoc4⟩, _⟩ := hv4
  generalize hvk : (if ok = true then (⟨leastN ([x].map tidyW), [x].map tidyW, [], []⟩ : VecD α) else VecD.none).kind = vk at hcs4
  subst hcs4
  repeat (first | (refine A0 ?_; first | refine R1 rfl rfl ?_ | refine R2 rfl rfl ?_ | (refine A1 ?_; first | refine D3 rfl rfl ?_ | refine D4 rfl rfl rfl rfl ?_ | refine D5 rfl rfl rfl ?_ | refine E6 ?_ rfl rfl | refine E7 ?_ rfl rfl) | refine Zb ?_ rfl | (refine A3 ?_; first | refine R34 T hs 0 rfl rfl rfl rfl rfl rfl ?_ | refine R34 T hs 1 rfl rfl rfl rfl rfl rfl ?_ | refine Zk ?_ rfl) | refine Zi ?_ rfl | refine Zq ?_ rfl | refine A8 ?_) | (refine B0 ?_; first | refine B1 ?_ | refine B2 ?_ | refine B3 ?_ | refine B4 ?_ | refine B5 ?_ | refine B6 ?_ | refine B7 rfl ?_ | refine B8 rfl ?_ | refine E8 ?_ rfl | refine E9 ?_ rfl) | refine C1 ?_ | refine C2 ?_ | refine C3 ?_ | refine C4 ?_ | refine C5 ?_ | refine C6 ?_ | refine C7 ?_ | refine C8 ?_ | refine C9 ?_ | refine D1 rfl ?_ | refine D2 rfl ?_)
  (refine RW.allocN T hs rfl rfl rfl rfl ?_; intro b5 w5 hs)
  (refine RW.storeAll T hs 0 rfl rfl rfl rfl rfl rfl hoc4 rfl ?_; intro w6 hs)
  repeat (first | (refine A0 ?_; first | refine R1 rfl rfl ?_ | refine R2 rfl rfl ?_ | (refine A1 ?_; first | refine D3 rfl rfl ?_ | refine D4 rfl rfl rfl rfl ?_ | refine D5 rfl rfl rfl ?_ | refine E6 ?_ rfl rfl | refine E7 ?_ rfl rfl) | refine Zb ?_ rfl | (refine A3 ?_; first | refine R34 T hs 0 rfl rfl rfl rfl rfl rfl ?_ | refine R34 T hs 1 rfl rfl rfl rfl rfl rfl ?_ | refine Zk ?_ rfl) | refine Zi ?_ rfl | refine Zq ?_ rfl | refine A8 ?_) | (refine B0 ?_; first | refine B1 ?_ | refine B2 ?_ | refine B3 ?_ | refine B4 ?_ | refine B5 ?_ | refine B6 ?_ | refine B7 rfl ?_ | refine B8 rfl ?_ | refine E8 ?_ rfl | refine E9 ?_ rfl) | refine C1 ?_ | refine C2 ?_ | refine C3 ?_ | refine C4 ?_ | refine C5 ?_ | refine C6 ?_ | refine C7 ?_ | refine C8 ?_ | refine C9 ?_ | refine D1 rfl ?_ | refine D2 rfl ?_)
  by_cases hf : finF x
  · rw [decide_eq_true hf] at hok ⊢
    subst hok
    repeat (first | (refine A0 ?_; first | refine R1 rfl rfl ?_ | refine R2 rfl rfl ?_ | (refine A1 ?_; first | refine D3 rfl rfl ?_ | refine D4 rfl rfl rfl rfl ?_ | refine D5 rfl rfl rfl ?_ | refine E6 ?_ rfl rfl | refine E7 ?_ rfl rfl) | refine Zb ?_ rfl | (refine A3 ?_; first | refine R34 T hs 0 rfl rfl rfl rfl rfl rfl ?_ | refine R34 T hs 1 rfl rfl rfl rfl rfl rfl ?_ | refine Zk ?_ rfl) | refine Zi ?_ rfl | refine Zq ?_ rfl | refine A8 ?_) | (refine B0 ?_; first | refine B1 ?_ | refine B2 ?_ | refine B3 ?_ | refine B4 ?_ | refine B5 ?_ | refine B6 ?_ | refine B7 rfl ?_ | refine B8 rfl ?_ | refine E8 ?_ rfl | refine E9 ?_ rfl) | refine C1 ?_ | refine C2 ?_ | refine C3 ?_ | refine C4 ?_ | refine C5 ?_ | refine C6 ?_ | refine C7 ?_ | refine C8 ?_ | refine C9 ?_ | refine D1 rfl ?_ | refine D2 rfl ?_)
    refine RW.val (Y.build T rfl rfl rfl rfl rfl rfl rfl) rfl ?_
    (refine RW.storeAll T hs 1 rfl rfl rfl rfl rfl rfl hoc4 rfl ?_; intro w7 hs)
    repeat (first | (refine A0 ?_; first | refine R1 rfl rfl ?_ | refine R2 rfl rfl ?_ | (refine A1 ?_; first | refine D3 rfl rfl ?_ | refine D4 rfl rfl rfl rfl ?_ | refine D5 rfl rfl rfl ?_ | refine E6 ?_ rfl rfl | refine E7 ?_ rfl rfl) | refine Zb ?_ rfl | (refine A3 ?_; first | refine R34 T hs 0 rfl rfl rfl rfl rfl rfl ?_ | refine R34 T hs 1 rfl rfl rfl rfl rfl rfl ?_ | refine Zk ?_ rfl) | refine Zi ?_ rfl | refine Zq ?_ rfl | refine A8 ?_) | (refine B0 ?_; first | refine B1 ?_ | refine B2 ?_ | refine B3 ?_ | refine B4 ?_ | refine B5 ?_ | refine B6 ?_ | refine B7 rfl ?_ | refine B8 rfl ?_ | refine E8 ?_ rfl | refine E9 ?_ rfl) | refine C1 ?_ | refine C2 ?_ | refine C3 ?_ | refine C4 ?_ | refine C5 ?_ | refine C6 ?_ | refine C7 ?_ | refine C8 ?_ | refine C9 ?_ | refine D1 rfl ?_ | refine D2 rfl ?_)
    refine retQ_ret [_, _] h4 ⟨resN T hs 1 rfl rfl rfl rfl rfl rfl, rfl, trivial⟩ hs.dropAll ⟨_, rfl, _, _, rfl, RowAt.nil _, ?_⟩
    rw [if_pos hf]
    exact hv4'
  · rw [decide_eq_false hf] at hok ⊢
    subst hok
    repeat (first | (refine A0 ?_; first | refine R1 rfl rfl ?_ | refine R2 rfl rfl ?_ | (refine A1 ?_; first | refine D3 rfl rfl ?_ | refine D4 rfl rfl rfl rfl ?_ | refine D5 rfl rfl rfl ?_ | refine E6 ?_ rfl rfl | refine E7 ?_ rfl rfl) | refine Zb ?_ rfl | (refine A3 ?_; first | refine R34 T hs 0 rfl rfl rfl rfl rfl rfl ?_ | refine R34 T hs 1 rfl rfl rfl rfl rfl rfl ?_ | refine Zk ?_ rfl) | refine Zi ?_ rfl | refine Zq ?_ rfl | refine A8 ?_) | (refine B0 ?_; first | refine B1 ?_ | refine B2 ?_ | refine B3 ?_ | refine B4 ?_ | refine B5 ?_ | refine B6 ?_ | refine B7 rfl ?_ | refine B8 rfl ?_ | refine E8 ?_ rfl | refine E9 ?_ rfl) | refine C1 ?_ | refine C2 ?_ | refine C3 ?_ | refine C4 ?_ | refine C5 ?_ | refine C6 ?_ | refine C7 ?_ | refine C8 ?_ | refine C9 ?_ | refine D1 rfl ?_ | refine D2 rfl ?_)
    refine RW.val (Y.build T rfl rfl rfl rfl rfl rfl rfl) rfl ?_
    (refine RW.storeAll T hs 1 rfl rfl rfl rfl rfl rfl rfl rfl ?_; intro w7 hs)
    repeat (first | (refine A0 ?_; first | refine R1 rfl rfl ?_ | refine R2 rfl rfl ?_ | (refine A1 ?_; first | refine D3 rfl rfl ?_ | refine D4 rfl rfl rfl rfl ?_ | refine D5 rfl rfl rfl ?_ | refine E6 ?_ rfl rfl | refine E7 ?_ rfl rfl) | refine Zb ?_ rfl | (refine A3 ?_; first | refine R34 T hs 0 rfl rfl rfl rfl rfl rfl ?_ | refine R34 T hs 1 rfl rfl rfl rfl rfl rfl ?_ | refine Zk ?_ rfl) | refine Zi ?_ rfl | refine Zq ?_ rfl | refine A8 ?_) | (refine B0 ?_; first | refine B1 ?_ | refine B2 ?_ | refine B3 ?_ | refine B4 ?_ | refine B5 ?_ | refine B6 ?_ | refine B7 rfl ?_ | refine B8 rfl ?_ | refine E8 ?_ rfl | refine E9 ?_ rfl) | refine C1 ?_ | refine C2 ?_ | refine C3 ?_ | refine C4 ?_ | refine C5 ?_ | refine C6 ?_ | refine C7 ?_ | refine C8 ?_ | refine C9 ?_ | refine D1 rfl ?_ | refine D2 rfl ?_)
    refine retQ_ret [_, _] h4 ⟨resN T hs 1 rfl rfl rfl rfl rfl rfl, rfl, trivial⟩ hs.dropAll ⟨_, rfl, _, _, rfl, RowAt.nil _, ?_⟩
    rw [if_neg hf]
    exact vecNone h4
theorem valueChar_con (c : Int) (w : World) (h : GHeap) : Con Try.prog 54 [.int .i32 c] w h (fun h' u => ∃ cs', u = .agg cs'.toArray ∧ ArrR R h' cs' ⟨[], ⟨5, [], [c], []⟩⟩) := by
  refine Con.of_body Try.func54 rfl Try.ntmps54 rfl rfl ?_
  intro hs
  repeat (first | (refine A0 ?_; first | refine R1 rfl rfl ?_ | refine R2 rfl rfl ?_ | (refine A1 ?_; first | refine D3 rfl rfl ?_ | refine D4 rfl rfl rfl rfl ?_ | refine D5 rfl rfl rfl ?_ | refine E6 ?_ rfl rfl | refine E7 ?_ rfl rfl) | refine Zb ?_ rfl | (refine A3 ?_; first | refine R34 T hs 0 rfl rfl rfl rfl rfl rfl ?_ | refine R34 T hs 1 rfl rfl rfl rfl rfl rfl ?_ | refine Zl ?_ rfl) | refine Zi ?_ rfl | refine Zo ?_ rfl | refine A8 ?_) | (refine B0 ?_; first | refine B1 ?_ | refine B2 ?_ | refine B3 ?_ | refine B4 ?_ | refine B5 ?_ | refine B6 ?_ | refine B7 rfl ?_ | refine B8 rfl ?_ | refine E8 ?_ rfl | refine E9 ?_ rfl) | refine C1 ?_ | refine C2 ?_ | refine C3 ?_ | refine C4 ?_ | refine C5 ?_ | refine C6 ?_ | refine C7 ?_ | refine C8 ?_ | refine C9 ?_ | refine D1 rfl ?_ | refine D2 rfl ?_)
  (refine RW.allocN T hs rfl rfl rfl rfl ?_; intro b1 w1 hs)
  repeat (first | (refine A0 ?_; first | refine R1 rfl rfl ?_ | refine R2 rfl rfl ?_ | (refine A1 ?_; first | refine D3 rfl rfl ?_ | refine D4 rfl rfl rfl rfl ?_ | refine D5 rfl rfl rfl ?_ | refine E6 ?_ rfl rfl | refine E7 ?_ rfl rfl) | refine Zb ?_ rfl | (refine A3 ?_; first | refine R34 T hs 0 rfl rfl rfl rfl rfl rfl ?_ | refine R34 T hs 1 rfl rfl rfl rfl rfl rfl ?_ | refine Zk ?_ rfl) | refine Zi ?_ rfl | refine Zq ?_ rfl | refine A8 ?_) | (refine B0 ?_; first | refine B1 ?_ | refine B2 ?_ | refine B3 ?_ | refine B4 ?_ | refine B5 ?_ | refine B6 ?_ | refine B7 rfl ?_ | refine B8 rfl ?_ | refine E8 ?_ rfl | refine E9 ?_ rfl) | refine C1 ?_ | refine C2 ?_ | refine C3 ?_ | refine C4 ?_ | refine C5 ?_ | refine C6 ?_ | refine C7 ?_ | refine C8 ?_ | refine C9 ?_ | refine D1 rfl ?_ | refine D2 rfl ?_)
  (refine RW.lit T hs (vs := [.int .i32 c]) (cs := [.int .i32 c]) rfl rfl rfl rfl (by simp [Value.cells]) rfl rfl rfl rfl rfl ?_; intro b2 w2 hs)
  obtain ⟨h3, hle3, hs, hS3⟩ := hs.freeze
  have hC3 : KAt .i32 h3 (.slice (some ⟨b2, 0, none⟩) 1 1) [c] := RowAt.of_sl hS3
  (refine RW.call T hs rfl rfl rfl (vecChars_con (R := R) _ [c] _ _ hC3 (by simp)) ?_; intro v h4 w4 hle4 hp4 hs)
  obtain ⟨cs4, rfl, hv4⟩ := hp4
  have hv4' := hv4
  obtain ⟨wv, nv, sm, il, fl, ch, bx, ⟨rfl, hoc4⟩, _⟩ := hv4
  refine RW.val (Y.build T rfl rfl rfl rfl rfl rfl rfl) rfl ?_
  (refine RW.storeAll T hs 0 rfl rfl rfl rfl rfl rfl hoc4 rfl ?_; intro w5 hs)
  repeat (first | (refine A0 ?_; first | refine R1 rfl rfl ?_ | refine R2 rfl rfl ?_ | (refine A1 ?_; first | refine D3 rfl rfl ?_ | refine D4 rfl rfl rfl rfl ?_ | refine D5 rfl rfl rfl ?_ | refine E6 ?_ rfl rfl | refine E7 ?_ rfl rfl) | refine Zb ?_ rfl | (refine A3 ?_; first | refine R34 T hs 0 rfl rfl rfl rfl rfl rfl ?_ | refine R34 T hs 1 rfl rfl rfl rfl rfl rfl ?_ | refine Zk ?_ rfl) | refine Zi ?_ rfl | refine Zq ?_ rfl | refine A8 ?_) | (refine B0 ?_; first | refine B1 ?_ | refine B2 ?_ | refine B3 ?_ | refine B4 ?_ | refine B5 ?_ | refine B6 ?_ | refine B7 rfl ?_ | refine B8 rfl ?_ | refine E8 ?_ rfl | refine E9 ?_ rfl) | refine C1 ?_ | refine C2 ?_ | refine C3 ?_ | refine C4 ?_ | refine C5 ?_ | refine C6 ?_ | refine C7 ?_ | refine C8 ?_ | refine C9 ?_ | refine D1 rfl ?_ | refine D2 rfl ?_)
  exact retQ_ret [_] h4 ⟨resN T hs 0 rfl rfl rfl rfl rfl rfl, trivial⟩ hs.dropAll ⟨_, rfl, _, _, rfl, RowAt.nil _, hv4'⟩
theorem valueBox_con (hR : Mono R) (h1 : One R) (h9 : Siz 9 R) (cs : List Value) (a : α) (w : World) (h : GHeap) (ha : R h cs a) : Con Try.prog 55 [.agg cs.toArray] w h (fun h' u => ∃ cs', u = .agg cs'.toArray ∧ ArrR R h' cs' ⟨[], ⟨6, [], [], [a]⟩⟩) := by
  have hl9 := h9 _ _ _ ha
  refine Con.of_body Try.func55 rfl Try.ntmps55 rfl rfl ?_
  intro hs
  repeat (first | (refine A0 ?_; first | refine R1 rfl rfl ?_ | refine R2 rfl rfl ?_ | (refine A1 ?_; first | refine D3 rfl rfl ?_ | refine D4 rfl rfl rfl rfl ?_ | refine D5 rfl rfl rfl ?_ | refine E6 ?_ rfl rfl | refine E7 ?_ rfl rfl) | refine Zb ?_ rfl | (refine A3 ?_; first | refine R34 T hs 0 rfl rfl rfl rfl rfl rfl ?_ | refine R34 T hs 1 rfl rfl rfl rfl rfl rfl ?_ | refine Zl ?_ rfl) | refine Zi ?_ rfl | refine Zo ?_ rfl | refine A8 ?_) | (refine B0 ?_; first | refine B1 ?_ | refine B2 ?_ | refine B3 ?_ | refine B4 ?_ | refine B5 ?_ | refine B6 ?_ | refine B7 rfl ?_ | refine B8 rfl ?_ | refine E8 ?_ rfl | refine E9 ?_ rfl) | refine C1 ?_ | refine C2 ?_ | refine C3 ?_ | refine C4 ?_ | refine C5 ?_ | refine C6 ?_ | refine C7 ?_ | refine C8 ?_ | refine C9 ?_ | refine D1 rfl ?_ | refine D2 rfl ?_)
  (refine RW.boxN hs rfl rfl ?_; intro b1 w1 hs)
  (refine RW.allocN T hs rfl rfl rfl rfl ?_; intro b2 w2 hs)
  repeat (first | (refine A0 ?_; first | refine R1 rfl rfl ?_ | refine R2 rfl rfl ?_ | (refine A1 ?_; first | refine D3 rfl rfl ?_ | refine D4 rfl rfl rfl rfl ?_ | refine D5 rfl rfl rfl ?_ | refine E6 ?_ rfl rfl | refine E7 ?_ rfl rfl) | refine Zb ?_ rfl | (refine A3 ?_; first | refine R34 T hs 0 rfl rfl rfl rfl rfl rfl ?_ | refine R34 T hs 1 rfl rfl rfl rfl rfl rfl ?_ | refine Zk ?_ rfl) | refine Zi ?_ rfl | refine Zq ?_ rfl | refine A8 ?_) | (refine B0 ?_; first | refine B1 ?_ | refine B2 ?_ | refine B3 ?_ | refine B4 ?_ | refine B5 ?_ | refine B6 ?_ | refine B7 rfl ?_ | refine B8 rfl ?_ | refine E8 ?_ rfl | refine E9 ?_ rfl) | refine C1 ?_ | refine C2 ?_ | refine C3 ?_ | refine C4 ?_ | refine C5 ?_ | refine C6 ?_ | refine C7 ?_ | refine C8 ?_ | refine C9 ?_ | refine D1 rfl ?_ | refine D2 rfl ?_)
  refine RW.val (Y.loadRowN (cs := cs) T hs 1 rfl rfl rfl rfl rfl (List.take_of_length_le (by rw [List.drop_zero]; exact Nat.le_of_eq hl9)) hl9) rfl ?_
  (refine RW.lit T hs (vs := [.agg cs.toArray]) (cs := cs) rfl rfl rfl rfl (by simp [Value.cells, hl9]) rfl (by simp [Value.cells]) rfl rfl rfl ?_; intro b3 w3 hs)
  obtain ⟨h4, hle4, hs, hS4⟩ := hs.freeze
  have hB4 : RowsAt 9 (R h4) h4 (.slice (some ⟨b3, 0, none⟩) 1 1) [a] := RowsAt.single hS4 (hR _ _ _ _ hle4 ha)
  (refine RW.call T hs rfl rfl rfl (vecBoxes_con (R := R) hR h1 _ [a] _ _ hB4 (by simp)) ?_; intro v h5 w5 hle5 hp5 hs)
  obtain ⟨cs5, rfl, hv5⟩ := hp5
  have hv5' := hv5
  obtain ⟨wv, nv, sm, il, fl, ch, bx, ⟨rfl, hoc5⟩, _⟩ := hv5
  refine RW.val (Y.build T rfl rfl rfl rfl rfl rfl rfl) rfl ?_
  (refine RW.storeAll T hs 0 rfl rfl rfl rfl rfl rfl hoc5 rfl ?_; intro w6 hs)
  repeat (first | (refine A0 ?_; first | refine R1 rfl rfl ?_ | refine R2 rfl rfl ?_ | (refine A1 ?_; first | refine D3 rfl rfl ?_ | refine D4 rfl rfl rfl rfl ?_ | refine D5 rfl rfl rfl ?_ | refine E6 ?_ rfl rfl | refine E7 ?_ rfl rfl) | refine Zb ?_ rfl | (refine A3 ?_; first | refine R34 T hs 0 rfl rfl rfl rfl rfl rfl ?_ | refine R34 T hs 1 rfl rfl rfl rfl rfl rfl ?_ | refine Zk ?_ rfl) | refine Zi ?_ rfl | refine Zq ?_ rfl | refine A8 ?_) | (refine B0 ?_; first | refine B1 ?_ | refine B2 ?_ | refine B3 ?_ | refine B4 ?_ | refine B5 ?_ | refine B6 ?_ | refine B7 rfl ?_ | refine B8 rfl ?_ | refine E8 ?_ rfl | refine E9 ?_ rfl) | refine C1 ?_ | refine C2 ?_ | refine C3 ?_ | refine C4 ?_ | refine C5 ?_ | refine C6 ?_ | refine C7 ?_ | refine C8 ?_ | refine C9 ?_ | refine D1 rfl ?_ | refine D2 rfl ?_)
  exact retQ_ret [_] h5 ⟨resN T hs 0 rfl rfl rfl rfl rfl rfl, trivial⟩ hs.dropAll ⟨_, rfl, _, _, rfl, RowAt.nil _, hv5'⟩
end
end Go.Proofs.Ythbfkhklihejiaa

/-
  Contracts of the law's own functions of layer 7: which shapes elements can have. No statement is proved here.
-/
namespace Go.Proofs.Ythbfkhklihejiaa
open Go Go.RowKit
set_option linter.unusedVariables false
set_option linter.unusedSimpArgs false
set_option maxHeartbeats 4000000
attribute [local irreducible] CW RW QW SW HW ConM retM heldQ calmQ elemP thenQ blockQ loopQ joinQ retQ Yields Con Sl zF magR unitF truncF fwF wholeF tidySpec elemQ rankF leastN tidyW

/-- the plain array of numbers -/
def numsP {α : Type} (l : List Nat) : PlainD α := ⟨[(l.length : Int)], l.map fun x => ⟨0, x, 0, []⟩, 0⟩
theorem refNums_con {α : Type} {R : GHeap → List Value → α → Prop} (hR : Mono R) (s : Value) (l : List Nat) (w : World) (h : GHeap) (hl : FAt h s l) (hx : ∀ u ∈ l, u < 18446744073709551616) (hm : l.length ≤ 1048576) : Con Try.prog 60 [s] w h (fun h' u => ∃ cs', u = .agg cs'.toArray ∧ PlainR R h' cs' (numsP l)) := by
  obtain ⟨ad, cp, rfl, hS⟩ := hl
  refine Con.of_body Try.func60 rfl Try.ntmps60 rfl rfl ?_
  intro hs
  repeat (first | (refine A0 ?_; first | refine R1 rfl rfl ?_ | refine R2 rfl rfl ?_ | (refine A1 ?_; first | refine D3 rfl rfl ?_ | refine D4 rfl rfl rfl rfl ?_ | refine D5 rfl rfl rfl ?_ | refine E6 ?_ rfl rfl | refine E7 ?_ rfl rfl) | refine Zb ?_ rfl | (refine A3 ?_; first | refine R34 T hs 0 rfl rfl rfl rfl rfl rfl ?_ | refine R34 T hs 1 rfl rfl rfl rfl rfl rfl ?_ | refine Zl ?_ rfl) | refine Zi ?_ rfl | refine Zo ?_ rfl | refine A8 ?_) | (refine B0 ?_; first | refine B1 ?_ | refine B2 ?_ | refine B3 ?_ | refine B4 ?_ | refine B5 ?_ | refine B6 ?_ | refine B7 rfl ?_ | refine B8 rfl ?_ | refine E8 ?_ rfl | refine E9 ?_ rfl) | refine C1 ?_ | refine C2 ?_ | refine C3 ?_ | refine C4 ?_ | refine C5 ?_ | refine C6 ?_ | refine C7 ?_ | refine C8 ?_ | refine C9 ?_ | refine D1 rfl ?_ | refine D2 rfl ?_)
  (refine RW.allocN T hs rfl rfl rfl rfl ?_; intro b1 w1 hs)
  repeat (first | (refine A0 ?_; first | refine R1 rfl rfl ?_ | refine R2 rfl rfl ?_ | (refine A1 ?_; first | refine D3 rfl rfl ?_ | refine D4 rfl rfl rfl rfl ?_ | refine D5 rfl rfl rfl ?_ | refine E6 ?_ rfl rfl | refine E7 ?_ rfl rfl) | refine Zb ?_ rfl | (refine A3 ?_; first | refine R34 T hs 0 rfl rfl rfl rfl rfl rfl ?_ | refine R34 T hs 1 rfl rfl rfl rfl rfl rfl ?_ | refine Zk ?_ rfl) | refine Zi ?_ rfl | refine Zq ?_ rfl | refine A8 ?_) | (refine B0 ?_; first | refine B1 ?_ | refine B2 ?_ | refine B3 ?_ | refine B4 ?_ | refine B5 ?_ | refine B6 ?_ | refine B7 rfl ?_ | refine B8 rfl ?_ | refine E8 ?_ rfl | refine E9 ?_ rfl) | refine C1 ?_ | refine C2 ?_ | refine C3 ?_ | refine C4 ?_ | refine C5 ?_ | refine C6 ?_ | refine C7 ?_ | refine C8 ?_ | refine C9 ?_ | refine D1 rfl ?_ | refine D2 rfl ?_)
  (refine RW.lit T hs (vs := [.int .i64 l.length]) (cs := [.int .i64 l.length]) rfl rfl rfl rfl (by simp [Value.cells]) rfl rfl rfl rfl rfl ?_; intro b2 w2 hs)
  obtain ⟨h3, hle3, hs, hS3⟩ := hs.freeze
  have hI3 : IntsAt h3 (.slice (some ⟨b2, 0, none⟩) 1 1) [(l.length : Int)] := IntsAt.of_sl hS3
  refine RW.val (Y.build T rfl rfl rfl rfl rfl rfl rfl) rfl ?_
  (refine RW.allocN T hs rfl rfl rfl rfl ?_; intro b3 w3 hs)
  (refine RW.storeAll T hs 0 rfl rfl rfl rfl rfl rfl rfl rfl ?_; intro w4 hs)
  repeat (first | (refine A0 ?_; first | refine R1 rfl rfl ?_ | refine R2 rfl rfl ?_ | (refine A1 ?_; first | refine D3 rfl rfl ?_ | refine D4 rfl rfl rfl rfl ?_ | refine D5 rfl rfl rfl ?_ | refine E6 ?_ rfl rfl | refine E7 ?_ rfl rfl) | refine Zb ?_ rfl | (refine A3 ?_; first | refine R34 T hs 0 rfl rfl rfl rfl rfl rfl ?_ | refine R34 T hs 1 rfl rfl rfl rfl rfl rfl ?_ | refine Zk ?_ rfl) | refine Zi ?_ rfl | refine Zq ?_ rfl | refine A8 ?_) | (refine B0 ?_; first | refine B1 ?_ | refine B2 ?_ | refine B3 ?_ | refine B4 ?_ | refine B5 ?_ | refine B6 ?_ | refine B7 rfl ?_ | refine B8 rfl ?_ | refine E8 ?_ rfl | refine E9 ?_ rfl) | refine C1 ?_ | refine C2 ?_ | refine C3 ?_ | refine C4 ?_ | refine C5 ?_ | refine C6 ?_ | refine C7 ?_ | refine C8 ?_ | refine C9 ?_ | refine D1 rfl ?_ | refine D2 rfl ?_)
  have hs := hs.nilRow 83 4
  refine CW.loop (fun u : Nat × Option Addr × Nat × List Value => [(0, .slice ad l.length cp), (2, .pointer (some ⟨b1, 0, none⟩)), (3, .pointer (some ⟨b3, 0, none⟩)), (4, .int .i64 u.1)]) (fun u w' => u.1 ≤ l.length ∧ AllN 4 (ItemAt R h3) u.2.2.2 ((l.take u.1).map fun x => ⟨0, x, 0, []⟩) ∧ Sees w h h3 [⟨u.2.1, u.1, u.2.2.1, 83, 4, u.2.2.2⟩, ⟨some ⟨b3, 0, none⟩, 1, 1, 50, 3, [.slice (some ⟨b2, 0, none⟩) 1 1, .slice u.2.1 u.1 u.2.2.1, .int .i64 0]⟩, ⟨some ⟨b1, 0, none⟩, 1, 1, 50, 3, [.slice none 0 0, .slice none 0 0, .int .i64 0]⟩] w') (fun u => l.length - u.1) (0, none, 0, []) ⟨rfl, rfl, rfl, rfl, trivial⟩ ⟨by omega, rfl, hs⟩ ?_
  rintro ⟨i, ra, rc, vs⟩ w5 ⟨hi, hAv, hs⟩
  dsimp only at hi hAv hs ⊢
  by_cases hlt : i < l.length
  · have htk := take_succ_getD l i 0 hlt
    repeat (first | (refine A0 ?_; first | refine R1 rfl rfl ?_ | refine R2 rfl rfl ?_ | (refine A1 ?_; first | refine D3 rfl rfl ?_ | refine D4 rfl rfl rfl rfl ?_ | refine D5 rfl rfl rfl ?_ | refine E6 ?_ rfl rfl | refine E7 ?_ rfl rfl) | refine Zb ?_ rfl | (refine A3 ?_; first | refine R34 T hs 0 rfl rfl rfl rfl rfl rfl ?_ | refine R34 T hs 1 rfl rfl rfl rfl rfl rfl ?_ | refine Zk ?_ rfl) | refine Zi ?_ rfl | refine Zq ?_ rfl | refine A8 ?_) | (refine B0 ?_; first | refine B1 ?_ | refine B2 ?_ | refine B3 ?_ | refine B4 ?_ | refine B5 ?_ | refine B6 ?_ | refine B7 rfl ?_ | refine B8 rfl ?_ | refine E8 ?_ rfl | refine E9 ?_ rfl) | refine C1 ?_ | refine C2 ?_ | refine C3 ?_ | refine C4 ?_ | refine C5 ?_ | refine C6 ?_ | refine C7 ?_ | refine C8 ?_ | refine C9 ?_ | refine D1 rfl ?_ | refine D2 rfl ?_)
    refine CW.regionH T (fun w' : World => ∃ (h' : GHeap) (O : List Row), Sees w h h' O w') ?_
    rintro w7 rfl
    have hs := hs.drew
    refine HW.take (fuel := 10) 0 rfl (v := .pointer (some ⟨b3, 0 + 1, none⟩)) ?_ ?_ rfl (by kernel_rfl) (by kernel_rfl) (by kernel_rfl) ?_
    · intro w' _; exact Y.fieldAddr T rfl rfl rfl rfl rfl
    · exact ⟨_, _, hs⟩
    refine HW.take (fuel := 9) 2 rfl (v := .slice ad l.length cp) ?_ ?_ rfl (by kernel_rfl) (by kernel_rfl) (by kernel_rfl) ?_
    · intro w' _; exact Y.move rfl
    · exact ⟨_, _, hs⟩
    refine HW.take (fuel := 8) 3 rfl (v := .int .i64 i) ?_ ?_ rfl (by kernel_rfl) (by kernel_rfl) (by kernel_rfl) ?_
    · intro w' _; exact Y.move rfl
    · exact ⟨_, _, hs⟩
    refine HW.take (fuel := 7) 4 rfl (v := elemP ad i 1) ?_ ?_ rfl (by kernel_rfl) (by kernel_rfl) (by kernel_rfl) ?_
    · rintro w' ⟨h', O, hs'⟩; exact Y.idxSN T rfl rfl (hS.mono hs'.le) rfl rfl rfl hlt
    · exact ⟨_, _, hs⟩
    refine HW.take (fuel := 6) 5 rfl (v := .float .f64 (l.getD i 0)) ?_ ?_ rfl (by kernel_rfl) (by kernel_rfl) (by kernel_rfl) ?_
    · rintro w' ⟨h', O, hs'⟩; exact Y.ldS T hs' rfl (hS.mono hs'.le) rfl rfl hlt (map_get _ _ _ _ hlt)
    · exact ⟨_, _, hs⟩
    refine HW.take (fuel := 5) 6 rfl (v := .agg [.int .i64 0, .float .f64 (l.getD i 0), .int .i32 0, .slice none 0 0].toArray) ?_ ?_ rfl (by kernel_rfl) (by kernel_rfl) (by kernel_rfl) ?_
    · intro w' _; exact Y.build T rfl rfl rfl rfl rfl rfl rfl
    · exact ⟨_, _, hs⟩
    refine HW.two (fuel := 4) 1 7 rfl rfl (by kernel_rfl) ?_ ?_
    · refine RW.val (Y.loadRow1 T hs 1 rfl rfl rfl rfl rfl) rfl ?_
      refine RW.nil ?_
      refine heldQ_normal ⟨_, _, hs⟩ ?_
      refine HW.one (fuel := 3) 7 rfl (by kernel_rfl) ?_
      (refine RW.lit T hs (vs := [.agg [.int .i64 0, .float .f64 (l.getD i 0), .int .i32 0, .slice none 0 0].toArray]) (cs := [.int .i64 0, .float .f64 (l.getD i 0), .int .i32 0, .slice none 0 0]) rfl rfl rfl rfl (by simp [Value.cells]) rfl rfl rfl rfl rfl ?_; intro b8 w8 hs)
      refine RW.nil ?_
      refine heldQ_normal ⟨_, _, hs⟩ ?_
      refine HW.one (fuel := 2) 8 rfl (by kernel_rfl) ?_
      (refine RW.append T hs 1 rfl rfl (m := 1) (news := [.int .i64 0, .float .f64 (l.getD i 0), .int .i32 0, .slice none 0 0]) rfl rfl rfl rfl rfl rfl (hs.src0 rfl (by simp [Value.oneCell'])) (by simp) (by dsimp only; omega) (by omega) ?_; intro ad9 cp9 w9 hs; replace hs := hs.drop)
      refine RW.nil ?_
      refine heldQ_normal ⟨_, _, hs⟩ ?_
      refine HW.take (fuel := 1) 9 rfl (v := .pointer (some ⟨b3, 0 + 1, none⟩)) ?_ ?_ rfl (by kernel_rfl) (by kernel_rfl) (by kernel_rfl) ?_
      · intro w' _; exact Y.fieldAddr T rfl rfl rfl rfl rfl
      · exact ⟨_, _, hs⟩
      refine HW.one (fuel := 0) 10 rfl (by kernel_rfl) ?_
      (refine RW.store1 T hs 1 rfl rfl rfl rfl rfl rfl rfl rfl ?_; intro w10 hs)
      refine RW.nil ?_
      refine heldQ_normal ⟨_, _, hs⟩ ?_
      refine HW.done (by kernel_rfl) ?_
      refine calmQ_normal ?_
      repeat (first | (refine A0 ?_; first | refine R1 rfl rfl ?_ | refine R2 rfl rfl ?_ | (refine A1 ?_; first | refine D3 rfl rfl ?_ | refine D4 rfl rfl rfl rfl ?_ | refine D5 rfl rfl rfl ?_ | refine E6 ?_ rfl rfl | refine E7 ?_ rfl rfl) | refine Zb ?_ rfl | (refine A3 ?_; first | refine R34 T hs 0 rfl rfl rfl rfl rfl rfl ?_ | refine R34 T hs 1 rfl rfl rfl rfl rfl rfl ?_ | refine Zk ?_ rfl) | refine Zi ?_ rfl | refine Zq ?_ rfl | refine A8 ?_) | (refine B0 ?_; first | refine B1 ?_ | refine B2 ?_ | refine B3 ?_ | refine B4 ?_ | refine B5 ?_ | refine B6 ?_ | refine B7 rfl ?_ | refine B8 rfl ?_ | refine E8 ?_ rfl | refine E9 ?_ rfl) | refine C1 ?_ | refine C2 ?_ | refine C3 ?_ | refine C4 ?_ | refine C5 ?_ | refine C6 ?_ | refine C7 ?_ | refine C8 ?_ | refine C9 ?_ | refine D1 rfl ?_ | refine D2 rfl ?_)
      refine loopQ_round (i + 1, ad9, cp9, _) ⟨rfl, rfl, rfl, rfl, trivial⟩ ⟨by dsimp only; omega, ?_, hs⟩ (by dsimp only; omega)
      dsimp only
      rw [htk, List.map_append]
      exact hAv.append (AllN.one rfl (ItemAt.mk' (x := ⟨0, l.getD i 0, 0, []⟩) (RowsAt.nil _) (hx _ (mem_getD _ _ _ hlt))))
    · (refine RW.lit T hs (vs := [.agg [.int .i64 0, .float .f64 (l.getD i 0), .int .i32 0, .slice none 0 0].toArray]) (cs := [.int .i64 0, .float .f64 (l.getD i 0), .int .i32 0, .slice none 0 0]) rfl rfl rfl rfl (by simp [Value.cells]) rfl rfl rfl rfl rfl ?_; intro b8 w8 hs)
      refine RW.nil ?_
      refine heldQ_normal ⟨_, _, hs⟩ ?_
      refine HW.one (fuel := 3) 1 rfl (by kernel_rfl) ?_
      refine RW.val (Y.loadRow1 T hs 2 rfl rfl rfl rfl rfl) rfl ?_
      refine RW.nil ?_
      refine heldQ_normal ⟨_, _, hs⟩ ?_
      refine HW.one (fuel := 2) 8 rfl (by kernel_rfl) ?_
      (refine RW.append T hs 1 rfl rfl (m := 1) (news := [.int .i64 0, .float .f64 (l.getD i 0), .int .i32 0, .slice none 0 0]) rfl rfl rfl rfl rfl rfl (hs.src0 rfl (by simp [Value.oneCell'])) (by simp) (by dsimp only; omega) (by omega) ?_; intro ad9 cp9 w9 hs; replace hs := hs.drop)
      refine RW.nil ?_
      refine heldQ_normal ⟨_, _, hs⟩ ?_
      refine HW.take (fuel := 1) 9 rfl (v := .pointer (some ⟨b3, 0 + 1, none⟩)) ?_ ?_ rfl (by kernel_rfl) (by kernel_rfl) (by kernel_rfl) ?_
      · intro w' _; exact Y.fieldAddr T rfl rfl rfl rfl rfl
      · exact ⟨_, _, hs⟩
      refine HW.one (fuel := 0) 10 rfl (by kernel_rfl) ?_
      (refine RW.store1 T hs 1 rfl rfl rfl rfl rfl rfl rfl rfl ?_; intro w10 hs)
      refine RW.nil ?_
      refine heldQ_normal ⟨_, _, hs⟩ ?_
      refine HW.done (by kernel_rfl) ?_
      refine calmQ_normal ?_
      repeat (first | (refine A0 ?_; first | refine R1 rfl rfl ?_ | refine R2 rfl rfl ?_ | (refine A1 ?_; first | refine D3 rfl rfl ?_ | refine D4 rfl rfl rfl rfl ?_ | refine D5 rfl rfl rfl ?_ | refine E6 ?_ rfl rfl | refine E7 ?_ rfl rfl) | refine Zb ?_ rfl | (refine A3 ?_; first | refine R34 T hs 0 rfl rfl rfl rfl rfl rfl ?_ | refine R34 T hs 1 rfl rfl rfl rfl rfl rfl ?_ | refine Zk ?_ rfl) | refine Zi ?_ rfl | refine Zq ?_ rfl | refine A8 ?_) | (refine B0 ?_; first | refine B1 ?_ | refine B2 ?_ | refine B3 ?_ | refine B4 ?_ | refine B5 ?_ | refine B6 ?_ | refine B7 rfl ?_ | refine B8 rfl ?_ | refine E8 ?_ rfl | refine E9 ?_ rfl) | refine C1 ?_ | refine C2 ?_ | refine C3 ?_ | refine C4 ?_ | refine C5 ?_ | refine C6 ?_ | refine C7 ?_ | refine C8 ?_ | refine C9 ?_ | refine D1 rfl ?_ | refine D2 rfl ?_)
      refine loopQ_round (i + 1, ad9, cp9, _) ⟨rfl, rfl, rfl, rfl, trivial⟩ ⟨by dsimp only; omega, ?_, hs⟩ (by dsimp only; omega)
      dsimp only
      rw [htk, List.map_append]
      exact hAv.append (AllN.one rfl (ItemAt.mk' (x := ⟨0, l.getD i 0, 0, []⟩) (RowsAt.nil _) (hx _ (mem_getD _ _ _ hlt))))
  · obtain rfl : i = l.length := by omega
    rw [List.take_length] at hAv
    obtain ⟨h6, hle6, hs, hS6⟩ := hs.freeze
    repeat (first | (refine A0 ?_; first | refine R1 rfl rfl ?_ | refine R2 rfl rfl ?_ | (refine A1 ?_; first | refine D3 rfl rfl ?_ | refine D4 rfl rfl rfl rfl ?_ | refine D5 rfl rfl rfl ?_ | refine E6 ?_ rfl rfl | refine E7 ?_ rfl rfl) | refine Zb ?_ rfl | (refine A3 ?_; first | refine R34 T hs 0 rfl rfl rfl rfl rfl rfl ?_ | refine R34 T hs 1 rfl rfl rfl rfl rfl rfl ?_ | refine Zk ?_ rfl) | refine Zi ?_ rfl | refine Zq ?_ rfl | refine A8 ?_) | (refine B0 ?_; first | refine B1 ?_ | refine B2 ?_ | refine B3 ?_ | refine B4 ?_ | refine B5 ?_ | refine B6 ?_ | refine B7 rfl ?_ | refine B8 rfl ?_ | refine E8 ?_ rfl | refine E9 ?_ rfl) | refine C1 ?_ | refine C2 ?_ | refine C3 ?_ | refine C4 ?_ | refine C5 ?_ | refine C6 ?_ | refine C7 ?_ | refine C8 ?_ | refine C9 ?_ | refine D1 rfl ?_ | refine D2 rfl ?_)
    (refine RW.storeAll T hs 1 rfl rfl rfl rfl rfl rfl rfl rfl ?_; intro w7 hs)
    repeat (first | (refine A0 ?_; first | refine R1 rfl rfl ?_ | refine R2 rfl rfl ?_ | (refine A1 ?_; first | refine D3 rfl rfl ?_ | refine D4 rfl rfl rfl rfl ?_ | refine D5 rfl rfl rfl ?_ | refine E6 ?_ rfl rfl | refine E7 ?_ rfl rfl) | refine Zb ?_ rfl | (refine A3 ?_; first | refine R34 T hs 0 rfl rfl rfl rfl rfl rfl ?_ | refine R34 T hs 1 rfl rfl rfl rfl rfl rfl ?_ | refine Zk ?_ rfl) | refine Zi ?_ rfl | refine Zq ?_ rfl | refine A8 ?_) | (refine B0 ?_; first | refine B1 ?_ | refine B2 ?_ | refine B3 ?_ | refine B4 ?_ | refine B5 ?_ | refine B6 ?_ | refine B7 rfl ?_ | refine B8 rfl ?_ | refine E8 ?_ rfl | refine E9 ?_ rfl) | refine C1 ?_ | refine C2 ?_ | refine C3 ?_ | refine C4 ?_ | refine C5 ?_ | refine C6 ?_ | refine C7 ?_ | refine C8 ?_ | refine C9 ?_ | refine D1 rfl ?_ | refine D2 rfl ?_)
    refine retQ_ret [_] h6 ⟨resN T hs 1 rfl rfl rfl rfl rfl rfl, trivial⟩ hs.dropAll ⟨_, rfl, _, _, rfl, hI3.mono hle6, ra, rc, vs, by simp [numsP], ?_, hAv.mono (fun u a => ItemAt.mono hR _ _ u a hle6)⟩
    simpa [numsP] using hS6
/-- numbers of a shape -/
def numsS (s : List Int) (l : List Nat) : PD 1 := (⟨s, l.map fun x => ⟨0, x, 0, []⟩, 0⟩ : PlainD Unit)
theorem numsS_chk (s : List Int) (l : List Nat) (hf : ∀ x ∈ l, finF x) : chk 1 40 (numsS s l) = if (product s 1048576).2 ≠ 0 then (product s 1048576).2 else if (product s 1048576).1 ≠ l.length then 23 else 0 := by
  show chkP (chk 0 39) 40 (⟨s, l.map fun x => ⟨0, x, 0, []⟩, 0⟩ : PlainD (PD 0)) = _
  unfold chkP
  rw [if_neg (by
    rintro (e | e | e)
    · exact absurd e (by decide)
    · exact absurd (show (0 : Int) < 0 from e) (by decide)
    · exact absurd (show (2 : Int) < 0 from e) (by decide))]
  dsimp only
  rw [List.length_map]
  have e : chkIt (chk 0 39) 0 (l.map fun x => (⟨0, x, 0, []⟩ : ItemD (PD 0))) true = 0 := by
    rw [chkIt_ok]
    refine ⟨rfl, fun x hx => ?_⟩
    obtain ⟨y, hy, rfl⟩ := List.mem_map.1 hx
    exact ⟨rfl, fun e => absurd (show (0 : Int) = 2 from e) (by decide), fun _ => hf y hy⟩
  rw [e]
theorem numsS_arr (s : List Int) (l : List Nat) : arr 1 (numsS s l) = (⟨s, ⟨leastN (l.map tidyW), l.map tidyW, [], []⟩⟩ : ArrD (AD 0)) := by
  show (⟨s, arrV (arr 0) 0 (l.map fun x => (⟨0, x, 0, []⟩ : ItemD (PD 0)))⟩ : ArrD (AD 0)) = _
  unfold arrV
  rw [if_neg (by omega), if_neg (by omega), List.map_map]
  rfl
theorem into_kinds {α : Type} (N : List Nat) (k : Int) (h : (VecD.into (⟨4, N, [], []⟩ : VecD α) k).2 = true) : ∃ vk, 1 ≤ vk ∧ vk ≤ 4 ∧ (VecD.into (⟨4, N, [], []⟩ : VecD α) k).1 = ⟨vk, N, [], []⟩ := by
  unfold VecD.into at h ⊢
  by_cases c1 : (⟨4, N, [], []⟩ : VecD α).kind = k
  · rw [if_pos c1]; exact ⟨4, by omega, by omega, rfl⟩
  · rw [if_neg c1] at h ⊢
    have c2 : ¬ ((⟨4, N, [], []⟩ : VecD α).cls ≠ 0 ∨ (⟨4, N, [], []⟩ : VecD α).kind = 0) := by
      intro e
      rcases e with e | e
      · exact e (by simp [VecD.cls])
      · exact absurd (show (4 : Int) = 0 from e) (by decide)
    rw [if_neg c2] at h ⊢
    by_cases c3 : 1 ≤ k ∧ k ≤ 4 ∧ ∀ x ∈ (⟨4, N, [], []⟩ : VecD α).nums, rankF x ≤ k
    · rw [if_pos c3]; exact ⟨k, c3.1, c3.2.1, rfl⟩
    · rw [if_neg c3] at h; cases h
theorem sq_nums {α : Type} (vk : Int) (N : List Nat) (h1 : 1 ≤ vk) (h4 : vk ≤ 4) : (⟨vk, N, [], []⟩ : VecD α).sq = ⟨leastN N, N, [], []⟩ := by
  unfold VecD.sq VecD.cls
  have e5 : ¬ vk = 5 := by omega
  have e6 : ¬ vk = 6 := by omega
  simp only [if_neg e5, if_neg e6]
  rw [if_pos ⟨trivial, by omega⟩]
theorem newE_nums {α : Type} (s : List Int) (vk : Int) (l : List Nat) (h1 : 1 ≤ vk) (hf : ∀ x ∈ l, finF x) : newE s (⟨vk, l.map tidyW, [], []⟩ : VecD α) = chk 1 40 (numsS s l) := by
  rw [numsS_chk s l hf]
  unfold newE VecD.len
  dsimp only
  rw [if_neg (show ¬ vk = 0 by omega)]
  simp
theorem valueNewLaw_con (v0 v1 : Value) (s : List Int) (l : List Nat) (kind : Int) (w : World) (h : GHeap) (hl : IntsAt h v0 s) (hn : FAt h v1 l) (hx : ∀ u ∈ l, u < 18446744073709551616) : Con Try.prog 9 [v0, v1, .int .i64 kind] w h (fun _ u => u = .bool true) := by
  have hl' := hl
  have hn' := hn
  obtain ⟨ad, cp, rfl, hS⟩ := hl
  obtain ⟨ad1, cp1, rfl, hS1⟩ := hn
  refine Con.of_body Try.func9 rfl Try.ntmps9 rfl rfl ?_
  intro hs
  repeat (first | (refine A0 ?_; first | refine R1 rfl rfl ?_ | refine R2 rfl rfl ?_ | (refine A1 ?_; first | refine D3 rfl rfl ?_ | refine D4 rfl rfl rfl rfl ?_ | refine D5 rfl rfl rfl ?_ | refine E6 ?_ rfl rfl | refine E7 ?_ rfl rfl) | refine Zb ?_ rfl | (refine A3 ?_; first | refine R34 T hs 0 rfl rfl rfl rfl rfl rfl ?_ | refine R34 T hs 1 rfl rfl rfl rfl rfl rfl ?_ | refine Zk ?_ rfl) | refine Zi ?_ rfl | refine Zq ?_ rfl | refine A8 ?_) | (refine B0 ?_; first | refine B1 ?_ | refine B2 ?_ | refine B3 ?_ | refine B4 ?_ | refine B5 ?_ | refine B6 ?_ | refine B7 rfl ?_ | refine B8 rfl ?_ | refine E8 ?_ rfl | refine E9 ?_ rfl) | refine C1 ?_ | refine C2 ?_ | refine C3 ?_ | refine C4 ?_ | refine C5 ?_ | refine C6 ?_ | refine C7 ?_ | refine C8 ?_ | refine C9 ?_ | refine D1 rfl ?_ | refine D2 rfl ?_)
  by_cases c1 : 60 < s.length
  · repeat (first | (refine A0 ?_; first | refine R1 rfl rfl ?_ | refine R2 rfl rfl ?_ | (refine A1 ?_; first | refine D3 rfl rfl ?_ | refine D4 rfl rfl rfl rfl ?_ | refine D5 rfl rfl rfl ?_ | refine E6 ?_ rfl rfl | refine E7 ?_ rfl rfl) | refine Zb ?_ rfl | (refine A3 ?_; first | refine R34 T hs 0 rfl rfl rfl rfl rfl rfl ?_ | refine R34 T hs 1 rfl rfl rfl rfl rfl rfl ?_ | refine Zk ?_ rfl) | refine Zi ?_ rfl | refine Zq ?_ rfl | refine A8 ?_) | (refine B0 ?_; first | refine B1 ?_ | refine B2 ?_ | refine B3 ?_ | refine B4 ?_ | refine B5 ?_ | refine B6 ?_ | refine B7 rfl ?_ | refine B8 rfl ?_ | refine E8 ?_ rfl | refine E9 ?_ rfl) | refine C1 ?_ | refine C2 ?_ | refine C3 ?_ | refine C4 ?_ | refine C5 ?_ | refine C6 ?_ | refine C7 ?_ | refine C8 ?_ | refine C9 ?_ | refine D1 rfl ?_ | refine D2 rfl ?_)
    (refine RW.call T hs rfl rfl rfl (awake07_con _ _) ?_; intro v h3 w3 hle3 hp3 hs)
    subst hp3
    repeat (first | (refine A0 ?_; first | refine R1 rfl rfl ?_ | refine R2 rfl rfl ?_ | (refine A1 ?_; first | refine D3 rfl rfl ?_ | refine D4 rfl rfl rfl rfl ?_ | refine D5 rfl rfl rfl ?_ | refine E6 ?_ rfl rfl | refine E7 ?_ rfl rfl) | refine Zb ?_ rfl | (refine A3 ?_; first | refine R34 T hs 0 rfl rfl rfl rfl rfl rfl ?_ | refine R34 T hs 1 rfl rfl rfl rfl rfl rfl ?_ | refine Zk ?_ rfl) | refine Zi ?_ rfl | refine Zq ?_ rfl | refine A8 ?_) | (refine B0 ?_; first | refine B1 ?_ | refine B2 ?_ | refine B3 ?_ | refine B4 ?_ | refine B5 ?_ | refine B6 ?_ | refine B7 rfl ?_ | refine B8 rfl ?_ | refine E8 ?_ rfl | refine E9 ?_ rfl) | refine C1 ?_ | refine C2 ?_ | refine C3 ?_ | refine C4 ?_ | refine C5 ?_ | refine C6 ?_ | refine C7 ?_ | refine C8 ?_ | refine C9 ?_ | refine D1 rfl ?_ | refine D2 rfl ?_)
    exact retQ_ret [_] h3 ⟨rfl, trivial⟩ hs.dropAll rfl
  by_cases c2 : 500 < l.length
  · repeat (first | (refine A0 ?_; first | refine R1 rfl rfl ?_ | refine R2 rfl rfl ?_ | (refine A1 ?_; first | refine D3 rfl rfl ?_ | refine D4 rfl rfl rfl rfl ?_ | refine D5 rfl rfl rfl ?_ | refine E6 ?_ rfl rfl | refine E7 ?_ rfl rfl) | refine Zb ?_ rfl | (refine A3 ?_; first | refine R34 T hs 0 rfl rfl rfl rfl rfl rfl ?_ | refine R34 T hs 1 rfl rfl rfl rfl rfl rfl ?_ | refine Zk ?_ rfl) | refine Zi ?_ rfl | refine Zq ?_ rfl | refine A8 ?_) | (refine B0 ?_; first | refine B1 ?_ | refine B2 ?_ | refine B3 ?_ | refine B4 ?_ | refine B5 ?_ | refine B6 ?_ | refine B7 rfl ?_ | refine B8 rfl ?_ | refine E8 ?_ rfl | refine E9 ?_ rfl) | refine C1 ?_ | refine C2 ?_ | refine C3 ?_ | refine C4 ?_ | refine C5 ?_ | refine C6 ?_ | refine C7 ?_ | refine C8 ?_ | refine C9 ?_ | refine D1 rfl ?_ | refine D2 rfl ?_)
    (refine RW.call T hs rfl rfl rfl (awake07_con _ _) ?_; intro v h3 w3 hle3 hp3 hs)
    subst hp3
    repeat (first | (refine A0 ?_; first | refine R1 rfl rfl ?_ | refine R2 rfl rfl ?_ | (refine A1 ?_; first | refine D3 rfl rfl ?_ | refine D4 rfl rfl rfl rfl ?_ | refine D5 rfl rfl rfl ?_ | refine E6 ?_ rfl rfl | refine E7 ?_ rfl rfl) | refine Zb ?_ rfl | (refine A3 ?_; first | refine R34 T hs 0 rfl rfl rfl rfl rfl rfl ?_ | refine R34 T hs 1 rfl rfl rfl rfl rfl rfl ?_ | refine Zk ?_ rfl) | refine Zi ?_ rfl | refine Zq ?_ rfl | refine A8 ?_) | (refine B0 ?_; first | refine B1 ?_ | refine B2 ?_ | refine B3 ?_ | refine B4 ?_ | refine B5 ?_ | refine B6 ?_ | refine B7 rfl ?_ | refine B8 rfl ?_ | refine E8 ?_ rfl | refine E9 ?_ rfl) | refine C1 ?_ | refine C2 ?_ | refine C3 ?_ | refine C4 ?_ | refine C5 ?_ | refine C6 ?_ | refine C7 ?_ | refine C8 ?_ | refine C9 ?_ | refine D1 rfl ?_ | refine D2 rfl ?_)
    exact retQ_ret [_] h3 ⟨rfl, trivial⟩ hs.dropAll rfl
  repeat (first | (refine A0 ?_; first | refine R1 rfl rfl ?_ | refine R2 rfl rfl ?_ | (refine A1 ?_; first | refine D3 rfl rfl ?_ | refine D4 rfl rfl rfl rfl ?_ | refine D5 rfl rfl rfl ?_ | refine E6 ?_ rfl rfl | refine E7 ?_ rfl rfl) | refine Zb ?_ rfl | (refine A3 ?_; first | refine R34 T hs 0 rfl rfl rfl rfl rfl rfl ?_ | refine R34 T hs 1 rfl rfl rfl rfl rfl rfl ?_ | refine Zk ?_ rfl) | refine Zi ?_ rfl | refine Zq ?_ rfl | refine A8 ?_) | (refine B0 ?_; first | refine B1 ?_ | refine B2 ?_ | refine B3 ?_ | refine B4 ?_ | refine B5 ?_ | refine B6 ?_ | refine B7 rfl ?_ | refine B8 rfl ?_ | refine E8 ?_ rfl | refine E9 ?_ rfl) | refine C1 ?_ | refine C2 ?_ | refine C3 ?_ | refine C4 ?_ | refine C5 ?_ | refine C6 ?_ | refine C7 ?_ | refine C8 ?_ | refine C9 ?_ | refine D1 rfl ?_ | refine D2 rfl ?_)
  (refine RW.call T hs rfl rfl rfl (vecFloats_con (R := ArrAt 0) _ l _ _ hn' hx (by omega)) ?_; intro v h2 w2 hle2 hp2 hs)
  obtain ⟨cs2, ok, rfl, hok, hv2⟩ := hp2
  have hl' := hl'.mono hle2
  have hn' := hn'.mono hle2
  have hv2' := hv2
  obtain ⟨wv, nv, sm, il, fl, ch, bx, ⟨hcs2, hoc2⟩, _⟩ := hv2
  generalize hvk : (if ok = true then (⟨4, l.map tidyW, [], []⟩ : VecD (AD 0)) else VecD.none).kind = vk at hcs2
  subst hcs2
  repeat (first | (refine A0 ?_; first | refine R1 rfl rfl ?_ | refine R2 rfl rfl ?_ | (refine A1 ?_; first | refine D3 rfl rfl ?_ | refine D4 rfl rfl rfl rfl ?_ | refine D5 rfl rfl rfl ?_ | refine E6 ?_ rfl rfl | refine E7 ?_ rfl rfl) | refine Zb ?_ rfl | (refine A3 ?_; first | refine R34 T hs 0 rfl rfl rfl rfl rfl rfl ?_ | refine R34 T hs 1 rfl rfl rfl rfl rfl rfl ?_ | refine Zk ?_ rfl) | refine Zi ?_ rfl | refine Zq ?_ rfl | refine A8 ?_) | (refine B0 ?_; first | refine B1 ?_ | refine B2 ?_ | refine B3 ?_ | refine B4 ?_ | refine B5 ?_ | refine B6 ?_ | refine B7 rfl ?_ | refine B8 rfl ?_ | refine E8 ?_ rfl | refine E9 ?_ rfl) | refine C1 ?_ | refine C2 ?_ | refine C3 ?_ | refine C4 ?_ | refine C5 ?_ | refine C6 ?_ | refine C7 ?_ | refine C8 ?_ | refine C9 ?_ | refine D1 rfl ?_ | refine D2 rfl ?_)
  (refine RW.allocN T hs rfl rfl rfl rfl ?_; intro b3 w3 hs)
  (refine RW.storeAll T hs 0 rfl rfl rfl rfl rfl rfl hoc2 rfl ?_; intro w4 hs)
  repeat (first | (refine A0 ?_; first | refine R1 rfl rfl ?_ | refine R2 rfl rfl ?_ | (refine A1 ?_; first | refine D3 rfl rfl ?_ | refine D4 rfl rfl rfl rfl ?_ | refine D5 rfl rfl rfl ?_ | refine E6 ?_ rfl rfl | refine E7 ?_ rfl rfl) | refine Zb ?_ rfl | (refine A3 ?_; first | refine R34 T hs 0 rfl rfl rfl rfl rfl rfl ?_ | refine R34 T hs 1 rfl rfl rfl rfl rfl rfl ?_ | refine Zk ?_ rfl) | refine Zi ?_ rfl | refine Zq ?_ rfl | refine A8 ?_) | (refine B0 ?_; first | refine B1 ?_ | refine B2 ?_ | refine B3 ?_ | refine B4 ?_ | refine B5 ?_ | refine B6 ?_ | refine B7 rfl ?_ | refine B8 rfl ?_ | refine E8 ?_ rfl | refine E9 ?_ rfl) | refine C1 ?_ | refine C2 ?_ | refine C3 ?_ | refine C4 ?_ | refine C5 ?_ | refine C6 ?_ | refine C7 ?_ | refine C8 ?_ | refine C9 ?_ | refine D1 rfl ?_ | refine D2 rfl ?_)
  cases ok with
  | false =>
    repeat (first | (refine A0 ?_; first | refine R1 rfl rfl ?_ | refine R2 rfl rfl ?_ | (refine A1 ?_; first | refine D3 rfl rfl ?_ | refine D4 rfl rfl rfl rfl ?_ | refine D5 rfl rfl rfl ?_ | refine E6 ?_ rfl rfl | refine E7 ?_ rfl rfl) | refine Zb ?_ rfl | (refine A3 ?_; first | refine R34 T hs 0 rfl rfl rfl rfl rfl rfl ?_ | refine R34 T hs 1 rfl rfl rfl rfl rfl rfl ?_ | refine Zk ?_ rfl) | refine Zi ?_ rfl | refine Zq ?_ rfl | refine A8 ?_) | (refine B0 ?_; first | refine B1 ?_ | refine B2 ?_ | refine B3 ?_ | refine B4 ?_ | refine B5 ?_ | refine B6 ?_ | refine B7 rfl ?_ | refine B8 rfl ?_ | refine E8 ?_ rfl | refine E9 ?_ rfl) | refine C1 ?_ | refine C2 ?_ | refine C3 ?_ | refine C4 ?_ | refine C5 ?_ | refine C6 ?_ | refine C7 ?_ | refine C8 ?_ | refine C9 ?_ | refine D1 rfl ?_ | refine D2 rfl ?_)
    (refine RW.call T hs rfl rfl rfl (awake07_con _ _) ?_; intro v h5 w5 hle5 hp5 hs)
    subst hp5
    repeat (first | (refine A0 ?_; first | refine R1 rfl rfl ?_ | refine R2 rfl rfl ?_ | (refine A1 ?_; first | refine D3 rfl rfl ?_ | refine D4 rfl rfl rfl rfl ?_ | refine D5 rfl rfl rfl ?_ | refine E6 ?_ rfl rfl | refine E7 ?_ rfl rfl) | refine Zb ?_ rfl | (refine A3 ?_; first | refine R34 T hs 0 rfl rfl rfl rfl rfl rfl ?_ | refine R34 T hs 1 rfl rfl rfl rfl rfl rfl ?_ | refine Zk ?_ rfl) | refine Zi ?_ rfl | refine Zq ?_ rfl | refine A8 ?_) | (refine B0 ?_; first | refine B1 ?_ | refine B2 ?_ | refine B3 ?_ | refine B4 ?_ | refine B5 ?_ | refine B6 ?_ | refine B7 rfl ?_ | refine B8 rfl ?_ | refine E8 ?_ rfl | refine E9 ?_ rfl) | refine C1 ?_ | refine C2 ?_ | refine C3 ?_ | refine C4 ?_ | refine C5 ?_ | refine C6 ?_ | refine C7 ?_ | refine C8 ?_ | refine C9 ?_ | refine D1 rfl ?_ | refine D2 rfl ?_)
    exact retQ_ret [_] h5 ⟨rfl, trivial⟩ hs.dropAll rfl
  | true =>
    have hf : ∀ x ∈ l, finF x := of_decide_eq_true hok.symm
    rw [if_pos rfl] at hv2'
    repeat (first | (refine A0 ?_; first | refine R1 rfl rfl ?_ | refine R2 rfl rfl ?_ | (refine A1 ?_; first | refine D3 rfl rfl ?_ | refine D4 rfl rfl rfl rfl ?_ | refine D5 rfl rfl rfl ?_ | refine E6 ?_ rfl rfl | refine E7 ?_ rfl rfl) | refine Zb ?_ rfl | (refine A3 ?_; first | refine R34 T hs 0 rfl rfl rfl rfl rfl rfl ?_ | refine R34 T hs 1 rfl rfl rfl rfl rfl rfl ?_ | refine Zk ?_ rfl) | refine Zi ?_ rfl | refine Zq ?_ rfl | refine A8 ?_) | (refine B0 ?_; first | refine B1 ?_ | refine B2 ?_ | refine B3 ?_ | refine B4 ?_ | refine B5 ?_ | refine B6 ?_ | refine B7 rfl ?_ | refine B8 rfl ?_ | refine E8 ?_ rfl | refine E9 ?_ rfl) | refine C1 ?_ | refine C2 ?_ | refine C3 ?_ | refine C4 ?_ | refine C5 ?_ | refine C6 ?_ | refine C7 ?_ | refine C8 ?_ | refine C9 ?_ | refine D1 rfl ?_ | refine D2 rfl ?_)
    (refine RW.call T hs rfl rfl rfl (sqInto_con (ArrAt.mono 0) _ _ kind _ _ hv2' (by simp [VecD.len]; omega)) ?_; intro v h5 w5 hle5 hp5 hs)
    obtain ⟨cs5, rfl, hv5⟩ := hp5
    have hl' := hl'.mono hle5
    have hn' := hn'.mono hle5
    have hv2' := hv2'.mono (ArrAt.mono 0) hle5
    have hik := into_kinds (α := AD 0) (l.map tidyW) kind
    generalize VecD.into (⟨4, l.map tidyW, [], []⟩ : VecD (AD 0)) kind = iv at hv5 hik ⊢
    obtain ⟨iv, is⟩ := iv
    dsimp only at hv5 hik ⊢
    have hv5' := hv5
    obtain ⟨wv5, nv5, sm5, il5, fl5, ch5, bx5, ⟨rfl, hoc5⟩, _⟩ := hv5
    repeat (first | (refine A0 ?_; first | refine R1 rfl rfl ?_ | refine R2 rfl rfl ?_ | (refine A1 ?_; first | refine D3 rfl rfl ?_ | refine D4 rfl rfl rfl rfl ?_ | refine D5 rfl rfl rfl ?_ | refine E6 ?_ rfl rfl | refine E7 ?_ rfl rfl) | refine Zb ?_ rfl | (refine A3 ?_; first | refine R34 T hs 0 rfl rfl rfl rfl rfl rfl ?_ | refine R34 T hs 1 rfl rfl rfl rfl rfl rfl ?_ | refine Zk ?_ rfl) | refine Zi ?_ rfl | refine Zq ?_ rfl | refine A8 ?_) | (refine B0 ?_; first | refine B1 ?_ | refine B2 ?_ | refine B3 ?_ | refine B4 ?_ | refine B5 ?_ | refine B6 ?_ | refine B7 rfl ?_ | refine B8 rfl ?_ | refine E8 ?_ rfl | refine E9 ?_ rfl) | refine C1 ?_ | refine C2 ?_ | refine C3 ?_ | refine C4 ?_ | refine C5 ?_ | refine C6 ?_ | refine C7 ?_ | refine C8 ?_ | refine C9 ?_ | refine D1 rfl ?_ | refine D2 rfl ?_)
    (refine RW.allocN T hs rfl rfl rfl rfl ?_; intro b6 w6 hs)
    (refine RW.storeAll T hs 0 rfl rfl rfl rfl rfl rfl hoc5 rfl ?_; intro w7 hs)
    repeat (first | (refine A0 ?_; first | refine R1 rfl rfl ?_ | refine R2 rfl rfl ?_ | (refine A1 ?_; first | refine D3 rfl rfl ?_ | refine D4 rfl rfl rfl rfl ?_ | refine D5 rfl rfl rfl ?_ | refine E6 ?_ rfl rfl | refine E7 ?_ rfl rfl) | refine Zb ?_ rfl | (refine A3 ?_; first | refine R34 T hs 0 rfl rfl rfl rfl rfl rfl ?_ | refine R34 T hs 1 rfl rfl rfl rfl rfl rfl ?_ | refine Zk ?_ rfl) | refine Zi ?_ rfl | refine Zq ?_ rfl | refine A8 ?_) | (refine B0 ?_; first | refine B1 ?_ | refine B2 ?_ | refine B3 ?_ | refine B4 ?_ | refine B5 ?_ | refine B6 ?_ | refine B7 rfl ?_ | refine B8 rfl ?_ | refine E8 ?_ rfl | refine E9 ?_ rfl) | refine C1 ?_ | refine C2 ?_ | refine C3 ?_ | refine C4 ?_ | refine C5 ?_ | refine C6 ?_ | refine C7 ?_ | refine C8 ?_ | refine C9 ?_ | refine D1 rfl ?_ | refine D2 rfl ?_)
    refine CW.meet (fun u : List Value × Int => [(0, .slice ad s.length cp), (1, .slice ad1 l.length cp1), (7, .pointer (some ⟨b3, 0, none⟩))]) (fun u w' => (1 ≤ u.2 ∧ u.2 ≤ 4) ∧ VecAt (ArrAt 0) h5 u.1 ⟨u.2, l.map tidyW, [], []⟩ ∧ Sees w h h5 [⟨some ⟨b3, 0, none⟩, 1, 1, 61, 8, u.1⟩] w') ?_ ?_
    · cases is with
      | true =>
        obtain ⟨ik, i1, i4, rfl⟩ := hik rfl
        repeat (first | (refine A0 ?_; first | refine R1 rfl rfl ?_ | refine R2 rfl rfl ?_ | (refine A1 ?_; first | refine D3 rfl rfl ?_ | refine D4 rfl rfl rfl rfl ?_ | refine D5 rfl rfl rfl ?_ | refine E6 ?_ rfl rfl | refine E7 ?_ rfl rfl) | refine Zb ?_ rfl | (refine A3 ?_; first | refine R34 T hs 0 rfl rfl rfl rfl rfl rfl ?_ | refine R34 T hs 1 rfl rfl rfl rfl rfl rfl ?_ | refine Zk ?_ rfl) | refine Zi ?_ rfl | refine Zq ?_ rfl | refine A8 ?_) | (refine B0 ?_; first | refine B1 ?_ | refine B2 ?_ | refine B3 ?_ | refine B4 ?_ | refine B5 ?_ | refine B6 ?_ | refine B7 rfl ?_ | refine B8 rfl ?_ | refine E8 ?_ rfl | refine E9 ?_ rfl) | refine C1 ?_ | refine C2 ?_ | refine C3 ?_ | refine C4 ?_ | refine C5 ?_ | refine C6 ?_ | refine C7 ?_ | refine C8 ?_ | refine C9 ?_ | refine D1 rfl ?_ | refine D2 rfl ?_)
        (refine RW.storeAll T hs 1 rfl rfl rfl rfl rfl rfl hoc5 rfl ?_; intro w8 hs)
        repeat (first | (refine A0 ?_; first | refine R1 rfl rfl ?_ | refine R2 rfl rfl ?_ | (refine A1 ?_; first | refine D3 rfl rfl ?_ | refine D4 rfl rfl rfl rfl ?_ | refine D5 rfl rfl rfl ?_ | refine E6 ?_ rfl rfl | refine E7 ?_ rfl rfl) | refine Zb ?_ rfl | (refine A3 ?_; first | refine R34 T hs 0 rfl rfl rfl rfl rfl rfl ?_ | refine R34 T hs 1 rfl rfl rfl rfl rfl rfl ?_ | refine Zk ?_ rfl) | refine Zi ?_ rfl | refine Zq ?_ rfl | refine A8 ?_) | (refine B0 ?_; first | refine B1 ?_ | refine B2 ?_ | refine B3 ?_ | refine B4 ?_ | refine B5 ?_ | refine B6 ?_ | refine B7 rfl ?_ | refine B8 rfl ?_ | refine E8 ?_ rfl | refine E9 ?_ rfl) | refine C1 ?_ | refine C2 ?_ | refine C3 ?_ | refine C4 ?_ | refine C5 ?_ | refine C6 ?_ | refine C7 ?_ | refine C8 ?_ | refine C9 ?_ | refine D1 rfl ?_ | refine D2 rfl ?_)
        exact joinQ_meet (_, ik) ⟨rfl, rfl, rfl, trivial⟩ ⟨⟨i1, i4⟩, hv5', hs.drop⟩
      | false =>
        repeat (first | (refine A0 ?_; first | refine R1 rfl rfl ?_ | refine R2 rfl rfl ?_ | (refine A1 ?_; first | refine D3 rfl rfl ?_ | refine D4 rfl rfl rfl rfl ?_ | refine D5 rfl rfl rfl ?_ | refine E6 ?_ rfl rfl | refine E7 ?_ rfl rfl) | refine Zb ?_ rfl | (refine A3 ?_; first | refine R34 T hs 0 rfl rfl rfl rfl rfl rfl ?_ | refine R34 T hs 1 rfl rfl rfl rfl rfl rfl ?_ | refine Zk ?_ rfl) | refine Zi ?_ rfl | refine Zq ?_ rfl | refine A8 ?_) | (refine B0 ?_; first | refine B1 ?_ | refine B2 ?_ | refine B3 ?_ | refine B4 ?_ | refine B5 ?_ | refine B6 ?_ | refine B7 rfl ?_ | refine B8 rfl ?_ | refine E8 ?_ rfl | refine E9 ?_ rfl) | refine C1 ?_ | refine C2 ?_ | refine C3 ?_ | refine C4 ?_ | refine C5 ?_ | refine C6 ?_ | refine C7 ?_ | refine C8 ?_ | refine C9 ?_ | refine D1 rfl ?_ | refine D2 rfl ?_)
        exact joinQ_meet (_, 4) ⟨rfl, rfl, rfl, trivial⟩ ⟨⟨by omega, by omega⟩, hv2', hs.drop⟩
    rintro ⟨cs8, vk8⟩ w8 ⟨⟨hk1, hk4⟩, hv8, hs⟩
    dsimp only at hk1 hk4 hv8 hs ⊢
    have hsq := sq_nums (α := AD 0) vk8 (l.map tidyW) hk1 hk4
    have hne := newE_nums (α := AD 0) s vk8 l hk1 hf
    have harr := numsS_arr s l
    have hv8' := hv8
    obtain ⟨wv8, nv8, sm8, il8, fl8, ch8, bx8, ⟨rfl, hoc8⟩, _⟩ := hv8
    repeat (first | (refine A0 ?_; first | refine R1 rfl rfl ?_ | refine R2 rfl rfl ?_ | (refine A1 ?_; first | refine D3 rfl rfl ?_ | refine D4 rfl rfl rfl rfl ?_ | refine D5 rfl rfl rfl ?_ | refine E6 ?_ rfl rfl | refine E7 ?_ rfl rfl) | refine Zb ?_ rfl | (refine A3 ?_; first | refine R34 T hs 0 rfl rfl rfl rfl rfl rfl ?_ | refine R34 T hs 1 rfl rfl rfl rfl rfl rfl ?_ | refine Zk ?_ rfl) | refine Zi ?_ rfl | refine Zq ?_ rfl | refine A8 ?_) | (refine B0 ?_; first | refine B1 ?_ | refine B2 ?_ | refine B3 ?_ | refine B4 ?_ | refine B5 ?_ | refine B6 ?_ | refine B7 rfl ?_ | refine B8 rfl ?_ | refine E8 ?_ rfl | refine E9 ?_ rfl) | refine C1 ?_ | refine C2 ?_ | refine C3 ?_ | refine C4 ?_ | refine C5 ?_ | refine C6 ?_ | refine C7 ?_ | refine C8 ?_ | refine C9 ?_ | refine D1 rfl ?_ | refine D2 rfl ?_)
    (refine RW.call T hs rfl rfl rfl (refNums_con (PlainAt.mono 0) _ l _ _ hn' hx (by omega)) ?_; intro v h9 w9 hle9 hp9 hs)
    obtain ⟨cs9, rfl, s9, it9, rfl, ⟨ad9, cp9, rfl, _⟩, hit9⟩ := hp9
    have hit9' := hit9
    obtain ⟨ad10, cp10, xs10, rfl, _, _⟩ := hit9
    have hl' := hl'.mono hle9
    have hv8' := hv8'.mono (ArrAt.mono 0) hle9
    repeat (first | (refine A0 ?_; first | refine R1 rfl rfl ?_ | refine R2 rfl rfl ?_ | (refine A1 ?_; first | refine D3 rfl rfl ?_ | refine D4 rfl rfl rfl rfl ?_ | refine D5 rfl rfl rfl ?_ | refine E6 ?_ rfl rfl | refine E7 ?_ rfl rfl) | refine Zb ?_ rfl | (refine A3 ?_; first | refine R34 T hs 0 rfl rfl rfl rfl rfl rfl ?_ | refine R34 T hs 1 rfl rfl rfl rfl rfl rfl ?_ | refine Zk ?_ rfl) | refine Zi ?_ rfl | refine Zq ?_ rfl | refine A8 ?_) | (refine B0 ?_; first | refine B1 ?_ | refine B2 ?_ | refine B3 ?_ | refine B4 ?_ | refine B5 ?_ | refine B6 ?_ | refine B7 rfl ?_ | refine B8 rfl ?_ | refine E8 ?_ rfl | refine E9 ?_ rfl) | refine C1 ?_ | refine C2 ?_ | refine C3 ?_ | refine C4 ?_ | refine C5 ?_ | refine C6 ?_ | refine C7 ?_ | refine C8 ?_ | refine C9 ?_ | refine D1 rfl ?_ | refine D2 rfl ?_)
    (refine RW.allocN T hs rfl rfl rfl rfl ?_; intro b10 w10 hs)
    (refine RW.storeAll T hs 0 rfl rfl rfl rfl rfl rfl rfl rfl ?_; intro w11 hs)
    repeat (first | (refine A0 ?_; first | refine R1 rfl rfl ?_ | refine R2 rfl rfl ?_ | (refine A1 ?_; first | refine D3 rfl rfl ?_ | refine D4 rfl rfl rfl rfl ?_ | refine D5 rfl rfl rfl ?_ | refine E6 ?_ rfl rfl | refine E7 ?_ rfl rfl) | refine Zb ?_ rfl | (refine A3 ?_; first | refine R34 T hs 0 rfl rfl rfl rfl rfl rfl ?_ | refine R34 T hs 1 rfl rfl rfl rfl rfl rfl ?_ | refine Zk ?_ rfl) | refine Zi ?_ rfl | refine Zq ?_ rfl | refine A8 ?_) | (refine B0 ?_; first | refine B1 ?_ | refine B2 ?_ | refine B3 ?_ | refine B4 ?_ | refine B5 ?_ | refine B6 ?_ | refine B7 rfl ?_ | refine B8 rfl ?_ | refine E8 ?_ rfl | refine E9 ?_ rfl) | refine C1 ?_ | refine C2 ?_ | refine C3 ?_ | refine C4 ?_ | refine C5 ?_ | refine C6 ?_ | refine C7 ?_ | refine C8 ?_ | refine C9 ?_ | refine D1 rfl ?_ | refine D2 rfl ?_)
    (refine RW.store1 T hs 0 rfl rfl rfl rfl rfl rfl rfl rfl ?_; intro w12 hs)
    have hp' : PlainAt 1 h9 [.slice ad s.length cp, .slice ad10 (numsP (α := PD 0) l).items.length cp10, .int .i64 0] (numsS s l) := ⟨_, _, rfl, hl', hit9'⟩
    have hs : Sees w h h9 [⟨some ⟨b10, 0, none⟩, 1, 1, 50, 3, [.slice ad s.length cp, .slice ad10 (numsP (α := PD 0) l).items.length cp10, .int .i64 0]⟩, ⟨some ⟨b3, 0, none⟩, 1, 1, 61, 8, vecCells vk8 wv8 nv8 sm8 il8 fl8 ch8 bx8⟩] w12 := hs
    repeat (first | (refine A0 ?_; first | refine R1 rfl rfl ?_ | refine R2 rfl rfl ?_ | (refine A1 ?_; first | refine D3 rfl rfl ?_ | refine D4 rfl rfl rfl rfl ?_ | refine D5 rfl rfl rfl ?_ | refine E6 ?_ rfl rfl | refine E7 ?_ rfl rfl) | refine Zb ?_ rfl | (refine A3 ?_; first | refine R34 T hs 0 rfl rfl rfl rfl rfl rfl ?_ | refine R34 T hs 1 rfl rfl rfl rfl rfl rfl ?_ | refine Zk ?_ rfl) | refine Zi ?_ rfl | refine Zq ?_ rfl | refine A8 ?_) | (refine B0 ?_; first | refine B1 ?_ | refine B2 ?_ | refine B3 ?_ | refine B4 ?_ | refine B5 ?_ | refine B6 ?_ | refine B7 rfl ?_ | refine B8 rfl ?_ | refine E8 ?_ rfl | refine E9 ?_ rfl) | refine C1 ?_ | refine C2 ?_ | refine C3 ?_ | refine C4 ?_ | refine C5 ?_ | refine C6 ?_ | refine C7 ?_ | refine C8 ?_ | refine C9 ?_ | refine D1 rfl ?_ | refine D2 rfl ?_)
    (refine RW.call T hs rfl rfl rfl (valueNew_con (ArrAt.mono 0) _ s _ _ _ _ hl' hv8') ?_; intro v h13 w13 hle13 hp13 hs)
    rw [hne, hsq] at hp13
    obtain ⟨cs13, rfl, hl13, ho13, hz13, hn13⟩ := hp13
    have hl' := hl'.mono hle13
    have hp' := PlainAt.mono 1 _ _ _ _ hle13 hp'
    repeat (first | (refine A0 ?_; first | refine R1 rfl rfl ?_ | refine R2 rfl rfl ?_ | (refine A1 ?_; first | refine D3 rfl rfl ?_ | refine D4 rfl rfl rfl rfl ?_ | refine D5 rfl rfl rfl ?_ | refine E6 ?_ rfl rfl | refine E7 ?_ rfl rfl) | refine Zb ?_ rfl | (refine A3 ?_; first | refine R34 T hs 0 rfl rfl rfl rfl rfl rfl ?_ | refine R34 T hs 1 rfl rfl rfl rfl rfl rfl ?_ | refine Zk ?_ rfl) | refine Zi ?_ rfl | refine Zq ?_ rfl | refine A8 ?_) | (refine B0 ?_; first | refine B1 ?_ | refine B2 ?_ | refine B3 ?_ | refine B4 ?_ | refine B5 ?_ | refine B6 ?_ | refine B7 rfl ?_ | refine B8 rfl ?_ | refine E8 ?_ rfl | refine E9 ?_ rfl) | refine C1 ?_ | refine C2 ?_ | refine C3 ?_ | refine C4 ?_ | refine C5 ?_ | refine C6 ?_ | refine C7 ?_ | refine C8 ?_ | refine C9 ?_ | refine D1 rfl ?_ | refine D2 rfl ?_)
    (refine RW.allocN T hs rfl rfl rfl rfl ?_; intro b14 w14 hs)
    refine RW.storeAll T hs 0 rfl rfl rfl rfl rfl hl13 (List.all_eq_true.2 ho13) hl13 ?_
    intro w15 hs
    repeat (first | (refine A0 ?_; first | refine R1 rfl rfl ?_ | refine R2 rfl rfl ?_ | (refine A1 ?_; first | refine D3 rfl rfl ?_ | refine D4 rfl rfl rfl rfl ?_ | refine D5 rfl rfl rfl ?_ | refine E6 ?_ rfl rfl | refine E7 ?_ rfl rfl) | refine Zb ?_ rfl | (refine A3 ?_; first | refine R34 T hs 0 rfl rfl rfl rfl rfl rfl ?_ | refine R34 T hs 1 rfl rfl rfl rfl rfl rfl ?_ | refine Zk ?_ rfl) | refine Zi ?_ rfl | refine Zq ?_ rfl | refine A8 ?_) | (refine B0 ?_; first | refine B1 ?_ | refine B2 ?_ | refine B3 ?_ | refine B4 ?_ | refine B5 ?_ | refine B6 ?_ | refine B7 rfl ?_ | refine B8 rfl ?_ | refine E8 ?_ rfl | refine E9 ?_ rfl) | refine C1 ?_ | refine C2 ?_ | refine C3 ?_ | refine C4 ?_ | refine C5 ?_ | refine C6 ?_ | refine C7 ?_ | refine C8 ?_ | refine C9 ?_ | refine D1 rfl ?_ | refine D2 rfl ?_)
    refine RW.val (Y.build T rfl rfl rfl rfl rfl rfl rfl) rfl ?_
    (refine RW.call T hs rfl rfl rfl (valueNew_con (ArrAt.mono 0) _ s _ _ _ _ hl' (vecNone _)) ?_; intro v h16 w16 hle16 hp16 hs)
    obtain ⟨cs16, rfl, hl16, ho16, _, _⟩ := hp16
    have hp' := PlainAt.mono 1 _ _ _ _ hle16 hp'
    repeat (first | (refine A0 ?_; first | refine R1 rfl rfl ?_ | refine R2 rfl rfl ?_ | (refine A1 ?_; first | refine D3 rfl rfl ?_ | refine D4 rfl rfl rfl rfl ?_ | refine D5 rfl rfl rfl ?_ | refine E6 ?_ rfl rfl | refine E7 ?_ rfl rfl) | refine Zb ?_ rfl | (refine A3 ?_; first | refine R34 T hs 0 rfl rfl rfl rfl rfl rfl ?_ | refine R34 T hs 1 rfl rfl rfl rfl rfl rfl ?_ | refine Zk ?_ rfl) | refine Zi ?_ rfl | refine Zq ?_ rfl | refine A8 ?_) | (refine B0 ?_; first | refine B1 ?_ | refine B2 ?_ | refine B3 ?_ | refine B4 ?_ | refine B5 ?_ | refine B6 ?_ | refine B7 rfl ?_ | refine B8 rfl ?_ | refine E8 ?_ rfl | refine E9 ?_ rfl) | refine C1 ?_ | refine C2 ?_ | refine C3 ?_ | refine C4 ?_ | refine C5 ?_ | refine C6 ?_ | refine C7 ?_ | refine C8 ?_ | refine C9 ?_ | refine D1 rfl ?_ | refine D2 rfl ?_)
    (refine RW.allocN T hs rfl rfl rfl rfl ?_; intro b17 w17 hs)
    refine RW.storeAll T hs 0 rfl rfl rfl rfl rfl hl16 (List.all_eq_true.2 ho16) hl16 ?_
    intro w18 hs
    replace hs := hs.drop
    repeat (first | (refine A0 ?_; first | refine R1 rfl rfl ?_ | refine R2 rfl rfl ?_ | (refine A1 ?_; first | refine D3 rfl rfl ?_ | refine D4 rfl rfl rfl rfl ?_ | refine D5 rfl rfl rfl ?_ | refine E6 ?_ rfl rfl | refine E7 ?_ rfl rfl) | refine Zb ?_ rfl | (refine A3 ?_; first | refine R34 T hs 0 rfl rfl rfl rfl rfl rfl ?_ | refine R34 T hs 1 rfl rfl rfl rfl rfl rfl ?_ | refine Zk ?_ rfl) | refine Zi ?_ rfl | refine Zq ?_ rfl | refine A8 ?_) | (refine B0 ?_; first | refine B1 ?_ | refine B2 ?_ | refine B3 ?_ | refine B4 ?_ | refine B5 ?_ | refine B6 ?_ | refine B7 rfl ?_ | refine B8 rfl ?_ | refine E8 ?_ rfl | refine E9 ?_ rfl) | refine C1 ?_ | refine C2 ?_ | refine C3 ?_ | refine C4 ?_ | refine C5 ?_ | refine C6 ?_ | refine C7 ?_ | refine C8 ?_ | refine C9 ?_ | refine D1 rfl ?_ | refine D2 rfl ?_)
    (refine RW.call T hs rfl rfl rfl (refCheck_con 1 _ (numsS s l) _ _ hp') ?_; intro v h19 w19 hle19 hp19 hs)
    subst hp19
    have hp' := PlainAt.mono 1 _ _ _ _ hle19 hp'
    by_cases hc : chk 1 40 (numsS s l) = 0
    · have ha13 := hz13 hc
      rw [← harr] at ha13
      have ha' := ArrAt.mono 1 _ _ _ _ (hle16.trans hle19) (show ArrAt 1 h13 cs13 (arr 1 (numsS s l)) from ha13)
      have hgood := good_arr 1 40 (numsS s l) hc
      have hsml := good_sml 1 40 _ hgood
      have htdy := tidy_tdy 1 40 (numsS s l) _ _ hp' hc
      have hnone : newE s (VecD.none : VecD (AD 0)) = 1 := by
        rw [numsS_chk s l hf] at hc
        unfold newE
        by_cases e1 : (product s 1048576).2 ≠ 0
        · rw [if_pos e1] at hc; exact absurd hc e1
        · rw [if_neg e1, if_pos (show (VecD.none : VecD (AD 0)).kind = 0 from rfl)]
      have ha13 := ha'
      obtain ⟨s5, vc5, rfl, hl5, hv5⟩ := ha13
      obtain ⟨ad5, cp5, rfl, _⟩ := hl5
      obtain ⟨wv, nv, sm, il, fl, ch, bx, ⟨rfl, _⟩, _⟩ := hv5
      repeat (first | (refine A0 ?_; first | refine R1 rfl rfl ?_ | refine R2 rfl rfl ?_ | (refine A1 ?_; first | refine D3 rfl rfl ?_ | refine D4 rfl rfl rfl rfl ?_ | refine D5 rfl rfl rfl ?_ | refine E6 ?_ rfl rfl | refine E7 ?_ rfl rfl) | refine Zb ?_ rfl | (refine A3 ?_; first | refine R34 T hs 0 rfl rfl rfl rfl rfl rfl ?_ | refine R34 T hs 1 rfl rfl rfl rfl rfl rfl ?_ | refine Zk ?_ rfl) | refine Zi ?_ rfl | refine Zq ?_ rfl | refine A8 ?_) | (refine B0 ?_; first | refine B1 ?_ | refine B2 ?_ | refine B3 ?_ | refine B4 ?_ | refine B5 ?_ | refine B6 ?_ | refine B7 rfl ?_ | refine B8 rfl ?_ | refine E8 ?_ rfl | refine E9 ?_ rfl) | refine C1 ?_ | refine C2 ?_ | refine C3 ?_ | refine C4 ?_ | refine C5 ?_ | refine C6 ?_ | refine C7 ?_ | refine C8 ?_ | refine C9 ?_ | refine D1 rfl ?_ | refine D2 rfl ?_)
      refine CW.regionO T hs ?_
      intro w20 hs
      refine HW.takeS (fuel := 20) 0 rfl (fun _ _ hs => Y.move rfl) hs rfl (by kernel_rfl) (by kernel_rfl) (by kernel_rfl) ?_
      refine HW.takeS (fuel := 19) 1 rfl (fun _ _ hs => Y.eqT rfl rfl hc) hs rfl (by kernel_rfl) (by kernel_rfl) (by kernel_rfl) ?_
      refine HW.takeS (fuel := 18) 2 rfl (fun _ _ hs => Y.move rfl) hs rfl (by kernel_rfl) (by kernel_rfl) (by kernel_rfl) ?_
      refine HW.takeSY (fuel := 17) 3 rfl rfl rfl (fun _ _ hs => Y.move rfl) hs rfl (by kernel_rfl) (by kernel_rfl) (by kernel_rfl) ?_
      refine HW.takeSY (fuel := 16) 4 rfl rfl rfl (fun _ _ hs => Y.eqT rfl rfl hnone) hs rfl (by kernel_rfl) (by kernel_rfl) (by kernel_rfl) ?_
      refine HW.takeS (fuel := 15) 5 rfl (fun _ _ hs => Y.pickT rfl rfl) hs rfl (by kernel_rfl) (by kernel_rfl) (by kernel_rfl) ?_
      refine HW.takeS (fuel := 14) 6 rfl (fun _ _ hs => Y.move rfl) hs rfl (by kernel_rfl) (by kernel_rfl) (by kernel_rfl) ?_
      refine HW.takeSY (fuel := 13) 7 rfl rfl rfl (fun _ _ hs => Y.loadRowN T hs 0 rfl rfl rfl rfl rfl rfl rfl) hs rfl (by kernel_rfl) (by kernel_rfl) (by kernel_rfl) ?_
      refine HW.one (fuel := 12) 8 rfl (by kernel_rfl) ?_
      refine RW.guardYes rfl rfl ?_
      (refine RW.call T hs rfl rfl rfl (valueGood_con 1 _ (arr 1 (numsS s l)) _ _ ha') ?_; intro v h87 w87 hle87 hp87 hs)
      subst hp87
      rw [decB_of hgood]
      have ha' := ArrAt.mono 1 _ _ _ _ hle87 ha'
      have hp' := PlainAt.mono 1 _ _ _ _ hle87 hp'
      refine RW.nil ?_
      refine heldQ_normal ⟨_, hs⟩ ?_
      refine HW.takeS (fuel := 11) 9 rfl (fun _ _ hs => Y.pickT rfl rfl) hs rfl (by kernel_rfl) (by kernel_rfl) (by kernel_rfl) ?_
      refine HW.takeS (fuel := 10) 10 rfl (fun _ _ hs => Y.move rfl) hs rfl (by kernel_rfl) (by kernel_rfl) (by kernel_rfl) ?_
      refine HW.takeSY (fuel := 9) 11 rfl rfl rfl (fun _ _ hs => Y.loadRowN T hs 0 rfl rfl rfl rfl rfl rfl rfl) hs rfl (by kernel_rfl) (by kernel_rfl) (by kernel_rfl) ?_
      refine HW.takeSY (fuel := 8) 13 rfl rfl rfl (fun _ _ hs => Y.loadRowN T hs 1 rfl rfl rfl rfl rfl rfl rfl) hs rfl (by kernel_rfl) (by kernel_rfl) (by kernel_rfl) ?_
      refine HW.one (fuel := 7) 12 rfl (by kernel_rfl) ?_
      refine RW.guardYes rfl rfl ?_
      (refine RW.call T hs rfl rfl rfl (plainV_con 1 _ (arr 1 (numsS s l)) _ _ ha' hsml) ?_; intro v h91 w91 hle91 hp91 hs)
      obtain ⟨cs91, rfl, hq91⟩ := hp91
      rw [plain_arr 1 40 (numsS s l) hc] at hq91
      have ha' := ArrAt.mono 1 _ _ _ _ hle91 ha'
      have hp' := PlainAt.mono 1 _ _ _ _ hle91 hp'
      refine RW.nil ?_
      refine heldQ_normal ⟨_, hs⟩ ?_
      refine HW.one (fuel := 6) 14 rfl (by kernel_rfl) ?_
      refine RW.guardYes rfl rfl ?_
      (refine RW.call T hs rfl rfl rfl (refTidyP_con 1 40 _ (numsS s l) _ _ hp' hc) ?_; intro v h93 w93 hle93 hp93 hs)
      obtain ⟨cs93, rfl, hq93⟩ := hp93
      have ha' := ArrAt.mono 1 _ _ _ _ hle93 ha'
      have hp' := PlainAt.mono 1 _ _ _ _ hle93 hp'
      have hq91 := PlainAt.mono 1 _ _ _ _ hle93 hq91
      refine RW.nil ?_
      refine heldQ_normal ⟨_, hs⟩ ?_
      refine HW.one (fuel := 5) 15 rfl (by kernel_rfl) ?_
      refine RW.guardYes rfl rfl ?_
      (refine RW.call T hs rfl rfl rfl (refSame_con 1 _ _ (tidy 1 (numsS s l)) (tidy 1 (numsS s l)) _ _ hq91 hq93 htdy htdy) ?_; intro v h94 w94 hle94 hp94 hs)
      subst hp94
      rw [eqB_of (show tidy 1 (numsS s l) = tidy 1 (numsS s l) from rfl)]
      have ha' := ArrAt.mono 1 _ _ _ _ hle94 ha'
      have hp' := PlainAt.mono 1 _ _ _ _ hle94 hp'
      refine RW.nil ?_
      refine heldQ_normal ⟨_, hs⟩ ?_
      refine HW.takeS (fuel := 4) 16 rfl (fun _ _ hs => Y.pickT rfl rfl) hs rfl (by kernel_rfl) (by kernel_rfl) (by kernel_rfl) ?_
      refine HW.takeS (fuel := 3) 17 rfl (fun _ _ hs => Y.move rfl) hs rfl (by kernel_rfl) (by kernel_rfl) (by kernel_rfl) ?_
      refine HW.one (fuel := 2) 18 rfl (by kernel_rfl) ?_
      refine RW.guardYes rfl rfl ?_
      (refine RW.call T hs rfl rfl rfl (awake07_con _ _) ?_; intro v h97 w97 hle97 hp97 hs)
      subst hp97
      refine RW.nil ?_
      refine heldQ_normal ⟨_, hs⟩ ?_
      refine HW.takeS (fuel := 1) 19 rfl (fun _ _ hs => Y.pickT rfl rfl) hs rfl (by kernel_rfl) (by kernel_rfl) (by kernel_rfl) ?_
      refine HW.takeS (fuel := 0) 20 rfl (fun _ _ hs => Y.assign rfl) hs rfl (by kernel_rfl) (by kernel_rfl) (by kernel_rfl) ?_
      refine HW.done (by kernel_rfl) ?_
      refine calmQ_normal ?_
      repeat (first | (refine A0 ?_; first | refine R1 rfl rfl ?_ | refine R2 rfl rfl ?_ | (refine A1 ?_; first | refine D3 rfl rfl ?_ | refine D4 rfl rfl rfl rfl ?_ | refine D5 rfl rfl rfl ?_ | refine E6 ?_ rfl rfl | refine E7 ?_ rfl rfl) | refine Zb ?_ rfl | (refine A3 ?_; first | refine R34 T hs 0 rfl rfl rfl rfl rfl rfl ?_ | refine R34 T hs 1 rfl rfl rfl rfl rfl rfl ?_ | refine Zk ?_ rfl) | refine Zi ?_ rfl | refine Zq ?_ rfl | refine A8 ?_) | (refine B0 ?_; first | refine B1 ?_ | refine B2 ?_ | refine B3 ?_ | refine B4 ?_ | refine B5 ?_ | refine B6 ?_ | refine B7 rfl ?_ | refine B8 rfl ?_ | refine E8 ?_ rfl | refine E9 ?_ rfl) | refine C1 ?_ | refine C2 ?_ | refine C3 ?_ | refine C4 ?_ | refine C5 ?_ | refine C6 ?_ | refine C7 ?_ | refine C8 ?_ | refine C9 ?_ | refine D1 rfl ?_ | refine D2 rfl ?_)
      exact retQ_ret [_] h97 ⟨rfl, trivial⟩ hs.dropAll rfl
    · obtain rfl := hn13 hc
      repeat (first | (refine A0 ?_; first | refine R1 rfl rfl ?_ | refine R2 rfl rfl ?_ | (refine A1 ?_; first | refine D3 rfl rfl ?_ | refine D4 rfl rfl rfl rfl ?_ | refine D5 rfl rfl rfl ?_ | refine E6 ?_ rfl rfl | refine E7 ?_ rfl rfl) | refine Zb ?_ rfl | (refine A3 ?_; first | refine R34 T hs 0 rfl rfl rfl rfl rfl rfl ?_ | refine R34 T hs 1 rfl rfl rfl rfl rfl rfl ?_ | refine Zk ?_ rfl) | refine Zi ?_ rfl | refine Zq ?_ rfl | refine A8 ?_) | (refine B0 ?_; first | refine B1 ?_ | refine B2 ?_ | refine B3 ?_ | refine B4 ?_ | refine B5 ?_ | refine B6 ?_ | refine B7 rfl ?_ | refine B8 rfl ?_ | refine E8 ?_ rfl | refine E9 ?_ rfl) | refine C1 ?_ | refine C2 ?_ | refine C3 ?_ | refine C4 ?_ | refine C5 ?_ | refine C6 ?_ | refine C7 ?_ | refine C8 ?_ | refine C9 ?_ | refine D1 rfl ?_ | refine D2 rfl ?_)
      (refine RW.call T hs rfl rfl rfl (refCheck_con 1 _ (numsS s l) _ _ hp') ?_; intro v h20 w20 hle20 hp20 hs)
      subst hp20
      repeat (first | (refine A0 ?_; first | refine R1 rfl rfl ?_ | refine R2 rfl rfl ?_ | (refine A1 ?_; first | refine D3 rfl rfl ?_ | refine D4 rfl rfl rfl rfl ?_ | refine D5 rfl rfl rfl ?_ | refine E6 ?_ rfl rfl | refine E7 ?_ rfl rfl) | refine Zb ?_ rfl | (refine A3 ?_; first | refine R34 T hs 0 rfl rfl rfl rfl rfl rfl ?_ | refine R34 T hs 1 rfl rfl rfl rfl rfl rfl ?_ | refine Zk ?_ rfl) | refine Zi ?_ rfl | refine Zq ?_ rfl | refine A8 ?_) | (refine B0 ?_; first | refine B1 ?_ | refine B2 ?_ | refine B3 ?_ | refine B4 ?_ | refine B5 ?_ | refine B6 ?_ | refine B7 rfl ?_ | refine B8 rfl ?_ | refine E8 ?_ rfl | refine E9 ?_ rfl) | refine C1 ?_ | refine C2 ?_ | refine C3 ?_ | refine C4 ?_ | refine C5 ?_ | refine C6 ?_ | refine C7 ?_ | refine C8 ?_ | refine C9 ?_ | refine D1 rfl ?_ | refine D2 rfl ?_)
      (refine RW.call T hs rfl rfl rfl (vecKind_con (R := ArrAt 0) _ VecD.none _ _ (vecNone _)) ?_; intro v h21 w21 hle21 hp21 hs)
      subst hp21
      repeat (first | (refine A0 ?_; first | refine R1 rfl rfl ?_ | refine R2 rfl rfl ?_ | (refine A1 ?_; first | refine D3 rfl rfl ?_ | refine D4 rfl rfl rfl rfl ?_ | refine D5 rfl rfl rfl ?_ | refine E6 ?_ rfl rfl | refine E7 ?_ rfl rfl) | refine Zb ?_ rfl | (refine A3 ?_; first | refine R34 T hs 0 rfl rfl rfl rfl rfl rfl ?_ | refine R34 T hs 1 rfl rfl rfl rfl rfl rfl ?_ | refine Zk ?_ rfl) | refine Zi ?_ rfl | refine Zq ?_ rfl | refine A8 ?_) | (refine B0 ?_; first | refine B1 ?_ | refine B2 ?_ | refine B3 ?_ | refine B4 ?_ | refine B5 ?_ | refine B6 ?_ | refine B7 rfl ?_ | refine B8 rfl ?_ | refine E8 ?_ rfl | refine E9 ?_ rfl) | refine C1 ?_ | refine C2 ?_ | refine C3 ?_ | refine C4 ?_ | refine C5 ?_ | refine C6 ?_ | refine C7 ?_ | refine C8 ?_ | refine C9 ?_ | refine D1 rfl ?_ | refine D2 rfl ?_)
      (refine RW.call T hs rfl rfl rfl (awake07_con _ _) ?_; intro v h22 w22 hle22 hp22 hs)
      subst hp22
      repeat (first | (refine A0 ?_; first | refine R1 rfl rfl ?_ | refine R2 rfl rfl ?_ | (refine A1 ?_; first | refine D3 rfl rfl ?_ | refine D4 rfl rfl rfl rfl ?_ | refine D5 rfl rfl rfl ?_ | refine E6 ?_ rfl rfl | refine E7 ?_ rfl rfl) | refine Zb ?_ rfl | (refine A3 ?_; first | refine R34 T hs 0 rfl rfl rfl rfl rfl rfl ?_ | refine R34 T hs 1 rfl rfl rfl rfl rfl rfl ?_ | refine Zk ?_ rfl) | refine Zi ?_ rfl | refine Zq ?_ rfl | refine A8 ?_) | (refine B0 ?_; first | refine B1 ?_ | refine B2 ?_ | refine B3 ?_ | refine B4 ?_ | refine B5 ?_ | refine B6 ?_ | refine B7 rfl ?_ | refine B8 rfl ?_ | refine E8 ?_ rfl | refine E9 ?_ rfl) | refine C1 ?_ | refine C2 ?_ | refine C3 ?_ | refine C4 ?_ | refine C5 ?_ | refine C6 ?_ | refine C7 ?_ | refine C8 ?_ | refine C9 ?_ | refine D1 rfl ?_ | refine D2 rfl ?_)
      exact retQ_ret [_] h22 ⟨rfl, trivial⟩ hs.dropAll rfl
end Go.Proofs.Ythbfkhklihejiaa

/-
  Contracts of the law's own functions of layer 7: a number, a character and a box alone. No statement is proved here.
-/
namespace Go.Proofs.Ythbfkhklihejiaa
open Go Go.RowKit
set_option linter.unusedVariables false
set_option linter.unusedSimpArgs false
set_option maxHeartbeats 4000000
attribute [local irreducible] CW RW QW SW HW ConM retM heldQ calmQ elemP thenQ blockQ loopQ joinQ retQ Yields Con Sl zF magR unitF truncF fwF wholeF tidySpec elemQ rankF leastN tidyW

theorem refNum_con {α : Type} {R : GHeap → List Value → α → Prop} (x : Nat) (w : World) (h : GHeap) (hx : x < 18446744073709551616) : Con Try.prog 57 [.float .f64 x] w h (fun h' u => ∃ cs', u = .agg cs'.toArray ∧ PlainR R h' cs' (⟨[], [⟨0, x, 0, []⟩], 0⟩ : PlainD α)) := by
  refine Con.of_body Try.func57 rfl Try.ntmps57 rfl rfl ?_
  intro hs
  repeat (first | (refine A0 ?_; first | refine R1 rfl rfl ?_ | refine R2 rfl rfl ?_ | (refine A1 ?_; first | refine D3 rfl rfl ?_ | refine D4 rfl rfl rfl rfl ?_ | refine D5 rfl rfl rfl ?_ | refine E6 ?_ rfl rfl | refine E7 ?_ rfl rfl) | refine Zb ?_ rfl | (refine A3 ?_; first | refine R34 T hs 0 rfl rfl rfl rfl rfl rfl ?_ | refine R34 T hs 1 rfl rfl rfl rfl rfl rfl ?_ | refine Zl ?_ rfl) | refine Zi ?_ rfl | refine Zo ?_ rfl | refine A8 ?_) | (refine B0 ?_; first | refine B1 ?_ | refine B2 ?_ | refine B3 ?_ | refine B4 ?_ | refine B5 ?_ | refine B6 ?_ | refine B7 rfl ?_ | refine B8 rfl ?_ | refine E8 ?_ rfl | refine E9 ?_ rfl) | refine C1 ?_ | refine C2 ?_ | refine C3 ?_ | refine C4 ?_ | refine C5 ?_ | refine C6 ?_ | refine C7 ?_ | refine C8 ?_ | refine C9 ?_ | refine D1 rfl ?_ | refine D2 rfl ?_)
  (refine RW.allocN T hs rfl rfl rfl rfl ?_; intro b1 w1 hs)
  repeat (first | (refine A0 ?_; first | refine R1 rfl rfl ?_ | refine R2 rfl rfl ?_ | (refine A1 ?_; first | refine D3 rfl rfl ?_ | refine D4 rfl rfl rfl rfl ?_ | refine D5 rfl rfl rfl ?_ | refine E6 ?_ rfl rfl | refine E7 ?_ rfl rfl) | refine Zb ?_ rfl | (refine A3 ?_; first | refine R34 T hs 0 rfl rfl rfl rfl rfl rfl ?_ | refine R34 T hs 1 rfl rfl rfl rfl rfl rfl ?_ | refine Zk ?_ rfl) | refine Zi ?_ rfl | refine Zq ?_ rfl | refine A8 ?_) | (refine B0 ?_; first | refine B1 ?_ | refine B2 ?_ | refine B3 ?_ | refine B4 ?_ | refine B5 ?_ | refine B6 ?_ | refine B7 rfl ?_ | refine B8 rfl ?_ | refine E8 ?_ rfl | refine E9 ?_ rfl) | refine C1 ?_ | refine C2 ?_ | refine C3 ?_ | refine C4 ?_ | refine C5 ?_ | refine C6 ?_ | refine C7 ?_ | refine C8 ?_ | refine C9 ?_ | refine D1 rfl ?_ | refine D2 rfl ?_)
  refine RW.val (Y.build T rfl rfl rfl rfl rfl rfl rfl) rfl ?_
  (refine RW.lit T hs (vs := [.agg [.int .i64 0, .float .f64 x, .int .i32 0, .slice none 0 0].toArray]) (cs := [.int .i64 0, .float .f64 x, .int .i32 0, .slice none 0 0]) rfl rfl rfl rfl (by simp [Value.cells]) rfl rfl rfl rfl rfl ?_; intro b2 w2 hs)
  obtain ⟨h3, hle3, hs, hS3⟩ := hs.freeze
  refine RW.val (Y.build T rfl rfl rfl rfl rfl rfl rfl) rfl ?_
  (refine RW.storeAll T hs 0 rfl rfl rfl rfl rfl rfl rfl rfl ?_; intro w4 hs)
  repeat (first | (refine A0 ?_; first | refine R1 rfl rfl ?_ | refine R2 rfl rfl ?_ | (refine A1 ?_; first | refine D3 rfl rfl ?_ | refine D4 rfl rfl rfl rfl ?_ | refine D5 rfl rfl rfl ?_ | refine E6 ?_ rfl rfl | refine E7 ?_ rfl rfl) | refine Zb ?_ rfl | (refine A3 ?_; first | refine R34 T hs 0 rfl rfl rfl rfl rfl rfl ?_ | refine R34 T hs 1 rfl rfl rfl rfl rfl rfl ?_ | refine Zk ?_ rfl) | refine Zi ?_ rfl | refine Zq ?_ rfl | refine A8 ?_) | (refine B0 ?_; first | refine B1 ?_ | refine B2 ?_ | refine B3 ?_ | refine B4 ?_ | refine B5 ?_ | refine B6 ?_ | refine B7 rfl ?_ | refine B8 rfl ?_ | refine E8 ?_ rfl | refine E9 ?_ rfl) | refine C1 ?_ | refine C2 ?_ | refine C3 ?_ | refine C4 ?_ | refine C5 ?_ | refine C6 ?_ | refine C7 ?_ | refine C8 ?_ | refine C9 ?_ | refine D1 rfl ?_ | refine D2 rfl ?_)
  exact retQ_ret [_] h3 ⟨resN T hs 0 rfl rfl rfl rfl rfl rfl, trivial⟩ hs.dropAll ⟨_, rfl, _, _, rfl, RowAt.nil _, RowsAt.single hS3 (ItemAt.mk' (x := ⟨0, x, 0, []⟩) (RowsAt.nil _) hx)⟩
theorem product_nil : product [] 1048576 = (1, 0) := by decide
theorem product_one (n : Nat) (h : n ≤ 1048576) : product [(n : Int)] 1048576 = ((n : Int), 0) := by
  have hg : goodS [(n : Int)] = true := (goodS_spec _).2 ⟨by simp, by intro d hd; rw [List.mem_singleton.1 hd]; omega, by simp [pr]; omega⟩
  rw [product_good _ hg]
  by_cases c : n = 0
  · subst c; simp
  · rw [if_neg (by simp; omega)]
    simp [pr]; omega
theorem num1_good (x : Nat) (hf : finF x) : chk 1 40 (numsS [] [x]) = 0 := by
  rw [numsS_chk [] [x] (by intro y hy; rw [List.mem_singleton.1 hy]; exact hf), product_nil]
  simp
theorem num1_bad (x : Nat) (hf : ¬ finF x) : chk 1 40 (numsS [] [x]) ≠ 0 := by
  intro e
  obtain ⟨_, _, _, _, h5⟩ := (chkP_ok (α := PD 0) _ _ _).1 e
  exact hf ((h5 ⟨0, x, 0, []⟩ (show (⟨0, x, 0, []⟩ : ItemD (PD 0)) ∈ [(⟨0, x, 0, []⟩ : ItemD (PD 0))] from List.mem_singleton.2 rfl)).2.2 rfl)
theorem nums_good (l : List Nat) (hf : ∀ x ∈ l, finF x) (hm : l.length ≤ 1048576) : chk 1 40 (numsS [(l.length : Int)] l) = 0 := by
  rw [numsS_chk _ l hf, product_one _ hm]
  simp
def charP (c : Int) : PD 1 := (⟨[], [⟨1, 0, c, []⟩], 1⟩ : PlainD Unit)
def charA (c : Int) : AD 1 := (⟨[], ⟨5, [], [c], []⟩⟩ : ArrD Unit)
theorem char_plain (c : Int) : plain 1 (charA c) = charP c := rfl
theorem char_sml (c : Int) : sml 1 (charA c) := ⟨Nat.zero_le _, by show 0 + 1 + 0 ≤ 1048576; omega, fun b hb => by cases hb⟩
theorem char_tdy (c : Int) : tdy 1 (charP c) := by
  intro x hx
  have : x ∈ ([⟨1, 0, c, []⟩] : List (ItemD (PD 0))) := hx
  rw [List.mem_singleton.1 this]
  exact ⟨tidy0, fun b hb => by cases hb⟩
def boxP {k : Nat} (p : PD k) : PD (k + 1) := (⟨[], [⟨2, 0, 0, [p]⟩], 2⟩ : PlainD (PD k))
def boxA {k : Nat} (a : AD k) : AD (k + 1) := (⟨[], ⟨6, [], [], [a]⟩⟩ : ArrD (AD k))
theorem box_plain {k : Nat} (a : AD k) : plain (k + 1) (boxA a) = boxP (plain k a) := rfl
theorem box_sml {k : Nat} (a : AD k) (h : sml k a) : sml (k + 1) (boxA a) := ⟨Nat.zero_le _, by show 0 + 0 + 1 ≤ 1048576; omega, fun b hb => by
  have : b ∈ [a] := hb
  rw [List.mem_singleton.1 this]; exact h⟩
theorem box_tdy {k : Nat} (p : PD k) (h : tdy k p) : tdy (k + 1) (boxP p) := by
  intro x hx
  have : x ∈ ([⟨2, 0, 0, [p]⟩] : List (ItemD (PD k))) := hx
  rw [List.mem_singleton.1 this]
  exact ⟨tidy0, fun b hb => by
    have : b ∈ [p] := hb
    rw [List.mem_singleton.1 this]; exact h⟩
theorem valueAloneLaw_con (x : Nat) (c : Int) (v2 : Value) (l : List Nat) (k : Nat) (cs : List Value) (p : PD (k + 1)) (w : World) (h : GHeap) (hx : x < 18446744073709551616) (hn : FAt h v2 l) (hl64 : ∀ u ∈ l, u < 18446744073709551616) (hp : PlainAt (k + 1) h cs p) : Con Try.prog 8 [.float .f64 x, .int .i32 c, v2, .agg cs.toArray] w h (fun _ u => u = .bool true) := by
  have hp' := hp
  have hn' := hn
  obtain ⟨ad1, cp1, rfl, hS1⟩ := hn
  obtain ⟨s, it, rfl, ⟨ad, cp, rfl, hS⟩, ⟨ad2, cp2, xs, rfl, hS2, hA⟩⟩ := hp
  refine Con.of_body Try.func8 rfl Try.ntmps8 rfl rfl ?_
  intro hs
  repeat (first | (refine A0 ?_; first | refine R1 rfl rfl ?_ | refine R2 rfl rfl ?_ | (refine A1 ?_; first | refine D3 rfl rfl ?_ | refine D4 rfl rfl rfl rfl ?_ | refine D5 rfl rfl rfl ?_ | refine E6 ?_ rfl rfl | refine E7 ?_ rfl rfl) | refine Zb ?_ rfl | (refine A3 ?_; first | refine R34 T hs 0 rfl rfl rfl rfl rfl rfl ?_ | refine R34 T hs 1 rfl rfl rfl rfl rfl rfl ?_ | refine Zl ?_ rfl) | refine Zi ?_ rfl | refine Zo ?_ rfl | refine A8 ?_) | (refine B0 ?_; first | refine B1 ?_ | refine B2 ?_ | refine B3 ?_ | refine B4 ?_ | refine B5 ?_ | refine B6 ?_ | refine B7 rfl ?_ | refine B8 rfl ?_ | refine E8 ?_ rfl | refine E9 ?_ rfl) | refine C1 ?_ | refine C2 ?_ | refine C3 ?_ | refine C4 ?_ | refine C5 ?_ | refine C6 ?_ | refine C7 ?_ | refine C8 ?_ | refine C9 ?_ | refine D1 rfl ?_ | refine D2 rfl ?_)
  (refine RW.boxN hs rfl rfl ?_; intro b1 w1 hs)
  repeat (first | (refine A0 ?_; first | refine R1 rfl rfl ?_ | refine R2 rfl rfl ?_ | (refine A1 ?_; first | refine D3 rfl rfl ?_ | refine D4 rfl rfl rfl rfl ?_ | refine D5 rfl rfl rfl ?_ | refine E6 ?_ rfl rfl | refine E7 ?_ rfl rfl) | refine Zb ?_ rfl | (refine A3 ?_; first | refine R34 T hs 0 rfl rfl rfl rfl rfl rfl ?_ | refine R34 T hs 1 rfl rfl rfl rfl rfl rfl ?_ | refine Zk ?_ rfl) | refine Zi ?_ rfl | refine Zq ?_ rfl | refine A8 ?_) | (refine B0 ?_; first | refine B1 ?_ | refine B2 ?_ | refine B3 ?_ | refine B4 ?_ | refine B5 ?_ | refine B6 ?_ | refine B7 rfl ?_ | refine B8 rfl ?_ | refine E8 ?_ rfl | refine E9 ?_ rfl) | refine C1 ?_ | refine C2 ?_ | refine C3 ?_ | refine C4 ?_ | refine C5 ?_ | refine C6 ?_ | refine C7 ?_ | refine C8 ?_ | refine C9 ?_ | refine D1 rfl ?_ | refine D2 rfl ?_)
  by_cases c1 : 500 < l.length
  · repeat (first | (refine A0 ?_; first | refine R1 rfl rfl ?_ | refine R2 rfl rfl ?_ | (refine A1 ?_; first | refine D3 rfl rfl ?_ | refine D4 rfl rfl rfl rfl ?_ | refine D5 rfl rfl rfl ?_ | refine E6 ?_ rfl rfl | refine E7 ?_ rfl rfl) | refine Zb ?_ rfl | (refine A3 ?_; first | refine R34 T hs 0 rfl rfl rfl rfl rfl rfl ?_ | refine R34 T hs 1 rfl rfl rfl rfl rfl rfl ?_ | refine Zk ?_ rfl) | refine Zi ?_ rfl | refine Zq ?_ rfl | refine A8 ?_) | (refine B0 ?_; first | refine B1 ?_ | refine B2 ?_ | refine B3 ?_ | refine B4 ?_ | refine B5 ?_ | refine B6 ?_ | refine B7 rfl ?_ | refine B8 rfl ?_ | refine E8 ?_ rfl | refine E9 ?_ rfl) | refine C1 ?_ | refine C2 ?_ | refine C3 ?_ | refine C4 ?_ | refine C5 ?_ | refine C6 ?_ | refine C7 ?_ | refine C8 ?_ | refine C9 ?_ | refine D1 rfl ?_ | refine D2 rfl ?_)
    (refine RW.call T hs rfl rfl rfl (awake07_con _ _) ?_; intro v h3 w3 hle3 hp3 hs)
    subst hp3
    repeat (first | (refine A0 ?_; first | refine R1 rfl rfl ?_ | refine R2 rfl rfl ?_ | (refine A1 ?_; first | refine D3 rfl rfl ?_ | refine D4 rfl rfl rfl rfl ?_ | refine D5 rfl rfl rfl ?_ | refine E6 ?_ rfl rfl | refine E7 ?_ rfl rfl) | refine Zb ?_ rfl | (refine A3 ?_; first | refine R34 T hs 0 rfl rfl rfl rfl rfl rfl ?_ | refine R34 T hs 1 rfl rfl rfl rfl rfl rfl ?_ | refine Zk ?_ rfl) | refine Zi ?_ rfl | refine Zq ?_ rfl | refine A8 ?_) | (refine B0 ?_; first | refine B1 ?_ | refine B2 ?_ | refine B3 ?_ | refine B4 ?_ | refine B5 ?_ | refine B6 ?_ | refine B7 rfl ?_ | refine B8 rfl ?_ | refine E8 ?_ rfl | refine E9 ?_ rfl) | refine C1 ?_ | refine C2 ?_ | refine C3 ?_ | refine C4 ?_ | refine C5 ?_ | refine C6 ?_ | refine C7 ?_ | refine C8 ?_ | refine C9 ?_ | refine D1 rfl ?_ | refine D2 rfl ?_)
    exact retQ_ret [_] h3 ⟨rfl, trivial⟩ hs.dropAll rfl
  repeat (first | (refine A0 ?_; first | refine R1 rfl rfl ?_ | refine R2 rfl rfl ?_ | (refine A1 ?_; first | refine D3 rfl rfl ?_ | refine D4 rfl rfl rfl rfl ?_ | refine D5 rfl rfl rfl ?_ | refine E6 ?_ rfl rfl | refine E7 ?_ rfl rfl) | refine Zb ?_ rfl | (refine A3 ?_; first | refine R34 T hs 0 rfl rfl rfl rfl rfl rfl ?_ | refine R34 T hs 1 rfl rfl rfl rfl rfl rfl ?_ | refine Zk ?_ rfl) | refine Zi ?_ rfl | refine Zq ?_ rfl | refine A8 ?_) | (refine B0 ?_; first | refine B1 ?_ | refine B2 ?_ | refine B3 ?_ | refine B4 ?_ | refine B5 ?_ | refine B6 ?_ | refine B7 rfl ?_ | refine B8 rfl ?_ | refine E8 ?_ rfl | refine E9 ?_ rfl) | refine C1 ?_ | refine C2 ?_ | refine C3 ?_ | refine C4 ?_ | refine C5 ?_ | refine C6 ?_ | refine C7 ?_ | refine C8 ?_ | refine C9 ?_ | refine D1 rfl ?_ | refine D2 rfl ?_)
  (refine RW.call T hs rfl rfl rfl (refCount_con 3000 (k + 1) _ p _ _ hp') ?_; intro v h2 w2 hle2 hp2 hs)
  obtain ⟨r, rfl⟩ := hp2
  have hp' := PlainAt.mono (k + 1) _ _ _ _ hle2 hp'
  have hn' := hn'.mono hle2
  by_cases c2 : 2000 < r
  · repeat (first | (refine A0 ?_; first | refine R1 rfl rfl ?_ | refine R2 rfl rfl ?_ | (refine A1 ?_; first | refine D3 rfl rfl ?_ | refine D4 rfl rfl rfl rfl ?_ | refine D5 rfl rfl rfl ?_ | refine E6 ?_ rfl rfl | refine E7 ?_ rfl rfl) | refine Zb ?_ rfl | (refine A3 ?_; first | refine R34 T hs 0 rfl rfl rfl rfl rfl rfl ?_ | refine R34 T hs 1 rfl rfl rfl rfl rfl rfl ?_ | refine Zk ?_ rfl) | refine Zi ?_ rfl | refine Zq ?_ rfl | refine A8 ?_) | (refine B0 ?_; first | refine B1 ?_ | refine B2 ?_ | refine B3 ?_ | refine B4 ?_ | refine B5 ?_ | refine B6 ?_ | refine B7 rfl ?_ | refine B8 rfl ?_ | refine E8 ?_ rfl | refine E9 ?_ rfl) | refine C1 ?_ | refine C2 ?_ | refine C3 ?_ | refine C4 ?_ | refine C5 ?_ | refine C6 ?_ | refine C7 ?_ | refine C8 ?_ | refine C9 ?_ | refine D1 rfl ?_ | refine D2 rfl ?_)
    (refine RW.call T hs rfl rfl rfl (awake07_con _ _) ?_; intro v h3 w3 hle3 hp3 hs)
    subst hp3
    repeat (first | (refine A0 ?_; first | refine R1 rfl rfl ?_ | refine R2 rfl rfl ?_ | (refine A1 ?_; first | refine D3 rfl rfl ?_ | refine D4 rfl rfl rfl rfl ?_ | refine D5 rfl rfl rfl ?_ | refine E6 ?_ rfl rfl | refine E7 ?_ rfl rfl) | refine Zb ?_ rfl | (refine A3 ?_; first | refine R34 T hs 0 rfl rfl rfl rfl rfl rfl ?_ | refine R34 T hs 1 rfl rfl rfl rfl rfl rfl ?_ | refine Zk ?_ rfl) | refine Zi ?_ rfl | refine Zq ?_ rfl | refine A8 ?_) | (refine B0 ?_; first | refine B1 ?_ | refine B2 ?_ | refine B3 ?_ | refine B4 ?_ | refine B5 ?_ | refine B6 ?_ | refine B7 rfl ?_ | refine B8 rfl ?_ | refine E8 ?_ rfl | refine E9 ?_ rfl) | refine C1 ?_ | refine C2 ?_ | refine C3 ?_ | refine C4 ?_ | refine C5 ?_ | refine C6 ?_ | refine C7 ?_ | refine C8 ?_ | refine C9 ?_ | refine D1 rfl ?_ | refine D2 rfl ?_)
    exact retQ_ret [_] h3 ⟨rfl, trivial⟩ hs.dropAll rfl
  repeat (first | (refine A0 ?_; first | refine R1 rfl rfl ?_ | refine R2 rfl rfl ?_ | (refine A1 ?_; first | refine D3 rfl rfl ?_ | refine D4 rfl rfl rfl rfl ?_ | refine D5 rfl rfl rfl ?_ | refine E6 ?_ rfl rfl | refine E7 ?_ rfl rfl) | refine Zb ?_ rfl | (refine A3 ?_; first | refine R34 T hs 0 rfl rfl rfl rfl rfl rfl ?_ | refine R34 T hs 1 rfl rfl rfl rfl rfl rfl ?_ | refine Zk ?_ rfl) | refine Zi ?_ rfl | refine Zq ?_ rfl | refine A8 ?_) | (refine B0 ?_; first | refine B1 ?_ | refine B2 ?_ | refine B3 ?_ | refine B4 ?_ | refine B5 ?_ | refine B6 ?_ | refine B7 rfl ?_ | refine B8 rfl ?_ | refine E8 ?_ rfl | refine E9 ?_ rfl) | refine C1 ?_ | refine C2 ?_ | refine C3 ?_ | refine C4 ?_ | refine C5 ?_ | refine C6 ?_ | refine C7 ?_ | refine C8 ?_ | refine C9 ?_ | refine D1 rfl ?_ | refine D2 rfl ?_)
  (refine RW.call T hs rfl rfl rfl (refCheck_con (k + 1) _ p _ _ hp') ?_; intro v h3 w3 hle3 hp3 hs)
  subst hp3
  have hp' := PlainAt.mono (k + 1) _ _ _ _ hle3 hp'
  have hn' := hn'.mono hle3
  by_cases hc : ¬ chk (k + 1) 40 p = 0
  · repeat (first | (refine A0 ?_; first | refine R1 rfl rfl ?_ | refine R2 rfl rfl ?_ | (refine A1 ?_; first | refine D3 rfl rfl ?_ | refine D4 rfl rfl rfl rfl ?_ | refine D5 rfl rfl rfl ?_ | refine E6 ?_ rfl rfl | refine E7 ?_ rfl rfl) | refine Zb ?_ rfl | (refine A3 ?_; first | refine R34 T hs 0 rfl rfl rfl rfl rfl rfl ?_ | refine R34 T hs 1 rfl rfl rfl rfl rfl rfl ?_ | refine Zk ?_ rfl) | refine Zi ?_ rfl | refine Zq ?_ rfl | refine A8 ?_) | (refine B0 ?_; first | refine B1 ?_ | refine B2 ?_ | refine B3 ?_ | refine B4 ?_ | refine B5 ?_ | refine B6 ?_ | refine B7 rfl ?_ | refine B8 rfl ?_ | refine E8 ?_ rfl | refine E9 ?_ rfl) | refine C1 ?_ | refine C2 ?_ | refine C3 ?_ | refine C4 ?_ | refine C5 ?_ | refine C6 ?_ | refine C7 ?_ | refine C8 ?_ | refine C9 ?_ | refine D1 rfl ?_ | refine D2 rfl ?_)
    (refine RW.call T hs rfl rfl rfl (awake07_con _ _) ?_; intro v h4 w4 hle4 hp4 hs)
    subst hp4
    repeat (first | (refine A0 ?_; first | refine R1 rfl rfl ?_ | refine R2 rfl rfl ?_ | (refine A1 ?_; first | refine D3 rfl rfl ?_ | refine D4 rfl rfl rfl rfl ?_ | refine D5 rfl rfl rfl ?_ | refine E6 ?_ rfl rfl | refine E7 ?_ rfl rfl) | refine Zb ?_ rfl | (refine A3 ?_; first | refine R34 T hs 0 rfl rfl rfl rfl rfl rfl ?_ | refine R34 T hs 1 rfl rfl rfl rfl rfl rfl ?_ | refine Zk ?_ rfl) | refine Zi ?_ rfl | refine Zq ?_ rfl | refine A8 ?_) | (refine B0 ?_; first | refine B1 ?_ | refine B2 ?_ | refine B3 ?_ | refine B4 ?_ | refine B5 ?_ | refine B6 ?_ | refine B7 rfl ?_ | refine B8 rfl ?_ | refine E8 ?_ rfl | refine E9 ?_ rfl) | refine C1 ?_ | refine C2 ?_ | refine C3 ?_ | refine C4 ?_ | refine C5 ?_ | refine C6 ?_ | refine C7 ?_ | refine C8 ?_ | refine C9 ?_ | refine D1 rfl ?_ | refine D2 rfl ?_)
    exact retQ_ret [_] h4 ⟨rfl, trivial⟩ hs.dropAll rfl
  have hc := Decidable.of_not_not hc
  repeat (first | (refine A0 ?_; first | refine R1 rfl rfl ?_ | refine R2 rfl rfl ?_ | (refine A1 ?_; first | refine D3 rfl rfl ?_ | refine D4 rfl rfl rfl rfl ?_ | refine D5 rfl rfl rfl ?_ | refine E6 ?_ rfl rfl | refine E7 ?_ rfl rfl) | refine Zb ?_ rfl | (refine A3 ?_; first | refine R34 T hs 0 rfl rfl rfl rfl rfl rfl ?_ | refine R34 T hs 1 rfl rfl rfl rfl rfl rfl ?_ | refine Zk ?_ rfl) | refine Zi ?_ rfl | refine Zq ?_ rfl | refine A8 ?_) | (refine B0 ?_; first | refine B1 ?_ | refine B2 ?_ | refine B3 ?_ | refine B4 ?_ | refine B5 ?_ | refine B6 ?_ | refine B7 rfl ?_ | refine B8 rfl ?_ | refine E8 ?_ rfl | refine E9 ?_ rfl) | refine C1 ?_ | refine C2 ?_ | refine C3 ?_ | refine C4 ?_ | refine C5 ?_ | refine C6 ?_ | refine C7 ?_ | refine C8 ?_ | refine C9 ?_ | refine D1 rfl ?_ | refine D2 rfl ?_)
  (refine RW.call T hs rfl rfl rfl (refDepth_con (k + 1) 40 _ p _ _ (by omega) (by omega) hp' hc) ?_; intro v h4 w4 hle4 hp4 hs)
  subst hp4
  have hp' := PlainAt.mono (k + 1) _ _ _ _ hle4 hp'
  have hn' := hn'.mono hle4
  by_cases c4 : 30 < depth (k + 1) p
  · repeat (first | (refine A0 ?_; first | refine R1 rfl rfl ?_ | refine R2 rfl rfl ?_ | (refine A1 ?_; first | refine D3 rfl rfl ?_ | refine D4 rfl rfl rfl rfl ?_ | refine D5 rfl rfl rfl ?_ | refine E6 ?_ rfl rfl | refine E7 ?_ rfl rfl) | refine Zb ?_ rfl | (refine A3 ?_; first | refine R34 T hs 0 rfl rfl rfl rfl rfl rfl ?_ | refine R34 T hs 1 rfl rfl rfl rfl rfl rfl ?_ | refine Zk ?_ rfl) | refine Zi ?_ rfl | refine Zq ?_ rfl | refine A8 ?_) | (refine B0 ?_; first | refine B1 ?_ | refine B2 ?_ | refine B3 ?_ | refine B4 ?_ | refine B5 ?_ | refine B6 ?_ | refine B7 rfl ?_ | refine B8 rfl ?_ | refine E8 ?_ rfl | refine E9 ?_ rfl) | refine C1 ?_ | refine C2 ?_ | refine C3 ?_ | refine C4 ?_ | refine C5 ?_ | refine C6 ?_ | refine C7 ?_ | refine C8 ?_ | refine C9 ?_ | refine D1 rfl ?_ | refine D2 rfl ?_)
    (refine RW.call T hs rfl rfl rfl (awake07_con _ _) ?_; intro v h5 w5 hle5 hp5 hs)
    subst hp5
    repeat (first | (refine A0 ?_; first | refine R1 rfl rfl ?_ | refine R2 rfl rfl ?_ | (refine A1 ?_; first | refine D3 rfl rfl ?_ | refine D4 rfl rfl rfl rfl ?_ | refine D5 rfl rfl rfl ?_ | refine E6 ?_ rfl rfl | refine E7 ?_ rfl rfl) | refine Zb ?_ rfl | (refine A3 ?_; first | refine R34 T hs 0 rfl rfl rfl rfl rfl rfl ?_ | refine R34 T hs 1 rfl rfl rfl rfl rfl rfl ?_ | refine Zk ?_ rfl) | refine Zi ?_ rfl | refine Zq ?_ rfl | refine A8 ?_) | (refine B0 ?_; first | refine B1 ?_ | refine B2 ?_ | refine B3 ?_ | refine B4 ?_ | refine B5 ?_ | refine B6 ?_ | refine B7 rfl ?_ | refine B8 rfl ?_ | refine E8 ?_ rfl | refine E9 ?_ rfl) | refine C1 ?_ | refine C2 ?_ | refine C3 ?_ | refine C4 ?_ | refine C5 ?_ | refine C6 ?_ | refine C7 ?_ | refine C8 ?_ | refine C9 ?_ | refine D1 rfl ?_ | refine D2 rfl ?_)
    exact retQ_ret [_] h5 ⟨rfl, trivial⟩ hs.dropAll rfl
  repeat (first | (refine A0 ?_; first | refine R1 rfl rfl ?_ | refine R2 rfl rfl ?_ | (refine A1 ?_; first | refine D3 rfl rfl ?_ | refine D4 rfl rfl rfl rfl ?_ | refine D5 rfl rfl rfl ?_ | refine E6 ?_ rfl rfl | refine E7 ?_ rfl rfl) | refine Zb ?_ rfl | (refine A3 ?_; first | refine R34 T hs 0 rfl rfl rfl rfl rfl rfl ?_ | refine R34 T hs 1 rfl rfl rfl rfl rfl rfl ?_ | refine Zk ?_ rfl) | refine Zi ?_ rfl | refine Zq ?_ rfl | refine A8 ?_) | (refine B0 ?_; first | refine B1 ?_ | refine B2 ?_ | refine B3 ?_ | refine B4 ?_ | refine B5 ?_ | refine B6 ?_ | refine B7 rfl ?_ | refine B8 rfl ?_ | refine E8 ?_ rfl | refine E9 ?_ rfl) | refine C1 ?_ | refine C2 ?_ | refine C3 ?_ | refine C4 ?_ | refine C5 ?_ | refine C6 ?_ | refine C7 ?_ | refine C8 ?_ | refine C9 ?_ | refine D1 rfl ?_ | refine D2 rfl ?_)
  (refine RW.call T hs rfl rfl rfl (valueNum_con (R := ArrAt 0) (ArrAt.mono 0) x _ _ hx) ?_; intro v h5 w5 hle5 hp5 hs)
  obtain ⟨cs5, rfl, s5, vc5, rfl, hs5, hv5⟩ := hp5
  have ha9 : ArrAt 1 h5 (s5 :: vc5) (⟨[], if finF x then ⟨leastN [tidyW x], [tidyW x], [], []⟩ else VecD.none⟩ : ArrD (AD 0)) := ⟨_, _, rfl, hs5, hv5⟩
  obtain ⟨ad5, cp5, rfl, _⟩ := hs5
  obtain ⟨wv5, nv5, sm5, il5, fl5, ch5, bx5, ⟨hvc5, hoc5⟩, _⟩ := hv5
  generalize hk5 : (if finF x then (⟨leastN [tidyW x], [tidyW x], [], []⟩ : VecD (AD 0)) else VecD.none).kind = k5 at hvc5
  subst hvc5
  have hp' := PlainAt.mono (k + 1) _ _ _ _ hle5 hp'
  have hn' := hn'.mono hle5
  repeat (first | (refine A0 ?_; first | refine R1 rfl rfl ?_ | refine R2 rfl rfl ?_ | (refine A1 ?_; first | refine D3 rfl rfl ?_ | refine D4 rfl rfl rfl rfl ?_ | refine D5 rfl rfl rfl ?_ | refine E6 ?_ rfl rfl | refine E7 ?_ rfl rfl) | refine Zb ?_ rfl | (refine A3 ?_; first | refine R34 T hs 0 rfl rfl rfl rfl rfl rfl ?_ | refine R34 T hs 1 rfl rfl rfl rfl rfl rfl ?_ | refine Zk ?_ rfl) | refine Zi ?_ rfl | refine Zq ?_ rfl | refine A8 ?_) | (refine B0 ?_; first | refine B1 ?_ | refine B2 ?_ | refine B3 ?_ | refine B4 ?_ | refine B5 ?_ | refine B6 ?_ | refine B7 rfl ?_ | refine B8 rfl ?_ | refine E8 ?_ rfl | refine E9 ?_ rfl) | refine C1 ?_ | refine C2 ?_ | refine C3 ?_ | refine C4 ?_ | refine C5 ?_ | refine C6 ?_ | refine C7 ?_ | refine C8 ?_ | refine C9 ?_ | refine D1 rfl ?_ | refine D2 rfl ?_)
  (refine RW.allocN T hs rfl rfl rfl rfl ?_; intro b6 w6 hs)
  (refine RW.storeAll T hs 0 rfl rfl rfl rfl rfl rfl hoc5 rfl ?_; intro w7 hs)
  repeat (first | (refine A0 ?_; first | refine R1 rfl rfl ?_ | refine R2 rfl rfl ?_ | (refine A1 ?_; first | refine D3 rfl rfl ?_ | refine D4 rfl rfl rfl rfl ?_ | refine D5 rfl rfl rfl ?_ | refine E6 ?_ rfl rfl | refine E7 ?_ rfl rfl) | refine Zb ?_ rfl | (refine A3 ?_; first | refine R34 T hs 0 rfl rfl rfl rfl rfl rfl ?_ | refine R34 T hs 1 rfl rfl rfl rfl rfl rfl ?_ | refine Zk ?_ rfl) | refine Zi ?_ rfl | refine Zq ?_ rfl | refine A8 ?_) | (refine B0 ?_; first | refine B1 ?_ | refine B2 ?_ | refine B3 ?_ | refine B4 ?_ | refine B5 ?_ | refine B6 ?_ | refine B7 rfl ?_ | refine B8 rfl ?_ | refine E8 ?_ rfl | refine E9 ?_ rfl) | refine C1 ?_ | refine C2 ?_ | refine C3 ?_ | refine C4 ?_ | refine C5 ?_ | refine C6 ?_ | refine C7 ?_ | refine C8 ?_ | refine C9 ?_ | refine D1 rfl ?_ | refine D2 rfl ?_)
  (refine RW.call T hs rfl rfl rfl (valueChar_con (R := ArrAt 0) c _ _) ?_; intro v h8 w8 hle8 hp8 hs)
  obtain ⟨cs8, rfl, s8, vc8, rfl, hs8, hv8⟩ := hp8
  have hb11 : ArrAt 1 h8 (s8 :: vc8) (charA c) := ⟨_, _, rfl, hs8, hv8⟩
  obtain ⟨ad8, cp8, rfl, _⟩ := hs8
  obtain ⟨wv8, nv8, sm8, il8, fl8, ch8, bx8, ⟨rfl, hoc8⟩, _⟩ := hv8
  have hp' := PlainAt.mono (k + 1) _ _ _ _ hle8 hp'
  have hn' := hn'.mono hle8
  have ha9 := ArrAt.mono 1 _ _ _ _ hle8 ha9
  repeat (first | (refine A0 ?_; first | refine R1 rfl rfl ?_ | refine R2 rfl rfl ?_ | (refine A1 ?_; first | refine D3 rfl rfl ?_ | refine D4 rfl rfl rfl rfl ?_ | refine D5 rfl rfl rfl ?_ | refine E6 ?_ rfl rfl | refine E7 ?_ rfl rfl) | refine Zb ?_ rfl | (refine A3 ?_; first | refine R34 T hs 0 rfl rfl rfl rfl rfl rfl ?_ | refine R34 T hs 1 rfl rfl rfl rfl rfl rfl ?_ | refine Zk ?_ rfl) | refine Zi ?_ rfl | refine Zq ?_ rfl | refine A8 ?_) | (refine B0 ?_; first | refine B1 ?_ | refine B2 ?_ | refine B3 ?_ | refine B4 ?_ | refine B5 ?_ | refine B6 ?_ | refine B7 rfl ?_ | refine B8 rfl ?_ | refine E8 ?_ rfl | refine E9 ?_ rfl) | refine C1 ?_ | refine C2 ?_ | refine C3 ?_ | refine C4 ?_ | refine C5 ?_ | refine C6 ?_ | refine C7 ?_ | refine C8 ?_ | refine C9 ?_ | refine D1 rfl ?_ | refine D2 rfl ?_)
  (refine RW.allocN T hs rfl rfl rfl rfl ?_; intro b9 w9 hs)
  (refine RW.storeAll T hs 0 rfl rfl rfl rfl rfl rfl hoc8 rfl ?_; intro w10 hs)
  repeat (first | (refine A0 ?_; first | refine R1 rfl rfl ?_ | refine R2 rfl rfl ?_ | (refine A1 ?_; first | refine D3 rfl rfl ?_ | refine D4 rfl rfl rfl rfl ?_ | refine D5 rfl rfl rfl ?_ | refine E6 ?_ rfl rfl | refine E7 ?_ rfl rfl) | refine Zb ?_ rfl | (refine A3 ?_; first | refine R34 T hs 0 rfl rfl rfl rfl rfl rfl ?_ | refine R34 T hs 1 rfl rfl rfl rfl rfl rfl ?_ | refine Zk ?_ rfl) | refine Zi ?_ rfl | refine Zq ?_ rfl | refine A8 ?_) | (refine B0 ?_; first | refine B1 ?_ | refine B2 ?_ | refine B3 ?_ | refine B4 ?_ | refine B5 ?_ | refine B6 ?_ | refine B7 rfl ?_ | refine B8 rfl ?_ | refine E8 ?_ rfl | refine E9 ?_ rfl) | refine C1 ?_ | refine C2 ?_ | refine C3 ?_ | refine C4 ?_ | refine C5 ?_ | refine C6 ?_ | refine C7 ?_ | refine C8 ?_ | refine C9 ?_ | refine D1 rfl ?_ | refine D2 rfl ?_)
  (refine RW.call T hs rfl rfl rfl (of07_con (k + 1) _ p _ _ hp' hc) ?_; intro v h11 w11 hle11 hp11 hs)
  obtain ⟨cs11, rfl, hl11, ho11, ha11⟩ := hp11
  (refine RW.call T hs rfl rfl rfl (valueBox_con (ArrAt.mono (k + 1)) (ArrAt.one (k + 1)) (ArrAt.siz (k + 1)) _ _ _ _ ha11) ?_; intro v h12 w12 hle12 hp12 hs)
  obtain ⟨cs12, rfl, s12, vc12, rfl, hs12, hv12⟩ := hp12
  have hd12 : ArrAt (k + 2) h12 (s12 :: vc12) (boxA (arr (k + 1) p)) := ⟨_, _, rfl, hs12, hv12⟩
  obtain ⟨ad12, cp12, rfl, _⟩ := hs12
  obtain ⟨wv12, nv12, sm12, il12, fl12, ch12, bx12, ⟨rfl, hoc12⟩, _⟩ := hv12
  have hp' := PlainAt.mono (k + 1) _ _ _ _ (hle11.trans hle12) hp'
  have hn' := hn'.mono (hle11.trans hle12)
  have ha9 := ArrAt.mono 1 _ _ _ _ (hle11.trans hle12) ha9
  have hb11 := ArrAt.mono 1 _ _ _ _ (hle11.trans hle12) hb11
  repeat (first | (refine A0 ?_; first | refine R1 rfl rfl ?_ | refine R2 rfl rfl ?_ | (refine A1 ?_; first | refine D3 rfl rfl ?_ | refine D4 rfl rfl rfl rfl ?_ | refine D5 rfl rfl rfl ?_ | refine E6 ?_ rfl rfl | refine E7 ?_ rfl rfl) | refine Zb ?_ rfl | (refine A3 ?_; first | refine R34 T hs 0 rfl rfl rfl rfl rfl rfl ?_ | refine R34 T hs 1 rfl rfl rfl rfl rfl rfl ?_ | refine Zk ?_ rfl) | refine Zi ?_ rfl | refine Zq ?_ rfl | refine A8 ?_) | (refine B0 ?_; first | refine B1 ?_ | refine B2 ?_ | refine B3 ?_ | refine B4 ?_ | refine B5 ?_ | refine B6 ?_ | refine B7 rfl ?_ | refine B8 rfl ?_ | refine E8 ?_ rfl | refine E9 ?_ rfl) | refine C1 ?_ | refine C2 ?_ | refine C3 ?_ | refine C4 ?_ | refine C5 ?_ | refine C6 ?_ | refine C7 ?_ | refine C8 ?_ | refine C9 ?_ | refine D1 rfl ?_ | refine D2 rfl ?_)
  (refine RW.allocN T hs rfl rfl rfl rfl ?_; intro b13 w13 hs)
  (refine RW.storeAll T hs 0 rfl rfl rfl rfl rfl rfl hoc12 rfl ?_; intro w14 hs)
  repeat (first | (refine A0 ?_; first | refine R1 rfl rfl ?_ | refine R2 rfl rfl ?_ | (refine A1 ?_; first | refine D3 rfl rfl ?_ | refine D4 rfl rfl rfl rfl ?_ | refine D5 rfl rfl rfl ?_ | refine E6 ?_ rfl rfl | refine E7 ?_ rfl rfl) | refine Zb ?_ rfl | (refine A3 ?_; first | refine R34 T hs 0 rfl rfl rfl rfl rfl rfl ?_ | refine R34 T hs 1 rfl rfl rfl rfl rfl rfl ?_ | refine Zk ?_ rfl) | refine Zi ?_ rfl | refine Zq ?_ rfl | refine A8 ?_) | (refine B0 ?_; first | refine B1 ?_ | refine B2 ?_ | refine B3 ?_ | refine B4 ?_ | refine B5 ?_ | refine B6 ?_ | refine B7 rfl ?_ | refine B8 rfl ?_ | refine E8 ?_ rfl | refine E9 ?_ rfl) | refine C1 ?_ | refine C2 ?_ | refine C3 ?_ | refine C4 ?_ | refine C5 ?_ | refine C6 ?_ | refine C7 ?_ | refine C8 ?_ | refine C9 ?_ | refine D1 rfl ?_ | refine D2 rfl ?_)
  (refine RW.call T hs rfl rfl rfl (refNum_con (R := PlainAt 0) x _ _ hx) ?_; intro v h15 w15 hle15 hp15 hs)
  obtain ⟨cs15, rfl, s15, it15, rfl, hs15, hi15⟩ := hp15
  have hn13 : PlainAt 1 h15 [s15, it15, .int .i64 0] (numsS [] [x]) := ⟨_, _, rfl, hs15, hi15⟩
  obtain ⟨ad15, cp15, rfl, _⟩ := hs15
  obtain ⟨ad16, cp16, xs16, rfl, _, _⟩ := hi15
  have hp' := PlainAt.mono (k + 1) _ _ _ _ hle15 hp'
  have hn' := hn'.mono hle15
  have ha9 := ArrAt.mono 1 _ _ _ _ hle15 ha9
  have hb11 := ArrAt.mono 1 _ _ _ _ hle15 hb11
  have hd12 := ArrAt.mono (k + 2) _ _ _ _ hle15 hd12
  have hsml11 := char_sml c
  have hpl11 := char_plain c
  have htd11 := char_tdy c
  have hgood := good_arr (k + 1) 40 p hc
  have hsml12 := box_sml _ (good_sml (k + 1) 40 _ hgood)
  have hpl12 : plain (k + 2) (boxA (arr (k + 1) p)) = boxP (tidy (k + 1) p) := by rw [box_plain, plain_arr (k + 1) 40 p hc]
  have htd12 := box_tdy _ (tidy_tdy (k + 1) 40 p _ _ hp' hc)
  repeat (first | (refine A0 ?_; first | refine R1 rfl rfl ?_ | refine R2 rfl rfl ?_ | (refine A1 ?_; first | refine D3 rfl rfl ?_ | refine D4 rfl rfl rfl rfl ?_ | refine D5 rfl rfl rfl ?_ | refine E6 ?_ rfl rfl | refine E7 ?_ rfl rfl) | refine Zb ?_ rfl | (refine A3 ?_; first | refine R34 T hs 0 rfl rfl rfl rfl rfl rfl ?_ | refine R34 T hs 1 rfl rfl rfl rfl rfl rfl ?_ | refine Zk ?_ rfl) | refine Zi ?_ rfl | refine Zq ?_ rfl | refine A8 ?_) | (refine B0 ?_; first | refine B1 ?_ | refine B2 ?_ | refine B3 ?_ | refine B4 ?_ | refine B5 ?_ | refine B6 ?_ | refine B7 rfl ?_ | refine B8 rfl ?_ | refine E8 ?_ rfl | refine E9 ?_ rfl) | refine C1 ?_ | refine C2 ?_ | refine C3 ?_ | refine C4 ?_ | refine C5 ?_ | refine C6 ?_ | refine C7 ?_ | refine C8 ?_ | refine C9 ?_ | refine D1 rfl ?_ | refine D2 rfl ?_)
  (refine RW.allocN T hs rfl rfl rfl rfl ?_; intro b17 w17 hs)
  (refine RW.storeAll T hs 0 rfl rfl rfl rfl rfl rfl rfl rfl ?_; intro w18 hs)
  repeat (first | (refine A0 ?_; first | refine R1 rfl rfl ?_ | refine R2 rfl rfl ?_ | (refine A1 ?_; first | refine D3 rfl rfl ?_ | refine D4 rfl rfl rfl rfl ?_ | refine D5 rfl rfl rfl ?_ | refine E6 ?_ rfl rfl | refine E7 ?_ rfl rfl) | refine Zb ?_ rfl | (refine A3 ?_; first | refine R34 T hs 0 rfl rfl rfl rfl rfl rfl ?_ | refine R34 T hs 1 rfl rfl rfl rfl rfl rfl ?_ | refine Zk ?_ rfl) | refine Zi ?_ rfl | refine Zq ?_ rfl | refine A8 ?_) | (refine B0 ?_; first | refine B1 ?_ | refine B2 ?_ | refine B3 ?_ | refine B4 ?_ | refine B5 ?_ | refine B6 ?_ | refine B7 rfl ?_ | refine B8 rfl ?_ | refine E8 ?_ rfl | refine E9 ?_ rfl) | refine C1 ?_ | refine C2 ?_ | refine C3 ?_ | refine C4 ?_ | refine C5 ?_ | refine C6 ?_ | refine C7 ?_ | refine C8 ?_ | refine C9 ?_ | refine D1 rfl ?_ | refine D2 rfl ?_)
  refine CW.meet (fun u : GHeap => [(0, .float .f64 x), (1, .int .i32 c), (2, .slice ad1 l.length cp1), (7, .pointer (some ⟨b1, 0, none⟩)), (11, .pointer (some ⟨b9, 0, none⟩)), (12, .pointer (some ⟨b13, 0, none⟩)), (13, .pointer (some ⟨b17, 0, none⟩)), (72, .bool false)])
    (fun u w' => ArrAt 1 u (.slice ad8 0 cp8 :: vecCells 5 wv8 nv8 sm8 il8 fl8 ch8 bx8) (charA c) ∧ ArrAt (k + 2) u (.slice ad12 0 cp12 :: vecCells 6 wv12 nv12 sm12 il12 fl12 ch12 bx12) (boxA (arr (k + 1) p)) ∧ PlainAt (k + 1) u [.slice ad p.shape.length cp, .slice ad2 p.items.length cp2, .int .i64 p.fill] p ∧ FAt u (.slice ad1 l.length cp1) l ∧ Sees w h u [⟨some ⟨b17, 0, none⟩, 1, 1, 50, 3, [.slice ad15 0 cp15, .slice ad16 1 cp16, .int .i64 0]⟩, ⟨some ⟨b13, 0, none⟩, 1, 1, 63, 9, .slice ad12 0 cp12 :: vecCells 6 wv12 nv12 sm12 il12 fl12 ch12 bx12⟩, ⟨some ⟨b9, 0, none⟩, 1, 1, 63, 9, .slice ad8 0 cp8 :: vecCells 5 wv8 nv8 sm8 il8 fl8 ch8 bx8⟩, ⟨some ⟨b6, 0, none⟩, 1, 1, 63, 9, .slice ad5 0 cp5 :: vecCells k5 wv5 nv5 sm5 il5 fl5 ch5 bx5⟩, ⟨some ⟨b1, 0, none⟩, 1, 1, 50, 3, [.slice ad p.shape.length cp, .slice ad2 p.items.length cp2, .int .i64 p.fill]⟩] w') ?_ ?_
  · by_cases hf : finF x
    · have hc13 := num1_good x hf
      have harr9 := numsS_arr [] [x]
      rw [if_pos hf] at ha9
      rw [show (⟨[], ⟨leastN [tidyW x], [tidyW x], [], []⟩⟩ : ArrD (AD 0)) = arr 1 (numsS [] [x]) from harr9.symm] at ha9
      have hsml9 := good_sml 1 40 _ (good_arr 1 40 _ hc13)
      have hpl9 := plain_arr 1 40 _ hc13
      have htd13 := tidy_tdy 1 40 _ _ _ hn13 hc13
      rw [decide_eq_true hf]
      refine CW.regionO T hs ?_
      intro w19 hs
      refine HW.takeS (fuel := 25) 0 rfl (fun _ _ hs => Y.move rfl) hs rfl (by kernel_rfl) (by kernel_rfl) (by kernel_rfl) ?_
      refine HW.takeS (fuel := 24) 1 rfl (fun _ _ hs => Y.loadRowN T hs 0 rfl rfl rfl rfl rfl rfl rfl) hs rfl (by kernel_rfl) (by kernel_rfl) (by kernel_rfl) ?_
      refine HW.one (fuel := 23) 2 rfl (by kernel_rfl) ?_
      (refine RW.call T hs rfl rfl rfl (refCheck_con 1 _ _ _ _ hn13) ?_; intro v h49 w49 hle49 hp49 hs)
      subst hp49
      have ha9 := ArrAt.mono 1 _ _ _ _ hle49 ha9
      have hb11 := ArrAt.mono 1 _ _ _ _ hle49 hb11
      have hd12 := ArrAt.mono (k + 2) _ _ _ _ hle49 hd12
      have hn13 := PlainAt.mono 1 _ _ _ _ hle49 hn13
      have hp' := PlainAt.mono (k + 1) _ _ _ _ hle49 hp'
      have hn' := hn'.mono hle49
      refine RW.nil ?_
      refine heldQ_normal ⟨_, hs⟩ ?_
      refine HW.takeS (fuel := 22) 3 rfl (fun _ _ hs => Y.eqT rfl rfl hc13) hs rfl (by kernel_rfl) (by kernel_rfl) (by kernel_rfl) ?_
      refine HW.takeS (fuel := 21) 4 rfl (fun _ _ hs => Y.neqBF T rfl rfl rfl rfl) hs rfl (by kernel_rfl) (by kernel_rfl) (by kernel_rfl) ?_
      refine HW.takeS (fuel := 20) 5 rfl (fun _ _ hs => Y.move rfl) hs rfl (by kernel_rfl) (by kernel_rfl) (by kernel_rfl) ?_
      refine HW.takeSY (fuel := 19) 6 rfl rfl rfl (fun _ _ hs => Y.move rfl) hs rfl (by kernel_rfl) (by kernel_rfl) (by kernel_rfl) ?_
      refine HW.takeSY (fuel := 18) 7 rfl rfl rfl (fun _ _ hs => Y.move rfl) hs rfl (by kernel_rfl) (by kernel_rfl) (by kernel_rfl) ?_
      refine HW.takeSY (fuel := 17) 8 rfl rfl rfl (fun _ _ hs => Y.loadRowN T hs 3 rfl rfl rfl rfl rfl rfl rfl) hs rfl (by kernel_rfl) (by kernel_rfl) (by kernel_rfl) ?_
      refine HW.takeSY (fuel := 16) 10 rfl rfl rfl (fun _ _ hs => Y.loadRowN T hs 0 rfl rfl rfl rfl rfl rfl rfl) hs rfl (by kernel_rfl) (by kernel_rfl) (by kernel_rfl) ?_
      refine HW.one (fuel := 15) 9 rfl (by kernel_rfl) ?_
      refine RW.guardYes rfl rfl ?_
      (refine RW.call T hs rfl rfl rfl (plainV_con 1 _ _ _ _ ha9 hsml9) ?_; intro v h56 w56 hle56 hp56 hs)
      obtain ⟨cs56, rfl, hq56⟩ := hp56
      rw [hpl9] at hq56
      have ha9 := ArrAt.mono 1 _ _ _ _ hle56 ha9
      have hb11 := ArrAt.mono 1 _ _ _ _ hle56 hb11
      have hd12 := ArrAt.mono (k + 2) _ _ _ _ hle56 hd12
      have hn13 := PlainAt.mono 1 _ _ _ _ hle56 hn13
      have hp' := PlainAt.mono (k + 1) _ _ _ _ hle56 hp'
      have hn' := hn'.mono hle56
      refine RW.nil ?_
      refine heldQ_normal ⟨_, hs⟩ ?_
      refine HW.one (fuel := 14) 11 rfl (by kernel_rfl) ?_
      refine RW.guardYes rfl rfl ?_
      (refine RW.call T hs rfl rfl rfl (refTidyP_con 1 40 _ _ _ _ hn13 hc13) ?_; intro v h58 w58 hle58 hp58 hs)
      obtain ⟨cs58, rfl, hq58⟩ := hp58
      have ha9 := ArrAt.mono 1 _ _ _ _ hle58 ha9
      have hb11 := ArrAt.mono 1 _ _ _ _ hle58 hb11
      have hd12 := ArrAt.mono (k + 2) _ _ _ _ hle58 hd12
      have hn13 := PlainAt.mono 1 _ _ _ _ hle58 hn13
      have hp' := PlainAt.mono (k + 1) _ _ _ _ hle58 hp'
      have hn' := hn'.mono hle58
      have hq56 := PlainAt.mono 1 _ _ _ _ hle58 hq56
      refine RW.nil ?_
      refine heldQ_normal ⟨_, hs⟩ ?_
      refine HW.one (fuel := 13) 12 rfl (by kernel_rfl) ?_
      refine RW.guardYes rfl rfl ?_
      (refine RW.call T hs rfl rfl rfl (refSame_con 1 _ _ _ _ _ _ hq56 hq58 htd13 htd13) ?_; intro v h59 w59 hle59 hp59 hs)
      subst hp59
      rw [eqB_of rfl]
      have ha9 := ArrAt.mono 1 _ _ _ _ hle59 ha9
      have hb11 := ArrAt.mono 1 _ _ _ _ hle59 hb11
      have hd12 := ArrAt.mono (k + 2) _ _ _ _ hle59 hd12
      have hn13 := PlainAt.mono 1 _ _ _ _ hle59 hn13
      have hp' := PlainAt.mono (k + 1) _ _ _ _ hle59 hp'
      have hn' := hn'.mono hle59
      refine RW.nil ?_
      refine heldQ_normal ⟨_, hs⟩ ?_
      refine HW.takeSY (fuel := 12) 13 rfl rfl rfl (fun _ _ hs => Y.not rfl) hs rfl (by kernel_rfl) (by kernel_rfl) (by kernel_rfl) ?_
      refine HW.takeSY (fuel := 11) 14 rfl rfl rfl (fun _ _ hs => Y.pickB rfl rfl rfl) hs rfl (by kernel_rfl) (by kernel_rfl) (by kernel_rfl) ?_
      refine HW.takeS (fuel := 10) 15 rfl (fun _ _ hs => Y.pickB rfl rfl rfl) hs rfl (by kernel_rfl) (by kernel_rfl) (by kernel_rfl) ?_
      refine HW.takeS (fuel := 9) 16 rfl (fun _ _ hs => Y.move rfl) hs rfl (by kernel_rfl) (by kernel_rfl) (by kernel_rfl) ?_
      refine HW.takeSY (fuel := 8) 17 rfl rfl rfl (fun _ _ hs => Y.move rfl) hs rfl (by kernel_rfl) (by kernel_rfl) (by kernel_rfl) ?_
      refine HW.takeSY (fuel := 7) 18 rfl rfl rfl (fun _ _ hs => Y.not rfl) hs rfl (by kernel_rfl) (by kernel_rfl) (by kernel_rfl) ?_
      refine HW.takeSY (fuel := 6) 19 rfl rfl rfl (fun _ _ hs => Y.move rfl) hs rfl (by kernel_rfl) (by kernel_rfl) (by kernel_rfl) ?_
      refine HW.takeSN (fuel := 5) 20 rfl rfl rfl rfl hs rfl (by kernel_rfl) (by kernel_rfl) (by kernel_rfl) ?_
      refine HW.takeSN (fuel := 4) 21 rfl rfl rfl rfl hs rfl (by kernel_rfl) (by kernel_rfl) (by kernel_rfl) ?_
      refine HW.takeSN (fuel := 3) 22 rfl rfl rfl rfl hs rfl (by kernel_rfl) (by kernel_rfl) (by kernel_rfl) ?_
      refine HW.takeSN (fuel := 2) 23 rfl rfl rfl rfl hs rfl (by kernel_rfl) (by kernel_rfl) (by kernel_rfl) ?_
      refine HW.takeSY (fuel := 1) 24 rfl rfl rfl (fun _ _ hs => Y.pickB rfl rfl rfl) hs rfl (by kernel_rfl) (by kernel_rfl) (by kernel_rfl) ?_
      refine HW.takeS (fuel := 0) 25 rfl (fun _ _ hs => Y.pickB rfl rfl rfl) hs rfl (by kernel_rfl) (by kernel_rfl) (by kernel_rfl) ?_
      refine HW.done (by kernel_rfl) ?_
      refine calmQ_normal ?_
      refine joinQ_meet h59 ⟨rfl, rfl, rfl, rfl, rfl, rfl, rfl, rfl, trivial⟩ ⟨hb11, hd12, hp', hn', hs⟩
    · have hc13 := num1_bad x hf
      rw [if_neg hf] at ha9 hk5
      obtain rfl : k5 = 0 := hk5.symm
      rw [decide_eq_false hf]
      refine CW.regionO T hs ?_
      intro w19 hs
      refine HW.takeS (fuel := 25) 0 rfl (fun _ _ hs => Y.move rfl) hs rfl (by kernel_rfl) (by kernel_rfl) (by kernel_rfl) ?_
      refine HW.takeS (fuel := 24) 1 rfl (fun _ _ hs => Y.loadRowN T hs 0 rfl rfl rfl rfl rfl rfl rfl) hs rfl (by kernel_rfl) (by kernel_rfl) (by kernel_rfl) ?_
      refine HW.one (fuel := 23) 2 rfl (by kernel_rfl) ?_
      (refine RW.call T hs rfl rfl rfl (refCheck_con 1 _ _ _ _ hn13) ?_; intro v h49 w49 hle49 hp49 hs)
      subst hp49
      have ha9 := ArrAt.mono 1 _ _ _ _ hle49 ha9
      have hb11 := ArrAt.mono 1 _ _ _ _ hle49 hb11
      have hd12 := ArrAt.mono (k + 2) _ _ _ _ hle49 hd12
      have hn13 := PlainAt.mono 1 _ _ _ _ hle49 hn13
      have hp' := PlainAt.mono (k + 1) _ _ _ _ hle49 hp'
      have hn' := hn'.mono hle49
      refine RW.nil ?_
      refine heldQ_normal ⟨_, hs⟩ ?_
      refine HW.takeS (fuel := 22) 3 rfl (fun _ _ hs => Y.eqF rfl rfl hc13) hs rfl (by kernel_rfl) (by kernel_rfl) (by kernel_rfl) ?_
      refine HW.takeS (fuel := 21) 4 rfl (fun _ _ hs => Y.neqBF T rfl rfl rfl rfl) hs rfl (by kernel_rfl) (by kernel_rfl) (by kernel_rfl) ?_
      refine HW.takeS (fuel := 20) 5 rfl (fun _ _ hs => Y.move rfl) hs rfl (by kernel_rfl) (by kernel_rfl) (by kernel_rfl) ?_
      refine HW.takeSY (fuel := 19) 6 rfl rfl rfl (fun _ _ hs => Y.move rfl) hs rfl (by kernel_rfl) (by kernel_rfl) (by kernel_rfl) ?_
      refine HW.takeSY (fuel := 18) 7 rfl rfl rfl (fun _ _ hs => Y.move rfl) hs rfl (by kernel_rfl) (by kernel_rfl) (by kernel_rfl) ?_
      refine HW.takeSN (fuel := 17) 8 rfl rfl rfl rfl hs rfl (by kernel_rfl) (by kernel_rfl) (by kernel_rfl) ?_
      refine HW.takeSN (fuel := 16) 9 rfl rfl rfl rfl hs rfl (by kernel_rfl) (by kernel_rfl) (by kernel_rfl) ?_
      refine HW.takeSN (fuel := 15) 10 rfl rfl rfl rfl hs rfl (by kernel_rfl) (by kernel_rfl) (by kernel_rfl) ?_
      refine HW.takeSN (fuel := 14) 11 rfl rfl rfl rfl hs rfl (by kernel_rfl) (by kernel_rfl) (by kernel_rfl) ?_
      refine HW.takeSN (fuel := 13) 12 rfl rfl rfl rfl hs rfl (by kernel_rfl) (by kernel_rfl) (by kernel_rfl) ?_
      refine HW.takeSN (fuel := 12) 13 rfl rfl rfl rfl hs rfl (by kernel_rfl) (by kernel_rfl) (by kernel_rfl) ?_
      refine HW.takeSY (fuel := 11) 14 rfl rfl rfl (fun _ _ hs => Y.pickB rfl rfl rfl) hs rfl (by kernel_rfl) (by kernel_rfl) (by kernel_rfl) ?_
      refine HW.takeS (fuel := 10) 15 rfl (fun _ _ hs => Y.pickB rfl rfl rfl) hs rfl (by kernel_rfl) (by kernel_rfl) (by kernel_rfl) ?_
      refine HW.takeS (fuel := 9) 16 rfl (fun _ _ hs => Y.move rfl) hs rfl (by kernel_rfl) (by kernel_rfl) (by kernel_rfl) ?_
      refine HW.takeSY (fuel := 8) 17 rfl rfl rfl (fun _ _ hs => Y.move rfl) hs rfl (by kernel_rfl) (by kernel_rfl) (by kernel_rfl) ?_
      refine HW.takeSY (fuel := 7) 18 rfl rfl rfl (fun _ _ hs => Y.not rfl) hs rfl (by kernel_rfl) (by kernel_rfl) (by kernel_rfl) ?_
      refine HW.takeSY (fuel := 6) 19 rfl rfl rfl (fun _ _ hs => Y.move rfl) hs rfl (by kernel_rfl) (by kernel_rfl) (by kernel_rfl) ?_
      refine HW.takeSY (fuel := 5) 20 rfl rfl rfl (fun _ _ hs => Y.fieldAddr T rfl rfl rfl rfl rfl) hs rfl (by kernel_rfl) (by kernel_rfl) (by kernel_rfl) ?_
      refine HW.takeSY (fuel := 4) 21 rfl rfl rfl (fun _ _ hs => Y.loadRowN T hs 3 rfl rfl rfl rfl rfl rfl rfl) hs rfl (by kernel_rfl) (by kernel_rfl) (by kernel_rfl) ?_
      refine HW.one (fuel := 3) 22 rfl (by kernel_rfl) ?_
      refine RW.guardYes rfl rfl ?_
      obtain ⟨s69, vc69, e69, _, hv69⟩ := ha9
      cases e69
      (refine RW.call T hs rfl rfl rfl (vecKind_con _ _ _ _ hv69) ?_; intro v h69 w69 hle69 hp69 hs)
      subst hp69
      have hb11 := ArrAt.mono 1 _ _ _ _ hle69 hb11
      have hd12 := ArrAt.mono (k + 2) _ _ _ _ hle69 hd12
      have hn13 := PlainAt.mono 1 _ _ _ _ hle69 hn13
      have hp' := PlainAt.mono (k + 1) _ _ _ _ hle69 hp'
      have hn' := hn'.mono hle69
      refine RW.nil ?_
      refine heldQ_normal ⟨_, hs⟩ ?_
      refine HW.takeSY (fuel := 2) 23 rfl rfl rfl (fun _ _ hs => Y.neqF rfl rfl rfl) hs rfl (by kernel_rfl) (by kernel_rfl) (by kernel_rfl) ?_
      refine HW.takeSY (fuel := 1) 24 rfl rfl rfl (fun _ _ hs => Y.pickB rfl rfl rfl) hs rfl (by kernel_rfl) (by kernel_rfl) (by kernel_rfl) ?_
      refine HW.takeS (fuel := 0) 25 rfl (fun _ _ hs => Y.pickB rfl rfl rfl) hs rfl (by kernel_rfl) (by kernel_rfl) (by kernel_rfl) ?_
      refine HW.done (by kernel_rfl) ?_
      refine calmQ_normal ?_
      refine joinQ_meet h69 ⟨rfl, rfl, rfl, rfl, rfl, rfl, rfl, rfl, trivial⟩ ⟨hb11, hd12, hp', hn', hs⟩
  rintro h20 w20 ⟨hb11, hd12, hp', hn', hs⟩
  repeat (first | (refine A0 ?_; first | refine R1 rfl rfl ?_ | refine R2 rfl rfl ?_ | (refine A1 ?_; first | refine D3 rfl rfl ?_ | refine D4 rfl rfl rfl rfl ?_ | refine D5 rfl rfl rfl ?_ | refine E6 ?_ rfl rfl | refine E7 ?_ rfl rfl) | refine Zb ?_ rfl | (refine A3 ?_; first | refine R34 T hs 0 rfl rfl rfl rfl rfl rfl ?_ | refine R34 T hs 1 rfl rfl rfl rfl rfl rfl ?_ | refine Zk ?_ rfl) | refine Zi ?_ rfl | refine Zq ?_ rfl | refine A8 ?_) | (refine B0 ?_; first | refine B1 ?_ | refine B2 ?_ | refine B3 ?_ | refine B4 ?_ | refine B5 ?_ | refine B6 ?_ | refine B7 rfl ?_ | refine B8 rfl ?_ | refine E8 ?_ rfl | refine E9 ?_ rfl) | refine C1 ?_ | refine C2 ?_ | refine C3 ?_ | refine C4 ?_ | refine C5 ?_ | refine C6 ?_ | refine C7 ?_ | refine C8 ?_ | refine C9 ?_ | refine D1 rfl ?_ | refine D2 rfl ?_)
  refine CW.meet (fun u : GHeap => [(2, .slice ad1 l.length cp1), (7, .pointer (some ⟨b1, 0, none⟩)), (92, .bool false)]) (fun u w' => FAt u (.slice ad1 l.length cp1) l ∧ Sees w h u [⟨some ⟨b17, 0, none⟩, 1, 1, 50, 3, [.slice ad15 0 cp15, .slice ad16 1 cp16, .int .i64 0]⟩, ⟨some ⟨b13, 0, none⟩, 1, 1, 63, 9, .slice ad12 0 cp12 :: vecCells 6 wv12 nv12 sm12 il12 fl12 ch12 bx12⟩, ⟨some ⟨b9, 0, none⟩, 1, 1, 63, 9, .slice ad8 0 cp8 :: vecCells 5 wv8 nv8 sm8 il8 fl8 ch8 bx8⟩, ⟨some ⟨b6, 0, none⟩, 1, 1, 63, 9, .slice ad5 0 cp5 :: vecCells k5 wv5 nv5 sm5 il5 fl5 ch5 bx5⟩, ⟨some ⟨b1, 0, none⟩, 1, 1, 50, 3, [.slice ad p.shape.length cp, .slice ad2 p.items.length cp2, .int .i64 p.fill]⟩] w') ?_ ?_
  · refine CW.regionO T hs ?_
    intro w21 hs
    refine HW.takeS (fuel := 19) 0 rfl (fun _ _ hs => Y.loadRowN T hs 2 rfl rfl rfl rfl rfl rfl rfl) hs rfl (by kernel_rfl) (by kernel_rfl) (by kernel_rfl) ?_
    refine HW.takeS (fuel := 18) 2 rfl (fun _ _ hs => Y.move rfl) hs rfl (by kernel_rfl) (by kernel_rfl) (by kernel_rfl) ?_
    refine HW.takeS (fuel := 17) 3 rfl (fun _ _ hs => Y.build T rfl rfl rfl rfl rfl rfl rfl) hs rfl (by kernel_rfl) (by kernel_rfl) (by kernel_rfl) ?_
    refine HW.two (fuel := 16) 1 4 rfl rfl (by kernel_rfl) ?_ ?_
    · (refine RW.call T hs rfl rfl rfl (plainV_con 1 _ _ _ _ hb11 hsml11) ?_; intro v h74 w74 hle74 hp74 hs)
      obtain ⟨cs74, rfl, hq74⟩ := hp74
      rw [hpl11] at hq74
      have hb11 := ArrAt.mono 1 _ _ _ _ hle74 hb11
      have hd12 := ArrAt.mono (k + 2) _ _ _ _ hle74 hd12
      have hp' := PlainAt.mono (k + 1) _ _ _ _ hle74 hp'
      have hn' := hn'.mono hle74
      refine RW.nil ?_
      refine heldQ_normal ⟨_, hs⟩ ?_
      refine HW.one (fuel := 15) 4 rfl (by kernel_rfl) ?_
      (refine RW.lit T hs (vs := [.agg [.int .i64 1, .float .f64 0, .int .i32 c, .slice none 0 0].toArray]) (cs := [.int .i64 1, .float .f64 0, .int .i32 c, .slice none 0 0]) rfl rfl rfl rfl (by simp [Value.cells]) rfl rfl rfl rfl rfl ?_; intro b77 w77 hs)
      obtain ⟨h77, hle77, hs, hS77⟩ := hs.freeze
      have hq77 : PlainAt 1 h77 [.slice none 0 0, .slice (some ⟨b77, 0, none⟩) 1 1, .int .i64 1] (charP c) := ⟨_, _, rfl, RowAt.nil _, RowsAt.single hS77 (ItemAt.mk' (x := ⟨1, 0, c, []⟩) (RowsAt.nil _) (Nat.succ_pos _))⟩
      have hb11 := ArrAt.mono 1 _ _ _ _ hle77 hb11
      have hd12 := ArrAt.mono (k + 2) _ _ _ _ hle77 hd12
      have hp' := PlainAt.mono (k + 1) _ _ _ _ hle77 hp'
      have hn' := hn'.mono hle77
      have hq74 := PlainAt.mono 1 _ _ _ _ hle77 hq74
      refine RW.nil ?_
      refine heldQ_normal ⟨_, hs⟩ ?_
      refine HW.takeS (fuel := 14) 5 rfl (fun _ _ hs => Y.build T rfl rfl rfl rfl rfl rfl rfl) hs rfl (by kernel_rfl) (by kernel_rfl) (by kernel_rfl) ?_
      refine HW.one (fuel := 13) 6 rfl (by kernel_rfl) ?_
      (refine RW.call T hs rfl rfl rfl (refSame_con 1 _ _ _ _ _ _ hq74 hq77 htd11 htd11) ?_; intro v h79 w79 hle79 hp79 hs)
      subst hp79
      rw [eqB_of rfl]
      have hd12 := ArrAt.mono (k + 2) _ _ _ _ hle79 hd12
      have hp' := PlainAt.mono (k + 1) _ _ _ _ hle79 hp'
      have hn' := hn'.mono hle79
      refine RW.nil ?_
      refine heldQ_normal ⟨_, hs⟩ ?_
      refine HW.takeS (fuel := 12) 7 rfl (fun _ _ hs => Y.not rfl) hs rfl (by kernel_rfl) (by kernel_rfl) (by kernel_rfl) ?_
      refine HW.takeS (fuel := 11) 8 rfl (fun _ _ hs => Y.move rfl) hs rfl (by kernel_rfl) (by kernel_rfl) (by kernel_rfl) ?_
      refine HW.takeSY (fuel := 10) 9 rfl rfl rfl (fun _ _ hs => Y.loadRowN T hs 1 rfl rfl rfl rfl rfl rfl rfl) hs rfl (by kernel_rfl) (by kernel_rfl) (by kernel_rfl) ?_
      refine HW.takeSY (fuel := 9) 11 rfl rfl rfl (fun _ _ hs => Y.loadRowN T hs 4 rfl rfl rfl rfl rfl rfl rfl) hs rfl (by kernel_rfl) (by kernel_rfl) (by kernel_rfl) ?_
      refine HW.one (fuel := 8) 10 rfl (by kernel_rfl) ?_
      refine RW.guardYes rfl rfl ?_
      (refine RW.call T hs rfl rfl rfl (plainV_con (k + 2) _ _ _ _ hd12 hsml12) ?_; intro v h83 w83 hle83 hp83 hs)
      obtain ⟨cs83, rfl, hq83⟩ := hp83
      rw [hpl12] at hq83
      have hp' := PlainAt.mono (k + 1) _ _ _ _ hle83 hp'
      have hn' := hn'.mono hle83
      refine RW.nil ?_
      refine heldQ_normal ⟨_, hs⟩ ?_
      refine HW.one (fuel := 7) 12 rfl (by kernel_rfl) ?_
      refine RW.guardYes rfl rfl ?_
      (refine RW.call T hs rfl rfl rfl (refTidyP_con (k + 1) 40 _ _ _ _ hp' hc) ?_; intro v h85 w85 hle85 hp85 hs)
      obtain ⟨cs85, rfl, hq85⟩ := hp85
      have hl85 := PlainAt.siz _ _ _ _ hq85
      have hn' := hn'.mono hle85
      have hq83 := PlainAt.mono (k + 2) _ _ _ _ hle85 hq83
      refine RW.nil ?_
      refine heldQ_normal ⟨_, hs⟩ ?_
      refine HW.one (fuel := 6) 13 rfl (by kernel_rfl) ?_
      refine RW.guardYes rfl rfl ?_
      (refine RW.lit T hs (vs := [.agg cs85.toArray]) (cs := cs85) rfl rfl rfl rfl (by simp [Value.cells, hl85]) rfl (by simp [Value.cells]) rfl rfl rfl ?_; intro b86 w86 hs)
      obtain ⟨h86, hle86, hs, hS86⟩ := hs.freeze
      have hr86 : RowsAt 3 (PlainAt (k + 1) h86) h86 (.slice (some ⟨b86, 0, none⟩) 1 1) [tidy (k + 1) p] := RowsAt.single hS86 (PlainAt.mono (k + 1) _ _ _ _ hle86 hq85)
      have hn' := hn'.mono hle86
      have hq83 := PlainAt.mono (k + 2) _ _ _ _ hle86 hq83
      refine RW.nil ?_
      refine heldQ_normal ⟨_, hs⟩ ?_
      refine HW.takeSY (fuel := 5) 14 rfl rfl rfl (fun _ _ hs => Y.build T rfl rfl rfl rfl rfl rfl rfl) hs rfl (by kernel_rfl) (by kernel_rfl) (by kernel_rfl) ?_
      refine HW.one (fuel := 4) 15 rfl (by kernel_rfl) ?_
      refine RW.guardYes rfl rfl ?_
      (refine RW.lit T hs (vs := [.agg [.int .i64 2, .float .f64 0, .int .i32 0, .slice (some ⟨b86, 0, none⟩) 1 1].toArray]) (cs := [.int .i64 2, .float .f64 0, .int .i32 0, .slice (some ⟨b86, 0, none⟩) 1 1]) rfl rfl rfl rfl (by simp [Value.cells]) rfl rfl rfl rfl rfl ?_; intro b88 w88 hs)
      obtain ⟨h88, hle88, hs, hS88⟩ := hs.freeze
      have hq88 : PlainAt (k + 2) h88 [.slice none 0 0, .slice (some ⟨b88, 0, none⟩) 1 1, .int .i64 2] (boxP (tidy (k + 1) p)) := ⟨_, _, rfl, RowAt.nil _, RowsAt.single hS88 (ItemAt.mk' (x := ⟨2, 0, 0, [tidy (k + 1) p]⟩) (hr86.mono hle88 (fun u a => PlainAt.mono (k + 1) _ _ u a hle88)) (Nat.succ_pos _))⟩
      have hn' := hn'.mono hle88
      have hq83 := PlainAt.mono (k + 2) _ _ _ _ hle88 hq83
      refine RW.nil ?_
      refine heldQ_normal ⟨_, hs⟩ ?_
      refine HW.takeSY (fuel := 3) 16 rfl rfl rfl (fun _ _ hs => Y.build T rfl rfl rfl rfl rfl rfl rfl) hs rfl (by kernel_rfl) (by kernel_rfl) (by kernel_rfl) ?_
      refine HW.one (fuel := 2) 17 rfl (by kernel_rfl) ?_
      refine RW.guardYes rfl rfl ?_
      (refine RW.call T hs rfl rfl rfl (refSame_con (k + 2) _ _ _ _ _ _ hq83 hq88 htd12 htd12) ?_; intro v h90 w90 hle90 hp90 hs)
      subst hp90
      rw [eqB_of rfl]
      have hn' := hn'.mono hle90
      refine RW.nil ?_
      refine heldQ_normal ⟨_, hs⟩ ?_
      refine HW.takeSY (fuel := 1) 18 rfl rfl rfl (fun _ _ hs => Y.not rfl) hs rfl (by kernel_rfl) (by kernel_rfl) (by kernel_rfl) ?_
      refine HW.takeS (fuel := 0) 19 rfl (fun _ _ hs => Y.pickB rfl rfl rfl) hs rfl (by kernel_rfl) (by kernel_rfl) (by kernel_rfl) ?_
      refine HW.done (by kernel_rfl) ?_
      refine calmQ_normal ?_
      refine joinQ_meet h90 ⟨rfl, rfl, rfl, trivial⟩ ⟨hn', hs⟩
    · (refine RW.lit T hs (vs := [.agg [.int .i64 1, .float .f64 0, .int .i32 c, .slice none 0 0].toArray]) (cs := [.int .i64 1, .float .f64 0, .int .i32 c, .slice none 0 0]) rfl rfl rfl rfl (by simp [Value.cells]) rfl rfl rfl rfl rfl ?_; intro b77 w77 hs)
      obtain ⟨h77, hle77, hs, hS77⟩ := hs.freeze
      have hq77 : PlainAt 1 h77 [.slice none 0 0, .slice (some ⟨b77, 0, none⟩) 1 1, .int .i64 1] (charP c) := ⟨_, _, rfl, RowAt.nil _, RowsAt.single hS77 (ItemAt.mk' (x := ⟨1, 0, c, []⟩) (RowsAt.nil _) (Nat.succ_pos _))⟩
      have hb11 := ArrAt.mono 1 _ _ _ _ hle77 hb11
      have hd12 := ArrAt.mono (k + 2) _ _ _ _ hle77 hd12
      have hp' := PlainAt.mono (k + 1) _ _ _ _ hle77 hp'
      have hn' := hn'.mono hle77
      refine RW.nil ?_
      refine heldQ_normal ⟨_, hs⟩ ?_
      refine HW.takeS (fuel := 15) 5 rfl (fun _ _ hs => Y.build T rfl rfl rfl rfl rfl rfl rfl) hs rfl (by kernel_rfl) (by kernel_rfl) (by kernel_rfl) ?_
      refine HW.one (fuel := 14) 1 rfl (by kernel_rfl) ?_
      (refine RW.call T hs rfl rfl rfl (plainV_con 1 _ _ _ _ hb11 hsml11) ?_; intro v h74 w74 hle74 hp74 hs)
      obtain ⟨cs74, rfl, hq74⟩ := hp74
      rw [hpl11] at hq74
      have hb11 := ArrAt.mono 1 _ _ _ _ hle74 hb11
      have hd12 := ArrAt.mono (k + 2) _ _ _ _ hle74 hd12
      have hp' := PlainAt.mono (k + 1) _ _ _ _ hle74 hp'
      have hn' := hn'.mono hle74
      have hq77 := PlainAt.mono 1 _ _ _ _ hle74 hq77
      refine RW.nil ?_
      refine heldQ_normal ⟨_, hs⟩ ?_
      refine HW.one (fuel := 13) 6 rfl (by kernel_rfl) ?_
      (refine RW.call T hs rfl rfl rfl (refSame_con 1 _ _ _ _ _ _ hq74 hq77 htd11 htd11) ?_; intro v h79 w79 hle79 hp79 hs)
      subst hp79
      rw [eqB_of rfl]
      have hd12 := ArrAt.mono (k + 2) _ _ _ _ hle79 hd12
      have hp' := PlainAt.mono (k + 1) _ _ _ _ hle79 hp'
      have hn' := hn'.mono hle79
      refine RW.nil ?_
      refine heldQ_normal ⟨_, hs⟩ ?_
      refine HW.takeS (fuel := 12) 7 rfl (fun _ _ hs => Y.not rfl) hs rfl (by kernel_rfl) (by kernel_rfl) (by kernel_rfl) ?_
      refine HW.takeS (fuel := 11) 8 rfl (fun _ _ hs => Y.move rfl) hs rfl (by kernel_rfl) (by kernel_rfl) (by kernel_rfl) ?_
      refine HW.takeSY (fuel := 10) 9 rfl rfl rfl (fun _ _ hs => Y.loadRowN T hs 1 rfl rfl rfl rfl rfl rfl rfl) hs rfl (by kernel_rfl) (by kernel_rfl) (by kernel_rfl) ?_
      refine HW.takeSY (fuel := 9) 11 rfl rfl rfl (fun _ _ hs => Y.loadRowN T hs 4 rfl rfl rfl rfl rfl rfl rfl) hs rfl (by kernel_rfl) (by kernel_rfl) (by kernel_rfl) ?_
      refine HW.one (fuel := 8) 10 rfl (by kernel_rfl) ?_
      refine RW.guardYes rfl rfl ?_
      (refine RW.call T hs rfl rfl rfl (plainV_con (k + 2) _ _ _ _ hd12 hsml12) ?_; intro v h83 w83 hle83 hp83 hs)
      obtain ⟨cs83, rfl, hq83⟩ := hp83
      rw [hpl12] at hq83
      have hp' := PlainAt.mono (k + 1) _ _ _ _ hle83 hp'
      have hn' := hn'.mono hle83
      refine RW.nil ?_
      refine heldQ_normal ⟨_, hs⟩ ?_
      refine HW.one (fuel := 7) 12 rfl (by kernel_rfl) ?_
      refine RW.guardYes rfl rfl ?_
      (refine RW.call T hs rfl rfl rfl (refTidyP_con (k + 1) 40 _ _ _ _ hp' hc) ?_; intro v h85 w85 hle85 hp85 hs)
      obtain ⟨cs85, rfl, hq85⟩ := hp85
      have hl85 := PlainAt.siz _ _ _ _ hq85
      have hn' := hn'.mono hle85
      have hq83 := PlainAt.mono (k + 2) _ _ _ _ hle85 hq83
      refine RW.nil ?_
      refine heldQ_normal ⟨_, hs⟩ ?_
      refine HW.one (fuel := 6) 13 rfl (by kernel_rfl) ?_
      refine RW.guardYes rfl rfl ?_
      (refine RW.lit T hs (vs := [.agg cs85.toArray]) (cs := cs85) rfl rfl rfl rfl (by simp [Value.cells, hl85]) rfl (by simp [Value.cells]) rfl rfl rfl ?_; intro b86 w86 hs)
      obtain ⟨h86, hle86, hs, hS86⟩ := hs.freeze
      have hr86 : RowsAt 3 (PlainAt (k + 1) h86) h86 (.slice (some ⟨b86, 0, none⟩) 1 1) [tidy (k + 1) p] := RowsAt.single hS86 (PlainAt.mono (k + 1) _ _ _ _ hle86 hq85)
      have hn' := hn'.mono hle86
      have hq83 := PlainAt.mono (k + 2) _ _ _ _ hle86 hq83
      refine RW.nil ?_
      refine heldQ_normal ⟨_, hs⟩ ?_
      refine HW.takeSY (fuel := 5) 14 rfl rfl rfl (fun _ _ hs => Y.build T rfl rfl rfl rfl rfl rfl rfl) hs rfl (by kernel_rfl) (by kernel_rfl) (by kernel_rfl) ?_
      refine HW.one (fuel := 4) 15 rfl (by kernel_rfl) ?_
      refine RW.guardYes rfl rfl ?_
      (refine RW.lit T hs (vs := [.agg [.int .i64 2, .float .f64 0, .int .i32 0, .slice (some ⟨b86, 0, none⟩) 1 1].toArray]) (cs := [.int .i64 2, .float .f64 0, .int .i32 0, .slice (some ⟨b86, 0, none⟩) 1 1]) rfl rfl rfl rfl (by simp [Value.cells]) rfl rfl rfl rfl rfl ?_; intro b88 w88 hs)
      obtain ⟨h88, hle88, hs, hS88⟩ := hs.freeze
      have hq88 : PlainAt (k + 2) h88 [.slice none 0 0, .slice (some ⟨b88, 0, none⟩) 1 1, .int .i64 2] (boxP (tidy (k + 1) p)) := ⟨_, _, rfl, RowAt.nil _, RowsAt.single hS88 (ItemAt.mk' (x := ⟨2, 0, 0, [tidy (k + 1) p]⟩) (hr86.mono hle88 (fun u a => PlainAt.mono (k + 1) _ _ u a hle88)) (Nat.succ_pos _))⟩
      have hn' := hn'.mono hle88
      have hq83 := PlainAt.mono (k + 2) _ _ _ _ hle88 hq83
      refine RW.nil ?_
      refine heldQ_normal ⟨_, hs⟩ ?_
      refine HW.takeSY (fuel := 3) 16 rfl rfl rfl (fun _ _ hs => Y.build T rfl rfl rfl rfl rfl rfl rfl) hs rfl (by kernel_rfl) (by kernel_rfl) (by kernel_rfl) ?_
      refine HW.one (fuel := 2) 17 rfl (by kernel_rfl) ?_
      refine RW.guardYes rfl rfl ?_
      (refine RW.call T hs rfl rfl rfl (refSame_con (k + 2) _ _ _ _ _ _ hq83 hq88 htd12 htd12) ?_; intro v h90 w90 hle90 hp90 hs)
      subst hp90
      rw [eqB_of rfl]
      have hn' := hn'.mono hle90
      refine RW.nil ?_
      refine heldQ_normal ⟨_, hs⟩ ?_
      refine HW.takeSY (fuel := 1) 18 rfl rfl rfl (fun _ _ hs => Y.not rfl) hs rfl (by kernel_rfl) (by kernel_rfl) (by kernel_rfl) ?_
      refine HW.takeS (fuel := 0) 19 rfl (fun _ _ hs => Y.pickB rfl rfl rfl) hs rfl (by kernel_rfl) (by kernel_rfl) (by kernel_rfl) ?_
      refine HW.done (by kernel_rfl) ?_
      refine calmQ_normal ?_
      refine joinQ_meet h90 ⟨rfl, rfl, rfl, trivial⟩ ⟨hn', hs⟩
  rintro h22 w22 ⟨hn', hs⟩
  repeat (first | (refine A0 ?_; first | refine R1 rfl rfl ?_ | refine R2 rfl rfl ?_ | (refine A1 ?_; first | refine D3 rfl rfl ?_ | refine D4 rfl rfl rfl rfl ?_ | refine D5 rfl rfl rfl ?_ | refine E6 ?_ rfl rfl | refine E7 ?_ rfl rfl) | refine Zb ?_ rfl | (refine A3 ?_; first | refine R34 T hs 0 rfl rfl rfl rfl rfl rfl ?_ | refine R34 T hs 1 rfl rfl rfl rfl rfl rfl ?_ | refine Zk ?_ rfl) | refine Zi ?_ rfl | refine Zq ?_ rfl | refine A8 ?_) | (refine B0 ?_; first | refine B1 ?_ | refine B2 ?_ | refine B3 ?_ | refine B4 ?_ | refine B5 ?_ | refine B6 ?_ | refine B7 rfl ?_ | refine B8 rfl ?_ | refine E8 ?_ rfl | refine E9 ?_ rfl) | refine C1 ?_ | refine C2 ?_ | refine C3 ?_ | refine C4 ?_ | refine C5 ?_ | refine C6 ?_ | refine C7 ?_ | refine C8 ?_ | refine C9 ?_ | refine D1 rfl ?_ | refine D2 rfl ?_)
  (refine RW.call T hs rfl rfl rfl (vecFloats_con (R := ArrAt 0) _ l _ _ hn' hl64 (by omega)) ?_; intro v h23 w23 hle23 hp23 hs)
  obtain ⟨cs23, ok, rfl, hok, hv23⟩ := hp23
  have hn' := hn'.mono hle23
  have hv23' := hv23
  obtain ⟨wv, nv, sm, il, fl, ch, bx, ⟨hcs23, hoc23⟩, _⟩ := hv23
  generalize hvk : (if ok = true then (⟨4, l.map tidyW, [], []⟩ : VecD (AD 0)) else VecD.none).kind = vk at hcs23
  subst hcs23
  repeat (first | (refine A0 ?_; first | refine R1 rfl rfl ?_ | refine R2 rfl rfl ?_ | (refine A1 ?_; first | refine D3 rfl rfl ?_ | refine D4 rfl rfl rfl rfl ?_ | refine D5 rfl rfl rfl ?_ | refine E6 ?_ rfl rfl | refine E7 ?_ rfl rfl) | refine Zb ?_ rfl | (refine A3 ?_; first | refine R34 T hs 0 rfl rfl rfl rfl rfl rfl ?_ | refine R34 T hs 1 rfl rfl rfl rfl rfl rfl ?_ | refine Zk ?_ rfl) | refine Zi ?_ rfl | refine Zq ?_ rfl | refine A8 ?_) | (refine B0 ?_; first | refine B1 ?_ | refine B2 ?_ | refine B3 ?_ | refine B4 ?_ | refine B5 ?_ | refine B6 ?_ | refine B7 rfl ?_ | refine B8 rfl ?_ | refine E8 ?_ rfl | refine E9 ?_ rfl) | refine C1 ?_ | refine C2 ?_ | refine C3 ?_ | refine C4 ?_ | refine C5 ?_ | refine C6 ?_ | refine C7 ?_ | refine C8 ?_ | refine C9 ?_ | refine D1 rfl ?_ | refine D2 rfl ?_)
  (refine RW.allocN T hs rfl rfl rfl rfl ?_; intro b24 w24 hs)
  (refine RW.storeAll T hs 0 rfl rfl rfl rfl rfl rfl hoc23 rfl ?_; intro w25 hs)
  repeat (first | (refine A0 ?_; first | refine R1 rfl rfl ?_ | refine R2 rfl rfl ?_ | (refine A1 ?_; first | refine D3 rfl rfl ?_ | refine D4 rfl rfl rfl rfl ?_ | refine D5 rfl rfl rfl ?_ | refine E6 ?_ rfl rfl | refine E7 ?_ rfl rfl) | refine Zb ?_ rfl | (refine A3 ?_; first | refine R34 T hs 0 rfl rfl rfl rfl rfl rfl ?_ | refine R34 T hs 1 rfl rfl rfl rfl rfl rfl ?_ | refine Zk ?_ rfl) | refine Zi ?_ rfl | refine Zq ?_ rfl | refine A8 ?_) | (refine B0 ?_; first | refine B1 ?_ | refine B2 ?_ | refine B3 ?_ | refine B4 ?_ | refine B5 ?_ | refine B6 ?_ | refine B7 rfl ?_ | refine B8 rfl ?_ | refine E8 ?_ rfl | refine E9 ?_ rfl) | refine C1 ?_ | refine C2 ?_ | refine C3 ?_ | refine C4 ?_ | refine C5 ?_ | refine C6 ?_ | refine C7 ?_ | refine C8 ?_ | refine C9 ?_ | refine D1 rfl ?_ | refine D2 rfl ?_)
  cases ok with
  | false =>
    repeat (first | (refine A0 ?_; first | refine R1 rfl rfl ?_ | refine R2 rfl rfl ?_ | (refine A1 ?_; first | refine D3 rfl rfl ?_ | refine D4 rfl rfl rfl rfl ?_ | refine D5 rfl rfl rfl ?_ | refine E6 ?_ rfl rfl | refine E7 ?_ rfl rfl) | refine Zb ?_ rfl | (refine A3 ?_; first | refine R34 T hs 0 rfl rfl rfl rfl rfl rfl ?_ | refine R34 T hs 1 rfl rfl rfl rfl rfl rfl ?_ | refine Zk ?_ rfl) | refine Zi ?_ rfl | refine Zq ?_ rfl | refine A8 ?_) | (refine B0 ?_; first | refine B1 ?_ | refine B2 ?_ | refine B3 ?_ | refine B4 ?_ | refine B5 ?_ | refine B6 ?_ | refine B7 rfl ?_ | refine B8 rfl ?_ | refine E8 ?_ rfl | refine E9 ?_ rfl) | refine C1 ?_ | refine C2 ?_ | refine C3 ?_ | refine C4 ?_ | refine C5 ?_ | refine C6 ?_ | refine C7 ?_ | refine C8 ?_ | refine C9 ?_ | refine D1 rfl ?_ | refine D2 rfl ?_)
    (refine RW.call T hs rfl rfl rfl (awake07_con _ _) ?_; intro v h26 w26 hle26 hp26 hs)
    subst hp26
    repeat (first | (refine A0 ?_; first | refine R1 rfl rfl ?_ | refine R2 rfl rfl ?_ | (refine A1 ?_; first | refine D3 rfl rfl ?_ | refine D4 rfl rfl rfl rfl ?_ | refine D5 rfl rfl rfl ?_ | refine E6 ?_ rfl rfl | refine E7 ?_ rfl rfl) | refine Zb ?_ rfl | (refine A3 ?_; first | refine R34 T hs 0 rfl rfl rfl rfl rfl rfl ?_ | refine R34 T hs 1 rfl rfl rfl rfl rfl rfl ?_ | refine Zk ?_ rfl) | refine Zi ?_ rfl | refine Zq ?_ rfl | refine A8 ?_) | (refine B0 ?_; first | refine B1 ?_ | refine B2 ?_ | refine B3 ?_ | refine B4 ?_ | refine B5 ?_ | refine B6 ?_ | refine B7 rfl ?_ | refine B8 rfl ?_ | refine E8 ?_ rfl | refine E9 ?_ rfl) | refine C1 ?_ | refine C2 ?_ | refine C3 ?_ | refine C4 ?_ | refine C5 ?_ | refine C6 ?_ | refine C7 ?_ | refine C8 ?_ | refine C9 ?_ | refine D1 rfl ?_ | refine D2 rfl ?_)
    exact retQ_ret [_] h26 ⟨rfl, trivial⟩ hs.dropAll rfl
  | true =>
    have hf : ∀ x ∈ l, finF x := of_decide_eq_true hok.symm
    rw [if_pos rfl] at hv23'
    have hc := nums_good l hf (by omega)
    have harr := numsS_arr [(l.length : Int)] l
    have hsq := sq_nums (α := AD 0) 4 (l.map tidyW) (by omega) (by omega)
    have hln : ((⟨4, l.map tidyW, [], []⟩ : VecD (AD 0)).len : Int) = l.length := by simp [VecD.len]
    repeat (first | (refine A0 ?_; first | refine R1 rfl rfl ?_ | refine R2 rfl rfl ?_ | (refine A1 ?_; first | refine D3 rfl rfl ?_ | refine D4 rfl rfl rfl rfl ?_ | refine D5 rfl rfl rfl ?_ | refine E6 ?_ rfl rfl | refine E7 ?_ rfl rfl) | refine Zb ?_ rfl | (refine A3 ?_; first | refine R34 T hs 0 rfl rfl rfl rfl rfl rfl ?_ | refine R34 T hs 1 rfl rfl rfl rfl rfl rfl ?_ | refine Zk ?_ rfl) | refine Zi ?_ rfl | refine Zq ?_ rfl | refine A8 ?_) | (refine B0 ?_; first | refine B1 ?_ | refine B2 ?_ | refine B3 ?_ | refine B4 ?_ | refine B5 ?_ | refine B6 ?_ | refine B7 rfl ?_ | refine B8 rfl ?_ | refine E8 ?_ rfl | refine E9 ?_ rfl) | refine C1 ?_ | refine C2 ?_ | refine C3 ?_ | refine C4 ?_ | refine C5 ?_ | refine C6 ?_ | refine C7 ?_ | refine C8 ?_ | refine C9 ?_ | refine D1 rfl ?_ | refine D2 rfl ?_)
    (refine RW.call T hs rfl rfl rfl (valueList_con (ArrAt.mono 0) _ _ _ _ hv23' (by simp [VecD.len]; omega)) ?_; intro v h26 w26 hle26 hp26 hs)
    obtain ⟨cs26, rfl, ha26⟩ := hp26
    rw [hln, hsq] at ha26
    have ha26 : ArrAt 1 h26 cs26 (arr 1 (numsS [(l.length : Int)] l)) := by rw [harr]; exact ha26
    have hn' := hn'.mono hle26
    have htdy27 := fun (h : GHeap) (cs : List Value) (hh : PlainAt 1 h cs (numsS [(l.length : Int)] l)) => tidy_tdy 1 40 _ h cs hh hc
    repeat (first | (refine A0 ?_; first | refine R1 rfl rfl ?_ | refine R2 rfl rfl ?_ | (refine A1 ?_; first | refine D3 rfl rfl ?_ | refine D4 rfl rfl rfl rfl ?_ | refine D5 rfl rfl rfl ?_ | refine E6 ?_ rfl rfl | refine E7 ?_ rfl rfl) | refine Zb ?_ rfl | (refine A3 ?_; first | refine R34 T hs 0 rfl rfl rfl rfl rfl rfl ?_ | refine R34 T hs 1 rfl rfl rfl rfl rfl rfl ?_ | refine Zk ?_ rfl) | refine Zi ?_ rfl | refine Zq ?_ rfl | refine A8 ?_) | (refine B0 ?_; first | refine B1 ?_ | refine B2 ?_ | refine B3 ?_ | refine B4 ?_ | refine B5 ?_ | refine B6 ?_ | refine B7 rfl ?_ | refine B8 rfl ?_ | refine E8 ?_ rfl | refine E9 ?_ rfl) | refine C1 ?_ | refine C2 ?_ | refine C3 ?_ | refine C4 ?_ | refine C5 ?_ | refine C6 ?_ | refine C7 ?_ | refine C8 ?_ | refine C9 ?_ | refine D1 rfl ?_ | refine D2 rfl ?_)
    (refine RW.call T hs rfl rfl rfl (plainV_con 1 _ _ _ _ ha26 (good_sml 1 40 _ (good_arr 1 40 _ hc))) ?_; intro v h27 w27 hle27 hp27 hs)
    obtain ⟨cs27, rfl, hq27⟩ := hp27
    rw [plain_arr 1 40 _ hc] at hq27
    have hn' := hn'.mono hle27
    repeat (first | (refine A0 ?_; first | refine R1 rfl rfl ?_ | refine R2 rfl rfl ?_ | (refine A1 ?_; first | refine D3 rfl rfl ?_ | refine D4 rfl rfl rfl rfl ?_ | refine D5 rfl rfl rfl ?_ | refine E6 ?_ rfl rfl | refine E7 ?_ rfl rfl) | refine Zb ?_ rfl | (refine A3 ?_; first | refine R34 T hs 0 rfl rfl rfl rfl rfl rfl ?_ | refine R34 T hs 1 rfl rfl rfl rfl rfl rfl ?_ | refine Zk ?_ rfl) | refine Zi ?_ rfl | refine Zq ?_ rfl | refine A8 ?_) | (refine B0 ?_; first | refine B1 ?_ | refine B2 ?_ | refine B3 ?_ | refine B4 ?_ | refine B5 ?_ | refine B6 ?_ | refine B7 rfl ?_ | refine B8 rfl ?_ | refine E8 ?_ rfl | refine E9 ?_ rfl) | refine C1 ?_ | refine C2 ?_ | refine C3 ?_ | refine C4 ?_ | refine C5 ?_ | refine C6 ?_ | refine C7 ?_ | refine C8 ?_ | refine C9 ?_ | refine D1 rfl ?_ | refine D2 rfl ?_)
    (refine RW.call T hs rfl rfl rfl (refNums_con (PlainAt.mono 0) _ l _ _ hn' hl64 (by omega)) ?_; intro v h28 w28 hle28 hp28 hs)
    obtain ⟨cs28, rfl, hq28⟩ := hp28
    have hq28 : PlainAt 1 h28 cs28 (numsS [(l.length : Int)] l) := hq28
    have hq27 := PlainAt.mono 1 _ _ _ _ hle28 hq27
    have htd := htdy27 _ _ hq28
    repeat (first | (refine A0 ?_; first | refine R1 rfl rfl ?_ | refine R2 rfl rfl ?_ | (refine A1 ?_; first | refine D3 rfl rfl ?_ | refine D4 rfl rfl rfl rfl ?_ | refine D5 rfl rfl rfl ?_ | refine E6 ?_ rfl rfl | refine E7 ?_ rfl rfl) | refine Zb ?_ rfl | (refine A3 ?_; first | refine R34 T hs 0 rfl rfl rfl rfl rfl rfl ?_ | refine R34 T hs 1 rfl rfl rfl rfl rfl rfl ?_ | refine Zk ?_ rfl) | refine Zi ?_ rfl | refine Zq ?_ rfl | refine A8 ?_) | (refine B0 ?_; first | refine B1 ?_ | refine B2 ?_ | refine B3 ?_ | refine B4 ?_ | refine B5 ?_ | refine B6 ?_ | refine B7 rfl ?_ | refine B8 rfl ?_ | refine E8 ?_ rfl | refine E9 ?_ rfl) | refine C1 ?_ | refine C2 ?_ | refine C3 ?_ | refine C4 ?_ | refine C5 ?_ | refine C6 ?_ | refine C7 ?_ | refine C8 ?_ | refine C9 ?_ | refine D1 rfl ?_ | refine D2 rfl ?_)
    (refine RW.call T hs rfl rfl rfl (refTidyP_con 1 40 _ _ _ _ hq28 hc) ?_; intro v h29 w29 hle29 hp29 hs)
    obtain ⟨cs29, rfl, hq29⟩ := hp29
    have hq27 := PlainAt.mono 1 _ _ _ _ hle29 hq27
    repeat (first | (refine A0 ?_; first | refine R1 rfl rfl ?_ | refine R2 rfl rfl ?_ | (refine A1 ?_; first | refine D3 rfl rfl ?_ | refine D4 rfl rfl rfl rfl ?_ | refine D5 rfl rfl rfl ?_ | refine E6 ?_ rfl rfl | refine E7 ?_ rfl rfl) | refine Zb ?_ rfl | (refine A3 ?_; first | refine R34 T hs 0 rfl rfl rfl rfl rfl rfl ?_ | refine R34 T hs 1 rfl rfl rfl rfl rfl rfl ?_ | refine Zk ?_ rfl) | refine Zi ?_ rfl | refine Zq ?_ rfl | refine A8 ?_) | (refine B0 ?_; first | refine B1 ?_ | refine B2 ?_ | refine B3 ?_ | refine B4 ?_ | refine B5 ?_ | refine B6 ?_ | refine B7 rfl ?_ | refine B8 rfl ?_ | refine E8 ?_ rfl | refine E9 ?_ rfl) | refine C1 ?_ | refine C2 ?_ | refine C3 ?_ | refine C4 ?_ | refine C5 ?_ | refine C6 ?_ | refine C7 ?_ | refine C8 ?_ | refine C9 ?_ | refine D1 rfl ?_ | refine D2 rfl ?_)
    (refine RW.call T hs rfl rfl rfl (refSame_con 1 _ _ _ _ _ _ hq27 hq29 htd htd) ?_; intro v h30 w30 hle30 hp30 hs)
    subst hp30
    rw [eqB_of rfl]
    repeat (first | (refine A0 ?_; first | refine R1 rfl rfl ?_ | refine R2 rfl rfl ?_ | (refine A1 ?_; first | refine D3 rfl rfl ?_ | refine D4 rfl rfl rfl rfl ?_ | refine D5 rfl rfl rfl ?_ | refine E6 ?_ rfl rfl | refine E7 ?_ rfl rfl) | refine Zb ?_ rfl | (refine A3 ?_; first | refine R34 T hs 0 rfl rfl rfl rfl rfl rfl ?_ | refine R34 T hs 1 rfl rfl rfl rfl rfl rfl ?_ | refine Zk ?_ rfl) | refine Zi ?_ rfl | refine Zq ?_ rfl | refine A8 ?_) | (refine B0 ?_; first | refine B1 ?_ | refine B2 ?_ | refine B3 ?_ | refine B4 ?_ | refine B5 ?_ | refine B6 ?_ | refine B7 rfl ?_ | refine B8 rfl ?_ | refine E8 ?_ rfl | refine E9 ?_ rfl) | refine C1 ?_ | refine C2 ?_ | refine C3 ?_ | refine C4 ?_ | refine C5 ?_ | refine C6 ?_ | refine C7 ?_ | refine C8 ?_ | refine C9 ?_ | refine D1 rfl ?_ | refine D2 rfl ?_)
    (refine RW.call T hs rfl rfl rfl (awake07_con _ _) ?_; intro v h31 w31 hle31 hp31 hs)
    subst hp31
    repeat (first | (refine A0 ?_; first | refine R1 rfl rfl ?_ | refine R2 rfl rfl ?_ | (refine A1 ?_; first | refine D3 rfl rfl ?_ | refine D4 rfl rfl rfl rfl ?_ | refine D5 rfl rfl rfl ?_ | refine E6 ?_ rfl rfl | refine E7 ?_ rfl rfl) | refine Zb ?_ rfl | (refine A3 ?_; first | refine R34 T hs 0 rfl rfl rfl rfl rfl rfl ?_ | refine R34 T hs 1 rfl rfl rfl rfl rfl rfl ?_ | refine Zk ?_ rfl) | refine Zi ?_ rfl | refine Zq ?_ rfl | refine A8 ?_) | (refine B0 ?_; first | refine B1 ?_ | refine B2 ?_ | refine B3 ?_ | refine B4 ?_ | refine B5 ?_ | refine B6 ?_ | refine B7 rfl ?_ | refine B8 rfl ?_ | refine E8 ?_ rfl | refine E9 ?_ rfl) | refine C1 ?_ | refine C2 ?_ | refine C3 ?_ | refine C4 ?_ | refine C5 ?_ | refine C6 ?_ | refine C7 ?_ | refine C8 ?_ | refine C9 ?_ | refine D1 rfl ?_ | refine D2 rfl ?_)
    exact retQ_ret [_] h31 ⟨rfl, trivial⟩ hs.dropAll rfl
end Go.Proofs.Ythbfkhklihejiaa
