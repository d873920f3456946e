/-
  Own texts of the claim, merged: Ij, Ik, Fc, Fd, Io, Ip. Lemmas of the proof; no statement is proved here.
-/
import Derived.Test.YthbfkhklihejiaaMd
/-
  Contracts of the law's own functions of layer 7: the chapter's example; the array of a plain one. No statement is proved here.
-/
namespace Go.Proofs.Ythbfkhklihejiaa
open Go Go.RowKit
set_option linter.unusedVariables false
set_option linter.unusedSimpArgs false
set_option maxHeartbeats 4000000
attribute [local irreducible] CW RW QW SW HW ConM retM heldQ calmQ elemP thenQ blockQ loopQ joinQ retQ Yields Con Sl zF magR unitF truncF fwF wholeF tidySpec elemQ rankF leastN tidyW

/-! ## Plain facts -/
theorem AllN.mem {α : Type} {sz : Nat} {R : List Value → α → Prop} : ∀ {xs : List Value} {l : List α}, AllN sz R xs l → ∀ a ∈ l, ∃ cs, R cs a
  | _, [], _, _, h => by cases h
  | xs, b :: l, h, a, ha => by
    rcases List.mem_cons.1 ha with rfl | ha
    · exact ⟨_, h.2.1⟩
    · exact AllN.mem h.2.2 a ha
theorem tidy_tdy : ∀ (k : Nat) (d : Int) (p : PD k) (h : GHeap) (cs : List Value), PlainAt k h cs p → chk k d p = 0 → tdy k (tidy k p)
  | 0, _, _, _, _, _, _ => trivial
  | k + 1, d, p, h, cs, hp, hc => by
    obtain ⟨h1, h2, h3, h4, h5⟩ := (chkP_ok (α := PD k) _ _ _).1 hc
    obtain ⟨s, it, rfl, hl, ⟨ad2, cp2, xs, rfl, hS2, hA⟩⟩ := hp
    show tdyP (tdy k) (tidyP (tidy k) p)
    intro y hy
    obtain ⟨x, hx, rfl⟩ := List.mem_map.1 hy
    obtain ⟨cx, bx, rfl, ⟨ad3, cp3, ys, rfl, hS3, hA3⟩, hn⟩ := hA.mem x hx
    obtain ⟨o1, o2, o3⟩ := h5 x hx
    unfold tidyIt
    by_cases k0 : x.kind = 0
    · rw [if_pos k0]
      exact ⟨tidyW_tidy hn (o3 k0), by simp⟩
    rw [if_neg k0]
    by_cases k1 : x.kind = 1
    · rw [if_pos k1]
      exact ⟨tidy0, by simp⟩
    rw [if_neg k1]
    by_cases k2 : x.kind = 2
    · rw [if_pos k2]
      refine ⟨tidy0, ?_⟩
      obtain ⟨b, hb, hcb⟩ := o2 k2
      intro b' hb'
      dsimp only at hb'
      rw [hb] at hb' hA3
      simp at hb'
      subst hb'
      obtain ⟨cb, hRb⟩ := hA3.mem b (by simp)
      exact tidy_tdy k (d - 1) b h cb hRb hcb
    · rw [if_neg k2]
      exact ⟨tidy0, by simp⟩
/-- the chapter's example: the identity of two rows -/
def p0 : PD 1 := (⟨[2, 2], [⟨0, 4607182418800017408, 0, []⟩, ⟨0, 0, 0, []⟩, ⟨0, 0, 0, []⟩, ⟨0, 4607182418800017408, 0, []⟩], 0⟩ : PlainD Unit)
theorem tidy1 : tidyF 4607182418800017408 := ⟨by omega, fin1, by omega⟩
theorem tidyW0 : tidyW 0 = 0 := by unfold tidyW; rw [tidySpec_of 0 tidy0]
theorem tidyW1 : tidyW 4607182418800017408 = 4607182418800017408 := by unfold tidyW; rw [tidySpec_of _ tidy1]
theorem p0_mem {x : ItemD (PD 0)} (hx : x ∈ PlainD.items (α := PD 0) p0) : x = ⟨0, 4607182418800017408, 0, []⟩ ∨ x = ⟨0, 0, 0, []⟩ := by
  have h : x ∈ ([⟨0, 4607182418800017408, 0, []⟩, ⟨0, 0, 0, []⟩, ⟨0, 0, 0, []⟩, ⟨0, 4607182418800017408, 0, []⟩] : List (ItemD (PD 0))) := hx
  simp only [List.mem_cons, List.not_mem_nil, or_false] at h
  rcases h with h | h | h | h
  · exact .inl h
  · exact .inr h
  · exact .inr h
  · exact .inl h
theorem p0_chk : chk 1 40 p0 = 0 := by
  refine (chkP_ok (α := PD 0) _ _ _).2 ⟨by omega, by decide, by decide, by decide, ?_⟩
  intro x hx
  rcases p0_mem hx with rfl | rfl
  · exact ⟨rfl, fun e => absurd e (by decide), fun _ => fin1⟩
  · exact ⟨rfl, fun e => absurd e (by decide), fun _ => fin0⟩
theorem p0_tidy : tidy 1 p0 = p0 := by
  have t1 : tidyIt (tidy 0) (⟨0, 4607182418800017408, 0, []⟩ : ItemD (PD 0)) = ⟨0, 4607182418800017408, 0, []⟩ := by unfold tidyIt; rw [if_pos rfl, tidyW1]
  have t0 : tidyIt (tidy 0) (⟨0, 0, 0, []⟩ : ItemD (PD 0)) = ⟨0, 0, 0, []⟩ := by unfold tidyIt; rw [if_pos rfl, tidyW0]
  show (⟨[2, 2], [tidyIt (tidy 0) ⟨0, 4607182418800017408, 0, []⟩, tidyIt (tidy 0) ⟨0, 0, 0, []⟩, tidyIt (tidy 0) ⟨0, 0, 0, []⟩, tidyIt (tidy 0) ⟨0, 4607182418800017408, 0, []⟩], 0⟩ : PlainD (PD 0)) = _
  rw [t1, t0]
  rfl
theorem p0_tdy : tdy 1 p0 := by
  intro x hx
  rcases p0_mem hx with rfl | rfl
  · exact ⟨tidy1, by simp⟩
  · exact ⟨tidy0, by simp⟩
theorem p0_depth : depth 1 p0 = 1 := by
  show depthP _ _ = _
  unfold depthP
  rfl
theorem p0_kind : (ArrD.vec (α := AD 0) (arr 1 p0)).kind = 1 := by
  have e : (arrV (arr 0) 0 [⟨0, 4607182418800017408, 0, []⟩, ⟨0, 0, 0, []⟩, ⟨0, 0, 0, []⟩, ⟨0, 4607182418800017408, 0, []⟩]).kind = leastN [4607182418800017408, 0, 0, 4607182418800017408] := by
    unfold arrV
    rw [if_neg (by omega), if_neg (by omega)]
    simp [tidyW0, tidyW1]
  show (arrV (arr 0) 0 [⟨0, 4607182418800017408, 0, []⟩, ⟨0, 0, 0, []⟩, ⟨0, 0, 0, []⟩, ⟨0, 4607182418800017408, 0, []⟩]).kind = 1
  rw [e]
  have h1 := (leastN_bounds [4607182418800017408, 0, 0, 4607182418800017408]).1
  have h2 : leastN [4607182418800017408, 0, 0, 4607182418800017408] ≤ 1 := by
    rw [leastN.eq_1]
    refine fold_le _ 1 1 (by omega) ?_
    intro x hx
    simp only [List.mem_cons, List.not_mem_nil, or_false] at hx
    rcases hx with rfl | rfl | rfl | rfl
    · exact (rank_bit _ tidy1).2 (.inr fw1.symm)
    · exact (rank_bit _ tidy0).2 (.inl fw0.symm)
    · exact (rank_bit _ tidy0).2 (.inl fw0.symm)
    · exact (rank_bit _ tidy1).2 (.inr fw1.symm)
  omega

theorem awake07_con (w : World) (h : GHeap) : Con Try.prog 41 [] w h (fun _ u => u = .bool true) := by
  refine Con.of_body Try.func41 rfl Try.ntmps41 rfl rfl ?_
  intro hs
  repeat (first | (refine A0 ?_; first | refine R1 rfl rfl ?_ | refine R2 rfl rfl ?_ | (refine A1 ?_; first | refine D3 rfl rfl ?_ | refine D4 rfl rfl rfl rfl ?_ | refine D5 rfl rfl rfl ?_ | refine E6 ?_ rfl rfl | refine E7 ?_ rfl rfl) | refine Zb ?_ rfl | (refine A3 ?_; first | refine R34 T hs 0 rfl rfl rfl rfl rfl rfl ?_ | refine R34 T hs 1 rfl rfl rfl rfl rfl rfl ?_ | refine Zl ?_ rfl) | refine Zi ?_ rfl | refine Zo ?_ rfl | refine A8 ?_) | (refine B0 ?_; first | refine B1 ?_ | refine B2 ?_ | refine B3 ?_ | refine B4 ?_ | refine B5 ?_ | refine B6 ?_ | refine B7 rfl ?_ | refine B8 rfl ?_ | refine E8 ?_ rfl | refine E9 ?_ rfl) | refine C1 ?_ | refine C2 ?_ | refine C3 ?_ | refine C4 ?_ | refine C5 ?_ | refine C6 ?_ | refine C7 ?_ | refine C8 ?_ | refine C9 ?_ | refine D1 rfl ?_ | refine D2 rfl ?_)
  (refine RW.lit T hs (vs := [.int .i64 2, .int .i64 2]) rfl rfl rfl rfl (by simp [Value.cells]) rfl rfl rfl rfl rfl ?_; intro b1 w1 hs)
  obtain ⟨h1, hle1, hs, hS1⟩ := hs.freeze
  have hI1 : IntsAt h1 (.slice (some ⟨b1, 0, none⟩) 2 2) [2, 2] := IntsAt.of_sl hS1
  refine RW.val (Y.build T rfl rfl rfl rfl rfl rfl rfl) rfl ?_
  refine RW.val (Y.build T rfl rfl rfl rfl rfl rfl rfl) rfl ?_
  refine RW.val (Y.build T rfl rfl rfl rfl rfl rfl rfl) rfl ?_
  refine RW.val (Y.build T rfl rfl rfl rfl rfl rfl rfl) rfl ?_
  (refine RW.lit T hs (vs := [.agg [.int .i64 0, .float .f64 4607182418800017408, .int .i32 0, .slice none 0 0].toArray, .agg [.int .i64 0, .float .f64 0, .int .i32 0, .slice none 0 0].toArray, .agg [.int .i64 0, .float .f64 0, .int .i32 0, .slice none 0 0].toArray, .agg [.int .i64 0, .float .f64 4607182418800017408, .int .i32 0, .slice none 0 0].toArray]) (cs := [.int .i64 0, .float .f64 4607182418800017408, .int .i32 0, .slice none 0 0, .int .i64 0, .float .f64 0, .int .i32 0, .slice none 0 0, .int .i64 0, .float .f64 0, .int .i32 0, .slice none 0 0, .int .i64 0, .float .f64 4607182418800017408, .int .i32 0, .slice none 0 0]) rfl rfl rfl rfl (by simp [Value.cells]) rfl rfl rfl rfl rfl ?_; intro b2 w2 hs)
  obtain ⟨h2, hle2, hs, hS2⟩ := hs.freeze
  have hp : PlainAt 1 h2 [.slice (some ⟨b1, 0, none⟩) 2 2, .slice (some ⟨b2, 0, none⟩) 4 4, .int .i64 0] p0 := by
    refine ⟨_, _, rfl, hI1.mono hle2, some ⟨b2, 0, none⟩, 4, _, rfl, hS2, ?_⟩
    refine ⟨rfl, ⟨_, rfl, RowsAt.nil _, by decide⟩, rfl, ⟨_, rfl, RowsAt.nil _, by decide⟩, rfl, ⟨_, rfl, RowsAt.nil _, by decide⟩, rfl, ⟨_, rfl, RowsAt.nil _, by decide⟩, rfl⟩
  refine RW.val (Y.build T rfl rfl rfl rfl rfl rfl rfl) rfl ?_
  (refine RW.allocN T hs rfl rfl rfl rfl ?_; intro b3 w3 hs)
  (refine RW.storeAll T hs 0 rfl rfl rfl rfl rfl rfl rfl rfl ?_; intro w4 hs)
  repeat (first | (refine A0 ?_; first | refine R1 rfl rfl ?_ | refine R2 rfl rfl ?_ | (refine A1 ?_; first | refine D3 rfl rfl ?_ | refine D4 rfl rfl rfl rfl ?_ | refine D5 rfl rfl rfl ?_ | refine E6 ?_ rfl rfl | refine E7 ?_ rfl rfl) | refine Zb ?_ rfl | (refine A3 ?_; first | refine R34 T hs 0 rfl rfl rfl rfl rfl rfl ?_ | refine R34 T hs 1 rfl rfl rfl rfl rfl rfl ?_ | refine Zk ?_ rfl) | refine Zi ?_ rfl | refine Zq ?_ rfl | refine A8 ?_) | (refine B0 ?_; first | refine B1 ?_ | refine B2 ?_ | refine B3 ?_ | refine B4 ?_ | refine B5 ?_ | refine B6 ?_ | refine B7 rfl ?_ | refine B8 rfl ?_ | refine E8 ?_ rfl | refine E9 ?_ rfl) | refine C1 ?_ | refine C2 ?_ | refine C3 ?_ | refine C4 ?_ | refine C5 ?_ | refine C6 ?_ | refine C7 ?_ | refine C8 ?_ | refine C9 ?_ | refine D1 rfl ?_ | refine D2 rfl ?_)
  (refine RW.call T hs rfl rfl rfl (valueOf_con 1 _ p0 _ _ hp) ?_; intro v h5 w5 hle5 hp5 hs)
  rw [p0_chk] at hp5
  obtain ⟨cs5, rfl, hl5, ho5, ha5, _⟩ := hp5
  have ha' := ha5 rfl
  have hp' := PlainAt.mono 1 _ _ _ _ hle5 hp
  have ha2 := ha'
  obtain ⟨s5, vc5, rfl, _, hv'⟩ := ha2
  have hv2 := hv'
  obtain ⟨wv, nv, sm, il, fl, ch, bx, ⟨rfl, _⟩, _⟩ := hv2
  repeat (first | (refine A0 ?_; first | refine R1 rfl rfl ?_ | refine R2 rfl rfl ?_ | (refine A1 ?_; first | refine D3 rfl rfl ?_ | refine D4 rfl rfl rfl rfl ?_ | refine D5 rfl rfl rfl ?_ | refine E6 ?_ rfl rfl | refine E7 ?_ rfl rfl) | refine Zb ?_ rfl | (refine A3 ?_; first | refine R34 T hs 0 rfl rfl rfl rfl rfl rfl ?_ | refine R34 T hs 1 rfl rfl rfl rfl rfl rfl ?_ | refine Zk ?_ rfl) | refine Zi ?_ rfl | refine Zq ?_ rfl | refine A8 ?_) | (refine B0 ?_; first | refine B1 ?_ | refine B2 ?_ | refine B3 ?_ | refine B4 ?_ | refine B5 ?_ | refine B6 ?_ | refine B7 rfl ?_ | refine B8 rfl ?_ | refine E8 ?_ rfl | refine E9 ?_ rfl) | refine C1 ?_ | refine C2 ?_ | refine C3 ?_ | refine C4 ?_ | refine C5 ?_ | refine C6 ?_ | refine C7 ?_ | refine C8 ?_ | refine C9 ?_ | refine D1 rfl ?_ | refine D2 rfl ?_)
  (refine RW.allocN T hs rfl rfl rfl rfl ?_; intro b6 w6 hs)
  (refine RW.storeAll T hs 0 rfl rfl rfl rfl rfl rfl (List.all_eq_true.2 ho5) rfl ?_; intro w7 hs)
  repeat (first | (refine A0 ?_; first | refine R1 rfl rfl ?_ | refine R2 rfl rfl ?_ | (refine A1 ?_; first | refine D3 rfl rfl ?_ | refine D4 rfl rfl rfl rfl ?_ | refine D5 rfl rfl rfl ?_ | refine E6 ?_ rfl rfl | refine E7 ?_ rfl rfl) | refine Zb ?_ rfl | (refine A3 ?_; first | refine R34 T hs 0 rfl rfl rfl rfl rfl rfl ?_ | refine R34 T hs 1 rfl rfl rfl rfl rfl rfl ?_ | refine Zk ?_ rfl) | refine Zi ?_ rfl | refine Zq ?_ rfl | refine A8 ?_) | (refine B0 ?_; first | refine B1 ?_ | refine B2 ?_ | refine B3 ?_ | refine B4 ?_ | refine B5 ?_ | refine B6 ?_ | refine B7 rfl ?_ | refine B8 rfl ?_ | refine E8 ?_ rfl | refine E9 ?_ rfl) | refine C1 ?_ | refine C2 ?_ | refine C3 ?_ | refine C4 ?_ | refine C5 ?_ | refine C6 ?_ | refine C7 ?_ | refine C8 ?_ | refine C9 ?_ | refine D1 rfl ?_ | refine D2 rfl ?_)
  refine CW.regionO T hs ?_
  intro w8 hs
  refine HW.takeS (fuel := 23) 0 rfl (fun _ _ hs => Y.move rfl) hs rfl (by kernel_rfl) (by kernel_rfl) (by kernel_rfl) ?_
  refine HW.takeS (fuel := 22) 1 rfl (fun _ _ hs => Y.eqT rfl rfl rfl) hs rfl (by kernel_rfl) (by kernel_rfl) (by kernel_rfl) ?_
  refine HW.takeS (fuel := 21) 2 rfl (fun _ _ hs => Y.move rfl) hs rfl (by kernel_rfl) (by kernel_rfl) (by kernel_rfl) ?_
  refine HW.takeSY (fuel := 20) 3 rfl rfl rfl (fun _ _ hs => Y.fieldAddr T rfl rfl rfl rfl rfl) hs rfl (by kernel_rfl) (by kernel_rfl) (by kernel_rfl) ?_
  refine HW.takeSY (fuel := 19) 4 rfl rfl rfl (fun _ _ hs => Y.loadRowN T hs 0 rfl rfl rfl rfl rfl rfl rfl) hs rfl (by kernel_rfl) (by kernel_rfl) (by kernel_rfl) ?_
  refine HW.one (fuel := 18) 5 rfl (by kernel_rfl) ?_
  refine RW.guardYes rfl rfl ?_
  (refine RW.call T hs rfl rfl rfl (vecKind_con _ (arr 1 p0).vec _ _ hv') ?_; intro v h21 w21 hle21 hp21 hs)
  subst hp21
  have ha' := ArrAt.mono 1 _ _ _ _ hle21 ha'
  have hv' := hv'.mono (ArrAt.mono 0) hle21
  have hp' := PlainAt.mono 1 _ _ _ _ hle21 hp'
  refine RW.nil ?_
  refine heldQ_normal ⟨_, hs⟩ ?_
  refine HW.takeSY (fuel := 17) 6 rfl rfl rfl (fun _ _ hs => Y.eqT rfl rfl p0_kind) hs rfl (by kernel_rfl) (by kernel_rfl) (by kernel_rfl) ?_
  refine HW.takeS (fuel := 16) 7 rfl (fun _ _ hs => Y.pickT rfl rfl) hs rfl (by kernel_rfl) (by kernel_rfl) (by kernel_rfl) ?_
  refine HW.takeS (fuel := 15) 8 rfl (fun _ _ hs => Y.move rfl) hs rfl (by kernel_rfl) (by kernel_rfl) (by kernel_rfl) ?_
  refine HW.takeSY (fuel := 14) 9 rfl rfl rfl (fun _ _ hs => Y.loadRowN T hs 0 rfl rfl rfl rfl rfl rfl rfl) hs rfl (by kernel_rfl) (by kernel_rfl) (by kernel_rfl) ?_
  refine HW.one (fuel := 13) 10 rfl (by kernel_rfl) ?_
  refine RW.guardYes rfl rfl ?_
  (refine RW.call T hs rfl rfl rfl (valueDepth_con 1 40 _ (arr 1 p0) _ _ (by omega) (by omega) ha' (good_arr 1 40 p0 p0_chk)) ?_; intro v h26 w26 hle26 hp26 hs)
  subst hp26
  have ha' := ArrAt.mono 1 _ _ _ _ hle26 ha'
  have hp' := PlainAt.mono 1 _ _ _ _ hle26 hp'
  refine RW.nil ?_
  refine heldQ_normal ⟨_, hs⟩ ?_
  refine HW.takeSY (fuel := 12) 11 rfl rfl rfl (fun _ _ hs => Y.eqT rfl rfl (by rw [depth_arr 1 40 p0 p0_chk, p0_depth])) hs rfl (by kernel_rfl) (by kernel_rfl) (by kernel_rfl) ?_
  refine HW.takeS (fuel := 11) 12 rfl (fun _ _ hs => Y.pickT rfl rfl) hs rfl (by kernel_rfl) (by kernel_rfl) (by kernel_rfl) ?_
  refine HW.takeS (fuel := 10) 13 rfl (fun _ _ hs => Y.move rfl) hs rfl (by kernel_rfl) (by kernel_rfl) (by kernel_rfl) ?_
  refine HW.takeSY (fuel := 9) 14 rfl rfl rfl (fun _ _ hs => Y.loadRowN T hs 0 rfl rfl rfl rfl rfl rfl rfl) hs rfl (by kernel_rfl) (by kernel_rfl) (by kernel_rfl) ?_
  refine HW.takeSY (fuel := 8) 16 rfl rfl rfl (fun _ _ hs => Y.loadRowN T hs 1 rfl rfl rfl rfl rfl rfl rfl) hs rfl (by kernel_rfl) (by kernel_rfl) (by kernel_rfl) ?_
  refine HW.one (fuel := 7) 15 rfl (by kernel_rfl) ?_
  refine RW.guardYes rfl rfl ?_
  (refine RW.call T hs rfl rfl rfl (plainV_con 1 _ (arr 1 p0) _ _ ha' (good_sml 1 40 _ (good_arr 1 40 p0 p0_chk))) ?_; intro v h31 w31 hle31 hp31 hs)
  obtain ⟨cs31, rfl, hq31⟩ := hp31
  rw [plain_arr 1 40 p0 p0_chk, p0_tidy] at hq31
  have ha' := ArrAt.mono 1 _ _ _ _ hle31 ha'
  have hp' := PlainAt.mono 1 _ _ _ _ hle31 hp'
  refine RW.nil ?_
  refine heldQ_normal ⟨_, hs⟩ ?_
  refine HW.one (fuel := 6) 17 rfl (by kernel_rfl) ?_
  refine RW.guardYes rfl rfl ?_
  (refine RW.call T hs rfl rfl rfl (refSame_con 1 _ _ p0 p0 _ _ hq31 hp' p0_tdy p0_tdy) ?_; intro v h33 w33 hle33 hp33 hs)
  subst hp33
  rw [eqB_of (show p0 = p0 from rfl)]
  have ha' := ArrAt.mono 1 _ _ _ _ hle33 ha'
  refine RW.nil ?_
  refine heldQ_normal ⟨_, hs⟩ ?_
  refine HW.takeS (fuel := 5) 18 rfl (fun _ _ hs => Y.pickT rfl rfl) hs rfl (by kernel_rfl) (by kernel_rfl) (by kernel_rfl) ?_
  refine HW.takeS (fuel := 4) 19 rfl (fun _ _ hs => Y.move rfl) hs rfl (by kernel_rfl) (by kernel_rfl) (by kernel_rfl) ?_
  refine HW.takeSY (fuel := 3) 20 rfl rfl rfl (fun _ _ hs => Y.loadRowN T hs 0 rfl rfl rfl rfl rfl rfl rfl) hs rfl (by kernel_rfl) (by kernel_rfl) (by kernel_rfl) ?_
  refine HW.one (fuel := 2) 21 rfl (by kernel_rfl) ?_
  refine RW.guardYes rfl rfl ?_
  (refine RW.call T hs rfl rfl rfl (valueGood_con 1 _ (arr 1 p0) _ _ ha') ?_; intro v h37 w37 hle37 hp37 hs)
  subst hp37
  rw [decB_of (good_arr 1 40 p0 p0_chk)]
  refine RW.nil ?_
  refine heldQ_normal ⟨_, hs⟩ ?_
  refine HW.takeS (fuel := 1) 22 rfl (fun _ _ hs => Y.pickT rfl rfl) hs rfl (by kernel_rfl) (by kernel_rfl) (by kernel_rfl) ?_
  refine HW.takeS (fuel := 0) 23 rfl (fun _ _ hs => Y.assign rfl) hs rfl (by kernel_rfl) (by kernel_rfl) (by kernel_rfl) ?_
  refine HW.done (by kernel_rfl) ?_
  refine calmQ_normal ?_
  repeat (first | (refine A0 ?_; first | refine R1 rfl rfl ?_ | refine R2 rfl rfl ?_ | (refine A1 ?_; first | refine D3 rfl rfl ?_ | refine D4 rfl rfl rfl rfl ?_ | refine D5 rfl rfl rfl ?_ | refine E6 ?_ rfl rfl | refine E7 ?_ rfl rfl) | refine Zb ?_ rfl | (refine A3 ?_; first | refine R34 T hs 0 rfl rfl rfl rfl rfl rfl ?_ | refine R34 T hs 1 rfl rfl rfl rfl rfl rfl ?_ | refine Zk ?_ rfl) | refine Zi ?_ rfl | refine Zq ?_ rfl | refine A8 ?_) | (refine B0 ?_; first | refine B1 ?_ | refine B2 ?_ | refine B3 ?_ | refine B4 ?_ | refine B5 ?_ | refine B6 ?_ | refine B7 rfl ?_ | refine B8 rfl ?_ | refine E8 ?_ rfl | refine E9 ?_ rfl) | refine C1 ?_ | refine C2 ?_ | refine C3 ?_ | refine C4 ?_ | refine C5 ?_ | refine C6 ?_ | refine C7 ?_ | refine C8 ?_ | refine C9 ?_ | refine D1 rfl ?_ | refine D2 rfl ?_)
  exact retQ_ret [_] h37 ⟨rfl, trivial⟩ hs.dropAll rfl
theorem of07_con (k : Nat) (cs : List Value) (p : PD k) (w : World) (h : GHeap) (hp : PlainAt k h cs p) (hc : chk k 40 p = 0) : Con Try.prog 56 [.agg cs.toArray] w h (fun h' u => ∃ cs', u = .agg cs'.toArray ∧ cs'.length = 9 ∧ (∀ u ∈ cs', u.oneCell' = true) ∧ ArrAt k h' cs' (arr k p)) := by
  have hp' := hp
  cases k with
  | zero => exact hp.elim
  | succ k =>
    obtain ⟨s, it, rfl, _⟩ := hp
    refine Con.of_body Try.func56 rfl Try.ntmps56 rfl rfl ?_
    intro hs
    repeat (first | (refine A0 ?_; first | refine R1 rfl rfl ?_ | refine R2 rfl rfl ?_ | (refine A1 ?_; first | refine D3 rfl rfl ?_ | refine D4 rfl rfl rfl rfl ?_ | refine D5 rfl rfl rfl ?_ | refine E6 ?_ rfl rfl | refine E7 ?_ rfl rfl) | refine Zb ?_ rfl | (refine A3 ?_; first | refine R34 T hs 0 rfl rfl rfl rfl rfl rfl ?_ | refine R34 T hs 1 rfl rfl rfl rfl rfl rfl ?_ | refine Zl ?_ rfl) | refine Zi ?_ rfl | refine Zo ?_ rfl | refine A8 ?_) | (refine B0 ?_; first | refine B1 ?_ | refine B2 ?_ | refine B3 ?_ | refine B4 ?_ | refine B5 ?_ | refine B6 ?_ | refine B7 rfl ?_ | refine B8 rfl ?_ | refine E8 ?_ rfl | refine E9 ?_ rfl) | refine C1 ?_ | refine C2 ?_ | refine C3 ?_ | refine C4 ?_ | refine C5 ?_ | refine C6 ?_ | refine C7 ?_ | refine C8 ?_ | refine C9 ?_ | refine D1 rfl ?_ | refine D2 rfl ?_)
    (refine RW.boxN hs rfl rfl ?_; intro b1 w1 hs)
    (refine RW.allocN T hs rfl rfl rfl rfl ?_; intro b2 w2 hs)
    repeat (first | (refine A0 ?_; first | refine R1 rfl rfl ?_ | refine R2 rfl rfl ?_ | (refine A1 ?_; first | refine D3 rfl rfl ?_ | refine D4 rfl rfl rfl rfl ?_ | refine D5 rfl rfl rfl ?_ | refine E6 ?_ rfl rfl | refine E7 ?_ rfl rfl) | refine Zb ?_ rfl | (refine A3 ?_; first | refine R34 T hs 0 rfl rfl rfl rfl rfl rfl ?_ | refine R34 T hs 1 rfl rfl rfl rfl rfl rfl ?_ | refine Zk ?_ rfl) | refine Zi ?_ rfl | refine Zq ?_ rfl | refine A8 ?_) | (refine B0 ?_; first | refine B1 ?_ | refine B2 ?_ | refine B3 ?_ | refine B4 ?_ | refine B5 ?_ | refine B6 ?_ | refine B7 rfl ?_ | refine B8 rfl ?_ | refine E8 ?_ rfl | refine E9 ?_ rfl) | refine C1 ?_ | refine C2 ?_ | refine C3 ?_ | refine C4 ?_ | refine C5 ?_ | refine C6 ?_ | refine C7 ?_ | refine C8 ?_ | refine C9 ?_ | refine D1 rfl ?_ | refine D2 rfl ?_)
    (refine RW.call T hs rfl rfl rfl (valueOf_con _ _ _ _ _ hp') ?_; intro v h3 w3 hle3 hp3 hs)
    rw [hc] at hp3
    obtain ⟨cs3, rfl, hl3, ho3, hz3, hn3⟩ := hp3
    repeat (first | (refine A0 ?_; first | refine R1 rfl rfl ?_ | refine R2 rfl rfl ?_ | (refine A1 ?_; first | refine D3 rfl rfl ?_ | refine D4 rfl rfl rfl rfl ?_ | refine D5 rfl rfl rfl ?_ | refine E6 ?_ rfl rfl | refine E7 ?_ rfl rfl) | refine Zb ?_ rfl | (refine A3 ?_; first | refine R34 T hs 0 rfl rfl rfl rfl rfl rfl ?_ | refine R34 T hs 1 rfl rfl rfl rfl rfl rfl ?_ | refine Zk ?_ rfl) | refine Zi ?_ rfl | refine Zq ?_ rfl | refine A8 ?_) | (refine B0 ?_; first | refine B1 ?_ | refine B2 ?_ | refine B3 ?_ | refine B4 ?_ | refine B5 ?_ | refine B6 ?_ | refine B7 rfl ?_ | refine B8 rfl ?_ | refine E8 ?_ rfl | refine E9 ?_ rfl) | refine C1 ?_ | refine C2 ?_ | refine C3 ?_ | refine C4 ?_ | refine C5 ?_ | refine C6 ?_ | refine C7 ?_ | refine C8 ?_ | refine C9 ?_ | refine D1 rfl ?_ | refine D2 rfl ?_)
    (refine RW.allocN T hs rfl rfl rfl rfl ?_; intro b4 w4 hs)
    refine RW.storeAll T hs 0 rfl rfl rfl rfl rfl hl3 (List.all_eq_true.2 ho3) hl3 ?_
    intro w5 hs
    repeat (first | (refine A0 ?_; first | refine R1 rfl rfl ?_ | refine R2 rfl rfl ?_ | (refine A1 ?_; first | refine D3 rfl rfl ?_ | refine D4 rfl rfl rfl rfl ?_ | refine D5 rfl rfl rfl ?_ | refine E6 ?_ rfl rfl | refine E7 ?_ rfl rfl) | refine Zb ?_ rfl | (refine A3 ?_; first | refine R34 T hs 0 rfl rfl rfl rfl rfl rfl ?_ | refine R34 T hs 1 rfl rfl rfl rfl rfl rfl ?_ | refine Zk ?_ rfl) | refine Zi ?_ rfl | refine Zq ?_ rfl | refine A8 ?_) | (refine B0 ?_; first | refine B1 ?_ | refine B2 ?_ | refine B3 ?_ | refine B4 ?_ | refine B5 ?_ | refine B6 ?_ | refine B7 rfl ?_ | refine B8 rfl ?_ | refine E8 ?_ rfl | refine E9 ?_ rfl) | refine C1 ?_ | refine C2 ?_ | refine C3 ?_ | refine C4 ?_ | refine C5 ?_ | refine C6 ?_ | refine C7 ?_ | refine C8 ?_ | refine C9 ?_ | refine D1 rfl ?_ | refine D2 rfl ?_)
    refine RW.val (Y.loadRowN (cs := cs3) T hs 0 rfl rfl rfl rfl rfl (List.take_of_length_le (by rw [List.drop_zero]; exact Nat.le_of_eq hl3)) hl3) rfl ?_
    refine RW.storeAll T hs 1 rfl rfl rfl rfl rfl hl3 (List.all_eq_true.2 ho3) hl3 ?_
    intro w6 hs
    repeat (first | (refine A0 ?_; first | refine R1 rfl rfl ?_ | refine R2 rfl rfl ?_ | (refine A1 ?_; first | refine D3 rfl rfl ?_ | refine D4 rfl rfl rfl rfl ?_ | refine D5 rfl rfl rfl ?_ | refine E6 ?_ rfl rfl | refine E7 ?_ rfl rfl) | refine Zb ?_ rfl | (refine A3 ?_; first | refine R34 T hs 0 rfl rfl rfl rfl rfl rfl ?_ | refine R34 T hs 1 rfl rfl rfl rfl rfl rfl ?_ | refine Zk ?_ rfl) | refine Zi ?_ rfl | refine Zq ?_ rfl | refine A8 ?_) | (refine B0 ?_; first | refine B1 ?_ | refine B2 ?_ | refine B3 ?_ | refine B4 ?_ | refine B5 ?_ | refine B6 ?_ | refine B7 rfl ?_ | refine B8 rfl ?_ | refine E8 ?_ rfl | refine E9 ?_ rfl) | refine C1 ?_ | refine C2 ?_ | refine C3 ?_ | refine C4 ?_ | refine C5 ?_ | refine C6 ?_ | refine C7 ?_ | refine C8 ?_ | refine C9 ?_ | refine D1 rfl ?_ | refine D2 rfl ?_)
    exact retQ_ret [_] h3 ⟨resN T hs 1 rfl rfl rfl rfl rfl hl3, trivial⟩ hs.dropAll ⟨_, rfl, hl3, ho3, hz3 rfl⟩
end Go.Proofs.Ythbfkhklihejiaa

/-
  Contracts of the law's own functions of layer 7: which plain arrays are arrays. No statement is proved here.
-/
namespace Go.Proofs.Ythbfkhklihejiaa
open Go Go.RowKit
set_option linter.unusedVariables false
set_option linter.unusedSimpArgs false
set_option maxHeartbeats 4000000
attribute [local irreducible] CW RW QW SW HW ConM retM heldQ calmQ elemP thenQ blockQ loopQ joinQ retQ Yields Con Sl zF magR unitF truncF fwF wholeF tidySpec elemQ rankF leastN tidyW

theorem Y.eqlBT {P : Program} (T : Tab P) {n : Nat} {L : Env} {w : World} {ty : TypeId} {x y : Operand} {t yt : TypeId} {b b' : Bool} (hT : T.ty t = some .bool) (hx : opv L x = some (.bool b)) (hy : opv L y = some (.bool b')) (h : b = b') : Yields P n L w (.binOp .eql t x y yt) ty (.bool true) := by
  have := Y.eqlB (P := P) (n := n) (w := w) (ty := ty) (yt := yt) T hT hx hy
  rw [h] at this
  simpa using this
theorem zeroArr_at (k : Nat) (h : GHeap) : ArrAt (k + 1) h zeroArr (⟨[], VecD.none⟩ : ArrD (AD k)) := ⟨_, _, rfl, RowAt.nil h, vecNone h⟩
theorem zeroArr_bad (k : Nat) (d : Int) : ¬ good (k + 1) d (⟨[], VecD.none⟩ : ArrD (AD k)) := fun g => g.2.1 rfl
theorem valueOfLaw_con (k : Nat) (cs : List Value) (p : PD (k + 1)) (w : World) (h : GHeap) (hp : PlainAt (k + 1) h cs p) : Con Try.prog 7 [.agg cs.toArray] w h (fun _ u => u = .bool true) := by
  have hp' := hp
  obtain ⟨s, it, rfl, ⟨ad, cp, rfl, hS⟩, ⟨ad2, cp2, xs, rfl, hS2, hA⟩⟩ := hp
  refine Con.of_body Try.func7 rfl Try.ntmps7 rfl rfl ?_
  intro hs
  repeat (first | (refine A0 ?_; first | refine R1 rfl rfl ?_ | refine R2 rfl rfl ?_ | (refine A1 ?_; first | refine D3 rfl rfl ?_ | refine D4 rfl rfl rfl rfl ?_ | refine D5 rfl rfl rfl ?_ | refine E6 ?_ rfl rfl | refine E7 ?_ rfl rfl) | refine Zb ?_ rfl | (refine A3 ?_; first | refine R34 T hs 0 rfl rfl rfl rfl rfl rfl ?_ | refine R34 T hs 1 rfl rfl rfl rfl rfl rfl ?_ | refine Zl ?_ rfl) | refine Zi ?_ rfl | refine Zo ?_ rfl | refine A8 ?_) | (refine B0 ?_; first | refine B1 ?_ | refine B2 ?_ | refine B3 ?_ | refine B4 ?_ | refine B5 ?_ | refine B6 ?_ | refine B7 rfl ?_ | refine B8 rfl ?_ | refine E8 ?_ rfl | refine E9 ?_ rfl) | refine C1 ?_ | refine C2 ?_ | refine C3 ?_ | refine C4 ?_ | refine C5 ?_ | refine C6 ?_ | refine C7 ?_ | refine C8 ?_ | refine C9 ?_ | refine D1 rfl ?_ | refine D2 rfl ?_)
  (refine RW.boxN hs rfl rfl ?_; intro b1 w1 hs)
  repeat (first | (refine A0 ?_; first | refine R1 rfl rfl ?_ | refine R2 rfl rfl ?_ | (refine A1 ?_; first | refine D3 rfl rfl ?_ | refine D4 rfl rfl rfl rfl ?_ | refine D5 rfl rfl rfl ?_ | refine E6 ?_ rfl rfl | refine E7 ?_ rfl rfl) | refine Zb ?_ rfl | (refine A3 ?_; first | refine R34 T hs 0 rfl rfl rfl rfl rfl rfl ?_ | refine R34 T hs 1 rfl rfl rfl rfl rfl rfl ?_ | refine Zk ?_ rfl) | refine Zi ?_ rfl | refine Zq ?_ rfl | refine A8 ?_) | (refine B0 ?_; first | refine B1 ?_ | refine B2 ?_ | refine B3 ?_ | refine B4 ?_ | refine B5 ?_ | refine B6 ?_ | refine B7 rfl ?_ | refine B8 rfl ?_ | refine E8 ?_ rfl | refine E9 ?_ rfl) | refine C1 ?_ | refine C2 ?_ | refine C3 ?_ | refine C4 ?_ | refine C5 ?_ | refine C6 ?_ | refine C7 ?_ | refine C8 ?_ | refine C9 ?_ | refine D1 rfl ?_ | refine D2 rfl ?_)
  (refine RW.call T hs rfl rfl rfl (refCount_con 3000 (k + 1) _ p _ _ hp') ?_; intro v h2 w2 hle2 hp2 hs)
  obtain ⟨r, rfl⟩ := hp2
  have hp' := PlainAt.mono (k + 1) _ _ _ _ hle2 hp'
  by_cases c1 : 2000 < r
  · repeat (first | (refine A0 ?_; first | refine R1 rfl rfl ?_ | refine R2 rfl rfl ?_ | (refine A1 ?_; first | refine D3 rfl rfl ?_ | refine D4 rfl rfl rfl rfl ?_ | refine D5 rfl rfl rfl ?_ | refine E6 ?_ rfl rfl | refine E7 ?_ rfl rfl) | refine Zb ?_ rfl | (refine A3 ?_; first | refine R34 T hs 0 rfl rfl rfl rfl rfl rfl ?_ | refine R34 T hs 1 rfl rfl rfl rfl rfl rfl ?_ | refine Zk ?_ rfl) | refine Zi ?_ rfl | refine Zq ?_ rfl | refine A8 ?_) | (refine B0 ?_; first | refine B1 ?_ | refine B2 ?_ | refine B3 ?_ | refine B4 ?_ | refine B5 ?_ | refine B6 ?_ | refine B7 rfl ?_ | refine B8 rfl ?_ | refine E8 ?_ rfl | refine E9 ?_ rfl) | refine C1 ?_ | refine C2 ?_ | refine C3 ?_ | refine C4 ?_ | refine C5 ?_ | refine C6 ?_ | refine C7 ?_ | refine C8 ?_ | refine C9 ?_ | refine D1 rfl ?_ | refine D2 rfl ?_)
    (refine RW.call T hs rfl rfl rfl (awake07_con _ _) ?_; intro v h3 w3 hle3 hp3 hs)
    subst hp3
    repeat (first | (refine A0 ?_; first | refine R1 rfl rfl ?_ | refine R2 rfl rfl ?_ | (refine A1 ?_; first | refine D3 rfl rfl ?_ | refine D4 rfl rfl rfl rfl ?_ | refine D5 rfl rfl rfl ?_ | refine E6 ?_ rfl rfl | refine E7 ?_ rfl rfl) | refine Zb ?_ rfl | (refine A3 ?_; first | refine R34 T hs 0 rfl rfl rfl rfl rfl rfl ?_ | refine R34 T hs 1 rfl rfl rfl rfl rfl rfl ?_ | refine Zk ?_ rfl) | refine Zi ?_ rfl | refine Zq ?_ rfl | refine A8 ?_) | (refine B0 ?_; first | refine B1 ?_ | refine B2 ?_ | refine B3 ?_ | refine B4 ?_ | refine B5 ?_ | refine B6 ?_ | refine B7 rfl ?_ | refine B8 rfl ?_ | refine E8 ?_ rfl | refine E9 ?_ rfl) | refine C1 ?_ | refine C2 ?_ | refine C3 ?_ | refine C4 ?_ | refine C5 ?_ | refine C6 ?_ | refine C7 ?_ | refine C8 ?_ | refine C9 ?_ | refine D1 rfl ?_ | refine D2 rfl ?_)
    exact retQ_ret [_] h3 ⟨rfl, trivial⟩ hs.dropAll rfl
  repeat (first | (refine A0 ?_; first | refine R1 rfl rfl ?_ | refine R2 rfl rfl ?_ | (refine A1 ?_; first | refine D3 rfl rfl ?_ | refine D4 rfl rfl rfl rfl ?_ | refine D5 rfl rfl rfl ?_ | refine E6 ?_ rfl rfl | refine E7 ?_ rfl rfl) | refine Zb ?_ rfl | (refine A3 ?_; first | refine R34 T hs 0 rfl rfl rfl rfl rfl rfl ?_ | refine R34 T hs 1 rfl rfl rfl rfl rfl rfl ?_ | refine Zk ?_ rfl) | refine Zi ?_ rfl | refine Zq ?_ rfl | refine A8 ?_) | (refine B0 ?_; first | refine B1 ?_ | refine B2 ?_ | refine B3 ?_ | refine B4 ?_ | refine B5 ?_ | refine B6 ?_ | refine B7 rfl ?_ | refine B8 rfl ?_ | refine E8 ?_ rfl | refine E9 ?_ rfl) | refine C1 ?_ | refine C2 ?_ | refine C3 ?_ | refine C4 ?_ | refine C5 ?_ | refine C6 ?_ | refine C7 ?_ | refine C8 ?_ | refine C9 ?_ | refine D1 rfl ?_ | refine D2 rfl ?_)
  (refine RW.call T hs rfl rfl rfl (valueOf_con (k + 1) _ p _ _ hp') ?_; intro v h3 w3 hle3 hp3 hs)
  obtain ⟨cs3, rfl, hl3, ho3, hz3, hn3⟩ := hp3
  have hp' := PlainAt.mono (k + 1) _ _ _ _ hle3 hp'
  repeat (first | (refine A0 ?_; first | refine R1 rfl rfl ?_ | refine R2 rfl rfl ?_ | (refine A1 ?_; first | refine D3 rfl rfl ?_ | refine D4 rfl rfl rfl rfl ?_ | refine D5 rfl rfl rfl ?_ | refine E6 ?_ rfl rfl | refine E7 ?_ rfl rfl) | refine Zb ?_ rfl | (refine A3 ?_; first | refine R34 T hs 0 rfl rfl rfl rfl rfl rfl ?_ | refine R34 T hs 1 rfl rfl rfl rfl rfl rfl ?_ | refine Zk ?_ rfl) | refine Zi ?_ rfl | refine Zq ?_ rfl | refine A8 ?_) | (refine B0 ?_; first | refine B1 ?_ | refine B2 ?_ | refine B3 ?_ | refine B4 ?_ | refine B5 ?_ | refine B6 ?_ | refine B7 rfl ?_ | refine B8 rfl ?_ | refine E8 ?_ rfl | refine E9 ?_ rfl) | refine C1 ?_ | refine C2 ?_ | refine C3 ?_ | refine C4 ?_ | refine C5 ?_ | refine C6 ?_ | refine C7 ?_ | refine C8 ?_ | refine C9 ?_ | refine D1 rfl ?_ | refine D2 rfl ?_)
  (refine RW.allocN T hs rfl rfl rfl rfl ?_; intro b4 w4 hs)
  refine RW.storeAll T hs 0 rfl rfl rfl rfl rfl hl3 (List.all_eq_true.2 ho3) hl3 ?_
  intro w5 hs
  repeat (first | (refine A0 ?_; first | refine R1 rfl rfl ?_ | refine R2 rfl rfl ?_ | (refine A1 ?_; first | refine D3 rfl rfl ?_ | refine D4 rfl rfl rfl rfl ?_ | refine D5 rfl rfl rfl ?_ | refine E6 ?_ rfl rfl | refine E7 ?_ rfl rfl) | refine Zb ?_ rfl | (refine A3 ?_; first | refine R34 T hs 0 rfl rfl rfl rfl rfl rfl ?_ | refine R34 T hs 1 rfl rfl rfl rfl rfl rfl ?_ | refine Zk ?_ rfl) | refine Zi ?_ rfl | refine Zq ?_ rfl | refine A8 ?_) | (refine B0 ?_; first | refine B1 ?_ | refine B2 ?_ | refine B3 ?_ | refine B4 ?_ | refine B5 ?_ | refine B6 ?_ | refine B7 rfl ?_ | refine B8 rfl ?_ | refine E8 ?_ rfl | refine E9 ?_ rfl) | refine C1 ?_ | refine C2 ?_ | refine C3 ?_ | refine C4 ?_ | refine C5 ?_ | refine C6 ?_ | refine C7 ?_ | refine C8 ?_ | refine C9 ?_ | refine D1 rfl ?_ | refine D2 rfl ?_)
  (refine RW.call T hs rfl rfl rfl (refCheck_con (k + 1) _ p _ _ hp') ?_; intro v h6 w6 hle6 hp6 hs)
  subst hp6
  have hp' := PlainAt.mono (k + 1) _ _ _ _ hle6 hp'
  by_cases hc : chk (k + 1) 40 p = 0
  · have ha3 := ArrAt.mono (k + 1) _ _ _ _ hle6 (hz3 hc)
    have hgood := good_arr (k + 1) 40 p hc
    have hsml := good_sml (k + 1) 40 _ hgood
    have htdy := tidy_tdy (k + 1) 40 p _ _ hp' hc
    have hdep := depth_arr (k + 1) 40 p hc
    have hsing : decide ((ArrD.vec (α := AD k) (arr (k + 1) p)).len = 1) = decide (((PlainD.items (α := PD k) p).length : Int) = 1) := by
      have e : (ArrD.vec (α := AD k) (arr (k + 1) p)).len = (PlainD.items (α := PD k) p).length := by
        obtain ⟨_, _, _, _, h5⟩ := (chkP_ok (α := PD k) _ _ _).1 hc
        exact len_arrV (arr k) _ _ _ h5
      rw [e, decide_eq_decide]; omega
    have ha' := ha3
    obtain ⟨s5, vc5, rfl, hl5, hv5⟩ := ha3
    obtain ⟨ad5, cp5, rfl, _⟩ := hl5
    obtain ⟨wv, nv, sm, il, fl, ch, bx, ⟨rfl, _⟩, _⟩ := hv5
    repeat (first | (refine A0 ?_; first | refine R1 rfl rfl ?_ | refine R2 rfl rfl ?_ | (refine A1 ?_; first | refine D3 rfl rfl ?_ | refine D4 rfl rfl rfl rfl ?_ | refine D5 rfl rfl rfl ?_ | refine E6 ?_ rfl rfl | refine E7 ?_ rfl rfl) | refine Zb ?_ rfl | (refine A3 ?_; first | refine R34 T hs 0 rfl rfl rfl rfl rfl rfl ?_ | refine R34 T hs 1 rfl rfl rfl rfl rfl rfl ?_ | refine Zk ?_ rfl) | refine Zi ?_ rfl | refine Zq ?_ rfl | refine A8 ?_) | (refine B0 ?_; first | refine B1 ?_ | refine B2 ?_ | refine B3 ?_ | refine B4 ?_ | refine B5 ?_ | refine B6 ?_ | refine B7 rfl ?_ | refine B8 rfl ?_ | refine E8 ?_ rfl | refine E9 ?_ rfl) | refine C1 ?_ | refine C2 ?_ | refine C3 ?_ | refine C4 ?_ | refine C5 ?_ | refine C6 ?_ | refine C7 ?_ | refine C8 ?_ | refine C9 ?_ | refine D1 rfl ?_ | refine D2 rfl ?_)
    · refine CW.regionO T hs ?_
      intro w8 hs
      refine HW.takeS (fuel := 36) 0 rfl (fun _ _ hs => Y.loadRowN T hs 0 rfl rfl rfl rfl rfl rfl rfl) hs rfl (by kernel_rfl) (by kernel_rfl) (by kernel_rfl) ?_
      refine HW.one (fuel := 35) 1 rfl (by kernel_rfl) ?_
      (refine RW.call T hs rfl rfl rfl (valueGood_con (k + 1) _ (arr (k + 1) p) _ _ ha') ?_; intro v h39 w39 hle39 hp39 hs)
      subst hp39
      rw [decB_of hgood]
      have ha' := ArrAt.mono (k + 1) _ _ _ _ hle39 ha'
      have hp' := PlainAt.mono (k + 1) _ _ _ _ hle39 hp'
      refine RW.nil ?_
      refine heldQ_normal ⟨_, hs⟩ ?_
      refine HW.takeS (fuel := 34) 2 rfl (fun _ _ hs => Y.move rfl) hs rfl (by kernel_rfl) (by kernel_rfl) (by kernel_rfl) ?_
      refine HW.takeSY (fuel := 33) 3 rfl rfl rfl (fun _ _ hs => Y.loadRowN T hs 0 rfl rfl rfl rfl rfl rfl rfl) hs rfl (by kernel_rfl) (by kernel_rfl) (by kernel_rfl) ?_
      refine HW.takeSY (fuel := 32) 5 rfl rfl rfl (fun _ _ hs => Y.loadRowN T hs 1 rfl rfl rfl rfl rfl rfl rfl) hs rfl (by kernel_rfl) (by kernel_rfl) (by kernel_rfl) ?_
      refine HW.one (fuel := 31) 4 rfl (by kernel_rfl) ?_
      refine RW.guardYes rfl rfl ?_
      (refine RW.call T hs rfl rfl rfl (plainV_con (k + 1) _ (arr (k + 1) p) _ _ ha' hsml) ?_; intro v h42 w42 hle42 hp42 hs)
      obtain ⟨cs42, rfl, hq42⟩ := hp42
      rw [plain_arr (k + 1) 40 p hc] at hq42
      have ha' := ArrAt.mono (k + 1) _ _ _ _ hle42 ha'
      have hp' := PlainAt.mono (k + 1) _ _ _ _ hle42 hp'
      refine RW.nil ?_
      refine heldQ_normal ⟨_, hs⟩ ?_
      refine HW.one (fuel := 30) 6 rfl (by kernel_rfl) ?_
      refine RW.guardYes rfl rfl ?_
      (refine RW.call T hs rfl rfl rfl (refTidyP_con (k + 1) 40 _ p _ _ hp' hc) ?_; intro v h44 w44 hle44 hp44 hs)
      obtain ⟨cs44, rfl, hq44⟩ := hp44
      have ha' := ArrAt.mono (k + 1) _ _ _ _ hle44 ha'
      have hp' := PlainAt.mono (k + 1) _ _ _ _ hle44 hp'
      have hq42 := PlainAt.mono (k + 1) _ _ _ _ hle44 hq42
      refine RW.nil ?_
      refine heldQ_normal ⟨_, hs⟩ ?_
      refine HW.one (fuel := 29) 7 rfl (by kernel_rfl) ?_
      refine RW.guardYes rfl rfl ?_
      (refine RW.call T hs rfl rfl rfl (refSame_con (k + 1) _ _ (tidy (k + 1) p) (tidy (k + 1) p) _ _ hq42 hq44 htdy htdy) ?_; intro v h45 w45 hle45 hp45 hs)
      subst hp45
      rw [eqB_of (show tidy (k + 1) p = tidy (k + 1) p from rfl)]
      have ha' := ArrAt.mono (k + 1) _ _ _ _ hle45 ha'
      have hp' := PlainAt.mono (k + 1) _ _ _ _ hle45 hp'
      refine RW.nil ?_
      refine heldQ_normal ⟨_, hs⟩ ?_
      refine HW.takeS (fuel := 28) 8 rfl (fun _ _ hs => Y.pickT rfl rfl) hs rfl (by kernel_rfl) (by kernel_rfl) (by kernel_rfl) ?_
      refine HW.takeS (fuel := 27) 9 rfl (fun _ _ hs => Y.move rfl) hs rfl (by kernel_rfl) (by kernel_rfl) (by kernel_rfl) ?_
      refine HW.takeSY (fuel := 26) 10 rfl rfl rfl (fun _ _ hs => Y.loadRowN T hs 0 rfl rfl rfl rfl rfl rfl rfl) hs rfl (by kernel_rfl) (by kernel_rfl) (by kernel_rfl) ?_
      refine HW.takeSY (fuel := 25) 12 rfl rfl rfl (fun _ _ hs => Y.loadRowN T hs 1 rfl rfl rfl rfl rfl rfl rfl) hs rfl (by kernel_rfl) (by kernel_rfl) (by kernel_rfl) ?_
      refine HW.one (fuel := 24) 11 rfl (by kernel_rfl) ?_
      refine RW.guardYes rfl rfl ?_
      (refine RW.call T hs rfl rfl rfl (valueDepth_con (k + 1) 40 _ (arr (k + 1) p) _ _ (by omega) (by omega) ha' hgood) ?_; intro v h49 w49 hle49 hp49 hs)
      subst hp49
      have ha' := ArrAt.mono (k + 1) _ _ _ _ hle49 ha'
      have hp' := PlainAt.mono (k + 1) _ _ _ _ hle49 hp'
      refine RW.nil ?_
      refine heldQ_normal ⟨_, hs⟩ ?_
      refine HW.one (fuel := 23) 13 rfl (by kernel_rfl) ?_
      refine RW.guardYes rfl rfl ?_
      (refine RW.call T hs rfl rfl rfl (refDepth_con (k + 1) 40 _ p _ _ (by omega) (by omega) hp' hc) ?_; intro v h51 w51 hle51 hp51 hs)
      subst hp51
      have ha' := ArrAt.mono (k + 1) _ _ _ _ hle51 ha'
      have hp' := PlainAt.mono (k + 1) _ _ _ _ hle51 hp'
      refine RW.nil ?_
      refine heldQ_normal ⟨_, hs⟩ ?_
      refine HW.takeSY (fuel := 22) 14 rfl rfl rfl (fun _ _ hs => Y.eqT rfl rfl hdep) hs rfl (by kernel_rfl) (by kernel_rfl) (by kernel_rfl) ?_
      refine HW.takeS (fuel := 21) 15 rfl (fun _ _ hs => Y.pickT rfl rfl) hs rfl (by kernel_rfl) (by kernel_rfl) (by kernel_rfl) ?_
      refine HW.takeS (fuel := 20) 16 rfl (fun _ _ hs => Y.move rfl) hs rfl (by kernel_rfl) (by kernel_rfl) (by kernel_rfl) ?_
      refine HW.takeSY (fuel := 19) 17 rfl rfl rfl (fun _ _ hs => Y.loadRowN T hs 0 rfl rfl rfl rfl rfl rfl rfl) hs rfl (by kernel_rfl) (by kernel_rfl) (by kernel_rfl) ?_
      refine HW.takeSY (fuel := 18) 19 rfl rfl rfl (fun _ _ hs => Y.fieldAddr T rfl rfl rfl rfl rfl) hs rfl (by kernel_rfl) (by kernel_rfl) (by kernel_rfl) ?_
      refine HW.takeSY (fuel := 17) 20 rfl rfl rfl (fun _ _ hs => Y.loadRow1 T hs 1 rfl rfl rfl rfl rfl) hs rfl (by kernel_rfl) (by kernel_rfl) (by kernel_rfl) ?_
      refine HW.takeSY (fuel := 16) 21 rfl rfl rfl (fun _ _ hs => Y.len T rfl rfl) hs rfl (by kernel_rfl) (by kernel_rfl) (by kernel_rfl) ?_
      refine HW.one (fuel := 15) 18 rfl (by kernel_rfl) ?_
      refine RW.guardYes rfl rfl ?_
      (refine RW.call T hs rfl rfl rfl (valueRank_con (R := ArrAt k) _ (arr (k + 1) p) _ _ ha') ?_; intro v h56 w56 hle56 hp56 hs)
      subst hp56
      have ha' := ArrAt.mono (k + 1) _ _ _ _ hle56 ha'
      have hp' := PlainAt.mono (k + 1) _ _ _ _ hle56 hp'
      refine RW.nil ?_
      refine heldQ_normal ⟨_, hs⟩ ?_
      refine HW.takeSY (fuel := 14) 22 rfl rfl rfl (fun _ _ hs => Y.eqT rfl rfl rfl) hs rfl (by kernel_rfl) (by kernel_rfl) (by kernel_rfl) ?_
      refine HW.takeS (fuel := 13) 23 rfl (fun _ _ hs => Y.pickT rfl rfl) hs rfl (by kernel_rfl) (by kernel_rfl) (by kernel_rfl) ?_
      refine HW.takeS (fuel := 12) 24 rfl (fun _ _ hs => Y.move rfl) hs rfl (by kernel_rfl) (by kernel_rfl) (by kernel_rfl) ?_
      refine HW.takeSY (fuel := 11) 25 rfl rfl rfl (fun _ _ hs => Y.loadRowN T hs 0 rfl rfl rfl rfl rfl rfl rfl) hs rfl (by kernel_rfl) (by kernel_rfl) (by kernel_rfl) ?_
      refine HW.takeSY (fuel := 10) 27 rfl rfl rfl (fun _ _ hs => Y.fieldAddr T rfl rfl rfl rfl rfl) hs rfl (by kernel_rfl) (by kernel_rfl) (by kernel_rfl) ?_
      refine HW.takeSY (fuel := 9) 28 rfl rfl rfl (fun _ _ hs => Y.loadRow1 T hs 1 rfl rfl rfl rfl rfl) hs rfl (by kernel_rfl) (by kernel_rfl) (by kernel_rfl) ?_
      refine HW.takeSY (fuel := 8) 29 rfl rfl rfl (fun _ _ hs => Y.len T rfl rfl) hs rfl (by kernel_rfl) (by kernel_rfl) (by kernel_rfl) ?_
      refine HW.takeSY (fuel := 7) 30 rfl rfl rfl (fun _ _ hs => Y.eql rfl rfl) hs rfl (by kernel_rfl) (by kernel_rfl) (by kernel_rfl) ?_
      refine HW.one (fuel := 6) 26 rfl (by kernel_rfl) ?_
      refine RW.guardYes rfl rfl ?_
      (refine RW.call T hs rfl rfl rfl (valueSingle_con (R := ArrAt k) _ (arr (k + 1) p) _ _ ha') ?_; intro v h64 w64 hle64 hp64 hs)
      subst hp64
      have ha' := ArrAt.mono (k + 1) _ _ _ _ hle64 ha'
      have hp' := PlainAt.mono (k + 1) _ _ _ _ hle64 hp'
      refine RW.nil ?_
      refine heldQ_normal ⟨_, hs⟩ ?_
      refine HW.takeSY (fuel := 5) 31 rfl rfl rfl (fun _ _ hs => Y.eqlBT T rfl rfl rfl hsing) hs rfl (by kernel_rfl) (by kernel_rfl) (by kernel_rfl) ?_
      refine HW.takeS (fuel := 4) 32 rfl (fun _ _ hs => Y.pickT rfl rfl) hs rfl (by kernel_rfl) (by kernel_rfl) (by kernel_rfl) ?_
      refine HW.takeS (fuel := 3) 33 rfl (fun _ _ hs => Y.move rfl) hs rfl (by kernel_rfl) (by kernel_rfl) (by kernel_rfl) ?_
      refine HW.one (fuel := 2) 34 rfl (by kernel_rfl) ?_
      refine RW.guardYes rfl rfl ?_
      (refine RW.call T hs rfl rfl rfl (awake07_con _ _) ?_; intro v h72 w72 hle72 hp72 hs)
      subst hp72
      refine RW.nil ?_
      refine heldQ_normal ⟨_, hs⟩ ?_
      refine HW.takeS (fuel := 1) 35 rfl (fun _ _ hs => Y.pickT rfl rfl) hs rfl (by kernel_rfl) (by kernel_rfl) (by kernel_rfl) ?_
      refine HW.takeS (fuel := 0) 36 rfl (fun _ _ hs => Y.assign rfl) hs rfl (by kernel_rfl) (by kernel_rfl) (by kernel_rfl) ?_
      refine HW.done (by kernel_rfl) ?_
      refine calmQ_normal ?_
      repeat (first | (refine A0 ?_; first | refine R1 rfl rfl ?_ | refine R2 rfl rfl ?_ | (refine A1 ?_; first | refine D3 rfl rfl ?_ | refine D4 rfl rfl rfl rfl ?_ | refine D5 rfl rfl rfl ?_ | refine E6 ?_ rfl rfl | refine E7 ?_ rfl rfl) | refine Zb ?_ rfl | (refine A3 ?_; first | refine R34 T hs 0 rfl rfl rfl rfl rfl rfl ?_ | refine R34 T hs 1 rfl rfl rfl rfl rfl rfl ?_ | refine Zk ?_ rfl) | refine Zi ?_ rfl | refine Zq ?_ rfl | refine A8 ?_) | (refine B0 ?_; first | refine B1 ?_ | refine B2 ?_ | refine B3 ?_ | refine B4 ?_ | refine B5 ?_ | refine B6 ?_ | refine B7 rfl ?_ | refine B8 rfl ?_ | refine E8 ?_ rfl | refine E9 ?_ rfl) | refine C1 ?_ | refine C2 ?_ | refine C3 ?_ | refine C4 ?_ | refine C5 ?_ | refine C6 ?_ | refine C7 ?_ | refine C8 ?_ | refine C9 ?_ | refine D1 rfl ?_ | refine D2 rfl ?_)
      exact retQ_ret [_] h72 ⟨rfl, trivial⟩ hs.dropAll rfl
  · obtain rfl := hn3 hc
    repeat (first | (refine A0 ?_; first | refine R1 rfl rfl ?_ | refine R2 rfl rfl ?_ | (refine A1 ?_; first | refine D3 rfl rfl ?_ | refine D4 rfl rfl rfl rfl ?_ | refine D5 rfl rfl rfl ?_ | refine E6 ?_ rfl rfl | refine E7 ?_ rfl rfl) | refine Zb ?_ rfl | (refine A3 ?_; first | refine R34 T hs 0 rfl rfl rfl rfl rfl rfl ?_ | refine R34 T hs 1 rfl rfl rfl rfl rfl rfl ?_ | refine Zk ?_ rfl) | refine Zi ?_ rfl | refine Zq ?_ rfl | refine A8 ?_) | (refine B0 ?_; first | refine B1 ?_ | refine B2 ?_ | refine B3 ?_ | refine B4 ?_ | refine B5 ?_ | refine B6 ?_ | refine B7 rfl ?_ | refine B8 rfl ?_ | refine E8 ?_ rfl | refine E9 ?_ rfl) | refine C1 ?_ | refine C2 ?_ | refine C3 ?_ | refine C4 ?_ | refine C5 ?_ | refine C6 ?_ | refine C7 ?_ | refine C8 ?_ | refine C9 ?_ | refine D1 rfl ?_ | refine D2 rfl ?_)
    (refine RW.call T hs rfl rfl rfl (vecKind_con (R := ArrAt k) _ VecD.none _ _ (vecNone _)) ?_; intro v h7 w7 hle7 hp7 hs)
    subst hp7
    repeat (first | (refine A0 ?_; first | refine R1 rfl rfl ?_ | refine R2 rfl rfl ?_ | (refine A1 ?_; first | refine D3 rfl rfl ?_ | refine D4 rfl rfl rfl rfl ?_ | refine D5 rfl rfl rfl ?_ | refine E6 ?_ rfl rfl | refine E7 ?_ rfl rfl) | refine Zb ?_ rfl | (refine A3 ?_; first | refine R34 T hs 0 rfl rfl rfl rfl rfl rfl ?_ | refine R34 T hs 1 rfl rfl rfl rfl rfl rfl ?_ | refine Zk ?_ rfl) | refine Zi ?_ rfl | refine Zq ?_ rfl | refine A8 ?_) | (refine B0 ?_; first | refine B1 ?_ | refine B2 ?_ | refine B3 ?_ | refine B4 ?_ | refine B5 ?_ | refine B6 ?_ | refine B7 rfl ?_ | refine B8 rfl ?_ | refine E8 ?_ rfl | refine E9 ?_ rfl) | refine C1 ?_ | refine C2 ?_ | refine C3 ?_ | refine C4 ?_ | refine C5 ?_ | refine C6 ?_ | refine C7 ?_ | refine C8 ?_ | refine C9 ?_ | refine D1 rfl ?_ | refine D2 rfl ?_)
    (refine RW.call T hs rfl rfl rfl (valueGood_con (k + 1) _ _ _ _ (zeroArr_at k _)) ?_; intro v h8 w8 hle8 hp8 hs)
    subst hp8
    rw [decB_not (zeroArr_bad k 40)]
    repeat (first | (refine A0 ?_; first | refine R1 rfl rfl ?_ | refine R2 rfl rfl ?_ | (refine A1 ?_; first | refine D3 rfl rfl ?_ | refine D4 rfl rfl rfl rfl ?_ | refine D5 rfl rfl rfl ?_ | refine E6 ?_ rfl rfl | refine E7 ?_ rfl rfl) | refine Zb ?_ rfl | (refine A3 ?_; first | refine R34 T hs 0 rfl rfl rfl rfl rfl rfl ?_ | refine R34 T hs 1 rfl rfl rfl rfl rfl rfl ?_ | refine Zk ?_ rfl) | refine Zi ?_ rfl | refine Zq ?_ rfl | refine A8 ?_) | (refine B0 ?_; first | refine B1 ?_ | refine B2 ?_ | refine B3 ?_ | refine B4 ?_ | refine B5 ?_ | refine B6 ?_ | refine B7 rfl ?_ | refine B8 rfl ?_ | refine E8 ?_ rfl | refine E9 ?_ rfl) | refine C1 ?_ | refine C2 ?_ | refine C3 ?_ | refine C4 ?_ | refine C5 ?_ | refine C6 ?_ | refine C7 ?_ | refine C8 ?_ | refine C9 ?_ | refine D1 rfl ?_ | refine D2 rfl ?_)
    (refine RW.call T hs rfl rfl rfl (awake07_con _ _) ?_; intro v h9 w9 hle9 hp9 hs)
    subst hp9
    repeat (first | (refine A0 ?_; first | refine R1 rfl rfl ?_ | refine R2 rfl rfl ?_ | (refine A1 ?_; first | refine D3 rfl rfl ?_ | refine D4 rfl rfl rfl rfl ?_ | refine D5 rfl rfl rfl ?_ | refine E6 ?_ rfl rfl | refine E7 ?_ rfl rfl) | refine Zb ?_ rfl | (refine A3 ?_; first | refine R34 T hs 0 rfl rfl rfl rfl rfl rfl ?_ | refine R34 T hs 1 rfl rfl rfl rfl rfl rfl ?_ | refine Zk ?_ rfl) | refine Zi ?_ rfl | refine Zq ?_ rfl | refine A8 ?_) | (refine B0 ?_; first | refine B1 ?_ | refine B2 ?_ | refine B3 ?_ | refine B4 ?_ | refine B5 ?_ | refine B6 ?_ | refine B7 rfl ?_ | refine B8 rfl ?_ | refine E8 ?_ rfl | refine E9 ?_ rfl) | refine C1 ?_ | refine C2 ?_ | refine C3 ?_ | refine C4 ?_ | refine C5 ?_ | refine C6 ?_ | refine C7 ?_ | refine C8 ?_ | refine C9 ?_ | refine D1 rfl ?_ | refine D2 rfl ?_)
    exact retQ_ret [_] h9 ⟨rfl, trivial⟩ hs.dropAll rfl
end Go.Proofs.Ythbfkhklihejiaa

/-
  Contracts of functions of package shape and of its reference, third part: places and indexes. No statement is proved here.
-/
namespace Go.Proofs.Ythbfkhklihejiaa
open Go Go.RowKit
set_option linter.unusedVariables false
set_option linter.unusedSimpArgs false
set_option maxHeartbeats 4000000
attribute [local irreducible] CW RW QW SW HW ConM retM heldQ calmQ elemP thenQ blockQ loopQ joinQ retQ Yields Con Sl

theorem at_con (s t : Value) (l m : List Int) (w : World) (h : GHeap) (hl : IntsAt h s l) (ht : IntsAt h t m) (hm : l.length ≤ 9223372036854775807) : Con Try.prog 27 [s, t] w h
    (fun _ v => v = .tuple #[.int .i64 (atSpec l m).1, .bool (atSpec l m).2]) := by
  have hl' := hl
  obtain ⟨ad, cp, rfl, hS⟩ := hl
  obtain ⟨ad2, cp2, rfl, hS2⟩ := ht
  refine Con.of_body Try.func27 rfl Try.ntmps27 rfl rfl ?_
  intro hs
  repeat (first | (refine A0 ?_; first | refine R1 rfl rfl ?_ | refine R2 rfl rfl ?_ | (refine A1 ?_; first | refine D3 rfl rfl ?_ | refine D4 rfl rfl rfl rfl ?_ | refine D5 rfl rfl rfl ?_ | refine E6 ?_ rfl rfl | refine E7 ?_ rfl rfl) | refine Zb ?_ rfl | (refine A3 ?_; first | refine R34 T hs 0 rfl rfl rfl rfl rfl rfl ?_ | refine R34 T hs 1 rfl rfl rfl rfl rfl rfl ?_ | refine Zl ?_ rfl) | refine Zi ?_ rfl | refine Zo ?_ rfl | refine A8 ?_) | (refine B0 ?_; first | refine B1 ?_ | refine B2 ?_ | refine B3 ?_ | refine B4 ?_ | refine B5 ?_ | refine B6 ?_ | refine B7 rfl ?_ | refine B8 rfl ?_ | refine E8 ?_ rfl | refine E9 ?_ rfl) | refine C1 ?_ | refine C2 ?_ | refine C3 ?_ | refine C4 ?_ | refine C5 ?_ | refine C6 ?_ | refine C7 ?_ | refine C8 ?_ | refine C9 ?_ | refine D1 rfl ?_ | refine D2 rfl ?_)
  (refine RW.call T hs rfl rfl rfl (good_con _ l _ _ hl' hm) ?_; intro v h1 w1 hle1 hp1 hs)
  subst hp1
  have hS := hS.mono hle1
  have hS2 := hS2.mono hle1
  repeat (first | (refine A0 ?_; first | refine R1 rfl rfl ?_ | refine R2 rfl rfl ?_ | (refine A1 ?_; first | refine D3 rfl rfl ?_ | refine D4 rfl rfl rfl rfl ?_ | refine D5 rfl rfl rfl ?_ | refine E6 ?_ rfl rfl | refine E7 ?_ rfl rfl) | refine Zb ?_ rfl | (refine A3 ?_; first | refine R34 T hs 0 rfl rfl rfl rfl rfl rfl ?_ | refine R34 T hs 1 rfl rfl rfl rfl rfl rfl ?_ | refine Zl ?_ rfl) | refine Zi ?_ rfl | refine Zo ?_ rfl | refine A8 ?_) | (refine B0 ?_; first | refine B1 ?_ | refine B2 ?_ | refine B3 ?_ | refine B4 ?_ | refine B5 ?_ | refine B6 ?_ | refine B7 rfl ?_ | refine B8 rfl ?_ | refine E8 ?_ rfl | refine E9 ?_ rfl) | refine C1 ?_ | refine C2 ?_ | refine C3 ?_ | refine C4 ?_ | refine C5 ?_ | refine C6 ?_ | refine C7 ?_ | refine C8 ?_ | refine C9 ?_ | refine D1 rfl ?_ | refine D2 rfl ?_)
  refine RW.gd rfl rfl (fun hg => ?_) (fun hg => ?_)
  · repeat (first | (refine A0 ?_; first | refine R1 rfl rfl ?_ | refine R2 rfl rfl ?_ | (refine A1 ?_; first | refine D3 rfl rfl ?_ | refine D4 rfl rfl rfl rfl ?_ | refine D5 rfl rfl rfl ?_ | refine E6 ?_ rfl rfl | refine E7 ?_ rfl rfl) | refine Zb ?_ rfl | (refine A3 ?_; first | refine R34 T hs 0 rfl rfl rfl rfl rfl rfl ?_ | refine R34 T hs 1 rfl rfl rfl rfl rfl rfl ?_ | refine Zl ?_ rfl) | refine Zi ?_ rfl | refine Zo ?_ rfl | refine A8 ?_) | (refine B0 ?_; first | refine B1 ?_ | refine B2 ?_ | refine B3 ?_ | refine B4 ?_ | refine B5 ?_ | refine B6 ?_ | refine B7 rfl ?_ | refine B8 rfl ?_ | refine E8 ?_ rfl | refine E9 ?_ rfl) | refine C1 ?_ | refine C2 ?_ | refine C3 ?_ | refine C4 ?_ | refine C5 ?_ | refine C6 ?_ | refine C7 ?_ | refine C8 ?_ | refine C9 ?_ | refine D1 rfl ?_ | refine D2 rfl ?_)
    exact retQ_ret [_, _] h1 ⟨rfl, rfl, trivial⟩ hs (by simp [packv, at_bad l m hg])
  have hg := Decidable.of_not_not hg
  repeat (first | (refine A0 ?_; first | refine R1 rfl rfl ?_ | refine R2 rfl rfl ?_ | (refine A1 ?_; first | refine D3 rfl rfl ?_ | refine D4 rfl rfl rfl rfl ?_ | refine D5 rfl rfl rfl ?_ | refine E6 ?_ rfl rfl | refine E7 ?_ rfl rfl) | refine Zb ?_ rfl | (refine A3 ?_; first | refine R34 T hs 0 rfl rfl rfl rfl rfl rfl ?_ | refine R34 T hs 1 rfl rfl rfl rfl rfl rfl ?_ | refine Zl ?_ rfl) | refine Zi ?_ rfl | refine Zo ?_ rfl | refine A8 ?_) | (refine B0 ?_; first | refine B1 ?_ | refine B2 ?_ | refine B3 ?_ | refine B4 ?_ | refine B5 ?_ | refine B6 ?_ | refine B7 rfl ?_ | refine B8 rfl ?_ | refine E8 ?_ rfl | refine E9 ?_ rfl) | refine C1 ?_ | refine C2 ?_ | refine C3 ?_ | refine C4 ?_ | refine C5 ?_ | refine C6 ?_ | refine C7 ?_ | refine C8 ?_ | refine C9 ?_ | refine D1 rfl ?_ | refine D2 rfl ?_)
  refine CW.condD rfl (fun h8 => ?_) (fun h8 => ?_)
  · repeat (first | (refine A0 ?_; first | refine R1 rfl rfl ?_ | refine R2 rfl rfl ?_ | (refine A1 ?_; first | refine D3 rfl rfl ?_ | refine D4 rfl rfl rfl rfl ?_ | refine D5 rfl rfl rfl ?_ | refine E6 ?_ rfl rfl | refine E7 ?_ rfl rfl) | refine Zb ?_ rfl | (refine A3 ?_; first | refine R34 T hs 0 rfl rfl rfl rfl rfl rfl ?_ | refine R34 T hs 1 rfl rfl rfl rfl rfl rfl ?_ | refine Zl ?_ rfl) | refine Zi ?_ rfl | refine Zo ?_ rfl | refine A8 ?_) | (refine B0 ?_; first | refine B1 ?_ | refine B2 ?_ | refine B3 ?_ | refine B4 ?_ | refine B5 ?_ | refine B6 ?_ | refine B7 rfl ?_ | refine B8 rfl ?_ | refine E8 ?_ rfl | refine E9 ?_ rfl) | refine C1 ?_ | refine C2 ?_ | refine C3 ?_ | refine C4 ?_ | refine C5 ?_ | refine C6 ?_ | refine C7 ?_ | refine C8 ?_ | refine C9 ?_ | refine D1 rfl ?_ | refine D2 rfl ?_)
    exact retQ_ret [_, _] h1 ⟨rfl, rfl, trivial⟩ hs (by simp [packv, at_len l m (by omega)])
  have hlen : l.length = m.length := by omega
  repeat (first | (refine A0 ?_; first | refine R1 rfl rfl ?_ | refine R2 rfl rfl ?_ | (refine A1 ?_; first | refine D3 rfl rfl ?_ | refine D4 rfl rfl rfl rfl ?_ | refine D5 rfl rfl rfl ?_ | refine E6 ?_ rfl rfl | refine E7 ?_ rfl rfl) | refine Zb ?_ rfl | (refine A3 ?_; first | refine R34 T hs 0 rfl rfl rfl rfl rfl rfl ?_ | refine R34 T hs 1 rfl rfl rfl rfl rfl rfl ?_ | refine Zl ?_ rfl) | refine Zi ?_ rfl | refine Zo ?_ rfl | refine A8 ?_) | (refine B0 ?_; first | refine B1 ?_ | refine B2 ?_ | refine B3 ?_ | refine B4 ?_ | refine B5 ?_ | refine B6 ?_ | refine B7 rfl ?_ | refine B8 rfl ?_ | refine E8 ?_ rfl | refine E9 ?_ rfl) | refine C1 ?_ | refine C2 ?_ | refine C3 ?_ | refine C4 ?_ | refine C5 ?_ | refine C6 ?_ | refine C7 ?_ | refine C8 ?_ | refine C9 ?_ | refine D1 rfl ?_ | refine D2 rfl ?_)
  refine CW.loop (fun k : Nat => [(0, .slice ad l.length cp), (1, .slice ad2 m.length cp2), (6, .int .i64 (off (l.take k) (m.take k))), (19, .slice ad l.length cp), (20, .int .i64 l.length), (21, .int .i64 k)]) (fun k w' => k ≤ l.length ∧ (∀ j, j < k → 0 ≤ m.getD j 0 ∧ m.getD j 0 < l.getD j 0) ∧ Sees w h h1 [] w') (fun k => l.length - k) 0 ⟨rfl, rfl, by simp [off]; rfl, rfl, rfl, rfl, trivial⟩ ⟨by omega, by omega, hs⟩ ?_
  rintro k w' ⟨hk, hno, hs⟩
  have hob := off_take_bound l m k hg hk hlen hno
  by_cases hlt : k < l.length
  · have hgd := good_getD l hg k hlt
    have hsn := off_take_succ l m k hlen hlt
    have hmb := mul_bound ⟨hob.1, by omega⟩ hgd
    repeat (first | (refine A0 ?_; first | refine R1 rfl rfl ?_ | refine R2 rfl rfl ?_ | (refine A1 ?_; first | refine D3 rfl rfl ?_ | refine D4 rfl rfl rfl rfl ?_ | refine D5 rfl rfl rfl ?_ | refine E6 ?_ rfl rfl | refine E7 ?_ rfl rfl) | refine Zb ?_ rfl | (refine A3 ?_; first | refine R34 T hs 0 rfl rfl rfl rfl rfl rfl ?_ | refine R34 T hs 1 rfl rfl rfl rfl rfl rfl ?_ | refine Zl ?_ rfl) | refine Zi ?_ rfl | refine Zo ?_ rfl | refine A8 ?_) | (refine B0 ?_; first | refine B1 ?_ | refine B2 ?_ | refine B3 ?_ | refine B4 ?_ | refine B5 ?_ | refine B6 ?_ | refine B7 rfl ?_ | refine B8 rfl ?_ | refine E8 ?_ rfl | refine E9 ?_ rfl) | refine C1 ?_ | refine C2 ?_ | refine C3 ?_ | refine C4 ?_ | refine C5 ?_ | refine C6 ?_ | refine C7 ?_ | refine C8 ?_ | refine C9 ?_ | refine D1 rfl ?_ | refine D2 rfl ?_)
    refine RW.gd rfl rfl (fun h2 => ?_) (fun h2 => ?_)
    · repeat (first | (refine A0 ?_; first | refine R1 rfl rfl ?_ | refine R2 rfl rfl ?_ | (refine A1 ?_; first | refine D3 rfl rfl ?_ | refine D4 rfl rfl rfl rfl ?_ | refine D5 rfl rfl rfl ?_ | refine E6 ?_ rfl rfl | refine E7 ?_ rfl rfl) | refine Zb ?_ rfl | (refine A3 ?_; first | refine R34 T hs 0 rfl rfl rfl rfl rfl rfl ?_ | refine R34 T hs 1 rfl rfl rfl rfl rfl rfl ?_ | refine Zl ?_ rfl) | refine Zi ?_ rfl | refine Zo ?_ rfl | refine A8 ?_) | (refine B0 ?_; first | refine B1 ?_ | refine B2 ?_ | refine B3 ?_ | refine B4 ?_ | refine B5 ?_ | refine B6 ?_ | refine B7 rfl ?_ | refine B8 rfl ?_ | refine E8 ?_ rfl | refine E9 ?_ rfl) | refine C1 ?_ | refine C2 ?_ | refine C3 ?_ | refine C4 ?_ | refine C5 ?_ | refine C6 ?_ | refine C7 ?_ | refine C8 ?_ | refine C9 ?_ | refine D1 rfl ?_ | refine D2 rfl ?_)
      exact retQ_ret [_, _] h1 ⟨rfl, rfl, trivial⟩ hs (by simp [packv, at_out l m k hlt (by omega)])
    · repeat (first | (refine A0 ?_; first | refine R1 rfl rfl ?_ | refine R2 rfl rfl ?_ | (refine A1 ?_; first | refine D3 rfl rfl ?_ | refine D4 rfl rfl rfl rfl ?_ | refine D5 rfl rfl rfl ?_ | refine E6 ?_ rfl rfl | refine E7 ?_ rfl rfl) | refine Zb ?_ rfl | (refine A3 ?_; first | refine R34 T hs 0 rfl rfl rfl rfl rfl rfl ?_ | refine R34 T hs 1 rfl rfl rfl rfl rfl rfl ?_ | refine Zl ?_ rfl) | refine Zi ?_ rfl | refine Zo ?_ rfl | refine A8 ?_) | (refine B0 ?_; first | refine B1 ?_ | refine B2 ?_ | refine B3 ?_ | refine B4 ?_ | refine B5 ?_ | refine B6 ?_ | refine B7 rfl ?_ | refine B8 rfl ?_ | refine E8 ?_ rfl | refine E9 ?_ rfl) | refine C1 ?_ | refine C2 ?_ | refine C3 ?_ | refine C4 ?_ | refine C5 ?_ | refine C6 ?_ | refine C7 ?_ | refine C8 ?_ | refine C9 ?_ | refine D1 rfl ?_ | refine D2 rfl ?_)
      refine CW.condD rfl (fun h3 => ?_) (fun h3 => ?_)
      · repeat (first | (refine A0 ?_; first | refine R1 rfl rfl ?_ | refine R2 rfl rfl ?_ | (refine A1 ?_; first | refine D3 rfl rfl ?_ | refine D4 rfl rfl rfl rfl ?_ | refine D5 rfl rfl rfl ?_ | refine E6 ?_ rfl rfl | refine E7 ?_ rfl rfl) | refine Zb ?_ rfl | (refine A3 ?_; first | refine R34 T hs 0 rfl rfl rfl rfl rfl rfl ?_ | refine R34 T hs 1 rfl rfl rfl rfl rfl rfl ?_ | refine Zl ?_ rfl) | refine Zi ?_ rfl | refine Zo ?_ rfl | refine A8 ?_) | (refine B0 ?_; first | refine B1 ?_ | refine B2 ?_ | refine B3 ?_ | refine B4 ?_ | refine B5 ?_ | refine B6 ?_ | refine B7 rfl ?_ | refine B8 rfl ?_ | refine E8 ?_ rfl | refine E9 ?_ rfl) | refine C1 ?_ | refine C2 ?_ | refine C3 ?_ | refine C4 ?_ | refine C5 ?_ | refine C6 ?_ | refine C7 ?_ | refine C8 ?_ | refine C9 ?_ | refine D1 rfl ?_ | refine D2 rfl ?_)
        exact retQ_ret [_, _] h1 ⟨rfl, rfl, trivial⟩ hs (by simp [packv, at_out l m k hlt (by omega)])
      · repeat (first | (refine A0 ?_; first | refine R1 rfl rfl ?_ | refine R2 rfl rfl ?_ | (refine A1 ?_; first | refine D3 rfl rfl ?_ | refine D4 rfl rfl rfl rfl ?_ | refine D5 rfl rfl rfl ?_ | refine E6 ?_ rfl rfl | refine E7 ?_ rfl rfl) | refine Zb ?_ rfl | (refine A3 ?_; first | refine R34 T hs 0 rfl rfl rfl rfl rfl rfl ?_ | refine R34 T hs 1 rfl rfl rfl rfl rfl rfl ?_ | refine Zl ?_ rfl) | refine Zi ?_ rfl | refine Zo ?_ rfl | refine A8 ?_) | (refine B0 ?_; first | refine B1 ?_ | refine B2 ?_ | refine B3 ?_ | refine B4 ?_ | refine B5 ?_ | refine B6 ?_ | refine B7 rfl ?_ | refine B8 rfl ?_ | refine E8 ?_ rfl | refine E9 ?_ rfl) | refine C1 ?_ | refine C2 ?_ | refine C3 ?_ | refine C4 ?_ | refine C5 ?_ | refine C6 ?_ | refine C7 ?_ | refine C8 ?_ | refine C9 ?_ | refine D1 rfl ?_ | refine D2 rfl ?_)
        refine RW.val (Y.mul rfl rfl ⟨by omega, by omega⟩) rfl ?_
        repeat (first | (refine A0 ?_; first | refine R1 rfl rfl ?_ | refine R2 rfl rfl ?_ | (refine A1 ?_; first | refine D3 rfl rfl ?_ | refine D4 rfl rfl rfl rfl ?_ | refine D5 rfl rfl rfl ?_ | refine E6 ?_ rfl rfl | refine E7 ?_ rfl rfl) | refine Zb ?_ rfl | (refine A3 ?_; first | refine R34 T hs 0 rfl rfl rfl rfl rfl rfl ?_ | refine R34 T hs 1 rfl rfl rfl rfl rfl rfl ?_ | refine Zl ?_ rfl) | refine Zi ?_ rfl | refine Zo ?_ rfl | refine A8 ?_) | (refine B0 ?_; first | refine B1 ?_ | refine B2 ?_ | refine B3 ?_ | refine B4 ?_ | refine B5 ?_ | refine B6 ?_ | refine B7 rfl ?_ | refine B8 rfl ?_ | refine E8 ?_ rfl | refine E9 ?_ rfl) | refine C1 ?_ | refine C2 ?_ | refine C3 ?_ | refine C4 ?_ | refine C5 ?_ | refine C6 ?_ | refine C7 ?_ | refine C8 ?_ | refine C9 ?_ | refine D1 rfl ?_ | refine D2 rfl ?_)
        refine loopQ_round (k + 1) ⟨rfl, rfl, by rw [hsn]; rfl, rfl, rfl, rfl, trivial⟩ ⟨by omega, ?_, hs⟩ (by omega)
        intro j hj
        by_cases e : j = k
        · subst e; omega
        · exact hno j (by omega)
  obtain rfl : k = l.length := by omega
  repeat (first | (refine A0 ?_; first | refine R1 rfl rfl ?_ | refine R2 rfl rfl ?_ | (refine A1 ?_; first | refine D3 rfl rfl ?_ | refine D4 rfl rfl rfl rfl ?_ | refine D5 rfl rfl rfl ?_ | refine E6 ?_ rfl rfl | refine E7 ?_ rfl rfl) | refine Zb ?_ rfl | (refine A3 ?_; first | refine R34 T hs 0 rfl rfl rfl rfl rfl rfl ?_ | refine R34 T hs 1 rfl rfl rfl rfl rfl rfl ?_ | refine Zl ?_ rfl) | refine Zi ?_ rfl | refine Zo ?_ rfl | refine A8 ?_) | (refine B0 ?_; first | refine B1 ?_ | refine B2 ?_ | refine B3 ?_ | refine B4 ?_ | refine B5 ?_ | refine B6 ?_ | refine B7 rfl ?_ | refine B8 rfl ?_ | refine E8 ?_ rfl | refine E9 ?_ rfl) | refine C1 ?_ | refine C2 ?_ | refine C3 ?_ | refine C4 ?_ | refine C5 ?_ | refine C6 ?_ | refine C7 ?_ | refine C8 ?_ | refine C9 ?_ | refine D1 rfl ?_ | refine D2 rfl ?_)
  refine retQ_ret [_, _] h1 ⟨rfl, rfl, trivial⟩ hs ?_
  rw [List.take_of_length_le (Nat.le_refl _), List.take_of_length_le (by omega)]
  simp [packv, at_in l m hg hlen hno]

theorem place_con (s t : Value) (l m : List Int) (w : World) (h : GHeap) (hl : IntsAt h s l) (ht : IntsAt h t m) (hm : l.length ≤ 9223372036854775807) : Con Try.prog 28 [s, t] w h
    (fun _ v => v = .int .i64 (if (atSpec l m).2 = true then (atSpec l m).1 else -1)) := by
  have hl' := hl
  obtain ⟨ad, cp, rfl, hS⟩ := hl
  obtain ⟨ad2, cp2, rfl, hS2⟩ := ht
  refine Con.of_body Try.func28 rfl Try.ntmps28 rfl rfl ?_
  intro hs
  repeat (first | (refine A0 ?_; first | refine R1 rfl rfl ?_ | refine R2 rfl rfl ?_ | (refine A1 ?_; first | refine D3 rfl rfl ?_ | refine D4 rfl rfl rfl rfl ?_ | refine D5 rfl rfl rfl ?_ | refine E6 ?_ rfl rfl | refine E7 ?_ rfl rfl) | refine Zb ?_ rfl | (refine A3 ?_; first | refine R34 T hs 0 rfl rfl rfl rfl rfl rfl ?_ | refine R34 T hs 1 rfl rfl rfl rfl rfl rfl ?_ | refine Zl ?_ rfl) | refine Zi ?_ rfl | refine Zo ?_ rfl | refine A8 ?_) | (refine B0 ?_; first | refine B1 ?_ | refine B2 ?_ | refine B3 ?_ | refine B4 ?_ | refine B5 ?_ | refine B6 ?_ | refine B7 rfl ?_ | refine B8 rfl ?_ | refine E8 ?_ rfl | refine E9 ?_ rfl) | refine C1 ?_ | refine C2 ?_ | refine C3 ?_ | refine C4 ?_ | refine C5 ?_ | refine C6 ?_ | refine C7 ?_ | refine C8 ?_ | refine C9 ?_ | refine D1 rfl ?_ | refine D2 rfl ?_)
  (refine RW.call T hs rfl rfl rfl (refGood_con _ l _ _ hl' hm) ?_; intro v h1 w1 hle1 hp1 hs)
  subst hp1
  have hS := hS.mono hle1
  have hS2 := hS2.mono hle1
  repeat (first | (refine A0 ?_; first | refine R1 rfl rfl ?_ | refine R2 rfl rfl ?_ | (refine A1 ?_; first | refine D3 rfl rfl ?_ | refine D4 rfl rfl rfl rfl ?_ | refine D5 rfl rfl rfl ?_ | refine E6 ?_ rfl rfl | refine E7 ?_ rfl rfl) | refine Zb ?_ rfl | (refine A3 ?_; first | refine R34 T hs 0 rfl rfl rfl rfl rfl rfl ?_ | refine R34 T hs 1 rfl rfl rfl rfl rfl rfl ?_ | refine Zl ?_ rfl) | refine Zi ?_ rfl | refine Zo ?_ rfl | refine A8 ?_) | (refine B0 ?_; first | refine B1 ?_ | refine B2 ?_ | refine B3 ?_ | refine B4 ?_ | refine B5 ?_ | refine B6 ?_ | refine B7 rfl ?_ | refine B8 rfl ?_ | refine E8 ?_ rfl | refine E9 ?_ rfl) | refine C1 ?_ | refine C2 ?_ | refine C3 ?_ | refine C4 ?_ | refine C5 ?_ | refine C6 ?_ | refine C7 ?_ | refine C8 ?_ | refine C9 ?_ | refine D1 rfl ?_ | refine D2 rfl ?_)
  refine RW.gd rfl rfl (fun hg => ?_) (fun hg => ?_)
  · repeat (first | (refine A0 ?_; first | refine R1 rfl rfl ?_ | refine R2 rfl rfl ?_ | (refine A1 ?_; first | refine D3 rfl rfl ?_ | refine D4 rfl rfl rfl rfl ?_ | refine D5 rfl rfl rfl ?_ | refine E6 ?_ rfl rfl | refine E7 ?_ rfl rfl) | refine Zb ?_ rfl | (refine A3 ?_; first | refine R34 T hs 0 rfl rfl rfl rfl rfl rfl ?_ | refine R34 T hs 1 rfl rfl rfl rfl rfl rfl ?_ | refine Zl ?_ rfl) | refine Zi ?_ rfl | refine Zo ?_ rfl | refine A8 ?_) | (refine B0 ?_; first | refine B1 ?_ | refine B2 ?_ | refine B3 ?_ | refine B4 ?_ | refine B5 ?_ | refine B6 ?_ | refine B7 rfl ?_ | refine B8 rfl ?_ | refine E8 ?_ rfl | refine E9 ?_ rfl) | refine C1 ?_ | refine C2 ?_ | refine C3 ?_ | refine C4 ?_ | refine C5 ?_ | refine C6 ?_ | refine C7 ?_ | refine C8 ?_ | refine C9 ?_ | refine D1 rfl ?_ | refine D2 rfl ?_)
    exact retQ_ret [_] h1 ⟨rfl, trivial⟩ hs (by simp [packv, at_bad l m hg])
  have hg := Decidable.of_not_not hg
  repeat (first | (refine A0 ?_; first | refine R1 rfl rfl ?_ | refine R2 rfl rfl ?_ | (refine A1 ?_; first | refine D3 rfl rfl ?_ | refine D4 rfl rfl rfl rfl ?_ | refine D5 rfl rfl rfl ?_ | refine E6 ?_ rfl rfl | refine E7 ?_ rfl rfl) | refine Zb ?_ rfl | (refine A3 ?_; first | refine R34 T hs 0 rfl rfl rfl rfl rfl rfl ?_ | refine R34 T hs 1 rfl rfl rfl rfl rfl rfl ?_ | refine Zl ?_ rfl) | refine Zi ?_ rfl | refine Zo ?_ rfl | refine A8 ?_) | (refine B0 ?_; first | refine B1 ?_ | refine B2 ?_ | refine B3 ?_ | refine B4 ?_ | refine B5 ?_ | refine B6 ?_ | refine B7 rfl ?_ | refine B8 rfl ?_ | refine E8 ?_ rfl | refine E9 ?_ rfl) | refine C1 ?_ | refine C2 ?_ | refine C3 ?_ | refine C4 ?_ | refine C5 ?_ | refine C6 ?_ | refine C7 ?_ | refine C8 ?_ | refine C9 ?_ | refine D1 rfl ?_ | refine D2 rfl ?_)
  refine CW.condD rfl (fun h8 => ?_) (fun h8 => ?_)
  · repeat (first | (refine A0 ?_; first | refine R1 rfl rfl ?_ | refine R2 rfl rfl ?_ | (refine A1 ?_; first | refine D3 rfl rfl ?_ | refine D4 rfl rfl rfl rfl ?_ | refine D5 rfl rfl rfl ?_ | refine E6 ?_ rfl rfl | refine E7 ?_ rfl rfl) | refine Zb ?_ rfl | (refine A3 ?_; first | refine R34 T hs 0 rfl rfl rfl rfl rfl rfl ?_ | refine R34 T hs 1 rfl rfl rfl rfl rfl rfl ?_ | refine Zl ?_ rfl) | refine Zi ?_ rfl | refine Zo ?_ rfl | refine A8 ?_) | (refine B0 ?_; first | refine B1 ?_ | refine B2 ?_ | refine B3 ?_ | refine B4 ?_ | refine B5 ?_ | refine B6 ?_ | refine B7 rfl ?_ | refine B8 rfl ?_ | refine E8 ?_ rfl | refine E9 ?_ rfl) | refine C1 ?_ | refine C2 ?_ | refine C3 ?_ | refine C4 ?_ | refine C5 ?_ | refine C6 ?_ | refine C7 ?_ | refine C8 ?_ | refine C9 ?_ | refine D1 rfl ?_ | refine D2 rfl ?_)
    exact retQ_ret [_] h1 ⟨rfl, trivial⟩ hs (by simp [packv, at_len l m (by omega)])
  have hlen : l.length = m.length := by omega
  repeat (first | (refine A0 ?_; first | refine R1 rfl rfl ?_ | refine R2 rfl rfl ?_ | (refine A1 ?_; first | refine D3 rfl rfl ?_ | refine D4 rfl rfl rfl rfl ?_ | refine D5 rfl rfl rfl ?_ | refine E6 ?_ rfl rfl | refine E7 ?_ rfl rfl) | refine Zb ?_ rfl | (refine A3 ?_; first | refine R34 T hs 0 rfl rfl rfl rfl rfl rfl ?_ | refine R34 T hs 1 rfl rfl rfl rfl rfl rfl ?_ | refine Zl ?_ rfl) | refine Zi ?_ rfl | refine Zo ?_ rfl | refine A8 ?_) | (refine B0 ?_; first | refine B1 ?_ | refine B2 ?_ | refine B3 ?_ | refine B4 ?_ | refine B5 ?_ | refine B6 ?_ | refine B7 rfl ?_ | refine B8 rfl ?_ | refine E8 ?_ rfl | refine E9 ?_ rfl) | refine C1 ?_ | refine C2 ?_ | refine C3 ?_ | refine C4 ?_ | refine C5 ?_ | refine C6 ?_ | refine C7 ?_ | refine C8 ?_ | refine C9 ?_ | refine D1 rfl ?_ | refine D2 rfl ?_)
  refine CW.loop (fun k : Nat => [(0, .slice ad l.length cp), (1, .slice ad2 m.length cp2), (5, .int .i64 (off (l.drop k) (m.drop k))), (6, .int .i64 (prn (l.drop k))), (7, .int .i64 ((k : Int) - 1))]) (fun k w' => k ≤ l.length ∧ (∀ j, k ≤ j → j < l.length → 0 ≤ m.getD j 0 ∧ m.getD j 0 < l.getD j 0) ∧ Sees w h h1 [] w') (fun k => k) l.length ⟨rfl, rfl, by simp [off]; rfl, by simp [prn]; rfl, rfl, trivial⟩ ⟨by omega, by omega, hs⟩ ?_
  rintro k w' ⟨hk, hno, hs⟩
  have hob := off_drop_bound l m k hg hlen hno
  rcases k with _ | k
  · repeat (first | (refine A0 ?_; first | refine R1 rfl rfl ?_ | refine R2 rfl rfl ?_ | (refine A1 ?_; first | refine D3 rfl rfl ?_ | refine D4 rfl rfl rfl rfl ?_ | refine D5 rfl rfl rfl ?_ | refine E6 ?_ rfl rfl | refine E7 ?_ rfl rfl) | refine Zb ?_ rfl | (refine A3 ?_; first | refine R34 T hs 0 rfl rfl rfl rfl rfl rfl ?_ | refine R34 T hs 1 rfl rfl rfl rfl rfl rfl ?_ | refine Zl ?_ rfl) | refine Zi ?_ rfl | refine Zo ?_ rfl | refine A8 ?_) | (refine B0 ?_; first | refine B1 ?_ | refine B2 ?_ | refine B3 ?_ | refine B4 ?_ | refine B5 ?_ | refine B6 ?_ | refine B7 rfl ?_ | refine B8 rfl ?_ | refine E8 ?_ rfl | refine E9 ?_ rfl) | refine C1 ?_ | refine C2 ?_ | refine C3 ?_ | refine C4 ?_ | refine C5 ?_ | refine C6 ?_ | refine C7 ?_ | refine C8 ?_ | refine C9 ?_ | refine D1 rfl ?_ | refine D2 rfl ?_)
    refine retQ_ret [_] h1 ⟨rfl, trivial⟩ hs ?_
    simp [packv, at_in l m hg hlen (fun j hj => hno j (by omega) hj)]
  · have e1 : ((k + 1 : Nat) : Int) - 1 = (k : Int) := by omega
    rw [e1]
    have hgd := good_getD l hg k (by omega)
    repeat (first | (refine A0 ?_; first | refine R1 rfl rfl ?_ | refine R2 rfl rfl ?_ | (refine A1 ?_; first | refine D3 rfl rfl ?_ | refine D4 rfl rfl rfl rfl ?_ | refine D5 rfl rfl rfl ?_ | refine E6 ?_ rfl rfl | refine E7 ?_ rfl rfl) | refine Zb ?_ rfl | (refine A3 ?_; first | refine R34 T hs 0 rfl rfl rfl rfl rfl rfl ?_ | refine R34 T hs 1 rfl rfl rfl rfl rfl rfl ?_ | refine Zl ?_ rfl) | refine Zi ?_ rfl | refine Zo ?_ rfl | refine A8 ?_) | (refine B0 ?_; first | refine B1 ?_ | refine B2 ?_ | refine B3 ?_ | refine B4 ?_ | refine B5 ?_ | refine B6 ?_ | refine B7 rfl ?_ | refine B8 rfl ?_ | refine E8 ?_ rfl | refine E9 ?_ rfl) | refine C1 ?_ | refine C2 ?_ | refine C3 ?_ | refine C4 ?_ | refine C5 ?_ | refine C6 ?_ | refine C7 ?_ | refine C8 ?_ | refine C9 ?_ | refine D1 rfl ?_ | refine D2 rfl ?_)
    (refine CW.regionQ T hs ?_ (by kernel_rfl))
    repeat (first | with_reducible refine QW.nil ?_ | refine Qz ?_ rfl | refine QW.guardYes rfl rfl ?_ | refine QW.guardNo rfl rfl rfl rfl ?_ | refine QW.guardUndef rfl rfl rfl ?_ | (refine QW.gdY rfl rfl ?_ ?_; omega) | (refine QW.gdN rfl rfl ?_ ?_; omega))
    refine QW.gd rfl rfl (fun h2 => ?_) (fun h2 => ?_)
    · repeat
        first | with_reducible refine QW.nil ?_ | refine Qz ?_ rfl | refine QW.guardYes rfl rfl ?_ | refine QW.guardNo rfl rfl rfl rfl ?_ | refine QW.guardUndef rfl rfl rfl ?_ | (refine QW.gdY rfl rfl ?_ ?_; omega) | (refine QW.gdN rfl rfl ?_ ?_; omega)
      intro w' hs
      repeat (first | (refine A0 ?_; first | refine R1 rfl rfl ?_ | refine R2 rfl rfl ?_ | (refine A1 ?_; first | refine D3 rfl rfl ?_ | refine D4 rfl rfl rfl rfl ?_ | refine D5 rfl rfl rfl ?_ | refine E6 ?_ rfl rfl | refine E7 ?_ rfl rfl) | refine Zb ?_ rfl | (refine A3 ?_; first | refine R34 T hs 0 rfl rfl rfl rfl rfl rfl ?_ | refine R34 T hs 1 rfl rfl rfl rfl rfl rfl ?_ | refine Zl ?_ rfl) | refine Zi ?_ rfl | refine Zo ?_ rfl | refine A8 ?_) | (refine B0 ?_; first | refine B1 ?_ | refine B2 ?_ | refine B3 ?_ | refine B4 ?_ | refine B5 ?_ | refine B6 ?_ | refine B7 rfl ?_ | refine B8 rfl ?_ | refine E8 ?_ rfl | refine E9 ?_ rfl) | refine C1 ?_ | refine C2 ?_ | refine C3 ?_ | refine C4 ?_ | refine C5 ?_ | refine C6 ?_ | refine C7 ?_ | refine C8 ?_ | refine C9 ?_ | refine D1 rfl ?_ | refine D2 rfl ?_)
      exact retQ_ret [_] h1 ⟨rfl, trivial⟩ hs (by simp [packv, at_out l m k (by omega) (by omega)])
    · repeat
        first | with_reducible refine QW.nil ?_ | refine Qz ?_ rfl | refine QW.guardYes rfl rfl ?_ | refine QW.guardNo rfl rfl rfl rfl ?_ | refine QW.guardUndef rfl rfl rfl ?_ | (refine QW.gdY rfl rfl ?_ ?_; omega) | (refine QW.gdN rfl rfl ?_ ?_; omega)
      intro w' hs
      repeat (first | (refine A0 ?_; first | refine R1 rfl rfl ?_ | refine R2 rfl rfl ?_ | (refine A1 ?_; first | refine D3 rfl rfl ?_ | refine D4 rfl rfl rfl rfl ?_ | refine D5 rfl rfl rfl ?_ | refine E6 ?_ rfl rfl | refine E7 ?_ rfl rfl) | refine Zb ?_ rfl | (refine A3 ?_; first | refine R34 T hs 0 rfl rfl rfl rfl rfl rfl ?_ | refine R34 T hs 1 rfl rfl rfl rfl rfl rfl ?_ | refine Zl ?_ rfl) | refine Zi ?_ rfl | refine Zo ?_ rfl | refine A8 ?_) | (refine B0 ?_; first | refine B1 ?_ | refine B2 ?_ | refine B3 ?_ | refine B4 ?_ | refine B5 ?_ | refine B6 ?_ | refine B7 rfl ?_ | refine B8 rfl ?_ | refine E8 ?_ rfl | refine E9 ?_ rfl) | refine C1 ?_ | refine C2 ?_ | refine C3 ?_ | refine C4 ?_ | refine C5 ?_ | refine C6 ?_ | refine C7 ?_ | refine C8 ?_ | refine C9 ?_ | refine D1 rfl ?_ | refine D2 rfl ?_)
      refine CW.condD rfl (fun h3 => ?_) (fun h3 => ?_)
      · repeat (first | (refine A0 ?_; first | refine R1 rfl rfl ?_ | refine R2 rfl rfl ?_ | (refine A1 ?_; first | refine D3 rfl rfl ?_ | refine D4 rfl rfl rfl rfl ?_ | refine D5 rfl rfl rfl ?_ | refine E6 ?_ rfl rfl | refine E7 ?_ rfl rfl) | refine Zb ?_ rfl | (refine A3 ?_; first | refine R34 T hs 0 rfl rfl rfl rfl rfl rfl ?_ | refine R34 T hs 1 rfl rfl rfl rfl rfl rfl ?_ | refine Zl ?_ rfl) | refine Zi ?_ rfl | refine Zo ?_ rfl | refine A8 ?_) | (refine B0 ?_; first | refine B1 ?_ | refine B2 ?_ | refine B3 ?_ | refine B4 ?_ | refine B5 ?_ | refine B6 ?_ | refine B7 rfl ?_ | refine B8 rfl ?_ | refine E8 ?_ rfl | refine E9 ?_ rfl) | refine C1 ?_ | refine C2 ?_ | refine C3 ?_ | refine C4 ?_ | refine C5 ?_ | refine C6 ?_ | refine C7 ?_ | refine C8 ?_ | refine C9 ?_ | refine D1 rfl ?_ | refine D2 rfl ?_)
        exact retQ_ret [_] h1 ⟨rfl, trivial⟩ hs (by simp [packv, at_out l m k (by omega) (by omega)])
      · have hmb := mul_bound (a := prn (l.drop (k + 1))) (b := m.getD k 0) (by omega) (by omega)
        have hmb2 := mul_bound (a := prn (l.drop (k + 1))) (b := l.getD k 0) (by omega) (by omega)
        repeat (first | (refine A0 ?_; first | refine R1 rfl rfl ?_ | refine R2 rfl rfl ?_ | (refine A1 ?_; first | refine D3 rfl rfl ?_ | refine D4 rfl rfl rfl rfl ?_ | refine D5 rfl rfl rfl ?_ | refine E6 ?_ rfl rfl | refine E7 ?_ rfl rfl) | refine Zb ?_ rfl | (refine A3 ?_; first | refine R34 T hs 0 rfl rfl rfl rfl rfl rfl ?_ | refine R34 T hs 1 rfl rfl rfl rfl rfl rfl ?_ | refine Zl ?_ rfl) | refine Zi ?_ rfl | refine Zo ?_ rfl | refine A8 ?_) | (refine B0 ?_; first | refine B1 ?_ | refine B2 ?_ | refine B3 ?_ | refine B4 ?_ | refine B5 ?_ | refine B6 ?_ | refine B7 rfl ?_ | refine B8 rfl ?_ | refine E8 ?_ rfl | refine E9 ?_ rfl) | refine C1 ?_ | refine C2 ?_ | refine C3 ?_ | refine C4 ?_ | refine C5 ?_ | refine C6 ?_ | refine C7 ?_ | refine C8 ?_ | refine C9 ?_ | refine D1 rfl ?_ | refine D2 rfl ?_)
        refine RW.val (Y.mul rfl rfl ⟨by omega, by omega⟩) rfl ?_
        repeat (first | (refine A0 ?_; first | refine R1 rfl rfl ?_ | refine R2 rfl rfl ?_ | (refine A1 ?_; first | refine D3 rfl rfl ?_ | refine D4 rfl rfl rfl rfl ?_ | refine D5 rfl rfl rfl ?_ | refine E6 ?_ rfl rfl | refine E7 ?_ rfl rfl) | refine Zb ?_ rfl | (refine A3 ?_; first | refine R34 T hs 0 rfl rfl rfl rfl rfl rfl ?_ | refine R34 T hs 1 rfl rfl rfl rfl rfl rfl ?_ | refine Zl ?_ rfl) | refine Zi ?_ rfl | refine Zo ?_ rfl | refine A8 ?_) | (refine B0 ?_; first | refine B1 ?_ | refine B2 ?_ | refine B3 ?_ | refine B4 ?_ | refine B5 ?_ | refine B6 ?_ | refine B7 rfl ?_ | refine B8 rfl ?_ | refine E8 ?_ rfl | refine E9 ?_ rfl) | refine C1 ?_ | refine C2 ?_ | refine C3 ?_ | refine C4 ?_ | refine C5 ?_ | refine C6 ?_ | refine C7 ?_ | refine C8 ?_ | refine C9 ?_ | refine D1 rfl ?_ | refine D2 rfl ?_)
        refine RW.val (Y.mul rfl rfl ⟨by omega, by omega⟩) rfl ?_
        repeat (first | (refine A0 ?_; first | refine R1 rfl rfl ?_ | refine R2 rfl rfl ?_ | (refine A1 ?_; first | refine D3 rfl rfl ?_ | refine D4 rfl rfl rfl rfl ?_ | refine D5 rfl rfl rfl ?_ | refine E6 ?_ rfl rfl | refine E7 ?_ rfl rfl) | refine Zb ?_ rfl | (refine A3 ?_; first | refine R34 T hs 0 rfl rfl rfl rfl rfl rfl ?_ | refine R34 T hs 1 rfl rfl rfl rfl rfl rfl ?_ | refine Zl ?_ rfl) | refine Zi ?_ rfl | refine Zo ?_ rfl | refine A8 ?_) | (refine B0 ?_; first | refine B1 ?_ | refine B2 ?_ | refine B3 ?_ | refine B4 ?_ | refine B5 ?_ | refine B6 ?_ | refine B7 rfl ?_ | refine B8 rfl ?_ | refine E8 ?_ rfl | refine E9 ?_ rfl) | refine C1 ?_ | refine C2 ?_ | refine C3 ?_ | refine C4 ?_ | refine C5 ?_ | refine C6 ?_ | refine C7 ?_ | refine C8 ?_ | refine C9 ?_ | refine D1 rfl ?_ | refine D2 rfl ?_)
        refine loopQ_round k ⟨rfl, rfl, seti (by rw [off_drop l m k hlen (by omega), Int.mul_comm, Int.add_comm]), seti (by rw [prn_drop l k (by omega), Int.mul_comm]), rfl, trivial⟩ ⟨by omega, ?_, hs⟩ (by omega)
        intro j hj hj2
        by_cases e : j = k
        · subst e; omega
        · exact hno j (by omega) hj2
end Go.Proofs.Ythbfkhklihejiaa

/-
  Contracts of functions of package shape and of its reference, fourth part: new shapes. No statement is proved here.
-/
namespace Go.Proofs.Ythbfkhklihejiaa
open Go Go.RowKit
set_option linter.unusedVariables false
set_option linter.unusedSimpArgs false
set_option maxHeartbeats 4000000
attribute [local irreducible] CW RW QW SW HW ConM retM heldQ calmQ elemP thenQ blockQ loopQ joinQ retQ Yields Con Sl

/-- a clone of a slice of int: the caller's own -/
theorem cloneInt_conM (ad : Option Addr) (cp : Nat) (l : List Int) (w0 w : World) (h0 h : GHeap) (O : List Row) (hS : Sl h 1 ad l.length cp (l.map (Value.int .i64))) (hm : l.length ≤ 17592186044416) :
    ConM Try.prog 112 [.slice ad l.length cp] w0 h0 h O w (fun h' O' v => h' = h ∧ ∃ ad' cp', v = .slice ad' l.length cp' ∧ O' = ⟨ad', l.length, cp', 3, 1, l.map (Value.int .i64)⟩ :: O) := by
  refine ConM.of_body Try.func112 rfl Try.ntmps112 rfl rfl ?_
  intro hs
  repeat (first | (refine A0 ?_; first | refine R1 rfl rfl ?_ | refine R2 rfl rfl ?_ | (refine A1 ?_; first | refine D3 rfl rfl ?_ | refine D4 rfl rfl rfl rfl ?_ | refine D5 rfl rfl rfl ?_ | refine E6 ?_ rfl rfl | refine E7 ?_ rfl rfl) | refine Zb ?_ rfl | (refine A3 ?_; first | refine R34 T hs 0 rfl rfl rfl rfl rfl rfl ?_ | refine R34 T hs 1 rfl rfl rfl rfl rfl rfl ?_ | refine Zl ?_ rfl) | refine Zi ?_ rfl | refine Zo ?_ rfl | refine A8 ?_) | (refine B0 ?_; first | refine B1 ?_ | refine B2 ?_ | refine B3 ?_ | refine B4 ?_ | refine B5 ?_ | refine B6 ?_ | refine B7 rfl ?_ | refine B8 rfl ?_ | refine E8 ?_ rfl | refine E9 ?_ rfl) | refine C1 ?_ | refine C2 ?_ | refine C3 ?_ | refine C4 ?_ | refine C5 ?_ | refine C6 ?_ | refine C7 ?_ | refine C8 ?_ | refine C9 ?_ | refine D1 rfl ?_ | refine D2 rfl ?_)
  refine RW.val (Y.sliceNil T rfl rfl rfl) rfl ?_
  repeat (first | (refine A0 ?_; first | refine R1 rfl rfl ?_ | refine R2 rfl rfl ?_ | (refine A1 ?_; first | refine D3 rfl rfl ?_ | refine D4 rfl rfl rfl rfl ?_ | refine D5 rfl rfl rfl ?_ | refine E6 ?_ rfl rfl | refine E7 ?_ rfl rfl) | refine Zb ?_ rfl | (refine A3 ?_; first | refine R34 T hs 0 rfl rfl rfl rfl rfl rfl ?_ | refine R34 T hs 1 rfl rfl rfl rfl rfl rfl ?_ | refine Zl ?_ rfl) | refine Zi ?_ rfl | refine Zo ?_ rfl | refine A8 ?_) | (refine B0 ?_; first | refine B1 ?_ | refine B2 ?_ | refine B3 ?_ | refine B4 ?_ | refine B5 ?_ | refine B6 ?_ | refine B7 rfl ?_ | refine B8 rfl ?_ | refine E8 ?_ rfl | refine E9 ?_ rfl) | refine C1 ?_ | refine C2 ?_ | refine C3 ?_ | refine C4 ?_ | refine C5 ?_ | refine C6 ?_ | refine C7 ?_ | refine C8 ?_ | refine C9 ?_ | refine D1 rfl ?_ | refine D2 rfl ?_)
  cases ad with
  | none =>
    have h4 : l = [] := List.eq_nil_of_length_eq_zero hS.nil0.1
    subst h4
    repeat (first | (refine A0 ?_; first | refine R1 rfl rfl ?_ | refine R2 rfl rfl ?_ | (refine A1 ?_; first | refine D3 rfl rfl ?_ | refine D4 rfl rfl rfl rfl ?_ | refine D5 rfl rfl rfl ?_ | refine E6 ?_ rfl rfl | refine E7 ?_ rfl rfl) | refine Zb ?_ rfl | (refine A3 ?_; first | refine R34 T hs 0 rfl rfl rfl rfl rfl rfl ?_ | refine R34 T hs 1 rfl rfl rfl rfl rfl rfl ?_ | refine Zl ?_ rfl) | refine Zi ?_ rfl | refine Zo ?_ rfl | refine A8 ?_) | (refine B0 ?_; first | refine B1 ?_ | refine B2 ?_ | refine B3 ?_ | refine B4 ?_ | refine B5 ?_ | refine B6 ?_ | refine B7 rfl ?_ | refine B8 rfl ?_ | refine E8 ?_ rfl | refine E9 ?_ rfl) | refine C1 ?_ | refine C2 ?_ | refine C3 ?_ | refine C4 ?_ | refine C5 ?_ | refine C6 ?_ | refine C7 ?_ | refine C8 ?_ | refine C9 ?_ | refine D1 rfl ?_ | refine D2 rfl ?_)
    exact retM_ret [_] h _ ⟨rfl, trivial⟩ (GLe.refl _) (hs.nilRow 3 1) ⟨rfl, none, 0, rfl, rfl⟩
  | some p =>
    repeat (first | (refine A0 ?_; first | refine R1 rfl rfl ?_ | refine R2 rfl rfl ?_ | (refine A1 ?_; first | refine D3 rfl rfl ?_ | refine D4 rfl rfl rfl rfl ?_ | refine D5 rfl rfl rfl ?_ | refine E6 ?_ rfl rfl | refine E7 ?_ rfl rfl) | refine Zb ?_ rfl | (refine A3 ?_; first | refine R34 T hs 0 rfl rfl rfl rfl rfl rfl ?_ | refine R34 T hs 1 rfl rfl rfl rfl rfl rfl ?_ | refine Zl ?_ rfl) | refine Zi ?_ rfl | refine Zo ?_ rfl | refine A8 ?_) | (refine B0 ?_; first | refine B1 ?_ | refine B2 ?_ | refine B3 ?_ | refine B4 ?_ | refine B5 ?_ | refine B6 ?_ | refine B7 rfl ?_ | refine B8 rfl ?_ | refine E8 ?_ rfl | refine E9 ?_ rfl) | refine C1 ?_ | refine C2 ?_ | refine C3 ?_ | refine C4 ?_ | refine C5 ?_ | refine C6 ?_ | refine C7 ?_ | refine C8 ?_ | refine C9 ?_ | refine D1 rfl ?_ | refine D2 rfl ?_)
    (refine RW.lit T hs (vs := []) rfl rfl rfl rfl (by simp [Value.cells]) rfl rfl rfl rfl rfl ?_; intro b1 w1 hs)
    repeat (first | (refine A0 ?_; first | refine R1 rfl rfl ?_ | refine R2 rfl rfl ?_ | (refine A1 ?_; first | refine D3 rfl rfl ?_ | refine D4 rfl rfl rfl rfl ?_ | refine D5 rfl rfl rfl ?_ | refine E6 ?_ rfl rfl | refine E7 ?_ rfl rfl) | refine Zb ?_ rfl | (refine A3 ?_; first | refine R34 T hs 0 rfl rfl rfl rfl rfl rfl ?_ | refine R34 T hs 1 rfl rfl rfl rfl rfl rfl ?_ | refine Zl ?_ rfl) | refine Zi ?_ rfl | refine Zo ?_ rfl | refine A8 ?_) | (refine B0 ?_; first | refine B1 ?_ | refine B2 ?_ | refine B3 ?_ | refine B4 ?_ | refine B5 ?_ | refine B6 ?_ | refine B7 rfl ?_ | refine B8 rfl ?_ | refine E8 ?_ rfl | refine E9 ?_ rfl) | refine C1 ?_ | refine C2 ?_ | refine C3 ?_ | refine C4 ?_ | refine C5 ?_ | refine C6 ?_ | refine C7 ?_ | refine C8 ?_ | refine C9 ?_ | refine D1 rfl ?_ | refine D2 rfl ?_)
    refine RW.append T hs 0 rfl rfl (m := l.length) (news := l.map (Value.int .i64)) rfl rfl rfl rfl rfl rfl (hS.src hs.agree (one_ints _ _)) (by simp) (by dsimp only; omega) (by omega) ?_
    intro ad' cp' w2 hs
    repeat (first | (refine A0 ?_; first | refine R1 rfl rfl ?_ | refine R2 rfl rfl ?_ | (refine A1 ?_; first | refine D3 rfl rfl ?_ | refine D4 rfl rfl rfl rfl ?_ | refine D5 rfl rfl rfl ?_ | refine E6 ?_ rfl rfl | refine E7 ?_ rfl rfl) | refine Zb ?_ rfl | (refine A3 ?_; first | refine R34 T hs 0 rfl rfl rfl rfl rfl rfl ?_ | refine R34 T hs 1 rfl rfl rfl rfl rfl rfl ?_ | refine Zl ?_ rfl) | refine Zi ?_ rfl | refine Zo ?_ rfl | refine A8 ?_) | (refine B0 ?_; first | refine B1 ?_ | refine B2 ?_ | refine B3 ?_ | refine B4 ?_ | refine B5 ?_ | refine B6 ?_ | refine B7 rfl ?_ | refine B8 rfl ?_ | refine E8 ?_ rfl | refine E9 ?_ rfl) | refine C1 ?_ | refine C2 ?_ | refine C3 ?_ | refine C4 ?_ | refine C5 ?_ | refine C6 ?_ | refine C7 ?_ | refine C8 ?_ | refine C9 ?_ | refine D1 rfl ?_ | refine D2 rfl ?_)
    exact retM_ret [_] h _ ⟨rfl, trivial⟩ (GLe.refl _) hs ⟨rfl, ad', cp', by rw [Nat.zero_add]; rfl, by simp⟩

theorem equalInt_con (s t : Value) (l m : List Int) (w : World) (h : GHeap) (hl : IntsAt h s l) (ht : IntsAt h t m) (hm : l.length ≤ 9223372036854775807) : Con Try.prog 114 [s, t] w h (fun _ v => v = .bool (decide (l = m))) := by
  obtain ⟨ad, cp, rfl, hS⟩ := hl
  obtain ⟨ad2, cp2, rfl, hS2⟩ := ht
  refine Con.of_body Try.func114 rfl Try.ntmps114 rfl rfl ?_
  intro hs
  repeat (first | (refine A0 ?_; first | refine R1 rfl rfl ?_ | refine R2 rfl rfl ?_ | (refine A1 ?_; first | refine D3 rfl rfl ?_ | refine D4 rfl rfl rfl rfl ?_ | refine D5 rfl rfl rfl ?_ | refine E6 ?_ rfl rfl | refine E7 ?_ rfl rfl) | refine Zb ?_ rfl | (refine A3 ?_; first | refine R34 T hs 0 rfl rfl rfl rfl rfl rfl ?_ | refine R34 T hs 1 rfl rfl rfl rfl rfl rfl ?_ | refine Zl ?_ rfl) | refine Zi ?_ rfl | refine Zo ?_ rfl | refine A8 ?_) | (refine B0 ?_; first | refine B1 ?_ | refine B2 ?_ | refine B3 ?_ | refine B4 ?_ | refine B5 ?_ | refine B6 ?_ | refine B7 rfl ?_ | refine B8 rfl ?_ | refine E8 ?_ rfl | refine E9 ?_ rfl) | refine C1 ?_ | refine C2 ?_ | refine C3 ?_ | refine C4 ?_ | refine C5 ?_ | refine C6 ?_ | refine C7 ?_ | refine C8 ?_ | refine C9 ?_ | refine D1 rfl ?_ | refine D2 rfl ?_)
  refine CW.condD rfl (fun h8 => ?_) (fun h8 => ?_)
  · repeat (first | (refine A0 ?_; first | refine R1 rfl rfl ?_ | refine R2 rfl rfl ?_ | (refine A1 ?_; first | refine D3 rfl rfl ?_ | refine D4 rfl rfl rfl rfl ?_ | refine D5 rfl rfl rfl ?_ | refine E6 ?_ rfl rfl | refine E7 ?_ rfl rfl) | refine Zb ?_ rfl | (refine A3 ?_; first | refine R34 T hs 0 rfl rfl rfl rfl rfl rfl ?_ | refine R34 T hs 1 rfl rfl rfl rfl rfl rfl ?_ | refine Zl ?_ rfl) | refine Zi ?_ rfl | refine Zo ?_ rfl | refine A8 ?_) | (refine B0 ?_; first | refine B1 ?_ | refine B2 ?_ | refine B3 ?_ | refine B4 ?_ | refine B5 ?_ | refine B6 ?_ | refine B7 rfl ?_ | refine B8 rfl ?_ | refine E8 ?_ rfl | refine E9 ?_ rfl) | refine C1 ?_ | refine C2 ?_ | refine C3 ?_ | refine C4 ?_ | refine C5 ?_ | refine C6 ?_ | refine C7 ?_ | refine C8 ?_ | refine C9 ?_ | refine D1 rfl ?_ | refine D2 rfl ?_)
    refine retQ_ret [_] h ⟨rfl, trivial⟩ hs ?_
    have : l ≠ m := fun e => h8 (by rw [e])
    simp [packv, this]
  have hlen : l.length = m.length := by omega
  repeat (first | (refine A0 ?_; first | refine R1 rfl rfl ?_ | refine R2 rfl rfl ?_ | (refine A1 ?_; first | refine D3 rfl rfl ?_ | refine D4 rfl rfl rfl rfl ?_ | refine D5 rfl rfl rfl ?_ | refine E6 ?_ rfl rfl | refine E7 ?_ rfl rfl) | refine Zb ?_ rfl | (refine A3 ?_; first | refine R34 T hs 0 rfl rfl rfl rfl rfl rfl ?_ | refine R34 T hs 1 rfl rfl rfl rfl rfl rfl ?_ | refine Zl ?_ rfl) | refine Zi ?_ rfl | refine Zo ?_ rfl | refine A8 ?_) | (refine B0 ?_; first | refine B1 ?_ | refine B2 ?_ | refine B3 ?_ | refine B4 ?_ | refine B5 ?_ | refine B6 ?_ | refine B7 rfl ?_ | refine B8 rfl ?_ | refine E8 ?_ rfl | refine E9 ?_ rfl) | refine C1 ?_ | refine C2 ?_ | refine C3 ?_ | refine C4 ?_ | refine C5 ?_ | refine C6 ?_ | refine C7 ?_ | refine C8 ?_ | refine C9 ?_ | refine D1 rfl ?_ | refine D2 rfl ?_)
  refine CW.loop (fun k : Nat => [(0, .slice ad l.length cp), (1, .slice ad2 m.length cp2), (12, .int .i64 l.length), (13, .int .i64 k)]) (fun k w' => k ≤ l.length ∧ (∀ j, j < k → l.getD j 0 = m.getD j 0) ∧ Sees w h h [] w') (fun k => l.length - k) 0 ⟨rfl, rfl, rfl, rfl, trivial⟩ ⟨by omega, by omega, hs⟩ ?_
  rintro k w' ⟨hk, hno, hs⟩
  by_cases hlt : k < l.length
  · repeat (first | (refine A0 ?_; first | refine R1 rfl rfl ?_ | refine R2 rfl rfl ?_ | (refine A1 ?_; first | refine D3 rfl rfl ?_ | refine D4 rfl rfl rfl rfl ?_ | refine D5 rfl rfl rfl ?_ | refine E6 ?_ rfl rfl | refine E7 ?_ rfl rfl) | refine Zb ?_ rfl | (refine A3 ?_; first | refine R34 T hs 0 rfl rfl rfl rfl rfl rfl ?_ | refine R34 T hs 1 rfl rfl rfl rfl rfl rfl ?_ | refine Zl ?_ rfl) | refine Zi ?_ rfl | refine Zo ?_ rfl | refine A8 ?_) | (refine B0 ?_; first | refine B1 ?_ | refine B2 ?_ | refine B3 ?_ | refine B4 ?_ | refine B5 ?_ | refine B6 ?_ | refine B7 rfl ?_ | refine B8 rfl ?_ | refine E8 ?_ rfl | refine E9 ?_ rfl) | refine C1 ?_ | refine C2 ?_ | refine C3 ?_ | refine C4 ?_ | refine C5 ?_ | refine C6 ?_ | refine C7 ?_ | refine C8 ?_ | refine C9 ?_ | refine D1 rfl ?_ | refine D2 rfl ?_)
    (refine CW.regionQ T hs ?_ (by kernel_rfl))
    repeat (first | with_reducible refine QW.nil ?_ | refine Qz ?_ rfl | refine QW.guardYes rfl rfl ?_ | refine QW.guardNo rfl rfl rfl rfl ?_ | refine QW.guardUndef rfl rfl rfl ?_ | (refine QW.gdY rfl rfl ?_ ?_; omega) | (refine QW.gdN rfl rfl ?_ ?_; omega))
    intro w' hs
    repeat (first | (refine A0 ?_; first | refine R1 rfl rfl ?_ | refine R2 rfl rfl ?_ | (refine A1 ?_; first | refine D3 rfl rfl ?_ | refine D4 rfl rfl rfl rfl ?_ | refine D5 rfl rfl rfl ?_ | refine E6 ?_ rfl rfl | refine E7 ?_ rfl rfl) | refine Zb ?_ rfl | (refine A3 ?_; first | refine R34 T hs 0 rfl rfl rfl rfl rfl rfl ?_ | refine R34 T hs 1 rfl rfl rfl rfl rfl rfl ?_ | refine Zl ?_ rfl) | refine Zi ?_ rfl | refine Zo ?_ rfl | refine A8 ?_) | (refine B0 ?_; first | refine B1 ?_ | refine B2 ?_ | refine B3 ?_ | refine B4 ?_ | refine B5 ?_ | refine B6 ?_ | refine B7 rfl ?_ | refine B8 rfl ?_ | refine E8 ?_ rfl | refine E9 ?_ rfl) | refine C1 ?_ | refine C2 ?_ | refine C3 ?_ | refine C4 ?_ | refine C5 ?_ | refine C6 ?_ | refine C7 ?_ | refine C8 ?_ | refine C9 ?_ | refine D1 rfl ?_ | refine D2 rfl ?_)
    refine CW.condD rfl (fun h2 => ?_) (fun h2 => ?_)
    · repeat (first | (refine A0 ?_; first | refine R1 rfl rfl ?_ | refine R2 rfl rfl ?_ | (refine A1 ?_; first | refine D3 rfl rfl ?_ | refine D4 rfl rfl rfl rfl ?_ | refine D5 rfl rfl rfl ?_ | refine E6 ?_ rfl rfl | refine E7 ?_ rfl rfl) | refine Zb ?_ rfl | (refine A3 ?_; first | refine R34 T hs 0 rfl rfl rfl rfl rfl rfl ?_ | refine R34 T hs 1 rfl rfl rfl rfl rfl rfl ?_ | refine Zl ?_ rfl) | refine Zi ?_ rfl | refine Zo ?_ rfl | refine A8 ?_) | (refine B0 ?_; first | refine B1 ?_ | refine B2 ?_ | refine B3 ?_ | refine B4 ?_ | refine B5 ?_ | refine B6 ?_ | refine B7 rfl ?_ | refine B8 rfl ?_ | refine E8 ?_ rfl | refine E9 ?_ rfl) | refine C1 ?_ | refine C2 ?_ | refine C3 ?_ | refine C4 ?_ | refine C5 ?_ | refine C6 ?_ | refine C7 ?_ | refine C8 ?_ | refine C9 ?_ | refine D1 rfl ?_ | refine D2 rfl ?_)
      refine retQ_ret [_] h ⟨rfl, trivial⟩ hs ?_
      have : l ≠ m := fun e => h2 (by rw [e])
      simp [packv, this]
    · repeat (first | (refine A0 ?_; first | refine R1 rfl rfl ?_ | refine R2 rfl rfl ?_ | (refine A1 ?_; first | refine D3 rfl rfl ?_ | refine D4 rfl rfl rfl rfl ?_ | refine D5 rfl rfl rfl ?_ | refine E6 ?_ rfl rfl | refine E7 ?_ rfl rfl) | refine Zb ?_ rfl | (refine A3 ?_; first | refine R34 T hs 0 rfl rfl rfl rfl rfl rfl ?_ | refine R34 T hs 1 rfl rfl rfl rfl rfl rfl ?_ | refine Zl ?_ rfl) | refine Zi ?_ rfl | refine Zo ?_ rfl | refine A8 ?_) | (refine B0 ?_; first | refine B1 ?_ | refine B2 ?_ | refine B3 ?_ | refine B4 ?_ | refine B5 ?_ | refine B6 ?_ | refine B7 rfl ?_ | refine B8 rfl ?_ | refine E8 ?_ rfl | refine E9 ?_ rfl) | refine C1 ?_ | refine C2 ?_ | refine C3 ?_ | refine C4 ?_ | refine C5 ?_ | refine C6 ?_ | refine C7 ?_ | refine C8 ?_ | refine C9 ?_ | refine D1 rfl ?_ | refine D2 rfl ?_)
      refine loopQ_round (k + 1) ⟨rfl, rfl, rfl, rfl, trivial⟩ ⟨by omega, ?_, hs⟩ (by omega)
      intro j hj
      by_cases e : j = k
      · subst e; exact Decidable.of_not_not h2
      · exact hno j (by omega)
  obtain rfl : k = l.length := by omega
  repeat (first | (refine A0 ?_; first | refine R1 rfl rfl ?_ | refine R2 rfl rfl ?_ | (refine A1 ?_; first | refine D3 rfl rfl ?_ | refine D4 rfl rfl rfl rfl ?_ | refine D5 rfl rfl rfl ?_ | refine E6 ?_ rfl rfl | refine E7 ?_ rfl rfl) | refine Zb ?_ rfl | (refine A3 ?_; first | refine R34 T hs 0 rfl rfl rfl rfl rfl rfl ?_ | refine R34 T hs 1 rfl rfl rfl rfl rfl rfl ?_ | refine Zl ?_ rfl) | refine Zi ?_ rfl | refine Zo ?_ rfl | refine A8 ?_) | (refine B0 ?_; first | refine B1 ?_ | refine B2 ?_ | refine B3 ?_ | refine B4 ?_ | refine B5 ?_ | refine B6 ?_ | refine B7 rfl ?_ | refine B8 rfl ?_ | refine E8 ?_ rfl | refine E9 ?_ rfl) | refine C1 ?_ | refine C2 ?_ | refine C3 ?_ | refine C4 ?_ | refine C5 ?_ | refine C6 ?_ | refine C7 ?_ | refine C8 ?_ | refine C9 ?_ | refine D1 rfl ?_ | refine D2 rfl ?_)
  refine retQ_ret [_] h ⟨rfl, trivial⟩ hs ?_
  have : l = m := by
    apply List.ext_getElem hlen
    intro j h1 h2
    have := hno j h1
    simpa [List.getD_eq_getElem?_getD, h1, h2] using this
  simp [packv, this]

theorem same_con (s t : Value) (l m : List Int) (w : World) (h : GHeap) (hl : IntsAt h s l) (ht : IntsAt h t m) (hm : l.length ≤ 9223372036854775807) : Con Try.prog 37 [s, t] w h (fun _ v => v = .bool (decide (l = m))) := by
  refine Con.of_body Try.func37 rfl Try.ntmps37 rfl rfl ?_
  intro hs
  repeat (first | (refine A0 ?_; first | refine R1 rfl rfl ?_ | refine R2 rfl rfl ?_ | (refine A1 ?_; first | refine D3 rfl rfl ?_ | refine D4 rfl rfl rfl rfl ?_ | refine D5 rfl rfl rfl ?_ | refine E6 ?_ rfl rfl | refine E7 ?_ rfl rfl) | refine Zb ?_ rfl | (refine A3 ?_; first | refine R34 T hs 0 rfl rfl rfl rfl rfl rfl ?_ | refine R34 T hs 1 rfl rfl rfl rfl rfl rfl ?_ | refine Zl ?_ rfl) | refine Zi ?_ rfl | refine Zo ?_ rfl | refine A8 ?_) | (refine B0 ?_; first | refine B1 ?_ | refine B2 ?_ | refine B3 ?_ | refine B4 ?_ | refine B5 ?_ | refine B6 ?_ | refine B7 rfl ?_ | refine B8 rfl ?_ | refine E8 ?_ rfl | refine E9 ?_ rfl) | refine C1 ?_ | refine C2 ?_ | refine C3 ?_ | refine C4 ?_ | refine C5 ?_ | refine C6 ?_ | refine C7 ?_ | refine C8 ?_ | refine C9 ?_ | refine D1 rfl ?_ | refine D2 rfl ?_)
  (refine RW.call T hs rfl rfl rfl (equalInt_con s t l m _ _ hl ht hm) ?_; intro v h1 w1 hle1 hp1 hs)
  subst hp1
  repeat (first | (refine A0 ?_; first | refine R1 rfl rfl ?_ | refine R2 rfl rfl ?_ | (refine A1 ?_; first | refine D3 rfl rfl ?_ | refine D4 rfl rfl rfl rfl ?_ | refine D5 rfl rfl rfl ?_ | refine E6 ?_ rfl rfl | refine E7 ?_ rfl rfl) | refine Zb ?_ rfl | (refine A3 ?_; first | refine R34 T hs 0 rfl rfl rfl rfl rfl rfl ?_ | refine R34 T hs 1 rfl rfl rfl rfl rfl rfl ?_ | refine Zl ?_ rfl) | refine Zi ?_ rfl | refine Zo ?_ rfl | refine A8 ?_) | (refine B0 ?_; first | refine B1 ?_ | refine B2 ?_ | refine B3 ?_ | refine B4 ?_ | refine B5 ?_ | refine B6 ?_ | refine B7 rfl ?_ | refine B8 rfl ?_ | refine E8 ?_ rfl | refine E9 ?_ rfl) | refine C1 ?_ | refine C2 ?_ | refine C3 ?_ | refine C4 ?_ | refine C5 ?_ | refine C6 ?_ | refine C7 ?_ | refine C8 ?_ | refine C9 ?_ | refine D1 rfl ?_ | refine D2 rfl ?_)
  exact retQ_ret [_] h1 ⟨rfl, trivial⟩ hs rfl

/-- the indexes of a place: made -/
theorem index_con (s : Value) (l : List Int) (a : Int) (w : World) (h : GHeap) (hl : IntsAt h s l) (hm : l.length ≤ 9223372036854775807) : Con Try.prog 29 [s, .int .i64 a] w h
    (fun h' v => ∃ u, v = .tuple #[u, .bool (indexSpec l a).2] ∧ IntsAt h' u (indexSpec l a).1) := by
  have hl' := hl
  obtain ⟨ad, cp, rfl, hS⟩ := hl
  refine Con.of_body Try.func29 rfl Try.ntmps29 rfl rfl ?_
  intro hs
  repeat (first | (refine A0 ?_; first | refine R1 rfl rfl ?_ | refine R2 rfl rfl ?_ | (refine A1 ?_; first | refine D3 rfl rfl ?_ | refine D4 rfl rfl rfl rfl ?_ | refine D5 rfl rfl rfl ?_ | refine E6 ?_ rfl rfl | refine E7 ?_ rfl rfl) | refine Zb ?_ rfl | (refine A3 ?_; first | refine R34 T hs 0 rfl rfl rfl rfl rfl rfl ?_ | refine R34 T hs 1 rfl rfl rfl rfl rfl rfl ?_ | refine Zl ?_ rfl) | refine Zi ?_ rfl | refine Zo ?_ rfl | refine A8 ?_) | (refine B0 ?_; first | refine B1 ?_ | refine B2 ?_ | refine B3 ?_ | refine B4 ?_ | refine B5 ?_ | refine B6 ?_ | refine B7 rfl ?_ | refine B8 rfl ?_ | refine E8 ?_ rfl | refine E9 ?_ rfl) | refine C1 ?_ | refine C2 ?_ | refine C3 ?_ | refine C4 ?_ | refine C5 ?_ | refine C6 ?_ | refine C7 ?_ | refine C8 ?_ | refine C9 ?_ | refine D1 rfl ?_ | refine D2 rfl ?_)
  (refine RW.call T hs rfl rfl rfl (product_con _ l 1048576 _ _ hl' hm) ?_; intro v h1 w1 hle1 hp1 hs)
  subst hp1
  have hS := hS.mono hle1
  have bad : ¬ (goodS l = true ∧ 0 ≤ a ∧ a < (product l 1048576).1) → indexSpec l a = ([], false) := fun hn => by unfold indexSpec; rw [if_neg hn]
  repeat (first | (refine A0 ?_; first | refine R1 rfl rfl ?_ | refine R2 rfl rfl ?_ | (refine A1 ?_; first | refine D3 rfl rfl ?_ | refine D4 rfl rfl rfl rfl ?_ | refine D5 rfl rfl rfl ?_ | refine E6 ?_ rfl rfl | refine E7 ?_ rfl rfl) | refine Zb ?_ rfl | (refine A3 ?_; first | refine R34 T hs 0 rfl rfl rfl rfl rfl rfl ?_ | refine R34 T hs 1 rfl rfl rfl rfl rfl rfl ?_ | refine Zl ?_ rfl) | refine Zi ?_ rfl | refine Zo ?_ rfl | refine A8 ?_) | (refine B0 ?_; first | refine B1 ?_ | refine B2 ?_ | refine B3 ?_ | refine B4 ?_ | refine B5 ?_ | refine B6 ?_ | refine B7 rfl ?_ | refine B8 rfl ?_ | refine E8 ?_ rfl | refine E9 ?_ rfl) | refine C1 ?_ | refine C2 ?_ | refine C3 ?_ | refine C4 ?_ | refine C5 ?_ | refine C6 ?_ | refine C7 ?_ | refine C8 ?_ | refine C9 ?_ | refine D1 rfl ?_ | refine D2 rfl ?_)
  refine RW.gd rfl rfl (fun hg => ?_) (fun hg => ?_)
  · have hb := bad (fun e => hg ((goodS_iff l).1 e.1))
    repeat (first | (refine A0 ?_; first | refine R1 rfl rfl ?_ | refine R2 rfl rfl ?_ | (refine A1 ?_; first | refine D3 rfl rfl ?_ | refine D4 rfl rfl rfl rfl ?_ | refine D5 rfl rfl rfl ?_ | refine E6 ?_ rfl rfl | refine E7 ?_ rfl rfl) | refine Zb ?_ rfl | (refine A3 ?_; first | refine R34 T hs 0 rfl rfl rfl rfl rfl rfl ?_ | refine R34 T hs 1 rfl rfl rfl rfl rfl rfl ?_ | refine Zl ?_ rfl) | refine Zi ?_ rfl | refine Zo ?_ rfl | refine A8 ?_) | (refine B0 ?_; first | refine B1 ?_ | refine B2 ?_ | refine B3 ?_ | refine B4 ?_ | refine B5 ?_ | refine B6 ?_ | refine B7 rfl ?_ | refine B8 rfl ?_ | refine E8 ?_ rfl | refine E9 ?_ rfl) | refine C1 ?_ | refine C2 ?_ | refine C3 ?_ | refine C4 ?_ | refine C5 ?_ | refine C6 ?_ | refine C7 ?_ | refine C8 ?_ | refine C9 ?_ | refine D1 rfl ?_ | refine D2 rfl ?_)
    exact retQ_ret [_, _] h1 ⟨rfl, rfl, trivial⟩ hs (by rw [hb]; exact ⟨_, rfl, IntsAt.nil _⟩)
  have hg := Decidable.of_not_not hg
  repeat (first | (refine A0 ?_; first | refine R1 rfl rfl ?_ | refine R2 rfl rfl ?_ | (refine A1 ?_; first | refine D3 rfl rfl ?_ | refine D4 rfl rfl rfl rfl ?_ | refine D5 rfl rfl rfl ?_ | refine E6 ?_ rfl rfl | refine E7 ?_ rfl rfl) | refine Zb ?_ rfl | (refine A3 ?_; first | refine R34 T hs 0 rfl rfl rfl rfl rfl rfl ?_ | refine R34 T hs 1 rfl rfl rfl rfl rfl rfl ?_ | refine Zl ?_ rfl) | refine Zi ?_ rfl | refine Zo ?_ rfl | refine A8 ?_) | (refine B0 ?_; first | refine B1 ?_ | refine B2 ?_ | refine B3 ?_ | refine B4 ?_ | refine B5 ?_ | refine B6 ?_ | refine B7 rfl ?_ | refine B8 rfl ?_ | refine E8 ?_ rfl | refine E9 ?_ rfl) | refine C1 ?_ | refine C2 ?_ | refine C3 ?_ | refine C4 ?_ | refine C5 ?_ | refine C6 ?_ | refine C7 ?_ | refine C8 ?_ | refine C9 ?_ | refine D1 rfl ?_ | refine D2 rfl ?_)
  refine RW.gd rfl rfl (fun h2 => ?_) (fun h2 => ?_)
  · have hb := bad (fun e => by omega)
    repeat (first | (refine A0 ?_; first | refine R1 rfl rfl ?_ | refine R2 rfl rfl ?_ | (refine A1 ?_; first | refine D3 rfl rfl ?_ | refine D4 rfl rfl rfl rfl ?_ | refine D5 rfl rfl rfl ?_ | refine E6 ?_ rfl rfl | refine E7 ?_ rfl rfl) | refine Zb ?_ rfl | (refine A3 ?_; first | refine R34 T hs 0 rfl rfl rfl rfl rfl rfl ?_ | refine R34 T hs 1 rfl rfl rfl rfl rfl rfl ?_ | refine Zl ?_ rfl) | refine Zi ?_ rfl | refine Zo ?_ rfl | refine A8 ?_) | (refine B0 ?_; first | refine B1 ?_ | refine B2 ?_ | refine B3 ?_ | refine B4 ?_ | refine B5 ?_ | refine B6 ?_ | refine B7 rfl ?_ | refine B8 rfl ?_ | refine E8 ?_ rfl | refine E9 ?_ rfl) | refine C1 ?_ | refine C2 ?_ | refine C3 ?_ | refine C4 ?_ | refine C5 ?_ | refine C6 ?_ | refine C7 ?_ | refine C8 ?_ | refine C9 ?_ | refine D1 rfl ?_ | refine D2 rfl ?_)
    exact retQ_ret [_, _] h1 ⟨rfl, rfl, trivial⟩ hs (by rw [hb]; exact ⟨_, rfl, IntsAt.nil _⟩)
  repeat (first | (refine A0 ?_; first | refine R1 rfl rfl ?_ | refine R2 rfl rfl ?_ | (refine A1 ?_; first | refine D3 rfl rfl ?_ | refine D4 rfl rfl rfl rfl ?_ | refine D5 rfl rfl rfl ?_ | refine E6 ?_ rfl rfl | refine E7 ?_ rfl rfl) | refine Zb ?_ rfl | (refine A3 ?_; first | refine R34 T hs 0 rfl rfl rfl rfl rfl rfl ?_ | refine R34 T hs 1 rfl rfl rfl rfl rfl rfl ?_ | refine Zl ?_ rfl) | refine Zi ?_ rfl | refine Zo ?_ rfl | refine A8 ?_) | (refine B0 ?_; first | refine B1 ?_ | refine B2 ?_ | refine B3 ?_ | refine B4 ?_ | refine B5 ?_ | refine B6 ?_ | refine B7 rfl ?_ | refine B8 rfl ?_ | refine E8 ?_ rfl | refine E9 ?_ rfl) | refine C1 ?_ | refine C2 ?_ | refine C3 ?_ | refine C4 ?_ | refine C5 ?_ | refine C6 ?_ | refine C7 ?_ | refine C8 ?_ | refine C9 ?_ | refine D1 rfl ?_ | refine D2 rfl ?_)
  refine CW.condD rfl (fun h3 => ?_) (fun h3 => ?_)
  · have hb := bad (fun e => by omega)
    repeat (first | (refine A0 ?_; first | refine R1 rfl rfl ?_ | refine R2 rfl rfl ?_ | (refine A1 ?_; first | refine D3 rfl rfl ?_ | refine D4 rfl rfl rfl rfl ?_ | refine D5 rfl rfl rfl ?_ | refine E6 ?_ rfl rfl | refine E7 ?_ rfl rfl) | refine Zb ?_ rfl | (refine A3 ?_; first | refine R34 T hs 0 rfl rfl rfl rfl rfl rfl ?_ | refine R34 T hs 1 rfl rfl rfl rfl rfl rfl ?_ | refine Zl ?_ rfl) | refine Zi ?_ rfl | refine Zo ?_ rfl | refine A8 ?_) | (refine B0 ?_; first | refine B1 ?_ | refine B2 ?_ | refine B3 ?_ | refine B4 ?_ | refine B5 ?_ | refine B6 ?_ | refine B7 rfl ?_ | refine B8 rfl ?_ | refine E8 ?_ rfl | refine E9 ?_ rfl) | refine C1 ?_ | refine C2 ?_ | refine C3 ?_ | refine C4 ?_ | refine C5 ?_ | refine C6 ?_ | refine C7 ?_ | refine C8 ?_ | refine C9 ?_ | refine D1 rfl ?_ | refine D2 rfl ?_)
    exact retQ_ret [_, _] h1 ⟨rfl, rfl, trivial⟩ hs (by rw [hb]; exact ⟨_, rfl, IntsAt.nil _⟩)
  have hin : indexSpec l a = (idxOf l a, true) := by
    unfold indexSpec; rw [if_pos ⟨(goodS_iff l).2 hg, by omega, by omega⟩]
  obtain ⟨hpos, hprod⟩ := idx_pos l a ((goodS_iff l).2 hg) ⟨by omega, by omega⟩
  have hgs := (goodS_spec l).1 ((goodS_iff l).2 hg)
  have ha1 : a < 1048576 := by omega
  have ha0 : 0 ≤ a := by omega
  clear bad h2 h3
  repeat (first | (refine A0 ?_; first | refine R1 rfl rfl ?_ | refine R2 rfl rfl ?_ | (refine A1 ?_; first | refine D3 rfl rfl ?_ | refine D4 rfl rfl rfl rfl ?_ | refine D5 rfl rfl rfl ?_ | refine E6 ?_ rfl rfl | refine E7 ?_ rfl rfl) | refine Zb ?_ rfl | (refine A3 ?_; first | refine R34 T hs 0 rfl rfl rfl rfl rfl rfl ?_ | refine R34 T hs 1 rfl rfl rfl rfl rfl rfl ?_ | refine Zl ?_ rfl) | refine Zi ?_ rfl | refine Zo ?_ rfl | refine A8 ?_) | (refine B0 ?_; first | refine B1 ?_ | refine B2 ?_ | refine B3 ?_ | refine B4 ?_ | refine B5 ?_ | refine B6 ?_ | refine B7 rfl ?_ | refine B8 rfl ?_ | refine E8 ?_ rfl | refine E9 ?_ rfl) | refine C1 ?_ | refine C2 ?_ | refine C3 ?_ | refine C4 ?_ | refine C5 ?_ | refine C6 ?_ | refine C7 ?_ | refine C8 ?_ | refine C9 ?_ | refine D1 rfl ?_ | refine D2 rfl ?_)
  (refine RW.make T hs rfl rfl rfl rfl rfl ?_ ?_ ?_ ?_ ?_; omega; omega; (dsimp only; omega); omega; intro b2 w2 hs)
  repeat (first | (refine A0 ?_; first | refine R1 rfl rfl ?_ | refine R2 rfl rfl ?_ | (refine A1 ?_; first | refine D3 rfl rfl ?_ | refine D4 rfl rfl rfl rfl ?_ | refine D5 rfl rfl rfl ?_ | refine E6 ?_ rfl rfl | refine E7 ?_ rfl rfl) | refine Zb ?_ rfl | (refine A3 ?_; first | refine R34 T hs 0 rfl rfl rfl rfl rfl rfl ?_ | refine R34 T hs 1 rfl rfl rfl rfl rfl rfl ?_ | refine Zl ?_ rfl) | refine Zi ?_ rfl | refine Zo ?_ rfl | refine A8 ?_) | (refine B0 ?_; first | refine B1 ?_ | refine B2 ?_ | refine B3 ?_ | refine B4 ?_ | refine B5 ?_ | refine B6 ?_ | refine B7 rfl ?_ | refine B8 rfl ?_ | refine E8 ?_ rfl | refine E9 ?_ rfl) | refine C1 ?_ | refine C2 ?_ | refine C3 ?_ | refine C4 ?_ | refine C5 ?_ | refine C6 ?_ | refine C7 ?_ | refine C8 ?_ | refine C9 ?_ | refine D1 rfl ?_ | refine D2 rfl ?_)
  refine CW.loop (fun k : Nat => [(0, .slice ad l.length cp), (1, .int .i64 (a / prn (l.drop k))), (8, .slice (some ⟨b2, 0, none⟩) l.length l.length), (9, .int .i64 ((k : Int) - 1))]) (fun k w' => k ≤ l.length ∧ Sees w h h1 [⟨some ⟨b2, 0, none⟩, l.length, l.length, 3, 1, (List.replicate k 0 ++ (idxOf l a).drop k).map (Value.int .i64)⟩] w') (fun k => k) l.length ⟨rfl, seti (by simp [prn]), rfl, rfl, trivial⟩ ⟨by omega, hs.cast (by
    simp only [Int.toNat_natCast]
    rw [List.drop_of_length_le (by rw [length_idxOf]; omega), List.append_nil, List.map_replicate]
    exact congrArg (fun z => [Row.mk (some ⟨b2, 0, none⟩) l.length l.length 3 1 z]) (made_one _ _))⟩ ?_
  rintro k w' ⟨hk, hs⟩
  rcases k with _ | k
  · repeat (first | (refine A0 ?_; first | refine R1 rfl rfl ?_ | refine R2 rfl rfl ?_ | (refine A1 ?_; first | refine D3 rfl rfl ?_ | refine D4 rfl rfl rfl rfl ?_ | refine D5 rfl rfl rfl ?_ | refine E6 ?_ rfl rfl | refine E7 ?_ rfl rfl) | refine Zb ?_ rfl | (refine A3 ?_; first | refine R34 T hs 0 rfl rfl rfl rfl rfl rfl ?_ | refine R34 T hs 1 rfl rfl rfl rfl rfl rfl ?_ | refine Zl ?_ rfl) | refine Zi ?_ rfl | refine Zo ?_ rfl | refine A8 ?_) | (refine B0 ?_; first | refine B1 ?_ | refine B2 ?_ | refine B3 ?_ | refine B4 ?_ | refine B5 ?_ | refine B6 ?_ | refine B7 rfl ?_ | refine B8 rfl ?_ | refine E8 ?_ rfl | refine E9 ?_ rfl) | refine C1 ?_ | refine C2 ?_ | refine C3 ?_ | refine C4 ?_ | refine C5 ?_ | refine C6 ?_ | refine C7 ?_ | refine C8 ?_ | refine C9 ?_ | refine D1 rfl ?_ | refine D2 rfl ?_)
    obtain ⟨h3, hle3, hs3, hS3⟩ := hs.freeze
    simp only [List.replicate_zero, List.nil_append, List.drop_zero] at hS3
    exact retQ_ret [_, _] h3 ⟨rfl, rfl, trivial⟩ hs3 (by rw [hin]; exact ⟨_, rfl, IntsAt.of_sl hS3⟩)
  · have e1 : ((k + 1 : Nat) : Int) - 1 = (k : Int) := by omega
    rw [e1]
    have hd := hpos (l.getD k 0) (by simp [List.getD_eq_getElem?_getD, show k < l.length by omega])
    have hpd := prn_pos (l.drop (k + 1)) (fun x hx => hpos x (List.mem_of_mem_drop hx))
    have hq0 : 0 ≤ a / prn (l.drop (k + 1)) := Int.ediv_nonneg ha0 (by omega)
    have hq1 : a / prn (l.drop (k + 1)) ≤ a := Int.ediv_le_self _ ha0
    repeat (first | (refine A0 ?_; first | refine R1 rfl rfl ?_ | refine R2 rfl rfl ?_ | (refine A1 ?_; first | refine D3 rfl rfl ?_ | refine D4 rfl rfl rfl rfl ?_ | refine D5 rfl rfl rfl ?_ | refine E6 ?_ rfl rfl | refine E7 ?_ rfl rfl) | refine Zb ?_ rfl | (refine A3 ?_; first | refine R34 T hs 0 rfl rfl rfl rfl rfl rfl ?_ | refine R34 T hs 1 rfl rfl rfl rfl rfl rfl ?_ | refine Zl ?_ rfl) | refine Zi ?_ rfl | refine Zo ?_ rfl | refine A8 ?_) | (refine B0 ?_; first | refine B1 ?_ | refine B2 ?_ | refine B3 ?_ | refine B4 ?_ | refine B5 ?_ | refine B6 ?_ | refine B7 rfl ?_ | refine B8 rfl ?_ | refine E8 ?_ rfl | refine E9 ?_ rfl) | refine C1 ?_ | refine C2 ?_ | refine C3 ?_ | refine C4 ?_ | refine C5 ?_ | refine C6 ?_ | refine C7 ?_ | refine C8 ?_ | refine C9 ?_ | refine D1 rfl ?_ | refine D2 rfl ?_)
    refine RW.val (Y.idxRN T hs 0 rfl rfl rfl rfl rfl rfl ?_) rfl ?_
    · omega
    refine RW.st1 T hs 0 rfl rfl rfl rfl rfl rfl rfl (by omega) ?_
    intro w2 hs
    repeat (first | (refine A0 ?_; first | refine R1 rfl rfl ?_ | refine R2 rfl rfl ?_ | (refine A1 ?_; first | refine D3 rfl rfl ?_ | refine D4 rfl rfl rfl rfl ?_ | refine D5 rfl rfl rfl ?_ | refine E6 ?_ rfl rfl | refine E7 ?_ rfl rfl) | refine Zb ?_ rfl | (refine A3 ?_; first | refine R34 T hs 0 rfl rfl rfl rfl rfl rfl ?_ | refine R34 T hs 1 rfl rfl rfl rfl rfl rfl ?_ | refine Zl ?_ rfl) | refine Zi ?_ rfl | refine Zo ?_ rfl | refine A8 ?_) | (refine B0 ?_; first | refine B1 ?_ | refine B2 ?_ | refine B3 ?_ | refine B4 ?_ | refine B5 ?_ | refine B6 ?_ | refine B7 rfl ?_ | refine B8 rfl ?_ | refine E8 ?_ rfl | refine E9 ?_ rfl) | refine C1 ?_ | refine C2 ?_ | refine C3 ?_ | refine C4 ?_ | refine C5 ?_ | refine C6 ?_ | refine C7 ?_ | refine C8 ?_ | refine C9 ?_ | refine D1 rfl ?_ | refine D2 rfl ?_)
    refine loopQ_round k ⟨rfl, seti (by rw [prn_drop l k (by omega), Int.mul_comm, Int.ediv_ediv_of_nonneg (by omega)]), rfl, rfl, trivial⟩ ⟨by omega, hs.cast ?_⟩ (by omega)
    rw [map_set_int]
    refine congrArg (fun (z : List Int) => [Row.mk (some ⟨b2, 0, none⟩) l.length l.length 3 1 (z.map (Value.int .i64))]) ?_
    rw [List.replicate_succ', List.append_assoc, List.set_append_right _ _ (by simp)]
    simp only [List.length_replicate, Nat.sub_self]
    rw [drop_pred (idxOf l a) k (by rw [length_idxOf]; omega), getD_idxOf l a k (by omega)]
    simp
end Go.Proofs.Ythbfkhklihejiaa

/-
  Contracts of functions of package value: whether arrays, and elements, are alike. No statement is proved here.
-/
namespace Go.Proofs.Ythbfkhklihejiaa
open Go Go.RowKit
set_option linter.unusedVariables false
set_option linter.unusedSimpArgs false
set_option maxHeartbeats 4000000
attribute [local irreducible] CW RW QW SW HW ConM retM heldQ calmQ elemP thenQ blockQ loopQ joinQ retQ Yields Con Sl zF magR unitF truncF fwF wholeF tidySpec elemQ rankF leastN tidyW

section
variable {α β : Type} {R : GHeap → List Value → α → Prop}
theorem itemsV_num (f : α → β) {v : VecD α} {i : Nat} (hc : v.cls = 0) (hi : i < v.nums.length) : (itemsV f v).getD i noItem = ⟨0, v.num i, 0, []⟩ := by
  unfold itemsV; rw [if_neg (by omega), if_neg (by omega), getD_map' _ _ _ _ hi]
  unfold VecD.num; rw [if_pos (by omega), Int.toNat_natCast, List.getD_eq_getElem?_getD, List.getElem?_eq_getElem hi]; rfl
theorem itemsV_chr (f : α → β) {v : VecD α} {i : Nat} (hc : v.cls = 1) (hi : i < v.chars.length) : (itemsV f v).getD i noItem = ⟨1, 0, v.chr i, []⟩ := by
  unfold itemsV; rw [if_pos hc, getD_map' _ _ _ _ hi]
  unfold VecD.chr; rw [if_pos (by omega), Int.toNat_natCast, List.getD_eq_getElem?_getD, List.getElem?_eq_getElem hi]; rfl
theorem itemsV_box (f : α → β) {v : VecD α} {i : Nat} (hc : v.cls = 2) (hi : i < v.boxes.length) : (itemsV f v).getD i noItem = ⟨2, 0, 0, [f v.boxes[i]]⟩ := by
  unfold itemsV; rw [if_neg (by omega), if_pos hc, getD_map' _ _ _ _ hi]
theorem itemsV_kind (f : α → β) {h : GHeap} {cs : List Value} {v : VecD α} (hv : VecAt R h cs v) {i : Nat} (hi : i < v.len) : ((itemsV f v).getD i noItem).kind = v.cls := by
  rcases hv.sorts with ⟨hc, hn⟩ | ⟨hc, hn⟩ | ⟨hc, hn⟩
  · rw [itemsV_num f hc (by omega), hc]
  · rw [itemsV_chr f hc (by omega), hc]
  · rw [itemsV_box f hc (by omega), hc]
theorem alike_step (hR : Mono R) (h1 : One R) (f : α → β) (q : α → Prop) (ih : ∀ cs cs' a b w h, R h cs a → R h cs' b → q a → q b → Con Try.prog 69 [.agg cs.toArray, .agg cs'.toArray] w h (fun _ u => u = .bool (eqB (f a) (f b))))
    (cs cs' : List Value) (a b : VecD α) (i j : Nat) (w : World) (h : GHeap) (ha : VecAt R h cs a) (hb : VecAt R h cs' b) (hi : i < a.len) (hj : j < b.len) (qa : ∀ x ∈ a.boxes, q x) (qb : ∀ x ∈ b.boxes, q x) :
    Con Try.prog 70 [.agg cs.toArray, .int .i64 i, .agg cs'.toArray, .int .i64 j] w h (fun _ u => u = .bool (eqB ((itemsV f a).getD i noItem) ((itemsV f b).getD j noItem))) := by
  have ha' := ha
  have hb' := hb
  obtain ⟨wv, nv, sm, il, fl, ch, bx, ⟨rfl, hoc⟩, hka⟩ := ha
  obtain ⟨wv', nv', sm', il', fl', ch', bx', ⟨rfl, hoc'⟩, hkb⟩ := hb
  clear hka hkb
  refine Con.of_body Try.func70 rfl Try.ntmps70 rfl rfl ?_
  intro hs
  repeat (first | (refine A0 ?_; first | refine R1 rfl rfl ?_ | refine R2 rfl rfl ?_ | (refine A1 ?_; first | refine D3 rfl rfl ?_ | refine D4 rfl rfl rfl rfl ?_ | refine D5 rfl rfl rfl ?_ | refine E6 ?_ rfl rfl | refine E7 ?_ rfl rfl) | refine Zb ?_ rfl | (refine A3 ?_; first | refine R34 T hs 0 rfl rfl rfl rfl rfl rfl ?_ | refine R34 T hs 1 rfl rfl rfl rfl rfl rfl ?_ | refine Zl ?_ rfl) | refine Zi ?_ rfl | refine Zo ?_ rfl | refine A8 ?_) | (refine B0 ?_; first | refine B1 ?_ | refine B2 ?_ | refine B3 ?_ | refine B4 ?_ | refine B5 ?_ | refine B6 ?_ | refine B7 rfl ?_ | refine B8 rfl ?_ | refine E8 ?_ rfl | refine E9 ?_ rfl) | refine C1 ?_ | refine C2 ?_ | refine C3 ?_ | refine C4 ?_ | refine C5 ?_ | refine C6 ?_ | refine C7 ?_ | refine C8 ?_ | refine C9 ?_ | refine D1 rfl ?_ | refine D2 rfl ?_)
  (refine RW.boxN hs rfl rfl ?_; intro b1 w1 hs)
  repeat (first | (refine A0 ?_; first | refine R1 rfl rfl ?_ | refine R2 rfl rfl ?_ | (refine A1 ?_; first | refine D3 rfl rfl ?_ | refine D4 rfl rfl rfl rfl ?_ | refine D5 rfl rfl rfl ?_ | refine E6 ?_ rfl rfl | refine E7 ?_ rfl rfl) | refine Zb ?_ rfl | (refine A3 ?_; first | refine R34 T hs 0 rfl rfl rfl rfl rfl rfl ?_ | refine R34 T hs 1 rfl rfl rfl rfl rfl rfl ?_ | refine Zk ?_ rfl) | refine Zi ?_ rfl | refine Zq ?_ rfl | refine A8 ?_) | (refine B0 ?_; first | refine B1 ?_ | refine B2 ?_ | refine B3 ?_ | refine B4 ?_ | refine B5 ?_ | refine B6 ?_ | refine B7 rfl ?_ | refine B8 rfl ?_ | refine E8 ?_ rfl | refine E9 ?_ rfl) | refine C1 ?_ | refine C2 ?_ | refine C3 ?_ | refine C4 ?_ | refine C5 ?_ | refine C6 ?_ | refine C7 ?_ | refine C8 ?_ | refine C9 ?_ | refine D1 rfl ?_ | refine D2 rfl ?_)
  (refine RW.boxN hs rfl rfl ?_; intro b2 w2 hs)
  repeat (first | (refine A0 ?_; first | refine R1 rfl rfl ?_ | refine R2 rfl rfl ?_ | (refine A1 ?_; first | refine D3 rfl rfl ?_ | refine D4 rfl rfl rfl rfl ?_ | refine D5 rfl rfl rfl ?_ | refine E6 ?_ rfl rfl | refine E7 ?_ rfl rfl) | refine Zb ?_ rfl | (refine A3 ?_; first | refine R34 T hs 0 rfl rfl rfl rfl rfl rfl ?_ | refine R34 T hs 1 rfl rfl rfl rfl rfl rfl ?_ | refine Zk ?_ rfl) | refine Zi ?_ rfl | refine Zq ?_ rfl | refine A8 ?_) | (refine B0 ?_; first | refine B1 ?_ | refine B2 ?_ | refine B3 ?_ | refine B4 ?_ | refine B5 ?_ | refine B6 ?_ | refine B7 rfl ?_ | refine B8 rfl ?_ | refine E8 ?_ rfl | refine E9 ?_ rfl) | refine C1 ?_ | refine C2 ?_ | refine C3 ?_ | refine C4 ?_ | refine C5 ?_ | refine C6 ?_ | refine C7 ?_ | refine C8 ?_ | refine C9 ?_ | refine D1 rfl ?_ | refine D2 rfl ?_)
  (refine CW.regionQ T hs ?_ (by kernel_rfl))
  repeat (first | with_reducible refine QW.nil ?_ | refine Qe ?_ rfl | refine QW.guardYes rfl rfl ?_ | refine QW.guardNo rfl rfl rfl rfl ?_ | refine QW.guardUndef rfl rfl rfl ?_ | (refine QW.gdY rfl rfl ?_ ?_; omega) | (refine QW.gdN rfl rfl ?_ ?_; omega))
  refine QW.call T hs rfl rfl rfl (fun w => vecClass_con _ a w _ ha') ?_
  repeat (first | with_reducible refine QW.nil ?_ | refine Qe ?_ rfl | refine QW.guardYes rfl rfl ?_ | refine QW.guardNo rfl rfl rfl rfl ?_ | refine QW.guardUndef rfl rfl rfl ?_ | (refine QW.gdY rfl rfl ?_ ?_; omega) | (refine QW.gdN rfl rfl ?_ ?_; omega))
  refine QW.call T hs rfl rfl rfl (fun w => vecClass_con _ b w _ hb') ?_
  repeat (first | with_reducible refine QW.nil ?_ | refine Qe ?_ rfl | refine QW.guardYes rfl rfl ?_ | refine QW.guardNo rfl rfl rfl rfl ?_ | refine QW.guardUndef rfl rfl rfl ?_ | (refine QW.gdY rfl rfl ?_ ?_; omega) | (refine QW.gdN rfl rfl ?_ ?_; omega))
  intro w3 hs
  by_cases c1 : a.cls ≠ b.cls
  · repeat (first | (refine A0 ?_; first | refine R1 rfl rfl ?_ | refine R2 rfl rfl ?_ | (refine A1 ?_; first | refine D3 rfl rfl ?_ | refine D4 rfl rfl rfl rfl ?_ | refine D5 rfl rfl rfl ?_ | refine E6 ?_ rfl rfl | refine E7 ?_ rfl rfl) | refine Zb ?_ rfl | (refine A3 ?_; first | refine R34 T hs 0 rfl rfl rfl rfl rfl rfl ?_ | refine R34 T hs 1 rfl rfl rfl rfl rfl rfl ?_ | refine Zk ?_ rfl) | refine Zi ?_ rfl | refine Zq ?_ rfl | refine A8 ?_) | (refine B0 ?_; first | refine B1 ?_ | refine B2 ?_ | refine B3 ?_ | refine B4 ?_ | refine B5 ?_ | refine B6 ?_ | refine B7 rfl ?_ | refine B8 rfl ?_ | refine E8 ?_ rfl | refine E9 ?_ rfl) | refine C1 ?_ | refine C2 ?_ | refine C3 ?_ | refine C4 ?_ | refine C5 ?_ | refine C6 ?_ | refine C7 ?_ | refine C8 ?_ | refine C9 ?_ | refine D1 rfl ?_ | refine D2 rfl ?_)
    refine retQ_ret [_] h ⟨rfl, trivial⟩ hs.dropAll ?_
    rw [eqB_not]
    · rfl
    · intro e
      have := congrArg ItemD.kind e
      rw [itemsV_kind f ha' hi, itemsV_kind f hb' hj] at this
      exact c1 this
  repeat (first | (refine A0 ?_; first | refine R1 rfl rfl ?_ | refine R2 rfl rfl ?_ | (refine A1 ?_; first | refine D3 rfl rfl ?_ | refine D4 rfl rfl rfl rfl ?_ | refine D5 rfl rfl rfl ?_ | refine E6 ?_ rfl rfl | refine E7 ?_ rfl rfl) | refine Zb ?_ rfl | (refine A3 ?_; first | refine R34 T hs 0 rfl rfl rfl rfl rfl rfl ?_ | refine R34 T hs 1 rfl rfl rfl rfl rfl rfl ?_ | refine Zk ?_ rfl) | refine Zi ?_ rfl | refine Zq ?_ rfl | refine A8 ?_) | (refine B0 ?_; first | refine B1 ?_ | refine B2 ?_ | refine B3 ?_ | refine B4 ?_ | refine B5 ?_ | refine B6 ?_ | refine B7 rfl ?_ | refine B8 rfl ?_ | refine E8 ?_ rfl | refine E9 ?_ rfl) | refine C1 ?_ | refine C2 ?_ | refine C3 ?_ | refine C4 ?_ | refine C5 ?_ | refine C6 ?_ | refine C7 ?_ | refine C8 ?_ | refine C9 ?_ | refine D1 rfl ?_ | refine D2 rfl ?_)
  (refine RW.call T hs rfl rfl rfl (vecClass_con _ a _ _ ha') ?_; intro v h4 w4 hle4 hp4 hs)
  subst hp4
  have ha' := ha'.mono hR hle4
  have hb' := hb'.mono hR hle4
  repeat (first | (refine A0 ?_; first | refine R1 rfl rfl ?_ | refine R2 rfl rfl ?_ | (refine A1 ?_; first | refine D3 rfl rfl ?_ | refine D4 rfl rfl rfl rfl ?_ | refine D5 rfl rfl rfl ?_ | refine E6 ?_ rfl rfl | refine E7 ?_ rfl rfl) | refine Zb ?_ rfl | (refine A3 ?_; first | refine R34 T hs 0 rfl rfl rfl rfl rfl rfl ?_ | refine R34 T hs 1 rfl rfl rfl rfl rfl rfl ?_ | refine Zk ?_ rfl) | refine Zi ?_ rfl | refine Zq ?_ rfl | refine A8 ?_) | (refine B0 ?_; first | refine B1 ?_ | refine B2 ?_ | refine B3 ?_ | refine B4 ?_ | refine B5 ?_ | refine B6 ?_ | refine B7 rfl ?_ | refine B8 rfl ?_ | refine E8 ?_ rfl | refine E9 ?_ rfl) | refine C1 ?_ | refine C2 ?_ | refine C3 ?_ | refine C4 ?_ | refine C5 ?_ | refine C6 ?_ | refine C7 ?_ | refine C8 ?_ | refine C9 ?_ | refine D1 rfl ?_ | refine D2 rfl ?_)
  rcases ha'.sorts with ⟨hc, hn⟩ | ⟨hc, hn⟩ | ⟨hc, hn⟩
  · have hnb : b.len = b.nums.length := by rcases hb'.sorts with ⟨e, e2⟩ | ⟨e, _⟩ | ⟨e, _⟩ <;> omega
    rw [itemsV_num f hc (by omega), itemsV_num f (by omega) (by omega)]
    have ta : tidyF (a.num i) := by unfold VecD.num; rw [if_pos (by omega), Int.toNat_natCast]; exact ha'.tidy _ (mem_getD _ _ _ (by omega))
    have tb : tidyF (b.num j) := by unfold VecD.num; rw [if_pos (by omega), Int.toNat_natCast]; exact hb'.tidy _ (mem_getD _ _ _ (by omega))
    repeat (first | (refine A0 ?_; first | refine R1 rfl rfl ?_ | refine R2 rfl rfl ?_ | (refine A1 ?_; first | refine D3 rfl rfl ?_ | refine D4 rfl rfl rfl rfl ?_ | refine D5 rfl rfl rfl ?_ | refine E6 ?_ rfl rfl | refine E7 ?_ rfl rfl) | refine Zb ?_ rfl | (refine A3 ?_; first | refine R34 T hs 0 rfl rfl rfl rfl rfl rfl ?_ | refine R34 T hs 1 rfl rfl rfl rfl rfl rfl ?_ | refine Zk ?_ rfl) | refine Zi ?_ rfl | refine Zq ?_ rfl | refine A8 ?_) | (refine B0 ?_; first | refine B1 ?_ | refine B2 ?_ | refine B3 ?_ | refine B4 ?_ | refine B5 ?_ | refine B6 ?_ | refine B7 rfl ?_ | refine B8 rfl ?_ | refine E8 ?_ rfl | refine E9 ?_ rfl) | refine C1 ?_ | refine C2 ?_ | refine C3 ?_ | refine C4 ?_ | refine C5 ?_ | refine C6 ?_ | refine C7 ?_ | refine C8 ?_ | refine C9 ?_ | refine D1 rfl ?_ | refine D2 rfl ?_)
    (refine CW.regionQ T hs ?_ (by kernel_rfl))
    repeat (first | with_reducible refine QW.nil ?_ | refine Qe ?_ rfl | refine QW.guardYes rfl rfl ?_ | refine QW.guardNo rfl rfl rfl rfl ?_ | refine QW.guardUndef rfl rfl rfl ?_ | (refine QW.gdY rfl rfl ?_ ?_; omega) | (refine QW.gdN rfl rfl ?_ ?_; omega))
    refine QW.call T hs rfl rfl rfl (fun w => vecNum_con _ a i w _ ha') ?_
    repeat (first | with_reducible refine QW.nil ?_ | refine Qe ?_ rfl | refine QW.guardYes rfl rfl ?_ | refine QW.guardNo rfl rfl rfl rfl ?_ | refine QW.guardUndef rfl rfl rfl ?_ | (refine QW.gdY rfl rfl ?_ ?_; omega) | (refine QW.gdN rfl rfl ?_ ?_; omega))
    refine QW.call T hs rfl rfl rfl (fun w => vecNum_con _ b j w _ hb') ?_
    refine QW.val (fun _ _ => Y.fEql ta.2.1 tb.2.1 rfl rfl) rfl ?_
    repeat (first | with_reducible refine QW.nil ?_ | refine Qe ?_ rfl | refine QW.guardYes rfl rfl ?_ | refine QW.guardNo rfl rfl rfl rfl ?_ | refine QW.guardUndef rfl rfl rfl ?_ | (refine QW.gdY rfl rfl ?_ ?_; omega) | (refine QW.gdN rfl rfl ?_ ?_; omega))
    intro w5 hs
    repeat (first | (refine A0 ?_; first | refine R1 rfl rfl ?_ | refine R2 rfl rfl ?_ | (refine A1 ?_; first | refine D3 rfl rfl ?_ | refine D4 rfl rfl rfl rfl ?_ | refine D5 rfl rfl rfl ?_ | refine E6 ?_ rfl rfl | refine E7 ?_ rfl rfl) | refine Zb ?_ rfl | (refine A3 ?_; first | refine R34 T hs 0 rfl rfl rfl rfl rfl rfl ?_ | refine R34 T hs 1 rfl rfl rfl rfl rfl rfl ?_ | refine Zk ?_ rfl) | refine Zi ?_ rfl | refine Zq ?_ rfl | refine A8 ?_) | (refine B0 ?_; first | refine B1 ?_ | refine B2 ?_ | refine B3 ?_ | refine B4 ?_ | refine B5 ?_ | refine B6 ?_ | refine B7 rfl ?_ | refine B8 rfl ?_ | refine E8 ?_ rfl | refine E9 ?_ rfl) | refine C1 ?_ | refine C2 ?_ | refine C3 ?_ | refine C4 ?_ | refine C5 ?_ | refine C6 ?_ | refine C7 ?_ | refine C8 ?_ | refine C9 ?_ | refine D1 rfl ?_ | refine D2 rfl ?_)
    refine retQ_ret [_] h4 ⟨rfl, trivial⟩ hs.dropAll ?_
    show Value.bool _ = Value.bool _
    congr 1
    by_cases e : a.num i = b.num j
    · rw [decide_eq_true (by rw [e]), eqB_of (by rw [e])]
    · rw [decide_eq_false (fun e' => e (zF_inj ta tb e')), eqB_not (fun e' => e (by injection e'))]
  · have hnb : b.len = b.chars.length := by rcases hb'.sorts with ⟨e, _⟩ | ⟨e, e2⟩ | ⟨e, _⟩ <;> omega
    rw [itemsV_chr f hc (by omega), itemsV_chr f (by omega) (by omega)]
    repeat (first | (refine A0 ?_; first | refine R1 rfl rfl ?_ | refine R2 rfl rfl ?_ | (refine A1 ?_; first | refine D3 rfl rfl ?_ | refine D4 rfl rfl rfl rfl ?_ | refine D5 rfl rfl rfl ?_ | refine E6 ?_ rfl rfl | refine E7 ?_ rfl rfl) | refine Zb ?_ rfl | (refine A3 ?_; first | refine R34 T hs 0 rfl rfl rfl rfl rfl rfl ?_ | refine R34 T hs 1 rfl rfl rfl rfl rfl rfl ?_ | refine Zk ?_ rfl) | refine Zi ?_ rfl | refine Zq ?_ rfl | refine A8 ?_) | (refine B0 ?_; first | refine B1 ?_ | refine B2 ?_ | refine B3 ?_ | refine B4 ?_ | refine B5 ?_ | refine B6 ?_ | refine B7 rfl ?_ | refine B8 rfl ?_ | refine E8 ?_ rfl | refine E9 ?_ rfl) | refine C1 ?_ | refine C2 ?_ | refine C3 ?_ | refine C4 ?_ | refine C5 ?_ | refine C6 ?_ | refine C7 ?_ | refine C8 ?_ | refine C9 ?_ | refine D1 rfl ?_ | refine D2 rfl ?_)
    (refine CW.regionQ T hs ?_ (by kernel_rfl))
    repeat (first | with_reducible refine QW.nil ?_ | refine Qe ?_ rfl | refine QW.guardYes rfl rfl ?_ | refine QW.guardNo rfl rfl rfl rfl ?_ | refine QW.guardUndef rfl rfl rfl ?_ | (refine QW.gdY rfl rfl ?_ ?_; omega) | (refine QW.gdN rfl rfl ?_ ?_; omega))
    refine QW.call T hs rfl rfl rfl (fun w => vecChar_con _ a i w _ ha') ?_
    repeat (first | with_reducible refine QW.nil ?_ | refine Qe ?_ rfl | refine QW.guardYes rfl rfl ?_ | refine QW.guardNo rfl rfl rfl rfl ?_ | refine QW.guardUndef rfl rfl rfl ?_ | (refine QW.gdY rfl rfl ?_ ?_; omega) | (refine QW.gdN rfl rfl ?_ ?_; omega))
    refine QW.call T hs rfl rfl rfl (fun w => vecChar_con _ b j w _ hb') ?_
    repeat (first | with_reducible refine QW.nil ?_ | refine Qe ?_ rfl | refine QW.guardYes rfl rfl ?_ | refine QW.guardNo rfl rfl rfl rfl ?_ | refine QW.guardUndef rfl rfl rfl ?_ | (refine QW.gdY rfl rfl ?_ ?_; omega) | (refine QW.gdN rfl rfl ?_ ?_; omega))
    intro w5 hs
    repeat (first | (refine A0 ?_; first | refine R1 rfl rfl ?_ | refine R2 rfl rfl ?_ | (refine A1 ?_; first | refine D3 rfl rfl ?_ | refine D4 rfl rfl rfl rfl ?_ | refine D5 rfl rfl rfl ?_ | refine E6 ?_ rfl rfl | refine E7 ?_ rfl rfl) | refine Zb ?_ rfl | (refine A3 ?_; first | refine R34 T hs 0 rfl rfl rfl rfl rfl rfl ?_ | refine R34 T hs 1 rfl rfl rfl rfl rfl rfl ?_ | refine Zk ?_ rfl) | refine Zi ?_ rfl | refine Zq ?_ rfl | refine A8 ?_) | (refine B0 ?_; first | refine B1 ?_ | refine B2 ?_ | refine B3 ?_ | refine B4 ?_ | refine B5 ?_ | refine B6 ?_ | refine B7 rfl ?_ | refine B8 rfl ?_ | refine E8 ?_ rfl | refine E9 ?_ rfl) | refine C1 ?_ | refine C2 ?_ | refine C3 ?_ | refine C4 ?_ | refine C5 ?_ | refine C6 ?_ | refine C7 ?_ | refine C8 ?_ | refine C9 ?_ | refine D1 rfl ?_ | refine D2 rfl ?_)
    refine retQ_ret [_] h4 ⟨rfl, trivial⟩ hs.dropAll ?_
    show Value.bool _ = Value.bool _
    congr 1
    by_cases e : a.chr i = b.chr j
    · rw [decide_eq_true e, eqB_of (by rw [e])]
    · rw [decide_eq_false e, eqB_not (fun e' => e (by injection e'))]
  · have hnb : b.len = b.boxes.length := by rcases hb'.sorts with ⟨e, _⟩ | ⟨e, _⟩ | ⟨e, e2⟩ <;> omega
    have hia : i < a.boxes.length := by omega
    have hjb : j < b.boxes.length := by omega
    rw [itemsV_box f hc hia, itemsV_box f (by omega) hjb]
    repeat (first | (refine A0 ?_; first | refine R1 rfl rfl ?_ | refine R2 rfl rfl ?_ | (refine A1 ?_; first | refine D3 rfl rfl ?_ | refine D4 rfl rfl rfl rfl ?_ | refine D5 rfl rfl rfl ?_ | refine E6 ?_ rfl rfl | refine E7 ?_ rfl rfl) | refine Zb ?_ rfl | (refine A3 ?_; first | refine R34 T hs 0 rfl rfl rfl rfl rfl rfl ?_ | refine R34 T hs 1 rfl rfl rfl rfl rfl rfl ?_ | refine Zk ?_ rfl) | refine Zi ?_ rfl | refine Zq ?_ rfl | refine A8 ?_) | (refine B0 ?_; first | refine B1 ?_ | refine B2 ?_ | refine B3 ?_ | refine B4 ?_ | refine B5 ?_ | refine B6 ?_ | refine B7 rfl ?_ | refine B8 rfl ?_ | refine E8 ?_ rfl | refine E9 ?_ rfl) | refine C1 ?_ | refine C2 ?_ | refine C3 ?_ | refine C4 ?_ | refine C5 ?_ | refine C6 ?_ | refine C7 ?_ | refine C8 ?_ | refine C9 ?_ | refine D1 rfl ?_ | refine D2 rfl ?_)
    refine CW.regionO T hs ?_
    intro w5 hs
    refine HW.takeS (fuel := 7) 0 rfl (fun _ _ hs => Y.loadRowN T hs 1 rfl rfl rfl rfl rfl rfl rfl) hs rfl (by kernel_rfl) (by kernel_rfl) (by kernel_rfl) ?_
    refine HW.takeS (fuel := 6) 1 rfl (fun _ _ hs => Y.move rfl) hs rfl (by kernel_rfl) (by kernel_rfl) (by kernel_rfl) ?_
    refine HW.takeS (fuel := 5) 3 rfl (fun _ _ hs => Y.loadRowN T hs 0 rfl rfl rfl rfl rfl rfl rfl) hs rfl (by kernel_rfl) (by kernel_rfl) (by kernel_rfl) ?_
    refine HW.takeS (fuel := 4) 4 rfl (fun _ _ hs => Y.move rfl) hs rfl (by kernel_rfl) (by kernel_rfl) (by kernel_rfl) ?_
    refine HW.one (fuel := 3) 2 rfl (by kernel_rfl) ?_
    (refine RW.call T hs rfl rfl rfl (vecBox_con hR h1 _ a i a.boxes[i] _ _ ha' hia) ?_; intro v h29 w29 hle29 hp29 hs)
    obtain ⟨cs29, rfl, _, hR29⟩ := hp29
    rw [List.getD_eq_getElem?_getD, List.getElem?_eq_getElem hia] at hR29
    have hb' := hb'.mono hR hle29
    refine RW.nil ?_
    refine heldQ_normal ⟨_, hs⟩ ?_
    refine HW.one (fuel := 2) 5 rfl (by kernel_rfl) ?_
    (refine RW.call T hs rfl rfl rfl (vecBox_con hR h1 _ b j b.boxes[j] _ _ hb' hjb) ?_; intro v h32 w32 hle32 hp32 hs)
    obtain ⟨cs32, rfl, _, hR32⟩ := hp32
    rw [List.getD_eq_getElem?_getD, List.getElem?_eq_getElem hjb] at hR32
    have hR29 := hR _ _ _ _ hle32 hR29
    refine RW.nil ?_
    refine heldQ_normal ⟨_, hs⟩ ?_
    refine HW.one (fuel := 1) 6 rfl (by kernel_rfl) ?_
    (refine RW.call T hs rfl rfl rfl (ih _ _ _ _ _ _ hR29 hR32 (qa _ (List.getElem_mem hia)) (qb _ (List.getElem_mem hjb))) ?_; intro v h33 w33 hle33 hp33 hs)
    subst hp33
    refine RW.nil ?_
    refine heldQ_normal ⟨_, hs⟩ ?_
    refine HW.takeS (fuel := 0) 7 rfl (fun _ _ hs => Y.assign rfl) hs rfl (by kernel_rfl) (by kernel_rfl) (by kernel_rfl) ?_
    refine HW.done (by kernel_rfl) ?_
    refine calmQ_normal ?_
    repeat (first | (refine A0 ?_; first | refine R1 rfl rfl ?_ | refine R2 rfl rfl ?_ | (refine A1 ?_; first | refine D3 rfl rfl ?_ | refine D4 rfl rfl rfl rfl ?_ | refine D5 rfl rfl rfl ?_ | refine E6 ?_ rfl rfl | refine E7 ?_ rfl rfl) | refine Zb ?_ rfl | (refine A3 ?_; first | refine R34 T hs 0 rfl rfl rfl rfl rfl rfl ?_ | refine R34 T hs 1 rfl rfl rfl rfl rfl rfl ?_ | refine Zk ?_ rfl) | refine Zi ?_ rfl | refine Zq ?_ rfl | refine A8 ?_) | (refine B0 ?_; first | refine B1 ?_ | refine B2 ?_ | refine B3 ?_ | refine B4 ?_ | refine B5 ?_ | refine B6 ?_ | refine B7 rfl ?_ | refine B8 rfl ?_ | refine E8 ?_ rfl | refine E9 ?_ rfl) | refine C1 ?_ | refine C2 ?_ | refine C3 ?_ | refine C4 ?_ | refine C5 ?_ | refine C6 ?_ | refine C7 ?_ | refine C8 ?_ | refine C9 ?_ | refine D1 rfl ?_ | refine D2 rfl ?_)
    refine retQ_ret [_] h33 ⟨rfl, trivial⟩ hs.dropAll ?_
    show Value.bool (eqB (f a.boxes[i]) (f b.boxes[j])) = _
    by_cases e : f a.boxes[i] = f b.boxes[j]
    · rw [eqB_of e, eqB_of (by rw [e])]
    · rw [eqB_not e, eqB_not (fun e' => e (by injection e' with _ _ _ e4; injection e4))]
theorem same_step (hR : Mono R) (f : α → β) (q : α → Prop) (ih : ∀ cs cs' a b i j w h, VecAt R h cs a → VecAt R h cs' b → i < a.len → j < b.len → (∀ x ∈ a.boxes, q x) → (∀ x ∈ b.boxes, q x) → Con Try.prog 70 [.agg cs.toArray, .int .i64 (i : Nat), .agg cs'.toArray, .int .i64 (j : Nat)] w h (fun _ u => u = .bool (eqB ((itemsV f a).getD i noItem) ((itemsV f b).getD j noItem))))
    (cs cs' : List Value) (a b : ArrD α) (w : World) (h : GHeap) (ha : ArrR R h cs a) (hb : ArrR R h cs' b) (qa : ∀ x ∈ a.vec.boxes, q x) (qb : ∀ x ∈ b.vec.boxes, q x) (hma : a.vec.len ≤ 1048576) :
    Con Try.prog 69 [.agg cs.toArray, .agg cs'.toArray] w h (fun _ u => u = .bool (eqB (plainA f a) (plainA f b))) := by
  obtain ⟨s, vc, rfl, hl, hv⟩ := ha
  obtain ⟨s2, vc2, rfl, hm, hu⟩ := hb
  have hl' := hl
  have hm' := hm
  obtain ⟨ad, cp, rfl, hS⟩ := hl
  obtain ⟨ad2, cp2, rfl, hS2⟩ := hm
  have hl3 : a.shape.length ≤ 9223372036854775807 := by have := hS.caps; omega
  have hv' := hv
  have hu' := hu
  have hila := itemsV_len f hv
  have hilb := itemsV_len f hu
  obtain ⟨wv, nv, sm, il, fl, ch, bx, ⟨rfl, hoc⟩, hka⟩ := hv
  obtain ⟨wv', nv', sm', il', fl', ch', bx', ⟨rfl, hoc'⟩, hkb⟩ := hu
  clear hka hkb
  refine Con.of_body Try.func69 rfl Try.ntmps69 rfl rfl ?_
  intro hs
  repeat (first | (refine A0 ?_; first | refine R1 rfl rfl ?_ | refine R2 rfl rfl ?_ | (refine A1 ?_; first | refine D3 rfl rfl ?_ | refine D4 rfl rfl rfl rfl ?_ | refine D5 rfl rfl rfl ?_ | refine E6 ?_ rfl rfl | refine E7 ?_ rfl rfl) | refine Zb ?_ rfl | (refine A3 ?_; first | refine R34 T hs 0 rfl rfl rfl rfl rfl rfl ?_ | refine R34 T hs 1 rfl rfl rfl rfl rfl rfl ?_ | refine Zl ?_ rfl) | refine Zi ?_ rfl | refine Zo ?_ rfl | refine A8 ?_) | (refine B0 ?_; first | refine B1 ?_ | refine B2 ?_ | refine B3 ?_ | refine B4 ?_ | refine B5 ?_ | refine B6 ?_ | refine B7 rfl ?_ | refine B8 rfl ?_ | refine E8 ?_ rfl | refine E9 ?_ rfl) | refine C1 ?_ | refine C2 ?_ | refine C3 ?_ | refine C4 ?_ | refine C5 ?_ | refine C6 ?_ | refine C7 ?_ | refine C8 ?_ | refine C9 ?_ | refine D1 rfl ?_ | refine D2 rfl ?_)
  (refine RW.boxN hs rfl rfl ?_; intro b1 w1 hs)
  (refine RW.boxN hs rfl rfl ?_; intro b2 w2 hs)
  repeat (first | (refine A0 ?_; first | refine R1 rfl rfl ?_ | refine R2 rfl rfl ?_ | (refine A1 ?_; first | refine D3 rfl rfl ?_ | refine D4 rfl rfl rfl rfl ?_ | refine D5 rfl rfl rfl ?_ | refine E6 ?_ rfl rfl | refine E7 ?_ rfl rfl) | refine Zb ?_ rfl | (refine A3 ?_; first | refine R34 T hs 0 rfl rfl rfl rfl rfl rfl ?_ | refine R34 T hs 1 rfl rfl rfl rfl rfl rfl ?_ | refine Zk ?_ rfl) | refine Zi ?_ rfl | refine Zq ?_ rfl | refine A8 ?_) | (refine B0 ?_; first | refine B1 ?_ | refine B2 ?_ | refine B3 ?_ | refine B4 ?_ | refine B5 ?_ | refine B6 ?_ | refine B7 rfl ?_ | refine B8 rfl ?_ | refine E8 ?_ rfl | refine E9 ?_ rfl) | refine C1 ?_ | refine C2 ?_ | refine C3 ?_ | refine C4 ?_ | refine C5 ?_ | refine C6 ?_ | refine C7 ?_ | refine C8 ?_ | refine C9 ?_ | refine D1 rfl ?_ | refine D2 rfl ?_)
  refine CW.meet (fun u : Bool => [(2, .pointer (some ⟨b1, 0, none⟩)), (3, .pointer (some ⟨b2, 0, none⟩)), (29, .bool u)]) (fun u w' => (u = true → ¬ (a.shape = b.shape ∧ a.vec.cls = b.vec.cls ∧ a.vec.len = b.vec.len)) ∧ (u = false → a.shape = b.shape ∧ a.vec.cls = b.vec.cls ∧ a.vec.len = b.vec.len) ∧ Sees w h h [⟨some ⟨b2, 0, none⟩, 1, 1, 63, 9, .slice ad2 b.shape.length cp2 :: vecCells b.vec.kind wv' nv' sm' il' fl' ch' bx'⟩, ⟨some ⟨b1, 0, none⟩, 1, 1, 63, 9, .slice ad a.shape.length cp :: vecCells a.vec.kind wv nv sm il fl ch bx⟩] w') ?_ ?_
  · (refine CW.regionQ T hs ?_ (by kernel_rfl))
    repeat (first | with_reducible refine QW.nil ?_ | refine Qe ?_ rfl | refine QW.guardYes rfl rfl ?_ | refine QW.guardNo rfl rfl rfl rfl ?_ | refine QW.guardUndef rfl rfl rfl ?_ | (refine QW.gdY rfl rfl ?_ ?_; omega) | (refine QW.gdN rfl rfl ?_ ?_; omega))
    refine QW.call T hs rfl rfl rfl (fun w => same_con _ _ _ _ w _ hl' hm' hl3) ?_
    by_cases c1 : a.shape = b.shape
    · rw [decide_eq_true c1]
      repeat (first | with_reducible refine QW.nil ?_ | refine Qe ?_ rfl | refine QW.guardYes rfl rfl ?_ | refine QW.guardNo rfl rfl rfl rfl ?_ | refine QW.guardUndef rfl rfl rfl ?_ | (refine QW.gdY rfl rfl ?_ ?_; omega) | (refine QW.gdN rfl rfl ?_ ?_; omega))
      refine QW.call T hs rfl rfl rfl (fun w => vecClass_con _ a.vec w _ hv') ?_
      repeat (first | with_reducible refine QW.nil ?_ | refine Qe ?_ rfl | refine QW.guardYes rfl rfl ?_ | refine QW.guardNo rfl rfl rfl rfl ?_ | refine QW.guardUndef rfl rfl rfl ?_ | (refine QW.gdY rfl rfl ?_ ?_; omega) | (refine QW.gdN rfl rfl ?_ ?_; omega))
      refine QW.call T hs rfl rfl rfl (fun w => vecClass_con _ b.vec w _ hu') ?_
      by_cases c2 : a.vec.cls = b.vec.cls
      · repeat (first | with_reducible refine QW.nil ?_ | refine Qe ?_ rfl | refine QW.guardYes rfl rfl ?_ | refine QW.guardNo rfl rfl rfl rfl ?_ | refine QW.guardUndef rfl rfl rfl ?_ | (refine QW.gdY rfl rfl ?_ ?_; omega) | (refine QW.gdN rfl rfl ?_ ?_; omega))
        refine QW.call T hs rfl rfl rfl (fun w => vecLen_con _ a.vec w _ hv') ?_
        repeat (first | with_reducible refine QW.nil ?_ | refine Qe ?_ rfl | refine QW.guardYes rfl rfl ?_ | refine QW.guardNo rfl rfl rfl rfl ?_ | refine QW.guardUndef rfl rfl rfl ?_ | (refine QW.gdY rfl rfl ?_ ?_; omega) | (refine QW.gdN rfl rfl ?_ ?_; omega))
        refine QW.call T hs rfl rfl rfl (fun w => vecLen_con _ b.vec w _ hu') ?_
        repeat (first | with_reducible refine QW.nil ?_ | refine Qe ?_ rfl | refine QW.guardYes rfl rfl ?_ | refine QW.guardNo rfl rfl rfl rfl ?_ | refine QW.guardUndef rfl rfl rfl ?_ | (refine QW.gdY rfl rfl ?_ ?_; omega) | (refine QW.gdN rfl rfl ?_ ?_; omega))
        intro w3 hs
        refine joinQ_meet (decide ((a.vec.len : Int) ≠ b.vec.len)) ⟨rfl, rfl, rfl, trivial⟩ ⟨fun e g => ?_, fun e => ⟨c1, c2, ?_⟩, hs⟩
        · have := of_decide_eq_true e
          exact this (by rw [g.2.2])
        · have := of_decide_eq_false e
          omega
      · repeat (first | with_reducible refine QW.nil ?_ | refine Qe ?_ rfl | refine QW.guardYes rfl rfl ?_ | refine QW.guardNo rfl rfl rfl rfl ?_ | refine QW.guardUndef rfl rfl rfl ?_ | (refine QW.gdY rfl rfl ?_ ?_; omega) | (refine QW.gdN rfl rfl ?_ ?_; omega))
        intro w3 hs
        exact joinQ_meet true ⟨rfl, rfl, rfl, trivial⟩ ⟨fun _ g => c2 g.2.1, fun e => (by cases e), hs⟩
    · rw [decide_eq_false c1]
      repeat (first | with_reducible refine QW.nil ?_ | refine Qe ?_ rfl | refine QW.guardYes rfl rfl ?_ | refine QW.guardNo rfl rfl rfl rfl ?_ | refine QW.guardUndef rfl rfl rfl ?_ | (refine QW.gdY rfl rfl ?_ ?_; omega) | (refine QW.gdN rfl rfl ?_ ?_; omega))
      intro w3 hs
      exact joinQ_meet true ⟨rfl, rfl, rfl, trivial⟩ ⟨fun _ g => c1 g.1, fun e => (by cases e), hs⟩
  rintro u w3 ⟨hu1, hu0, hs⟩
  have hlens : ∀ v : ArrD α, (plainA f v).items = itemsV f v.vec := fun _ => rfl
  cases u with
  | true =>
    repeat (first | (refine A0 ?_; first | refine R1 rfl rfl ?_ | refine R2 rfl rfl ?_ | (refine A1 ?_; first | refine D3 rfl rfl ?_ | refine D4 rfl rfl rfl rfl ?_ | refine D5 rfl rfl rfl ?_ | refine E6 ?_ rfl rfl | refine E7 ?_ rfl rfl) | refine Zb ?_ rfl | (refine A3 ?_; first | refine R34 T hs 0 rfl rfl rfl rfl rfl rfl ?_ | refine R34 T hs 1 rfl rfl rfl rfl rfl rfl ?_ | refine Zk ?_ rfl) | refine Zi ?_ rfl | refine Zq ?_ rfl | refine A8 ?_) | (refine B0 ?_; first | refine B1 ?_ | refine B2 ?_ | refine B3 ?_ | refine B4 ?_ | refine B5 ?_ | refine B6 ?_ | refine B7 rfl ?_ | refine B8 rfl ?_ | refine E8 ?_ rfl | refine E9 ?_ rfl) | refine C1 ?_ | refine C2 ?_ | refine C3 ?_ | refine C4 ?_ | refine C5 ?_ | refine C6 ?_ | refine C7 ?_ | refine C8 ?_ | refine C9 ?_ | refine D1 rfl ?_ | refine D2 rfl ?_)
    refine retQ_ret [_] h ⟨rfl, trivial⟩ hs.dropAll ?_
    rw [eqB_not]
    · rfl
    · intro e
      refine hu1 rfl ⟨congrArg PlainD.shape e, congrArg PlainD.fill e, ?_⟩
      have := congrArg (fun p : PlainD β => p.items.length) e
      simp only [hlens, hila, hilb] at this
      exact this
  | false =>
    obtain ⟨e1, e2, e3⟩ := hu0 rfl
    repeat (first | (refine A0 ?_; first | refine R1 rfl rfl ?_ | refine R2 rfl rfl ?_ | (refine A1 ?_; first | refine D3 rfl rfl ?_ | refine D4 rfl rfl rfl rfl ?_ | refine D5 rfl rfl rfl ?_ | refine E6 ?_ rfl rfl | refine E7 ?_ rfl rfl) | refine Zb ?_ rfl | (refine A3 ?_; first | refine R34 T hs 0 rfl rfl rfl rfl rfl rfl ?_ | refine R34 T hs 1 rfl rfl rfl rfl rfl rfl ?_ | refine Zk ?_ rfl) | refine Zi ?_ rfl | refine Zq ?_ rfl | refine A8 ?_) | (refine B0 ?_; first | refine B1 ?_ | refine B2 ?_ | refine B3 ?_ | refine B4 ?_ | refine B5 ?_ | refine B6 ?_ | refine B7 rfl ?_ | refine B8 rfl ?_ | refine E8 ?_ rfl | refine E9 ?_ rfl) | refine C1 ?_ | refine C2 ?_ | refine C3 ?_ | refine C4 ?_ | refine C5 ?_ | refine C6 ?_ | refine C7 ?_ | refine C8 ?_ | refine C9 ?_ | refine D1 rfl ?_ | refine D2 rfl ?_)
    (refine RW.call T hs rfl rfl rfl (vecLen_con _ a.vec _ _ hv') ?_; intro v h4 w4 hle4 hp4 hs)
    subst hp4
    repeat (first | (refine A0 ?_; first | refine R1 rfl rfl ?_ | refine R2 rfl rfl ?_ | (refine A1 ?_; first | refine D3 rfl rfl ?_ | refine D4 rfl rfl rfl rfl ?_ | refine D5 rfl rfl rfl ?_ | refine E6 ?_ rfl rfl | refine E7 ?_ rfl rfl) | refine Zb ?_ rfl | (refine A3 ?_; first | refine R34 T hs 0 rfl rfl rfl rfl rfl rfl ?_ | refine R34 T hs 1 rfl rfl rfl rfl rfl rfl ?_ | refine Zk ?_ rfl) | refine Zi ?_ rfl | refine Zq ?_ rfl | refine A8 ?_) | (refine B0 ?_; first | refine B1 ?_ | refine B2 ?_ | refine B3 ?_ | refine B4 ?_ | refine B5 ?_ | refine B6 ?_ | refine B7 rfl ?_ | refine B8 rfl ?_ | refine E8 ?_ rfl | refine E9 ?_ rfl) | refine C1 ?_ | refine C2 ?_ | refine C3 ?_ | refine C4 ?_ | refine C5 ?_ | refine C6 ?_ | refine C7 ?_ | refine C8 ?_ | refine C9 ?_ | refine D1 rfl ?_ | refine D2 rfl ?_)
    refine CW.loop (fun u : Nat × GHeap => [(2, .pointer (some ⟨b1, 0, none⟩)), (3, .pointer (some ⟨b2, 0, none⟩)), (32, .int .i64 a.vec.len), (33, .int .i64 u.1)]) (fun u w' => u.1 ≤ a.vec.len ∧ GLe h u.2 ∧ (itemsV f a.vec).take u.1 = (itemsV f b.vec).take u.1 ∧ Sees w h u.2 [⟨some ⟨b2, 0, none⟩, 1, 1, 63, 9, .slice ad2 b.shape.length cp2 :: vecCells b.vec.kind wv' nv' sm' il' fl' ch' bx'⟩, ⟨some ⟨b1, 0, none⟩, 1, 1, 63, 9, .slice ad a.shape.length cp :: vecCells a.vec.kind wv nv sm il fl ch bx⟩] w') (fun u => a.vec.len - u.1) (0, h4) ⟨rfl, rfl, rfl, rfl, trivial⟩ ⟨by omega, hle4, rfl, hs⟩ ?_
    rintro ⟨i, hh⟩ w5 ⟨hi, hg, htk, hs⟩
    dsimp only at hi hg htk hs ⊢
    by_cases hlt : i < a.vec.len
    · have hv' := hv'.mono hR hg
      have hu' := hu'.mono hR hg
      repeat (first | (refine A0 ?_; first | refine R1 rfl rfl ?_ | refine R2 rfl rfl ?_ | (refine A1 ?_; first | refine D3 rfl rfl ?_ | refine D4 rfl rfl rfl rfl ?_ | refine D5 rfl rfl rfl ?_ | refine E6 ?_ rfl rfl | refine E7 ?_ rfl rfl) | refine Zb ?_ rfl | (refine A3 ?_; first | refine R34 T hs 0 rfl rfl rfl rfl rfl rfl ?_ | refine R34 T hs 1 rfl rfl rfl rfl rfl rfl ?_ | refine Zk ?_ rfl) | refine Zi ?_ rfl | refine Zq ?_ rfl | refine A8 ?_) | (refine B0 ?_; first | refine B1 ?_ | refine B2 ?_ | refine B3 ?_ | refine B4 ?_ | refine B5 ?_ | refine B6 ?_ | refine B7 rfl ?_ | refine B8 rfl ?_ | refine E8 ?_ rfl | refine E9 ?_ rfl) | refine C1 ?_ | refine C2 ?_ | refine C3 ?_ | refine C4 ?_ | refine C5 ?_ | refine C6 ?_ | refine C7 ?_ | refine C8 ?_ | refine C9 ?_ | refine D1 rfl ?_ | refine D2 rfl ?_)
      (refine RW.call T hs rfl rfl rfl (ih _ _ a.vec b.vec i i _ _ hv' hu' hlt (by omega) qa qb) ?_; intro v h6 w6 hle6 hp6 hs)
      subst hp6
      have ga : (itemsV f a.vec).getD i noItem = (itemsV f a.vec)[i]'(by omega) := by rw [List.getD_eq_getElem?_getD, List.getElem?_eq_getElem (by omega)]; rfl
      have gb : (itemsV f b.vec).getD i noItem = (itemsV f b.vec)[i]'(by omega) := by rw [List.getD_eq_getElem?_getD, List.getElem?_eq_getElem (by omega)]; rfl
      rw [ga, gb]
      by_cases e : (itemsV f a.vec)[i]'(by omega) = (itemsV f b.vec)[i]'(by omega)
      · rw [eqB_of e]
        repeat (first | (refine A0 ?_; first | refine R1 rfl rfl ?_ | refine R2 rfl rfl ?_ | (refine A1 ?_; first | refine D3 rfl rfl ?_ | refine D4 rfl rfl rfl rfl ?_ | refine D5 rfl rfl rfl ?_ | refine E6 ?_ rfl rfl | refine E7 ?_ rfl rfl) | refine Zb ?_ rfl | (refine A3 ?_; first | refine R34 T hs 0 rfl rfl rfl rfl rfl rfl ?_ | refine R34 T hs 1 rfl rfl rfl rfl rfl rfl ?_ | refine Zk ?_ rfl) | refine Zi ?_ rfl | refine Zq ?_ rfl | refine A8 ?_) | (refine B0 ?_; first | refine B1 ?_ | refine B2 ?_ | refine B3 ?_ | refine B4 ?_ | refine B5 ?_ | refine B6 ?_ | refine B7 rfl ?_ | refine B8 rfl ?_ | refine E8 ?_ rfl | refine E9 ?_ rfl) | refine C1 ?_ | refine C2 ?_ | refine C3 ?_ | refine C4 ?_ | refine C5 ?_ | refine C6 ?_ | refine C7 ?_ | refine C8 ?_ | refine C9 ?_ | refine D1 rfl ?_ | refine D2 rfl ?_)
        exact loopQ_round (i + 1, h6) ⟨rfl, rfl, rfl, rfl, trivial⟩ ⟨by dsimp only; omega, hg.trans hle6, take_eq_succ htk (by omega) (by omega) e, hs⟩ (by dsimp only; omega)
      · rw [eqB_not e]
        repeat (first | (refine A0 ?_; first | refine R1 rfl rfl ?_ | refine R2 rfl rfl ?_ | (refine A1 ?_; first | refine D3 rfl rfl ?_ | refine D4 rfl rfl rfl rfl ?_ | refine D5 rfl rfl rfl ?_ | refine E6 ?_ rfl rfl | refine E7 ?_ rfl rfl) | refine Zb ?_ rfl | (refine A3 ?_; first | refine R34 T hs 0 rfl rfl rfl rfl rfl rfl ?_ | refine R34 T hs 1 rfl rfl rfl rfl rfl rfl ?_ | refine Zk ?_ rfl) | refine Zi ?_ rfl | refine Zq ?_ rfl | refine A8 ?_) | (refine B0 ?_; first | refine B1 ?_ | refine B2 ?_ | refine B3 ?_ | refine B4 ?_ | refine B5 ?_ | refine B6 ?_ | refine B7 rfl ?_ | refine B8 rfl ?_ | refine E8 ?_ rfl | refine E9 ?_ rfl) | refine C1 ?_ | refine C2 ?_ | refine C3 ?_ | refine C4 ?_ | refine C5 ?_ | refine C6 ?_ | refine C7 ?_ | refine C8 ?_ | refine C9 ?_ | refine D1 rfl ?_ | refine D2 rfl ?_)
        refine retQ_ret [_] h6 ⟨rfl, trivial⟩ hs.dropAll ?_
        rw [eqB_not]
        · rfl
        · intro e'
          exact ne_of_get (by omega) (by omega) e (congrArg PlainD.items e')
    · obtain rfl : i = a.vec.len := by omega
      repeat (first | (refine A0 ?_; first | refine R1 rfl rfl ?_ | refine R2 rfl rfl ?_ | (refine A1 ?_; first | refine D3 rfl rfl ?_ | refine D4 rfl rfl rfl rfl ?_ | refine D5 rfl rfl rfl ?_ | refine E6 ?_ rfl rfl | refine E7 ?_ rfl rfl) | refine Zb ?_ rfl | (refine A3 ?_; first | refine R34 T hs 0 rfl rfl rfl rfl rfl rfl ?_ | refine R34 T hs 1 rfl rfl rfl rfl rfl rfl ?_ | refine Zk ?_ rfl) | refine Zi ?_ rfl | refine Zq ?_ rfl | refine A8 ?_) | (refine B0 ?_; first | refine B1 ?_ | refine B2 ?_ | refine B3 ?_ | refine B4 ?_ | refine B5 ?_ | refine B6 ?_ | refine B7 rfl ?_ | refine B8 rfl ?_ | refine E8 ?_ rfl | refine E9 ?_ rfl) | refine C1 ?_ | refine C2 ?_ | refine C3 ?_ | refine C4 ?_ | refine C5 ?_ | refine C6 ?_ | refine C7 ?_ | refine C8 ?_ | refine C9 ?_ | refine D1 rfl ?_ | refine D2 rfl ?_)
      refine retQ_ret [_] hh ⟨rfl, trivial⟩ hs.dropAll ?_
      rw [eqB_of]
      · rfl
      · have e4 : itemsV f a.vec = itemsV f b.vec := by
          rw [List.take_of_length_le (by omega), List.take_of_length_le (by omega)] at htk
          exact htk
        unfold plainA
        rw [e1, e2, e4]
end
theorem sameV_con : ∀ (k : Nat) (cs cs' : List Value) (a b : AD k) (w : World) (h : GHeap), ArrAt k h cs a → ArrAt k h cs' b → sml k a → sml k b → Con Try.prog 69 [.agg cs.toArray, .agg cs'.toArray] w h (fun _ u => u = .bool (eqB (plain k a) (plain k b)))
  | 0, _, _, _, _, _, _, ha, _, _, _ => ha.elim
  | k + 1, cs, cs', a, b, w, h, ha, hb, sa, sb => same_step (ArrAt.mono k) (plain k) (sml k) (fun cs cs' a b i j w h ha hb hi hj qa qb => alike_step (ArrAt.mono k) (ArrAt.one k) (plain k) (sml k) (sameV_con k) cs cs' a b i j w h ha hb hi hj qa qb) cs cs' a b w h ha hb sa.2.2 sb.2.2 sa.2.1
theorem alikeV_con (k : Nat) (cs cs' : List Value) (a b : VecD (AD k)) (i j : Nat) (w : World) (h : GHeap) (ha : VecAt (ArrAt k) h cs a) (hb : VecAt (ArrAt k) h cs' b) (hi : i < a.len) (hj : j < b.len) (qa : ∀ x ∈ a.boxes, sml k x) (qb : ∀ x ∈ b.boxes, sml k x) : Con Try.prog 70 [.agg cs.toArray, .int .i64 i, .agg cs'.toArray, .int .i64 j] w h (fun _ u => u = .bool (eqB ((itemsV (plain k) a).getD i noItem) ((itemsV (plain k) b).getD j noItem))) :=
  alike_step (ArrAt.mono k) (ArrAt.one k) (plain k) (sml k) (sameV_con k) cs cs' a b i j w h ha hb hi hj qa qb
end Go.Proofs.Ythbfkhklihejiaa

/-
  Contracts of the law's own functions of layer 7: which arrays are alike. No statement is proved here.
-/
namespace Go.Proofs.Ythbfkhklihejiaa
open Go Go.RowKit
set_option linter.unusedVariables false
set_option linter.unusedSimpArgs false
set_option maxHeartbeats 4000000
attribute [local irreducible] CW RW QW SW HW ConM retM heldQ calmQ elemP thenQ blockQ loopQ joinQ retQ Yields Con Sl zF magR unitF truncF fwF wholeF tidySpec elemQ rankF leastN tidyW
set_option maxHeartbeats 4000000

/-- the store that a tidied plain array's elements are in -/
def kindOf {α : Type} (p : PlainD α) : Int := if p.fill = 1 then 5 else if p.fill = 2 then 6 else leastN (p.items.map (·.num))
theorem arr_kind (k : Nat) (d : Int) (p : PD (k + 1)) (h : chk (k + 1) d p = 0) : (ArrD.vec (α := AD k) (arr (k + 1) p)).kind = kindOf (α := PD k) (tidy (k + 1) p) := by
  obtain ⟨h1, h2, h3, h4, h5⟩ := (chkP_ok (α := PD k) _ _ _).1 h
  show (arrV (arr k) (PlainD.fill (α := PD k) p) (PlainD.items (α := PD k) p)).kind = kindOf (tidyP (tidy k) (p : PlainD (PD k)))
  unfold arrV kindOf tidyP
  dsimp only
  by_cases f1 : PlainD.fill (α := PD k) p = 1
  · rw [if_pos f1, if_pos f1]
  · rw [if_neg f1, if_neg f1]
    by_cases f2 : PlainD.fill (α := PD k) p = 2
    · rw [if_pos f2, if_pos f2]
    · rw [if_neg f2, if_neg f2, List.map_map]
      show leastN _ = leastN _
      congr 1
      apply List.map_congr_left
      intro x hx
      have hk := (h5 x hx).1
      simp only [Function.comp, tidyIt]
      rw [if_pos (by omega)]
theorem eqB_comm {α : Type} (x y : α) : eqB x y = eqB y x := by
  by_cases h : x = y
  · rw [eqB_of h, eqB_of h.symm]
  · rw [eqB_not h, eqB_not (fun e => h e.symm)]
theorem arr_items (k : Nat) (d : Int) (p : PD (k + 1)) (h : chk (k + 1) d p = 0) : itemsV (plain k) (ArrD.vec (α := AD k) (arr (k + 1) p)) = PlainD.items (α := PD k) (tidy (k + 1) p) :=
  congrArg (PlainD.items (α := PD k)) (plain_arr (k + 1) d p h)
theorem valueSameLaw_con (k : Nat) (cs cs' : List Value) (p q : PD (k + 1)) (w : World) (h : GHeap) (hp : PlainAt (k + 1) h cs p) (hq : PlainAt (k + 1) h cs' q) : Con Try.prog 12 [.agg cs.toArray, .agg cs'.toArray] w h (fun _ u => u = .bool true) := by
  have hp' := hp
  have hq' := hq
  obtain ⟨s, it, rfl, ⟨ad, cp, rfl, hS⟩, ⟨ad2, cp2, xs, rfl, hS2, hA⟩⟩ := hp
  obtain ⟨s2, it2, rfl, ⟨ad3, cp3, rfl, hS3⟩, ⟨ad4, cp4, ys, rfl, hS4, hA2⟩⟩ := hq
  clear hS hS2 hA hS3 hS4 hA2
  refine Con.of_body Try.func12 rfl Try.ntmps12 rfl rfl ?_
  intro hs
  repeat (first | (refine A0 ?_; first | refine R1 rfl rfl ?_ | refine R2 rfl rfl ?_ | (refine A1 ?_; first | refine D3 rfl rfl ?_ | refine D4 rfl rfl rfl rfl ?_ | refine D5 rfl rfl rfl ?_ | refine E6 ?_ rfl rfl | refine E7 ?_ rfl rfl) | refine Zb ?_ rfl | (refine A3 ?_; first | refine R34 T hs 0 rfl rfl rfl rfl rfl rfl ?_ | refine R34 T hs 1 rfl rfl rfl rfl rfl rfl ?_ | refine Zl ?_ rfl) | refine Zi ?_ rfl | refine Zo ?_ rfl | refine A8 ?_) | (refine B0 ?_; first | refine B1 ?_ | refine B2 ?_ | refine B3 ?_ | refine B4 ?_ | refine B5 ?_ | refine B6 ?_ | refine B7 rfl ?_ | refine B8 rfl ?_ | refine E8 ?_ rfl | refine E9 ?_ rfl) | refine C1 ?_ | refine C2 ?_ | refine C3 ?_ | refine C4 ?_ | refine C5 ?_ | refine C6 ?_ | refine C7 ?_ | refine C8 ?_ | refine C9 ?_ | refine D1 rfl ?_ | refine D2 rfl ?_)
  (refine RW.boxN hs rfl rfl ?_; intro b1 w1 hs)
  (refine RW.boxN hs rfl rfl ?_; intro b2 w2 hs)
  repeat (first | (refine A0 ?_; first | refine R1 rfl rfl ?_ | refine R2 rfl rfl ?_ | (refine A1 ?_; first | refine D3 rfl rfl ?_ | refine D4 rfl rfl rfl rfl ?_ | refine D5 rfl rfl rfl ?_ | refine E6 ?_ rfl rfl | refine E7 ?_ rfl rfl) | refine Zb ?_ rfl | (refine A3 ?_; first | refine R34 T hs 0 rfl rfl rfl rfl rfl rfl ?_ | refine R34 T hs 1 rfl rfl rfl rfl rfl rfl ?_ | refine Zk ?_ rfl) | refine Zi ?_ rfl | refine Zq ?_ rfl | refine A8 ?_) | (refine B0 ?_; first | refine B1 ?_ | refine B2 ?_ | refine B3 ?_ | refine B4 ?_ | refine B5 ?_ | refine B6 ?_ | refine B7 rfl ?_ | refine B8 rfl ?_ | refine E8 ?_ rfl | refine E9 ?_ rfl) | refine C1 ?_ | refine C2 ?_ | refine C3 ?_ | refine C4 ?_ | refine C5 ?_ | refine C6 ?_ | refine C7 ?_ | refine C8 ?_ | refine C9 ?_ | refine D1 rfl ?_ | refine D2 rfl ?_)
  (refine RW.call T hs rfl rfl rfl (refCount_con 3000 (k + 1) _ p _ _ hp') ?_; intro v h3 w3 hle3 hp3 hs)
  obtain ⟨r, rfl⟩ := hp3
  have hp' := PlainAt.mono (k + 1) _ _ _ _ hle3 hp'
  have hq' := PlainAt.mono (k + 1) _ _ _ _ hle3 hq'
  by_cases c1 : 2000 < r
  · repeat (first | (refine A0 ?_; first | refine R1 rfl rfl ?_ | refine R2 rfl rfl ?_ | (refine A1 ?_; first | refine D3 rfl rfl ?_ | refine D4 rfl rfl rfl rfl ?_ | refine D5 rfl rfl rfl ?_ | refine E6 ?_ rfl rfl | refine E7 ?_ rfl rfl) | refine Zb ?_ rfl | (refine A3 ?_; first | refine R34 T hs 0 rfl rfl rfl rfl rfl rfl ?_ | refine R34 T hs 1 rfl rfl rfl rfl rfl rfl ?_ | refine Zk ?_ rfl) | refine Zi ?_ rfl | refine Zq ?_ rfl | refine A8 ?_) | (refine B0 ?_; first | refine B1 ?_ | refine B2 ?_ | refine B3 ?_ | refine B4 ?_ | refine B5 ?_ | refine B6 ?_ | refine B7 rfl ?_ | refine B8 rfl ?_ | refine E8 ?_ rfl | refine E9 ?_ rfl) | refine C1 ?_ | refine C2 ?_ | refine C3 ?_ | refine C4 ?_ | refine C5 ?_ | refine C6 ?_ | refine C7 ?_ | refine C8 ?_ | refine C9 ?_ | refine D1 rfl ?_ | refine D2 rfl ?_)
    (refine RW.call T hs rfl rfl rfl (awake07_con _ _) ?_; intro v h4 w4 hle4 hp4 hs)
    subst hp4
    repeat (first | (refine A0 ?_; first | refine R1 rfl rfl ?_ | refine R2 rfl rfl ?_ | (refine A1 ?_; first | refine D3 rfl rfl ?_ | refine D4 rfl rfl rfl rfl ?_ | refine D5 rfl rfl rfl ?_ | refine E6 ?_ rfl rfl | refine E7 ?_ rfl rfl) | refine Zb ?_ rfl | (refine A3 ?_; first | refine R34 T hs 0 rfl rfl rfl rfl rfl rfl ?_ | refine R34 T hs 1 rfl rfl rfl rfl rfl rfl ?_ | refine Zk ?_ rfl) | refine Zi ?_ rfl | refine Zq ?_ rfl | refine A8 ?_) | (refine B0 ?_; first | refine B1 ?_ | refine B2 ?_ | refine B3 ?_ | refine B4 ?_ | refine B5 ?_ | refine B6 ?_ | refine B7 rfl ?_ | refine B8 rfl ?_ | refine E8 ?_ rfl | refine E9 ?_ rfl) | refine C1 ?_ | refine C2 ?_ | refine C3 ?_ | refine C4 ?_ | refine C5 ?_ | refine C6 ?_ | refine C7 ?_ | refine C8 ?_ | refine C9 ?_ | refine D1 rfl ?_ | refine D2 rfl ?_)
    exact retQ_ret [_] h4 ⟨rfl, trivial⟩ hs.dropAll rfl
  repeat (first | (refine A0 ?_; first | refine R1 rfl rfl ?_ | refine R2 rfl rfl ?_ | (refine A1 ?_; first | refine D3 rfl rfl ?_ | refine D4 rfl rfl rfl rfl ?_ | refine D5 rfl rfl rfl ?_ | refine E6 ?_ rfl rfl | refine E7 ?_ rfl rfl) | refine Zb ?_ rfl | (refine A3 ?_; first | refine R34 T hs 0 rfl rfl rfl rfl rfl rfl ?_ | refine R34 T hs 1 rfl rfl rfl rfl rfl rfl ?_ | refine Zk ?_ rfl) | refine Zi ?_ rfl | refine Zq ?_ rfl | refine A8 ?_) | (refine B0 ?_; first | refine B1 ?_ | refine B2 ?_ | refine B3 ?_ | refine B4 ?_ | refine B5 ?_ | refine B6 ?_ | refine B7 rfl ?_ | refine B8 rfl ?_ | refine E8 ?_ rfl | refine E9 ?_ rfl) | refine C1 ?_ | refine C2 ?_ | refine C3 ?_ | refine C4 ?_ | refine C5 ?_ | refine C6 ?_ | refine C7 ?_ | refine C8 ?_ | refine C9 ?_ | refine D1 rfl ?_ | refine D2 rfl ?_)
  (refine RW.call T hs rfl rfl rfl (refCount_con 3000 (k + 1) _ q _ _ hq') ?_; intro v h4 w4 hle4 hp4 hs)
  obtain ⟨r2, rfl⟩ := hp4
  have hp' := PlainAt.mono (k + 1) _ _ _ _ hle4 hp'
  have hq' := PlainAt.mono (k + 1) _ _ _ _ hle4 hq'
  by_cases c2 : 2000 < r2
  · repeat (first | (refine A0 ?_; first | refine R1 rfl rfl ?_ | refine R2 rfl rfl ?_ | (refine A1 ?_; first | refine D3 rfl rfl ?_ | refine D4 rfl rfl rfl rfl ?_ | refine D5 rfl rfl rfl ?_ | refine E6 ?_ rfl rfl | refine E7 ?_ rfl rfl) | refine Zb ?_ rfl | (refine A3 ?_; first | refine R34 T hs 0 rfl rfl rfl rfl rfl rfl ?_ | refine R34 T hs 1 rfl rfl rfl rfl rfl rfl ?_ | refine Zk ?_ rfl) | refine Zi ?_ rfl | refine Zq ?_ rfl | refine A8 ?_) | (refine B0 ?_; first | refine B1 ?_ | refine B2 ?_ | refine B3 ?_ | refine B4 ?_ | refine B5 ?_ | refine B6 ?_ | refine B7 rfl ?_ | refine B8 rfl ?_ | refine E8 ?_ rfl | refine E9 ?_ rfl) | refine C1 ?_ | refine C2 ?_ | refine C3 ?_ | refine C4 ?_ | refine C5 ?_ | refine C6 ?_ | refine C7 ?_ | refine C8 ?_ | refine C9 ?_ | refine D1 rfl ?_ | refine D2 rfl ?_)
    (refine RW.call T hs rfl rfl rfl (awake07_con _ _) ?_; intro v h5 w5 hle5 hp5 hs)
    subst hp5
    repeat (first | (refine A0 ?_; first | refine R1 rfl rfl ?_ | refine R2 rfl rfl ?_ | (refine A1 ?_; first | refine D3 rfl rfl ?_ | refine D4 rfl rfl rfl rfl ?_ | refine D5 rfl rfl rfl ?_ | refine E6 ?_ rfl rfl | refine E7 ?_ rfl rfl) | refine Zb ?_ rfl | (refine A3 ?_; first | refine R34 T hs 0 rfl rfl rfl rfl rfl rfl ?_ | refine R34 T hs 1 rfl rfl rfl rfl rfl rfl ?_ | refine Zk ?_ rfl) | refine Zi ?_ rfl | refine Zq ?_ rfl | refine A8 ?_) | (refine B0 ?_; first | refine B1 ?_ | refine B2 ?_ | refine B3 ?_ | refine B4 ?_ | refine B5 ?_ | refine B6 ?_ | refine B7 rfl ?_ | refine B8 rfl ?_ | refine E8 ?_ rfl | refine E9 ?_ rfl) | refine C1 ?_ | refine C2 ?_ | refine C3 ?_ | refine C4 ?_ | refine C5 ?_ | refine C6 ?_ | refine C7 ?_ | refine C8 ?_ | refine C9 ?_ | refine D1 rfl ?_ | refine D2 rfl ?_)
    exact retQ_ret [_] h5 ⟨rfl, trivial⟩ hs.dropAll rfl
  repeat (first | (refine A0 ?_; first | refine R1 rfl rfl ?_ | refine R2 rfl rfl ?_ | (refine A1 ?_; first | refine D3 rfl rfl ?_ | refine D4 rfl rfl rfl rfl ?_ | refine D5 rfl rfl rfl ?_ | refine E6 ?_ rfl rfl | refine E7 ?_ rfl rfl) | refine Zb ?_ rfl | (refine A3 ?_; first | refine R34 T hs 0 rfl rfl rfl rfl rfl rfl ?_ | refine R34 T hs 1 rfl rfl rfl rfl rfl rfl ?_ | refine Zk ?_ rfl) | refine Zi ?_ rfl | refine Zq ?_ rfl | refine A8 ?_) | (refine B0 ?_; first | refine B1 ?_ | refine B2 ?_ | refine B3 ?_ | refine B4 ?_ | refine B5 ?_ | refine B6 ?_ | refine B7 rfl ?_ | refine B8 rfl ?_ | refine E8 ?_ rfl | refine E9 ?_ rfl) | refine C1 ?_ | refine C2 ?_ | refine C3 ?_ | refine C4 ?_ | refine C5 ?_ | refine C6 ?_ | refine C7 ?_ | refine C8 ?_ | refine C9 ?_ | refine D1 rfl ?_ | refine D2 rfl ?_)
  (refine RW.call T hs rfl rfl rfl (refCheck_con (k + 1) _ p _ _ hp') ?_; intro v h5 w5 hle5 hp5 hs)
  subst hp5
  have hp' := PlainAt.mono (k + 1) _ _ _ _ hle5 hp'
  have hq' := PlainAt.mono (k + 1) _ _ _ _ hle5 hq'
  by_cases c3 : ¬ chk (k + 1) 40 p = 0
  · repeat (first | (refine A0 ?_; first | refine R1 rfl rfl ?_ | refine R2 rfl rfl ?_ | (refine A1 ?_; first | refine D3 rfl rfl ?_ | refine D4 rfl rfl rfl rfl ?_ | refine D5 rfl rfl rfl ?_ | refine E6 ?_ rfl rfl | refine E7 ?_ rfl rfl) | refine Zb ?_ rfl | (refine A3 ?_; first | refine R34 T hs 0 rfl rfl rfl rfl rfl rfl ?_ | refine R34 T hs 1 rfl rfl rfl rfl rfl rfl ?_ | refine Zk ?_ rfl) | refine Zi ?_ rfl | refine Zq ?_ rfl | refine A8 ?_) | (refine B0 ?_; first | refine B1 ?_ | refine B2 ?_ | refine B3 ?_ | refine B4 ?_ | refine B5 ?_ | refine B6 ?_ | refine B7 rfl ?_ | refine B8 rfl ?_ | refine E8 ?_ rfl | refine E9 ?_ rfl) | refine C1 ?_ | refine C2 ?_ | refine C3 ?_ | refine C4 ?_ | refine C5 ?_ | refine C6 ?_ | refine C7 ?_ | refine C8 ?_ | refine C9 ?_ | refine D1 rfl ?_ | refine D2 rfl ?_)
    (refine RW.call T hs rfl rfl rfl (awake07_con _ _) ?_; intro v h6 w6 hle6 hp6 hs)
    subst hp6
    repeat (first | (refine A0 ?_; first | refine R1 rfl rfl ?_ | refine R2 rfl rfl ?_ | (refine A1 ?_; first | refine D3 rfl rfl ?_ | refine D4 rfl rfl rfl rfl ?_ | refine D5 rfl rfl rfl ?_ | refine E6 ?_ rfl rfl | refine E7 ?_ rfl rfl) | refine Zb ?_ rfl | (refine A3 ?_; first | refine R34 T hs 0 rfl rfl rfl rfl rfl rfl ?_ | refine R34 T hs 1 rfl rfl rfl rfl rfl rfl ?_ | refine Zk ?_ rfl) | refine Zi ?_ rfl | refine Zq ?_ rfl | refine A8 ?_) | (refine B0 ?_; first | refine B1 ?_ | refine B2 ?_ | refine B3 ?_ | refine B4 ?_ | refine B5 ?_ | refine B6 ?_ | refine B7 rfl ?_ | refine B8 rfl ?_ | refine E8 ?_ rfl | refine E9 ?_ rfl) | refine C1 ?_ | refine C2 ?_ | refine C3 ?_ | refine C4 ?_ | refine C5 ?_ | refine C6 ?_ | refine C7 ?_ | refine C8 ?_ | refine C9 ?_ | refine D1 rfl ?_ | refine D2 rfl ?_)
    exact retQ_ret [_] h6 ⟨rfl, trivial⟩ hs.dropAll rfl
  have hcp := Decidable.of_not_not c3
  repeat (first | (refine A0 ?_; first | refine R1 rfl rfl ?_ | refine R2 rfl rfl ?_ | (refine A1 ?_; first | refine D3 rfl rfl ?_ | refine D4 rfl rfl rfl rfl ?_ | refine D5 rfl rfl rfl ?_ | refine E6 ?_ rfl rfl | refine E7 ?_ rfl rfl) | refine Zb ?_ rfl | (refine A3 ?_; first | refine R34 T hs 0 rfl rfl rfl rfl rfl rfl ?_ | refine R34 T hs 1 rfl rfl rfl rfl rfl rfl ?_ | refine Zk ?_ rfl) | refine Zi ?_ rfl | refine Zq ?_ rfl | refine A8 ?_) | (refine B0 ?_; first | refine B1 ?_ | refine B2 ?_ | refine B3 ?_ | refine B4 ?_ | refine B5 ?_ | refine B6 ?_ | refine B7 rfl ?_ | refine B8 rfl ?_ | refine E8 ?_ rfl | refine E9 ?_ rfl) | refine C1 ?_ | refine C2 ?_ | refine C3 ?_ | refine C4 ?_ | refine C5 ?_ | refine C6 ?_ | refine C7 ?_ | refine C8 ?_ | refine C9 ?_ | refine D1 rfl ?_ | refine D2 rfl ?_)
  (refine RW.call T hs rfl rfl rfl (refCheck_con (k + 1) _ q _ _ hq') ?_; intro v h6 w6 hle6 hp6 hs)
  subst hp6
  have hp' := PlainAt.mono (k + 1) _ _ _ _ hle6 hp'
  have hq' := PlainAt.mono (k + 1) _ _ _ _ hle6 hq'
  by_cases c4 : ¬ chk (k + 1) 40 q = 0
  · repeat (first | (refine A0 ?_; first | refine R1 rfl rfl ?_ | refine R2 rfl rfl ?_ | (refine A1 ?_; first | refine D3 rfl rfl ?_ | refine D4 rfl rfl rfl rfl ?_ | refine D5 rfl rfl rfl ?_ | refine E6 ?_ rfl rfl | refine E7 ?_ rfl rfl) | refine Zb ?_ rfl | (refine A3 ?_; first | refine R34 T hs 0 rfl rfl rfl rfl rfl rfl ?_ | refine R34 T hs 1 rfl rfl rfl rfl rfl rfl ?_ | refine Zk ?_ rfl) | refine Zi ?_ rfl | refine Zq ?_ rfl | refine A8 ?_) | (refine B0 ?_; first | refine B1 ?_ | refine B2 ?_ | refine B3 ?_ | refine B4 ?_ | refine B5 ?_ | refine B6 ?_ | refine B7 rfl ?_ | refine B8 rfl ?_ | refine E8 ?_ rfl | refine E9 ?_ rfl) | refine C1 ?_ | refine C2 ?_ | refine C3 ?_ | refine C4 ?_ | refine C5 ?_ | refine C6 ?_ | refine C7 ?_ | refine C8 ?_ | refine C9 ?_ | refine D1 rfl ?_ | refine D2 rfl ?_)
    (refine RW.call T hs rfl rfl rfl (awake07_con _ _) ?_; intro v h7 w7 hle7 hp7 hs)
    subst hp7
    repeat (first | (refine A0 ?_; first | refine R1 rfl rfl ?_ | refine R2 rfl rfl ?_ | (refine A1 ?_; first | refine D3 rfl rfl ?_ | refine D4 rfl rfl rfl rfl ?_ | refine D5 rfl rfl rfl ?_ | refine E6 ?_ rfl rfl | refine E7 ?_ rfl rfl) | refine Zb ?_ rfl | (refine A3 ?_; first | refine R34 T hs 0 rfl rfl rfl rfl rfl rfl ?_ | refine R34 T hs 1 rfl rfl rfl rfl rfl rfl ?_ | refine Zk ?_ rfl) | refine Zi ?_ rfl | refine Zq ?_ rfl | refine A8 ?_) | (refine B0 ?_; first | refine B1 ?_ | refine B2 ?_ | refine B3 ?_ | refine B4 ?_ | refine B5 ?_ | refine B6 ?_ | refine B7 rfl ?_ | refine B8 rfl ?_ | refine E8 ?_ rfl | refine E9 ?_ rfl) | refine C1 ?_ | refine C2 ?_ | refine C3 ?_ | refine C4 ?_ | refine C5 ?_ | refine C6 ?_ | refine C7 ?_ | refine C8 ?_ | refine C9 ?_ | refine D1 rfl ?_ | refine D2 rfl ?_)
    exact retQ_ret [_] h7 ⟨rfl, trivial⟩ hs.dropAll rfl
  have hcq := Decidable.of_not_not c4
  repeat (first | (refine A0 ?_; first | refine R1 rfl rfl ?_ | refine R2 rfl rfl ?_ | (refine A1 ?_; first | refine D3 rfl rfl ?_ | refine D4 rfl rfl rfl rfl ?_ | refine D5 rfl rfl rfl ?_ | refine E6 ?_ rfl rfl | refine E7 ?_ rfl rfl) | refine Zb ?_ rfl | (refine A3 ?_; first | refine R34 T hs 0 rfl rfl rfl rfl rfl rfl ?_ | refine R34 T hs 1 rfl rfl rfl rfl rfl rfl ?_ | refine Zk ?_ rfl) | refine Zi ?_ rfl | refine Zq ?_ rfl | refine A8 ?_) | (refine B0 ?_; first | refine B1 ?_ | refine B2 ?_ | refine B3 ?_ | refine B4 ?_ | refine B5 ?_ | refine B6 ?_ | refine B7 rfl ?_ | refine B8 rfl ?_ | refine E8 ?_ rfl | refine E9 ?_ rfl) | refine C1 ?_ | refine C2 ?_ | refine C3 ?_ | refine C4 ?_ | refine C5 ?_ | refine C6 ?_ | refine C7 ?_ | refine C8 ?_ | refine C9 ?_ | refine D1 rfl ?_ | refine D2 rfl ?_)
  refine CW.meet (fun u : Nat × Nat × List Value × List Value × GHeap => [(2, .pointer (some ⟨b1, 0, none⟩)), (3, .pointer (some ⟨b2, 0, none⟩)), (5, .pointer (some ⟨u.1, 0, none⟩)), (6, .pointer (some ⟨u.2.1, 0, none⟩))]) (fun u w' => PlainAt (k + 1) u.2.2.2.2 [.slice ad p.shape.length cp, .slice ad2 p.items.length cp2, .int .i64 p.fill] p ∧ PlainAt (k + 1) u.2.2.2.2 [.slice ad3 q.shape.length cp3, .slice ad4 q.items.length cp4, .int .i64 q.fill] q ∧ ArrAt (k + 1) u.2.2.2.2 u.2.2.1 (arr (k + 1) p) ∧ ArrAt (k + 1) u.2.2.2.2 u.2.2.2.1 (arr (k + 1) q) ∧ Sees w h u.2.2.2.2 (⟨some ⟨u.2.1, 0, none⟩, 1, 1, 63, 9, u.2.2.2.1⟩ :: ⟨some ⟨u.1, 0, none⟩, 1, 1, 63, 9, u.2.2.1⟩ :: [⟨some ⟨b2, 0, none⟩, 1, 1, 50, 3, [.slice ad3 q.shape.length cp3, .slice ad4 q.items.length cp4, .int .i64 q.fill]⟩, ⟨some ⟨b1, 0, none⟩, 1, 1, 50, 3, [.slice ad p.shape.length cp, .slice ad2 p.items.length cp2, .int .i64 p.fill]⟩]) w') ?_ ?_
  ·
    refine CW.regionH T (fun w' : World => ∃ (h' : GHeap) (O : List Row) (k1 k2 : Nat), Sees w h h' O w' ∧ O[k1]? = some (Row.mk (some ⟨b1, 0, none⟩) 1 1 50 3 [.slice ad p.shape.length cp, .slice ad2 p.items.length cp2, .int .i64 p.fill]) ∧ O[k2]? = some (Row.mk (some ⟨b2, 0, none⟩) 1 1 50 3 [.slice ad3 q.shape.length cp3, .slice ad4 q.items.length cp4, .int .i64 q.fill])) ?_
    rintro w99 rfl
    have hs := hs.drew
    refine HW.take (fuel := 7) 0 rfl (v := .agg ([.slice ad p.shape.length cp, .slice ad2 p.items.length cp2, .int .i64 p.fill] : List Value).toArray) ?_ ?_ rfl (by kernel_rfl) (by kernel_rfl) (by kernel_rfl) ?_
    · rintro w' ⟨h', O, k1, k2, hs', e1, e2⟩; exact Y.loadRowN T hs' k1 e1 rfl rfl rfl rfl rfl rfl
    · exact ⟨_, _, 1, 0, hs, rfl, rfl⟩
    refine HW.take (fuel := 6) 2 rfl (v := .agg ([.slice ad3 q.shape.length cp3, .slice ad4 q.items.length cp4, .int .i64 q.fill] : List Value).toArray) ?_ ?_ rfl (by kernel_rfl) (by kernel_rfl) (by kernel_rfl) ?_
    · rintro w' ⟨h', O, k1, k2, hs', e1, e2⟩; exact Y.loadRowN T hs' k2 e2 rfl rfl rfl rfl rfl rfl
    · exact ⟨_, _, 1, 0, hs, rfl, rfl⟩
    refine HW.three (fuel := 5) 1 4 5 rfl rfl rfl (by kernel_rfl) ?_ ?_ ?_
    · (refine RW.call T hs rfl rfl rfl (of07_con (k + 1) _ p _ _ hp' hcp) ?_; intro v h31 w31 hle31 hp31 hs)
      obtain ⟨cs31, rfl, hl31, ho31, ha31⟩ := hp31
      have hp' := PlainAt.mono (k + 1) _ _ _ _ hle31 hp'
      have hq' := PlainAt.mono (k + 1) _ _ _ _ hle31 hq'
      refine RW.nil ?_
      refine heldQ_normal ⟨_, _, 1, 0, hs, rfl, rfl⟩ ?_
      refine HW.three (fuel := 4) 3 4 5 rfl rfl rfl (by kernel_rfl) ?_ ?_ ?_
      · (refine RW.call T hs rfl rfl rfl (of07_con (k + 1) _ q _ _ hq' hcq) ?_; intro v h33 w33 hle33 hp33 hs)
        obtain ⟨cs33, rfl, hl33, ho33, ha33⟩ := hp33
        have hp' := PlainAt.mono (k + 1) _ _ _ _ hle33 hp'
        have hq' := PlainAt.mono (k + 1) _ _ _ _ hle33 hq'
        have ha31 := ArrAt.mono (k + 1) _ _ _ _ hle33 ha31
        refine RW.nil ?_
        refine heldQ_normal ⟨_, _, 1, 0, hs, rfl, rfl⟩ ?_
        refine HW.two (fuel := 3) 4 5 rfl rfl (by kernel_rfl) ?_ ?_
        · (refine RW.allocN T hs rfl rfl rfl rfl ?_; intro b5 w5 hs)
          refine RW.nil ?_
          refine heldQ_normal ⟨_, _, 2, 1, hs, rfl, rfl⟩ ?_
          refine HW.one (fuel := 2) 5 rfl (by kernel_rfl) ?_
          (refine RW.allocN T hs rfl rfl rfl rfl ?_; intro b6 w6 hs)
          refine RW.nil ?_
          refine heldQ_normal ⟨_, _, 3, 2, hs, rfl, rfl⟩ ?_
          refine HW.one (fuel := 1) 6 rfl (by kernel_rfl) ?_
          refine RW.storeAll T hs 1 rfl rfl rfl rfl rfl hl31 (List.all_eq_true.2 ho31) hl31 ?_
          intro w50 hs
          refine RW.nil ?_
          refine heldQ_normal ⟨_, _, 3, 2, hs, rfl, rfl⟩ ?_
          refine HW.one (fuel := 0) 7 rfl (by kernel_rfl) ?_
          refine RW.storeAll T hs 0 rfl rfl rfl rfl rfl hl33 (List.all_eq_true.2 ho33) hl33 ?_
          intro w60 hs
          refine RW.nil ?_
          refine heldQ_normal ⟨_, _, 3, 2, hs, rfl, rfl⟩ ?_
          refine HW.done (by kernel_rfl) ?_
          refine calmQ_normal ?_
          exact joinQ_meet (b5, b6, cs31, cs33, h33) ⟨rfl, rfl, rfl, rfl, trivial⟩ ⟨hp', hq', ha31, ha33, hs⟩
        · (refine RW.allocN T hs rfl rfl rfl rfl ?_; intro b6 w6 hs)
          refine RW.nil ?_
          refine heldQ_normal ⟨_, _, 2, 1, hs, rfl, rfl⟩ ?_
          refine HW.one (fuel := 2) 4 rfl (by kernel_rfl) ?_
          (refine RW.allocN T hs rfl rfl rfl rfl ?_; intro b5 w5 hs)
          refine RW.nil ?_
          refine heldQ_normal ⟨_, _, 3, 2, hs, rfl, rfl⟩ ?_
          refine HW.one (fuel := 1) 6 rfl (by kernel_rfl) ?_
          refine RW.storeAll T hs 0 rfl rfl rfl rfl rfl hl31 (List.all_eq_true.2 ho31) hl31 ?_
          intro w50 hs
          refine RW.nil ?_
          refine heldQ_normal ⟨_, _, 3, 2, hs, rfl, rfl⟩ ?_
          refine HW.one (fuel := 0) 7 rfl (by kernel_rfl) ?_
          refine RW.storeAll T hs 1 rfl rfl rfl rfl rfl hl33 (List.all_eq_true.2 ho33) hl33 ?_
          intro w60 hs
          refine RW.nil ?_
          refine heldQ_normal ⟨_, _, 3, 2, hs, rfl, rfl⟩ ?_
          refine HW.done (by kernel_rfl) ?_
          refine calmQ_normal ?_
          have hs := hs.swap
          exact joinQ_meet (b5, b6, cs31, cs33, h33) ⟨rfl, rfl, rfl, rfl, trivial⟩ ⟨hp', hq', ha31, ha33, hs⟩
      · (refine RW.allocN T hs rfl rfl rfl rfl ?_; intro b5 w5 hs)
        refine RW.nil ?_
        refine heldQ_normal ⟨_, _, 2, 1, hs, rfl, rfl⟩ ?_
        refine HW.two (fuel := 3) 3 5 rfl rfl (by kernel_rfl) ?_ ?_
        · (refine RW.call T hs rfl rfl rfl (of07_con (k + 1) _ q _ _ hq' hcq) ?_; intro v h33 w33 hle33 hp33 hs)
          obtain ⟨cs33, rfl, hl33, ho33, ha33⟩ := hp33
          have hp' := PlainAt.mono (k + 1) _ _ _ _ hle33 hp'
          have hq' := PlainAt.mono (k + 1) _ _ _ _ hle33 hq'
          have ha31 := ArrAt.mono (k + 1) _ _ _ _ hle33 ha31
          refine RW.nil ?_
          refine heldQ_normal ⟨_, _, 2, 1, hs, rfl, rfl⟩ ?_
          refine HW.one (fuel := 2) 5 rfl (by kernel_rfl) ?_
          (refine RW.allocN T hs rfl rfl rfl rfl ?_; intro b6 w6 hs)
          refine RW.nil ?_
          refine heldQ_normal ⟨_, _, 3, 2, hs, rfl, rfl⟩ ?_
          refine HW.one (fuel := 1) 6 rfl (by kernel_rfl) ?_
          refine RW.storeAll T hs 1 rfl rfl rfl rfl rfl hl31 (List.all_eq_true.2 ho31) hl31 ?_
          intro w50 hs
          refine RW.nil ?_
          refine heldQ_normal ⟨_, _, 3, 2, hs, rfl, rfl⟩ ?_
          refine HW.one (fuel := 0) 7 rfl (by kernel_rfl) ?_
          refine RW.storeAll T hs 0 rfl rfl rfl rfl rfl hl33 (List.all_eq_true.2 ho33) hl33 ?_
          intro w60 hs
          refine RW.nil ?_
          refine heldQ_normal ⟨_, _, 3, 2, hs, rfl, rfl⟩ ?_
          refine HW.done (by kernel_rfl) ?_
          refine calmQ_normal ?_
          exact joinQ_meet (b5, b6, cs31, cs33, h33) ⟨rfl, rfl, rfl, rfl, trivial⟩ ⟨hp', hq', ha31, ha33, hs⟩
        · (refine RW.allocN T hs rfl rfl rfl rfl ?_; intro b6 w6 hs)
          refine RW.nil ?_
          refine heldQ_normal ⟨_, _, 3, 2, hs, rfl, rfl⟩ ?_
          refine HW.one (fuel := 2) 3 rfl (by kernel_rfl) ?_
          (refine RW.call T hs rfl rfl rfl (of07_con (k + 1) _ q _ _ hq' hcq) ?_; intro v h33 w33 hle33 hp33 hs)
          obtain ⟨cs33, rfl, hl33, ho33, ha33⟩ := hp33
          have hp' := PlainAt.mono (k + 1) _ _ _ _ hle33 hp'
          have hq' := PlainAt.mono (k + 1) _ _ _ _ hle33 hq'
          have ha31 := ArrAt.mono (k + 1) _ _ _ _ hle33 ha31
          refine RW.nil ?_
          refine heldQ_normal ⟨_, _, 3, 2, hs, rfl, rfl⟩ ?_
          refine HW.one (fuel := 1) 6 rfl (by kernel_rfl) ?_
          refine RW.storeAll T hs 1 rfl rfl rfl rfl rfl hl31 (List.all_eq_true.2 ho31) hl31 ?_
          intro w50 hs
          refine RW.nil ?_
          refine heldQ_normal ⟨_, _, 3, 2, hs, rfl, rfl⟩ ?_
          refine HW.one (fuel := 0) 7 rfl (by kernel_rfl) ?_
          refine RW.storeAll T hs 0 rfl rfl rfl rfl rfl hl33 (List.all_eq_true.2 ho33) hl33 ?_
          intro w60 hs
          refine RW.nil ?_
          refine heldQ_normal ⟨_, _, 3, 2, hs, rfl, rfl⟩ ?_
          refine HW.done (by kernel_rfl) ?_
          refine calmQ_normal ?_
          exact joinQ_meet (b5, b6, cs31, cs33, h33) ⟨rfl, rfl, rfl, rfl, trivial⟩ ⟨hp', hq', ha31, ha33, hs⟩
      · (refine RW.allocN T hs rfl rfl rfl rfl ?_; intro b6 w6 hs)
        refine RW.nil ?_
        refine heldQ_normal ⟨_, _, 2, 1, hs, rfl, rfl⟩ ?_
        refine HW.two (fuel := 3) 3 4 rfl rfl (by kernel_rfl) ?_ ?_
        · (refine RW.call T hs rfl rfl rfl (of07_con (k + 1) _ q _ _ hq' hcq) ?_; intro v h33 w33 hle33 hp33 hs)
          obtain ⟨cs33, rfl, hl33, ho33, ha33⟩ := hp33
          have hp' := PlainAt.mono (k + 1) _ _ _ _ hle33 hp'
          have hq' := PlainAt.mono (k + 1) _ _ _ _ hle33 hq'
          have ha31 := ArrAt.mono (k + 1) _ _ _ _ hle33 ha31
          refine RW.nil ?_
          refine heldQ_normal ⟨_, _, 2, 1, hs, rfl, rfl⟩ ?_
          refine HW.one (fuel := 2) 4 rfl (by kernel_rfl) ?_
          (refine RW.allocN T hs rfl rfl rfl rfl ?_; intro b5 w5 hs)
          refine RW.nil ?_
          refine heldQ_normal ⟨_, _, 3, 2, hs, rfl, rfl⟩ ?_
          refine HW.one (fuel := 1) 6 rfl (by kernel_rfl) ?_
          refine RW.storeAll T hs 0 rfl rfl rfl rfl rfl hl31 (List.all_eq_true.2 ho31) hl31 ?_
          intro w50 hs
          refine RW.nil ?_
          refine heldQ_normal ⟨_, _, 3, 2, hs, rfl, rfl⟩ ?_
          refine HW.one (fuel := 0) 7 rfl (by kernel_rfl) ?_
          refine RW.storeAll T hs 1 rfl rfl rfl rfl rfl hl33 (List.all_eq_true.2 ho33) hl33 ?_
          intro w60 hs
          refine RW.nil ?_
          refine heldQ_normal ⟨_, _, 3, 2, hs, rfl, rfl⟩ ?_
          refine HW.done (by kernel_rfl) ?_
          refine calmQ_normal ?_
          have hs := hs.swap
          exact joinQ_meet (b5, b6, cs31, cs33, h33) ⟨rfl, rfl, rfl, rfl, trivial⟩ ⟨hp', hq', ha31, ha33, hs⟩
        · (refine RW.allocN T hs rfl rfl rfl rfl ?_; intro b5 w5 hs)
          refine RW.nil ?_
          refine heldQ_normal ⟨_, _, 3, 2, hs, rfl, rfl⟩ ?_
          refine HW.one (fuel := 2) 3 rfl (by kernel_rfl) ?_
          (refine RW.call T hs rfl rfl rfl (of07_con (k + 1) _ q _ _ hq' hcq) ?_; intro v h33 w33 hle33 hp33 hs)
          obtain ⟨cs33, rfl, hl33, ho33, ha33⟩ := hp33
          have hp' := PlainAt.mono (k + 1) _ _ _ _ hle33 hp'
          have hq' := PlainAt.mono (k + 1) _ _ _ _ hle33 hq'
          have ha31 := ArrAt.mono (k + 1) _ _ _ _ hle33 ha31
          refine RW.nil ?_
          refine heldQ_normal ⟨_, _, 3, 2, hs, rfl, rfl⟩ ?_
          refine HW.one (fuel := 1) 6 rfl (by kernel_rfl) ?_
          refine RW.storeAll T hs 0 rfl rfl rfl rfl rfl hl31 (List.all_eq_true.2 ho31) hl31 ?_
          intro w50 hs
          refine RW.nil ?_
          refine heldQ_normal ⟨_, _, 3, 2, hs, rfl, rfl⟩ ?_
          refine HW.one (fuel := 0) 7 rfl (by kernel_rfl) ?_
          refine RW.storeAll T hs 1 rfl rfl rfl rfl rfl hl33 (List.all_eq_true.2 ho33) hl33 ?_
          intro w60 hs
          refine RW.nil ?_
          refine heldQ_normal ⟨_, _, 3, 2, hs, rfl, rfl⟩ ?_
          refine HW.done (by kernel_rfl) ?_
          refine calmQ_normal ?_
          have hs := hs.swap
          exact joinQ_meet (b5, b6, cs31, cs33, h33) ⟨rfl, rfl, rfl, rfl, trivial⟩ ⟨hp', hq', ha31, ha33, hs⟩
    · (refine RW.allocN T hs rfl rfl rfl rfl ?_; intro b5 w5 hs)
      refine RW.nil ?_
      refine heldQ_normal ⟨_, _, 2, 1, hs, rfl, rfl⟩ ?_
      refine HW.two (fuel := 4) 1 5 rfl rfl (by kernel_rfl) ?_ ?_
      · (refine RW.call T hs rfl rfl rfl (of07_con (k + 1) _ p _ _ hp' hcp) ?_; intro v h31 w31 hle31 hp31 hs)
        obtain ⟨cs31, rfl, hl31, ho31, ha31⟩ := hp31
        have hp' := PlainAt.mono (k + 1) _ _ _ _ hle31 hp'
        have hq' := PlainAt.mono (k + 1) _ _ _ _ hle31 hq'
        refine RW.nil ?_
        refine heldQ_normal ⟨_, _, 2, 1, hs, rfl, rfl⟩ ?_
        refine HW.two (fuel := 3) 3 5 rfl rfl (by kernel_rfl) ?_ ?_
        · (refine RW.call T hs rfl rfl rfl (of07_con (k + 1) _ q _ _ hq' hcq) ?_; intro v h33 w33 hle33 hp33 hs)
          obtain ⟨cs33, rfl, hl33, ho33, ha33⟩ := hp33
          have hp' := PlainAt.mono (k + 1) _ _ _ _ hle33 hp'
          have hq' := PlainAt.mono (k + 1) _ _ _ _ hle33 hq'
          have ha31 := ArrAt.mono (k + 1) _ _ _ _ hle33 ha31
          refine RW.nil ?_
          refine heldQ_normal ⟨_, _, 2, 1, hs, rfl, rfl⟩ ?_
          refine HW.one (fuel := 2) 5 rfl (by kernel_rfl) ?_
          (refine RW.allocN T hs rfl rfl rfl rfl ?_; intro b6 w6 hs)
          refine RW.nil ?_
          refine heldQ_normal ⟨_, _, 3, 2, hs, rfl, rfl⟩ ?_
          refine HW.one (fuel := 1) 6 rfl (by kernel_rfl) ?_
          refine RW.storeAll T hs 1 rfl rfl rfl rfl rfl hl31 (List.all_eq_true.2 ho31) hl31 ?_
          intro w50 hs
          refine RW.nil ?_
          refine heldQ_normal ⟨_, _, 3, 2, hs, rfl, rfl⟩ ?_
          refine HW.one (fuel := 0) 7 rfl (by kernel_rfl) ?_
          refine RW.storeAll T hs 0 rfl rfl rfl rfl rfl hl33 (List.all_eq_true.2 ho33) hl33 ?_
          intro w60 hs
          refine RW.nil ?_
          refine heldQ_normal ⟨_, _, 3, 2, hs, rfl, rfl⟩ ?_
          refine HW.done (by kernel_rfl) ?_
          refine calmQ_normal ?_
          exact joinQ_meet (b5, b6, cs31, cs33, h33) ⟨rfl, rfl, rfl, rfl, trivial⟩ ⟨hp', hq', ha31, ha33, hs⟩
        · (refine RW.allocN T hs rfl rfl rfl rfl ?_; intro b6 w6 hs)
          refine RW.nil ?_
          refine heldQ_normal ⟨_, _, 3, 2, hs, rfl, rfl⟩ ?_
          refine HW.one (fuel := 2) 3 rfl (by kernel_rfl) ?_
          (refine RW.call T hs rfl rfl rfl (of07_con (k + 1) _ q _ _ hq' hcq) ?_; intro v h33 w33 hle33 hp33 hs)
          obtain ⟨cs33, rfl, hl33, ho33, ha33⟩ := hp33
          have hp' := PlainAt.mono (k + 1) _ _ _ _ hle33 hp'
          have hq' := PlainAt.mono (k + 1) _ _ _ _ hle33 hq'
          have ha31 := ArrAt.mono (k + 1) _ _ _ _ hle33 ha31
          refine RW.nil ?_
          refine heldQ_normal ⟨_, _, 3, 2, hs, rfl, rfl⟩ ?_
          refine HW.one (fuel := 1) 6 rfl (by kernel_rfl) ?_
          refine RW.storeAll T hs 1 rfl rfl rfl rfl rfl hl31 (List.all_eq_true.2 ho31) hl31 ?_
          intro w50 hs
          refine RW.nil ?_
          refine heldQ_normal ⟨_, _, 3, 2, hs, rfl, rfl⟩ ?_
          refine HW.one (fuel := 0) 7 rfl (by kernel_rfl) ?_
          refine RW.storeAll T hs 0 rfl rfl rfl rfl rfl hl33 (List.all_eq_true.2 ho33) hl33 ?_
          intro w60 hs
          refine RW.nil ?_
          refine heldQ_normal ⟨_, _, 3, 2, hs, rfl, rfl⟩ ?_
          refine HW.done (by kernel_rfl) ?_
          refine calmQ_normal ?_
          exact joinQ_meet (b5, b6, cs31, cs33, h33) ⟨rfl, rfl, rfl, rfl, trivial⟩ ⟨hp', hq', ha31, ha33, hs⟩
      · (refine RW.allocN T hs rfl rfl rfl rfl ?_; intro b6 w6 hs)
        refine RW.nil ?_
        refine heldQ_normal ⟨_, _, 3, 2, hs, rfl, rfl⟩ ?_
        refine HW.one (fuel := 3) 1 rfl (by kernel_rfl) ?_
        (refine RW.call T hs rfl rfl rfl (of07_con (k + 1) _ p _ _ hp' hcp) ?_; intro v h31 w31 hle31 hp31 hs)
        obtain ⟨cs31, rfl, hl31, ho31, ha31⟩ := hp31
        have hp' := PlainAt.mono (k + 1) _ _ _ _ hle31 hp'
        have hq' := PlainAt.mono (k + 1) _ _ _ _ hle31 hq'
        refine RW.nil ?_
        refine heldQ_normal ⟨_, _, 3, 2, hs, rfl, rfl⟩ ?_
        refine HW.one (fuel := 2) 3 rfl (by kernel_rfl) ?_
        (refine RW.call T hs rfl rfl rfl (of07_con (k + 1) _ q _ _ hq' hcq) ?_; intro v h33 w33 hle33 hp33 hs)
        obtain ⟨cs33, rfl, hl33, ho33, ha33⟩ := hp33
        have hp' := PlainAt.mono (k + 1) _ _ _ _ hle33 hp'
        have hq' := PlainAt.mono (k + 1) _ _ _ _ hle33 hq'
        have ha31 := ArrAt.mono (k + 1) _ _ _ _ hle33 ha31
        refine RW.nil ?_
        refine heldQ_normal ⟨_, _, 3, 2, hs, rfl, rfl⟩ ?_
        refine HW.one (fuel := 1) 6 rfl (by kernel_rfl) ?_
        refine RW.storeAll T hs 1 rfl rfl rfl rfl rfl hl31 (List.all_eq_true.2 ho31) hl31 ?_
        intro w50 hs
        refine RW.nil ?_
        refine heldQ_normal ⟨_, _, 3, 2, hs, rfl, rfl⟩ ?_
        refine HW.one (fuel := 0) 7 rfl (by kernel_rfl) ?_
        refine RW.storeAll T hs 0 rfl rfl rfl rfl rfl hl33 (List.all_eq_true.2 ho33) hl33 ?_
        intro w60 hs
        refine RW.nil ?_
        refine heldQ_normal ⟨_, _, 3, 2, hs, rfl, rfl⟩ ?_
        refine HW.done (by kernel_rfl) ?_
        refine calmQ_normal ?_
        exact joinQ_meet (b5, b6, cs31, cs33, h33) ⟨rfl, rfl, rfl, rfl, trivial⟩ ⟨hp', hq', ha31, ha33, hs⟩
    · (refine RW.allocN T hs rfl rfl rfl rfl ?_; intro b6 w6 hs)
      refine RW.nil ?_
      refine heldQ_normal ⟨_, _, 2, 1, hs, rfl, rfl⟩ ?_
      refine HW.two (fuel := 4) 1 4 rfl rfl (by kernel_rfl) ?_ ?_
      · (refine RW.call T hs rfl rfl rfl (of07_con (k + 1) _ p _ _ hp' hcp) ?_; intro v h31 w31 hle31 hp31 hs)
        obtain ⟨cs31, rfl, hl31, ho31, ha31⟩ := hp31
        have hp' := PlainAt.mono (k + 1) _ _ _ _ hle31 hp'
        have hq' := PlainAt.mono (k + 1) _ _ _ _ hle31 hq'
        refine RW.nil ?_
        refine heldQ_normal ⟨_, _, 2, 1, hs, rfl, rfl⟩ ?_
        refine HW.two (fuel := 3) 3 4 rfl rfl (by kernel_rfl) ?_ ?_
        · (refine RW.call T hs rfl rfl rfl (of07_con (k + 1) _ q _ _ hq' hcq) ?_; intro v h33 w33 hle33 hp33 hs)
          obtain ⟨cs33, rfl, hl33, ho33, ha33⟩ := hp33
          have hp' := PlainAt.mono (k + 1) _ _ _ _ hle33 hp'
          have hq' := PlainAt.mono (k + 1) _ _ _ _ hle33 hq'
          have ha31 := ArrAt.mono (k + 1) _ _ _ _ hle33 ha31
          refine RW.nil ?_
          refine heldQ_normal ⟨_, _, 2, 1, hs, rfl, rfl⟩ ?_
          refine HW.one (fuel := 2) 4 rfl (by kernel_rfl) ?_
          (refine RW.allocN T hs rfl rfl rfl rfl ?_; intro b5 w5 hs)
          refine RW.nil ?_
          refine heldQ_normal ⟨_, _, 3, 2, hs, rfl, rfl⟩ ?_
          refine HW.one (fuel := 1) 6 rfl (by kernel_rfl) ?_
          refine RW.storeAll T hs 0 rfl rfl rfl rfl rfl hl31 (List.all_eq_true.2 ho31) hl31 ?_
          intro w50 hs
          refine RW.nil ?_
          refine heldQ_normal ⟨_, _, 3, 2, hs, rfl, rfl⟩ ?_
          refine HW.one (fuel := 0) 7 rfl (by kernel_rfl) ?_
          refine RW.storeAll T hs 1 rfl rfl rfl rfl rfl hl33 (List.all_eq_true.2 ho33) hl33 ?_
          intro w60 hs
          refine RW.nil ?_
          refine heldQ_normal ⟨_, _, 3, 2, hs, rfl, rfl⟩ ?_
          refine HW.done (by kernel_rfl) ?_
          refine calmQ_normal ?_
          have hs := hs.swap
          exact joinQ_meet (b5, b6, cs31, cs33, h33) ⟨rfl, rfl, rfl, rfl, trivial⟩ ⟨hp', hq', ha31, ha33, hs⟩
        · (refine RW.allocN T hs rfl rfl rfl rfl ?_; intro b5 w5 hs)
          refine RW.nil ?_
          refine heldQ_normal ⟨_, _, 3, 2, hs, rfl, rfl⟩ ?_
          refine HW.one (fuel := 2) 3 rfl (by kernel_rfl) ?_
          (refine RW.call T hs rfl rfl rfl (of07_con (k + 1) _ q _ _ hq' hcq) ?_; intro v h33 w33 hle33 hp33 hs)
          obtain ⟨cs33, rfl, hl33, ho33, ha33⟩ := hp33
          have hp' := PlainAt.mono (k + 1) _ _ _ _ hle33 hp'
          have hq' := PlainAt.mono (k + 1) _ _ _ _ hle33 hq'
          have ha31 := ArrAt.mono (k + 1) _ _ _ _ hle33 ha31
          refine RW.nil ?_
          refine heldQ_normal ⟨_, _, 3, 2, hs, rfl, rfl⟩ ?_
          refine HW.one (fuel := 1) 6 rfl (by kernel_rfl) ?_
          refine RW.storeAll T hs 0 rfl rfl rfl rfl rfl hl31 (List.all_eq_true.2 ho31) hl31 ?_
          intro w50 hs
          refine RW.nil ?_
          refine heldQ_normal ⟨_, _, 3, 2, hs, rfl, rfl⟩ ?_
          refine HW.one (fuel := 0) 7 rfl (by kernel_rfl) ?_
          refine RW.storeAll T hs 1 rfl rfl rfl rfl rfl hl33 (List.all_eq_true.2 ho33) hl33 ?_
          intro w60 hs
          refine RW.nil ?_
          refine heldQ_normal ⟨_, _, 3, 2, hs, rfl, rfl⟩ ?_
          refine HW.done (by kernel_rfl) ?_
          refine calmQ_normal ?_
          have hs := hs.swap
          exact joinQ_meet (b5, b6, cs31, cs33, h33) ⟨rfl, rfl, rfl, rfl, trivial⟩ ⟨hp', hq', ha31, ha33, hs⟩
      · (refine RW.allocN T hs rfl rfl rfl rfl ?_; intro b5 w5 hs)
        refine RW.nil ?_
        refine heldQ_normal ⟨_, _, 3, 2, hs, rfl, rfl⟩ ?_
        refine HW.one (fuel := 3) 1 rfl (by kernel_rfl) ?_
        (refine RW.call T hs rfl rfl rfl (of07_con (k + 1) _ p _ _ hp' hcp) ?_; intro v h31 w31 hle31 hp31 hs)
        obtain ⟨cs31, rfl, hl31, ho31, ha31⟩ := hp31
        have hp' := PlainAt.mono (k + 1) _ _ _ _ hle31 hp'
        have hq' := PlainAt.mono (k + 1) _ _ _ _ hle31 hq'
        refine RW.nil ?_
        refine heldQ_normal ⟨_, _, 3, 2, hs, rfl, rfl⟩ ?_
        refine HW.one (fuel := 2) 3 rfl (by kernel_rfl) ?_
        (refine RW.call T hs rfl rfl rfl (of07_con (k + 1) _ q _ _ hq' hcq) ?_; intro v h33 w33 hle33 hp33 hs)
        obtain ⟨cs33, rfl, hl33, ho33, ha33⟩ := hp33
        have hp' := PlainAt.mono (k + 1) _ _ _ _ hle33 hp'
        have hq' := PlainAt.mono (k + 1) _ _ _ _ hle33 hq'
        have ha31 := ArrAt.mono (k + 1) _ _ _ _ hle33 ha31
        refine RW.nil ?_
        refine heldQ_normal ⟨_, _, 3, 2, hs, rfl, rfl⟩ ?_
        refine HW.one (fuel := 1) 6 rfl (by kernel_rfl) ?_
        refine RW.storeAll T hs 0 rfl rfl rfl rfl rfl hl31 (List.all_eq_true.2 ho31) hl31 ?_
        intro w50 hs
        refine RW.nil ?_
        refine heldQ_normal ⟨_, _, 3, 2, hs, rfl, rfl⟩ ?_
        refine HW.one (fuel := 0) 7 rfl (by kernel_rfl) ?_
        refine RW.storeAll T hs 1 rfl rfl rfl rfl rfl hl33 (List.all_eq_true.2 ho33) hl33 ?_
        intro w60 hs
        refine RW.nil ?_
        refine heldQ_normal ⟨_, _, 3, 2, hs, rfl, rfl⟩ ?_
        refine HW.done (by kernel_rfl) ?_
        refine calmQ_normal ?_
        have hs := hs.swap
        exact joinQ_meet (b5, b6, cs31, cs33, h33) ⟨rfl, rfl, rfl, rfl, trivial⟩ ⟨hp', hq', ha31, ha33, hs⟩
  rintro ⟨b5, b6, cs31, cs33, h33⟩ w33 ⟨hp', hq', ha31, ha33, hs⟩
  dsimp only at hp' hq' ha31 ha33 hs ⊢
  have ha31' := ha31
  have ha33' := ha33
  obtain ⟨s5, vc5, rfl, hl5, hv5⟩ := ha31
  obtain ⟨ad5, cp5, rfl, _⟩ := hl5
  obtain ⟨wv5, nv5, sm5, il5, fl5, ch5, bx5, ⟨rfl, _⟩, _⟩ := hv5
  obtain ⟨s6, vc6, rfl, hl6, hv6⟩ := ha33
  obtain ⟨ad6, cp6, rfl, _⟩ := hl6
  obtain ⟨wv6, nv6, sm6, il6, fl6, ch6, bx6, ⟨rfl, _⟩, _⟩ := hv6
  generalize hn5 : (ArrD.shape (α := AD k) (arr (k + 1) p)).length = n5 at *
  generalize hn6 : (ArrD.shape (α := AD k) (arr (k + 1) q)).length = n6 at *
  generalize hk5 : (ArrD.vec (α := AD k) (arr (k + 1) p)).kind = k5 at *
  generalize hk6 : (ArrD.vec (α := AD k) (arr (k + 1) q)).kind = k6 at *
  have ha31 := ha31'
  have ha33 := ha33'
  repeat (first | (refine A0 ?_; first | refine R1 rfl rfl ?_ | refine R2 rfl rfl ?_ | (refine A1 ?_; first | refine D3 rfl rfl ?_ | refine D4 rfl rfl rfl rfl ?_ | refine D5 rfl rfl rfl ?_ | refine E6 ?_ rfl rfl | refine E7 ?_ rfl rfl) | refine Zb ?_ rfl | (refine A3 ?_; first | refine R34 T hs 0 rfl rfl rfl rfl rfl rfl ?_ | refine R34 T hs 1 rfl rfl rfl rfl rfl rfl ?_ | refine Zk ?_ rfl) | refine Zi ?_ rfl | refine Zq ?_ rfl | refine A8 ?_) | (refine B0 ?_; first | refine B1 ?_ | refine B2 ?_ | refine B3 ?_ | refine B4 ?_ | refine B5 ?_ | refine B6 ?_ | refine B7 rfl ?_ | refine B8 rfl ?_ | refine E8 ?_ rfl | refine E9 ?_ rfl) | refine C1 ?_ | refine C2 ?_ | refine C3 ?_ | refine C4 ?_ | refine C5 ?_ | refine C6 ?_ | refine C7 ?_ | refine C8 ?_ | refine C9 ?_ | refine D1 rfl ?_ | refine D2 rfl ?_)
  refine CW.meet (fun u : Nat × Nat × List Value × List Value × GHeap => [(5, .pointer (some ⟨b5, 0, none⟩)), (6, .pointer (some ⟨b6, 0, none⟩)), (7, .pointer (some ⟨u.1, 0, none⟩)), (8, .pointer (some ⟨u.2.1, 0, none⟩))]) (fun u w' => ArrAt (k + 1) u.2.2.2.2 (.slice ad5 n5 cp5 :: vecCells k5 wv5 nv5 sm5 il5 fl5 ch5 bx5) (arr (k + 1) p) ∧ ArrAt (k + 1) u.2.2.2.2 (.slice ad6 n6 cp6 :: vecCells k6 wv6 nv6 sm6 il6 fl6 ch6 bx6) (arr (k + 1) q) ∧ PlainAt (k + 1) u.2.2.2.2 u.2.2.1 (tidy (k + 1) p) ∧ PlainAt (k + 1) u.2.2.2.2 u.2.2.2.1 (tidy (k + 1) q) ∧ Sees w h u.2.2.2.2 (⟨some ⟨u.2.1, 0, none⟩, 1, 1, 50, 3, u.2.2.2.1⟩ :: ⟨some ⟨u.1, 0, none⟩, 1, 1, 50, 3, u.2.2.1⟩ :: (⟨some ⟨b6, 0, none⟩, 1, 1, 63, 9, (.slice ad6 n6 cp6 :: vecCells k6 wv6 nv6 sm6 il6 fl6 ch6 bx6)⟩ :: ⟨some ⟨b5, 0, none⟩, 1, 1, 63, 9, (.slice ad5 n5 cp5 :: vecCells k5 wv5 nv5 sm5 il5 fl5 ch5 bx5)⟩ :: [⟨some ⟨b2, 0, none⟩, 1, 1, 50, 3, [.slice ad3 q.shape.length cp3, .slice ad4 q.items.length cp4, .int .i64 q.fill]⟩, ⟨some ⟨b1, 0, none⟩, 1, 1, 50, 3, [.slice ad p.shape.length cp, .slice ad2 p.items.length cp2, .int .i64 p.fill]⟩])) w') ?_ ?_
  ·
    refine CW.regionH T (fun w' : World => ∃ (h' : GHeap) (O : List Row) (k1 k2 : Nat), Sees w h h' O w' ∧ O[k1]? = some (Row.mk (some ⟨b1, 0, none⟩) 1 1 50 3 [.slice ad p.shape.length cp, .slice ad2 p.items.length cp2, .int .i64 p.fill]) ∧ O[k2]? = some (Row.mk (some ⟨b2, 0, none⟩) 1 1 50 3 [.slice ad3 q.shape.length cp3, .slice ad4 q.items.length cp4, .int .i64 q.fill])) ?_
    rintro w99 rfl
    have hs := hs.drew
    refine HW.take (fuel := 7) 0 rfl (v := .agg ([.slice ad p.shape.length cp, .slice ad2 p.items.length cp2, .int .i64 p.fill] : List Value).toArray) ?_ ?_ rfl (by kernel_rfl) (by kernel_rfl) (by kernel_rfl) ?_
    · rintro w' ⟨h', O, k1, k2, hs', e1, e2⟩; exact Y.loadRowN T hs' k1 e1 rfl rfl rfl rfl rfl rfl
    · exact ⟨_, _, 3, 2, hs, rfl, rfl⟩
    refine HW.take (fuel := 6) 2 rfl (v := .agg ([.slice ad3 q.shape.length cp3, .slice ad4 q.items.length cp4, .int .i64 q.fill] : List Value).toArray) ?_ ?_ rfl (by kernel_rfl) (by kernel_rfl) (by kernel_rfl) ?_
    · rintro w' ⟨h', O, k1, k2, hs', e1, e2⟩; exact Y.loadRowN T hs' k2 e2 rfl rfl rfl rfl rfl rfl
    · exact ⟨_, _, 3, 2, hs, rfl, rfl⟩
    refine HW.three (fuel := 5) 1 4 5 rfl rfl rfl (by kernel_rfl) ?_ ?_ ?_
    · (refine RW.call T hs rfl rfl rfl (refTidyP_con (k + 1) 40 _ p _ _ hp' hcp) ?_; intro v h35 w35 hle35 hp35 hs)
      obtain ⟨cs35, rfl, hq35⟩ := hp35
      have hl35 := PlainAt.siz _ _ _ _ hq35
      have ho35 := PlainAt.one _ _ _ _ hq35
      have hp' := PlainAt.mono (k + 1) _ _ _ _ hle35 hp'
      have hq' := PlainAt.mono (k + 1) _ _ _ _ hle35 hq'
      have ha31 := ArrAt.mono (k + 1) _ _ _ _ hle35 ha31
      have ha33 := ArrAt.mono (k + 1) _ _ _ _ hle35 ha33
      refine RW.nil ?_
      refine heldQ_normal ⟨_, _, 3, 2, hs, rfl, rfl⟩ ?_
      refine HW.three (fuel := 4) 3 4 5 rfl rfl rfl (by kernel_rfl) ?_ ?_ ?_
      · (refine RW.call T hs rfl rfl rfl (refTidyP_con (k + 1) 40 _ q _ _ hq' hcq) ?_; intro v h37 w37 hle37 hp37 hs)
        obtain ⟨cs37, rfl, hq37⟩ := hp37
        have hl37 := PlainAt.siz _ _ _ _ hq37
        have ho37 := PlainAt.one _ _ _ _ hq37
        have hp' := PlainAt.mono (k + 1) _ _ _ _ hle37 hp'
        have hq' := PlainAt.mono (k + 1) _ _ _ _ hle37 hq'
        have ha31 := ArrAt.mono (k + 1) _ _ _ _ hle37 ha31
        have ha33 := ArrAt.mono (k + 1) _ _ _ _ hle37 ha33
        have hq35 := PlainAt.mono (k + 1) _ _ _ _ hle37 hq35
        refine RW.nil ?_
        refine heldQ_normal ⟨_, _, 3, 2, hs, rfl, rfl⟩ ?_
        refine HW.two (fuel := 3) 4 5 rfl rfl (by kernel_rfl) ?_ ?_
        · (refine RW.allocN T hs rfl rfl rfl rfl ?_; intro b7 w7 hs)
          refine RW.nil ?_
          refine heldQ_normal ⟨_, _, 4, 3, hs, rfl, rfl⟩ ?_
          refine HW.one (fuel := 2) 5 rfl (by kernel_rfl) ?_
          (refine RW.allocN T hs rfl rfl rfl rfl ?_; intro b8 w8 hs)
          refine RW.nil ?_
          refine heldQ_normal ⟨_, _, 5, 4, hs, rfl, rfl⟩ ?_
          refine HW.one (fuel := 1) 6 rfl (by kernel_rfl) ?_
          refine RW.storeAll T hs 1 rfl rfl rfl rfl rfl hl35 (List.all_eq_true.2 ho35) hl35 ?_
          intro w70 hs
          refine RW.nil ?_
          refine heldQ_normal ⟨_, _, 5, 4, hs, rfl, rfl⟩ ?_
          refine HW.one (fuel := 0) 7 rfl (by kernel_rfl) ?_
          refine RW.storeAll T hs 0 rfl rfl rfl rfl rfl hl37 (List.all_eq_true.2 ho37) hl37 ?_
          intro w80 hs
          refine RW.nil ?_
          refine heldQ_normal ⟨_, _, 5, 4, hs, rfl, rfl⟩ ?_
          refine HW.done (by kernel_rfl) ?_
          refine calmQ_normal ?_
          exact joinQ_meet (b7, b8, cs35, cs37, h37) ⟨rfl, rfl, rfl, rfl, trivial⟩ ⟨ha31, ha33, hq35, hq37, hs⟩
        · (refine RW.allocN T hs rfl rfl rfl rfl ?_; intro b8 w8 hs)
          refine RW.nil ?_
          refine heldQ_normal ⟨_, _, 4, 3, hs, rfl, rfl⟩ ?_
          refine HW.one (fuel := 2) 4 rfl (by kernel_rfl) ?_
          (refine RW.allocN T hs rfl rfl rfl rfl ?_; intro b7 w7 hs)
          refine RW.nil ?_
          refine heldQ_normal ⟨_, _, 5, 4, hs, rfl, rfl⟩ ?_
          refine HW.one (fuel := 1) 6 rfl (by kernel_rfl) ?_
          refine RW.storeAll T hs 0 rfl rfl rfl rfl rfl hl35 (List.all_eq_true.2 ho35) hl35 ?_
          intro w70 hs
          refine RW.nil ?_
          refine heldQ_normal ⟨_, _, 5, 4, hs, rfl, rfl⟩ ?_
          refine HW.one (fuel := 0) 7 rfl (by kernel_rfl) ?_
          refine RW.storeAll T hs 1 rfl rfl rfl rfl rfl hl37 (List.all_eq_true.2 ho37) hl37 ?_
          intro w80 hs
          refine RW.nil ?_
          refine heldQ_normal ⟨_, _, 5, 4, hs, rfl, rfl⟩ ?_
          refine HW.done (by kernel_rfl) ?_
          refine calmQ_normal ?_
          have hs := hs.swap
          exact joinQ_meet (b7, b8, cs35, cs37, h37) ⟨rfl, rfl, rfl, rfl, trivial⟩ ⟨ha31, ha33, hq35, hq37, hs⟩
      · (refine RW.allocN T hs rfl rfl rfl rfl ?_; intro b7 w7 hs)
        refine RW.nil ?_
        refine heldQ_normal ⟨_, _, 4, 3, hs, rfl, rfl⟩ ?_
        refine HW.two (fuel := 3) 3 5 rfl rfl (by kernel_rfl) ?_ ?_
        · (refine RW.call T hs rfl rfl rfl (refTidyP_con (k + 1) 40 _ q _ _ hq' hcq) ?_; intro v h37 w37 hle37 hp37 hs)
          obtain ⟨cs37, rfl, hq37⟩ := hp37
          have hl37 := PlainAt.siz _ _ _ _ hq37
          have ho37 := PlainAt.one _ _ _ _ hq37
          have hp' := PlainAt.mono (k + 1) _ _ _ _ hle37 hp'
          have hq' := PlainAt.mono (k + 1) _ _ _ _ hle37 hq'
          have ha31 := ArrAt.mono (k + 1) _ _ _ _ hle37 ha31
          have ha33 := ArrAt.mono (k + 1) _ _ _ _ hle37 ha33
          have hq35 := PlainAt.mono (k + 1) _ _ _ _ hle37 hq35
          refine RW.nil ?_
          refine heldQ_normal ⟨_, _, 4, 3, hs, rfl, rfl⟩ ?_
          refine HW.one (fuel := 2) 5 rfl (by kernel_rfl) ?_
          (refine RW.allocN T hs rfl rfl rfl rfl ?_; intro b8 w8 hs)
          refine RW.nil ?_
          refine heldQ_normal ⟨_, _, 5, 4, hs, rfl, rfl⟩ ?_
          refine HW.one (fuel := 1) 6 rfl (by kernel_rfl) ?_
          refine RW.storeAll T hs 1 rfl rfl rfl rfl rfl hl35 (List.all_eq_true.2 ho35) hl35 ?_
          intro w70 hs
          refine RW.nil ?_
          refine heldQ_normal ⟨_, _, 5, 4, hs, rfl, rfl⟩ ?_
          refine HW.one (fuel := 0) 7 rfl (by kernel_rfl) ?_
          refine RW.storeAll T hs 0 rfl rfl rfl rfl rfl hl37 (List.all_eq_true.2 ho37) hl37 ?_
          intro w80 hs
          refine RW.nil ?_
          refine heldQ_normal ⟨_, _, 5, 4, hs, rfl, rfl⟩ ?_
          refine HW.done (by kernel_rfl) ?_
          refine calmQ_normal ?_
          exact joinQ_meet (b7, b8, cs35, cs37, h37) ⟨rfl, rfl, rfl, rfl, trivial⟩ ⟨ha31, ha33, hq35, hq37, hs⟩
        · (refine RW.allocN T hs rfl rfl rfl rfl ?_; intro b8 w8 hs)
          refine RW.nil ?_
          refine heldQ_normal ⟨_, _, 5, 4, hs, rfl, rfl⟩ ?_
          refine HW.one (fuel := 2) 3 rfl (by kernel_rfl) ?_
          (refine RW.call T hs rfl rfl rfl (refTidyP_con (k + 1) 40 _ q _ _ hq' hcq) ?_; intro v h37 w37 hle37 hp37 hs)
          obtain ⟨cs37, rfl, hq37⟩ := hp37
          have hl37 := PlainAt.siz _ _ _ _ hq37
          have ho37 := PlainAt.one _ _ _ _ hq37
          have hp' := PlainAt.mono (k + 1) _ _ _ _ hle37 hp'
          have hq' := PlainAt.mono (k + 1) _ _ _ _ hle37 hq'
          have ha31 := ArrAt.mono (k + 1) _ _ _ _ hle37 ha31
          have ha33 := ArrAt.mono (k + 1) _ _ _ _ hle37 ha33
          have hq35 := PlainAt.mono (k + 1) _ _ _ _ hle37 hq35
          refine RW.nil ?_
          refine heldQ_normal ⟨_, _, 5, 4, hs, rfl, rfl⟩ ?_
          refine HW.one (fuel := 1) 6 rfl (by kernel_rfl) ?_
          refine RW.storeAll T hs 1 rfl rfl rfl rfl rfl hl35 (List.all_eq_true.2 ho35) hl35 ?_
          intro w70 hs
          refine RW.nil ?_
          refine heldQ_normal ⟨_, _, 5, 4, hs, rfl, rfl⟩ ?_
          refine HW.one (fuel := 0) 7 rfl (by kernel_rfl) ?_
          refine RW.storeAll T hs 0 rfl rfl rfl rfl rfl hl37 (List.all_eq_true.2 ho37) hl37 ?_
          intro w80 hs
          refine RW.nil ?_
          refine heldQ_normal ⟨_, _, 5, 4, hs, rfl, rfl⟩ ?_
          refine HW.done (by kernel_rfl) ?_
          refine calmQ_normal ?_
          exact joinQ_meet (b7, b8, cs35, cs37, h37) ⟨rfl, rfl, rfl, rfl, trivial⟩ ⟨ha31, ha33, hq35, hq37, hs⟩
      · (refine RW.allocN T hs rfl rfl rfl rfl ?_; intro b8 w8 hs)
        refine RW.nil ?_
        refine heldQ_normal ⟨_, _, 4, 3, hs, rfl, rfl⟩ ?_
        refine HW.two (fuel := 3) 3 4 rfl rfl (by kernel_rfl) ?_ ?_
        · (refine RW.call T hs rfl rfl rfl (refTidyP_con (k + 1) 40 _ q _ _ hq' hcq) ?_; intro v h37 w37 hle37 hp37 hs)
          obtain ⟨cs37, rfl, hq37⟩ := hp37
          have hl37 := PlainAt.siz _ _ _ _ hq37
          have ho37 := PlainAt.one _ _ _ _ hq37
          have hp' := PlainAt.mono (k + 1) _ _ _ _ hle37 hp'
          have hq' := PlainAt.mono (k + 1) _ _ _ _ hle37 hq'
          have ha31 := ArrAt.mono (k + 1) _ _ _ _ hle37 ha31
          have ha33 := ArrAt.mono (k + 1) _ _ _ _ hle37 ha33
          have hq35 := PlainAt.mono (k + 1) _ _ _ _ hle37 hq35
          refine RW.nil ?_
          refine heldQ_normal ⟨_, _, 4, 3, hs, rfl, rfl⟩ ?_
          refine HW.one (fuel := 2) 4 rfl (by kernel_rfl) ?_
          (refine RW.allocN T hs rfl rfl rfl rfl ?_; intro b7 w7 hs)
          refine RW.nil ?_
          refine heldQ_normal ⟨_, _, 5, 4, hs, rfl, rfl⟩ ?_
          refine HW.one (fuel := 1) 6 rfl (by kernel_rfl) ?_
          refine RW.storeAll T hs 0 rfl rfl rfl rfl rfl hl35 (List.all_eq_true.2 ho35) hl35 ?_
          intro w70 hs
          refine RW.nil ?_
          refine heldQ_normal ⟨_, _, 5, 4, hs, rfl, rfl⟩ ?_
          refine HW.one (fuel := 0) 7 rfl (by kernel_rfl) ?_
          refine RW.storeAll T hs 1 rfl rfl rfl rfl rfl hl37 (List.all_eq_true.2 ho37) hl37 ?_
          intro w80 hs
          refine RW.nil ?_
          refine heldQ_normal ⟨_, _, 5, 4, hs, rfl, rfl⟩ ?_
          refine HW.done (by kernel_rfl) ?_
          refine calmQ_normal ?_
          have hs := hs.swap
          exact joinQ_meet (b7, b8, cs35, cs37, h37) ⟨rfl, rfl, rfl, rfl, trivial⟩ ⟨ha31, ha33, hq35, hq37, hs⟩
        · (refine RW.allocN T hs rfl rfl rfl rfl ?_; intro b7 w7 hs)
          refine RW.nil ?_
          refine heldQ_normal ⟨_, _, 5, 4, hs, rfl, rfl⟩ ?_
          refine HW.one (fuel := 2) 3 rfl (by kernel_rfl) ?_
          (refine RW.call T hs rfl rfl rfl (refTidyP_con (k + 1) 40 _ q _ _ hq' hcq) ?_; intro v h37 w37 hle37 hp37 hs)
          obtain ⟨cs37, rfl, hq37⟩ := hp37
          have hl37 := PlainAt.siz _ _ _ _ hq37
          have ho37 := PlainAt.one _ _ _ _ hq37
          have hp' := PlainAt.mono (k + 1) _ _ _ _ hle37 hp'
          have hq' := PlainAt.mono (k + 1) _ _ _ _ hle37 hq'
          have ha31 := ArrAt.mono (k + 1) _ _ _ _ hle37 ha31
          have ha33 := ArrAt.mono (k + 1) _ _ _ _ hle37 ha33
          have hq35 := PlainAt.mono (k + 1) _ _ _ _ hle37 hq35
          refine RW.nil ?_
          refine heldQ_normal ⟨_, _, 5, 4, hs, rfl, rfl⟩ ?_
          refine HW.one (fuel := 1) 6 rfl (by kernel_rfl) ?_
          refine RW.storeAll T hs 0 rfl rfl rfl rfl rfl hl35 (List.all_eq_true.2 ho35) hl35 ?_
          intro w70 hs
          refine RW.nil ?_
          refine heldQ_normal ⟨_, _, 5, 4, hs, rfl, rfl⟩ ?_
          refine HW.one (fuel := 0) 7 rfl (by kernel_rfl) ?_
          refine RW.storeAll T hs 1 rfl rfl rfl rfl rfl hl37 (List.all_eq_true.2 ho37) hl37 ?_
          intro w80 hs
          refine RW.nil ?_
          refine heldQ_normal ⟨_, _, 5, 4, hs, rfl, rfl⟩ ?_
          refine HW.done (by kernel_rfl) ?_
          refine calmQ_normal ?_
          have hs := hs.swap
          exact joinQ_meet (b7, b8, cs35, cs37, h37) ⟨rfl, rfl, rfl, rfl, trivial⟩ ⟨ha31, ha33, hq35, hq37, hs⟩
    · (refine RW.allocN T hs rfl rfl rfl rfl ?_; intro b7 w7 hs)
      refine RW.nil ?_
      refine heldQ_normal ⟨_, _, 4, 3, hs, rfl, rfl⟩ ?_
      refine HW.two (fuel := 4) 1 5 rfl rfl (by kernel_rfl) ?_ ?_
      · (refine RW.call T hs rfl rfl rfl (refTidyP_con (k + 1) 40 _ p _ _ hp' hcp) ?_; intro v h35 w35 hle35 hp35 hs)
        obtain ⟨cs35, rfl, hq35⟩ := hp35
        have hl35 := PlainAt.siz _ _ _ _ hq35
        have ho35 := PlainAt.one _ _ _ _ hq35
        have hp' := PlainAt.mono (k + 1) _ _ _ _ hle35 hp'
        have hq' := PlainAt.mono (k + 1) _ _ _ _ hle35 hq'
        have ha31 := ArrAt.mono (k + 1) _ _ _ _ hle35 ha31
        have ha33 := ArrAt.mono (k + 1) _ _ _ _ hle35 ha33
        refine RW.nil ?_
        refine heldQ_normal ⟨_, _, 4, 3, hs, rfl, rfl⟩ ?_
        refine HW.two (fuel := 3) 3 5 rfl rfl (by kernel_rfl) ?_ ?_
        · (refine RW.call T hs rfl rfl rfl (refTidyP_con (k + 1) 40 _ q _ _ hq' hcq) ?_; intro v h37 w37 hle37 hp37 hs)
          obtain ⟨cs37, rfl, hq37⟩ := hp37
          have hl37 := PlainAt.siz _ _ _ _ hq37
          have ho37 := PlainAt.one _ _ _ _ hq37
          have hp' := PlainAt.mono (k + 1) _ _ _ _ hle37 hp'
          have hq' := PlainAt.mono (k + 1) _ _ _ _ hle37 hq'
          have ha31 := ArrAt.mono (k + 1) _ _ _ _ hle37 ha31
          have ha33 := ArrAt.mono (k + 1) _ _ _ _ hle37 ha33
          have hq35 := PlainAt.mono (k + 1) _ _ _ _ hle37 hq35
          refine RW.nil ?_
          refine heldQ_normal ⟨_, _, 4, 3, hs, rfl, rfl⟩ ?_
          refine HW.one (fuel := 2) 5 rfl (by kernel_rfl) ?_
          (refine RW.allocN T hs rfl rfl rfl rfl ?_; intro b8 w8 hs)
          refine RW.nil ?_
          refine heldQ_normal ⟨_, _, 5, 4, hs, rfl, rfl⟩ ?_
          refine HW.one (fuel := 1) 6 rfl (by kernel_rfl) ?_
          refine RW.storeAll T hs 1 rfl rfl rfl rfl rfl hl35 (List.all_eq_true.2 ho35) hl35 ?_
          intro w70 hs
          refine RW.nil ?_
          refine heldQ_normal ⟨_, _, 5, 4, hs, rfl, rfl⟩ ?_
          refine HW.one (fuel := 0) 7 rfl (by kernel_rfl) ?_
          refine RW.storeAll T hs 0 rfl rfl rfl rfl rfl hl37 (List.all_eq_true.2 ho37) hl37 ?_
          intro w80 hs
          refine RW.nil ?_
          refine heldQ_normal ⟨_, _, 5, 4, hs, rfl, rfl⟩ ?_
          refine HW.done (by kernel_rfl) ?_
          refine calmQ_normal ?_
          exact joinQ_meet (b7, b8, cs35, cs37, h37) ⟨rfl, rfl, rfl, rfl, trivial⟩ ⟨ha31, ha33, hq35, hq37, hs⟩
        · (refine RW.allocN T hs rfl rfl rfl rfl ?_; intro b8 w8 hs)
          refine RW.nil ?_
          refine heldQ_normal ⟨_, _, 5, 4, hs, rfl, rfl⟩ ?_
          refine HW.one (fuel := 2) 3 rfl (by kernel_rfl) ?_
          (refine RW.call T hs rfl rfl rfl (refTidyP_con (k + 1) 40 _ q _ _ hq' hcq) ?_; intro v h37 w37 hle37 hp37 hs)
          obtain ⟨cs37, rfl, hq37⟩ := hp37
          have hl37 := PlainAt.siz _ _ _ _ hq37
          have ho37 := PlainAt.one _ _ _ _ hq37
          have hp' := PlainAt.mono (k + 1) _ _ _ _ hle37 hp'
          have hq' := PlainAt.mono (k + 1) _ _ _ _ hle37 hq'
          have ha31 := ArrAt.mono (k + 1) _ _ _ _ hle37 ha31
          have ha33 := ArrAt.mono (k + 1) _ _ _ _ hle37 ha33
          have hq35 := PlainAt.mono (k + 1) _ _ _ _ hle37 hq35
          refine RW.nil ?_
          refine heldQ_normal ⟨_, _, 5, 4, hs, rfl, rfl⟩ ?_
          refine HW.one (fuel := 1) 6 rfl (by kernel_rfl) ?_
          refine RW.storeAll T hs 1 rfl rfl rfl rfl rfl hl35 (List.all_eq_true.2 ho35) hl35 ?_
          intro w70 hs
          refine RW.nil ?_
          refine heldQ_normal ⟨_, _, 5, 4, hs, rfl, rfl⟩ ?_
          refine HW.one (fuel := 0) 7 rfl (by kernel_rfl) ?_
          refine RW.storeAll T hs 0 rfl rfl rfl rfl rfl hl37 (List.all_eq_true.2 ho37) hl37 ?_
          intro w80 hs
          refine RW.nil ?_
          refine heldQ_normal ⟨_, _, 5, 4, hs, rfl, rfl⟩ ?_
          refine HW.done (by kernel_rfl) ?_
          refine calmQ_normal ?_
          exact joinQ_meet (b7, b8, cs35, cs37, h37) ⟨rfl, rfl, rfl, rfl, trivial⟩ ⟨ha31, ha33, hq35, hq37, hs⟩
      · (refine RW.allocN T hs rfl rfl rfl rfl ?_; intro b8 w8 hs)
        refine RW.nil ?_
        refine heldQ_normal ⟨_, _, 5, 4, hs, rfl, rfl⟩ ?_
        refine HW.one (fuel := 3) 1 rfl (by kernel_rfl) ?_
        (refine RW.call T hs rfl rfl rfl (refTidyP_con (k + 1) 40 _ p _ _ hp' hcp) ?_; intro v h35 w35 hle35 hp35 hs)
        obtain ⟨cs35, rfl, hq35⟩ := hp35
        have hl35 := PlainAt.siz _ _ _ _ hq35
        have ho35 := PlainAt.one _ _ _ _ hq35
        have hp' := PlainAt.mono (k + 1) _ _ _ _ hle35 hp'
        have hq' := PlainAt.mono (k + 1) _ _ _ _ hle35 hq'
        have ha31 := ArrAt.mono (k + 1) _ _ _ _ hle35 ha31
        have ha33 := ArrAt.mono (k + 1) _ _ _ _ hle35 ha33
        refine RW.nil ?_
        refine heldQ_normal ⟨_, _, 5, 4, hs, rfl, rfl⟩ ?_
        refine HW.one (fuel := 2) 3 rfl (by kernel_rfl) ?_
        (refine RW.call T hs rfl rfl rfl (refTidyP_con (k + 1) 40 _ q _ _ hq' hcq) ?_; intro v h37 w37 hle37 hp37 hs)
        obtain ⟨cs37, rfl, hq37⟩ := hp37
        have hl37 := PlainAt.siz _ _ _ _ hq37
        have ho37 := PlainAt.one _ _ _ _ hq37
        have hp' := PlainAt.mono (k + 1) _ _ _ _ hle37 hp'
        have hq' := PlainAt.mono (k + 1) _ _ _ _ hle37 hq'
        have ha31 := ArrAt.mono (k + 1) _ _ _ _ hle37 ha31
        have ha33 := ArrAt.mono (k + 1) _ _ _ _ hle37 ha33
        have hq35 := PlainAt.mono (k + 1) _ _ _ _ hle37 hq35
        refine RW.nil ?_
        refine heldQ_normal ⟨_, _, 5, 4, hs, rfl, rfl⟩ ?_
        refine HW.one (fuel := 1) 6 rfl (by kernel_rfl) ?_
        refine RW.storeAll T hs 1 rfl rfl rfl rfl rfl hl35 (List.all_eq_true.2 ho35) hl35 ?_
        intro w70 hs
        refine RW.nil ?_
        refine heldQ_normal ⟨_, _, 5, 4, hs, rfl, rfl⟩ ?_
        refine HW.one (fuel := 0) 7 rfl (by kernel_rfl) ?_
        refine RW.storeAll T hs 0 rfl rfl rfl rfl rfl hl37 (List.all_eq_true.2 ho37) hl37 ?_
        intro w80 hs
        refine RW.nil ?_
        refine heldQ_normal ⟨_, _, 5, 4, hs, rfl, rfl⟩ ?_
        refine HW.done (by kernel_rfl) ?_
        refine calmQ_normal ?_
        exact joinQ_meet (b7, b8, cs35, cs37, h37) ⟨rfl, rfl, rfl, rfl, trivial⟩ ⟨ha31, ha33, hq35, hq37, hs⟩
    · (refine RW.allocN T hs rfl rfl rfl rfl ?_; intro b8 w8 hs)
      refine RW.nil ?_
      refine heldQ_normal ⟨_, _, 4, 3, hs, rfl, rfl⟩ ?_
      refine HW.two (fuel := 4) 1 4 rfl rfl (by kernel_rfl) ?_ ?_
      · (refine RW.call T hs rfl rfl rfl (refTidyP_con (k + 1) 40 _ p _ _ hp' hcp) ?_; intro v h35 w35 hle35 hp35 hs)
        obtain ⟨cs35, rfl, hq35⟩ := hp35
        have hl35 := PlainAt.siz _ _ _ _ hq35
        have ho35 := PlainAt.one _ _ _ _ hq35
        have hp' := PlainAt.mono (k + 1) _ _ _ _ hle35 hp'
        have hq' := PlainAt.mono (k + 1) _ _ _ _ hle35 hq'
        have ha31 := ArrAt.mono (k + 1) _ _ _ _ hle35 ha31
        have ha33 := ArrAt.mono (k + 1) _ _ _ _ hle35 ha33
        refine RW.nil ?_
        refine heldQ_normal ⟨_, _, 4, 3, hs, rfl, rfl⟩ ?_
        refine HW.two (fuel := 3) 3 4 rfl rfl (by kernel_rfl) ?_ ?_
        · (refine RW.call T hs rfl rfl rfl (refTidyP_con (k + 1) 40 _ q _ _ hq' hcq) ?_; intro v h37 w37 hle37 hp37 hs)
          obtain ⟨cs37, rfl, hq37⟩ := hp37
          have hl37 := PlainAt.siz _ _ _ _ hq37
          have ho37 := PlainAt.one _ _ _ _ hq37
          have hp' := PlainAt.mono (k + 1) _ _ _ _ hle37 hp'
          have hq' := PlainAt.mono (k + 1) _ _ _ _ hle37 hq'
          have ha31 := ArrAt.mono (k + 1) _ _ _ _ hle37 ha31
          have ha33 := ArrAt.mono (k + 1) _ _ _ _ hle37 ha33
          have hq35 := PlainAt.mono (k + 1) _ _ _ _ hle37 hq35
          refine RW.nil ?_
          refine heldQ_normal ⟨_, _, 4, 3, hs, rfl, rfl⟩ ?_
          refine HW.one (fuel := 2) 4 rfl (by kernel_rfl) ?_
          (refine RW.allocN T hs rfl rfl rfl rfl ?_; intro b7 w7 hs)
          refine RW.nil ?_
          refine heldQ_normal ⟨_, _, 5, 4, hs, rfl, rfl⟩ ?_
          refine HW.one (fuel := 1) 6 rfl (by kernel_rfl) ?_
          refine RW.storeAll T hs 0 rfl rfl rfl rfl rfl hl35 (List.all_eq_true.2 ho35) hl35 ?_
          intro w70 hs
          refine RW.nil ?_
          refine heldQ_normal ⟨_, _, 5, 4, hs, rfl, rfl⟩ ?_
          refine HW.one (fuel := 0) 7 rfl (by kernel_rfl) ?_
          refine RW.storeAll T hs 1 rfl rfl rfl rfl rfl hl37 (List.all_eq_true.2 ho37) hl37 ?_
          intro w80 hs
          refine RW.nil ?_
          refine heldQ_normal ⟨_, _, 5, 4, hs, rfl, rfl⟩ ?_
          refine HW.done (by kernel_rfl) ?_
          refine calmQ_normal ?_
          have hs := hs.swap
          exact joinQ_meet (b7, b8, cs35, cs37, h37) ⟨rfl, rfl, rfl, rfl, trivial⟩ ⟨ha31, ha33, hq35, hq37, hs⟩
        · (refine RW.allocN T hs rfl rfl rfl rfl ?_; intro b7 w7 hs)
          refine RW.nil ?_
          refine heldQ_normal ⟨_, _, 5, 4, hs, rfl, rfl⟩ ?_
          refine HW.one (fuel := 2) 3 rfl (by kernel_rfl) ?_
          (refine RW.call T hs rfl rfl rfl (refTidyP_con (k + 1) 40 _ q _ _ hq' hcq) ?_; intro v h37 w37 hle37 hp37 hs)
          obtain ⟨cs37, rfl, hq37⟩ := hp37
          have hl37 := PlainAt.siz _ _ _ _ hq37
          have ho37 := PlainAt.one _ _ _ _ hq37
          have hp' := PlainAt.mono (k + 1) _ _ _ _ hle37 hp'
          have hq' := PlainAt.mono (k + 1) _ _ _ _ hle37 hq'
          have ha31 := ArrAt.mono (k + 1) _ _ _ _ hle37 ha31
          have ha33 := ArrAt.mono (k + 1) _ _ _ _ hle37 ha33
          have hq35 := PlainAt.mono (k + 1) _ _ _ _ hle37 hq35
          refine RW.nil ?_
          refine heldQ_normal ⟨_, _, 5, 4, hs, rfl, rfl⟩ ?_
          refine HW.one (fuel := 1) 6 rfl (by kernel_rfl) ?_
          refine RW.storeAll T hs 0 rfl rfl rfl rfl rfl hl35 (List.all_eq_true.2 ho35) hl35 ?_
          intro w70 hs
          refine RW.nil ?_
          refine heldQ_normal ⟨_, _, 5, 4, hs, rfl, rfl⟩ ?_
          refine HW.one (fuel := 0) 7 rfl (by kernel_rfl) ?_
          refine RW.storeAll T hs 1 rfl rfl rfl rfl rfl hl37 (List.all_eq_true.2 ho37) hl37 ?_
          intro w80 hs
          refine RW.nil ?_
          refine heldQ_normal ⟨_, _, 5, 4, hs, rfl, rfl⟩ ?_
          refine HW.done (by kernel_rfl) ?_
          refine calmQ_normal ?_
          have hs := hs.swap
          exact joinQ_meet (b7, b8, cs35, cs37, h37) ⟨rfl, rfl, rfl, rfl, trivial⟩ ⟨ha31, ha33, hq35, hq37, hs⟩
      · (refine RW.allocN T hs rfl rfl rfl rfl ?_; intro b7 w7 hs)
        refine RW.nil ?_
        refine heldQ_normal ⟨_, _, 5, 4, hs, rfl, rfl⟩ ?_
        refine HW.one (fuel := 3) 1 rfl (by kernel_rfl) ?_
        (refine RW.call T hs rfl rfl rfl (refTidyP_con (k + 1) 40 _ p _ _ hp' hcp) ?_; intro v h35 w35 hle35 hp35 hs)
        obtain ⟨cs35, rfl, hq35⟩ := hp35
        have hl35 := PlainAt.siz _ _ _ _ hq35
        have ho35 := PlainAt.one _ _ _ _ hq35
        have hp' := PlainAt.mono (k + 1) _ _ _ _ hle35 hp'
        have hq' := PlainAt.mono (k + 1) _ _ _ _ hle35 hq'
        have ha31 := ArrAt.mono (k + 1) _ _ _ _ hle35 ha31
        have ha33 := ArrAt.mono (k + 1) _ _ _ _ hle35 ha33
        refine RW.nil ?_
        refine heldQ_normal ⟨_, _, 5, 4, hs, rfl, rfl⟩ ?_
        refine HW.one (fuel := 2) 3 rfl (by kernel_rfl) ?_
        (refine RW.call T hs rfl rfl rfl (refTidyP_con (k + 1) 40 _ q _ _ hq' hcq) ?_; intro v h37 w37 hle37 hp37 hs)
        obtain ⟨cs37, rfl, hq37⟩ := hp37
        have hl37 := PlainAt.siz _ _ _ _ hq37
        have ho37 := PlainAt.one _ _ _ _ hq37
        have hp' := PlainAt.mono (k + 1) _ _ _ _ hle37 hp'
        have hq' := PlainAt.mono (k + 1) _ _ _ _ hle37 hq'
        have ha31 := ArrAt.mono (k + 1) _ _ _ _ hle37 ha31
        have ha33 := ArrAt.mono (k + 1) _ _ _ _ hle37 ha33
        have hq35 := PlainAt.mono (k + 1) _ _ _ _ hle37 hq35
        refine RW.nil ?_
        refine heldQ_normal ⟨_, _, 5, 4, hs, rfl, rfl⟩ ?_
        refine HW.one (fuel := 1) 6 rfl (by kernel_rfl) ?_
        refine RW.storeAll T hs 0 rfl rfl rfl rfl rfl hl35 (List.all_eq_true.2 ho35) hl35 ?_
        intro w70 hs
        refine RW.nil ?_
        refine heldQ_normal ⟨_, _, 5, 4, hs, rfl, rfl⟩ ?_
        refine HW.one (fuel := 0) 7 rfl (by kernel_rfl) ?_
        refine RW.storeAll T hs 1 rfl rfl rfl rfl rfl hl37 (List.all_eq_true.2 ho37) hl37 ?_
        intro w80 hs
        refine RW.nil ?_
        refine heldQ_normal ⟨_, _, 5, 4, hs, rfl, rfl⟩ ?_
        refine HW.done (by kernel_rfl) ?_
        refine calmQ_normal ?_
        have hs := hs.swap
        exact joinQ_meet (b7, b8, cs35, cs37, h37) ⟨rfl, rfl, rfl, rfl, trivial⟩ ⟨ha31, ha33, hq35, hq37, hs⟩
  rintro ⟨b7, b8, cs35, cs37, h37⟩ w37 ⟨ha31, ha33, hq35, hq37, hs⟩
  dsimp only at ha31 ha33 hq35 hq37 hs ⊢
  have hq35' := hq35
  have hq37' := hq37
  have htp := tidy_tdy (k + 1) 40 p _ _ hp' hcp
  have htq := tidy_tdy (k + 1) 40 q _ _ hq' hcq
  have hip := arr_items k 40 p hcp
  have hiq := arr_items k 40 q hcq
  have hkp := arr_kind k 40 p hcp
  have hkq := arr_kind k 40 q hcq
  rw [hk5] at hkp
  rw [hk6] at hkq
  have hpp := plain_arr (k + 1) 40 p hcp
  have hpq := plain_arr (k + 1) 40 q hcq
  have hsp := good_sml (k + 1) 40 _ (good_arr (k + 1) 40 p hcp)
  have hsq := good_sml (k + 1) 40 _ (good_arr (k + 1) 40 q hcq)
  generalize tidy (k + 1) p = x at *
  generalize tidy (k + 1) q = y at *
  obtain ⟨s7, it7, rfl, hl7, hi7⟩ := hq35
  obtain ⟨ad7, cp7, rfl, _⟩ := hl7
  obtain ⟨ad8, cp8, xs8, rfl, hS8, hA8⟩ := hi7
  obtain ⟨s9, it9, rfl, hl9, hi9⟩ := hq37
  obtain ⟨ad9, cp9, rfl, _⟩ := hl9
  obtain ⟨ad10, cp10, xs10, rfl, hS10, hA10⟩ := hi9
  have hq35 := hq35'
  have hq37 := hq37'
  repeat (first | (refine A0 ?_; first | refine R1 rfl rfl ?_ | refine R2 rfl rfl ?_ | (refine A1 ?_; first | refine D3 rfl rfl ?_ | refine D4 rfl rfl rfl rfl ?_ | refine D5 rfl rfl rfl ?_ | refine E6 ?_ rfl rfl | refine E7 ?_ rfl rfl) | refine Zb ?_ rfl | (refine A3 ?_; first | refine R34 T hs 0 rfl rfl rfl rfl rfl rfl ?_ | refine R34 T hs 1 rfl rfl rfl rfl rfl rfl ?_ | refine Zk ?_ rfl) | refine Zi ?_ rfl | refine Zq ?_ rfl | refine A8 ?_) | (refine B0 ?_; first | refine B1 ?_ | refine B2 ?_ | refine B3 ?_ | refine B4 ?_ | refine B5 ?_ | refine B6 ?_ | refine B7 rfl ?_ | refine B8 rfl ?_ | refine E8 ?_ rfl | refine E9 ?_ rfl) | refine C1 ?_ | refine C2 ?_ | refine C3 ?_ | refine C4 ?_ | refine C5 ?_ | refine C6 ?_ | refine C7 ?_ | refine C8 ?_ | refine C9 ?_ | refine D1 rfl ?_ | refine D2 rfl ?_)
  (refine RW.call T hs rfl rfl rfl (refSame_con (k + 1) _ _ x y _ _ hq35 hq37 htp htq) ?_; intro v h40 w40 hle40 hp40 hs)
  subst hp40
  have ha31 := ArrAt.mono (k + 1) _ _ _ _ hle40 ha31
  have ha33 := ArrAt.mono (k + 1) _ _ _ _ hle40 ha33
  have hq35 := PlainAt.mono (k + 1) _ _ _ _ hle40 hq35
  have hq37 := PlainAt.mono (k + 1) _ _ _ _ hle40 hq37
  have hS8 := hS8.mono hle40
  have hS10 := hS10.mono hle40
  have hva : VecAt (ArrAt k) h40 (vecCells k5 wv5 nv5 sm5 il5 fl5 ch5 bx5) (ArrD.vec (α := AD k) (arr (k + 1) p)) := by
    obtain ⟨s, vc, e, _, hv⟩ := ha31
    cases e
    exact hv
  have hvb : VecAt (ArrAt k) h40 (vecCells k6 wv6 nv6 sm6 il6 fl6 ch6 bx6) (ArrD.vec (α := AD k) (arr (k + 1) q)) := by
    obtain ⟨s, vc, e, _, hv⟩ := ha33
    cases e
    exact hv
  repeat (first | (refine A0 ?_; first | refine R1 rfl rfl ?_ | refine R2 rfl rfl ?_ | (refine A1 ?_; first | refine D3 rfl rfl ?_ | refine D4 rfl rfl rfl rfl ?_ | refine D5 rfl rfl rfl ?_ | refine E6 ?_ rfl rfl | refine E7 ?_ rfl rfl) | refine Zb ?_ rfl | (refine A3 ?_; first | refine R34 T hs 0 rfl rfl rfl rfl rfl rfl ?_ | refine R34 T hs 1 rfl rfl rfl rfl rfl rfl ?_ | refine Zk ?_ rfl) | refine Zi ?_ rfl | refine Zq ?_ rfl | refine A8 ?_) | (refine B0 ?_; first | refine B1 ?_ | refine B2 ?_ | refine B3 ?_ | refine B4 ?_ | refine B5 ?_ | refine B6 ?_ | refine B7 rfl ?_ | refine B8 rfl ?_ | refine E8 ?_ rfl | refine E9 ?_ rfl) | refine C1 ?_ | refine C2 ?_ | refine C3 ?_ | refine C4 ?_ | refine C5 ?_ | refine C6 ?_ | refine C7 ?_ | refine C8 ?_ | refine C9 ?_ | refine D1 rfl ?_ | refine D2 rfl ?_)
  refine CW.meet (fun _ : Unit => [(5, .pointer (some ⟨b5, 0, none⟩)), (6, .pointer (some ⟨b6, 0, none⟩)), (7, .pointer (some ⟨b7, 0, none⟩)), (8, .pointer (some ⟨b8, 0, none⟩)), (70, .bool false)]) (fun _ w' => Sees w h h40 (⟨some ⟨b8, 0, none⟩, 1, 1, 50, 3, [.slice ad9 (PlainD.shape (α := PD k) y).length cp9, .slice ad10 (PlainD.items (α := PD k) y).length cp10, .int .i64 (PlainD.fill (α := PD k) y)]⟩ :: ⟨some ⟨b7, 0, none⟩, 1, 1, 50, 3, [.slice ad7 (PlainD.shape (α := PD k) x).length cp7, .slice ad8 (PlainD.items (α := PD k) x).length cp8, .int .i64 (PlainD.fill (α := PD k) x)]⟩ :: (⟨some ⟨b6, 0, none⟩, 1, 1, 63, 9, (.slice ad6 n6 cp6 :: vecCells k6 wv6 nv6 sm6 il6 fl6 ch6 bx6)⟩ :: ⟨some ⟨b5, 0, none⟩, 1, 1, 63, 9, (.slice ad5 n5 cp5 :: vecCells k5 wv5 nv5 sm5 il5 fl5 ch5 bx5)⟩ :: [⟨some ⟨b2, 0, none⟩, 1, 1, 50, 3, [.slice ad3 q.shape.length cp3, .slice ad4 q.items.length cp4, .int .i64 q.fill]⟩, ⟨some ⟨b1, 0, none⟩, 1, 1, 50, 3, [.slice ad p.shape.length cp, .slice ad2 p.items.length cp2, .int .i64 p.fill]⟩])) w') ?_ ?_
  · (refine CW.regionQ T hs ?_ (by kernel_rfl))
    repeat (first | with_reducible refine QW.nil ?_ | refine Qe ?_ rfl | refine QW.guardYes rfl rfl ?_ | refine QW.guardNo rfl rfl rfl rfl ?_ | refine QW.guardUndef rfl rfl rfl ?_ | (refine QW.gdY rfl rfl ?_ ?_; omega) | (refine QW.gdN rfl rfl ?_ ?_; omega))
    refine QW.call T hs rfl rfl rfl (fun w => sameV_con (k + 1) _ _ _ _ w _ ha31 ha33 hsp hsq) ?_
    rw [hpp, hpq]
    repeat (first | with_reducible refine QW.nil ?_ | refine Qe ?_ rfl | refine QW.guardYes rfl rfl ?_ | refine QW.guardNo rfl rfl rfl rfl ?_ | refine QW.guardUndef rfl rfl rfl ?_ | (refine QW.gdY rfl rfl ?_ ?_; omega) | (refine QW.gdN rfl rfl ?_ ?_; omega))
    refine QW.val (fun _ _ => Y.neqBF T rfl rfl rfl rfl) rfl ?_
    repeat (first | with_reducible refine QW.nil ?_ | refine Qe ?_ rfl | refine QW.guardYes rfl rfl ?_ | refine QW.guardNo rfl rfl rfl rfl ?_ | refine QW.guardUndef rfl rfl rfl ?_ | (refine QW.gdY rfl rfl ?_ ?_; omega) | (refine QW.gdN rfl rfl ?_ ?_; omega))
    refine QW.call T hs rfl rfl rfl (fun w => sameV_con (k + 1) _ _ _ _ w _ ha33 ha31 hsq hsp) ?_
    rw [hpp, hpq]
    repeat (first | with_reducible refine QW.nil ?_ | refine Qe ?_ rfl | refine QW.guardYes rfl rfl ?_ | refine QW.guardNo rfl rfl rfl rfl ?_ | refine QW.guardUndef rfl rfl rfl ?_ | (refine QW.gdY rfl rfl ?_ ?_; omega) | (refine QW.gdN rfl rfl ?_ ?_; omega))
    refine QW.val (fun _ _ => Y.neqBF T rfl rfl rfl (eqB_comm y x)) rfl ?_
    repeat (first | with_reducible refine QW.nil ?_ | refine Qe ?_ rfl | refine QW.guardYes rfl rfl ?_ | refine QW.guardNo rfl rfl rfl rfl ?_ | refine QW.guardUndef rfl rfl rfl ?_ | (refine QW.gdY rfl rfl ?_ ?_; omega) | (refine QW.gdN rfl rfl ?_ ?_; omega))
    refine QW.call T hs rfl rfl rfl (fun w => sameV_con (k + 1) _ _ _ _ w _ ha31 ha31 hsp hsp) ?_
    rw [hpp, eqB_of (show x = x from rfl)]
    repeat (first | with_reducible refine QW.nil ?_ | refine Qe ?_ rfl | refine QW.guardYes rfl rfl ?_ | refine QW.guardNo rfl rfl rfl rfl ?_ | refine QW.guardUndef rfl rfl rfl ?_ | (refine QW.gdY rfl rfl ?_ ?_; omega) | (refine QW.gdN rfl rfl ?_ ?_; omega))
    by_cases hxy : x = y
    · rw [eqB_of hxy]
      repeat (first | with_reducible refine QW.nil ?_ | refine Qe ?_ rfl | refine QW.guardYes rfl rfl ?_ | refine QW.guardNo rfl rfl rfl rfl ?_ | refine QW.guardUndef rfl rfl rfl ?_ | (refine QW.gdY rfl rfl ?_ ?_; omega) | (refine QW.gdN rfl rfl ?_ ?_; omega))
      refine QW.call T hs rfl rfl rfl (fun w => vecKind_con (R := ArrAt k) _ _ w _ hva) ?_
      repeat (first | with_reducible refine QW.nil ?_ | refine Qe ?_ rfl | refine QW.guardYes rfl rfl ?_ | refine QW.guardNo rfl rfl rfl rfl ?_ | refine QW.guardUndef rfl rfl rfl ?_ | (refine QW.gdY rfl rfl ?_ ?_; omega) | (refine QW.gdN rfl rfl ?_ ?_; omega))
      refine QW.call T hs rfl rfl rfl (fun w => vecKind_con (R := ArrAt k) _ _ w _ hvb) ?_
      have hkk : (ArrD.vec (α := AD k) (arr (k + 1) p)).kind = (ArrD.vec (α := AD k) (arr (k + 1) q)).kind := by rw [hk5, hk6, hkp, hkq, hxy]
      refine QW.guardYes rfl rfl ?_
      refine QW.val (fun _ _ => Y.neqF rfl rfl hkk) rfl ?_
      repeat (first | with_reducible refine QW.nil ?_ | refine Qe ?_ rfl | refine QW.guardYes rfl rfl ?_ | refine QW.guardNo rfl rfl rfl rfl ?_ | refine QW.guardUndef rfl rfl rfl ?_ | (refine QW.gdY rfl rfl ?_ ?_; omega) | (refine QW.gdN rfl rfl ?_ ?_; omega))
      intro w41 hs
      exact joinQ_meet () ⟨rfl, rfl, rfl, rfl, rfl, trivial⟩ hs
    · rw [eqB_not hxy]
      repeat (first | with_reducible refine QW.nil ?_ | refine Qe ?_ rfl | refine QW.guardYes rfl rfl ?_ | refine QW.guardNo rfl rfl rfl rfl ?_ | refine QW.guardUndef rfl rfl rfl ?_ | (refine QW.gdY rfl rfl ?_ ?_; omega) | (refine QW.gdN rfl rfl ?_ ?_; omega))
      intro w41 hs
      exact joinQ_meet () ⟨rfl, rfl, rfl, rfl, rfl, trivial⟩ hs
  rintro _ w41 hs
  repeat (first | (refine A0 ?_; first | refine R1 rfl rfl ?_ | refine R2 rfl rfl ?_ | (refine A1 ?_; first | refine D3 rfl rfl ?_ | refine D4 rfl rfl rfl rfl ?_ | refine D5 rfl rfl rfl ?_ | refine E6 ?_ rfl rfl | refine E7 ?_ rfl rfl) | refine Zb ?_ rfl | (refine A3 ?_; first | refine R34 T hs 0 rfl rfl rfl rfl rfl rfl ?_ | refine R34 T hs 1 rfl rfl rfl rfl rfl rfl ?_ | refine Zk ?_ rfl) | refine Zi ?_ rfl | refine Zq ?_ rfl | refine A8 ?_) | (refine B0 ?_; first | refine B1 ?_ | refine B2 ?_ | refine B3 ?_ | refine B4 ?_ | refine B5 ?_ | refine B6 ?_ | refine B7 rfl ?_ | refine B8 rfl ?_ | refine E8 ?_ rfl | refine E9 ?_ rfl) | refine C1 ?_ | refine C2 ?_ | refine C3 ?_ | refine C4 ?_ | refine C5 ?_ | refine C6 ?_ | refine C7 ?_ | refine C8 ?_ | refine C9 ?_ | refine D1 rfl ?_ | refine D2 rfl ?_)
  have hln : (ArrD.vec (α := AD k) (arr (k + 1) p)).len = (PlainD.items (α := PD k) x).length := by rw [← hip, itemsV_len (plain k) hva]
  have hlm : (ArrD.vec (α := AD k) (arr (k + 1) q)).len = (PlainD.items (α := PD k) y).length := by rw [← hiq, itemsV_len (plain k) hvb]
  have hx63 : (PlainD.items (α := PD k) x).length ≤ 9223372036854775807 := by have := hS8.caps; omega
  refine CW.loop (fun i : Nat => [(5, .pointer (some ⟨b5, 0, none⟩)), (6, .pointer (some ⟨b6, 0, none⟩)), (7, .pointer (some ⟨b7, 0, none⟩)), (8, .pointer (some ⟨b8, 0, none⟩)), (10, .int .i64 i)]) (fun i w' => i ≤ (PlainD.items (α := PD k) x).length ∧ Sees w h h40 (⟨some ⟨b8, 0, none⟩, 1, 1, 50, 3, [.slice ad9 (PlainD.shape (α := PD k) y).length cp9, .slice ad10 (PlainD.items (α := PD k) y).length cp10, .int .i64 (PlainD.fill (α := PD k) y)]⟩ :: ⟨some ⟨b7, 0, none⟩, 1, 1, 50, 3, [.slice ad7 (PlainD.shape (α := PD k) x).length cp7, .slice ad8 (PlainD.items (α := PD k) x).length cp8, .int .i64 (PlainD.fill (α := PD k) x)]⟩ :: (⟨some ⟨b6, 0, none⟩, 1, 1, 63, 9, (.slice ad6 n6 cp6 :: vecCells k6 wv6 nv6 sm6 il6 fl6 ch6 bx6)⟩ :: ⟨some ⟨b5, 0, none⟩, 1, 1, 63, 9, (.slice ad5 n5 cp5 :: vecCells k5 wv5 nv5 sm5 il5 fl5 ch5 bx5)⟩ :: [⟨some ⟨b2, 0, none⟩, 1, 1, 50, 3, [.slice ad3 q.shape.length cp3, .slice ad4 q.items.length cp4, .int .i64 q.fill]⟩, ⟨some ⟨b1, 0, none⟩, 1, 1, 50, 3, [.slice ad p.shape.length cp, .slice ad2 p.items.length cp2, .int .i64 p.fill]⟩])) w') (fun i => (PlainD.items (α := PD k) x).length - i) 0 ⟨rfl, rfl, rfl, rfl, rfl, trivial⟩ ⟨by omega, hs⟩ ?_
  rintro i w42 ⟨hi, hs⟩
  by_cases hlt : i < (PlainD.items (α := PD k) x).length
  · by_cases hlt2 : i < (PlainD.items (α := PD k) y).length
    · obtain ⟨u1, hu1, hl1, hR1⟩ := hA8.elem i hlt
      obtain ⟨u2, hu2, hl2, hR2⟩ := hA10.elem i hlt2
      have hR1 := ItemAt.mono (PlainAt.mono k) _ _ _ _ hle40 hR1
      have hR2 := ItemAt.mono (PlainAt.mono k) _ _ _ _ hle40 hR2
      have q1 := htp _ (List.getElem_mem hlt)
      have q2 := htq _ (List.getElem_mem hlt2)
      have hgx : (PlainD.items (α := PD k) x).getD i noItem = (PlainD.items (α := PD k) x)[i] := by rw [List.getD_eq_getElem?_getD, List.getElem?_eq_getElem hlt]; rfl
      have hgy : (PlainD.items (α := PD k) y).getD i noItem = (PlainD.items (α := PD k) y)[i] := by rw [List.getD_eq_getElem?_getD, List.getElem?_eq_getElem hlt2]; rfl
      repeat (first | (refine A0 ?_; first | refine R1 rfl rfl ?_ | refine R2 rfl rfl ?_ | (refine A1 ?_; first | refine D3 rfl rfl ?_ | refine D4 rfl rfl rfl rfl ?_ | refine D5 rfl rfl rfl ?_ | refine E6 ?_ rfl rfl | refine E7 ?_ rfl rfl) | refine Zb ?_ rfl | (refine A3 ?_; first | refine R34 T hs 0 rfl rfl rfl rfl rfl rfl ?_ | refine R34 T hs 1 rfl rfl rfl rfl rfl rfl ?_ | refine Zk ?_ rfl) | refine Zi ?_ rfl | refine Zq ?_ rfl | refine A8 ?_) | (refine B0 ?_; first | refine B1 ?_ | refine B2 ?_ | refine B3 ?_ | refine B4 ?_ | refine B5 ?_ | refine B6 ?_ | refine B7 rfl ?_ | refine B8 rfl ?_ | refine E8 ?_ rfl | refine E9 ?_ rfl) | refine C1 ?_ | refine C2 ?_ | refine C3 ?_ | refine C4 ?_ | refine C5 ?_ | refine C6 ?_ | refine C7 ?_ | refine C8 ?_ | refine C9 ?_ | refine D1 rfl ?_ | refine D2 rfl ?_)
      (refine CW.regionQ T hs ?_ (by kernel_rfl))
      repeat (first | with_reducible refine QW.nil ?_ | refine Qe ?_ rfl | refine QW.guardYes rfl rfl ?_ | refine QW.guardNo rfl rfl rfl rfl ?_ | refine QW.guardUndef rfl rfl rfl ?_ | (refine QW.gdY rfl rfl ?_ ?_; omega) | (refine QW.gdN rfl rfl ?_ ?_; omega))
      refine QW.call T hs rfl rfl rfl (fun w => alikeV_con k _ _ _ _ i i w _ hva hvb (by omega) (by omega) hsp.2.2 hsq.2.2) ?_
      rw [hip, hiq, hgx, hgy]
      repeat (first | with_reducible refine QW.nil ?_ | refine Qe ?_ rfl | refine QW.guardYes rfl rfl ?_ | refine QW.guardNo rfl rfl rfl rfl ?_ | refine QW.guardUndef rfl rfl rfl ?_ | (refine QW.gdY rfl rfl ?_ ?_; omega) | (refine QW.gdN rfl rfl ?_ ?_; omega))
      refine QW.call T hs rfl rfl rfl (fun w => refItem_con k _ _ _ _ w _ hR1 hR2 q1 q2) ?_
      refine QW.val (fun _ _ => Y.neqBF T rfl rfl rfl rfl) rfl ?_
      repeat (first | with_reducible refine QW.nil ?_ | refine Qe ?_ rfl | refine QW.guardYes rfl rfl ?_ | refine QW.guardNo rfl rfl rfl rfl ?_ | refine QW.guardUndef rfl rfl rfl ?_ | (refine QW.gdY rfl rfl ?_ ?_; omega) | (refine QW.gdN rfl rfl ?_ ?_; omega))
      intro w43 hs
      repeat (first | (refine A0 ?_; first | refine R1 rfl rfl ?_ | refine R2 rfl rfl ?_ | (refine A1 ?_; first | refine D3 rfl rfl ?_ | refine D4 rfl rfl rfl rfl ?_ | refine D5 rfl rfl rfl ?_ | refine E6 ?_ rfl rfl | refine E7 ?_ rfl rfl) | refine Zb ?_ rfl | (refine A3 ?_; first | refine R34 T hs 0 rfl rfl rfl rfl rfl rfl ?_ | refine R34 T hs 1 rfl rfl rfl rfl rfl rfl ?_ | refine Zk ?_ rfl) | refine Zi ?_ rfl | refine Zq ?_ rfl | refine A8 ?_) | (refine B0 ?_; first | refine B1 ?_ | refine B2 ?_ | refine B3 ?_ | refine B4 ?_ | refine B5 ?_ | refine B6 ?_ | refine B7 rfl ?_ | refine B8 rfl ?_ | refine E8 ?_ rfl | refine E9 ?_ rfl) | refine C1 ?_ | refine C2 ?_ | refine C3 ?_ | refine C4 ?_ | refine C5 ?_ | refine C6 ?_ | refine C7 ?_ | refine C8 ?_ | refine C9 ?_ | refine D1 rfl ?_ | refine D2 rfl ?_)
      exact loopQ_round (i + 1) ⟨rfl, rfl, rfl, rfl, rfl, trivial⟩ ⟨by omega, hs⟩ (by omega)
    · repeat (first | (refine A0 ?_; first | refine R1 rfl rfl ?_ | refine R2 rfl rfl ?_ | (refine A1 ?_; first | refine D3 rfl rfl ?_ | refine D4 rfl rfl rfl rfl ?_ | refine D5 rfl rfl rfl ?_ | refine E6 ?_ rfl rfl | refine E7 ?_ rfl rfl) | refine Zb ?_ rfl | (refine A3 ?_; first | refine R34 T hs 0 rfl rfl rfl rfl rfl rfl ?_ | refine R34 T hs 1 rfl rfl rfl rfl rfl rfl ?_ | refine Zk ?_ rfl) | refine Zi ?_ rfl | refine Zq ?_ rfl | refine A8 ?_) | (refine B0 ?_; first | refine B1 ?_ | refine B2 ?_ | refine B3 ?_ | refine B4 ?_ | refine B5 ?_ | refine B6 ?_ | refine B7 rfl ?_ | refine B8 rfl ?_ | refine E8 ?_ rfl | refine E9 ?_ rfl) | refine C1 ?_ | refine C2 ?_ | refine C3 ?_ | refine C4 ?_ | refine C5 ?_ | refine C6 ?_ | refine C7 ?_ | refine C8 ?_ | refine C9 ?_ | refine D1 rfl ?_ | refine D2 rfl ?_)
      (refine RW.call T hs rfl rfl rfl (awake07_con _ _) ?_; intro v h43 w43 hle43 hp43 hs)
      subst hp43
      repeat (first | (refine A0 ?_; first | refine R1 rfl rfl ?_ | refine R2 rfl rfl ?_ | (refine A1 ?_; first | refine D3 rfl rfl ?_ | refine D4 rfl rfl rfl rfl ?_ | refine D5 rfl rfl rfl ?_ | refine E6 ?_ rfl rfl | refine E7 ?_ rfl rfl) | refine Zb ?_ rfl | (refine A3 ?_; first | refine R34 T hs 0 rfl rfl rfl rfl rfl rfl ?_ | refine R34 T hs 1 rfl rfl rfl rfl rfl rfl ?_ | refine Zk ?_ rfl) | refine Zi ?_ rfl | refine Zq ?_ rfl | refine A8 ?_) | (refine B0 ?_; first | refine B1 ?_ | refine B2 ?_ | refine B3 ?_ | refine B4 ?_ | refine B5 ?_ | refine B6 ?_ | refine B7 rfl ?_ | refine B8 rfl ?_ | refine E8 ?_ rfl | refine E9 ?_ rfl) | refine C1 ?_ | refine C2 ?_ | refine C3 ?_ | refine C4 ?_ | refine C5 ?_ | refine C6 ?_ | refine C7 ?_ | refine C8 ?_ | refine C9 ?_ | refine D1 rfl ?_ | refine D2 rfl ?_)
      exact retQ_ret [_] h43 ⟨rfl, trivial⟩ hs.dropAll rfl
  · repeat (first | (refine A0 ?_; first | refine R1 rfl rfl ?_ | refine R2 rfl rfl ?_ | (refine A1 ?_; first | refine D3 rfl rfl ?_ | refine D4 rfl rfl rfl rfl ?_ | refine D5 rfl rfl rfl ?_ | refine E6 ?_ rfl rfl | refine E7 ?_ rfl rfl) | refine Zb ?_ rfl | (refine A3 ?_; first | refine R34 T hs 0 rfl rfl rfl rfl rfl rfl ?_ | refine R34 T hs 1 rfl rfl rfl rfl rfl rfl ?_ | refine Zk ?_ rfl) | refine Zi ?_ rfl | refine Zq ?_ rfl | refine A8 ?_) | (refine B0 ?_; first | refine B1 ?_ | refine B2 ?_ | refine B3 ?_ | refine B4 ?_ | refine B5 ?_ | refine B6 ?_ | refine B7 rfl ?_ | refine B8 rfl ?_ | refine E8 ?_ rfl | refine E9 ?_ rfl) | refine C1 ?_ | refine C2 ?_ | refine C3 ?_ | refine C4 ?_ | refine C5 ?_ | refine C6 ?_ | refine C7 ?_ | refine C8 ?_ | refine C9 ?_ | refine D1 rfl ?_ | refine D2 rfl ?_)
    (refine RW.call T hs rfl rfl rfl (awake07_con _ _) ?_; intro v h43 w43 hle43 hp43 hs)
    subst hp43
    repeat (first | (refine A0 ?_; first | refine R1 rfl rfl ?_ | refine R2 rfl rfl ?_ | (refine A1 ?_; first | refine D3 rfl rfl ?_ | refine D4 rfl rfl rfl rfl ?_ | refine D5 rfl rfl rfl ?_ | refine E6 ?_ rfl rfl | refine E7 ?_ rfl rfl) | refine Zb ?_ rfl | (refine A3 ?_; first | refine R34 T hs 0 rfl rfl rfl rfl rfl rfl ?_ | refine R34 T hs 1 rfl rfl rfl rfl rfl rfl ?_ | refine Zk ?_ rfl) | refine Zi ?_ rfl | refine Zq ?_ rfl | refine A8 ?_) | (refine B0 ?_; first | refine B1 ?_ | refine B2 ?_ | refine B3 ?_ | refine B4 ?_ | refine B5 ?_ | refine B6 ?_ | refine B7 rfl ?_ | refine B8 rfl ?_ | refine E8 ?_ rfl | refine E9 ?_ rfl) | refine C1 ?_ | refine C2 ?_ | refine C3 ?_ | refine C4 ?_ | refine C5 ?_ | refine C6 ?_ | refine C7 ?_ | refine C8 ?_ | refine C9 ?_ | refine D1 rfl ?_ | refine D2 rfl ?_)
    exact retQ_ret [_] h43 ⟨rfl, trivial⟩ hs.dropAll rfl
end Go.Proofs.Ythbfkhklihejiaa
