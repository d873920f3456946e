/-
  Own texts of the claim, merged: PlEb, Bg, Kj, Bj, Bk, Bl, Fe, Ff, Bm, Bn, PlEc, PlEd, PlEe, PlEf, Bo, Bp. Lemmas of the proof; no statement is proved here.
-/
import Derived.Test.YtmojpbfkpggjhaaGreatMc
/-
  Plain laws of boxes' arrays put into one: the code's array and the document's tell the same, or the same error. No statement is proved here.
-/
namespace Go.Proofs.YtmojpbfkpggjhaaGreat
open Go Go.RowKit
set_option linter.unusedVariables false
set_option linter.unusedSimpArgs false
set_option maxHeartbeats 4000000
attribute [local irreducible] CW RW QW SW HW ConM retM heldQ calmQ elemP thenQ blockQ loopQ joinQ retQ Yields Con Sl zF magR unitF truncF fwF wholeF tidySpec elemQ rankF leastN tidyW
set_option maxHeartbeats 4000000

theorem badE_rng (s : List Int) : ∀ l, badE s l = 0 ∨ badE s l = 22 ∨ badE s l = 23
  | [] => .inl rfl
  | t :: l => by
    unfold badE
    split
    · exact .inr (.inl rfl)
    · split
      · exact .inr (.inr rfl)
      · exact badE_rng s l
theorem badE_zero (s : List Int) : ∀ l, badE s l = 0 → ∀ t ∈ l, t = s
  | [], _, t, ht => nomatch ht
  | u :: l, h, t, ht => by
    unfold badE at h
    split at h
    · cases h
    · split at h
      · cases h
      · rename_i c
        rcases List.mem_cons.1 ht with e | e
        · rw [e]; exact Decidable.of_not_not c
        · exact badE_zero s l h t e
theorem prod_errA {s : List Int} (h0 : ∀ d ∈ s, 0 ≤ d) (most : Int) : (product s most).2 = 0 ∨ (product s most).2 = 26 := by
  by_cases h8 : s.length ≤ 8
  · exact prod_err h8 h0 most
  · right
    unfold product
    rw [if_pos (by omega)]
theorem sum_const_of {α : Type} (f : α → Nat) (m : Nat) : ∀ (l : List α), (∀ x ∈ l, f x = m) → (l.map f).sum = l.length * m
  | [], _ => by simp
  | x :: l, h => by
    rw [List.map_cons, List.sum_cons, h x List.mem_cons_self, sum_const_of f m l (fun y hy => h y (List.mem_cons_of_mem _ hy)), List.length_cons, Nat.add_mul, Nat.one_mul, Nat.add_comm]
/-- a box, as both tell it -/
def zp (k : Nat) (b : PD (k + 2)) : VecD (AD (k + 1)) × PlainD (PD (k + 1)) := (bv (k + 1) (arr (k + 2) b), tidy (k + 2) b)
/-- what both tell of boxes' arrays put into one -/
theorem mix_res (k : Nat) (a : ArrD (AD (k + 2))) (t : PlainD (PD (k + 2))) (Q : List (PD (k + 2))) (hsh : t.shape = a.shape) (hb : a.vec.boxes = Q.map (arr (k + 2))) (ht : bxs t = Q.map (tidy (k + 2))) (hQ : ∀ b ∈ Q, chk (k + 2) 39 b = 0 ∧ tdy (k + 2) (tidy (k + 2) b)) (hpr : product a.shape 1048576 = ((Q.length : Int), 0)) (hsum : ((a.vec.boxes.map (bv (k + 1))).map VecD.len).sum ≤ 1048576) (most : Int) (hm : most ≤ 1048576) :
    (mixS (k + 1) a most).1 = (mixR (k + 1) t most).1 ∧ ResX (k + 1) (mixS (k + 1) a most).1 (mixS (k + 1) a most).2 (mixR (k + 1) t most).2 := by
  obtain ⟨Z, hZd⟩ : ∃ Z : List (VecD (AD (k + 1)) × PlainD (PD (k + 1))), Z = Q.map (zp k) := ⟨_, rfl⟩
  have hT := fun b (hb : b ∈ Q) => tells_at k 39 b (by omega) (by omega) (hQ b hb).1 (hQ b hb).2
  have hZ : ∀ z ∈ Z, Tells k z.1 z.2.items z.2.fill := by
    intro z hz
    rw [hZd] at hz
    obtain ⟨b, hb, rfl⟩ := List.mem_map.1 hz
    exact (hT b hb).1
  have hZ1 : Z.map Prod.fst = (Q.map (arr (k + 2))).map (bv (k + 1)) := by rw [hZd, List.map_map, List.map_map]; rfl
  have hZ2 : Z.map Prod.snd = pl (Q.map (tidy (k + 2))) := by rw [hZd, List.map_map]; rfl
  have hshE : (Q.map (tidy (k + 2))).map (psh (k + 1)) = (Q.map (arr (k + 2))).map (bsh (k + 1)) := by rw [List.map_map, List.map_map]; rfl
  rw [hb] at hsum
  rw [← hZ1] at hsum
  have hj := joins_eq Z hZ
  have hgs : goodS a.shape = true := (goodS_iff _).2 (by rw [hpr])
  have hnn := ((goodS_spec _).1 hgs).2.1
  unfold mixR
  rw [ht, hshE, hsh]
  cases Q with
  | nil =>
    unfold mixS
    rw [hb]
    show (if (product (a.shape ++ [0]) most).2 ≠ 0 then ((product (a.shape ++ [0]) most).2, ⟨[], VecD.none⟩) else ((0 : Int), (⟨a.shape ++ [0], noneV 0⟩ : ArrD (AD (k + 1))))).1 = (if (0 : Int) ≠ 0 then ((0 : Int), nilP) else if (product (a.shape ++ [0]) most).2 ≠ 0 then ((product (a.shape ++ [0]) most).2, nilP) else ((0 : Int), (⟨a.shape ++ [0], [], 0⟩ : PlainD (PD (k + 1))))).1 ∧
      ResX (k + 1) (if (product (a.shape ++ [0]) most).2 ≠ 0 then ((product (a.shape ++ [0]) most).2, ⟨[], VecD.none⟩) else ((0 : Int), (⟨a.shape ++ [0], noneV 0⟩ : ArrD (AD (k + 1))))).1 (if (product (a.shape ++ [0]) most).2 ≠ 0 then ((product (a.shape ++ [0]) most).2, ⟨[], VecD.none⟩) else ((0 : Int), (⟨a.shape ++ [0], noneV 0⟩ : ArrD (AD (k + 1))))).2 (if (0 : Int) ≠ 0 then ((0 : Int), nilP) else if (product (a.shape ++ [0]) most).2 ≠ 0 then ((product (a.shape ++ [0]) most).2, nilP) else ((0 : Int), (⟨a.shape ++ [0], [], 0⟩ : PlainD (PD (k + 1))))).2
    rw [if_neg (show ¬ ((0 : Int) ≠ 0) from fun h => h rfl)]
    have hpe := prod_errA (s := a.shape ++ [0]) (fun d hd => by
      rcases List.mem_append.1 hd with h | h
      · exact hnn d h
      · rw [List.mem_singleton.1 h]; exact Int.le_refl _) most
    by_cases ep : (product (a.shape ++ [0]) most).2 = 0
    · have n1 : ¬ (product (a.shape ++ [0]) most).2 ≠ 0 := fun h => h ep
      rw [if_neg n1, if_neg n1]
      refine ⟨rfl, ?_⟩
      have hTn : Tells k (noneV 0 : VecD (AD (k + 1))) [] 0 := tells_joinL (k := k) [] (fun z hz => nomatch hz) (c := -1) rfl (by simp)
      obtain ⟨_, hp2, _, _, hn⟩ := product_fits (a.shape ++ [0]) most (product (a.shape ++ [0]) most).1 (Prod.ext rfl ep)
      rw [if_pos (List.mem_append_right _ List.mem_cons_self)] at hn
      exact hTn.shape (a.shape ++ [0]) (by rw [hp2, hn]; rfl)
    · rw [if_pos ep, if_pos ep]
      have e26 := hpe.resolve_left ep
      rw [e26]
      exact ⟨rfl, .inr ⟨.inr (.inr (.inr rfl)), rfl⟩⟩
  | cons b0 l =>
    have hS : mixS (k + 1) a most = mixL (k + 1) a.shape (bsh (k + 1) (arr (k + 2) b0)) ((b0 :: l).map (arr (k + 2))) most := by
      unfold mixS
      rw [hb]
      rfl
    rw [hS]
    unfold mixL
    have hs0 : s0R (k + 1) ((b0 :: l).map (tidy (k + 2))) = bsh (k + 1) (arr (k + 2) b0) := rfl
    rw [hs0, ← hZ1, ← hZ2]
    obtain ⟨s0, hs0e⟩ : ∃ s0, bsh (k + 1) (arr (k + 2) b0) = s0 := ⟨_, rfl⟩
    rw [hs0e]
    by_cases cb : badE s0 (((b0 :: l).map (arr (k + 2))).map (bsh (k + 1))) = 0
    rotate_left
    · rw [if_pos cb, if_pos cb]
      refine ⟨rfl, .inr ⟨?_, rfl⟩⟩
      rcases badE_rng s0 (((b0 :: l).map (arr (k + 2))).map (bsh (k + 1))) with e | e | e
      · exact absurd e cb
      · exact .inl e
      · exact .inr (.inl e)
    have n1 : ¬ badE s0 (((b0 :: l).map (arr (k + 2))).map (bsh (k + 1))) ≠ 0 := fun h => h cb
    rw [if_neg n1, if_neg n1]
    have hall : ∀ b ∈ b0 :: l, PlainD.shape (α := PD (k + 1)) b = s0 := fun b hb => badE_zero s0 _ cb _ (List.mem_map.2 ⟨arr (k + 2) b, List.mem_map.2 ⟨b, hb, rfl⟩, rfl⟩)
    have hp0 := (hT b0 List.mem_cons_self).2
    rw [hall b0 List.mem_cons_self] at hp0
    have hg0 : goodS s0 = true := (goodS_iff _).2 (by rw [hp0])
    have hpe := prod_errA (s := a.shape ++ s0) (fun d hd => by
      rcases List.mem_append.1 hd with h | h
      · exact hnn d h
      · exact ((goodS_spec _).1 hg0).2.1 d h) most
    by_cases ep : (product (a.shape ++ s0) most).2 = 0
    rotate_left
    · rw [if_pos ep, if_pos ep]
      have e26 := hpe.resolve_left ep
      rw [e26]
      exact ⟨rfl, .inr ⟨.inr (.inr (.inr rfl)), rfl⟩⟩
    have n2 : ¬ (product (a.shape ++ s0) most).2 ≠ 0 := fun h => h ep
    rw [if_neg n2, if_neg n2, hj]
    cases hjc : joinP (-1) (Z.map Prod.snd) with
    | none => exact ⟨rfl, .inr ⟨.inr (.inr (.inl rfl)), rfl⟩⟩
    | some c =>
      have HJ := tells_joinL Z hZ (hj.trans hjc) hsum
      obtain ⟨_, hp2, _, _, hn⟩ := product_fits (a.shape ++ s0) most (product (a.shape ++ s0) most).1 (Prod.ext rfl ep)
      generalize (product (a.shape ++ s0) most).1 = n at hp2 hn
      have hlen : ((joinedV c (Z.map Prod.fst)).len : Int) = n := by
        have hl1 : ((Z.map Prod.snd).flatMap (·.items)).length = (Z.map (fun z => z.2.items.length)).sum := by
          rw [List.length_flatMap, List.map_map]
          rfl
        obtain ⟨m, hmm⟩ : ∃ m, (bv (k + 1) (arr (k + 2) b0)).len = m := ⟨_, rfl⟩
        have hp0 : product s0 1048576 = ((m : Int), 0) := by rw [hp0, ← hmm]; rfl
        have hzm : ∀ z ∈ Z, z.2.items.length = m := by
          intro z hz
          rw [(hZ z hz).ln]
          rw [hZd] at hz
          obtain ⟨b, hb, rfl⟩ := List.mem_map.1 hz
          have e := (hT b hb).2
          rw [hall b hb, hp0] at e
          have e := congrArg Prod.fst e
          dsimp only at e
          have e2 : (zp k b).1.len = (ArrD.vec (α := AD (k + 1)) (arr (k + 2) b)).len := rfl
          omega
        rw [sum_const_of _ m Z hzm] at hl1
        have hzl : Z.length = (b0 :: l).length := by rw [hZd, List.length_map]
        have hln := HJ.ln
        have ha := product_good _ hgs
        rw [hpr] at ha
        have ha := congrArg Prod.fst ha
        have hq := product_good _ hg0
        rw [hp0] at hq
        have hq := congrArg Prod.fst hq
        dsimp only at ha hq
        rw [← hln, hl1, hzl, Int.natCast_mul, ha, hq, hn, pr_append]
        by_cases c1 : 0 ∈ a.shape
        · rw [if_pos c1, if_pos (List.mem_append_left _ c1), Int.zero_mul]
        · by_cases c2 : 0 ∈ s0
          · rw [if_pos c2, if_pos (List.mem_append_right _ c2), Int.mul_zero]
          · rw [if_neg c1, if_neg c2, if_neg (fun h => by rcases List.mem_append.1 h with h | h; exact c1 h; exact c2 h)]
      have hne : newE (a.shape ++ s0) (joinedV c (Z.map Prod.fst)) = 0 := by
        unfold newE
        rw [hp2, if_neg (fun h => h rfl), if_neg HJ.sh.k0, if_neg (fun h => h (by dsimp only; omega))]
      dsimp only
      rw [hne, if_pos rfl, joinedV_sq]
      exact ⟨rfl, HJ.shape (a.shape ++ s0) (by rw [hp2, hlen])⟩
end Go.Proofs.YtmojpbfkpggjhaaGreat

/-
  Contracts of what the law of Mix and Enlist calls: Mix with the level of what it answers, Depth, errors shown. No statement is proved here.
-/
namespace Go.Proofs.YtmojpbfkpggjhaaGreat
open Go Go.RowKit
set_option linter.unusedVariables false
set_option linter.unusedSimpArgs false
set_option maxHeartbeats 4000000
attribute [local irreducible] CW RW QW SW HW ConM retM heldQ calmQ elemP thenQ blockQ loopQ joinQ retQ Yields Con Sl zF magR unitF truncF fwF wholeF tidySpec elemQ rankF leastN tidyW
set_option maxHeartbeats 4000000

theorem shows28E_con {α β : Type} {R : GHeap → List Value → α → Prop} {Rq : GHeap → List Value → β → Prop} (cs cp : List Value) (p : PlainD β) (e : Int) (w : World) (h : GHeap) (he : e = 22 ∨ e = 23 ∨ e = 24 ∨ e = 26) (ha : ArrR R h cs ⟨[], VecD.none⟩) (hp : PlainR Rq h cp p) : Con Tryz.prog 27 [.agg cs.toArray, .int .i64 e, .agg cp.toArray, .int .i64 e] w h (fun _ u => u = .bool true) := by
  obtain ⟨_, vc, rfl, ⟨ad, cap, rfl, _⟩, hv⟩ := ha
  have hv' := hv
  obtain ⟨wv, nv, sm, il, fl, ch, bx, ⟨rfl, hoc⟩, _⟩ := hv
  obtain ⟨s2, it2, rfl, ⟨ad2, cp2, rfl, _⟩, ⟨ad3, cp3, xs3, rfl, _, _⟩⟩ := hp
  rcases he with rfl | rfl | rfl | rfl
  all_goals
    refine Con.of_body Tryz.func27 rfl Tryz.ntmps27 rfl rfl ?_
    intro hs
    refine Zrun ?_
    (refine RW.boxN hs rfl rfl ?_; intro b1 w1 hs)
    refine Zrun ?_
    (refine RW.boxN hs rfl rfl ?_; intro b2 w2 hs)
    refine Zerun ?_
    (refine RW.call T hs rfl rfl rfl (vecKind_con _ VecD.none _ _ hv') ?_; intro v h3 w3 hle3 hp3 hs)
    subst hp3
    refine Zerun ?_
    exact retQ_ret [_] h3 ⟨rfl, trivial⟩ hs.dropAll rfl
theorem shows28X_con (k : Nat) (cs cp : List Value) (e : Int) (a : AD (k + 1)) (p : PD (k + 1)) (w : World) (h : GHeap) (ha : ArrAt (k + 1) h cs a) (hp : PlainAt (k + 1) h cp p) (hr : ResX k e a p) : Con Tryz.prog 27 [.agg cs.toArray, .int .i64 e, .agg cp.toArray, .int .i64 e] w h (fun _ u => u = .bool true) := by
  rcases hr with ⟨rfl, h1, h2, h3⟩ | ⟨he, rfl⟩
  · exact shows28_con k cs cp a p w h ha hp h1 h2 h3
  · exact shows28E_con (α := AD k) (R := ArrAt k) (Rq := PlainAt k) cs cp p e w h he ha hp
/-! ## Mix, with the level of its answer -/
def fillP (k : Nat) (p : PD (k + 1)) : Int := PlainD.fill (α := PD k) p
def MixA (k : Nat) (p : PD (k + 3)) (most : Int) (h : GHeap) (cs : List Value) : Prop := if fillP (k + 2) p ≠ 2 then ArrAt (k + 3) h cs (arr (k + 3) p) else ArrAt (k + 2) h cs (mixS (k + 1) (arr (k + 3) p) most).2
def MixQ (k : Nat) (p : PD (k + 3)) (most : Int) (h : GHeap) (cs : List Value) : Prop := if fillP (k + 2) p ≠ 2 then PlainAt (k + 3) h cs (tidy (k + 3) p) else PlainAt (k + 2) h cs (mixR (k + 1) (tidy (k + 3) p) most).2
theorem MixA.mono {k : Nat} {p : PD (k + 3)} {most : Int} {h h' : GHeap} {cs : List Value} (H : MixA k p most h cs) (hle : GLe h h') : MixA k p most h' cs := by
  unfold MixA at H ⊢
  split
  · rename_i c; rw [if_pos c] at H; exact ArrAt.mono (k + 3) _ _ _ _ hle H
  · rename_i c; rw [if_neg c] at H; exact ArrAt.mono (k + 2) _ _ _ _ hle H
theorem MixQ.mono {k : Nat} {p : PD (k + 3)} {most : Int} {h h' : GHeap} {cs : List Value} (H : MixQ k p most h cs) (hle : GLe h h') : MixQ k p most h' cs := by
  unfold MixQ at H ⊢
  split
  · rename_i c; rw [if_pos c] at H; exact PlainAt.mono (k + 3) _ _ _ _ hle H
  · rename_i c; rw [if_neg c] at H; exact PlainAt.mono (k + 2) _ _ _ _ hle H
theorem cells9 {K : Nat} {h : GHeap} {cs : List Value} {a : AD K} (H : ArrAt K h cs a) : ∃ a0 a1 a2 a3 a4 a5 a6 a7 a8, cs = [a0, a1, a2, a3, a4, a5, a6, a7, a8] ∧ [a0, a1, a2, a3, a4, a5, a6, a7, a8].all Value.oneCell' = true := by
  have h1 := ArrAt.siz K _ _ _ H
  have h2 : cs.all Value.oneCell' = true := List.all_eq_true.mpr (ArrAt.one K _ _ _ H)
  match cs, h1, h2 with
  | [a0, a1, a2, a3, a4, a5, a6, a7, a8], _, h2 => exact ⟨_, _, _, _, _, _, _, _, _, rfl, h2⟩
theorem cells3 {K : Nat} {h : GHeap} {cs : List Value} {p : PD K} (H : PlainAt K h cs p) : ∃ a0 a1 a2, cs = [a0, a1, a2] ∧ [a0, a1, a2].all Value.oneCell' = true := by
  have h1 := PlainAt.siz K _ _ _ H
  have h2 : cs.all Value.oneCell' = true := List.all_eq_true.mpr (PlainAt.one K _ _ _ H)
  match cs, h1, h2 with
  | [a0, a1, a2], _, h2 => exact ⟨_, _, _, rfl, h2⟩
theorem MixA.cells {k : Nat} {p : PD (k + 3)} {most : Int} {h : GHeap} {cs : List Value} (H : MixA k p most h cs) : ∃ a0 a1 a2 a3 a4 a5 a6 a7 a8, cs = [a0, a1, a2, a3, a4, a5, a6, a7, a8] ∧ [a0, a1, a2, a3, a4, a5, a6, a7, a8].all Value.oneCell' = true := by
  unfold MixA at H
  split at H
  · exact cells9 H
  · exact cells9 H
theorem MixQ.cells {k : Nat} {p : PD (k + 3)} {most : Int} {h : GHeap} {cs : List Value} (H : MixQ k p most h cs) : ∃ a0 a1 a2, cs = [a0, a1, a2] ∧ [a0, a1, a2].all Value.oneCell' = true := by
  unfold MixQ at H
  split at H
  · exact cells3 H
  · exact cells3 H
/-! ## The boxes of a plain array, and of its array -/
def boxQ (k : Nat) (p : PD (k + 3)) : List (PD (k + 2)) := (PlainD.items (α := PD (k + 2)) p).flatMap (·.box)
structure Mixed (k : Nat) (p : PD (k + 3)) : Prop where
  hc : chk (k + 3) 40 p = 0
  ht : tdy (k + 3) (tidy (k + 3) p)
  h8 : (PlainD.shape (α := PD (k + 2)) p).length ≤ 8
  hn : (PlainD.items (α := PD (k + 2)) p).length ≤ 1048576
  hs : ((boxQ k p).map fun b => (PlainD.items (α := PD (k + 1)) b).length).sum ≤ 1048576
theorem Mixed.it {k : Nat} {p : PD (k + 3)} (H : Mixed k p) (h2 : fillP (k + 2) p = 2) : ∀ x ∈ PlainD.items (α := PD (k + 2)) p, x.kind = 2 ∧ ∃ b, x.box = [b] ∧ chk (k + 2) 39 b = 0 := by
  obtain ⟨_, _, _, _, h5⟩ := (chkP_ok (α := PD (k + 2)) _ _ _).1 H.hc
  intro x hx
  obtain ⟨e1, e2, _⟩ := h5 x hx
  have h2 : PlainD.fill (α := PD (k + 2)) p = 2 := h2
  rw [h2] at e1
  obtain ⟨b, e3, e4⟩ := e2 e1
  exact ⟨e1, b, e3, e4⟩
theorem Mixed.boxA {k : Nat} {p : PD (k + 3)} (h2 : fillP (k + 2) p = 2) : (ArrD.vec (α := AD (k + 2)) (arr (k + 3) p)).boxes = (boxQ k p).map (arr (k + 2)) := by
  have h2 : PlainD.fill (α := PD (k + 2)) p = 2 := h2
  show (arrV (arr (k + 2)) (PlainD.fill (α := PD (k + 2)) p) (PlainD.items (α := PD (k + 2)) p)).boxes = _
  unfold arrV boxQ
  rw [if_neg (by omega), if_pos h2, List.map_flatMap]
theorem Mixed.boxT {k : Nat} {p : PD (k + 3)} (H : Mixed k p) (h2 : fillP (k + 2) p = 2) : bxs (β := PD (k + 2)) (tidy (k + 3) p) = (boxQ k p).map (tidy (k + 2)) := by
  have hi := H.it h2
  show ((PlainD.items (α := PD (k + 2)) p).map (tidyIt (tidy (k + 2)))).flatMap (·.box) = ((PlainD.items (α := PD (k + 2)) p).flatMap (·.box)).map (tidy (k + 2))
  generalize PlainD.items (α := PD (k + 2)) p = l at hi
  induction l with
  | nil => rfl
  | cons x l ih =>
    obtain ⟨e1, b, e2, _⟩ := hi x List.mem_cons_self
    rw [List.map_cons, List.flatMap_cons, List.flatMap_cons, List.map_append, ih (fun y hy => hi y (List.mem_cons_of_mem _ hy))]
    congr 1
    unfold tidyIt
    rw [if_neg (by omega), if_neg (by omega), if_pos e1, e2]
    rfl
theorem Mixed.boxOk {k : Nat} {p : PD (k + 3)} (H : Mixed k p) (h2 : fillP (k + 2) p = 2) : ∀ b ∈ boxQ k p, chk (k + 2) 39 b = 0 ∧ tdy (k + 2) (tidy (k + 2) b) := by
  intro b hb
  obtain ⟨x, hx, hbx⟩ := List.mem_flatMap.1 hb
  obtain ⟨e1, b', e2, e3⟩ := H.it h2 x hx
  rw [e2] at hbx
  obtain rfl := List.mem_singleton.1 hbx
  refine ⟨e3, ?_⟩
  have ht : ∀ y ∈ (PlainD.items (α := PD (k + 2)) p).map (tidyIt (tidy (k + 2))), tdyIt (tdy (k + 2)) y := H.ht
  refine (ht _ (List.mem_map.2 ⟨x, hx, rfl⟩)).2 _ ?_
  unfold tidyIt
  rw [if_neg (by omega), if_neg (by omega), if_pos e1, e2]
  exact List.mem_cons_self
theorem Mixed.boxN {k : Nat} {p : PD (k + 3)} (H : Mixed k p) (h2 : fillP (k + 2) p = 2) : product (PlainD.shape (α := PD (k + 2)) p) 1048576 = (((boxQ k p).length : Int), 0) := by
  obtain ⟨_, _, _, h4, _⟩ := (chkP_ok (α := PD (k + 2)) _ _ _).1 H.hc
  have hi := H.it h2
  have hl : (boxQ k p).length = (PlainD.items (α := PD (k + 2)) p).length := by
    have := bxs_len (PlainD.items (α := PD (k + 2)) p) (fun x hx => by obtain ⟨_, b, e, _⟩ := hi x hx; exact ⟨b, e⟩) _ (Nat.le_refl _)
    rw [List.take_length] at this
    exact this
  rw [hl]
  exact h4
theorem Mixed.sumA {k : Nat} {p : PD (k + 3)} (H : Mixed k p) (h2 : fillP (k + 2) p = 2) : (((ArrD.vec (α := AD (k + 2)) (arr (k + 3) p)).boxes.map (bv (k + 1))).map VecD.len).sum ≤ 1048576 := by
  rw [Mixed.boxA h2, List.map_map, List.map_map]
  have hs := H.hs
  have e : (boxQ k p).map ((VecD.len ∘ bv (k + 1)) ∘ arr (k + 2)) = (boxQ k p).map fun b => (PlainD.items (α := PD (k + 1)) b).length := by
    apply List.map_congr_left
    intro b hb
    obtain ⟨_, _, _, h4, h5⟩ := (chkP_ok (α := PD (k + 1)) _ _ _).1 (H.boxOk h2 b hb).1
    exact len_arrV (arr (k + 1)) _ _ _ h5
  rw [e]
  exact hs
theorem Mixed.res {k : Nat} {p : PD (k + 3)} (H : Mixed k p) (h2 : fillP (k + 2) p = 2) (most : Int) (hm : most ≤ 1048576) : (mixS (k + 1) (arr (k + 3) p) most).1 = (mixR (k + 1) (tidy (k + 3) p) most).1 ∧ ResX (k + 1) (mixS (k + 1) (arr (k + 3) p) most).1 (mixS (k + 1) (arr (k + 3) p) most).2 (mixR (k + 1) (tidy (k + 3) p) most).2 :=
  mix_res k (arr (k + 3) p) (tidy (k + 3) p) (boxQ k p) rfl (Mixed.boxA h2) (H.boxT h2) (H.boxOk h2) (H.boxN h2) (H.sumA h2) most hm
end Go.Proofs.YtmojpbfkpggjhaaGreat

/-
  Contracts of the law's own functions of layer 8: elements cut, repeated and turned. No statement is proved here.
-/
namespace Go.Proofs.YtmojpbfkpggjhaaGreat
open Go Go.RowKit
set_option linter.unusedVariables false
set_option linter.unusedSimpArgs false
set_option maxHeartbeats 4000000
attribute [local irreducible] CW RW QW SW HW ConM retM heldQ calmQ elemP thenQ blockQ loopQ joinQ retQ Yields Con Sl zF magR unitF truncF fwF wholeF tidySpec elemQ rankF leastN tidyW
set_option maxHeartbeats 8000000

theorem AllN.drop {α : Type} {sz : Nat} {R : List Value → α → Prop} : ∀ (j : Nat) {xs : List Value} {l : List α}, AllN sz R xs l → AllN sz R (xs.drop (j * sz)) (l.drop j)
  | 0, xs, l, h => by simpa using h
  | j + 1, xs, [], h => by have : xs = [] := h; rw [this]; simp; rfl
  | j + 1, xs, a :: l, h => by
    have := AllN.drop j h.2.2
    rw [List.drop_drop] at this
    rw [List.drop_succ_cons, Nat.add_mul, Nat.one_mul, Nat.add_comm]
    exact this
theorem AllN.take {α : Type} {sz : Nat} {R : List Value → α → Prop} : ∀ (j : Nat) {xs : List Value} {l : List α}, AllN sz R xs l → AllN sz R (xs.take (j * sz)) (l.take j)
  | 0, xs, l, h => by simp; rfl
  | j + 1, xs, [], h => by have : xs = [] := h; rw [this]; simp; rfl
  | j + 1, xs, a :: l, h => by
    have h2 := AllN.take j h.2.2
    have h1 := h.1
    have e : (xs.take ((j + 1) * sz)).take sz = xs.take sz := by rw [List.take_take, Nat.add_mul, Nat.one_mul, Nat.min_eq_left (by omega)]
    refine ⟨by rw [e]; exact h1, by rw [e]; exact h.2.1, ?_⟩
    rw [List.drop_take, Nat.add_mul, Nat.one_mul, Nat.add_sub_cancel]
    exact h2
theorem RowsAt.sub {α : Type} {sz : Nat} {R : List Value → α → Prop} {h : GHeap} {ad : Option Addr} {n cp x y : Nat} {l : List α} (hl : RowsAt sz R h (.slice ad n cp) l) (hx : x ≤ y) (hy : y ≤ l.length) : RowsAt sz R h (.slice (subAd ad x cp sz) (y - x) (cp - x)) ((l.drop x).take (y - x)) := by
  obtain ⟨ad', cp', xs, e, hS, hA⟩ := hl
  cases e
  have h1 := (hS.from x (by omega)).take (y - x) (by omega)
  have hlen : ((l.drop x).take (y - x)).length = y - x := by simp; omega
  refine ⟨_, _, _, by rw [hlen], by rw [hlen]; exact h1, ?_⟩
  exact (hA.drop x).take (y - x)
end Go.Proofs.YtmojpbfkpggjhaaGreat

/-
  Contracts of package part: an array in a box if boxes do not lie too deep, the first part. No statement is proved here.
-/
namespace Go.Proofs.YtmojpbfkpggjhaaGreat
open Go Go.RowKit
set_option linter.unusedVariables false
set_option linter.unusedSimpArgs false
set_option maxHeartbeats 4000000
attribute [local irreducible] CW RW QW SW HW ConM retM heldQ calmQ elemP thenQ blockQ loopQ joinQ retQ Yields Con Sl zF magR unitF truncF fwF wholeF tidySpec elemQ rankF leastN tidyW
set_option maxHeartbeats 4000000

noncomputable def deepE (k : Nat) (a : AD (k + 1)) : Int := if decB (good (k + 1) 40 a) = true then 0 else 26
noncomputable def deepA (k : Nat) (a : AD (k + 1)) : AD (k + 1) := if decB (good (k + 1) 40 a) = true then a else (⟨[], VecD.none⟩ : ArrD (AD k))
theorem partDeep_con (k : Nat) (cs : List Value) (a : AD (k + 1)) (w : World) (h : GHeap) (ha : ArrAt (k + 1) h cs a) : Con Tryz.prog 76 [.agg cs.toArray] w h (fun h' u => ∃ c2, u = .tuple #[.agg c2.toArray, .int .i64 (deepE k a)] ∧ ArrAt (k + 1) h' c2 (deepA k a)) := by
  have ha' := ha
  obtain ⟨s, vc, rfl, ⟨ad, cap, rfl, _⟩, hv⟩ := ha
  obtain ⟨wv, nv, sm, il, fl, ch, bx, ⟨rfl, hoc⟩, _⟩ := hv
  unfold deepE deepA
  refine Con.of_body Tryz.func76 rfl Tryz.ntmps76 rfl rfl ?_
  intro hs
  refine Zrun ?_
  (refine RW.boxN hs rfl rfl ?_; intro b1 w1 hs)
  (refine RW.allocN T hs rfl rfl rfl rfl ?_; intro b2 w2 hs)
  refine Zerun ?_
  (refine RW.call T hs rfl rfl rfl (valueGood_con (k + 1) _ a _ _ ha') ?_; intro v h3 w3 hle3 hp3 hs)
  subst hp3
  obtain ⟨b, hb⟩ : ∃ b, decB (good (k + 1) 40 a) = b := ⟨_, rfl⟩
  rw [hb]
  cases b with
  | true =>
    refine Zerun ?_
    (refine RW.storeAll T hs 0 rfl rfl rfl rfl rfl rfl (show (Value.oneCell' (.slice ad _ cap) && (vecCells (ArrD.vec (α := AD k) a).kind wv nv sm il fl ch bx).all Value.oneCell') = true by rw [hoc]; rfl) rfl ?_; intro w4 hs)
    refine Zerun ?_
    exact retQ_ret [_, _] h3 ⟨resN T hs 0 rfl rfl rfl rfl rfl rfl, rfl, trivial⟩ hs.dropAll ⟨_, rfl, ArrAt.mono (k + 1) _ _ _ _ hle3 ha'⟩
  | false =>
    refine Zerun ?_
    refine RW.val (Y.build T rfl rfl rfl rfl rfl rfl rfl) rfl ?_
    refine Zerun ?_
    (refine RW.storeAll T hs 0 rfl rfl rfl rfl rfl rfl rfl rfl ?_; intro w4 hs)
    refine Zerun ?_
    exact retQ_ret [_, _] h3 ⟨resN T hs 0 rfl rfl rfl rfl rfl rfl, rfl, trivial⟩ hs.dropAll ⟨_, rfl, ⟨_, _, rfl, IntsAt.nil _, vecNone _⟩⟩
def boxA (k : Nat) (a : AD (k + 1)) : AD (k + 2) := (⟨[], ⟨6, [], [], [a]⟩⟩ : ArrD (AD (k + 1)))
theorem partEnclose_con (k : Nat) (cs : List Value) (a : AD (k + 1)) (w : World) (h : GHeap) (ha : ArrAt (k + 1) h cs a) : Con Tryz.prog 30 [.agg cs.toArray] w h (fun h' u => ∃ c2, u = .tuple #[.agg c2.toArray, .int .i64 (deepE (k + 1) (boxA k a))] ∧ ArrAt (k + 2) h' c2 (deepA (k + 1) (boxA k a))) := by
  have ha' := ha
  obtain ⟨s, vc, rfl, ⟨ad, cap, rfl, _⟩, hv⟩ := ha
  obtain ⟨wv, nv, sm, il, fl, ch, bx, ⟨rfl, hoc⟩, _⟩ := hv
  refine Con.of_body Tryz.func30 rfl Tryz.ntmps30 rfl rfl ?_
  intro hs
  refine Zrun ?_
  (refine RW.boxN hs rfl rfl ?_; intro b1 w1 hs)
  (refine RW.allocN T hs rfl rfl rfl rfl ?_; intro b2 w2 hs)
  refine Zerun ?_
  (refine RW.call T hs rfl rfl rfl (valueBox_con (ArrAt.mono (k + 1)) (ArrAt.one (k + 1)) (ArrAt.siz (k + 1)) _ a _ _ ha') ?_; intro v h5 w5 hle5 hp5 hs)
  obtain ⟨cs5, rfl, hb5⟩ := hp5
  have hb5 : ArrAt (k + 2) h5 cs5 (boxA k a) := hb5
  refine Zerun ?_
  (refine RW.call T hs rfl rfl rfl (partDeep_con (k + 1) _ (boxA k a) _ _ hb5) ?_; intro v h6 w6 hle6 hp6 hs)
  obtain ⟨cs6, rfl, hr6⟩ := hp6
  have hr6' := hr6
  obtain ⟨a6, ha6e⟩ : ∃ a6, deepA (k + 1) (boxA k a) = a6 := ⟨_, rfl⟩
  rw [ha6e] at hr6 hr6' ⊢
  obtain ⟨s6, vc6, rfl, ⟨ad6, cap6, rfl, _⟩, hv6⟩ := hr6
  obtain ⟨wv6, nv6, sm6, il6, fl6, ch6, bx6, ⟨rfl, hoc6⟩, _⟩ := hv6
  refine Zerun ?_
  (refine RW.storeAll T hs 0 rfl rfl rfl rfl rfl rfl (show (Value.oneCell' (.slice ad6 _ cap6) && (vecCells (ArrD.vec (α := AD (k + 1)) a6).kind wv6 nv6 sm6 il6 fl6 ch6 bx6).all Value.oneCell') = true by rw [hoc6]; rfl) rfl ?_; intro w7 hs)
  refine Zerun ?_
  exact retQ_ret [_, _] h6 ⟨resN T hs 0 rfl rfl rfl rfl rfl rfl, rfl, trivial⟩ hs.dropAll ⟨_, rfl, hr6'⟩
/-- the part at a place: of boxes, what lies in one -/
theorem eachPart2_con (k : Nat) (cs : List Value) (a : ArrD (AD (k + 1))) (i : Nat) (d : AD (k + 1)) (w : World) (h : GHeap) (ha : ArrAt (k + 2) h cs a) (hc : a.vec.cls = 2) (hi : i < a.vec.boxes.length) : Con Tryz.prog 85 [.agg cs.toArray, .int .i64 i] w h (fun h' u => ∃ c2, u = .agg c2.toArray ∧ ArrAt (k + 1) h' c2 (a.vec.boxes.getD i d)) := by
  obtain ⟨s, vc, rfl, ⟨ad, cap, rfl, _⟩, hv⟩ := ha
  have hv' := hv
  obtain ⟨wv, nv, sm, il, fl, ch, bx, ⟨rfl, hoc⟩, _⟩ := hv
  refine Con.of_body Tryz.func85 rfl Tryz.ntmps85 rfl rfl ?_
  intro hs
  refine Zrun ?_
  (refine RW.boxN hs rfl rfl ?_; intro b1 w1 hs)
  (refine RW.allocN T hs rfl rfl rfl rfl ?_; intro b2 w2 hs)
  refine Zerun ?_
  (refine RW.call T hs rfl rfl rfl (vecClass_con _ a.vec _ _ hv') ?_; intro v h7 w7 hle7 hp7 hs)
  subst hp7
  rw [hc]
  have hv' := hv'.mono (ArrAt.mono (k + 1)) hle7
  refine Zerun ?_
  (refine RW.call T hs rfl rfl rfl (vecBox_con (ArrAt.mono (k + 1)) (ArrAt.one (k + 1)) _ a.vec i d _ _ hv' hi) ?_; intro v h12 w12 hle12 hp12 hs)
  obtain ⟨cs12, rfl, hl12, hr12⟩ := hp12
  have hr12' := hr12
  obtain ⟨a6, ha6e⟩ : ∃ a6, a.vec.boxes.getD i d = a6 := ⟨_, rfl⟩
  rw [ha6e] at hr12 hr12' ⊢
  obtain ⟨s6, vc6, rfl, ⟨ad6, cap6, rfl, _⟩, hv6⟩ := hr12
  obtain ⟨wv6, nv6, sm6, il6, fl6, ch6, bx6, ⟨rfl, hoc6⟩, _⟩ := hv6
  refine Zerun ?_
  (refine RW.storeAll T hs 0 rfl rfl rfl rfl rfl rfl (show (Value.oneCell' (.slice ad6 _ cap6) && (vecCells (ArrD.vec (α := AD k) a6).kind wv6 nv6 sm6 il6 fl6 ch6 bx6).all Value.oneCell') = true by rw [hoc6]; rfl) rfl ?_; intro w13 hs)
  refine Zerun ?_
  exact retQ_ret [_] h12 ⟨resN T hs 0 rfl rfl rfl rfl rfl rfl, trivial⟩ hs.dropAll ⟨_, rfl, hr12'⟩
/-- of others: the element, as an array -/
noncomputable def partV {k : Nat} (v : VecD (AD (k + 1))) (i : Nat) : VecD (AD (k + 1)) := v.pick (spanL (cutA v.len i) (cutB v.len i ((i : Int) + 1))) (blankA k)
theorem eachPart_con (k : Nat) (cs : List Value) (a : ArrD (AD (k + 1))) (i : Nat) (w : World) (h : GHeap) (ha : ArrAt (k + 2) h cs a) (hc : a.vec.cls ≠ 2) (hi : i ≤ 1048576) (hm : a.vec.len ≤ 1048576) (hk0 : a.vec.kind ≠ 0) : Con Tryz.prog 85 [.agg cs.toArray, .int .i64 i] w h (fun h' u => ∃ c2, u = .agg c2.toArray ∧ ArrAt (k + 2) h' c2 (⟨[], partV a.vec i⟩ : ArrD (AD (k + 1)))) := by
  obtain ⟨s, vc, rfl, ⟨ad, cap, rfl, _⟩, hv⟩ := ha
  have hv' := hv
  obtain ⟨wv, nv, sm, il, fl, ch, bx, ⟨rfl, hoc⟩, _⟩ := hv
  unfold partV
  refine Con.of_body Tryz.func85 rfl Tryz.ntmps85 rfl rfl ?_
  intro hs
  refine Zrun ?_
  (refine RW.boxN hs rfl rfl ?_; intro b1 w1 hs)
  (refine RW.allocN T hs rfl rfl rfl rfl ?_; intro b2 w2 hs)
  refine Zerun ?_
  (refine RW.call T hs rfl rfl rfl (vecClass_con _ a.vec _ _ hv') ?_; intro v h7 w7 hle7 hp7 hs)
  subst hp7
  have hv' := hv'.mono (ArrAt.mono (k + 1)) hle7
  refine Zerun ?_
  (refine RW.call T hs rfl rfl rfl (flatCut_con (ArrAt.mono (k + 1)) (ArrAt.one (k + 1)) (ArrAt.siz (k + 1)) (blankA k) (fun w h => flatBlank_con (ArrAt.mono k) (ArrAt.one k) w h) _ a.vec i ((i : Int) + 1) _ _ hv' hm hk0) ?_; intro v h18 w18 hle18 hp18 hs)
  obtain ⟨cs18, rfl, hv18⟩ := hp18
  have hv18' := hv18
  obtain ⟨wv2, nv2, sm2, il2, fl2, ch2, bx2, ⟨rfl, hoc2⟩, -⟩ := hv18
  refine Zerun ?_
  refine RW.val (Y.build T rfl rfl rfl rfl rfl rfl rfl) rfl ?_
  (refine RW.storeAll T hs 0 rfl rfl rfl rfl rfl rfl (by show (true && (vecCells _ wv2 nv2 sm2 il2 fl2 ch2 bx2).all Value.oneCell') = true; rw [hoc2]; rfl) rfl ?_; intro w19 hs)
  refine Zerun ?_
  exact retQ_ret [_] h18 ⟨resN T hs 0 rfl rfl rfl rfl rfl rfl, trivial⟩ hs.dropAll ⟨_, rfl, ⟨_, _, rfl, IntsAt.nil _, hv18'⟩⟩
end Go.Proofs.YtmojpbfkpggjhaaGreat

/-
  Contracts of the document's box, deep, Enclose and Part. No statement is proved here.
-/
namespace Go.Proofs.YtmojpbfkpggjhaaGreat
open Go Go.RowKit
set_option linter.unusedVariables false
set_option linter.unusedSimpArgs false
set_option maxHeartbeats 4000000
attribute [local irreducible] CW RW QW SW HW ConM retM heldQ calmQ elemP thenQ blockQ loopQ joinQ retQ Yields Con Sl zF magR unitF truncF fwF wholeF tidySpec elemQ rankF leastN tidyW
set_option maxHeartbeats 4000000

def chkE (k : Nat) (p : PD (k + 1)) : Int := if chk (k + 1) 40 p = 0 then 0 else 26
def chkR (k : Nat) (p : PD (k + 1)) : PD (k + 1) := if chk (k + 1) 40 p = 0 then p else (nilP : PlainD (PD k))
theorem refDeep_con (k : Nat) (cs : List Value) (p : PD (k + 1)) (w : World) (h : GHeap) (hp : PlainAt (k + 1) h cs p) : Con Tryz.prog 78 [.agg cs.toArray] w h (fun h' u => ∃ c2, u = .tuple #[.agg c2.toArray, .int .i64 (chkE k p)] ∧ PlainAt (k + 1) h' c2 (chkR k p)) := by
  have hp' := hp
  obtain ⟨s, it, rfl, ⟨ad, cp, rfl, _⟩, ⟨ad2, cp2, xs, rfl, _, _⟩⟩ := hp
  refine Con.of_body Tryz.func78 rfl Tryz.ntmps78 rfl rfl ?_
  intro hs
  refine Zrun ?_
  (refine RW.boxN hs rfl rfl ?_; intro b1 w1 hs)
  (refine RW.allocN T hs rfl rfl rfl rfl ?_; intro b2 w2 hs)
  refine Zerun ?_
  (refine RW.call T hs rfl rfl rfl (refCheck_con (k + 1) _ p _ _ hp') ?_; intro v h5 w5 hle5 hp5 hs)
  subst hp5
  have hp' := PlainAt.mono (k + 1) _ _ _ _ hle5 hp'
  by_cases c : chk (k + 1) 40 p = 0
  · rw [show chkE k p = 0 from by unfold chkE; rw [if_pos c], show chkR k p = p from if_pos c, c]
    refine Zerun ?_
    (refine RW.storeAll T hs 0 rfl rfl rfl rfl rfl rfl rfl rfl ?_; intro w6 hs)
    refine Zerun ?_
    exact retQ_ret [_, _] h5 ⟨resN T hs 0 rfl rfl rfl rfl rfl rfl, rfl, trivial⟩ hs.dropAll ⟨_, rfl, hp'⟩
  · rw [show chkE k p = 26 from by unfold chkE; rw [if_neg c], show chkR k p = (nilP : PlainD (PD k)) from if_neg c]
    refine Zerun ?_
    refine RW.val (Y.build T rfl rfl rfl rfl rfl rfl rfl) rfl ?_
    refine Zerun ?_
    (refine RW.storeAll T hs 0 rfl rfl rfl rfl rfl rfl rfl rfl ?_; intro w6 hs)
    refine Zerun ?_
    exact retQ_ret [_, _] h5 ⟨resN T hs 0 rfl rfl rfl rfl rfl rfl, rfl, trivial⟩ hs.dropAll ⟨_, rfl, ⟨_, _, rfl, IntsAt.nil _, RowsAt.nil _⟩⟩
theorem refBox_con (k : Nat) (cs : List Value) (p : PD (k + 1)) (w : World) (h : GHeap) (hp : PlainAt (k + 1) h cs p) : Con Tryz.prog 79 [.agg cs.toArray] w h (fun h' u => ∃ c2, u = .agg c2.toArray ∧ ItemAt (PlainAt (k + 1)) h' c2 ⟨2, 0, 0, [p]⟩) := by
  have hp' := hp
  obtain ⟨s, it, rfl, ⟨ad, cp, rfl, _⟩, ⟨ad2, cp2, xs, rfl, _, _⟩⟩ := hp
  refine Con.of_body Tryz.func79 rfl Tryz.ntmps79 rfl rfl ?_
  intro hs
  refine Zrun ?_
  (refine RW.boxN hs rfl rfl ?_; intro b1 w1 hs)
  (refine RW.allocN T hs rfl rfl rfl rfl ?_; intro b2 w2 hs)
  refine Zerun ?_
  (refine RW.lit T hs (vs := [.agg ([.slice ad (PlainD.shape (α := PD k) p).length cp, .slice ad2 (PlainD.items (α := PD k) p).length cp2, .int .i64 (PlainD.fill (α := PD k) p)] : List Value).toArray]) (cs := [.slice ad (PlainD.shape (α := PD k) p).length cp, .slice ad2 (PlainD.items (α := PD k) p).length cp2, .int .i64 (PlainD.fill (α := PD k) p)]) rfl rfl rfl rfl (by simp [Value.cells]) rfl (by simp [Value.cells]) rfl rfl rfl ?_; intro b4 w4 hs)
  obtain ⟨h4, hle4, hs, hS4⟩ := hs.freeze
  have hR4 : RowsAt 3 (PlainAt (k + 1) h4) h4 (.slice (some ⟨b4, 0, none⟩) 1 1) [p] := ⟨_, _, _, rfl, hS4, AllN.one rfl (PlainAt.mono (k + 1) _ _ _ _ hle4 hp')⟩
  refine Zerun ?_
  refine RW.val (Y.build T rfl rfl rfl rfl rfl rfl rfl) rfl ?_
  refine Zerun ?_
  (refine RW.storeAll T hs 0 rfl rfl rfl rfl rfl rfl rfl rfl ?_; intro w6 hs)
  refine Zerun ?_
  exact retQ_ret [_] h4 ⟨resN T hs 0 rfl rfl rfl rfl rfl rfl, trivial⟩ hs.dropAll ⟨_, rfl, ⟨_, rfl, hR4, by show (0 : Nat) < 18446744073709551616; omega⟩⟩
def boxP (k : Nat) (p : PD (k + 1)) : PD (k + 2) := (⟨[], [⟨2, 0, 0, [p]⟩], 2⟩ : PlainD (PD (k + 1)))
theorem refEnclose_con (k : Nat) (cs : List Value) (p : PD (k + 1)) (w : World) (h : GHeap) (hp : PlainAt (k + 1) h cs p) : Con Tryz.prog 31 [.agg cs.toArray] w h (fun h' u => ∃ c2, u = .tuple #[.agg c2.toArray, .int .i64 (chkE (k + 1) (boxP k p))] ∧ PlainAt (k + 2) h' c2 (chkR (k + 1) (boxP k p))) := by
  have hp' := hp
  obtain ⟨s, it, rfl, ⟨ad, cp, rfl, _⟩, ⟨ad2, cp2, xs, rfl, _, _⟩⟩ := hp
  refine Con.of_body Tryz.func31 rfl Tryz.ntmps31 rfl rfl ?_
  intro hs
  refine Zrun ?_
  (refine RW.boxN hs rfl rfl ?_; intro b1 w1 hs)
  (refine RW.allocN T hs rfl rfl rfl rfl ?_; intro b2 w2 hs)
  refine Zerun ?_
  (refine RW.call T hs rfl rfl rfl (refBox_con k _ p _ _ hp') ?_; intro v h5 w5 hle5 hp5 hs)
  obtain ⟨cs5, rfl, hi5⟩ := hp5
  have hi5' := hi5
  obtain ⟨bx, rfl, hbx, _⟩ := hi5
  have hob := hbx.one
  refine Zerun ?_
  (refine RW.lit T hs (vs := [.agg ([.int .i64 2, .float .f64 0, .int .i32 0, bx] : List Value).toArray]) (cs := [.int .i64 2, .float .f64 0, .int .i32 0, bx]) rfl rfl rfl rfl (by simp [Value.cells]) rfl (by simp [Value.cells]) rfl rfl rfl ?_; intro b6 w6 hs)
  obtain ⟨h7, hle7, hs, hS7⟩ := hs.freeze
  have hb7 : PlainAt (k + 2) h7 [.slice none 0 0, .slice (some ⟨b6, 0, none⟩) 1 1, .int .i64 2] (boxP k p) := ⟨_, _, rfl, IntsAt.nil _, ⟨_, _, _, rfl, hS7, AllN.one rfl (ItemAt.mono (PlainAt.mono (k + 1)) _ _ _ _ hle7 hi5')⟩⟩
  refine Zerun ?_
  refine RW.val (Y.build T rfl rfl rfl rfl rfl rfl rfl) rfl ?_
  refine Zerun ?_
  (refine RW.call T hs rfl rfl rfl (refDeep_con (k + 1) _ (boxP k p) _ _ hb7) ?_; intro v h8 w8 hle8 hp8 hs)
  obtain ⟨cs8, rfl, hr8⟩ := hp8
  have hr8' := hr8
  obtain ⟨s8, it8, rfl, ⟨ad8, cp8, rfl, _⟩, ⟨ad9, cp9, xs9, rfl, _, _⟩⟩ := hr8
  refine Zerun ?_
  (refine RW.storeAll T hs 0 rfl rfl rfl rfl rfl rfl rfl rfl ?_; intro w9 hs)
  refine Zerun ?_
  exact retQ_ret [_, _] h8 ⟨resN T hs 0 rfl rfl rfl rfl rfl rfl, rfl, trivial⟩ hs.dropAll ⟨_, rfl, hr8'⟩
/-- the part at a place: of boxes, what lies in one -/
theorem refPart2_con (k : Nat) (cs : List Value) (p : PlainD (PD (k + 1))) (i : Nat) (b : PD (k + 1)) (w : World) (h : GHeap) (hp : PlainAt (k + 2) h cs p) (hi : i < p.items.length) (hk : (p.items.getD i noItem).kind = 2) (hb : (p.items.getD i noItem).box = [b]) : Con Tryz.prog 88 [.agg cs.toArray, .int .i64 i] w h (fun h' u => ∃ c2, u = .agg c2.toArray ∧ PlainAt (k + 1) h' c2 b) := by
  obtain ⟨s, it, rfl, ⟨ad, cp, rfl, _⟩, ⟨ad2, cp2, xs, rfl, hS2, hA⟩⟩ := hp
  obtain ⟨bx, hx4, hx1, ⟨ad3, cp3, ys, rfl, hS3, hA3⟩, hx2, hq0, hq1, hq2, hq3⟩ := ItemAt.cells hA i hi
  have hi' : i ≤ 9223372036854775807 := by have := hS2.caps; omega
  have hbl1 : (p.items.getD i noItem).box.length = 1 := by rw [hb]; rfl
  rw [hb] at hA3
  obtain ⟨y, hy, hyl, hRb⟩ := hA3.first
  rw [hk] at hx4 hq0
  have hRb' := hRb
  obtain ⟨s5, it5, rfl, ⟨ad5, cp5, rfl, _⟩, ⟨ad6, cp6, xs6, rfl, _, _⟩⟩ := hRb
  generalize p.items.getD i noItem = x at *
  refine Con.of_body Tryz.func88 rfl Tryz.ntmps88 rfl rfl ?_
  intro hs
  refine Zrun ?_
  (refine RW.boxN hs rfl rfl ?_; intro b1 w1 hs)
  (refine RW.allocN T hs rfl rfl rfl rfl ?_; intro b2 w2 hs)
  refine Zerun ?_
  (refine RW.allocN T hs rfl rfl rfl rfl ?_; intro b5 w5 hs)
  refine Zerun ?_
  (refine RW.storeAll T hs 0 rfl rfl rfl rfl rfl rfl rfl rfl ?_; intro w6 hs)
  refine Zerun ?_
  (refine RW.storeAll T hs 1 rfl rfl rfl rfl rfl rfl rfl rfl ?_; intro w7 hs)
  refine Zerun ?_
  exact retQ_ret [_] h ⟨resN T hs 1 rfl rfl rfl rfl rfl rfl, trivial⟩ hs.dropAll ⟨_, rfl, hRb'⟩
/-- of others: the item, as a plain array -/
theorem refPart_con {β : Type} {R : GHeap → List Value → β → Prop} (hR : Mono R) (cs : List Value) (p : PlainD β) (i : Nat) (w : World) (h : GHeap) (hp : PlainR R h cs p) (hi : i < p.items.length) (hk : (p.items.getD i noItem).kind ≠ 2) : Con Tryz.prog 88 [.agg cs.toArray, .int .i64 i] w h (fun h' u => ∃ c2, u = .agg c2.toArray ∧ PlainR R h' c2 ⟨[], [p.items.getD i noItem], (p.items.getD i noItem).kind⟩) := by
  obtain ⟨s, it, rfl, ⟨ad, cp, rfl, _⟩, ⟨ad2, cp2, xs, rfl, hS2, hA⟩⟩ := hp
  obtain ⟨⟨bx0, e0, hb0, hn0⟩, _⟩ := hA.get noItem i hi
  obtain ⟨bx, hx4, hx1, hbx, hx2, hq0, hq1, hq2, hq3⟩ := ItemAt.cells hA i hi
  have hi' : i ≤ 9223372036854775807 := by have := hS2.caps; omega
  have hit : ItemAt R h [.int .i64 (p.items.getD i noItem).kind, .float .f64 (p.items.getD i noItem).num, .int .i32 (p.items.getD i noItem).char, bx] (p.items.getD i noItem) := ⟨bx, rfl, hbx, hn0⟩
  clear e0 hb0
  generalize p.items.getD i noItem = x at *
  have hob : bx.oneCell' = true := hx1
  refine Con.of_body Tryz.func88 rfl Tryz.ntmps88 rfl rfl ?_
  intro hs
  refine Zrun ?_
  (refine RW.boxN hs rfl rfl ?_; intro b1 w1 hs)
  (refine RW.allocN T hs rfl rfl rfl rfl ?_; intro b2 w2 hs)
  refine Zerun ?_
  (refine RW.allocN T hs rfl rfl rfl rfl ?_; intro b5 w5 hs)
  refine Zerun ?_
  (refine RW.storeAll T hs 0 rfl rfl rfl rfl rfl rfl (by show (bx.oneCell' && true) = true; rw [hob]; rfl) rfl ?_; intro w6 hs)
  refine Zerun ?_
  (refine RW.lit T hs (vs := [.agg ([.int .i64 x.kind, .float .f64 x.num, .int .i32 x.char, bx] : List Value).toArray]) (cs := [.int .i64 x.kind, .float .f64 x.num, .int .i32 x.char, bx]) rfl rfl rfl rfl (by simp [Value.cells]) rfl (by simp [Value.cells]) rfl rfl rfl ?_; intro b7 w7 hs)
  obtain ⟨h7, hle7, hs, hS7⟩ := hs.freeze
  have hI7 : RowsAt 4 (ItemAt R h7) h7 (.slice (some ⟨b7, 0, none⟩) 1 1) [x] := ⟨_, _, _, rfl, hS7, AllN.one rfl (ItemAt.mono hR _ _ _ _ hle7 hit)⟩
  refine Zerun ?_
  refine RW.val (Y.build T rfl rfl rfl rfl rfl rfl rfl) rfl ?_
  refine Zerun ?_
  (refine RW.storeAll T hs 1 rfl rfl rfl rfl rfl rfl rfl rfl ?_; intro w8 hs)
  refine Zerun ?_
  exact retQ_ret [_] h7 ⟨resN T hs 1 rfl rfl rfl rfl rfl rfl, trivial⟩ hs.dropAll ⟨_, rfl, ⟨_, _, rfl, IntsAt.nil _, hI7⟩⟩
end Go.Proofs.YtmojpbfkpggjhaaGreat

/-
  Contracts of First, the code's and the document's. No statement is proved here.
-/
namespace Go.Proofs.YtmojpbfkpggjhaaGreat
open Go Go.RowKit
set_option linter.unusedVariables false
set_option linter.unusedSimpArgs false
set_option maxHeartbeats 4000000
attribute [local irreducible] CW RW QW SW HW ConM retM heldQ calmQ elemP thenQ blockQ loopQ joinQ retQ Yields Con Sl zF magR unitF truncF fwF wholeF tidySpec elemQ rankF leastN tidyW
set_option maxHeartbeats 4000000

theorem vec_boxLen {α : Type} {R : GHeap → List Value → α → Prop} {h : GHeap} {cs : List Value} {v : VecD α} (hv : VecAt R h cs v) (hc : v.cls = 2) : v.len = v.boxes.length := by
  obtain ⟨_, _, _, _, _, _, _, _, hk⟩ := hv
  have hk6 : v.kind = 6 := by
    unfold VecD.cls at hc
    split at hc
    · omega
    · split at hc
      · assumption
      · omega
  rcases hk with ⟨e, _⟩ | ⟨e, _⟩ | ⟨e, _⟩ | ⟨e, _⟩ | ⟨e, _⟩ | ⟨e, _⟩ | ⟨_, l, _, e⟩
  · omega
  · omega
  · omega
  · omega
  · omega
  · omega
  · rw [e]
    show 0 + 0 + l.length = _
    dsimp only
    omega
theorem pick_none2 {k : Nat} (v : VecD (AD (k + 1))) (hc : v.cls = 2) : (v.pick [-1] (blankA k)).boxes = [blankA k] ∧ (v.pick [-1] (blankA k)).cls = 2 := by
  refine ⟨?_, by rw [pick_cls]; exact hc⟩
  have hk6 : v.kind = 6 := by
    unfold VecD.cls at hc
    split at hc
    · omega
    · split at hc
      · assumption
      · omega
  unfold VecD.pick
  rw [if_neg (by omega), if_pos hk6]
  rfl
def firstB {k : Nat} (a : ArrD (AD (k + 1))) : AD (k + 1) := a.vec.boxes.getD 0 (blankA k)
noncomputable def firstV {k : Nat} (v : VecD (AD (k + 1))) : VecD (AD (k + 1)) := if 0 < v.len then partV v 0 else v.pick [-1] (blankA k)
theorem partFirst2_con (k : Nat) (cs : List Value) (a : ArrD (AD (k + 1))) (w : World) (h : GHeap) (ha : ArrAt (k + 2) h cs a) (hc : a.vec.cls = 2) (hm : a.vec.len ≤ 1048576) (hk0 : a.vec.kind ≠ 0) : Con Tryz.prog 34 [.agg cs.toArray] w h (fun h' u => ∃ c2, u = .agg c2.toArray ∧ ArrAt (k + 1) h' c2 (firstB a)) := by
  have ha' := ha
  obtain ⟨s, vc, rfl, ⟨ad, cap, rfl, _⟩, hv⟩ := ha
  have hv' := hv
  have hbl := vec_boxLen hv hc
  obtain ⟨wv, nv, sm, il, fl, ch, bx, ⟨rfl, hoc⟩, _⟩ := hv
  have fin : ∀ (a6 : AD (k + 1)) (h' : GHeap) (cs' : List Value), ArrAt (k + 1) h' cs' a6 → ∃ ad6 cap6 wv6 nv6 sm6 il6 fl6 ch6 bx6, cs' = .slice ad6 (ArrD.shape (α := AD k) a6).length cap6 :: vecCells (ArrD.vec (α := AD k) a6).kind wv6 nv6 sm6 il6 fl6 ch6 bx6 ∧ (vecCells (ArrD.vec (α := AD k) a6).kind wv6 nv6 sm6 il6 fl6 ch6 bx6).all Value.oneCell' = true := by
    rintro a6 h' cs' ⟨s6, vc6, rfl, ⟨ad6, cap6, rfl, _⟩, hv6⟩
    obtain ⟨wv6, nv6, sm6, il6, fl6, ch6, bx6, ⟨rfl, hoc6⟩, _⟩ := hv6
    exact ⟨_, _, _, _, _, _, _, _, _, rfl, hoc6⟩
  refine Con.of_body Tryz.func34 rfl Tryz.ntmps34 rfl rfl ?_
  intro hs
  refine Zrun ?_
  (refine RW.boxN hs rfl rfl ?_; intro b1 w1 hs)
  (refine RW.allocN T hs rfl rfl rfl rfl ?_; intro b2 w2 hs)
  refine Zerun ?_
  (refine RW.call T hs rfl rfl rfl (vecLen_con _ a.vec _ _ hv') ?_; intro v h6 w6 hle6 hp6 hs)
  subst hp6
  have hv' := hv'.mono (ArrAt.mono (k + 1)) hle6
  have ha' := ArrAt.mono (k + 2) _ _ _ _ hle6 ha'
  by_cases c : 0 < a.vec.len
  · refine Zerun ?_
    (refine RW.call T hs rfl rfl rfl (eachPart2_con k _ a 0 (blankA k) _ _ ha' hc (by omega)) ?_; intro v h9 w9 hle9 hp9 hs)
    obtain ⟨cs9, rfl, hr9⟩ := hp9
    change ArrAt (k + 1) h9 cs9 (firstB a) at hr9
    obtain ⟨a6, ha6⟩ : ∃ a6, firstB a = a6 := ⟨_, rfl⟩
    rw [ha6] at hr9 ⊢
    obtain ⟨ad6, cap6, wv6, nv6, sm6, il6, fl6, ch6, bx6, rfl, hoc6⟩ := fin a6 _ _ hr9
    refine Zerun ?_
    (refine RW.storeAll T hs 0 rfl rfl rfl rfl rfl rfl (show (Value.oneCell' (.slice ad6 _ cap6) && (vecCells (ArrD.vec (α := AD k) a6).kind wv6 nv6 sm6 il6 fl6 ch6 bx6).all Value.oneCell') = true by rw [hoc6]; rfl) rfl ?_; intro w13 hs)
    refine Zerun ?_
    exact retQ_ret [_] h9 ⟨resN T hs 0 rfl rfl rfl rfl rfl rfl, trivial⟩ hs.dropAll ⟨_, rfl, hr9⟩
  · have hfb : firstB a = blankA k := by
      unfold firstB
      rw [List.eq_nil_of_length_eq_zero (show a.vec.boxes.length = 0 by omega)]
      rfl
    obtain ⟨q1, q2⟩ := pick_none2 a.vec hc
    rw [hfb]
    refine Zerun ?_
    (refine RW.lit T hs (vs := [.int .i64 (-1)]) (cs := [.int .i64 (-1)]) rfl rfl rfl rfl (by simp [Value.cells]) rfl rfl rfl rfl rfl ?_; intro b12 w12 hs)
    obtain ⟨h13, hle13, hs, hS13⟩ := hs.freeze
    have hI13 : IntsAt h13 (.slice (some ⟨b12, 0, none⟩) 1 1) [-1] := IntsAt.of_sl hS13
    have hv' := hv'.mono (ArrAt.mono (k + 1)) hle13
    refine Zerun ?_
    (refine RW.call T hs rfl rfl rfl (flatPick_con (ArrAt.mono (k + 1)) (ArrAt.one (k + 1)) (ArrAt.siz (k + 1)) (blankA k) (fun w h => flatBlank_con (ArrAt.mono k) (ArrAt.one k) w h) _ a.vec _ [-1] _ _ hv' hI13 (by decide) hm hk0) ?_; intro v h14 w14 hle14 hp14 hs)
    obtain ⟨cs14, rfl, hv14⟩ := hp14
    obtain ⟨v, hve⟩ : ∃ v, a.vec.pick [-1] (blankA k) = v := ⟨_, rfl⟩
    rw [hve] at hv14 q1 q2
    have hv14' := hv14
    obtain ⟨wv2, nv2, sm2, il2, fl2, ch2, bx2, ⟨rfl, hoc2⟩, -⟩ := hv14
    refine Zerun ?_
    (refine RW.allocN T hs rfl rfl rfl rfl ?_; intro b3 w3 hs)
    (refine RW.storeAll T hs 0 rfl rfl rfl rfl rfl rfl hoc2 rfl ?_; intro w15 hs)
    refine Zerun ?_
    (refine RW.call T hs rfl rfl rfl (vecClass_con _ v _ _ hv14') ?_; intro v h16 w16 hle16 hp16 hs)
    subst hp16
    rw [q2]
    have hv14' := hv14'.mono (ArrAt.mono (k + 1)) hle16
    refine Zerun ?_
    (refine RW.call T hs rfl rfl rfl (vecBox_con (ArrAt.mono (k + 1)) (ArrAt.one (k + 1)) _ v 0 (blankA k) _ _ hv14' (by rw [q1]; exact Nat.one_pos)) ?_; intro v h18 w18 hle18 hp18 hs)
    obtain ⟨cs18, rfl, _, hr18⟩ := hp18
    rw [q1] at hr18
    have hr18 : ArrAt (k + 1) h18 cs18 (blankA k) := hr18
    obtain ⟨a6, ha6⟩ : ∃ a6, blankA k = a6 := ⟨_, rfl⟩
    rw [ha6] at hr18 ⊢
    obtain ⟨ad6, cap6, wv6, nv6, sm6, il6, fl6, ch6, bx6, rfl, hoc6⟩ := fin a6 _ _ hr18
    refine Zerun ?_
    (refine RW.storeAll T hs 1 rfl rfl rfl rfl rfl rfl (show (Value.oneCell' (.slice ad6 _ cap6) && (vecCells (ArrD.vec (α := AD k) a6).kind wv6 nv6 sm6 il6 fl6 ch6 bx6).all Value.oneCell') = true by rw [hoc6]; rfl) rfl ?_; intro w19 hs)
    refine Zerun ?_
    exact retQ_ret [_] h18 ⟨resN T hs 1 rfl rfl rfl rfl rfl rfl, trivial⟩ hs.dropAll ⟨_, rfl, hr18⟩
theorem partFirst_con (k : Nat) (cs : List Value) (a : ArrD (AD (k + 1))) (w : World) (h : GHeap) (ha : ArrAt (k + 2) h cs a) (hc : a.vec.cls ≠ 2) (hm : a.vec.len ≤ 1048576) (hk0 : a.vec.kind ≠ 0) : Con Tryz.prog 34 [.agg cs.toArray] w h (fun h' u => ∃ c2, u = .agg c2.toArray ∧ ArrAt (k + 2) h' c2 (⟨[], firstV a.vec⟩ : ArrD (AD (k + 1)))) := by
  have ha' := ha
  obtain ⟨s, vc, rfl, ⟨ad, cap, rfl, _⟩, hv⟩ := ha
  have hv' := hv
  obtain ⟨wv, nv, sm, il, fl, ch, bx, ⟨rfl, hoc⟩, _⟩ := hv
  unfold firstV
  refine Con.of_body Tryz.func34 rfl Tryz.ntmps34 rfl rfl ?_
  intro hs
  refine Zrun ?_
  (refine RW.boxN hs rfl rfl ?_; intro b1 w1 hs)
  (refine RW.allocN T hs rfl rfl rfl rfl ?_; intro b2 w2 hs)
  refine Zerun ?_
  (refine RW.call T hs rfl rfl rfl (vecLen_con _ a.vec _ _ hv') ?_; intro v h6 w6 hle6 hp6 hs)
  subst hp6
  have hv' := hv'.mono (ArrAt.mono (k + 1)) hle6
  have ha' := ArrAt.mono (k + 2) _ _ _ _ hle6 ha'
  by_cases c : 0 < a.vec.len
  · rw [if_pos c]
    refine Zerun ?_
    (refine RW.call T hs rfl rfl rfl (eachPart_con k _ a 0 _ _ ha' hc (by omega) hm hk0) ?_; intro v h9 w9 hle9 hp9 hs)
    obtain ⟨cs9, rfl, hr9⟩ := hp9
    obtain ⟨v, hve⟩ : ∃ v, partV a.vec 0 = v := ⟨_, rfl⟩
    rw [hve] at hr9 ⊢
    have hr9' := hr9
    obtain ⟨_, vc9, rfl, ⟨ad9, cp9, rfl, _⟩, hv9⟩ := hr9
    obtain ⟨wv9, nv9, sm9, il9, fl9, ch9, bx9, ⟨rfl, hoc9⟩, -⟩ := hv9
    refine Zerun ?_
    (refine RW.storeAll T hs 0 rfl rfl rfl rfl rfl rfl (by show (Value.oneCell' (.slice ad9 _ cp9) && (vecCells _ wv9 nv9 sm9 il9 fl9 ch9 bx9).all Value.oneCell') = true; rw [hoc9]; rfl) rfl ?_; intro w13 hs)
    refine Zerun ?_
    exact retQ_ret [_] h9 ⟨resN T hs 0 rfl rfl rfl rfl rfl rfl, trivial⟩ hs.dropAll ⟨_, rfl, hr9'⟩
  · rw [if_neg c]
    refine Zerun ?_
    (refine RW.lit T hs (vs := [.int .i64 (-1)]) (cs := [.int .i64 (-1)]) rfl rfl rfl rfl (by simp [Value.cells]) rfl rfl rfl rfl rfl ?_; intro b12 w12 hs)
    obtain ⟨h13, hle13, hs, hS13⟩ := hs.freeze
    have hI13 : IntsAt h13 (.slice (some ⟨b12, 0, none⟩) 1 1) [-1] := IntsAt.of_sl hS13
    have hv' := hv'.mono (ArrAt.mono (k + 1)) hle13
    refine Zerun ?_
    (refine RW.call T hs rfl rfl rfl (flatPick_con (ArrAt.mono (k + 1)) (ArrAt.one (k + 1)) (ArrAt.siz (k + 1)) (blankA k) (fun w h => flatBlank_con (ArrAt.mono k) (ArrAt.one k) w h) _ a.vec _ [-1] _ _ hv' hI13 (by decide) hm hk0) ?_; intro v h14 w14 hle14 hp14 hs)
    obtain ⟨cs14, rfl, hv14⟩ := hp14
    have hcl : (a.vec.pick [-1] (blankA k)).cls ≠ 2 := by rw [pick_cls]; exact hc
    obtain ⟨v, hve⟩ : ∃ v, a.vec.pick [-1] (blankA k) = v := ⟨_, rfl⟩
    rw [hve] at hv14 hcl ⊢
    have hv14' := hv14
    obtain ⟨wv2, nv2, sm2, il2, fl2, ch2, bx2, ⟨rfl, hoc2⟩, -⟩ := hv14
    refine Zerun ?_
    (refine RW.allocN T hs rfl rfl rfl rfl ?_; intro b3 w3 hs)
    (refine RW.storeAll T hs 0 rfl rfl rfl rfl rfl rfl hoc2 rfl ?_; intro w15 hs)
    refine Zerun ?_
    (refine RW.call T hs rfl rfl rfl (vecClass_con _ v _ _ hv14') ?_; intro v h16 w16 hle16 hp16 hs)
    subst hp16
    have hv14' := hv14'.mono (ArrAt.mono (k + 1)) hle16
    refine Zerun ?_
    refine RW.val (Y.build T rfl rfl rfl rfl rfl rfl rfl) rfl ?_
    (refine RW.storeAll T hs 1 rfl rfl rfl rfl rfl rfl (by show (true && (vecCells _ wv2 nv2 sm2 il2 fl2 ch2 bx2).all Value.oneCell') = true; rw [hoc2]; rfl) rfl ?_; intro w19 hs)
    refine Zerun ?_
    exact retQ_ret [_] h16 ⟨resN T hs 1 rfl rfl rfl rfl rfl rfl, trivial⟩ hs.dropAll ⟨_, rfl, ⟨_, _, rfl, IntsAt.nil _, hv14'⟩⟩
def firstQ {k : Nat} (p : PlainD (PD (k + 1))) : PD (k + 1) := (bxs p).headD (blankP k)
def firstP {β : Type} (p : PlainD (PlainD β)) : PlainD (PlainD β) := ⟨[], [p.items.getD 0 (blankI p.fill)], p.fill⟩
theorem refFirst2_con (k : Nat) (cs : List Value) (p : PlainD (PD (k + 1))) (w : World) (h : GHeap) (hp : PlainAt (k + 2) h cs p) (hf : p.fill = 2) (hx : ∀ x ∈ p.items, x.kind = 2 ∧ ∃ b, x.box = [b]) : Con Tryz.prog 35 [.agg cs.toArray] w h (fun h' u => ∃ c2, u = .agg c2.toArray ∧ PlainAt (k + 1) h' c2 (firstQ p)) := by
  have hp' := hp
  obtain ⟨s, it, rfl, ⟨ad, cp, rfl, _⟩, ⟨ad2, cp2, xs, rfl, hS2, _⟩⟩ := hp
  have hcap := hS2.caps
  refine Con.of_body Tryz.func35 rfl Tryz.ntmps35 rfl rfl ?_
  intro hs
  refine Zrun ?_
  (refine RW.boxN hs rfl rfl ?_; intro b1 w1 hs)
  (refine RW.allocN T hs rfl rfl rfl rfl ?_; intro b2 w2 hs)
  refine Zerun ?_
  by_cases c : 0 < p.items.length
  · obtain ⟨e1, b, e2⟩ := hx (p.items.getD 0 noItem) (mem_getD _ _ _ c)
    have hfq : firstQ p = b := by
      unfold firstQ bxs
      cases hI : p.items with
      | nil => rw [hI] at c; cases c
      | cons x l =>
        rw [hI] at e2
        have e2 : x.box = [b] := e2
        rw [List.flatMap_cons, e2]
        rfl
    rw [hfq]
    refine Zerun ?_
    (refine RW.call T hs rfl rfl rfl (refPart2_con k _ p 0 b _ _ hp' c e1 e2) ?_; intro v h8 w8 hle8 hp8 hs)
    obtain ⟨cs8, rfl, hr8⟩ := hp8
    have hr8' := hr8
    obtain ⟨s8, it8, rfl, ⟨ad8, cp8, rfl, _⟩, ⟨ad9, cp9, xs9, rfl, _, _⟩⟩ := hr8
    refine Zerun ?_
    (refine RW.storeAll T hs 0 rfl rfl rfl rfl rfl rfl rfl rfl ?_; intro w9 hs)
    refine Zerun ?_
    exact retQ_ret [_] h8 ⟨resN T hs 0 rfl rfl rfl rfl rfl rfl, trivial⟩ hs.dropAll ⟨_, rfl, hr8'⟩
  · have hfq : firstQ p = blankP k := by
      unfold firstQ bxs
      rw [List.eq_nil_of_length_eq_zero (show p.items.length = 0 by omega)]
      rfl
    rw [hfq]
    refine Zerun ?_
    refine CW.regionR T 1 1 hs rfl rfl ?_
    intro w9 hs
    refine HW.takeR (fuel := 8) 0 rfl (fun _ _ ka kb _ hs hka hkb => Y.fieldAddr T rfl rfl rfl rfl rfl) ⟨_, _, 1, 1, hs, rfl, rfl⟩ rfl (by kernel_rfl) (by kernel_rfl) (by kernel_rfl) ?_
    refine HW.takeR (fuel := 7) 1 rfl (fun _ _ ka kb _ hs hka hkb => Y.loadRow1 T hs ka hka rfl rfl rfl rfl) ⟨_, _, 1, 1, hs, rfl, rfl⟩ rfl (by kernel_rfl) (by kernel_rfl) (by kernel_rfl) ?_
    refine HW.takeR (fuel := 6) 4 rfl (fun _ _ ka kb _ hs hka hkb => Y.fieldAddr T rfl rfl rfl rfl rfl) ⟨_, _, 1, 1, hs, rfl, rfl⟩ rfl (by kernel_rfl) (by kernel_rfl) (by kernel_rfl) ?_
    refine HW.takeR (fuel := 5) 5 rfl (fun _ _ ka kb _ hs hka hkb => Y.loadRow1 T hs ka hka rfl rfl rfl rfl) ⟨_, _, 1, 1, hs, rfl, rfl⟩ rfl (by kernel_rfl) (by kernel_rfl) (by kernel_rfl) ?_
    refine HW.one (fuel := 4) 2 rfl (by kernel_rfl) ?_
    (refine RW.call T hs rfl rfl rfl (refBlank08_con (PlainAt.mono k) p.fill _ _) ?_; intro v h11 w11 hle11 hp11 hs)
    obtain ⟨cs11, rfl, hi11⟩ := hp11
    have hi11' := hi11
    obtain ⟨bx, rfl, hbx, _⟩ := hi11
    have hob := hbx.one
    refine RW.nil ?_
    refine heldQ_normal ⟨_, _, 1, 1, hs, rfl, rfl⟩ ?_
    refine HW.one (fuel := 3) 3 rfl (by kernel_rfl) ?_
    (refine RW.lit T hs (vs := [.agg ([.int .i64 (blankI (β := PD k) p.fill).kind, .float .f64 (blankI (β := PD k) p.fill).num, .int .i32 (blankI (β := PD k) p.fill).char, bx] : List Value).toArray]) (cs := [.int .i64 (blankI (β := PD k) p.fill).kind, .float .f64 (blankI (β := PD k) p.fill).num, .int .i32 (blankI (β := PD k) p.fill).char, bx]) rfl rfl rfl rfl (by simp [Value.cells]) rfl (by simp [Value.cells]) rfl rfl rfl ?_; intro b12 w12 hs)
    obtain ⟨h12, hle12, hs, hS12⟩ := hs.freeze
    have hP12 : PlainAt (k + 2) h12 [.slice none 0 0, .slice (some ⟨b12, 0, none⟩) 1 1, .int .i64 p.fill] (⟨[], [blankI p.fill], p.fill⟩ : PlainD (PD (k + 1))) := ⟨_, _, rfl, IntsAt.nil _, ⟨_, _, _, rfl, hS12, AllN.one rfl (ItemAt.mono (PlainAt.mono (k + 1)) _ _ _ _ hle12 hi11')⟩⟩
    refine RW.nil ?_
    refine heldQ_normal ⟨_, _, 1, 1, hs, rfl, rfl⟩ ?_
    refine HW.takeR (fuel := 2) 6 rfl (fun _ _ ka kb _ hs hka hkb => Y.build T rfl rfl rfl rfl rfl rfl rfl) ⟨_, _, 1, 1, hs, rfl, rfl⟩ rfl (by kernel_rfl) (by kernel_rfl) (by kernel_rfl) ?_
    refine HW.one (fuel := 1) 7 rfl (by kernel_rfl) ?_
    (refine RW.call T hs rfl rfl rfl (refPart2_con k _ (⟨[], [blankI p.fill], p.fill⟩ : PlainD (PD (k + 1))) 0 (blankP k) _ _ hP12 (show 0 < 1 from Nat.one_pos) (show (blankI p.fill : ItemD (PlainD (PD k))).kind = 2 from hf) (show (blankI p.fill : ItemD (PlainD (PD k))).box = [blankP k] from by rw [hf]; rfl)) ?_; intro v h16 w16 hle16 hp16 hs)
    obtain ⟨cs16, rfl, hr16⟩ := hp16
    have hr16' := hr16
    obtain ⟨s8, it8, rfl, ⟨ad8, cp8, rfl, _⟩, ⟨ad9, cp9, xs9, rfl, _, _⟩⟩ := hr16
    refine RW.nil ?_
    refine heldQ_normal ⟨_, _, 1, 1, hs, rfl, rfl⟩ ?_
    refine HW.one (fuel := 0) 8 rfl (by kernel_rfl) ?_
    (refine RW.storeAll T hs 0 rfl rfl rfl rfl rfl rfl rfl rfl ?_; intro w17 hs)
    refine RW.nil ?_
    refine heldQ_normal ⟨_, _, 1, 1, hs, rfl, rfl⟩ ?_
    refine HW.done (by kernel_rfl) ?_
    refine calmQ_normal ?_
    refine Zerun ?_
    exact retQ_ret [_] h16 ⟨resN T hs 0 rfl rfl rfl rfl rfl rfl, trivial⟩ hs.dropAll ⟨_, rfl, hr16'⟩
theorem refFirst_con (k : Nat) (cs : List Value) (p : PlainD (PD (k + 1))) (w : World) (h : GHeap) (hp : PlainAt (k + 2) h cs p) (hf : p.fill ≠ 2) (hx : ∀ x ∈ p.items, x.kind = p.fill) : Con Tryz.prog 35 [.agg cs.toArray] w h (fun h' u => ∃ c2, u = .agg c2.toArray ∧ PlainAt (k + 2) h' c2 (firstP (β := PD k) p)) := by
  have hp' := hp
  obtain ⟨s, it, rfl, ⟨ad, cp, rfl, _⟩, ⟨ad2, cp2, xs, rfl, hS2, _⟩⟩ := hp
  have hcap := hS2.caps
  refine Con.of_body Tryz.func35 rfl Tryz.ntmps35 rfl rfl ?_
  intro hs
  refine Zrun ?_
  (refine RW.boxN hs rfl rfl ?_; intro b1 w1 hs)
  (refine RW.allocN T hs rfl rfl rfl rfl ?_; intro b2 w2 hs)
  refine Zerun ?_
  by_cases c : 0 < p.items.length
  · have e1 := hx (p.items.getD 0 noItem) (mem_getD _ _ _ c)
    have hfq : firstP (β := PD k) p = ⟨[], [p.items.getD 0 noItem], (p.items.getD 0 noItem).kind⟩ := by
      unfold firstP
      rw [e1]
      cases hI : p.items with
      | nil => rw [hI] at c; cases c
      | cons x l => rfl
    rw [hfq]
    refine Zerun ?_
    (refine RW.call T hs rfl rfl rfl (refPart_con (PlainAt.mono (k + 1)) _ p 0 _ _ hp' c (by rw [e1]; exact hf)) ?_; intro v h8 w8 hle8 hp8 hs)
    obtain ⟨cs8, rfl, hr8⟩ := hp8
    have hr8' := hr8
    obtain ⟨s8, it8, rfl, ⟨ad8, cp8, rfl, _⟩, ⟨ad9, cp9, xs9, rfl, _, _⟩⟩ := hr8
    refine Zerun ?_
    (refine RW.storeAll T hs 0 rfl rfl rfl rfl rfl rfl rfl rfl ?_; intro w9 hs)
    refine Zerun ?_
    exact retQ_ret [_] h8 ⟨resN T hs 0 rfl rfl rfl rfl rfl rfl, trivial⟩ hs.dropAll ⟨_, rfl, hr8'⟩
  · have hfq : firstP (β := PD k) p = ⟨[], [blankI p.fill], p.fill⟩ := by
      unfold firstP
      rw [List.eq_nil_of_length_eq_zero (show p.items.length = 0 by omega)]
      rfl
    rw [hfq]
    refine Zerun ?_
    refine CW.regionR T 1 1 hs rfl rfl ?_
    intro w9 hs
    refine HW.takeR (fuel := 8) 0 rfl (fun _ _ ka kb _ hs hka hkb => Y.fieldAddr T rfl rfl rfl rfl rfl) ⟨_, _, 1, 1, hs, rfl, rfl⟩ rfl (by kernel_rfl) (by kernel_rfl) (by kernel_rfl) ?_
    refine HW.takeR (fuel := 7) 1 rfl (fun _ _ ka kb _ hs hka hkb => Y.loadRow1 T hs ka hka rfl rfl rfl rfl) ⟨_, _, 1, 1, hs, rfl, rfl⟩ rfl (by kernel_rfl) (by kernel_rfl) (by kernel_rfl) ?_
    refine HW.takeR (fuel := 6) 4 rfl (fun _ _ ka kb _ hs hka hkb => Y.fieldAddr T rfl rfl rfl rfl rfl) ⟨_, _, 1, 1, hs, rfl, rfl⟩ rfl (by kernel_rfl) (by kernel_rfl) (by kernel_rfl) ?_
    refine HW.takeR (fuel := 5) 5 rfl (fun _ _ ka kb _ hs hka hkb => Y.loadRow1 T hs ka hka rfl rfl rfl rfl) ⟨_, _, 1, 1, hs, rfl, rfl⟩ rfl (by kernel_rfl) (by kernel_rfl) (by kernel_rfl) ?_
    refine HW.one (fuel := 4) 2 rfl (by kernel_rfl) ?_
    (refine RW.call T hs rfl rfl rfl (refBlank08_con (PlainAt.mono k) p.fill _ _) ?_; intro v h11 w11 hle11 hp11 hs)
    obtain ⟨cs11, rfl, hi11⟩ := hp11
    have hi11' := hi11
    obtain ⟨bx, rfl, hbx, _⟩ := hi11
    have hob := hbx.one
    refine RW.nil ?_
    refine heldQ_normal ⟨_, _, 1, 1, hs, rfl, rfl⟩ ?_
    refine HW.one (fuel := 3) 3 rfl (by kernel_rfl) ?_
    (refine RW.lit T hs (vs := [.agg ([.int .i64 (blankI (β := PD k) p.fill).kind, .float .f64 (blankI (β := PD k) p.fill).num, .int .i32 (blankI (β := PD k) p.fill).char, bx] : List Value).toArray]) (cs := [.int .i64 (blankI (β := PD k) p.fill).kind, .float .f64 (blankI (β := PD k) p.fill).num, .int .i32 (blankI (β := PD k) p.fill).char, bx]) rfl rfl rfl rfl (by simp [Value.cells]) rfl (by simp [Value.cells]) rfl rfl rfl ?_; intro b12 w12 hs)
    obtain ⟨h12, hle12, hs, hS12⟩ := hs.freeze
    have hP12 : PlainAt (k + 2) h12 [.slice none 0 0, .slice (some ⟨b12, 0, none⟩) 1 1, .int .i64 p.fill] (⟨[], [blankI p.fill], p.fill⟩ : PlainD (PD (k + 1))) := ⟨_, _, rfl, IntsAt.nil _, ⟨_, _, _, rfl, hS12, AllN.one rfl (ItemAt.mono (PlainAt.mono (k + 1)) _ _ _ _ hle12 hi11')⟩⟩
    refine RW.nil ?_
    refine heldQ_normal ⟨_, _, 1, 1, hs, rfl, rfl⟩ ?_
    refine HW.takeR (fuel := 2) 6 rfl (fun _ _ ka kb _ hs hka hkb => Y.build T rfl rfl rfl rfl rfl rfl rfl) ⟨_, _, 1, 1, hs, rfl, rfl⟩ rfl (by kernel_rfl) (by kernel_rfl) (by kernel_rfl) ?_
    refine HW.one (fuel := 1) 7 rfl (by kernel_rfl) ?_
    (refine RW.call T hs rfl rfl rfl (refPart_con (PlainAt.mono (k + 1)) _ (⟨[], [blankI p.fill], p.fill⟩ : PlainD (PD (k + 1))) 0 _ _ hP12 (show 0 < 1 from Nat.one_pos) (show (blankI p.fill : ItemD (PlainD (PD k))).kind ≠ 2 from hf)) ?_; intro v h16 w16 hle16 hp16 hs)
    obtain ⟨cs16, rfl, hr16⟩ := hp16
    have hr16' := hr16
    obtain ⟨s8, it8, rfl, ⟨ad8, cp8, rfl, _⟩, ⟨ad9, cp9, xs9, rfl, _, _⟩⟩ := hr16
    refine RW.nil ?_
    refine heldQ_normal ⟨_, _, 1, 1, hs, rfl, rfl⟩ ?_
    refine HW.one (fuel := 0) 8 rfl (by kernel_rfl) ?_
    (refine RW.storeAll T hs 0 rfl rfl rfl rfl rfl rfl rfl rfl ?_; intro w17 hs)
    refine RW.nil ?_
    refine heldQ_normal ⟨_, _, 1, 1, hs, rfl, rfl⟩ ?_
    refine HW.done (by kernel_rfl) ?_
    refine calmQ_normal ?_
    refine Zerun ?_
    exact retQ_ret [_] h16 ⟨resN T hs 0 rfl rfl rfl rfl rfl rfl, trivial⟩ hs.dropAll ⟨_, rfl, hr16'⟩
end Go.Proofs.YtmojpbfkpggjhaaGreat

/-
  Contracts of functions of package shape and of its reference, fifth part. No statement is proved here.
-/
namespace Go.Proofs.YtmojpbfkpggjhaaGreat
open Go Go.RowKit
set_option linter.unusedVariables false
set_option linter.unusedSimpArgs false
set_option maxHeartbeats 4000000
attribute [local irreducible] CW RW QW SW HW ConM retM heldQ calmQ elemP thenQ blockQ loopQ joinQ retQ Yields Con Sl

theorem split_con (s : Value) (l : List Int) (axis : Int) (w : World) (h : GHeap) (hl : IntsAt h s l) (hm : l.length ≤ 9223372036854775807) : Con Tryz.prog 80 [s, .int .i64 axis] w h
    (fun _ v => v = .tuple #[.int .i64 (splitSpec l axis).1, .int .i64 (splitSpec l axis).2.1, .int .i64 (splitSpec l axis).2.2.1, .bool (splitSpec l axis).2.2.2]) := by
  have hl' := hl
  obtain ⟨ad, cp, rfl, hS⟩ := hl
  have bad : ¬ splitOk l axis → splitSpec l axis = (0, 0, 0, false) := fun hn => by unfold splitSpec; rw [if_neg hn]
  refine Con.of_body Tryz.func80 rfl Tryz.ntmps80 rfl rfl ?_
  intro hs
  refine Zrun ?_
  (refine RW.call T hs rfl rfl rfl (good_con _ l _ _ hl' hm) ?_; intro v h1 w1 hle1 hp1 hs)
  subst hp1
  have hS := hS.mono hle1
  refine Zrun ?_
  refine RW.gd rfl rfl (fun hg => ?_) (fun hg => ?_)
  · have hb := bad (fun e => hg ((goodS_iff l).1 e.1))
    refine Zrun ?_
    exact retQ_ret [_, _, _, _] h1 ⟨rfl, rfl, rfl, rfl, trivial⟩ hs (by rw [hb]; rfl)
  have hg := Decidable.of_not_not hg
  refine Zrun ?_
  refine RW.gd rfl rfl (fun h2 => ?_) (fun h2 => ?_)
  · have hb := bad (fun e => by have := e.2.1; omega)
    refine Zrun ?_
    exact retQ_ret [_, _, _, _] h1 ⟨rfl, rfl, rfl, rfl, trivial⟩ hs (by rw [hb]; rfl)
  refine Zrun ?_
  refine CW.condD rfl (fun h3 => ?_) (fun h3 => ?_)
  · have hb := bad (fun e => by have := e.2.2.1; omega)
    refine Zrun ?_
    exact retQ_ret [_, _, _, _] h1 ⟨rfl, rfl, rfl, rfl, trivial⟩ hs (by rw [hb]; rfl)
  obtain ⟨q, rfl⟩ := Int.eq_ofNat_of_zero_le (show 0 ≤ axis by omega)
  have hq : q < l.length := by omega
  have hcaps := hS.caps
  refine Zrun ?_
  refine RW.val (Y.sliceHi T rfl rfl rfl rfl ?_) rfl ?_
  · omega
  have hlt : (l.take q).length = q := by simp; omega
  have hT1 : IntsAt h1 (.slice ad q cp) (l.take q) := by
    have := hS.take q (by omega)
    rw [Nat.mul_one, ← List.map_take] at this
    exact IntsAt.of_sl this
  (refine RW.call T hs rfl rfl rfl (product_con _ (l.take q) 1048576 _ _ hT1 (by omega)) ?_; intro v h2 w2 hle2 hp2 hs)
  subst hp2
  have hS := hS.mono hle2
  refine Zrun ?_
  refine RW.val (Y.sliceLo T rfl rfl rfl rfl ?_ ?_) rfl ?_
  · omega
  · omega
  have hT2 : IntsAt h2 (.slice (subAd ad (q + 1) cp 1) (l.length - (q + 1)) (cp - (q + 1))) (l.drop (q + 1)) := by
    have := hS.from (q + 1) (by omega)
    rw [Nat.mul_one, ← List.map_drop] at this
    exact IntsAt.of_sl this
  (refine RW.call T hs rfl rfl rfl (product_con _ (l.drop (q + 1)) 1048576 _ _ hT2 (by simp; omega)) ?_; intro v h4 w4 hle4 hp4 hs)
  subst hp4
  have hS := hS.mono hle4
  refine Zrun ?_
  have hsp : splitSpec l (q : Int) = if (product (l.take q) 1048576).2 = 0 ∧ (product (l.drop (q + 1)) 1048576).2 = 0 then ((product (l.take q) 1048576).1, l.getD q 0, (product (l.drop (q + 1)) 1048576).1, true) else (0, 0, 0, false) := by
    unfold splitSpec splitOk
    simp only [Int.toNat_natCast]
    have e1 : goodS l = true := (goodS_iff l).2 hg
    have e2 : (0 : Int) ≤ (q : Int) := by omega
    have e3 : (q : Int) < (l.length : Int) := by omega
    simp only [e1, e2, e3, true_and]
  refine RW.gd rfl rfl (fun h5 => ?_) (fun h5 => ?_)
  · refine Zrun ?_
    exact retQ_ret [_, _, _, _] h4 ⟨rfl, rfl, rfl, rfl, trivial⟩ hs (by rw [hsp, if_neg (fun e => h5 e.1)]; rfl)
  have h5 := Decidable.of_not_not h5
  refine Zrun ?_
  refine CW.condD rfl (fun h6 => ?_) (fun h6 => ?_)
  · refine Zrun ?_
    exact retQ_ret [_, _, _, _] h4 ⟨rfl, rfl, rfl, rfl, trivial⟩ hs (by rw [hsp, if_neg (fun e => h6 e.2)]; rfl)
  have h6 := Decidable.of_not_not h6
  refine Zrun ?_
  refine CW.regionQ T hs (Zqrun ?_) (by kernel_rfl)
  intro w hs
  refine Zrun ?_
  exact retQ_ret [_, _, _, _] h4 ⟨rfl, rfl, rfl, rfl, trivial⟩ hs (by rw [hsp, if_pos ⟨h5, h6⟩]; rfl)

end Go.Proofs.YtmojpbfkpggjhaaGreat

/-
  Contracts of functions of package shape and of its reference, sixth part. No statement is proved here.
-/
namespace Go.Proofs.YtmojpbfkpggjhaaGreat
open Go Go.RowKit
set_option linter.unusedVariables false
set_option linter.unusedSimpArgs false
set_option maxHeartbeats 4000000
attribute [local irreducible] CW RW QW SW HW ConM retM heldQ calmQ elemP thenQ blockQ loopQ joinQ retQ Yields Con Sl

/-- an element of a row of the caller's own is taken out, in place -/
theorem deleteInt_conM (ad : Option Addr) (cp i : Nat) (l : List Int) (w0 w : World) (h0 h : GHeap) (O : List Row) (hi : i < l.length) (hm : l.length ≤ 17592186044416) :
    ConM Tryz.prog 130 [.slice ad l.length cp, .int .i64 i, .int .i64 ((i : Int) + 1)] w0 h0 h (⟨ad, l.length, cp, 3, 1, l.map (Value.int .i64)⟩ :: O) w (fun h' O' v => h' = h ∧ v = .slice ad (l.length - 1) cp ∧ O' = ⟨ad, l.length - 1, cp, 3, 1, (l.eraseIdx i).map (Value.int .i64)⟩ :: O) := by
  refine ConM.of_body Tryz.func130 rfl Tryz.ntmps130 rfl rfl ?_
  intro hs
  obtain ⟨b, rfl⟩ := hs.rowAt (k := 0) rfl (by omega)
  have hcap := (hs.rowCap (k := 0) rfl)
  simp only [maxLen] at hcap
  refine Zrun ?_
  refine RW.val (Y.slice3 T rfl rfl rfl rfl rfl rfl ?_) rfl ?_
  · omega
  refine Zrun ?_
  refine CW.regionT T 6 hs ?_ (by kernel_rfl)
  intro w hs
  simp only [List.take_succ_cons, List.take_zero, List.drop_succ_cons, List.drop_zero]
  repeat
    first | with_reducible refine SW.nil ?_ | refine SW.val (Y.move rfl) rfl ?_ | refine SW.val (Y.assign rfl) rfl ?_ | (refine SW.val (Y.add rfl rfl ?_) rfl ?_; omega) | (refine SW.val (Y.sub rfl rfl ?_) rfl ?_; omega) | refine SW.val (Y.len T rfl rfl) rfl ?_ | (refine SW.val (Y.idxSN T rfl rfl (by assumption) rfl rfl rfl ?_) rfl ?_; omega) | (refine SW.val (Y.idxS T rfl rfl (by assumption) rfl rfl rfl ?_) rfl ?_; omega) | (refine SW.val (Y.ldInt T hs rfl (by assumption) rfl rfl ?_) rfl ?_; omega)
  refine SW.val (Y.sliceHi T rfl rfl rfl rfl ?_) rfl ?_
  · omega
  repeat
    first | with_reducible refine SW.nil ?_ | refine SW.val (Y.move rfl) rfl ?_ | refine SW.val (Y.assign rfl) rfl ?_ | (refine SW.val (Y.add rfl rfl ?_) rfl ?_; omega) | (refine SW.val (Y.sub rfl rfl ?_) rfl ?_; omega) | refine SW.val (Y.len T rfl rfl) rfl ?_ | (refine SW.val (Y.idxSN T rfl rfl (by assumption) rfl rfl rfl ?_) rfl ?_; omega) | (refine SW.val (Y.idxS T rfl rfl (by assumption) rfl rfl rfl ?_) rfl ?_; omega) | (refine SW.val (Y.ldInt T hs rfl (by assumption) rfl rfl ?_) rfl ?_; omega)
  refine SW.val (Y.sliceLo T rfl rfl rfl rfl ?_ ?_) rfl ?_
  · omega
  · omega
  repeat
    first | with_reducible refine SW.nil ?_ | refine SW.val (Y.move rfl) rfl ?_ | refine SW.val (Y.assign rfl) rfl ?_ | (refine SW.val (Y.add rfl rfl ?_) rfl ?_; omega) | (refine SW.val (Y.sub rfl rfl ?_) rfl ?_; omega) | refine SW.val (Y.len T rfl rfl) rfl ?_ | (refine SW.val (Y.idxSN T rfl rfl (by assumption) rfl rfl rfl ?_) rfl ?_; omega) | (refine SW.val (Y.idxS T rfl rfl (by assumption) rfl rfl rfl ?_) rfl ?_; omega) | (refine SW.val (Y.ldInt T hs rfl (by assumption) rfl rfl ?_) rfl ?_; omega)
  have e1 : ((i : Int) + 1).toNat = i + 1 := by omega
  refine RW.appendSelf T hs 0 (p := i) (q := i + 1) (m := l.length) rfl rfl rfl rfl rfl rfl ?_ ?_ ?_ ?_ rfl ?_
  · simp only [e1]
  · omega
  · omega
  · exact one_ints _ _
  intro w2 hs
  refine Zrun ?_
  refine RW.val (Y.sliceLH T rfl rfl rfl rfl rfl ?_) rfl ?_
  · omega
  refine RW.clear T hs 0 (q := l.length - 1) rfl rfl rfl rfl rfl ?_ rfl rfl ?_ ?_ ?_ ?_ ?_
  · intro u hu; simp [Value.cells] at hu; subst hu; rfl
  · have : ((↑(i + (l.length - (i + 1))) : Int)).toNat = l.length - 1 := by omega
    rw [this]
  · omega
  · omega
  · omega
  intro w3 hs
  refine Zrun ?_
  refine retM_ret [_] h _ ⟨rfl, trivial⟩ (GLe.refl _) hs ⟨rfl, ?_, ?_⟩
  · simp only [packv]
    congr 1; omega
  · have e2 : i + (l.length - (i + 1)) = l.length - 1 := by omega
    simp only [List.set_cons_zero, e2, Nat.mul_one, ← List.map_take, ← List.map_drop, ← List.map_append, eraseIdx_eq]

theorem without_con (s : Value) (l : List Int) (axis : Int) (w : World) (h : GHeap) (hl : IntsAt h s l) (hm : l.length ≤ 17592186044416) : Con Tryz.prog 82 [s, .int .i64 axis] w h
    (fun h' v => ∃ u, v = .tuple #[u, .bool (withoutSpec l axis).2] ∧ IntsAt h' u (withoutSpec l axis).1) := by
  obtain ⟨ad, cp, rfl, hS⟩ := hl
  have bad : ¬ (0 ≤ axis ∧ axis < l.length) → withoutSpec l axis = ([], false) := fun hn => by unfold withoutSpec; rw [if_neg hn]
  refine Con.of_body Tryz.func82 rfl Tryz.ntmps82 rfl rfl ?_
  intro hs
  refine Zrun ?_
  refine RW.gd rfl rfl (fun h2 => ?_) (fun h2 => ?_)
  · have hb := bad (fun e => by have := e.1; omega)
    refine Zrun ?_
    exact retQ_ret [_, _] h ⟨rfl, rfl, trivial⟩ hs (by rw [hb]; exact ⟨_, rfl, IntsAt.nil _⟩)
  refine Zrun ?_
  refine CW.condD rfl (fun h3 => ?_) (fun h3 => ?_)
  · have hb := bad (fun e => by have := e.2; omega)
    refine Zrun ?_
    exact retQ_ret [_, _] h ⟨rfl, rfl, trivial⟩ hs (by rw [hb]; exact ⟨_, rfl, IntsAt.nil _⟩)
  obtain ⟨q, rfl⟩ := Int.eq_ofNat_of_zero_le (show 0 ≤ axis by omega)
  have hq : q < l.length := by omega
  have hw : withoutSpec l (q : Int) = (l.eraseIdx q, true) := by
    unfold withoutSpec
    rw [if_pos ⟨by omega, by omega⟩]
    simp
  refine Zrun ?_
  (refine RW.callM T hs rfl rfl rfl (cloneInt_conM ad cp l _ _ _ _ _ hS hm) ?_; intro v h1 O1 w1 hle1 hp1 hs)
  obtain ⟨rfl, ad', cp', rfl, rfl⟩ := hp1
  refine Zrun ?_
  (refine RW.callM T hs rfl rfl rfl (deleteInt_conM ad' cp' q l _ _ _ _ _ hq hm) ?_; intro v h2 O2 w2 hle2 hp2 hs)
  obtain ⟨rfl, rfl, rfl⟩ := hp2
  obtain ⟨h3, hle3, hs, hS3⟩ := hs.freeze
  refine Zrun ?_
  exact retQ_ret [_, _] h3 ⟨rfl, rfl, trivial⟩ hs (by rw [hw]; exact ⟨_, rfl, IntsAt.of_sl hS3⟩)

end Go.Proofs.YtmojpbfkpggjhaaGreat

/-
  Contracts of part.Split: rows in boxes. No statement is proved here.
-/
namespace Go.Proofs.YtmojpbfkpggjhaaGreat
open Go Go.RowKit
set_option linter.unusedVariables false
set_option linter.unusedSimpArgs false
set_option maxHeartbeats 4000000
attribute [local irreducible] CW RW QW SW HW ConM retM heldQ calmQ elemP thenQ blockQ loopQ joinQ retQ Yields Con Sl zF magR unitF truncF fwF wholeF tidySpec elemQ rankF leastN tidyW
set_option maxHeartbeats 4000000

/-- how many rows an array has along its last axis, and how long they are -/
structure RowsOf (s : List Int) (len j m n : Nat) : Prop where
  hj : j + 1 = s.length
  hs : splitSpec s (j : Int) = ((m : Int), (n : Int), 1, true)
  hn : s.getD j 0 = (n : Int)
  hm : product (s.take j) 1048576 = ((m : Int), 0)
  hl : len = m * n
  hm2 : m ≤ 1048576
theorem rows_of {s : List Int} {len : Nat} (hp : product s 1048576 = ((len : Int), 0)) (h0 : 0 < s.length) : ∃ j m n, RowsOf s len j m n := by
  obtain ⟨P, S, d, rfl, hPj⟩ := mid_of s (s.length - 1) (by omega)
  have hS : S = [] := by
    refine List.eq_nil_of_length_eq_zero ?_
    rw [List.length_append, List.length_cons] at hPj
    omega
  subst hS
  have hg : goodS (P ++ d :: []) = true := (goodS_iff _).2 (by rw [hp])
  obtain ⟨hgP, _, hd⟩ := good_mid hg
  obtain ⟨n, rfl⟩ := Int.eq_ofNat_of_zero_le hd
  have hpp := pr_pos P
  have hPm := product_good P hgP
  obtain ⟨m, hm⟩ : ∃ m : Nat, (m : Int) = (if 0 ∈ P then 0 else pr P) := by
    split
    · exact ⟨0, rfl⟩
    · exact ⟨(pr P).toNat, by omega⟩
  rw [← hm] at hPm
  have hle := ((goodS_spec _).1 hgP).2.2
  have hm2 : m ≤ 1048576 := by split at hm <;> omega
  have hps := product_good _ hg
  rw [hp] at hps
  have hps := congrArg Prod.fst hps
  dsimp only at hps
  have hprs : pr (P ++ [(n : Int)]) = pr P * max 1 (n : Int) := pr_snoc P n
  refine ⟨P.length, m, n, by rw [List.length_append]; rfl, ?_, mid_get P [] n, by rw [mid_take]; exact hPm, ?_, hm2⟩
  · unfold splitSpec
    rw [if_pos ⟨hg, by omega, by rw [List.length_append, List.length_cons]; omega, by rw [Int.toNat_natCast, mid_take, hPm], by rw [Int.toNat_natCast, mid_drop]; rfl⟩, Int.toNat_natCast, mid_take, mid_drop, mid_get, hPm]
    rfl
  · have : (len : Int) = (m : Int) * (n : Int) := by
      rw [hps, hprs]
      by_cases c1 : 0 ∈ P
      · rw [if_pos (List.mem_append_left _ c1)]
        rw [if_pos c1] at hm
        rw [hm, Int.zero_mul]
      · rw [if_neg c1] at hm
        by_cases c2 : n = 0
        · rw [if_pos (List.mem_append_right _ (by rw [c2]; exact List.mem_cons_self)), c2]
          exact (Int.mul_zero _).symm
        · rw [if_neg (fun h => by
            rcases List.mem_append.1 h with h | h
            · exact c1 h
            · have := List.mem_singleton.1 h; omega), hm, show max 1 (n : Int) = n by omega]
    have := Int.natCast_mul m n
    omega
noncomputable def rowA {k : Nat} (v : VecD (AD (k + 1))) (n i : Nat) : AD (k + 2) := (⟨[(n : Int)], v.pick (spanL (i * n) ((i + 1) * n)) (blankA k)⟩ : ArrD (AD (k + 1)))
noncomputable def rowsA {k : Nat} (v : VecD (AD (k + 1))) (n m : Nat) : List (AD (k + 2)) := (List.range m).map (rowA v n)
noncomputable def splitA {k : Nat} (a : ArrD (AD (k + 1))) (j m n : Nat) : AD (k + 3) := (⟨a.shape.take j, ⟨6, [], [], rowsA a.vec n m⟩⟩ : ArrD (AD (k + 2)))
theorem partSplit0_con (k : Nat) (cs : List Value) (a : ArrD (AD (k + 1))) (w : World) (h : GHeap) (ha : ArrAt (k + 2) h cs a) (h0 : a.shape.length = 0) : Con Tryz.prog 32 [.agg cs.toArray] w h (fun h' u => ∃ c2, u = .tuple #[.agg c2.toArray, .int .i64 0] ∧ ArrAt (k + 2) h' c2 a) := by
  have ha' := ha
  obtain ⟨s, vc, rfl, ⟨ad, cap, rfl, _⟩, hv⟩ := ha
  obtain ⟨wv, nv, sm, il, fl, ch, bx, ⟨rfl, hoc⟩, _⟩ := hv
  have h0' : (a.shape.length : Int) = 0 := by omega
  refine Con.of_body Tryz.func32 rfl Tryz.ntmps32 rfl rfl ?_
  intro hs
  refine Zrun ?_
  (refine RW.boxN hs rfl rfl ?_; intro b1 w1 hs)
  (refine RW.allocN T hs rfl rfl rfl rfl ?_; intro b2 w2 hs)
  refine Zerun ?_
  (refine RW.storeAll T hs 0 rfl rfl rfl rfl rfl rfl (by show (true && (vecCells a.vec.kind wv nv sm il fl ch bx).all Value.oneCell') = true; rw [hoc]; rfl) rfl ?_; intro w3 hs)
  refine Zerun ?_
  exact retQ_ret [_, _] h ⟨resN T hs 0 rfl rfl rfl rfl rfl rfl, rfl, trivial⟩ hs.dropAll ⟨_, rfl, ha'⟩
theorem partSplit_con (k : Nat) (cs : List Value) (a : ArrD (AD (k + 1))) (j m n : Nat) (w : World) (h : GHeap) (ha : ArrAt (k + 2) h cs a) (H : RowsOf a.shape a.vec.len j m n) (h8 : a.shape.length ≤ 8) (hm : a.vec.len ≤ 1048576) (hk0 : a.vec.kind ≠ 0) : Con Tryz.prog 32 [.agg cs.toArray] w h (fun h' u => ∃ c2, u = .tuple #[.agg c2.toArray, .int .i64 (deepE (k + 2) (splitA a j m n))] ∧ ArrAt (k + 3) h' c2 (deepA (k + 2) (splitA a j m n))) := by
  obtain ⟨hj, hsp, hn, hpm, hl, hm2⟩ := H
  obtain ⟨s, vc, rfl, ⟨ad, cap, rfl, hS⟩, hv⟩ := ha
  have hv' := hv
  obtain ⟨wv, nv, sm, il, fl, ch, bx, ⟨rfl, hoc⟩, _⟩ := hv
  have hj0 : ¬ (a.shape.length : Int) = 0 := by omega
  have hjj : (a.shape.length : Int) - 1 = (j : Int) := by omega
  have hn2 : n ≤ 1048576 ∨ m = 0 := by
    rcases Nat.eq_zero_or_pos m with e | e
    · exact .inr e
    · have := Nat.le_mul_of_pos_left n e
      exact .inl (by omega)
  have hIs : IntsAt h (.slice ad a.shape.length cap) a.shape := ⟨_, _, rfl, hS⟩
  have gj := map_get (Value.int .i64) a.shape j 0 (by omega)
  refine Con.of_body Tryz.func32 rfl Tryz.ntmps32 rfl rfl ?_
  intro hs
  refine Zrun ?_
  (refine RW.boxN hs rfl rfl ?_; intro b1 w1 hs)
  (refine RW.allocN T hs rfl rfl rfl rfl ?_; intro b2 w2 hs)
  refine Zerun ?_
  rw [hjj]
  refine Zerun ?_
  rw [Int.toNat_natCast, hn]
  refine Zerun ?_
  (refine RW.call T hs rfl rfl rfl (split_con _ a.shape (j : Int) _ _ hIs (by omega)) ?_; intro v h32 w32 hle32 hp32 hs)
  rw [hsp] at hp32
  subst hp32
  have hIs := hIs.mono hle32
  have hv' := hv'.mono (ArrAt.mono (k + 1)) hle32
  refine Zerun ?_
  refine RW.make T hs rfl rfl rfl rfl rfl (by omega) (by omega) (by dsimp only; omega) (by omega) ?_
  intro b10 w10 hs
  rw [Int.toNat_natCast] at hs ⊢
  have hzl := (hs.own _ List.mem_cons_self).1.1
  generalize (madeCells _ _).toList = zs at hs hzl
  have hzl : zs.length = (m - 0) * 9 := hzl
  have hs : Sees w h h32 [⟨some ⟨b10, 0, none⟩, m, m, 39, 9, [] ++ zs⟩, ⟨some ⟨b2, 0, none⟩, 1, 1, 39, 9, .slice none 0 0 :: vecCells 0 (.slice none 0 0) 0 (.slice none 0 0) (.slice none 0 0) (.slice none 0 0) (.slice none 0 0) (.slice none 0 0)⟩, ⟨some ⟨b1, 0, none⟩, 1, 1, 39, 9, .slice ad a.shape.length cap :: vecCells a.vec.kind wv nv sm il fl ch bx⟩] w10 := hs
  refine Zerun ?_
  refine CW.loop (fun u : Nat × List Value × List Value × GHeap => [(1, .pointer (some ⟨b1, 0, none⟩)), (2, .pointer (some ⟨b2, 0, none⟩)), (4, .int .i64 (j : Int)), (5, .int .i64 (n : Int)), (10, .slice (some ⟨b10, 0, none⟩) m m), (40, .int .i64 (m : Int)), (41, .int .i64 u.1)]) (fun u w' => u.1 ≤ m ∧ GLe h32 u.2.2.2 ∧ u.2.2.1.length = (m - u.1) * 9 ∧ AllN 9 (ArrAt (k + 2) u.2.2.2) u.2.1 ((List.range u.1).map (rowA a.vec n)) ∧ Sees w h u.2.2.2 [⟨some ⟨b10, 0, none⟩, m, m, 39, 9, u.2.1 ++ u.2.2.1⟩, ⟨some ⟨b2, 0, none⟩, 1, 1, 39, 9, .slice none 0 0 :: vecCells 0 (.slice none 0 0) 0 (.slice none 0 0) (.slice none 0 0) (.slice none 0 0) (.slice none 0 0) (.slice none 0 0)⟩, ⟨some ⟨b1, 0, none⟩, 1, 1, 39, 9, .slice ad a.shape.length cap :: vecCells a.vec.kind wv nv sm il fl ch bx⟩] w') (fun u => m - u.1) (0, [], zs, h32) ⟨rfl, rfl, rfl, rfl, rfl, rfl, rfl, trivial⟩ ⟨by omega, GLe.refl _, hzl, rfl, hs⟩ ?_
  rintro ⟨i, vs, zs, hh⟩ w11 ⟨hi, hgl, hzl, hAv, hs⟩
  dsimp only at hi hgl hzl hAv hs ⊢
  have hIs := hIs.mono hgl
  have hv' := hv'.mono (ArrAt.mono (k + 1)) hgl
  by_cases hlt : i < m
  · have hmul := Nat.mul_le_mul_right n (show i + 1 ≤ m from hlt)
    have hmul0 : i * n ≤ (i + 1) * n := Nat.mul_le_mul_right n (Nat.le_succ i)
    have e1 : (i : Int) * (n : Int) = ((i * n : Nat) : Int) := (Int.natCast_mul _ _).symm
    have e2 : ((i : Int) + 1) * (n : Int) = (((i + 1) * n : Nat) : Int) := by rw [Int.natCast_mul]; rfl
    refine Zerun ?_
    (refine RW.lit T hs (vs := [.int .i64 (n : Int)]) (cs := [.int .i64 (n : Int)]) rfl rfl rfl rfl (by simp [Value.cells]) rfl rfl rfl rfl rfl ?_; intro b47 w47 hs)
    obtain ⟨h48, hle48, hs, hS48⟩ := hs.freeze
    have hI48 : IntsAt h48 (.slice (some ⟨b47, 0, none⟩) 1 1) [(n : Int)] := IntsAt.of_sl hS48
    have hv' := hv'.mono (ArrAt.mono (k + 1)) hle48
    refine Zerun ?_
    refine RW.val (Y.mul rfl rfl (by rw [e1]; omega)) rfl ?_
    rw [e1]
    refine Zerun ?_
    refine RW.val (Y.mul rfl rfl (by rw [e2]; omega)) rfl ?_
    rw [e2]
    refine Zerun ?_
    (refine RW.call T hs rfl rfl rfl (flatCut_con (ArrAt.mono (k + 1)) (ArrAt.one (k + 1)) (ArrAt.siz (k + 1)) (blankA k) (fun w h => flatBlank_con (ArrAt.mono k) (ArrAt.one k) w h) _ a.vec ((i * n : Nat) : Int) (((i + 1) * n : Nat) : Int) _ _ hv' hm hk0) ?_; intro v h57 w57 hle57 hp57 hs)
    obtain ⟨cs57, rfl, hv57⟩ := hp57
    rw [show cutA a.vec.len ((i * n : Nat) : Int) = i * n from by unfold cutA; omega, show cutB a.vec.len ((i * n : Nat) : Int) (((i + 1) * n : Nat) : Int) = (i + 1) * n from by unfold cutB cutA; omega] at hv57
    have hI48 := hI48.mono hle57
    have hrow : ArrAt (k + 2) h57 (.slice (some ⟨b47, 0, none⟩) 1 1 :: cs57) (rowA a.vec n i) := ⟨_, _, rfl, hI48, hv57⟩
    have hv57' := hv57
    obtain ⟨wv2, nv2, sm2, il2, fl2, ch2, bx2, ⟨rfl, hoc2⟩, -⟩ := hv57
    have hz9 : (zs.take 9).length = 9 := by
      rw [List.length_take]
      have : 9 ≤ zs.length := by rw [hzl]; omega
      omega
    obtain ⟨ys, hys⟩ : ∃ ys, (.slice (some ⟨b47, 0, none⟩) 1 1 :: vecCells (a.vec.pick (spanL (i * n) ((i + 1) * n)) (blankA k)).kind wv2 nv2 sm2 il2 fl2 ch2 bx2 : List Value) = ys := ⟨_, rfl⟩
    have hyl : ys.length = 9 := by rw [← hys]; rfl
    have hyo : ∀ u ∈ ys, u.oneCell' = true := ArrAt.one (k + 2) _ _ _ (by rw [← hys]; exact hrow)
    have hvl : vs.length = i * 9 := by rw [hAv.length, List.length_map, List.length_range]
    have hput := putCells_mid ys vs (zs.take 9) (zs.drop 9) (by rw [hz9, hyl])
    rw [List.take_append_drop, hvl] at hput
    have hzd : (zs.drop 9).length = (m - (i + 1)) * 9 := by rw [List.length_drop, hzl]; omega
    refine Zerun ?_
    refine RW.val (Y.build T rfl rfl rfl rfl rfl rfl rfl) rfl ?_
    refine RW.val (Y.idxRN T hs 0 rfl rfl rfl rfl rfl rfl ?_) rfl ?_
    · omega
    refine RW.stN T hs 0 rfl rfl rfl rfl rfl rfl (by have := hyo; rw [← hys] at this; exact this) rfl (by omega) ?_
    intro w18 hs
    dsimp only [List.set_cons_zero] at hs
    have hs : Sees w h h57 [⟨some ⟨b10, 0, none⟩, m, m, 39, 9, (vs ++ ys) ++ zs.drop 9⟩, ⟨some ⟨b2, 0, none⟩, 1, 1, 39, 9, .slice none 0 0 :: vecCells 0 (.slice none 0 0) 0 (.slice none 0 0) (.slice none 0 0) (.slice none 0 0) (.slice none 0 0) (.slice none 0 0)⟩, ⟨some ⟨b1, 0, none⟩, 1, 1, 39, 9, .slice ad a.shape.length cap :: vecCells a.vec.kind wv nv sm il fl ch bx⟩] w18 := by rw [List.append_assoc, ← hput, ← hys]; exact hs
    have hnx : AllN 9 (ArrAt (k + 2) h57) (vs ++ ys) ((List.range (i + 1)).map (rowA a.vec n)) := by
      rw [List.range_succ, List.map_append]
      exact (hAv.mono (fun u a hv => ArrAt.mono (k + 2) _ _ _ _ (hle48.trans hle57) hv)).append (AllN.one hyl (by rw [← hys]; exact hrow))
    refine Zerun ?_
    exact loopQ_round (i + 1, vs ++ ys, zs.drop 9, h57) ⟨rfl, rfl, rfl, rfl, rfl, rfl, rfl, trivial⟩ ⟨by dsimp only; omega, (hgl.trans hle48).trans hle57, hzd, hnx, hs⟩ (by dsimp only; omega)
  obtain rfl : i = m := by omega
  have hz0 : zs = [] := List.eq_nil_of_length_eq_zero (by rw [hzl]; omega)
  rw [hz0, List.append_nil] at hs
  obtain ⟨h60, hle60, hs, hS60⟩ := hs.freeze
  have hIs := hIs.mono hle60
  have hRl : (rowsA a.vec n i).length = i := by unfold rowsA; rw [List.length_map, List.length_range]
  have hR60 : RowsAt 9 (ArrAt (k + 2) h60) h60 (.slice (some ⟨b10, 0, none⟩) (rowsA a.vec n i).length i) (rowsA a.vec n i) := by
    rw [hRl]
    refine ⟨_, _, vs, by rw [hRl], by rw [hRl]; exact hS60, hAv.mono (fun u a hv => ArrAt.mono (k + 2) _ _ _ _ hle60 hv)⟩
  rw [hRl] at hR60
  refine Zerun ?_
  (refine RW.call T hs rfl rfl rfl (without_con _ a.shape (j : Int) _ _ hIs (by omega)) ?_; intro v h65 w65 hle65 hp65 hs)
  obtain ⟨u65, rfl, hI65⟩ := hp65
  have hwo : withoutSpec a.shape (j : Int) = (a.shape.take j, true) := by
    unfold withoutSpec
    rw [if_pos (by omega), Int.toNat_natCast, ← eraseIdx_eq, List.drop_of_length_le (by omega), List.append_nil]
  rw [hwo] at hI65 ⊢
  obtain ⟨ad65, cp65, rfl, hS65⟩ := id hI65
  have hR60 := RowsAt.mono hle65 (fun u a hv => ArrAt.mono (k + 2) _ _ u a hle65 hv) hR60
  refine Zerun ?_
  (refine RW.call T hs rfl rfl rfl (vecBoxes_con (ArrAt.mono (k + 2)) (ArrAt.one (k + 2)) _ (rowsA a.vec n i) _ _ hR60 (by omega)) ?_; intro v h70 w70 hle70 hp70 hs)
  obtain ⟨cs70, rfl, hv70⟩ := hp70
  have hI65 := hI65.mono hle70
  have hX : ArrAt (k + 3) h70 (.slice ad65 (a.shape.take j).length cp65 :: cs70) (splitA a j i n) := ⟨_, _, rfl, hI65, hv70⟩
  obtain ⟨wv7, nv7, sm7, il7, fl7, ch7, bx7, ⟨rfl, hoc7⟩, -⟩ := hv70
  refine Zerun ?_
  refine RW.val (Y.build T rfl rfl rfl rfl rfl rfl rfl) rfl ?_
  refine Zerun ?_
  (refine RW.call T hs rfl rfl rfl (partDeep_con (k + 2) _ (splitA a j i n) _ _ hX) ?_; intro v h72 w72 hle72 hp72 hs)
  obtain ⟨cs72, rfl, hr72⟩ := hp72
  have hr72' := hr72
  obtain ⟨a6, ha6e⟩ : ∃ a6, deepA (k + 2) (splitA a j i n) = a6 := ⟨_, rfl⟩
  rw [ha6e] at hr72 hr72' ⊢
  obtain ⟨s6, vc6, rfl, ⟨ad6, cap6, rfl, _⟩, hv6⟩ := hr72
  obtain ⟨wv6, nv6, sm6, il6, fl6, ch6, bx6, ⟨rfl, hoc6⟩, _⟩ := hv6
  refine Zerun ?_
  (refine RW.storeAll T hs 0 rfl rfl rfl rfl rfl rfl (show (Value.oneCell' (.slice ad6 _ cap6) && (vecCells (ArrD.vec (α := AD (k + 2)) a6).kind wv6 nv6 sm6 il6 fl6 ch6 bx6).all Value.oneCell') = true by rw [hoc6]; rfl) rfl ?_; intro w73 hs)
  refine Zerun ?_
  exact retQ_ret [_, _] h72 ⟨resN T hs 0 rfl rfl rfl rfl rfl rfl, rfl, trivial⟩ hs.dropAll ⟨_, rfl, hr72'⟩
end Go.Proofs.YtmojpbfkpggjhaaGreat

/-
  Contracts of the document's Split: rows in boxes. No statement is proved here.
-/
namespace Go.Proofs.YtmojpbfkpggjhaaGreat
open Go Go.RowKit
set_option linter.unusedVariables false
set_option linter.unusedSimpArgs false
set_option maxHeartbeats 4000000
attribute [local irreducible] CW RW QW SW HW ConM retM heldQ calmQ elemP thenQ blockQ loopQ joinQ retQ Yields Con Sl zF magR unitF truncF fwF wholeF tidySpec elemQ rankF leastN tidyW
set_option maxHeartbeats 4000000

def rowP {k : Nat} (p : PlainD (PD (k + 1))) (n i : Nat) : PD (k + 2) := (⟨[(((p.items.drop (i * n)).take n).length : Int)], (p.items.drop (i * n)).take n, p.fill⟩ : PlainD (PD (k + 1)))
def rowsP {k : Nat} (p : PlainD (PD (k + 1))) (n m : Nat) : List (ItemD (PD (k + 2))) := (List.range m).map fun i => ⟨2, 0, 0, [rowP p n i]⟩
def splitP {k : Nat} (p : PlainD (PD (k + 1))) (j m n : Nat) : PD (k + 3) := (⟨p.shape.take j, rowsP p n m, 2⟩ : PlainD (PD (k + 2)))
theorem refSplit0_con {γ : Type} {RC : GHeap → List Value → γ → Prop} (hRC : Mono RC) (cs : List Value) (p : PlainD γ) (w : World) (h : GHeap) (hp : PlainR RC h cs p) (h0 : p.shape.length = 0) : Con Tryz.prog 33 [.agg cs.toArray] w h (fun h' u => ∃ c2, u = .tuple #[.agg c2.toArray, .int .i64 0] ∧ PlainR RC h' c2 p) := by
  have hp' := hp
  obtain ⟨s, it, rfl, ⟨ad, cp, rfl, _⟩, ⟨ad2, cp2, xs, rfl, _, _⟩⟩ := hp
  have h0' : (p.shape.length : Int) = 0 := by omega
  refine Con.of_body Tryz.func33 rfl Tryz.ntmps33 rfl rfl ?_
  intro hs
  refine Zrun ?_
  (refine RW.boxN hs rfl rfl ?_; intro b1 w1 hs)
  (refine RW.allocN T hs rfl rfl rfl rfl ?_; intro b2 w2 hs)
  refine Zerun ?_
  (refine RW.storeAll T hs 0 rfl rfl rfl rfl rfl rfl rfl rfl ?_; intro w3 hs)
  refine Zerun ?_
  exact retQ_ret [_, _] h ⟨resN T hs 0 rfl rfl rfl rfl rfl rfl, rfl, trivial⟩ hs.dropAll ⟨_, rfl, hp'⟩
theorem refSplit_con (k : Nat) (cs : List Value) (p : PlainD (PD (k + 1))) (j m n : Nat) (w : World) (h : GHeap) (hp : PlainAt (k + 2) h cs p) (H : RowsOf p.shape p.items.length j m n) (h8 : p.shape.length ≤ 8) (hlen : p.items.length ≤ 1048576) : Con Tryz.prog 33 [.agg cs.toArray] w h (fun h' u => ∃ c2, u = .tuple #[.agg c2.toArray, .int .i64 (chkE (k + 2) (splitP p j m n))] ∧ PlainAt (k + 3) h' c2 (chkR (k + 2) (splitP p j m n))) := by
  obtain ⟨hj, hsp, hn, hpm, hl, hm2⟩ := H
  obtain ⟨s, it, rfl, ⟨ad, cp, rfl, hS⟩, ⟨ad2, cp2, xs, rfl, hS2, hA⟩⟩ := hp
  have hcap2 := hS2.caps
  have hcap := hS.caps
  have hj0 : ¬ (p.shape.length : Int) = 0 := by omega
  have hjj : (p.shape.length : Int) - 1 = (j : Int) := by omega
  have gj := map_get (Value.int .i64) p.shape j 0 (by omega)
  have hI : IntsAt h (.slice ad j cp) (p.shape.take j) := by
    have hT := hS.take j (by omega)
    rw [Nat.mul_one, ← List.map_take] at hT
    have e : (p.shape.take j).length = j := by rw [List.length_take]; omega
    exact ⟨ad, cp, by rw [e], by rw [e]; exact hT⟩
  have hIt : RowsAt 4 (ItemAt (PlainAt (k + 1)) h) h (.slice ad2 p.items.length cp2) p.items := ⟨_, _, _, rfl, hS2, hA⟩
  refine Con.of_body Tryz.func33 rfl Tryz.ntmps33 rfl rfl ?_
  intro hs
  refine Zrun ?_
  (refine RW.boxN hs rfl rfl ?_; intro b1 w1 hs)
  (refine RW.allocN T hs rfl rfl rfl rfl ?_; intro b2 w2 hs)
  refine Zerun ?_
  rw [hjj]
  refine Zerun ?_
  rw [Int.toNat_natCast, hn]
  refine Zerun ?_
  refine RW.val (Y.sliceHi T rfl rfl rfl rfl (by omega)) rfl ?_
  rw [Int.toNat_natCast]
  refine Zerun ?_
  (refine RW.call T hs rfl rfl rfl (refProduct_con _ (p.shape.take j) 1048576 _ _ hI (by rw [List.length_take]; omega)) ?_; intro v h29 w29 hle29 hp29 hs)
  rw [hpm] at hp29
  subst hp29
  have hI := hI.mono hle29
  have hIt := RowsAt.mono hle29 (fun u a hv => ItemAt.mono (PlainAt.mono (k + 1)) _ _ u a hle29 hv) hIt
  refine Zerun ?_
  refine RW.val (Y.sliceHi T rfl rfl rfl rfl (by omega)) rfl ?_
  rw [Int.toNat_natCast]
  refine Zerun ?_
  refine RW.val (Y.build T rfl rfl rfl rfl rfl rfl rfl) rfl ?_
  refine Zerun ?_
  (refine RW.allocN T hs rfl rfl rfl rfl ?_; intro b8 w8 hs)
  (refine RW.storeAll T hs 0 rfl rfl rfl rfl rfl rfl rfl rfl ?_; intro w9 hs)
  refine Zerun ?_
  have hs := hs.nilRow 69 4
  refine CW.loop (fun u : Nat × (Option Addr × Nat) × List Value × GHeap => [(1, .pointer (some ⟨b1, 0, none⟩)), (2, .pointer (some ⟨b2, 0, none⟩)), (5, .int .i64 (n : Int)), (6, .int .i64 (m : Int)), (8, .pointer (some ⟨b8, 0, none⟩)), (9, .int .i64 u.1)]) (fun u w' => u.1 ≤ m ∧ GLe h29 u.2.2.2 ∧ RowsAt 4 (ItemAt (PlainAt (k + 1)) u.2.2.2) u.2.2.2 (.slice ad2 p.items.length cp2) p.items ∧ IntsAt u.2.2.2 (.slice ad j cp) (p.shape.take j) ∧ AllN 4 (ItemAt (PlainAt (k + 2)) u.2.2.2) u.2.2.1 (rowsP p n u.1) ∧ Sees w h u.2.2.2 [⟨u.2.1.1, u.1, u.2.1.2, 69, 4, u.2.2.1⟩, ⟨some ⟨b8, 0, none⟩, 1, 1, 25, 3, [.slice ad j cp, .slice u.2.1.1 u.1 u.2.1.2, .int .i64 2]⟩, ⟨some ⟨b2, 0, none⟩, 1, 1, 25, 3, [.slice none 0 0, .slice none 0 0, .int .i64 0]⟩, ⟨some ⟨b1, 0, none⟩, 1, 1, 25, 3, [.slice ad p.shape.length cp, .slice ad2 p.items.length cp2, .int .i64 p.fill]⟩] w') (fun u => m - u.1) (0, (none, 0), [], h29) ⟨rfl, rfl, rfl, rfl, rfl, rfl, trivial⟩ ⟨by omega, GLe.refl _, hIt, hI, rfl, hs⟩ ?_
  rintro ⟨i, ⟨ra, rc⟩, vs, hh⟩ w11 ⟨hi, hg29, hIt, hI, hAv, hs⟩
  dsimp only at hi hg29 hIt hI hAv hs ⊢
  by_cases hlt : i < m
  · have hmul := Nat.mul_le_mul_right n (show i + 1 ≤ m from hlt)
    rw [Nat.add_mul, Nat.one_mul] at hmul
    have e1 : (i : Int) * (n : Int) = ((i * n : Nat) : Int) := (Int.natCast_mul _ _).symm
    have hRi : RowsAt 4 (ItemAt (PlainAt (k + 1)) hh) hh (.slice (subAd ad2 ((i : Int) * (n : Int)).toNat cp2 4) (((i : Int) * (n : Int) + (n : Int)).toNat - ((i : Int) * (n : Int)).toNat) (cp2 - ((i : Int) * (n : Int)).toNat)) ((p.items.drop (i * n)).take n) := by
      have := RowsAt.sub hIt (x := i * n) (y := i * n + n) (by omega) (by omega)
      rw [Nat.add_sub_cancel_left] at this
      rw [e1, Int.toNat_natCast, show (((i * n : Nat) : Int) + (n : Int)).toNat = i * n + n by omega, Nat.add_sub_cancel_left]
      exact this
    have hnx : ∀ (h' : GHeap) (cs' : List Value), ItemAt (PlainAt (k + 2)) h' cs' ⟨2, 0, 0, [rowP p n i]⟩ → AllN 4 (ItemAt (PlainAt (k + 2)) h') vs (rowsP p n i) → AllN 4 (ItemAt (PlainAt (k + 2)) h') (vs ++ cs') (rowsP p n (i + 1)) := by
      intro h' cs' hx hAv
      unfold rowsP at hAv ⊢
      rw [List.range_succ, List.map_append]
      exact hAv.append (AllN.one (by obtain ⟨_, rfl, _⟩ := hx; rfl) hx)
    refine Zerun ?_
    refine CW.regionG T 3 3 hs rfl rfl ?_
    intro w12 hs
    have hgl := GLe.refl hh
    refine HW.takeG (fuel := 20) 0 rfl (fun _ _ ka kb _ hg hs hka hkb => Y.fieldAddr T rfl rfl rfl rfl rfl) ⟨_, _, 3, 3, hgl, hs, rfl, rfl⟩ rfl (by kernel_rfl) (by kernel_rfl) (by kernel_rfl) ?_
    refine HW.takeG (fuel := 19) 2 rfl (fun _ _ ka kb _ hg hs hka hkb => Y.fieldAddr T rfl rfl rfl rfl rfl) ⟨_, _, 3, 3, hgl, hs, rfl, rfl⟩ rfl (by kernel_rfl) (by kernel_rfl) (by kernel_rfl) ?_
    refine HW.takeG (fuel := 18) 3 rfl (fun _ _ ka kb _ hg hs hka hkb => Y.loadRow1 T hs ka hka rfl rfl rfl rfl) ⟨_, _, 3, 3, hgl, hs, rfl, rfl⟩ rfl (by kernel_rfl) (by kernel_rfl) (by kernel_rfl) ?_
    refine HW.takeG (fuel := 17) 4 rfl (fun _ _ ka kb _ hg hs hka hkb => Y.move rfl) ⟨_, _, 3, 3, hgl, hs, rfl, rfl⟩ rfl (by kernel_rfl) (by kernel_rfl) (by kernel_rfl) ?_
    refine HW.takeG (fuel := 16) 5 rfl (fun _ _ ka kb _ hg hs hka hkb => Y.move rfl) ⟨_, _, 3, 3, hgl, hs, rfl, rfl⟩ rfl (by kernel_rfl) (by kernel_rfl) (by kernel_rfl) ?_
    refine HW.takeG (fuel := 15) 6 rfl (fun _ _ ka kb _ hg hs hka hkb => Y.mul rfl rfl (by rw [e1]; omega)) ⟨_, _, 3, 3, hgl, hs, rfl, rfl⟩ rfl (by kernel_rfl) (by kernel_rfl) (by kernel_rfl) ?_
    refine HW.takeG (fuel := 14) 7 rfl (fun _ _ ka kb _ hg hs hka hkb => Y.move rfl) ⟨_, _, 3, 3, hgl, hs, rfl, rfl⟩ rfl (by kernel_rfl) (by kernel_rfl) (by kernel_rfl) ?_
    refine HW.takeG (fuel := 13) 8 rfl (fun _ _ ka kb _ hg hs hka hkb => Y.move rfl) ⟨_, _, 3, 3, hgl, hs, rfl, rfl⟩ rfl (by kernel_rfl) (by kernel_rfl) (by kernel_rfl) ?_
    refine HW.takeG (fuel := 12) 9 rfl (fun _ _ ka kb _ hg hs hka hkb => Y.mul rfl rfl (by rw [e1]; omega)) ⟨_, _, 3, 3, hgl, hs, rfl, rfl⟩ rfl (by kernel_rfl) (by kernel_rfl) (by kernel_rfl) ?_
    refine HW.takeG (fuel := 11) 10 rfl (fun _ _ ka kb _ hg hs hka hkb => Y.move rfl) ⟨_, _, 3, 3, hgl, hs, rfl, rfl⟩ rfl (by kernel_rfl) (by kernel_rfl) (by kernel_rfl) ?_
    refine HW.takeG (fuel := 10) 11 rfl (fun _ _ ka kb _ hg hs hka hkb => Y.add rfl rfl (by rw [e1]; omega)) ⟨_, _, 3, 3, hgl, hs, rfl, rfl⟩ rfl (by kernel_rfl) (by kernel_rfl) (by kernel_rfl) ?_
    refine HW.takeG (fuel := 9) 12 rfl (fun _ _ ka kb _ hg hs hka hkb => Y.sliceLH T rfl rfl rfl rfl rfl (by rw [e1]; omega)) ⟨_, _, 3, 3, hgl, hs, rfl, rfl⟩ rfl (by kernel_rfl) (by kernel_rfl) (by kernel_rfl) ?_
    refine HW.takeG (fuel := 8) 13 rfl (fun _ _ ka kb _ hg hs hka hkb => Y.fieldAddr T rfl rfl rfl rfl rfl) ⟨_, _, 3, 3, hgl, hs, rfl, rfl⟩ rfl (by kernel_rfl) (by kernel_rfl) (by kernel_rfl) ?_
    refine HW.takeG (fuel := 7) 14 rfl (fun _ _ ka kb _ hg hs hka hkb => Y.loadRow1 T hs ka hka rfl rfl rfl rfl) ⟨_, _, 3, 3, hgl, hs, rfl, rfl⟩ rfl (by kernel_rfl) (by kernel_rfl) (by kernel_rfl) ?_
    refine HW.two (fuel := 6) 1 15 rfl rfl (by kernel_rfl) ?_ ?_
    · refine RW.val (Y.loadRow1 T hs 1 rfl rfl rfl rfl rfl) rfl ?_
      refine RW.nil ?_
      refine heldQ_normal ⟨_, _, 3, 3, hgl, hs, rfl, rfl⟩ ?_
      refine HW.one (fuel := 5) 15 rfl (by kernel_rfl) ?_
      (refine RW.call T hs rfl rfl rfl (refList08_con (PlainAt.mono (k + 1)) _ ((p.items.drop (i * n)).take n) p.fill _ _ hRi) ?_; intro v h57 w57 hle57 hp57 hs)
      obtain ⟨cs57, rfl, hp57⟩ := hp57
      have hp57 : PlainAt (k + 2) h57 cs57 (rowP p n i) := hp57
      have hAv := hAv.mono (fun u a hv => ItemAt.mono (PlainAt.mono (k + 2)) _ _ u a hle57 hv)
      have hI := hI.mono hle57
      have hIt := RowsAt.mono hle57 (fun u a hv => ItemAt.mono (PlainAt.mono (k + 1)) _ _ u a hle57 hv) hIt
      have hgl := hgl.trans hle57
      refine RW.nil ?_
      refine heldQ_normal ⟨_, _, 3, 3, hgl, hs, rfl, rfl⟩ ?_
      refine HW.one (fuel := 4) 16 rfl (by kernel_rfl) ?_
      (refine RW.call T hs rfl rfl rfl (refBox_con (k + 1) _ (rowP p n i) _ _ hp57) ?_; intro v h58 w58 hle58 hp58 hs)
      obtain ⟨cs58, rfl, hi58⟩ := hp58
      have hi58' := hi58
      obtain ⟨bx, rfl, hbx, _⟩ := hi58
      have hob := hbx.one
      have hAv := hAv.mono (fun u a hv => ItemAt.mono (PlainAt.mono (k + 2)) _ _ u a hle58 hv)
      have hI := hI.mono hle58
      have hIt := RowsAt.mono hle58 (fun u a hv => ItemAt.mono (PlainAt.mono (k + 1)) _ _ u a hle58 hv) hIt
      have hgl := hgl.trans hle58
      refine RW.nil ?_
      refine heldQ_normal ⟨_, _, 3, 3, hgl, hs, rfl, rfl⟩ ?_
      refine HW.one (fuel := 3) 17 rfl (by kernel_rfl) ?_
      (refine RW.lit T hs (vs := [.agg ([.int .i64 2, .float .f64 0, .int .i32 0, bx] : List Value).toArray]) (cs := [.int .i64 2, .float .f64 0, .int .i32 0, bx]) rfl rfl rfl rfl (by simp [Value.cells]) rfl (by simp [Value.cells]) rfl rfl rfl ?_; intro b59 w59 hs)
      refine RW.nil ?_
      refine heldQ_normal ⟨_, _, 4, 4, hgl, hs, rfl, rfl⟩ ?_
      refine HW.one (fuel := 2) 18 rfl (by kernel_rfl) ?_
      (refine RW.append T hs 1 rfl rfl (m := 1) (news := [.int .i64 2, .float .f64 0, .int .i32 0, bx]) rfl rfl rfl rfl rfl rfl (hs.src0 rfl (List.all_eq_true.mp (show List.all _ Value.oneCell' = true by show (bx.oneCell' && true) = true; rw [hob]; rfl))) (by simp) (by dsimp only; omega) (by omega) ?_; intro ad60 cp60 w60 hs; replace hs := hs.drop)
      refine RW.nil ?_
      refine heldQ_normal ⟨_, _, 3, 3, hgl, hs, rfl, rfl⟩ ?_
      refine HW.takeG (fuel := 1) 19 rfl (fun _ _ ka kb _ hg hs hka hkb => Y.fieldAddr T rfl rfl rfl rfl rfl) ⟨_, _, 3, 3, hgl, hs, rfl, rfl⟩ rfl (by kernel_rfl) (by kernel_rfl) (by kernel_rfl) ?_
      refine HW.one (fuel := 0) 20 rfl (by kernel_rfl) ?_
      (refine RW.store1 T hs 1 rfl rfl rfl rfl rfl rfl rfl rfl ?_; intro w61 hs)
      refine RW.nil ?_
      refine heldQ_normal ⟨_, _, 3, 3, hgl, hs, rfl, rfl⟩ ?_
      refine HW.done (by kernel_rfl) ?_
      refine calmQ_normal ?_
      have hAv := hnx _ _ hi58' hAv
      refine Zerun ?_
      exact loopQ_round (i + 1, (ad60, cp60), vs ++ [.int .i64 2, .float .f64 0, .int .i32 0, bx], h58) ⟨rfl, rfl, rfl, rfl, rfl, rfl, trivial⟩ ⟨by dsimp only; omega, hg29.trans hgl, hIt, hI, hAv, hs⟩ (by dsimp only; omega)
    · (refine RW.call T hs rfl rfl rfl (refList08_con (PlainAt.mono (k + 1)) _ ((p.items.drop (i * n)).take n) p.fill _ _ hRi) ?_; intro v h57 w57 hle57 hp57 hs)
      obtain ⟨cs57, rfl, hp57⟩ := hp57
      have hp57 : PlainAt (k + 2) h57 cs57 (rowP p n i) := hp57
      have hAv := hAv.mono (fun u a hv => ItemAt.mono (PlainAt.mono (k + 2)) _ _ u a hle57 hv)
      have hI := hI.mono hle57
      have hIt := RowsAt.mono hle57 (fun u a hv => ItemAt.mono (PlainAt.mono (k + 1)) _ _ u a hle57 hv) hIt
      have hgl := hgl.trans hle57
      refine RW.nil ?_
      refine heldQ_normal ⟨_, _, 3, 3, hgl, hs, rfl, rfl⟩ ?_
      refine HW.two (fuel := 5) 1 16 rfl rfl (by kernel_rfl) ?_ ?_
      · refine RW.val (Y.loadRow1 T hs 1 rfl rfl rfl rfl rfl) rfl ?_
        refine RW.nil ?_
        refine heldQ_normal ⟨_, _, 3, 3, hgl, hs, rfl, rfl⟩ ?_
        refine HW.one (fuel := 4) 16 rfl (by kernel_rfl) ?_
        (refine RW.call T hs rfl rfl rfl (refBox_con (k + 1) _ (rowP p n i) _ _ hp57) ?_; intro v h58 w58 hle58 hp58 hs)
        obtain ⟨cs58, rfl, hi58⟩ := hp58
        have hi58' := hi58
        obtain ⟨bx, rfl, hbx, _⟩ := hi58
        have hob := hbx.one
        have hAv := hAv.mono (fun u a hv => ItemAt.mono (PlainAt.mono (k + 2)) _ _ u a hle58 hv)
        have hI := hI.mono hle58
        have hIt := RowsAt.mono hle58 (fun u a hv => ItemAt.mono (PlainAt.mono (k + 1)) _ _ u a hle58 hv) hIt
        have hgl := hgl.trans hle58
        refine RW.nil ?_
        refine heldQ_normal ⟨_, _, 3, 3, hgl, hs, rfl, rfl⟩ ?_
        refine HW.one (fuel := 3) 17 rfl (by kernel_rfl) ?_
        (refine RW.lit T hs (vs := [.agg ([.int .i64 2, .float .f64 0, .int .i32 0, bx] : List Value).toArray]) (cs := [.int .i64 2, .float .f64 0, .int .i32 0, bx]) rfl rfl rfl rfl (by simp [Value.cells]) rfl (by simp [Value.cells]) rfl rfl rfl ?_; intro b59 w59 hs)
        refine RW.nil ?_
        refine heldQ_normal ⟨_, _, 4, 4, hgl, hs, rfl, rfl⟩ ?_
        refine HW.one (fuel := 2) 18 rfl (by kernel_rfl) ?_
        (refine RW.append T hs 1 rfl rfl (m := 1) (news := [.int .i64 2, .float .f64 0, .int .i32 0, bx]) rfl rfl rfl rfl rfl rfl (hs.src0 rfl (List.all_eq_true.mp (show List.all _ Value.oneCell' = true by show (bx.oneCell' && true) = true; rw [hob]; rfl))) (by simp) (by dsimp only; omega) (by omega) ?_; intro ad60 cp60 w60 hs; replace hs := hs.drop)
        refine RW.nil ?_
        refine heldQ_normal ⟨_, _, 3, 3, hgl, hs, rfl, rfl⟩ ?_
        refine HW.takeG (fuel := 1) 19 rfl (fun _ _ ka kb _ hg hs hka hkb => Y.fieldAddr T rfl rfl rfl rfl rfl) ⟨_, _, 3, 3, hgl, hs, rfl, rfl⟩ rfl (by kernel_rfl) (by kernel_rfl) (by kernel_rfl) ?_
        refine HW.one (fuel := 0) 20 rfl (by kernel_rfl) ?_
        (refine RW.store1 T hs 1 rfl rfl rfl rfl rfl rfl rfl rfl ?_; intro w61 hs)
        refine RW.nil ?_
        refine heldQ_normal ⟨_, _, 3, 3, hgl, hs, rfl, rfl⟩ ?_
        refine HW.done (by kernel_rfl) ?_
        refine calmQ_normal ?_
        have hAv := hnx _ _ hi58' hAv
        refine Zerun ?_
        exact loopQ_round (i + 1, (ad60, cp60), vs ++ [.int .i64 2, .float .f64 0, .int .i32 0, bx], h58) ⟨rfl, rfl, rfl, rfl, rfl, rfl, trivial⟩ ⟨by dsimp only; omega, hg29.trans hgl, hIt, hI, hAv, hs⟩ (by dsimp only; omega)
      · (refine RW.call T hs rfl rfl rfl (refBox_con (k + 1) _ (rowP p n i) _ _ hp57) ?_; intro v h58 w58 hle58 hp58 hs)
        obtain ⟨cs58, rfl, hi58⟩ := hp58
        have hi58' := hi58
        obtain ⟨bx, rfl, hbx, _⟩ := hi58
        have hob := hbx.one
        have hAv := hAv.mono (fun u a hv => ItemAt.mono (PlainAt.mono (k + 2)) _ _ u a hle58 hv)
        have hI := hI.mono hle58
        have hIt := RowsAt.mono hle58 (fun u a hv => ItemAt.mono (PlainAt.mono (k + 1)) _ _ u a hle58 hv) hIt
        have hgl := hgl.trans hle58
        refine RW.nil ?_
        refine heldQ_normal ⟨_, _, 3, 3, hgl, hs, rfl, rfl⟩ ?_
        refine HW.two (fuel := 4) 1 17 rfl rfl (by kernel_rfl) ?_ ?_
        · refine RW.val (Y.loadRow1 T hs 1 rfl rfl rfl rfl rfl) rfl ?_
          refine RW.nil ?_
          refine heldQ_normal ⟨_, _, 3, 3, hgl, hs, rfl, rfl⟩ ?_
          refine HW.one (fuel := 3) 17 rfl (by kernel_rfl) ?_
          (refine RW.lit T hs (vs := [.agg ([.int .i64 2, .float .f64 0, .int .i32 0, bx] : List Value).toArray]) (cs := [.int .i64 2, .float .f64 0, .int .i32 0, bx]) rfl rfl rfl rfl (by simp [Value.cells]) rfl (by simp [Value.cells]) rfl rfl rfl ?_; intro b59 w59 hs)
          refine RW.nil ?_
          refine heldQ_normal ⟨_, _, 4, 4, hgl, hs, rfl, rfl⟩ ?_
          refine HW.one (fuel := 2) 18 rfl (by kernel_rfl) ?_
          (refine RW.append T hs 1 rfl rfl (m := 1) (news := [.int .i64 2, .float .f64 0, .int .i32 0, bx]) rfl rfl rfl rfl rfl rfl (hs.src0 rfl (List.all_eq_true.mp (show List.all _ Value.oneCell' = true by show (bx.oneCell' && true) = true; rw [hob]; rfl))) (by simp) (by dsimp only; omega) (by omega) ?_; intro ad60 cp60 w60 hs; replace hs := hs.drop)
          refine RW.nil ?_
          refine heldQ_normal ⟨_, _, 3, 3, hgl, hs, rfl, rfl⟩ ?_
          refine HW.takeG (fuel := 1) 19 rfl (fun _ _ ka kb _ hg hs hka hkb => Y.fieldAddr T rfl rfl rfl rfl rfl) ⟨_, _, 3, 3, hgl, hs, rfl, rfl⟩ rfl (by kernel_rfl) (by kernel_rfl) (by kernel_rfl) ?_
          refine HW.one (fuel := 0) 20 rfl (by kernel_rfl) ?_
          (refine RW.store1 T hs 1 rfl rfl rfl rfl rfl rfl rfl rfl ?_; intro w61 hs)
          refine RW.nil ?_
          refine heldQ_normal ⟨_, _, 3, 3, hgl, hs, rfl, rfl⟩ ?_
          refine HW.done (by kernel_rfl) ?_
          refine calmQ_normal ?_
          have hAv := hnx _ _ hi58' hAv
          refine Zerun ?_
          exact loopQ_round (i + 1, (ad60, cp60), vs ++ [.int .i64 2, .float .f64 0, .int .i32 0, bx], h58) ⟨rfl, rfl, rfl, rfl, rfl, rfl, trivial⟩ ⟨by dsimp only; omega, hg29.trans hgl, hIt, hI, hAv, hs⟩ (by dsimp only; omega)
        · (refine RW.lit T hs (vs := [.agg ([.int .i64 2, .float .f64 0, .int .i32 0, bx] : List Value).toArray]) (cs := [.int .i64 2, .float .f64 0, .int .i32 0, bx]) rfl rfl rfl rfl (by simp [Value.cells]) rfl (by simp [Value.cells]) rfl rfl rfl ?_; intro b59 w59 hs)
          refine RW.nil ?_
          refine heldQ_normal ⟨_, _, 4, 4, hgl, hs, rfl, rfl⟩ ?_
          refine HW.one (fuel := 3) 1 rfl (by kernel_rfl) ?_
          refine RW.val (Y.loadRow1 T hs 2 rfl rfl rfl rfl rfl) rfl ?_
          refine RW.nil ?_
          refine heldQ_normal ⟨_, _, 4, 4, hgl, hs, rfl, rfl⟩ ?_
          refine HW.one (fuel := 2) 18 rfl (by kernel_rfl) ?_
          (refine RW.append T hs 1 rfl rfl (m := 1) (news := [.int .i64 2, .float .f64 0, .int .i32 0, bx]) rfl rfl rfl rfl rfl rfl (hs.src0 rfl (List.all_eq_true.mp (show List.all _ Value.oneCell' = true by show (bx.oneCell' && true) = true; rw [hob]; rfl))) (by simp) (by dsimp only; omega) (by omega) ?_; intro ad60 cp60 w60 hs; replace hs := hs.drop)
          refine RW.nil ?_
          refine heldQ_normal ⟨_, _, 3, 3, hgl, hs, rfl, rfl⟩ ?_
          refine HW.takeG (fuel := 1) 19 rfl (fun _ _ ka kb _ hg hs hka hkb => Y.fieldAddr T rfl rfl rfl rfl rfl) ⟨_, _, 3, 3, hgl, hs, rfl, rfl⟩ rfl (by kernel_rfl) (by kernel_rfl) (by kernel_rfl) ?_
          refine HW.one (fuel := 0) 20 rfl (by kernel_rfl) ?_
          (refine RW.store1 T hs 1 rfl rfl rfl rfl rfl rfl rfl rfl ?_; intro w61 hs)
          refine RW.nil ?_
          refine heldQ_normal ⟨_, _, 3, 3, hgl, hs, rfl, rfl⟩ ?_
          refine HW.done (by kernel_rfl) ?_
          refine calmQ_normal ?_
          have hAv := hnx _ _ hi58' hAv
          refine Zerun ?_
          exact loopQ_round (i + 1, (ad60, cp60), vs ++ [.int .i64 2, .float .f64 0, .int .i32 0, bx], h58) ⟨rfl, rfl, rfl, rfl, rfl, rfl, trivial⟩ ⟨by dsimp only; omega, hg29.trans hgl, hIt, hI, hAv, hs⟩ (by dsimp only; omega)
  obtain rfl : i = m := by omega
  obtain ⟨h60, hle60, hs, hS60⟩ := hs.freeze
  have hI := hI.mono hle60
  have hRl : (rowsP p n i).length = i := by unfold rowsP; rw [List.length_map, List.length_range]
  have hX : PlainAt (k + 3) h60 [.slice ad j cp, .slice ra i rc, .int .i64 2] (splitP p j i n) := by
    refine ⟨_, _, rfl, hI, ⟨ra, rc, vs, ?_, ?_, hAv.mono (fun u a hv => ItemAt.mono (PlainAt.mono (k + 2)) _ _ u a hle60 hv)⟩⟩
    · show Value.slice ra i rc = .slice ra (rowsP p n i).length rc
      rw [hRl]
    · show Sl h60 4 ra (rowsP p n i).length rc vs
      rw [hRl]
      exact hS60
  refine Zerun ?_
  (refine RW.call T hs rfl rfl rfl (refDeep_con (k + 2) _ (splitP p j i n) _ _ hX) ?_; intro v h63 w63 hle63 hp63 hs)
  obtain ⟨cs63, rfl, hr63⟩ := hp63
  have hr63' := hr63
  obtain ⟨s8, it8, rfl, ⟨ad8, cp8, rfl, _⟩, ⟨ad9, cp9, xs9, rfl, _, _⟩⟩ := hr63
  refine Zerun ?_
  (refine RW.storeAll T hs 1 rfl rfl rfl rfl rfl rfl rfl rfl ?_; intro w64 hs)
  refine Zerun ?_
  exact retQ_ret [_, _] h63 ⟨resN T hs 1 rfl rfl rfl rfl rfl rfl, rfl, trivial⟩ hs.dropAll ⟨_, rfl, hr63'⟩
end Go.Proofs.YtmojpbfkpggjhaaGreat

/-
  Plain laws of boxes that lie too deep, or not: the code and the document judge alike. No statement is proved here.
-/
namespace Go.Proofs.YtmojpbfkpggjhaaGreat
open Go Go.RowKit
set_option linter.unusedVariables false
set_option linter.unusedSimpArgs false
set_option maxHeartbeats 4000000
attribute [local irreducible] CW RW QW SW HW ConM retM heldQ calmQ elemP thenQ blockQ loopQ joinQ retQ Yields Con Sl zF magR unitF truncF fwF wholeF tidySpec elemQ rankF leastN tidyW
set_option maxHeartbeats 4000000

/-- good to a depth: the array, and the tidy plain one -/
theorem gc : ∀ (K : Nat) (D : Int) (p : PD K), chk K D p = 0 → tdy K (tidy K p) → ∀ d, (good K d (arr K p) ↔ chk K d (tidy K p) = 0)
  | 0, _, _, _, _, _ => ⟨fun _ => rfl, fun _ => trivial⟩
  | K + 1, D, p, hc, ht, d => by
    obtain ⟨h1, h2, h3, h4, h5⟩ := (chkP_ok (α := PD K) _ _ _).1 hc
    have hg := good_arr (K + 1) D p hc
    have ht : ∀ x ∈ (PlainD.items (α := PD K) p).map (tidyIt (tidy K)), tdyIt (tdy K) x := ht
    have hl : ((PlainD.items (α := PD K) p).map (tidyIt (tidy K))).length = (PlainD.items (α := PD K) p).length := List.length_map ..
    have hbx : PlainD.fill (α := PD K) p = 2 → (ArrD.vec (α := AD K) (arr (K + 1) p)).boxes = (PlainD.items (α := PD K) p).flatMap fun x => x.box.map (arr K) := by
      intro c2
      show (arrV (arr K) (PlainD.fill (α := PD K) p) (PlainD.items (α := PD K) p)).boxes = _
      unfold arrV
      rw [if_neg (by omega), if_pos c2]
    have hti : ∀ x ∈ PlainD.items (α := PD K) p, ∀ b, x.kind = 2 → x.box = [b] → tidyIt (tidy K) x = ⟨2, 0, 0, [tidy K b]⟩ := by
      intro x _ b hk hb
      unfold tidyIt
      rw [if_neg (by rw [hk]; decide), if_neg (by rw [hk]; decide), if_pos hk, hb]
      rfl
    have hR : chk (K + 1) d (tidy (K + 1) p) = 0 ↔ d ≠ 0 ∧ ∀ x ∈ PlainD.items (α := PD K) p, ∀ b, x.kind = 2 → x.box = [b] → chk K (d - 1) (tidy K b) = 0 := by
      have e := chkP_ok (α := PD K) (chk K (d - 1)) d (tidyP (tidy K) (p : PlainD (PD K)))
      refine Iff.trans e ⟨?_, ?_⟩
      · rintro ⟨a1, _, _, _, a5⟩
        refine ⟨a1, fun x hx b hk hb => ?_⟩
        have hi := a5 (tidyIt (tidy K) x) (List.mem_map.2 ⟨x, hx, rfl⟩)
        rw [hti x hx b hk hb] at hi
        obtain ⟨b', e1, e2⟩ := hi.2.1 rfl
        have e1 : [tidy K b] = [b'] := e1
        rw [(List.cons.inj e1).1]
        exact e2
      · rintro ⟨a1, a5⟩
        refine ⟨a1, h2, h3, ?_, ?_⟩
        · show product (PlainD.shape (α := PD K) p) 1048576 = _
          rw [h4]
          show _ = ((((PlainD.items (α := PD K) p).map (tidyIt (tidy K))).length : Int), 0)
          rw [hl]
        · intro y hy
          have hy : y ∈ (PlainD.items (α := PD K) p).map (tidyIt (tidy K)) := hy
          have hty := ht y hy
          obtain ⟨x, hx, rfl⟩ := List.mem_map.1 hy
          obtain ⟨o1, o2, o3⟩ := h5 x hx
          have hkk : (tidyIt (tidy K) x).kind = x.kind := by
            unfold tidyIt
            split
            · rename_i c; exact c.symm
            · split
              · rename_i c; exact c.symm
              · split
                · rename_i c; exact c.symm
                · rfl
          refine ⟨hkk.trans o1, fun hk => ?_, fun _ => hty.1.2.1⟩
          have hk := hkk.symm.trans hk
          obtain ⟨b, hb, _⟩ := o2 hk
          rw [hti x hx b hk hb]
          exact ⟨_, rfl, a5 x hx b hk hb⟩
    have hA : good (K + 1) d (arr (K + 1) p) ↔ d ≠ 0 ∧ ∀ x ∈ PlainD.items (α := PD K) p, ∀ b, x.kind = 2 → x.box = [b] → good K (d - 1) (arr K b) := by
      constructor
      · rintro ⟨_, _, _, a4, a5⟩
        refine ⟨a4, fun x hx b hk hb => a5 _ ?_⟩
        rw [hbx ((h5 x hx).1.symm.trans hk)]
        exact List.mem_flatMap.2 ⟨x, hx, by rw [hb]; exact List.mem_cons_self⟩
      · rintro ⟨a4, a5⟩
        refine ⟨hg.1, hg.2.1, hg.2.2.1, a4, fun b hb => ?_⟩
        have hb : b ∈ (arrV (arr K) (PlainD.fill (α := PD K) p) (PlainD.items (α := PD K) p)).boxes := hb
        by_cases c2 : PlainD.fill (α := PD K) p = 2
        · have e := hbx c2
          have e : (arrV (arr K) (PlainD.fill (α := PD K) p) (PlainD.items (α := PD K) p)).boxes = _ := e
          rw [e] at hb
          obtain ⟨x, hx, hb⟩ := List.mem_flatMap.1 hb
          obtain ⟨o1, o2, _⟩ := h5 x hx
          have hk := o1.trans c2
          obtain ⟨b', hb', _⟩ := o2 hk
          rw [hb'] at hb
          have hb : b ∈ [arr K b'] := hb
          rw [List.mem_singleton.1 hb]
          exact a5 x hx b' hk hb'
        · rw [arrV_boxes _ _ _ c2] at hb
          exact nomatch hb
    rw [hR, hA]
    refine and_congr_right fun _ => ⟨fun H x hx b hk hb => ?_, fun H x hx b hk hb => ?_⟩
    all_goals
      obtain ⟨b', hb', hcb⟩ := (h5 x hx).2.1 hk
      have hbb : b' = b := by rw [hb] at hb'; exact (List.cons.inj hb').1.symm
      subst hbb
      have htb := (ht _ (List.mem_map.2 ⟨x, hx, rfl⟩)).2
      rw [hti x hx b' hk hb] at htb
      have ih := gc K (D - 1) b' hcb (htb _ List.mem_cons_self) (d - 1)
    · exact ih.1 (H x hx b' hk hb)
    · exact ih.2 (H x hx b' hk hb)
/-- a depth judged alike -/
theorem deep_res (K : Nat) (X : AD (K + 1)) (Y : PD (K + 1)) (hp : plain (K + 1) X = Y) (ht : tdy (K + 1) Y) (h : good (K + 1) 40 X ↔ chk (K + 1) 40 Y = 0) : deepE K X = chkE K Y ∧ ResX K (deepE K X) (deepA K X) (chkR K Y) ∧ (chkE K Y = 0 → good (K + 1) 40 X) := by
  by_cases c : good (K + 1) 40 X
  · have c2 := h.1 c
    have e1 : deepE K X = 0 := by unfold deepE; rw [decB_of c]; rfl
    have e2 : deepA K X = X := by unfold deepA; rw [decB_of c]; rfl
    have e3 : chkE K Y = 0 := if_pos c2
    have e4 : chkR K Y = Y := if_pos c2
    rw [e1, e2, e3, e4]
    exact ⟨rfl, .inl ⟨rfl, c, hp, ht⟩, fun _ => c⟩
  · have c2 : ¬ chk (K + 1) 40 Y = 0 := fun e => c (h.2 e)
    have hd : decB (good (K + 1) 40 X) = false := by unfold decB; simp [c]
    have e1 : deepE K X = 26 := by unfold deepE; rw [hd]; rfl
    have e2 : deepA K X = (⟨[], VecD.none⟩ : ArrD (AD K)) := by unfold deepA; rw [hd]; rfl
    have e3 : chkE K Y = 26 := if_neg c2
    rw [e1, e2, e3]
    exact ⟨rfl, .inr ⟨.inr (.inr (.inr rfl)), rfl⟩, fun e => absurd e (by decide)⟩
theorem box_res (k : Nat) (p : PD (k + 1)) (hc : chk (k + 1) 40 p = 0) (ht : tdy (k + 1) (tidy (k + 1) p)) : deepE (k + 1) (boxA k (arr (k + 1) p)) = chkE (k + 1) (boxP k (tidy (k + 1) p)) ∧ ResX (k + 1) (deepE (k + 1) (boxA k (arr (k + 1) p))) (deepA (k + 1) (boxA k (arr (k + 1) p))) (chkR (k + 1) (boxP k (tidy (k + 1) p))) ∧ (chkE (k + 1) (boxP k (tidy (k + 1) p)) = 0 → good (k + 2) 40 (boxA k (arr (k + 1) p))) := by
  refine deep_res (k + 1) _ _ ?_ ?_ ?_
  · show (⟨[], [⟨2, 0, 0, [plain (k + 1) (arr (k + 1) p)]⟩], 2⟩ : PlainD (PD (k + 1))) = _
    rw [plain_arr (k + 1) 40 p hc]
    rfl
  · intro x hx
    have hx : x ∈ ([⟨2, 0, 0, [tidy (k + 1) p]⟩] : List (ItemD (PD (k + 1)))) := hx
    rw [List.mem_singleton.1 hx]
    exact ⟨tidy0, fun b hb => by have hb : b ∈ [tidy (k + 1) p] := hb; rw [List.mem_singleton.1 hb]; exact ht⟩
  · have h := gc (k + 1) 40 p hc ht (40 - 1)
    have hp : product ([] : List Int) 1048576 = (1, 0) := by decide
    constructor
    · rintro ⟨_, _, _, _, a5⟩
      refine (chkP_ok (α := PD (k + 1)) (chk (k + 1) (40 - 1)) 40 (boxP k (tidy (k + 1) p))).2 ⟨by omega, (by show (0 : Int) ≤ 2; omega), (by show (2 : Int) ≤ 2; omega), hp, ?_⟩
      intro x hx
      have hx : x ∈ ([⟨2, 0, 0, [tidy (k + 1) p]⟩] : List (ItemD (PD (k + 1)))) := hx
      rw [List.mem_singleton.1 hx]
      exact ⟨rfl, fun _ => ⟨_, rfl, h.1 (a5 _ List.mem_cons_self)⟩, fun e => by cases e⟩
    · intro e
      obtain ⟨_, _, _, _, a5⟩ := (chkP_ok (α := PD (k + 1)) (chk (k + 1) (40 - 1)) 40 (boxP k (tidy (k + 1) p))).1 e
      obtain ⟨b, e1, e2⟩ := (a5 ⟨2, 0, 0, [tidy (k + 1) p]⟩ List.mem_cons_self).2.1 rfl
      have e1 : [tidy (k + 1) p] = [b] := e1
      rw [← (List.cons.inj e1).1] at e2
      refine ⟨hp, (by show (6 : Int) ≠ 0; omega), rfl, by omega, fun c hcm => ?_⟩
      have hcm : c ∈ [arr (k + 1) p] := hcm
      rw [List.mem_singleton.1 hcm]
      exact h.2 e2
end Go.Proofs.YtmojpbfkpggjhaaGreat

/-
  Plain laws of the first part: the code's and the document's tell the same. No statement is proved here.
-/
namespace Go.Proofs.YtmojpbfkpggjhaaGreat
open Go Go.RowKit
set_option linter.unusedVariables false
set_option linter.unusedSimpArgs false
set_option maxHeartbeats 4000000
attribute [local irreducible] CW RW QW SW HW ConM retM heldQ calmQ elemP thenQ blockQ loopQ joinQ retQ Yields Con Sl zF magR unitF truncF fwF wholeF tidySpec elemQ rankF leastN tidyW
set_option maxHeartbeats 4000000

theorem boxA_gen (K : Nat) (p : PD (K + 1)) (h2 : PlainD.fill (α := PD K) p = 2) : (ArrD.vec (α := AD K) (arr (K + 1) p)).boxes = ((PlainD.items (α := PD K) p).flatMap (·.box)).map (arr K) := by
  show (arrV (arr K) (PlainD.fill (α := PD K) p) (PlainD.items (α := PD K) p)).boxes = _
  unfold arrV
  rw [if_neg (by omega), if_pos h2, List.map_flatMap]
theorem itemT_gen (K : Nat) (x : ItemD (PD K)) (b : PD K) (hk : x.kind = 2) (hb : x.box = [b]) : tidyIt (tidy K) x = ⟨2, 0, 0, [tidy K b]⟩ := by
  unfold tidyIt
  rw [if_neg (by rw [hk]; decide), if_neg (by rw [hk]; decide), if_pos hk, hb]
  rfl
theorem itOk_gen (K : Nat) (d : Int) (p : PD (K + 1)) (hc : chk (K + 1) d p = 0) (h2 : PlainD.fill (α := PD K) p = 2) : ∀ x ∈ PlainD.items (α := PD K) p, x.kind = 2 ∧ ∃ b, x.box = [b] ∧ chk K (d - 1) b = 0 := by
  obtain ⟨_, _, _, _, h5⟩ := (chkP_ok (α := PD K) _ _ _).1 hc
  intro x hx
  obtain ⟨e1, e2, _⟩ := h5 x hx
  have e1 := e1.trans h2
  obtain ⟨b, e3, e4⟩ := e2 e1
  exact ⟨e1, b, e3, e4⟩
theorem itemsT_gen (K : Nat) (d : Int) (p : PD (K + 1)) (hc : chk (K + 1) d p = 0) (h2 : PlainD.fill (α := PD K) p = 2) : (PlainD.items (α := PD K) p).map (tidyIt (tidy K)) = ((PlainD.items (α := PD K) p).flatMap (·.box)).map fun b => (⟨2, 0, 0, [tidy K b]⟩ : ItemD (PD K)) := by
  have hi := itOk_gen K d p hc h2
  generalize PlainD.items (α := PD K) p = l at hi
  induction l with
  | nil => rfl
  | cons x l ih =>
    obtain ⟨e1, b, e2, _⟩ := hi x List.mem_cons_self
    rw [List.map_cons, List.flatMap_cons, List.map_append, ih (fun y hy => hi y (List.mem_cons_of_mem _ hy)), itemT_gen K x b e1 e2, e2]
    rfl
theorem boxT_gen (K : Nat) (d : Int) (p : PD (K + 1)) (hc : chk (K + 1) d p = 0) (h2 : PlainD.fill (α := PD K) p = 2) : bxs (β := PD K) (tidy (K + 1) p) = ((PlainD.items (α := PD K) p).flatMap (·.box)).map (tidy K) := by
  show ((PlainD.items (α := PD K) p).map (tidyIt (tidy K))).flatMap (·.box) = _
  rw [itemsT_gen K d p hc h2]
  generalize (PlainD.items (α := PD K) p).flatMap (·.box) = Q
  induction Q with
  | nil => rfl
  | cons b Q ih => rw [List.map_cons, List.flatMap_cons, ih]; rfl
theorem boxOk_gen (K : Nat) (d : Int) (p : PD (K + 1)) (hc : chk (K + 1) d p = 0) (ht : tdy (K + 1) (tidy (K + 1) p)) (h2 : PlainD.fill (α := PD K) p = 2) : ∀ b ∈ (PlainD.items (α := PD K) p).flatMap (·.box), chk K (d - 1) b = 0 ∧ tdy K (tidy K b) := by
  intro b hb
  obtain ⟨x, hx, hbx⟩ := List.mem_flatMap.1 hb
  obtain ⟨e1, b', e2, e3⟩ := itOk_gen K d p hc h2 x hx
  rw [e2] at hbx
  obtain rfl := List.mem_singleton.1 hbx
  refine ⟨e3, ?_⟩
  have ht : ∀ y ∈ (PlainD.items (α := PD K) p).map (tidyIt (tidy K)), tdyIt (tdy K) y := ht
  have := (ht _ (List.mem_map.2 ⟨x, hx, rfl⟩)).2
  rw [itemT_gen K x b e1 e2] at this
  exact this _ List.mem_cons_self
/-- the first part, where nothing is boxed -/
theorem first_res (k : Nat) (p : PD (k + 2)) (hc : chk (k + 2) 40 p = 0) (ht : tdy (k + 2) (tidy (k + 2) p)) : ResX (k + 1) 0 (⟨[], firstV (ArrD.vec (α := AD (k + 1)) (arr (k + 2) p))⟩ : ArrD (AD (k + 1))) (firstP (β := PD k) (tidy (k + 2) p)) := by
  obtain ⟨H, _⟩ := tells_at k 40 p (by omega) (by omega) hc ht
  generalize ArrD.vec (α := AD (k + 1)) (arr (k + 2) p) = v at H
  have hp : product ([] : List Int) 1048576 = (1, 0) := by decide
  have key : ∀ i : Int, atD (PlainD.items (α := PD (k + 1)) (tidy (k + 2) p)) i (blankI (PlainD.fill (α := PD (k + 1)) (tidy (k + 2) p)) : ItemD (PlainD (PD k))) = (PlainD.items (α := PD (k + 1)) (tidy (k + 2) p)).getD 0 (blankI (PlainD.fill (α := PD (k + 1)) (tidy (k + 2) p))) → ResX (k + 1) 0 (⟨[], v.pick [i] (blankA k)⟩ : ArrD (AD (k + 1))) (firstP (β := PD k) (tidy (k + 2) p)) := by
    intro i hi
    have hT := H.pick [i] (by simp) rfl
    have hlen := (pick_facts v [i] (blankA k)).2.2.1
    have := hT.shape [] (by rw [hlen]; exact hp)
    rw [List.map_cons, List.map_nil, hi] at this
    exact this
  unfold firstV
  by_cases c : 0 < v.len
  · rw [if_pos c]
    have e : spanL (cutA v.len ((0 : Nat) : Int)) (cutB v.len ((0 : Nat) : Int) (((0 : Nat) : Int) + 1)) = [0] := by
      rw [show cutA v.len ((0 : Nat) : Int) = 0 from by unfold cutA; omega, show cutB v.len ((0 : Nat) : Int) (((0 : Nat) : Int) + 1) = 1 from by unfold cutB cutA; omega]
      rfl
    unfold partV
    rw [e]
    exact key 0 (if_pos (Int.le_refl 0))
  · rw [if_neg c]
    refine key (-1) ?_
    rw [List.eq_nil_of_length_eq_zero (show (PlainD.items (α := PD (k + 1)) (tidy (k + 2) p)).length = 0 by rw [H.ln]; omega)]
    rfl
/-- the first part of boxes -/
theorem first2_res (k : Nat) (p : PD (k + 2)) (hc : chk (k + 2) 40 p = 0) (ht : tdy (k + 2) (tidy (k + 2) p)) (h2 : PlainD.fill (α := PD (k + 1)) p = 2) : ResX k 0 (firstB (k := k) (arr (k + 2) p)) (firstQ (k := k) (tidy (k + 2) p)) := by
  have hok := boxOk_gen (k + 1) 40 p hc ht h2
  unfold firstB firstQ
  have e1 := boxA_gen (k + 1) p h2
  have e2 := boxT_gen (k + 1) 40 p hc h2
  generalize (PlainD.items (α := PD (k + 1)) p).flatMap (·.box) = Q at hok e1 e2
  have e1 : (ArrD.vec (α := AD (k + 1)) (arr (k + 2) p)).boxes.getD 0 (blankA k) = (Q.map (arr (k + 1))).getD 0 (blankA k) := by rw [e1]
  have e3 : (bxs (β := PD (k + 1)) (tidy (k + 2) p)).headD (blankP k) = (Q.map (tidy (k + 1))).headD (blankP k) := by rw [e2]
  refine e1 ▸ e3 ▸ ?_
  cases Q with
  | nil => exact .inl ⟨rfl, blankGood2 k 40 (by omega), blankA_plain k, fun x hx => nomatch hx⟩
  | cons b Q =>
    obtain ⟨h1, h3⟩ := hok b List.mem_cons_self
    exact .inl ⟨rfl, good_mono (k + 1) (40 - 1) 40 _ (by omega) (by omega) (good_arr (k + 1) (40 - 1) b h1), plain_arr (k + 1) (40 - 1) b h1, h3⟩
end Go.Proofs.YtmojpbfkpggjhaaGreat

/-
  Plain laws of rows in boxes: the code's and the document's tell the same. No statement is proved here.
-/
namespace Go.Proofs.YtmojpbfkpggjhaaGreat
open Go Go.RowKit
set_option linter.unusedVariables false
set_option linter.unusedSimpArgs false
set_option maxHeartbeats 4000000
attribute [local irreducible] CW RW QW SW HW ConM retM heldQ calmQ elemP thenQ blockQ loopQ joinQ retQ Yields Con Sl zF magR unitF truncF fwF wholeF tidySpec elemQ rankF leastN tidyW
set_option maxHeartbeats 4000000

/-- a row: as told, and judged by its depth -/
theorem row_res (k : Nat) (p : PD (k + 2)) (hc : chk (k + 2) 40 p = 0) (ht : tdy (k + 2) (tidy (k + 2) p)) (m n i : Nat) (hl : (ArrD.vec (α := AD (k + 1)) (arr (k + 2) p)).len = m * n) (hi : i < m) :
    Tells k ((ArrD.vec (α := AD (k + 1)) (arr (k + 2) p)).pick (spanL (i * n) ((i + 1) * n)) (blankA k)) (((PlainD.items (α := PD (k + 1)) (tidy (k + 2) p)).drop (i * n)).take n) (PlainD.fill (α := PD (k + 1)) (tidy (k + 2) p)) ∧
    (((PlainD.items (α := PD (k + 1)) (tidy (k + 2) p)).drop (i * n)).take n).length = n ∧
    (good (k + 2) (40 - 1) (rowA (ArrD.vec (α := AD (k + 1)) (arr (k + 2) p)) n i) ↔ chk (k + 2) (40 - 1) (rowP (k := k) (tidy (k + 2) p) n i) = 0) := by
  obtain ⟨H, _⟩ := tells_at k 40 p (by omega) (by omega) hc ht
  have hmul := Nat.mul_le_mul_right n (show i + 1 ≤ m from hi)
  have hsub : (i + 1) * n - i * n = n := by rw [Nat.add_mul, Nat.one_mul]; omega
  have hle : i * n ≤ (i + 1) * n := Nat.mul_le_mul_right n (Nat.le_succ i)
  have hln := H.ln
  have hvm := H.sh.vm
  have hspl : (spanL (i * n) ((i + 1) * n)).length = n := by rw [spanL_length, hsub]
  have hsp := span_items (PlainD.items (α := PD (k + 1)) (tidy (k + 2) p)) (i * n) ((i + 1) * n) hle (by omega) (blankI (PlainD.fill (α := PD (k + 1)) (tidy (k + 2) p)) : ItemD (PlainD (PD k)))
  rw [hsub] at hsp
  have hn2 : n ≤ 1048576 := by
    have := Nat.le_mul_of_pos_left n (show 0 < i + 1 by omega)
    omega
  have hT := H.pick (spanL (i * n) ((i + 1) * n)) (by omega) hsp
  have hpl := (pick_facts (ArrD.vec (α := AD (k + 1)) (arr (k + 2) p)) (spanL (i * n) ((i + 1) * n)) (blankA k)).2.2.1
  rw [hspl] at hpl
  have hLl : (((PlainD.items (α := PD (k + 1)) (tidy (k + 2) p)).drop (i * n)).take n).length = n := by rw [hT.ln, hpl]
  refine ⟨hT, hLl, ?_⟩
  have hA : good (k + 2) (40 - 1) (rowA (ArrD.vec (α := AD (k + 1)) (arr (k + 2) p)) n i) ↔ ∀ b ∈ ((ArrD.vec (α := AD (k + 1)) (arr (k + 2) p)).pick (spanL (i * n) ((i + 1) * n)) (blankA k)).boxes, good (k + 1) (40 - 1 - 1) b := by
    constructor
    · rintro ⟨_, _, _, _, a5⟩
      exact a5
    · intro a5
      have hpr : product [(n : Int)] 1048576 = ((((ArrD.vec (α := AD (k + 1)) (arr (k + 2) p)).pick (spanL (i * n) ((i + 1) * n)) (blankA k)).len : Int), 0) := by rw [product_one n hn2, hpl]
      exact ⟨hpr, hT.sh.k0, hT.sh.kl, by omega, a5⟩
  have hchk := (gc (k + 2) 40 p hc ht 40).1 (good_arr (k + 2) 40 p hc)
  obtain ⟨_, f2, f3, _, f5⟩ := (chkP_ok (α := PD (k + 1)) (chk (k + 1) (40 - 1)) 40 (tidy (k + 2) p)).1 hchk
  have hR : chk (k + 2) (40 - 1) (rowP (k := k) (tidy (k + 2) p) n i) = 0 ↔ ∀ x ∈ ((PlainD.items (α := PD (k + 1)) (tidy (k + 2) p)).drop (i * n)).take n, okIt (fun q => chk (k + 1) (40 - 1 - 1) q = 0) (PlainD.fill (α := PD (k + 1)) (tidy (k + 2) p)) x := by
    have e := chkP_ok (α := PD (k + 1)) (chk (k + 1) (40 - 1 - 1)) (40 - 1) (rowP (k := k) (tidy (k + 2) p) n i)
    refine Iff.trans e ⟨fun h => h.2.2.2.2, fun h => ⟨by omega, f2, f3, ?_, h⟩⟩
    show product [((((PlainD.items (α := PD (k + 1)) (tidy (k + 2) p)).drop (i * n)).take n).length : Int)] 1048576 = (((((PlainD.items (α := PD (k + 1)) (tidy (k + 2) p)).drop (i * n)).take n).length : Int), 0)
    rw [hLl]
    exact product_one n hn2
  rw [hA, hR]
  by_cases c2 : PlainD.fill (α := PD (k + 1)) p = 2
  · have hbA := boxA_gen (k + 1) p c2
    have hiT : PlainD.items (α := PD (k + 1)) (tidy (k + 2) p) = _ := itemsT_gen (k + 1) 40 p hc c2
    have hok := boxOk_gen (k + 1) 40 p hc ht c2
    generalize (PlainD.items (α := PD (k + 1)) p).flatMap (·.box) = Q at hbA hiT hok
    have hQl : Q.length = m * n := by
      have : (PlainD.items (α := PD (k + 1)) (tidy (k + 2) p)).length = Q.length := by rw [hiT, List.length_map]
      omega
    have hcl : (ArrD.vec (α := AD (k + 1)) (arr (k + 2) p)).cls = 2 := H.sh.hc.trans c2
    have hbx : ((ArrD.vec (α := AD (k + 1)) (arr (k + 2) p)).pick (spanL (i * n) ((i + 1) * n)) (blankA k)).boxes = ((Q.drop (i * n)).take n).map (arr (k + 1)) := by
      have hk6 : (ArrD.vec (α := AD (k + 1)) (arr (k + 2) p)).kind = 6 := by
        unfold VecD.cls at hcl
        split at hcl
        · omega
        · split at hcl
          · assumption
          · omega
      unfold VecD.pick
      rw [if_neg (by omega), if_pos hk6, hbA]
      show (spanL (i * n) ((i + 1) * n)).map (fun i => atD (Q.map (arr (k + 1))) i (blankA k)) = _
      rw [span_items _ _ _ hle (by rw [List.length_map]; omega), hsub, List.map_take, List.map_drop]
    rw [hbx, hiT, ← List.map_drop, ← List.map_take]
    have hsubm : ∀ b ∈ (Q.drop (i * n)).take n, b ∈ Q := fun b hb => List.mem_of_mem_drop (List.mem_of_mem_take hb)
    constructor
    · intro h x hx
      obtain ⟨b, hb, rfl⟩ := List.mem_map.1 hx
      obtain ⟨o1, o2⟩ := hok b (hsubm b hb)
      exact ⟨c2.symm, fun _ => ⟨_, rfl, (gc (k + 1) (40 - 1) b o1 o2 (40 - 1 - 1)).1 (h _ (List.mem_map.2 ⟨b, hb, rfl⟩))⟩, fun e => by cases e⟩
    · intro h y hy
      obtain ⟨b, hb, rfl⟩ := List.mem_map.1 hy
      obtain ⟨o1, o2⟩ := hok b (hsubm b hb)
      obtain ⟨b', e1, e2⟩ := (h _ (List.mem_map.2 ⟨b, hb, rfl⟩)).2.1 rfl
      have e1 : [tidy (k + 1) b] = [b'] := e1
      rw [← (List.cons.inj e1).1] at e2
      exact (gc (k + 1) (40 - 1) b o1 o2 (40 - 1 - 1)).2 e2
  · constructor
    · intro _ x hx
      obtain ⟨o1, _, o3⟩ := f5 x (List.mem_of_mem_drop (List.mem_of_mem_take hx))
      exact ⟨o1, fun e => absurd (o1.symm.trans e) c2, o3⟩
    · intro _ b hb
      have hcl : (ArrD.vec (α := AD (k + 1)) (arr (k + 2) p)).cls ≠ 2 := fun e => c2 (H.sh.hc.symm.trans e)
      have hbe : ((ArrD.vec (α := AD (k + 1)) (arr (k + 2) p)).pick (spanL (i * n) ((i + 1) * n)) (blankA k)).boxes = [] := by
        unfold VecD.pick
        split
        · rfl
        · split
          · rename_i h6
            exfalso
            apply hcl
            unfold VecD.cls
            rw [if_neg (by omega), if_pos h6]
          · rfl
      rw [hbe] at hb
      exact nomatch hb
theorem row_plain (k : Nat) (p : PD (k + 2)) (hc : chk (k + 2) 40 p = 0) (ht : tdy (k + 2) (tidy (k + 2) p)) (m n i : Nat) (hl : (ArrD.vec (α := AD (k + 1)) (arr (k + 2) p)).len = m * n) (hi : i < m) :
    plain (k + 2) (rowA (ArrD.vec (α := AD (k + 1)) (arr (k + 2) p)) n i) = rowP (k := k) (tidy (k + 2) p) n i ∧ tdy (k + 2) (rowP (k := k) (tidy (k + 2) p) n i) := by
  obtain ⟨hT, hLl, _⟩ := row_res k p hc ht m n i hl hi
  refine ⟨?_, hT.sh.td⟩
  show (⟨[(n : Int)], itemsV (plain (k + 1)) ((ArrD.vec (α := AD (k + 1)) (arr (k + 2) p)).pick (spanL (i * n) ((i + 1) * n)) (blankA k)), ((ArrD.vec (α := AD (k + 1)) (arr (k + 2) p)).pick (spanL (i * n) ((i + 1) * n)) (blankA k)).cls⟩ : PlainD (PD (k + 1))) = ⟨[((((PlainD.items (α := PD (k + 1)) (tidy (k + 2) p)).drop (i * n)).take n).length : Int)], ((PlainD.items (α := PD (k + 1)) (tidy (k + 2) p)).drop (i * n)).take n, PlainD.fill (α := PD (k + 1)) (tidy (k + 2) p)⟩
  rw [hT.sh.he, hT.sh.hc, hLl]
/-- what both tell of rows in boxes -/
theorem split_res (k : Nat) (p : PD (k + 2)) (hc : chk (k + 2) 40 p = 0) (ht : tdy (k + 2) (tidy (k + 2) p)) (j m n : Nat) (H : RowsOf (PlainD.shape (α := PD (k + 1)) p) (ArrD.vec (α := AD (k + 1)) (arr (k + 2) p)).len j m n) :
    deepE (k + 2) (splitA (k := k) (arr (k + 2) p) j m n) = chkE (k + 2) (splitP (k := k) (tidy (k + 2) p) j m n) ∧ ResX (k + 2) (deepE (k + 2) (splitA (k := k) (arr (k + 2) p) j m n)) (deepA (k + 2) (splitA (k := k) (arr (k + 2) p) j m n)) (chkR (k + 2) (splitP (k := k) (tidy (k + 2) p) j m n)) ∧ (chkE (k + 2) (splitP (k := k) (tidy (k + 2) p) j m n) = 0 → good (k + 3) 40 (splitA (k := k) (arr (k + 2) p) j m n)) := by
  obtain ⟨hj, _, hn, hpm, hl, hm2⟩ := H
  have hrow := fun i (hi : i < m) => row_plain k p hc ht m n i hl hi
  have hgc := fun i (hi : i < m) => (row_res k p hc ht m n i hl hi).2.2
  have hAl : (rowsA (ArrD.vec (α := AD (k + 1)) (arr (k + 2) p)) n m).length = m := by unfold rowsA; rw [List.length_map, List.length_range]
  have hPl : (rowsP (k := k) (tidy (k + 2) p) n m).length = m := by unfold rowsP; rw [List.length_map, List.length_range]
  refine deep_res (k + 2) _ _ ?_ ?_ ?_
  · have e : (rowsA (ArrD.vec (α := AD (k + 1)) (arr (k + 2) p)) n m).map (fun b => (⟨2, 0, 0, [plain (k + 2) b]⟩ : ItemD (PD (k + 2)))) = rowsP (k := k) (tidy (k + 2) p) n m := by
      unfold rowsA rowsP
      rw [List.map_map]
      apply List.map_congr_left
      intro i hi
      have := (hrow i (List.mem_range.1 hi)).1
      simp only [Function.comp]
      rw [this]
    exact congrArg (fun l => (⟨(PlainD.shape (α := PD (k + 1)) p).take j, l, 2⟩ : PlainD (PD (k + 2)))) e
  · intro x hx
    have hx : x ∈ rowsP (k := k) (tidy (k + 2) p) n m := hx
    unfold rowsP at hx
    obtain ⟨i, hi, rfl⟩ := List.mem_map.1 hx
    have htd := (hrow i (List.mem_range.1 hi)).2
    exact ⟨tidy0, fun b hb => by have hb : b ∈ [rowP (k := k) (tidy (k + 2) p) n i] := hb; rw [List.mem_singleton.1 hb]; exact htd⟩
  · constructor
    · rintro ⟨_, _, _, _, a5⟩
      refine (chkP_ok (α := PD (k + 2)) (chk (k + 2) (40 - 1)) 40 (splitP (k := k) (tidy (k + 2) p) j m n)).2 ⟨by omega, (by show (0 : Int) ≤ 2; omega), (by show (2 : Int) ≤ 2; omega), ?_, ?_⟩
      · show product ((PlainD.shape (α := PD (k + 1)) p).take j) 1048576 = (((rowsP (k := k) (tidy (k + 2) p) n m).length : Int), 0)
        rw [hPl]
        exact hpm
      · intro x hx
        have hx : x ∈ rowsP (k := k) (tidy (k + 2) p) n m := hx
        unfold rowsP at hx
        obtain ⟨i, hi, rfl⟩ := List.mem_map.1 hx
        have hi' := List.mem_range.1 hi
        refine ⟨rfl, fun _ => ⟨_, rfl, (hgc i hi').1 (a5 _ ?_)⟩, fun e => by cases e⟩
        exact List.mem_map.2 ⟨i, hi, rfl⟩
    · intro e
      obtain ⟨_, _, _, _, a5⟩ := (chkP_ok (α := PD (k + 2)) (chk (k + 2) (40 - 1)) 40 (splitP (k := k) (tidy (k + 2) p) j m n)).1 e
      refine ⟨?_, (by show (6 : Int) ≠ 0; omega), rfl, by omega, fun b hb => ?_⟩
      · have el : (⟨6, [], [], rowsA (ArrD.vec (α := AD (k + 1)) (arr (k + 2) p)) n m⟩ : VecD (AD (k + 2))).len = m := by
          show 0 + 0 + (rowsA (ArrD.vec (α := AD (k + 1)) (arr (k + 2) p)) n m).length = m
          omega
        have hpm2 : product ((PlainD.shape (α := PD (k + 1)) p).take j) 1048576 = (((⟨6, [], [], rowsA (ArrD.vec (α := AD (k + 1)) (arr (k + 2) p)) n m⟩ : VecD (AD (k + 2))).len : Int), 0) := by rw [el]; exact hpm
        exact hpm2
      · have hb : b ∈ rowsA (ArrD.vec (α := AD (k + 1)) (arr (k + 2) p)) n m := hb
        unfold rowsA at hb
        obtain ⟨i, hi, rfl⟩ := List.mem_map.1 hb
        have hi' := List.mem_range.1 hi
        obtain ⟨q, e1, e2⟩ := (a5 ⟨2, 0, 0, [rowP (k := k) (tidy (k + 2) p) n i]⟩ (List.mem_map.2 ⟨i, hi, rfl⟩)).2.1 rfl
        have e1 : [rowP (k := k) (tidy (k + 2) p) n i] = [q] := e1
        rw [← (List.cons.inj e1).1] at e2
        exact (hgc i hi').2 e2
end Go.Proofs.YtmojpbfkpggjhaaGreat

/-
  Plain laws of rows in boxes, mixed: the array again. No statement is proved here.
-/
namespace Go.Proofs.YtmojpbfkpggjhaaGreat
open Go Go.RowKit
set_option linter.unusedVariables false
set_option linter.unusedSimpArgs false
set_option maxHeartbeats 4000000
attribute [local irreducible] CW RW QW SW HW ConM retM heldQ calmQ elemP thenQ blockQ loopQ joinQ retQ Yields Con Sl zF magR unitF truncF fwF wholeF tidySpec elemQ rankF leastN tidyW
set_option maxHeartbeats 4000000

theorem badE_all (s : List Int) : ∀ l, (∀ t ∈ l, t = s) → badE s l = 0
  | [], _ => rfl
  | t :: l, h => by
    have e := h t List.mem_cons_self
    unfold badE
    rw [if_neg (fun c => c (by rw [e])), if_neg (fun c => c e)]
    exact badE_all s l fun u hu => h u (List.mem_cons_of_mem _ hu)
theorem joinP_same {γ : Type} (f : Int) : ∀ (l : List (PlainD γ)) (c : Int), (c = -1 ∨ c = f) → (∀ q ∈ l, q.fill = f) → ∃ c', joinP c l = some c' ∧ (c' = -1 ∨ c' = f)
  | [], c, hc, _ => ⟨c, rfl, hc⟩
  | q :: l, c, hc, h => by
    have e := h q List.mem_cons_self
    have ih := fun c hc => joinP_same f l c hc fun u hu => h u (List.mem_cons_of_mem _ hu)
    unfold joinP
    rw [if_neg (fun ⟨_, h2, h3⟩ => by rcases hc with hc | hc; omega; exact h3 (hc.trans e.symm))]
    split
    · exact ih _ (.inr e)
    · exact ih _ hc
theorem rows_flat {γ : Type} (L : List γ) (n : Nat) : ∀ m, (List.range m).flatMap (fun i => (L.drop (i * n)).take n) = L.take (m * n)
  | 0 => by simp
  | m + 1 => by
    rw [List.range_succ, List.flatMap_append, rows_flat L n m, Nat.add_mul, Nat.one_mul, List.take_add]
    simp
theorem last_split (s : List Int) (j : Nat) (hj : j + 1 = s.length) : s.take j ++ [s.getD j 0] = s := by
  obtain ⟨P, S, d, rfl, hPj⟩ := mid_of s j (by omega)
  subst hPj
  have hS : S = [] := by
    refine List.eq_nil_of_length_eq_zero ?_
    rw [List.length_append, List.length_cons] at hj
    omega
  subst hS
  rw [mid_take, mid_get]
def rowQ (k : Nat) (t : PlainD (PD (k + 1))) (n i : Nat) : PlainD (PD (k + 1)) := rowP t n i
noncomputable def rowZ (k : Nat) (v : VecD (AD (k + 1))) (t : PlainD (PD (k + 1))) (n i : Nat) : VecD (AD (k + 1)) × PlainD (PD (k + 1)) := (v.pick (spanL (i * n) ((i + 1) * n)) (blankA k), rowQ k t n i)
theorem mixback_res (k : Nat) (p : PD (k + 2)) (hc : chk (k + 2) 40 p = 0) (ht : tdy (k + 2) (tidy (k + 2) p)) (j m n : Nat) (H : RowsOf (PlainD.shape (α := PD (k + 1)) p) (ArrD.vec (α := AD (k + 1)) (arr (k + 2) p)).len j m n) (hne : (ArrD.vec (α := AD (k + 1)) (arr (k + 2) p)).len ≠ 0) :
    (mixS (k + 1) (splitA (k := k) (arr (k + 2) p) j m n) 1048576).1 = 0 ∧ ResX (k + 1) 0 (mixS (k + 1) (splitA (k := k) (arr (k + 2) p) j m n) 1048576).2 (tidy (k + 2) p) := by
  obtain ⟨hT, hpr⟩ := tells_at k 40 p (by omega) (by omega) hc ht
  obtain ⟨hj, _, hn, hpm, hl, hm2⟩ := H
  have hrow := fun i (hi : i < m) => (row_res k p hc ht m n i hl hi).1
  have hm0 : m ≠ 0 := fun e => hne (by rw [hl, e, Nat.zero_mul])
  have hsh : (PlainD.shape (α := PD (k + 1)) p).take j ++ [(n : Int)] = PlainD.shape (α := PD (k + 1)) p := by rw [← hn]; exact last_split _ j hj
  obtain ⟨v, hv⟩ : ∃ v, ArrD.vec (α := AD (k + 1)) (arr (k + 2) p) = v := ⟨_, rfl⟩
  have hX : (ArrD.vec (α := AD (k + 2)) (splitA (k := k) (arr (k + 2) p) j m n)).boxes = rowsA v n m := by rw [← hv]; rfl
  have hXs : ArrD.shape (α := AD (k + 2)) (splitA (k := k) (arr (k + 2) p) j m n) = (PlainD.shape (α := PD (k + 1)) p).take j := rfl
  obtain ⟨t, htd⟩ : ∃ t : PlainD (PD (k + 1)), (tidy (k + 2) p : PlainD (PD (k + 1))) = t := ⟨_, rfl⟩
  have htsh : t.shape = PlainD.shape (α := PD (k + 1)) p := by rw [← htd]; rfl
  have hT : Tells k v t.items t.fill := by rw [← hv, ← htd]; exact hT
  have hrow : ∀ i, i < m → Tells k (v.pick (spanL (i * n) ((i + 1) * n)) (blankA k)) ((t.items.drop (i * n)).take n) t.fill := by intro i hi; rw [← hv, ← htd]; exact hrow i hi
  rw [hv] at hpr hl hne
  obtain ⟨Z, hZd⟩ : ∃ Z, Z = (List.range m).map (rowZ k v t n) := ⟨_, rfl⟩
  have hZ : ∀ z ∈ Z, Tells k z.1 z.2.items z.2.fill := by
    intro z hz
    rw [hZd] at hz
    obtain ⟨i, hi, rfl⟩ := List.mem_map.1 hz
    exact hrow i (List.mem_range.1 hi)
  have hZ1 : Z.map Prod.fst = (rowsA v n m).map (bv (k + 1)) := by
    rw [hZd]
    unfold rowsA
    rw [List.map_map, List.map_map]
    rfl
  have hZf : (Z.map Prod.snd).flatMap (·.items) = t.items := by
    have e : (Z.map Prod.snd).flatMap (·.items) = (List.range m).flatMap (fun i => (t.items.drop (i * n)).take n) := by
      rw [hZd, List.map_map, List.flatMap_map]
      rfl
    rw [e, rows_flat, ← hl, ← hT.ln, List.take_length]
  have hZs : ∀ q ∈ Z.map Prod.snd, q.fill = t.fill := by
    intro q hq
    rw [hZd, List.map_map] at hq
    obtain ⟨i, _, rfl⟩ := List.mem_map.1 hq
    rfl
  obtain ⟨c, hjc, hcc⟩ := joinP_same t.fill (Z.map Prod.snd) (-1) (.inl rfl) hZs
  have hj' := (joins_eq Z hZ).trans hjc
  have hsum : ((Z.map Prod.fst).map VecD.len).sum ≤ 1048576 := by
    rw [sums_eq Z hZ]
    have e : ((Z.map Prod.snd).map (·.items.length)).sum = t.items.length := by
      rw [← hZf, List.length_flatMap]
    rw [e, hT.ln]
    exact hT.sh.vm
  have HJ := tells_joinL Z hZ hj' hsum
  have hfill : (if 0 ≤ c then c else headF (Z.map Prod.snd)) = t.fill := by
    have hf0 : 0 ≤ t.fill := by
      have h1 := hT.sh.hc
      have h2 := cls_rng v
      omega
    rcases hcc with e | e
    · rw [if_neg (by omega)]
      cases hz : Z.map Prod.snd with
      | nil =>
        exfalso
        have := congrArg List.length hz
        rw [List.length_map, hZd, List.length_map, List.length_range] at this
        exact hm0 this
      | cons q l => exact hZs q (by rw [hz]; exact List.mem_cons_self)
    · rw [e, if_pos hf0]
  rw [hZf, hfill] at HJ
  have hS : mixS (k + 1) (splitA (k := k) (arr (k + 2) p) j m n) 1048576 = mixL (k + 1) ((PlainD.shape (α := PD (k + 1)) p).take j) [(n : Int)] (rowsA v n m) 1048576 := by
    unfold mixS
    rw [show (splitA (k := k) (arr (k + 2) p) j m n).vec.boxes = rowsA v n m from hX]
    have hbs : ∀ b ∈ rowsA v n m, bsh (k + 1) b = [(n : Int)] := by
      intro b hb
      unfold rowsA at hb
      obtain ⟨i, _, rfl⟩ := List.mem_map.1 hb
      rfl
    cases hr : rowsA v n m with
    | nil =>
      exfalso
      have := congrArg List.length hr
      unfold rowsA at this
      rw [List.length_map, List.length_range] at this
      exact hm0 this
    | cons b0 l =>
      rw [← hbs b0 (by rw [hr]; exact List.mem_cons_self)]
      rfl
  rw [hS]
  unfold mixL
  have hb0 : badE [(n : Int)] ((rowsA v n m).map (bsh (k + 1))) = 0 := badE_all _ _ (by
    intro s hs
    obtain ⟨b, hb, rfl⟩ := List.mem_map.1 hs
    unfold rowsA at hb
    obtain ⟨i, _, rfl⟩ := List.mem_map.1 hb
    rfl)
  rw [hb0, hsh, hpr, ← hZ1, hj']
  have hne2 : newE (PlainD.shape (α := PD (k + 1)) p) (joinedV c (Z.map Prod.fst)) = 0 := by
    unfold newE
    have := HJ.ln
    have h2 := hT.ln
    rw [hpr, if_neg (fun h => h rfl), if_neg HJ.sh.k0, if_neg (fun h => h (by dsimp only; omega))]
  have hR : ResX (k + 1) 0 (⟨PlainD.shape (α := PD (k + 1)) p, joinedV c (Z.map Prod.fst)⟩ : ArrD (AD (k + 1))) (⟨PlainD.shape (α := PD (k + 1)) p, t.items, t.fill⟩ : PlainD (PD (k + 1))) := HJ.shape _ (by
    have := HJ.ln
    have h2 := hT.ln
    rw [hpr]
    congr 1
    omega)
  have htt : (⟨PlainD.shape (α := PD (k + 1)) p, t.items, t.fill⟩ : PlainD (PD (k + 1))) = tidy (k + 2) p := by rw [← htd]; rfl
  rw [htt] at hR
  dsimp only
  rw [hne2, joinedV_sq]
  exact ⟨rfl, hR⟩
end Go.Proofs.YtmojpbfkpggjhaaGreat

/-
  Contracts of what the law of boxes calls: First and Split, with the level of their answers. No statement is proved here.
-/
namespace Go.Proofs.YtmojpbfkpggjhaaGreat
open Go Go.RowKit
set_option linter.unusedVariables false
set_option linter.unusedSimpArgs false
set_option maxHeartbeats 4000000
attribute [local irreducible] CW RW QW SW HW ConM retM heldQ calmQ elemP thenQ blockQ loopQ joinQ retQ Yields Con Sl zF magR unitF truncF fwF wholeF tidySpec elemQ rankF leastN tidyW
set_option maxHeartbeats 4000000

/-- a good plain array, and how its rows lie -/
structure Boxing (k : Nat) (p : PD (k + 2)) (j m n : Nat) : Prop where
  hc : chk (k + 2) 40 p = 0
  ht : tdy (k + 2) (tidy (k + 2) p)
  h8 : (PlainD.shape (α := PD (k + 1)) p).length ≤ 8
  hn : (PlainD.items (α := PD (k + 1)) p).length ≤ 1048576
  hr : (PlainD.shape (α := PD (k + 1)) p).length ≠ 0 → RowsOf (PlainD.shape (α := PD (k + 1)) p) (ArrD.vec (α := AD (k + 1)) (arr (k + 2) p)).len j m n
section
variable {k : Nat} {p : PD (k + 2)} {j m n : Nat}
theorem Boxing.cls (H : Boxing k p j m n) : (ArrD.vec (α := AD (k + 1)) (arr (k + 2) p)).cls = fillP (k + 1) p := by
  obtain ⟨_, g2, g3, _, _⟩ := (chkP_ok (α := PD (k + 1)) _ _ _).1 H.hc
  exact cls_arrV (arr (k + 1)) _ _ g2 g3
theorem Boxing.len (H : Boxing k p j m n) : (ArrD.vec (α := AD (k + 1)) (arr (k + 2) p)).len = (PlainD.items (α := PD (k + 1)) p).length := by
  obtain ⟨_, _, _, _, g5⟩ := (chkP_ok (α := PD (k + 1)) _ _ _).1 H.hc
  exact len_arrV (arr (k + 1)) _ _ _ g5
theorem Boxing.lenT : (PlainD.items (α := PD (k + 1)) (tidy (k + 2) p)).length = (PlainD.items (α := PD (k + 1)) p).length := List.length_map ..
theorem Boxing.good (H : Boxing k p j m n) : good (k + 2) 40 (arr (k + 2) p) := good_arr (k + 2) 40 p H.hc
end
def FstA (k : Nat) (p : PD (k + 2)) (h : GHeap) (cs : List Value) : Prop := if fillP (k + 1) p = 2 then ArrAt (k + 1) h cs (firstB (k := k) (arr (k + 2) p)) else ArrAt (k + 2) h cs (⟨[], firstV (ArrD.vec (α := AD (k + 1)) (arr (k + 2) p))⟩ : ArrD (AD (k + 1)))
def FstQ (k : Nat) (p : PD (k + 2)) (h : GHeap) (cs : List Value) : Prop := if fillP (k + 1) p = 2 then PlainAt (k + 1) h cs (firstQ (k := k) (tidy (k + 2) p)) else PlainAt (k + 2) h cs (firstP (β := PD k) (tidy (k + 2) p))
theorem FstA.mono {k : Nat} {p : PD (k + 2)} {h h' : GHeap} {cs : List Value} (H : FstA k p h cs) (hle : GLe h h') : FstA k p h' cs := by
  unfold FstA at H ⊢
  split
  · rename_i c; rw [if_pos c] at H; exact ArrAt.mono (k + 1) _ _ _ _ hle H
  · rename_i c; rw [if_neg c] at H; exact ArrAt.mono (k + 2) _ _ _ _ hle H
theorem FstQ.mono {k : Nat} {p : PD (k + 2)} {h h' : GHeap} {cs : List Value} (H : FstQ k p h cs) (hle : GLe h h') : FstQ k p h' cs := by
  unfold FstQ at H ⊢
  split
  · rename_i c; rw [if_pos c] at H; exact PlainAt.mono (k + 1) _ _ _ _ hle H
  · rename_i c; rw [if_neg c] at H; exact PlainAt.mono (k + 2) _ _ _ _ hle H
theorem firstA_con (k : Nat) (p : PD (k + 2)) (j m n : Nat) (H : Boxing k p j m n) (cs : List Value) (w : World) (h : GHeap) (ha : ArrAt (k + 2) h cs (arr (k + 2) p)) : Con Tryz.prog 34 [.agg cs.toArray] w h (fun h' u => ∃ c2, u = .agg c2.toArray ∧ FstA k p h' c2) := by
  have hlm : (ArrD.vec (α := AD (k + 1)) (arr (k + 2) p)).len ≤ 1048576 := by rw [H.len]; exact H.hn
  unfold FstA
  by_cases c : fillP (k + 1) p = 2
  · simp only [if_pos c]
    exact partFirst2_con k cs (arr (k + 2) p) w h ha (H.cls.trans c) hlm H.good.2.1
  · simp only [if_neg c]
    exact partFirst_con k cs (arr (k + 2) p) w h ha (fun e => c (H.cls.symm.trans e)) hlm H.good.2.1
theorem firstQ_con (k : Nat) (p : PD (k + 2)) (j m n : Nat) (H : Boxing k p j m n) (cs : List Value) (w : World) (h : GHeap) (hp : PlainAt (k + 2) h cs (tidy (k + 2) p)) : Con Tryz.prog 35 [.agg cs.toArray] w h (fun h' u => ∃ c2, u = .agg c2.toArray ∧ FstQ k p h' c2) := by
  obtain ⟨_, _, _, _, g5⟩ := (chkP_ok (α := PD (k + 1)) (chk (k + 1) (40 - 1)) 40 (tidy (k + 2) p)).1 ((gc (k + 2) 40 p H.hc H.ht 40).1 H.good)
  unfold FstQ
  by_cases c : fillP (k + 1) p = 2
  · simp only [if_pos c]
    refine refFirst2_con k cs (tidy (k + 2) p) w h hp c fun x hx => ?_
    obtain ⟨o1, o2, _⟩ := g5 x hx
    have o1 := o1.trans c
    obtain ⟨b, hb, _⟩ := o2 o1
    exact ⟨o1, b, hb⟩
  · simp only [if_neg c]
    exact refFirst_con k cs (tidy (k + 2) p) w h hp c fun x hx => (g5 x hx).1
theorem showsFirst_con (k : Nat) (p : PD (k + 2)) (j m n : Nat) (H : Boxing k p j m n) (cs cq : List Value) (w : World) (h : GHeap) (ha : FstA k p h cs) (hq : FstQ k p h cq) : Con Tryz.prog 27 [.agg cs.toArray, .int .i64 0, .agg cq.toArray, .int .i64 0] w h (fun _ u => u = .bool true) := by
  unfold FstA at ha
  unfold FstQ at hq
  by_cases c : fillP (k + 1) p = 2
  · rw [if_pos c] at ha hq
    exact shows28X_con k cs cq 0 _ _ w h ha hq (first2_res k p H.hc H.ht c)
  · rw [if_neg c] at ha hq
    exact shows28X_con (k + 1) cs cq 0 _ _ w h ha hq (first_res k p H.hc H.ht)
/-! ## Split -/
noncomputable def spE28 (k : Nat) (p : PD (k + 2)) (j m n : Nat) : Int := if (PlainD.shape (α := PD (k + 1)) p).length = 0 then 0 else deepE (k + 2) (splitA (k := k) (arr (k + 2) p) j m n)
def SplA (k : Nat) (p : PD (k + 2)) (j m n : Nat) (h : GHeap) (cs : List Value) : Prop := if (PlainD.shape (α := PD (k + 1)) p).length = 0 then ArrAt (k + 2) h cs (arr (k + 2) p) else ArrAt (k + 3) h cs (deepA (k + 2) (splitA (k := k) (arr (k + 2) p) j m n))
def SplQ (k : Nat) (p : PD (k + 2)) (j m n : Nat) (h : GHeap) (cs : List Value) : Prop := if (PlainD.shape (α := PD (k + 1)) p).length = 0 then PlainAt (k + 2) h cs (tidy (k + 2) p) else PlainAt (k + 3) h cs (chkR (k + 2) (splitP (k := k) (tidy (k + 2) p) j m n))
theorem SplA.mono {k : Nat} {p : PD (k + 2)} {j m n : Nat} {h h' : GHeap} {cs : List Value} (H : SplA k p j m n h cs) (hle : GLe h h') : SplA k p j m n h' cs := by
  unfold SplA at H ⊢
  split
  · rename_i c; rw [if_pos c] at H; exact ArrAt.mono (k + 2) _ _ _ _ hle H
  · rename_i c; rw [if_neg c] at H; exact ArrAt.mono (k + 3) _ _ _ _ hle H
theorem SplQ.mono {k : Nat} {p : PD (k + 2)} {j m n : Nat} {h h' : GHeap} {cs : List Value} (H : SplQ k p j m n h cs) (hle : GLe h h') : SplQ k p j m n h' cs := by
  unfold SplQ at H ⊢
  split
  · rename_i c; rw [if_pos c] at H; exact PlainAt.mono (k + 2) _ _ _ _ hle H
  · rename_i c; rw [if_neg c] at H; exact PlainAt.mono (k + 3) _ _ _ _ hle H
theorem SplA.cells {k : Nat} {p : PD (k + 2)} {j m n : Nat} {h : GHeap} {cs : List Value} (H : SplA k p j m n h cs) : ∃ a0 a1 a2 a3 a4 a5 a6 a7 a8, cs = [a0, a1, a2, a3, a4, a5, a6, a7, a8] ∧ [a0, a1, a2, a3, a4, a5, a6, a7, a8].all Value.oneCell' = true := by
  unfold SplA at H
  split at H
  · exact cells9 H
  · exact cells9 H
theorem SplQ.cells {k : Nat} {p : PD (k + 2)} {j m n : Nat} {h : GHeap} {cs : List Value} (H : SplQ k p j m n h cs) : ∃ a0 a1 a2, cs = [a0, a1, a2] ∧ [a0, a1, a2].all Value.oneCell' = true := by
  unfold SplQ at H
  split at H
  · exact cells3 H
  · exact cells3 H
theorem splitV_con (k : Nat) (p : PD (k + 2)) (j m n : Nat) (H : Boxing k p j m n) (cs : List Value) (w : World) (h : GHeap) (ha : ArrAt (k + 2) h cs (arr (k + 2) p)) : Con Tryz.prog 32 [.agg cs.toArray] w h (fun h' u => ∃ c2, u = .tuple #[.agg c2.toArray, .int .i64 (spE28 k p j m n)] ∧ SplA k p j m n h' c2) := by
  have hlm : (ArrD.vec (α := AD (k + 1)) (arr (k + 2) p)).len ≤ 1048576 := by rw [H.len]; exact H.hn
  unfold SplA spE28
  by_cases c : (PlainD.shape (α := PD (k + 1)) p).length = 0
  · simp only [if_pos c]
    exact partSplit0_con k cs (arr (k + 2) p) w h ha c
  · simp only [if_neg c]
    exact partSplit_con k cs (arr (k + 2) p) j m n w h ha (H.hr c) H.h8 hlm H.good.2.1
theorem splitQ_con (k : Nat) (p : PD (k + 2)) (j m n : Nat) (H : Boxing k p j m n) (cs : List Value) (w : World) (h : GHeap) (hp : PlainAt (k + 2) h cs (tidy (k + 2) p)) : Con Tryz.prog 33 [.agg cs.toArray] w h (fun h' u => ∃ c2, u = .tuple #[.agg c2.toArray, .int .i64 (spE28 k p j m n)] ∧ SplQ k p j m n h' c2) := by
  unfold SplQ spE28
  by_cases c : (PlainD.shape (α := PD (k + 1)) p).length = 0
  · simp only [if_pos c]
    exact refSplit0_con (PlainAt.mono (k + 1)) cs (tidy (k + 2) p) w h hp c
  · simp only [if_neg c]
    rw [(split_res k p H.hc H.ht j m n (H.hr c)).1]
    have hr : RowsOf (PlainD.shape (α := PD (k + 1)) (tidy (k + 2) p)) (PlainD.items (α := PD (k + 1)) (tidy (k + 2) p)).length j m n := by
      have := H.hr c
      rw [H.len, ← Boxing.lenT] at this
      exact this
    exact refSplit_con k cs (tidy (k + 2) p) j m n w h hp hr H.h8 (by rw [Boxing.lenT]; exact H.hn)
theorem showsSplit_con (k : Nat) (p : PD (k + 2)) (j m n : Nat) (H : Boxing k p j m n) (cs cq : List Value) (w : World) (h : GHeap) (ha : SplA k p j m n h cs) (hq : SplQ k p j m n h cq) : Con Tryz.prog 27 [.agg cs.toArray, .int .i64 (spE28 k p j m n), .agg cq.toArray, .int .i64 (spE28 k p j m n)] w h (fun _ u => u = .bool true) := by
  unfold spE28
  unfold SplA at ha
  unfold SplQ at hq
  by_cases c : (PlainD.shape (α := PD (k + 1)) p).length = 0
  · rw [if_pos c] at ha hq ⊢
    exact shows28_con (k + 1) cs cq (arr (k + 2) p) (tidy (k + 2) p) w h ha hq H.good (plain_arr (k + 2) 40 p H.hc) H.ht
  · rw [if_neg c] at ha hq ⊢
    exact shows28X_con (k + 2) cs cq _ _ _ w h ha hq (split_res k p H.hc H.ht j m n (H.hr c)).2.1
/-- the split, mixed -/
theorem mixBack_con (k : Nat) (p : PD (k + 2)) (j m n : Nat) (H : Boxing k p j m n) (c : (PlainD.shape (α := PD (k + 1)) p).length ≠ 0) (hne : (PlainD.items (α := PD (k + 1)) p).length ≠ 0) (he : spE28 k p j m n = 0) (cs : List Value) (w : World) (h : GHeap) (ha : SplA k p j m n h cs) : Con Tryz.prog 23 [.agg cs.toArray, .int .i64 1048576] w h (fun h' u => ∃ c2 r, u = .tuple #[.agg c2.toArray, .int .i64 0] ∧ ArrAt (k + 2) h' c2 r ∧ ResX (k + 1) 0 r (tidy (k + 2) p)) := by
  have hR := H.hr c
  have hS := split_res k p H.hc H.ht j m n hR
  have hB := mixback_res k p H.hc H.ht j m n hR (by rw [H.len]; exact hne)
  unfold SplA at ha
  unfold spE28 at he
  rw [if_neg c] at ha he
  have hg := hS.2.2 (hS.1.symm.trans he)
  have hA : deepA (k + 2) (splitA (k := k) (arr (k + 2) p) j m n) = splitA (k := k) (arr (k + 2) p) j m n := by unfold deepA; rw [decB_of hg]; rfl
  rw [hA] at ha
  have hrl : (rowsA (ArrD.vec (α := AD (k + 1)) (arr (k + 2) p)) n m).length = m := by unfold rowsA; rw [List.length_map, List.length_range]
  have hcon := partMix_con (k + 1) cs (splitA (k := k) (arr (k + 2) p) j m n) 1048576 w h ha rfl (by
      show ((PlainD.shape (α := PD (k + 1)) p).take j).length ≤ 8
      rw [List.length_take]
      have := H.h8
      omega) (by
      show 0 + 0 + (rowsA (ArrD.vec (α := AD (k + 1)) (arr (k + 2) p)) n m).length ≤ 1048576
      have := hR.hm2
      omega) (by
      intro b hb
      have hb : b ∈ rowsA (ArrD.vec (α := AD (k + 1)) (arr (k + 2) p)) n m := hb
      unfold rowsA at hb
      obtain ⟨i, _, rfl⟩ := List.mem_map.1 hb
      show 1 ≤ 8
      omega) (by
      show (((rowsA (ArrD.vec (α := AD (k + 1)) (arr (k + 2) p)) n m).map (bv (k + 1))).map VecD.len).sum ≤ 1048576
      have e : ((rowsA (ArrD.vec (α := AD (k + 1)) (arr (k + 2) p)) n m).map (bv (k + 1))).map VecD.len = (List.range m).map (fun _ => n) := by
        unfold rowsA
        rw [List.map_map, List.map_map]
        apply List.map_congr_left
        intro i _
        show ((ArrD.vec (α := AD (k + 1)) (arr (k + 2) p)).pick (spanL (i * n) ((i + 1) * n)) (blankA k)).len = n
        rw [(pick_facts _ _ _).2.2.1, spanL_length, Nat.add_mul, Nat.one_mul]
        omega
      rw [e, sum_const_of (fun _ => n) n _ (fun _ _ => rfl), List.length_range, ← hR.hl, H.len]
      exact H.hn)
  refine hcon.mono ?_
  rintro h' u hle ⟨c2, rfl, hr⟩
  rw [hB.1]
  exact ⟨c2, _, rfl, hr, hB.2⟩
end Go.Proofs.YtmojpbfkpggjhaaGreat

/-
  The law of boxes, first parts and rows: its walk. No statement is proved here.
-/
namespace Go.Proofs.YtmojpbfkpggjhaaGreat
open Go Go.RowKit
set_option linter.unusedVariables false
set_option linter.unusedSimpArgs false
set_option maxHeartbeats 4000000
attribute [local irreducible] CW RW QW SW HW ConM retM heldQ calmQ elemP thenQ blockQ loopQ joinQ retQ Yields Con Sl zF magR unitF truncF fwF wholeF tidySpec elemQ rankF leastN tidyW
set_option maxHeartbeats 4000000

theorem partBoxesLaw_con (k : Nat) (cs : List Value) (p : PD (k + 2)) (w : World) (h : GHeap) (hp : PlainAt (k + 2) h cs p) : Con Tryz.prog 5 [.agg cs.toArray] w h (fun _ u => u = .bool true) := by
  have hp' := hp
  have hp00 := hp
  obtain ⟨s, it, rfl, ⟨ad, cp, rfl, _⟩, ⟨ad2, cp2, xs, rfl, _, _⟩⟩ := hp
  have hp := hp00
  clear hp00
  refine Con.of_body Tryz.func5 rfl Tryz.ntmps5 rfl rfl ?_
  intro hs
  refine Zrun ?_
  (refine RW.boxN hs rfl rfl ?_; intro b1 w1 hs)
  refine Zerun ?_
  (refine RW.call T hs rfl rfl rfl (fine28_con (k + 1) _ p _ _ hp') ?_; intro v h3 w3 hle3 hp3 hs)
  obtain ⟨b, rfl, hbp⟩ := hp3
  have hp' := PlainAt.mono (k + 2) _ _ _ _ hle3 hp'
  cases b with
  | false =>
    refine Zerun ?_
    (refine RW.call T hs rfl rfl rfl (awake28_con _ _) ?_; intro v h4 w4 hle4 hp4 hs)
    subst hp4
    refine Zerun ?_
    exact retQ_ret [_] h4 ⟨rfl, trivial⟩ hs.dropAll rfl
  | true =>
  obtain ⟨hc, h8, hn3⟩ := hbp rfl
  have ht := tidy_tdy (k + 2) 40 p _ _ hp hc
  have hpr := (tells_at k 40 p (by omega) (by omega) hc ht).2
  obtain ⟨j, m, n, HB⟩ : ∃ j m n, Boxing k p j m n := by
    by_cases c0 : (PlainD.shape (α := PD (k + 1)) p).length = 0
    · exact ⟨0, 0, 0, hc, ht, h8, by omega, fun e => absurd c0 e⟩
    · obtain ⟨j, m, n, hr⟩ := rows_of hpr (by omega)
      exact ⟨j, m, n, hc, ht, h8, by omega, fun _ => hr⟩
  have hbr := box_res (k + 1) p hc ht
  refine Zerun ?_
  refine CW.meet (fun r : Nat × Nat × List Value × List Value × GHeap => [(1, .pointer (some ⟨b1, 0, none⟩)), (2, .bool false), (3, .pointer (some ⟨r.1, 0, none⟩)), (4, .pointer (some ⟨r.2.1, 0, none⟩))]) (fun r w' => ArrAt (k + 2) r.2.2.2.2 r.2.2.1 (arr (k + 2) p) ∧ PlainAt (k + 2) r.2.2.2.2 r.2.2.2.1 (tidy (k + 2) p) ∧ PlainAt (k + 2) r.2.2.2.2 [.slice ad (PlainD.shape (α := PD (k + 1)) p).length cp, .slice ad2 (PlainD.items (α := PD (k + 1)) p).length cp2, .int .i64 (PlainD.fill (α := PD (k + 1)) p)] p ∧ Sees w h r.2.2.2.2 [⟨some ⟨r.2.1, 0, none⟩, 1, 1, 25, 3, r.2.2.2.1⟩, ⟨some ⟨r.1, 0, none⟩, 1, 1, 39, 9, r.2.2.1⟩, ⟨some ⟨b1, 0, none⟩, 1, 1, 25, 3, [.slice ad (PlainD.shape (α := PD (k + 1)) p).length cp, .slice ad2 (PlainD.items (α := PD (k + 1)) p).length cp2, .int .i64 (PlainD.fill (α := PD (k + 1)) p)]⟩] w') ?_ ?_
  · refine CW.regionR T 0 0 hs rfl rfl ?_
    intro w20 hs
    refine HW.takeR (fuel := 7) 0 rfl (fun _ _ ka kb _ hs hka hkb => Y.loadRowN T hs ka hka rfl rfl rfl rfl rfl rfl) ⟨_, _, 0, 0, hs, rfl, rfl⟩ rfl (by kernel_rfl) (by kernel_rfl) (by kernel_rfl) ?_
    refine HW.takeR (fuel := 6) 2 rfl (fun _ _ ka kb _ hs hka hkb => Y.loadRowN T hs ka hka rfl rfl rfl rfl rfl rfl) ⟨_, _, 0, 0, hs, rfl, rfl⟩ rfl (by kernel_rfl) (by kernel_rfl) (by kernel_rfl) ?_
    refine HW.three (fuel := 5) 1 4 5 rfl rfl rfl (by kernel_rfl) ?_ ?_ ?_
    · (refine RW.call T hs rfl rfl rfl (of07_con (k + 2) _ p _ _ hp' hc) ?_; intro v h20 w20 hle20 hp20 hs)
      obtain ⟨cs20, rfl, _, _, hA3⟩ := hp20
      obtain ⟨x0, x1, x2, x3, x4, x5, x6, x7, x8, rfl, hox⟩ := cells9 (K := k + 2) hA3
      have hp' := PlainAt.mono (k + 2) _ _ _ _ hle20 hp'
      refine RW.nil ?_
      refine heldQ_normal ⟨_, _, 0, 0, hs, rfl, rfl⟩ ?_
      refine HW.three (fuel := 4) 3 4 5 rfl rfl rfl (by kernel_rfl) ?_ ?_ ?_
      · (refine RW.call T hs rfl rfl rfl (refTidyP_con (k + 2) 40 _ p _ _ hp' hc) ?_; intro v h22 w22 hle22 hp22 hs)
        obtain ⟨cs22, rfl, hQ4⟩ := hp22
        have hQ4 : PlainAt (k + 2) h22 cs22 (tidy (k + 2) p) := hQ4
        obtain ⟨y0, y1, y2, rfl, hoy⟩ := cells3 (K := k + 2) hQ4
        have hp' := PlainAt.mono (k + 2) _ _ _ _ hle22 hp'
        have hA3 := ArrAt.mono (k + 2) _ _ _ _ hle22 hA3
        refine RW.nil ?_
        refine heldQ_normal ⟨_, _, 0, 0, hs, rfl, rfl⟩ ?_
        refine HW.two (fuel := 3) 4 5 rfl rfl (by kernel_rfl) ?_ ?_
        · (refine RW.allocN T hs rfl rfl rfl rfl ?_; intro b3 w3 hs)
          refine RW.nil ?_
          refine heldQ_normal ⟨_, _, 1, 1, hs, rfl, rfl⟩ ?_
          refine HW.one (fuel := 2) 5 rfl (by kernel_rfl) ?_
          (refine RW.allocN T hs rfl rfl rfl rfl ?_; intro b4 w4 hs)
          refine RW.nil ?_
          refine heldQ_normal ⟨_, _, 2, 2, hs, rfl, rfl⟩ ?_
          refine HW.one (fuel := 1) 6 rfl (by kernel_rfl) ?_
          (refine RW.storeAll T hs 1 rfl rfl rfl rfl rfl rfl hox rfl ?_; intro w906 hs)
          refine RW.nil ?_
          refine heldQ_normal ⟨_, _, 2, 2, hs, rfl, rfl⟩ ?_
          refine HW.one (fuel := 0) 7 rfl (by kernel_rfl) ?_
          (refine RW.storeAll T hs 0 rfl rfl rfl rfl rfl rfl hoy rfl ?_; intro w907 hs)
          refine RW.nil ?_
          refine heldQ_normal ⟨_, _, 2, 2, hs, rfl, rfl⟩ ?_
          refine HW.done (by kernel_rfl) ?_
          refine calmQ_normal ?_
          exact joinQ_meet (b3, b4, _, _, _) ⟨rfl, rfl, rfl, rfl, trivial⟩ ⟨hA3, hQ4, hp', hs⟩
        · (refine RW.allocN T hs rfl rfl rfl rfl ?_; intro b4 w4 hs)
          refine RW.nil ?_
          refine heldQ_normal ⟨_, _, 1, 1, hs, rfl, rfl⟩ ?_
          refine HW.one (fuel := 2) 4 rfl (by kernel_rfl) ?_
          (refine RW.allocN T hs rfl rfl rfl rfl ?_; intro b3 w3 hs)
          refine RW.nil ?_
          refine heldQ_normal ⟨_, _, 2, 2, hs, rfl, rfl⟩ ?_
          refine HW.one (fuel := 1) 6 rfl (by kernel_rfl) ?_
          (refine RW.storeAll T hs 0 rfl rfl rfl rfl rfl rfl hox rfl ?_; intro w906 hs)
          refine RW.nil ?_
          refine heldQ_normal ⟨_, _, 2, 2, hs, rfl, rfl⟩ ?_
          refine HW.one (fuel := 0) 7 rfl (by kernel_rfl) ?_
          (refine RW.storeAll T hs 1 rfl rfl rfl rfl rfl rfl hoy rfl ?_; intro w907 hs)
          refine RW.nil ?_
          refine heldQ_normal ⟨_, _, 2, 2, hs, rfl, rfl⟩ ?_
          refine HW.done (by kernel_rfl) ?_
          refine calmQ_normal ?_
          exact joinQ_meet (b3, b4, _, _, _) ⟨rfl, rfl, rfl, rfl, trivial⟩ ⟨hA3, hQ4, hp', hs.swap⟩
      · (refine RW.allocN T hs rfl rfl rfl rfl ?_; intro b3 w3 hs)
        refine RW.nil ?_
        refine heldQ_normal ⟨_, _, 1, 1, hs, rfl, rfl⟩ ?_
        refine HW.two (fuel := 3) 3 5 rfl rfl (by kernel_rfl) ?_ ?_
        · (refine RW.call T hs rfl rfl rfl (refTidyP_con (k + 2) 40 _ p _ _ hp' hc) ?_; intro v h22 w22 hle22 hp22 hs)
          obtain ⟨cs22, rfl, hQ4⟩ := hp22
          have hQ4 : PlainAt (k + 2) h22 cs22 (tidy (k + 2) p) := hQ4
          obtain ⟨y0, y1, y2, rfl, hoy⟩ := cells3 (K := k + 2) hQ4
          have hp' := PlainAt.mono (k + 2) _ _ _ _ hle22 hp'
          have hA3 := ArrAt.mono (k + 2) _ _ _ _ hle22 hA3
          refine RW.nil ?_
          refine heldQ_normal ⟨_, _, 1, 1, hs, rfl, rfl⟩ ?_
          refine HW.one (fuel := 2) 5 rfl (by kernel_rfl) ?_
          (refine RW.allocN T hs rfl rfl rfl rfl ?_; intro b4 w4 hs)
          refine RW.nil ?_
          refine heldQ_normal ⟨_, _, 2, 2, hs, rfl, rfl⟩ ?_
          refine HW.one (fuel := 1) 6 rfl (by kernel_rfl) ?_
          (refine RW.storeAll T hs 1 rfl rfl rfl rfl rfl rfl hox rfl ?_; intro w906 hs)
          refine RW.nil ?_
          refine heldQ_normal ⟨_, _, 2, 2, hs, rfl, rfl⟩ ?_
          refine HW.one (fuel := 0) 7 rfl (by kernel_rfl) ?_
          (refine RW.storeAll T hs 0 rfl rfl rfl rfl rfl rfl hoy rfl ?_; intro w907 hs)
          refine RW.nil ?_
          refine heldQ_normal ⟨_, _, 2, 2, hs, rfl, rfl⟩ ?_
          refine HW.done (by kernel_rfl) ?_
          refine calmQ_normal ?_
          exact joinQ_meet (b3, b4, _, _, _) ⟨rfl, rfl, rfl, rfl, trivial⟩ ⟨hA3, hQ4, hp', hs⟩
        · (refine RW.allocN T hs rfl rfl rfl rfl ?_; intro b4 w4 hs)
          refine RW.nil ?_
          refine heldQ_normal ⟨_, _, 2, 2, hs, rfl, rfl⟩ ?_
          refine HW.one (fuel := 2) 3 rfl (by kernel_rfl) ?_
          (refine RW.call T hs rfl rfl rfl (refTidyP_con (k + 2) 40 _ p _ _ hp' hc) ?_; intro v h22 w22 hle22 hp22 hs)
          obtain ⟨cs22, rfl, hQ4⟩ := hp22
          have hQ4 : PlainAt (k + 2) h22 cs22 (tidy (k + 2) p) := hQ4
          obtain ⟨y0, y1, y2, rfl, hoy⟩ := cells3 (K := k + 2) hQ4
          have hp' := PlainAt.mono (k + 2) _ _ _ _ hle22 hp'
          have hA3 := ArrAt.mono (k + 2) _ _ _ _ hle22 hA3
          refine RW.nil ?_
          refine heldQ_normal ⟨_, _, 2, 2, hs, rfl, rfl⟩ ?_
          refine HW.one (fuel := 1) 6 rfl (by kernel_rfl) ?_
          (refine RW.storeAll T hs 1 rfl rfl rfl rfl rfl rfl hox rfl ?_; intro w906 hs)
          refine RW.nil ?_
          refine heldQ_normal ⟨_, _, 2, 2, hs, rfl, rfl⟩ ?_
          refine HW.one (fuel := 0) 7 rfl (by kernel_rfl) ?_
          (refine RW.storeAll T hs 0 rfl rfl rfl rfl rfl rfl hoy rfl ?_; intro w907 hs)
          refine RW.nil ?_
          refine heldQ_normal ⟨_, _, 2, 2, hs, rfl, rfl⟩ ?_
          refine HW.done (by kernel_rfl) ?_
          refine calmQ_normal ?_
          exact joinQ_meet (b3, b4, _, _, _) ⟨rfl, rfl, rfl, rfl, trivial⟩ ⟨hA3, hQ4, hp', hs⟩
      · (refine RW.allocN T hs rfl rfl rfl rfl ?_; intro b4 w4 hs)
        refine RW.nil ?_
        refine heldQ_normal ⟨_, _, 1, 1, hs, rfl, rfl⟩ ?_
        refine HW.two (fuel := 3) 3 4 rfl rfl (by kernel_rfl) ?_ ?_
        · (refine RW.call T hs rfl rfl rfl (refTidyP_con (k + 2) 40 _ p _ _ hp' hc) ?_; intro v h22 w22 hle22 hp22 hs)
          obtain ⟨cs22, rfl, hQ4⟩ := hp22
          have hQ4 : PlainAt (k + 2) h22 cs22 (tidy (k + 2) p) := hQ4
          obtain ⟨y0, y1, y2, rfl, hoy⟩ := cells3 (K := k + 2) hQ4
          have hp' := PlainAt.mono (k + 2) _ _ _ _ hle22 hp'
          have hA3 := ArrAt.mono (k + 2) _ _ _ _ hle22 hA3
          refine RW.nil ?_
          refine heldQ_normal ⟨_, _, 1, 1, hs, rfl, rfl⟩ ?_
          refine HW.one (fuel := 2) 4 rfl (by kernel_rfl) ?_
          (refine RW.allocN T hs rfl rfl rfl rfl ?_; intro b3 w3 hs)
          refine RW.nil ?_
          refine heldQ_normal ⟨_, _, 2, 2, hs, rfl, rfl⟩ ?_
          refine HW.one (fuel := 1) 6 rfl (by kernel_rfl) ?_
          (refine RW.storeAll T hs 0 rfl rfl rfl rfl rfl rfl hox rfl ?_; intro w906 hs)
          refine RW.nil ?_
          refine heldQ_normal ⟨_, _, 2, 2, hs, rfl, rfl⟩ ?_
          refine HW.one (fuel := 0) 7 rfl (by kernel_rfl) ?_
          (refine RW.storeAll T hs 1 rfl rfl rfl rfl rfl rfl hoy rfl ?_; intro w907 hs)
          refine RW.nil ?_
          refine heldQ_normal ⟨_, _, 2, 2, hs, rfl, rfl⟩ ?_
          refine HW.done (by kernel_rfl) ?_
          refine calmQ_normal ?_
          exact joinQ_meet (b3, b4, _, _, _) ⟨rfl, rfl, rfl, rfl, trivial⟩ ⟨hA3, hQ4, hp', hs.swap⟩
        · (refine RW.allocN T hs rfl rfl rfl rfl ?_; intro b3 w3 hs)
          refine RW.nil ?_
          refine heldQ_normal ⟨_, _, 2, 2, hs, rfl, rfl⟩ ?_
          refine HW.one (fuel := 2) 3 rfl (by kernel_rfl) ?_
          (refine RW.call T hs rfl rfl rfl (refTidyP_con (k + 2) 40 _ p _ _ hp' hc) ?_; intro v h22 w22 hle22 hp22 hs)
          obtain ⟨cs22, rfl, hQ4⟩ := hp22
          have hQ4 : PlainAt (k + 2) h22 cs22 (tidy (k + 2) p) := hQ4
          obtain ⟨y0, y1, y2, rfl, hoy⟩ := cells3 (K := k + 2) hQ4
          have hp' := PlainAt.mono (k + 2) _ _ _ _ hle22 hp'
          have hA3 := ArrAt.mono (k + 2) _ _ _ _ hle22 hA3
          refine RW.nil ?_
          refine heldQ_normal ⟨_, _, 2, 2, hs, rfl, rfl⟩ ?_
          refine HW.one (fuel := 1) 6 rfl (by kernel_rfl) ?_
          (refine RW.storeAll T hs 0 rfl rfl rfl rfl rfl rfl hox rfl ?_; intro w906 hs)
          refine RW.nil ?_
          refine heldQ_normal ⟨_, _, 2, 2, hs, rfl, rfl⟩ ?_
          refine HW.one (fuel := 0) 7 rfl (by kernel_rfl) ?_
          (refine RW.storeAll T hs 1 rfl rfl rfl rfl rfl rfl hoy rfl ?_; intro w907 hs)
          refine RW.nil ?_
          refine heldQ_normal ⟨_, _, 2, 2, hs, rfl, rfl⟩ ?_
          refine HW.done (by kernel_rfl) ?_
          refine calmQ_normal ?_
          exact joinQ_meet (b3, b4, _, _, _) ⟨rfl, rfl, rfl, rfl, trivial⟩ ⟨hA3, hQ4, hp', hs.swap⟩
    · (refine RW.allocN T hs rfl rfl rfl rfl ?_; intro b3 w3 hs)
      refine RW.nil ?_
      refine heldQ_normal ⟨_, _, 1, 1, hs, rfl, rfl⟩ ?_
      refine HW.two (fuel := 4) 1 5 rfl rfl (by kernel_rfl) ?_ ?_
      · (refine RW.call T hs rfl rfl rfl (of07_con (k + 2) _ p _ _ hp' hc) ?_; intro v h20 w20 hle20 hp20 hs)
        obtain ⟨cs20, rfl, _, _, hA3⟩ := hp20
        obtain ⟨x0, x1, x2, x3, x4, x5, x6, x7, x8, rfl, hox⟩ := cells9 (K := k + 2) hA3
        have hp' := PlainAt.mono (k + 2) _ _ _ _ hle20 hp'
        refine RW.nil ?_
        refine heldQ_normal ⟨_, _, 1, 1, hs, rfl, rfl⟩ ?_
        refine HW.two (fuel := 3) 3 5 rfl rfl (by kernel_rfl) ?_ ?_
        · (refine RW.call T hs rfl rfl rfl (refTidyP_con (k + 2) 40 _ p _ _ hp' hc) ?_; intro v h22 w22 hle22 hp22 hs)
          obtain ⟨cs22, rfl, hQ4⟩ := hp22
          have hQ4 : PlainAt (k + 2) h22 cs22 (tidy (k + 2) p) := hQ4
          obtain ⟨y0, y1, y2, rfl, hoy⟩ := cells3 (K := k + 2) hQ4
          have hp' := PlainAt.mono (k + 2) _ _ _ _ hle22 hp'
          have hA3 := ArrAt.mono (k + 2) _ _ _ _ hle22 hA3
          refine RW.nil ?_
          refine heldQ_normal ⟨_, _, 1, 1, hs, rfl, rfl⟩ ?_
          refine HW.one (fuel := 2) 5 rfl (by kernel_rfl) ?_
          (refine RW.allocN T hs rfl rfl rfl rfl ?_; intro b4 w4 hs)
          refine RW.nil ?_
          refine heldQ_normal ⟨_, _, 2, 2, hs, rfl, rfl⟩ ?_
          refine HW.one (fuel := 1) 6 rfl (by kernel_rfl) ?_
          (refine RW.storeAll T hs 1 rfl rfl rfl rfl rfl rfl hox rfl ?_; intro w906 hs)
          refine RW.nil ?_
          refine heldQ_normal ⟨_, _, 2, 2, hs, rfl, rfl⟩ ?_
          refine HW.one (fuel := 0) 7 rfl (by kernel_rfl) ?_
          (refine RW.storeAll T hs 0 rfl rfl rfl rfl rfl rfl hoy rfl ?_; intro w907 hs)
          refine RW.nil ?_
          refine heldQ_normal ⟨_, _, 2, 2, hs, rfl, rfl⟩ ?_
          refine HW.done (by kernel_rfl) ?_
          refine calmQ_normal ?_
          exact joinQ_meet (b3, b4, _, _, _) ⟨rfl, rfl, rfl, rfl, trivial⟩ ⟨hA3, hQ4, hp', hs⟩
        · (refine RW.allocN T hs rfl rfl rfl rfl ?_; intro b4 w4 hs)
          refine RW.nil ?_
          refine heldQ_normal ⟨_, _, 2, 2, hs, rfl, rfl⟩ ?_
          refine HW.one (fuel := 2) 3 rfl (by kernel_rfl) ?_
          (refine RW.call T hs rfl rfl rfl (refTidyP_con (k + 2) 40 _ p _ _ hp' hc) ?_; intro v h22 w22 hle22 hp22 hs)
          obtain ⟨cs22, rfl, hQ4⟩ := hp22
          have hQ4 : PlainAt (k + 2) h22 cs22 (tidy (k + 2) p) := hQ4
          obtain ⟨y0, y1, y2, rfl, hoy⟩ := cells3 (K := k + 2) hQ4
          have hp' := PlainAt.mono (k + 2) _ _ _ _ hle22 hp'
          have hA3 := ArrAt.mono (k + 2) _ _ _ _ hle22 hA3
          refine RW.nil ?_
          refine heldQ_normal ⟨_, _, 2, 2, hs, rfl, rfl⟩ ?_
          refine HW.one (fuel := 1) 6 rfl (by kernel_rfl) ?_
          (refine RW.storeAll T hs 1 rfl rfl rfl rfl rfl rfl hox rfl ?_; intro w906 hs)
          refine RW.nil ?_
          refine heldQ_normal ⟨_, _, 2, 2, hs, rfl, rfl⟩ ?_
          refine HW.one (fuel := 0) 7 rfl (by kernel_rfl) ?_
          (refine RW.storeAll T hs 0 rfl rfl rfl rfl rfl rfl hoy rfl ?_; intro w907 hs)
          refine RW.nil ?_
          refine heldQ_normal ⟨_, _, 2, 2, hs, rfl, rfl⟩ ?_
          refine HW.done (by kernel_rfl) ?_
          refine calmQ_normal ?_
          exact joinQ_meet (b3, b4, _, _, _) ⟨rfl, rfl, rfl, rfl, trivial⟩ ⟨hA3, hQ4, hp', hs⟩
      · (refine RW.allocN T hs rfl rfl rfl rfl ?_; intro b4 w4 hs)
        refine RW.nil ?_
        refine heldQ_normal ⟨_, _, 2, 2, hs, rfl, rfl⟩ ?_
        refine HW.one (fuel := 3) 1 rfl (by kernel_rfl) ?_
        (refine RW.call T hs rfl rfl rfl (of07_con (k + 2) _ p _ _ hp' hc) ?_; intro v h20 w20 hle20 hp20 hs)
        obtain ⟨cs20, rfl, _, _, hA3⟩ := hp20
        obtain ⟨x0, x1, x2, x3, x4, x5, x6, x7, x8, rfl, hox⟩ := cells9 (K := k + 2) hA3
        have hp' := PlainAt.mono (k + 2) _ _ _ _ hle20 hp'
        refine RW.nil ?_
        refine heldQ_normal ⟨_, _, 2, 2, hs, rfl, rfl⟩ ?_
        refine HW.one (fuel := 2) 3 rfl (by kernel_rfl) ?_
        (refine RW.call T hs rfl rfl rfl (refTidyP_con (k + 2) 40 _ p _ _ hp' hc) ?_; intro v h22 w22 hle22 hp22 hs)
        obtain ⟨cs22, rfl, hQ4⟩ := hp22
        have hQ4 : PlainAt (k + 2) h22 cs22 (tidy (k + 2) p) := hQ4
        obtain ⟨y0, y1, y2, rfl, hoy⟩ := cells3 (K := k + 2) hQ4
        have hp' := PlainAt.mono (k + 2) _ _ _ _ hle22 hp'
        have hA3 := ArrAt.mono (k + 2) _ _ _ _ hle22 hA3
        refine RW.nil ?_
        refine heldQ_normal ⟨_, _, 2, 2, hs, rfl, rfl⟩ ?_
        refine HW.one (fuel := 1) 6 rfl (by kernel_rfl) ?_
        (refine RW.storeAll T hs 1 rfl rfl rfl rfl rfl rfl hox rfl ?_; intro w906 hs)
        refine RW.nil ?_
        refine heldQ_normal ⟨_, _, 2, 2, hs, rfl, rfl⟩ ?_
        refine HW.one (fuel := 0) 7 rfl (by kernel_rfl) ?_
        (refine RW.storeAll T hs 0 rfl rfl rfl rfl rfl rfl hoy rfl ?_; intro w907 hs)
        refine RW.nil ?_
        refine heldQ_normal ⟨_, _, 2, 2, hs, rfl, rfl⟩ ?_
        refine HW.done (by kernel_rfl) ?_
        refine calmQ_normal ?_
        exact joinQ_meet (b3, b4, _, _, _) ⟨rfl, rfl, rfl, rfl, trivial⟩ ⟨hA3, hQ4, hp', hs⟩
    · (refine RW.allocN T hs rfl rfl rfl rfl ?_; intro b4 w4 hs)
      refine RW.nil ?_
      refine heldQ_normal ⟨_, _, 1, 1, hs, rfl, rfl⟩ ?_
      refine HW.two (fuel := 4) 1 4 rfl rfl (by kernel_rfl) ?_ ?_
      · (refine RW.call T hs rfl rfl rfl (of07_con (k + 2) _ p _ _ hp' hc) ?_; intro v h20 w20 hle20 hp20 hs)
        obtain ⟨cs20, rfl, _, _, hA3⟩ := hp20
        obtain ⟨x0, x1, x2, x3, x4, x5, x6, x7, x8, rfl, hox⟩ := cells9 (K := k + 2) hA3
        have hp' := PlainAt.mono (k + 2) _ _ _ _ hle20 hp'
        refine RW.nil ?_
        refine heldQ_normal ⟨_, _, 1, 1, hs, rfl, rfl⟩ ?_
        refine HW.two (fuel := 3) 3 4 rfl rfl (by kernel_rfl) ?_ ?_
        · (refine RW.call T hs rfl rfl rfl (refTidyP_con (k + 2) 40 _ p _ _ hp' hc) ?_; intro v h22 w22 hle22 hp22 hs)
          obtain ⟨cs22, rfl, hQ4⟩ := hp22
          have hQ4 : PlainAt (k + 2) h22 cs22 (tidy (k + 2) p) := hQ4
          obtain ⟨y0, y1, y2, rfl, hoy⟩ := cells3 (K := k + 2) hQ4
          have hp' := PlainAt.mono (k + 2) _ _ _ _ hle22 hp'
          have hA3 := ArrAt.mono (k + 2) _ _ _ _ hle22 hA3
          refine RW.nil ?_
          refine heldQ_normal ⟨_, _, 1, 1, hs, rfl, rfl⟩ ?_
          refine HW.one (fuel := 2) 4 rfl (by kernel_rfl) ?_
          (refine RW.allocN T hs rfl rfl rfl rfl ?_; intro b3 w3 hs)
          refine RW.nil ?_
          refine heldQ_normal ⟨_, _, 2, 2, hs, rfl, rfl⟩ ?_
          refine HW.one (fuel := 1) 6 rfl (by kernel_rfl) ?_
          (refine RW.storeAll T hs 0 rfl rfl rfl rfl rfl rfl hox rfl ?_; intro w906 hs)
          refine RW.nil ?_
          refine heldQ_normal ⟨_, _, 2, 2, hs, rfl, rfl⟩ ?_
          refine HW.one (fuel := 0) 7 rfl (by kernel_rfl) ?_
          (refine RW.storeAll T hs 1 rfl rfl rfl rfl rfl rfl hoy rfl ?_; intro w907 hs)
          refine RW.nil ?_
          refine heldQ_normal ⟨_, _, 2, 2, hs, rfl, rfl⟩ ?_
          refine HW.done (by kernel_rfl) ?_
          refine calmQ_normal ?_
          exact joinQ_meet (b3, b4, _, _, _) ⟨rfl, rfl, rfl, rfl, trivial⟩ ⟨hA3, hQ4, hp', hs.swap⟩
        · (refine RW.allocN T hs rfl rfl rfl rfl ?_; intro b3 w3 hs)
          refine RW.nil ?_
          refine heldQ_normal ⟨_, _, 2, 2, hs, rfl, rfl⟩ ?_
          refine HW.one (fuel := 2) 3 rfl (by kernel_rfl) ?_
          (refine RW.call T hs rfl rfl rfl (refTidyP_con (k + 2) 40 _ p _ _ hp' hc) ?_; intro v h22 w22 hle22 hp22 hs)
          obtain ⟨cs22, rfl, hQ4⟩ := hp22
          have hQ4 : PlainAt (k + 2) h22 cs22 (tidy (k + 2) p) := hQ4
          obtain ⟨y0, y1, y2, rfl, hoy⟩ := cells3 (K := k + 2) hQ4
          have hp' := PlainAt.mono (k + 2) _ _ _ _ hle22 hp'
          have hA3 := ArrAt.mono (k + 2) _ _ _ _ hle22 hA3
          refine RW.nil ?_
          refine heldQ_normal ⟨_, _, 2, 2, hs, rfl, rfl⟩ ?_
          refine HW.one (fuel := 1) 6 rfl (by kernel_rfl) ?_
          (refine RW.storeAll T hs 0 rfl rfl rfl rfl rfl rfl hox rfl ?_; intro w906 hs)
          refine RW.nil ?_
          refine heldQ_normal ⟨_, _, 2, 2, hs, rfl, rfl⟩ ?_
          refine HW.one (fuel := 0) 7 rfl (by kernel_rfl) ?_
          (refine RW.storeAll T hs 1 rfl rfl rfl rfl rfl rfl hoy rfl ?_; intro w907 hs)
          refine RW.nil ?_
          refine heldQ_normal ⟨_, _, 2, 2, hs, rfl, rfl⟩ ?_
          refine HW.done (by kernel_rfl) ?_
          refine calmQ_normal ?_
          exact joinQ_meet (b3, b4, _, _, _) ⟨rfl, rfl, rfl, rfl, trivial⟩ ⟨hA3, hQ4, hp', hs.swap⟩
      · (refine RW.allocN T hs rfl rfl rfl rfl ?_; intro b3 w3 hs)
        refine RW.nil ?_
        refine heldQ_normal ⟨_, _, 2, 2, hs, rfl, rfl⟩ ?_
        refine HW.one (fuel := 3) 1 rfl (by kernel_rfl) ?_
        (refine RW.call T hs rfl rfl rfl (of07_con (k + 2) _ p _ _ hp' hc) ?_; intro v h20 w20 hle20 hp20 hs)
        obtain ⟨cs20, rfl, _, _, hA3⟩ := hp20
        obtain ⟨x0, x1, x2, x3, x4, x5, x6, x7, x8, rfl, hox⟩ := cells9 (K := k + 2) hA3
        have hp' := PlainAt.mono (k + 2) _ _ _ _ hle20 hp'
        refine RW.nil ?_
        refine heldQ_normal ⟨_, _, 2, 2, hs, rfl, rfl⟩ ?_
        refine HW.one (fuel := 2) 3 rfl (by kernel_rfl) ?_
        (refine RW.call T hs rfl rfl rfl (refTidyP_con (k + 2) 40 _ p _ _ hp' hc) ?_; intro v h22 w22 hle22 hp22 hs)
        obtain ⟨cs22, rfl, hQ4⟩ := hp22
        have hQ4 : PlainAt (k + 2) h22 cs22 (tidy (k + 2) p) := hQ4
        obtain ⟨y0, y1, y2, rfl, hoy⟩ := cells3 (K := k + 2) hQ4
        have hp' := PlainAt.mono (k + 2) _ _ _ _ hle22 hp'
        have hA3 := ArrAt.mono (k + 2) _ _ _ _ hle22 hA3
        refine RW.nil ?_
        refine heldQ_normal ⟨_, _, 2, 2, hs, rfl, rfl⟩ ?_
        refine HW.one (fuel := 1) 6 rfl (by kernel_rfl) ?_
        (refine RW.storeAll T hs 0 rfl rfl rfl rfl rfl rfl hox rfl ?_; intro w906 hs)
        refine RW.nil ?_
        refine heldQ_normal ⟨_, _, 2, 2, hs, rfl, rfl⟩ ?_
        refine HW.one (fuel := 0) 7 rfl (by kernel_rfl) ?_
        (refine RW.storeAll T hs 1 rfl rfl rfl rfl rfl rfl hoy rfl ?_; intro w907 hs)
        refine RW.nil ?_
        refine heldQ_normal ⟨_, _, 2, 2, hs, rfl, rfl⟩ ?_
        refine HW.done (by kernel_rfl) ?_
        refine calmQ_normal ?_
        exact joinQ_meet (b3, b4, _, _, _) ⟨rfl, rfl, rfl, rfl, trivial⟩ ⟨hA3, hQ4, hp', hs.swap⟩
  rintro ⟨b3, b4, cs3, cs4, hh⟩ w23 ⟨hA3, hQ4, hp', hs⟩
  dsimp only at hA3 hQ4 hp' hs ⊢
  obtain ⟨x0, x1, x2, x3, x4, x5, x6, x7, x8, rfl, hox⟩ := cells9 (K := k + 2) hA3
  obtain ⟨y0, y1, y2, rfl, hoy⟩ := cells3 (K := k + 2) hQ4
  refine Zerun ?_
  (refine RW.call T hs rfl rfl rfl (partEnclose_con (k + 1) _ (arr (k + 2) p) _ _ hA3) ?_; intro v h25 w25 hle25 hp25 hs)
  obtain ⟨cs25, rfl, hB5⟩ := hp25
  have hp' := PlainAt.mono (k + 2) _ _ _ _ hle25 hp'
  have hA3 := ArrAt.mono (k + 2) _ _ _ _ hle25 hA3
  have hQ4 := PlainAt.mono (k + 2) _ _ _ _ hle25 hQ4
  obtain ⟨u0, u1, u2, u3, u4, u5, u6, u7, u8, rfl, hou⟩ := cells9 (K := k + 3) hB5
  refine Zerun ?_
  (refine RW.allocN T hs rfl rfl rfl rfl ?_; intro b5 w5 hs)
  (refine RW.storeAll T hs 0 rfl rfl rfl rfl rfl rfl hou rfl ?_; intro w26 hs)
  refine Zerun ?_
  (refine RW.call T hs rfl rfl rfl (refEnclose_con (k + 1) _ (tidy (k + 2) p) _ _ hQ4) ?_; intro v h30 w30 hle30 hp30 hs)
  obtain ⟨cs30, rfl, hC7⟩ := hp30
  have hp' := PlainAt.mono (k + 2) _ _ _ _ hle30 hp'
  have hA3 := ArrAt.mono (k + 2) _ _ _ _ hle30 hA3
  have hQ4 := PlainAt.mono (k + 2) _ _ _ _ hle30 hQ4
  have hB5 := ArrAt.mono (k + 3) _ _ _ _ hle30 hB5
  obtain ⟨v0, v1, v2, rfl, hov⟩ := cells3 (K := k + 3) hC7
  refine Zerun ?_
  (refine RW.allocN T hs rfl rfl rfl rfl ?_; intro b7 w7 hs)
  (refine RW.storeAll T hs 0 rfl rfl rfl rfl rfl rfl hov rfl ?_; intro w31 hs)
  refine Zerun ?_
  (refine RW.call T hs rfl rfl rfl (splitV_con k p j m n HB _ _ _ hA3) ?_; intro v h35 w35 hle35 hp35 hs)
  obtain ⟨cs35, rfl, hX9⟩ := hp35
  have hp' := PlainAt.mono (k + 2) _ _ _ _ hle35 hp'
  have hA3 := ArrAt.mono (k + 2) _ _ _ _ hle35 hA3
  have hQ4 := PlainAt.mono (k + 2) _ _ _ _ hle35 hQ4
  have hB5 := ArrAt.mono (k + 3) _ _ _ _ hle35 hB5
  have hC7 := PlainAt.mono (k + 3) _ _ _ _ hle35 hC7
  obtain ⟨z0, z1, z2, z3, z4, z5, z6, z7, z8, rfl, hoz⟩ := hX9.cells
  refine Zerun ?_
  (refine RW.allocN T hs rfl rfl rfl rfl ?_; intro b9 w9 hs)
  (refine RW.storeAll T hs 0 rfl rfl rfl rfl rfl rfl hoz rfl ?_; intro w36 hs)
  refine Zerun ?_
  (refine RW.call T hs rfl rfl rfl (splitQ_con k p j m n HB _ _ _ hQ4) ?_; intro v h40 w40 hle40 hp40 hs)
  obtain ⟨cs40, rfl, hY11⟩ := hp40
  have hp' := PlainAt.mono (k + 2) _ _ _ _ hle40 hp'
  have hA3 := ArrAt.mono (k + 2) _ _ _ _ hle40 hA3
  have hQ4 := PlainAt.mono (k + 2) _ _ _ _ hle40 hQ4
  have hB5 := ArrAt.mono (k + 3) _ _ _ _ hle40 hB5
  have hC7 := PlainAt.mono (k + 3) _ _ _ _ hle40 hC7
  have hX9 := hX9.mono hle40
  obtain ⟨s0, s1, s2, rfl, hos⟩ := hY11.cells
  refine Zerun ?_
  (refine RW.allocN T hs rfl rfl rfl rfl ?_; intro b11 w11 hs)
  (refine RW.storeAll T hs 0 rfl rfl rfl rfl rfl rfl hos rfl ?_; intro w41 hs)
  refine Zerun ?_
  rw [hbr.1]
  have hbx := hbr.2.1
  rw [hbr.1] at hbx
  refine CW.meet (fun r : GHeap => [(1, .pointer (some ⟨b1, 0, none⟩)), (2, .bool false), (3, .pointer (some ⟨b3, 0, none⟩)), (4, .pointer (some ⟨b4, 0, none⟩)), (9, .pointer (some ⟨b9, 0, none⟩)), (12, .int .i64 (spE28 k p j m n)), (75, .bool false)]) (fun r w' => SplA k p j m n r [z0, z1, z2, z3, z4, z5, z6, z7, z8] ∧ PlainAt (k + 2) r [y0, y1, y2] (tidy (k + 2) p) ∧ Sees w h r [⟨some ⟨b11, 0, none⟩, 1, 1, 25, 3, [s0, s1, s2]⟩, ⟨some ⟨b9, 0, none⟩, 1, 1, 39, 9, [z0, z1, z2, z3, z4, z5, z6, z7, z8]⟩, ⟨some ⟨b7, 0, none⟩, 1, 1, 25, 3, [v0, v1, v2]⟩, ⟨some ⟨b5, 0, none⟩, 1, 1, 39, 9, [u0, u1, u2, u3, u4, u5, u6, u7, u8]⟩, ⟨some ⟨b4, 0, none⟩, 1, 1, 25, 3, [y0, y1, y2]⟩, ⟨some ⟨b3, 0, none⟩, 1, 1, 39, 9, [x0, x1, x2, x3, x4, x5, x6, x7, x8]⟩, ⟨some ⟨b1, 0, none⟩, 1, 1, 25, 3, [.slice ad (PlainD.shape (α := PD (k + 1)) p).length cp, .slice ad2 (PlainD.items (α := PD (k + 1)) p).length cp2, .int .i64 (PlainD.fill (α := PD (k + 1)) p)]⟩] w') ?_ ?_
  · by_cases cf : chkE (k + 2) (boxP (k + 1) (tidy (k + 2) p)) = 0
    · have hAe : deepA (k + 2) (boxA (k + 1) (arr (k + 2) p)) = boxA (k + 1) (arr (k + 2) p) := by unfold deepA; rw [decB_of (hbr.2.2 cf)]; rfl
      rw [hAe] at hB5 hbx
      rw [cf] at hbx ⊢
      refine CW.regionO T hs ?_
      intro w42 hs
      refine HW.takeS (fuel := 32) 0 rfl (fun _ _ hs => Y.loadRowN T hs 3 rfl rfl rfl rfl rfl rfl rfl) hs rfl (by kernel_rfl) (by kernel_rfl) (by kernel_rfl) ?_
      refine HW.takeS (fuel := 31) 1 rfl (fun _ _ hs => Y.move rfl) hs rfl (by kernel_rfl) (by kernel_rfl) (by kernel_rfl) ?_
      refine HW.takeS (fuel := 30) 2 rfl (fun _ _ hs => Y.loadRowN T hs 2 rfl rfl rfl rfl rfl rfl rfl) hs rfl (by kernel_rfl) (by kernel_rfl) (by kernel_rfl) ?_
      refine HW.takeS (fuel := 29) 3 rfl (fun _ _ hs => Y.move rfl) hs rfl (by kernel_rfl) (by kernel_rfl) (by kernel_rfl) ?_
      refine HW.one (fuel := 28) 4 rfl (by kernel_rfl) ?_
      (refine RW.call T hs rfl rfl rfl (shows28X_con (k + 2) _ _ _ _ _ _ _ hB5 hC7 hbx) ?_; intro v h47 w47 hle47 hp47 hs)
      subst hp47
      have hp' := PlainAt.mono (k + 2) _ _ _ _ hle47 hp'
      have hA3 := ArrAt.mono (k + 2) _ _ _ _ hle47 hA3
      have hQ4 := PlainAt.mono (k + 2) _ _ _ _ hle47 hQ4
      have hB5 := ArrAt.mono (k + 3) _ _ _ _ hle47 hB5
      have hX9 := hX9.mono hle47
      have hY11 := hY11.mono hle47
      refine RW.nil ?_
      refine heldQ_normal ⟨_, hs⟩ ?_
      refine HW.takeS (fuel := 27) 5 rfl (fun _ _ hs => Y.not rfl) hs rfl (by kernel_rfl) (by kernel_rfl) (by kernel_rfl) ?_
      refine HW.takeS (fuel := 26) 6 rfl (fun _ _ hs => Y.move rfl) hs rfl (by kernel_rfl) (by kernel_rfl) (by kernel_rfl) ?_
      refine HW.takeSY (fuel := 25) 7 rfl rfl rfl (fun _ _ hs => Y.loadRowN T hs 5 rfl rfl rfl rfl rfl rfl rfl) hs rfl (by kernel_rfl) (by kernel_rfl) (by kernel_rfl) ?_
      refine HW.takeSY (fuel := 24) 9 rfl rfl rfl (fun _ _ hs => Y.loadRowN T hs 4 rfl rfl rfl rfl rfl rfl rfl) hs rfl (by kernel_rfl) (by kernel_rfl) (by kernel_rfl) ?_
      refine HW.one (fuel := 23) 8 rfl (by kernel_rfl) ?_
      refine RW.guardYes rfl rfl ?_
      (refine RW.call T hs rfl rfl rfl (firstA_con k p j m n HB _ _ _ hA3) ?_; intro v h51 w51 hle51 hp51 hs)
      obtain ⟨cs51, rfl, hF51⟩ := hp51
      have hp' := PlainAt.mono (k + 2) _ _ _ _ hle51 hp'
      have hA3 := ArrAt.mono (k + 2) _ _ _ _ hle51 hA3
      have hQ4 := PlainAt.mono (k + 2) _ _ _ _ hle51 hQ4
      have hB5 := ArrAt.mono (k + 3) _ _ _ _ hle51 hB5
      have hX9 := hX9.mono hle51
      have hY11 := hY11.mono hle51
      refine RW.nil ?_
      refine heldQ_normal ⟨_, hs⟩ ?_
      refine HW.one (fuel := 22) 10 rfl (by kernel_rfl) ?_
      refine RW.guardYes rfl rfl ?_
      (refine RW.call T hs rfl rfl rfl (firstQ_con k p j m n HB _ _ _ hQ4) ?_; intro v h53 w53 hle53 hp53 hs)
      obtain ⟨cs53, rfl, hF53⟩ := hp53
      have hp' := PlainAt.mono (k + 2) _ _ _ _ hle53 hp'
      have hA3 := ArrAt.mono (k + 2) _ _ _ _ hle53 hA3
      have hQ4 := PlainAt.mono (k + 2) _ _ _ _ hle53 hQ4
      have hB5 := ArrAt.mono (k + 3) _ _ _ _ hle53 hB5
      have hX9 := hX9.mono hle53
      have hY11 := hY11.mono hle53
      have hF51 := hF51.mono hle53
      refine RW.nil ?_
      refine heldQ_normal ⟨_, hs⟩ ?_
      refine HW.one (fuel := 21) 11 rfl (by kernel_rfl) ?_
      refine RW.guardYes rfl rfl ?_
      (refine RW.call T hs rfl rfl rfl (showsFirst_con k p j m n HB _ _ _ _ hF51 hF53) ?_; intro v h54 w54 hle54 hp54 hs)
      subst hp54
      have hp' := PlainAt.mono (k + 2) _ _ _ _ hle54 hp'
      have hA3 := ArrAt.mono (k + 2) _ _ _ _ hle54 hA3
      have hQ4 := PlainAt.mono (k + 2) _ _ _ _ hle54 hQ4
      have hB5 := ArrAt.mono (k + 3) _ _ _ _ hle54 hB5
      have hX9 := hX9.mono hle54
      have hY11 := hY11.mono hle54
      refine RW.nil ?_
      refine heldQ_normal ⟨_, hs⟩ ?_
      refine HW.takeSY (fuel := 20) 12 rfl rfl rfl (fun _ _ hs => Y.not rfl) hs rfl (by kernel_rfl) (by kernel_rfl) (by kernel_rfl) ?_
      refine HW.takeS (fuel := 19) 13 rfl (fun _ _ hs => Y.pickF rfl rfl) hs rfl (by kernel_rfl) (by kernel_rfl) (by kernel_rfl) ?_
      refine HW.takeS (fuel := 18) 14 rfl (fun _ _ hs => Y.move rfl) hs rfl (by kernel_rfl) (by kernel_rfl) (by kernel_rfl) ?_
      refine HW.takeSY (fuel := 17) 15 rfl rfl rfl (fun _ _ hs => Y.loadRowN T hs 1 rfl rfl rfl rfl rfl rfl rfl) hs rfl (by kernel_rfl) (by kernel_rfl) (by kernel_rfl) ?_
      refine HW.takeSY (fuel := 16) 16 rfl rfl rfl (fun _ _ hs => Y.move rfl) hs rfl (by kernel_rfl) (by kernel_rfl) (by kernel_rfl) ?_
      refine HW.takeSY (fuel := 15) 17 rfl rfl rfl (fun _ _ hs => Y.loadRowN T hs 0 rfl rfl rfl rfl rfl rfl rfl) hs rfl (by kernel_rfl) (by kernel_rfl) (by kernel_rfl) ?_
      refine HW.takeSY (fuel := 14) 18 rfl rfl rfl (fun _ _ hs => Y.move rfl) hs rfl (by kernel_rfl) (by kernel_rfl) (by kernel_rfl) ?_
      refine HW.one (fuel := 13) 19 rfl (by kernel_rfl) ?_
      refine RW.guardYes rfl rfl ?_
      (refine RW.call T hs rfl rfl rfl (showsSplit_con k p j m n HB _ _ _ _ hX9 hY11) ?_; intro v h62 w62 hle62 hp62 hs)
      subst hp62
      have hp' := PlainAt.mono (k + 2) _ _ _ _ hle62 hp'
      have hA3 := ArrAt.mono (k + 2) _ _ _ _ hle62 hA3
      have hQ4 := PlainAt.mono (k + 2) _ _ _ _ hle62 hQ4
      have hB5 := ArrAt.mono (k + 3) _ _ _ _ hle62 hB5
      have hX9 := hX9.mono hle62
      have hY11 := hY11.mono hle62
      refine RW.nil ?_
      refine heldQ_normal ⟨_, hs⟩ ?_
      refine HW.takeSY (fuel := 12) 20 rfl rfl rfl (fun _ _ hs => Y.not rfl) hs rfl (by kernel_rfl) (by kernel_rfl) (by kernel_rfl) ?_
      refine HW.takeS (fuel := 11) 21 rfl (fun _ _ hs => Y.pickF rfl rfl) hs rfl (by kernel_rfl) (by kernel_rfl) (by kernel_rfl) ?_
      refine HW.takeS (fuel := 10) 22 rfl (fun _ _ hs => Y.move rfl) hs rfl (by kernel_rfl) (by kernel_rfl) (by kernel_rfl) ?_
      refine HW.takeSY (fuel := 9) 23 rfl rfl rfl (fun _ _ hs => Y.move rfl) hs rfl (by kernel_rfl) (by kernel_rfl) (by kernel_rfl) ?_
      refine HW.takeSY (fuel := 8) 24 rfl rfl rfl (fun _ _ hs => Y.eqT rfl rfl rfl) hs rfl (by kernel_rfl) (by kernel_rfl) (by kernel_rfl) ?_
      refine HW.takeSY (fuel := 7) 25 rfl rfl rfl (fun _ _ hs => Y.move rfl) hs rfl (by kernel_rfl) (by kernel_rfl) (by kernel_rfl) ?_
      refine HW.takeSY (fuel := 6) 26 rfl rfl rfl (fun _ _ hs => Y.loadRowN T hs 3 rfl rfl rfl rfl rfl rfl rfl) hs rfl (by kernel_rfl) (by kernel_rfl) (by kernel_rfl) ?_
      refine HW.takeSY (fuel := 5) 28 rfl rfl rfl (fun _ _ hs => Y.loadRowN T hs 4 rfl rfl rfl rfl rfl rfl rfl) hs rfl (by kernel_rfl) (by kernel_rfl) (by kernel_rfl) ?_
      refine HW.one (fuel := 4) 27 rfl (by kernel_rfl) ?_
      refine RW.guardYes rfl rfl ?_
      (refine RW.call T hs rfl rfl rfl (partFirst2_con (k + 1) _ (boxA (k + 1) (arr (k + 2) p)) _ _ hB5 rfl (by show 0 + 0 + 1 ≤ 1048576; omega) (by show (6 : Int) ≠ 0; omega)) ?_; intro v h70 w70 hle70 hp70 hs)
      obtain ⟨cs70, rfl, hF70⟩ := hp70
      have hF70 : ArrAt (k + 2) h70 cs70 (arr (k + 2) p) := hF70
      have hp' := PlainAt.mono (k + 2) _ _ _ _ hle70 hp'
      have hA3 := ArrAt.mono (k + 2) _ _ _ _ hle70 hA3
      have hQ4 := PlainAt.mono (k + 2) _ _ _ _ hle70 hQ4
      have hB5 := ArrAt.mono (k + 3) _ _ _ _ hle70 hB5
      have hX9 := hX9.mono hle70
      have hY11 := hY11.mono hle70
      refine RW.nil ?_
      refine heldQ_normal ⟨_, hs⟩ ?_
      refine HW.one (fuel := 3) 29 rfl (by kernel_rfl) ?_
      refine RW.guardYes rfl rfl ?_
      (refine RW.call T hs rfl rfl rfl (shows28_con (k + 1) _ _ (arr (k + 2) p) (tidy (k + 2) p) _ _ hF70 hQ4 HB.good (plain_arr (k + 2) 40 p hc) ht) ?_; intro v h72 w72 hle72 hp72 hs)
      subst hp72
      have hp' := PlainAt.mono (k + 2) _ _ _ _ hle72 hp'
      have hA3 := ArrAt.mono (k + 2) _ _ _ _ hle72 hA3
      have hQ4 := PlainAt.mono (k + 2) _ _ _ _ hle72 hQ4
      have hB5 := ArrAt.mono (k + 3) _ _ _ _ hle72 hB5
      have hX9 := hX9.mono hle72
      have hY11 := hY11.mono hle72
      refine RW.nil ?_
      refine heldQ_normal ⟨_, hs⟩ ?_
      refine HW.takeSY (fuel := 2) 30 rfl rfl rfl (fun _ _ hs => Y.not rfl) hs rfl (by kernel_rfl) (by kernel_rfl) (by kernel_rfl) ?_
      refine HW.takeSY (fuel := 1) 31 rfl rfl rfl (fun _ _ hs => Y.pickT rfl rfl) hs rfl (by kernel_rfl) (by kernel_rfl) (by kernel_rfl) ?_
      refine HW.takeS (fuel := 0) 32 rfl (fun _ _ hs => Y.pickF rfl rfl) hs rfl (by kernel_rfl) (by kernel_rfl) (by kernel_rfl) ?_
      refine HW.done (by kernel_rfl) ?_
      refine calmQ_normal ?_
      exact joinQ_meet _ ⟨rfl, rfl, rfl, rfl, rfl, rfl, rfl, trivial⟩ ⟨hX9, hQ4, hs⟩
    · have cf2 : chkE (k + 2) (boxP (k + 1) (tidy (k + 2) p)) = 26 := by unfold chkE at cf ⊢; split at cf; exact absurd rfl cf; rename_i c; exact if_neg c
      rw [cf2] at hbx ⊢
      refine CW.regionO T hs ?_
      intro w42 hs
      refine HW.takeS (fuel := 32) 0 rfl (fun _ _ hs => Y.loadRowN T hs 3 rfl rfl rfl rfl rfl rfl rfl) hs rfl (by kernel_rfl) (by kernel_rfl) (by kernel_rfl) ?_
      refine HW.takeS (fuel := 31) 1 rfl (fun _ _ hs => Y.move rfl) hs rfl (by kernel_rfl) (by kernel_rfl) (by kernel_rfl) ?_
      refine HW.takeS (fuel := 30) 2 rfl (fun _ _ hs => Y.loadRowN T hs 2 rfl rfl rfl rfl rfl rfl rfl) hs rfl (by kernel_rfl) (by kernel_rfl) (by kernel_rfl) ?_
      refine HW.takeS (fuel := 29) 3 rfl (fun _ _ hs => Y.move rfl) hs rfl (by kernel_rfl) (by kernel_rfl) (by kernel_rfl) ?_
      refine HW.one (fuel := 28) 4 rfl (by kernel_rfl) ?_
      (refine RW.call T hs rfl rfl rfl (shows28X_con (k + 2) _ _ _ _ _ _ _ hB5 hC7 hbx) ?_; intro v h47 w47 hle47 hp47 hs)
      subst hp47
      have hp' := PlainAt.mono (k + 2) _ _ _ _ hle47 hp'
      have hA3 := ArrAt.mono (k + 2) _ _ _ _ hle47 hA3
      have hQ4 := PlainAt.mono (k + 2) _ _ _ _ hle47 hQ4
      have hX9 := hX9.mono hle47
      have hY11 := hY11.mono hle47
      refine RW.nil ?_
      refine heldQ_normal ⟨_, hs⟩ ?_
      refine HW.takeS (fuel := 27) 5 rfl (fun _ _ hs => Y.not rfl) hs rfl (by kernel_rfl) (by kernel_rfl) (by kernel_rfl) ?_
      refine HW.takeS (fuel := 26) 6 rfl (fun _ _ hs => Y.move rfl) hs rfl (by kernel_rfl) (by kernel_rfl) (by kernel_rfl) ?_
      refine HW.takeSY (fuel := 25) 7 rfl rfl rfl (fun _ _ hs => Y.loadRowN T hs 5 rfl rfl rfl rfl rfl rfl rfl) hs rfl (by kernel_rfl) (by kernel_rfl) (by kernel_rfl) ?_
      refine HW.takeSY (fuel := 24) 9 rfl rfl rfl (fun _ _ hs => Y.loadRowN T hs 4 rfl rfl rfl rfl rfl rfl rfl) hs rfl (by kernel_rfl) (by kernel_rfl) (by kernel_rfl) ?_
      refine HW.one (fuel := 23) 8 rfl (by kernel_rfl) ?_
      refine RW.guardYes rfl rfl ?_
      (refine RW.call T hs rfl rfl rfl (firstA_con k p j m n HB _ _ _ hA3) ?_; intro v h51 w51 hle51 hp51 hs)
      obtain ⟨cs51, rfl, hF51⟩ := hp51
      have hp' := PlainAt.mono (k + 2) _ _ _ _ hle51 hp'
      have hA3 := ArrAt.mono (k + 2) _ _ _ _ hle51 hA3
      have hQ4 := PlainAt.mono (k + 2) _ _ _ _ hle51 hQ4
      have hX9 := hX9.mono hle51
      have hY11 := hY11.mono hle51
      refine RW.nil ?_
      refine heldQ_normal ⟨_, hs⟩ ?_
      refine HW.one (fuel := 22) 10 rfl (by kernel_rfl) ?_
      refine RW.guardYes rfl rfl ?_
      (refine RW.call T hs rfl rfl rfl (firstQ_con k p j m n HB _ _ _ hQ4) ?_; intro v h53 w53 hle53 hp53 hs)
      obtain ⟨cs53, rfl, hF53⟩ := hp53
      have hp' := PlainAt.mono (k + 2) _ _ _ _ hle53 hp'
      have hA3 := ArrAt.mono (k + 2) _ _ _ _ hle53 hA3
      have hQ4 := PlainAt.mono (k + 2) _ _ _ _ hle53 hQ4
      have hX9 := hX9.mono hle53
      have hY11 := hY11.mono hle53
      have hF51 := hF51.mono hle53
      refine RW.nil ?_
      refine heldQ_normal ⟨_, hs⟩ ?_
      refine HW.one (fuel := 21) 11 rfl (by kernel_rfl) ?_
      refine RW.guardYes rfl rfl ?_
      (refine RW.call T hs rfl rfl rfl (showsFirst_con k p j m n HB _ _ _ _ hF51 hF53) ?_; intro v h54 w54 hle54 hp54 hs)
      subst hp54
      have hp' := PlainAt.mono (k + 2) _ _ _ _ hle54 hp'
      have hA3 := ArrAt.mono (k + 2) _ _ _ _ hle54 hA3
      have hQ4 := PlainAt.mono (k + 2) _ _ _ _ hle54 hQ4
      have hX9 := hX9.mono hle54
      have hY11 := hY11.mono hle54
      refine RW.nil ?_
      refine heldQ_normal ⟨_, hs⟩ ?_
      refine HW.takeSY (fuel := 20) 12 rfl rfl rfl (fun _ _ hs => Y.not rfl) hs rfl (by kernel_rfl) (by kernel_rfl) (by kernel_rfl) ?_
      refine HW.takeS (fuel := 19) 13 rfl (fun _ _ hs => Y.pickF rfl rfl) hs rfl (by kernel_rfl) (by kernel_rfl) (by kernel_rfl) ?_
      refine HW.takeS (fuel := 18) 14 rfl (fun _ _ hs => Y.move rfl) hs rfl (by kernel_rfl) (by kernel_rfl) (by kernel_rfl) ?_
      refine HW.takeSY (fuel := 17) 15 rfl rfl rfl (fun _ _ hs => Y.loadRowN T hs 1 rfl rfl rfl rfl rfl rfl rfl) hs rfl (by kernel_rfl) (by kernel_rfl) (by kernel_rfl) ?_
      refine HW.takeSY (fuel := 16) 16 rfl rfl rfl (fun _ _ hs => Y.move rfl) hs rfl (by kernel_rfl) (by kernel_rfl) (by kernel_rfl) ?_
      refine HW.takeSY (fuel := 15) 17 rfl rfl rfl (fun _ _ hs => Y.loadRowN T hs 0 rfl rfl rfl rfl rfl rfl rfl) hs rfl (by kernel_rfl) (by kernel_rfl) (by kernel_rfl) ?_
      refine HW.takeSY (fuel := 14) 18 rfl rfl rfl (fun _ _ hs => Y.move rfl) hs rfl (by kernel_rfl) (by kernel_rfl) (by kernel_rfl) ?_
      refine HW.one (fuel := 13) 19 rfl (by kernel_rfl) ?_
      refine RW.guardYes rfl rfl ?_
      (refine RW.call T hs rfl rfl rfl (showsSplit_con k p j m n HB _ _ _ _ hX9 hY11) ?_; intro v h62 w62 hle62 hp62 hs)
      subst hp62
      have hp' := PlainAt.mono (k + 2) _ _ _ _ hle62 hp'
      have hA3 := ArrAt.mono (k + 2) _ _ _ _ hle62 hA3
      have hQ4 := PlainAt.mono (k + 2) _ _ _ _ hle62 hQ4
      have hX9 := hX9.mono hle62
      have hY11 := hY11.mono hle62
      refine RW.nil ?_
      refine heldQ_normal ⟨_, hs⟩ ?_
      refine HW.takeSY (fuel := 12) 20 rfl rfl rfl (fun _ _ hs => Y.not rfl) hs rfl (by kernel_rfl) (by kernel_rfl) (by kernel_rfl) ?_
      refine HW.takeS (fuel := 11) 21 rfl (fun _ _ hs => Y.pickF rfl rfl) hs rfl (by kernel_rfl) (by kernel_rfl) (by kernel_rfl) ?_
      refine HW.takeS (fuel := 10) 22 rfl (fun _ _ hs => Y.move rfl) hs rfl (by kernel_rfl) (by kernel_rfl) (by kernel_rfl) ?_
      refine HW.takeSY (fuel := 9) 23 rfl rfl rfl (fun _ _ hs => Y.move rfl) hs rfl (by kernel_rfl) (by kernel_rfl) (by kernel_rfl) ?_
      refine HW.takeSY (fuel := 8) 24 rfl rfl rfl (fun _ _ hs => Y.eql rfl rfl) hs rfl (by kernel_rfl) (by kernel_rfl) (by kernel_rfl) ?_
      refine HW.takeSY (fuel := 7) 25 rfl rfl rfl (fun _ _ hs => Y.move rfl) hs rfl (by kernel_rfl) (by kernel_rfl) (by kernel_rfl) ?_
      refine HW.takeSN (fuel := 6) 26 rfl rfl rfl rfl hs rfl (by kernel_rfl) (by kernel_rfl) (by kernel_rfl) ?_
      refine HW.takeSN (fuel := 5) 27 rfl rfl rfl rfl hs rfl (by kernel_rfl) (by kernel_rfl) (by kernel_rfl) ?_
      refine HW.takeSN (fuel := 4) 28 rfl rfl rfl rfl hs rfl (by kernel_rfl) (by kernel_rfl) (by kernel_rfl) ?_
      refine HW.takeSN (fuel := 3) 29 rfl rfl rfl rfl hs rfl (by kernel_rfl) (by kernel_rfl) (by kernel_rfl) ?_
      refine HW.takeSN (fuel := 2) 30 rfl rfl rfl rfl hs rfl (by kernel_rfl) (by kernel_rfl) (by kernel_rfl) ?_
      refine HW.takeSY (fuel := 1) 31 rfl rfl rfl (fun _ _ hs => Y.pickF rfl rfl) hs rfl (by kernel_rfl) (by kernel_rfl) (by kernel_rfl) ?_
      refine HW.takeS (fuel := 0) 32 rfl (fun _ _ hs => Y.pickF rfl rfl) hs rfl (by kernel_rfl) (by kernel_rfl) (by kernel_rfl) ?_
      refine HW.done (by kernel_rfl) ?_
      refine calmQ_normal ?_
      exact joinQ_meet _ ⟨rfl, rfl, rfl, rfl, rfl, rfl, rfl, trivial⟩ ⟨hX9, hQ4, hs⟩
  rintro h76 w76 ⟨hX9, hQ4, hs⟩
  refine Zerun ?_
  by_cases ce : spE28 k p j m n = 0
  rotate_left
  · skip
    refine Zerun ?_
    (refine RW.call T hs rfl rfl rfl (awake28_con _ _) ?_; intro v h190 w190 hle190 hp190 hs)
    subst hp190
    refine Zerun ?_
    exact retQ_ret [_] h190 ⟨rfl, trivial⟩ hs.dropAll rfl
  by_cases c0 : (PlainD.shape (α := PD (k + 1)) p).length = 0
  · have c0' : ((PlainD.shape (α := PD (k + 1)) p).length : Int) = 0 := by omega
    skip
    refine Zerun ?_
    (refine RW.call T hs rfl rfl rfl (awake28_con _ _) ?_; intro v h190 w190 hle190 hp190 hs)
    subst hp190
    refine Zerun ?_
    exact retQ_ret [_] h190 ⟨rfl, trivial⟩ hs.dropAll rfl
  have c0' : ¬ ((PlainD.shape (α := PD (k + 1)) p).length : Int) = 0 := by omega
  by_cases c1 : (PlainD.items (α := PD (k + 1)) p).length = 0
  · have c1' : ((PlainD.items (α := PD (k + 1)) p).length : Int) = 0 := by omega
    skip
    refine Zerun ?_
    (refine RW.call T hs rfl rfl rfl (awake28_con _ _) ?_; intro v h190 w190 hle190 hp190 hs)
    subst hp190
    refine Zerun ?_
    exact retQ_ret [_] h190 ⟨rfl, trivial⟩ hs.dropAll rfl
  have c1' : ¬ ((PlainD.items (α := PD (k + 1)) p).length : Int) = 0 := by omega
  refine Zerun ?_
  (refine RW.call T hs rfl rfl rfl (mixBack_con k p j m n HB c0 c1 ce _ _ _ hX9) ?_; intro v h93 w93 hle93 hp93 hs)
  obtain ⟨cs93, r, rfl, hZ13, hzr⟩ := hp93
  have hQ4 := PlainAt.mono (k + 2) _ _ _ _ hle93 hQ4
  obtain ⟨q0, q1, q2, q3, q4, q5, q6, q7, q8, rfl, hoq⟩ := cells9 (K := k + 2) hZ13
  refine Zerun ?_
  (refine RW.allocN T hs rfl rfl rfl rfl ?_; intro b13 w13 hs)
  (refine RW.storeAll T hs 0 rfl rfl rfl rfl rfl rfl hoq rfl ?_; intro w94 hs)
  refine Zerun ?_
  (refine RW.call T hs rfl rfl rfl (shows28X_con (k + 1) _ _ 0 r (tidy (k + 2) p) _ _ hZ13 hQ4 hzr) ?_; intro v h99 w99 hle99 hp99 hs)
  subst hp99
  refine Zerun ?_
  (refine RW.call T hs rfl rfl rfl (awake28_con _ _) ?_; intro v h101 w101 hle101 hp101 hs)
  subst hp101
  refine Zerun ?_
  exact retQ_ret [_] h101 ⟨rfl, trivial⟩ hs.dropAll rfl
end Go.Proofs.YtmojpbfkpggjhaaGreat
