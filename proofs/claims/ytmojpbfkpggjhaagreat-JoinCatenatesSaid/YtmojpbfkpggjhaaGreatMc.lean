/-
  Own texts of the claim, merged: Jb, Jc, Jd, Je, Ka, PlainN, PlainP, PlainQ, PlBa, Kb, LibX, Kc, Kd, Ke, Kf, Kg, Kh, Il, Im, On, PlBb, PlBc, Pa, Fc, Fd, Fe, Ff, Ya, LibY, LibZ, Yb, Ye, Ga, Ge, PlainT. Lemmas of the proof; no statement is proved here.
-/
import Derived.Test.YtmojpbfkpggjhaaGreatMb
import Derived.Laws.Externs
/-
  Contracts of functions of package flat: elements picked. No statement is proved here.
-/
namespace Go.Proofs.YtmojpbfkpggjhaaGreat
open Go Go.RowKit
set_option linter.unusedVariables false
set_option linter.unusedSimpArgs false
set_option maxHeartbeats 4000000
attribute [local irreducible] CW RW QW SW HW ConM retM heldQ calmQ elemP thenQ blockQ loopQ joinQ retQ Yields Con Sl zF magR unitF truncF fwF wholeF tidySpec elemQ rankF leastN tidyW
set_option maxHeartbeats 4000000

theorem wholeF_bounds (x : Nat) : -9007199254740992 ≤ (wholeF x).1 ∧ (wholeF x).1 ≤ 9007199254740992 := by
  unfold wholeF
  split
  · rename_i h; exact trunc_bounds x h
  · constructor <;> decide
section
variable {α : Type} {R : GHeap → List Value → α → Prop}
theorem flatPickBits_con (hR : Mono R) (cs : List Value) (v : VecD α) (v1 : Value) (at_ : List Int) (bs : List Bool) (w : World) (h : GHeap) (hv : VecAt R h cs v) (hbs : v = ⟨1, bs.map bitF, [], []⟩) (ha : IntsAt h v1 at_) (hm : at_.length ≤ 1048576) : Con Tryz.prog 132 [.agg cs.toArray, v1] w h (fun h' u => ∃ cs', u = .agg cs'.toArray ∧ VecAt R h' cs' ⟨1, (at_.map fun i => bitAt bs i).map bitF, [], []⟩) := by
  obtain ⟨ad1, cp1, rfl, hS1⟩ := ha
  have hv' := hv
  obtain ⟨wv, nv, sm, il, fl, ch, bx, ⟨rfl, hoc⟩, hk⟩ := hv
  clear hk
  refine Con.of_body Tryz.func132 rfl Tryz.ntmps132 rfl rfl ?_
  intro hs
  refine Zrun ?_
  (refine RW.boxN hs rfl rfl ?_; intro b1 w1 hs)
  (refine RW.allocN T hs rfl rfl rfl rfl ?_; intro b2 w2 hs)
  refine Zerun ?_
  (refine RW.call T hs rfl rfl rfl (vecPacked_con _ v _ _ hv') ?_; intro v h3 w3 hle3 hp3 hs)
  obtain ⟨wv3, bs3, rfl, hb3, hb3', _⟩ := hp3
  have hbb : bs3 = bs := by
    have e := hb3' (by rw [hbs])
    rw [hbs] at e
    have e2 : bs.map bitF = bs3.map bitF := by injection e
    have inj : ∀ a b : Bool, bitF a = bitF b → a = b := by decide
    have key : ∀ (a b : List Bool), a.map bitF = b.map bitF → a = b := by
      intro a
      induction a with
      | nil => intro b hb; cases b with
        | nil => rfl
        | cons => simp at hb
      | cons x a ih => intro b hb; cases b with
        | nil => simp at hb
        | cons y b =>
          simp only [List.map_cons, List.cons.injEq] at hb
          rw [inj x y hb.1, ih b hb.2]
    exact (key _ _ e2).symm
  subst hbb
  have hb3'' := hb3
  obtain ⟨_, ws3, ⟨ad3, cp3, rfl, _⟩, _⟩ := hb3
  have hS1 := hS1.mono hle3
  refine Zerun ?_
  (refine RW.allocN T hs rfl rfl rfl rfl ?_; intro b4 w4 hs)
  (refine RW.storeAll T hs 0 rfl rfl rfl rfl rfl rfl rfl rfl ?_; intro w5 hs)
  refine Zerun ?_
  (refine RW.make1 T hs rfl rfl rfl rfl rfl rfl rfl (by dsimp only; omega) (by omega) ?_; intro b6 w6 hs)
  refine Zerun ?_
  refine CW.loop (fun u : Nat × GHeap => [(1, .slice ad1 at_.length cp1), (2, .pointer (some ⟨b1, 0, none⟩)), (4, .pointer (some ⟨b2, 0, none⟩)), (5, .pointer (some ⟨b4, 0, none⟩)), (7, .slice (some ⟨b6, 0, none⟩) at_.length at_.length), (18, .slice ad1 at_.length cp1), (19, .int .i64 at_.length), (20, .int .i64 u.1)]) (fun u w' => u.1 ≤ at_.length ∧ GLe h3 u.2 ∧ Sees w h u.2 [⟨some ⟨b6, 0, none⟩, at_.length, at_.length, 4, 1, ((at_.take u.1).map fun i => bitAt bs3 i).map Value.bool ++ List.replicate (at_.length - u.1) (.bool false)⟩, ⟨some ⟨b4, 0, none⟩, 1, 1, 30, 2, [.slice ad3 ws3.length cp3, .int .i64 bs3.length]⟩, ⟨some ⟨b2, 0, none⟩, 1, 1, 37, 8, vecCells 0 (.slice none 0 0) 0 (.slice none 0 0) (.slice none 0 0) (.slice none 0 0) (.slice none 0 0) (.slice none 0 0)⟩, ⟨some ⟨b1, 0, none⟩, 1, 1, 37, 8, vecCells v.kind wv nv sm il fl ch bx⟩] w') (fun u => at_.length - u.1) (0, h3) ⟨rfl, rfl, rfl, rfl, rfl, rfl, rfl, rfl, trivial⟩ ⟨by omega, GLe.refl _, by simp only [List.take_zero, List.map_nil, List.nil_append, Nat.sub_zero]; exact hs⟩ ?_
  rintro ⟨i, hh⟩ w7 ⟨hi, hg, hs⟩
  dsimp only at hi hg hs ⊢
  have hS1 := hS1.mono hg
  have hb' := hb3''.mono hg
  by_cases hlt : i < at_.length
  · have htk := take_succ_getD at_ i 0 hlt
    refine Zerun ?_
    (refine RW.call T hs rfl rfl rfl (bitsAt_con _ bs3 (at_.getD i 0) _ _ hb') ?_; intro v h8 w8 hle8 hp8 hs)
    subst hp8
    refine RW.val (Y.idxRN T hs 0 rfl rfl rfl rfl rfl rfl ?_) rfl ?_
    · omega
    refine RW.st1 T hs 0 rfl rfl rfl rfl rfl rfl rfl (by omega) ?_
    intro w9 hs
    have e1 := set_snoc (((at_.take i).map fun i => bitAt bs3 i).map Value.bool) (at_.length - i) (Value.bool false) (Value.bool (bitAt bs3 (at_.getD i 0))) (by omega)
    simp only [List.length_map, List.length_take, Nat.min_eq_left hi] at e1
    have e2 : ((at_.take i).map fun i => bitAt bs3 i).map Value.bool ++ [Value.bool (bitAt bs3 (at_.getD i 0))] ++ List.replicate (at_.length - i - 1) (.bool false) = ((at_.take (i + 1)).map fun i => bitAt bs3 i).map Value.bool ++ List.replicate (at_.length - (i + 1)) (.bool false) := by
      rw [htk, List.map_append, List.map_append, show at_.length - (i + 1) = at_.length - i - 1 by omega]; rfl
    replace hs := hs.re (e1.trans e2)
    refine Zerun ?_
    exact loopQ_round (i + 1, h8) ⟨rfl, rfl, rfl, rfl, rfl, rfl, rfl, rfl, trivial⟩ ⟨by dsimp only; omega, hg.trans hle8, hs⟩ (by dsimp only; omega)
  · obtain rfl : i = at_.length := by omega
    rw [List.take_length, Nat.sub_self, List.replicate_zero, List.append_nil] at hs
    obtain ⟨h8, hle8, hs, hS8⟩ := hs.freeze
    have hT8 : TAt h8 (.slice (some ⟨b6, 0, none⟩) at_.length at_.length) (at_.map fun i => bitAt bs3 i) := RowAt.of_sl hS8
    refine Zerun ?_
    (refine RW.call T hs rfl rfl rfl (bitsPack_con _ _ _ _ hT8 (by simpa using hm)) ?_; intro v h9 w9 hle9 hp9 hs)
    obtain ⟨wv9, rfl, hb9⟩ := hp9
    (refine RW.call T hs rfl rfl rfl (vecBits_con (R := R) _ _ _ _ hb9) ?_; intro v h10 w10 hle10 hp10 hs)
    obtain ⟨cs10, rfl, hv10⟩ := hp10
    have hv10' := hv10
    obtain ⟨wv', nv', sm', il', fl', ch', bx', ⟨rfl, hoc'⟩, _⟩ := hv10
    (refine RW.storeAll T hs 1 rfl rfl rfl rfl rfl rfl hoc' rfl ?_; intro w11 hs)
    refine Zerun ?_
    exact retQ_ret [_] h10 ⟨resN T hs 1 rfl rfl rfl rfl rfl rfl, trivial⟩ hs.dropAll ⟨_, rfl, hv10'⟩
/-- the elements at some places -/
def VecD.pick (v : VecD α) (at_ : List Int) (nb : α) : VecD α :=
  if v.kind = 5 then ⟨5, [], at_.map (fun i => atD v.chars i 32), []⟩
  else if v.kind = 6 then ⟨6, [], [], at_.map (fun i => atD v.boxes i nb)⟩
  else ⟨leastN (at_.map v.num), at_.map v.num, [], []⟩
theorem num_tidy {h : GHeap} {cs : List Value} {v : VecD α} (hv : VecAt R h cs v) (i : Int) : tidyF (v.num i) := by
  unfold VecD.num
  split
  · by_cases c : i.toNat < v.nums.length
    · exact hv.tidy _ (mem_getD _ _ _ c)
    · rw [List.getD_eq_getElem?_getD, List.getElem?_eq_none (by omega)]; exact tidy0
  · exact tidy0
theorem whole_num {h : GHeap} {cs : List Value} {v : VecD α} (hv : VecAt R h cs v) (hk : v.kind = 1 ∨ v.kind = 2 ∨ v.kind = 3) (i : Int) : fwF (v.whole i).1 = v.num i := by
  have hw := hv.wholes hk
  have hn : v.nums.length = v.len := hv.nums_len (by unfold VecD.cls; rw [if_neg (by omega), if_neg (by omega)])
  unfold VecD.whole VecD.num
  by_cases c : 0 ≤ i ∧ i < v.len
  · rw [if_pos ⟨hk, c⟩, if_pos c.1]
    have hm := mem_getD v.nums i.toNat 0 (by omega)
    exact (fw_whole _ _ (hv.tidy _ hm) (by rw [← hw _ hm])).symm
  · rw [if_neg (fun e => c e.2)]
    show fwF 0 = _
    rw [fw0]
    split
    · rw [List.getD_eq_getElem?_getD, List.getElem?_eq_none (by omega)]; rfl
    · rfl
theorem pick_wholes {h : GHeap} {cs : List Value} {v : VecD α} (hv : VecAt R h cs v) (hk : v.kind = 1 ∨ v.kind = 2 ∨ v.kind = 3) (at_ : List Int) (nb : α) : (⟨leastN ((at_.map fun i => (v.whole i).1).map fwF), (at_.map fun i => (v.whole i).1).map fwF, [], []⟩ : VecD α) = v.pick at_ nb := by
  have e : (at_.map fun i => (v.whole i).1).map fwF = at_.map v.num := by
    rw [List.map_map]
    apply List.map_congr_left
    intro i _
    exact whole_num hv hk i
  rw [e]
  unfold VecD.pick
  rw [if_neg (by omega), if_neg (by omega)]
theorem sq_nums3 (N : List Nat) : (⟨3, N, [], []⟩ : VecD α).sq = ⟨leastN N, N, [], []⟩ := by
  unfold VecD.sq VecD.cls
  simp
theorem pick_bits (bs : List Bool) (at_ : List Int) (nb : α) : (⟨1, (at_.map fun i => bitAt bs i).map bitF, [], []⟩ : VecD α) = VecD.pick ⟨1, bs.map bitF, [], []⟩ at_ nb := by
  have e : (at_.map fun i => bitAt bs i).map bitF = at_.map (VecD.num (⟨1, bs.map bitF, [], []⟩ : VecD α)) := by
    rw [List.map_map]
    apply List.map_congr_left
    intro i _
    simp only [Function.comp, bitAt, VecD.num]
    split
    · by_cases c : i.toNat < bs.length
      · rw [getD_map bitF bs i.toNat false 0 c]
      · rw [List.getD_eq_getElem?_getD, List.getElem?_eq_none (by omega), List.getD_eq_getElem?_getD, List.getElem?_eq_none (by simp; omega)]; rfl
    · rfl
  have el : leastN ((at_.map fun i => bitAt bs i).map bitF) = 1 := by
    have h1 := (leastN_bounds ((at_.map fun i => bitAt bs i).map bitF)).1
    have h2 : leastN ((at_.map fun i => bitAt bs i).map bitF) ≤ 1 := by
      rw [leastN.eq_1]
      refine fold_le _ 1 1 (by omega) ?_
      intro x hx
      obtain ⟨b, _, rfl⟩ := List.mem_map.1 hx
      cases b
      · exact (rank_bit _ tidy0).2 (.inl fw0.symm)
      · exact (rank_bit _ tidy1).2 (.inr fw1.symm)
    omega
  unfold VecD.pick
  rw [if_neg (show ¬ (1 : Int) = 5 by decide), if_neg (show ¬ (1 : Int) = 6 by decide), ← e, el]
theorem flatPick_con (hR : Mono R) (h1 : One R) (h9 : Siz 9 R) (nb : α) (hbl : ∀ w h, Con Tryz.prog 138 [] w h (fun h' u => ∃ cs', u = .agg cs'.toArray ∧ R h' cs' nb))
    (cs : List Value) (v : VecD α) (v1 : Value) (at_ : List Int) (w : World) (h : GHeap) (hv : VecAt R h cs v) (ha : IntsAt h v1 at_) (hm : at_.length ≤ 1048576) (hvm : v.len ≤ 1048576) (hk0 : v.kind ≠ 0) : Con Tryz.prog 86 [.agg cs.toArray, v1] w h (fun h' u => ∃ cs', u = .agg cs'.toArray ∧ VecAt R h' cs' (v.pick at_ nb)) := by
  have ha' := ha
  obtain ⟨ad1, cp1, rfl, hS1⟩ := ha
  have hv' := hv
  have hv0 := hv
  obtain ⟨wv, nv, sm, il, fl, ch, bx, ⟨rfl, hoc⟩, hk⟩ := hv
  have hkk : (v.kind = 1 ∧ ∃ bs : List Bool, v = ⟨1, bs.map bitF, [], []⟩) ∨ (v.kind = 2 ∨ v.kind = 3) ∨ v.kind = 4 ∨ v.kind = 5 ∨ v.kind = 6 := by
    rcases hk with ⟨e, _⟩ | ⟨e, bs, _, _, e2⟩ | ⟨e, _⟩ | ⟨e, _⟩ | ⟨e, _⟩ | ⟨e, _⟩ | ⟨e, _⟩
    · exact absurd e hk0
    · exact .inl ⟨e, bs, e2⟩
    · exact .inr (.inl (.inl e))
    · exact .inr (.inl (.inr e))
    · exact .inr (.inr (.inl e))
    · exact .inr (.inr (.inr (.inl e)))
    · exact .inr (.inr (.inr (.inr e)))
  clear hk
  refine Con.of_body Tryz.func86 rfl Tryz.ntmps86 rfl rfl ?_
  intro hs
  refine Zrun ?_
  (refine RW.boxN hs rfl rfl ?_; intro b1 w1 hs)
  (refine RW.allocN T hs rfl rfl rfl rfl ?_; intro b2 w2 hs)
  refine Zerun ?_
  (refine RW.call T hs rfl rfl rfl (vecKind_con _ v _ _ hv') ?_; intro v h3 w3 hle3 hp3 hs)
  subst hp3
  have hv' := hv'.mono hR hle3
  have ha' := ha'.mono hle3
  have hS1 := hS1.mono hle3
  rcases hkk with ⟨k1, bs, hbs⟩ | k23 | k4 | k5 | k6
  · have hsp := pick_bits bs at_ nb
    rw [← hbs] at hsp
    refine Zerun ?_
    (refine RW.call T hs rfl rfl rfl (flatPickBits_con hR _ v _ at_ bs _ _ hv' hbs ha' hm) ?_; intro v h4 w4 hle4 hp4 hs)
    obtain ⟨cs4, rfl, hv4⟩ := hp4
    rw [hsp] at hv4
    have hv4' := hv4
    obtain ⟨wv', nv', sm', il', fl', ch', bx', ⟨rfl, hoc'⟩, _⟩ := hv4
    (refine RW.storeAll T hs 0 rfl rfl rfl rfl rfl rfl hoc' rfl ?_; intro w5 hs)
    refine Zerun ?_
    exact retQ_ret [_] h4 ⟨resN T hs 0 rfl rfl rfl rfl rfl rfl, trivial⟩ hs.dropAll ⟨_, rfl, hv4'⟩
  · rcases k23 with k2 | k3
    ·
      have hsp := pick_wholes hv0 (by omega) at_ nb
      refine Zerun ?_
      (refine RW.make1 T hs rfl rfl rfl rfl rfl rfl rfl (by dsimp only; omega) (by omega) ?_; intro b6 w6 hs)
      refine Zerun ?_
      refine CW.loop (fun u : Nat × GHeap => [(2, .pointer (some ⟨b1, 0, none⟩)), (4, .pointer (some ⟨b2, 0, none⟩)), (5, .slice (some ⟨b6, 0, none⟩) at_.length at_.length), (28, .slice ad1 at_.length cp1), (29, .int .i64 at_.length), (30, .int .i64 u.1)]) (fun u w' => u.1 ≤ at_.length ∧ GLe h3 u.2 ∧ Sees w h u.2 [⟨some ⟨b6, 0, none⟩, at_.length, at_.length, 2, 1, ((at_.take u.1).map fun i => (v.whole i).1).map (Value.int .i64) ++ List.replicate (at_.length - u.1) (.int .i64 0)⟩, ⟨some ⟨b2, 0, none⟩, 1, 1, 37, 8, vecCells 0 (.slice none 0 0) 0 (.slice none 0 0) (.slice none 0 0) (.slice none 0 0) (.slice none 0 0) (.slice none 0 0)⟩, ⟨some ⟨b1, 0, none⟩, 1, 1, 37, 8, vecCells v.kind wv nv sm il fl ch bx⟩] w') (fun u => at_.length - u.1) (0, h3) ⟨rfl, rfl, rfl, rfl, rfl, rfl, trivial⟩ ⟨by omega, GLe.refl _, by simp only [List.take_zero, List.map_nil, List.nil_append, Nat.sub_zero]; exact hs⟩ ?_
      rintro ⟨i, hh⟩ w7 ⟨hi, hg, hs⟩
      dsimp only at hi hg hs ⊢
      have hS1 := hS1.mono hg
      have hv' := hv'.mono hR hg
      by_cases hlt : i < at_.length
      · have htk := take_succ_getD at_ i 0 hlt
        refine Zerun ?_
        (refine RW.call T hs rfl rfl rfl (vecWhole_con _ v (at_.getD i 0) _ _ hv') ?_; intro v h8 w8 hle8 hp8 hs)
        subst hp8
        refine Zerun ?_
        refine RW.val (Y.idxRN T hs 0 rfl rfl rfl rfl rfl rfl ?_) rfl ?_
        · omega
        refine RW.st1 T hs 0 rfl rfl rfl rfl rfl rfl rfl (by omega) ?_
        intro w9 hs
        have e1 := set_snoc (((at_.take i).map fun i => (v.whole i).1).map (Value.int .i64)) (at_.length - i) (.int .i64 0) (Value.int .i64 ((v.whole (at_.getD i 0)).1)) (by omega)
        simp only [List.length_map, List.length_take, Nat.min_eq_left hi] at e1
        have e2 : ((at_.take i).map fun i => (v.whole i).1).map (Value.int .i64) ++ [Value.int .i64 ((v.whole (at_.getD i 0)).1)] ++ List.replicate (at_.length - i - 1) (.int .i64 0) = ((at_.take (i + 1)).map fun i => (v.whole i).1).map (Value.int .i64) ++ List.replicate (at_.length - (i + 1)) (.int .i64 0) := by
          rw [htk, List.map_append, List.map_append, show at_.length - (i + 1) = at_.length - i - 1 by omega]; rfl
        replace hs := hs.re (e1.trans e2)
        refine Zerun ?_
        exact loopQ_round (i + 1, h8) ⟨rfl, rfl, rfl, rfl, rfl, rfl, trivial⟩ ⟨by dsimp only; omega, hg.trans hle8, hs⟩ (by dsimp only; omega)
      obtain rfl : i = at_.length := by omega
      rw [List.take_length, Nat.sub_self, List.replicate_zero, List.append_nil] at hs
      obtain ⟨h8, hle8, hs, hS8⟩ := hs.freeze
      have hT8 : KAt .i64 h8 (.slice (some ⟨b6, 0, none⟩) at_.length at_.length) (at_.map fun i => (v.whole i).1) := RowAt.of_sl hS8
      refine Zerun ?_
      (refine RW.call T hs rfl rfl rfl (vecInts_con (R := R) _ _ _ _ hT8 (by simp; omega)) ?_; intro v h9 w9 hle9 hp9 hs)
      obtain ⟨cs9, ok, rfl, hok, hv9⟩ := hp9
      obtain rfl : ok = true := by
        rw [hok]
        refine decide_eq_true ?_
        intro u hu
        obtain ⟨i, _, rfl⟩ := List.mem_map.1 hu
        unfold VecD.whole
        split
        · exact wholeF_bounds _
        · constructor <;> decide
      rw [if_pos rfl] at hv9
      have hv9' := hv9
      obtain ⟨wv', nv', sm', il', fl', ch', bx', ⟨rfl, hoc'⟩, _⟩ := hv9
      refine Zerun ?_
      (refine RW.allocN T hs rfl rfl rfl rfl ?_; intro b10 w10 hs)
      (refine RW.storeAll T hs 0 rfl rfl rfl rfl rfl rfl hoc' rfl ?_; intro w11 hs)
      refine Zerun ?_
      (refine RW.call T hs rfl rfl rfl (sqSqueeze_con hR _ _ _ _ hv9' (by simp [VecD.len]; omega)) ?_; intro v h12 w12 hle12 hp12 hs)
      obtain ⟨cs12, rfl, hv12⟩ := hp12
      rw [sq_nums3, hsp] at hv12
      have hv12' := hv12
      obtain ⟨wv2, nv2, sm2, il2, fl2, ch2, bx2, ⟨rfl, hoc2⟩, _⟩ := hv12
      (refine RW.storeAll T hs 1 rfl rfl rfl rfl rfl rfl hoc2 rfl ?_; intro w13 hs)
      refine Zerun ?_
      exact retQ_ret [_] h12 ⟨resN T hs 1 rfl rfl rfl rfl rfl rfl, trivial⟩ hs.dropAll ⟨_, rfl, hv12'⟩
    ·
      have hsp := pick_wholes hv0 (by omega) at_ nb
      refine Zerun ?_
      (refine RW.make1 T hs rfl rfl rfl rfl rfl rfl rfl (by dsimp only; omega) (by omega) ?_; intro b6 w6 hs)
      refine Zerun ?_
      refine CW.loop (fun u : Nat × GHeap => [(2, .pointer (some ⟨b1, 0, none⟩)), (4, .pointer (some ⟨b2, 0, none⟩)), (5, .slice (some ⟨b6, 0, none⟩) at_.length at_.length), (28, .slice ad1 at_.length cp1), (29, .int .i64 at_.length), (30, .int .i64 u.1)]) (fun u w' => u.1 ≤ at_.length ∧ GLe h3 u.2 ∧ Sees w h u.2 [⟨some ⟨b6, 0, none⟩, at_.length, at_.length, 2, 1, ((at_.take u.1).map fun i => (v.whole i).1).map (Value.int .i64) ++ List.replicate (at_.length - u.1) (.int .i64 0)⟩, ⟨some ⟨b2, 0, none⟩, 1, 1, 37, 8, vecCells 0 (.slice none 0 0) 0 (.slice none 0 0) (.slice none 0 0) (.slice none 0 0) (.slice none 0 0) (.slice none 0 0)⟩, ⟨some ⟨b1, 0, none⟩, 1, 1, 37, 8, vecCells v.kind wv nv sm il fl ch bx⟩] w') (fun u => at_.length - u.1) (0, h3) ⟨rfl, rfl, rfl, rfl, rfl, rfl, trivial⟩ ⟨by omega, GLe.refl _, by simp only [List.take_zero, List.map_nil, List.nil_append, Nat.sub_zero]; exact hs⟩ ?_
      rintro ⟨i, hh⟩ w7 ⟨hi, hg, hs⟩
      dsimp only at hi hg hs ⊢
      have hS1 := hS1.mono hg
      have hv' := hv'.mono hR hg
      by_cases hlt : i < at_.length
      · have htk := take_succ_getD at_ i 0 hlt
        refine Zerun ?_
        (refine RW.call T hs rfl rfl rfl (vecWhole_con _ v (at_.getD i 0) _ _ hv') ?_; intro v h8 w8 hle8 hp8 hs)
        subst hp8
        refine Zerun ?_
        refine RW.val (Y.idxRN T hs 0 rfl rfl rfl rfl rfl rfl ?_) rfl ?_
        · omega
        refine RW.st1 T hs 0 rfl rfl rfl rfl rfl rfl rfl (by omega) ?_
        intro w9 hs
        have e1 := set_snoc (((at_.take i).map fun i => (v.whole i).1).map (Value.int .i64)) (at_.length - i) (.int .i64 0) (Value.int .i64 ((v.whole (at_.getD i 0)).1)) (by omega)
        simp only [List.length_map, List.length_take, Nat.min_eq_left hi] at e1
        have e2 : ((at_.take i).map fun i => (v.whole i).1).map (Value.int .i64) ++ [Value.int .i64 ((v.whole (at_.getD i 0)).1)] ++ List.replicate (at_.length - i - 1) (.int .i64 0) = ((at_.take (i + 1)).map fun i => (v.whole i).1).map (Value.int .i64) ++ List.replicate (at_.length - (i + 1)) (.int .i64 0) := by
          rw [htk, List.map_append, List.map_append, show at_.length - (i + 1) = at_.length - i - 1 by omega]; rfl
        replace hs := hs.re (e1.trans e2)
        refine Zerun ?_
        exact loopQ_round (i + 1, h8) ⟨rfl, rfl, rfl, rfl, rfl, rfl, trivial⟩ ⟨by dsimp only; omega, hg.trans hle8, hs⟩ (by dsimp only; omega)
      obtain rfl : i = at_.length := by omega
      rw [List.take_length, Nat.sub_self, List.replicate_zero, List.append_nil] at hs
      obtain ⟨h8, hle8, hs, hS8⟩ := hs.freeze
      have hT8 : KAt .i64 h8 (.slice (some ⟨b6, 0, none⟩) at_.length at_.length) (at_.map fun i => (v.whole i).1) := RowAt.of_sl hS8
      refine Zerun ?_
      (refine RW.call T hs rfl rfl rfl (vecInts_con (R := R) _ _ _ _ hT8 (by simp; omega)) ?_; intro v h9 w9 hle9 hp9 hs)
      obtain ⟨cs9, ok, rfl, hok, hv9⟩ := hp9
      obtain rfl : ok = true := by
        rw [hok]
        refine decide_eq_true ?_
        intro u hu
        obtain ⟨i, _, rfl⟩ := List.mem_map.1 hu
        unfold VecD.whole
        split
        · exact wholeF_bounds _
        · constructor <;> decide
      rw [if_pos rfl] at hv9
      have hv9' := hv9
      obtain ⟨wv', nv', sm', il', fl', ch', bx', ⟨rfl, hoc'⟩, _⟩ := hv9
      refine Zerun ?_
      (refine RW.allocN T hs rfl rfl rfl rfl ?_; intro b10 w10 hs)
      (refine RW.storeAll T hs 0 rfl rfl rfl rfl rfl rfl hoc' rfl ?_; intro w11 hs)
      refine Zerun ?_
      (refine RW.call T hs rfl rfl rfl (sqSqueeze_con hR _ _ _ _ hv9' (by simp [VecD.len]; omega)) ?_; intro v h12 w12 hle12 hp12 hs)
      obtain ⟨cs12, rfl, hv12⟩ := hp12
      rw [sq_nums3, hsp] at hv12
      have hv12' := hv12
      obtain ⟨wv2, nv2, sm2, il2, fl2, ch2, bx2, ⟨rfl, hoc2⟩, _⟩ := hv12
      (refine RW.storeAll T hs 1 rfl rfl rfl rfl rfl rfl hoc2 rfl ?_; intro w13 hs)
      refine Zerun ?_
      exact retQ_ret [_] h12 ⟨resN T hs 1 rfl rfl rfl rfl rfl rfl, trivial⟩ hs.dropAll ⟨_, rfl, hv12'⟩
  ·
    have hsp : (⟨leastN ((at_.map fun i => v.num i).map tidyW), (at_.map fun i => v.num i).map tidyW, [], []⟩ : VecD α) = v.pick at_ nb := by
      have e : (at_.map fun i => v.num i).map tidyW = at_.map v.num := by
        rw [List.map_map]
        apply List.map_congr_left
        intro i _
        simp only [Function.comp]
        unfold tidyW
        rw [tidySpec_of _ (num_tidy hv0 i)]
      rw [e]
      unfold VecD.pick
      rw [if_neg (by omega), if_neg (by omega)]
    refine Zerun ?_
    (refine RW.make1 T hs rfl rfl rfl rfl rfl rfl rfl (by dsimp only; omega) (by omega) ?_; intro b6 w6 hs)
    refine Zerun ?_
    refine CW.loop (fun u : Nat × GHeap => [(2, .pointer (some ⟨b1, 0, none⟩)), (4, .pointer (some ⟨b2, 0, none⟩)), (10, .slice (some ⟨b6, 0, none⟩) at_.length at_.length), (57, .slice ad1 at_.length cp1), (58, .int .i64 at_.length), (59, .int .i64 u.1)]) (fun u w' => u.1 ≤ at_.length ∧ GLe h3 u.2 ∧ Sees w h u.2 [⟨some ⟨b6, 0, none⟩, at_.length, at_.length, 46, 1, ((at_.take u.1).map fun i => v.num i).map (Value.float .f64) ++ List.replicate (at_.length - u.1) (.float .f64 0)⟩, ⟨some ⟨b2, 0, none⟩, 1, 1, 37, 8, vecCells 0 (.slice none 0 0) 0 (.slice none 0 0) (.slice none 0 0) (.slice none 0 0) (.slice none 0 0) (.slice none 0 0)⟩, ⟨some ⟨b1, 0, none⟩, 1, 1, 37, 8, vecCells v.kind wv nv sm il fl ch bx⟩] w') (fun u => at_.length - u.1) (0, h3) ⟨rfl, rfl, rfl, rfl, rfl, rfl, trivial⟩ ⟨by omega, GLe.refl _, by simp only [List.take_zero, List.map_nil, List.nil_append, Nat.sub_zero]; exact hs⟩ ?_
    rintro ⟨i, hh⟩ w7 ⟨hi, hg, hs⟩
    dsimp only at hi hg hs ⊢
    have hS1 := hS1.mono hg
    have hv' := hv'.mono hR hg
    by_cases hlt : i < at_.length
    · have htk := take_succ_getD at_ i 0 hlt
      refine Zerun ?_
      (refine RW.call T hs rfl rfl rfl (flatFrom_con _ v (at_.getD i 0) _ _ hv') ?_; intro v h8 w8 hle8 hp8 hs)
      subst hp8
      skip
      refine RW.val (Y.idxRN T hs 0 rfl rfl rfl rfl rfl rfl ?_) rfl ?_
      · omega
      refine RW.st1 T hs 0 rfl rfl rfl rfl rfl rfl rfl (by omega) ?_
      intro w9 hs
      have e1 := set_snoc (((at_.take i).map fun i => v.num i).map (Value.float .f64)) (at_.length - i) (.float .f64 0) (Value.float .f64 (v.num (at_.getD i 0))) (by omega)
      simp only [List.length_map, List.length_take, Nat.min_eq_left hi] at e1
      have e2 : ((at_.take i).map fun i => v.num i).map (Value.float .f64) ++ [Value.float .f64 (v.num (at_.getD i 0))] ++ List.replicate (at_.length - i - 1) (.float .f64 0) = ((at_.take (i + 1)).map fun i => v.num i).map (Value.float .f64) ++ List.replicate (at_.length - (i + 1)) (.float .f64 0) := by
        rw [htk, List.map_append, List.map_append, show at_.length - (i + 1) = at_.length - i - 1 by omega]; rfl
      replace hs := hs.re (e1.trans e2)
      refine Zerun ?_
      exact loopQ_round (i + 1, h8) ⟨rfl, rfl, rfl, rfl, rfl, rfl, trivial⟩ ⟨by dsimp only; omega, hg.trans hle8, hs⟩ (by dsimp only; omega)
    obtain rfl : i = at_.length := by omega
    rw [List.take_length, Nat.sub_self, List.replicate_zero, List.append_nil] at hs
    obtain ⟨h8, hle8, hs, hS8⟩ := hs.freeze
    have hT8 : FAt h8 (.slice (some ⟨b6, 0, none⟩) at_.length at_.length) (at_.map fun i => v.num i) := RowAt.of_sl hS8
    refine Zerun ?_
    (refine RW.call T hs rfl rfl rfl (sqNumbers_con (R := R) hR _ _ _ _ hT8 (by intro u hu; obtain ⟨i, _, rfl⟩ := List.mem_map.1 hu; exact (num_tidy hv0 i).1) (by simp; omega)) ?_; intro v h9 w9 hle9 hp9 hs)
    obtain ⟨cs9, ok, rfl, hok, hv9⟩ := hp9
    obtain rfl : ok = true := by
      rw [hok]
      refine decide_eq_true ?_
      intro u hu
      obtain ⟨i, _, rfl⟩ := List.mem_map.1 hu
      exact (num_tidy hv0 i).2.1
    rw [if_pos rfl, hsp] at hv9
    have hv9' := hv9
    obtain ⟨wv', nv', sm', il', fl', ch', bx', ⟨rfl, hoc'⟩, _⟩ := hv9
    refine Zerun ?_
    (refine RW.allocN T hs rfl rfl rfl rfl ?_; intro b10 w10 hs)
    (refine RW.storeAll T hs 0 rfl rfl rfl rfl rfl rfl hoc' rfl ?_; intro w11 hs)
    refine Zerun ?_
    (refine RW.storeAll T hs 1 rfl rfl rfl rfl rfl rfl hoc' rfl ?_; intro w12 hs)
    refine Zerun ?_
    exact retQ_ret [_] h9 ⟨resN T hs 1 rfl rfl rfl rfl rfl rfl, trivial⟩ hs.dropAll ⟨_, rfl, hv9'⟩
  · have hsp : (⟨5, [], at_.map (fun i => atD v.chars i 32), []⟩ : VecD α) = v.pick at_ nb := by unfold VecD.pick; rw [if_pos k5]
    refine Zerun ?_
    (refine RW.call T hs rfl rfl rfl (vecText_con _ v _ _ hv' (by omega)) ?_; intro v h4 w4 hle4 hp4 hs)
    refine Zerun ?_
    (refine RW.call T hs rfl rfl rfl (thoseRune_con _ _ _ at_ 32 _ _ hp4 (ha'.mono hle4) hm) ?_; intro v h5 w5 hle5 hp5 hs)
    (refine RW.call T hs rfl rfl rfl (vecChars_con (R := R) _ _ _ _ hp5 (by simp; omega)) ?_; intro v h6 w6 hle6 hp6 hs)
    obtain ⟨cs6, rfl, hv6⟩ := hp6
    rw [hsp] at hv6
    have hv6' := hv6
    obtain ⟨wv', nv', sm', il', fl', ch', bx', ⟨rfl, hoc'⟩, _⟩ := hv6
    (refine RW.storeAll T hs 0 rfl rfl rfl rfl rfl rfl hoc' rfl ?_; intro w7 hs)
    refine Zerun ?_
    exact retQ_ret [_] h6 ⟨resN T hs 0 rfl rfl rfl rfl rfl rfl, trivial⟩ hs.dropAll ⟨_, rfl, hv6'⟩
  · have hsp : (⟨6, [], [], at_.map (fun i => atD v.boxes i nb)⟩ : VecD α) = v.pick at_ nb := by unfold VecD.pick; rw [if_neg (by omega), if_pos k6]
    refine Zerun ?_
    (refine RW.call T hs rfl rfl rfl (vecArrays_con hR h1 _ v _ _ hv' (by omega)) ?_; intro v h4 w4 hle4 hp4 hs)
    refine Zerun ?_
    (refine RW.call T hs rfl rfl rfl (hbl _ _) ?_; intro v h5 w5 hle5 hp5 hs)
    obtain ⟨cs5, rfl, hb5⟩ := hp5
    (refine RW.call T hs rfl rfl rfl (thoseArr_con hR h1 h9 _ _ _ at_ _ nb _ _ (hp4.mono hle5 (fun u a => hR _ _ u a hle5)) (ha'.mono (hle4.trans hle5)) hb5 hm) ?_; intro v h6 w6 hle6 hp6 hs)
    (refine RW.call T hs rfl rfl rfl (vecBoxes_con hR h1 _ _ _ _ hp6 (by simp; omega)) ?_; intro v h7 w7 hle7 hp7 hs)
    obtain ⟨cs7, rfl, hv7⟩ := hp7
    rw [hsp] at hv7
    have hv7' := hv7
    obtain ⟨wv', nv', sm', il', fl', ch', bx', ⟨rfl, hoc'⟩, _⟩ := hv7
    (refine RW.storeAll T hs 0 rfl rfl rfl rfl rfl rfl hoc' rfl ?_; intro w8 hs)
    refine Zerun ?_
    exact retQ_ret [_] h7 ⟨resN T hs 0 rfl rfl rfl rfl rfl rfl, trivial⟩ hs.dropAll ⟨_, rfl, hv7'⟩
end
end Go.Proofs.YtmojpbfkpggjhaaGreat

/-
  Contracts of the document's answer and of the law's own functions of layer 8: items picked, lists shown. No statement is proved here.
-/
namespace Go.Proofs.YtmojpbfkpggjhaaGreat
open Go Go.RowKit
set_option linter.unusedVariables false
set_option linter.unusedSimpArgs false
set_option maxHeartbeats 4000000
attribute [local irreducible] CW RW QW SW HW ConM retM heldQ calmQ elemP thenQ blockQ loopQ joinQ retQ Yields Con Sl zF magR unitF truncF fwF wholeF tidySpec elemQ rankF leastN tidyW
set_option maxHeartbeats 4000000

section
variable {β : Type} {R : GHeap → List Value → β → Prop}
/-- what stands for none, of a class -/
def blankI (c : Int) : ItemD (PlainD β) := ⟨c, 0, if c = 1 then 32 else 0, if c = 2 then [⟨[0], [], 0⟩] else []⟩
theorem refBlank08_con (hR : Mono R) (c : Int) (w : World) (h : GHeap) : Con Tryz.prog 89 [.int .i64 c] w h (fun h' u => ∃ cs', u = .agg cs'.toArray ∧ ItemAt (PlainR R) h' cs' (blankI c)) := by
  refine Con.of_body Tryz.func89 rfl Tryz.ntmps89 rfl rfl ?_
  intro hs
  refine Zrun ?_
  (refine RW.allocN T hs rfl rfl rfl rfl ?_; intro b1 w1 hs)
  refine Zerun ?_
  refine RW.val (Y.build T rfl rfl rfl rfl rfl rfl rfl) rfl ?_
  (refine RW.allocN T hs rfl rfl rfl rfl ?_; intro b2 w2 hs)
  (refine RW.storeAll T hs 0 rfl rfl rfl rfl rfl rfl rfl rfl ?_; intro w3 hs)
  refine Zerun ?_
  unfold blankI
  by_cases c1 : c = 1
  · rw [if_pos c1, if_neg (by omega)]
    refine Zerun ?_
    (refine RW.store1 T hs 0 rfl rfl rfl rfl rfl rfl rfl rfl ?_; intro w4 hs)
    refine Zerun ?_
    (refine RW.storeAll T hs 1 rfl rfl rfl rfl rfl rfl rfl rfl ?_; intro w5 hs)
    refine Zerun ?_
    exact retQ_ret [_] h ⟨resN T hs 1 rfl rfl rfl rfl rfl rfl, trivial⟩ hs.dropAll ⟨_, rfl, ItemAt.mk' (x := ⟨c, 0, 32, []⟩) (RowsAt.nil _) (Nat.succ_pos _)⟩
  rw [if_neg c1]
  by_cases c2 : c = 2
  · rw [if_pos c2]
    refine Zerun ?_
    (refine RW.lit T hs (vs := [.int .i64 0]) (cs := [.int .i64 0]) rfl rfl rfl rfl (by simp [Value.cells]) rfl rfl rfl rfl rfl ?_; intro b4 w4 hs)
    obtain ⟨h5, hle5, hs, hS5⟩ := hs.freeze
    have hI5 : IntsAt h5 (.slice (some ⟨b4, 0, none⟩) 1 1) [0] := IntsAt.of_sl hS5
    refine RW.val (Y.build T rfl rfl rfl rfl rfl rfl rfl) rfl ?_
    (refine RW.lit T hs (vs := [.agg [.slice (some ⟨b4, 0, none⟩) 1 1, .slice none 0 0, .int .i64 0].toArray]) (cs := [.slice (some ⟨b4, 0, none⟩) 1 1, .slice none 0 0, .int .i64 0]) rfl rfl rfl rfl (by simp [Value.cells]) rfl rfl rfl rfl rfl ?_; intro b6 w6 hs)
    obtain ⟨h7, hle7, hs, hS7⟩ := hs.freeze
    have hR7 : RowsAt 3 (PlainR R h7) h7 (.slice (some ⟨b6, 0, none⟩) 1 1) [(⟨[0], [], 0⟩ : PlainD β)] := RowsAt.single hS7 ⟨_, _, rfl, hI5.mono hle7, RowsAt.nil _⟩
    refine Zerun ?_
    (refine RW.store1 T hs 0 rfl rfl rfl rfl rfl rfl rfl rfl ?_; intro w8 hs)
    refine Zerun ?_
    (refine RW.storeAll T hs 1 rfl rfl rfl rfl rfl rfl rfl rfl ?_; intro w9 hs)
    refine Zerun ?_
    exact retQ_ret [_] h7 ⟨resN T hs 1 rfl rfl rfl rfl rfl rfl, trivial⟩ hs.dropAll ⟨_, rfl, ItemAt.mk' (x := ⟨c, 0, 0, [(⟨[0], [], 0⟩ : PlainD β)]⟩) hR7 (Nat.succ_pos _)⟩
  rw [if_neg c2]
  refine Zerun ?_
  (refine RW.storeAll T hs 1 rfl rfl rfl rfl rfl rfl rfl rfl ?_; intro w5 hs)
  refine Zerun ?_
  exact retQ_ret [_] h ⟨resN T hs 1 rfl rfl rfl rfl rfl rfl, trivial⟩ hs.dropAll ⟨_, rfl, ItemAt.mk' (x := ⟨c, 0, 0, []⟩) (RowsAt.nil _) (Nat.succ_pos _)⟩
end
end Go.Proofs.YtmojpbfkpggjhaaGreat

/-
  Contracts of the law's own functions of layer 8: good plain arrays, the chapter's example, elements at all places. No statement is proved here.
-/
namespace Go.Proofs.YtmojpbfkpggjhaaGreat
open Go Go.RowKit
set_option linter.unusedVariables false
set_option linter.unusedSimpArgs false
set_option maxHeartbeats 4000000
attribute [local irreducible] CW RW QW SW HW ConM retM heldQ calmQ elemP thenQ blockQ loopQ joinQ retQ Yields Con Sl zF magR unitF truncF fwF wholeF tidySpec elemQ rankF leastN tidyW
set_option maxHeartbeats 4000000

/-! ## Plain facts -/
theorem atD_map {γ δ : Type} (g : γ → δ) (l : List γ) (i : Int) (d : γ) : atD (l.map g) i (g d) = g (atD l i d) := by
  unfold atD
  split
  · by_cases c : i.toNat < l.length
    · simp [List.getD_eq_getElem?_getD, c]
    · simp [List.getD_eq_getElem?_getD, c]
  · rfl
theorem atD_mem {γ : Type} (l : List γ) (i : Int) (d : γ) : atD l i d ∈ l ∨ atD l i d = d := by
  unfold atD
  split
  · by_cases c : i.toNat < l.length
    · exact .inl (mem_getD _ _ _ c)
    · right; simp [List.getD_eq_getElem?_getD, c]
  · exact .inr rfl
section
variable {α β : Type} {R : GHeap → List Value → α → Prop}
theorem pick_cls (v : VecD α) (at_ : List Int) (nb : α) : (v.pick at_ nb).cls = v.cls := by
  unfold VecD.pick
  by_cases k5 : v.kind = 5
  · rw [if_pos k5]; unfold VecD.cls; rw [if_pos rfl, if_pos k5]
  · rw [if_neg k5]
    by_cases k6 : v.kind = 6
    · rw [if_pos k6]; unfold VecD.cls; rw [if_neg (show ¬ (6 : Int) = 5 by decide), if_pos rfl, if_neg k5, if_pos k6]
    · rw [if_neg k6]
      have := leastN_bounds (at_.map v.num)
      unfold VecD.cls
      rw [if_neg k5, if_neg k6]
      dsimp only
      rw [if_neg (by omega), if_neg (by omega)]
theorem pick_facts (v : VecD α) (at_ : List Int) (nb : α) : (v.pick at_ nb).kind ≠ 0 ∧ (v.pick at_ nb).kind = (v.pick at_ nb).least ∧ (v.pick at_ nb).len = at_.length ∧ ∀ b ∈ (v.pick at_ nb).boxes, b ∈ v.boxes ∨ b = nb := by
  have hc := pick_cls v at_ nb
  unfold VecD.least
  rw [hc]
  unfold VecD.cls VecD.pick
  by_cases k5 : v.kind = 5
  · rw [if_pos k5, if_pos k5]; simp [VecD.len]
  · rw [if_neg k5, if_neg k5]
    by_cases k6 : v.kind = 6
    · rw [if_pos k6, if_pos k6]
      refine ⟨show (6 : Int) ≠ 0 by decide, by simp, by simp [VecD.len], ?_⟩
      intro b hb
      obtain ⟨i, _, rfl⟩ := List.mem_map.1 hb
      exact atD_mem _ _ _
    · rw [if_neg k6, if_neg k6]
      have := leastN_bounds (at_.map v.num)
      exact ⟨by dsimp only; omega, by dsimp only; rw [if_pos ⟨rfl, by omega⟩], by simp [VecD.len], fun b hb => by cases hb⟩
theorem itemsV_c1 (f : α → β) {v : VecD α} (hc : v.cls = 1) : itemsV f v = v.chars.map fun c => ⟨1, 0, c, []⟩ := by unfold itemsV; rw [if_pos hc]
theorem itemsV_c2 (f : α → β) {v : VecD α} (hc : v.cls = 2) : itemsV f v = v.boxes.map fun b => ⟨2, 0, 0, [f b]⟩ := by unfold itemsV; rw [if_neg (by omega), if_pos hc]
theorem itemsV_c0 (f : α → β) {v : VecD α} (hc : v.cls = 0) : itemsV f v = v.nums.map fun x => ⟨0, x, 0, []⟩ := by unfold itemsV; rw [if_neg (by omega), if_neg (by omega)]
theorem pick_items (f : α → PlainD β) (v : VecD α) (at_ : List Int) (nb : α) (hnb : f nb = ⟨[0], [], 0⟩) : itemsV f (v.pick at_ nb) = at_.map (fun i => atD (itemsV f v) i (blankI v.cls)) := by
  have hpc := pick_cls v at_ nb
  have hcl : v.cls = if v.kind = 5 then 1 else if v.kind = 6 then 2 else 0 := rfl
  by_cases k5 : v.kind = 5
  · rw [if_pos k5] at hcl
    have e : (v.pick at_ nb).chars = at_.map (fun i => atD v.chars i 32) := by unfold VecD.pick; rw [if_pos k5]
    rw [itemsV_c1 f (hpc.trans hcl), itemsV_c1 f hcl, hcl, e, List.map_map]
    apply List.map_congr_left
    intro i _
    exact (atD_map (fun c => (⟨1, 0, c, []⟩ : ItemD (PlainD β))) v.chars i 32).symm
  · rw [if_neg k5] at hcl
    by_cases k6 : v.kind = 6
    · rw [if_pos k6] at hcl
      have e : (v.pick at_ nb).boxes = at_.map (fun i => atD v.boxes i nb) := by unfold VecD.pick; rw [if_neg k5, if_pos k6]
      rw [itemsV_c2 f (hpc.trans hcl), itemsV_c2 f hcl, hcl, e, List.map_map]
      apply List.map_congr_left
      intro i _
      have e := (atD_map (fun b => (⟨2, 0, 0, [f b]⟩ : ItemD (PlainD β))) v.boxes i nb).symm
      rw [hnb] at e
      exact e
    · rw [if_neg k6] at hcl
      have e : (v.pick at_ nb).nums = at_.map v.num := by unfold VecD.pick; rw [if_neg k5, if_neg k6]
      rw [itemsV_c0 f (hpc.trans hcl), itemsV_c0 f hcl, hcl, e, List.map_map]
      apply List.map_congr_left
      intro i _
      exact (atD_map (fun x => (⟨0, x, 0, []⟩ : ItemD (PlainD β))) v.nums i 0).symm
theorem pick_items' (f : α → PlainD β) (v : VecD α) (at_ : List Int) (nb : α) (L : List (ItemD (PlainD β))) (c : Int) (hL : itemsV f v = L) (hc : v.cls = c) (hnb : f nb = ⟨[0], [], 0⟩) : itemsV f (v.pick at_ nb) = at_.map (fun i => atD L i (blankI c)) := by
  subst hL hc
  exact pick_items f v at_ nb hnb
end
def blankA (k : Nat) : AD (k + 1) := (⟨[0], ⟨1, [], [], []⟩⟩ : ArrD (AD k))
def blankP (k : Nat) : PD (k + 1) := (⟨[0], [], 0⟩ : PlainD (PD k))
theorem blankA_sml (k : Nat) : sml (k + 1) (blankA k) := ⟨by show 1 ≤ 8; omega, Nat.zero_le _, fun b hb => by cases hb⟩
theorem blankP_tdy (k : Nat) : tdy (k + 1) (blankP k) := fun x hx => by cases hx
theorem blankI_tdy (k : Nat) (c : Int) : tdyIt (tdy (k + 1)) (blankI c : ItemD (PlainD (PD k))) := by
  refine ⟨tidy0, fun b hb => ?_⟩
  unfold blankI at hb
  dsimp only at hb
  split at hb
  · rw [List.mem_singleton.1 hb]; exact blankP_tdy k
  · cases hb
end Go.Proofs.YtmojpbfkpggjhaaGreat

/-
  Contracts of the law's own functions of layer 8: elements picked, and picked again. No statement is proved here.
-/
namespace Go.Proofs.YtmojpbfkpggjhaaGreat
open Go Go.RowKit
set_option linter.unusedVariables false
set_option linter.unusedSimpArgs false
set_option maxHeartbeats 4000000
attribute [local irreducible] CW RW QW SW HW ConM retM heldQ calmQ elemP thenQ blockQ loopQ joinQ retQ Yields Con Sl zF magR unitF truncF fwF wholeF tidySpec elemQ rankF leastN tidyW
set_option maxHeartbeats 4000000

end Go.Proofs.YtmojpbfkpggjhaaGreat

/-
  Contracts of functions of package flat: numbers from one up to another, elements backwards, and again and again. No statement is proved here.
-/
namespace Go.Proofs.YtmojpbfkpggjhaaGreat
open Go Go.RowKit
set_option linter.unusedVariables false
set_option linter.unusedSimpArgs false
set_option maxHeartbeats 4000000
attribute [local irreducible] CW RW QW SW HW ConM retM heldQ calmQ elemP thenQ blockQ loopQ joinQ retQ Yields Con Sl zF magR unitF truncF fwF wholeF tidySpec elemQ rankF leastN tidyW
set_option maxHeartbeats 4000000

def againI (m i : Nat) : Int := if 0 < m then ((i % m : Nat) : Int) else -1
def againL (n m : Nat) : List Int := (List.range n).map (againI m)
theorem againL_length (n m : Nat) : (againL n m).length = n := by simp [againL]
theorem range_snoc (f : Nat → Int) (i : Nat) : (((List.range (i + 1)).map f).map (Value.int .i64)) = (((List.range i).map f).map (Value.int .i64)) ++ [.int .i64 (f i)] := by rw [List.range_succ, List.map_append, List.map_append]; rfl
theorem fill_snoc (f : Nat → Int) (i n : Nat) (h : i < n) (z : Value) : (((List.range i).map f).map (Value.int .i64) ++ List.replicate (n - i) z).set i (.int .i64 (f i)) = ((List.range (i + 1)).map f).map (Value.int .i64) ++ List.replicate (n - (i + 1)) z := by
  have e1 := set_snoc (((List.range i).map f).map (Value.int .i64)) (n - i) z (.int .i64 (f i)) (by omega)
  simp only [List.length_map, List.length_range] at e1
  rw [e1, range_snoc, show n - (i + 1) = n - i - 1 by omega]
section
variable {α : Type} {R : GHeap → List Value → α → Prop}
theorem flatAgain_con (hR : Mono R) (h1 : One R) (h9 : Siz 9 R) (nb : α) (hbl : ∀ w h, Con Tryz.prog 138 [] w h (fun h' u => ∃ cs', u = .agg cs'.toArray ∧ R h' cs' nb))
    (cs : List Value) (v : VecD α) (n : Int) (w : World) (h : GHeap) (hv : VecAt R h cs v) (hvm : v.len ≤ 1048576) (hk0 : v.kind ≠ 0) (hn : n ≤ 1048576) : Con Tryz.prog 106 [.agg cs.toArray, .int .i64 n] w h (fun h' u => ∃ cs', u = .agg cs'.toArray ∧ VecAt R h' cs' (v.pick (againL n.toNat v.len) nb)) := by
  have hv' := hv
  obtain ⟨wv, nv, sm, il, fl, ch, bx, ⟨rfl, hoc⟩, hk⟩ := hv
  refine Con.of_body Tryz.func106 rfl Tryz.ntmps106 rfl rfl ?_
  intro hs
  refine Zrun ?_
  (refine RW.boxN hs rfl rfl ?_; intro b1 w1 hs)
  (refine RW.allocN T hs rfl rfl rfl rfl ?_; intro b2 w2 hs)
  refine Zerun ?_
  have en : max 0 (min n 1048576) = (n.toNat : Int) := by omega
  rw [en]
  have hm : n.toNat ≤ 1048576 := by omega
  generalize n.toNat = m at hm ⊢
  (refine RW.make1 T hs rfl rfl rfl rfl rfl rfl rfl (by dsimp only; omega) (by omega) ?_; intro b4 w4 hs)
  refine Zerun ?_
  refine CW.loop (fun u : Nat × GHeap => [(2, .pointer (some ⟨b1, 0, none⟩)), (4, .pointer (some ⟨b2, 0, none⟩)), (5, .slice (some ⟨b4, 0, none⟩) m m), (13, .int .i64 m), (14, .int .i64 u.1)]) (fun u w' => u.1 ≤ m ∧ GLe h u.2 ∧ Sees w h u.2 [⟨some ⟨b4, 0, none⟩, m, m, 3, 1, ((List.range u.1).map (againI v.len)).map (Value.int .i64) ++ List.replicate (m - u.1) (.int .i64 0)⟩, ⟨some ⟨b2, 0, none⟩, 1, 1, 37, 8, vecCells 0 (.slice none 0 0) 0 (.slice none 0 0) (.slice none 0 0) (.slice none 0 0) (.slice none 0 0) (.slice none 0 0)⟩, ⟨some ⟨b1, 0, none⟩, 1, 1, 37, 8, vecCells v.kind wv nv sm il fl ch bx⟩] w') (fun u => m - u.1) (0, h) ⟨rfl, rfl, rfl, rfl, rfl, trivial⟩ ⟨by omega, GLe.refl _, hs⟩ ?_
  rintro ⟨i, hh⟩ w5 ⟨hi, hg, hs⟩
  dsimp only at hi hg hs ⊢
  have hv' := hv'.mono hR hg
  by_cases hlt : i < m
  · refine Zerun ?_
    refine RW.val (Y.idxRN T hs 0 rfl rfl rfl rfl rfl rfl ?_) rfl ?_
    · omega
    refine RW.st1 T hs 0 rfl rfl rfl rfl rfl rfl rfl (by omega) ?_
    intro w6 hs
    refine Zerun ?_
    (refine RW.call T hs rfl rfl rfl (vecLen_con _ v _ _ hv') ?_; intro v h7 w7 hle7 hp7 hs)
    subst hp7
    have hv' := hv'.mono hR hle7
    by_cases h0 : 0 < v.len
    · refine Zerun ?_
      (refine RW.call T hs rfl rfl rfl (vecLen_con _ v _ _ hv') ?_; intro v h8 w8 hle8 hp8 hs)
      subst hp8
      have ea : againI v.len i = (i : Int) % (v.len : Int) := by unfold againI; rw [if_pos h0]; omega
      refine Zerun ?_
      refine RW.val (Y.idxRN T hs 0 rfl rfl rfl rfl rfl rfl ?_) rfl ?_
      · omega
      rw [← ea]
      refine RW.st1 T hs 0 rfl rfl rfl rfl rfl rfl rfl (by omega) ?_
      intro w7 hs
      replace hs := hs.re ((List.set_set ..).trans (fill_snoc (againI v.len) i m hlt _))
      refine Zerun ?_
      exact loopQ_round (i + 1, h8) ⟨rfl, rfl, rfl, rfl, rfl, trivial⟩ ⟨by dsimp only; omega, (hg.trans hle7).trans hle8, hs⟩ (by dsimp only; omega)
    · have ea : againI v.len i = -1 := by unfold againI; rw [if_neg h0]
      rw [← ea] at hs
      replace hs := hs.re (fill_snoc (againI v.len) i m hlt _)
      refine Zerun ?_
      exact loopQ_round (i + 1, h7) ⟨rfl, rfl, rfl, rfl, rfl, trivial⟩ ⟨by dsimp only; omega, hg.trans hle7, hs⟩ (by dsimp only; omega)
  obtain rfl : i = m := by omega
  rw [Nat.sub_self, List.replicate_zero, List.append_nil] at hs
  obtain ⟨h8, hle8, hs, hS8⟩ := hs.freeze
  have ha8 : IntsAt h8 (.slice (some ⟨b4, 0, none⟩) i i) (againL i v.len) := by
    have hl : (againL i v.len).length = i := againL_length i v.len
    have := IntsAt.of_sl (l := againL i v.len) hS8
    exact this
  have hv' := hv'.mono hR hle8
  refine Zerun ?_
  (refine RW.call T hs rfl rfl rfl (flatPick_con hR h1 h9 nb hbl _ v _ (againL i v.len) _ _ hv' ha8 (by rw [againL_length]; omega) hvm hk0) ?_; intro v h9 w9 hle9 hp9 hs)
  obtain ⟨cs9, rfl, hv9⟩ := hp9
  have hv9' := hv9
  obtain ⟨wv', nv', sm', il', fl', ch', bx', ⟨rfl, hoc'⟩, _⟩ := hv9
  (refine RW.storeAll T hs 0 rfl rfl rfl rfl rfl rfl hoc' rfl ?_; intro w10 hs)
  refine Zerun ?_
  exact retQ_ret [_] h9 ⟨resN T hs 0 rfl rfl rfl rfl rfl rfl, trivial⟩ hs.dropAll ⟨_, rfl, hv9'⟩
end
end Go.Proofs.YtmojpbfkpggjhaaGreat

/-
  Plain Lean on elements along an axis: places turned, and turned back. No statement is proved here.
-/
namespace Go.Proofs.YtmojpbfkpggjhaaGreat
open Go Go.RowKit
set_option linter.unusedVariables false
set_option linter.unusedSimpArgs false

theorem sum_const {δ : Type} (c : Nat) : ∀ l : List δ, (l.map fun _ => c).sum = l.length * c
  | [] => by simp
  | a :: l => by rw [List.map_cons, List.sum_cons, sum_const c l, List.length_cons, Nat.add_mul, Nat.one_mul, Nat.add_comm]
theorem flatMap_eqN {γ δ : Type} {f g : γ → List δ} : ∀ {l : List γ}, (∀ x ∈ l, f x = g x) → l.flatMap f = l.flatMap g
  | [], _ => rfl
  | a :: l, h => by rw [List.flatMap_cons, List.flatMap_cons, h a (by simp), flatMap_eqN (fun x hx => h x (List.mem_cons_of_mem _ hx))]
end Go.Proofs.YtmojpbfkpggjhaaGreat

/-
  Plain laws of arrays turned backwards: where each element lies. No statement is proved here.
-/
namespace Go.Proofs.YtmojpbfkpggjhaaGreat
open Go Go.RowKit
set_option linter.unusedVariables false
set_option linter.unusedSimpArgs false

end Go.Proofs.YtmojpbfkpggjhaaGreat

/-
  Plain laws of arrays with their axes in the other order. No statement is proved here.
-/
namespace Go.Proofs.YtmojpbfkpggjhaaGreat
open Go Go.RowKit
set_option linter.unusedVariables false
set_option linter.unusedSimpArgs false

/-! ## sums of products -/
/-! ## counting on -/
end Go.Proofs.YtmojpbfkpggjhaaGreat

/-
  Plain laws of two lists of elements put behind each other along an axis. No statement is proved here.
-/
namespace Go.Proofs.YtmojpbfkpggjhaaGreat
open Go Go.RowKit
set_option linter.unusedVariables false
set_option linter.unusedSimpArgs false

theorem idxOf_app : ∀ (P T : List Int) (a : Int), (∀ d ∈ T, 1 ≤ d) → idxOf (P ++ T) a = idxOf P (a / prn T) ++ idxOf T a
  | [], _, _, _ => rfl
  | d :: P, T, a, h => by
    have hp := prn_pos T h
    show (a / prn (P ++ T)) % d :: idxOf (P ++ T) a = (a / prn T / prn P) % d :: idxOf P (a / prn T) ++ idxOf T a
    rw [idxOf_app P T a h, prn_append, Int.mul_comm (prn P) (prn T), Int.ediv_ediv_of_nonneg (by omega)]
    rfl
theorem off_app : ∀ (P T u v : List Int), u.length = P.length → off (P ++ T) (u ++ v) = off P u * prn T + off T v
  | [], T, [], v, _ => by simp [off]
  | [], _, _ :: _, _, h => by simp at h
  | _ :: _, _, [], _, h => by simp at h
  | d :: P, T, i :: u, v, h => by
    rw [List.cons_append, List.cons_append]
    simp only [off]
    rw [off_app P T u v (by simpa using h), prn_append, Int.add_mul, Int.mul_assoc, Int.add_assoc]
theorem inR_app : ∀ (P T u v : List Int), u.length = P.length → inR (P ++ T) (u ++ v) = (inR P u && inR T v)
  | [], T, [], v, _ => by simp [inR]
  | [], _, _ :: _, _, h => by simp at h
  | _ :: _, _, [], _, h => by simp at h
  | d :: P, T, i :: u, v, h => by
    rw [List.cons_append, List.cons_append]
    simp only [inR]
    rw [inR_app P T u v (by simpa using h), Bool.and_assoc]
/-- two shapes that are alike but for one axis -/
structure CatS (P S : List Int) (da db outer inner : Nat) : Prop where
  hP : ∀ d ∈ P, 1 ≤ d
  hS : ∀ d ∈ S, 1 ≤ d
  po : prn P = outer
  ps : prn S = inner
  h0 : 0 < da + db
  gx : goodS (P ++ (da : Int) :: S) = true
  gy : goodS (P ++ (db : Int) :: S) = true
theorem CatS.pos {P S : List Int} {da db outer inner : Nat} (H : CatS P S da db outer inner) : 0 < inner ∧ 0 < outer := by
  have h1 := prn_pos S H.hS
  have h2 := prn_pos P H.hP
  rw [H.ps] at h1
  rw [H.po] at h2
  omega
theorem CatS.split {P S : List Int} {da db outer inner : Nat} (H : CatS P S da db outer inner) (i : Nat) :
    idxOf (P ++ ((da + db : Nat) : Int) :: S) i = idxOf P ((i / ((da + db) * inner) : Nat) : Int) ++ ((i / inner % (da + db) : Nat) : Int) :: idxOf S i ∧ i % ((da + db) * inner) = i / inner % (da + db) * inner + i % inner := by
  have hT : ∀ d ∈ (((da + db : Nat) : Int) :: S), 1 ≤ d := by
    intro d hd
    rcases List.mem_cons.1 hd with rfl | hd
    · have := H.h0; omega
    · exact H.hS d hd
  constructor
  · rw [idxOf_app _ _ _ hT]
    have hq : (i : Int) / prn (((da + db : Nat) : Int) :: S) = ((i / ((da + db) * inner) : Nat) : Int) := by
      show (i : Int) / (((da + db : Nat) : Int) * prn S) = _
      rw [H.ps, ← Int.natCast_mul]
      rfl
    rw [hq]
    show _ ++ ((i : Int) / prn S) % ((da + db : Nat) : Int) :: idxOf S i = _
    rw [H.ps]
    rfl
  · have := emod_split (i : Int) (inner : Int) ((da + db : Nat) : Int) (by have := H.pos; omega) (by have := H.h0; omega)
    rw [← Int.natCast_mul] at this
    have e : ((i % ((da + db) * inner) : Nat) : Int) = ((i / inner % (da + db) * inner + i % inner : Nat) : Int) := by
      rw [Int.natCast_add, Int.natCast_mul]
      exact this
    omega
theorem CatS.offs {P S : List Int} {da db outer inner : Nat} (H : CatS P S da db outer inner) (i : Nat) (hi : i < outer * ((da + db) * inner)) (d j : Nat) : inR (P ++ (d : Int) :: S) (idxOf P ((i / ((da + db) * inner) : Nat) : Int) ++ (j : Int) :: idxOf S i) = decide (j < d) ∧
    off (P ++ (d : Int) :: S) (idxOf P ((i / ((da + db) * inner) : Nat) : Int) ++ (j : Int) :: idxOf S i) = ((i / ((da + db) * inner) * (d * inner) + (j * inner + i % inner) : Nat) : Int) := by
  have hl := length_idxOf P ((i / ((da + db) * inner) : Nat) : Int)
  have hq : i / ((da + db) * inner) < outer := by
    refine Nat.div_lt_of_lt_mul ?_
    rw [Nat.mul_comm]; exact hi
  generalize i / ((da + db) * inner) = q at *
  constructor
  · rw [inR_app _ _ _ _ hl, inR_idxOf P _ H.hP, Bool.true_and]
    simp only [inR]
    rw [inR_idxOf S _ H.hS, Bool.and_true]
    by_cases c : j < d
    · rw [decide_eq_true c, decide_eq_true (by omega)]
    · rw [decide_eq_false c, decide_eq_false (by omega)]
  · rw [off_app _ _ _ _ hl, off_idxOf P _ H.hP, H.po]
    have e1 : off ((d : Int) :: S) ((j : Int) :: idxOf S i) = (j : Int) * inner + ((i % inner : Nat) : Int) := by
      show (j : Int) * prn S + off S (idxOf S i) = _
      rw [off_idxOf S _ H.hS, H.ps]
      rfl
    have e2 : prn ((d : Int) :: S) = ((d * inner : Nat) : Int) := by
      show (d : Int) * prn S = _
      rw [H.ps, Int.natCast_mul]
    rw [e1, e2, Int.emod_eq_of_lt (by omega) (by omega)]
    simp only [Int.natCast_add, Int.natCast_mul]
/-- the place of an element of the join in the first list, or in the second one -/
def catJ (a b i : Nat) : Nat := if i % (a + b) < a then i / (a + b) * a + i % (a + b) else i / (a + b) * b + (i % (a + b) - a)
theorem CatS.at_ {P S : List Int} {da db outer inner : Nat} (H : CatS P S da db outer inner) (i : Nat) (hi : i < outer * (da * inner + db * inner)) :
    (i % (da * inner + db * inner) < da * inner → atSpec (P ++ (da : Int) :: S) (idxOf (P ++ ((da + db : Nat) : Int) :: S) i) = ((catJ (da * inner) (db * inner) i : Int), true)) ∧
    (¬ i % (da * inner + db * inner) < da * inner → atSpec (P ++ (da : Int) :: S) (idxOf (P ++ ((da + db : Nat) : Int) :: S) i) = (0, false) ∧ 0 ≤ (idxOf (P ++ ((da + db : Nat) : Int) :: S) i).getD P.length 0 ∧ (idxOf (P ++ ((da + db : Nat) : Int) :: S) i).getD P.length 0 < da + db ∧
      atSpec (P ++ (db : Int) :: S) ((idxOf (P ++ ((da + db : Nat) : Int) :: S) i).set P.length ((idxOf (P ++ ((da + db : Nat) : Int) :: S) i).getD P.length 0 - da)) = ((catJ (da * inner) (db * inner) i : Int), true)) := by
  obtain ⟨e1, e2⟩ := H.split i
  have hpos := H.pos.1
  have h0 := H.h0
  have hl := length_idxOf P ((i / ((da + db) * inner) : Nat) : Int)
  rw [← Nat.add_mul] at hi ⊢
  rw [e1]
  unfold catJ
  rw [← Nat.add_mul]
  have hz : i % inner < inner := Nat.mod_lt _ hpos
  have hjD : i / inner % (da + db) < da + db := Nat.mod_lt _ h0
  have cross : i % ((da + db) * inner) < da * inner ↔ i / inner % (da + db) < da := by
    rw [e2]
    constructor
    · intro h
      by_cases c : i / inner % (da + db) < da
      · exact c
      · have := Nat.mul_le_mul_right inner (Nat.le_of_not_lt c); omega
    · intro h
      have := Nat.mul_le_mul_right inner (show i / inner % (da + db) + 1 ≤ da from h)
      rw [Nat.add_mul, Nat.one_mul] at this
      omega
  constructor
  · intro h
    obtain ⟨f1, f2⟩ := H.offs i hi da (i / inner % (da + db))
    rw [decide_eq_true (cross.1 h)] at f1
    unfold atSpec
    rw [if_pos ⟨H.gx, f1⟩, f2, if_pos h, e2]
  · intro h
    have hj : da ≤ i / inner % (da + db) := by
      have := mt cross.2 h; omega
    obtain ⟨f1, _⟩ := H.offs i hi da (i / inner % (da + db))
    rw [decide_eq_false (by omega)] at f1
    obtain ⟨g1, g2⟩ := H.offs i hi db (i / inner % (da + db) - da)
    rw [decide_eq_true (by omega)] at g1
    have hg : (idxOf P ((i / ((da + db) * inner) : Nat) : Int) ++ ((i / inner % (da + db) : Nat) : Int) :: idxOf S i).getD P.length 0 = ((i / inner % (da + db) : Nat) : Int) := by
      rw [List.getD_eq_getElem?_getD, List.getElem?_append_right (by omega), hl, Nat.sub_self]; rfl
    have hst : (idxOf P ((i / ((da + db) * inner) : Nat) : Int) ++ ((i / inner % (da + db) : Nat) : Int) :: idxOf S i).set P.length (((i / inner % (da + db) : Nat) : Int) - da) = idxOf P ((i / ((da + db) * inner) : Nat) : Int) ++ ((i / inner % (da + db) - da : Nat) : Int) :: idxOf S i := by
      rw [List.set_append_right _ _ (by omega), hl, Nat.sub_self, List.set_cons_zero]
      congr 2
      omega
    refine ⟨by unfold atSpec; rw [if_neg (fun e => by rw [e.2] at f1; cases f1)], by rw [hg]; omega, by rw [hg]; omega, ?_⟩
    rw [hg, hst]
    unfold atSpec
    rw [if_pos ⟨H.gy, g1⟩, g2, if_neg h, e2]
    have e3 : i / inner % (da + db) * inner + i % inner - da * inner = (i / inner % (da + db) - da) * inner + i % inner := by
      rw [Nat.sub_mul]
      have := Nat.mul_le_mul_right inner hj
      omega
    rw [e3]
/-! ## Lists -/
def rowsL (outer a b LA : Nat) : List Int := (List.range outer).flatMap fun o => ((List.range a).map fun i => ((o * a + i : Nat) : Int)) ++ ((List.range b).map fun i => ((LA + o * b + i : Nat) : Int))
theorem rowsL_len (outer a b LA : Nat) : (rowsL outer a b LA).length = outer * (a + b) := by
  unfold rowsL
  rw [List.length_flatMap]
  simp only [List.length_append, List.length_map, List.length_range]
  rw [sum_const, List.length_range]
/-- an element of the join -/
def catD {γ : Type} (A B : List γ) (a b : Nat) (d : γ) (i : Nat) : γ := if i % (a + b) < a then A.getD (catJ a b i) d else B.getD (catJ a b i) d
def catL {γ : Type} (A B : List γ) (outer a b : Nat) (d : γ) : List γ := (List.range (outer * (a + b))).map (catD A B a b d)
theorem catL_len {γ : Type} (A B : List γ) (outer a b : Nat) (d : γ) : (catL A B outer a b d).length = outer * (a + b) := by unfold catL; rw [List.length_map, List.length_range]
theorem catJ_lt {outer a b i : Nat} (hi : i < outer * (a + b)) : (i % (a + b) < a → catJ a b i < outer * a) ∧ (¬ i % (a + b) < a → catJ a b i < outer * b) := by
  have h0 : 0 < a + b := by
    rcases Nat.eq_zero_or_pos (a + b) with e | e
    · rw [e] at hi; simp at hi
    · exact e
  have hq : i / (a + b) < outer := Nat.div_lt_of_lt_mul (by rw [Nat.mul_comm]; exact hi)
  have hm := Nat.mod_lt i h0
  unfold catJ
  constructor
  · intro h
    rw [if_pos h]
    have := Nat.mul_le_mul_right a (show i / (a + b) + 1 ≤ outer from hq)
    rw [Nat.add_mul, Nat.one_mul] at this
    omega
  · intro h
    rw [if_neg h]
    have := Nat.mul_le_mul_right b (show i / (a + b) + 1 ≤ outer from hq)
    rw [Nat.add_mul, Nat.one_mul] at this
    omega
theorem catD_dflt {γ : Type} (A B : List γ) (outer a b : Nat) (d e : γ) (hA : A.length = outer * a) (hB : B.length = outer * b) (i : Nat) (hi : i < outer * (a + b)) : catD A B a b d i = catD A B a b e i := by
  obtain ⟨h1, h2⟩ := catJ_lt hi
  unfold catD
  by_cases c : i % (a + b) < a
  · rw [if_pos c, if_pos c, List.getD_eq_getElem?_getD, List.getD_eq_getElem?_getD, List.getElem?_eq_getElem (by have := h1 c; omega)]; rfl
  · rw [if_neg c, if_neg c, List.getD_eq_getElem?_getD, List.getD_eq_getElem?_getD, List.getElem?_eq_getElem (by have := h2 c; omega)]; rfl
theorem rowsL_eq (outer a b LA : Nat) (h : 0 < a + b) : rowsL outer a b LA = (List.range (outer * (a + b))).map fun i => (((if i % (a + b) < a then catJ a b i else LA + catJ a b i) : Nat) : Int) := by
  have e : ∀ o ∈ List.range outer, (((List.range a).map fun i => ((o * a + i : Nat) : Int)) ++ ((List.range b).map fun i => ((LA + o * b + i : Nat) : Int))) = (List.range (a + b)).map (fun x => (((if x < a then o * a + x else LA + (o * b + (x - a))) : Nat) : Int)) := by
    intro o _
    rw [List.range_add, List.map_append, List.map_map]
    congr 1
    · apply List.map_congr_left
      intro x hx
      rw [if_pos (List.mem_range.1 hx)]
    · apply List.map_congr_left
      intro x _
      simp only [Function.comp]
      rw [if_neg (by omega)]
      congr 1
      omega
  unfold rowsL
  rw [flatMap_eqN e, flat_range (a + b) h (fun o x => (((if x < a then o * a + x else LA + (o * b + (x - a))) : Nat) : Int)) outer]
  apply List.map_congr_left
  intro i _
  unfold catJ
  split <;> rfl
theorem rows_cat {γ : Type} (A B : List γ) (outer a b : Nat) (d e : γ) (hA : A.length = outer * a) (hB : B.length = outer * b) (h : 0 < a + b) : (rowsL outer a b A.length).map (fun p => atD (A ++ B) p d) = catL A B outer a b e := by
  rw [rowsL_eq _ _ _ _ h]
  unfold catL
  rw [List.map_map]
  apply List.map_congr_left
  intro i hi
  have hi := List.mem_range.1 hi
  rw [← catD_dflt A B outer a b d e hA hB i hi]
  obtain ⟨h1, h2⟩ := catJ_lt hi
  simp only [Function.comp]
  unfold atD catD
  rw [if_pos (by omega), Int.toNat_natCast]
  by_cases c : i % (a + b) < a
  · rw [if_pos c, if_pos c, List.getD_eq_getElem?_getD, List.getD_eq_getElem?_getD, List.getElem?_append_left (by have := h1 c; omega)]
  · rw [if_neg c, if_neg c, List.getD_eq_getElem?_getD, List.getD_eq_getElem?_getD, List.getElem?_append_right (by omega), Nat.add_sub_cancel_left]
theorem cat_one {γ : Type} (A B : List γ) (d : γ) : catL A B 1 A.length B.length d = A ++ B := by
  unfold catL
  rw [Nat.one_mul]
  apply List.ext_getElem
  · rw [List.length_map, List.length_range, List.length_append]
  intro i h1 h2
  rw [List.length_map, List.length_range] at h1
  rw [List.getElem_map, List.getElem_range]
  have hm : i % (A.length + B.length) = i := Nat.mod_eq_of_lt h1
  have hd : i / (A.length + B.length) = 0 := Nat.div_eq_of_lt h1
  unfold catD catJ
  rw [hm, hd, Nat.zero_mul, Nat.zero_mul, Nat.zero_add, Nat.zero_add]
  by_cases c : i < A.length
  · rw [if_pos c, if_pos c, List.getElem_append_left c, List.getD_eq_getElem?_getD, List.getElem?_eq_getElem c]; rfl
  · rw [if_neg c, if_neg c, List.getElem_append_right (by omega), List.getD_eq_getElem?_getD, List.getElem?_eq_getElem (by omega)]; rfl
end Go.Proofs.YtmojpbfkpggjhaaGreat

/-
  Contracts of functions of package bitvec: bits behind the last one away, and truths cut. No statement is proved here.
-/
namespace Go.Proofs.YtmojpbfkpggjhaaGreat
open Go Go.RowKit
set_option linter.unusedVariables false
set_option linter.unusedSimpArgs false
set_option maxHeartbeats 4000000
attribute [local irreducible] CW RW QW SW HW ConM retM heldQ calmQ elemP thenQ blockQ loopQ joinQ retQ Yields Con Sl zF magR unitF truncF fwF wholeF tidySpec elemQ rankF leastN tidyW
set_option maxHeartbeats 4000000

section
variable {P : Program} {n : Nat} {L : Env} {w : World} {ty : TypeId} {x y : Operand} {t yt : TypeId}
end
section
variable {P : Program} {L : Env} {w0 w : World} {h0 h : GHeap}
end
/-! ## Plain facts -/
def BitsUp (m : Nat) (ws : List Int) (g : Nat → Bool) : Prop := ws.length = m ∧ (∀ u ∈ ws, 0 ≤ u ∧ u < 18446744073709551616) ∧ ∀ i, i < m * 64 → (ws.getD (i / 64) 0).toNat.testBit (i % 64) = g i
def cutW (ws : List Int) (f i : Nat) : Nat := ((ws.getD ((f + i * 64) / 64) 0).toNat >>> ((f + i * 64) % 64)) ||| (if 0 < (f + i * 64) % 64 ∧ (f + i * 64) / 64 + 1 < ws.length then (ws.getD ((f + i * 64) / 64 + 1) 0).toNat <<< (64 - (f + i * 64) % 64) % 18446744073709551616 else 0)
theorem word_lt {ws : List Int} (h : ∀ u ∈ ws, 0 ≤ u ∧ u < 18446744073709551616) (i : Nat) : (ws.getD i 0).toNat < 18446744073709551616 := by
  by_cases c : i < ws.length
  · have := h _ (mem_getD ws i 0 c); omega
  · simp [List.getD_eq_getElem?_getD, c]
theorem shl_lt (u v : Nat) : u <<< v % 18446744073709551616 < 18446744073709551616 := Nat.mod_lt _ (by decide)
theorem cutW_lt {ws : List Int} (h : ∀ u ∈ ws, 0 ≤ u ∧ u < 18446744073709551616) (f i : Nat) : cutW ws f i < 18446744073709551616 := by
  unfold cutW
  refine Nat.or_lt_two_pow (n := 64) (Nat.lt_of_le_of_lt (Nat.shiftRight_le _ _) (word_lt h _)) ?_
  split
  · exact shl_lt _ _
  · decide
theorem cutW_bit {ws : List Int} {bs : List Bool} (hb : BitsOf ws bs) (f i j : Nat) (hj : j < 64) : (cutW ws f i).testBit j = bs.getD (f + i * 64 + j) false := by
  obtain ⟨hl, hr, hb⟩ := hb
  have h1 := hb (f + i * 64 + j)
  rw [← h1]
  unfold cutW
  rw [Nat.testBit_or, Nat.testBit_shiftRight]
  generalize hk : (f + i * 64) / 64 = k
  generalize hrr : (f + i * 64) % 64 = r
  have hat : f + i * 64 = k * 64 + r := by omega
  have hr64 : r < 64 := by omega
  by_cases c : r + j < 64
  · have e1 : (f + i * 64 + j) / 64 = k := by omega
    have e2 : (f + i * 64 + j) % 64 = r + j := by omega
    rw [e1, e2]
    have : (if 0 < r ∧ k + 1 < ws.length then (ws.getD (k + 1) 0).toNat <<< (64 - r) % 18446744073709551616 else 0).testBit j = false := by
      split
      · rw [show (18446744073709551616 : Nat) = 2 ^ 64 from rfl, Nat.testBit_mod_two_pow, Nat.testBit_shiftLeft]
        simp [show ¬ (j ≥ 64 - r) by omega]
      · simp
    rw [this, Bool.or_false]
  · have e1 : (f + i * 64 + j) / 64 = k + 1 := by omega
    have e2 : (f + i * 64 + j) % 64 = r + j - 64 := by omega
    rw [e1, e2]
    have h2 : (ws.getD k 0).toNat.testBit (r + j) = false := by
      apply Nat.testBit_lt_two_pow
      exact Nat.lt_of_lt_of_le (word_lt hr k) (Nat.pow_le_pow_right (n := 2) (by omega) (show 64 ≤ r + j by omega))
    rw [h2, Bool.false_or]
    by_cases c2 : k + 1 < ws.length
    · rw [if_pos ⟨by omega, c2⟩, show (18446744073709551616 : Nat) = 2 ^ 64 from rfl, Nat.testBit_mod_two_pow, Nat.testBit_shiftLeft]
      simp [hj, show j ≥ 64 - r by omega, show j - (64 - r) = r + j - 64 by omega]
    · rw [if_neg (by omega)]
      simp [List.getD_eq_getElem?_getD, c2]
theorem BitsUp.put {m : Nat} {ws : List Int} {bs : List Bool} {f i : Nat} {out : List Int} (hb : BitsOf ws bs) (ho : BitsUp m out (fun j => if j < i * 64 then bs.getD (f + j) false else false)) (hi : i < m) : BitsUp m (out.set i (cutW ws f i : Int)) (fun j => if j < (i + 1) * 64 then bs.getD (f + j) false else false) := by
  obtain ⟨hl, hr, hbo⟩ := ho
  refine ⟨by rw [List.length_set]; exact hl, fun u hu => ?_, fun j hj => ?_⟩
  · rcases List.mem_or_eq_of_mem_set hu with hu | hu
    · exact hr u hu
    · subst hu
      have := cutW_lt hb.2.1 f i
      omega
  · rw [getD_set _ _ _ _ _ (by omega)]
    by_cases e : j / 64 = i
    · rw [if_pos e, Int.toNat_natCast, cutW_bit hb f i _ (Nat.mod_lt _ (by omega))]
      dsimp only
      rw [if_pos (by omega)]
      congr 1
      omega
    · rw [if_neg e, hbo j hj]
      dsimp only
      by_cases c : j < i * 64
      · rw [if_pos c, if_pos (by omega)]
      · rw [if_neg c, if_neg (by omega)]
theorem BitsUp.zero (m : Nat) (g : Nat → Bool) : BitsUp m (List.replicate m 0) (fun j => if j < 0 * 64 then g j else false) := by
  refine ⟨by simp, fun u hu => ?_, fun j hj => ?_⟩
  · rw [List.eq_of_mem_replicate hu]; omega
  · dsimp only
    rw [if_neg (by omega)]
    have : (List.replicate m (0 : Int)).getD (j / 64) 0 = 0 := by
      rw [List.getD_eq_getElem?_getD, List.getElem?_replicate]
      split <;> rfl
    rw [this]; simp
end Go.Proofs.YtmojpbfkpggjhaaGreat

/-
  The program logic, eighteenth part: regions that draw their order and change memory, two of the call's own rows fixed. No statement is proved here.
-/
namespace Go.Proofs.YtmojpbfkpggjhaaGreat
open Go Go.RowKit
set_option linter.unusedVariables false
set_option linter.unusedSimpArgs false
set_option linter.unusedVariables false
section
variable {P : Program} {n : Nat} {Q : Post} {L : Env} {w0 w : World} {h0 h : GHeap} {O : List Row} {ops rest : List Oper} {x y : Operand} {t : TypeId} {ra rb : Row}
variable {d : Option Tmp} {ty yt : TypeId} {pos : String} {aft : Array Edge} {fuel : Nat} {listed : Array Bool}
def SR (w0 : World) (h0 : GHeap) (ra rb : Row) (w : World) : Prop := ∃ (h' : GHeap) (O : List Row) (k j : Nat), Sees w0 h0 h' O w ∧ O[k]? = some ra ∧ O[j]? = some rb
theorem CW.regionR (T' : Tab P) (k j : Nat) (hs : Sees w0 h0 h O w) (ha : O[k]? = some ra) (hb : O[j]? = some rb) {id : Nat} {l : List Oper} (K : ∀ w', Sees w0 h0 h O w' → HW P n l (calmQ Q) (SR w0 h0 ra rb) l.length (Array.replicate l.length false) L w') : CW P n Q (.region id l.toArray true) L w :=
  CW.regionH T' (SR w0 h0 ra rb) (fun w' e => by subst e; exact K _ hs.drew)
theorem HW.takeR (i : Nat) {op : Op} {v : Value} (hi : ops.toArray[i]? = some ⟨d, op, ty, pos, aft, none⟩) (hy : ∀ (h' : GHeap) (O : List Row) (ka kb : Nat) (w' : World), Sees w0 h0 h' O w' → O[ka]? = some ra → O[kb]? = some rb → Yields P n L w' op ty v) (hS : SR w0 h0 ra rb w) (hd : dstOk n d = true)
    (hs : Region.noSelect ops.toArray = true) (hf : Region.free .any ops.toArray listed i = true) (hr : (Region.ready .any ops.toArray listed).contains i = true)
    (hh : HW P n ops (calmQ Q) (SR w0 h0 ra rb) fuel (listed.setIfInBounds i true) (updo d v L) w) : HW P n ops (calmQ Q) (SR w0 h0 ra rb) (fuel + 1) listed L w :=
  HW.take i hi (fun w' ⟨h', O, k, j, s, a, b⟩ => hy h' O k j w' s a b) hS hd hs hf hr hh
end
end Go.Proofs.YtmojpbfkpggjhaaGreat

/-
  Contracts of functions of packages flat and bitvec: elements cut, truths one by one. No statement is proved here.
-/
namespace Go.Proofs.YtmojpbfkpggjhaaGreat
open Go Go.RowKit
set_option linter.unusedVariables false
set_option linter.unusedSimpArgs false
set_option maxHeartbeats 4000000
attribute [local irreducible] CW RW QW SW HW ConM retM heldQ calmQ elemP thenQ blockQ loopQ joinQ retQ Yields Con Sl zF magR unitF truncF fwF wholeF tidySpec elemQ rankF leastN tidyW
set_option maxHeartbeats 4000000

section
variable {α : Type} {R : GHeap → List Value → α → Prop}
end
theorem bitsUnpack_con (wv : Value) (bs : List Bool) (w : World) (h : GHeap) (hb : BitsAt h wv bs) : Con Tryz.prog 158 [.agg [wv, .int .i64 bs.length].toArray] w h (fun h' u => TAt h' u bs) := by
  have hb' := hb
  obtain ⟨hbm, ws, ⟨ad, cp, rfl, hS⟩, hwl, hwr, hwb⟩ := hb
  refine Con.of_body Tryz.func158 rfl Tryz.ntmps158 rfl rfl ?_
  intro hs
  refine Zrun ?_
  (refine RW.boxN hs rfl rfl ?_; intro b1 w1 hs)
  refine Zerun ?_
  (refine RW.make1 T hs rfl rfl rfl rfl rfl rfl rfl (by dsimp only; omega) (by omega) ?_; intro b2 w2 hs)
  refine Zerun ?_
  refine CW.loop (fun u : Nat × GHeap => [(1, .pointer (some ⟨b1, 0, none⟩)), (3, .slice (some ⟨b2, 0, none⟩) bs.length bs.length), (9, .int .i64 bs.length), (10, .int .i64 u.1)]) (fun u w' => u.1 ≤ bs.length ∧ GLe h u.2 ∧ Sees w h u.2 [⟨some ⟨b2, 0, none⟩, bs.length, bs.length, 4, 1, (bs.take u.1).map Value.bool ++ List.replicate (bs.length - u.1) (.bool false)⟩, ⟨some ⟨b1, 0, none⟩, 1, 1, 30, 2, [.slice ad ws.length cp, .int .i64 bs.length]⟩] w') (fun u => bs.length - u.1) (0, h) ⟨rfl, rfl, rfl, rfl, trivial⟩ ⟨by omega, GLe.refl _, hs⟩ ?_
  rintro ⟨i, hh⟩ w5 ⟨hi, hg, hs⟩
  dsimp only at hi hg hs ⊢
  have hb' := hb'.mono hg
  by_cases hlt : i < bs.length
  · have htk := take_succ_getD bs i false hlt
    refine Zerun ?_
    (refine RW.call T hs rfl rfl rfl (bitsAt_con _ bs i _ _ hb') ?_; intro v h6 w6 hle6 hp6 hs)
    subst hp6
    have eb : bitAt bs (i : Int) = bs.getD i false := by unfold bitAt; rw [if_pos (by omega), Int.toNat_natCast]
    rw [eb]
    refine RW.val (Y.idxRN T hs 0 rfl rfl rfl rfl rfl rfl ?_) rfl ?_
    · omega
    refine RW.st1 T hs 0 rfl rfl rfl rfl rfl rfl rfl (by omega) ?_
    intro w7 hs
    have e1 := set_snoc ((bs.take i).map Value.bool) (bs.length - i) (Value.bool false) (Value.bool (bs.getD i false)) (by omega)
    simp only [List.length_map, List.length_take, Nat.min_eq_left hi] at e1
    have e2 : (bs.take i).map Value.bool ++ [Value.bool (bs.getD i false)] ++ List.replicate (bs.length - i - 1) (.bool false) = (bs.take (i + 1)).map Value.bool ++ List.replicate (bs.length - (i + 1)) (.bool false) := by
      rw [htk, List.map_append, show bs.length - (i + 1) = bs.length - i - 1 by omega]; rfl
    replace hs := hs.re (e1.trans e2)
    refine Zerun ?_
    exact loopQ_round (i + 1, h6) ⟨rfl, rfl, rfl, rfl, trivial⟩ ⟨by dsimp only; omega, hg.trans hle6, hs⟩ (by dsimp only; omega)
  obtain rfl : i = bs.length := by omega
  rw [List.take_length, Nat.sub_self, List.replicate_zero, List.append_nil] at hs
  obtain ⟨h8, hle8, hs, hS8⟩ := hs.freeze
  refine Zerun ?_
  exact retQ_ret [_] h8 ⟨rfl, trivial⟩ hs.dropAll (RowAt.of_sl hS8)
end Go.Proofs.YtmojpbfkpggjhaaGreat

/-
  Contracts of functions of package flat: lists of a class behind each other. No statement is proved here.
-/
namespace Go.Proofs.YtmojpbfkpggjhaaGreat
open Go Go.RowKit
set_option linter.unusedVariables false
set_option linter.unusedSimpArgs false
set_option maxHeartbeats 4000000
attribute [local irreducible] CW RW QW SW HW ConM retM heldQ calmQ elemP thenQ blockQ loopQ joinQ retQ Yields Con Sl zF magR unitF truncF fwF wholeF tidySpec elemQ rankF leastN tidyW
set_option maxHeartbeats 4000000

section
variable {α : Type} {R : GHeap → List Value → α → Prop}
theorem fm_take_succ {δ γ : Type} (f : δ → List γ) (l : List δ) (i : Nat) (h : i < l.length) : (l.take (i + 1)).flatMap f = (l.take i).flatMap f ++ f l[i] := by
  rw [List.take_add_one, List.getElem?_eq_getElem h, Option.toList_some, List.flatMap_append, List.flatMap_cons, List.flatMap_nil, List.append_nil]
theorem fm_len {γ : Type} {f : VecD α → List γ} (hf : ∀ v, (f v).length ≤ v.len) : ∀ l : List (VecD α), (l.flatMap f).length ≤ (l.map VecD.len).sum
  | [] => Nat.le_refl _
  | v :: l => by
    have := fm_len hf l
    have := hf v
    rw [List.flatMap_cons, List.length_append, List.map_cons, List.sum_cons]
    omega
theorem sum_take_le : ∀ (l : List (VecD α)) (i : Nat), ((l.take i).map VecD.len).sum ≤ (l.map VecD.len).sum
  | [], i => by simp
  | v :: l, 0 => by simp
  | v :: l, i + 1 => by
    have := sum_take_le l i
    simp only [List.take_succ_cons, List.map_cons, List.sum_cons]
    omega
theorem fm_len' {γ : Type} {f : VecD α → List γ} (hf : ∀ v, (f v).length ≤ v.len) (l : List (VecD α)) (i : Nat) : ((l.take i).flatMap f).length ≤ (l.map VecD.len).sum := Nat.le_trans (fm_len hf _) (sum_take_le l i)
theorem len_le_sum : ∀ {l : List (VecD α)} {v : VecD α}, v ∈ l → v.len ≤ (l.map VecD.len).sum
  | u :: l, v, h => by
    rw [List.map_cons, List.sum_cons]
    rcases List.mem_cons.1 h with rfl | h
    · omega
    · have := len_le_sum h; omega
theorem AllN.ones {δ : Type} {sz : Nat} {S : List Value → δ → Prop} (hc : ∀ cs a, S cs a → ∀ u ∈ cs, u.oneCell' = true) : ∀ {l : List δ} {xs : List Value}, AllN sz S xs l → ∀ u ∈ xs, u.oneCell' = true
  | [], xs, hx, u, hu => by have : xs = [] := hx; rw [this] at hu; cases hu
  | a :: l, xs, hx, u, hu => by
    rw [← List.take_append_drop sz xs, List.mem_append] at hu
    rcases hu with hu | hu
    · exact hc _ a hx.2.1 u hu
    · exact AllN.ones hc hx.2.2 u hu
theorem leastN_bits (bs : List Bool) : leastN (bs.map bitF) = 1 := by
  have h1 := (leastN_bounds (bs.map bitF)).1
  have h2 : leastN (bs.map bitF) ≤ 1 := by
    rw [leastN.eq_1]
    refine fold_le _ 1 1 (by omega) ?_
    intro x hx
    obtain ⟨b, _, rfl⟩ := List.mem_map.1 hx
    cases b
    · exact (rank_bit _ tidy0).2 (.inl fw0.symm)
    · exact (rank_bit _ tidy1).2 (.inr fw1.symm)
  omega
def joinS (c : Int) (l : List (VecD α)) : VecD α := if c = 1 then ⟨5, [], l.flatMap (·.chars), []⟩ else if c = 2 then ⟨6, [], [], l.flatMap (·.boxes)⟩ else ⟨leastN (l.flatMap (·.nums)), l.flatMap (·.nums), [], []⟩
theorem flatJoined_con (hR : Mono R) (h1 : One R) (s : Value) (l : List (VecD α)) (c kd : Int) (w : World) (h : GHeap) (hl : RowsAt 8 (VecAt R h) h s l) (hm : (l.map VecD.len).sum ≤ 1048576) (hc : c = 0 ∨ c = 1 ∨ c = 2)
    (hk1 : c = 0 → kd = 1 → ∀ v ∈ l, v.kind = 1 ∨ v.nums = []) (hk3 : c = 0 → kd ≠ 1 → kd < 4 → ∀ v ∈ l, v.kind = 1 ∨ v.kind = 2 ∨ v.kind = 3 ∨ v.nums = []) : Con Tryz.prog 125 [s, .int .i64 c, .int .i64 kd] w h (fun h' u => ∃ cs', u = .agg cs'.toArray ∧ VecAt R h' cs' (joinS c l)) := by
  obtain ⟨ads, cps, xs, rfl, hS, hA⟩ := hl
  have hcap : l.length ≤ 9223372036854775807 := by have := hS.caps; omega
  refine Con.of_body Tryz.func125 rfl Tryz.ntmps125 rfl rfl ?_
  intro hs
  refine Zrun ?_
  (refine RW.allocN T hs rfl rfl rfl rfl ?_; intro b1 w1 hs)
  have htdl : ∀ x ∈ l.flatMap (·.nums), tidyF x := by
    intro x hx
    obtain ⟨v, hv, hx⟩ := List.mem_flatMap.1 hx
    obtain ⟨j, hj, rfl⟩ := List.mem_iff_getElem.1 hv
    obtain ⟨y, _, _, hRy⟩ := hA.elem j hj
    exact hRy.tidy x hx
  unfold joinS
  by_cases c1 : c = 1
  · rw [if_pos c1]
    have hs := hs.nilRow 21 1
    refine Zerun ?_
    refine CW.loop (fun u : Nat × (Option Addr × Nat × Nat) × List Int × GHeap => [(1, .int .i64 c), (2, .int .i64 kd), (6, .pointer (some ⟨b1, 0, none⟩)), (7, .slice u.2.1.1 u.2.1.2.1 u.2.1.2.2), (22, .slice ads l.length cps), (23, .int .i64 l.length), (24, .int .i64 u.1)]) (fun u w' => u.1 ≤ l.length ∧ GLe h u.2.2.2 ∧ (u.2.2.1 = (l.take u.1).flatMap (·.chars)) ∧ u.2.1.2.1 = u.2.2.1.length ∧ Sees w h u.2.2.2 [⟨u.2.1.1, u.2.1.2.1, u.2.1.2.2, 21, 1, u.2.2.1.map (Value.int .i32)⟩, ⟨some ⟨b1, 0, none⟩, 1, 1, 37, 8, vecCells 0 (.slice none 0 0) 0 (.slice none 0 0) (.slice none 0 0) (.slice none 0 0) (.slice none 0 0) (.slice none 0 0)⟩] w') (fun u => l.length - u.1) (0, (none, 0, 0), [], h) ⟨rfl, rfl, rfl, rfl, rfl, rfl, rfl, trivial⟩ ⟨Nat.zero_le _, GLe.refl _, rfl, rfl, hs⟩ ?_
    rintro ⟨i, ⟨ad, n, cp⟩, X, hh⟩ w5 ⟨hi, hg, hX, hn, hs⟩
    dsimp only at hi hg hX hn hs ⊢
    have hS := hS.mono hg
    by_cases hlt : i < l.length
    · obtain ⟨y, hy, hyl, hRy⟩ := hA.elem i hlt
      have hRy := hRy.mono hR hg
      have hRy' := hRy
      have hmem := List.getElem_mem hlt
      have hel := len_le_sum hmem
      have htk := fun (γ : Type) (f : VecD α → List γ) => fm_take_succ f l i hlt
      generalize hve : l[i] = ve at *
      obtain ⟨wv, nv, sm, il, fl, ch, bx, ⟨rfl, hoc⟩, _⟩ := hRy
      refine Zerun ?_
      (refine RW.allocN T hs rfl rfl rfl rfl ?_; intro b6 w6 hs)
      (refine RW.storeAll T hs 0 rfl rfl rfl rfl rfl rfl hoc rfl ?_; intro w7 hs)
      refine Zerun ?_
      (refine RW.call T hs rfl rfl rfl (vecText_con _ ve _ _ hRy' (by omega)) ?_; intro v h8 w8 hle8 hp8 hs)
      obtain ⟨ad8, cp8, rfl, hS8⟩ := hp8
      have hgh := hg.trans hle8
      have hXn : X ++ ve.chars = (l.take (i + 1)).flatMap (·.chars) := by rw [hX, htk]
      have hlen := fm_len' (f := fun v : VecD α => v.chars) (fun v => by unfold VecD.len; omega) l (i + 1)
      have hve2 : X.length + ve.chars.length ≤ 1048576 := by rw [← List.length_append, hXn]; omega
      refine RW.append T hs 1 rfl rfl (m := ve.chars.length) (news := ve.chars.map (Value.int .i32)) rfl rfl rfl rfl rfl rfl (hS8.src hs.agree (one_ints _ _)) (fun e => by subst e; exact hS8.nil0.2) (by dsimp only; omega) (by omega) ?_
      intro ad9 cp9 w9 hs
      refine Zerun ?_
      refine loopQ_round (i + 1, (ad9, n + ve.chars.length, cp9), X ++ ve.chars, h8) ⟨rfl, rfl, rfl, rfl, rfl, rfl, rfl, trivial⟩ ⟨by dsimp only; omega, hgh, hXn, by simp; omega, ?_⟩ (by dsimp only; omega)
      dsimp only
      rw [List.map_append]
      exact hs.drop
    obtain rfl : i = l.length := by omega
    rw [List.take_length] at hX
    have hlen := fm_len (f := fun v : VecD α => v.chars) (fun v => by unfold VecD.len; omega) l
    rw [← hX] at hlen
    subst hn
    obtain ⟨hF, hleF, hs, hSF⟩ := hs.freeze
    have hTF : KAt .i32 hF (.slice ad X.length cp) X := RowAt.of_sl hSF
    refine Zerun ?_
    (refine RW.call T hs rfl rfl rfl (vecChars_con (R := R) _ X _ _ hTF (by omega)) ?_; intro v hF wF hleF hpF hs)
    obtain ⟨csF, rfl, hvF⟩ := hpF
    have hvF' := hvF
    obtain ⟨wvF, nvF, smF, ilF, flF, chF, bxF, ⟨rfl, hocF⟩, _⟩ := hvF'
    (refine RW.storeAll T hs 0 rfl rfl rfl rfl rfl rfl hocF rfl ?_; intro wG hs)
    refine Zerun ?_
    refine retQ_ret [_] hF ⟨resN T hs 0 rfl rfl rfl rfl rfl rfl, trivial⟩ hs.dropAll ⟨_, rfl, ?_⟩
    rw [← hX]
    exact hvF

  rw [if_neg c1]
  by_cases c2 : c = 2
  · rw [if_pos c2]
    have hs := hs.nilRow 39 9
    refine Zerun ?_
    refine CW.loop (fun u : Nat × (Option Addr × Nat × Nat) × List Value × GHeap => [(1, .int .i64 c), (2, .int .i64 kd), (6, .pointer (some ⟨b1, 0, none⟩)), (8, .slice u.2.1.1 u.2.1.2.1 u.2.1.2.2), (22, .slice ads l.length cps), (23, .int .i64 l.length), (24, .int .i64 u.1)]) (fun u w' => u.1 ≤ l.length ∧ GLe h u.2.2.2 ∧ (AllN 9 (R u.2.2.2) u.2.2.1 ((l.take u.1).flatMap (·.boxes))) ∧ u.2.1.2.1 = ((l.take u.1).flatMap (·.boxes)).length ∧ Sees w h u.2.2.2 [⟨u.2.1.1, u.2.1.2.1, u.2.1.2.2, 39, 9, u.2.2.1⟩, ⟨some ⟨b1, 0, none⟩, 1, 1, 37, 8, vecCells 0 (.slice none 0 0) 0 (.slice none 0 0) (.slice none 0 0) (.slice none 0 0) (.slice none 0 0) (.slice none 0 0)⟩] w') (fun u => l.length - u.1) (0, (none, 0, 0), [], h) ⟨rfl, rfl, rfl, rfl, rfl, rfl, rfl, trivial⟩ ⟨Nat.zero_le _, GLe.refl _, rfl, rfl, hs⟩ ?_
    rintro ⟨i, ⟨ad, n, cp⟩, X, hh⟩ w5 ⟨hi, hg, hX, hn, hs⟩
    dsimp only at hi hg hX hn hs ⊢
    have hS := hS.mono hg
    by_cases hlt : i < l.length
    · obtain ⟨y, hy, hyl, hRy⟩ := hA.elem i hlt
      have hRy := hRy.mono hR hg
      have hRy' := hRy
      have hmem := List.getElem_mem hlt
      have hel := len_le_sum hmem
      have htk := fun (γ : Type) (f : VecD α → List γ) => fm_take_succ f l i hlt
      generalize hve : l[i] = ve at *
      obtain ⟨wv, nv, sm, il, fl, ch, bx, ⟨rfl, hoc⟩, _⟩ := hRy
      refine Zerun ?_
      (refine RW.allocN T hs rfl rfl rfl rfl ?_; intro b6 w6 hs)
      (refine RW.storeAll T hs 0 rfl rfl rfl rfl rfl rfl hoc rfl ?_; intro w7 hs)
      refine Zerun ?_
      (refine RW.call T hs rfl rfl rfl (vecArrays_con hR h1 _ ve _ _ hRy' (by omega)) ?_; intro v h8 w8 hle8 hp8 hs)
      obtain ⟨ad8, cp8, xs8, rfl, hS8, hA8⟩ := hp8
      have hgh := hg.trans hle8
      have hXn : AllN 9 (R h8) (X ++ xs8) ((l.take (i + 1)).flatMap (·.boxes)) := by
        rw [htk]
        exact (hX.mono (fun u a => hR _ _ u a hle8)).append hA8
      have hlen := fm_len' (f := fun v : VecD α => v.boxes) (fun v => by unfold VecD.len; omega) l (i + 1)
      rw [htk, List.length_append] at hlen
      have hne : ((l.take (i + 1)).flatMap (·.boxes)).length = ((l.take i).flatMap (·.boxes)).length + ve.boxes.length := by rw [htk, List.length_append]
      refine RW.append T hs 1 rfl rfl (m := ve.boxes.length) (news := xs8) rfl rfl rfl rfl rfl rfl (hS8.src hs.agree (hA8.ones (h1 h8))) (fun e => by subst e; exact hS8.nil0.2) (by dsimp only; omega) (by omega) ?_
      intro ad9 cp9 w9 hs
      refine Zerun ?_
      refine loopQ_round (i + 1, (ad9, n + ve.boxes.length, cp9), X ++ xs8, h8) ⟨rfl, rfl, rfl, rfl, rfl, rfl, rfl, trivial⟩ ⟨by dsimp only; omega, hgh, hXn, by dsimp only; omega, ?_⟩ (by dsimp only; omega)
      dsimp only
      exact hs.drop
    obtain rfl : i = l.length := by omega
    rw [List.take_length] at hX
    have hlen := fm_len (f := fun v : VecD α => v.boxes) (fun v => by unfold VecD.len; omega) l
    rw [List.take_length] at hn
    subst hn
    obtain ⟨hF, hleF, hs, hSF⟩ := hs.freeze
    have hTF : RowsAt 9 (R hF) hF (.slice ad (l.flatMap (·.boxes)).length cp) (l.flatMap (·.boxes)) := ⟨_, _, X, rfl, hSF, hX.mono (fun u a => hR _ _ u a hleF)⟩
    refine Zerun ?_
    (refine RW.call T hs rfl rfl rfl (vecBoxes_con hR h1 _ _ _ _ hTF (by omega)) ?_; intro v hF wF hleF hpF hs)
    obtain ⟨csF, rfl, hvF⟩ := hpF
    have hvF' := hvF
    obtain ⟨wvF, nvF, smF, ilF, flF, chF, bxF, ⟨rfl, hocF⟩, _⟩ := hvF'
    (refine RW.storeAll T hs 0 rfl rfl rfl rfl rfl rfl hocF rfl ?_; intro wG hs)
    refine Zerun ?_
    exact retQ_ret [_] hF ⟨resN T hs 0 rfl rfl rfl rfl rfl rfl, trivial⟩ hs.dropAll ⟨_, rfl, hvF⟩

  rw [if_neg c2]
  have hc0 : c = 0 := by omega
  by_cases hkd : kd = 1
  · skip
    have hs := hs.nilRow 4 1
    refine Zerun ?_
    refine CW.loop (fun u : Nat × (Option Addr × Nat × Nat) × List Bool × GHeap => [(1, .int .i64 c), (2, .int .i64 kd), (6, .pointer (some ⟨b1, 0, none⟩)), (9, .slice u.2.1.1 u.2.1.2.1 u.2.1.2.2), (22, .slice ads l.length cps), (23, .int .i64 l.length), (24, .int .i64 u.1)]) (fun u w' => u.1 ≤ l.length ∧ GLe h u.2.2.2 ∧ (u.2.2.1.map bitF = (l.take u.1).flatMap (·.nums)) ∧ u.2.1.2.1 = u.2.2.1.length ∧ Sees w h u.2.2.2 [⟨u.2.1.1, u.2.1.2.1, u.2.1.2.2, 4, 1, u.2.2.1.map Value.bool⟩, ⟨some ⟨b1, 0, none⟩, 1, 1, 37, 8, vecCells 0 (.slice none 0 0) 0 (.slice none 0 0) (.slice none 0 0) (.slice none 0 0) (.slice none 0 0) (.slice none 0 0)⟩] w') (fun u => l.length - u.1) (0, (none, 0, 0), [], h) ⟨rfl, rfl, rfl, rfl, rfl, rfl, rfl, trivial⟩ ⟨Nat.zero_le _, GLe.refl _, rfl, rfl, hs⟩ ?_
    rintro ⟨i, ⟨ad, n, cp⟩, X, hh⟩ w5 ⟨hi, hg, hX, hn, hs⟩
    dsimp only at hi hg hX hn hs ⊢
    have hS := hS.mono hg
    by_cases hlt : i < l.length
    · obtain ⟨y, hy, hyl, hRy⟩ := hA.elem i hlt
      have hRy := hRy.mono hR hg
      have hRy' := hRy
      have hmem := List.getElem_mem hlt
      have hel := len_le_sum hmem
      have htk := fun (γ : Type) (f : VecD α → List γ) => fm_take_succ f l i hlt
      generalize hve : l[i] = ve at *
      obtain ⟨wv, nv, sm, il, fl, ch, bx, ⟨rfl, hoc⟩, _⟩ := hRy
      refine Zerun ?_
      (refine RW.allocN T hs rfl rfl rfl rfl ?_; intro b6 w6 hs)
      (refine RW.storeAll T hs 0 rfl rfl rfl rfl rfl rfl hoc rfl ?_; intro w7 hs)
      refine Zerun ?_
      (refine RW.call T hs rfl rfl rfl (vecPacked_con _ ve _ _ hRy') ?_; intro v h8 w8 hle8 hp8 hs)
      obtain ⟨wv8, bs, rfl, hb8, hb81, hb80⟩ := hp8
      have hb8' := hb8
      obtain ⟨_, ws8, ⟨adw, cpw, rfl, _⟩, _⟩ := hb8'
      have hnb : bs.map bitF = ve.nums := by
        by_cases k1 : ve.kind = 1
        · rw [hb81 k1]
        · rw [hb80 k1]; rcases hk1 hc0 hkd ve hmem with e | e
          · exact absurd e k1
          · rw [e]; rfl
      refine Zerun ?_
      (refine RW.allocN T hs rfl rfl rfl rfl ?_; intro b9 w9 hs)
      (refine RW.storeAll T hs 0 rfl rfl rfl rfl rfl rfl rfl rfl ?_; intro w10 hs)
      refine Zerun ?_
      (refine RW.call T hs rfl rfl rfl (bitsUnpack_con _ bs _ _ hb8) ?_; intro v h11 w11 hle11 hp11 hs)
      obtain ⟨ad8, cp8, rfl, hS8⟩ := hp11
      have hgh := hg.trans (hle8.trans hle11)
      have hXn : (X ++ bs).map bitF = (l.take (i + 1)).flatMap (·.nums) := by rw [List.map_append, hX, hnb, htk]
      have hlen := fm_len' (f := fun v : VecD α => v.nums) (fun v => by unfold VecD.len; omega) l (i + 1)
      rw [← hXn, List.length_map, List.length_append] at hlen
      refine RW.append T hs 2 rfl rfl (m := bs.length) (news := bs.map Value.bool) rfl rfl rfl rfl rfl rfl (hS8.src hs.agree (by intro u hu; obtain ⟨x, _, rfl⟩ := List.mem_map.1 hu; rfl)) (fun e => by subst e; exact hS8.nil0.2) (by dsimp only; omega) (by omega) ?_
      intro ad9 cp9 w9 hs
      refine Zerun ?_
      refine loopQ_round (i + 1, (ad9, n + bs.length, cp9), X ++ bs, h11) ⟨rfl, rfl, rfl, rfl, rfl, rfl, rfl, trivial⟩ ⟨by dsimp only; omega, hgh, hXn, by simp; omega, ?_⟩ (by dsimp only; omega)
      dsimp only
      rw [List.map_append]
      exact hs.drop.drop
    obtain rfl : i = l.length := by omega
    rw [List.take_length] at hX
    have hlen := fm_len (f := fun v : VecD α => v.nums) (fun v => by unfold VecD.len; omega) l
    rw [← hX, List.length_map] at hlen
    subst hn
    obtain ⟨hF, hleF, hs, hSF⟩ := hs.freeze
    have hTF : TAt hF (.slice ad X.length cp) X := RowAt.of_sl hSF
    refine Zerun ?_
    (refine RW.call T hs rfl rfl rfl (bitsPack_con _ X _ _ hTF (by omega)) ?_; intro v hP wP hleP hpP hs)
    obtain ⟨wvP, rfl, hbP⟩ := hpP
    (refine RW.call T hs rfl rfl rfl (vecBits_con (R := R) wvP _ _ _ hbP) ?_; intro v hF wF hleF hpF hs)
    obtain ⟨csF, rfl, hvF⟩ := hpF
    have hvr : (⟨1, X.map bitF, [], []⟩ : VecD α) = ⟨leastN (l.flatMap (·.nums)), l.flatMap (·.nums), [], []⟩ := by rw [← hX, leastN_bits]
    rw [hvr] at hvF
    have hvF' := hvF
    obtain ⟨wvF, nvF, smF, ilF, flF, chF, bxF, ⟨rfl, hocF⟩, _⟩ := hvF'
    (refine RW.storeAll T hs 0 rfl rfl rfl rfl rfl rfl hocF rfl ?_; intro wG hs)
    refine Zerun ?_
    exact retQ_ret [_] hF ⟨resN T hs 0 rfl rfl rfl rfl rfl rfl, trivial⟩ hs.dropAll ⟨_, rfl, hvF⟩

  have hkd1 := hkd
  by_cases hkd3 : kd < 4
  · skip
    have hs := hs.nilRow 2 1
    refine Zerun ?_
    refine CW.loop (fun u : Nat × (Option Addr × Nat × Nat) × List Int × GHeap => [(1, .int .i64 c), (2, .int .i64 kd), (6, .pointer (some ⟨b1, 0, none⟩)), (10, .slice u.2.1.1 u.2.1.2.1 u.2.1.2.2), (22, .slice ads l.length cps), (23, .int .i64 l.length), (24, .int .i64 u.1)]) (fun u w' => u.1 ≤ l.length ∧ GLe h u.2.2.2 ∧ (u.2.2.1.map fwF = (l.take u.1).flatMap (·.nums) ∧ ∀ z ∈ u.2.2.1, -9007199254740992 ≤ z ∧ z ≤ 9007199254740992) ∧ u.2.1.2.1 = u.2.2.1.length ∧ Sees w h u.2.2.2 [⟨u.2.1.1, u.2.1.2.1, u.2.1.2.2, 2, 1, u.2.2.1.map (Value.int .i64)⟩, ⟨some ⟨b1, 0, none⟩, 1, 1, 37, 8, vecCells 0 (.slice none 0 0) 0 (.slice none 0 0) (.slice none 0 0) (.slice none 0 0) (.slice none 0 0) (.slice none 0 0)⟩] w') (fun u => l.length - u.1) (0, (none, 0, 0), [], h) ⟨rfl, rfl, rfl, rfl, rfl, rfl, rfl, trivial⟩ ⟨Nat.zero_le _, GLe.refl _, ⟨rfl, fun u hu => (by cases hu)⟩, rfl, hs⟩ ?_
    rintro ⟨i, ⟨ad, n, cp⟩, X, hh⟩ w5 ⟨hi, hg, hX, hn, hs⟩
    dsimp only at hi hg hX hn hs ⊢
    have hS := hS.mono hg
    by_cases hlt : i < l.length
    · obtain ⟨y, hy, hyl, hRy⟩ := hA.elem i hlt
      have hRy := hRy.mono hR hg
      have hRy' := hRy
      have hmem := List.getElem_mem hlt
      have hel := len_le_sum hmem
      have htk := fun (γ : Type) (f : VecD α → List γ) => fm_take_succ f l i hlt
      generalize hve : l[i] = ve at *
      obtain ⟨wv, nv, sm, il, fl, ch, bx, ⟨rfl, hoc⟩, _⟩ := hRy
      refine Zerun ?_
      (refine RW.allocN T hs rfl rfl rfl rfl ?_; intro b6 w6 hs)
      (refine RW.storeAll T hs 0 rfl rfl rfl rfl rfl rfl hoc rfl ?_; intro w7 hs)
      refine Zerun ?_
      have hwk := hRy'.wholes
      have htdv := hRy'.tidy
      (refine RW.call T hs rfl rfl rfl (vecWholes_con hR _ ve _ _ hRy' (by omega)) ?_; intro v h8 w8 hle8 hp8 hs)
      obtain ⟨s8, rfl, hK8⟩ := hp8
      have hY : ((if ve.kind = 1 ∨ ve.kind = 2 ∨ ve.kind = 3 then ve.nums.map (fun x => (wholeF x).1) else []).map fwF = ve.nums) ∧ ∀ u ∈ (if ve.kind = 1 ∨ ve.kind = 2 ∨ ve.kind = 3 then ve.nums.map (fun x => (wholeF x).1) else []), -9007199254740992 ≤ u ∧ u ≤ 9007199254740992 := by
        split
        · rename_i hk
          constructor
          · rw [List.map_map]
            conv => rhs; rw [← List.map_id ve.nums]
            apply List.map_congr_left
            intro x hx
            exact (fw_whole _ _ (htdv x hx) (by rw [← hwk hk x hx])).symm
          · intro u hu
            obtain ⟨x, _, rfl⟩ := List.mem_map.1 hu
            exact wholeF_bounds x
        · rename_i hk
          refine ⟨?_, fun u hu => by cases hu⟩
          rcases hk3 hc0 hkd1 hkd3 ve hmem with e | e | e | e
          · exact absurd (.inl e) hk
          · exact absurd (.inr (.inl e)) hk
          · exact absurd (.inr (.inr e)) hk
          · rw [e]; rfl
      generalize (if ve.kind = 1 ∨ ve.kind = 2 ∨ ve.kind = 3 then ve.nums.map (fun x => (wholeF x).1) else []) = Ys at hK8 hY
      obtain ⟨hYf, hYb⟩ := hY
      obtain ⟨ad8, cp8, rfl, hS8⟩ := hK8
      refine Zerun ?_
      have hgh := hg.trans hle8
      have hXn : (X ++ Ys).map fwF = (l.take (i + 1)).flatMap (·.nums) ∧ ∀ u ∈ X ++ Ys, -9007199254740992 ≤ u ∧ u ≤ 9007199254740992 := by
        refine ⟨by rw [List.map_append, hX.1, hYf, htk], fun u hu => ?_⟩
        rcases List.mem_append.1 hu with hu | hu
        · exact hX.2 u hu
        · exact hYb u hu
      have hlen := fm_len' (f := fun v : VecD α => v.nums) (fun v => by unfold VecD.len; omega) l (i + 1)
      rw [← hXn.1, List.length_map, List.length_append] at hlen
      refine RW.append T hs 1 rfl rfl (m := Ys.length) (news := Ys.map (Value.int .i64)) rfl rfl rfl rfl rfl rfl (hS8.src hs.agree (one_ints _ _)) (fun e => by subst e; exact hS8.nil0.2) (by dsimp only; omega) (by omega) ?_
      intro ad9 cp9 w9 hs
      refine Zerun ?_
      refine loopQ_round (i + 1, (ad9, n + Ys.length, cp9), X ++ Ys, h8) ⟨rfl, rfl, rfl, rfl, rfl, rfl, rfl, trivial⟩ ⟨by dsimp only; omega, hgh, hXn, by simp; omega, ?_⟩ (by dsimp only; omega)
      dsimp only
      rw [List.map_append]
      exact hs.drop
    obtain rfl : i = l.length := by omega
    rw [List.take_length] at hX
    have hlen := fm_len (f := fun v : VecD α => v.nums) (fun v => by unfold VecD.len; omega) l
    rw [← hX.1, List.length_map] at hlen
    subst hn
    obtain ⟨hF, hleF, hs, hSF⟩ := hs.freeze
    have hTF : KAt .i64 hF (.slice ad X.length cp) X := RowAt.of_sl hSF
    refine Zerun ?_
    (refine RW.call T hs rfl rfl rfl (vecInts_con (R := R) _ X _ _ hTF (by omega)) ?_; intro v hP wP hleP hpP hs)
    obtain ⟨csP, ok, rfl, hok, hvP⟩ := hpP
    obtain rfl : ok = true := by rw [hok]; exact decide_eq_true hX.2
    rw [if_pos rfl] at hvP
    have hvP' := hvP
    obtain ⟨wvP, nvP, smP, ilP, flP, chP, bxP, ⟨rfl, hocP⟩, _⟩ := hvP
    refine Zerun ?_
    (refine RW.allocN T hs rfl rfl rfl rfl ?_; intro bQ wQ hs)
    (refine RW.storeAll T hs 0 rfl rfl rfl rfl rfl rfl hocP rfl ?_; intro wS hs)
    refine Zerun ?_
    (refine RW.call T hs rfl rfl rfl (sqSqueeze_con hR _ _ _ _ hvP' (by simp [VecD.len]; omega)) ?_; intro v hF wF hleF hpF hs)
    obtain ⟨csF, rfl, hvF⟩ := hpF
    rw [sq_nums3, hX.1] at hvF
    have hvF' := hvF
    obtain ⟨wvF, nvF, smF, ilF, flF, chF, bxF, ⟨rfl, hocF⟩, _⟩ := hvF'
    (refine RW.storeAll T hs 1 rfl rfl rfl rfl rfl rfl hocF rfl ?_; intro wG hs)
    refine Zerun ?_
    exact retQ_ret [_] hF ⟨resN T hs 1 rfl rfl rfl rfl rfl rfl, trivial⟩ hs.dropAll ⟨_, rfl, hvF⟩

  · skip
    have hs := hs.nilRow 46 1
    refine Zerun ?_
    refine CW.loop (fun u : Nat × (Option Addr × Nat × Nat) × List Nat × GHeap => [(1, .int .i64 c), (2, .int .i64 kd), (6, .pointer (some ⟨b1, 0, none⟩)), (11, .slice u.2.1.1 u.2.1.2.1 u.2.1.2.2), (22, .slice ads l.length cps), (23, .int .i64 l.length), (24, .int .i64 u.1)]) (fun u w' => u.1 ≤ l.length ∧ GLe h u.2.2.2 ∧ (u.2.2.1 = (l.take u.1).flatMap (·.nums)) ∧ u.2.1.2.1 = u.2.2.1.length ∧ Sees w h u.2.2.2 [⟨u.2.1.1, u.2.1.2.1, u.2.1.2.2, 46, 1, u.2.2.1.map (Value.float .f64)⟩, ⟨some ⟨b1, 0, none⟩, 1, 1, 37, 8, vecCells 0 (.slice none 0 0) 0 (.slice none 0 0) (.slice none 0 0) (.slice none 0 0) (.slice none 0 0) (.slice none 0 0)⟩] w') (fun u => l.length - u.1) (0, (none, 0, 0), [], h) ⟨rfl, rfl, rfl, rfl, rfl, rfl, rfl, trivial⟩ ⟨Nat.zero_le _, GLe.refl _, rfl, rfl, hs⟩ ?_
    rintro ⟨i, ⟨ad, n, cp⟩, X, hh⟩ w5 ⟨hi, hg, hX, hn, hs⟩
    dsimp only at hi hg hX hn hs ⊢
    have hS := hS.mono hg
    by_cases hlt : i < l.length
    · obtain ⟨y, hy, hyl, hRy⟩ := hA.elem i hlt
      have hRy := hRy.mono hR hg
      have hRy' := hRy
      have hmem := List.getElem_mem hlt
      have hel := len_le_sum hmem
      have htk := fun (γ : Type) (f : VecD α → List γ) => fm_take_succ f l i hlt
      generalize hve : l[i] = ve at *
      obtain ⟨wv, nv, sm, il, fl, ch, bx, ⟨rfl, hoc⟩, _⟩ := hRy
      refine Zerun ?_
      (refine RW.allocN T hs rfl rfl rfl rfl ?_; intro b6 w6 hs)
      (refine RW.storeAll T hs 0 rfl rfl rfl rfl rfl rfl hoc rfl ?_; intro w7 hs)
      refine Zerun ?_
      (refine RW.call T hs rfl rfl rfl (vecNums_con hR _ ve _ _ hRy' (by omega)) ?_; intro v h8 w8 hle8 hp8 hs)
      obtain ⟨ad8, cp8, rfl, hS8⟩ := hp8
      have hgh := hg.trans hle8
      have hXn : X ++ ve.nums = (l.take (i + 1)).flatMap (·.nums) := by rw [hX, htk]
      have hlen := fm_len' (f := fun v : VecD α => v.nums) (fun v => by unfold VecD.len; omega) l (i + 1)
      rw [← hXn, List.length_append] at hlen
      refine RW.append T hs 1 rfl rfl (m := ve.nums.length) (news := ve.nums.map (Value.float .f64)) rfl rfl rfl rfl rfl rfl (hS8.src hs.agree (by intro u hu; obtain ⟨x, _, rfl⟩ := List.mem_map.1 hu; rfl)) (fun e => by subst e; exact hS8.nil0.2) (by dsimp only; omega) (by omega) ?_
      intro ad9 cp9 w9 hs
      refine Zerun ?_
      refine loopQ_round (i + 1, (ad9, n + ve.nums.length, cp9), X ++ ve.nums, h8) ⟨rfl, rfl, rfl, rfl, rfl, rfl, rfl, trivial⟩ ⟨by dsimp only; omega, hgh, hXn, by simp; omega, ?_⟩ (by dsimp only; omega)
      dsimp only
      rw [List.map_append]
      exact hs.drop
    obtain rfl : i = l.length := by omega
    rw [List.take_length] at hX
    have hlen := fm_len (f := fun v : VecD α => v.nums) (fun v => by unfold VecD.len; omega) l
    rw [← hX] at hlen htdl ⊢
    subst hn
    obtain ⟨hF, hleF, hs, hSF⟩ := hs.freeze
    have hTF : FAt hF (.slice ad X.length cp) X := RowAt.of_sl hSF
    refine Zerun ?_
    (refine RW.call T hs rfl rfl rfl (sqNumbers_con (R := R) hR _ X _ _ hTF (fun u hu => (htdl u hu).1) (by omega)) ?_; intro v hF wF hleF hpF hs)
    obtain ⟨csF, ok, rfl, hok, hvF⟩ := hpF
    obtain rfl : ok = true := by rw [hok]; exact decide_eq_true (fun u hu => (htdl u hu).2.1)
    have htw : X.map tidyW = X := by
      conv => rhs; rw [← List.map_id X]
      apply List.map_congr_left
      intro x hx
      unfold tidyW
      rw [tidySpec_of x (htdl x hx)]
      rfl
    rw [if_pos rfl, htw] at hvF
    have hvF' := hvF
    obtain ⟨wvF, nvF, smF, ilF, flF, chF, bxF, ⟨rfl, hocF⟩, _⟩ := hvF'
    refine Zerun ?_
    (refine RW.allocN T hs rfl rfl rfl rfl ?_; intro bP wP hs)
    (refine RW.storeAll T hs 0 rfl rfl rfl rfl rfl rfl hocF rfl ?_; intro wQ hs)
    refine Zerun ?_
    (refine RW.storeAll T hs 1 rfl rfl rfl rfl rfl rfl hocF rfl ?_; intro wG hs)
    refine Zerun ?_
    exact retQ_ret [_] hF ⟨resN T hs 1 rfl rfl rfl rfl rfl rfl, trivial⟩ hs.dropAll ⟨_, rfl, hvF⟩

end
end Go.Proofs.YtmojpbfkpggjhaaGreat

/-
  Contracts of functions of package flat: lists behind each other. No statement is proved here.
-/
namespace Go.Proofs.YtmojpbfkpggjhaaGreat
open Go Go.RowKit
set_option linter.unusedVariables false
set_option linter.unusedSimpArgs false
set_option maxHeartbeats 4000000
attribute [local irreducible] CW RW QW SW HW ConM retM heldQ calmQ elemP thenQ blockQ loopQ joinQ retQ Yields Con Sl zF magR unitF truncF fwF wholeF tidySpec elemQ rankF leastN tidyW
set_option maxHeartbeats 4000000

section
variable {α : Type} {R : GHeap → List Value → α → Prop}
/-- the class of lists behind each other, those without elements apart; none: of unlike ones -/
def joinC (c : Int) : List (VecD α) → Option Int
  | [] => some c
  | v :: l => if v.len = 0 then joinC c l else if 0 ≤ c ∧ c ≠ v.cls then none else joinC v.cls l
def headC : List (VecD α) → Int
  | [] => 0
  | v :: _ => v.cls
structure JF (c kd : Int) (m : List (VecD α)) : Prop where
  rng : c = -1 ∨ c = 0 ∨ c = 1 ∨ c = 2
  kd1 : 1 ≤ kd ∧ kd ≤ 6
  all : ∀ v ∈ m, v.len ≠ 0 → v.cls = c ∧ v.kind ≤ kd
theorem cls_rng (v : VecD α) : v.cls = 0 ∨ v.cls = 1 ∨ v.cls = 2 := by unfold VecD.cls; split <;> (try split) <;> omega
theorem joinC_skip {c : Int} {v : VecD α} {l : List (VecD α)} (h0 : v.len = 0) : joinC c (v :: l) = joinC c l := by rw [joinC, if_pos h0]
theorem joinC_bad {c : Int} {v : VecD α} {l : List (VecD α)} (h0 : ¬ v.len = 0) (hc : 0 ≤ c) (hv : ¬ c = v.cls) : joinC c (v :: l) = none := by rw [joinC, if_neg h0, if_pos ⟨hc, hv⟩]
theorem joinC_step {c : Int} {v : VecD α} {l : List (VecD α)} (h0 : ¬ v.len = 0) (hc : ¬ (0 ≤ c ∧ c ≠ v.cls)) : joinC c (v :: l) = joinC v.cls l := by rw [joinC, if_neg h0, if_neg hc]
theorem JF.skip {c kd : Int} {m : List (VecD α)} {v : VecD α} (hF : JF c kd m) (h0 : v.len = 0) : JF c kd (m ++ [v]) := by
  refine ⟨hF.rng, hF.kd1, fun u hu hn => ?_⟩
  rcases List.mem_append.1 hu with hu | hu
  · exact hF.all u hu hn
  · rw [List.mem_singleton.1 hu] at hn; exact absurd h0 hn
theorem JF.step {c kd : Int} {m : List (VecD α)} {v : VecD α} (hF : JF c kd m) (_h0 : ¬ v.len = 0) (hc : c = v.cls ∨ ∀ u ∈ m, u.len = 0) (hcl : v.cls = 0 ∨ v.cls = 1 ∨ v.cls = 2) (hkr : 0 ≤ v.kind ∧ v.kind ≤ 6) : JF v.cls (max kd v.kind) (m ++ [v]) := by
  refine ⟨by omega, by have := hF.kd1; omega, fun u hu hn => ?_⟩
  rcases List.mem_append.1 hu with hu | hu
  · rcases hc with e | e
    · have := hF.all u hu hn; exact ⟨by omega, by omega⟩
    · exact absurd (e u hu) hn
  · rw [List.mem_singleton.1 hu]; exact ⟨rfl, by omega⟩
theorem VecAt.kind_rng {h : GHeap} {cs : List Value} {v : VecD α} (hv : VecAt R h cs v) : 0 ≤ v.kind ∧ v.kind ≤ 6 := by
  obtain ⟨_, _, _, _, _, _, _, _, hk⟩ := hv
  rcases hk with ⟨e, _⟩ | ⟨e, _⟩ | ⟨e, _⟩ | ⟨e, _⟩ | ⟨e, _⟩ | ⟨e, _⟩ | ⟨e, _⟩ <;> omega
theorem VecAt.kind0 {h : GHeap} {cs : List Value} {v : VecD α} (hv : VecAt R h cs v) (k : v.kind = 0) : v.len = 0 := by
  obtain ⟨_, _, _, _, _, _, _, _, hk⟩ := hv
  rcases hk with ⟨_, e⟩ | ⟨e, _⟩ | ⟨e, _⟩ | ⟨e, _⟩ | ⟨e, _⟩ | ⟨e, _⟩ | ⟨e, _⟩ <;> first | omega | (rw [e]; rfl)
theorem flatJoin_con (hR : Mono R) (h1 : One R) (s : Value) (l : List (VecD α)) (w : World) (h : GHeap) (hl : RowsAt 8 (VecAt R h) h s l) (hm : (l.map VecD.len).sum ≤ 1048576) : Con Tryz.prog 68 [s] w h (fun h' u => ∃ cs' ok, u = .tuple #[.agg cs'.toArray, .bool ok] ∧ (joinC (-1) l = none → ok = false ∧ VecAt R h' cs' VecD.none) ∧ ∀ c, joinC (-1) l = some c → ok = true ∧ VecAt R h' cs' (if c < 0 then noneV (headC l) else joinS c l)) := by
  obtain ⟨ads, cps, xs, rfl, hS, hA⟩ := hl
  have hcap : l.length ≤ 9223372036854775807 := by have := hS.caps; omega
  refine Con.of_body Tryz.func68 rfl Tryz.ntmps68 rfl rfl ?_
  intro hs
  refine Zrun ?_
  (refine RW.allocN T hs rfl rfl rfl rfl ?_; intro b1 w1 hs)
  refine Zerun ?_
  refine CW.loop (fun u : Nat × Int × Int × Nat × GHeap => [(0, .slice ads l.length cps), (2, .pointer (some ⟨b1, 0, none⟩)), (4, .int .i64 u.2.1), (5, .int .i64 u.2.2.1), (6, .int .i64 u.2.2.2.1), (9, .slice ads l.length cps), (10, .int .i64 l.length), (11, .int .i64 u.1)]) (fun u w' => u.1 ≤ l.length ∧ GLe h u.2.2.2.2 ∧ joinC (-1) l = joinC u.2.1 (l.drop u.1) ∧ u.2.2.2.1 = ((l.take u.1).map VecD.len).sum ∧ JF u.2.1 u.2.2.1 (l.take u.1) ∧ Sees w h u.2.2.2.2 [⟨some ⟨b1, 0, none⟩, 1, 1, 37, 8, vecCells 0 (.slice none 0 0) 0 (.slice none 0 0) (.slice none 0 0) (.slice none 0 0) (.slice none 0 0) (.slice none 0 0)⟩] w') (fun u => l.length - u.1) (0, -1, 1, 0, h) ⟨rfl, rfl, rfl, rfl, rfl, rfl, rfl, rfl, trivial⟩ ⟨Nat.zero_le _, GLe.refl _, rfl, rfl, ⟨.inl rfl, by dsimp only; omega, fun v hv => by cases hv⟩, hs⟩ ?_
  rintro ⟨i, c, kd, n, hh⟩ w5 ⟨hi, hg, hJ, hn, hF, hs⟩
  dsimp only at hi hg hJ hn hF hs ⊢
  have hS0 := hS
  have hS := hS.mono hg
  have hrng := hF.rng
  have hkd1 := hF.kd1
  by_cases hlt : i < l.length
  · obtain ⟨y, hy, hyl, hRy⟩ := hA.elem i hlt
    have hRy := hRy.mono hR hg
    have hRy' := hRy
    have hkr := hRy.kind_rng
    have hcl := cls_rng l[i]
    have hd := List.drop_eq_getElem_cons hlt
    have htk : l.take (i + 1) = l.take i ++ [l[i]] := by rw [List.take_add_one, List.getElem?_eq_getElem hlt, Option.toList_some]
    have hsum : ((l.take (i + 1)).map VecD.len).sum = ((l.take i).map VecD.len).sum + l[i].len := by rw [htk, List.map_append, List.sum_append, List.map_cons, List.map_nil, List.sum_cons, List.sum_nil, Nat.add_zero]
    have hsl := sum_take_le l (i + 1)
    rw [hd] at hJ
    rw [hsum] at hsl
    rw [← hn] at hsl
    have hFs : l[i].len = 0 → JF c kd (l.take (i + 1)) := fun h0 => by rw [htk]; exact hF.skip h0
    generalize hve : l[i] = ve at *
    obtain ⟨wv, nv, sm, il, fl, ch, bx, ⟨rfl, hoc⟩, _⟩ := hRy
    refine Zerun ?_
    (refine RW.allocN T hs rfl rfl rfl rfl ?_; intro b6 w6 hs)
    (refine RW.storeAll T hs 0 rfl rfl rfl rfl rfl rfl hoc rfl ?_; intro w7 hs)
    refine Zerun ?_
    (refine RW.call T hs rfl rfl rfl (vecLen_con _ ve _ _ hRy') ?_; intro v h8 w8 hle8 hp8 hs)
    subst hp8
    have hRy' := hRy'.mono hR hle8
    by_cases h0 : ve.len = 0
    · refine Zerun ?_
      refine loopQ_round (i + 1, c, kd, n, h8) ⟨rfl, rfl, rfl, rfl, rfl, rfl, rfl, rfl, trivial⟩ ⟨by dsimp only; omega, hg.trans hle8, hJ.trans (joinC_skip h0), by dsimp only; rw [hsum, hn, h0, Nat.add_zero], hFs h0, ?_⟩ (by dsimp only; omega)
      exact hs.drop
    by_cases hc0 : 0 ≤ c
    · refine Zerun ?_
      (refine RW.call T hs rfl rfl rfl (vecClass_con _ ve _ _ hRy') ?_; intro v h12 w12 hle12 hp12 hs)
      subst hp12
      have hRy' := hRy'.mono hR hle12
      by_cases hcc : c = ve.cls
      · skip
        refine Zerun ?_
        (refine RW.call T hs rfl rfl rfl (vecClass_con _ ve _ _ hRy') ?_; intro v h9 w9 hle9 hp9 hs)
        subst hp9
        have hRy' := hRy'.mono hR hle9
        refine Zerun ?_
        (refine RW.call T hs rfl rfl rfl (vecKind_con _ ve _ _ hRy') ?_; intro v h10 w10 hle10 hp10 hs)
        subst hp10
        have hRy' := hRy'.mono hR hle10
        refine Zerun ?_
        (refine RW.call T hs rfl rfl rfl (vecLen_con _ ve _ _ hRy') ?_; intro v h11 w11 hle11 hp11 hs)
        subst hp11
        refine Zerun ?_
        refine loopQ_round (i + 1, ve.cls, max kd ve.kind, n + ve.len, h11) ⟨rfl, rfl, rfl, rfl, rfl, rfl, rfl, rfl, trivial⟩ ⟨by dsimp only; omega, ((((hg.trans hle8).trans hle12).trans hle9).trans hle10).trans hle11, hJ.trans (joinC_step h0 (fun e => e.2 hcc)), by dsimp only; rw [hsum, hn], by dsimp only; rw [htk]; exact hF.step h0 (.inl hcc) hcl hkr, ?_⟩ (by dsimp only; omega)
        exact hs.drop
      · refine Zerun ?_
        refine RW.val (Y.build T rfl rfl rfl rfl rfl rfl rfl) rfl ?_
        (refine RW.storeAll T hs 1 rfl rfl rfl rfl rfl rfl rfl rfl ?_; intro w13 hs)
        refine Zerun ?_
        exact retQ_ret [_, _] h12 ⟨resN T hs 1 rfl rfl rfl rfl rfl rfl, rfl, trivial⟩ hs.dropAll ⟨_, false, rfl, fun _ => ⟨rfl, vecNone h12⟩, fun c' e => by rw [hJ, joinC_bad h0 hc0 hcc] at e; cases e⟩
    · skip
      refine Zerun ?_
      (refine RW.call T hs rfl rfl rfl (vecClass_con _ ve _ _ hRy') ?_; intro v h9 w9 hle9 hp9 hs)
      subst hp9
      have hRy' := hRy'.mono hR hle9
      refine Zerun ?_
      (refine RW.call T hs rfl rfl rfl (vecKind_con _ ve _ _ hRy') ?_; intro v h10 w10 hle10 hp10 hs)
      subst hp10
      have hRy' := hRy'.mono hR hle10
      refine Zerun ?_
      (refine RW.call T hs rfl rfl rfl (vecLen_con _ ve _ _ hRy') ?_; intro v h11 w11 hle11 hp11 hs)
      subst hp11
      refine Zerun ?_
      refine loopQ_round (i + 1, ve.cls, max kd ve.kind, n + ve.len, h11) ⟨rfl, rfl, rfl, rfl, rfl, rfl, rfl, rfl, trivial⟩ ⟨by dsimp only; omega, (((hg.trans hle8).trans hle9).trans hle10).trans hle11, hJ.trans (joinC_step h0 (fun e => hc0 e.1)), by dsimp only; rw [hsum, hn], by dsimp only; rw [htk]; exact hF.step h0 (.inr (fun u hu => by have := hF.all u hu; have hcu := cls_rng u; by_cases e : u.len = 0; exact e; have := this e; omega)) hcl hkr, ?_⟩ (by dsimp only; omega)
      exact hs.drop
  · obtain rfl : i = l.length := by omega
    rw [List.take_length] at hF hn
    rw [List.drop_length] at hJ
    have hJ : joinC (-1) l = some c := hJ
    have hres : ∀ (csr : List Value) (h' : GHeap), VecAt R h' csr (if c < 0 then noneV (headC l) else joinS c l) → ∃ cs' ok, Value.tuple #[.agg csr.toArray, .bool true] = .tuple #[.agg cs'.toArray, .bool ok] ∧ (joinC (-1) l = none → ok = false ∧ VecAt R h' cs' VecD.none) ∧ ∀ c, joinC (-1) l = some c → ok = true ∧ VecAt R h' cs' (if c < 0 then noneV (headC l) else joinS c l) := by
      intro csr h' hv
      refine ⟨csr, true, rfl, (fun e => by rw [hJ] at e; cases e), fun c' e => ?_⟩
      rw [hJ] at e
      cases e
      exact ⟨rfl, hv⟩
    by_cases hcn : c < 0
    · rw [if_pos hcn] at hres
      by_cases hl0 : 0 < l.length
      · obtain ⟨y, hy, hyl, hRy⟩ := hA.elem 0 hl0
        have hRy := hRy.mono hR hg
        have hRy' := hRy
        have hhd : headC l = l[0].cls := by cases l with | nil => cases hl0 | cons a l => rfl
        generalize hve : l[0] = ve at *
        obtain ⟨wv, nv, sm, il, fl, ch, bx, ⟨rfl, hoc⟩, _⟩ := hRy
        refine Zerun ?_
        (refine RW.call T hs rfl rfl rfl (vecClass_con _ ve _ _ hRy') ?_; intro v h8 w8 hle8 hp8 hs)
        subst hp8
        (refine RW.call T hs rfl rfl rfl (vecNone_con hR h1 ve.cls _ _) ?_; intro v h9 w9 hle9 hp9 hs)
        obtain ⟨cs9, rfl, hv9⟩ := hp9
        have hv9' := hv9
        obtain ⟨wv', nv', sm', il', fl', ch', bx', ⟨rfl, hoc'⟩, _⟩ := hv9'
        (refine RW.storeAll T hs 0 rfl rfl rfl rfl rfl rfl hoc' rfl ?_; intro w10 hs)
        refine Zerun ?_
        exact retQ_ret [_, _] h9 ⟨resN T hs 0 rfl rfl rfl rfl rfl rfl, rfl, trivial⟩ hs.dropAll (hres _ _ (by rw [hhd]; exact hv9))
      · have hhd : headC l = 0 := by cases l with | nil => rfl | cons a l => exact absurd (Nat.succ_pos _) hl0
        refine Zerun ?_
        (refine RW.call T hs rfl rfl rfl (vecNone_con hR h1 0 _ _) ?_; intro v h9 w9 hle9 hp9 hs)
        obtain ⟨cs9, rfl, hv9⟩ := hp9
        have hv9' := hv9
        obtain ⟨wv', nv', sm', il', fl', ch', bx', ⟨rfl, hoc'⟩, _⟩ := hv9'
        (refine RW.storeAll T hs 0 rfl rfl rfl rfl rfl rfl hoc' rfl ?_; intro w10 hs)
        refine Zerun ?_
        exact retQ_ret [_, _] h9 ⟨resN T hs 0 rfl rfl rfl rfl rfl rfl, rfl, trivial⟩ hs.dropAll (hres _ _ (by rw [hhd]; exact hv9))
    · rw [if_neg hcn] at hres
      rw [← hn] at hm
      have hz : ∀ v ∈ l, v.nums = [] ∨ (v.kind ≠ 0 ∧ v.cls = c ∧ v.kind ≤ kd ∧ 0 ≤ v.kind) := by
        intro v hv
        by_cases h0 : v.len = 0
        · left
          unfold VecD.len at h0
          exact List.eq_nil_of_length_eq_zero (by omega)
        · right
          obtain ⟨j, hj, rfl⟩ := List.mem_iff_getElem.1 hv
          obtain ⟨y, _, _, hRy⟩ := hA.elem j hj
          have := hF.all _ hv h0
          exact ⟨fun k0 => h0 (hRy.kind0 k0), this.1, this.2, hRy.kind_rng.1⟩
      have hk1 : c = 0 → kd = 1 → ∀ v ∈ l, v.kind = 1 ∨ v.nums = [] := by
        intro _ e v hv
        rcases hz v hv with e2 | ⟨e2, _, e3, e4⟩
        · exact .inr e2
        · left; omega
      have hk3 : c = 0 → kd ≠ 1 → kd < 4 → ∀ v ∈ l, v.kind = 1 ∨ v.kind = 2 ∨ v.kind = 3 ∨ v.nums = [] := by
        intro _ _ e v hv
        rcases hz v hv with e2 | ⟨e2, _, e3, e4⟩
        · exact .inr (.inr (.inr e2))
        · omega
      refine Zerun ?_
      (refine RW.call T hs rfl rfl rfl (flatJoined_con hR h1 _ l c kd _ _ ⟨_, _, _, rfl, hS, hA.mono (fun u a hv => hv.mono hR hg)⟩ (by rw [← hn]; exact hm) (by omega) hk1 hk3) ?_; intro v h9 w9 hle9 hp9 hs)
      obtain ⟨cs9, rfl, hv9⟩ := hp9
      have hv9' := hv9
      have hoc' : cs9.all Value.oneCell' = true := by obtain ⟨_, _, _, _, _, _, _, ⟨_, hoc⟩, _⟩ := hv9'; exact hoc
      have hl9 := hv9.size
      refine RW.storeAll T hs 0 rfl rfl rfl rfl rfl hl9 hoc' hl9 ?_
      intro w10 hs
      refine Zerun ?_
      exact retQ_ret [_, _] h9 ⟨resN T hs 0 rfl rfl rfl rfl rfl hl9, rfl, trivial⟩ hs.dropAll (hres _ _ hv9)
end
end Go.Proofs.YtmojpbfkpggjhaaGreat

/-
  Contracts of the document's answer of layer 8: items again and again, turned, behind each other; a number brought between two. No statement is proved here.
-/
namespace Go.Proofs.YtmojpbfkpggjhaaGreat
open Go Go.RowKit
set_option linter.unusedVariables false
set_option linter.unusedSimpArgs false
set_option maxHeartbeats 4000000
attribute [local irreducible] CW RW QW SW HW ConM retM heldQ calmQ elemP thenQ blockQ loopQ joinQ retQ Yields Con Sl zF magR unitF truncF fwF wholeF tidySpec elemQ rankF leastN tidyW
set_option maxHeartbeats 4000000

theorem againL_getD {n m j : Nat} (h : j < n) : (againL n m).getD j 0 = againI m j := by simp [againL, List.getD_eq_getElem?_getD, h]
section
variable {γ : Type} {RC : GHeap → List Value → γ → Prop}
end
section
variable {β : Type} {R : GHeap → List Value → β → Prop}
theorem refAgain08_con (hR : Mono R) (v : Value) (l : List (ItemD (PlainD β))) (c n : Int) (w : World) (h : GHeap) (hl : RowsAt 4 (ItemAt (PlainR R) h) h v l) (hn : n ≤ 1048576) : Con Tryz.prog 141 [v, .int .i64 c, .int .i64 n] w h (fun h' u => RowsAt 4 (ItemAt (PlainR R) h') h' u ((againL n.toNat l.length).map fun i => atD l i (blankI c))) := by
  have hRI := ItemAt.mono (PlainR.mono hR)
  obtain ⟨ad, cp, xs, rfl, hS, hA⟩ := hl
  have hlen : l.length ≤ 9223372036854775807 := by have := hS.caps; omega
  refine Con.of_body Tryz.func141 rfl Tryz.ntmps141 rfl rfl ?_
  intro hs
  refine Zerun ?_
  have hs := hs.nilRow 69 4
  refine CW.loop (fun u : Nat × Option Addr × Nat × List Value × GHeap => [(0, .slice ad l.length cp), (1, .int .i64 c), (2, .int .i64 n), (7, .slice u.2.1 u.1 u.2.2.1), (8, .int .i64 u.1)]) (fun u w' => u.1 ≤ n.toNat ∧ GLe h u.2.2.2.2 ∧ AllN 4 (ItemAt (PlainR R) u.2.2.2.2) u.2.2.2.1 (((againL n.toNat l.length).take u.1).map fun i => atD l i (blankI c)) ∧ Sees w h u.2.2.2.2 [⟨u.2.1, u.1, u.2.2.1, 69, 4, u.2.2.2.1⟩] w') (fun u => n.toNat - u.1) (0, none, 0, [], h) ⟨rfl, rfl, rfl, rfl, rfl, trivial⟩ ⟨by omega, GLe.refl _, rfl, hs⟩ ?_
  rintro ⟨i, ra, rc, vs, hh⟩ w5 ⟨hi, hg, hAv, hs⟩
  dsimp only at hi hg hAv hs ⊢
  have hS := hS.mono hg
  by_cases hlt : i < n.toNat
  · have htk := take_succ_getD (againL n.toNat l.length) i 0 (by rw [againL_length]; exact hlt)
    rw [againL_getD hlt] at htk
    have done : ∀ (h6 : GHeap) (cs6 : List Value) (x : ItemD (PlainD β)), GLe hh h6 → cs6.length = 4 → ItemAt (PlainR R) h6 cs6 x → x = atD l (againI l.length i) (blankI c) → AllN 4 (ItemAt (PlainR R) h6) (vs ++ cs6) (((againL n.toNat l.length).take (i + 1)).map fun i => atD l i (blankI c)) := by
      intro h6 cs6 x hle6 hl6 hi6 hx
      rw [htk, List.map_append]
      show AllN 4 _ (vs ++ cs6) (_ ++ [atD l (againI l.length i) (blankI c)])
      rw [← hx]
      exact (hAv.mono (fun u a => hRI _ _ u a hle6)).append (AllN.one hl6 hi6)
    by_cases c1 : l.length = 0
    · refine Zerun ?_
      (refine RW.call T hs rfl rfl rfl (refBlank08_con hR c _ _) ?_; intro v h6 w6 hle6 hp6 hs)
      obtain ⟨cs6, rfl, hi6⟩ := hp6
      have hl6 : cs6.length = 4 := by obtain ⟨_, rfl, _⟩ := hi6; rfl
      have ho6 := ItemAt.one _ _ _ hi6
      (refine RW.lit T hs (vs := [.agg cs6.toArray]) (cs := cs6) rfl rfl rfl rfl (by simp [Value.cells, hl6]) rfl (by simp [Value.cells]) rfl rfl rfl ?_; intro b7 w7 hs)
      (refine RW.append T hs 1 rfl rfl (m := 1) (news := cs6) rfl rfl rfl rfl rfl rfl (hs.src0 (by simpa using hl6) ho6) (by simp) (by dsimp only; omega) (by omega) ?_; intro ad8 cp8 w8 hs; replace hs := hs.drop)
      refine Zerun ?_
      exact loopQ_round (i + 1, ad8, cp8, vs ++ cs6, h6) ⟨rfl, rfl, rfl, rfl, rfl, trivial⟩ ⟨by dsimp only; omega, hg.trans hle6, done h6 cs6 _ hle6 hl6 hi6 (by unfold againI; rw [if_neg (by omega)]; rfl), hs⟩ (by dsimp only; omega)
    have hmp : 0 < l.length := by omega
    have hmod := Nat.mod_lt i hmp
    have hlk : ((i : Int) % (l.length : Int)).toNat < l.length := by omega
    obtain ⟨y, hy, hyl, hRy⟩ := hA.elem _ hlk
    have hoy := ItemAt.one _ _ _ hRy
    have hRy := hRI _ _ _ _ hg hRy
    refine Zerun ?_
    (refine RW.lit T hs (vs := [.agg y.toArray]) (cs := y) rfl rfl rfl rfl (by simp [Value.cells, hyl]) rfl (by simp [Value.cells]) rfl rfl rfl ?_; intro b7 w7 hs)
    (refine RW.append T hs 1 rfl rfl (m := 1) (news := y) rfl rfl rfl rfl rfl rfl (hs.src0 (by simpa using hyl) hoy) (by simp) (by dsimp only; omega) (by omega) ?_; intro ad8 cp8 w8 hs; replace hs := hs.drop)
    refine Zerun ?_
    have ea : againI l.length i = (i : Int) % (l.length : Int) := by unfold againI; rw [if_pos hmp]; omega
    exact loopQ_round (i + 1, ad8, cp8, vs ++ y, hh) ⟨rfl, rfl, rfl, rfl, rfl, trivial⟩ ⟨by dsimp only; omega, hg, done hh y _ (GLe.refl _) hyl hRy (by rw [ea]; exact (getElem_getD l _ _ hlk).trans (atD_in (by omega)).symm), hs⟩ (by dsimp only; omega)
  · obtain rfl : i = n.toNat := by omega
    rw [List.take_of_length_le (by rw [againL_length]; exact Nat.le_refl _)] at hAv
    obtain ⟨h6, hle6, hs, hS6⟩ := hs.freeze
    refine Zerun ?_
    exact retQ_ret [_] h6 ⟨rfl, trivial⟩ hs.dropAll ⟨ra, rc, vs, by simp [packv, againL_length], by simpa [againL_length] using hS6, hAv.mono (fun u a => hRI _ _ u a hle6)⟩
end
section
variable {γ : Type} {RC : GHeap → List Value → γ → Prop}
def joinP (c : Int) : List (PlainD γ) → Option Int
  | [] => some c
  | p :: l => if 0 < p.items.length ∧ 0 ≤ c ∧ c ≠ p.fill then none else joinP (if 0 < p.items.length then p.fill else c) l
def headF : List (PlainD γ) → Int
  | [] => 0
  | p :: _ => p.fill
theorem fmi_len' : ∀ (l : List (PlainD γ)) (i : Nat), ((l.take i).flatMap (·.items)).length ≤ (l.map (·.items.length)).sum
  | [], i => by simp
  | v :: l, 0 => by simp
  | v :: l, i + 1 => by
    have := fmi_len' l i
    simp only [List.take_succ_cons, List.map_cons, List.sum_cons, List.flatMap_cons, List.length_append]
    omega
theorem refJoin08_con (hRC : Mono RC) (s : Value) (l : List (PlainD γ)) (w : World) (h : GHeap) (hl : RowsAt 3 (PlainR RC h) h s l) (hm : (l.map (·.items.length)).sum ≤ 1048576) (hf : ∀ p ∈ l, 0 ≤ p.fill) : Con Tryz.prog 71 [s] w h (fun h' u => ∃ s' cl, u = .tuple #[s', .int .i64 cl] ∧ (joinP (-1) l = none → cl = -1) ∧ ∀ c, joinP (-1) l = some c → cl = (if 0 ≤ c then c else headF l) ∧ RowsAt 4 (ItemAt RC h') h' s' (l.flatMap (·.items))) := by
  have hRI := ItemAt.mono hRC
  obtain ⟨ad, cp, xs, rfl, hS, hA⟩ := hl
  have hlen : l.length ≤ 9223372036854775807 := by have := hS.caps; omega
  refine Con.of_body Tryz.func71 rfl Tryz.ntmps71 rfl rfl ?_
  intro hs
  refine Zerun ?_
  have hs := hs.nilRow 69 4
  refine CW.loop (fun u : Nat × Int × (Option Addr × Nat × Nat) × List Value => [(0, .slice ad l.length cp), (4, .slice u.2.2.1.1 u.2.2.1.2.1 u.2.2.1.2.2), (5, .int .i64 u.2.1), (6, .int .i64 u.1)]) (fun u w' => u.1 ≤ l.length ∧ AllN 4 (ItemAt RC h) u.2.2.2 ((l.take u.1).flatMap (·.items)) ∧ u.2.2.1.2.1 = ((l.take u.1).flatMap (·.items)).length ∧ joinP (-1) l = joinP u.2.1 (l.drop u.1) ∧ -1 ≤ u.2.1 ∧ Sees w h h [⟨u.2.2.1.1, u.2.2.1.2.1, u.2.2.1.2.2, 69, 4, u.2.2.2⟩] w') (fun u => l.length - u.1) (0, -1, (none, 0, 0), []) ⟨rfl, rfl, rfl, rfl, trivial⟩ ⟨by omega, rfl, rfl, rfl, by dsimp only; omega, hs⟩ ?_
  rintro ⟨i, c, ⟨ra, rn, rc⟩, vs⟩ w5 ⟨hi, hAv, hn, hJ, hcm, hs⟩
  dsimp only at hi hAv hn hJ hcm hs ⊢
  by_cases hlt : i < l.length
  · obtain ⟨y, hy, hyl, hRy⟩ := hA.elem _ hlt
    have htk := fm_take_succ (·.items) l i hlt
    have hlen2 := fmi_len' l (i + 1)
    have hd := List.drop_eq_getElem_cons hlt
    rw [hd] at hJ
    have hf0 := hf _ (List.getElem_mem hlt)
    rw [htk, List.length_append, ← hn] at hlen2
    generalize hve : l[i] = p at *
    obtain ⟨sv, it, rfl, hsh, ⟨ad2, cp2, xs2, rfl, hS2, hA2⟩⟩ := hRy
    have hx1 : xs[i * 3 + 1]? = some (.slice ad2 p.items.length cp2) := by rw [AllN.get4 hy 1 (by omega)]; rfl
    have hx2 : xs[i * 3 + 2]? = some (.int .i64 p.fill) := by rw [AllN.get4 hy 2 (by omega)]; rfl
    have ho2 := hA2.ones (ItemAt.one h)
    have hnx : AllN 4 (ItemAt RC h) (vs ++ xs2) ((l.take (i + 1)).flatMap (·.items)) := by rw [htk]; exact hAv.append hA2
    have hnn : rn + p.items.length = ((l.take (i + 1)).flatMap (·.items)).length := by rw [htk, List.length_append, hn]
    by_cases c1 : 0 < p.items.length
    · have hstep : (0 ≤ c → c = p.fill) → joinP c (p :: l.drop (i + 1)) = joinP p.fill (l.drop (i + 1)) := fun e => by
        rw [joinP, if_neg (fun e2 => e2.2.2 (e e2.2.1)), if_pos c1]
      by_cases c2 : 0 ≤ c
      · by_cases c3 : c = p.fill
        · refine Zerun ?_
          refine RW.append T hs 0 rfl rfl (m := p.items.length) (news := xs2) rfl rfl rfl rfl rfl rfl (hS2.src hs.agree ho2) (fun e => by subst e; exact hS2.nil0.2) (by dsimp only; omega) (by omega) ?_
          intro ad9 cp9 w9 hs
          refine Zerun ?_
          exact loopQ_round (i + 1, p.fill, (ad9, rn + p.items.length, cp9), vs ++ xs2) ⟨rfl, rfl, rfl, rfl, trivial⟩ ⟨by dsimp only; omega, hnx, hnn, hJ.trans (hstep (fun _ => c3)), by dsimp only; omega, hs⟩ (by dsimp only; omega)
        · refine Zerun ?_
          refine retQ_ret [_, _] h ⟨rfl, rfl, trivial⟩ hs.dropAll ⟨_, -1, rfl, fun _ => rfl, fun c' e => ?_⟩
          rw [hJ, joinP, if_pos ⟨c1, c2, c3⟩] at e
          cases e
      · refine Zerun ?_
        refine RW.append T hs 0 rfl rfl (m := p.items.length) (news := xs2) rfl rfl rfl rfl rfl rfl (hS2.src hs.agree ho2) (fun e => by subst e; exact hS2.nil0.2) (by dsimp only; omega) (by omega) ?_
        intro ad9 cp9 w9 hs
        refine Zerun ?_
        exact loopQ_round (i + 1, p.fill, (ad9, rn + p.items.length, cp9), vs ++ xs2) ⟨rfl, rfl, rfl, rfl, trivial⟩ ⟨by dsimp only; omega, hnx, hnn, hJ.trans (hstep (fun e => absurd e c2)), by dsimp only; omega, hs⟩ (by dsimp only; omega)
    · have hstep : joinP c (p :: l.drop (i + 1)) = joinP c (l.drop (i + 1)) := by rw [joinP, if_neg (fun e => c1 e.1), if_neg c1]
      refine Zerun ?_
      refine RW.append T hs 0 rfl rfl (m := p.items.length) (news := xs2) rfl rfl rfl rfl rfl rfl (hS2.src hs.agree ho2) (fun e => by subst e; exact hS2.nil0.2) (by dsimp only; omega) (by omega) ?_
      intro ad9 cp9 w9 hs
      refine Zerun ?_
      exact loopQ_round (i + 1, c, (ad9, rn + p.items.length, cp9), vs ++ xs2) ⟨rfl, rfl, rfl, rfl, trivial⟩ ⟨by dsimp only; omega, hnx, hnn, hJ.trans hstep, hcm, hs⟩ (by dsimp only; omega)
  · obtain rfl : i = l.length := by omega
    rw [List.take_length] at hAv hn
    rw [List.drop_length] at hJ
    have hJ : joinP (-1) l = some c := hJ
    subst hn
    obtain ⟨h6, hle6, hs, hS6⟩ := hs.freeze
    have hS := hS.mono hle6
    have hres : ∀ cl, cl = (if 0 ≤ c then c else headF l) → ∃ s' cl', Value.tuple #[.slice ra (l.flatMap (·.items)).length rc, .int .i64 cl] = .tuple #[s', .int .i64 cl'] ∧ (joinP (-1) l = none → cl' = -1) ∧ ∀ c, joinP (-1) l = some c → cl' = (if 0 ≤ c then c else headF l) ∧ RowsAt 4 (ItemAt RC h6) h6 s' (l.flatMap (·.items)) := by
      intro cl hcl
      refine ⟨_, cl, rfl, (fun e => by rw [hJ] at e; cases e), fun c' e => ?_⟩
      rw [hJ] at e
      cases e
      exact ⟨hcl, ra, rc, vs, rfl, hS6, hAv.mono (fun u a => hRI _ _ u a hle6)⟩
    by_cases c1 : 0 ≤ c
    · refine Zerun ?_
      exact retQ_ret [_, _] h6 ⟨rfl, rfl, trivial⟩ hs.dropAll (hres c (by rw [if_pos c1]))
    · rw [if_neg c1] at hres
      by_cases c2 : 0 < l.length
      · obtain ⟨y, hy, hyl, hRy⟩ := hA.elem 0 c2
        have hf0 := hf _ (List.getElem_mem c2)
        have hhd : headF l = l[0].fill := by cases l with | nil => cases c2 | cons a l => rfl
        generalize hve : l[0] = p at *
        obtain ⟨sv, it, rfl, hsh, ⟨ad2, cp2, xs2, rfl, hS2, hA2⟩⟩ := hRy
        have hx2 : xs[0 * 3 + 2]? = some (.int .i64 p.fill) := by rw [AllN.get4 hy 2 (by omega)]; rfl
        refine Zerun ?_
        exact retQ_ret [_, _] h6 ⟨rfl, rfl, trivial⟩ hs.dropAll (hres p.fill hhd.symm)
      · have hhd : headF l = 0 := by cases l with | nil => rfl | cons a l => exact absurd (Nat.succ_pos _) c2
        refine Zerun ?_
        exact retQ_ret [_, _] h6 ⟨rfl, rfl, trivial⟩ hs.dropAll (hres 0 hhd.symm)
end
end Go.Proofs.YtmojpbfkpggjhaaGreat

/-
  Contracts of the document's answer and of the laws: how many items a good plain array has. No statement is proved here.
-/
namespace Go.Proofs.YtmojpbfkpggjhaaGreat
open Go Go.RowKit
set_option linter.unusedVariables false
set_option linter.unusedSimpArgs false
set_option maxHeartbeats 4000000
attribute [local irreducible] CW RW QW SW HW ConM retM heldQ calmQ elemP thenQ blockQ loopQ joinQ retQ Yields Con Sl zF magR unitF truncF fwF wholeF tidySpec elemQ rankF leastN tidyW
set_option maxHeartbeats 4000000

section
variable {α : Type} {R : GHeap → List Value → α → Prop}
theorem refCountB_step (hR : Mono R) (most : Int) (ih : ∀ cs a w h, R h cs a → Con Tryz.prog 45 [.agg cs.toArray, .int .i64 most] w h (fun _ u => ∃ r, u = .int .i64 r))
    (cs : List Value) (p : PlainD α) (w : World) (h : GHeap) (hp : PlainR R h cs p) : Con Tryz.prog 45 [.agg cs.toArray, .int .i64 most] w h (fun _ u => ∃ r, u = .int .i64 r ∧ (p.shape.length ≤ 8 → p.items.length ≤ 1048576 → r ≤ most → (p.items.length : Int) + p.shape.length + 1 ≤ most)) := by
  obtain ⟨s, it, rfl, ⟨ad, cp, rfl, hS⟩, ⟨ad2, cp2, xs, rfl, hS2, hA⟩⟩ := hp
  have hlen : p.items.length ≤ 9223372036854775807 := by have := hS2.caps; omega
  refine Con.of_body Tryz.func45 rfl Tryz.ntmps45 rfl rfl ?_
  intro hs
  refine Zrun ?_
  (refine RW.boxN hs rfl rfl ?_; intro b1 w1 hs)
  refine Zerun ?_
  refine RW.val (Y.add' rfl rfl) rfl ?_
  refine RW.val (Y.add' rfl rfl) rfl ?_
  have hr0' : p.shape.length ≤ 8 → p.items.length ≤ 1048576 → IntKind.i64.wrap (IntKind.i64.wrap ((p.items.length : Int) + p.shape.length) + 1) = (p.items.length : Int) + p.shape.length + 1 := by
    intro h1 h2
    have e1 : IntKind.i64.wrap ((p.items.length : Int) + p.shape.length) = (p.items.length : Int) + p.shape.length := wrap64 (by omega)
    rw [e1, wrap64 (by omega)]
  generalize IntKind.i64.wrap (IntKind.i64.wrap _ + 1) = r0 at hr0' ⊢
  refine Zerun ?_
  refine CW.loop (fun q : Nat × Int × GHeap => [(1, .int .i64 most), (2, .pointer (some ⟨b1, 0, none⟩)), (5, .int .i64 q.2.1), (6, .int .i64 q.1)]) (fun q w' => q.1 ≤ p.items.length ∧ GLe h q.2.2 ∧ (most < r0 → q.2.1 = r0) ∧ Sees w h q.2.2 [⟨some ⟨b1, 0, none⟩, 1, 1, 25, 3, [.slice ad p.shape.length cp, .slice ad2 p.items.length cp2, .int .i64 p.fill]⟩] w') (fun q => p.items.length - q.1) (0, r0, h) ⟨rfl, rfl, rfl, rfl, trivial⟩ ⟨by omega, GLe.refl _, fun _ => rfl, hs⟩ ?_
  rintro ⟨i, r, hh⟩ w2 ⟨hi, hg, hr, hs⟩
  dsimp only at hi hg hr hs ⊢
  have hS2 := hS2.mono hg
  by_cases hlt : i < p.items.length
  · obtain ⟨bx, hx4, hx1, ⟨ad3, cp3, ys, rfl, hS3, hA3⟩, hx2, hq0, hq1, hq2, hq3⟩ := ItemAt.cells hA i hlt
    have hS3 := hS3.mono hg
    generalize p.items.getD i noItem = x at *
    by_cases hle : r ≤ most
    · refine Zerun ?_
      refine CW.loop (fun q : Nat × Int × GHeap => [(1, .int .i64 most), (2, .pointer (some ⟨b1, 0, none⟩)), (5, .int .i64 q.2.1), (6, .int .i64 i), (7, .int .i64 q.1)]) (fun q w' => q.1 ≤ x.box.length ∧ GLe hh q.2.2 ∧ Sees w h q.2.2 [⟨some ⟨b1, 0, none⟩, 1, 1, 25, 3, [.slice ad p.shape.length cp, .slice ad2 p.items.length cp2, .int .i64 p.fill]⟩] w') (fun q => x.box.length - q.1) (0, r, hh) ⟨rfl, rfl, rfl, rfl, rfl, trivial⟩ ⟨by omega, GLe.refl _, hs⟩ ?_
      rintro ⟨j, r2, h3⟩ w3 ⟨hj, hg3, hs⟩
      dsimp only at hj hg3 hs ⊢
      have hS2 := hS2.mono hg3
      have hS3 := hS3.mono hg3
      have hbl : x.box.length ≤ 9223372036854775807 := by have := hS3.caps; omega
      by_cases hlt3 : j < x.box.length
      · by_cases hle3 : r2 ≤ most
        · obtain ⟨y, hy, hR3, hR3l⟩ : ∃ y, (ys.drop (j * 3)).take 3 = y ∧ (∃ a, R h y a) ∧ y.length = 3 := by
            obtain ⟨h1, h2⟩ := hA3.get (x.box[j]) j hlt3
            exact ⟨_, rfl, ⟨_, h1⟩, h2⟩
          obtain ⟨a, hRa⟩ := hR3
          have hRa := hR _ _ _ _ (hg.trans hg3) hRa
          refine Zerun ?_
          (refine RW.call T hs rfl rfl rfl (ih _ a _ _ hRa) ?_; intro v h4 w4 hle4 hp4 hs)
          obtain ⟨r4, rfl⟩ := hp4
          refine RW.val (Y.add' rfl rfl) rfl ?_
          generalize IntKind.i64.wrap (r2 + r4) = r5
          refine Zerun ?_
          exact loopQ_round (j + 1, r5, h4) ⟨rfl, rfl, rfl, rfl, rfl, trivial⟩ ⟨by dsimp only; omega, hg3.trans hle4, hs⟩ (by dsimp only; omega)
        · refine Zerun ?_
          exact loopQ_round (i + 1, r2, h3) ⟨rfl, rfl, rfl, rfl, trivial⟩ ⟨by dsimp only; omega, hg.trans hg3, fun e => by have := hr e; omega, hs⟩ (by dsimp only; omega)
      · refine Zerun ?_
        exact loopQ_round (i + 1, r2, h3) ⟨rfl, rfl, rfl, rfl, trivial⟩ ⟨by dsimp only; omega, hg.trans hg3, fun e => by have := hr e; omega, hs⟩ (by dsimp only; omega)
    · refine Zerun ?_
      exact retQ_ret [_] hh ⟨rfl, trivial⟩ hs.dropAll ⟨_, rfl, fun h1 h2 h3 => by have e := hr0' h1 h2; by_cases c : most < r0; have := hr c; omega; omega⟩
  · refine Zerun ?_
    exact retQ_ret [_] hh ⟨rfl, trivial⟩ hs.dropAll ⟨_, rfl, fun h1 h2 h3 => by have e := hr0' h1 h2; by_cases c : most < r0; have := hr c; omega; omega⟩
end
theorem refCountB_con (most : Int) (k : Nat) (cs : List Value) (p : PD (k + 1)) (w : World) (h : GHeap) (hp : PlainAt (k + 1) h cs p) : Con Tryz.prog 45 [.agg cs.toArray, .int .i64 most] w h (fun _ u => ∃ r, u = .int .i64 r ∧ (chk (k + 1) 40 p = 0 → r ≤ most → (PlainD.items (α := PD k) p).length ≤ most)) := by
  have := refCountB_step (PlainAt.mono k) most (refCount_con most k) cs p w h hp
  refine this.mono ?_
  rintro h' u _ ⟨r, rfl, hr⟩
  refine ⟨r, rfl, fun hc hle => ?_⟩
  obtain ⟨_, _, _, hpr, hok⟩ := (chkP_ok (α := PD k) _ _ _).1 hc
  have h1 : (PlainD.shape (α := PD k) p).length ≤ 8 := by
    by_cases c : 8 < (PlainD.shape (α := PD k) p).length
    · unfold product at hpr
      rw [if_pos c] at hpr
      exact absurd (congrArg Prod.snd hpr) (show (26 : Int) ≠ 0 by decide)
    · omega
  have h2 := (good_sml (k + 1) 40 _ (good_arr (k + 1) 40 p hc)).2.1
  have h3 : (ArrD.vec (α := AD k) (arr (k + 1) p)).len = (PlainD.items (α := PD k) p).length := len_arrV (arr k) _ _ _ hok
  have := hr h1 (by omega) hle
  omega
end Go.Proofs.YtmojpbfkpggjhaaGreat

/-
  Plain facts on lists of elements picked, cut, turned and put behind each other, and what they show. No statement is proved here.
-/
namespace Go.Proofs.YtmojpbfkpggjhaaGreat
open Go Go.RowKit
set_option linter.unusedVariables false
set_option linter.unusedSimpArgs false
set_option maxHeartbeats 4000000
attribute [local irreducible] CW RW QW SW HW ConM retM heldQ calmQ elemP thenQ blockQ loopQ joinQ retQ Yields Con Sl zF magR unitF truncF fwF wholeF tidySpec elemQ rankF leastN tidyW
set_option maxHeartbeats 4000000

structure Shown (k : Nat) (v : VecD (AD k)) (l : List (ItemD (PD k))) (c : Int) : Prop where
  hc : v.cls = c
  k0 : v.kind ≠ 0
  kl : v.kind = v.least
  vm : v.len ≤ 1048576
  sm : ∀ b ∈ v.boxes, sml k b
  he : itemsV (plain k) v = l
  td : ∀ x ∈ l, tdyIt (tdy k) x
theorem shown_of (k : Nat) (p : PD (k + 2)) (h : GHeap) (cs : List Value) (hp : PlainAt (k + 2) h cs p) (hc : chk (k + 2) 40 p = 0) : Shown (k + 1) (ArrD.vec (α := AD (k + 1)) (arr (k + 2) p)) (PlainD.items (α := PD (k + 1)) (tidy (k + 2) p)) (PlainD.fill (α := PD (k + 1)) p) := by
  have hgood := good_arr (k + 2) 40 p hc
  have hsml := good_sml (k + 2) 40 _ hgood
  refine ⟨?_, hgood.2.1, hgood.2.2.1, hsml.2.1, hsml.2.2, congrArg (PlainD.items (α := PD (k + 1))) (plain_arr (k + 2) 40 p hc), tidy_tdy (k + 2) 40 p _ _ hp hc⟩
  obtain ⟨_, h2, h3, _, _⟩ := (chkP_ok (α := PD (k + 1)) _ _ _).1 hc
  exact cls_arrV (arr (k + 1)) _ _ h2 h3
theorem Shown.pick {k : Nat} {v : VecD (AD (k + 1))} {L : List (ItemD (PD (k + 1)))} {c : Int} (H : Shown (k + 1) v L c) (at_ : List Int) (hm : at_.length ≤ 1048576) : Shown (k + 1) (v.pick at_ (blankA k)) (at_.map fun i => atD L i (blankI c : ItemD (PlainD (PD k)))) c := by
  have hpf := pick_facts v at_ (blankA k)
  refine ⟨by rw [pick_cls, H.hc], hpf.1, hpf.2.1, by rw [hpf.2.2.1]; exact hm, ?_, pick_items' (β := PD k) (plain (k + 1)) _ at_ (blankA k) _ _ H.he H.hc rfl, ?_⟩
  · intro b hb
    rcases hpf.2.2.2 b hb with e | e
    · exact H.sm b e
    · rw [e]; exact blankA_sml k
  · intro x hx
    obtain ⟨i, _, rfl⟩ := List.mem_map.1 hx
    rcases atD_mem L i (blankI c : ItemD (PlainD (PD k))) with e | e
    · exact H.td _ e
    · rw [e]; exact blankI_tdy k _
section
variable {α β : Type}
theorem len0 {v : VecD α} (h : v.len = 0) : v.nums = [] ∧ v.chars = [] ∧ v.boxes = [] := by
  unfold VecD.len at h
  exact ⟨List.eq_nil_of_length_eq_zero (by omega), List.eq_nil_of_length_eq_zero (by omega), List.eq_nil_of_length_eq_zero (by omega)⟩
theorem itemsV_len0 (f : α → β) {v : VecD α} (h : v.len = 0) : itemsV f v = [] := by
  obtain ⟨h1, h2, h3⟩ := len0 h
  unfold itemsV
  rw [h1, h2, h3]
  split <;> (try split) <;> rfl
theorem flatMap_map' {γ δ ε : Type} (g : δ → ε) (f : γ → List δ) : ∀ l : List γ, (l.flatMap f).map g = l.flatMap fun x => (f x).map g
  | [] => rfl
  | a :: l => by rw [List.flatMap_cons, List.map_append, flatMap_map' g f l, List.flatMap_cons]
theorem flatMap_eq {γ δ : Type} {f g : γ → List δ} : ∀ {l : List γ}, (∀ x ∈ l, f x = g x) → l.flatMap f = l.flatMap g
  | [], _ => rfl
  | a :: l, h => by rw [List.flatMap_cons, List.flatMap_cons, h a (by simp), flatMap_eq (fun x hx => h x (List.mem_cons_of_mem _ hx))]
theorem joinS_cls {c : Int} (hc : c = 0 ∨ c = 1 ∨ c = 2) (l : List (VecD α)) : (joinS c l).cls = c := by
  unfold joinS VecD.cls
  rcases hc with rfl | rfl | rfl
  · have := leastN_bounds (l.flatMap (·.nums))
    rw [if_neg (show ¬ (0 : Int) = 1 by decide), if_neg (show ¬ (0 : Int) = 2 by decide)]
    dsimp only
    rw [if_neg (by omega), if_neg (by omega)]
  · rfl
  · rfl
theorem itemsV_join (f : α → β) {c : Int} {l : List (VecD α)} (hc : c = 0 ∨ c = 1 ∨ c = 2) (h : ∀ v ∈ l, v.len ≠ 0 → v.cls = c) : itemsV f (joinS c l) = l.flatMap (itemsV f) := by
  have hcl := joinS_cls hc l
  rcases hc with rfl | rfl | rfl
  · rw [itemsV_c0 f hcl]
    show (l.flatMap (·.nums)).map _ = _
    rw [flatMap_map']
    apply flatMap_eq
    intro v hv
    by_cases e : v.len = 0
    · rw [itemsV_len0 f e, (len0 e).1]; rfl
    · rw [itemsV_c0 f (h v hv e)]
  · rw [itemsV_c1 f hcl]
    show (l.flatMap (·.chars)).map _ = _
    rw [flatMap_map']
    apply flatMap_eq
    intro v hv
    by_cases e : v.len = 0
    · rw [itemsV_len0 f e, (len0 e).2.1]; rfl
    · rw [itemsV_c1 f (h v hv e)]
  · rw [itemsV_c2 f hcl]
    show (l.flatMap (·.boxes)).map _ = _
    rw [flatMap_map']
    apply flatMap_eq
    intro v hv
    by_cases e : v.len = 0
    · rw [itemsV_len0 f e, (len0 e).2.2]; rfl
    · rw [itemsV_c2 f (h v hv e)]
theorem joinS_len (c : Int) (l : List (VecD α)) : (joinS c l).len ≤ (l.map VecD.len).sum := by
  unfold joinS
  split
  · have := fm_len (f := fun v : VecD α => v.chars) (fun v => by unfold VecD.len; omega) l
    simpa [VecD.len] using this
  · split
    · have := fm_len (f := fun v : VecD α => v.boxes) (fun v => by unfold VecD.len; omega) l
      simpa [VecD.len] using this
    · have := fm_len (f := fun v : VecD α => v.nums) (fun v => by unfold VecD.len; omega) l
      simpa [VecD.len] using this
theorem joinS_boxes {c : Int} {l : List (VecD α)} {b : α} (h : b ∈ (joinS c l).boxes) : ∃ v ∈ l, b ∈ v.boxes := by
  unfold joinS at h
  split at h
  · cases h
  · split at h
    · exact List.mem_flatMap.1 h
    · cases h
theorem joinS_kind (c : Int) (hc : c = 0 ∨ c = 1 ∨ c = 2) (l : List (VecD α)) : (joinS c l).kind ≠ 0 ∧ (joinS c l).kind = (joinS c l).least := by
  have hcl := joinS_cls hc l
  unfold VecD.least
  rw [hcl]
  rcases hc with rfl | rfl | rfl
  · have := leastN_bounds (l.flatMap (·.nums))
    have hk : (joinS 0 l).kind = leastN (l.flatMap (·.nums)) := rfl
    have hn : (joinS 0 l).nums = l.flatMap (·.nums) := rfl
    rw [hk, hn]
    exact ⟨by omega, by rw [if_pos ⟨rfl, by omega⟩]⟩
  · exact ⟨show (5 : Int) ≠ 0 by decide, rfl⟩
  · exact ⟨show (6 : Int) ≠ 0 by decide, rfl⟩
theorem noneV_facts (c : Int) (hc : c = 0 ∨ c = 1 ∨ c = 2) (f : α → β) : (noneV c : VecD α).cls = c ∧ (noneV c : VecD α).kind ≠ 0 ∧ (noneV c : VecD α).kind = (noneV c : VecD α).least ∧ (noneV c : VecD α).len = 0 ∧ (noneV c : VecD α).boxes = [] ∧ itemsV f (noneV c : VecD α) = [] := by
  rcases hc with rfl | rfl | rfl
  · have e : leastN [] = 1 := by have := leastN_bits []; simpa using this
    refine ⟨rfl, show (1 : Int) ≠ 0 by decide, ?_, rfl, rfl, rfl⟩
    show (1 : Int) = if (0 : Int) = 0 ∧ (1 : Int) ≠ 0 then leastN [] else 1
    rw [e]
    rfl
  · exact ⟨rfl, show (5 : Int) ≠ 0 by decide, rfl, rfl, rfl, rfl⟩
  · exact ⟨rfl, show (6 : Int) ≠ 0 by decide, rfl, rfl, rfl, rfl⟩
theorem joinC_some : ∀ (l : List (VecD α)) (c0 c : Int), joinC c0 l = some c → (0 ≤ c0 → c = c0) ∧ (c = c0 ∨ c = 0 ∨ c = 1 ∨ c = 2) ∧ ∀ v ∈ l, v.len ≠ 0 → v.cls = c
  | [], c0, c, h => by
    cases h
    exact ⟨fun _ => rfl, .inl rfl, fun v hv => by cases hv⟩
  | v :: l, c0, c, h => by
    by_cases h0 : v.len = 0
    · rw [joinC_skip h0] at h
      obtain ⟨h1, h2, h3⟩ := joinC_some l c0 c h
      refine ⟨h1, h2, fun u hu hn => ?_⟩
      rcases List.mem_cons.1 hu with rfl | hu
      · exact absurd h0 hn
      · exact h3 u hu hn
    · by_cases hb : 0 ≤ c0 ∧ c0 ≠ v.cls
      · rw [joinC, if_neg h0, if_pos hb] at h; cases h
      · rw [joinC, if_neg h0, if_neg hb] at h
        obtain ⟨h1, h2, h3⟩ := joinC_some l v.cls c h
        have hcl := cls_rng v
        have hcv := h1 (by omega)
        refine ⟨fun e => ?_, by omega, fun u hu hn => ?_⟩
        · rw [hcv]
          exact (Decidable.of_not_not (fun e2 => hb ⟨e, fun e3 => e2 e3.symm⟩))
        · rcases List.mem_cons.1 hu with rfl | hu
          · exact hcv.symm
          · exact h3 u hu hn
end
theorem shown_join {k : Nat} {vs : List (VecD (AD k))} {c : Int} (hJ : joinC (-1) vs = some c) (hA : ∀ v ∈ vs, Shown k v (itemsV (plain k) v) v.cls) (hm : (vs.map VecD.len).sum ≤ 1048576) : Shown k (if c < 0 then noneV (headC vs) else joinS c vs) (vs.flatMap (itemsV (plain k))) (if 0 ≤ c then c else headC vs) := by
  obtain ⟨_, hr, hall⟩ := joinC_some vs (-1) c hJ
  have htd : ∀ x ∈ vs.flatMap (itemsV (plain k)), tdyIt (tdy k) x := by
    intro x hx
    obtain ⟨v, hv, hx⟩ := List.mem_flatMap.1 hx
    exact (hA v hv).td x hx
  by_cases hc : c < 0
  · rw [if_pos hc, if_neg (by omega)]
    have hh : headC vs = 0 ∨ headC vs = 1 ∨ headC vs = 2 := by
      cases vs with
      | nil => exact .inl rfl
      | cons v l => exact cls_rng v
    have he : vs.flatMap (itemsV (plain k)) = [] := by
      rw [flatMap_eq (g := fun _ => [])]
      · simp
      · intro v hv
        apply itemsV_len0
        by_cases e : v.len = 0
        · exact e
        · have := hall v hv e; have := cls_rng v; omega
    obtain ⟨h1, h2, h3, h4, h5, h6⟩ := noneV_facts (headC vs) hh (plain k)
    exact ⟨h1, h2, h3, by omega, (by rw [h5]; intro b hb; cases hb), h6.trans he.symm, htd⟩
  · rw [if_neg hc, if_pos (by omega)]
    have hc3 : c = 0 ∨ c = 1 ∨ c = 2 := by omega
    obtain ⟨h1, h2⟩ := joinS_kind c hc3 vs
    refine ⟨joinS_cls hc3 vs, h1, h2, Nat.le_trans (joinS_len c vs) hm, ?_, itemsV_join _ hc3 hall, htd⟩
    intro b hb
    obtain ⟨v, hv, hb⟩ := joinS_boxes hb
    exact (hA v hv).sm b hb
theorem joinC_joinP {δ α γ : Type} (fv : δ → VecD α) (fp : δ → PlainD γ) : ∀ (l : List δ) (c : Int), (∀ x ∈ l, (fv x).len = (fp x).items.length ∧ (fv x).cls = (fp x).fill) → joinC c (l.map fv) = joinP c (l.map fp) ∧ headC (l.map fv) = headF (l.map fp)
  | [], c, _ => ⟨rfl, rfl⟩
  | x :: l, c, h => by
    obtain ⟨h1, h2⟩ := h x (by simp)
    refine ⟨?_, h2⟩
    have ih := fun c => (joinC_joinP fv fp l c (fun y hy => h y (List.mem_cons_of_mem _ hy))).1
    rw [List.map_cons, List.map_cons, joinC, joinP, h1, h2]
    by_cases e : (fp x).items.length = 0
    · rw [if_pos e, if_neg (by omega), if_neg (by omega)]; exact ih c
    · rw [if_neg e]
      by_cases e2 : 0 ≤ c ∧ c ≠ (fp x).fill
      · rw [if_pos e2, if_pos ⟨by omega, e2⟩]
      · rw [if_neg e2, if_neg (fun e3 => e2 e3.2), if_pos (by omega)]; exact ih _
end Go.Proofs.YtmojpbfkpggjhaaGreat

/-
  Contracts of functions of package value: arrays made of elements, a number, a character, a box alone. No statement is proved here.
-/
namespace Go.Proofs.YtmojpbfkpggjhaaGreat
open Go Go.RowKit
set_option linter.unusedVariables false
set_option linter.unusedSimpArgs false
set_option maxHeartbeats 4000000
attribute [local irreducible] CW RW QW SW HW ConM retM heldQ calmQ elemP thenQ blockQ loopQ joinQ retQ Yields Con Sl zF magR unitF truncF fwF wholeF tidySpec elemQ rankF leastN tidyW

section
variable {α : Type} {R : GHeap → List Value → α → Prop}
/-- what is wrong with elements of a shape -/
def newE (l : List Int) (v : VecD α) : Int := if (product l 1048576).2 ≠ 0 then (product l 1048576).2 else if v.kind = 0 then 1 else if (product l 1048576).1 ≠ v.len then 23 else 0
theorem valueNew_con (hR : Mono R) (s : Value) (l : List Int) (cs : List Value) (v : VecD α) (w : World) (h : GHeap) (hl : IntsAt h s l) (hv : VecAt R h cs v) : Con Tryz.prog 69 [s, .agg cs.toArray] w h (OfPost (ArrR R) (newE l v) ⟨l, v.sq⟩) := by
  have hl' := hl
  obtain ⟨ad, cp, rfl, hS⟩ := hl
  have hsl : l.length ≤ 9223372036854775807 := by have := hS.caps; omega
  have hv' := hv
  obtain ⟨wv, nv, sm, il, fl, ch, bx, ⟨rfl, hoc⟩, hk⟩ := hv
  clear hk
  unfold newE
  refine Con.of_body Tryz.func69 rfl Tryz.ntmps69 rfl rfl ?_
  intro hs
  refine Zrun ?_
  (refine RW.boxN hs rfl rfl ?_; intro b1 w1 hs)
  (refine RW.allocN T hs rfl rfl rfl rfl ?_; intro b2 w2 hs)
  refine Zerun ?_
  (refine RW.call T hs rfl rfl rfl (product_con _ l 1048576 _ _ hl' hsl) ?_; intro v h3 w3 hle3 hp3 hs)
  subst hp3
  have hl' := hl'.mono hle3
  have hv' := hv'.mono hR hle3
  generalize hpr : product l 1048576 = r
  obtain ⟨n, e⟩ := r
  dsimp only
  by_cases c1 : e ≠ 0
  · rw [if_pos c1]
    refine Zerun ?_
    refine RW.val (Y.build T rfl rfl rfl rfl rfl rfl rfl) rfl ?_
    refine Zerun ?_
    (refine RW.storeAll T hs 0 rfl rfl rfl rfl rfl rfl rfl rfl ?_; intro w4 hs)
    refine Zerun ?_
    exact retQ_ret [_, _] h3 ⟨resN T hs 0 rfl rfl rfl rfl rfl rfl, rfl, trivial⟩ hs.dropAll (OfPost.bad c1)
  rw [if_neg c1]
  refine Zerun ?_
  (refine RW.call T hs rfl rfl rfl (vecKind_con _ v _ _ hv') ?_; intro v h4 w4 hle4 hp4 hs)
  subst hp4
  have hl' := hl'.mono hle4
  have hv' := hv'.mono hR hle4
  by_cases c2 : v.kind = 0
  · rw [if_pos c2]
    refine Zerun ?_
    refine RW.val (Y.build T rfl rfl rfl rfl rfl rfl rfl) rfl ?_
    (refine RW.storeAll T hs 0 rfl rfl rfl rfl rfl rfl rfl rfl ?_; intro w5 hs)
    refine Zerun ?_
    exact retQ_ret [_, _] h4 ⟨resN T hs 0 rfl rfl rfl rfl rfl rfl, rfl, trivial⟩ hs.dropAll (OfPost.bad (by omega))
  rw [if_neg c2]
  refine Zerun ?_
  (refine RW.call T hs rfl rfl rfl (vecLen_con _ v _ _ hv') ?_; intro v h5 w5 hle5 hp5 hs)
  subst hp5
  have hl' := hl'.mono hle5
  have hv' := hv'.mono hR hle5
  by_cases c3 : n ≠ v.len
  · rw [if_pos c3]
    refine Zerun ?_
    refine RW.val (Y.build T rfl rfl rfl rfl rfl rfl rfl) rfl ?_
    (refine RW.storeAll T hs 0 rfl rfl rfl rfl rfl rfl rfl rfl ?_; intro w6 hs)
    refine Zerun ?_
    exact retQ_ret [_, _] h5 ⟨resN T hs 0 rfl rfl rfl rfl rfl rfl, rfl, trivial⟩ hs.dropAll (OfPost.bad (by omega))
  rw [if_neg c3]
  have hpr2 : product l 1048576 = ((v.len : Int), 0) := by rw [hpr, Decidable.of_not_not c1, Decidable.of_not_not c3]
  have hln := product_le hpr2
  have hlen := hln.2
  refine Zerun ?_
  refine CW.regionH T (fun w' : World => ∃ (h' : GHeap) (O : List Row) (k : Nat), Sees w h h' O w' ∧ O[k]? = some (Row.mk (some ⟨b1, 0, none⟩) 1 1 37 8 (vecCells v.kind wv nv sm il fl ch bx))) ?_
  rintro w4 rfl
  have hs := hs.drew
  refine HW.take (fuel := 6) 0 rfl (v := .slice ad l.length cp) ?_ ?_ rfl (by kernel_rfl) (by kernel_rfl) (by kernel_rfl) ?_
  · intro w' _; exact Y.move rfl
  · exact ⟨_, _, 1, hs, rfl⟩
  refine HW.take (fuel := 5) 2 rfl (v := .agg (vecCells v.kind wv nv sm il fl ch bx).toArray) ?_ ?_ rfl (by kernel_rfl) (by kernel_rfl) (by kernel_rfl) ?_
  · rintro w' ⟨h', O, k, hs', e0⟩; exact Y.loadRowN T hs' k e0 rfl rfl rfl rfl rfl rfl
  · exact ⟨_, _, 1, hs, rfl⟩
  refine HW.one (fuel := 4) 1 rfl (by kernel_rfl) ?_
  (refine RW.call T hs rfl rfl rfl (cloneInts_con _ l _ _ hl' (by omega)) ?_; intro v h5 w5 hle5 hp5 hs)
  have hl5 := hp5
  obtain ⟨ad5, cp5, rfl, _⟩ := hp5
  have hv' := hv'.mono hR hle5
  refine RW.nil ?_
  refine heldQ_normal ⟨_, _, 1, hs, rfl⟩ ?_
  refine HW.one (fuel := 3) 3 rfl (by kernel_rfl) ?_
  (refine RW.call T hs rfl rfl rfl (sqSqueeze_con hR _ v _ _ hv' hlen) ?_; intro v h6 w6 hle6 hp6 hs)
  obtain ⟨cs6, rfl, hv6⟩ := hp6
  have hl5 := hl5.mono hle6
  have hv6' := hv6
  obtain ⟨wv', nv', sm', il', fl', ch', bx', ⟨rfl, hoc6⟩, _⟩ := hv6
  generalize v.sq.kind = vk at *
  refine RW.nil ?_
  refine heldQ_normal ⟨_, _, 1, hs, rfl⟩ ?_
  refine HW.take (fuel := 2) 4 rfl (v := .agg (.slice ad5 l.length cp5 :: vecCells vk wv' nv' sm' il' fl' ch' bx').toArray) ?_ ?_ rfl (by kernel_rfl) (by kernel_rfl) (by kernel_rfl) ?_
  · intro w' _; exact Y.build T rfl rfl rfl rfl rfl rfl rfl
  · exact ⟨_, _, 1, hs, rfl⟩
  refine HW.one (fuel := 1) 5 rfl (by kernel_rfl) ?_
  (refine RW.storeAll T hs 0 rfl rfl rfl rfl rfl rfl hoc6 rfl ?_; intro w7 hs)
  refine RW.nil ?_
  refine heldQ_normal ⟨_, _, 1, hs, rfl⟩ ?_
  refine HW.one (fuel := 0) 6 rfl (by kernel_rfl) ?_
  refine RW.val (Y.assign rfl) rfl ?_
  refine RW.nil ?_
  refine heldQ_normal ⟨_, _, 1, hs, rfl⟩ ?_
  refine HW.done (by kernel_rfl) ?_
  refine calmQ_normal ?_
  refine Zerun ?_
  refine retQ_ret [_, _] h6 ⟨resN T hs 0 rfl rfl rfl rfl rfl rfl, rfl, trivial⟩ hs.dropAll ⟨_, rfl, rfl, ?_, fun _ => ⟨_, _, rfl, hl5, hv6'⟩, fun e => absurd rfl e⟩
  intro u hu
  rcases List.mem_cons.1 hu with rfl | hu
  · rfl
  · exact List.all_eq_true.1 hoc6 u hu
end
end Go.Proofs.YtmojpbfkpggjhaaGreat

/-
  Contracts of the law's own functions of layer 7: which shapes elements can have. No statement is proved here.
-/
namespace Go.Proofs.YtmojpbfkpggjhaaGreat
open Go Go.RowKit
set_option linter.unusedVariables false
set_option linter.unusedSimpArgs false
set_option maxHeartbeats 4000000
attribute [local irreducible] CW RW QW SW HW ConM retM heldQ calmQ elemP thenQ blockQ loopQ joinQ retQ Yields Con Sl zF magR unitF truncF fwF wholeF tidySpec elemQ rankF leastN tidyW

/-- the plain array of numbers -/
def numsP {α : Type} (l : List Nat) : PlainD α := ⟨[(l.length : Int)], l.map fun x => ⟨0, x, 0, []⟩, 0⟩
theorem refNums_con {α : Type} {R : GHeap → List Value → α → Prop} (hR : Mono R) (s : Value) (l : List Nat) (w : World) (h : GHeap) (hl : FAt h s l) (hx : ∀ u ∈ l, u < 18446744073709551616) (hm : l.length ≤ 1048576) : Con Tryz.prog 48 [s] w h (fun h' u => ∃ cs', u = .agg cs'.toArray ∧ PlainR R h' cs' (numsP l)) := by
  obtain ⟨ad, cp, rfl, hS⟩ := hl
  refine Con.of_body Tryz.func48 rfl Tryz.ntmps48 rfl rfl ?_
  intro hs
  refine Zrun ?_
  (refine RW.allocN T hs rfl rfl rfl rfl ?_; intro b1 w1 hs)
  refine Zerun ?_
  (refine RW.lit T hs (vs := [.int .i64 l.length]) (cs := [.int .i64 l.length]) rfl rfl rfl rfl (by simp [Value.cells]) rfl rfl rfl rfl rfl ?_; intro b2 w2 hs)
  obtain ⟨h3, hle3, hs, hS3⟩ := hs.freeze
  have hI3 : IntsAt h3 (.slice (some ⟨b2, 0, none⟩) 1 1) [(l.length : Int)] := IntsAt.of_sl hS3
  refine RW.val (Y.build T rfl rfl rfl rfl rfl rfl rfl) rfl ?_
  (refine RW.allocN T hs rfl rfl rfl rfl ?_; intro b3 w3 hs)
  (refine RW.storeAll T hs 0 rfl rfl rfl rfl rfl rfl rfl rfl ?_; intro w4 hs)
  refine Zerun ?_
  have hs := hs.nilRow 69 4
  refine CW.loop (fun u : Nat × Option Addr × Nat × List Value => [(0, .slice ad l.length cp), (2, .pointer (some ⟨b1, 0, none⟩)), (3, .pointer (some ⟨b3, 0, none⟩)), (4, .int .i64 u.1)]) (fun u w' => u.1 ≤ l.length ∧ AllN 4 (ItemAt R h3) u.2.2.2 ((l.take u.1).map fun x => ⟨0, x, 0, []⟩) ∧ Sees w h h3 [⟨u.2.1, u.1, u.2.2.1, 69, 4, u.2.2.2⟩, ⟨some ⟨b3, 0, none⟩, 1, 1, 25, 3, [.slice (some ⟨b2, 0, none⟩) 1 1, .slice u.2.1 u.1 u.2.2.1, .int .i64 0]⟩, ⟨some ⟨b1, 0, none⟩, 1, 1, 25, 3, [.slice none 0 0, .slice none 0 0, .int .i64 0]⟩] w') (fun u => l.length - u.1) (0, none, 0, []) ⟨rfl, rfl, rfl, rfl, trivial⟩ ⟨by omega, rfl, hs⟩ ?_
  rintro ⟨i, ra, rc, vs⟩ w5 ⟨hi, hAv, hs⟩
  dsimp only at hi hAv hs ⊢
  by_cases hlt : i < l.length
  · have htk := take_succ_getD l i 0 hlt
    refine Zerun ?_
    refine CW.regionH T (fun w' : World => ∃ (h' : GHeap) (O : List Row), Sees w h h' O w') ?_
    rintro w7 rfl
    have hs := hs.drew
    refine HW.take (fuel := 10) 0 rfl (v := .pointer (some ⟨b3, 0 + 1, none⟩)) ?_ ?_ rfl (by kernel_rfl) (by kernel_rfl) (by kernel_rfl) ?_
    · intro w' _; exact Y.fieldAddr T rfl rfl rfl rfl rfl
    · exact ⟨_, _, hs⟩
    refine HW.take (fuel := 9) 2 rfl (v := .slice ad l.length cp) ?_ ?_ rfl (by kernel_rfl) (by kernel_rfl) (by kernel_rfl) ?_
    · intro w' _; exact Y.move rfl
    · exact ⟨_, _, hs⟩
    refine HW.take (fuel := 8) 3 rfl (v := .int .i64 i) ?_ ?_ rfl (by kernel_rfl) (by kernel_rfl) (by kernel_rfl) ?_
    · intro w' _; exact Y.move rfl
    · exact ⟨_, _, hs⟩
    refine HW.take (fuel := 7) 4 rfl (v := elemP ad i 1) ?_ ?_ rfl (by kernel_rfl) (by kernel_rfl) (by kernel_rfl) ?_
    · rintro w' ⟨h', O, hs'⟩; exact Y.idxSN T rfl rfl (hS.mono hs'.le) rfl rfl rfl hlt
    · exact ⟨_, _, hs⟩
    refine HW.take (fuel := 6) 5 rfl (v := .float .f64 (l.getD i 0)) ?_ ?_ rfl (by kernel_rfl) (by kernel_rfl) (by kernel_rfl) ?_
    · rintro w' ⟨h', O, hs'⟩; exact Y.ldS T hs' rfl (hS.mono hs'.le) rfl rfl hlt (map_get _ _ _ _ hlt)
    · exact ⟨_, _, hs⟩
    refine HW.take (fuel := 5) 6 rfl (v := .agg [.int .i64 0, .float .f64 (l.getD i 0), .int .i32 0, .slice none 0 0].toArray) ?_ ?_ rfl (by kernel_rfl) (by kernel_rfl) (by kernel_rfl) ?_
    · intro w' _; exact Y.build T rfl rfl rfl rfl rfl rfl rfl
    · exact ⟨_, _, hs⟩
    refine HW.two (fuel := 4) 1 7 rfl rfl (by kernel_rfl) ?_ ?_
    · refine RW.val (Y.loadRow1 T hs 1 rfl rfl rfl rfl rfl) rfl ?_
      refine RW.nil ?_
      refine heldQ_normal ⟨_, _, hs⟩ ?_
      refine HW.one (fuel := 3) 7 rfl (by kernel_rfl) ?_
      (refine RW.lit T hs (vs := [.agg [.int .i64 0, .float .f64 (l.getD i 0), .int .i32 0, .slice none 0 0].toArray]) (cs := [.int .i64 0, .float .f64 (l.getD i 0), .int .i32 0, .slice none 0 0]) rfl rfl rfl rfl (by simp [Value.cells]) rfl rfl rfl rfl rfl ?_; intro b8 w8 hs)
      refine RW.nil ?_
      refine heldQ_normal ⟨_, _, hs⟩ ?_
      refine HW.one (fuel := 2) 8 rfl (by kernel_rfl) ?_
      (refine RW.append T hs 1 rfl rfl (m := 1) (news := [.int .i64 0, .float .f64 (l.getD i 0), .int .i32 0, .slice none 0 0]) rfl rfl rfl rfl rfl rfl (hs.src0 rfl (by simp [Value.oneCell'])) (by simp) (by dsimp only; omega) (by omega) ?_; intro ad9 cp9 w9 hs; replace hs := hs.drop)
      refine RW.nil ?_
      refine heldQ_normal ⟨_, _, hs⟩ ?_
      refine HW.take (fuel := 1) 9 rfl (v := .pointer (some ⟨b3, 0 + 1, none⟩)) ?_ ?_ rfl (by kernel_rfl) (by kernel_rfl) (by kernel_rfl) ?_
      · intro w' _; exact Y.fieldAddr T rfl rfl rfl rfl rfl
      · exact ⟨_, _, hs⟩
      refine HW.one (fuel := 0) 10 rfl (by kernel_rfl) ?_
      (refine RW.store1 T hs 1 rfl rfl rfl rfl rfl rfl rfl rfl ?_; intro w10 hs)
      refine RW.nil ?_
      refine heldQ_normal ⟨_, _, hs⟩ ?_
      refine HW.done (by kernel_rfl) ?_
      refine calmQ_normal ?_
      refine Zerun ?_
      refine loopQ_round (i + 1, ad9, cp9, _) ⟨rfl, rfl, rfl, rfl, trivial⟩ ⟨by dsimp only; omega, ?_, hs⟩ (by dsimp only; omega)
      dsimp only
      rw [htk, List.map_append]
      exact hAv.append (AllN.one rfl (ItemAt.mk' (x := ⟨0, l.getD i 0, 0, []⟩) (RowsAt.nil _) (hx _ (mem_getD _ _ _ hlt))))
    · (refine RW.lit T hs (vs := [.agg [.int .i64 0, .float .f64 (l.getD i 0), .int .i32 0, .slice none 0 0].toArray]) (cs := [.int .i64 0, .float .f64 (l.getD i 0), .int .i32 0, .slice none 0 0]) rfl rfl rfl rfl (by simp [Value.cells]) rfl rfl rfl rfl rfl ?_; intro b8 w8 hs)
      refine RW.nil ?_
      refine heldQ_normal ⟨_, _, hs⟩ ?_
      refine HW.one (fuel := 3) 1 rfl (by kernel_rfl) ?_
      refine RW.val (Y.loadRow1 T hs 2 rfl rfl rfl rfl rfl) rfl ?_
      refine RW.nil ?_
      refine heldQ_normal ⟨_, _, hs⟩ ?_
      refine HW.one (fuel := 2) 8 rfl (by kernel_rfl) ?_
      (refine RW.append T hs 1 rfl rfl (m := 1) (news := [.int .i64 0, .float .f64 (l.getD i 0), .int .i32 0, .slice none 0 0]) rfl rfl rfl rfl rfl rfl (hs.src0 rfl (by simp [Value.oneCell'])) (by simp) (by dsimp only; omega) (by omega) ?_; intro ad9 cp9 w9 hs; replace hs := hs.drop)
      refine RW.nil ?_
      refine heldQ_normal ⟨_, _, hs⟩ ?_
      refine HW.take (fuel := 1) 9 rfl (v := .pointer (some ⟨b3, 0 + 1, none⟩)) ?_ ?_ rfl (by kernel_rfl) (by kernel_rfl) (by kernel_rfl) ?_
      · intro w' _; exact Y.fieldAddr T rfl rfl rfl rfl rfl
      · exact ⟨_, _, hs⟩
      refine HW.one (fuel := 0) 10 rfl (by kernel_rfl) ?_
      (refine RW.store1 T hs 1 rfl rfl rfl rfl rfl rfl rfl rfl ?_; intro w10 hs)
      refine RW.nil ?_
      refine heldQ_normal ⟨_, _, hs⟩ ?_
      refine HW.done (by kernel_rfl) ?_
      refine calmQ_normal ?_
      refine Zerun ?_
      refine loopQ_round (i + 1, ad9, cp9, _) ⟨rfl, rfl, rfl, rfl, trivial⟩ ⟨by dsimp only; omega, ?_, hs⟩ (by dsimp only; omega)
      dsimp only
      rw [htk, List.map_append]
      exact hAv.append (AllN.one rfl (ItemAt.mk' (x := ⟨0, l.getD i 0, 0, []⟩) (RowsAt.nil _) (hx _ (mem_getD _ _ _ hlt))))
  · obtain rfl : i = l.length := by omega
    rw [List.take_length] at hAv
    obtain ⟨h6, hle6, hs, hS6⟩ := hs.freeze
    refine Zerun ?_
    (refine RW.storeAll T hs 1 rfl rfl rfl rfl rfl rfl rfl rfl ?_; intro w7 hs)
    refine Zerun ?_
    refine retQ_ret [_] h6 ⟨resN T hs 1 rfl rfl rfl rfl rfl rfl, trivial⟩ hs.dropAll ⟨_, rfl, _, _, rfl, hI3.mono hle6, ra, rc, vs, by simp [numsP], ?_, hAv.mono (fun u a => ItemAt.mono hR _ _ u a hle6)⟩
    simpa [numsP] using hS6
theorem sq_nums {α : Type} (vk : Int) (N : List Nat) (h1 : 1 ≤ vk) (h4 : vk ≤ 4) : (⟨vk, N, [], []⟩ : VecD α).sq = ⟨leastN N, N, [], []⟩ := by
  unfold VecD.sq VecD.cls
  have e5 : ¬ vk = 5 := by omega
  have e6 : ¬ vk = 6 := by omega
  simp only [if_neg e5, if_neg e6]
  rw [if_pos ⟨trivial, by omega⟩]
end Go.Proofs.YtmojpbfkpggjhaaGreat

/-
  Plain Lean on arrays of numbers, and of one number: good ones, told plainly. No statement is proved here.
-/
namespace Go.Proofs.YtmojpbfkpggjhaaGreat
open Go Go.RowKit
set_option linter.unusedVariables false
set_option linter.unusedSimpArgs false
set_option maxHeartbeats 4000000
attribute [local irreducible] CW RW QW SW HW ConM retM heldQ calmQ elemP thenQ blockQ loopQ joinQ retQ Yields Con Sl zF magR unitF truncF fwF wholeF tidySpec elemQ rankF leastN tidyW

theorem product_len1 (n : Nat) (h : n ≤ 1048576) : product [(n : Int)] 1048576 = ((n : Int), 0) := by
  have hg : goodS [(n : Int)] = true := (goodS_spec _).2 ⟨by simp, by intro d hd; rw [List.mem_singleton.1 hd]; omega, by simp [pr]; omega⟩
  rw [product_good _ hg]
  by_cases c : n = 0
  · subst c; simp
  · rw [if_neg (by simp; omega)]
    simp [pr]; omega
theorem product_0 : product [] 1048576 = (1, 0) := by decide
theorem numsP_chk (k : Nat) (l : List Nat) (hf : ∀ x ∈ l, finF x) (hm : l.length ≤ 1048576) : chk (k + 1) 40 (numsP l : PlainD (PD k)) = 0 := by
  refine (chkP_ok (α := PD k) _ _ _).2 ⟨by omega, Int.le_refl _, (by show (0 : Int) ≤ 2; omega), ?_, fun x hx => ?_⟩
  · show product [(l.length : Int)] 1048576 = (((l.map fun x => (⟨0, x, 0, []⟩ : ItemD (PD k))).length : Int), 0)
    rw [product_len1 _ hm, List.length_map]
  · obtain ⟨y, hy, rfl⟩ := List.mem_map.1 hx
    exact ⟨rfl, fun e => absurd (show (0 : Int) = 2 from e) (by decide), fun _ => hf y hy⟩
def numQ (k : Nat) (x : Nat) : PD (k + 1) := (⟨[], [⟨0, x, 0, []⟩], 0⟩ : PlainD (PD k))
theorem numV_cls {α : Type} (N : List Nat) : (⟨leastN N, N, [], []⟩ : VecD α).cls = 0 := by
  have hb := leastN_bounds N
  unfold VecD.cls; dsimp only; rw [if_neg (by omega), if_neg (by omega)]
theorem refOne_con {α : Type} {R : GHeap → List Value → α → Prop} (x : Nat) (w : World) (h : GHeap) (hx : x < 18446744073709551616) : Con Tryz.prog 17 [.float .f64 x] w h (fun h' u => ∃ cs', u = .agg cs'.toArray ∧ PlainR R h' cs' (⟨[], [⟨0, x, 0, []⟩], 0⟩ : PlainD α)) := by
  refine Con.of_body Tryz.func17 rfl Tryz.ntmps17 rfl rfl ?_
  intro hs
  refine Zrun ?_
  (refine RW.allocN T hs rfl rfl rfl rfl ?_; intro b1 w1 hs)
  refine Zerun ?_
  refine RW.val (Y.build T rfl rfl rfl rfl rfl rfl rfl) rfl ?_
  (refine RW.lit T hs (vs := [.agg [.int .i64 0, .float .f64 x, .int .i32 0, .slice none 0 0].toArray]) (cs := [.int .i64 0, .float .f64 x, .int .i32 0, .slice none 0 0]) rfl rfl rfl rfl (by simp [Value.cells]) rfl rfl rfl rfl rfl ?_; intro b2 w2 hs)
  obtain ⟨h3, hle3, hs, hS3⟩ := hs.freeze
  refine RW.val (Y.build T rfl rfl rfl rfl rfl rfl rfl) rfl ?_
  (refine RW.storeAll T hs 0 rfl rfl rfl rfl rfl rfl rfl rfl ?_; intro w4 hs)
  refine Zerun ?_
  exact retQ_ret [_] h3 ⟨resN T hs 0 rfl rfl rfl rfl rfl rfl, trivial⟩ hs.dropAll ⟨_, rfl, _, _, rfl, RowAt.nil _, RowsAt.single hS3 (ItemAt.mk' (x := ⟨0, x, 0, []⟩) (RowsAt.nil _) hx)⟩
theorem numQ_chk (k x : Nat) (h : finF x) : chk (k + 1) 40 (numQ k x) = 0 := by
  refine (chkP_ok (α := PD k) _ _ _).2 ⟨by omega, Int.le_refl _, (by show (0 : Int) ≤ 2; omega), product_0, fun y hy => ?_⟩
  rw [List.mem_singleton.1 hy]
  exact ⟨rfl, fun e => absurd (show (0 : Int) = 2 from e) (by decide), fun _ => h⟩
end Go.Proofs.YtmojpbfkpggjhaaGreat

/-
  Plain laws of arrays behind each other: what is told, or which error. No statement is proved here.
-/
namespace Go.Proofs.YtmojpbfkpggjhaaGreat
open Go Go.RowKit
set_option linter.unusedVariables false
set_option linter.unusedSimpArgs false
set_option maxHeartbeats 4000000
attribute [local irreducible] CW RW QW SW HW ConM retM heldQ calmQ elemP thenQ blockQ loopQ joinQ retQ Yields Con Sl zF magR unitF truncF fwF wholeF tidySpec elemQ rankF leastN tidyW
set_option maxHeartbeats 4000000

/-! ## What is told -/
def zeroQ {α : Type} : PlainD α := ⟨[], [], 0⟩
/-- what is told of an array, and of a plain one; or an error's number -/
def ResX (k : Nat) (e : Int) (a : AD (k + 1)) (p : PD (k + 1)) : Prop := (e = 0 ∧ good (k + 1) 40 a ∧ plain (k + 1) a = p ∧ tdy (k + 1) p) ∨ ((e = 22 ∨ e = 23 ∨ e = 24 ∨ e = 26) ∧ a = (⟨[], VecD.none⟩ : ArrD (AD k)))
structure Tells (k : Nat) (x : VecD (AD (k + 1))) (L : List (ItemD (PD (k + 1)))) (c : Int) : Prop where
  sh : Shown (k + 1) x L c
  hg : ∀ b ∈ x.boxes, good (k + 1) (40 - 1) b
  ln : L.length = x.len
theorem tells_of (k : Nat) (p : PD (k + 2)) (h : GHeap) (cs : List Value) (hp : PlainAt (k + 2) h cs p) (hc : chk (k + 2) 40 p = 0) : Tells k (ArrD.vec (α := AD (k + 1)) (arr (k + 2) p)) (PlainD.items (α := PD (k + 1)) (tidy (k + 2) p)) (PlainD.fill (α := PD (k + 1)) (tidy (k + 2) p)) ∧ product (PlainD.shape (α := PD (k + 1)) p) 1048576 = (((ArrD.vec (α := AD (k + 1)) (arr (k + 2) p)).len : Int), 0) := by
  obtain ⟨_, _, _, h4, _⟩ := (chkP_ok (α := PD (k + 1)) _ _ _).1 hc
  have hl : (PlainD.items (α := PD (k + 1)) (tidy (k + 2) p)).length = (PlainD.items (α := PD (k + 1)) p).length := List.length_map ..
  have hg := good_arr (k + 2) 40 p hc
  have hg2 : product (PlainD.shape (α := PD (k + 1)) p) 1048576 = (((ArrD.vec (α := AD (k + 1)) (arr (k + 2) p)).len : Int), 0) := hg.1
  refine ⟨⟨shown_of k p h cs hp hc, hg.2.2.2.2, ?_⟩, hg2⟩
  rw [h4] at hg2
  have := congrArg Prod.fst hg2
  dsimp only at this
  omega
theorem sqC2 {α : Type} {v : VecD α} (h : v.cls ≠ 0) : v.sq = v := by unfold VecD.sq; rw [if_neg (fun e => h e.1)]
theorem pickSq2 {α : Type} (v : VecD α) (at_ : List Int) (nb : α) : (v.pick at_ nb).sq = v.pick at_ nb := by
  have hb := leastN_bounds (at_.map v.num)
  unfold VecD.pick
  split
  · exact sqC2 (show (1 : Int) ≠ 0 by decide)
  · split
    · exact sqC2 (show (2 : Int) ≠ 0 by decide)
    · exact sq_nums _ _ (by omega) (by omega)
theorem leastNil2 : leastN [] = 1 := by unfold leastN; rfl
theorem noneSq2 {α : Type} (c : Int) : (noneV c : VecD α).sq = noneV c := by
  unfold noneV
  split
  · exact sqC2 (show (1 : Int) ≠ 0 by decide)
  · split
    · exact sqC2 (show (2 : Int) ≠ 0 by decide)
    · rw [sq_nums _ _ (by omega) (by omega), leastNil2]
theorem joinSq2 {α : Type} (c : Int) (l : List (VecD α)) : (joinS c l).sq = joinS c l := by
  unfold joinS
  split
  · exact sqC2 (show (1 : Int) ≠ 0 by decide)
  · split
    · exact sqC2 (show (2 : Int) ≠ 0 by decide)
    · have hb := leastN_bounds (l.flatMap (·.nums))
      exact sq_nums _ _ (by omega) (by omega)
theorem noneItems2 {α β : Type} (f : α → β) (c : Int) : (itemsV f (noneV c : VecD α)).length = (noneV c : VecD α).len := by
  unfold noneV
  split
  · rfl
  · split <;> rfl
theorem joinItems2 {α β : Type} (f : α → β) (c : Int) (l : List (VecD α)) : (itemsV f (joinS c l)).length = (joinS c l).len := by
  unfold joinS
  split
  · show ((l.flatMap (·.chars)).map _).length = 0 + (l.flatMap (·.chars)).length + 0
    rw [List.length_map]; omega
  · split
    · show ((l.flatMap (·.boxes)).map _).length = 0 + 0 + (l.flatMap (·.boxes)).length
      rw [List.length_map]; omega
    · rw [itemsV_c0 f (numV_cls _), List.length_map]
      rfl
theorem noneBoxes2 {α : Type} (c : Int) : (noneV c : VecD α).boxes = [] := by
  unfold noneV
  split
  · rfl
  · split <;> rfl
theorem blankGood2 (k : Nat) (d : Int) (hd : d ≠ 0) : good (k + 1) d (blankA k) := by
  refine ⟨(by show product [0] 1048576 = (((0 : Nat) : Int), 0); decide), (by show (1 : Int) ≠ 0; omega), ?_, hd, fun b hb => nomatch hb⟩
  show (1 : Int) = VecD.least (⟨1, [], [], []⟩ : VecD (AD k))
  unfold VecD.least
  rw [if_pos ⟨rfl, by dsimp only; omega⟩]
  exact leastNil2.symm
theorem Tells.pick {k : Nat} {x : VecD (AD (k + 1))} {L L' : List (ItemD (PD (k + 1)))} {c : Int} (H : Tells k x L c) (at_ : List Int) (hm : at_.length ≤ 1048576) (hL : at_.map (fun i => atD L i (blankI c : ItemD (PlainD (PD k)))) = L') : Tells k (x.pick at_ (blankA k)) L' c := by
  subst hL
  have f := pick_facts x at_ (blankA k)
  refine ⟨H.sh.pick at_ hm, fun b hb => ?_, by rw [List.length_map, f.2.2.1]⟩
  rcases f.2.2.2 b hb with e | e
  · exact H.hg b e
  · rw [e]; exact blankGood2 k _ (by omega)
/-- an array of what is told, in a shape -/
theorem Tells.shape {k : Nat} {x : VecD (AD (k + 1))} {L : List (ItemD (PD (k + 1)))} {c : Int} (H : Tells k x L c) (t : List Int) (ht : product t 1048576 = ((x.len : Int), 0)) : ResX (k + 1) 0 (⟨t, x⟩ : ArrD (AD (k + 1))) (⟨t, L, c⟩ : PlainD (PD (k + 1))) := by
  refine .inl ⟨rfl, ⟨ht, H.sh.k0, H.sh.kl, by omega, H.hg⟩, ?_, H.sh.td⟩
  show (⟨t, itemsV (plain (k + 1)) x, x.cls⟩ : PlainD (PD (k + 1))) = _
  rw [H.sh.he, H.sh.hc]
theorem Tells.sh' {k : Nat} {x : VecD (AD (k + 1))} {L : List (ItemD (PD (k + 1)))} {c : Int} (H : Tells k x L c) : Shown (k + 1) x (itemsV (plain (k + 1)) x) x.cls := by
  have := H.sh; rw [← H.sh.he, ← H.sh.hc] at this; exact this
noncomputable def joinX {k : Nat} (x y : VecD (AD (k + 1))) (c : Int) : VecD (AD (k + 1)) := if c < 0 then noneV (headC [x, y]) else joinS c [x, y]
theorem joinX_sq {k : Nat} (x y : VecD (AD (k + 1))) (c : Int) : (joinX x y c).sq = joinX x y c := by
  unfold joinX
  split
  · exact noneSq2 _
  · exact joinSq2 _ _
theorem Tells.join {k : Nat} {x y : VecD (AD (k + 1))} {L M : List (ItemD (PD (k + 1)))} {c d cj : Int} (H : Tells k x L c) (Hb : Tells k y M d) (hj : joinC (-1) [x, y] = some cj) (hsum : x.len + y.len ≤ 1048576) : Tells k (joinX x y cj) (L ++ M) (if 0 ≤ cj then cj else c) := by
  have hS := shown_join hj (by
    intro z hz
    simp only [List.mem_cons, List.not_mem_nil, or_false] at hz
    rcases hz with rfl | rfl
    · exact H.sh'
    · exact Hb.sh') (by show x.len + (y.len + 0) ≤ 1048576; omega)
  have e1 : [x, y].flatMap (itemsV (plain (k + 1))) = L ++ M := by
    show itemsV (plain (k + 1)) x ++ (itemsV (plain (k + 1)) y ++ []) = _
    rw [List.append_nil, H.sh.he, Hb.sh.he]
  have e2 : headC [x, y] = c := H.sh.hc
  rw [e1, e2] at hS
  refine ⟨by unfold joinX; rw [e2]; exact hS, ?_, ?_⟩
  · unfold joinX
    split
    · rw [noneBoxes2]; exact fun z hz => nomatch hz
    · intro z hz
      obtain ⟨u, hu, hz2⟩ := joinS_boxes hz
      simp only [List.mem_cons, List.not_mem_nil, or_false] at hu
      rcases hu with e | e
      · exact H.hg z (e ▸ hz2)
      · exact Hb.hg z (e ▸ hz2)
  · rw [← hS.he]
    unfold joinX
    rw [e2]
    split
    · exact noneItems2 _ _
    · exact joinItems2 _ _ _
theorem tells_joins {k : Nat} {x y : VecD (AD (k + 1))} {L M : List (ItemD (PD (k + 1)))} {c d : Int} (H : Tells k x L c) (Hb : Tells k y M d) (s t : List Int) : joinC (-1) [x, y] = joinP (-1) [(⟨s, L, c⟩ : PlainD (PD (k + 1))), ⟨t, M, d⟩] :=
  (joinC_joinP (α := AD (k + 1)) (γ := PD (k + 1)) Prod.fst Prod.snd [(x, (⟨s, L, c⟩ : PlainD (PD (k + 1)))), (y, ⟨t, M, d⟩)] (-1) (by
    intro z hz
    simp only [List.mem_cons, List.not_mem_nil, or_false] at hz
    rcases hz with rfl | rfl
    · exact ⟨H.ln.symm, H.sh.hc⟩
    · exact ⟨Hb.ln.symm, Hb.sh.hc⟩)).1
/-! ## Axes that an array lacks -/
def spE (s0 s : List Int) : Int := if s0.length = s.length ∨ s0.length = 0 ∨ s0.length + 1 = s.length then 0 else 22
def spS (s0 s : List Int) (j : Nat) : List Int := if s0.length = s.length then s0 else if s0.length = 0 then s.set j 1 else s0.take j ++ 1 :: s0.drop j
def spN (s : List Int) (j : Nat) : Int := (product (s.set j 1) 1048576).1
noncomputable def spV {k : Nat} (a : ArrD (AD (k + 1))) (s : List Int) (j : Nat) : VecD (AD (k + 1)) := if a.shape.length = s.length then a.vec else if a.shape.length = 0 then a.vec.pick (againL (spN s j).toNat a.vec.len) (blankA k) else a.vec
noncomputable def spI {α : Type} (p : PlainD (PlainD α)) (s : List Int) (j : Nat) : List (ItemD (PlainD α)) := if p.shape.length = s.length then p.items else if p.shape.length = 0 then (againL (spN s j).toNat p.items.length).map (fun i => atD p.items i (blankI p.fill)) else p.items
theorem pr_set_le : ∀ (s : List Int) (j : Nat), pr (s.set j 1) ≤ pr s
  | [], _ => Int.le_refl _
  | d :: s, 0 => by
    show max 1 1 * pr s ≤ max 1 d * pr s
    exact Int.mul_le_mul_of_nonneg_right (by omega) (by have := pr_pos s; omega)
  | d :: s, j + 1 => by
    show max 1 d * pr (s.set j 1) ≤ max 1 d * pr s
    exact Int.mul_le_mul_of_nonneg_left (pr_set_le s j) (by omega)
theorem good_set1 {s : List Int} (h : goodS s = true) (j : Nat) : goodS (s.set j 1) = true := by
  obtain ⟨h1, h2, h3⟩ := (goodS_spec s).1 h
  refine (goodS_spec _).2 ⟨by rw [List.length_set]; exact h1, ?_, by have := pr_set_le s j; omega⟩
  intro d hd
  rcases List.mem_or_eq_of_mem_set hd with h | h
  · exact h2 d h
  · rw [h]; decide
theorem spN_spec {s : List Int} (h : goodS s = true) (j : Nat) : product (s.set j 1) 1048576 = (spN s j, 0) ∧ 0 ≤ spN s j ∧ spN s j ≤ 1048576 := by
  have hg := good_set1 h j
  have hp := product_good _ hg
  obtain ⟨_, _, h3⟩ := (goodS_spec _).1 hg
  have hpp := pr_pos (s.set j 1)
  unfold spN
  rw [hp]
  refine ⟨rfl, ?_, ?_⟩ <;> dsimp only <;> split <;> omega
theorem sp_len {s0 s : List Int} (he : spE s0 s = 0) {j : Nat} (hj : j < s.length) : (spS s0 s j).length = s.length := by
  unfold spE at he
  unfold spS
  by_cases c1 : s0.length = s.length
  · rw [if_pos c1]; exact c1
  · rw [if_neg c1]
    by_cases c2 : s0.length = 0
    · rw [if_pos c2, List.length_set]
    · rw [if_neg c2]
      have c3 : s0.length + 1 = s.length := by
        by_cases c3 : s0.length + 1 = s.length
        · exact c3
        · rw [if_neg (by omega)] at he; cases he
      rw [List.length_append, List.length_cons, List.length_take, List.length_drop]
      omega
theorem pr_mid (P S : List Int) (d : Int) : pr (P ++ d :: S) = max 1 d * pr (P ++ S) := by
  rw [pr_append, pr_append]
  show pr P * (max 1 d * pr S) = _
  rw [← Int.mul_assoc, Int.mul_comm (pr P), Int.mul_assoc]
theorem product_ins {s : List Int} {n : Int} (h : product s 1048576 = (n, 0)) (j : Nat) (hl : s.length < 8) : product (s.take j ++ 1 :: s.drop j) 1048576 = (n, 0) := by
  have hg : goodS s = true := (goodS_iff _).2 (by rw [h])
  obtain ⟨h1, h2, h3⟩ := (goodS_spec s).1 hg
  have hpr : pr (s.take j ++ 1 :: s.drop j) = pr s := by rw [pr_mid, List.take_append_drop, show max (1 : Int) 1 = 1 from rfl, Int.one_mul]
  have hg2 : goodS (s.take j ++ 1 :: s.drop j) = true := by
    refine (goodS_spec _).2 ⟨?_, ?_, by omega⟩
    · rw [List.length_append, List.length_cons, List.length_take, List.length_drop]; omega
    · intro d hd
      rcases List.mem_append.1 hd with hd | hd
      · exact h2 d (List.mem_of_mem_take hd)
      · rcases List.mem_cons.1 hd with rfl | hd
        · decide
        · exact h2 d (List.mem_of_mem_drop hd)
  rw [product_good _ hg2, hpr, ← h, product_good _ hg]
  have : (0 ∈ s.take j ++ 1 :: s.drop j) ↔ 0 ∈ s := by
    constructor
    · intro hd
      rcases List.mem_append.1 hd with hd | hd
      · exact List.mem_of_mem_take hd
      · rcases List.mem_cons.1 hd with e | hd
        · cases e
        · exact List.mem_of_mem_drop hd
    · intro hd
      rw [← List.take_append_drop j s] at hd
      rcases List.mem_append.1 hd with hd | hd
      · exact List.mem_append_left _ hd
      · exact List.mem_append_right _ (List.mem_cons_of_mem _ hd)
  simp only [this]
theorem Tells.spread {k : Nat} {a : ArrD (AD (k + 1))} {p : PlainD (PD (k + 1))} (H : Tells k a.vec p.items p.fill) (hs : a.shape = p.shape) (hp : product a.shape 1048576 = ((a.vec.len : Int), 0)) {s : List Int} (hg : goodS s = true) (he : spE a.shape s = 0) {j : Nat} (hj : j < s.length) :
    Tells k (spV a s j) (spI (α := PD k) p s j) p.fill ∧ product (spS a.shape s j) 1048576 = (((spV a s j).len : Int), 0) := by
  obtain ⟨n1, n2, n3⟩ := spN_spec hg j
  have h8 := ((goodS_spec s).1 hg).1
  unfold spV spI spS
  rw [← hs]
  by_cases c1 : a.shape.length = s.length
  · rw [if_pos c1, if_pos c1, if_pos c1]; exact ⟨H, hp⟩
  · rw [if_neg c1, if_neg c1, if_neg c1]
    by_cases c2 : a.shape.length = 0
    · rw [if_pos c2, if_pos c2, if_pos c2]
      have f := pick_facts a.vec (againL (spN s j).toNat a.vec.len) (blankA k)
      have hl := againL_length (spN s j).toNat a.vec.len
      refine ⟨H.pick _ (by omega) (congrArg (fun n => List.map (fun i => atD p.items i (blankI p.fill)) (againL (spN s j).toNat n)) H.ln.symm), ?_⟩
      rw [n1, f.2.2.1, hl]
      congr 1
      omega
    · rw [if_neg c2, if_neg c2, if_neg c2]
      refine ⟨H, product_ins hp j ?_⟩
      unfold spE at he
      by_cases c3 : a.shape.length + 1 = s.length
      · omega
      · rw [if_neg (by omega)] at he; cases he
end Go.Proofs.YtmojpbfkpggjhaaGreat

/-
  Plain laws of two arrays behind each other: the code's rows and the document's places tell the same. No statement is proved here.
-/
namespace Go.Proofs.YtmojpbfkpggjhaaGreat
open Go Go.RowKit
set_option linter.unusedVariables false
set_option linter.unusedSimpArgs false
set_option maxHeartbeats 4000000
attribute [local irreducible] CW RW QW SW HW ConM retM heldQ calmQ elemP thenQ blockQ loopQ joinQ retQ Yields Con Sl zF magR unitF truncF fwF wholeF tidySpec elemQ rankF leastN tidyW
set_option maxHeartbeats 4000000

theorem Tells.join_len {k : Nat} {x y : VecD (AD (k + 1))} {L M : List (ItemD (PD (k + 1)))} {c d cj : Int} (H : Tells k x L c) (Hb : Tells k y M d) (hj : joinC (-1) [x, y] = some cj) (hsum : x.len + y.len ≤ 1048576) : (joinX x y cj).kind ≠ 0 ∧ (joinX x y cj).len = x.len + y.len := by
  have HJ := H.join Hb hj hsum
  have e1 := HJ.ln
  rw [List.length_append, H.ln, Hb.ln] at e1
  exact ⟨HJ.sh.k0, e1.symm⟩
theorem mid_take (P S : List Int) (d : Int) : (P ++ d :: S).take P.length = P := by simp
theorem mid_drop (P S : List Int) (d : Int) : (P ++ d :: S).drop (P.length + 1) = S := by simp
theorem mid_get (P S : List Int) (d : Int) : (P ++ d :: S).getD P.length 0 = d := by simp
theorem mid_set (P S : List Int) (d e : Int) : (P ++ d :: S).set P.length e = P ++ e :: S := by
  rw [List.set_append_right _ _ (Nat.le_refl _), Nat.sub_self, List.set_cons_zero]
theorem mid_of (X : List Int) (j : Nat) (h : j < X.length) : ∃ P S d, X = P ++ d :: S ∧ P.length = j :=
  ⟨X.take j, X.drop (j + 1), X.getD j 0, by rw [← drop_pred X j h, List.take_append_drop], by rw [List.length_take]; omega⟩
theorem good_mid {P S : List Int} {d : Int} (h : goodS (P ++ d :: S) = true) : goodS P = true ∧ goodS S = true ∧ 0 ≤ d := by
  obtain ⟨h1, h2, h3⟩ := (goodS_spec _).1 h
  rw [List.length_append, List.length_cons] at h1
  have hp1 := pr_take_le (P ++ d :: S) P.length
  have hp2 := pr_drop_le (P ++ d :: S) (P.length + 1)
  rw [mid_take] at hp1
  rw [mid_drop] at hp2
  refine ⟨(goodS_spec _).2 ⟨by omega, fun e he => h2 e (List.mem_append_left _ he), by omega⟩, (goodS_spec _).2 ⟨by omega, fun e he => h2 e (List.mem_append_right _ (List.mem_cons_of_mem _ he)), by omega⟩, h2 d (List.mem_append_right _ List.mem_cons_self)⟩
theorem prod_mid0 {P S : List Int} {d n : Int} (h : product (P ++ d :: S) 1048576 = (n, 0)) (hz : 0 ∈ P ∨ 0 ∈ S) : n = 0 := by
  have hg : goodS (P ++ d :: S) = true := (goodS_iff _).2 (by rw [h])
  rw [product_good _ hg, if_pos] at h
  · exact (congrArg Prod.fst h).symm
  · rcases hz with hz | hz
    · exact List.mem_append_left _ hz
    · exact List.mem_append_right _ (List.mem_cons_of_mem _ hz)
theorem prod_mid {P S : List Int} {d n : Int} (h : product (P ++ d :: S) 1048576 = (n, 0)) (hP : ∀ e ∈ P, 1 ≤ e) (hS : ∀ e ∈ S, 1 ≤ e) : n = prn P * (d * prn S) := by
  have hg : goodS (P ++ d :: S) = true := (goodS_iff _).2 (by rw [h])
  have hd := (good_mid hg).2.2
  rw [product_good _ hg] at h
  have h := (congrArg Prod.fst h).symm
  dsimp only at h
  by_cases c : d = 0
  · rw [if_pos (List.mem_append_right _ (by rw [c]; exact List.mem_cons_self))] at h
    rw [h, c, Int.zero_mul, Int.mul_zero]
  · have hall : ∀ e ∈ P ++ d :: S, 1 ≤ e := by
      intro e he
      rcases List.mem_append.1 he with he | he
      · exact hP e he
      · rcases List.mem_cons.1 he with rfl | he
        · omega
        · exact hS e he
    rw [if_neg (fun h0 => by have := hall 0 h0; omega), ← prn_eq_pr _ hall, prn_append] at h
    exact h
theorem split_mid {P S : List Int} {d outer inner : Nat} (hg : goodS (P ++ (d : Int) :: S) = true) (hP : ∀ e ∈ P, 1 ≤ e) (hS : ∀ e ∈ S, 1 ≤ e) (po : prn P = outer) (ps : prn S = inner) : splitSpec (P ++ (d : Int) :: S) (P.length : Int) = ((outer : Int), (d : Int), (inner : Int), true) := by
  obtain ⟨g1, g2, _⟩ := good_mid hg
  have e1 : product P 1048576 = ((outer : Int), 0) := by
    rw [product_good _ g1, if_neg (fun h0 => by have := hP 0 h0; omega), ← prn_eq_pr _ hP, po]
  have e2 : product S 1048576 = ((inner : Int), 0) := by
    rw [product_good _ g2, if_neg (fun h0 => by have := hS 0 h0; omega), ← prn_eq_pr _ hS, ps]
  unfold splitSpec
  rw [if_pos ⟨hg, by omega, by rw [List.length_append, List.length_cons]; omega, by rw [Int.toNat_natCast, mid_take, e1], by rw [Int.toNat_natCast, mid_drop, e2]⟩, Int.toNat_natCast, mid_take, mid_drop, mid_get, e1, e2]
def catT (X Y : List Int) (j : Nat) : List Int := X.set j (X.getD j 0 + Y.getD j 0)
theorem cat_mid {X Y : List Int} {j la lb : Nat} {n most : Int} (hX : product X 1048576 = ((la : Int), 0)) (hY : product Y 1048576 = ((lb : Int), 0)) (hl : X.length = Y.length) (hj : j < X.length) (he : X.eraseIdx j = Y.eraseIdx j) (ht : product (catT X Y j) most = (n, 0)) :
    ((la : Int) + lb = n ∧ product (catT X Y j) 1048576 = (n, 0) ∧ n ≤ most) ∧ (n = 0 ∨ ∃ (P S : List Int) (da db outer inner : Nat), CatS P S da db outer inner ∧ X = P ++ (da : Int) :: S ∧ Y = P ++ (db : Int) :: S ∧ P.length = j ∧ catT X Y j = P ++ ((da + db : Nat) : Int) :: S ∧ la = outer * (da * inner) ∧ lb = outer * (db * inner) ∧ splitSpec X j = ((outer : Int), (da : Int), (inner : Int), true)) := by
  obtain ⟨P, S, dx, rfl, hPj⟩ := mid_of X j hj
  obtain ⟨P2, S2, dy, rfl, hPj2⟩ := mid_of Y j (by omega)
  subst hPj
  have hgX : goodS (P ++ dx :: S) = true := (goodS_iff _).2 (by rw [hX])
  have hgY : goodS (P2 ++ dy :: S2) = true := (goodS_iff _).2 (by rw [hY])
  rw [← eraseIdx_eq, ← eraseIdx_eq, mid_take, mid_drop, ← hPj2, mid_take, mid_drop] at he
  obtain ⟨rfl, rfl⟩ := List.append_inj he hPj2.symm
  obtain ⟨hgP, hgS, hdx⟩ := good_mid hgX
  obtain ⟨_, _, hdy⟩ := good_mid hgY
  have et : catT (P ++ dx :: S) (P ++ dy :: S) P.length = P ++ (dx + dy) :: S := by unfold catT; rw [mid_get, mid_get, mid_set]
  rw [et] at ht ⊢
  obtain ⟨hgt, hpt, hn0, hnm, hne⟩ := product_fits _ _ _ ht
  by_cases hz : 0 ∈ P ∨ 0 ∈ S
  · have h1 := prod_mid0 hX hz
    have h2 := prod_mid0 hY hz
    have h3 := prod_mid0 hpt hz
    exact ⟨⟨by omega, hpt, hnm⟩, .inl h3⟩
  · have hP : ∀ e ∈ P, 1 ≤ e := fun e he => by
      have := ((goodS_spec _).1 hgP).2.1 e he
      have : e ≠ 0 := fun h => hz (.inl (h ▸ he))
      omega
    have hS : ∀ e ∈ S, 1 ≤ e := fun e he => by
      have := ((goodS_spec _).1 hgS).2.1 e he
      have : e ≠ 0 := fun h => hz (.inr (h ▸ he))
      omega
    have h1 := prod_mid hX hP hS
    have h2 := prod_mid hY hP hS
    have h3 := prod_mid hpt hP hS
    have hsum : (la : Int) + lb = n := by rw [h1, h2, h3, Int.add_mul, Int.mul_add]
    refine ⟨⟨hsum, hpt, hnm⟩, ?_⟩
    by_cases hn : n = 0
    · exact .inl hn
    refine .inr ?_
    have p1 := prn_pos P hP
    have p2 := prn_pos S hS
    obtain ⟨da, rfl⟩ := Int.eq_ofNat_of_zero_le hdx
    obtain ⟨db, rfl⟩ := Int.eq_ofNat_of_zero_le hdy
    obtain ⟨outer, ho⟩ := Int.eq_ofNat_of_zero_le (show 0 ≤ prn P by omega)
    obtain ⟨inner, hi⟩ := Int.eq_ofNat_of_zero_le (show 0 ≤ prn S by omega)
    have hd : 0 < da + db := by
      rcases Nat.eq_zero_or_pos (da + db) with e | e
      · exfalso
        apply hn
        rw [h3, show ((da : Int) + (db : Int)) = 0 by omega, Int.zero_mul, Int.mul_zero]
      · exact e
    refine ⟨P, S, da, db, outer, inner, ⟨hP, hS, ho, hi, hd, hgX, hgY⟩, rfl, rfl, rfl, rfl, ?_, ?_, split_mid hgX hP hS ho hi⟩
    · rw [ho, hi, ← Int.natCast_mul, ← Int.natCast_mul] at h1; omega
    · rw [ho, hi, ← Int.natCast_mul, ← Int.natCast_mul] at h2; omega
/-! ## The answers -/
def catSh (s0 s1 : List Int) : List Int := if (if s0.length < s1.length then s1 else s0).length = 0 then [1] else if s0.length < s1.length then s1 else s0
def catAx (s : List Int) (first : Bool) : Nat := if first = true then 0 else s.length - 1
noncomputable def rowsV {k : Nat} (v : VecD (AD (k + 1))) (X Y : List Int) (j lx : Nat) : VecD (AD (k + 1)) := if j = 0 ∨ v.len = 0 then v else v.pick (rowsL (splitSpec X j).1.toNat ((splitSpec X j).2.1 * (splitSpec X j).2.2.1).toNat (Y.getD j 0 * (splitSpec X j).2.2.1).toNat lx) (blankA k)
noncomputable def catSx {k : Nat} (a b : ArrD (AD (k + 1))) (s : List Int) (j : Nat) (most : Int) : Int × ArrD (AD (k + 1)) :=
  if spE a.shape s ≠ 0 ∨ spE b.shape s ≠ 0 then (22, ⟨[], VecD.none⟩)
  else if (spS a.shape s j).eraseIdx j ≠ (spS b.shape s j).eraseIdx j then (23, ⟨[], VecD.none⟩)
  else if (product (catT (spS a.shape s j) (spS b.shape s j) j) most).2 ≠ 0 then ((product (catT (spS a.shape s j) (spS b.shape s j) j) most).2, ⟨[], VecD.none⟩)
  else match joinC (-1) [spV a s j, spV b s j] with
    | none => (24, ⟨[], VecD.none⟩)
    | some c => (0, ⟨catT (spS a.shape s j) (spS b.shape s j) j, rowsV (joinX (spV a s j) (spV b s j) c) (spS a.shape s j) (spS b.shape s j) j (spV a s j).len⟩)
noncomputable def catItems {γ : Type} (X Y : List Int) (j : Nat) (L M : List γ) (n : Int) (d : γ) : List γ := if n = 0 then [] else catL L M (prn (X.take j)).toNat (X.getD j 0 * prn (X.drop (j + 1))).toNat (Y.getD j 0 * prn (X.drop (j + 1))).toNat d
noncomputable def spQ {β : Type} (p : PlainD (PlainD β)) (s : List Int) (j : Nat) : PlainD (PlainD β) := ⟨spS p.shape s j, spI p s j, p.fill⟩
noncomputable def catRx {β : Type} (p q : PlainD (PlainD β)) (s : List Int) (j : Nat) (most : Int) : Int × PlainD (PlainD β) :=
  if spE p.shape s ≠ 0 ∨ spE q.shape s ≠ 0 then (22, zeroQ)
  else if (spS p.shape s j).eraseIdx j ≠ (spS q.shape s j).eraseIdx j then (23, zeroQ)
  else if (product (catT (spS p.shape s j) (spS q.shape s j) j) most).2 ≠ 0 then ((product (catT (spS p.shape s j) (spS q.shape s j) j) most).2, zeroQ)
  else match joinP (-1) [spQ p s j, spQ q s j] with
    | none => (24, zeroQ)
    | some c => (0, ⟨catT (spS p.shape s j) (spS q.shape s j) j, catItems (spS p.shape s j) (spS q.shape s j) j (spI p s j) (spI q s j) (product (catT (spS p.shape s j) (spS q.shape s j) j) most).1 noItem, if 0 ≤ c then c else p.fill⟩)
theorem prod_err {s : List Int} (h8 : s.length ≤ 8) (h0 : ∀ d ∈ s, 0 ≤ d) (most : Int) : (product s most).2 = 0 ∨ (product s most).2 = 26 := by
  by_cases c : pr s ≤ 1048576
  · rw [product_in s most (by omega) h0 c]
    generalize (if (0 : Int) ∈ s then (0 : Int) else pr s) = m
    unfold within
    by_cases c2 : most < m ∨ 1048576 < m
    · rw [if_pos c2]; exact .inr rfl
    · rw [if_neg c2]; exact .inl rfl
  · right
    have key : ∀ k, k ≤ s.length → ¬ pr (s.take k) ≤ 1048576 → ∃ m, m < s.length ∧ 1048576 < pr (s.take m) * s.getD m 0 := by
      intro k
      induction k with
      | zero => intro _ h; exact absurd (show pr (s.take 0) ≤ 1048576 by simp [pr]) h
      | succ k ih =>
        intro hk h
        by_cases c2 : pr (s.take k) ≤ 1048576
        · refine ⟨k, by omega, ?_⟩
          rw [pr_take_succ s k (by omega)] at h
          by_cases c3 : s.getD k 0 ≤ 1
          · rw [show max 1 (s.getD k 0) = 1 by omega, Int.mul_one] at h; omega
          · rw [show max 1 (s.getD k 0) = s.getD k 0 by omega] at h; omega
        · exact ih (by omega) c2
    obtain ⟨m, hm, hb⟩ := key s.length (Nat.le_refl _) (by rw [List.take_length]; exact c)
    rw [product_over s most (by omega) h0 m hm hb]
theorem catSh_pos (s0 s1 : List Int) : 0 < (catSh s0 s1).length := by
  unfold catSh
  generalize (if s0.length < s1.length then s1 else s0) = m
  by_cases h : m.length = 0
  · rw [if_pos h]; decide
  · rw [if_neg h]; omega
theorem catSh_good {s0 s1 : List Int} (h0 : goodS s0 = true) (h1 : goodS s1 = true) : goodS (catSh s0 s1) = true := by
  have key : ∀ m, goodS m = true → goodS (if m.length = 0 then [1] else m) = true := by
    intro m hm
    by_cases h : m.length = 0
    · rw [if_pos h]; decide
    · rw [if_neg h]; exact hm
  exact key _ (by split; exact h1; exact h0)
theorem catAx_lt {s : List Int} (h : 0 < s.length) (first : Bool) : catAx s first < s.length := by
  unfold catAx; split <;> omega
theorem catT_len (X Y : List Int) (j : Nat) : (catT X Y j).length = X.length := List.length_set
theorem cat_fin {k : Nat} {x y : VecD (AD (k + 1))} {L M : List (ItemD (PD (k + 1)))} {c d cj n most : Int} {X Y : List Int} {j : Nat} (Ha : Tells k x L c) (Hc : Tells k y M d) (hX : product X 1048576 = ((x.len : Int), 0)) (hY : product Y 1048576 = ((y.len : Int), 0)) (hl : X.length = Y.length) (hj : j < X.length) (he : X.eraseIdx j = Y.eraseIdx j) (hpt : product (catT X Y j) most = (n, 0)) (hmost : most ≤ 1048576) (hjc : joinC (-1) [x, y] = some cj) :
    Tells k (rowsV (joinX x y cj) X Y j x.len) (catItems X Y j L M n noItem) (if 0 ≤ cj then cj else c) ∧ (rowsV (joinX x y cj) X Y j x.len).sq = rowsV (joinX x y cj) X Y j x.len ∧ ((rowsV (joinX x y cj) X Y j x.len).len : Int) = n := by
  obtain ⟨⟨hsum, hp1, hnm⟩, hcase⟩ := cat_mid hX hY hl hj he hpt
  have hsum2 : x.len + y.len ≤ 1048576 := by omega
  have HJ := Ha.join Hc hjc hsum2
  have hsq := joinX_sq x y cj
  have hll := HJ.ln
  rw [List.length_append, Ha.ln, Hc.ln] at hll
  unfold rowsV catItems
  rcases hcase with h0 | ⟨P, S, da, db, outer, inner, hC, eX, eY, hPj, eT, hla, hlb, hsp⟩
  · have hz : (joinX x y cj).len = 0 := by omega
    rw [if_pos (.inr hz), if_pos h0]
    have hnil : L ++ M = [] := List.eq_nil_of_length_eq_zero (by rw [List.length_append, Ha.ln, Hc.ln]; omega)
    rw [hnil] at HJ
    exact ⟨HJ, hsq, by omega⟩
  · have hpos := hC.pos
    have hLa : L.length = outer * (da * inner) := by rw [Ha.ln, hla]
    have hLb : M.length = outer * (db * inner) := by rw [Hc.ln, hlb]
    have h0 := hC.h0
    have hpi : 0 < da * inner + db * inner := by rw [← Nat.add_mul]; exact Nat.mul_pos h0 hpos.1
    have hn0 : ¬ n = 0 := by
      have := Nat.mul_pos hpos.2 hpi
      rw [Nat.mul_add] at this
      omega
    rw [if_neg hn0, hsp, eX, eY, ← hPj, mid_take, mid_drop, mid_get, mid_get, hC.po, hC.ps, ← Int.natCast_mul, ← Int.natCast_mul, Int.toNat_natCast, Int.toNat_natCast, Int.toNat_natCast]
    by_cases cz : P.length = 0 ∨ (joinX x y cj).len = 0
    · rw [hPj] at cz ⊢
      rw [if_pos cz]
      have hP0 : j = 0 := by
        rcases cz with e | e
        · exact e
        · exfalso; omega
      have hPn : P = [] := List.eq_nil_of_length_eq_zero (by omega)
      have ho1 : outer = 1 := by
        have := hC.po
        rw [hPn] at this
        have : (1 : Int) = outer := this
        omega
      subst ho1
      rw [Nat.one_mul] at hLa hLb
      rw [← hLa, ← hLb, cat_one]
      exact ⟨HJ, hsq, by omega⟩
    · rw [hPj] at cz ⊢
      rw [if_neg cz]
      have hrl : (rowsL outer (da * inner) (db * inner) x.len).length = outer * (da * inner + db * inner) := rowsL_len _ _ _ _
      have hrl2 : outer * (da * inner + db * inner) = x.len + y.len := by rw [Nat.mul_add, hla, hlb]
      refine ⟨HJ.pick _ (by omega) ?_, pickSq2 _ _ _, ?_⟩
      · rw [← Ha.ln]
        exact rows_cat _ _ outer (da * inner) (db * inner) _ _ hLa hLb hpi
      · rw [(pick_facts _ _ _).2.2.1, hrl, hrl2]
        omega
/-- what both tell, where all goes well or not -/
theorem cat_res {k : Nat} {a b : ArrD (AD (k + 1))} {p q : PlainD (PD (k + 1))} (H : Tells k a.vec p.items p.fill) (Hb : Tells k b.vec q.items q.fill) (hs : a.shape = p.shape) (hsb : b.shape = q.shape) (hp : product a.shape 1048576 = ((a.vec.len : Int), 0)) (hq : product b.shape 1048576 = ((b.vec.len : Int), 0)) {s : List Int} {j : Nat} (hgs : goodS s = true) (hj : j < s.length) {most : Int} (hmost : most ≤ 1048576) :
    (catSx a b s j most).1 = (catRx (β := PD k) p q s j most).1 ∧ ResX (k + 1) (catSx a b s j most).1 (catSx a b s j most).2 (catRx (β := PD k) p q s j most).2 ∧ (∀ v, (catSx a b s j most).1 = 0 → (catSx a b s j most).2 = v → ArrD.vec v = (ArrD.vec v).sq ∧ ((ArrD.vec v).len : Int) ≤ most ∧ Tells k (ArrD.vec v) (PlainD.items (α := PD (k + 1)) (catRx (β := PD k) p q s j most).2) (PlainD.fill (α := PD (k + 1)) (catRx (β := PD k) p q s j most).2) ∧ ArrD.shape v = PlainD.shape (α := PD (k + 1)) (catRx (β := PD k) p q s j most).2 ∧ product (ArrD.shape v) 1048576 = (((ArrD.vec v).len : Int), 0)) := by
  unfold catSx catRx
  rw [← hs, ← hsb]
  by_cases c1 : spE a.shape s ≠ 0 ∨ spE b.shape s ≠ 0
  · rw [if_pos c1, if_pos c1]; exact ⟨rfl, .inr ⟨.inl rfl, rfl⟩, fun v h => absurd h (show ¬ (22 : Int) = 0 by decide)⟩
  rw [if_neg c1, if_neg c1]
  have ea : spE a.shape s = 0 := Decidable.of_not_not fun h => c1 (.inl h)
  have eb : spE b.shape s = 0 := Decidable.of_not_not fun h => c1 (.inr h)
  obtain ⟨Ha, hX⟩ := H.spread hs hp hgs ea hj
  obtain ⟨Hc, hY⟩ := Hb.spread hsb hq hgs eb hj
  have lX := sp_len ea hj
  have lY := sp_len eb hj
  by_cases c2 : (spS a.shape s j).eraseIdx j ≠ (spS b.shape s j).eraseIdx j
  · rw [if_pos c2, if_pos c2]; exact ⟨rfl, .inr ⟨.inr (.inl rfl), rfl⟩, fun v h => absurd h (show ¬ (23 : Int) = 0 by decide)⟩
  rw [if_neg c2, if_neg c2]
  have c2 := Decidable.of_not_not c2
  have hgX := (goodS_spec _).1 ((goodS_iff _).2 (by rw [hX]) : goodS (spS a.shape s j) = true)
  have hgY := (goodS_spec _).1 ((goodS_iff _).2 (by rw [hY]) : goodS (spS b.shape s j) = true)
  by_cases c3 : (product (catT (spS a.shape s j) (spS b.shape s j) j) most).2 ≠ 0
  · rw [if_pos c3, if_pos c3]
    refine ⟨rfl, .inr ⟨.inr (.inr (.inr ?_)), rfl⟩, fun v h => absurd h c3⟩
    rcases prod_err (s := catT (spS a.shape s j) (spS b.shape s j) j) (by rw [catT_len]; exact hgX.1) (fun d hd => by
      rcases List.mem_or_eq_of_mem_set hd with h | h
      · exact hgX.2.1 d h
      · have h1 := hgX.2.1 _ (mem_getD (spS a.shape s j) j 0 (by omega))
        have h2 := hgY.2.1 _ (mem_getD (spS b.shape s j) j 0 (by omega))
        omega) most with e | e
    · exact absurd e c3
    · exact e
  rw [if_neg c3, if_neg c3]
  obtain ⟨n, hn⟩ : ∃ n, (product (catT (spS a.shape s j) (spS b.shape s j) j) most).1 = n := ⟨_, rfl⟩
  have hpt : product (catT (spS a.shape s j) (spS b.shape s j) j) most = (n, 0) := by rw [← hn, ← Decidable.of_not_not c3]
  obtain ⟨⟨hsum, hp1, hnm⟩, hcase⟩ := cat_mid hX hY (by omega) (by omega) c2 hpt
  have hsum2 : (spV a s j).len + (spV b s j).len ≤ 1048576 := by omega
  have hjj : joinC (-1) [spV a s j, spV b s j] = joinP (γ := PlainD (PD k)) (-1) [spQ (β := PD k) p s j, spQ (β := PD k) q s j] := tells_joins Ha Hc (spS p.shape s j) (spS q.shape s j)
  rcases hjc : joinC (-1) [spV a s j, spV b s j] with _ | c
  · rw [← hjj, hjc]; exact ⟨rfl, .inr ⟨.inr (.inr (.inl rfl)), rfl⟩, fun v h => absurd h (show ¬ (24 : Int) = 0 by decide)⟩
  rw [← hjj, hjc, hn]
  dsimp only
  have fin := cat_fin Ha Hc hX hY (by omega) (by omega) c2 hpt hmost hjc
  obtain ⟨f1, f2, f3⟩ := fin
  refine ⟨rfl, f1.shape _ (by rw [hp1, f3]), fun v _ hv => ?_⟩
  subst hv
  exact ⟨f2.symm, by dsimp only; omega, f1, rfl, by dsimp only; rw [hp1, f3]⟩
end Go.Proofs.YtmojpbfkpggjhaaGreat

/-
  Contracts of functions of package pick: places along an axis, turned on. No statement is proved here.
-/
namespace Go.Proofs.YtmojpbfkpggjhaaGreat
open Go Go.RowKit
set_option linter.unusedVariables false
set_option linter.unusedSimpArgs false
set_option maxHeartbeats 4000000
attribute [local irreducible] CW RW QW SW HW ConM retM heldQ calmQ elemP thenQ blockQ loopQ joinQ retQ Yields Con Sl zF magR unitF truncF fwF wholeF tidySpec elemQ rankF leastN tidyW
set_option maxHeartbeats 4000000

section
variable {α : Type} {R : GHeap → List Value → α → Prop}
end
end Go.Proofs.YtmojpbfkpggjhaaGreat

/-
  Contracts of functions of package shape and of its reference, third part: places and indexes. No statement is proved here.
-/
namespace Go.Proofs.YtmojpbfkpggjhaaGreat
open Go Go.RowKit
set_option linter.unusedVariables false
set_option linter.unusedSimpArgs false
set_option maxHeartbeats 4000000
attribute [local irreducible] CW RW QW SW HW ConM retM heldQ calmQ elemP thenQ blockQ loopQ joinQ retQ Yields Con Sl

theorem place_con (s t : Value) (l m : List Int) (w : World) (h : GHeap) (hl : IntsAt h s l) (ht : IntsAt h t m) (hm : l.length ≤ 9223372036854775807) : Con Tryz.prog 97 [s, t] w h
    (fun _ v => v = .int .i64 (if (atSpec l m).2 = true then (atSpec l m).1 else -1)) := by
  have hl' := hl
  obtain ⟨ad, cp, rfl, hS⟩ := hl
  obtain ⟨ad2, cp2, rfl, hS2⟩ := ht
  refine Con.of_body Tryz.func97 rfl Tryz.ntmps97 rfl rfl ?_
  intro hs
  refine Zrun ?_
  (refine RW.call T hs rfl rfl rfl (refGood_con _ l _ _ hl' hm) ?_; intro v h1 w1 hle1 hp1 hs)
  subst hp1
  have hS := hS.mono hle1
  have hS2 := hS2.mono hle1
  refine Zrun ?_
  refine RW.gd rfl rfl (fun hg => ?_) (fun hg => ?_)
  · refine Zrun ?_
    exact retQ_ret [_] h1 ⟨rfl, trivial⟩ hs (by simp [packv, at_bad l m hg])
  have hg := Decidable.of_not_not hg
  refine Zrun ?_
  refine CW.condD rfl (fun h8 => ?_) (fun h8 => ?_)
  · refine Zrun ?_
    exact retQ_ret [_] h1 ⟨rfl, trivial⟩ hs (by simp [packv, at_len l m (by omega)])
  have hlen : l.length = m.length := by omega
  refine Zrun ?_
  refine CW.loop (fun k : Nat => [(0, .slice ad l.length cp), (1, .slice ad2 m.length cp2), (5, .int .i64 (off (l.drop k) (m.drop k))), (6, .int .i64 (prn (l.drop k))), (7, .int .i64 ((k : Int) - 1))]) (fun k w' => k ≤ l.length ∧ (∀ j, k ≤ j → j < l.length → 0 ≤ m.getD j 0 ∧ m.getD j 0 < l.getD j 0) ∧ Sees w h h1 [] w') (fun k => k) l.length ⟨rfl, rfl, by simp [off]; rfl, by simp [prn]; rfl, rfl, trivial⟩ ⟨by omega, by omega, hs⟩ ?_
  rintro k w' ⟨hk, hno, hs⟩
  have hob := off_drop_bound l m k hg hlen hno
  rcases k with _ | k
  · refine Zrun ?_
    refine retQ_ret [_] h1 ⟨rfl, trivial⟩ hs ?_
    simp [packv, at_in l m hg hlen (fun j hj => hno j (by omega) hj)]
  · have e1 : ((k + 1 : Nat) : Int) - 1 = (k : Int) := by omega
    rw [e1]
    have hgd := good_getD l hg k (by omega)
    refine Zrun ?_
    refine CW.regionQ T hs (Zqrun ?_) (by kernel_rfl)
    refine QW.gd rfl rfl (fun h2 => ?_) (fun h2 => ?_)
    · repeat
        first | with_reducible refine QW.nil ?_ | refine Qz ?_ rfl | refine QW.guardYes rfl rfl ?_ | refine QW.guardNo rfl rfl rfl rfl ?_ | refine QW.guardUndef rfl rfl rfl ?_ | (refine QW.gdY rfl rfl ?_ ?_; omega) | (refine QW.gdN rfl rfl ?_ ?_; omega)
      intro w' hs
      refine Zrun ?_
      exact retQ_ret [_] h1 ⟨rfl, trivial⟩ hs (by simp [packv, at_out l m k (by omega) (by omega)])
    · repeat
        first | with_reducible refine QW.nil ?_ | refine Qz ?_ rfl | refine QW.guardYes rfl rfl ?_ | refine QW.guardNo rfl rfl rfl rfl ?_ | refine QW.guardUndef rfl rfl rfl ?_ | (refine QW.gdY rfl rfl ?_ ?_; omega) | (refine QW.gdN rfl rfl ?_ ?_; omega)
      intro w' hs
      refine Zrun ?_
      refine CW.condD rfl (fun h3 => ?_) (fun h3 => ?_)
      · refine Zrun ?_
        exact retQ_ret [_] h1 ⟨rfl, trivial⟩ hs (by simp [packv, at_out l m k (by omega) (by omega)])
      · have hmb := mul_bound (a := prn (l.drop (k + 1))) (b := m.getD k 0) (by omega) (by omega)
        have hmb2 := mul_bound (a := prn (l.drop (k + 1))) (b := l.getD k 0) (by omega) (by omega)
        refine Zrun ?_
        refine RW.val (Y.mul rfl rfl ⟨by omega, by omega⟩) rfl ?_
        refine Zrun ?_
        refine RW.val (Y.mul rfl rfl ⟨by omega, by omega⟩) rfl ?_
        refine Zrun ?_
        refine loopQ_round k ⟨rfl, rfl, seti (by rw [off_drop l m k hlen (by omega), Int.mul_comm, Int.add_comm]), seti (by rw [prn_drop l k (by omega), Int.mul_comm]), rfl, trivial⟩ ⟨by omega, ?_, hs⟩ (by omega)
        intro j hj hj2
        by_cases e : j = k
        · subst e; omega
        · exact hno j (by omega) hj2
end Go.Proofs.YtmojpbfkpggjhaaGreat

/-
  Contracts of functions of package shape and of its reference, fourth part: new shapes. No statement is proved here.
-/
namespace Go.Proofs.YtmojpbfkpggjhaaGreat
open Go Go.RowKit
set_option linter.unusedVariables false
set_option linter.unusedSimpArgs false
set_option maxHeartbeats 4000000
attribute [local irreducible] CW RW QW SW HW ConM retM heldQ calmQ elemP thenQ blockQ loopQ joinQ retQ Yields Con Sl

/-- a clone of a slice of int: the caller's own -/
theorem cloneInt_conM (ad : Option Addr) (cp : Nat) (l : List Int) (w0 w : World) (h0 h : GHeap) (O : List Row) (hS : Sl h 1 ad l.length cp (l.map (Value.int .i64))) (hm : l.length ≤ 17592186044416) :
    ConM Tryz.prog 64 [.slice ad l.length cp] w0 h0 h O w (fun h' O' v => h' = h ∧ ∃ ad' cp', v = .slice ad' l.length cp' ∧ O' = ⟨ad', l.length, cp', 3, 1, l.map (Value.int .i64)⟩ :: O) := by
  refine ConM.of_body Tryz.func64 rfl Tryz.ntmps64 rfl rfl ?_
  intro hs
  refine Zrun ?_
  refine RW.val (Y.sliceNil T rfl rfl rfl) rfl ?_
  refine Zrun ?_
  cases ad with
  | none =>
    have h4 : l = [] := List.eq_nil_of_length_eq_zero hS.nil0.1
    subst h4
    refine Zrun ?_
    exact retM_ret [_] h _ ⟨rfl, trivial⟩ (GLe.refl _) (hs.nilRow 3 1) ⟨rfl, none, 0, rfl, rfl⟩
  | some p =>
    refine Zrun ?_
    (refine RW.lit T hs (vs := []) rfl rfl rfl rfl (by simp [Value.cells]) rfl rfl rfl rfl rfl ?_; intro b1 w1 hs)
    refine Zrun ?_
    refine RW.append T hs 0 rfl rfl (m := l.length) (news := l.map (Value.int .i64)) rfl rfl rfl rfl rfl rfl (hS.src hs.agree (one_ints _ _)) (by simp) (by dsimp only; omega) (by omega) ?_
    intro ad' cp' w2 hs
    refine Zrun ?_
    exact retM_ret [_] h _ ⟨rfl, trivial⟩ (GLe.refl _) hs ⟨rfl, ad', cp', by rw [Nat.zero_add]; rfl, by simp⟩

theorem equalInt_con (s t : Value) (l m : List Int) (w : World) (h : GHeap) (hl : IntsAt h s l) (ht : IntsAt h t m) (hm : l.length ≤ 9223372036854775807) : Con Tryz.prog 123 [s, t] w h (fun _ v => v = .bool (decide (l = m))) := by
  obtain ⟨ad, cp, rfl, hS⟩ := hl
  obtain ⟨ad2, cp2, rfl, hS2⟩ := ht
  refine Con.of_body Tryz.func123 rfl Tryz.ntmps123 rfl rfl ?_
  intro hs
  refine Zrun ?_
  refine CW.condD rfl (fun h8 => ?_) (fun h8 => ?_)
  · refine Zrun ?_
    refine retQ_ret [_] h ⟨rfl, trivial⟩ hs ?_
    have : l ≠ m := fun e => h8 (by rw [e])
    simp [packv, this]
  have hlen : l.length = m.length := by omega
  refine Zrun ?_
  refine CW.loop (fun k : Nat => [(0, .slice ad l.length cp), (1, .slice ad2 m.length cp2), (12, .int .i64 l.length), (13, .int .i64 k)]) (fun k w' => k ≤ l.length ∧ (∀ j, j < k → l.getD j 0 = m.getD j 0) ∧ Sees w h h [] w') (fun k => l.length - k) 0 ⟨rfl, rfl, rfl, rfl, trivial⟩ ⟨by omega, by omega, hs⟩ ?_
  rintro k w' ⟨hk, hno, hs⟩
  by_cases hlt : k < l.length
  · refine Zrun ?_
    refine CW.regionQ T hs (Zqrun ?_) (by kernel_rfl)
    intro w' hs
    refine Zrun ?_
    refine CW.condD rfl (fun h2 => ?_) (fun h2 => ?_)
    · refine Zrun ?_
      refine retQ_ret [_] h ⟨rfl, trivial⟩ hs ?_
      have : l ≠ m := fun e => h2 (by rw [e])
      simp [packv, this]
    · refine Zrun ?_
      refine loopQ_round (k + 1) ⟨rfl, rfl, rfl, rfl, trivial⟩ ⟨by omega, ?_, hs⟩ (by omega)
      intro j hj
      by_cases e : j = k
      · subst e; exact Decidable.of_not_not h2
      · exact hno j (by omega)
  obtain rfl : k = l.length := by omega
  refine Zrun ?_
  refine retQ_ret [_] h ⟨rfl, trivial⟩ hs ?_
  have : l = m := by
    apply List.ext_getElem hlen
    intro j h1 h2
    have := hno j h1
    simpa [List.getD_eq_getElem?_getD, h1, h2] using this
  simp [packv, this]

theorem same_con (s t : Value) (l m : List Int) (w : World) (h : GHeap) (hl : IntsAt h s l) (ht : IntsAt h t m) (hm : l.length ≤ 9223372036854775807) : Con Tryz.prog 66 [s, t] w h (fun _ v => v = .bool (decide (l = m))) := by
  refine Con.of_body Tryz.func66 rfl Tryz.ntmps66 rfl rfl ?_
  intro hs
  refine Zrun ?_
  (refine RW.call T hs rfl rfl rfl (equalInt_con s t l m _ _ hl ht hm) ?_; intro v h1 w1 hle1 hp1 hs)
  subst hp1
  refine Zrun ?_
  exact retQ_ret [_] h1 ⟨rfl, trivial⟩ hs rfl

end Go.Proofs.YtmojpbfkpggjhaaGreat

/-
  Contracts of functions of package shape and of its reference, fifth part. No statement is proved here.
-/
namespace Go.Proofs.YtmojpbfkpggjhaaGreat
open Go Go.RowKit
set_option linter.unusedVariables false
set_option linter.unusedSimpArgs false
set_option maxHeartbeats 4000000
attribute [local irreducible] CW RW QW SW HW ConM retM heldQ calmQ elemP thenQ blockQ loopQ joinQ retQ Yields Con Sl

theorem split_con (s : Value) (l : List Int) (axis : Int) (w : World) (h : GHeap) (hl : IntsAt h s l) (hm : l.length ≤ 9223372036854775807) : Con Tryz.prog 80 [s, .int .i64 axis] w h
    (fun _ v => v = .tuple #[.int .i64 (splitSpec l axis).1, .int .i64 (splitSpec l axis).2.1, .int .i64 (splitSpec l axis).2.2.1, .bool (splitSpec l axis).2.2.2]) := by
  have hl' := hl
  obtain ⟨ad, cp, rfl, hS⟩ := hl
  have bad : ¬ splitOk l axis → splitSpec l axis = (0, 0, 0, false) := fun hn => by unfold splitSpec; rw [if_neg hn]
  refine Con.of_body Tryz.func80 rfl Tryz.ntmps80 rfl rfl ?_
  intro hs
  refine Zrun ?_
  (refine RW.call T hs rfl rfl rfl (good_con _ l _ _ hl' hm) ?_; intro v h1 w1 hle1 hp1 hs)
  subst hp1
  have hS := hS.mono hle1
  refine Zrun ?_
  refine RW.gd rfl rfl (fun hg => ?_) (fun hg => ?_)
  · have hb := bad (fun e => hg ((goodS_iff l).1 e.1))
    refine Zrun ?_
    exact retQ_ret [_, _, _, _] h1 ⟨rfl, rfl, rfl, rfl, trivial⟩ hs (by rw [hb]; rfl)
  have hg := Decidable.of_not_not hg
  refine Zrun ?_
  refine RW.gd rfl rfl (fun h2 => ?_) (fun h2 => ?_)
  · have hb := bad (fun e => by have := e.2.1; omega)
    refine Zrun ?_
    exact retQ_ret [_, _, _, _] h1 ⟨rfl, rfl, rfl, rfl, trivial⟩ hs (by rw [hb]; rfl)
  refine Zrun ?_
  refine CW.condD rfl (fun h3 => ?_) (fun h3 => ?_)
  · have hb := bad (fun e => by have := e.2.2.1; omega)
    refine Zrun ?_
    exact retQ_ret [_, _, _, _] h1 ⟨rfl, rfl, rfl, rfl, trivial⟩ hs (by rw [hb]; rfl)
  obtain ⟨q, rfl⟩ := Int.eq_ofNat_of_zero_le (show 0 ≤ axis by omega)
  have hq : q < l.length := by omega
  have hcaps := hS.caps
  refine Zrun ?_
  refine RW.val (Y.sliceHi T rfl rfl rfl rfl ?_) rfl ?_
  · omega
  have hlt : (l.take q).length = q := by simp; omega
  have hT1 : IntsAt h1 (.slice ad q cp) (l.take q) := by
    have := hS.take q (by omega)
    rw [Nat.mul_one, ← List.map_take] at this
    exact IntsAt.of_sl this
  (refine RW.call T hs rfl rfl rfl (product_con _ (l.take q) 1048576 _ _ hT1 (by omega)) ?_; intro v h2 w2 hle2 hp2 hs)
  subst hp2
  have hS := hS.mono hle2
  refine Zrun ?_
  refine RW.val (Y.sliceLo T rfl rfl rfl rfl ?_ ?_) rfl ?_
  · omega
  · omega
  have hT2 : IntsAt h2 (.slice (subAd ad (q + 1) cp 1) (l.length - (q + 1)) (cp - (q + 1))) (l.drop (q + 1)) := by
    have := hS.from (q + 1) (by omega)
    rw [Nat.mul_one, ← List.map_drop] at this
    exact IntsAt.of_sl this
  (refine RW.call T hs rfl rfl rfl (product_con _ (l.drop (q + 1)) 1048576 _ _ hT2 (by simp; omega)) ?_; intro v h4 w4 hle4 hp4 hs)
  subst hp4
  have hS := hS.mono hle4
  refine Zrun ?_
  have hsp : splitSpec l (q : Int) = if (product (l.take q) 1048576).2 = 0 ∧ (product (l.drop (q + 1)) 1048576).2 = 0 then ((product (l.take q) 1048576).1, l.getD q 0, (product (l.drop (q + 1)) 1048576).1, true) else (0, 0, 0, false) := by
    unfold splitSpec splitOk
    simp only [Int.toNat_natCast]
    have e1 : goodS l = true := (goodS_iff l).2 hg
    have e2 : (0 : Int) ≤ (q : Int) := by omega
    have e3 : (q : Int) < (l.length : Int) := by omega
    simp only [e1, e2, e3, true_and]
  refine RW.gd rfl rfl (fun h5 => ?_) (fun h5 => ?_)
  · refine Zrun ?_
    exact retQ_ret [_, _, _, _] h4 ⟨rfl, rfl, rfl, rfl, trivial⟩ hs (by rw [hsp, if_neg (fun e => h5 e.1)]; rfl)
  have h5 := Decidable.of_not_not h5
  refine Zrun ?_
  refine CW.condD rfl (fun h6 => ?_) (fun h6 => ?_)
  · refine Zrun ?_
    exact retQ_ret [_, _, _, _] h4 ⟨rfl, rfl, rfl, rfl, trivial⟩ hs (by rw [hsp, if_neg (fun e => h6 e.2)]; rfl)
  have h6 := Decidable.of_not_not h6
  refine Zrun ?_
  refine CW.regionQ T hs (Zqrun ?_) (by kernel_rfl)
  intro w hs
  refine Zrun ?_
  exact retQ_ret [_, _, _, _] h4 ⟨rfl, rfl, rfl, rfl, trivial⟩ hs (by rw [hsp, if_pos ⟨h5, h6⟩]; rfl)

end Go.Proofs.YtmojpbfkpggjhaaGreat

/-
  Contracts of functions of package shape and of its reference, sixth part. No statement is proved here.
-/
namespace Go.Proofs.YtmojpbfkpggjhaaGreat
open Go Go.RowKit
set_option linter.unusedVariables false
set_option linter.unusedSimpArgs false
set_option maxHeartbeats 4000000
attribute [local irreducible] CW RW QW SW HW ConM retM heldQ calmQ elemP thenQ blockQ loopQ joinQ retQ Yields Con Sl

/-- an element of a row of the caller's own is taken out, in place -/
theorem deleteInt_conM (ad : Option Addr) (cp i : Nat) (l : List Int) (w0 w : World) (h0 h : GHeap) (O : List Row) (hi : i < l.length) (hm : l.length ≤ 17592186044416) :
    ConM Tryz.prog 130 [.slice ad l.length cp, .int .i64 i, .int .i64 ((i : Int) + 1)] w0 h0 h (⟨ad, l.length, cp, 3, 1, l.map (Value.int .i64)⟩ :: O) w (fun h' O' v => h' = h ∧ v = .slice ad (l.length - 1) cp ∧ O' = ⟨ad, l.length - 1, cp, 3, 1, (l.eraseIdx i).map (Value.int .i64)⟩ :: O) := by
  refine ConM.of_body Tryz.func130 rfl Tryz.ntmps130 rfl rfl ?_
  intro hs
  obtain ⟨b, rfl⟩ := hs.rowAt (k := 0) rfl (by omega)
  have hcap := (hs.rowCap (k := 0) rfl)
  simp only [maxLen] at hcap
  refine Zrun ?_
  refine RW.val (Y.slice3 T rfl rfl rfl rfl rfl rfl ?_) rfl ?_
  · omega
  refine Zrun ?_
  refine CW.regionT T 6 hs ?_ (by kernel_rfl)
  intro w hs
  simp only [List.take_succ_cons, List.take_zero, List.drop_succ_cons, List.drop_zero]
  repeat
    first | with_reducible refine SW.nil ?_ | refine SW.val (Y.move rfl) rfl ?_ | refine SW.val (Y.assign rfl) rfl ?_ | (refine SW.val (Y.add rfl rfl ?_) rfl ?_; omega) | (refine SW.val (Y.sub rfl rfl ?_) rfl ?_; omega) | refine SW.val (Y.len T rfl rfl) rfl ?_ | (refine SW.val (Y.idxSN T rfl rfl (by assumption) rfl rfl rfl ?_) rfl ?_; omega) | (refine SW.val (Y.idxS T rfl rfl (by assumption) rfl rfl rfl ?_) rfl ?_; omega) | (refine SW.val (Y.ldInt T hs rfl (by assumption) rfl rfl ?_) rfl ?_; omega)
  refine SW.val (Y.sliceHi T rfl rfl rfl rfl ?_) rfl ?_
  · omega
  repeat
    first | with_reducible refine SW.nil ?_ | refine SW.val (Y.move rfl) rfl ?_ | refine SW.val (Y.assign rfl) rfl ?_ | (refine SW.val (Y.add rfl rfl ?_) rfl ?_; omega) | (refine SW.val (Y.sub rfl rfl ?_) rfl ?_; omega) | refine SW.val (Y.len T rfl rfl) rfl ?_ | (refine SW.val (Y.idxSN T rfl rfl (by assumption) rfl rfl rfl ?_) rfl ?_; omega) | (refine SW.val (Y.idxS T rfl rfl (by assumption) rfl rfl rfl ?_) rfl ?_; omega) | (refine SW.val (Y.ldInt T hs rfl (by assumption) rfl rfl ?_) rfl ?_; omega)
  refine SW.val (Y.sliceLo T rfl rfl rfl rfl ?_ ?_) rfl ?_
  · omega
  · omega
  repeat
    first | with_reducible refine SW.nil ?_ | refine SW.val (Y.move rfl) rfl ?_ | refine SW.val (Y.assign rfl) rfl ?_ | (refine SW.val (Y.add rfl rfl ?_) rfl ?_; omega) | (refine SW.val (Y.sub rfl rfl ?_) rfl ?_; omega) | refine SW.val (Y.len T rfl rfl) rfl ?_ | (refine SW.val (Y.idxSN T rfl rfl (by assumption) rfl rfl rfl ?_) rfl ?_; omega) | (refine SW.val (Y.idxS T rfl rfl (by assumption) rfl rfl rfl ?_) rfl ?_; omega) | (refine SW.val (Y.ldInt T hs rfl (by assumption) rfl rfl ?_) rfl ?_; omega)
  have e1 : ((i : Int) + 1).toNat = i + 1 := by omega
  refine RW.appendSelf T hs 0 (p := i) (q := i + 1) (m := l.length) rfl rfl rfl rfl rfl rfl ?_ ?_ ?_ ?_ rfl ?_
  · simp only [e1]
  · omega
  · omega
  · exact one_ints _ _
  intro w2 hs
  refine Zrun ?_
  refine RW.val (Y.sliceLH T rfl rfl rfl rfl rfl ?_) rfl ?_
  · omega
  refine RW.clear T hs 0 (q := l.length - 1) rfl rfl rfl rfl rfl ?_ rfl rfl ?_ ?_ ?_ ?_ ?_
  · intro u hu; simp [Value.cells] at hu; subst hu; rfl
  · have : ((↑(i + (l.length - (i + 1))) : Int)).toNat = l.length - 1 := by omega
    rw [this]
  · omega
  · omega
  · omega
  intro w3 hs
  refine Zrun ?_
  refine retM_ret [_] h _ ⟨rfl, trivial⟩ (GLe.refl _) hs ⟨rfl, ?_, ?_⟩
  · simp only [packv]
    congr 1; omega
  · have e2 : i + (l.length - (i + 1)) = l.length - 1 := by omega
    simp only [List.set_cons_zero, e2, Nat.mul_one, ← List.map_take, ← List.map_drop, ← List.map_append, eraseIdx_eq]

theorem without_con (s : Value) (l : List Int) (axis : Int) (w : World) (h : GHeap) (hl : IntsAt h s l) (hm : l.length ≤ 17592186044416) : Con Tryz.prog 82 [s, .int .i64 axis] w h
    (fun h' v => ∃ u, v = .tuple #[u, .bool (withoutSpec l axis).2] ∧ IntsAt h' u (withoutSpec l axis).1) := by
  obtain ⟨ad, cp, rfl, hS⟩ := hl
  have bad : ¬ (0 ≤ axis ∧ axis < l.length) → withoutSpec l axis = ([], false) := fun hn => by unfold withoutSpec; rw [if_neg hn]
  refine Con.of_body Tryz.func82 rfl Tryz.ntmps82 rfl rfl ?_
  intro hs
  refine Zrun ?_
  refine RW.gd rfl rfl (fun h2 => ?_) (fun h2 => ?_)
  · have hb := bad (fun e => by have := e.1; omega)
    refine Zrun ?_
    exact retQ_ret [_, _] h ⟨rfl, rfl, trivial⟩ hs (by rw [hb]; exact ⟨_, rfl, IntsAt.nil _⟩)
  refine Zrun ?_
  refine CW.condD rfl (fun h3 => ?_) (fun h3 => ?_)
  · have hb := bad (fun e => by have := e.2; omega)
    refine Zrun ?_
    exact retQ_ret [_, _] h ⟨rfl, rfl, trivial⟩ hs (by rw [hb]; exact ⟨_, rfl, IntsAt.nil _⟩)
  obtain ⟨q, rfl⟩ := Int.eq_ofNat_of_zero_le (show 0 ≤ axis by omega)
  have hq : q < l.length := by omega
  have hw : withoutSpec l (q : Int) = (l.eraseIdx q, true) := by
    unfold withoutSpec
    rw [if_pos ⟨by omega, by omega⟩]
    simp
  refine Zrun ?_
  (refine RW.callM T hs rfl rfl rfl (cloneInt_conM ad cp l _ _ _ _ _ hS hm) ?_; intro v h1 O1 w1 hle1 hp1 hs)
  obtain ⟨rfl, ad', cp', rfl, rfl⟩ := hp1
  refine Zrun ?_
  (refine RW.callM T hs rfl rfl rfl (deleteInt_conM ad' cp' q l _ _ _ _ _ hq hm) ?_; intro v h2 O2 w2 hle2 hp2 hs)
  obtain ⟨rfl, rfl, rfl⟩ := hp2
  obtain ⟨h3, hle3, hs, hS3⟩ := hs.freeze
  refine Zrun ?_
  exact retQ_ret [_, _] h3 ⟨rfl, rfl, trivial⟩ hs (by rw [hw]; exact ⟨_, rfl, IntsAt.of_sl hS3⟩)

theorem refWith_con (s : Value) (l : List Int) (axis : Nat) (n : Int) (w : World) (h : GHeap) (hl : IntsAt h s l) (hm : l.length ≤ 17592186044416) (ha : axis < l.length) : Con Tryz.prog 95 [s, .int .i64 axis, .int .i64 n] w h
    (fun h' v => IntsAt h' v (l.set axis n)) := by
  obtain ⟨ad, cp, rfl, hS⟩ := hl
  refine Con.of_body Tryz.func95 rfl Tryz.ntmps95 rfl rfl ?_
  intro hs
  refine Zrun ?_
  (refine RW.lit T hs (vs := []) rfl rfl rfl rfl (by simp [Value.cells]) rfl rfl rfl rfl rfl ?_; intro b1 w1 hs)
  refine Zrun ?_
  refine RW.append T hs 0 rfl rfl (m := l.length) (news := l.map (Value.int .i64)) rfl rfl rfl rfl rfl rfl (hS.src hs.agree (one_ints _ _)) (fun e => by subst e; exact hS.nil0.2) (by dsimp only; omega) (by omega) ?_
  intro ad' cp' w2 hs
  refine Zrun ?_
  refine RW.val (Y.idxRN T hs 0 rfl rfl rfl rfl rfl rfl ?_) rfl ?_
  · omega
  refine RW.st1 T hs 0 rfl rfl rfl rfl rfl rfl rfl (by omega) ?_
  intro w3 hs
  obtain ⟨h3, hle3, hs, hS3⟩ := hs.freeze
  refine Zrun ?_
  refine retQ_ret [_] h3 ⟨rfl, trivial⟩ hs ?_
  simp only [List.flatMap_nil, List.nil_append, map_set_int] at hS3
  exact IntsAt.of_sl hS3

theorem refWithout_con (s : Value) (l : List Int) (axis : Int) (w : World) (h : GHeap) (hl : IntsAt h s l) (hm : l.length ≤ 17592186044416) (ha : 0 ≤ axis) : Con Tryz.prog 94 [s, .int .i64 axis] w h
    (fun h' v => IntsAt h' v (l.eraseIdx axis.toNat)) := by
  obtain ⟨ad, cp, rfl, hS⟩ := hl
  obtain ⟨q, rfl⟩ := Int.eq_ofNat_of_zero_le ha
  refine Con.of_body Tryz.func94 rfl Tryz.ntmps94 rfl rfl ?_
  intro hs
  refine Zrun ?_
  have hs := hs.nilRow 3 1
  have et : ∀ k, k < l.length → ((l.take (k + 1)).eraseIdx q) = (l.take k).eraseIdx q ++ (if k = q then [] else [l.getD k 0]) := by
    intro k hk
    have hlk : (l.take k).length = k := by rw [List.length_take]; omega
    rw [take_snoc l k 0 hk, List.eraseIdx_append, hlk]
    by_cases hq : q < k
    · rw [if_pos hq, if_neg (by omega)]
    · rw [if_neg hq, List.eraseIdx_of_length_le (l := l.take k) (by omega)]
      by_cases e : k = q
      · subst e; simp
      · rw [if_neg e, List.eraseIdx_of_length_le (by simp; omega)]
  refine CW.loop (fun p : Nat × Option Addr × Nat => [(0, .slice ad l.length cp), (1, .int .i64 q), (5, .slice p.2.1 ((l.take p.1).eraseIdx q).length p.2.2), (6, .int .i64 p.1)]) (fun p w' => p.1 ≤ l.length ∧ Sees w h h [⟨p.2.1, ((l.take p.1).eraseIdx q).length, p.2.2, 3, 1, ((l.take p.1).eraseIdx q).map (Value.int .i64)⟩] w') (fun p => l.length - p.1) (0, none, 0) ⟨rfl, rfl, rfl, rfl, trivial⟩ ⟨by omega, hs⟩ ?_
  rintro ⟨k, ra, rc⟩ w' ⟨hk, hs⟩
  dsimp only at hk hs ⊢
  have hll : ((l.take k).eraseIdx q).length ≤ k := Nat.le_trans (List.length_eraseIdx_le ..) (by rw [List.length_take]; omega)
  by_cases hlt : k < l.length
  · have e1 := et k hlt
    by_cases hkq : k = q
    · have hkq' : ¬ ((k : Int) ≠ (q : Int)) := by omega
      rw [if_pos hkq, List.append_nil] at e1
      refine Zrun ?_
      exact loopQ_round (k + 1, ra, rc) ⟨rfl, rfl, by dsimp only; rw [e1]; rfl, rfl, trivial⟩ ⟨by dsimp only; omega, by dsimp only; rw [e1]; exact hs⟩ (by dsimp only; omega)
    · have hkq' : ((k : Int) ≠ (q : Int)) := by omega
      rw [if_neg hkq] at e1
      refine Zrun ?_
      (refine RW.lit T hs (vs := [.int .i64 (l.getD k 0)]) rfl rfl rfl rfl (by simp [Value.cells]) rfl rfl rfl rfl rfl ?_; intro b1 w1 hs)
      have hs := hs.swap
      refine RW.append T hs 0 rfl rfl (m := 1) (news := [.int .i64 (l.getD k 0)]) rfl rfl rfl rfl rfl rfl ⟨rfl, by simp [Value.oneCell'], by simp, fun p hp j u hj => ?_⟩ (by simp) (by dsimp only; omega) (by omega) ?_
      · cases hp
        rw [Addr.add_lit]
        exact hs.rowCell (k := 1) rfl (by simpa [Value.cells] using hj)
      intro ad' cp' w2 hs
      have hs := hs.swap.drop
      refine Zrun ?_
      have e2 : ((l.take (k + 1)).eraseIdx q).length = ((l.take k).eraseIdx q).length + 1 := by rw [e1]; simp
      refine loopQ_round (k + 1, ad', cp') ⟨rfl, rfl, by dsimp only; rw [e2]; rfl, rfl, trivial⟩ ⟨by dsimp only; omega, ?_⟩ (by dsimp only; omega)
      dsimp only
      rw [e2, e1, List.map_append]
      exact hs
  · obtain rfl : k = l.length := by omega
    refine Zrun ?_
    obtain ⟨h3, hle3, hs, hS3⟩ := hs.freeze
    refine retQ_ret [_] h3 ⟨rfl, trivial⟩ hs ?_
    dsimp only at hS3 ⊢
    rw [List.take_of_length_le (Nat.le_refl _)] at hS3
    simp only [packv, Int.toNat_natCast]
    rw [List.take_of_length_le (Nat.le_refl _)]
    exact IntsAt.of_sl hS3
end Go.Proofs.YtmojpbfkpggjhaaGreat

/-
  Contracts of package join: an axis, axes that an array lacks, rows behind each other. No statement is proved here.
-/
namespace Go.Proofs.YtmojpbfkpggjhaaGreat
open Go Go.RowKit
set_option linter.unusedVariables false
set_option linter.unusedSimpArgs false
set_option maxHeartbeats 4000000
attribute [local irreducible] CW RW QW SW HW ConM retM heldQ calmQ elemP thenQ blockQ loopQ joinQ retQ Yields Con Sl zF magR unitF truncF fwF wholeF tidySpec elemQ rankF leastN tidyW
set_option maxHeartbeats 4000000

theorem two_rowsV {α : Type} {R : GHeap → List Value → α → Prop} {h : GHeap} {b : Nat} {c1 c2 : List Value} {x y : α} (hS : Sl h 8 (some ⟨b, 0, none⟩) 2 2 (c1 ++ c2)) (l1 : c1.length = 8) (h1 : R h c1 x) (l2 : c2.length = 8) (h2 : R h c2 y) : RowsAt 8 (R h) h (.slice (some ⟨b, 0, none⟩) 2 2) [x, y] :=
  ⟨_, _, _, rfl, hS, (AllN.one l1 h1).append (AllN.one l2 h2)⟩
theorem rowsL_succ (t a b LA : Nat) : rowsL (t + 1) a b LA = rowsL t a b LA ++ ((List.range a).map fun i => ((t * a + i : Nat) : Int)) ++ ((List.range b).map fun i => ((LA + t * b + i : Nat) : Int)) := by
  unfold rowsL
  rw [List.range_succ, List.flatMap_append, List.append_assoc]
  simp
noncomputable def spA {k : Nat} (a : ArrD (AD (k + 1))) (s : List Int) (j : Nat) : ArrD (AD (k + 1)) := if spE a.shape s = 0 then ⟨spS a.shape s j, spV a s j⟩ else ⟨[], VecD.none⟩
theorem joinAxis_con (n : Nat) (first : Bool) (w : World) (h : GHeap) (hn : 0 < n) (hn2 : n ≤ 8) : Con Tryz.prog 90 [.int .i64 (n : Int), .bool first] w h (fun _ u => u = .int .i64 ((if first = true then 0 else n - 1 : Nat) : Int)) := by
  cases first with
  | true =>
    refine Con.of_body Tryz.func90 rfl Tryz.ntmps90 rfl rfl ?_
    intro hs
    refine Zerun ?_
    exact retQ_ret [_] h ⟨rfl, trivial⟩ hs.dropAll rfl
  | false =>
    refine Con.of_body Tryz.func90 rfl Tryz.ntmps90 rfl rfl ?_
    intro hs
    refine Zerun ?_
    exact retQ_ret [_] h ⟨rfl, trivial⟩ hs.dropAll (by show Value.int .i64 ((n : Int) - 1) = Value.int .i64 ((n - 1 : Nat) : Int); rw [show (n : Int) - 1 = ((n - 1 : Nat) : Int) by omega])
theorem joinSpread_con (k : Nat) (ca : List Value) (a : ArrD (AD (k + 1))) (sv : Value) (s : List Int) (j : Nat) (w : World) (h : GHeap) (ha : ArrAt (k + 2) h ca a) (hsv : IntsAt h sv s) (hj : j < s.length) (hg : goodS s = true) (hsh : a.shape.length ≤ 8) (hm : a.vec.len ≤ 1048576) (hk0 : a.vec.kind ≠ 0) (hI : a.shape.length = s.length ∨ a.shape.length = 0 ∨ a.shape.length + 1 ≠ s.length) :
    Con Tryz.prog 91 [.agg ca.toArray, sv, .int .i64 (j : Int)] w h (fun h' u => ∃ cs', u = .tuple #[.agg cs'.toArray, .int .i64 (spE a.shape s)] ∧ ArrAt (k + 2) h' cs' (spA a s j)) := by
  have ha' := ha
  obtain ⟨_, vca, rfl, ⟨ada, cpa, rfl, hSa⟩, hva⟩ := ha
  have hva' := hva
  obtain ⟨wa, na, sa, ia, fa, ga, xa, ⟨rfl, hoa⟩, -⟩ := hva
  have hsv' := hsv
  obtain ⟨ads, cps, rfl, hSs⟩ := hsv
  have h8 := ((goodS_spec s).1 hg).1
  refine Con.of_body Tryz.func91 rfl Tryz.ntmps91 rfl rfl ?_
  intro hs
  refine Zrun ?_
  (refine RW.boxN hs rfl rfl ?_; intro b1 w1 hs)
  (refine RW.allocN T hs rfl rfl rfl rfl ?_; intro b2 w2 hs)
  by_cases c1 : a.shape.length = s.length
  · have c1' : (a.shape.length : Int) = s.length := by omega
    have e0 : spE a.shape s = 0 := by unfold spE; rw [if_pos (.inl c1)]
    have e1 : spA a s j = a := by unfold spA; rw [if_pos e0]; unfold spS spV; rw [if_pos c1, if_pos c1]
    rw [e0, e1]
    refine Zerun ?_
    (refine RW.storeAll T hs 0 rfl rfl rfl rfl rfl rfl (by show (true && (vecCells a.vec.kind wa na sa ia fa ga xa).all Value.oneCell') = true; rw [hoa]; rfl) rfl ?_; intro w3 hs)
    refine Zerun ?_
    exact retQ_ret [_, _] h ⟨resN T hs 0 rfl rfl rfl rfl rfl rfl, rfl, trivial⟩ hs.dropAll ⟨_, rfl, ha'⟩
  by_cases c2 : a.shape.length = 0
  · have c2' : (a.shape.length : Int) = 0 := by omega
    have c1' : ¬ (a.shape.length : Int) = s.length := by omega
    have e0 : spE a.shape s = 0 := by unfold spE; rw [if_pos (.inr (.inl c2))]
    have e1 : spA a s j = ⟨s.set j 1, a.vec.pick (againL (spN s j).toNat a.vec.len) (blankA k)⟩ := by unfold spA; rw [if_pos e0]; unfold spS spV; rw [if_neg c1, if_pos c2, if_neg c1, if_pos c2]
    obtain ⟨p1, p2, p3⟩ := spN_spec hg j
    rw [e0, e1]
    refine Zerun ?_
    (refine RW.callM T hs rfl rfl rfl (cloneInt_conM ads cps s _ _ _ _ _ hSs (by omega)) ?_; intro v h3 O3 w3 hle3 hp3 hs)
    obtain ⟨rfl, ad3, cp3, rfl, rfl⟩ := hp3
    refine Zerun ?_
    refine RW.val (Y.idxRN T hs 0 rfl rfl rfl rfl rfl rfl hj) rfl ?_
    refine RW.st1 T hs 0 rfl rfl rfl rfl rfl rfl rfl hj ?_
    intro w4 hs
    dsimp only [List.set_cons_zero] at hs
    rw [map_set_int] at hs
    obtain ⟨h5, hle5, hs, hS5⟩ := hs.freeze
    have hI5 : IntsAt h5 (.slice ad3 s.length cp3) (s.set j 1) := by
      have hl : (s.set j 1).length = s.length := List.length_set
      dsimp only at hS5
      rw [← hl] at hS5 ⊢
      exact IntsAt.of_sl hS5
    refine Zerun ?_
    (refine RW.call T hs rfl rfl rfl (product_con _ (s.set j 1) 1048576 _ _ hI5 (by rw [List.length_set]; omega)) ?_; intro v h6 w6 hle6 hp6 hs)
    subst hp6
    rw [p1]
    have hI5 := hI5.mono hle6
    have hv6 := hva'.mono (ArrAt.mono (k + 1)) (hle5.trans hle6)
    refine Zerun ?_
    (refine RW.call T hs rfl rfl rfl (flatAgain_con (ArrAt.mono (k + 1)) (ArrAt.one (k + 1)) (ArrAt.siz (k + 1)) (blankA k) (fun w h => flatBlank_con (ArrAt.mono k) (ArrAt.one k) w h) _ a.vec (spN s j) _ _ hv6 hm hk0 p3) ?_; intro v h7 w7 hle7 hp7 hs)
    obtain ⟨cs7, rfl, hv7⟩ := hp7
    have hv7' := hv7
    have hI5 := hI5.mono hle7
    obtain ⟨wv7, nv7, sm7, il7, fl7, ch7, bx7, ⟨rfl, hoc7⟩, -⟩ := hv7
    refine Zerun ?_
    refine RW.val (Y.build T rfl rfl rfl rfl rfl rfl rfl) rfl ?_
    (refine RW.storeAll T hs 0 rfl rfl rfl rfl rfl rfl (by show (true && (vecCells _ wv7 nv7 sm7 il7 fl7 ch7 bx7).all Value.oneCell') = true; rw [hoc7]; rfl) rfl ?_; intro w8 hs)
    refine Zerun ?_
    exact retQ_ret [_, _] h7 ⟨resN T hs 0 rfl rfl rfl rfl rfl rfl, rfl, trivial⟩ hs.dropAll ⟨_, rfl, _, _, rfl, hI5, hv7'⟩
  have c3 : ¬ a.shape.length + 1 = s.length := by omega
  have c1' : ¬ (a.shape.length : Int) = s.length := by omega
  have c2' : ¬ (a.shape.length : Int) = 0 := by omega
  have c3' : ¬ (a.shape.length : Int) = (s.length : Int) - 1 := by omega
  have e0 : spE a.shape s = 22 := by unfold spE; rw [if_neg (by omega)]
  have e1 : spA a s j = ⟨[], VecD.none⟩ := by unfold spA; rw [if_neg (by omega)]
  rw [e0, e1]
  refine Zerun ?_
  refine RW.val (Y.build T rfl rfl rfl rfl rfl rfl rfl) rfl ?_
  (refine RW.storeAll T hs 0 rfl rfl rfl rfl rfl rfl rfl rfl ?_; intro w9 hs)
  refine Zerun ?_
  exact retQ_ret [_, _] h ⟨resN T hs 0 rfl rfl rfl rfl rfl rfl, rfl, trivial⟩ hs.dropAll ⟨_, rfl, ⟨_, _, rfl, IntsAt.nil _, vecNone _⟩⟩
theorem joinRows_con (k : Nat) (ca cb : List Value) (a b : ArrD (AD (k + 1))) (j : Nat) (w : World) (h : GHeap) (ha : ArrAt (k + 2) h ca a) (hb : ArrAt (k + 2) h cb b) (hsum : a.vec.len + b.vec.len ≤ 1048576) (ha8 : a.shape.length ≤ 8) (_hb8 : b.shape.length ≤ 8) (hjb : j < b.shape.length) (hkk : ∀ c, joinC (-1) [a.vec, b.vec] = some c → (joinX a.vec b.vec c).kind ≠ 0 ∧ (joinX a.vec b.vec c).len = a.vec.len + b.vec.len)
    (hcase : a.vec.len + b.vec.len = 0 ∨ ∃ oo n i m : Nat, splitSpec a.shape j = ((oo : Int), (n : Int), (i : Int), true) ∧ b.shape.getD j 0 = (m : Int) ∧ a.vec.len = oo * (n * i) ∧ b.vec.len = oo * (m * i) ∧ 0 < i ∧ 0 < oo) :
    Con Tryz.prog 92 [.agg ca.toArray, .agg cb.toArray, .int .i64 (j : Int)] w h (fun h' u => ∃ cs' ok, u = .tuple #[.agg cs'.toArray, .bool ok] ∧ (joinC (-1) [a.vec, b.vec] = none → ok = false ∧ VecAt (ArrAt (k + 1)) h' cs' VecD.none) ∧ ∀ c, joinC (-1) [a.vec, b.vec] = some c → ok = true ∧ VecAt (ArrAt (k + 1)) h' cs' (rowsV (joinX a.vec b.vec c) a.shape b.shape j a.vec.len)) := by
  have ha' := ha
  obtain ⟨_, vca, rfl, ⟨ada, cpa, rfl, hSa⟩, hva⟩ := ha
  have hva' := hva
  obtain ⟨wa, na, sa, ia, fa, ga, xa, ⟨rfl, hoa⟩, -⟩ := hva
  have hb' := hb
  obtain ⟨_, vcb, rfl, ⟨adb, cpb, rfl, hSb⟩, hvb⟩ := hb
  have hvb' := hvb
  obtain ⟨wb, nb, sb, ib, fb, gb, xb, ⟨rfl, hob⟩, -⟩ := hvb
  refine Con.of_body Tryz.func92 rfl Tryz.ntmps92 rfl rfl ?_
  intro hs
  refine Zrun ?_
  (refine RW.boxN hs rfl rfl ?_; intro b1 w1 hs)
  refine Zrun ?_
  (refine RW.boxN hs rfl rfl ?_; intro b2 w2 hs)
  refine Zrun ?_
  (refine RW.allocN T hs rfl rfl rfl rfl ?_; intro b3 w3 hs)
  refine Zerun ?_
  (refine RW.lit T hs (vs := [.agg (vecCells a.vec.kind wa na sa ia fa ga xa).toArray, .agg (vecCells b.vec.kind wb nb sb ib fb gb xb).toArray]) (cs := ((vecCells a.vec.kind wa na sa ia fa ga xa) ++ (vecCells b.vec.kind wb nb sb ib fb gb xb))) rfl rfl rfl rfl (by simp [Value.cells, vecCells]) rfl rfl rfl rfl rfl ?_; intro b4 w4 hs)
  obtain ⟨h4, hle4, hs, hS4⟩ := hs.freeze
  have hva' := hva'.mono (ArrAt.mono (k + 1)) hle4
  have hvb' := hvb'.mono (ArrAt.mono (k + 1)) hle4
  have hR4 : RowsAt 8 (VecAt (ArrAt (k + 1)) h4) h4 (.slice (some ⟨b4, 0, none⟩) 2 2) [a.vec, b.vec] := two_rowsV hS4 rfl hva' rfl hvb'
  refine Zerun ?_
  (refine RW.call T hs rfl rfl rfl (flatJoin_con (ArrAt.mono (k + 1)) (ArrAt.one (k + 1)) _ [a.vec, b.vec] _ _ hR4 (by show a.vec.len + (b.vec.len + 0) ≤ 1048576; omega)) ?_; intro v h5 w5 hle5 hp5 hs)
  obtain ⟨cs5, ok, rfl, hno, hye⟩ := hp5
  have hva' := hva'.mono (ArrAt.mono (k + 1)) hle5
  have hSa := hSa.mono (hle4.trans hle5)
  have hSb := hSb.mono (hle4.trans hle5)
  rcases hj : joinC (-1) [a.vec, b.vec] with _ | c
  · obtain ⟨rfl, hv5⟩ := hno hj
    have hv5' := hv5
    obtain ⟨wv, nv, sm, il, fl, ch, bx, ⟨rfl, hoc⟩, -⟩ := hv5
    refine Zerun ?_
    (refine RW.allocN T hs rfl rfl rfl rfl ?_; intro b8 w8 hs)
    (refine RW.storeAll T hs 0 rfl rfl rfl rfl rfl rfl hoc rfl ?_; intro w9 hs)
    refine Zerun ?_
    (refine RW.storeAll T hs 1 rfl rfl rfl rfl rfl rfl hoc rfl ?_; intro w10 hs)
    refine Zerun ?_
    exact retQ_ret [_, _] h5 ⟨resN T hs 1 rfl rfl rfl rfl rfl rfl, rfl, trivial⟩ hs.dropAll ⟨_, _, rfl, fun _ => ⟨rfl, hv5'⟩, fun c e => by cases e⟩
  obtain ⟨rfl, hv5⟩ := hye c hj
  obtain ⟨hk5, hl5⟩ := hkk c hj
  have hv5 : VecAt (ArrAt (k + 1)) h5 cs5 (joinX a.vec b.vec c) := hv5
  obtain ⟨v, hve⟩ : ∃ v, joinX a.vec b.vec c = v := ⟨_, rfl⟩
  have hres : ∀ (u : Value) (h' : GHeap), (∃ cs', u = .tuple #[.agg cs'.toArray, .bool true] ∧ VecAt (ArrAt (k + 1)) h' cs' (rowsV v a.shape b.shape j a.vec.len)) → ∃ cs' ok, u = .tuple #[.agg cs'.toArray, .bool ok] ∧ (some c = none → ok = false ∧ VecAt (ArrAt (k + 1)) h' cs' VecD.none) ∧ ∀ c', some c = some c' → ok = true ∧ VecAt (ArrAt (k + 1)) h' cs' (rowsV (joinX a.vec b.vec c') a.shape b.shape j a.vec.len) := by
    rintro u h' ⟨cs', e1, e2⟩
    refine ⟨cs', true, e1, (fun e => by cases e), fun c' e => ⟨rfl, ?_⟩⟩
    obtain rfl : c = c' := Option.some.inj e
    rw [hve]
    exact e2
  rw [hve] at hv5 hk5 hl5
  have hv5' := hv5
  obtain ⟨wv, nv, sm, il, fl, ch, bx, ⟨rfl, hoc⟩, -⟩ := hv5
  refine Zerun ?_
  (refine RW.allocN T hs rfl rfl rfl rfl ?_; intro b8 w8 hs)
  (refine RW.storeAll T hs 0 rfl rfl rfl rfl rfl rfl hoc rfl ?_; intro w9 hs)
  by_cases cj : j = 0
  · have cj' : (j : Int) = 0 := by omega
    have hr : rowsV v a.shape b.shape j a.vec.len = v := by unfold rowsV; rw [if_pos (.inl cj)]
    refine Zerun ?_
    (refine RW.storeAll T hs 1 rfl rfl rfl rfl rfl rfl hoc rfl ?_; intro w10 hs)
    refine Zerun ?_
    exact retQ_ret [_, _] h5 ⟨resN T hs 1 rfl rfl rfl rfl rfl rfl, rfl, trivial⟩ hs.dropAll (hres _ _ ⟨_, rfl, hr.symm ▸ hv5'⟩)
  have cj' : ¬ (j : Int) = 0 := by omega
  refine Zerun ?_
  (refine RW.call T hs rfl rfl rfl (vecLen_con _ v _ _ hv5') ?_; intro v h11 w11 hle11 hp11 hs)
  subst hp11
  have hv5' := hv5'.mono (ArrAt.mono (k + 1)) hle11
  have hva' := hva'.mono (ArrAt.mono (k + 1)) hle11
  have hSa := hSa.mono hle11
  have hSb := hSb.mono hle11
  by_cases cl : v.len = 0
  · have cl' : (v.len : Int) = 0 := by omega
    have hr : rowsV v a.shape b.shape j a.vec.len = v := by unfold rowsV; rw [if_pos (.inr cl)]
    refine Zerun ?_
    (refine RW.storeAll T hs 1 rfl rfl rfl rfl rfl rfl hoc rfl ?_; intro w10 hs)
    refine Zerun ?_
    exact retQ_ret [_, _] h11 ⟨resN T hs 1 rfl rfl rfl rfl rfl rfl, rfl, trivial⟩ hs.dropAll (hres _ _ ⟨_, rfl, hr.symm ▸ hv5'⟩)
  have cl' : ¬ (v.len : Int) = 0 := by omega
  obtain ⟨oo, n, i0, m, hsp, hbm, hla, hlb, hi0, hoo⟩ := hcase.resolve_left (by omega)
  have hIa : IntsAt h11 (.slice ada a.shape.length cpa) a.shape := ⟨ada, cpa, rfl, hSa⟩
  refine Zerun ?_
  (refine RW.call T hs rfl rfl rfl (split_con _ a.shape j _ _ hIa (by omega)) ?_; intro v h12 w12 hle12 hp12 hs)
  rw [hsp] at hp12
  subst hp12
  have hv5' := hv5'.mono (ArrAt.mono (k + 1)) hle12
  have hva' := hva'.mono (ArrAt.mono (k + 1)) hle12
  have hSb := hSb.mono hle12
  refine Zerun ?_
  rw [hbm]
  refine Zerun ?_
  (refine RW.call T hs rfl rfl rfl (vecLen_con _ v _ _ hv5') ?_; intro v h13 w13 hle13 hp13 hs)
  subst hp13
  have hv5' := hv5'.mono (ArrAt.mono (k + 1)) hle13
  have hva' := hva'.mono (ArrAt.mono (k + 1)) hle13
  refine Zerun ?_
  refine RW.make T hs rfl rfl rfl rfl rfl (by omega) (by omega) (by dsimp only; omega) (by omega) ?_
  intro b15 w15 hs
  have hs := hs.re (ys := (rowsL 0 (n * i0) (m * i0) a.vec.len).map (Value.int .i64)) (made_one (.int .i64 0) 0)
  rw [Int.toNat_natCast]
  obtain ⟨A, hA⟩ : ∃ A, n * i0 = A := ⟨_, rfl⟩
  obtain ⟨B, hB⟩ : ∃ B, m * i0 = B := ⟨_, rfl⟩
  rw [hA] at hla hs
  rw [hB] at hlb hs
  have hmA : (n : Int) * (i0 : Int) = (A : Int) := by rw [← hA]; exact (Int.natCast_mul _ _).symm
  have hmB : (m : Int) * (i0 : Int) = (B : Int) := by rw [← hB]; exact (Int.natCast_mul _ _).symm
  have hvl : v.len = oo * (A + B) := by rw [hl5, hla, hlb, Nat.mul_add]
  have hAB : 0 < A + B := Nat.pos_of_ne_zero (fun e => by rw [e, Nat.mul_zero] at hvl; omega)
  have hoob : oo ≤ v.len := by rw [hvl]; exact Nat.le_mul_of_pos_right oo hAB
  have hn1 : n ≤ A := by rw [← hA]; exact Nat.le_mul_of_pos_right n hi0
  have hm1 : m ≤ B := by rw [← hB]; exact Nat.le_mul_of_pos_right m hi0
  have bA : A ≤ a.vec.len := by rw [hla]; exact Nat.le_mul_of_pos_left A hoo
  have bB : B ≤ b.vec.len := by rw [hlb]; exact Nat.le_mul_of_pos_left B hoo
  have hrl : ∀ t, (rowsL t A B a.vec.len).length = t * (A + B) := fun t => rowsL_len _ _ _ _
  obtain ⟨LA, hLA⟩ : ∃ LA, a.vec.len = LA := ⟨_, rfl⟩
  rw [hLA] at hs hrl bA
  have hLm : LA + b.vec.len ≤ 1048576 := by omega
  refine Zerun ?_
  refine CW.loop (fun u : Nat × (Option Addr × Nat) × GHeap => [(3, .pointer (some ⟨b1, 0, none⟩)), (6, .pointer (some ⟨b3, 0, none⟩)), (8, .pointer (some ⟨b8, 0, none⟩)), (11, .int .i64 (n : Int)), (12, .int .i64 (i0 : Int)), (14, .int .i64 (m : Int)), (15, .slice u.2.1.1 (u.1 * (A + B)) u.2.1.2), (58, .int .i64 (oo : Int)), (59, .int .i64 u.1)]) (fun u w' => u.1 ≤ oo ∧ GLe h13 u.2.2 ∧ Sees w h u.2.2 [⟨u.2.1.1, u.1 * (A + B), u.2.1.2, 3, 1, (rowsL u.1 A B LA).map (Value.int .i64)⟩, ⟨some ⟨b8, 0, none⟩, 1, 1, 37, 8, vecCells v.kind wv nv sm il fl ch bx⟩, ⟨some ⟨b3, 0, none⟩, 1, 1, 37, 8, vecCells 0 (.slice none 0 0) 0 (.slice none 0 0) (.slice none 0 0) (.slice none 0 0) (.slice none 0 0) (.slice none 0 0)⟩, ⟨some ⟨b2, 0, none⟩, 1, 1, 39, 9, .slice adb b.shape.length cpb :: vecCells b.vec.kind wb nb sb ib fb gb xb⟩, ⟨some ⟨b1, 0, none⟩, 1, 1, 39, 9, .slice ada a.shape.length cpa :: vecCells a.vec.kind wa na sa ia fa ga xa⟩] w') (fun u => oo - u.1) (0, (some ⟨b15, 0, none⟩, v.len), h13) ⟨rfl, rfl, rfl, rfl, rfl, rfl, by dsimp only; rw [Nat.zero_mul]; rfl, rfl, rfl, trivial⟩ ⟨by omega, GLe.refl _, by dsimp only; rw [Nat.zero_mul]; exact hs⟩ ?_
  rintro ⟨t, ⟨ra, rc⟩, hh⟩ w16 ⟨ht, hg, hs⟩
  dsimp only at ht hg hs ⊢
  by_cases hlt : t < oo
  · have hmul := Nat.mul_le_mul_right (A + B) (show t + 1 ≤ oo from hlt)
    rw [Nat.add_mul, Nat.one_mul, ← hvl, hl5, hLA] at hmul
    have htA : t * A ≤ LA := by rw [← hLA, hla]; exact Nat.mul_le_mul_right A ht
    have htB : t * B ≤ b.vec.len := by rw [hlb]; exact Nat.mul_le_mul_right B ht
    have htn : t * n ≤ LA := Nat.le_trans (Nat.mul_le_mul_left t hn1) htA
    have htm : t * m ≤ b.vec.len := Nat.le_trans (Nat.mul_le_mul_left t hm1) htB
    have e1 : (t : Int) * (n : Int) = ((t * n : Nat) : Int) := (Int.natCast_mul _ _).symm
    have e2 : ((t * n : Nat) : Int) * (i0 : Int) = ((t * A : Nat) : Int) := by rw [← Int.natCast_mul, Nat.mul_assoc, hA]
    have e3 : (t : Int) * (m : Int) = ((t * m : Nat) : Int) := (Int.natCast_mul _ _).symm
    have e4 : ((t * m : Nat) : Int) * (i0 : Int) = ((t * B : Nat) : Int) := by rw [← Int.natCast_mul, Nat.mul_assoc, hB]
    have hla0 := hrl t
    obtain ⟨pre, hpre⟩ : ∃ pre, rowsL t A B LA = pre := ⟨_, rfl⟩
    have hsucc : rowsL (t + 1) A B LA = pre ++ ((List.range A).map fun i => ((t * A + i : Nat) : Int)) ++ ((List.range B).map fun i => ((LA + t * B + i : Nat) : Int)) := by rw [← hpre]; exact rowsL_succ t A B LA
    rw [hpre] at hs hla0
    refine Zerun ?_
    refine RW.val (Y.mul rfl rfl (by rw [hmA]; omega)) rfl ?_
    rw [hmA]
    refine Zerun ?_
    refine CW.meetB (fun u : (Option Addr × Nat) => [(3, .pointer (some ⟨b1, 0, none⟩)), (6, .pointer (some ⟨b3, 0, none⟩)), (8, .pointer (some ⟨b8, 0, none⟩)), (11, .int .i64 (n : Int)), (12, .int .i64 (i0 : Int)), (14, .int .i64 (m : Int)), (15, .slice u.1 (t * (A + B) + A) u.2), (16, .int .i64 (t : Int)), (58, .int .i64 (oo : Int)), (59, .int .i64 (t : Int))]) (fun u w' => Sees w h hh [⟨u.1, t * (A + B) + A, u.2, 3, 1, (pre ++ (List.range A).map fun i => ((t * A + i : Nat) : Int)).map (Value.int .i64)⟩, ⟨some ⟨b8, 0, none⟩, 1, 1, 37, 8, vecCells v.kind wv nv sm il fl ch bx⟩, ⟨some ⟨b3, 0, none⟩, 1, 1, 37, 8, vecCells 0 (.slice none 0 0) 0 (.slice none 0 0) (.slice none 0 0) (.slice none 0 0) (.slice none 0 0) (.slice none 0 0)⟩, ⟨some ⟨b2, 0, none⟩, 1, 1, 39, 9, .slice adb b.shape.length cpb :: vecCells b.vec.kind wb nb sb ib fb gb xb⟩, ⟨some ⟨b1, 0, none⟩, 1, 1, 39, 9, .slice ada a.shape.length cpa :: vecCells a.vec.kind wa na sa ia fa ga xa⟩] w') ?_ ?_
    · refine CW.loop (fun u : Nat × (Option Addr × Nat) => [(3, .pointer (some ⟨b1, 0, none⟩)), (6, .pointer (some ⟨b3, 0, none⟩)), (8, .pointer (some ⟨b8, 0, none⟩)), (11, .int .i64 (n : Int)), (12, .int .i64 (i0 : Int)), (14, .int .i64 (m : Int)), (15, .slice u.2.1 (t * (A + B) + u.1) u.2.2), (16, .int .i64 (t : Int)), (58, .int .i64 (oo : Int)), (59, .int .i64 (t : Int)), (64, .int .i64 (A : Int)), (65, .int .i64 u.1)]) (fun u w' => u.1 ≤ A ∧ Sees w h hh [⟨u.2.1, t * (A + B) + u.1, u.2.2, 3, 1, (pre ++ (List.range u.1).map fun i => ((t * A + i : Nat) : Int)).map (Value.int .i64)⟩, ⟨some ⟨b8, 0, none⟩, 1, 1, 37, 8, vecCells v.kind wv nv sm il fl ch bx⟩, ⟨some ⟨b3, 0, none⟩, 1, 1, 37, 8, vecCells 0 (.slice none 0 0) 0 (.slice none 0 0) (.slice none 0 0) (.slice none 0 0) (.slice none 0 0) (.slice none 0 0)⟩, ⟨some ⟨b2, 0, none⟩, 1, 1, 39, 9, .slice adb b.shape.length cpb :: vecCells b.vec.kind wb nb sb ib fb gb xb⟩, ⟨some ⟨b1, 0, none⟩, 1, 1, 39, 9, .slice ada a.shape.length cpa :: vecCells a.vec.kind wa na sa ia fa ga xa⟩] w') (fun u => A - u.1) (0, (ra, rc)) ⟨rfl, rfl, rfl, rfl, rfl, rfl, rfl, rfl, rfl, rfl, rfl, rfl, trivial⟩ ⟨by omega, hs.re (by simp)⟩ ?_
      rintro ⟨i, ⟨rb, rd⟩⟩ w17 ⟨hi, hs⟩
      dsimp only at hi hs ⊢
      by_cases hli : i < A
      · refine Zerun ?_
        refine RW.val (Y.mul rfl rfl (by rw [e1]; omega)) rfl ?_
        rw [e1]
        refine Zerun ?_
        refine RW.val (Y.mul rfl rfl (by rw [e2]; omega)) rfl ?_
        rw [e2]
        refine Zerun ?_
        (refine RW.lit T hs (vs := [.int .i64 (((t * A : Nat) : Int) + (i : Int))]) (cs := [.int .i64 (((t * A : Nat) : Int) + (i : Int))]) rfl rfl rfl rfl (by simp [Value.cells]) rfl rfl rfl rfl rfl ?_; intro b18 w18 hs)
        (refine RW.append T hs 1 rfl rfl (m := 1) (news := [.int .i64 (((t * A : Nat) : Int) + (i : Int))]) rfl rfl rfl rfl rfl rfl (hs.src0 rfl (by simp [Value.oneCell'])) (by simp) (by dsimp only; omega) (by omega) ?_; intro ad19 cp19 w19 hs; replace hs := hs.drop)
        refine Zerun ?_
        exact loopQ_round (i + 1, (ad19, cp19)) ⟨rfl, rfl, rfl, rfl, rfl, rfl, rfl, rfl, rfl, rfl, rfl, rfl, trivial⟩ ⟨by dsimp only; omega, hs.re (by rw [List.range_succ]; simp)⟩ (by dsimp only; omega)
      obtain rfl : i = A := by omega
      refine Zerun ?_
      exact joinQ_meet (rb, rd) ⟨rfl, rfl, rfl, rfl, rfl, rfl, rfl, rfl, rfl, rfl, trivial⟩ hs
    rintro ⟨rb, rd⟩ w20 hs
    dsimp only at hs ⊢
    refine Zerun ?_
    refine RW.val (Y.mul rfl rfl (by rw [hmB]; omega)) rfl ?_
    rw [hmB]
    refine Zerun ?_
    obtain ⟨pr2, hpr2⟩ : ∃ pr2, pre ++ ((List.range A).map fun i => ((t * A + i : Nat) : Int)) = pr2 := ⟨_, rfl⟩
    rw [hpr2] at hs hsucc
    obtain ⟨q0, hq0⟩ : ∃ q0, t * (A + B) + A = q0 := ⟨_, rfl⟩
    have hq1 : (t + 1) * (A + B) = q0 + B := by rw [Nat.add_mul, Nat.one_mul]; omega
    rw [hq0] at hs ⊢
    refine CW.loop (fun u : Nat × (Option Addr × Nat) × GHeap => [(3, .pointer (some ⟨b1, 0, none⟩)), (6, .pointer (some ⟨b3, 0, none⟩)), (8, .pointer (some ⟨b8, 0, none⟩)), (11, .int .i64 (n : Int)), (12, .int .i64 (i0 : Int)), (14, .int .i64 (m : Int)), (15, .slice u.2.1.1 (q0 + u.1) u.2.1.2), (16, .int .i64 (t : Int)), (58, .int .i64 (oo : Int)), (59, .int .i64 (t : Int)), (81, .int .i64 (B : Int)), (82, .int .i64 u.1)]) (fun u w' => u.1 ≤ B ∧ GLe h13 u.2.2 ∧ Sees w h u.2.2 [⟨u.2.1.1, q0 + u.1, u.2.1.2, 3, 1, (pr2 ++ (List.range u.1).map fun i => ((LA + t * B + i : Nat) : Int)).map (Value.int .i64)⟩, ⟨some ⟨b8, 0, none⟩, 1, 1, 37, 8, vecCells v.kind wv nv sm il fl ch bx⟩, ⟨some ⟨b3, 0, none⟩, 1, 1, 37, 8, vecCells 0 (.slice none 0 0) 0 (.slice none 0 0) (.slice none 0 0) (.slice none 0 0) (.slice none 0 0) (.slice none 0 0)⟩, ⟨some ⟨b2, 0, none⟩, 1, 1, 39, 9, .slice adb b.shape.length cpb :: vecCells b.vec.kind wb nb sb ib fb gb xb⟩, ⟨some ⟨b1, 0, none⟩, 1, 1, 39, 9, .slice ada a.shape.length cpa :: vecCells a.vec.kind wa na sa ia fa ga xa⟩] w') (fun u => B - u.1) (0, (rb, rd), hh) ⟨rfl, rfl, rfl, rfl, rfl, rfl, rfl, rfl, rfl, rfl, rfl, rfl, trivial⟩ ⟨by omega, hg, hs.re (by simp)⟩ ?_
    rintro ⟨i, ⟨re, rf⟩, hk⟩ w21 ⟨hi, hg2, hs⟩
    dsimp only at hi hg2 hs ⊢
    by_cases hli : i < B
    · refine Zerun ?_
      (refine RW.call T hs rfl rfl rfl (vecLen_con _ a.vec _ _ (hva'.mono (ArrAt.mono (k + 1)) hg2)) ?_; intro v h22 w22 hle22 hp22 hs)
      subst hp22
      rw [hLA]
      refine Zerun ?_
      refine RW.val (Y.mul rfl rfl (by rw [e3]; omega)) rfl ?_
      rw [e3]
      refine Zerun ?_
      refine RW.val (Y.mul rfl rfl (by rw [e4]; omega)) rfl ?_
      rw [e4]
      refine Zerun ?_
      (refine RW.lit T hs (vs := [.int .i64 ((LA : Int) + ((t * B : Nat) : Int) + (i : Int))]) (cs := [.int .i64 ((LA : Int) + ((t * B : Nat) : Int) + (i : Int))]) rfl rfl rfl rfl (by simp [Value.cells]) rfl rfl rfl rfl rfl ?_; intro b18 w18 hs)
      (refine RW.append T hs 1 rfl rfl (m := 1) (news := [.int .i64 ((LA : Int) + ((t * B : Nat) : Int) + (i : Int))]) rfl rfl rfl rfl rfl rfl (hs.src0 rfl (by simp [Value.oneCell'])) (by simp) (by dsimp only; omega) (by omega) ?_; intro ad19 cp19 w19 hs; replace hs := hs.drop)
      refine Zerun ?_
      exact loopQ_round (i + 1, (ad19, cp19), h22) ⟨rfl, rfl, rfl, rfl, rfl, rfl, rfl, rfl, rfl, rfl, rfl, rfl, trivial⟩ ⟨by dsimp only; omega, hg2.trans hle22, hs.re (by rw [List.range_succ]; simp)⟩ (by dsimp only; omega)
    obtain rfl : i = B := by omega
    rw [← hsucc] at hs
    refine Zerun ?_
    exact loopQ_round (t + 1, (re, rf), hk) ⟨rfl, rfl, rfl, rfl, rfl, rfl, by dsimp only; rw [hq1]; rfl, rfl, rfl, trivial⟩ ⟨by dsimp only; omega, hg2, by dsimp only; rw [hq1]; exact hs⟩ (by dsimp only; omega)
  obtain rfl : t = oo := by omega
  have hla0 := hrl t
  obtain ⟨h24, hle24, hs, hS24⟩ := hs.freeze
  have hI24 : IntsAt h24 (.slice ra (t * (A + B)) rc) (rowsL t A B LA) := IntsAt.of_sl hS24
  have hv5' := hv5'.mono (ArrAt.mono (k + 1)) (hg.trans hle24)
  refine Zerun ?_
  (refine RW.call T hs rfl rfl rfl (flatPick_con (ArrAt.mono (k + 1)) (ArrAt.one (k + 1)) (ArrAt.siz (k + 1)) (blankA k) (fun w h => flatBlank_con (ArrAt.mono k) (ArrAt.one k) w h) _ v _ (rowsL t A B LA) _ _ hv5' hI24 (by rw [hla0, ← hvl]; omega) (by omega) hk5) ?_; intro v h25 w25 hle25 hp25 hs)
  obtain ⟨cs25, rfl, hv25⟩ := hp25
  have hr : rowsV v a.shape b.shape j a.vec.len = v.pick (rowsL t A B LA) (blankA k) := by unfold rowsV; rw [if_neg (by omega), hsp, hbm, hLA]; dsimp only; rw [hmA, hmB, Int.toNat_natCast, Int.toNat_natCast, Int.toNat_natCast]
  have hv25' := hv25
  obtain ⟨wv5, nv5, sm5, il5, fl5, ch5, bx5, ⟨rfl, hoc5⟩, -⟩ := hv25
  refine Zerun ?_
  (refine RW.storeAll T hs 1 rfl rfl rfl rfl rfl rfl hoc5 rfl ?_; intro w26 hs)
  refine Zerun ?_
  exact retQ_ret [_, _] h25 ⟨resN T hs 1 rfl rfl rfl rfl rfl rfl, rfl, trivial⟩ hs.dropAll (hres _ _ ⟨_, rfl, hr.symm ▸ hv25'⟩)
end Go.Proofs.YtmojpbfkpggjhaaGreat

/-
  The program logic, nineteenth part: frozen rows of whole structs, products of words, functions that the model stands in for. No statement is proved here.
-/
namespace Go.Proofs.YtmojpbfkpggjhaaGreat
open Go Go.RowKit
set_option linter.unusedVariables false
set_option linter.unusedSimpArgs false
set_option linter.unusedVariables false
section
variable {P : Program} (T : Tab P) {n : Nat} {Q : Post} {L : Env} {w0 w : World} {h0 h : GHeap} {O : List Row} {ops rest : List Oper} {x y : Operand} {t : TypeId}
variable {d : Option Tmp} {ty yt : TypeId} {pos : String} {aft : Array Edge}
/-- a cell of a frozen row -/
theorem Sl.cellAt (hs : Sees w0 h0 h O w) {b sz m cp o : Nat} {xs : List Value} {v : Value} (hS : Sl h sz (some ⟨b, 0, none⟩) m cp xs) (ho : o < m * sz) (hv : xs[o]? = some v) : w.cell? ⟨b, o, none⟩ = some v := by
  obtain ⟨cs, h1, h2⟩ := (hS.2.2.2.2 _ rfl).2 o ho
  refine hs.cell h1 ?_
  rw [Nat.zero_add] at h2
  rw [h2, hv]
end
/-! ## Regions that draw their order and change memory: two of the call's own rows fixed, and what lies frozen -/
section
variable {P : Program} {n : Nat} {Q : Post} {L : Env} {w0 w : World} {h0 h hb : GHeap} {O : List Row} {ops rest : List Oper} {ra rb : Row}
variable {d : Option Tmp} {ty : TypeId} {pos : String} {aft : Array Edge} {fuel : Nat} {listed : Array Bool}
def SG (w0 : World) (h0 hb : GHeap) (ra rb : Row) (w : World) : Prop := ∃ (h' : GHeap) (O : List Row) (k j : Nat), GLe hb h' ∧ Sees w0 h0 h' O w ∧ O[k]? = some ra ∧ O[j]? = some rb
theorem CW.regionG (T' : Tab P) (k j : Nat) (hs : Sees w0 h0 h O w) (ha : O[k]? = some ra) (hb' : O[j]? = some rb) {id : Nat} {l : List Oper} (K : ∀ w', Sees w0 h0 h O w' → HW P n l (calmQ Q) (SG w0 h0 h ra rb) l.length (Array.replicate l.length false) L w') : CW P n Q (.region id l.toArray true) L w :=
  CW.regionH T' (SG w0 h0 h ra rb) (fun w' e => by subst e; exact K _ hs.drew)
theorem HW.takeG (i : Nat) {op : Op} {v : Value} (hi : ops.toArray[i]? = some ⟨d, op, ty, pos, aft, none⟩) (hy : ∀ (h' : GHeap) (O : List Row) (ka kb : Nat) (w' : World), GLe hb h' → Sees w0 h0 h' O w' → O[ka]? = some ra → O[kb]? = some rb → Yields P n L w' op ty v) (hS : SG w0 h0 hb ra rb w) (hd : dstOk n d = true)
    (hs : Region.noSelect ops.toArray = true) (hf : Region.free .any ops.toArray listed i = true) (hr : (Region.ready .any ops.toArray listed).contains i = true)
    (hh : HW P n ops (calmQ Q) (SG w0 h0 hb ra rb) fuel (listed.setIfInBounds i true) (updo d v L) w) : HW P n ops (calmQ Q) (SG w0 h0 hb ra rb) (fuel + 1) listed L w :=
  HW.take i hi (fun w' ⟨h', O, k, j, g, s, a, b⟩ => hy h' O k j w' g s a b) hS hd hs hf hr hh
end
end Go.Proofs.YtmojpbfkpggjhaaGreat

/-
  The program logic, further parts: elements of a reslice of an own row, copies into an own row, slices of truths that came in. No statement is proved here.
-/
namespace Go.Proofs.YtmojpbfkpggjhaaGreat
open Go Go.RowKit
set_option linter.unusedVariables false
set_option linter.unusedSimpArgs false

section
open Go.ChangeShapes Go.WideShapes Go.ChangeAt
variable {H : Type} {enc : TypeId × Value → H} {P : Program} {w : World} {base : Nat} {spare : Nat → Bool} {held : Bool} {fuel n : Nat} {t e : TypeId} {cs : List Value} {x : DataW H × List MemPlace}
theorem open_bools (ht : P.underlying t = some (.slice e)) (he : P.underlying e = some .bool) (hc : P.cellsOf e = 1) (h : DataW.trod enc P w base spare held fuel t cs = some x) :
    ∃ v l, cs = [v] ∧ TAt (ghost w) v l ∧ l.length ≤ 9223372036854775807 := by
  obtain ⟨v, l, h1, h2, h3⟩ := open_rows (R := fun cs (a : Bool) => cs = [.bool a]) ht hc (by omega) (fun n _ cs x h => by
    obtain ⟨b, hb, _⟩ := DataW.trod_bool he h
    exact ⟨b, hb⟩) h
  exact ⟨v, l, h1, RowsAt.row h2, h3⟩
end
section
variable {P : Program} (T : Tab P) {n : Nat} {Q : Post} {L : Env} {w0 w : World} {h0 h : GHeap} {O : List Row} {ops rest : List Oper} {x y : Operand} {t t2 : TypeId}
variable {d : Option Tmp} {ty : TypeId} {pos : String} {aft : Array Edge}
theorem Sl.cap0 {ad : Option Addr} {m cp sz : Nat} {xs : List Value} (hS : Sl h sz ad m cp xs) : ad = none → cp = 0 := hS.2.2.2.1
/-- where a reslice of a part of a block begins -/
theorem subAd_some (b o l c : Nat) : ∃ q, subAd (some ⟨b, o, none⟩) l c 1 = some ⟨b, q, none⟩ ∧ (c ≠ l → q = o + l) ∧ (c = l → q = o) := by
  unfold subAd
  by_cases e : c = l
  · exact ⟨o, by rw [if_pos e], fun h => absurd e h, fun _ => rfl⟩
  · refine ⟨o + l, ?_, fun _ => rfl, fun h => absurd h e⟩
    rw [if_neg e, Nat.mul_one]
    simp [Addr.add_lit]
theorem take_copy {α : Type} (C N : List α) (o m : Nat) (h : o + N.length ≤ m) (hm : m ≤ C.length) : (C.take o ++ N ++ C.drop (o + N.length)).take m = (C.take m).take o ++ N ++ (C.take m).drop (o + N.length) := by
  have hl : (C.take o ++ N).length = o + N.length := by rw [List.length_append, List.length_take]; omega
  rw [List.take_append, hl, List.take_of_length_le (by omega), List.take_take, Nat.min_eq_left (by omega), List.drop_take]
/-- a copy of one-cell elements into an own row, or a part of it -/
theorem RW.copyRow (hs : Sees w0 h0 h O w) (k : Nat) {b o m cp dLen dCap sLen sCap : Nat} {e e' : TypeId} {i : Inf} {a : Addr} {xs news : List Value} (hO : O[k]? = some ⟨some ⟨b, 0, none⟩, m, cp, e, 1, xs⟩) (hx : opv L x = some (.slice (some ⟨b, o, none⟩) dLen dCap)) (hy : opv L y = some (.slice (some a) sLen sCap)) (hd : dstOk n d = true)
    (hT : T.ty t = some (.slice e')) (hI : T.inf e' = some i) (hi : i.size = 1) (hn : news.length = Nat.min sLen dLen) (hsrc : ∀ j v, news[j]? = some v → w.cell? (a.add j) = some v) (h1 : ∀ v ∈ news, v.oneCell' = true) (hfit : o + news.length ≤ m)
    (K : ∀ w', Sees w0 h0 h (O.set k ⟨some ⟨b, 0, none⟩, m, cp, e, 1, xs.take o ++ news ++ xs.drop (o + news.length)⟩) w' → RW P n ops Q (updo d (.int .i64 news.length) L) w' rest) :
    RW P n ops Q L w (⟨d, .call ⟨.builtin .copy, #[x, y], #[t, t2]⟩, ty, pos, aft, none⟩ :: rest) := by
  have ht : P.underlying t = some (.slice e') := T.ty_ok _ _ hT
  obtain ⟨z, hz, hz1, _⟩ := T.inf_ok _ _ hI
  have hok := (hs.own _ (List.mem_of_getElem? hO)).1
  have hlen := hs.rowLen hO
  simp only [Nat.mul_one] at hlen
  rcases hok.2 with ⟨hv, _⟩ | ⟨g, cap, cur, hv, hb, hg, hnc, hm, hc, hxs⟩
  · simp [Row.v] at hv
  · simp only [Row.v, Value.slice.injEq, Option.some.injEq, Addr.mk.injEq, true_and, and_true] at hv
    obtain ⟨rfl, rfl⟩ := hv
    dsimp only at hc hnc hg hxs
    have hr := run_copy_row P w t t2 ty e' b o dLen dCap a sLen sCap cur e news ht (by rw [hz]; simp [hz1, hi]) hg hn hsrc (by omega) h1
    obtain ⟨w', hw'⟩ : ∃ w', w.setRow b (cur.toList.take o ++ news ++ cur.toList.drop (o + news.length)).toArray = w' := ⟨_, rfl⟩
    rw [hw'] at hr
    refine RW.step (v := .int .i64 news.length) (w' := w') ?_ hd (K w' ?_)
    · intro a' ha
      simp only [execOp, resolve, invoke, builtin, ha.eval hx, ha.eval hy, Sem.run_bind, Result.andThen_ok, List.map_toArray, List.map_cons, List.map_nil, Sem.run_pure, hr]
      rfl
    · subst hw'
      refine hs.replace (w' := w.setRow b (cur.toList.take o ++ news ++ cur.toList.drop (o + news.length)).toArray) hO (r' := ⟨some ⟨b, 0, none⟩, m, cp, e, 1, _⟩) ⟨rfl, rfl, rfl, by simp, fun r _ hr => setRow_other w b r _ (fun e => hr (by simp [Row.v, Value.ownBlock, e]))⟩ ?_ (fun c hc => .inl hc)
      refine ⟨?_, .inr ⟨b, cp, _, rfl, hb, setRow_heap w b cur _ e _ hg, hnc, hm, ?_, ?_⟩⟩
      · simp only [List.length_append, List.length_take, List.length_drop, hlen]; omega
      · simp only [List.size_toArray, List.length_append, List.length_take, List.length_drop, Array.length_toList, hc]
        omega
      · show List.take (m * 1) (cur.toList.take o ++ news ++ cur.toList.drop (o + news.length)) = _
        subst hxs
        simp only [Nat.mul_one]
        exact take_copy _ _ _ _ hfit (by rw [Array.length_toList]; omega)
/-- cells of a part of an own row, as a copy takes them -/
theorem Sees.part (hs : Sees w0 h0 h O w) (k : Nat) {b o m cp : Nat} {e : TypeId} {xs news : List Value} (hO : O[k]? = some ⟨some ⟨b, 0, none⟩, m, cp, e, 1, xs⟩) (hn : ∀ j v, news[j]? = some v → xs[o + j]? = some v) : ∀ j v, news[j]? = some v → w.cell? ((⟨b, o, none⟩ : Addr).add j) = some v := by
  intro j v hj
  rw [Addr.add_lit]
  exact hs.rowCell hO (hn j v hj)
end
end Go.Proofs.YtmojpbfkpggjhaaGreat

/-
  Contract of join.Catenate. No statement is proved here.
-/
namespace Go.Proofs.YtmojpbfkpggjhaaGreat
open Go Go.RowKit
set_option linter.unusedVariables false
set_option linter.unusedSimpArgs false
set_option maxHeartbeats 4000000
attribute [local irreducible] CW RW QW SW HW ConM retM heldQ calmQ elemP thenQ blockQ loopQ joinQ retQ Yields Con Sl zF magR unitF truncF fwF wholeF tidySpec elemQ rankF leastN tidyW
set_option maxHeartbeats 4000000

noncomputable def catS {k : Nat} (a b : ArrD (AD (k + 1))) (first : Bool) (most : Int) : Int × ArrD (AD (k + 1)) := catSx a b (catSh a.shape b.shape) (catAx (catSh a.shape b.shape) first) most
theorem joinCatenate_con (k : Nat) (ca cb : List Value) (a b : ArrD (AD (k + 1))) (L M : List (ItemD (PD (k + 1)))) (c d : Int) (first : Bool) (most : Int) (w : World) (h : GHeap) (ha : ArrAt (k + 2) h ca a) (hb : ArrAt (k + 2) h cb b) (H : Tells k a.vec L c) (Hb : Tells k b.vec M d) (hpa : product a.shape 1048576 = ((a.vec.len : Int), 0)) (hpb : product b.shape 1048576 = ((b.vec.len : Int), 0)) (hmost : most ≤ 1048576)
    (hIa : a.shape.length = (catSh a.shape b.shape).length ∨ a.shape.length = 0 ∨ a.shape.length + 1 ≠ (catSh a.shape b.shape).length) (hIb : b.shape.length = (catSh a.shape b.shape).length ∨ b.shape.length = 0 ∨ b.shape.length + 1 ≠ (catSh a.shape b.shape).length) :
    Con Tryz.prog 38 [.agg ca.toArray, .agg cb.toArray, .bool first, .int .i64 most] w h (fun h' u => ∃ cs', u = .tuple #[.agg cs'.toArray, .int .i64 (catS a b first most).1] ∧ ArrAt (k + 2) h' cs' (catS a b first most).2) := by
  have ha' := ha
  obtain ⟨_, vca, rfl, ⟨ada, cpa, rfl, hSa⟩, hva⟩ := ha
  have hva' := hva
  obtain ⟨wa, na, sa, ia, fa, ga, xa, ⟨rfl, hoa⟩, -⟩ := hva
  have ma : ∀ h', GLe h h' → ArrAt (k + 2) h' (.slice ada a.shape.length cpa :: vecCells a.vec.kind wa na sa ia fa ga xa) a := fun h' hl => ArrAt.mono (k + 2) _ _ _ _ hl ha'
  have hb' := hb
  obtain ⟨_, vcb, rfl, ⟨adb, cpb, rfl, hSb⟩, hvb⟩ := hb
  have hvb' := hvb
  obtain ⟨wb, nb, sb, ib, fb, gb, xb, ⟨rfl, hob⟩, -⟩ := hvb
  have mb : ∀ h', GLe h h' → ArrAt (k + 2) h' (.slice adb b.shape.length cpb :: vecCells b.vec.kind wb nb sb ib fb gb xb) b := fun h' hl => ArrAt.mono (k + 2) _ _ _ _ hl hb'
  obtain ⟨m, hm⟩ : ∃ m, (if a.shape.length < b.shape.length then b.shape else a.shape) = m := ⟨_, rfl⟩
  obtain ⟨s, hs0⟩ : ∃ s, catSh a.shape b.shape = s := ⟨_, rfl⟩
  have hga : goodS a.shape = true := (goodS_iff _).2 (by rw [hpa])
  have hgb : goodS b.shape = true := (goodS_iff _).2 (by rw [hpb])
  have hgs := catSh_good hga hgb
  have hs1 := catSh_pos a.shape b.shape
  rw [hs0] at hgs hs1 hIa hIb
  have ha8 := ((goodS_spec _).1 hga).1
  have hb8 := ((goodS_spec _).1 hgb).1
  have hs8 := ((goodS_spec _).1 hgs).1
  have hsm : s = if m.length = 0 then [1] else m := by rw [← hs0, ← hm]; rfl
  have hcs : catS a b first most = catSx a b s (catAx s first) most := by unfold catS; rw [hs0]
  have hjl := catAx_lt hs1 first
  obtain ⟨j, hj⟩ : ∃ j, catAx s first = j := ⟨_, rfl⟩
  rw [hj] at hcs hjl
  have hlx : (if first = true then 0 else s.length - 1) = j := hj
  refine Con.of_body Tryz.func38 rfl Tryz.ntmps38 rfl rfl ?_
  intro hs
  refine Zrun ?_
  (refine RW.boxN hs rfl rfl ?_; intro b1 w1 hs)
  refine Zrun ?_
  (refine RW.boxN hs rfl rfl ?_; intro b2 w2 hs)
  refine Zrun ?_
  (refine RW.allocN T hs rfl rfl rfl rfl ?_; intro b3 w3 hs)
  have hcapa := hSa.caps
  have hcapb := hSb.caps
  refine Zerun ?_
  refine CW.meet (fun u : Option Addr × Nat => [(2, .bool first), (3, .int .i64 most), (4, .pointer (some ⟨b1, 0, none⟩)), (5, .pointer (some ⟨b2, 0, none⟩)), (8, .pointer (some ⟨b3, 0, none⟩)), (10, .slice u.1 m.length u.2)]) (fun u w' => Sl h 1 u.1 m.length u.2 (m.map (Value.int .i64)) ∧ Sees w h h [⟨some ⟨b3, 0, none⟩, 1, 1, 39, 9, .slice none 0 0 :: vecCells 0 (.slice none 0 0) 0 (.slice none 0 0) (.slice none 0 0) (.slice none 0 0) (.slice none 0 0) (.slice none 0 0)⟩, ⟨some ⟨b2, 0, none⟩, 1, 1, 39, 9, .slice adb b.shape.length cpb :: vecCells b.vec.kind wb nb sb ib fb gb xb⟩, ⟨some ⟨b1, 0, none⟩, 1, 1, 39, 9, .slice ada a.shape.length cpa :: vecCells a.vec.kind wa na sa ia fa ga xa⟩] w') ?_ ?_
  · by_cases c : a.shape.length < b.shape.length
    · rw [if_pos c] at hm
      subst hm
      refine Zerun ?_
      exact joinQ_meet (adb, cpb) ⟨rfl, rfl, rfl, rfl, rfl, rfl, trivial⟩ ⟨hSb, hs⟩
    · rw [if_neg c] at hm
      subst hm
      refine Zerun ?_
      exact joinQ_meet (ada, cpa) ⟨rfl, rfl, rfl, rfl, rfl, rfl, trivial⟩ ⟨hSa, hs⟩
  rintro ⟨adm, cpm⟩ w4 ⟨hSm, hs⟩
  dsimp only at hSm hs ⊢
  refine Zerun ?_
  refine CW.meet (fun u : (Option Addr × Nat) × GHeap => [(2, .bool first), (3, .int .i64 most), (4, .pointer (some ⟨b1, 0, none⟩)), (5, .pointer (some ⟨b2, 0, none⟩)), (8, .pointer (some ⟨b3, 0, none⟩)), (10, .slice u.1.1 s.length u.1.2)]) (fun u w' => GLe h u.2 ∧ Sl u.2 1 u.1.1 s.length u.1.2 (s.map (Value.int .i64)) ∧ Sees w h u.2 [⟨some ⟨b3, 0, none⟩, 1, 1, 39, 9, .slice none 0 0 :: vecCells 0 (.slice none 0 0) 0 (.slice none 0 0) (.slice none 0 0) (.slice none 0 0) (.slice none 0 0) (.slice none 0 0)⟩, ⟨some ⟨b2, 0, none⟩, 1, 1, 39, 9, .slice adb b.shape.length cpb :: vecCells b.vec.kind wb nb sb ib fb gb xb⟩, ⟨some ⟨b1, 0, none⟩, 1, 1, 39, 9, .slice ada a.shape.length cpa :: vecCells a.vec.kind wa na sa ia fa ga xa⟩] w') ?_ ?_
  · by_cases c : m.length = 0
    · rw [if_pos c] at hsm
      subst hsm
      have c' : (m.length : Int) = 0 := by omega
      refine Zerun ?_
      (refine RW.lit T hs (vs := [.int .i64 1]) (cs := [.int .i64 1]) rfl rfl rfl rfl (by simp [Value.cells]) rfl rfl rfl rfl rfl ?_; intro b5 w5 hs)
      obtain ⟨h5, hle5, hs, hS5⟩ := hs.freeze
      refine Zerun ?_
      exact joinQ_meet ((some ⟨b5, 0, none⟩, 1), h5) ⟨rfl, rfl, rfl, rfl, rfl, rfl, trivial⟩ ⟨hle5, hS5, hs⟩
    · rw [if_neg c] at hsm
      subst hsm
      have c' : ¬ (s.length : Int) = 0 := by omega
      refine Zerun ?_
      exact joinQ_meet ((adm, cpm), h) ⟨rfl, rfl, rfl, rfl, rfl, rfl, trivial⟩ ⟨GLe.refl _, hSm, hs⟩
  rintro ⟨⟨ads, cps⟩, h6⟩ w6 ⟨g6, hSs, hs⟩
  dsimp only at g6 hSs hs ⊢
  have hcaps := hSs.caps
  refine Zerun ?_
  (refine RW.call T hs rfl rfl rfl (joinAxis_con s.length first _ _ hs1 hs8) ?_; intro v h7 w7 hle7 hp7 hs)
  rw [hlx] at hp7
  subst hp7
  have g7 := g6.trans hle7
  have hIs : IntsAt h7 (.slice ads s.length cps) s := ⟨ads, cps, rfl, hSs.mono hle7⟩
  refine Zerun ?_
  (refine RW.call T hs rfl rfl rfl (joinSpread_con k _ a _ s j _ _ (ma _ g7) hIs hjl hgs ha8 H.sh.vm H.sh.k0 hIa) ?_; intro v h8 w8 hle8 hp8 hs)
  obtain ⟨cs8, rfl, ha8'⟩ := hp8
  have g8 := g7.trans hle8
  have hIs := hIs.mono hle8
  by_cases ea : spE a.shape s = 0
  rotate_left
  · have e22 : spE a.shape s = 22 := by unfold spE at ea ⊢; by_cases c : a.shape.length = s.length ∨ a.shape.length = 0 ∨ a.shape.length + 1 = s.length; rw [if_pos c] at ea; exact absurd rfl ea; rw [if_neg c]
    rw [e22]
    obtain ⟨zA, hzA⟩ : ∃ zA, spA a s j = zA := ⟨_, rfl⟩
    rw [hzA] at ha8'
    have ha8 := ha8'
    have hA8 := ha8
    obtain ⟨_, vc8, rfl, ⟨ad8, cp8, rfl, hS8⟩, hv8⟩ := ha8
    have hv8' := hv8
    obtain ⟨wv8, nv8, sm8, il8, fl8, ch8, bx8, ⟨rfl, hoc8⟩, -⟩ := hv8
    refine Zerun ?_
    (refine RW.storeAll T hs 2 rfl rfl rfl rfl rfl rfl (by show (Value.oneCell' (.slice ad8 _ cp8) && (vecCells _ wv8 nv8 sm8 il8 fl8 ch8 bx8).all Value.oneCell') = true; rw [hoc8]; rfl) rfl ?_; intro w9 hs)
    rw [show catS a b first most = (22, ⟨[], VecD.none⟩) from by rw [hcs]; unfold catSx; rw [if_pos (.inl (by omega))]]
    refine Zerun ?_
    refine RW.val (Y.build T rfl rfl rfl rfl rfl rfl rfl) rfl ?_
    refine Zerun ?_
    (refine RW.storeAll T hs 0 rfl rfl rfl rfl rfl rfl rfl rfl ?_; intro w10 hs)
    refine Zerun ?_
    exact retQ_ret [_, _] h8 ⟨resN T hs 0 rfl rfl rfl rfl rfl rfl, rfl, trivial⟩ hs.dropAll ⟨_, rfl, ⟨_, _, rfl, IntsAt.nil _, vecNone _⟩⟩
  rw [ea]
  have hX : spA a s j = ⟨spS a.shape s j, spV a s j⟩ := by unfold spA; rw [if_pos ea]
  rw [hX] at ha8'
  obtain ⟨Ha, hpX⟩ := Tells.spread (p := (⟨a.shape, L, c⟩ : PlainD (PD (k + 1)))) H rfl hpa hgs ea hjl
  have lX := sp_len ea hjl
  obtain ⟨X, hXe⟩ : ∃ X, spS a.shape s j = X := ⟨_, rfl⟩
  obtain ⟨x, hxe⟩ : ∃ x, spV a s j = x := ⟨_, rfl⟩
  rw [hXe, hxe] at ha8' hpX
  rw [hxe] at Ha
  rw [hXe] at lX
  have ha8 := ha8'
  have hA8 := ha8
  obtain ⟨_, vc8, rfl, ⟨ad8, cp8, rfl, hS8⟩, hv8⟩ := ha8
  have hv8' := hv8
  obtain ⟨wv8, nv8, sm8, il8, fl8, ch8, bx8, ⟨rfl, hoc8⟩, -⟩ := hv8
  refine Zerun ?_
  (refine RW.storeAll T hs 2 rfl rfl rfl rfl rfl rfl (by show (Value.oneCell' (.slice ad8 _ cp8) && (vecCells _ wv8 nv8 sm8 il8 fl8 ch8 bx8).all Value.oneCell') = true; rw [hoc8]; rfl) rfl ?_; intro w9 hs)
  refine Zerun ?_
  (refine RW.call T hs rfl rfl rfl (joinSpread_con k _ b _ s j _ _ (mb _ g8) hIs hjl hgs hb8 Hb.sh.vm Hb.sh.k0 hIb) ?_; intro v h11 w11 hle11 hp11 hs)
  obtain ⟨cs11, rfl, ha11'⟩ := hp11
  have g11 := g8.trans hle11
  have hA8 := ArrAt.mono (k + 2) _ _ _ _ hle11 hA8
  have hS8 := hS8.mono hle11
  have hv8' := hv8'.mono (ArrAt.mono (k + 1)) hle11
  by_cases eb : spE b.shape s = 0
  rotate_left
  · have e22 : spE b.shape s = 22 := by unfold spE at eb ⊢; by_cases c : b.shape.length = s.length ∨ b.shape.length = 0 ∨ b.shape.length + 1 = s.length; rw [if_pos c] at eb; exact absurd rfl eb; rw [if_neg c]
    rw [e22]
    obtain ⟨zA, hzA⟩ : ∃ zA, spA b s j = zA := ⟨_, rfl⟩
    rw [hzA] at ha11'
    have ha11 := ha11'
    have hA11 := ha11
    obtain ⟨_, vc11, rfl, ⟨ad11, cp11, rfl, hS11⟩, hv11⟩ := ha11
    have hv11' := hv11
    obtain ⟨wv11, nv11, sm11, il11, fl11, ch11, bx11, ⟨rfl, hoc11⟩, -⟩ := hv11
    refine Zerun ?_
    (refine RW.storeAll T hs 1 rfl rfl rfl rfl rfl rfl (by show (Value.oneCell' (.slice ad11 _ cp11) && (vecCells _ wv11 nv11 sm11 il11 fl11 ch11 bx11).all Value.oneCell') = true; rw [hoc11]; rfl) rfl ?_; intro w12 hs)
    rw [show catS a b first most = (22, ⟨[], VecD.none⟩) from by rw [hcs]; unfold catSx; rw [if_pos (.inr (by omega))]]
    refine Zerun ?_
    refine RW.val (Y.build T rfl rfl rfl rfl rfl rfl rfl) rfl ?_
    refine Zerun ?_
    (refine RW.storeAll T hs 0 rfl rfl rfl rfl rfl rfl rfl rfl ?_; intro w10 hs)
    refine Zerun ?_
    exact retQ_ret [_, _] h11 ⟨resN T hs 0 rfl rfl rfl rfl rfl rfl, rfl, trivial⟩ hs.dropAll ⟨_, rfl, ⟨_, _, rfl, IntsAt.nil _, vecNone _⟩⟩
  rw [eb]
  have hY : spA b s j = ⟨spS b.shape s j, spV b s j⟩ := by unfold spA; rw [if_pos eb]
  rw [hY] at ha11'
  obtain ⟨Hc, hpY⟩ := Tells.spread (p := (⟨b.shape, M, d⟩ : PlainD (PD (k + 1)))) Hb rfl hpb hgs eb hjl
  have lY := sp_len eb hjl
  obtain ⟨Y0, hYe⟩ : ∃ Y0, spS b.shape s j = Y0 := ⟨_, rfl⟩
  obtain ⟨y, hye⟩ : ∃ y, spV b s j = y := ⟨_, rfl⟩
  rw [hYe, hye] at ha11' hpY
  rw [hye] at Hc
  rw [hYe] at lY
  have ha11 := ha11'
  have hA11 := ha11
  obtain ⟨_, vc11, rfl, ⟨ad11, cp11, rfl, hS11⟩, hv11⟩ := ha11
  have hv11' := hv11
  obtain ⟨wv11, nv11, sm11, il11, fl11, ch11, bx11, ⟨rfl, hoc11⟩, -⟩ := hv11
  have hjx : j < X.length := by omega
  have hjy : j < Y0.length := by omega
  have hcs2 : catS a b first most = if X.eraseIdx j ≠ Y0.eraseIdx j then (23, ⟨[], VecD.none⟩) else if (product (catT X Y0 j) most).2 ≠ 0 then ((product (catT X Y0 j) most).2, ⟨[], VecD.none⟩) else match joinC (-1) [x, y] with
    | none => (24, ⟨[], VecD.none⟩)
    | some c => (0, ⟨catT X Y0 j, rowsV (joinX x y c) X Y0 j x.len⟩) := by
      rw [hcs]
      unfold catSx
      rw [if_neg (by omega), hXe, hYe, hxe, hye]
      try rfl
  have hcapX := hS8.caps
  have hcapY := hS11.caps
  have hgX : goodS X = true := (goodS_iff _).2 (by rw [hpX])
  have hgY : goodS Y0 = true := (goodS_iff _).2 (by rw [hpY])
  refine Zerun ?_
  (refine RW.storeAll T hs 1 rfl rfl rfl rfl rfl rfl (by show (Value.oneCell' (.slice ad11 _ cp11) && (vecCells _ wv11 nv11 sm11 il11 fl11 ch11 bx11).all Value.oneCell') = true; rw [hoc11]; rfl) rfl ?_; intro w12 hs)
  refine Zerun ?_
  have hIX : IntsAt h11 (.slice ad8 X.length cp8) X := ⟨ad8, cp8, rfl, hS8⟩
  have hIY : IntsAt h11 (.slice ad11 Y0.length cp11) Y0 := ⟨ad11, cp11, rfl, hS11⟩
  (refine RW.call T hs rfl rfl rfl (without_con _ X j _ _ hIX (by omega)) ?_; intro v h13 w13 hle13 hp13 hs)
  rw [show withoutSpec X (j : Int) = (X.eraseIdx j, true) by unfold withoutSpec; rw [if_pos ⟨by omega, by omega⟩, Int.toNat_natCast]] at hp13
  obtain ⟨u13, rfl, hI13⟩ := hp13
  have hIY := hIY.mono hle13
  refine Zerun ?_
  (refine RW.call T hs rfl rfl rfl (without_con _ Y0 j _ _ hIY (by omega)) ?_; intro v h14 w14 hle14 hp14 hs)
  rw [show withoutSpec Y0 (j : Int) = (Y0.eraseIdx j, true) by unfold withoutSpec; rw [if_pos ⟨by omega, by omega⟩, Int.toNat_natCast]] at hp14
  obtain ⟨u14, rfl, hI14⟩ := hp14
  have hI13 := hI13.mono hle14
  have hI13' := hI13
  have hI14' := hI14
  obtain ⟨ad13, cp13, rfl, _⟩ := hI13
  obtain ⟨ad14, cp14, rfl, _⟩ := hI14
  refine Zerun ?_
  (refine RW.call T hs rfl rfl rfl (same_con _ _ (X.eraseIdx j) (Y0.eraseIdx j) _ _ hI13' hI14' (by rw [List.length_eraseIdx]; split <;> omega)) ?_; intro v h15 w15 hle15 hp15 hs)
  subst hp15
  have g15 := (hle13.trans hle14).trans hle15
  by_cases ce : X.eraseIdx j = Y0.eraseIdx j
  rotate_left
  · rw [decide_eq_false ce]
    rw [show catS a b first most = (23, ⟨[], VecD.none⟩) from by rw [hcs2, if_pos ce]]
    refine Zerun ?_
    refine RW.val (Y.build T rfl rfl rfl rfl rfl rfl rfl) rfl ?_
    refine Zerun ?_
    (refine RW.storeAll T hs 0 rfl rfl rfl rfl rfl rfl rfl rfl ?_; intro w10 hs)
    refine Zerun ?_
    exact retQ_ret [_, _] h15 ⟨resN T hs 0 rfl rfl rfl rfl rfl rfl, rfl, trivial⟩ hs.dropAll ⟨_, rfl, ⟨_, _, rfl, IntsAt.nil _, vecNone _⟩⟩
  rw [decide_eq_true ce]
  rw [if_neg (fun h => h ce)] at hcs2
  refine Zerun ?_
  (refine RW.callM T hs rfl rfl rfl (cloneInt_conM ad8 cp8 X _ _ _ _ _ (hS8.mono g15) (by omega)) ?_; intro v h16 O16 w16 hle16 hp16 hs)
  obtain ⟨rfl, ad16, cp16, rfl, rfl⟩ := hp16
  have hSX := hS8.mono g15
  have hSY := hS11.mono g15
  refine Zerun ?_
  have gX := map_get (Value.int .i64) X j 0 hjx
  have gY := map_get (Value.int .i64) Y0 j 0 hjy
  have bX := good_le X hgX _ (mem_getD X j 0 hjx)
  have bY := good_le Y0 hgY _ (mem_getD Y0 j 0 hjy)
  refine CW.meet (fun u : Unit => [(3, .int .i64 most), (4, .pointer (some ⟨b1, 0, none⟩)), (5, .pointer (some ⟨b2, 0, none⟩)), (8, .pointer (some ⟨b3, 0, none⟩)), (11, .int .i64 (j : Int)), (17, .slice ad16 X.length cp16)]) (fun _ w' => Sees w h h16 [⟨ad16, X.length, cp16, 3, 1, (catT X Y0 j).map (Value.int .i64)⟩, ⟨some ⟨b3, 0, none⟩, 1, 1, 39, 9, .slice none 0 0 :: vecCells 0 (.slice none 0 0) 0 (.slice none 0 0) (.slice none 0 0) (.slice none 0 0) (.slice none 0 0) (.slice none 0 0)⟩, ⟨some ⟨b2, 0, none⟩, 1, 1, 39, 9, .slice ad11 Y0.length cp11 :: vecCells y.kind wv11 nv11 sm11 il11 fl11 ch11 bx11⟩, ⟨some ⟨b1, 0, none⟩, 1, 1, 39, 9, .slice ad8 X.length cp8 :: vecCells x.kind wv8 nv8 sm8 il8 fl8 ch8 bx8⟩] w') ?_ ?_
  · refine CW.regionT T 11 hs (fun w hs => ?_) (by kernel_rfl)
    simp only [List.take_succ_cons, List.take_zero, List.drop_succ_cons, List.drop_zero]
    refine Zsrun ?_
    refine SW.val (Y.idxRN T hs 0 rfl rfl rfl rfl rfl rfl hjx) rfl ?_
    refine SW.val (Y.ldRInt T hs 0 rfl rfl rfl rfl hjx) rfl ?_
    refine Zsrun ?_
    dsimp only
    refine SW.val (Y.add rfl rfl (by omega)) rfl ?_
    refine SW.val (Y.idxRN T hs 0 rfl rfl rfl rfl rfl rfl hjx) rfl ?_
    refine SW.nil ?_
    refine RW.st1 T hs 0 rfl rfl rfl rfl rfl rfl rfl hjx ?_
    intro w18 hs
    dsimp only [List.set_cons_zero] at hs
    rw [map_set_int] at hs
    refine Zerun ?_
    exact joinQ_meet () ⟨rfl, rfl, rfl, rfl, rfl, rfl, trivial⟩ hs
  rintro ⟨⟩ w18 hs
  have hTl : (catT X Y0 j).length = X.length := catT_len _ _ _
  obtain ⟨h19, hle19, hs, hS19⟩ := hs.freeze
  have hIT : IntsAt h19 (.slice ad16 X.length cp16) (catT X Y0 j) := by
    dsimp only at hS19
    rw [← hTl] at hS19 ⊢
    exact IntsAt.of_sl hS19
  refine Zerun ?_
  (refine RW.call T hs rfl rfl rfl (product_con _ (catT X Y0 j) most _ _ hIT (by omega)) ?_; intro v h20 w20 hle20 hp20 hs)
  subst hp20
  have hIT := hIT.mono hle20
  have g20 := g15.trans (hle19.trans hle20)
  by_cases ep : (product (catT X Y0 j) most).2 = 0
  rotate_left
  · obtain ⟨pe, hpe⟩ : ∃ pe, (product (catT X Y0 j) most).2 = pe := ⟨_, rfl⟩
    rw [hpe] at ep ⊢
    rw [show catS a b first most = (pe, ⟨[], VecD.none⟩) from by rw [hcs2, hpe, if_pos ep]]
    refine Zerun ?_
    refine RW.val (Y.build T rfl rfl rfl rfl rfl rfl rfl) rfl ?_
    refine Zerun ?_
    (refine RW.storeAll T hs 0 rfl rfl rfl rfl rfl rfl rfl rfl ?_; intro w10 hs)
    refine Zerun ?_
    exact retQ_ret [_, _] h20 ⟨resN T hs 0 rfl rfl rfl rfl rfl rfl, rfl, trivial⟩ hs.dropAll ⟨_, rfl, ⟨_, _, rfl, IntsAt.nil _, vecNone _⟩⟩
  rw [if_neg (fun h => h ep)] at hcs2
  rw [ep]
  obtain ⟨pn, hpn⟩ : ∃ pn, (product (catT X Y0 j) most).1 = pn := ⟨_, rfl⟩
  have hpt : product (catT X Y0 j) most = (pn, 0) := by rw [← hpn, ← ep]
  obtain ⟨⟨hsum, hp1, hnm⟩, hcase⟩ := cat_mid hpX hpY (by omega) hjx ce hpt
  have hsum2 : x.len + y.len ≤ 1048576 := by omega
  have hkk := fun (c' : Int) (hc' : joinC (-1) [x, y] = some c') => Ha.join_len Hc hc' hsum2
  have hcase2 : x.len + y.len = 0 ∨ ∃ oo n i m : Nat, splitSpec X j = ((oo : Int), (n : Int), (i : Int), true) ∧ Y0.getD j 0 = (m : Int) ∧ x.len = oo * (n * i) ∧ y.len = oo * (m * i) ∧ 0 < i ∧ 0 < oo := by
    rcases hcase with h0 | ⟨P, S, da, db, outer, inner, hC, eX, eY, hPj, eT, hla, hlb, hsp⟩
    · exact .inl (by omega)
    · refine .inr ⟨outer, da, inner, db, hsp, ?_, hla, hlb, hC.pos.1, hC.pos.2⟩
      rw [eY, ← hPj, mid_get]
  have hAx := ArrAt.mono (k + 2) _ _ _ _ g20 hA8
  have hAy := ArrAt.mono (k + 2) _ _ _ _ g20 hA11
  refine Zerun ?_
  (refine RW.call T hs rfl rfl rfl (joinRows_con k _ _ (⟨X, x⟩ : ArrD (AD (k + 1))) (⟨Y0, y⟩ : ArrD (AD (k + 1))) j _ _ hAx hAy hsum2 (by show X.length ≤ 8; omega) (by show Y0.length ≤ 8; omega) hjy hkk hcase2) ?_; intro v h21 w21 hle21 hp21 hs)
  obtain ⟨cs21, ok, rfl, hno, hyes⟩ := hp21
  have hIT := hIT.mono hle21
  rcases hjc : joinC (-1) [x, y] with _ | c'
  · obtain ⟨rfl, hv21⟩ := hno hjc
    rw [hjc] at hcs2
    obtain ⟨wv, nv, sm, il, fl, ch, bx, ⟨rfl, hoc⟩, -⟩ := hv21
    refine Zerun ?_
    (refine RW.allocN T hs rfl rfl rfl rfl ?_; intro b22 w22 hs)
    (refine RW.storeAll T hs 0 rfl rfl rfl rfl rfl rfl hoc rfl ?_; intro w23 hs)
    rw [show catS a b first most = (24, ⟨[], VecD.none⟩) from hcs2]
    refine Zerun ?_
    refine RW.val (Y.build T rfl rfl rfl rfl rfl rfl rfl) rfl ?_
    refine Zerun ?_
    (refine RW.storeAll T hs 1 rfl rfl rfl rfl rfl rfl rfl rfl ?_; intro w24 hs)
    refine Zerun ?_
    exact retQ_ret [_, _] h21 ⟨resN T hs 1 rfl rfl rfl rfl rfl rfl, rfl, trivial⟩ hs.dropAll ⟨_, rfl, ⟨_, _, rfl, IntsAt.nil _, vecNone _⟩⟩
  obtain ⟨rfl, hv21⟩ := hyes c' hjc
  rw [hjc] at hcs2
  obtain ⟨f1, f2, f3⟩ := cat_fin Ha Hc hpX hpY (by omega) hjx ce hpt hmost hjc
  have hv21 : VecAt (ArrAt (k + 1)) h21 cs21 (rowsV (joinX x y c') X Y0 j x.len) := hv21
  obtain ⟨vJ, hve⟩ : ∃ vJ, rowsV (joinX x y c') X Y0 j x.len = vJ := ⟨_, rfl⟩
  dsimp only at hcs2
  rw [hve] at hv21 f1 f2 f3 hcs2
  have hv21' := hv21
  obtain ⟨wv, nv, sm, il, fl, ch, bx, ⟨rfl, hoc⟩, -⟩ := hv21
  rw [hcs2]
  refine Zerun ?_
  (refine RW.allocN T hs rfl rfl rfl rfl ?_; intro b22 w22 hs)
  (refine RW.storeAll T hs 0 rfl rfl rfl rfl rfl rfl hoc rfl ?_; intro w23 hs)
  refine Zerun ?_
  (refine RW.call T hs rfl rfl rfl (valueNew_con (ArrAt.mono (k + 1)) _ (catT X Y0 j) _ vJ _ _ hIT hv21') ?_; intro v h25 w25 hle25 hp25 hs)
  have hne : newE (catT X Y0 j) vJ = 0 := by
    unfold newE
    rw [if_neg (by rw [hp1]; exact fun h => h rfl), if_neg f1.sh.k0, if_neg (by rw [hp1]; show ¬ pn ≠ (vJ.len : Int); omega)]
  rw [hne, f2] at hp25
  obtain ⟨cs25, rfl, _, hone25, hgo25, _⟩ := hp25
  have hA25 := hgo25 rfl
  have hA25' : ArrAt (k + 2) h25 cs25 (⟨catT X Y0 j, vJ⟩ : ArrD (AD (k + 1))) := hA25
  obtain ⟨_, vc25, rfl, ⟨ad25, cp25, rfl, _⟩, hv25⟩ := hA25
  obtain ⟨wv25, nv25, sm25, il25, fl25, ch25, bx25, ⟨rfl, hoc25⟩, -⟩ := hv25
  refine Zerun ?_
  (refine RW.storeAll T hs 1 rfl rfl rfl rfl rfl rfl (by show (Value.oneCell' (.slice ad25 _ cp25) && (vecCells _ wv25 nv25 sm25 il25 fl25 ch25 bx25).all Value.oneCell') = true; rw [hoc25]; rfl) rfl ?_; intro w26 hs)
  refine Zerun ?_
  exact retQ_ret [_, _] h25 ⟨resN T hs 1 rfl rfl rfl rfl rfl rfl, rfl, trivial⟩ hs.dropAll ⟨_, rfl, hA25'⟩
end Go.Proofs.YtmojpbfkpggjhaaGreat

/-
  Contracts of the law's own functions of layer 22: good plain arrays, arrays shown, the example. No statement is proved here.
-/
namespace Go.Proofs.YtmojpbfkpggjhaaGreat
open Go Go.RowKit
set_option linter.unusedVariables false
set_option linter.unusedSimpArgs false
set_option maxHeartbeats 4000000
attribute [local irreducible] CW RW QW SW HW ConM retM heldQ calmQ elemP thenQ blockQ loopQ joinQ retQ Yields Con Sl zF magR unitF truncF fwF wholeF tidySpec elemQ rankF leastN tidyW
set_option maxHeartbeats 4000000
set_option maxRecDepth 4000

theorem shows22_con (k : Nat) (cs cp : List Value) (a : AD (k + 1)) (p : PD (k + 1)) (w : World) (h : GHeap) (ha : ArrAt (k + 1) h cs a) (hp : PlainAt (k + 1) h cp p) (hg : good (k + 1) 40 a) (he : plain (k + 1) a = p) (ht : tdy (k + 1) p) : Con Tryz.prog 40 [.agg cs.toArray, .int .i64 0, .agg cp.toArray, .int .i64 0] w h (fun _ u => u = .bool true) := by
  have ha' := ha
  have hp' := hp
  obtain ⟨s, vc, rfl, ⟨ad, cap, rfl, _⟩, hv⟩ := ha
  obtain ⟨wv, nv, sm, il, fl, ch, bx, ⟨rfl, hoc⟩, _⟩ := hv
  obtain ⟨s2, it2, rfl, ⟨ad2, cp2, rfl, _⟩, ⟨ad3, cp3, xs3, rfl, _, _⟩⟩ := hp
  refine Con.of_body Tryz.func40 rfl Tryz.ntmps40 rfl rfl ?_
  intro hs
  refine Zrun ?_
  (refine RW.boxN hs rfl rfl ?_; intro b1 w1 hs)
  refine Zrun ?_
  (refine RW.boxN hs rfl rfl ?_; intro b2 w2 hs)
  refine Zerun ?_
  refine CW.regionO T hs ?_
  intro w5 hs
  refine HW.takeS (fuel := 8) 0 rfl (fun _ _ hs => Y.loadRowN T hs 1 rfl rfl rfl rfl rfl rfl rfl) hs rfl (by kernel_rfl) (by kernel_rfl) (by kernel_rfl) ?_
  refine HW.one (fuel := 7) 1 rfl (by kernel_rfl) ?_
  (refine RW.call T hs rfl rfl rfl (valueGood_con (k + 1) _ a _ _ ha') ?_; intro v h25 w25 hle25 hp25 hs)
  subst hp25
  rw [decB_of hg]
  have ha' := ArrAt.mono (k + 1) _ _ _ _ hle25 ha'
  have hp' := PlainAt.mono (k + 1) _ _ _ _ hle25 hp'
  refine RW.nil ?_
  refine heldQ_normal ⟨_, hs⟩ ?_
  refine HW.takeS (fuel := 6) 2 rfl (fun _ _ hs => Y.move rfl) hs rfl (by kernel_rfl) (by kernel_rfl) (by kernel_rfl) ?_
  refine HW.takeSY (fuel := 5) 3 rfl rfl rfl (fun _ _ hs => Y.loadRowN T hs 1 rfl rfl rfl rfl rfl rfl rfl) hs rfl (by kernel_rfl) (by kernel_rfl) (by kernel_rfl) ?_
  refine HW.takeSY (fuel := 4) 5 rfl rfl rfl (fun _ _ hs => Y.loadRowN T hs 0 rfl rfl rfl rfl rfl rfl rfl) hs rfl (by kernel_rfl) (by kernel_rfl) (by kernel_rfl) ?_
  refine HW.one (fuel := 3) 4 rfl (by kernel_rfl) ?_
  refine RW.guardYes rfl rfl ?_
  (refine RW.call T hs rfl rfl rfl (plainV_con (k + 1) _ a _ _ ha' (good_sml (k + 1) 40 a hg)) ?_; intro v h28 w28 hle28 hp28 hs)
  obtain ⟨cs28, rfl, hq28⟩ := hp28
  rw [he] at hq28
  have hp' := PlainAt.mono (k + 1) _ _ _ _ hle28 hp'
  refine RW.nil ?_
  refine heldQ_normal ⟨_, hs⟩ ?_
  refine HW.one (fuel := 2) 6 rfl (by kernel_rfl) ?_
  refine RW.guardYes rfl rfl ?_
  (refine RW.call T hs rfl rfl rfl (refSame_con (k + 1) _ _ p p _ _ hq28 hp' ht ht) ?_; intro v h30 w30 hle30 hp30 hs)
  subst hp30
  rw [eqB_of (show p = p from rfl)]
  have hp' := PlainAt.mono (k + 1) _ _ _ _ hle30 hp'
  refine RW.nil ?_
  refine heldQ_normal ⟨_, hs⟩ ?_
  refine HW.takeS (fuel := 1) 7 rfl (fun _ _ hs => Y.pickT rfl rfl) hs rfl (by kernel_rfl) (by kernel_rfl) (by kernel_rfl) ?_
  refine HW.takeS (fuel := 0) 8 rfl (fun _ _ hs => Y.assign rfl) hs rfl (by kernel_rfl) (by kernel_rfl) (by kernel_rfl) ?_
  refine HW.done (by kernel_rfl) ?_
  refine calmQ_normal ?_
  refine Zerun ?_
  exact retQ_ret [_] h30 ⟨rfl, trivial⟩ hs.dropAll rfl
theorem fine22_con (k : Nat) (cs : List Value) (p : PD (k + 1)) (w : World) (h : GHeap) (hp : PlainAt (k + 1) h cs p) : Con Tryz.prog 36 [.agg cs.toArray] w h (fun _ u => ∃ b, u = .bool b ∧ (b = true → chk (k + 1) 40 p = 0 ∧ (PlainD.shape (α := PD k) p).length ≤ 8 ∧ (PlainD.items (α := PD k) p).length ≤ 3000)) := by
  have hp' := hp
  obtain ⟨s, it, rfl, ⟨ad0, cp0, rfl, hS0⟩, ⟨ad, cp, xs, rfl, hS, _⟩⟩ := hp
  have hcap := hS0.caps
  refine Con.of_body Tryz.func36 rfl Tryz.ntmps36 rfl rfl ?_
  intro hs
  refine Zrun ?_
  (refine RW.boxN hs rfl rfl ?_; intro b1 w1 hs)
  refine Zerun ?_
  (refine RW.call T hs rfl rfl rfl (refCountB_con 3000 k _ p _ _ hp') ?_; intro v h2 w2 hle2 hp2 hs)
  obtain ⟨r, rfl, hr⟩ := hp2
  by_cases c1 : r ≤ 1500
  · by_cases c2 : (PlainD.shape (α := PD k) p).length ≤ 8
    · refine Zerun ?_
      (refine RW.call T hs rfl rfl rfl (refCheck_con (k + 1) _ p _ _ (PlainAt.mono (k + 1) _ _ _ _ hle2 hp')) ?_; intro v h3 w3 hle3 hp3 hs)
      subst hp3
      refine Zerun ?_
      refine retQ_ret [_] h3 ⟨rfl, trivial⟩ hs.dropAll ⟨_, rfl, fun e => ?_⟩
      have hc := of_decide_eq_true e
      have hh := hr hc (by omega)
      exact ⟨hc, c2, by omega⟩
    · refine Zerun ?_
      exact retQ_ret [_] h2 ⟨rfl, trivial⟩ hs.dropAll ⟨_, rfl, fun e => by cases e⟩
  · refine Zerun ?_
    exact retQ_ret [_] h2 ⟨rfl, trivial⟩ hs.dropAll ⟨_, rfl, fun e => by cases e⟩
theorem shows22E_con {α β : Type} {R : GHeap → List Value → α → Prop} {Rq : GHeap → List Value → β → Prop} (cs cp : List Value) (p : PlainD β) (e : Int) (w : World) (h : GHeap) (he : e = 22 ∨ e = 23 ∨ e = 24 ∨ e = 26) (ha : ArrR R h cs ⟨[], VecD.none⟩) (hp : PlainR Rq h cp p) : Con Tryz.prog 40 [.agg cs.toArray, .int .i64 e, .agg cp.toArray, .int .i64 e] w h (fun _ u => u = .bool true) := by
  obtain ⟨_, vc, rfl, ⟨ad, cap, rfl, _⟩, hv⟩ := ha
  have hv' := hv
  obtain ⟨wv, nv, sm, il, fl, ch, bx, ⟨rfl, hoc⟩, _⟩ := hv
  obtain ⟨s2, it2, rfl, ⟨ad2, cp2, rfl, _⟩, ⟨ad3, cp3, xs3, rfl, _, _⟩⟩ := hp
  rcases he with rfl | rfl | rfl | rfl
  all_goals
    refine Con.of_body Tryz.func40 rfl Tryz.ntmps40 rfl rfl ?_
    intro hs
    refine Zrun ?_
    (refine RW.boxN hs rfl rfl ?_; intro b1 w1 hs)
    refine Zrun ?_
    (refine RW.boxN hs rfl rfl ?_; intro b2 w2 hs)
    refine Zerun ?_
    (refine RW.call T hs rfl rfl rfl (vecKind_con _ VecD.none _ _ hv') ?_; intro v h3 w3 hle3 hp3 hs)
    subst hp3
    refine Zerun ?_
    exact retQ_ret [_] h3 ⟨rfl, trivial⟩ hs.dropAll rfl
theorem shows22X_con (k : Nat) (cs cp : List Value) (e : Int) (a : AD (k + 1)) (p : PD (k + 1)) (w : World) (h : GHeap) (ha : ArrAt (k + 1) h cs a) (hp : PlainAt (k + 1) h cp p) (hr : ResX k e a p) : Con Tryz.prog 40 [.agg cs.toArray, .int .i64 e, .agg cp.toArray, .int .i64 e] w h (fun _ u => u = .bool true) := by
  rcases hr with ⟨rfl, h1, h2, h3⟩ | ⟨he, rfl⟩
  · exact shows22_con k cs cp a p w h ha hp h1 h2 h3
  · exact shows22E_con (α := AD k) (R := ArrAt k) (Rq := PlainAt k) cs cp p e w h he ha hp
/-! ## The example -/
abbrev wj_1 : Nat := 4607182418800017408
theorem fwj_1 : fwF 1 = wj_1 := by unfold fwF; decide
theorem twj_1 : tidyF wj_1 := by rw [← fwj_1]; exact (fwF_spec 1 (by omega)).1
abbrev wj_2 : Nat := 4611686018427387904
theorem fwj_2 : fwF 2 = wj_2 := by unfold fwF; decide
theorem twj_2 : tidyF wj_2 := by rw [← fwj_2]; exact (fwF_spec 2 (by omega)).1
abbrev wj_3 : Nat := 4613937818241073152
theorem fwj_3 : fwF 3 = wj_3 := by unfold fwF; decide
theorem twj_3 : tidyF wj_3 := by rw [← fwj_3]; exact (fwF_spec 3 (by omega)).1
theorem tidyWj {x : Nat} (h : tidyF x) : tidyW x = x := by unfold tidyW; rw [tidySpec_of _ h]
theorem tj_12 : ∀ u ∈ [wj_1, wj_2], tidyF u := by
  intro u hu
  simp only [List.mem_cons, List.not_mem_nil, or_false] at hu
  rcases hu with rfl | rfl
  · exact twj_1
  · exact twj_2
theorem tj_123 : ∀ u ∈ [wj_1, wj_2, wj_3], tidyF u := by
  intro u hu
  simp only [List.mem_cons, List.not_mem_nil, or_false] at hu
  rcases hu with rfl | rfl | rfl
  · exact twj_1
  · exact twj_2
  · exact twj_3
def pj12 : PD 2 := (numsP [wj_1, wj_2] : PlainD (PD 1))
def pj3 : PD 2 := numQ 1 wj_3
theorem chkj12 : chk 2 40 pj12 = 0 := numsP_chk 1 _ (fun x hx => (tj_12 x hx).2.1) (by decide)
theorem chkj3 : chk 2 40 pj3 = 0 := numQ_chk 1 _ twj_3.2.1
theorem tidyj12 : tidy 2 pj12 = pj12 := by
  show (⟨[2], [⟨0, tidyW wj_1, 0, []⟩, ⟨0, tidyW wj_2, 0, []⟩], 0⟩ : PlainD (PD 1)) = ⟨[2], [⟨0, wj_1, 0, []⟩, ⟨0, wj_2, 0, []⟩], 0⟩
  rw [tidyWj twj_1, tidyWj twj_2]
theorem tidyj3 : tidy 2 pj3 = pj3 := by
  show (⟨[], [⟨0, tidyW wj_3, 0, []⟩], 0⟩ : PlainD (PD 1)) = ⟨[], [⟨0, wj_3, 0, []⟩], 0⟩
  rw [tidyWj twj_3]
theorem catj : catRx (β := PD 0) (pj12 : PlainD (PD 1)) (pj3 : PlainD (PD 1)) [2] 0 99 = (0, (numsP [wj_1, wj_2, wj_3] : PlainD (PD 1))) := by
  unfold catRx
  rfl
theorem joinj (H1 : Tells 0 (ArrD.vec (α := AD 1) (arr 2 pj12)) (PlainD.items (α := PD 1) (tidy 2 pj12)) (PlainD.fill (α := PD 1) (tidy 2 pj12))) (H3 : Tells 0 (ArrD.vec (α := AD 1) (arr 2 pj3)) (PlainD.items (α := PD 1) (tidy 2 pj3)) (PlainD.fill (α := PD 1) (tidy 2 pj3))) (h1 : product (PlainD.shape (α := PD 1) pj12) 1048576 = (((ArrD.vec (α := AD 1) (arr 2 pj12)).len : Int), 0)) (h3 : product (PlainD.shape (α := PD 1) pj3) 1048576 = (((ArrD.vec (α := AD 1) (arr 2 pj3)).len : Int), 0)) :
    (catS (k := 0) (arr 2 pj12) (arr 2 pj3) false 99).1 = 0 ∧ ResX 1 0 (catS (k := 0) (arr 2 pj12) (arr 2 pj3) false 99).2 (numsP [wj_1, wj_2, wj_3] : PlainD (PD 1)) := by
  have h := cat_res (k := 0) (a := arr 2 pj12) (b := arr 2 pj3) (p := tidy 2 pj12) (q := tidy 2 pj3) H1 H3 rfl rfl h1 h3 (s := [2]) (j := 0) (by decide) (by decide) (most := 99) (by decide)
  have e : catRx (β := PD 0) (tidy 2 pj12 : PlainD (PD 1)) (tidy 2 pj3 : PlainD (PD 1)) [2] 0 99 = (0, (numsP [wj_1, wj_2, wj_3] : PlainD (PD 1))) := by rw [tidyj12, tidyj3]; exact catj
  have hs : catS (k := 0) (arr 2 pj12) (arr 2 pj3) false 99 = catSx (k := 0) (arr 2 pj12) (arr 2 pj3) [2] 0 99 := rfl
  rw [hs]
  rw [e] at h
  have e1 : (catSx (k := 0) (arr 2 pj12) (arr 2 pj3) [2] 0 99).1 = 0 := h.1
  have e2 := h.2.1
  rw [e1] at e2
  exact ⟨e1, e2⟩
theorem awake22_con (w : World) (h : GHeap) : Con Tryz.prog 37 [] w h (fun _ u => u = .bool true) := by
  refine Con.of_body Tryz.func37 rfl Tryz.ntmps37 rfl rfl ?_
  intro hs
  refine Zrun ?_
  (refine RW.lit T hs (vs := [.float .f64 4607182418800017408, .float .f64 4611686018427387904]) rfl rfl rfl rfl (by simp [Value.cells]) rfl rfl rfl rfl rfl ?_; intro b4 w4 hs)
  obtain ⟨h4, hle4, hs, hS4⟩ := hs.freeze
  have hF4 : FAt h4 (.slice (some ⟨b4, 0, none⟩) 2 2) [wj_1, wj_2] := RowAt.of_sl hS4
  refine Zerun ?_
  (refine RW.call T hs rfl rfl rfl (refNums_con (R := PlainAt 1) (PlainAt.mono 1) _ _ _ _ hF4 (fun x hx => (tj_12 x hx).1) (by decide)) ?_; intro v h5 w5 hle5 hp5 hs)
  obtain ⟨cs5, rfl, hq5⟩ := hp5
  have hp1 : PlainAt 2 h5 cs5 pj12 := hq5
  refine Zerun ?_
  (refine RW.call T hs rfl rfl rfl (of07_con 2 _ pj12 _ _ hp1 chkj12) ?_; intro v h6 w6 hle6 hp6 hs)
  obtain ⟨cs6, rfl, _, _, hn6⟩ := hp6
  have hp1 := PlainAt.mono 2 _ _ _ _ hle6 hp1
  refine Zerun ?_
  (refine RW.call T hs rfl rfl rfl (refOne_con (α := PD 1) (R := PlainAt 1) wj_3 _ _ (twj_3).1) ?_; intro v h7 w7 hle7 hp7 hs)
  obtain ⟨cs7, rfl, hq7⟩ := hp7
  have hp3 : PlainAt 2 h7 cs7 pj3 := hq7
  have hp1 := PlainAt.mono 2 _ _ _ _ hle7 hp1
  have hn6 := ArrAt.mono 2 _ _ _ _ hle7 hn6
  refine Zerun ?_
  (refine RW.call T hs rfl rfl rfl (of07_con 2 _ pj3 _ _ hp3 chkj3) ?_; intro v h8 w8 hle8 hp8 hs)
  obtain ⟨cs8, rfl, _, _, hn8⟩ := hp8
  have hp1 := PlainAt.mono 2 _ _ _ _ hle8 hp1
  have hp3 := PlainAt.mono 2 _ _ _ _ hle8 hp3
  have hn6 := ArrAt.mono 2 _ _ _ _ hle8 hn6
  obtain ⟨H1, hpr1⟩ := tells_of 0 pj12 _ _ hp1 chkj12
  obtain ⟨H3, hpr3⟩ := tells_of 0 pj3 _ _ hp3 chkj3
  obtain ⟨he, hres⟩ := joinj H1 H3 hpr1 hpr3
  refine Zerun ?_
  (refine RW.call T hs rfl rfl rfl (joinCatenate_con 0 _ _ (arr 2 pj12) (arr 2 pj3) _ _ _ _ false 99 _ _ hn6 hn8 H1 H3 hpr1 hpr3 (by decide) (.inl (by decide)) (.inr (.inl (by decide)))) ?_; intro v h9 w9 hle9 hp9 hs)
  obtain ⟨cs9, rfl, hr9⟩ := hp9
  rw [he]
  obtain ⟨r, hre⟩ : ∃ r : ArrD (AD 1), (catS (k := 0) (arr 2 pj12) (arr 2 pj3) false 99).2 = r := ⟨_, rfl⟩
  rw [hre] at hr9 hres
  have hA9 := hr9
  obtain ⟨_, vc9, rfl, ⟨ad9, cp9, rfl, _⟩, hv9⟩ := hr9
  obtain ⟨wv9, nv9, sm9, il9, fl9, ch9, bx9, ⟨rfl, hoc9⟩, -⟩ := hv9
  refine Zerun ?_
  (refine RW.allocN T hs rfl rfl rfl rfl ?_; intro b10 w10 hs)
  (refine RW.storeAll T hs 0 rfl rfl rfl rfl rfl rfl (by show (Value.oneCell' (.slice ad9 _ cp9) && (vecCells _ wv9 nv9 sm9 il9 fl9 ch9 bx9).all Value.oneCell') = true; rw [hoc9]; rfl) rfl ?_; intro w11 hs)
  refine Zerun ?_
  refine CW.regionR T 0 0 hs rfl rfl ?_
  intro w13 hs
  refine HW.takeR (fuel := 5) 0 rfl (fun _ _ ka kb _ hs hka hkb => Y.loadRowN T hs ka hka rfl rfl rfl rfl rfl rfl) ⟨_, _, 0, 0, hs, rfl, rfl⟩ rfl (by kernel_rfl) (by kernel_rfl) (by kernel_rfl) ?_
  refine HW.takeR (fuel := 4) 1 rfl (fun _ _ ka kb _ hs hka hkb => Y.move rfl) ⟨_, _, 0, 0, hs, rfl, rfl⟩ rfl (by kernel_rfl) (by kernel_rfl) (by kernel_rfl) ?_
  refine HW.one (fuel := 3) 2 rfl (by kernel_rfl) ?_
  (refine RW.lit T hs (vs := [.float .f64 4607182418800017408, .float .f64 4611686018427387904, .float .f64 4613937818241073152]) rfl rfl rfl rfl (by simp [Value.cells]) rfl rfl rfl rfl rfl ?_; intro b14 w14 hs)
  obtain ⟨h14, hle14, hs, hS14⟩ := hs.freeze
  have hF14 : FAt h14 (.slice (some ⟨b14, 0, none⟩) 3 3) [wj_1, wj_2, wj_3] := RowAt.of_sl hS14
  have hA9 := ArrAt.mono 2 _ _ _ _ hle14 hA9
  refine RW.nil ?_
  refine heldQ_normal ⟨_, _, 0, 0, hs, rfl, rfl⟩ ?_
  refine HW.one (fuel := 2) 3 rfl (by kernel_rfl) ?_
  (refine RW.call T hs rfl rfl rfl (refNums_con (R := PlainAt 1) (PlainAt.mono 1) _ _ _ _ hF14 (fun x hx => (tj_123 x hx).1) (by decide)) ?_; intro v h15 w15 hle15 hp15 hs)
  obtain ⟨cs15, rfl, hq15⟩ := hp15
  have hq15 : PlainAt 2 h15 cs15 (numsP [wj_1, wj_2, wj_3] : PlainD (PD 1)) := hq15
  have hA9 := ArrAt.mono 2 _ _ _ _ hle15 hA9
  refine RW.nil ?_
  refine heldQ_normal ⟨_, _, 0, 0, hs, rfl, rfl⟩ ?_
  refine HW.one (fuel := 1) 4 rfl (by kernel_rfl) ?_
  (refine RW.call T hs rfl rfl rfl (shows22X_con 1 _ _ 0 r (numsP [wj_1, wj_2, wj_3] : PlainD (PD 1)) _ _ hA9 hq15 hres) ?_; intro v h16 w16 hle16 hp16 hs)
  subst hp16
  refine RW.nil ?_
  refine heldQ_normal ⟨_, _, 0, 0, hs, rfl, rfl⟩ ?_
  refine HW.takeR (fuel := 0) 5 rfl (fun _ _ ka kb _ hs hka hkb => Y.assign rfl) ⟨_, _, 0, 0, hs, rfl, rfl⟩ rfl (by kernel_rfl) (by kernel_rfl) (by kernel_rfl) ?_
  refine HW.done (by kernel_rfl) ?_
  refine calmQ_normal ?_
  refine Zerun ?_
  exact retQ_ret [_] h16 ⟨rfl, trivial⟩ hs.dropAll rfl
end Go.Proofs.YtmojpbfkpggjhaaGreat

/-
  Contracts of the law's own functions of layer 6, first part. No statement is proved here.
-/
namespace Go.Proofs.YtmojpbfkpggjhaaGreat
open Go Go.RowKit
set_option linter.unusedVariables false
set_option linter.unusedSimpArgs false
set_option maxHeartbeats 4000000
attribute [local irreducible] CW RW QW SW HW ConM retM heldQ calmQ elemP thenQ blockQ loopQ joinQ retQ Yields Con Sl


end Go.Proofs.YtmojpbfkpggjhaaGreat

/-
  Contracts of the law's own functions of layer 6, fifth part: all indexes in order. No statement is proved here.
-/
namespace Go.Proofs.YtmojpbfkpggjhaaGreat
open Go Go.RowKit
set_option linter.unusedVariables false
set_option linter.unusedSimpArgs false
set_option maxHeartbeats 4000000
attribute [local irreducible] CW RW QW SW HW ConM retM heldQ calmQ elemP thenQ blockQ loopQ joinQ retQ Yields Con Sl

theorem IntsAt.one {h : GHeap} {u : Value} {x : List Int} (hi : IntsAt h u x) : u.oneCell' = true := by
  obtain ⟨ad, cp, rfl, _⟩ := hi; rfl

end Go.Proofs.YtmojpbfkpggjhaaGreat

/-
  Plain laws of places that are taken and dropped along an axis. No statement is proved here.
-/
namespace Go.Proofs.YtmojpbfkpggjhaaGreat
open Go Go.RowKit
set_option linter.unusedVariables false
set_option linter.unusedSimpArgs false

end Go.Proofs.YtmojpbfkpggjhaaGreat
