/-
  Own texts of the claim, merged: Jb, Jc, Jd, Je, Ka, PlainN, PlainP, PlainQ, PlBa, Kb, LibX, Kc, Kd, Ke, Kf, Kg, Kh, Il, Im, On, PlBb, PlBc, Pa, Fc, Fd, Fe, Ff, Ya, LibY, LibZ, Yb, Ye, PlainT, PlainS, Sa, Sb, Sc, Io, Na, PlainL, Nb, Nc, Nd, PlainM, Ne, Za, Zb, Zc, Ga, Ge, Sd, Se, Sg, Kj, Sh, Yc, Yd, Yf, Yg, Ea, Eb. Lemmas of the proof; no statement is proved here.
-/
import Derived.Test.YtmojpbfkpggjhaaGreatMb
import Derived.Laws.Externs
import Derived.Lib.TrailingZeros
/-
  Contracts of functions of package flat: elements picked. No statement is proved here.
-/
namespace Go.Proofs.YtmojpbfkpggjhaaGreat
open Go Go.RowKit
set_option linter.unusedVariables false
set_option linter.unusedSimpArgs false
set_option maxHeartbeats 4000000
attribute [local irreducible] CW RW QW SW HW ConM retM heldQ calmQ elemP thenQ blockQ loopQ joinQ retQ Yields Con Sl zF magR unitF truncF fwF wholeF tidySpec elemQ rankF leastN tidyW
set_option maxHeartbeats 4000000

theorem wholeF_bounds (x : Nat) : -9007199254740992 ≤ (wholeF x).1 ∧ (wholeF x).1 ≤ 9007199254740992 := by
  unfold wholeF
  split
  · rename_i h; exact trunc_bounds x h
  · constructor <;> decide
section
variable {α : Type} {R : GHeap → List Value → α → Prop}
theorem flatPickBits_con (hR : Mono R) (cs : List Value) (v : VecD α) (v1 : Value) (at_ : List Int) (bs : List Bool) (w : World) (h : GHeap) (hv : VecAt R h cs v) (hbs : v = ⟨1, bs.map bitF, [], []⟩) (ha : IntsAt h v1 at_) (hm : at_.length ≤ 1048576) : Con Tryz.prog 132 [.agg cs.toArray, v1] w h (fun h' u => ∃ cs', u = .agg cs'.toArray ∧ VecAt R h' cs' ⟨1, (at_.map fun i => bitAt bs i).map bitF, [], []⟩) := by
  obtain ⟨ad1, cp1, rfl, hS1⟩ := ha
  have hv' := hv
  obtain ⟨wv, nv, sm, il, fl, ch, bx, ⟨rfl, hoc⟩, hk⟩ := hv
  clear hk
  refine Con.of_body Tryz.func132 rfl Tryz.ntmps132 rfl rfl ?_
  intro hs
  refine Zrun ?_
  (refine RW.boxN hs rfl rfl ?_; intro b1 w1 hs)
  (refine RW.allocN T hs rfl rfl rfl rfl ?_; intro b2 w2 hs)
  refine Zerun ?_
  (refine RW.call T hs rfl rfl rfl (vecPacked_con _ v _ _ hv') ?_; intro v h3 w3 hle3 hp3 hs)
  obtain ⟨wv3, bs3, rfl, hb3, hb3', _⟩ := hp3
  have hbb : bs3 = bs := by
    have e := hb3' (by rw [hbs])
    rw [hbs] at e
    have e2 : bs.map bitF = bs3.map bitF := by injection e
    have inj : ∀ a b : Bool, bitF a = bitF b → a = b := by decide
    have key : ∀ (a b : List Bool), a.map bitF = b.map bitF → a = b := by
      intro a
      induction a with
      | nil => intro b hb; cases b with
        | nil => rfl
        | cons => simp at hb
      | cons x a ih => intro b hb; cases b with
        | nil => simp at hb
        | cons y b =>
          simp only [List.map_cons, List.cons.injEq] at hb
          rw [inj x y hb.1, ih b hb.2]
    exact (key _ _ e2).symm
  subst hbb
  have hb3'' := hb3
  obtain ⟨_, ws3, ⟨ad3, cp3, rfl, _⟩, _⟩ := hb3
  have hS1 := hS1.mono hle3
  refine Zerun ?_
  (refine RW.allocN T hs rfl rfl rfl rfl ?_; intro b4 w4 hs)
  (refine RW.storeAll T hs 0 rfl rfl rfl rfl rfl rfl rfl rfl ?_; intro w5 hs)
  refine Zerun ?_
  (refine RW.make1 T hs rfl rfl rfl rfl rfl rfl rfl (by dsimp only; omega) (by omega) ?_; intro b6 w6 hs)
  refine Zerun ?_
  refine CW.loop (fun u : Nat × GHeap => [(1, .slice ad1 at_.length cp1), (2, .pointer (some ⟨b1, 0, none⟩)), (4, .pointer (some ⟨b2, 0, none⟩)), (5, .pointer (some ⟨b4, 0, none⟩)), (7, .slice (some ⟨b6, 0, none⟩) at_.length at_.length), (18, .slice ad1 at_.length cp1), (19, .int .i64 at_.length), (20, .int .i64 u.1)]) (fun u w' => u.1 ≤ at_.length ∧ GLe h3 u.2 ∧ Sees w h u.2 [⟨some ⟨b6, 0, none⟩, at_.length, at_.length, 4, 1, ((at_.take u.1).map fun i => bitAt bs3 i).map Value.bool ++ List.replicate (at_.length - u.1) (.bool false)⟩, ⟨some ⟨b4, 0, none⟩, 1, 1, 30, 2, [.slice ad3 ws3.length cp3, .int .i64 bs3.length]⟩, ⟨some ⟨b2, 0, none⟩, 1, 1, 37, 8, vecCells 0 (.slice none 0 0) 0 (.slice none 0 0) (.slice none 0 0) (.slice none 0 0) (.slice none 0 0) (.slice none 0 0)⟩, ⟨some ⟨b1, 0, none⟩, 1, 1, 37, 8, vecCells v.kind wv nv sm il fl ch bx⟩] w') (fun u => at_.length - u.1) (0, h3) ⟨rfl, rfl, rfl, rfl, rfl, rfl, rfl, rfl, trivial⟩ ⟨by omega, GLe.refl _, by simp only [List.take_zero, List.map_nil, List.nil_append, Nat.sub_zero]; exact hs⟩ ?_
  rintro ⟨i, hh⟩ w7 ⟨hi, hg, hs⟩
  dsimp only at hi hg hs ⊢
  have hS1 := hS1.mono hg
  have hb' := hb3''.mono hg
  by_cases hlt : i < at_.length
  · have htk := take_succ_getD at_ i 0 hlt
    refine Zerun ?_
    (refine RW.call T hs rfl rfl rfl (bitsAt_con _ bs3 (at_.getD i 0) _ _ hb') ?_; intro v h8 w8 hle8 hp8 hs)
    subst hp8
    refine RW.val (Y.idxRN T hs 0 rfl rfl rfl rfl rfl rfl ?_) rfl ?_
    · omega
    refine RW.st1 T hs 0 rfl rfl rfl rfl rfl rfl rfl (by omega) ?_
    intro w9 hs
    have e1 := set_snoc (((at_.take i).map fun i => bitAt bs3 i).map Value.bool) (at_.length - i) (Value.bool false) (Value.bool (bitAt bs3 (at_.getD i 0))) (by omega)
    simp only [List.length_map, List.length_take, Nat.min_eq_left hi] at e1
    have e2 : ((at_.take i).map fun i => bitAt bs3 i).map Value.bool ++ [Value.bool (bitAt bs3 (at_.getD i 0))] ++ List.replicate (at_.length - i - 1) (.bool false) = ((at_.take (i + 1)).map fun i => bitAt bs3 i).map Value.bool ++ List.replicate (at_.length - (i + 1)) (.bool false) := by
      rw [htk, List.map_append, List.map_append, show at_.length - (i + 1) = at_.length - i - 1 by omega]; rfl
    replace hs := hs.re (e1.trans e2)
    refine Zerun ?_
    exact loopQ_round (i + 1, h8) ⟨rfl, rfl, rfl, rfl, rfl, rfl, rfl, rfl, trivial⟩ ⟨by dsimp only; omega, hg.trans hle8, hs⟩ (by dsimp only; omega)
  · obtain rfl : i = at_.length := by omega
    rw [List.take_length, Nat.sub_self, List.replicate_zero, List.append_nil] at hs
    obtain ⟨h8, hle8, hs, hS8⟩ := hs.freeze
    have hT8 : TAt h8 (.slice (some ⟨b6, 0, none⟩) at_.length at_.length) (at_.map fun i => bitAt bs3 i) := RowAt.of_sl hS8
    refine Zerun ?_
    (refine RW.call T hs rfl rfl rfl (bitsPack_con _ _ _ _ hT8 (by simpa using hm)) ?_; intro v h9 w9 hle9 hp9 hs)
    obtain ⟨wv9, rfl, hb9⟩ := hp9
    (refine RW.call T hs rfl rfl rfl (vecBits_con (R := R) _ _ _ _ hb9) ?_; intro v h10 w10 hle10 hp10 hs)
    obtain ⟨cs10, rfl, hv10⟩ := hp10
    have hv10' := hv10
    obtain ⟨wv', nv', sm', il', fl', ch', bx', ⟨rfl, hoc'⟩, _⟩ := hv10
    (refine RW.storeAll T hs 1 rfl rfl rfl rfl rfl rfl hoc' rfl ?_; intro w11 hs)
    refine Zerun ?_
    exact retQ_ret [_] h10 ⟨resN T hs 1 rfl rfl rfl rfl rfl rfl, trivial⟩ hs.dropAll ⟨_, rfl, hv10'⟩
/-- the elements at some places -/
def VecD.pick (v : VecD α) (at_ : List Int) (nb : α) : VecD α :=
  if v.kind = 5 then ⟨5, [], at_.map (fun i => atD v.chars i 32), []⟩
  else if v.kind = 6 then ⟨6, [], [], at_.map (fun i => atD v.boxes i nb)⟩
  else ⟨leastN (at_.map v.num), at_.map v.num, [], []⟩
theorem num_tidy {h : GHeap} {cs : List Value} {v : VecD α} (hv : VecAt R h cs v) (i : Int) : tidyF (v.num i) := by
  unfold VecD.num
  split
  · by_cases c : i.toNat < v.nums.length
    · exact hv.tidy _ (mem_getD _ _ _ c)
    · rw [List.getD_eq_getElem?_getD, List.getElem?_eq_none (by omega)]; exact tidy0
  · exact tidy0
theorem whole_num {h : GHeap} {cs : List Value} {v : VecD α} (hv : VecAt R h cs v) (hk : v.kind = 1 ∨ v.kind = 2 ∨ v.kind = 3) (i : Int) : fwF (v.whole i).1 = v.num i := by
  have hw := hv.wholes hk
  have hn : v.nums.length = v.len := hv.nums_len (by unfold VecD.cls; rw [if_neg (by omega), if_neg (by omega)])
  unfold VecD.whole VecD.num
  by_cases c : 0 ≤ i ∧ i < v.len
  · rw [if_pos ⟨hk, c⟩, if_pos c.1]
    have hm := mem_getD v.nums i.toNat 0 (by omega)
    exact (fw_whole _ _ (hv.tidy _ hm) (by rw [← hw _ hm])).symm
  · rw [if_neg (fun e => c e.2)]
    show fwF 0 = _
    rw [fw0]
    split
    · rw [List.getD_eq_getElem?_getD, List.getElem?_eq_none (by omega)]; rfl
    · rfl
theorem pick_wholes {h : GHeap} {cs : List Value} {v : VecD α} (hv : VecAt R h cs v) (hk : v.kind = 1 ∨ v.kind = 2 ∨ v.kind = 3) (at_ : List Int) (nb : α) : (⟨leastN ((at_.map fun i => (v.whole i).1).map fwF), (at_.map fun i => (v.whole i).1).map fwF, [], []⟩ : VecD α) = v.pick at_ nb := by
  have e : (at_.map fun i => (v.whole i).1).map fwF = at_.map v.num := by
    rw [List.map_map]
    apply List.map_congr_left
    intro i _
    exact whole_num hv hk i
  rw [e]
  unfold VecD.pick
  rw [if_neg (by omega), if_neg (by omega)]
theorem sq_nums3 (N : List Nat) : (⟨3, N, [], []⟩ : VecD α).sq = ⟨leastN N, N, [], []⟩ := by
  unfold VecD.sq VecD.cls
  simp
theorem pick_bits (bs : List Bool) (at_ : List Int) (nb : α) : (⟨1, (at_.map fun i => bitAt bs i).map bitF, [], []⟩ : VecD α) = VecD.pick ⟨1, bs.map bitF, [], []⟩ at_ nb := by
  have e : (at_.map fun i => bitAt bs i).map bitF = at_.map (VecD.num (⟨1, bs.map bitF, [], []⟩ : VecD α)) := by
    rw [List.map_map]
    apply List.map_congr_left
    intro i _
    simp only [Function.comp, bitAt, VecD.num]
    split
    · by_cases c : i.toNat < bs.length
      · rw [getD_map bitF bs i.toNat false 0 c]
      · rw [List.getD_eq_getElem?_getD, List.getElem?_eq_none (by omega), List.getD_eq_getElem?_getD, List.getElem?_eq_none (by simp; omega)]; rfl
    · rfl
  have el : leastN ((at_.map fun i => bitAt bs i).map bitF) = 1 := by
    have h1 := (leastN_bounds ((at_.map fun i => bitAt bs i).map bitF)).1
    have h2 : leastN ((at_.map fun i => bitAt bs i).map bitF) ≤ 1 := by
      rw [leastN.eq_1]
      refine fold_le _ 1 1 (by omega) ?_
      intro x hx
      obtain ⟨b, _, rfl⟩ := List.mem_map.1 hx
      cases b
      · exact (rank_bit _ tidy0).2 (.inl fw0.symm)
      · exact (rank_bit _ tidy1).2 (.inr fw1.symm)
    omega
  unfold VecD.pick
  rw [if_neg (show ¬ (1 : Int) = 5 by decide), if_neg (show ¬ (1 : Int) = 6 by decide), ← e, el]
theorem flatPick_con (hR : Mono R) (h1 : One R) (h9 : Siz 9 R) (nb : α) (hbl : ∀ w h, Con Tryz.prog 138 [] w h (fun h' u => ∃ cs', u = .agg cs'.toArray ∧ R h' cs' nb))
    (cs : List Value) (v : VecD α) (v1 : Value) (at_ : List Int) (w : World) (h : GHeap) (hv : VecAt R h cs v) (ha : IntsAt h v1 at_) (hm : at_.length ≤ 1048576) (hvm : v.len ≤ 1048576) (hk0 : v.kind ≠ 0) : Con Tryz.prog 86 [.agg cs.toArray, v1] w h (fun h' u => ∃ cs', u = .agg cs'.toArray ∧ VecAt R h' cs' (v.pick at_ nb)) := by
  have ha' := ha
  obtain ⟨ad1, cp1, rfl, hS1⟩ := ha
  have hv' := hv
  have hv0 := hv
  obtain ⟨wv, nv, sm, il, fl, ch, bx, ⟨rfl, hoc⟩, hk⟩ := hv
  have hkk : (v.kind = 1 ∧ ∃ bs : List Bool, v = ⟨1, bs.map bitF, [], []⟩) ∨ (v.kind = 2 ∨ v.kind = 3) ∨ v.kind = 4 ∨ v.kind = 5 ∨ v.kind = 6 := by
    rcases hk with ⟨e, _⟩ | ⟨e, bs, _, _, e2⟩ | ⟨e, _⟩ | ⟨e, _⟩ | ⟨e, _⟩ | ⟨e, _⟩ | ⟨e, _⟩
    · exact absurd e hk0
    · exact .inl ⟨e, bs, e2⟩
    · exact .inr (.inl (.inl e))
    · exact .inr (.inl (.inr e))
    · exact .inr (.inr (.inl e))
    · exact .inr (.inr (.inr (.inl e)))
    · exact .inr (.inr (.inr (.inr e)))
  clear hk
  refine Con.of_body Tryz.func86 rfl Tryz.ntmps86 rfl rfl ?_
  intro hs
  refine Zrun ?_
  (refine RW.boxN hs rfl rfl ?_; intro b1 w1 hs)
  (refine RW.allocN T hs rfl rfl rfl rfl ?_; intro b2 w2 hs)
  refine Zerun ?_
  (refine RW.call T hs rfl rfl rfl (vecKind_con _ v _ _ hv') ?_; intro v h3 w3 hle3 hp3 hs)
  subst hp3
  have hv' := hv'.mono hR hle3
  have ha' := ha'.mono hle3
  have hS1 := hS1.mono hle3
  rcases hkk with ⟨k1, bs, hbs⟩ | k23 | k4 | k5 | k6
  · have hsp := pick_bits bs at_ nb
    rw [← hbs] at hsp
    refine Zerun ?_
    (refine RW.call T hs rfl rfl rfl (flatPickBits_con hR _ v _ at_ bs _ _ hv' hbs ha' hm) ?_; intro v h4 w4 hle4 hp4 hs)
    obtain ⟨cs4, rfl, hv4⟩ := hp4
    rw [hsp] at hv4
    have hv4' := hv4
    obtain ⟨wv', nv', sm', il', fl', ch', bx', ⟨rfl, hoc'⟩, _⟩ := hv4
    (refine RW.storeAll T hs 0 rfl rfl rfl rfl rfl rfl hoc' rfl ?_; intro w5 hs)
    refine Zerun ?_
    exact retQ_ret [_] h4 ⟨resN T hs 0 rfl rfl rfl rfl rfl rfl, trivial⟩ hs.dropAll ⟨_, rfl, hv4'⟩
  · rcases k23 with k2 | k3
    ·
      have hsp := pick_wholes hv0 (by omega) at_ nb
      refine Zerun ?_
      (refine RW.make1 T hs rfl rfl rfl rfl rfl rfl rfl (by dsimp only; omega) (by omega) ?_; intro b6 w6 hs)
      refine Zerun ?_
      refine CW.loop (fun u : Nat × GHeap => [(2, .pointer (some ⟨b1, 0, none⟩)), (4, .pointer (some ⟨b2, 0, none⟩)), (5, .slice (some ⟨b6, 0, none⟩) at_.length at_.length), (28, .slice ad1 at_.length cp1), (29, .int .i64 at_.length), (30, .int .i64 u.1)]) (fun u w' => u.1 ≤ at_.length ∧ GLe h3 u.2 ∧ Sees w h u.2 [⟨some ⟨b6, 0, none⟩, at_.length, at_.length, 2, 1, ((at_.take u.1).map fun i => (v.whole i).1).map (Value.int .i64) ++ List.replicate (at_.length - u.1) (.int .i64 0)⟩, ⟨some ⟨b2, 0, none⟩, 1, 1, 37, 8, vecCells 0 (.slice none 0 0) 0 (.slice none 0 0) (.slice none 0 0) (.slice none 0 0) (.slice none 0 0) (.slice none 0 0)⟩, ⟨some ⟨b1, 0, none⟩, 1, 1, 37, 8, vecCells v.kind wv nv sm il fl ch bx⟩] w') (fun u => at_.length - u.1) (0, h3) ⟨rfl, rfl, rfl, rfl, rfl, rfl, trivial⟩ ⟨by omega, GLe.refl _, by simp only [List.take_zero, List.map_nil, List.nil_append, Nat.sub_zero]; exact hs⟩ ?_
      rintro ⟨i, hh⟩ w7 ⟨hi, hg, hs⟩
      dsimp only at hi hg hs ⊢
      have hS1 := hS1.mono hg
      have hv' := hv'.mono hR hg
      by_cases hlt : i < at_.length
      · have htk := take_succ_getD at_ i 0 hlt
        refine Zerun ?_
        (refine RW.call T hs rfl rfl rfl (vecWhole_con _ v (at_.getD i 0) _ _ hv') ?_; intro v h8 w8 hle8 hp8 hs)
        subst hp8
        refine Zerun ?_
        refine RW.val (Y.idxRN T hs 0 rfl rfl rfl rfl rfl rfl ?_) rfl ?_
        · omega
        refine RW.st1 T hs 0 rfl rfl rfl rfl rfl rfl rfl (by omega) ?_
        intro w9 hs
        have e1 := set_snoc (((at_.take i).map fun i => (v.whole i).1).map (Value.int .i64)) (at_.length - i) (.int .i64 0) (Value.int .i64 ((v.whole (at_.getD i 0)).1)) (by omega)
        simp only [List.length_map, List.length_take, Nat.min_eq_left hi] at e1
        have e2 : ((at_.take i).map fun i => (v.whole i).1).map (Value.int .i64) ++ [Value.int .i64 ((v.whole (at_.getD i 0)).1)] ++ List.replicate (at_.length - i - 1) (.int .i64 0) = ((at_.take (i + 1)).map fun i => (v.whole i).1).map (Value.int .i64) ++ List.replicate (at_.length - (i + 1)) (.int .i64 0) := by
          rw [htk, List.map_append, List.map_append, show at_.length - (i + 1) = at_.length - i - 1 by omega]; rfl
        replace hs := hs.re (e1.trans e2)
        refine Zerun ?_
        exact loopQ_round (i + 1, h8) ⟨rfl, rfl, rfl, rfl, rfl, rfl, trivial⟩ ⟨by dsimp only; omega, hg.trans hle8, hs⟩ (by dsimp only; omega)
      obtain rfl : i = at_.length := by omega
      rw [List.take_length, Nat.sub_self, List.replicate_zero, List.append_nil] at hs
      obtain ⟨h8, hle8, hs, hS8⟩ := hs.freeze
      have hT8 : KAt .i64 h8 (.slice (some ⟨b6, 0, none⟩) at_.length at_.length) (at_.map fun i => (v.whole i).1) := RowAt.of_sl hS8
      refine Zerun ?_
      (refine RW.call T hs rfl rfl rfl (vecInts_con (R := R) _ _ _ _ hT8 (by simp; omega)) ?_; intro v h9 w9 hle9 hp9 hs)
      obtain ⟨cs9, ok, rfl, hok, hv9⟩ := hp9
      obtain rfl : ok = true := by
        rw [hok]
        refine decide_eq_true ?_
        intro u hu
        obtain ⟨i, _, rfl⟩ := List.mem_map.1 hu
        unfold VecD.whole
        split
        · exact wholeF_bounds _
        · constructor <;> decide
      rw [if_pos rfl] at hv9
      have hv9' := hv9
      obtain ⟨wv', nv', sm', il', fl', ch', bx', ⟨rfl, hoc'⟩, _⟩ := hv9
      refine Zerun ?_
      (refine RW.allocN T hs rfl rfl rfl rfl ?_; intro b10 w10 hs)
      (refine RW.storeAll T hs 0 rfl rfl rfl rfl rfl rfl hoc' rfl ?_; intro w11 hs)
      refine Zerun ?_
      (refine RW.call T hs rfl rfl rfl (sqSqueeze_con hR _ _ _ _ hv9' (by simp [VecD.len]; omega)) ?_; intro v h12 w12 hle12 hp12 hs)
      obtain ⟨cs12, rfl, hv12⟩ := hp12
      rw [sq_nums3, hsp] at hv12
      have hv12' := hv12
      obtain ⟨wv2, nv2, sm2, il2, fl2, ch2, bx2, ⟨rfl, hoc2⟩, _⟩ := hv12
      (refine RW.storeAll T hs 1 rfl rfl rfl rfl rfl rfl hoc2 rfl ?_; intro w13 hs)
      refine Zerun ?_
      exact retQ_ret [_] h12 ⟨resN T hs 1 rfl rfl rfl rfl rfl rfl, trivial⟩ hs.dropAll ⟨_, rfl, hv12'⟩
    ·
      have hsp := pick_wholes hv0 (by omega) at_ nb
      refine Zerun ?_
      (refine RW.make1 T hs rfl rfl rfl rfl rfl rfl rfl (by dsimp only; omega) (by omega) ?_; intro b6 w6 hs)
      refine Zerun ?_
      refine CW.loop (fun u : Nat × GHeap => [(2, .pointer (some ⟨b1, 0, none⟩)), (4, .pointer (some ⟨b2, 0, none⟩)), (5, .slice (some ⟨b6, 0, none⟩) at_.length at_.length), (28, .slice ad1 at_.length cp1), (29, .int .i64 at_.length), (30, .int .i64 u.1)]) (fun u w' => u.1 ≤ at_.length ∧ GLe h3 u.2 ∧ Sees w h u.2 [⟨some ⟨b6, 0, none⟩, at_.length, at_.length, 2, 1, ((at_.take u.1).map fun i => (v.whole i).1).map (Value.int .i64) ++ List.replicate (at_.length - u.1) (.int .i64 0)⟩, ⟨some ⟨b2, 0, none⟩, 1, 1, 37, 8, vecCells 0 (.slice none 0 0) 0 (.slice none 0 0) (.slice none 0 0) (.slice none 0 0) (.slice none 0 0) (.slice none 0 0)⟩, ⟨some ⟨b1, 0, none⟩, 1, 1, 37, 8, vecCells v.kind wv nv sm il fl ch bx⟩] w') (fun u => at_.length - u.1) (0, h3) ⟨rfl, rfl, rfl, rfl, rfl, rfl, trivial⟩ ⟨by omega, GLe.refl _, by simp only [List.take_zero, List.map_nil, List.nil_append, Nat.sub_zero]; exact hs⟩ ?_
      rintro ⟨i, hh⟩ w7 ⟨hi, hg, hs⟩
      dsimp only at hi hg hs ⊢
      have hS1 := hS1.mono hg
      have hv' := hv'.mono hR hg
      by_cases hlt : i < at_.length
      · have htk := take_succ_getD at_ i 0 hlt
        refine Zerun ?_
        (refine RW.call T hs rfl rfl rfl (vecWhole_con _ v (at_.getD i 0) _ _ hv') ?_; intro v h8 w8 hle8 hp8 hs)
        subst hp8
        refine Zerun ?_
        refine RW.val (Y.idxRN T hs 0 rfl rfl rfl rfl rfl rfl ?_) rfl ?_
        · omega
        refine RW.st1 T hs 0 rfl rfl rfl rfl rfl rfl rfl (by omega) ?_
        intro w9 hs
        have e1 := set_snoc (((at_.take i).map fun i => (v.whole i).1).map (Value.int .i64)) (at_.length - i) (.int .i64 0) (Value.int .i64 ((v.whole (at_.getD i 0)).1)) (by omega)
        simp only [List.length_map, List.length_take, Nat.min_eq_left hi] at e1
        have e2 : ((at_.take i).map fun i => (v.whole i).1).map (Value.int .i64) ++ [Value.int .i64 ((v.whole (at_.getD i 0)).1)] ++ List.replicate (at_.length - i - 1) (.int .i64 0) = ((at_.take (i + 1)).map fun i => (v.whole i).1).map (Value.int .i64) ++ List.replicate (at_.length - (i + 1)) (.int .i64 0) := by
          rw [htk, List.map_append, List.map_append, show at_.length - (i + 1) = at_.length - i - 1 by omega]; rfl
        replace hs := hs.re (e1.trans e2)
        refine Zerun ?_
        exact loopQ_round (i + 1, h8) ⟨rfl, rfl, rfl, rfl, rfl, rfl, trivial⟩ ⟨by dsimp only; omega, hg.trans hle8, hs⟩ (by dsimp only; omega)
      obtain rfl : i = at_.length := by omega
      rw [List.take_length, Nat.sub_self, List.replicate_zero, List.append_nil] at hs
      obtain ⟨h8, hle8, hs, hS8⟩ := hs.freeze
      have hT8 : KAt .i64 h8 (.slice (some ⟨b6, 0, none⟩) at_.length at_.length) (at_.map fun i => (v.whole i).1) := RowAt.of_sl hS8
      refine Zerun ?_
      (refine RW.call T hs rfl rfl rfl (vecInts_con (R := R) _ _ _ _ hT8 (by simp; omega)) ?_; intro v h9 w9 hle9 hp9 hs)
      obtain ⟨cs9, ok, rfl, hok, hv9⟩ := hp9
      obtain rfl : ok = true := by
        rw [hok]
        refine decide_eq_true ?_
        intro u hu
        obtain ⟨i, _, rfl⟩ := List.mem_map.1 hu
        unfold VecD.whole
        split
        · exact wholeF_bounds _
        · constructor <;> decide
      rw [if_pos rfl] at hv9
      have hv9' := hv9
      obtain ⟨wv', nv', sm', il', fl', ch', bx', ⟨rfl, hoc'⟩, _⟩ := hv9
      refine Zerun ?_
      (refine RW.allocN T hs rfl rfl rfl rfl ?_; intro b10 w10 hs)
      (refine RW.storeAll T hs 0 rfl rfl rfl rfl rfl rfl hoc' rfl ?_; intro w11 hs)
      refine Zerun ?_
      (refine RW.call T hs rfl rfl rfl (sqSqueeze_con hR _ _ _ _ hv9' (by simp [VecD.len]; omega)) ?_; intro v h12 w12 hle12 hp12 hs)
      obtain ⟨cs12, rfl, hv12⟩ := hp12
      rw [sq_nums3, hsp] at hv12
      have hv12' := hv12
      obtain ⟨wv2, nv2, sm2, il2, fl2, ch2, bx2, ⟨rfl, hoc2⟩, _⟩ := hv12
      (refine RW.storeAll T hs 1 rfl rfl rfl rfl rfl rfl hoc2 rfl ?_; intro w13 hs)
      refine Zerun ?_
      exact retQ_ret [_] h12 ⟨resN T hs 1 rfl rfl rfl rfl rfl rfl, trivial⟩ hs.dropAll ⟨_, rfl, hv12'⟩
  ·
    have hsp : (⟨leastN ((at_.map fun i => v.num i).map tidyW), (at_.map fun i => v.num i).map tidyW, [], []⟩ : VecD α) = v.pick at_ nb := by
      have e : (at_.map fun i => v.num i).map tidyW = at_.map v.num := by
        rw [List.map_map]
        apply List.map_congr_left
        intro i _
        simp only [Function.comp]
        unfold tidyW
        rw [tidySpec_of _ (num_tidy hv0 i)]
      rw [e]
      unfold VecD.pick
      rw [if_neg (by omega), if_neg (by omega)]
    refine Zerun ?_
    (refine RW.make1 T hs rfl rfl rfl rfl rfl rfl rfl (by dsimp only; omega) (by omega) ?_; intro b6 w6 hs)
    refine Zerun ?_
    refine CW.loop (fun u : Nat × GHeap => [(2, .pointer (some ⟨b1, 0, none⟩)), (4, .pointer (some ⟨b2, 0, none⟩)), (10, .slice (some ⟨b6, 0, none⟩) at_.length at_.length), (57, .slice ad1 at_.length cp1), (58, .int .i64 at_.length), (59, .int .i64 u.1)]) (fun u w' => u.1 ≤ at_.length ∧ GLe h3 u.2 ∧ Sees w h u.2 [⟨some ⟨b6, 0, none⟩, at_.length, at_.length, 46, 1, ((at_.take u.1).map fun i => v.num i).map (Value.float .f64) ++ List.replicate (at_.length - u.1) (.float .f64 0)⟩, ⟨some ⟨b2, 0, none⟩, 1, 1, 37, 8, vecCells 0 (.slice none 0 0) 0 (.slice none 0 0) (.slice none 0 0) (.slice none 0 0) (.slice none 0 0) (.slice none 0 0)⟩, ⟨some ⟨b1, 0, none⟩, 1, 1, 37, 8, vecCells v.kind wv nv sm il fl ch bx⟩] w') (fun u => at_.length - u.1) (0, h3) ⟨rfl, rfl, rfl, rfl, rfl, rfl, trivial⟩ ⟨by omega, GLe.refl _, by simp only [List.take_zero, List.map_nil, List.nil_append, Nat.sub_zero]; exact hs⟩ ?_
    rintro ⟨i, hh⟩ w7 ⟨hi, hg, hs⟩
    dsimp only at hi hg hs ⊢
    have hS1 := hS1.mono hg
    have hv' := hv'.mono hR hg
    by_cases hlt : i < at_.length
    · have htk := take_succ_getD at_ i 0 hlt
      refine Zerun ?_
      (refine RW.call T hs rfl rfl rfl (flatFrom_con _ v (at_.getD i 0) _ _ hv') ?_; intro v h8 w8 hle8 hp8 hs)
      subst hp8
      skip
      refine RW.val (Y.idxRN T hs 0 rfl rfl rfl rfl rfl rfl ?_) rfl ?_
      · omega
      refine RW.st1 T hs 0 rfl rfl rfl rfl rfl rfl rfl (by omega) ?_
      intro w9 hs
      have e1 := set_snoc (((at_.take i).map fun i => v.num i).map (Value.float .f64)) (at_.length - i) (.float .f64 0) (Value.float .f64 (v.num (at_.getD i 0))) (by omega)
      simp only [List.length_map, List.length_take, Nat.min_eq_left hi] at e1
      have e2 : ((at_.take i).map fun i => v.num i).map (Value.float .f64) ++ [Value.float .f64 (v.num (at_.getD i 0))] ++ List.replicate (at_.length - i - 1) (.float .f64 0) = ((at_.take (i + 1)).map fun i => v.num i).map (Value.float .f64) ++ List.replicate (at_.length - (i + 1)) (.float .f64 0) := by
        rw [htk, List.map_append, List.map_append, show at_.length - (i + 1) = at_.length - i - 1 by omega]; rfl
      replace hs := hs.re (e1.trans e2)
      refine Zerun ?_
      exact loopQ_round (i + 1, h8) ⟨rfl, rfl, rfl, rfl, rfl, rfl, trivial⟩ ⟨by dsimp only; omega, hg.trans hle8, hs⟩ (by dsimp only; omega)
    obtain rfl : i = at_.length := by omega
    rw [List.take_length, Nat.sub_self, List.replicate_zero, List.append_nil] at hs
    obtain ⟨h8, hle8, hs, hS8⟩ := hs.freeze
    have hT8 : FAt h8 (.slice (some ⟨b6, 0, none⟩) at_.length at_.length) (at_.map fun i => v.num i) := RowAt.of_sl hS8
    refine Zerun ?_
    (refine RW.call T hs rfl rfl rfl (sqNumbers_con (R := R) hR _ _ _ _ hT8 (by intro u hu; obtain ⟨i, _, rfl⟩ := List.mem_map.1 hu; exact (num_tidy hv0 i).1) (by simp; omega)) ?_; intro v h9 w9 hle9 hp9 hs)
    obtain ⟨cs9, ok, rfl, hok, hv9⟩ := hp9
    obtain rfl : ok = true := by
      rw [hok]
      refine decide_eq_true ?_
      intro u hu
      obtain ⟨i, _, rfl⟩ := List.mem_map.1 hu
      exact (num_tidy hv0 i).2.1
    rw [if_pos rfl, hsp] at hv9
    have hv9' := hv9
    obtain ⟨wv', nv', sm', il', fl', ch', bx', ⟨rfl, hoc'⟩, _⟩ := hv9
    refine Zerun ?_
    (refine RW.allocN T hs rfl rfl rfl rfl ?_; intro b10 w10 hs)
    (refine RW.storeAll T hs 0 rfl rfl rfl rfl rfl rfl hoc' rfl ?_; intro w11 hs)
    refine Zerun ?_
    (refine RW.storeAll T hs 1 rfl rfl rfl rfl rfl rfl hoc' rfl ?_; intro w12 hs)
    refine Zerun ?_
    exact retQ_ret [_] h9 ⟨resN T hs 1 rfl rfl rfl rfl rfl rfl, trivial⟩ hs.dropAll ⟨_, rfl, hv9'⟩
  · have hsp : (⟨5, [], at_.map (fun i => atD v.chars i 32), []⟩ : VecD α) = v.pick at_ nb := by unfold VecD.pick; rw [if_pos k5]
    refine Zerun ?_
    (refine RW.call T hs rfl rfl rfl (vecText_con _ v _ _ hv' (by omega)) ?_; intro v h4 w4 hle4 hp4 hs)
    refine Zerun ?_
    (refine RW.call T hs rfl rfl rfl (thoseRune_con _ _ _ at_ 32 _ _ hp4 (ha'.mono hle4) hm) ?_; intro v h5 w5 hle5 hp5 hs)
    (refine RW.call T hs rfl rfl rfl (vecChars_con (R := R) _ _ _ _ hp5 (by simp; omega)) ?_; intro v h6 w6 hle6 hp6 hs)
    obtain ⟨cs6, rfl, hv6⟩ := hp6
    rw [hsp] at hv6
    have hv6' := hv6
    obtain ⟨wv', nv', sm', il', fl', ch', bx', ⟨rfl, hoc'⟩, _⟩ := hv6
    (refine RW.storeAll T hs 0 rfl rfl rfl rfl rfl rfl hoc' rfl ?_; intro w7 hs)
    refine Zerun ?_
    exact retQ_ret [_] h6 ⟨resN T hs 0 rfl rfl rfl rfl rfl rfl, trivial⟩ hs.dropAll ⟨_, rfl, hv6'⟩
  · have hsp : (⟨6, [], [], at_.map (fun i => atD v.boxes i nb)⟩ : VecD α) = v.pick at_ nb := by unfold VecD.pick; rw [if_neg (by omega), if_pos k6]
    refine Zerun ?_
    (refine RW.call T hs rfl rfl rfl (vecArrays_con hR h1 _ v _ _ hv' (by omega)) ?_; intro v h4 w4 hle4 hp4 hs)
    refine Zerun ?_
    (refine RW.call T hs rfl rfl rfl (hbl _ _) ?_; intro v h5 w5 hle5 hp5 hs)
    obtain ⟨cs5, rfl, hb5⟩ := hp5
    (refine RW.call T hs rfl rfl rfl (thoseArr_con hR h1 h9 _ _ _ at_ _ nb _ _ (hp4.mono hle5 (fun u a => hR _ _ u a hle5)) (ha'.mono (hle4.trans hle5)) hb5 hm) ?_; intro v h6 w6 hle6 hp6 hs)
    (refine RW.call T hs rfl rfl rfl (vecBoxes_con hR h1 _ _ _ _ hp6 (by simp; omega)) ?_; intro v h7 w7 hle7 hp7 hs)
    obtain ⟨cs7, rfl, hv7⟩ := hp7
    rw [hsp] at hv7
    have hv7' := hv7
    obtain ⟨wv', nv', sm', il', fl', ch', bx', ⟨rfl, hoc'⟩, _⟩ := hv7
    (refine RW.storeAll T hs 0 rfl rfl rfl rfl rfl rfl hoc' rfl ?_; intro w8 hs)
    refine Zerun ?_
    exact retQ_ret [_] h7 ⟨resN T hs 0 rfl rfl rfl rfl rfl rfl, trivial⟩ hs.dropAll ⟨_, rfl, hv7'⟩
end
end Go.Proofs.YtmojpbfkpggjhaaGreat

/-
  Contracts of the document's answer and of the law's own functions of layer 8: items picked, lists shown. No statement is proved here.
-/
namespace Go.Proofs.YtmojpbfkpggjhaaGreat
open Go Go.RowKit
set_option linter.unusedVariables false
set_option linter.unusedSimpArgs false
set_option maxHeartbeats 4000000
attribute [local irreducible] CW RW QW SW HW ConM retM heldQ calmQ elemP thenQ blockQ loopQ joinQ retQ Yields Con Sl zF magR unitF truncF fwF wholeF tidySpec elemQ rankF leastN tidyW
set_option maxHeartbeats 4000000

section
variable {β : Type} {R : GHeap → List Value → β → Prop}
/-- what stands for none, of a class -/
def blankI (c : Int) : ItemD (PlainD β) := ⟨c, 0, if c = 1 then 32 else 0, if c = 2 then [⟨[0], [], 0⟩] else []⟩
end
end Go.Proofs.YtmojpbfkpggjhaaGreat

/-
  Contracts of the law's own functions of layer 8: good plain arrays, the chapter's example, elements at all places. No statement is proved here.
-/
namespace Go.Proofs.YtmojpbfkpggjhaaGreat
open Go Go.RowKit
set_option linter.unusedVariables false
set_option linter.unusedSimpArgs false
set_option maxHeartbeats 4000000
attribute [local irreducible] CW RW QW SW HW ConM retM heldQ calmQ elemP thenQ blockQ loopQ joinQ retQ Yields Con Sl zF magR unitF truncF fwF wholeF tidySpec elemQ rankF leastN tidyW
set_option maxHeartbeats 4000000

/-! ## Plain facts -/
theorem atD_map {γ δ : Type} (g : γ → δ) (l : List γ) (i : Int) (d : γ) : atD (l.map g) i (g d) = g (atD l i d) := by
  unfold atD
  split
  · by_cases c : i.toNat < l.length
    · simp [List.getD_eq_getElem?_getD, c]
    · simp [List.getD_eq_getElem?_getD, c]
  · rfl
theorem atD_mem {γ : Type} (l : List γ) (i : Int) (d : γ) : atD l i d ∈ l ∨ atD l i d = d := by
  unfold atD
  split
  · by_cases c : i.toNat < l.length
    · exact .inl (mem_getD _ _ _ c)
    · right; simp [List.getD_eq_getElem?_getD, c]
  · exact .inr rfl
section
variable {α β : Type} {R : GHeap → List Value → α → Prop}
theorem pick_cls (v : VecD α) (at_ : List Int) (nb : α) : (v.pick at_ nb).cls = v.cls := by
  unfold VecD.pick
  by_cases k5 : v.kind = 5
  · rw [if_pos k5]; unfold VecD.cls; rw [if_pos rfl, if_pos k5]
  · rw [if_neg k5]
    by_cases k6 : v.kind = 6
    · rw [if_pos k6]; unfold VecD.cls; rw [if_neg (show ¬ (6 : Int) = 5 by decide), if_pos rfl, if_neg k5, if_pos k6]
    · rw [if_neg k6]
      have := leastN_bounds (at_.map v.num)
      unfold VecD.cls
      rw [if_neg k5, if_neg k6]
      dsimp only
      rw [if_neg (by omega), if_neg (by omega)]
theorem pick_facts (v : VecD α) (at_ : List Int) (nb : α) : (v.pick at_ nb).kind ≠ 0 ∧ (v.pick at_ nb).kind = (v.pick at_ nb).least ∧ (v.pick at_ nb).len = at_.length ∧ ∀ b ∈ (v.pick at_ nb).boxes, b ∈ v.boxes ∨ b = nb := by
  have hc := pick_cls v at_ nb
  unfold VecD.least
  rw [hc]
  unfold VecD.cls VecD.pick
  by_cases k5 : v.kind = 5
  · rw [if_pos k5, if_pos k5]; simp [VecD.len]
  · rw [if_neg k5, if_neg k5]
    by_cases k6 : v.kind = 6
    · rw [if_pos k6, if_pos k6]
      refine ⟨show (6 : Int) ≠ 0 by decide, by simp, by simp [VecD.len], ?_⟩
      intro b hb
      obtain ⟨i, _, rfl⟩ := List.mem_map.1 hb
      exact atD_mem _ _ _
    · rw [if_neg k6, if_neg k6]
      have := leastN_bounds (at_.map v.num)
      exact ⟨by dsimp only; omega, by dsimp only; rw [if_pos ⟨rfl, by omega⟩], by simp [VecD.len], fun b hb => by cases hb⟩
theorem itemsV_c1 (f : α → β) {v : VecD α} (hc : v.cls = 1) : itemsV f v = v.chars.map fun c => ⟨1, 0, c, []⟩ := by unfold itemsV; rw [if_pos hc]
theorem itemsV_c2 (f : α → β) {v : VecD α} (hc : v.cls = 2) : itemsV f v = v.boxes.map fun b => ⟨2, 0, 0, [f b]⟩ := by unfold itemsV; rw [if_neg (by omega), if_pos hc]
theorem itemsV_c0 (f : α → β) {v : VecD α} (hc : v.cls = 0) : itemsV f v = v.nums.map fun x => ⟨0, x, 0, []⟩ := by unfold itemsV; rw [if_neg (by omega), if_neg (by omega)]
theorem pick_items (f : α → PlainD β) (v : VecD α) (at_ : List Int) (nb : α) (hnb : f nb = ⟨[0], [], 0⟩) : itemsV f (v.pick at_ nb) = at_.map (fun i => atD (itemsV f v) i (blankI v.cls)) := by
  have hpc := pick_cls v at_ nb
  have hcl : v.cls = if v.kind = 5 then 1 else if v.kind = 6 then 2 else 0 := rfl
  by_cases k5 : v.kind = 5
  · rw [if_pos k5] at hcl
    have e : (v.pick at_ nb).chars = at_.map (fun i => atD v.chars i 32) := by unfold VecD.pick; rw [if_pos k5]
    rw [itemsV_c1 f (hpc.trans hcl), itemsV_c1 f hcl, hcl, e, List.map_map]
    apply List.map_congr_left
    intro i _
    exact (atD_map (fun c => (⟨1, 0, c, []⟩ : ItemD (PlainD β))) v.chars i 32).symm
  · rw [if_neg k5] at hcl
    by_cases k6 : v.kind = 6
    · rw [if_pos k6] at hcl
      have e : (v.pick at_ nb).boxes = at_.map (fun i => atD v.boxes i nb) := by unfold VecD.pick; rw [if_neg k5, if_pos k6]
      rw [itemsV_c2 f (hpc.trans hcl), itemsV_c2 f hcl, hcl, e, List.map_map]
      apply List.map_congr_left
      intro i _
      have e := (atD_map (fun b => (⟨2, 0, 0, [f b]⟩ : ItemD (PlainD β))) v.boxes i nb).symm
      rw [hnb] at e
      exact e
    · rw [if_neg k6] at hcl
      have e : (v.pick at_ nb).nums = at_.map v.num := by unfold VecD.pick; rw [if_neg k5, if_neg k6]
      rw [itemsV_c0 f (hpc.trans hcl), itemsV_c0 f hcl, hcl, e, List.map_map]
      apply List.map_congr_left
      intro i _
      exact (atD_map (fun x => (⟨0, x, 0, []⟩ : ItemD (PlainD β))) v.nums i 0).symm
theorem pick_items' (f : α → PlainD β) (v : VecD α) (at_ : List Int) (nb : α) (L : List (ItemD (PlainD β))) (c : Int) (hL : itemsV f v = L) (hc : v.cls = c) (hnb : f nb = ⟨[0], [], 0⟩) : itemsV f (v.pick at_ nb) = at_.map (fun i => atD L i (blankI c)) := by
  subst hL hc
  exact pick_items f v at_ nb hnb
end
def blankA (k : Nat) : AD (k + 1) := (⟨[0], ⟨1, [], [], []⟩⟩ : ArrD (AD k))
def blankP (k : Nat) : PD (k + 1) := (⟨[0], [], 0⟩ : PlainD (PD k))
theorem blankA_sml (k : Nat) : sml (k + 1) (blankA k) := ⟨by show 1 ≤ 8; omega, Nat.zero_le _, fun b hb => by cases hb⟩
theorem blankP_tdy (k : Nat) : tdy (k + 1) (blankP k) := fun x hx => by cases hx
theorem blankI_tdy (k : Nat) (c : Int) : tdyIt (tdy (k + 1)) (blankI c : ItemD (PlainD (PD k))) := by
  refine ⟨tidy0, fun b hb => ?_⟩
  unfold blankI at hb
  dsimp only at hb
  split at hb
  · rw [List.mem_singleton.1 hb]; exact blankP_tdy k
  · cases hb
end Go.Proofs.YtmojpbfkpggjhaaGreat

/-
  Contracts of the law's own functions of layer 8: elements picked, and picked again. No statement is proved here.
-/
namespace Go.Proofs.YtmojpbfkpggjhaaGreat
open Go Go.RowKit
set_option linter.unusedVariables false
set_option linter.unusedSimpArgs false
set_option maxHeartbeats 4000000
attribute [local irreducible] CW RW QW SW HW ConM retM heldQ calmQ elemP thenQ blockQ loopQ joinQ retQ Yields Con Sl zF magR unitF truncF fwF wholeF tidySpec elemQ rankF leastN tidyW
set_option maxHeartbeats 4000000

end Go.Proofs.YtmojpbfkpggjhaaGreat

/-
  Contracts of functions of package flat: numbers from one up to another, elements backwards, and again and again. No statement is proved here.
-/
namespace Go.Proofs.YtmojpbfkpggjhaaGreat
open Go Go.RowKit
set_option linter.unusedVariables false
set_option linter.unusedSimpArgs false
set_option maxHeartbeats 4000000
attribute [local irreducible] CW RW QW SW HW ConM retM heldQ calmQ elemP thenQ blockQ loopQ joinQ retQ Yields Con Sl zF magR unitF truncF fwF wholeF tidySpec elemQ rankF leastN tidyW
set_option maxHeartbeats 4000000

def againI (m i : Nat) : Int := if 0 < m then ((i % m : Nat) : Int) else -1
def againL (n m : Nat) : List Int := (List.range n).map (againI m)
theorem againL_length (n m : Nat) : (againL n m).length = n := by simp [againL]
theorem range_snoc (f : Nat → Int) (i : Nat) : (((List.range (i + 1)).map f).map (Value.int .i64)) = (((List.range i).map f).map (Value.int .i64)) ++ [.int .i64 (f i)] := by rw [List.range_succ, List.map_append, List.map_append]; rfl
theorem fill_snoc (f : Nat → Int) (i n : Nat) (h : i < n) (z : Value) : (((List.range i).map f).map (Value.int .i64) ++ List.replicate (n - i) z).set i (.int .i64 (f i)) = ((List.range (i + 1)).map f).map (Value.int .i64) ++ List.replicate (n - (i + 1)) z := by
  have e1 := set_snoc (((List.range i).map f).map (Value.int .i64)) (n - i) z (.int .i64 (f i)) (by omega)
  simp only [List.length_map, List.length_range] at e1
  rw [e1, range_snoc, show n - (i + 1) = n - i - 1 by omega]
section
variable {α : Type} {R : GHeap → List Value → α → Prop}
theorem flatAgain_con (hR : Mono R) (h1 : One R) (h9 : Siz 9 R) (nb : α) (hbl : ∀ w h, Con Tryz.prog 138 [] w h (fun h' u => ∃ cs', u = .agg cs'.toArray ∧ R h' cs' nb))
    (cs : List Value) (v : VecD α) (n : Int) (w : World) (h : GHeap) (hv : VecAt R h cs v) (hvm : v.len ≤ 1048576) (hk0 : v.kind ≠ 0) (hn : n ≤ 1048576) : Con Tryz.prog 106 [.agg cs.toArray, .int .i64 n] w h (fun h' u => ∃ cs', u = .agg cs'.toArray ∧ VecAt R h' cs' (v.pick (againL n.toNat v.len) nb)) := by
  have hv' := hv
  obtain ⟨wv, nv, sm, il, fl, ch, bx, ⟨rfl, hoc⟩, hk⟩ := hv
  refine Con.of_body Tryz.func106 rfl Tryz.ntmps106 rfl rfl ?_
  intro hs
  refine Zrun ?_
  (refine RW.boxN hs rfl rfl ?_; intro b1 w1 hs)
  (refine RW.allocN T hs rfl rfl rfl rfl ?_; intro b2 w2 hs)
  refine Zerun ?_
  have en : max 0 (min n 1048576) = (n.toNat : Int) := by omega
  rw [en]
  have hm : n.toNat ≤ 1048576 := by omega
  generalize n.toNat = m at hm ⊢
  (refine RW.make1 T hs rfl rfl rfl rfl rfl rfl rfl (by dsimp only; omega) (by omega) ?_; intro b4 w4 hs)
  refine Zerun ?_
  refine CW.loop (fun u : Nat × GHeap => [(2, .pointer (some ⟨b1, 0, none⟩)), (4, .pointer (some ⟨b2, 0, none⟩)), (5, .slice (some ⟨b4, 0, none⟩) m m), (13, .int .i64 m), (14, .int .i64 u.1)]) (fun u w' => u.1 ≤ m ∧ GLe h u.2 ∧ Sees w h u.2 [⟨some ⟨b4, 0, none⟩, m, m, 3, 1, ((List.range u.1).map (againI v.len)).map (Value.int .i64) ++ List.replicate (m - u.1) (.int .i64 0)⟩, ⟨some ⟨b2, 0, none⟩, 1, 1, 37, 8, vecCells 0 (.slice none 0 0) 0 (.slice none 0 0) (.slice none 0 0) (.slice none 0 0) (.slice none 0 0) (.slice none 0 0)⟩, ⟨some ⟨b1, 0, none⟩, 1, 1, 37, 8, vecCells v.kind wv nv sm il fl ch bx⟩] w') (fun u => m - u.1) (0, h) ⟨rfl, rfl, rfl, rfl, rfl, trivial⟩ ⟨by omega, GLe.refl _, hs⟩ ?_
  rintro ⟨i, hh⟩ w5 ⟨hi, hg, hs⟩
  dsimp only at hi hg hs ⊢
  have hv' := hv'.mono hR hg
  by_cases hlt : i < m
  · refine Zerun ?_
    refine RW.val (Y.idxRN T hs 0 rfl rfl rfl rfl rfl rfl ?_) rfl ?_
    · omega
    refine RW.st1 T hs 0 rfl rfl rfl rfl rfl rfl rfl (by omega) ?_
    intro w6 hs
    refine Zerun ?_
    (refine RW.call T hs rfl rfl rfl (vecLen_con _ v _ _ hv') ?_; intro v h7 w7 hle7 hp7 hs)
    subst hp7
    have hv' := hv'.mono hR hle7
    by_cases h0 : 0 < v.len
    · refine Zerun ?_
      (refine RW.call T hs rfl rfl rfl (vecLen_con _ v _ _ hv') ?_; intro v h8 w8 hle8 hp8 hs)
      subst hp8
      have ea : againI v.len i = (i : Int) % (v.len : Int) := by unfold againI; rw [if_pos h0]; omega
      refine Zerun ?_
      refine RW.val (Y.idxRN T hs 0 rfl rfl rfl rfl rfl rfl ?_) rfl ?_
      · omega
      rw [← ea]
      refine RW.st1 T hs 0 rfl rfl rfl rfl rfl rfl rfl (by omega) ?_
      intro w7 hs
      replace hs := hs.re ((List.set_set ..).trans (fill_snoc (againI v.len) i m hlt _))
      refine Zerun ?_
      exact loopQ_round (i + 1, h8) ⟨rfl, rfl, rfl, rfl, rfl, trivial⟩ ⟨by dsimp only; omega, (hg.trans hle7).trans hle8, hs⟩ (by dsimp only; omega)
    · have ea : againI v.len i = -1 := by unfold againI; rw [if_neg h0]
      rw [← ea] at hs
      replace hs := hs.re (fill_snoc (againI v.len) i m hlt _)
      refine Zerun ?_
      exact loopQ_round (i + 1, h7) ⟨rfl, rfl, rfl, rfl, rfl, trivial⟩ ⟨by dsimp only; omega, hg.trans hle7, hs⟩ (by dsimp only; omega)
  obtain rfl : i = m := by omega
  rw [Nat.sub_self, List.replicate_zero, List.append_nil] at hs
  obtain ⟨h8, hle8, hs, hS8⟩ := hs.freeze
  have ha8 : IntsAt h8 (.slice (some ⟨b4, 0, none⟩) i i) (againL i v.len) := by
    have hl : (againL i v.len).length = i := againL_length i v.len
    have := IntsAt.of_sl (l := againL i v.len) hS8
    exact this
  have hv' := hv'.mono hR hle8
  refine Zerun ?_
  (refine RW.call T hs rfl rfl rfl (flatPick_con hR h1 h9 nb hbl _ v _ (againL i v.len) _ _ hv' ha8 (by rw [againL_length]; omega) hvm hk0) ?_; intro v h9 w9 hle9 hp9 hs)
  obtain ⟨cs9, rfl, hv9⟩ := hp9
  have hv9' := hv9
  obtain ⟨wv', nv', sm', il', fl', ch', bx', ⟨rfl, hoc'⟩, _⟩ := hv9
  (refine RW.storeAll T hs 0 rfl rfl rfl rfl rfl rfl hoc' rfl ?_; intro w10 hs)
  refine Zerun ?_
  exact retQ_ret [_] h9 ⟨resN T hs 0 rfl rfl rfl rfl rfl rfl, trivial⟩ hs.dropAll ⟨_, rfl, hv9'⟩
end
end Go.Proofs.YtmojpbfkpggjhaaGreat

/-
  Plain Lean on elements along an axis: places turned, and turned back. No statement is proved here.
-/
namespace Go.Proofs.YtmojpbfkpggjhaaGreat
open Go Go.RowKit
set_option linter.unusedVariables false
set_option linter.unusedSimpArgs false

theorem sum_const {δ : Type} (c : Nat) : ∀ l : List δ, (l.map fun _ => c).sum = l.length * c
  | [] => by simp
  | a :: l => by rw [List.map_cons, List.sum_cons, sum_const c l, List.length_cons, Nat.add_mul, Nat.one_mul, Nat.add_comm]
theorem flatMap_eqN {γ δ : Type} {f g : γ → List δ} : ∀ {l : List γ}, (∀ x ∈ l, f x = g x) → l.flatMap f = l.flatMap g
  | [], _ => rfl
  | a :: l, h => by rw [List.flatMap_cons, List.flatMap_cons, h a (by simp), flatMap_eqN (fun x hx => h x (List.mem_cons_of_mem _ hx))]
/-- the place of an element along an axis; below 0: there's none -/
def alongI (n inner o : Nat) (i : Int) (k : Nat) : Int := if 0 ≤ i ∧ i < n then ((o * n + i.toNat) * inner + k : Nat) else -1
def alongL (outer n inner : Nat) (at_ : List Int) : List Int := (List.range outer).flatMap fun o => at_.flatMap fun i => (List.range inner).map fun k => alongI n inner o i k
theorem alongL_len (outer n inner : Nat) (at_ : List Int) : (alongL outer n inner at_).length = outer * (at_.length * inner) := by
  unfold alongL
  rw [List.length_flatMap]
  have e : ∀ o, (at_.flatMap fun i => (List.range inner).map fun k => alongI n inner o i k).length = at_.length * inner := by
    intro o
    rw [List.length_flatMap]
    simp only [List.length_map, List.length_range]
    exact sum_const _ _
  simp only [e]
  rw [sum_const, List.length_range]
end Go.Proofs.YtmojpbfkpggjhaaGreat

/-
  Plain laws of arrays turned backwards: where each element lies. No statement is proved here.
-/
namespace Go.Proofs.YtmojpbfkpggjhaaGreat
open Go Go.RowKit
set_option linter.unusedVariables false
set_option linter.unusedSimpArgs false

end Go.Proofs.YtmojpbfkpggjhaaGreat

/-
  Plain laws of arrays with their axes in the other order. No statement is proved here.
-/
namespace Go.Proofs.YtmojpbfkpggjhaaGreat
open Go Go.RowKit
set_option linter.unusedVariables false
set_option linter.unusedSimpArgs false

/-! ## sums of products -/
/-! ## counting on -/
end Go.Proofs.YtmojpbfkpggjhaaGreat

/-
  Plain laws of two lists of elements put behind each other along an axis. No statement is proved here.
-/
namespace Go.Proofs.YtmojpbfkpggjhaaGreat
open Go Go.RowKit
set_option linter.unusedVariables false
set_option linter.unusedSimpArgs false

theorem idxOf_app : ∀ (P T : List Int) (a : Int), (∀ d ∈ T, 1 ≤ d) → idxOf (P ++ T) a = idxOf P (a / prn T) ++ idxOf T a
  | [], _, _, _ => rfl
  | d :: P, T, a, h => by
    have hp := prn_pos T h
    show (a / prn (P ++ T)) % d :: idxOf (P ++ T) a = (a / prn T / prn P) % d :: idxOf P (a / prn T) ++ idxOf T a
    rw [idxOf_app P T a h, prn_append, Int.mul_comm (prn P) (prn T), Int.ediv_ediv_of_nonneg (by omega)]
    rfl
theorem off_app : ∀ (P T u v : List Int), u.length = P.length → off (P ++ T) (u ++ v) = off P u * prn T + off T v
  | [], T, [], v, _ => by simp [off]
  | [], _, _ :: _, _, h => by simp at h
  | _ :: _, _, [], _, h => by simp at h
  | d :: P, T, i :: u, v, h => by
    rw [List.cons_append, List.cons_append]
    simp only [off]
    rw [off_app P T u v (by simpa using h), prn_append, Int.add_mul, Int.mul_assoc, Int.add_assoc]
theorem inR_app : ∀ (P T u v : List Int), u.length = P.length → inR (P ++ T) (u ++ v) = (inR P u && inR T v)
  | [], T, [], v, _ => by simp [inR]
  | [], _, _ :: _, _, h => by simp at h
  | _ :: _, _, [], _, h => by simp at h
  | d :: P, T, i :: u, v, h => by
    rw [List.cons_append, List.cons_append]
    simp only [inR]
    rw [inR_app P T u v (by simpa using h), Bool.and_assoc]
/-- two shapes that are alike but for one axis -/
structure CatS (P S : List Int) (da db outer inner : Nat) : Prop where
  hP : ∀ d ∈ P, 1 ≤ d
  hS : ∀ d ∈ S, 1 ≤ d
  po : prn P = outer
  ps : prn S = inner
  h0 : 0 < da + db
  gx : goodS (P ++ (da : Int) :: S) = true
  gy : goodS (P ++ (db : Int) :: S) = true
theorem CatS.pos {P S : List Int} {da db outer inner : Nat} (H : CatS P S da db outer inner) : 0 < inner ∧ 0 < outer := by
  have h1 := prn_pos S H.hS
  have h2 := prn_pos P H.hP
  rw [H.ps] at h1
  rw [H.po] at h2
  omega
theorem CatS.split {P S : List Int} {da db outer inner : Nat} (H : CatS P S da db outer inner) (i : Nat) :
    idxOf (P ++ ((da + db : Nat) : Int) :: S) i = idxOf P ((i / ((da + db) * inner) : Nat) : Int) ++ ((i / inner % (da + db) : Nat) : Int) :: idxOf S i ∧ i % ((da + db) * inner) = i / inner % (da + db) * inner + i % inner := by
  have hT : ∀ d ∈ (((da + db : Nat) : Int) :: S), 1 ≤ d := by
    intro d hd
    rcases List.mem_cons.1 hd with rfl | hd
    · have := H.h0; omega
    · exact H.hS d hd
  constructor
  · rw [idxOf_app _ _ _ hT]
    have hq : (i : Int) / prn (((da + db : Nat) : Int) :: S) = ((i / ((da + db) * inner) : Nat) : Int) := by
      show (i : Int) / (((da + db : Nat) : Int) * prn S) = _
      rw [H.ps, ← Int.natCast_mul]
      rfl
    rw [hq]
    show _ ++ ((i : Int) / prn S) % ((da + db : Nat) : Int) :: idxOf S i = _
    rw [H.ps]
    rfl
  · have := emod_split (i : Int) (inner : Int) ((da + db : Nat) : Int) (by have := H.pos; omega) (by have := H.h0; omega)
    rw [← Int.natCast_mul] at this
    have e : ((i % ((da + db) * inner) : Nat) : Int) = ((i / inner % (da + db) * inner + i % inner : Nat) : Int) := by
      rw [Int.natCast_add, Int.natCast_mul]
      exact this
    omega
theorem CatS.offs {P S : List Int} {da db outer inner : Nat} (H : CatS P S da db outer inner) (i : Nat) (hi : i < outer * ((da + db) * inner)) (d j : Nat) : inR (P ++ (d : Int) :: S) (idxOf P ((i / ((da + db) * inner) : Nat) : Int) ++ (j : Int) :: idxOf S i) = decide (j < d) ∧
    off (P ++ (d : Int) :: S) (idxOf P ((i / ((da + db) * inner) : Nat) : Int) ++ (j : Int) :: idxOf S i) = ((i / ((da + db) * inner) * (d * inner) + (j * inner + i % inner) : Nat) : Int) := by
  have hl := length_idxOf P ((i / ((da + db) * inner) : Nat) : Int)
  have hq : i / ((da + db) * inner) < outer := by
    refine Nat.div_lt_of_lt_mul ?_
    rw [Nat.mul_comm]; exact hi
  generalize i / ((da + db) * inner) = q at *
  constructor
  · rw [inR_app _ _ _ _ hl, inR_idxOf P _ H.hP, Bool.true_and]
    simp only [inR]
    rw [inR_idxOf S _ H.hS, Bool.and_true]
    by_cases c : j < d
    · rw [decide_eq_true c, decide_eq_true (by omega)]
    · rw [decide_eq_false c, decide_eq_false (by omega)]
  · rw [off_app _ _ _ _ hl, off_idxOf P _ H.hP, H.po]
    have e1 : off ((d : Int) :: S) ((j : Int) :: idxOf S i) = (j : Int) * inner + ((i % inner : Nat) : Int) := by
      show (j : Int) * prn S + off S (idxOf S i) = _
      rw [off_idxOf S _ H.hS, H.ps]
      rfl
    have e2 : prn ((d : Int) :: S) = ((d * inner : Nat) : Int) := by
      show (d : Int) * prn S = _
      rw [H.ps, Int.natCast_mul]
    rw [e1, e2, Int.emod_eq_of_lt (by omega) (by omega)]
    simp only [Int.natCast_add, Int.natCast_mul]
/-- the place of an element of the join in the first list, or in the second one -/
def catJ (a b i : Nat) : Nat := if i % (a + b) < a then i / (a + b) * a + i % (a + b) else i / (a + b) * b + (i % (a + b) - a)
theorem CatS.at_ {P S : List Int} {da db outer inner : Nat} (H : CatS P S da db outer inner) (i : Nat) (hi : i < outer * (da * inner + db * inner)) :
    (i % (da * inner + db * inner) < da * inner → atSpec (P ++ (da : Int) :: S) (idxOf (P ++ ((da + db : Nat) : Int) :: S) i) = ((catJ (da * inner) (db * inner) i : Int), true)) ∧
    (¬ i % (da * inner + db * inner) < da * inner → atSpec (P ++ (da : Int) :: S) (idxOf (P ++ ((da + db : Nat) : Int) :: S) i) = (0, false) ∧ 0 ≤ (idxOf (P ++ ((da + db : Nat) : Int) :: S) i).getD P.length 0 ∧ (idxOf (P ++ ((da + db : Nat) : Int) :: S) i).getD P.length 0 < da + db ∧
      atSpec (P ++ (db : Int) :: S) ((idxOf (P ++ ((da + db : Nat) : Int) :: S) i).set P.length ((idxOf (P ++ ((da + db : Nat) : Int) :: S) i).getD P.length 0 - da)) = ((catJ (da * inner) (db * inner) i : Int), true)) := by
  obtain ⟨e1, e2⟩ := H.split i
  have hpos := H.pos.1
  have h0 := H.h0
  have hl := length_idxOf P ((i / ((da + db) * inner) : Nat) : Int)
  rw [← Nat.add_mul] at hi ⊢
  rw [e1]
  unfold catJ
  rw [← Nat.add_mul]
  have hz : i % inner < inner := Nat.mod_lt _ hpos
  have hjD : i / inner % (da + db) < da + db := Nat.mod_lt _ h0
  have cross : i % ((da + db) * inner) < da * inner ↔ i / inner % (da + db) < da := by
    rw [e2]
    constructor
    · intro h
      by_cases c : i / inner % (da + db) < da
      · exact c
      · have := Nat.mul_le_mul_right inner (Nat.le_of_not_lt c); omega
    · intro h
      have := Nat.mul_le_mul_right inner (show i / inner % (da + db) + 1 ≤ da from h)
      rw [Nat.add_mul, Nat.one_mul] at this
      omega
  constructor
  · intro h
    obtain ⟨f1, f2⟩ := H.offs i hi da (i / inner % (da + db))
    rw [decide_eq_true (cross.1 h)] at f1
    unfold atSpec
    rw [if_pos ⟨H.gx, f1⟩, f2, if_pos h, e2]
  · intro h
    have hj : da ≤ i / inner % (da + db) := by
      have := mt cross.2 h; omega
    obtain ⟨f1, _⟩ := H.offs i hi da (i / inner % (da + db))
    rw [decide_eq_false (by omega)] at f1
    obtain ⟨g1, g2⟩ := H.offs i hi db (i / inner % (da + db) - da)
    rw [decide_eq_true (by omega)] at g1
    have hg : (idxOf P ((i / ((da + db) * inner) : Nat) : Int) ++ ((i / inner % (da + db) : Nat) : Int) :: idxOf S i).getD P.length 0 = ((i / inner % (da + db) : Nat) : Int) := by
      rw [List.getD_eq_getElem?_getD, List.getElem?_append_right (by omega), hl, Nat.sub_self]; rfl
    have hst : (idxOf P ((i / ((da + db) * inner) : Nat) : Int) ++ ((i / inner % (da + db) : Nat) : Int) :: idxOf S i).set P.length (((i / inner % (da + db) : Nat) : Int) - da) = idxOf P ((i / ((da + db) * inner) : Nat) : Int) ++ ((i / inner % (da + db) - da : Nat) : Int) :: idxOf S i := by
      rw [List.set_append_right _ _ (by omega), hl, Nat.sub_self, List.set_cons_zero]
      congr 2
      omega
    refine ⟨by unfold atSpec; rw [if_neg (fun e => by rw [e.2] at f1; cases f1)], by rw [hg]; omega, by rw [hg]; omega, ?_⟩
    rw [hg, hst]
    unfold atSpec
    rw [if_pos ⟨H.gy, g1⟩, g2, if_neg h, e2]
    have e3 : i / inner % (da + db) * inner + i % inner - da * inner = (i / inner % (da + db) - da) * inner + i % inner := by
      rw [Nat.sub_mul]
      have := Nat.mul_le_mul_right inner hj
      omega
    rw [e3]
/-! ## Lists -/
end Go.Proofs.YtmojpbfkpggjhaaGreat

/-
  Contracts of functions of package bitvec: bits behind the last one away, and truths cut. No statement is proved here.
-/
namespace Go.Proofs.YtmojpbfkpggjhaaGreat
open Go Go.RowKit
set_option linter.unusedVariables false
set_option linter.unusedSimpArgs false
set_option maxHeartbeats 4000000
attribute [local irreducible] CW RW QW SW HW ConM retM heldQ calmQ elemP thenQ blockQ loopQ joinQ retQ Yields Con Sl zF magR unitF truncF fwF wholeF tidySpec elemQ rankF leastN tidyW
set_option maxHeartbeats 4000000

section
variable {P : Program} {n : Nat} {L : Env} {w : World} {ty : TypeId} {x y : Operand} {t yt : TypeId}
end
section
variable {P : Program} {L : Env} {w0 w : World} {h0 h : GHeap}
end
/-! ## Plain facts -/
def BitsUp (m : Nat) (ws : List Int) (g : Nat → Bool) : Prop := ws.length = m ∧ (∀ u ∈ ws, 0 ≤ u ∧ u < 18446744073709551616) ∧ ∀ i, i < m * 64 → (ws.getD (i / 64) 0).toNat.testBit (i % 64) = g i
def cutW (ws : List Int) (f i : Nat) : Nat := ((ws.getD ((f + i * 64) / 64) 0).toNat >>> ((f + i * 64) % 64)) ||| (if 0 < (f + i * 64) % 64 ∧ (f + i * 64) / 64 + 1 < ws.length then (ws.getD ((f + i * 64) / 64 + 1) 0).toNat <<< (64 - (f + i * 64) % 64) % 18446744073709551616 else 0)
theorem word_lt {ws : List Int} (h : ∀ u ∈ ws, 0 ≤ u ∧ u < 18446744073709551616) (i : Nat) : (ws.getD i 0).toNat < 18446744073709551616 := by
  by_cases c : i < ws.length
  · have := h _ (mem_getD ws i 0 c); omega
  · simp [List.getD_eq_getElem?_getD, c]
theorem shl_lt (u v : Nat) : u <<< v % 18446744073709551616 < 18446744073709551616 := Nat.mod_lt _ (by decide)
theorem cutW_lt {ws : List Int} (h : ∀ u ∈ ws, 0 ≤ u ∧ u < 18446744073709551616) (f i : Nat) : cutW ws f i < 18446744073709551616 := by
  unfold cutW
  refine Nat.or_lt_two_pow (n := 64) (Nat.lt_of_le_of_lt (Nat.shiftRight_le _ _) (word_lt h _)) ?_
  split
  · exact shl_lt _ _
  · decide
theorem cutW_bit {ws : List Int} {bs : List Bool} (hb : BitsOf ws bs) (f i j : Nat) (hj : j < 64) : (cutW ws f i).testBit j = bs.getD (f + i * 64 + j) false := by
  obtain ⟨hl, hr, hb⟩ := hb
  have h1 := hb (f + i * 64 + j)
  rw [← h1]
  unfold cutW
  rw [Nat.testBit_or, Nat.testBit_shiftRight]
  generalize hk : (f + i * 64) / 64 = k
  generalize hrr : (f + i * 64) % 64 = r
  have hat : f + i * 64 = k * 64 + r := by omega
  have hr64 : r < 64 := by omega
  by_cases c : r + j < 64
  · have e1 : (f + i * 64 + j) / 64 = k := by omega
    have e2 : (f + i * 64 + j) % 64 = r + j := by omega
    rw [e1, e2]
    have : (if 0 < r ∧ k + 1 < ws.length then (ws.getD (k + 1) 0).toNat <<< (64 - r) % 18446744073709551616 else 0).testBit j = false := by
      split
      · rw [show (18446744073709551616 : Nat) = 2 ^ 64 from rfl, Nat.testBit_mod_two_pow, Nat.testBit_shiftLeft]
        simp [show ¬ (j ≥ 64 - r) by omega]
      · simp
    rw [this, Bool.or_false]
  · have e1 : (f + i * 64 + j) / 64 = k + 1 := by omega
    have e2 : (f + i * 64 + j) % 64 = r + j - 64 := by omega
    rw [e1, e2]
    have h2 : (ws.getD k 0).toNat.testBit (r + j) = false := by
      apply Nat.testBit_lt_two_pow
      exact Nat.lt_of_lt_of_le (word_lt hr k) (Nat.pow_le_pow_right (n := 2) (by omega) (show 64 ≤ r + j by omega))
    rw [h2, Bool.false_or]
    by_cases c2 : k + 1 < ws.length
    · rw [if_pos ⟨by omega, c2⟩, show (18446744073709551616 : Nat) = 2 ^ 64 from rfl, Nat.testBit_mod_two_pow, Nat.testBit_shiftLeft]
      simp [hj, show j ≥ 64 - r by omega, show j - (64 - r) = r + j - 64 by omega]
    · rw [if_neg (by omega)]
      simp [List.getD_eq_getElem?_getD, c2]
theorem BitsUp.put {m : Nat} {ws : List Int} {bs : List Bool} {f i : Nat} {out : List Int} (hb : BitsOf ws bs) (ho : BitsUp m out (fun j => if j < i * 64 then bs.getD (f + j) false else false)) (hi : i < m) : BitsUp m (out.set i (cutW ws f i : Int)) (fun j => if j < (i + 1) * 64 then bs.getD (f + j) false else false) := by
  obtain ⟨hl, hr, hbo⟩ := ho
  refine ⟨by rw [List.length_set]; exact hl, fun u hu => ?_, fun j hj => ?_⟩
  · rcases List.mem_or_eq_of_mem_set hu with hu | hu
    · exact hr u hu
    · subst hu
      have := cutW_lt hb.2.1 f i
      omega
  · rw [getD_set _ _ _ _ _ (by omega)]
    by_cases e : j / 64 = i
    · rw [if_pos e, Int.toNat_natCast, cutW_bit hb f i _ (Nat.mod_lt _ (by omega))]
      dsimp only
      rw [if_pos (by omega)]
      congr 1
      omega
    · rw [if_neg e, hbo j hj]
      dsimp only
      by_cases c : j < i * 64
      · rw [if_pos c, if_pos (by omega)]
      · rw [if_neg c, if_neg (by omega)]
theorem BitsUp.zero (m : Nat) (g : Nat → Bool) : BitsUp m (List.replicate m 0) (fun j => if j < 0 * 64 then g j else false) := by
  refine ⟨by simp, fun u hu => ?_, fun j hj => ?_⟩
  · rw [List.eq_of_mem_replicate hu]; omega
  · dsimp only
    rw [if_neg (by omega)]
    have : (List.replicate m (0 : Int)).getD (j / 64) 0 = 0 := by
      rw [List.getD_eq_getElem?_getD, List.getElem?_replicate]
      split <;> rfl
    rw [this]; simp
end Go.Proofs.YtmojpbfkpggjhaaGreat

/-
  The program logic, eighteenth part: regions that draw their order and change memory, two of the call's own rows fixed. No statement is proved here.
-/
namespace Go.Proofs.YtmojpbfkpggjhaaGreat
open Go Go.RowKit
set_option linter.unusedVariables false
set_option linter.unusedSimpArgs false
set_option linter.unusedVariables false
section
variable {P : Program} {n : Nat} {Q : Post} {L : Env} {w0 w : World} {h0 h : GHeap} {O : List Row} {ops rest : List Oper} {x y : Operand} {t : TypeId} {ra rb : Row}
variable {d : Option Tmp} {ty yt : TypeId} {pos : String} {aft : Array Edge} {fuel : Nat} {listed : Array Bool}
def SR (w0 : World) (h0 : GHeap) (ra rb : Row) (w : World) : Prop := ∃ (h' : GHeap) (O : List Row) (k j : Nat), Sees w0 h0 h' O w ∧ O[k]? = some ra ∧ O[j]? = some rb
theorem CW.regionR (T' : Tab P) (k j : Nat) (hs : Sees w0 h0 h O w) (ha : O[k]? = some ra) (hb : O[j]? = some rb) {id : Nat} {l : List Oper} (K : ∀ w', Sees w0 h0 h O w' → HW P n l (calmQ Q) (SR w0 h0 ra rb) l.length (Array.replicate l.length false) L w') : CW P n Q (.region id l.toArray true) L w :=
  CW.regionH T' (SR w0 h0 ra rb) (fun w' e => by subst e; exact K _ hs.drew)
theorem HW.takeR (i : Nat) {op : Op} {v : Value} (hi : ops.toArray[i]? = some ⟨d, op, ty, pos, aft, none⟩) (hy : ∀ (h' : GHeap) (O : List Row) (ka kb : Nat) (w' : World), Sees w0 h0 h' O w' → O[ka]? = some ra → O[kb]? = some rb → Yields P n L w' op ty v) (hS : SR w0 h0 ra rb w) (hd : dstOk n d = true)
    (hs : Region.noSelect ops.toArray = true) (hf : Region.free .any ops.toArray listed i = true) (hr : (Region.ready .any ops.toArray listed).contains i = true)
    (hh : HW P n ops (calmQ Q) (SR w0 h0 ra rb) fuel (listed.setIfInBounds i true) (updo d v L) w) : HW P n ops (calmQ Q) (SR w0 h0 ra rb) (fuel + 1) listed L w :=
  HW.take i hi (fun w' ⟨h', O, k, j, s, a, b⟩ => hy h' O k j w' s a b) hS hd hs hf hr hh
end
end Go.Proofs.YtmojpbfkpggjhaaGreat

/-
  Contracts of functions of packages flat and bitvec: elements cut, truths one by one. No statement is proved here.
-/
namespace Go.Proofs.YtmojpbfkpggjhaaGreat
open Go Go.RowKit
set_option linter.unusedVariables false
set_option linter.unusedSimpArgs false
set_option maxHeartbeats 4000000
attribute [local irreducible] CW RW QW SW HW ConM retM heldQ calmQ elemP thenQ blockQ loopQ joinQ retQ Yields Con Sl zF magR unitF truncF fwF wholeF tidySpec elemQ rankF leastN tidyW
set_option maxHeartbeats 4000000

section
variable {α : Type} {R : GHeap → List Value → α → Prop}
end
end Go.Proofs.YtmojpbfkpggjhaaGreat

/-
  Contracts of functions of package flat: lists of a class behind each other. No statement is proved here.
-/
namespace Go.Proofs.YtmojpbfkpggjhaaGreat
open Go Go.RowKit
set_option linter.unusedVariables false
set_option linter.unusedSimpArgs false
set_option maxHeartbeats 4000000
attribute [local irreducible] CW RW QW SW HW ConM retM heldQ calmQ elemP thenQ blockQ loopQ joinQ retQ Yields Con Sl zF magR unitF truncF fwF wholeF tidySpec elemQ rankF leastN tidyW
set_option maxHeartbeats 4000000

section
variable {α : Type} {R : GHeap → List Value → α → Prop}
theorem fm_len {γ : Type} {f : VecD α → List γ} (hf : ∀ v, (f v).length ≤ v.len) : ∀ l : List (VecD α), (l.flatMap f).length ≤ (l.map VecD.len).sum
  | [] => Nat.le_refl _
  | v :: l => by
    have := fm_len hf l
    have := hf v
    rw [List.flatMap_cons, List.length_append, List.map_cons, List.sum_cons]
    omega
theorem AllN.ones {δ : Type} {sz : Nat} {S : List Value → δ → Prop} (hc : ∀ cs a, S cs a → ∀ u ∈ cs, u.oneCell' = true) : ∀ {l : List δ} {xs : List Value}, AllN sz S xs l → ∀ u ∈ xs, u.oneCell' = true
  | [], xs, hx, u, hu => by have : xs = [] := hx; rw [this] at hu; cases hu
  | a :: l, xs, hx, u, hu => by
    rw [← List.take_append_drop sz xs, List.mem_append] at hu
    rcases hu with hu | hu
    · exact hc _ a hx.2.1 u hu
    · exact AllN.ones hc hx.2.2 u hu
theorem leastN_bits (bs : List Bool) : leastN (bs.map bitF) = 1 := by
  have h1 := (leastN_bounds (bs.map bitF)).1
  have h2 : leastN (bs.map bitF) ≤ 1 := by
    rw [leastN.eq_1]
    refine fold_le _ 1 1 (by omega) ?_
    intro x hx
    obtain ⟨b, _, rfl⟩ := List.mem_map.1 hx
    cases b
    · exact (rank_bit _ tidy0).2 (.inl fw0.symm)
    · exact (rank_bit _ tidy1).2 (.inr fw1.symm)
  omega
def joinS (c : Int) (l : List (VecD α)) : VecD α := if c = 1 then ⟨5, [], l.flatMap (·.chars), []⟩ else if c = 2 then ⟨6, [], [], l.flatMap (·.boxes)⟩ else ⟨leastN (l.flatMap (·.nums)), l.flatMap (·.nums), [], []⟩
end
end Go.Proofs.YtmojpbfkpggjhaaGreat

/-
  Contracts of functions of package flat: lists behind each other. No statement is proved here.
-/
namespace Go.Proofs.YtmojpbfkpggjhaaGreat
open Go Go.RowKit
set_option linter.unusedVariables false
set_option linter.unusedSimpArgs false
set_option maxHeartbeats 4000000
attribute [local irreducible] CW RW QW SW HW ConM retM heldQ calmQ elemP thenQ blockQ loopQ joinQ retQ Yields Con Sl zF magR unitF truncF fwF wholeF tidySpec elemQ rankF leastN tidyW
set_option maxHeartbeats 4000000

section
variable {α : Type} {R : GHeap → List Value → α → Prop}
/-- the class of lists behind each other, those without elements apart; none: of unlike ones -/
def joinC (c : Int) : List (VecD α) → Option Int
  | [] => some c
  | v :: l => if v.len = 0 then joinC c l else if 0 ≤ c ∧ c ≠ v.cls then none else joinC v.cls l
def headC : List (VecD α) → Int
  | [] => 0
  | v :: _ => v.cls
structure JF (c kd : Int) (m : List (VecD α)) : Prop where
  rng : c = -1 ∨ c = 0 ∨ c = 1 ∨ c = 2
  kd1 : 1 ≤ kd ∧ kd ≤ 6
  all : ∀ v ∈ m, v.len ≠ 0 → v.cls = c ∧ v.kind ≤ kd
theorem cls_rng (v : VecD α) : v.cls = 0 ∨ v.cls = 1 ∨ v.cls = 2 := by unfold VecD.cls; split <;> (try split) <;> omega
theorem joinC_skip {c : Int} {v : VecD α} {l : List (VecD α)} (h0 : v.len = 0) : joinC c (v :: l) = joinC c l := by rw [joinC, if_pos h0]
theorem JF.skip {c kd : Int} {m : List (VecD α)} {v : VecD α} (hF : JF c kd m) (h0 : v.len = 0) : JF c kd (m ++ [v]) := by
  refine ⟨hF.rng, hF.kd1, fun u hu hn => ?_⟩
  rcases List.mem_append.1 hu with hu | hu
  · exact hF.all u hu hn
  · rw [List.mem_singleton.1 hu] at hn; exact absurd h0 hn
theorem JF.step {c kd : Int} {m : List (VecD α)} {v : VecD α} (hF : JF c kd m) (_h0 : ¬ v.len = 0) (hc : c = v.cls ∨ ∀ u ∈ m, u.len = 0) (hcl : v.cls = 0 ∨ v.cls = 1 ∨ v.cls = 2) (hkr : 0 ≤ v.kind ∧ v.kind ≤ 6) : JF v.cls (max kd v.kind) (m ++ [v]) := by
  refine ⟨by omega, by have := hF.kd1; omega, fun u hu hn => ?_⟩
  rcases List.mem_append.1 hu with hu | hu
  · rcases hc with e | e
    · have := hF.all u hu hn; exact ⟨by omega, by omega⟩
    · exact absurd (e u hu) hn
  · rw [List.mem_singleton.1 hu]; exact ⟨rfl, by omega⟩
end
end Go.Proofs.YtmojpbfkpggjhaaGreat

/-
  Contracts of the document's answer of layer 8: items again and again, turned, behind each other; a number brought between two. No statement is proved here.
-/
namespace Go.Proofs.YtmojpbfkpggjhaaGreat
open Go Go.RowKit
set_option linter.unusedVariables false
set_option linter.unusedSimpArgs false
set_option maxHeartbeats 4000000
attribute [local irreducible] CW RW QW SW HW ConM retM heldQ calmQ elemP thenQ blockQ loopQ joinQ retQ Yields Con Sl zF magR unitF truncF fwF wholeF tidySpec elemQ rankF leastN tidyW
set_option maxHeartbeats 4000000

section
variable {γ : Type} {RC : GHeap → List Value → γ → Prop}
end
section
variable {β : Type} {R : GHeap → List Value → β → Prop}
end
section
variable {γ : Type} {RC : GHeap → List Value → γ → Prop}
end
end Go.Proofs.YtmojpbfkpggjhaaGreat

/-
  Contracts of the document's answer and of the laws: how many items a good plain array has. No statement is proved here.
-/
namespace Go.Proofs.YtmojpbfkpggjhaaGreat
open Go Go.RowKit
set_option linter.unusedVariables false
set_option linter.unusedSimpArgs false
set_option maxHeartbeats 4000000
attribute [local irreducible] CW RW QW SW HW ConM retM heldQ calmQ elemP thenQ blockQ loopQ joinQ retQ Yields Con Sl zF magR unitF truncF fwF wholeF tidySpec elemQ rankF leastN tidyW
set_option maxHeartbeats 4000000

section
variable {α : Type} {R : GHeap → List Value → α → Prop}
theorem refCountB_step (hR : Mono R) (most : Int) (ih : ∀ cs a w h, R h cs a → Con Tryz.prog 45 [.agg cs.toArray, .int .i64 most] w h (fun _ u => ∃ r, u = .int .i64 r))
    (cs : List Value) (p : PlainD α) (w : World) (h : GHeap) (hp : PlainR R h cs p) : Con Tryz.prog 45 [.agg cs.toArray, .int .i64 most] w h (fun _ u => ∃ r, u = .int .i64 r ∧ (p.shape.length ≤ 8 → p.items.length ≤ 1048576 → r ≤ most → (p.items.length : Int) + p.shape.length + 1 ≤ most)) := by
  obtain ⟨s, it, rfl, ⟨ad, cp, rfl, hS⟩, ⟨ad2, cp2, xs, rfl, hS2, hA⟩⟩ := hp
  have hlen : p.items.length ≤ 9223372036854775807 := by have := hS2.caps; omega
  refine Con.of_body Tryz.func45 rfl Tryz.ntmps45 rfl rfl ?_
  intro hs
  refine Zrun ?_
  (refine RW.boxN hs rfl rfl ?_; intro b1 w1 hs)
  refine Zerun ?_
  refine RW.val (Y.add' rfl rfl) rfl ?_
  refine RW.val (Y.add' rfl rfl) rfl ?_
  have hr0' : p.shape.length ≤ 8 → p.items.length ≤ 1048576 → IntKind.i64.wrap (IntKind.i64.wrap ((p.items.length : Int) + p.shape.length) + 1) = (p.items.length : Int) + p.shape.length + 1 := by
    intro h1 h2
    have e1 : IntKind.i64.wrap ((p.items.length : Int) + p.shape.length) = (p.items.length : Int) + p.shape.length := wrap64 (by omega)
    rw [e1, wrap64 (by omega)]
  generalize IntKind.i64.wrap (IntKind.i64.wrap _ + 1) = r0 at hr0' ⊢
  refine Zerun ?_
  refine CW.loop (fun q : Nat × Int × GHeap => [(1, .int .i64 most), (2, .pointer (some ⟨b1, 0, none⟩)), (5, .int .i64 q.2.1), (6, .int .i64 q.1)]) (fun q w' => q.1 ≤ p.items.length ∧ GLe h q.2.2 ∧ (most < r0 → q.2.1 = r0) ∧ Sees w h q.2.2 [⟨some ⟨b1, 0, none⟩, 1, 1, 25, 3, [.slice ad p.shape.length cp, .slice ad2 p.items.length cp2, .int .i64 p.fill]⟩] w') (fun q => p.items.length - q.1) (0, r0, h) ⟨rfl, rfl, rfl, rfl, trivial⟩ ⟨by omega, GLe.refl _, fun _ => rfl, hs⟩ ?_
  rintro ⟨i, r, hh⟩ w2 ⟨hi, hg, hr, hs⟩
  dsimp only at hi hg hr hs ⊢
  have hS2 := hS2.mono hg
  by_cases hlt : i < p.items.length
  · obtain ⟨bx, hx4, hx1, ⟨ad3, cp3, ys, rfl, hS3, hA3⟩, hx2, hq0, hq1, hq2, hq3⟩ := ItemAt.cells hA i hlt
    have hS3 := hS3.mono hg
    generalize p.items.getD i noItem = x at *
    by_cases hle : r ≤ most
    · refine Zerun ?_
      refine CW.loop (fun q : Nat × Int × GHeap => [(1, .int .i64 most), (2, .pointer (some ⟨b1, 0, none⟩)), (5, .int .i64 q.2.1), (6, .int .i64 i), (7, .int .i64 q.1)]) (fun q w' => q.1 ≤ x.box.length ∧ GLe hh q.2.2 ∧ Sees w h q.2.2 [⟨some ⟨b1, 0, none⟩, 1, 1, 25, 3, [.slice ad p.shape.length cp, .slice ad2 p.items.length cp2, .int .i64 p.fill]⟩] w') (fun q => x.box.length - q.1) (0, r, hh) ⟨rfl, rfl, rfl, rfl, rfl, trivial⟩ ⟨by omega, GLe.refl _, hs⟩ ?_
      rintro ⟨j, r2, h3⟩ w3 ⟨hj, hg3, hs⟩
      dsimp only at hj hg3 hs ⊢
      have hS2 := hS2.mono hg3
      have hS3 := hS3.mono hg3
      have hbl : x.box.length ≤ 9223372036854775807 := by have := hS3.caps; omega
      by_cases hlt3 : j < x.box.length
      · by_cases hle3 : r2 ≤ most
        · obtain ⟨y, hy, hR3, hR3l⟩ : ∃ y, (ys.drop (j * 3)).take 3 = y ∧ (∃ a, R h y a) ∧ y.length = 3 := by
            obtain ⟨h1, h2⟩ := hA3.get (x.box[j]) j hlt3
            exact ⟨_, rfl, ⟨_, h1⟩, h2⟩
          obtain ⟨a, hRa⟩ := hR3
          have hRa := hR _ _ _ _ (hg.trans hg3) hRa
          refine Zerun ?_
          (refine RW.call T hs rfl rfl rfl (ih _ a _ _ hRa) ?_; intro v h4 w4 hle4 hp4 hs)
          obtain ⟨r4, rfl⟩ := hp4
          refine RW.val (Y.add' rfl rfl) rfl ?_
          generalize IntKind.i64.wrap (r2 + r4) = r5
          refine Zerun ?_
          exact loopQ_round (j + 1, r5, h4) ⟨rfl, rfl, rfl, rfl, rfl, trivial⟩ ⟨by dsimp only; omega, hg3.trans hle4, hs⟩ (by dsimp only; omega)
        · refine Zerun ?_
          exact loopQ_round (i + 1, r2, h3) ⟨rfl, rfl, rfl, rfl, trivial⟩ ⟨by dsimp only; omega, hg.trans hg3, fun e => by have := hr e; omega, hs⟩ (by dsimp only; omega)
      · refine Zerun ?_
        exact loopQ_round (i + 1, r2, h3) ⟨rfl, rfl, rfl, rfl, trivial⟩ ⟨by dsimp only; omega, hg.trans hg3, fun e => by have := hr e; omega, hs⟩ (by dsimp only; omega)
    · refine Zerun ?_
      exact retQ_ret [_] hh ⟨rfl, trivial⟩ hs.dropAll ⟨_, rfl, fun h1 h2 h3 => by have e := hr0' h1 h2; by_cases c : most < r0; have := hr c; omega; omega⟩
  · refine Zerun ?_
    exact retQ_ret [_] hh ⟨rfl, trivial⟩ hs.dropAll ⟨_, rfl, fun h1 h2 h3 => by have e := hr0' h1 h2; by_cases c : most < r0; have := hr c; omega; omega⟩
end
theorem refCountB_con (most : Int) (k : Nat) (cs : List Value) (p : PD (k + 1)) (w : World) (h : GHeap) (hp : PlainAt (k + 1) h cs p) : Con Tryz.prog 45 [.agg cs.toArray, .int .i64 most] w h (fun _ u => ∃ r, u = .int .i64 r ∧ (chk (k + 1) 40 p = 0 → r ≤ most → (PlainD.items (α := PD k) p).length ≤ most)) := by
  have := refCountB_step (PlainAt.mono k) most (refCount_con most k) cs p w h hp
  refine this.mono ?_
  rintro h' u _ ⟨r, rfl, hr⟩
  refine ⟨r, rfl, fun hc hle => ?_⟩
  obtain ⟨_, _, _, hpr, hok⟩ := (chkP_ok (α := PD k) _ _ _).1 hc
  have h1 : (PlainD.shape (α := PD k) p).length ≤ 8 := by
    by_cases c : 8 < (PlainD.shape (α := PD k) p).length
    · unfold product at hpr
      rw [if_pos c] at hpr
      exact absurd (congrArg Prod.snd hpr) (show (26 : Int) ≠ 0 by decide)
    · omega
  have h2 := (good_sml (k + 1) 40 _ (good_arr (k + 1) 40 p hc)).2.1
  have h3 : (ArrD.vec (α := AD k) (arr (k + 1) p)).len = (PlainD.items (α := PD k) p).length := len_arrV (arr k) _ _ _ hok
  have := hr h1 (by omega) hle
  omega
end Go.Proofs.YtmojpbfkpggjhaaGreat

/-
  Plain facts on lists of elements picked, cut, turned and put behind each other, and what they show. No statement is proved here.
-/
namespace Go.Proofs.YtmojpbfkpggjhaaGreat
open Go Go.RowKit
set_option linter.unusedVariables false
set_option linter.unusedSimpArgs false
set_option maxHeartbeats 4000000
attribute [local irreducible] CW RW QW SW HW ConM retM heldQ calmQ elemP thenQ blockQ loopQ joinQ retQ Yields Con Sl zF magR unitF truncF fwF wholeF tidySpec elemQ rankF leastN tidyW
set_option maxHeartbeats 4000000

structure Shown (k : Nat) (v : VecD (AD k)) (l : List (ItemD (PD k))) (c : Int) : Prop where
  hc : v.cls = c
  k0 : v.kind ≠ 0
  kl : v.kind = v.least
  vm : v.len ≤ 1048576
  sm : ∀ b ∈ v.boxes, sml k b
  he : itemsV (plain k) v = l
  td : ∀ x ∈ l, tdyIt (tdy k) x
theorem shown_of (k : Nat) (p : PD (k + 2)) (h : GHeap) (cs : List Value) (hp : PlainAt (k + 2) h cs p) (hc : chk (k + 2) 40 p = 0) : Shown (k + 1) (ArrD.vec (α := AD (k + 1)) (arr (k + 2) p)) (PlainD.items (α := PD (k + 1)) (tidy (k + 2) p)) (PlainD.fill (α := PD (k + 1)) p) := by
  have hgood := good_arr (k + 2) 40 p hc
  have hsml := good_sml (k + 2) 40 _ hgood
  refine ⟨?_, hgood.2.1, hgood.2.2.1, hsml.2.1, hsml.2.2, congrArg (PlainD.items (α := PD (k + 1))) (plain_arr (k + 2) 40 p hc), tidy_tdy (k + 2) 40 p _ _ hp hc⟩
  obtain ⟨_, h2, h3, _, _⟩ := (chkP_ok (α := PD (k + 1)) _ _ _).1 hc
  exact cls_arrV (arr (k + 1)) _ _ h2 h3
theorem Shown.pick {k : Nat} {v : VecD (AD (k + 1))} {L : List (ItemD (PD (k + 1)))} {c : Int} (H : Shown (k + 1) v L c) (at_ : List Int) (hm : at_.length ≤ 1048576) : Shown (k + 1) (v.pick at_ (blankA k)) (at_.map fun i => atD L i (blankI c : ItemD (PlainD (PD k)))) c := by
  have hpf := pick_facts v at_ (blankA k)
  refine ⟨by rw [pick_cls, H.hc], hpf.1, hpf.2.1, by rw [hpf.2.2.1]; exact hm, ?_, pick_items' (β := PD k) (plain (k + 1)) _ at_ (blankA k) _ _ H.he H.hc rfl, ?_⟩
  · intro b hb
    rcases hpf.2.2.2 b hb with e | e
    · exact H.sm b e
    · rw [e]; exact blankA_sml k
  · intro x hx
    obtain ⟨i, _, rfl⟩ := List.mem_map.1 hx
    rcases atD_mem L i (blankI c : ItemD (PlainD (PD k))) with e | e
    · exact H.td _ e
    · rw [e]; exact blankI_tdy k _
section
variable {α β : Type}
theorem len0 {v : VecD α} (h : v.len = 0) : v.nums = [] ∧ v.chars = [] ∧ v.boxes = [] := by
  unfold VecD.len at h
  exact ⟨List.eq_nil_of_length_eq_zero (by omega), List.eq_nil_of_length_eq_zero (by omega), List.eq_nil_of_length_eq_zero (by omega)⟩
theorem itemsV_len0 (f : α → β) {v : VecD α} (h : v.len = 0) : itemsV f v = [] := by
  obtain ⟨h1, h2, h3⟩ := len0 h
  unfold itemsV
  rw [h1, h2, h3]
  split <;> (try split) <;> rfl
theorem flatMap_map' {γ δ ε : Type} (g : δ → ε) (f : γ → List δ) : ∀ l : List γ, (l.flatMap f).map g = l.flatMap fun x => (f x).map g
  | [] => rfl
  | a :: l => by rw [List.flatMap_cons, List.map_append, flatMap_map' g f l, List.flatMap_cons]
theorem flatMap_eq {γ δ : Type} {f g : γ → List δ} : ∀ {l : List γ}, (∀ x ∈ l, f x = g x) → l.flatMap f = l.flatMap g
  | [], _ => rfl
  | a :: l, h => by rw [List.flatMap_cons, List.flatMap_cons, h a (by simp), flatMap_eq (fun x hx => h x (List.mem_cons_of_mem _ hx))]
theorem joinS_cls {c : Int} (hc : c = 0 ∨ c = 1 ∨ c = 2) (l : List (VecD α)) : (joinS c l).cls = c := by
  unfold joinS VecD.cls
  rcases hc with rfl | rfl | rfl
  · have := leastN_bounds (l.flatMap (·.nums))
    rw [if_neg (show ¬ (0 : Int) = 1 by decide), if_neg (show ¬ (0 : Int) = 2 by decide)]
    dsimp only
    rw [if_neg (by omega), if_neg (by omega)]
  · rfl
  · rfl
theorem itemsV_join (f : α → β) {c : Int} {l : List (VecD α)} (hc : c = 0 ∨ c = 1 ∨ c = 2) (h : ∀ v ∈ l, v.len ≠ 0 → v.cls = c) : itemsV f (joinS c l) = l.flatMap (itemsV f) := by
  have hcl := joinS_cls hc l
  rcases hc with rfl | rfl | rfl
  · rw [itemsV_c0 f hcl]
    show (l.flatMap (·.nums)).map _ = _
    rw [flatMap_map']
    apply flatMap_eq
    intro v hv
    by_cases e : v.len = 0
    · rw [itemsV_len0 f e, (len0 e).1]; rfl
    · rw [itemsV_c0 f (h v hv e)]
  · rw [itemsV_c1 f hcl]
    show (l.flatMap (·.chars)).map _ = _
    rw [flatMap_map']
    apply flatMap_eq
    intro v hv
    by_cases e : v.len = 0
    · rw [itemsV_len0 f e, (len0 e).2.1]; rfl
    · rw [itemsV_c1 f (h v hv e)]
  · rw [itemsV_c2 f hcl]
    show (l.flatMap (·.boxes)).map _ = _
    rw [flatMap_map']
    apply flatMap_eq
    intro v hv
    by_cases e : v.len = 0
    · rw [itemsV_len0 f e, (len0 e).2.2]; rfl
    · rw [itemsV_c2 f (h v hv e)]
theorem joinS_len (c : Int) (l : List (VecD α)) : (joinS c l).len ≤ (l.map VecD.len).sum := by
  unfold joinS
  split
  · have := fm_len (f := fun v : VecD α => v.chars) (fun v => by unfold VecD.len; omega) l
    simpa [VecD.len] using this
  · split
    · have := fm_len (f := fun v : VecD α => v.boxes) (fun v => by unfold VecD.len; omega) l
      simpa [VecD.len] using this
    · have := fm_len (f := fun v : VecD α => v.nums) (fun v => by unfold VecD.len; omega) l
      simpa [VecD.len] using this
theorem joinS_boxes {c : Int} {l : List (VecD α)} {b : α} (h : b ∈ (joinS c l).boxes) : ∃ v ∈ l, b ∈ v.boxes := by
  unfold joinS at h
  split at h
  · cases h
  · split at h
    · exact List.mem_flatMap.1 h
    · cases h
theorem joinS_kind (c : Int) (hc : c = 0 ∨ c = 1 ∨ c = 2) (l : List (VecD α)) : (joinS c l).kind ≠ 0 ∧ (joinS c l).kind = (joinS c l).least := by
  have hcl := joinS_cls hc l
  unfold VecD.least
  rw [hcl]
  rcases hc with rfl | rfl | rfl
  · have := leastN_bounds (l.flatMap (·.nums))
    have hk : (joinS 0 l).kind = leastN (l.flatMap (·.nums)) := rfl
    have hn : (joinS 0 l).nums = l.flatMap (·.nums) := rfl
    rw [hk, hn]
    exact ⟨by omega, by rw [if_pos ⟨rfl, by omega⟩]⟩
  · exact ⟨show (5 : Int) ≠ 0 by decide, rfl⟩
  · exact ⟨show (6 : Int) ≠ 0 by decide, rfl⟩
theorem noneV_facts (c : Int) (hc : c = 0 ∨ c = 1 ∨ c = 2) (f : α → β) : (noneV c : VecD α).cls = c ∧ (noneV c : VecD α).kind ≠ 0 ∧ (noneV c : VecD α).kind = (noneV c : VecD α).least ∧ (noneV c : VecD α).len = 0 ∧ (noneV c : VecD α).boxes = [] ∧ itemsV f (noneV c : VecD α) = [] := by
  rcases hc with rfl | rfl | rfl
  · have e : leastN [] = 1 := by have := leastN_bits []; simpa using this
    refine ⟨rfl, show (1 : Int) ≠ 0 by decide, ?_, rfl, rfl, rfl⟩
    show (1 : Int) = if (0 : Int) = 0 ∧ (1 : Int) ≠ 0 then leastN [] else 1
    rw [e]
    rfl
  · exact ⟨rfl, show (5 : Int) ≠ 0 by decide, rfl, rfl, rfl, rfl⟩
  · exact ⟨rfl, show (6 : Int) ≠ 0 by decide, rfl, rfl, rfl, rfl⟩
theorem joinC_some : ∀ (l : List (VecD α)) (c0 c : Int), joinC c0 l = some c → (0 ≤ c0 → c = c0) ∧ (c = c0 ∨ c = 0 ∨ c = 1 ∨ c = 2) ∧ ∀ v ∈ l, v.len ≠ 0 → v.cls = c
  | [], c0, c, h => by
    cases h
    exact ⟨fun _ => rfl, .inl rfl, fun v hv => by cases hv⟩
  | v :: l, c0, c, h => by
    by_cases h0 : v.len = 0
    · rw [joinC_skip h0] at h
      obtain ⟨h1, h2, h3⟩ := joinC_some l c0 c h
      refine ⟨h1, h2, fun u hu hn => ?_⟩
      rcases List.mem_cons.1 hu with rfl | hu
      · exact absurd h0 hn
      · exact h3 u hu hn
    · by_cases hb : 0 ≤ c0 ∧ c0 ≠ v.cls
      · rw [joinC, if_neg h0, if_pos hb] at h; cases h
      · rw [joinC, if_neg h0, if_neg hb] at h
        obtain ⟨h1, h2, h3⟩ := joinC_some l v.cls c h
        have hcl := cls_rng v
        have hcv := h1 (by omega)
        refine ⟨fun e => ?_, by omega, fun u hu hn => ?_⟩
        · rw [hcv]
          exact (Decidable.of_not_not (fun e2 => hb ⟨e, fun e3 => e2 e3.symm⟩))
        · rcases List.mem_cons.1 hu with rfl | hu
          · exact hcv.symm
          · exact h3 u hu hn
end
theorem shown_join {k : Nat} {vs : List (VecD (AD k))} {c : Int} (hJ : joinC (-1) vs = some c) (hA : ∀ v ∈ vs, Shown k v (itemsV (plain k) v) v.cls) (hm : (vs.map VecD.len).sum ≤ 1048576) : Shown k (if c < 0 then noneV (headC vs) else joinS c vs) (vs.flatMap (itemsV (plain k))) (if 0 ≤ c then c else headC vs) := by
  obtain ⟨_, hr, hall⟩ := joinC_some vs (-1) c hJ
  have htd : ∀ x ∈ vs.flatMap (itemsV (plain k)), tdyIt (tdy k) x := by
    intro x hx
    obtain ⟨v, hv, hx⟩ := List.mem_flatMap.1 hx
    exact (hA v hv).td x hx
  by_cases hc : c < 0
  · rw [if_pos hc, if_neg (by omega)]
    have hh : headC vs = 0 ∨ headC vs = 1 ∨ headC vs = 2 := by
      cases vs with
      | nil => exact .inl rfl
      | cons v l => exact cls_rng v
    have he : vs.flatMap (itemsV (plain k)) = [] := by
      rw [flatMap_eq (g := fun _ => [])]
      · simp
      · intro v hv
        apply itemsV_len0
        by_cases e : v.len = 0
        · exact e
        · have := hall v hv e; have := cls_rng v; omega
    obtain ⟨h1, h2, h3, h4, h5, h6⟩ := noneV_facts (headC vs) hh (plain k)
    exact ⟨h1, h2, h3, by omega, (by rw [h5]; intro b hb; cases hb), h6.trans he.symm, htd⟩
  · rw [if_neg hc, if_pos (by omega)]
    have hc3 : c = 0 ∨ c = 1 ∨ c = 2 := by omega
    obtain ⟨h1, h2⟩ := joinS_kind c hc3 vs
    refine ⟨joinS_cls hc3 vs, h1, h2, Nat.le_trans (joinS_len c vs) hm, ?_, itemsV_join _ hc3 hall, htd⟩
    intro b hb
    obtain ⟨v, hv, hb⟩ := joinS_boxes hb
    exact (hA v hv).sm b hb
end Go.Proofs.YtmojpbfkpggjhaaGreat

/-
  Contracts of functions of package value: arrays made of elements, a number, a character, a box alone. No statement is proved here.
-/
namespace Go.Proofs.YtmojpbfkpggjhaaGreat
open Go Go.RowKit
set_option linter.unusedVariables false
set_option linter.unusedSimpArgs false
set_option maxHeartbeats 4000000
attribute [local irreducible] CW RW QW SW HW ConM retM heldQ calmQ elemP thenQ blockQ loopQ joinQ retQ Yields Con Sl zF magR unitF truncF fwF wholeF tidySpec elemQ rankF leastN tidyW

section
variable {α : Type} {R : GHeap → List Value → α → Prop}
theorem valueList_con (hR : Mono R) (cs : List Value) (v : VecD α) (w : World) (h : GHeap) (hv : VecAt R h cs v) (hm : v.len ≤ 1048576) : Con Tryz.prog 56 [.agg cs.toArray] w h (fun h' u => ∃ cs', u = .agg cs'.toArray ∧ ArrR R h' cs' ⟨[(v.len : Int)], v.sq⟩) := by
  have hv' := hv
  obtain ⟨wv, nv, sm, il, fl, ch, bx, ⟨rfl, hoc⟩, hk⟩ := hv
  clear hk
  refine Con.of_body Tryz.func56 rfl Tryz.ntmps56 rfl rfl ?_
  intro hs
  refine Zrun ?_
  (refine RW.boxN hs rfl rfl ?_; intro b1 w1 hs)
  (refine RW.allocN T hs rfl rfl rfl rfl ?_; intro b2 w2 hs)
  refine Zerun ?_
  refine CW.regionH T (fun w' : World => ∃ (h' : GHeap) (O : List Row) (k : Nat), Sees w h h' O w' ∧ O[k]? = some (Row.mk (some ⟨b1, 0, none⟩) 1 1 37 8 (vecCells v.kind wv nv sm il fl ch bx))) ?_
  rintro w4 rfl
  have hs := hs.drew
  refine HW.take (fuel := 6) 0 rfl (v := .agg (vecCells v.kind wv nv sm il fl ch bx).toArray) ?_ ?_ rfl (by kernel_rfl) (by kernel_rfl) (by kernel_rfl) ?_
  · rintro w' ⟨h', O, k, hs', e0⟩; exact Y.loadRowN T hs' k e0 rfl rfl rfl rfl rfl rfl
  · exact ⟨_, _, 1, hs, rfl⟩
  refine HW.take (fuel := 5) 3 rfl (v := .agg (vecCells v.kind wv nv sm il fl ch bx).toArray) ?_ ?_ rfl (by kernel_rfl) (by kernel_rfl) (by kernel_rfl) ?_
  · rintro w' ⟨h', O, k, hs', e0⟩; exact Y.loadRowN T hs' k e0 rfl rfl rfl rfl rfl rfl
  · exact ⟨_, _, 1, hs, rfl⟩
  refine HW.one (fuel := 4) 1 rfl (by kernel_rfl) ?_
  (refine RW.call T hs rfl rfl rfl (vecLen_con _ v _ _ hv') ?_; intro v h5 w5 hle5 hp5 hs)
  subst hp5
  have hv' := hv'.mono hR hle5
  refine RW.nil ?_
  refine heldQ_normal ⟨_, _, 1, hs, rfl⟩ ?_
  refine HW.two (fuel := 3) 2 4 rfl rfl (by kernel_rfl) ?_ ?_
  · (refine RW.lit T hs (vs := [.int .i64 v.len]) (cs := [.int .i64 v.len]) rfl rfl rfl rfl (by simp [Value.cells]) rfl rfl rfl rfl rfl ?_; intro b7 w7 hs)
    refine RW.nil ?_
    refine heldQ_normal ⟨_, _, 2, hs, rfl⟩ ?_
    refine HW.one (fuel := 2) 4 rfl (by kernel_rfl) ?_
    (refine RW.call T hs rfl rfl rfl (sqSqueeze_con hR _ v _ _ hv' hm) ?_; intro v h6 w6 hle6 hp6 hs)
    obtain ⟨cs6, rfl, hv6⟩ := hp6
    have hv6' := hv6
    obtain ⟨wv', nv', sm', il', fl', ch', bx', ⟨rfl, hoc6⟩, _⟩ := hv6
    generalize v.sq.kind = vk at *
    refine RW.nil ?_
    refine heldQ_normal ⟨_, _, 2, hs, rfl⟩ ?_
    refine HW.take (fuel := 1) 5 rfl (v := .agg (.slice (some ⟨b7, 0, none⟩) 1 1 :: vecCells vk wv' nv' sm' il' fl' ch' bx').toArray) ?_ ?_ rfl (by kernel_rfl) (by kernel_rfl) (by kernel_rfl) ?_
    · intro w' _; exact Y.build T rfl rfl rfl rfl rfl rfl rfl
    · exact ⟨_, _, 2, hs, rfl⟩
    refine HW.one (fuel := 0) 6 rfl (by kernel_rfl) ?_
    (refine RW.storeAll T hs 1 rfl rfl rfl rfl rfl rfl hoc6 rfl ?_; intro w8 hs)
    refine RW.nil ?_
    refine heldQ_normal ⟨_, _, 2, hs, rfl⟩ ?_
    refine HW.done (by kernel_rfl) ?_
    refine calmQ_normal ?_
    refine Zerun ?_
    obtain ⟨h9, hle9, hs, hS9⟩ := hs.freeze
    exact retQ_ret [_] h9 ⟨resN T hs 0 rfl rfl rfl rfl rfl rfl, trivial⟩ hs.dropAll ⟨_, rfl, _, _, rfl, IntsAt.of_sl hS9, hv6'.mono hR hle9⟩
  · (refine RW.call T hs rfl rfl rfl (sqSqueeze_con hR _ v _ _ hv' hm) ?_; intro v h6 w6 hle6 hp6 hs)
    obtain ⟨cs6, rfl, hv6⟩ := hp6
    have hv6' := hv6
    obtain ⟨wv', nv', sm', il', fl', ch', bx', ⟨rfl, hoc6⟩, _⟩ := hv6
    generalize v.sq.kind = vk at *
    refine RW.nil ?_
    refine heldQ_normal ⟨_, _, 1, hs, rfl⟩ ?_
    refine HW.one (fuel := 2) 2 rfl (by kernel_rfl) ?_
    (refine RW.lit T hs (vs := [.int .i64 v.len]) (cs := [.int .i64 v.len]) rfl rfl rfl rfl (by simp [Value.cells]) rfl rfl rfl rfl rfl ?_; intro b7 w7 hs)
    refine RW.nil ?_
    refine heldQ_normal ⟨_, _, 2, hs, rfl⟩ ?_
    refine HW.take (fuel := 1) 5 rfl (v := .agg (.slice (some ⟨b7, 0, none⟩) 1 1 :: vecCells vk wv' nv' sm' il' fl' ch' bx').toArray) ?_ ?_ rfl (by kernel_rfl) (by kernel_rfl) (by kernel_rfl) ?_
    · intro w' _; exact Y.build T rfl rfl rfl rfl rfl rfl rfl
    · exact ⟨_, _, 2, hs, rfl⟩
    refine HW.one (fuel := 0) 6 rfl (by kernel_rfl) ?_
    (refine RW.storeAll T hs 1 rfl rfl rfl rfl rfl rfl hoc6 rfl ?_; intro w8 hs)
    refine RW.nil ?_
    refine heldQ_normal ⟨_, _, 2, hs, rfl⟩ ?_
    refine HW.done (by kernel_rfl) ?_
    refine calmQ_normal ?_
    refine Zerun ?_
    obtain ⟨h9, hle9, hs, hS9⟩ := hs.freeze
    exact retQ_ret [_] h9 ⟨resN T hs 0 rfl rfl rfl rfl rfl rfl, trivial⟩ hs.dropAll ⟨_, rfl, _, _, rfl, IntsAt.of_sl hS9, hv6'.mono hR hle9⟩
theorem valueNum_con (hR : Mono R) (x : Nat) (w : World) (h : GHeap) (hx : x < 18446744073709551616) : Con Tryz.prog 57 [.float .f64 x] w h (fun h' u => ∃ cs', u = .tuple #[.agg cs'.toArray, .bool (decide (finF x))] ∧ ArrR R h' cs' ⟨[], if finF x then ⟨leastN [tidyW x], [tidyW x], [], []⟩ else VecD.none⟩) := by
  refine Con.of_body Tryz.func57 rfl Tryz.ntmps57 rfl rfl ?_
  intro hs
  refine Zrun ?_
  (refine RW.allocN T hs rfl rfl rfl rfl ?_; intro b1 w1 hs)
  refine Zerun ?_
  (refine RW.lit T hs (vs := [.float .f64 x]) (cs := [.float .f64 x]) rfl rfl rfl rfl (by simp [Value.cells]) rfl rfl rfl rfl rfl ?_; intro b2 w2 hs)
  obtain ⟨h3, hle3, hs, hS3⟩ := hs.freeze
  have hF3 : FAt h3 (.slice (some ⟨b2, 0, none⟩) 1 1) [x] := RowAt.of_sl hS3
  (refine RW.call T hs rfl rfl rfl (sqNumbers_con (R := R) hR _ [x] _ _ hF3 (by intro u hu; rw [List.mem_singleton.1 hu]; exact hx) (by simp)) ?_; intro v h4 w4 hle4 hp4 hs)
  obtain ⟨cs4, ok, rfl, hok, hv4⟩ := hp4
  have hok : ok = decide (finF x) := by rw [hok]; exact decide_eq_decide.2 ⟨fun e => e x (by simp), fun e u hu => by rw [List.mem_singleton.1 hu]; exact e⟩
  have hv4' := hv4
  obtain ⟨wv, nv, sm, il, fl, ch, bx, ⟨hcs4, hoc4⟩, _⟩ := hv4
  generalize hvk : (if ok = true then (⟨leastN ([x].map tidyW), [x].map tidyW, [], []⟩ : VecD α) else VecD.none).kind = vk at hcs4
  subst hcs4
  refine Zerun ?_
  (refine RW.allocN T hs rfl rfl rfl rfl ?_; intro b5 w5 hs)
  (refine RW.storeAll T hs 0 rfl rfl rfl rfl rfl rfl hoc4 rfl ?_; intro w6 hs)
  refine Zerun ?_
  by_cases hf : finF x
  · rw [decide_eq_true hf] at hok ⊢
    subst hok
    refine Zerun ?_
    refine RW.val (Y.build T rfl rfl rfl rfl rfl rfl rfl) rfl ?_
    (refine RW.storeAll T hs 1 rfl rfl rfl rfl rfl rfl hoc4 rfl ?_; intro w7 hs)
    refine Zerun ?_
    refine retQ_ret [_, _] h4 ⟨resN T hs 1 rfl rfl rfl rfl rfl rfl, rfl, trivial⟩ hs.dropAll ⟨_, rfl, _, _, rfl, RowAt.nil _, ?_⟩
    rw [if_pos hf]
    exact hv4'
  · rw [decide_eq_false hf] at hok ⊢
    subst hok
    refine Zerun ?_
    refine RW.val (Y.build T rfl rfl rfl rfl rfl rfl rfl) rfl ?_
    (refine RW.storeAll T hs 1 rfl rfl rfl rfl rfl rfl rfl rfl ?_; intro w7 hs)
    refine Zerun ?_
    refine retQ_ret [_, _] h4 ⟨resN T hs 1 rfl rfl rfl rfl rfl rfl, rfl, trivial⟩ hs.dropAll ⟨_, rfl, _, _, rfl, RowAt.nil _, ?_⟩
    rw [if_neg hf]
    exact vecNone h4
end
end Go.Proofs.YtmojpbfkpggjhaaGreat

/-
  Contracts of the law's own functions of layer 7: which shapes elements can have. No statement is proved here.
-/
namespace Go.Proofs.YtmojpbfkpggjhaaGreat
open Go Go.RowKit
set_option linter.unusedVariables false
set_option linter.unusedSimpArgs false
set_option maxHeartbeats 4000000
attribute [local irreducible] CW RW QW SW HW ConM retM heldQ calmQ elemP thenQ blockQ loopQ joinQ retQ Yields Con Sl zF magR unitF truncF fwF wholeF tidySpec elemQ rankF leastN tidyW

/-- the plain array of numbers -/
def numsP {α : Type} (l : List Nat) : PlainD α := ⟨[(l.length : Int)], l.map fun x => ⟨0, x, 0, []⟩, 0⟩
theorem refNums_con {α : Type} {R : GHeap → List Value → α → Prop} (hR : Mono R) (s : Value) (l : List Nat) (w : World) (h : GHeap) (hl : FAt h s l) (hx : ∀ u ∈ l, u < 18446744073709551616) (hm : l.length ≤ 1048576) : Con Tryz.prog 48 [s] w h (fun h' u => ∃ cs', u = .agg cs'.toArray ∧ PlainR R h' cs' (numsP l)) := by
  obtain ⟨ad, cp, rfl, hS⟩ := hl
  refine Con.of_body Tryz.func48 rfl Tryz.ntmps48 rfl rfl ?_
  intro hs
  refine Zrun ?_
  (refine RW.allocN T hs rfl rfl rfl rfl ?_; intro b1 w1 hs)
  refine Zerun ?_
  (refine RW.lit T hs (vs := [.int .i64 l.length]) (cs := [.int .i64 l.length]) rfl rfl rfl rfl (by simp [Value.cells]) rfl rfl rfl rfl rfl ?_; intro b2 w2 hs)
  obtain ⟨h3, hle3, hs, hS3⟩ := hs.freeze
  have hI3 : IntsAt h3 (.slice (some ⟨b2, 0, none⟩) 1 1) [(l.length : Int)] := IntsAt.of_sl hS3
  refine RW.val (Y.build T rfl rfl rfl rfl rfl rfl rfl) rfl ?_
  (refine RW.allocN T hs rfl rfl rfl rfl ?_; intro b3 w3 hs)
  (refine RW.storeAll T hs 0 rfl rfl rfl rfl rfl rfl rfl rfl ?_; intro w4 hs)
  refine Zerun ?_
  have hs := hs.nilRow 69 4
  refine CW.loop (fun u : Nat × Option Addr × Nat × List Value => [(0, .slice ad l.length cp), (2, .pointer (some ⟨b1, 0, none⟩)), (3, .pointer (some ⟨b3, 0, none⟩)), (4, .int .i64 u.1)]) (fun u w' => u.1 ≤ l.length ∧ AllN 4 (ItemAt R h3) u.2.2.2 ((l.take u.1).map fun x => ⟨0, x, 0, []⟩) ∧ Sees w h h3 [⟨u.2.1, u.1, u.2.2.1, 69, 4, u.2.2.2⟩, ⟨some ⟨b3, 0, none⟩, 1, 1, 25, 3, [.slice (some ⟨b2, 0, none⟩) 1 1, .slice u.2.1 u.1 u.2.2.1, .int .i64 0]⟩, ⟨some ⟨b1, 0, none⟩, 1, 1, 25, 3, [.slice none 0 0, .slice none 0 0, .int .i64 0]⟩] w') (fun u => l.length - u.1) (0, none, 0, []) ⟨rfl, rfl, rfl, rfl, trivial⟩ ⟨by omega, rfl, hs⟩ ?_
  rintro ⟨i, ra, rc, vs⟩ w5 ⟨hi, hAv, hs⟩
  dsimp only at hi hAv hs ⊢
  by_cases hlt : i < l.length
  · have htk := take_succ_getD l i 0 hlt
    refine Zerun ?_
    refine CW.regionH T (fun w' : World => ∃ (h' : GHeap) (O : List Row), Sees w h h' O w') ?_
    rintro w7 rfl
    have hs := hs.drew
    refine HW.take (fuel := 10) 0 rfl (v := .pointer (some ⟨b3, 0 + 1, none⟩)) ?_ ?_ rfl (by kernel_rfl) (by kernel_rfl) (by kernel_rfl) ?_
    · intro w' _; exact Y.fieldAddr T rfl rfl rfl rfl rfl
    · exact ⟨_, _, hs⟩
    refine HW.take (fuel := 9) 2 rfl (v := .slice ad l.length cp) ?_ ?_ rfl (by kernel_rfl) (by kernel_rfl) (by kernel_rfl) ?_
    · intro w' _; exact Y.move rfl
    · exact ⟨_, _, hs⟩
    refine HW.take (fuel := 8) 3 rfl (v := .int .i64 i) ?_ ?_ rfl (by kernel_rfl) (by kernel_rfl) (by kernel_rfl) ?_
    · intro w' _; exact Y.move rfl
    · exact ⟨_, _, hs⟩
    refine HW.take (fuel := 7) 4 rfl (v := elemP ad i 1) ?_ ?_ rfl (by kernel_rfl) (by kernel_rfl) (by kernel_rfl) ?_
    · rintro w' ⟨h', O, hs'⟩; exact Y.idxSN T rfl rfl (hS.mono hs'.le) rfl rfl rfl hlt
    · exact ⟨_, _, hs⟩
    refine HW.take (fuel := 6) 5 rfl (v := .float .f64 (l.getD i 0)) ?_ ?_ rfl (by kernel_rfl) (by kernel_rfl) (by kernel_rfl) ?_
    · rintro w' ⟨h', O, hs'⟩; exact Y.ldS T hs' rfl (hS.mono hs'.le) rfl rfl hlt (map_get _ _ _ _ hlt)
    · exact ⟨_, _, hs⟩
    refine HW.take (fuel := 5) 6 rfl (v := .agg [.int .i64 0, .float .f64 (l.getD i 0), .int .i32 0, .slice none 0 0].toArray) ?_ ?_ rfl (by kernel_rfl) (by kernel_rfl) (by kernel_rfl) ?_
    · intro w' _; exact Y.build T rfl rfl rfl rfl rfl rfl rfl
    · exact ⟨_, _, hs⟩
    refine HW.two (fuel := 4) 1 7 rfl rfl (by kernel_rfl) ?_ ?_
    · refine RW.val (Y.loadRow1 T hs 1 rfl rfl rfl rfl rfl) rfl ?_
      refine RW.nil ?_
      refine heldQ_normal ⟨_, _, hs⟩ ?_
      refine HW.one (fuel := 3) 7 rfl (by kernel_rfl) ?_
      (refine RW.lit T hs (vs := [.agg [.int .i64 0, .float .f64 (l.getD i 0), .int .i32 0, .slice none 0 0].toArray]) (cs := [.int .i64 0, .float .f64 (l.getD i 0), .int .i32 0, .slice none 0 0]) rfl rfl rfl rfl (by simp [Value.cells]) rfl rfl rfl rfl rfl ?_; intro b8 w8 hs)
      refine RW.nil ?_
      refine heldQ_normal ⟨_, _, hs⟩ ?_
      refine HW.one (fuel := 2) 8 rfl (by kernel_rfl) ?_
      (refine RW.append T hs 1 rfl rfl (m := 1) (news := [.int .i64 0, .float .f64 (l.getD i 0), .int .i32 0, .slice none 0 0]) rfl rfl rfl rfl rfl rfl (hs.src0 rfl (by simp [Value.oneCell'])) (by simp) (by dsimp only; omega) (by omega) ?_; intro ad9 cp9 w9 hs; replace hs := hs.drop)
      refine RW.nil ?_
      refine heldQ_normal ⟨_, _, hs⟩ ?_
      refine HW.take (fuel := 1) 9 rfl (v := .pointer (some ⟨b3, 0 + 1, none⟩)) ?_ ?_ rfl (by kernel_rfl) (by kernel_rfl) (by kernel_rfl) ?_
      · intro w' _; exact Y.fieldAddr T rfl rfl rfl rfl rfl
      · exact ⟨_, _, hs⟩
      refine HW.one (fuel := 0) 10 rfl (by kernel_rfl) ?_
      (refine RW.store1 T hs 1 rfl rfl rfl rfl rfl rfl rfl rfl ?_; intro w10 hs)
      refine RW.nil ?_
      refine heldQ_normal ⟨_, _, hs⟩ ?_
      refine HW.done (by kernel_rfl) ?_
      refine calmQ_normal ?_
      refine Zerun ?_
      refine loopQ_round (i + 1, ad9, cp9, _) ⟨rfl, rfl, rfl, rfl, trivial⟩ ⟨by dsimp only; omega, ?_, hs⟩ (by dsimp only; omega)
      dsimp only
      rw [htk, List.map_append]
      exact hAv.append (AllN.one rfl (ItemAt.mk' (x := ⟨0, l.getD i 0, 0, []⟩) (RowsAt.nil _) (hx _ (mem_getD _ _ _ hlt))))
    · (refine RW.lit T hs (vs := [.agg [.int .i64 0, .float .f64 (l.getD i 0), .int .i32 0, .slice none 0 0].toArray]) (cs := [.int .i64 0, .float .f64 (l.getD i 0), .int .i32 0, .slice none 0 0]) rfl rfl rfl rfl (by simp [Value.cells]) rfl rfl rfl rfl rfl ?_; intro b8 w8 hs)
      refine RW.nil ?_
      refine heldQ_normal ⟨_, _, hs⟩ ?_
      refine HW.one (fuel := 3) 1 rfl (by kernel_rfl) ?_
      refine RW.val (Y.loadRow1 T hs 2 rfl rfl rfl rfl rfl) rfl ?_
      refine RW.nil ?_
      refine heldQ_normal ⟨_, _, hs⟩ ?_
      refine HW.one (fuel := 2) 8 rfl (by kernel_rfl) ?_
      (refine RW.append T hs 1 rfl rfl (m := 1) (news := [.int .i64 0, .float .f64 (l.getD i 0), .int .i32 0, .slice none 0 0]) rfl rfl rfl rfl rfl rfl (hs.src0 rfl (by simp [Value.oneCell'])) (by simp) (by dsimp only; omega) (by omega) ?_; intro ad9 cp9 w9 hs; replace hs := hs.drop)
      refine RW.nil ?_
      refine heldQ_normal ⟨_, _, hs⟩ ?_
      refine HW.take (fuel := 1) 9 rfl (v := .pointer (some ⟨b3, 0 + 1, none⟩)) ?_ ?_ rfl (by kernel_rfl) (by kernel_rfl) (by kernel_rfl) ?_
      · intro w' _; exact Y.fieldAddr T rfl rfl rfl rfl rfl
      · exact ⟨_, _, hs⟩
      refine HW.one (fuel := 0) 10 rfl (by kernel_rfl) ?_
      (refine RW.store1 T hs 1 rfl rfl rfl rfl rfl rfl rfl rfl ?_; intro w10 hs)
      refine RW.nil ?_
      refine heldQ_normal ⟨_, _, hs⟩ ?_
      refine HW.done (by kernel_rfl) ?_
      refine calmQ_normal ?_
      refine Zerun ?_
      refine loopQ_round (i + 1, ad9, cp9, _) ⟨rfl, rfl, rfl, rfl, trivial⟩ ⟨by dsimp only; omega, ?_, hs⟩ (by dsimp only; omega)
      dsimp only
      rw [htk, List.map_append]
      exact hAv.append (AllN.one rfl (ItemAt.mk' (x := ⟨0, l.getD i 0, 0, []⟩) (RowsAt.nil _) (hx _ (mem_getD _ _ _ hlt))))
  · obtain rfl : i = l.length := by omega
    rw [List.take_length] at hAv
    obtain ⟨h6, hle6, hs, hS6⟩ := hs.freeze
    refine Zerun ?_
    (refine RW.storeAll T hs 1 rfl rfl rfl rfl rfl rfl rfl rfl ?_; intro w7 hs)
    refine Zerun ?_
    refine retQ_ret [_] h6 ⟨resN T hs 1 rfl rfl rfl rfl rfl rfl, trivial⟩ hs.dropAll ⟨_, rfl, _, _, rfl, hI3.mono hle6, ra, rc, vs, by simp [numsP], ?_, hAv.mono (fun u a => ItemAt.mono hR _ _ u a hle6)⟩
    simpa [numsP] using hS6
theorem sq_nums {α : Type} (vk : Int) (N : List Nat) (h1 : 1 ≤ vk) (h4 : vk ≤ 4) : (⟨vk, N, [], []⟩ : VecD α).sq = ⟨leastN N, N, [], []⟩ := by
  unfold VecD.sq VecD.cls
  have e5 : ¬ vk = 5 := by omega
  have e6 : ¬ vk = 6 := by omega
  simp only [if_neg e5, if_neg e6]
  rw [if_pos ⟨trivial, by omega⟩]
end Go.Proofs.YtmojpbfkpggjhaaGreat

/-
  Plain Lean on arrays of numbers, and of one number: good ones, told plainly. No statement is proved here.
-/
namespace Go.Proofs.YtmojpbfkpggjhaaGreat
open Go Go.RowKit
set_option linter.unusedVariables false
set_option linter.unusedSimpArgs false
set_option maxHeartbeats 4000000
attribute [local irreducible] CW RW QW SW HW ConM retM heldQ calmQ elemP thenQ blockQ loopQ joinQ retQ Yields Con Sl zF magR unitF truncF fwF wholeF tidySpec elemQ rankF leastN tidyW

theorem product_len1 (n : Nat) (h : n ≤ 1048576) : product [(n : Int)] 1048576 = ((n : Int), 0) := by
  have hg : goodS [(n : Int)] = true := (goodS_spec _).2 ⟨by simp, by intro d hd; rw [List.mem_singleton.1 hd]; omega, by simp [pr]; omega⟩
  rw [product_good _ hg]
  by_cases c : n = 0
  · subst c; simp
  · rw [if_neg (by simp; omega)]
    simp [pr]; omega
theorem product_0 : product [] 1048576 = (1, 0) := by decide
def numsA (k : Nat) (N : List Nat) : AD (k + 1) := (⟨[(N.length : Int)], ⟨leastN N, N, [], []⟩⟩ : ArrD (AD k))
theorem numsP_chk (k : Nat) (l : List Nat) (hf : ∀ x ∈ l, finF x) (hm : l.length ≤ 1048576) : chk (k + 1) 40 (numsP l : PlainD (PD k)) = 0 := by
  refine (chkP_ok (α := PD k) _ _ _).2 ⟨by omega, Int.le_refl _, (by show (0 : Int) ≤ 2; omega), ?_, fun x hx => ?_⟩
  · show product [(l.length : Int)] 1048576 = (((l.map fun x => (⟨0, x, 0, []⟩ : ItemD (PD k))).length : Int), 0)
    rw [product_len1 _ hm, List.length_map]
  · obtain ⟨y, hy, rfl⟩ := List.mem_map.1 hx
    exact ⟨rfl, fun e => absurd (show (0 : Int) = 2 from e) (by decide), fun _ => hf y hy⟩
theorem numsP_arr (k : Nat) (l : List Nat) : arr (k + 1) (numsP l : PlainD (PD k)) = numsA k (l.map tidyW) := by
  show (⟨[(l.length : Int)], arrV (arr k) 0 (l.map fun x => (⟨0, x, 0, []⟩ : ItemD (PD k)))⟩ : ArrD (AD k)) = _
  unfold arrV numsA
  rw [if_neg (by omega), if_neg (by omega), List.map_map, List.length_map]
  rfl
/-- small whole numbers, as words -/
theorem fw_rank (l : List Int) (h : ∀ n ∈ l, -9007199254740992 ≤ n ∧ n ≤ 9007199254740992) : leastN (l.map fwF) ≤ 3 := by
  unfold leastN
  refine fold_le _ _ _ (by omega) (fun x hx => ?_)
  obtain ⟨n, hn, rfl⟩ := List.mem_map.1 hx
  rw [rank_int, wholeF_fw n (h n hn)]
theorem fw_tidyW (l : List Int) (h : ∀ n ∈ l, -9007199254740992 ≤ n ∧ n ≤ 9007199254740992) : (l.map fwF).map tidyW = l.map fwF := by
  rw [List.map_map]
  apply List.map_congr_left
  intro n hn
  show tidyW (fwF n) = fwF n
  unfold tidyW
  rw [tidySpec_of _ (fwF_spec n (h n hn)).1]
def numA (k : Nat) (x : Nat) : AD (k + 1) := (⟨[], ⟨leastN [x], [x], [], []⟩⟩ : ArrD (AD k))
def numQ (k : Nat) (x : Nat) : PD (k + 1) := (⟨[], [⟨0, x, 0, []⟩], 0⟩ : PlainD (PD k))
theorem numV_cls {α : Type} (N : List Nat) : (⟨leastN N, N, [], []⟩ : VecD α).cls = 0 := by
  have hb := leastN_bounds N
  unfold VecD.cls; dsimp only; rw [if_neg (by omega), if_neg (by omega)]
theorem numA_good (k x : Nat) (d : Int) (hd : d ≠ 0) : good (k + 1) d (numA k x) := by
  have hb := leastN_bounds [x]
  refine ⟨product_0, (by show leastN [x] ≠ 0; omega), ?_, hd, fun b hb => nomatch hb⟩
  show leastN [x] = VecD.least (⟨leastN [x], [x], [], []⟩ : VecD (AD k))
  unfold VecD.least
  rw [if_pos ⟨numV_cls _, by dsimp only; omega⟩]
theorem numA_plain (k x : Nat) : plain (k + 1) (numA k x) = numQ k x := by
  show (⟨[], itemsV (plain k) (⟨leastN [x], [x], [], []⟩ : VecD (AD k)), VecD.cls (⟨leastN [x], [x], [], []⟩ : VecD (AD k))⟩ : PlainD (PD k)) = _
  rw [itemsV_c0 (plain k) (numV_cls _), numV_cls]
  rfl
theorem numQ_tdy (k x : Nat) (h : tidyF x) : tdy (k + 1) (numQ k x) := by
  intro y hy
  rw [List.mem_singleton.1 hy]
  exact ⟨h, fun b hb => nomatch hb⟩
theorem refOne_con {α : Type} {R : GHeap → List Value → α → Prop} (x : Nat) (w : World) (h : GHeap) (hx : x < 18446744073709551616) : Con Tryz.prog 17 [.float .f64 x] w h (fun h' u => ∃ cs', u = .agg cs'.toArray ∧ PlainR R h' cs' (⟨[], [⟨0, x, 0, []⟩], 0⟩ : PlainD α)) := by
  refine Con.of_body Tryz.func17 rfl Tryz.ntmps17 rfl rfl ?_
  intro hs
  refine Zrun ?_
  (refine RW.allocN T hs rfl rfl rfl rfl ?_; intro b1 w1 hs)
  refine Zerun ?_
  refine RW.val (Y.build T rfl rfl rfl rfl rfl rfl rfl) rfl ?_
  (refine RW.lit T hs (vs := [.agg [.int .i64 0, .float .f64 x, .int .i32 0, .slice none 0 0].toArray]) (cs := [.int .i64 0, .float .f64 x, .int .i32 0, .slice none 0 0]) rfl rfl rfl rfl (by simp [Value.cells]) rfl rfl rfl rfl rfl ?_; intro b2 w2 hs)
  obtain ⟨h3, hle3, hs, hS3⟩ := hs.freeze
  refine RW.val (Y.build T rfl rfl rfl rfl rfl rfl rfl) rfl ?_
  (refine RW.storeAll T hs 0 rfl rfl rfl rfl rfl rfl rfl rfl ?_; intro w4 hs)
  refine Zerun ?_
  exact retQ_ret [_] h3 ⟨resN T hs 0 rfl rfl rfl rfl rfl rfl, trivial⟩ hs.dropAll ⟨_, rfl, _, _, rfl, RowAt.nil _, RowsAt.single hS3 (ItemAt.mk' (x := ⟨0, x, 0, []⟩) (RowsAt.nil _) hx)⟩
theorem numQ_chk (k x : Nat) (h : finF x) : chk (k + 1) 40 (numQ k x) = 0 := by
  refine (chkP_ok (α := PD k) _ _ _).2 ⟨by omega, Int.le_refl _, (by show (0 : Int) ≤ 2; omega), product_0, fun y hy => ?_⟩
  rw [List.mem_singleton.1 hy]
  exact ⟨rfl, fun e => absurd (show (0 : Int) = 2 from e) (by decide), fun _ => h⟩
theorem numQ_arr (k x : Nat) : arr (k + 1) (numQ k x) = numA k (tidyW x) := by
  show (⟨[], arrV (arr k) 0 [(⟨0, x, 0, []⟩ : ItemD (PD k))]⟩ : ArrD (AD k)) = _
  unfold arrV numA
  rw [if_neg (by omega), if_neg (by omega)]
  rfl
theorem numsA_good (k : Nat) (N : List Nat) (d : Int) (hd : d ≠ 0) (hm : N.length ≤ 1048576) : good (k + 1) d (numsA k N) := by
  have hb := leastN_bounds N
  refine ⟨?_, (by show leastN N ≠ 0; omega), ?_, hd, fun b hb => nomatch hb⟩
  · show product [(N.length : Int)] 1048576 = (((N.length + 0 + 0 : Nat) : Int), 0)
    rw [product_len1 _ hm]; rfl
  · show leastN N = VecD.least (⟨leastN N, N, [], []⟩ : VecD (AD k))
    unfold VecD.least
    rw [if_pos ⟨numV_cls _, by dsimp only; omega⟩]
theorem numsA_plain (k : Nat) (N : List Nat) : plain (k + 1) (numsA k N) = (numsP N : PlainD (PD k)) := by
  show (⟨[(N.length : Int)], itemsV (plain k) (⟨leastN N, N, [], []⟩ : VecD (AD k)), VecD.cls (⟨leastN N, N, [], []⟩ : VecD (AD k))⟩ : PlainD (PD k)) = _
  rw [itemsV_c0 (plain k) (numV_cls _), numV_cls]
  rfl
theorem numsP_tdy (k : Nat) (N : List Nat) (h : ∀ x ∈ N, tidyF x) : tdy (k + 1) (numsP N : PlainD (PD k)) := by
  intro y hy
  obtain ⟨x, hx, rfl⟩ := List.mem_map.1 hy
  exact ⟨h x hx, fun b hb => nomatch hb⟩
end Go.Proofs.YtmojpbfkpggjhaaGreat

/-
  Plain laws of arrays behind each other: what is told, or which error. No statement is proved here.
-/
namespace Go.Proofs.YtmojpbfkpggjhaaGreat
open Go Go.RowKit
set_option linter.unusedVariables false
set_option linter.unusedSimpArgs false
set_option maxHeartbeats 4000000
attribute [local irreducible] CW RW QW SW HW ConM retM heldQ calmQ elemP thenQ blockQ loopQ joinQ retQ Yields Con Sl zF magR unitF truncF fwF wholeF tidySpec elemQ rankF leastN tidyW
set_option maxHeartbeats 4000000

/-! ## What is told -/
/-- what is told of an array, and of a plain one; or an error's number -/
def ResX (k : Nat) (e : Int) (a : AD (k + 1)) (p : PD (k + 1)) : Prop := (e = 0 ∧ good (k + 1) 40 a ∧ plain (k + 1) a = p ∧ tdy (k + 1) p) ∨ ((e = 22 ∨ e = 23 ∨ e = 24 ∨ e = 26) ∧ a = (⟨[], VecD.none⟩ : ArrD (AD k)))
structure Tells (k : Nat) (x : VecD (AD (k + 1))) (L : List (ItemD (PD (k + 1)))) (c : Int) : Prop where
  sh : Shown (k + 1) x L c
  hg : ∀ b ∈ x.boxes, good (k + 1) (40 - 1) b
  ln : L.length = x.len
theorem tells_of (k : Nat) (p : PD (k + 2)) (h : GHeap) (cs : List Value) (hp : PlainAt (k + 2) h cs p) (hc : chk (k + 2) 40 p = 0) : Tells k (ArrD.vec (α := AD (k + 1)) (arr (k + 2) p)) (PlainD.items (α := PD (k + 1)) (tidy (k + 2) p)) (PlainD.fill (α := PD (k + 1)) (tidy (k + 2) p)) ∧ product (PlainD.shape (α := PD (k + 1)) p) 1048576 = (((ArrD.vec (α := AD (k + 1)) (arr (k + 2) p)).len : Int), 0) := by
  obtain ⟨_, _, _, h4, _⟩ := (chkP_ok (α := PD (k + 1)) _ _ _).1 hc
  have hl : (PlainD.items (α := PD (k + 1)) (tidy (k + 2) p)).length = (PlainD.items (α := PD (k + 1)) p).length := List.length_map ..
  have hg := good_arr (k + 2) 40 p hc
  have hg2 : product (PlainD.shape (α := PD (k + 1)) p) 1048576 = (((ArrD.vec (α := AD (k + 1)) (arr (k + 2) p)).len : Int), 0) := hg.1
  refine ⟨⟨shown_of k p h cs hp hc, hg.2.2.2.2, ?_⟩, hg2⟩
  rw [h4] at hg2
  have := congrArg Prod.fst hg2
  dsimp only at this
  omega
theorem sqC2 {α : Type} {v : VecD α} (h : v.cls ≠ 0) : v.sq = v := by unfold VecD.sq; rw [if_neg (fun e => h e.1)]
theorem pickSq2 {α : Type} (v : VecD α) (at_ : List Int) (nb : α) : (v.pick at_ nb).sq = v.pick at_ nb := by
  have hb := leastN_bounds (at_.map v.num)
  unfold VecD.pick
  split
  · exact sqC2 (show (1 : Int) ≠ 0 by decide)
  · split
    · exact sqC2 (show (2 : Int) ≠ 0 by decide)
    · exact sq_nums _ _ (by omega) (by omega)
theorem leastNil2 : leastN [] = 1 := by unfold leastN; rfl
theorem noneItems2 {α β : Type} (f : α → β) (c : Int) : (itemsV f (noneV c : VecD α)).length = (noneV c : VecD α).len := by
  unfold noneV
  split
  · rfl
  · split <;> rfl
theorem joinItems2 {α β : Type} (f : α → β) (c : Int) (l : List (VecD α)) : (itemsV f (joinS c l)).length = (joinS c l).len := by
  unfold joinS
  split
  · show ((l.flatMap (·.chars)).map _).length = 0 + (l.flatMap (·.chars)).length + 0
    rw [List.length_map]; omega
  · split
    · show ((l.flatMap (·.boxes)).map _).length = 0 + 0 + (l.flatMap (·.boxes)).length
      rw [List.length_map]; omega
    · rw [itemsV_c0 f (numV_cls _), List.length_map]
      rfl
theorem noneBoxes2 {α : Type} (c : Int) : (noneV c : VecD α).boxes = [] := by
  unfold noneV
  split
  · rfl
  · split <;> rfl
theorem blankGood2 (k : Nat) (d : Int) (hd : d ≠ 0) : good (k + 1) d (blankA k) := by
  refine ⟨(by show product [0] 1048576 = (((0 : Nat) : Int), 0); decide), (by show (1 : Int) ≠ 0; omega), ?_, hd, fun b hb => nomatch hb⟩
  show (1 : Int) = VecD.least (⟨1, [], [], []⟩ : VecD (AD k))
  unfold VecD.least
  rw [if_pos ⟨rfl, by dsimp only; omega⟩]
  exact leastNil2.symm
theorem Tells.pick {k : Nat} {x : VecD (AD (k + 1))} {L L' : List (ItemD (PD (k + 1)))} {c : Int} (H : Tells k x L c) (at_ : List Int) (hm : at_.length ≤ 1048576) (hL : at_.map (fun i => atD L i (blankI c : ItemD (PlainD (PD k)))) = L') : Tells k (x.pick at_ (blankA k)) L' c := by
  subst hL
  have f := pick_facts x at_ (blankA k)
  refine ⟨H.sh.pick at_ hm, fun b hb => ?_, by rw [List.length_map, f.2.2.1]⟩
  rcases f.2.2.2 b hb with e | e
  · exact H.hg b e
  · rw [e]; exact blankGood2 k _ (by omega)
/-- an array of what is told, in a shape -/
theorem Tells.shape {k : Nat} {x : VecD (AD (k + 1))} {L : List (ItemD (PD (k + 1)))} {c : Int} (H : Tells k x L c) (t : List Int) (ht : product t 1048576 = ((x.len : Int), 0)) : ResX (k + 1) 0 (⟨t, x⟩ : ArrD (AD (k + 1))) (⟨t, L, c⟩ : PlainD (PD (k + 1))) := by
  refine .inl ⟨rfl, ⟨ht, H.sh.k0, H.sh.kl, by omega, H.hg⟩, ?_, H.sh.td⟩
  show (⟨t, itemsV (plain (k + 1)) x, x.cls⟩ : PlainD (PD (k + 1))) = _
  rw [H.sh.he, H.sh.hc]
theorem Tells.sh' {k : Nat} {x : VecD (AD (k + 1))} {L : List (ItemD (PD (k + 1)))} {c : Int} (H : Tells k x L c) : Shown (k + 1) x (itemsV (plain (k + 1)) x) x.cls := by
  have := H.sh; rw [← H.sh.he, ← H.sh.hc] at this; exact this
noncomputable def joinX {k : Nat} (x y : VecD (AD (k + 1))) (c : Int) : VecD (AD (k + 1)) := if c < 0 then noneV (headC [x, y]) else joinS c [x, y]
theorem Tells.join {k : Nat} {x y : VecD (AD (k + 1))} {L M : List (ItemD (PD (k + 1)))} {c d cj : Int} (H : Tells k x L c) (Hb : Tells k y M d) (hj : joinC (-1) [x, y] = some cj) (hsum : x.len + y.len ≤ 1048576) : Tells k (joinX x y cj) (L ++ M) (if 0 ≤ cj then cj else c) := by
  have hS := shown_join hj (by
    intro z hz
    simp only [List.mem_cons, List.not_mem_nil, or_false] at hz
    rcases hz with rfl | rfl
    · exact H.sh'
    · exact Hb.sh') (by show x.len + (y.len + 0) ≤ 1048576; omega)
  have e1 : [x, y].flatMap (itemsV (plain (k + 1))) = L ++ M := by
    show itemsV (plain (k + 1)) x ++ (itemsV (plain (k + 1)) y ++ []) = _
    rw [List.append_nil, H.sh.he, Hb.sh.he]
  have e2 : headC [x, y] = c := H.sh.hc
  rw [e1, e2] at hS
  refine ⟨by unfold joinX; rw [e2]; exact hS, ?_, ?_⟩
  · unfold joinX
    split
    · rw [noneBoxes2]; exact fun z hz => nomatch hz
    · intro z hz
      obtain ⟨u, hu, hz2⟩ := joinS_boxes hz
      simp only [List.mem_cons, List.not_mem_nil, or_false] at hu
      rcases hu with e | e
      · exact H.hg z (e ▸ hz2)
      · exact Hb.hg z (e ▸ hz2)
  · rw [← hS.he]
    unfold joinX
    rw [e2]
    split
    · exact noneItems2 _ _
    · exact joinItems2 _ _ _
/-! ## Axes that an array lacks -/
end Go.Proofs.YtmojpbfkpggjhaaGreat

/-
  Plain laws of two arrays behind each other: the code's rows and the document's places tell the same. No statement is proved here.
-/
namespace Go.Proofs.YtmojpbfkpggjhaaGreat
open Go Go.RowKit
set_option linter.unusedVariables false
set_option linter.unusedSimpArgs false
set_option maxHeartbeats 4000000
attribute [local irreducible] CW RW QW SW HW ConM retM heldQ calmQ elemP thenQ blockQ loopQ joinQ retQ Yields Con Sl zF magR unitF truncF fwF wholeF tidySpec elemQ rankF leastN tidyW
set_option maxHeartbeats 4000000

/-! ## The answers -/
end Go.Proofs.YtmojpbfkpggjhaaGreat

/-
  Contracts of functions of package pick: places along an axis, turned on. No statement is proved here.
-/
namespace Go.Proofs.YtmojpbfkpggjhaaGreat
open Go Go.RowKit
set_option linter.unusedVariables false
set_option linter.unusedSimpArgs false
set_option maxHeartbeats 4000000
attribute [local irreducible] CW RW QW SW HW ConM retM heldQ calmQ elemP thenQ blockQ loopQ joinQ retQ Yields Con Sl zF magR unitF truncF fwF wholeF tidySpec elemQ rankF leastN tidyW
set_option maxHeartbeats 4000000

theorem fillA' {δ : Type} {A : List δ} {i n : Nat} (hA : A.length = i) (h : i < n) (b z : δ) : (A ++ List.replicate (n - i) b).set i z = (A ++ [z]) ++ List.replicate (n - (i + 1)) b := by
  obtain ⟨r, hr⟩ : ∃ r, n - i = r + 1 := ⟨n - i - 1, by omega⟩
  have e : n - (i + 1) = r := by omega
  rw [hr, e, List.replicate_succ, List.set_append_right _ _ (by omega), ← hA]
  simp
theorem setA' {δ : Type} {A Rr : List δ} {i : Nat} (hA : A.length = i) (z y : δ) : ((A ++ [z]) ++ Rr).set i y = (A ++ [y]) ++ Rr := by
  subst hA
  simp
/-- a place that isn't there -/
def noneI (n : Nat) (i : Int) : Int := if i < 0 ∨ (n : Int) ≤ i then -1 else i
theorem pickNone_con (v1 : Value) (at_ : List Int) (n : Nat) (w : World) (h : GHeap) (ha : IntsAt h v1 at_) (hm : at_.length ≤ 1048576) : Con Tryz.prog 165 [v1, .int .i64 n] w h (fun h' u => IntsAt h' u (at_.map (noneI n))) := by
  obtain ⟨ad, cp, rfl, hS⟩ := ha
  refine Con.of_body Tryz.func165 rfl Tryz.ntmps165 rfl rfl ?_
  intro hs
  refine Zerun ?_
  (refine RW.make1 T hs rfl rfl rfl rfl rfl rfl rfl (by dsimp only; omega) (by omega) ?_; intro b1 w1 hs)
  refine Zerun ?_
  refine CW.loop (fun i : Nat => [(1, .int .i64 n), (5, .slice (some ⟨b1, 0, none⟩) at_.length at_.length), (11, .slice ad at_.length cp), (12, .int .i64 at_.length), (13, .int .i64 i)]) (fun i w' => i ≤ at_.length ∧ Sees w h h [⟨some ⟨b1, 0, none⟩, at_.length, at_.length, 3, 1, (((at_.take i).map (noneI n)) ++ List.replicate (at_.length - i) 0).map (Value.int .i64)⟩] w') (fun i => at_.length - i) 0 ⟨rfl, rfl, rfl, rfl, rfl, trivial⟩ ⟨by omega, by simp only [List.take_zero, List.map_nil, List.nil_append, Nat.sub_zero, List.map_replicate]; exact hs⟩ ?_
  rintro i w2 ⟨hi, hs⟩
  by_cases hlt : i < at_.length
  · have hAl : ((at_.take i).map (noneI n)).length = i := by rw [List.length_map, List.length_take]; omega
    have htm : (at_.take (i + 1)).map (noneI n) = (at_.take i).map (noneI n) ++ [noneI n (at_.getD i 0)] := by
      rw [take_succ_getD at_ i 0 hlt, List.map_append]; rfl
    refine Zerun ?_
    refine RW.val (Y.idxRN T hs 0 rfl rfl rfl rfl rfl rfl hlt) rfl ?_
    refine RW.st1 T hs 0 rfl rfl rfl rfl rfl rfl rfl hlt ?_
    intro w3 hs
    dsimp only [List.set_cons_zero, List.set_cons_succ] at hs
    rw [map_set_int, fillA' hAl hlt] at hs
    by_cases c1 : at_.getD i 0 < 0
    · have hv : noneI n (at_.getD i 0) = -1 := by unfold noneI; rw [if_pos (.inl c1)]
      refine Zerun ?_
      refine RW.val (Y.idxRN T hs 0 rfl rfl rfl rfl rfl rfl hlt) rfl ?_
      refine RW.st1 T hs 0 rfl rfl rfl rfl rfl rfl rfl hlt ?_
      intro w3 hs
      dsimp only [List.set_cons_zero, List.set_cons_succ] at hs
      rw [map_set_int, setA' hAl, ← hv, ← htm] at hs
      refine Zerun ?_
      exact loopQ_round (i + 1) ⟨rfl, rfl, rfl, rfl, rfl, trivial⟩ ⟨by omega, hs⟩ (by omega)
    by_cases c2 : (n : Int) ≤ at_.getD i 0
    · have hv : noneI n (at_.getD i 0) = -1 := by unfold noneI; rw [if_pos (.inr c2)]
      refine Zerun ?_
      refine RW.val (Y.idxRN T hs 0 rfl rfl rfl rfl rfl rfl hlt) rfl ?_
      refine RW.st1 T hs 0 rfl rfl rfl rfl rfl rfl rfl hlt ?_
      intro w3 hs
      dsimp only [List.set_cons_zero, List.set_cons_succ] at hs
      rw [map_set_int, setA' hAl, ← hv, ← htm] at hs
      refine Zerun ?_
      exact loopQ_round (i + 1) ⟨rfl, rfl, rfl, rfl, rfl, trivial⟩ ⟨by omega, hs⟩ (by omega)
    have hv : noneI n (at_.getD i 0) = at_.getD i 0 := by unfold noneI; rw [if_neg (by omega)]
    rw [hv] at htm
    rw [← htm] at hs
    refine Zerun ?_
    exact loopQ_round (i + 1) ⟨rfl, rfl, rfl, rfl, rfl, trivial⟩ ⟨by omega, hs⟩ (by omega)
  obtain rfl : i = at_.length := by omega
  rw [List.take_length, Nat.sub_self, List.replicate_zero, List.append_nil] at hs
  refine Zerun ?_
  obtain ⟨h6, hle6, hs, hS6⟩ := hs.freeze
  refine retQ_ret [_] h6 ⟨rfl, trivial⟩ hs.dropAll ?_
  have := IntsAt.of_sl hS6
  exact this
theorem flat_single {γ δ : Type} (f : γ → δ) : ∀ l : List γ, (l.flatMap fun x => [f x]) = l.map f
  | [] => rfl
  | a :: l => by rw [List.flatMap_cons, flat_single f l]; rfl
theorem alongL_one (n : Nat) (at_ : List Int) : alongL 1 n 1 at_ = at_.map (noneI n) := by
  show (List.range 1).flatMap _ = _
  rw [show List.range 1 = [0] from rfl, List.flatMap_cons, List.flatMap_nil, List.append_nil]
  rw [← flat_single (noneI n) at_]
  apply flatMap_eqN
  intro i _
  show [alongI n 1 0 i 0] = [noneI n i]
  congr 1
  unfold alongI noneI
  by_cases c : 0 ≤ i ∧ i < n
  · rw [if_pos c, if_neg (by omega)]
    omega
  · rw [if_neg c, if_pos (by omega)]
section
variable {α : Type} {R : GHeap → List Value → α → Prop}
theorem pickAlong_con (hR : Mono R) (h1 : One R) (h9 : Siz 9 R) (nb : α) (hbl : ∀ w h, Con Tryz.prog 138 [] w h (fun h' u => ∃ cs', u = .agg cs'.toArray ∧ R h' cs' nb)) (cs : List Value) (v : VecD α) (v1 : Value) (outer n inner : Nat) (at_ : List Int) (w : World) (h : GHeap) (hv : VecAt R h cs v) (ha : IntsAt h v1 at_) (hal : at_.length ≤ 1048576) (hou : outer ≤ 1048576) (hm : outer * (at_.length * inner) ≤ 1048576) (hB : outer * n * inner ≤ 1099511627776) (hBn : outer * n ≤ 1099511627776) (hvm : v.len ≤ 1048576) (hk0 : v.kind ≠ 0) :
    Con Tryz.prog 145 [.agg cs.toArray, .int .i64 outer, .int .i64 n, .int .i64 inner, v1] w h (fun h' u => ∃ cs', u = .agg cs'.toArray ∧ VecAt R h' cs' (v.pick (alongL outer n inner at_) nb)) := by
  have hv' := hv
  have ha' := ha
  obtain ⟨ad, cp, rfl, hS⟩ := ha
  obtain ⟨wv, nv, sm, il, fl, ch, bx, ⟨rfl, hoc⟩, _⟩ := hv
  refine Con.of_body Tryz.func145 rfl Tryz.ntmps145 rfl rfl ?_
  intro hs
  refine Zrun ?_
  (refine RW.boxN hs rfl rfl ?_; intro b1 w1 hs)
  (refine RW.allocN T hs rfl rfl rfl rfl ?_; intro b2 w2 hs)
  by_cases c : outer = 1 ∧ inner = 1
  · obtain ⟨rfl, rfl⟩ := c
    refine Zerun ?_
    refine CW.regionR T 1 1 hs rfl rfl ?_
    intro w4 hs
    refine HW.takeR (fuel := 5) 0 rfl (fun _ _ ka kb _ hs hka hkb => Y.loadRowN T hs ka hka rfl rfl rfl rfl rfl rfl) ⟨_, _, 1, 1, hs, rfl, rfl⟩ rfl (by kernel_rfl) (by kernel_rfl) (by kernel_rfl) ?_
    refine HW.takeR (fuel := 4) 1 rfl (fun _ _ ka kb _ hs hka hkb => Y.move rfl) ⟨_, _, 1, 1, hs, rfl, rfl⟩ rfl (by kernel_rfl) (by kernel_rfl) (by kernel_rfl) ?_
    refine HW.takeR (fuel := 3) 2 rfl (fun _ _ ka kb _ hs hka hkb => Y.move rfl) ⟨_, _, 1, 1, hs, rfl, rfl⟩ rfl (by kernel_rfl) (by kernel_rfl) (by kernel_rfl) ?_
    refine HW.one (fuel := 2) 3 rfl (by kernel_rfl) ?_
    (refine RW.call T hs rfl rfl rfl (pickNone_con _ _ n _ _ ha' (by omega)) ?_; intro v h25 w25 hle25 hp25 hs)
    have hv' := hv'.mono hR hle25
    have ha' := ha'.mono hle25
    refine RW.nil ?_
    refine heldQ_normal ⟨_, _, 1, 1, hs, rfl, rfl⟩ ?_
    refine HW.one (fuel := 1) 4 rfl (by kernel_rfl) ?_
    (refine RW.call T hs rfl rfl rfl (flatPick_con hR h1 h9 nb hbl _ _ _ (at_.map (noneI n)) _ _ hv' hp25 (by rw [List.length_map]; omega) hvm hk0) ?_; intro v h26 w26 hle26 hp26 hs)
    obtain ⟨cs26, rfl, hv26⟩ := hp26
    obtain ⟨wv6, nv6, sm6, il6, fl6, ch6, bx6, ⟨rfl, hoc6⟩, _⟩ := id hv26
    have hv' := hv'.mono hR hle26
    have ha' := ha'.mono hle26
    refine RW.nil ?_
    refine heldQ_normal ⟨_, _, 1, 1, hs, rfl, rfl⟩ ?_
    refine HW.one (fuel := 0) 5 rfl (by kernel_rfl) ?_
    (refine RW.storeAll T hs 0 rfl rfl rfl rfl rfl rfl hoc6 rfl ?_; intro w27 hs)
    refine RW.nil ?_
    refine heldQ_normal ⟨_, _, 1, 1, hs, rfl, rfl⟩ ?_
    refine HW.done (by kernel_rfl) ?_
    refine calmQ_normal ?_
    refine Zerun ?_
    exact retQ_ret [_] h26 ⟨resN T hs 0 rfl rfl rfl rfl rfl rfl, trivial⟩ hs.dropAll ⟨_, rfl, by rw [alongL_one]; exact hv26⟩
  have hlm : ∀ a b : Nat, ((a : Int) * (b : Int)) = ((a * b : Nat) : Int) := fun a b => (Int.natCast_mul a b).symm
  have hoa : outer * at_.length ≤ 1099511627776 := Nat.le_trans (Nat.mul_le_mul hou hal) (by omega)
  have hoai : outer * at_.length * inner ≤ 1048576 := by rw [Nat.mul_assoc]; exact hm
  first | (refine A0 ?_; first | refine R1 rfl rfl ?_ | refine R2 rfl rfl ?_ | (refine A1 ?_; first | refine D3 rfl rfl ?_ | refine D4 rfl rfl rfl rfl ?_ | refine D5 rfl rfl rfl ?_ | refine E6 ?_ rfl rfl | refine E7 ?_ rfl rfl) | refine Zb ?_ rfl | (refine A3 ?_; first | refine R34 T hs 0 rfl rfl rfl rfl rfl rfl ?_ | refine R34 T hs 1 rfl rfl rfl rfl rfl rfl ?_ | refine Zl ?_ rfl) | refine Zi ?_ rfl | refine Zo ?_ rfl | refine A8 ?_) | (refine B0 ?_; first | refine B1 ?_ | refine B2 ?_ | refine B3 ?_ | refine B4 ?_ | refine B5 ?_ | refine B6 ?_ | refine B7 rfl ?_ | refine B8 rfl ?_ | refine E8 ?_ rfl | refine E9 ?_ rfl) | refine C1 ?_ | refine C2 ?_ | refine C3 ?_ | refine C4 ?_ | refine C5 ?_ | refine C6 ?_ | refine C7 ?_ | refine C8 ?_ | refine C9 ?_ | refine D1 rfl ?_ | refine D2 rfl ?_
  first | (refine A0 ?_; first | refine R1 rfl rfl ?_ | refine R2 rfl rfl ?_ | (refine A1 ?_; first | refine D3 rfl rfl ?_ | refine D4 rfl rfl rfl rfl ?_ | refine D5 rfl rfl rfl ?_ | refine E6 ?_ rfl rfl | refine E7 ?_ rfl rfl) | refine Zb ?_ rfl | (refine A3 ?_; first | refine R34 T hs 0 rfl rfl rfl rfl rfl rfl ?_ | refine R34 T hs 1 rfl rfl rfl rfl rfl rfl ?_ | refine Zl ?_ rfl) | refine Zi ?_ rfl | refine Zo ?_ rfl | refine A8 ?_) | (refine B0 ?_; first | refine B1 ?_ | refine B2 ?_ | refine B3 ?_ | refine B4 ?_ | refine B5 ?_ | refine B6 ?_ | refine B7 rfl ?_ | refine B8 rfl ?_ | refine E8 ?_ rfl | refine E9 ?_ rfl) | refine C1 ?_ | refine C2 ?_ | refine C3 ?_ | refine C4 ?_ | refine C5 ?_ | refine C6 ?_ | refine C7 ?_ | refine C8 ?_ | refine C9 ?_ | refine D1 rfl ?_ | refine D2 rfl ?_
  first | (refine A0 ?_; first | refine R1 rfl rfl ?_ | refine R2 rfl rfl ?_ | (refine A1 ?_; first | refine D3 rfl rfl ?_ | refine D4 rfl rfl rfl rfl ?_ | refine D5 rfl rfl rfl ?_ | refine E6 ?_ rfl rfl | refine E7 ?_ rfl rfl) | refine Zb ?_ rfl | (refine A3 ?_; first | refine R34 T hs 0 rfl rfl rfl rfl rfl rfl ?_ | refine R34 T hs 1 rfl rfl rfl rfl rfl rfl ?_ | refine Zl ?_ rfl) | refine Zi ?_ rfl | refine Zo ?_ rfl | refine A8 ?_) | (refine B0 ?_; first | refine B1 ?_ | refine B2 ?_ | refine B3 ?_ | refine B4 ?_ | refine B5 ?_ | refine B6 ?_ | refine B7 rfl ?_ | refine B8 rfl ?_ | refine E8 ?_ rfl | refine E9 ?_ rfl) | refine C1 ?_ | refine C2 ?_ | refine C3 ?_ | refine C4 ?_ | refine C5 ?_ | refine C6 ?_ | refine C7 ?_ | refine C8 ?_ | refine C9 ?_ | refine D1 rfl ?_ | refine D2 rfl ?_
  refine CW.meet (fun _ : Unit => [(1, .int .i64 outer), (2, .int .i64 n), (3, .int .i64 inner), (4, .slice ad at_.length cp), (5, .pointer (some ⟨b1, 0, none⟩)), (10, .pointer (some ⟨b2, 0, none⟩)), (21, .bool false)]) (fun _ w' => Sees w h h [⟨some ⟨b2, 0, none⟩, 1, 1, 37, 8, vecCells 0 (.slice none 0 0) 0 (.slice none 0 0) (.slice none 0 0) (.slice none 0 0) (.slice none 0 0) (.slice none 0 0)⟩, ⟨some ⟨b1, 0, none⟩, 1, 1, 37, 8, vecCells v.kind wv nv sm il fl ch bx⟩] w') ?_ ?_
  · by_cases c1 : outer = 1
    · have c2 : ¬ inner = 1 := fun e => c ⟨c1, e⟩
      refine Zerun ?_
      exact joinQ_meet () ⟨rfl, rfl, rfl, rfl, rfl, rfl, setb (decide_eq_false (by omega)), trivial⟩ hs
    · refine Zerun ?_
      exact joinQ_meet () ⟨rfl, rfl, rfl, rfl, rfl, rfl, rfl, trivial⟩ hs
  rintro _ w3 hs
  refine Zerun ?_
  refine RW.val (Y.mul rfl rfl ?_) rfl ?_
  · rw [hlm]; omega
  rw [hlm]
  refine Zerun ?_
  refine RW.val (Y.mul rfl rfl ?_) rfl ?_
  · rw [hlm]; omega
  rw [hlm]
  obtain ⟨N, hN⟩ : ∃ N, outer * at_.length * inner = N := ⟨_, rfl⟩
  rw [hN] at hoai ⊢
  (refine RW.make T hs rfl rfl rfl rfl rfl ?_ ?_ ?_ ?_ ?_; omega; omega; (dsimp only; omega); omega; intro b4 w4 hs)
  have hs : Sees w h h [⟨some ⟨b4, 0, none⟩, 0, N, 3, 1, []⟩, ⟨some ⟨b2, 0, none⟩, 1, 1, 37, 8, vecCells 0 (.slice none 0 0) 0 (.slice none 0 0) (.slice none 0 0) (.slice none 0 0) (.slice none 0 0) (.slice none 0 0)⟩, ⟨some ⟨b1, 0, none⟩, 1, 1, 37, 8, vecCells v.kind wv nv sm il fl ch bx⟩] w4 := by
    have e : ((N : Int)).toNat = N := Int.toNat_natCast _
    rw [e] at hs
    exact hs.re (made_one _ _)
  have e : ((N : Int)).toNat = N := Int.toNat_natCast _
  rw [e]
  refine Zerun ?_
  refine CW.loop (fun u : Nat × Nat × (Option Addr × Nat) => [(1, .int .i64 outer), (2, .int .i64 n), (3, .int .i64 inner), (4, .slice ad at_.length cp), (5, .pointer (some ⟨b1, 0, none⟩)), (10, .pointer (some ⟨b2, 0, none⟩)), (11, .slice u.2.2.1 u.2.1 u.2.2.2), (34, .int .i64 outer), (35, .int .i64 u.1)]) (fun u w' => u.1 ≤ outer ∧ u.2.1 = (alongL u.1 n inner at_).length ∧ Sees w h h [⟨u.2.2.1, u.2.1, u.2.2.2, 3, 1, (alongL u.1 n inner at_).map (Value.int .i64)⟩, ⟨some ⟨b2, 0, none⟩, 1, 1, 37, 8, vecCells 0 (.slice none 0 0) 0 (.slice none 0 0) (.slice none 0 0) (.slice none 0 0) (.slice none 0 0) (.slice none 0 0)⟩, ⟨some ⟨b1, 0, none⟩, 1, 1, 37, 8, vecCells v.kind wv nv sm il fl ch bx⟩] w') (fun u => outer - u.1) (0, 0, (some ⟨b4, 0, none⟩, N)) ⟨rfl, rfl, rfl, rfl, rfl, rfl, rfl, rfl, rfl, trivial⟩ ⟨by omega, rfl, hs⟩ ?_
  rintro ⟨o, nn, ⟨ab, cb⟩⟩ w5 ⟨ho, hnn, hs⟩
  dsimp only at ho hnn hs ⊢
  have hal2 := alongL_len o n inner at_
  by_cases hlt : o < outer
  · have hon : o * n ≤ outer * n := Nat.mul_le_mul_right n (by omega)
    have hob : o * (at_.length * inner) ≤ outer * (at_.length * inner) := Nat.mul_le_mul_right _ (by omega)
    have hob1 : o * (at_.length * inner) + at_.length * inner ≤ outer * (at_.length * inner) := by
      have := Nat.mul_le_mul_right (at_.length * inner) (show o + 1 ≤ outer by omega)
      rw [Nat.add_mul, Nat.one_mul] at this
      exact this
    refine Zerun ?_
    refine CW.loop (fun u : Nat × Nat × (Option Addr × Nat) => [(1, .int .i64 outer), (2, .int .i64 n), (3, .int .i64 inner), (4, .slice ad at_.length cp), (5, .pointer (some ⟨b1, 0, none⟩)), (10, .pointer (some ⟨b2, 0, none⟩)), (11, .slice u.2.2.1 u.2.1 u.2.2.2), (12, .int .i64 o), (34, .int .i64 outer), (35, .int .i64 o), (38, .slice ad at_.length cp), (39, .int .i64 at_.length), (40, .int .i64 u.1)]) (fun u w' => u.1 ≤ at_.length ∧ u.2.1 = o * (at_.length * inner) + u.1 * inner ∧ Sees w h h [⟨u.2.2.1, u.2.1, u.2.2.2, 3, 1, (alongL o n inner at_ ++ (at_.take u.1).flatMap (fun i => (List.range inner).map fun k => alongI n inner o i k)).map (Value.int .i64)⟩, ⟨some ⟨b2, 0, none⟩, 1, 1, 37, 8, vecCells 0 (.slice none 0 0) 0 (.slice none 0 0) (.slice none 0 0) (.slice none 0 0) (.slice none 0 0) (.slice none 0 0)⟩, ⟨some ⟨b1, 0, none⟩, 1, 1, 37, 8, vecCells v.kind wv nv sm il fl ch bx⟩] w') (fun u => at_.length - u.1) (0, nn, (ab, cb)) ⟨rfl, rfl, rfl, rfl, rfl, rfl, rfl, rfl, rfl, rfl, rfl, rfl, rfl, trivial⟩ ⟨by omega, by dsimp only; omega, by simp only [List.take_zero, List.flatMap_nil, List.append_nil]; exact hs⟩ ?_
    rintro ⟨j, nj, ⟨aj, cj⟩⟩ w6 ⟨hj, hnj, hs⟩
    dsimp only at hj hnj hs ⊢
    by_cases hlj : j < at_.length
    · have hji : j * inner + inner ≤ at_.length * inner := by
        have := Nat.mul_le_mul_right inner (show j + 1 ≤ at_.length by omega)
        rw [Nat.add_mul, Nat.one_mul] at this
        exact this
      have htk : (at_.take (j + 1)).flatMap (fun i => (List.range inner).map fun k => alongI n inner o i k) = (at_.take j).flatMap (fun i => (List.range inner).map fun k => alongI n inner o i k) ++ (List.range inner).map fun k => alongI n inner o (at_.getD j 0) k := by
        rw [take_succ_getD at_ j 0 hlj, List.flatMap_append]
        simp
      refine Zerun ?_
      obtain ⟨x, hxe⟩ : ∃ x, at_.getD j 0 = x := ⟨_, rfl⟩
      rw [hxe] at htk ⊢
      refine CW.loop (fun u : Nat × Nat × (Option Addr × Nat) => [(1, .int .i64 outer), (2, .int .i64 n), (3, .int .i64 inner), (4, .slice ad at_.length cp), (5, .pointer (some ⟨b1, 0, none⟩)), (10, .pointer (some ⟨b2, 0, none⟩)), (11, .slice u.2.2.1 u.2.1 u.2.2.2), (12, .int .i64 o), (14, .int .i64 x), (34, .int .i64 outer), (35, .int .i64 o), (38, .slice ad at_.length cp), (39, .int .i64 at_.length), (40, .int .i64 j), (44, .int .i64 inner), (45, .int .i64 u.1)]) (fun u w' => u.1 ≤ inner ∧ u.2.1 = o * (at_.length * inner) + j * inner + u.1 ∧ Sees w h h [⟨u.2.2.1, u.2.1, u.2.2.2, 3, 1, (alongL o n inner at_ ++ (at_.take j).flatMap (fun i => (List.range inner).map fun k => alongI n inner o i k) ++ (List.range u.1).map (fun k => alongI n inner o x k)).map (Value.int .i64)⟩, ⟨some ⟨b2, 0, none⟩, 1, 1, 37, 8, vecCells 0 (.slice none 0 0) 0 (.slice none 0 0) (.slice none 0 0) (.slice none 0 0) (.slice none 0 0) (.slice none 0 0)⟩, ⟨some ⟨b1, 0, none⟩, 1, 1, 37, 8, vecCells v.kind wv nv sm il fl ch bx⟩] w') (fun u => inner - u.1) (0, nj, (aj, cj)) ⟨rfl, rfl, rfl, rfl, rfl, rfl, rfl, rfl, rfl, rfl, rfl, rfl, rfl, rfl, rfl, rfl, trivial⟩ ⟨by omega, hnj, by simp only [List.range_zero, List.map_nil, List.append_nil]; exact hs⟩ ?_
      rintro ⟨m, nm, ⟨am, cm⟩⟩ w7 ⟨hmm, hnm, hs⟩
      dsimp only at hmm hnm hs ⊢
      by_cases hlm2 : m < inner
      · have hrs : (List.range (m + 1)).map (fun k => alongI n inner o x k) = (List.range m).map (fun k => alongI n inner o x k) ++ [alongI n inner o x m] := by
          rw [List.range_succ, List.map_append]; rfl
        by_cases c1 : x < 0 ∨ (n : Int) ≤ x
        · have hv : alongI n inner o x m = -1 := by unfold alongI; rw [if_neg (by omega)]
          by_cases c2 : x < 0
          · refine Zerun ?_
            (refine RW.lit T hs (vs := [.int .i64 (-1)]) (cs := [.int .i64 (-1)]) rfl rfl rfl rfl (by simp [Value.cells]) rfl rfl rfl rfl rfl ?_; intro b8 w8 hs)
            (refine RW.append T hs 1 rfl rfl (m := 1) (news := [.int .i64 (-1)]) rfl rfl rfl rfl rfl rfl (hs.src0 rfl (by simp [Value.oneCell'])) (by simp) (by dsimp only; omega) (by omega) ?_; intro ad9 cp9 w9 hs; replace hs := hs.drop)
            refine Zerun ?_
            refine loopQ_round (m + 1, nm + 1, (ad9, cp9)) ⟨rfl, rfl, rfl, rfl, rfl, rfl, rfl, rfl, rfl, rfl, rfl, rfl, rfl, rfl, rfl, rfl, trivial⟩ ⟨by dsimp only; omega, by dsimp only; omega, ?_⟩ (by dsimp only; omega)
            dsimp only
            rw [hrs, hv, ← List.append_assoc, List.map_append]
            exact hs
          · have c3 : (n : Int) ≤ x := by omega
            refine Zerun ?_
            (refine RW.lit T hs (vs := [.int .i64 (-1)]) (cs := [.int .i64 (-1)]) rfl rfl rfl rfl (by simp [Value.cells]) rfl rfl rfl rfl rfl ?_; intro b8 w8 hs)
            (refine RW.append T hs 1 rfl rfl (m := 1) (news := [.int .i64 (-1)]) rfl rfl rfl rfl rfl rfl (hs.src0 rfl (by simp [Value.oneCell'])) (by simp) (by dsimp only; omega) (by omega) ?_; intro ad9 cp9 w9 hs; replace hs := hs.drop)
            refine Zerun ?_
            refine loopQ_round (m + 1, nm + 1, (ad9, cp9)) ⟨rfl, rfl, rfl, rfl, rfl, rfl, rfl, rfl, rfl, rfl, rfl, rfl, rfl, rfl, rfl, rfl, trivial⟩ ⟨by dsimp only; omega, by dsimp only; omega, ?_⟩ (by dsimp only; omega)
            dsimp only
            rw [hrs, hv, ← List.append_assoc, List.map_append]
            exact hs
        · have hx0 : 0 ≤ x ∧ x < n := by omega
          have hv : alongI n inner o x m = (((o * n + x.toNat) * inner + m : Nat) : Int) := by unfold alongI; rw [if_pos hx0]
          have hox : o * n + x.toNat < outer * n := by
            have := Nat.mul_le_mul_right n (show o + 1 ≤ outer by omega)
            rw [Nat.add_mul, Nat.one_mul] at this
            omega
          have hoxi : (o * n + x.toNat) * inner + m < outer * n * inner := by
            have := Nat.mul_le_mul_right inner (show o * n + x.toNat + 1 ≤ outer * n by omega)
            rw [Nat.add_mul, Nat.one_mul] at this
            omega
          refine Zerun ?_
          refine RW.val (Y.mul rfl rfl ?_) rfl ?_
          · rw [hlm]; omega
          rw [hlm]
          refine Zerun ?_
          rw [show ((o * n : Nat) : Int) + x = ((o * n + x.toNat : Nat) : Int) by omega]
          refine RW.val (Y.mul rfl rfl ?_) rfl ?_
          · rw [hlm]; omega
          rw [hlm]
          refine Zerun ?_
          (refine RW.lit T hs (vs := [.int .i64 ((((o * n + x.toNat) * inner : Nat) : Int) + m)]) (cs := [.int .i64 ((((o * n + x.toNat) * inner : Nat) : Int) + m)]) rfl rfl rfl rfl (by simp [Value.cells]) rfl rfl rfl rfl rfl ?_; intro b8 w8 hs)
          (refine RW.append T hs 1 rfl rfl (m := 1) (news := [.int .i64 ((((o * n + x.toNat) * inner : Nat) : Int) + m)]) rfl rfl rfl rfl rfl rfl (hs.src0 rfl (by simp [Value.oneCell'])) (by simp) (by dsimp only; omega) (by omega) ?_; intro ad9 cp9 w9 hs; replace hs := hs.drop)
          refine Zerun ?_
          refine loopQ_round (m + 1, nm + 1, (ad9, cp9)) ⟨rfl, rfl, rfl, rfl, rfl, rfl, rfl, rfl, rfl, rfl, rfl, rfl, rfl, rfl, rfl, rfl, trivial⟩ ⟨by dsimp only; omega, by dsimp only; omega, ?_⟩ (by dsimp only; omega)
          dsimp only
          rw [hrs, hv, ← List.append_assoc, List.map_append]
          exact hs
      obtain rfl : m = inner := by omega
      rw [List.append_assoc, ← htk] at hs
      refine Zerun ?_
      refine loopQ_round (j + 1, nm, (am, cm)) ⟨rfl, rfl, rfl, rfl, rfl, rfl, rfl, rfl, rfl, rfl, rfl, rfl, rfl, trivial⟩ ⟨by dsimp only; omega, ?_, hs⟩ (by dsimp only; omega)
      dsimp only
      rw [Nat.add_mul, Nat.one_mul]
      omega
    obtain rfl : j = at_.length := by omega
    have hsn : alongL (o + 1) n inner at_ = alongL o n inner at_ ++ at_.flatMap (fun i => (List.range inner).map fun k => alongI n inner o i k) := by
      unfold alongL
      rw [List.range_succ, List.flatMap_append]
      simp
    rw [List.take_length, ← hsn] at hs
    refine Zerun ?_
    refine loopQ_round (o + 1, nj, (aj, cj)) ⟨rfl, rfl, rfl, rfl, rfl, rfl, rfl, rfl, rfl, trivial⟩ ⟨by dsimp only; omega, ?_, hs⟩ (by dsimp only; omega)
    dsimp only
    rw [alongL_len, Nat.add_mul, Nat.one_mul]
    omega
  obtain rfl : o = outer := by omega
  obtain ⟨h6, hle6, hs, hS6⟩ := hs.freeze
  have hI6 : IntsAt h6 (.slice ab nn cb) (alongL o n inner at_) := IntsAt.of_sl hS6
  have hv' := hv'.mono hR hle6
  refine Zerun ?_
  (refine RW.call T hs rfl rfl rfl (flatPick_con hR h1 h9 nb hbl _ _ _ (alongL o n inner at_) _ _ hv' hI6 (by omega) hvm hk0) ?_; intro v h11 w11 hle11 hp11 hs)
  obtain ⟨cs11, rfl, hv11⟩ := hp11
  obtain ⟨wv6, nv6, sm6, il6, fl6, ch6, bx6, ⟨rfl, hoc6⟩, _⟩ := id hv11
  (refine RW.storeAll T hs 0 rfl rfl rfl rfl rfl rfl hoc6 rfl ?_; intro w12 hs)
  refine Zerun ?_
  exact retQ_ret [_] h11 ⟨resN T hs 0 rfl rfl rfl rfl rfl rfl, trivial⟩ hs.dropAll ⟨_, rfl, hv11⟩
end
end Go.Proofs.YtmojpbfkpggjhaaGreat

/-
  Contracts of functions of package shape and of its reference, third part: places and indexes. No statement is proved here.
-/
namespace Go.Proofs.YtmojpbfkpggjhaaGreat
open Go Go.RowKit
set_option linter.unusedVariables false
set_option linter.unusedSimpArgs false
set_option maxHeartbeats 4000000
attribute [local irreducible] CW RW QW SW HW ConM retM heldQ calmQ elemP thenQ blockQ loopQ joinQ retQ Yields Con Sl

end Go.Proofs.YtmojpbfkpggjhaaGreat

/-
  Contracts of functions of package shape and of its reference, fourth part: new shapes. No statement is proved here.
-/
namespace Go.Proofs.YtmojpbfkpggjhaaGreat
open Go Go.RowKit
set_option linter.unusedVariables false
set_option linter.unusedSimpArgs false
set_option maxHeartbeats 4000000
attribute [local irreducible] CW RW QW SW HW ConM retM heldQ calmQ elemP thenQ blockQ loopQ joinQ retQ Yields Con Sl

/-- a clone of a slice of int: the caller's own -/
theorem cloneInt_conM (ad : Option Addr) (cp : Nat) (l : List Int) (w0 w : World) (h0 h : GHeap) (O : List Row) (hS : Sl h 1 ad l.length cp (l.map (Value.int .i64))) (hm : l.length ≤ 17592186044416) :
    ConM Tryz.prog 64 [.slice ad l.length cp] w0 h0 h O w (fun h' O' v => h' = h ∧ ∃ ad' cp', v = .slice ad' l.length cp' ∧ O' = ⟨ad', l.length, cp', 3, 1, l.map (Value.int .i64)⟩ :: O) := by
  refine ConM.of_body Tryz.func64 rfl Tryz.ntmps64 rfl rfl ?_
  intro hs
  refine Zrun ?_
  refine RW.val (Y.sliceNil T rfl rfl rfl) rfl ?_
  refine Zrun ?_
  cases ad with
  | none =>
    have h4 : l = [] := List.eq_nil_of_length_eq_zero hS.nil0.1
    subst h4
    refine Zrun ?_
    exact retM_ret [_] h _ ⟨rfl, trivial⟩ (GLe.refl _) (hs.nilRow 3 1) ⟨rfl, none, 0, rfl, rfl⟩
  | some p =>
    refine Zrun ?_
    (refine RW.lit T hs (vs := []) rfl rfl rfl rfl (by simp [Value.cells]) rfl rfl rfl rfl rfl ?_; intro b1 w1 hs)
    refine Zrun ?_
    refine RW.append T hs 0 rfl rfl (m := l.length) (news := l.map (Value.int .i64)) rfl rfl rfl rfl rfl rfl (hS.src hs.agree (one_ints _ _)) (by simp) (by dsimp only; omega) (by omega) ?_
    intro ad' cp' w2 hs
    refine Zrun ?_
    exact retM_ret [_] h _ ⟨rfl, trivial⟩ (GLe.refl _) hs ⟨rfl, ad', cp', by rw [Nat.zero_add]; rfl, by simp⟩

end Go.Proofs.YtmojpbfkpggjhaaGreat

/-
  Contracts of functions of package shape and of its reference, fifth part. No statement is proved here.
-/
namespace Go.Proofs.YtmojpbfkpggjhaaGreat
open Go Go.RowKit
set_option linter.unusedVariables false
set_option linter.unusedSimpArgs false
set_option maxHeartbeats 4000000
attribute [local irreducible] CW RW QW SW HW ConM retM heldQ calmQ elemP thenQ blockQ loopQ joinQ retQ Yields Con Sl

theorem split_con (s : Value) (l : List Int) (axis : Int) (w : World) (h : GHeap) (hl : IntsAt h s l) (hm : l.length ≤ 9223372036854775807) : Con Tryz.prog 80 [s, .int .i64 axis] w h
    (fun _ v => v = .tuple #[.int .i64 (splitSpec l axis).1, .int .i64 (splitSpec l axis).2.1, .int .i64 (splitSpec l axis).2.2.1, .bool (splitSpec l axis).2.2.2]) := by
  have hl' := hl
  obtain ⟨ad, cp, rfl, hS⟩ := hl
  have bad : ¬ splitOk l axis → splitSpec l axis = (0, 0, 0, false) := fun hn => by unfold splitSpec; rw [if_neg hn]
  refine Con.of_body Tryz.func80 rfl Tryz.ntmps80 rfl rfl ?_
  intro hs
  refine Zrun ?_
  (refine RW.call T hs rfl rfl rfl (good_con _ l _ _ hl' hm) ?_; intro v h1 w1 hle1 hp1 hs)
  subst hp1
  have hS := hS.mono hle1
  refine Zrun ?_
  refine RW.gd rfl rfl (fun hg => ?_) (fun hg => ?_)
  · have hb := bad (fun e => hg ((goodS_iff l).1 e.1))
    refine Zrun ?_
    exact retQ_ret [_, _, _, _] h1 ⟨rfl, rfl, rfl, rfl, trivial⟩ hs (by rw [hb]; rfl)
  have hg := Decidable.of_not_not hg
  refine Zrun ?_
  refine RW.gd rfl rfl (fun h2 => ?_) (fun h2 => ?_)
  · have hb := bad (fun e => by have := e.2.1; omega)
    refine Zrun ?_
    exact retQ_ret [_, _, _, _] h1 ⟨rfl, rfl, rfl, rfl, trivial⟩ hs (by rw [hb]; rfl)
  refine Zrun ?_
  refine CW.condD rfl (fun h3 => ?_) (fun h3 => ?_)
  · have hb := bad (fun e => by have := e.2.2.1; omega)
    refine Zrun ?_
    exact retQ_ret [_, _, _, _] h1 ⟨rfl, rfl, rfl, rfl, trivial⟩ hs (by rw [hb]; rfl)
  obtain ⟨q, rfl⟩ := Int.eq_ofNat_of_zero_le (show 0 ≤ axis by omega)
  have hq : q < l.length := by omega
  have hcaps := hS.caps
  refine Zrun ?_
  refine RW.val (Y.sliceHi T rfl rfl rfl rfl ?_) rfl ?_
  · omega
  have hlt : (l.take q).length = q := by simp; omega
  have hT1 : IntsAt h1 (.slice ad q cp) (l.take q) := by
    have := hS.take q (by omega)
    rw [Nat.mul_one, ← List.map_take] at this
    exact IntsAt.of_sl this
  (refine RW.call T hs rfl rfl rfl (product_con _ (l.take q) 1048576 _ _ hT1 (by omega)) ?_; intro v h2 w2 hle2 hp2 hs)
  subst hp2
  have hS := hS.mono hle2
  refine Zrun ?_
  refine RW.val (Y.sliceLo T rfl rfl rfl rfl ?_ ?_) rfl ?_
  · omega
  · omega
  have hT2 : IntsAt h2 (.slice (subAd ad (q + 1) cp 1) (l.length - (q + 1)) (cp - (q + 1))) (l.drop (q + 1)) := by
    have := hS.from (q + 1) (by omega)
    rw [Nat.mul_one, ← List.map_drop] at this
    exact IntsAt.of_sl this
  (refine RW.call T hs rfl rfl rfl (product_con _ (l.drop (q + 1)) 1048576 _ _ hT2 (by simp; omega)) ?_; intro v h4 w4 hle4 hp4 hs)
  subst hp4
  have hS := hS.mono hle4
  refine Zrun ?_
  have hsp : splitSpec l (q : Int) = if (product (l.take q) 1048576).2 = 0 ∧ (product (l.drop (q + 1)) 1048576).2 = 0 then ((product (l.take q) 1048576).1, l.getD q 0, (product (l.drop (q + 1)) 1048576).1, true) else (0, 0, 0, false) := by
    unfold splitSpec splitOk
    simp only [Int.toNat_natCast]
    have e1 : goodS l = true := (goodS_iff l).2 hg
    have e2 : (0 : Int) ≤ (q : Int) := by omega
    have e3 : (q : Int) < (l.length : Int) := by omega
    simp only [e1, e2, e3, true_and]
  refine RW.gd rfl rfl (fun h5 => ?_) (fun h5 => ?_)
  · refine Zrun ?_
    exact retQ_ret [_, _, _, _] h4 ⟨rfl, rfl, rfl, rfl, trivial⟩ hs (by rw [hsp, if_neg (fun e => h5 e.1)]; rfl)
  have h5 := Decidable.of_not_not h5
  refine Zrun ?_
  refine CW.condD rfl (fun h6 => ?_) (fun h6 => ?_)
  · refine Zrun ?_
    exact retQ_ret [_, _, _, _] h4 ⟨rfl, rfl, rfl, rfl, trivial⟩ hs (by rw [hsp, if_neg (fun e => h6 e.2)]; rfl)
  have h6 := Decidable.of_not_not h6
  refine Zrun ?_
  refine CW.regionQ T hs (Zqrun ?_) (by kernel_rfl)
  intro w hs
  refine Zrun ?_
  exact retQ_ret [_, _, _, _] h4 ⟨rfl, rfl, rfl, rfl, trivial⟩ hs (by rw [hsp, if_pos ⟨h5, h6⟩]; rfl)

theorem with_con (s : Value) (l : List Int) (axis n : Int) (w : World) (h : GHeap) (hl : IntsAt h s l) (hm : l.length ≤ 17592186044416) : Con Tryz.prog 144 [s, .int .i64 axis, .int .i64 n] w h
    (fun h' v => ∃ u, v = .tuple #[u, .bool (withSpec l axis n).2] ∧ IntsAt h' u (withSpec l axis n).1) := by
  have hl' := hl
  obtain ⟨ad, cp, rfl, hS⟩ := hl
  have bad : ¬ (0 ≤ axis ∧ axis < l.length ∧ goodS (l.set axis.toNat n) = true) → withSpec l axis n = ([], false) := fun hn => by unfold withSpec; rw [if_neg hn]
  refine Con.of_body Tryz.func144 rfl Tryz.ntmps144 rfl rfl ?_
  intro hs
  refine Zrun ?_
  refine RW.gd rfl rfl (fun h2 => ?_) (fun h2 => ?_)
  · have hb := bad (fun e => by have := e.1; omega)
    refine Zrun ?_
    exact retQ_ret [_, _] h ⟨rfl, rfl, trivial⟩ hs (by rw [hb]; exact ⟨_, rfl, IntsAt.nil _⟩)
  refine Zrun ?_
  refine CW.condD rfl (fun h3 => ?_) (fun h3 => ?_)
  · have hb := bad (fun e => by have := e.2.1; omega)
    refine Zrun ?_
    exact retQ_ret [_, _] h ⟨rfl, rfl, trivial⟩ hs (by rw [hb]; exact ⟨_, rfl, IntsAt.nil _⟩)
  obtain ⟨q, rfl⟩ := Int.eq_ofNat_of_zero_le (show 0 ≤ axis by omega)
  have hq : q < l.length := by omega
  refine Zrun ?_
  (refine RW.callM T hs rfl rfl rfl (cloneInt_conM ad cp l _ _ _ _ _ hS hm) ?_; intro v h1 O1 w1 hle1 hp1 hs)
  obtain ⟨rfl, ad', cp', rfl, rfl⟩ := hp1
  refine Zrun ?_
  refine RW.val (Y.idxRN T hs 0 rfl rfl rfl rfl rfl rfl ?_) rfl ?_
  · omega
  refine RW.st1 T hs 0 rfl rfl rfl rfl rfl rfl rfl (by omega) ?_
  intro w2 hs
  obtain ⟨h3, hle3, hs, hS3⟩ := hs.freeze
  simp only [map_set_int] at hS3
  have hI3 : IntsAt h3 (.slice ad' l.length cp') (l.set q n) := IntsAt.of_sl hS3
  refine Zrun ?_
  (refine RW.call T hs rfl rfl rfl (good_con _ _ _ _ hI3 (by simp; omega)) ?_; intro v h4 w4 hle4 hp4 hs)
  subst hp4
  refine Zrun ?_
  refine CW.condD rfl (fun h5 => ?_) (fun h5 => ?_)
  · have hb := bad (fun e => h5 ((goodS_iff _).1 e.2.2))
    refine Zrun ?_
    exact retQ_ret [_, _] h4 ⟨rfl, rfl, trivial⟩ hs (by rw [hb]; exact ⟨_, rfl, IntsAt.nil _⟩)
  · have h5 := Decidable.of_not_not h5
    refine Zrun ?_
    refine retQ_ret [_, _] h4 ⟨rfl, rfl, trivial⟩ hs ?_
    have hw : withSpec l (q : Int) n = (l.set q n, true) := by
      unfold withSpec
      rw [if_pos ⟨by omega, by omega, (goodS_iff _).2 h5⟩]
      simp
    rw [hw]
    exact ⟨_, rfl, hI3.mono hle4⟩
end Go.Proofs.YtmojpbfkpggjhaaGreat

/-
  Contracts of functions of package shape and of its reference, sixth part. No statement is proved here.
-/
namespace Go.Proofs.YtmojpbfkpggjhaaGreat
open Go Go.RowKit
set_option linter.unusedVariables false
set_option linter.unusedSimpArgs false
set_option maxHeartbeats 4000000
attribute [local irreducible] CW RW QW SW HW ConM retM heldQ calmQ elemP thenQ blockQ loopQ joinQ retQ Yields Con Sl

end Go.Proofs.YtmojpbfkpggjhaaGreat

/-
  Contracts of package join: an axis, axes that an array lacks, rows behind each other. No statement is proved here.
-/
namespace Go.Proofs.YtmojpbfkpggjhaaGreat
open Go Go.RowKit
set_option linter.unusedVariables false
set_option linter.unusedSimpArgs false
set_option maxHeartbeats 4000000
attribute [local irreducible] CW RW QW SW HW ConM retM heldQ calmQ elemP thenQ blockQ loopQ joinQ retQ Yields Con Sl zF magR unitF truncF fwF wholeF tidySpec elemQ rankF leastN tidyW
set_option maxHeartbeats 4000000

end Go.Proofs.YtmojpbfkpggjhaaGreat

/-
  The program logic, nineteenth part: frozen rows of whole structs, products of words, functions that the model stands in for. No statement is proved here.
-/
namespace Go.Proofs.YtmojpbfkpggjhaaGreat
open Go Go.RowKit
set_option linter.unusedVariables false
set_option linter.unusedSimpArgs false
set_option linter.unusedVariables false
section
variable {P : Program} (T : Tab P) {n : Nat} {Q : Post} {L : Env} {w0 w : World} {h0 h : GHeap} {O : List Row} {ops rest : List Oper} {x y : Operand} {t : TypeId}
variable {d : Option Tmp} {ty yt : TypeId} {pos : String} {aft : Array Edge}
/-- a cell of a frozen row -/
theorem Sl.cellAt (hs : Sees w0 h0 h O w) {b sz m cp o : Nat} {xs : List Value} {v : Value} (hS : Sl h sz (some ⟨b, 0, none⟩) m cp xs) (ho : o < m * sz) (hv : xs[o]? = some v) : w.cell? ⟨b, o, none⟩ = some v := by
  obtain ⟨cs, h1, h2⟩ := (hS.2.2.2.2 _ rfl).2 o ho
  refine hs.cell h1 ?_
  rw [Nat.zero_add] at h2
  rw [h2, hv]
/-- a whole number, as a word -/
def wrN (z : Int) : Nat := (z % 18446744073709551616).toNat
def wr32 (z : Int) : Nat := (z % 4294967296).toNat
end
/-! ## Regions that draw their order and change memory: two of the call's own rows fixed, and what lies frozen -/
section
variable {P : Program} {n : Nat} {Q : Post} {L : Env} {w0 w : World} {h0 h hb : GHeap} {O : List Row} {ops rest : List Oper} {ra rb : Row}
variable {d : Option Tmp} {ty : TypeId} {pos : String} {aft : Array Edge} {fuel : Nat} {listed : Array Bool}
def SG (w0 : World) (h0 hb : GHeap) (ra rb : Row) (w : World) : Prop := ∃ (h' : GHeap) (O : List Row) (k j : Nat), GLe hb h' ∧ Sees w0 h0 h' O w ∧ O[k]? = some ra ∧ O[j]? = some rb
theorem CW.regionG (T' : Tab P) (k j : Nat) (hs : Sees w0 h0 h O w) (ha : O[k]? = some ra) (hb' : O[j]? = some rb) {id : Nat} {l : List Oper} (K : ∀ w', Sees w0 h0 h O w' → HW P n l (calmQ Q) (SG w0 h0 h ra rb) l.length (Array.replicate l.length false) L w') : CW P n Q (.region id l.toArray true) L w :=
  CW.regionH T' (SG w0 h0 h ra rb) (fun w' e => by subst e; exact K _ hs.drew)
theorem HW.takeG (i : Nat) {op : Op} {v : Value} (hi : ops.toArray[i]? = some ⟨d, op, ty, pos, aft, none⟩) (hy : ∀ (h' : GHeap) (O : List Row) (ka kb : Nat) (w' : World), GLe hb h' → Sees w0 h0 h' O w' → O[ka]? = some ra → O[kb]? = some rb → Yields P n L w' op ty v) (hS : SG w0 h0 hb ra rb w) (hd : dstOk n d = true)
    (hs : Region.noSelect ops.toArray = true) (hf : Region.free .any ops.toArray listed i = true) (hr : (Region.ready .any ops.toArray listed).contains i = true)
    (hh : HW P n ops (calmQ Q) (SG w0 h0 hb ra rb) fuel (listed.setIfInBounds i true) (updo d v L) w) : HW P n ops (calmQ Q) (SG w0 h0 hb ra rb) (fuel + 1) listed L w :=
  HW.take i hi (fun w' ⟨h', O, k, j, g, s, a, b⟩ => hy h' O k j w' g s a b) hS hd hs hf hr hh
end
end Go.Proofs.YtmojpbfkpggjhaaGreat

/-
  The program logic, further parts: elements of a reslice of an own row, copies into an own row, slices of truths that came in. No statement is proved here.
-/
namespace Go.Proofs.YtmojpbfkpggjhaaGreat
open Go Go.RowKit
set_option linter.unusedVariables false
set_option linter.unusedSimpArgs false

section
open Go.ChangeShapes Go.WideShapes Go.ChangeAt
variable {H : Type} {enc : TypeId × Value → H} {P : Program} {w : World} {base : Nat} {spare : Nat → Bool} {held : Bool} {fuel n : Nat} {t e : TypeId} {cs : List Value} {x : DataW H × List MemPlace}
theorem open_bools (ht : P.underlying t = some (.slice e)) (he : P.underlying e = some .bool) (hc : P.cellsOf e = 1) (h : DataW.trod enc P w base spare held fuel t cs = some x) :
    ∃ v l, cs = [v] ∧ TAt (ghost w) v l ∧ l.length ≤ 9223372036854775807 := by
  obtain ⟨v, l, h1, h2, h3⟩ := open_rows (R := fun cs (a : Bool) => cs = [.bool a]) ht hc (by omega) (fun n _ cs x h => by
    obtain ⟨b, hb, _⟩ := DataW.trod_bool he h
    exact ⟨b, hb⟩) h
  exact ⟨v, l, h1, RowsAt.row h2, h3⟩
end
section
variable {P : Program} (T : Tab P) {n : Nat} {Q : Post} {L : Env} {w0 w : World} {h0 h : GHeap} {O : List Row} {ops rest : List Oper} {x y : Operand} {t t2 : TypeId}
variable {d : Option Tmp} {ty : TypeId} {pos : String} {aft : Array Edge}
theorem Sl.cap0 {ad : Option Addr} {m cp sz : Nat} {xs : List Value} (hS : Sl h sz ad m cp xs) : ad = none → cp = 0 := hS.2.2.2.1
/-- cells of a part of an own row, as a copy takes them -/
theorem Sees.part (hs : Sees w0 h0 h O w) (k : Nat) {b o m cp : Nat} {e : TypeId} {xs news : List Value} (hO : O[k]? = some ⟨some ⟨b, 0, none⟩, m, cp, e, 1, xs⟩) (hn : ∀ j v, news[j]? = some v → xs[o + j]? = some v) : ∀ j v, news[j]? = some v → w.cell? ((⟨b, o, none⟩ : Addr).add j) = some v := by
  intro j v hj
  rw [Addr.add_lit]
  exact hs.rowCell hO (hn j v hj)
end
end Go.Proofs.YtmojpbfkpggjhaaGreat

/-
  Contract of join.Catenate. No statement is proved here.
-/
namespace Go.Proofs.YtmojpbfkpggjhaaGreat
open Go Go.RowKit
set_option linter.unusedVariables false
set_option linter.unusedSimpArgs false
set_option maxHeartbeats 4000000
attribute [local irreducible] CW RW QW SW HW ConM retM heldQ calmQ elemP thenQ blockQ loopQ joinQ retQ Yields Con Sl zF magR unitF truncF fwF wholeF tidySpec elemQ rankF leastN tidyW
set_option maxHeartbeats 4000000

end Go.Proofs.YtmojpbfkpggjhaaGreat

/-
  Contracts of the law's own functions of layer 22: good plain arrays, arrays shown, the example. No statement is proved here.
-/
namespace Go.Proofs.YtmojpbfkpggjhaaGreat
open Go Go.RowKit
set_option linter.unusedVariables false
set_option linter.unusedSimpArgs false
set_option maxHeartbeats 4000000
attribute [local irreducible] CW RW QW SW HW ConM retM heldQ calmQ elemP thenQ blockQ loopQ joinQ retQ Yields Con Sl zF magR unitF truncF fwF wholeF tidySpec elemQ rankF leastN tidyW
set_option maxHeartbeats 4000000
set_option maxRecDepth 4000

/-! ## The example -/
abbrev wj_1 : Nat := 4607182418800017408
theorem fwj_1 : fwF 1 = wj_1 := by unfold fwF; decide
theorem twj_1 : tidyF wj_1 := by rw [← fwj_1]; exact (fwF_spec 1 (by omega)).1
abbrev wj_2 : Nat := 4611686018427387904
theorem fwj_2 : fwF 2 = wj_2 := by unfold fwF; decide
theorem twj_2 : tidyF wj_2 := by rw [← fwj_2]; exact (fwF_spec 2 (by omega)).1
abbrev wj_3 : Nat := 4613937818241073152
theorem fwj_3 : fwF 3 = wj_3 := by unfold fwF; decide
theorem twj_3 : tidyF wj_3 := by rw [← fwj_3]; exact (fwF_spec 3 (by omega)).1
theorem tidyWj {x : Nat} (h : tidyF x) : tidyW x = x := by unfold tidyW; rw [tidySpec_of _ h]
end Go.Proofs.YtmojpbfkpggjhaaGreat

/-
  Plain laws of places that are taken and dropped along an axis. No statement is proved here.
-/
namespace Go.Proofs.YtmojpbfkpggjhaaGreat
open Go Go.RowKit
set_option linter.unusedVariables false
set_option linter.unusedSimpArgs false

/-- the places taken, as the program tells them: below 0 where there is none ahead, -1 where there is none behind -/
def takenI (n : Nat) (many : Int) (i : Nat) : Int := if many < 0 then (n : Int) + many + i else if (i : Int) < n then i else -1
def takenL (n : Nat) (many : Int) : List Int := (List.range many.natAbs).map (takenI n many)
theorem taken_len (n : Nat) (many : Int) : (takenL n many).length = many.natAbs := by simp [takenL]
end Go.Proofs.YtmojpbfkpggjhaaGreat

/-
  Plain laws of the places of bits that are true. No statement is proved here.
-/
namespace Go.Proofs.YtmojpbfkpggjhaaGreat
open Go Go.RowKit
set_option linter.unusedVariables false
set_option linter.unusedSimpArgs false

end Go.Proofs.YtmojpbfkpggjhaaGreat

/-
  Contracts of package math/bits and of bitvec's places that are true: the table of one variable is read. No statement is proved here.
-/
namespace Go.Proofs.YtmojpbfkpggjhaaGreat
open Go Go.RowKit
set_option linter.unusedVariables false
set_option linter.unusedSimpArgs false
set_option maxHeartbeats 4000000
attribute [local irreducible] CW RW QW SW HW ConM retM heldQ calmQ elemP thenQ blockQ loopQ joinQ retQ Yields Con Sl elemQ
set_option maxHeartbeats 2000000

section
variable {P : Program} {T : Tab P} {n : Nat} {L : Env} {w : World} {ty : TypeId} {x y : Operand} {t : TypeId}
end
end Go.Proofs.YtmojpbfkpggjhaaGreat

/-
  Contracts of package pick: places taken, dropped, and taken so often as counts say. No statement is proved here.
-/
namespace Go.Proofs.YtmojpbfkpggjhaaGreat
open Go Go.RowKit
set_option linter.unusedVariables false
set_option linter.unusedSimpArgs false
set_option maxHeartbeats 4000000
attribute [local irreducible] CW RW QW SW HW ConM retM heldQ calmQ elemP thenQ blockQ loopQ joinQ retQ Yields Con Sl zF magR unitF truncF fwF wholeF tidySpec elemQ rankF leastN tidyW
set_option maxHeartbeats 4000000

theorem taken_conM (n : Nat) (many most : Int) (w0 w : World) (h0 h : GHeap) (O : List Row) (hn : n ≤ 1048576) (hmany : -9223372036854775808 ≤ many ∧ many < 9223372036854775808) (hmost : 0 ≤ most ∧ most ≤ 1048576) : ConM Tryz.prog 100 [.int .i64 (n : Int), .int .i64 many, .int .i64 most] w0 h0 h O w
    (fun h' O' v => h = h' ∧ if (many.natAbs : Int) ≤ most then ∃ b, v = .tuple #[.slice (some ⟨b, 0, none⟩) many.natAbs many.natAbs, .bool true] ∧ O' = ⟨some ⟨b, 0, none⟩, many.natAbs, many.natAbs, 3, 1, (takenL n many).map (Value.int .i64)⟩ :: O else v = .tuple #[.slice none 0 0, .bool false] ∧ O' = O) := by
  refine ConM.of_body Tryz.func100 rfl Tryz.ntmps100 rfl rfl ?_
  intro hs
  refine Zrun ?_
  by_cases c0 : many = -9223372036854775808
  · subst c0
    refine RW.val (Y.neg' rfl) rfl ?_
    refine RW.respell (t := 13) (v := .int .i64 (-9223372036854775808)) rfl (by
      have : IntKind.i64.wrap (0 - (-9223372036854775808)) = -9223372036854775808 := by decide
      rw [this]) ?_
    refine Zerun ?_
    exact retM_ret [_, _] h O ⟨rfl, rfl, trivial⟩ (GLe.refl _) hs ⟨rfl, by rw [if_neg (by omega)]; exact ⟨rfl, rfl⟩⟩
  have hmx : max many (-many) = ((many.natAbs : Nat) : Int) := by omega
  refine RW.val (Y.neg rfl ⟨by omega, by omega⟩) rfl ?_
  by_cases c1 : (many.natAbs : Int) ≤ most
  rotate_left
  · refine Zerun ?_
    exact retM_ret [_, _] h O ⟨rfl, rfl, trivial⟩ (GLe.refl _) hs ⟨rfl, by rw [if_neg c1]; exact ⟨rfl, rfl⟩⟩
  refine Zerun ?_
  rw [hmx]
  (refine RW.make1 T hs rfl rfl rfl rfl rfl rfl rfl (by dsimp only; omega) (by omega) ?_; intro b4 w4 hs)
  refine Zerun ?_
  refine CW.loop (fun i : Nat => [(0, .int .i64 (n : Int)), (1, .int .i64 many), (8, .int .i64 (many.natAbs : Int)), (9, .slice (some ⟨b4, 0, none⟩) many.natAbs many.natAbs), (25, .int .i64 (many.natAbs : Int)), (26, .int .i64 i)]) (fun i w' => i ≤ many.natAbs ∧ Sees w0 h0 h (⟨some ⟨b4, 0, none⟩, many.natAbs, many.natAbs, 3, 1, ((takenL n many).take i).map (Value.int .i64) ++ List.replicate (many.natAbs - i) (.int .i64 0)⟩ :: O) w') (fun i => many.natAbs - i) 0 ⟨rfl, rfl, rfl, rfl, rfl, rfl, trivial⟩ ⟨by omega, hs.re (by simp)⟩ ?_
  rintro i w5 ⟨hi, hs⟩
  have hA : (((takenL n many).take i).map (Value.int .i64)).length = i := by rw [List.length_map, List.length_take, taken_len]; omega
  by_cases hlt : i < many.natAbs
  · have htk : (takenL n many).take (i + 1) = (takenL n many).take i ++ [takenI n many i] := by
      rw [take_succ_getD _ _ 0 (by rw [taken_len]; exact hlt)]
      unfold takenL
      rw [getD_map' _ _ _ _ (by rw [List.length_range]; exact hlt), List.getElem_range]
    refine Zerun ?_
    refine RW.val (Y.idxRN T hs 0 rfl rfl rfl rfl rfl rfl (by omega)) rfl ?_
    refine RW.st1 T hs 0 rfl rfl rfl rfl rfl rfl rfl (by omega) ?_
    intro w6 hs
    have hs := hs.re (fillA' hA hlt _ _)
    by_cases c2 : many < 0
    · have hI : takenI n many i = (n : Int) - many.natAbs + i := by unfold takenI; rw [if_pos c2]; omega
      refine Zerun ?_
      refine RW.val (Y.idxRN T hs 0 rfl rfl rfl rfl rfl rfl (by omega)) rfl ?_
      refine RW.st1 T hs 0 rfl rfl rfl rfl rfl rfl rfl (by omega) ?_
      intro w7 hs
      have hs := hs.re (setA' hA _ _)
      have hv : ∀ z : Int, ((((takenL n many).take i).map (Value.int .i64) ++ [.int .i64 z]) ++ List.replicate (many.natAbs - (i + 1)) (.int .i64 0))[i]? = some (.int .i64 z) := by
        intro z
        rw [List.append_assoc, List.getElem?_append_right (by omega), hA, Nat.sub_self]
        rfl
      refine Zerun ?_
      refine RW.val (Y.idxRN T hs 0 rfl rfl rfl rfl rfl rfl (by omega)) rfl ?_
      refine RW.val (Y.ldR T hs 0 rfl rfl rfl rfl (by omega) (hv _)) rfl ?_
      refine Zerun ?_
      exact loopQ_round (i + 1) ⟨rfl, rfl, rfl, rfl, rfl, rfl, trivial⟩ ⟨by omega, hs.re (by rw [htk, hI, List.map_append]; rfl)⟩ (by omega)
    · have hv : ∀ z : Int, ((((takenL n many).take i).map (Value.int .i64) ++ [.int .i64 z]) ++ List.replicate (many.natAbs - (i + 1)) (.int .i64 0))[i]? = some (.int .i64 z) := by
        intro z
        rw [List.append_assoc, List.getElem?_append_right (by omega), hA, Nat.sub_self]
        rfl
      refine Zerun ?_
      refine RW.val (Y.idxRN T hs 0 rfl rfl rfl rfl rfl rfl (by omega)) rfl ?_
      refine RW.val (Y.ldR T hs 0 rfl rfl rfl rfl (by omega) (hv _)) rfl ?_
      by_cases c3 : (i : Int) < n
      · have hI : takenI n many i = (i : Int) := by unfold takenI; rw [if_neg c2, if_pos c3]
        refine Zerun ?_
        exact loopQ_round (i + 1) ⟨rfl, rfl, rfl, rfl, rfl, rfl, trivial⟩ ⟨by omega, hs.re (by rw [htk, hI, List.map_append]; rfl)⟩ (by omega)
      · have hI : takenI n many i = -1 := by unfold takenI; rw [if_neg c2, if_neg c3]
        refine Zerun ?_
        refine RW.val (Y.idxRN T hs 0 rfl rfl rfl rfl rfl rfl (by omega)) rfl ?_
        refine RW.st1 T hs 0 rfl rfl rfl rfl rfl rfl rfl (by omega) ?_
        intro w7 hs
        have hs := hs.re (setA' hA _ _)
        refine Zerun ?_
        exact loopQ_round (i + 1) ⟨rfl, rfl, rfl, rfl, rfl, rfl, trivial⟩ ⟨by omega, hs.re (by rw [htk, hI, List.map_append]; rfl)⟩ (by omega)
  obtain rfl : i = many.natAbs := by omega
  refine Zerun ?_
  refine retM_ret [_, _] h _ ⟨rfl, rfl, trivial⟩ (GLe.refl _) hs ⟨rfl, ?_⟩
  rw [if_pos c1]
  refine ⟨b4, rfl, ?_⟩
  rw [List.take_of_length_le (by rw [taken_len]; exact Nat.le_refl _), Nat.sub_self, List.replicate_zero, List.append_nil]
end Go.Proofs.YtmojpbfkpggjhaaGreat

/-
  Contracts of the document's answer of layer 15: places turned, taken and dropped. No statement is proved here.
-/
namespace Go.Proofs.YtmojpbfkpggjhaaGreat
open Go Go.RowKit
set_option linter.unusedVariables false
set_option linter.unusedSimpArgs false
set_option maxHeartbeats 4000000
attribute [local irreducible] CW RW QW SW HW ConM retM heldQ calmQ elemP thenQ blockQ loopQ joinQ retQ Yields Con Sl zF magR unitF truncF fwF wholeF tidySpec elemQ rankF leastN tidyW
set_option maxHeartbeats 4000000

theorem freezeI {w0 w : World} {h0 h : GHeap} {ad : Option Addr} {m cp : Nat} {l : List Int} {O : List Row} (hs : Sees w0 h0 h (⟨ad, m, cp, 3, 1, l.map (Value.int .i64)⟩ :: O) w) (hl : l.length = m) : ∃ h', GLe h h' ∧ Sees w0 h0 h' O w ∧ IntsAt h' (.slice ad m cp) l := by
  obtain ⟨h', hle, hs', hS⟩ := hs.freeze
  refine ⟨h', hle, hs', ?_⟩
  dsimp only at hS
  subst hl
  exact IntsAt.of_sl hS
end Go.Proofs.YtmojpbfkpggjhaaGreat

/-
  Contracts of functions of package value: whether arrays, and elements, are alike. No statement is proved here.
-/
namespace Go.Proofs.YtmojpbfkpggjhaaGreat
open Go Go.RowKit
set_option linter.unusedVariables false
set_option linter.unusedSimpArgs false
set_option maxHeartbeats 4000000
attribute [local irreducible] CW RW QW SW HW ConM retM heldQ calmQ elemP thenQ blockQ loopQ joinQ retQ Yields Con Sl zF magR unitF truncF fwF wholeF tidySpec elemQ rankF leastN tidyW

section
variable {α β : Type} {R : GHeap → List Value → α → Prop}
end
end Go.Proofs.YtmojpbfkpggjhaaGreat

/-
  Contracts of functions of package hash: the keys of elements and of whole arrays. No statement is proved here.
-/
namespace Go.Proofs.YtmojpbfkpggjhaaGreat
open Go Go.RowKit
set_option linter.unusedVariables false
set_option linter.unusedSimpArgs false
set_option maxHeartbeats 4000000
attribute [local irreducible] CW RW QW SW HW ConM retM heldQ calmQ elemP thenQ blockQ loopQ joinQ retQ Yields Con Sl zF magR unitF truncF fwF wholeF tidySpec elemQ rankF leastN tidyW
set_option maxHeartbeats 1000000

def mixN (a b : Nat) : Nat := ((a ^^^ b) * 11400714819323198485 % 18446744073709551616) ^^^ (((a ^^^ b) * 11400714819323198485 % 18446744073709551616) >>> 29)
/-- the key of an item, of a plain array -/
def keyIt {β : Type} (G : β → Nat) (x : ItemD β) : Nat := if x.kind = 1 then mixN 1 (wr32 x.char) else if x.kind = 2 then (x.box.map G).headD 0 else mixN 2 x.num
def keyPl {β : Type} (G : β → Nat) (p : PlainD β) : Nat := p.items.foldl (fun k x => mixN k (keyIt G x)) (p.shape.foldl (fun k d => mixN k (wrN d)) (mixN 3 (wrN p.fill)))
def keyP : (k : Nat) → PD k → Nat
  | 0 => fun _ => 0
  | k + 1 => fun p => keyPl (β := PD k) (keyP k) p
attribute [local irreducible] mixN wrN wr32 keyIt

section
variable {α β : Type} {R : GHeap → List Value → α → Prop}
end
end Go.Proofs.YtmojpbfkpggjhaaGreat

/-
  Plain Lean on hash tables: where an element is first in a list, and slots that are looked through in turn. No statement is proved here.
-/
namespace Go.Proofs.YtmojpbfkpggjhaaGreat
open Go Go.RowKit
set_option linter.unusedVariables false
set_option linter.unusedSimpArgs false

section
variable {γ : Type}
/-- slots: below 0 they are free, the others hold numbers of elements; those of S are in it, each once -/
structure TabOk (key : γ → Nat) (el : Nat → γ) (S : Nat → Prop) (c : Nat) (sl : List Int) : Prop where
  rng : ∀ p, p < sl.length → sl.getD p 0 = -1 ∨ ∃ i : Nat, S i ∧ sl.getD p 0 = (i : Int)
  at_ : ∀ i, S i → ∃ d, sl.getD ((key (el i) + d) % sl.length) 0 = (i : Int) ∧ ∀ e, e < d → 0 ≤ sl.getD ((key (el i) + e) % sl.length) 0
  one : ∀ i j, S i → S j → el i = el j → i = j
  cnt : sl.countP (fun z => decide (0 ≤ z)) ≤ c
/-- so many slots were looked at, and none has the element -/
def Probed (key : γ → Nat) (el : Nat → γ) (sl : List Int) (x : γ) (d : Nat) : Prop := ∀ e, e < d → ∃ i : Nat, sl.getD ((key x + e) % sl.length) 0 = (i : Int) ∧ el i ≠ x
variable {key : γ → Nat} {el : Nat → γ} {S : Nat → Prop} {c : Nat} {sl : List Int} {x : γ} {d : Nat}
theorem TabOk.miss (ok : TabOk key el S c sl) (hp : Probed key el sl x d) (hs : sl.getD ((key x + d) % sl.length) 0 < 0) : ∀ j, S j → el j ≠ x := by
  intro j hj e
  obtain ⟨dj, h1, h2⟩ := ok.at_ j hj
  rw [e] at h1 h2
  rcases Nat.lt_trichotomy d dj with h | h | h
  · have := h2 d h; omega
  · rw [h] at hs; omega
  · obtain ⟨i, h3, h4⟩ := hp dj h
    rw [h1] at h3
    have : j = i := by omega
    exact h4 (this ▸ e)
theorem countP_set_neg : ∀ (l : List Int) (p : Nat) (v : Int), p < l.length → l.getD p 0 < 0 → 0 ≤ v → (l.set p v).countP (fun z => decide (0 ≤ z)) = l.countP (fun z => decide (0 ≤ z)) + 1
  | [], _, _, h, _, _ => absurd h (Nat.not_lt_zero _)
  | a :: l, 0, v, _, hn, hv => by
    have hn : a < 0 := by simpa using hn
    simp only [List.set_cons_zero, List.countP_cons]
    rw [decide_eq_true hv, decide_eq_false (show ¬ 0 ≤ a by omega)]
    simp
  | a :: l, p + 1, v, h, hn, hv => by
    have := countP_set_neg l p v (by simpa using h) (by simpa using hn) hv
    simp only [List.set_cons_succ, List.countP_cons, this]
    omega
theorem getD_setI (l : List Int) (k j : Nat) (v d : Int) (h : k < l.length) : (l.set k v).getD j d = if j = k then v else l.getD j d := by
  simp only [List.getD_eq_getElem?_getD, List.getElem?_set]
  by_cases e : k = j
  · subst e; simp [h]
  · simp [e, Ne.symm e]
theorem TabOk.put (ok : TabOk key el S c sl) {k : Nat} (hp : Probed key el sl (el k) d) (hs : sl.getD ((key (el k) + d) % sl.length) 0 < 0) (hl : 0 < sl.length) :
    TabOk key el (fun i => S i ∨ i = k) (c + 1) (sl.set ((key (el k) + d) % sl.length) (k : Int)) := by
  have hpl := Nat.mod_lt (key (el k) + d) hl
  have hmiss := ok.miss hp hs
  refine ⟨?_, ?_, ?_, ?_⟩
  · intro p hpp
    rw [List.length_set] at hpp
    rw [getD_setI _ _ _ _ _ hpl]
    split
    · exact .inr ⟨k, .inr rfl, rfl⟩
    · rcases ok.rng p hpp with h | ⟨i, h1, h2⟩
      · exact .inl h
      · exact .inr ⟨i, .inl h1, h2⟩
  · intro i hi
    simp only [List.length_set]
    by_cases hik : i = k
    · subst hik
      refine ⟨d, ?_, ?_⟩
      · rw [getD_setI _ _ _ _ _ hpl, if_pos rfl]
      · intro e he
        rw [getD_setI _ _ _ _ _ hpl]
        split
        · omega
        · obtain ⟨i, h1, _⟩ := hp e he; omega
    · have hi' : S i := hi.resolve_right hik
      obtain ⟨di, h1, h2⟩ := ok.at_ i hi'
      refine ⟨di, ?_, ?_⟩
      · rw [getD_setI _ _ _ _ _ hpl, if_neg]
        · exact h1
        · intro e; rw [e] at h1; omega
      · intro e he
        rw [getD_setI _ _ _ _ _ hpl]
        split
        · omega
        · exact h2 e he
  · intro i j hi hj e
    rcases hi with hi | rfl <;> rcases hj with hj | rfl
    · exact ok.one i j hi hj e
    · exact absurd e (hmiss i hi)
    · exact absurd e.symm (hmiss j hj)
    · rfl
  · rw [countP_set_neg _ _ _ hpl hs (by omega)]
    have := ok.cnt
    omega
end
end Go.Proofs.YtmojpbfkpggjhaaGreat

/-
  Contracts of functions of package hash: a new table. No statement is proved here.
-/
namespace Go.Proofs.YtmojpbfkpggjhaaGreat
open Go Go.RowKit
set_option linter.unusedVariables false
set_option linter.unusedSimpArgs false
set_option maxHeartbeats 4000000
attribute [local irreducible] CW RW QW SW HW ConM retM heldQ calmQ elemP thenQ blockQ loopQ joinQ retQ Yields Con Sl zF magR unitF truncF fwF wholeF tidySpec elemQ rankF leastN tidyW
set_option maxHeartbeats 1000000

section
variable {α : Type} {R : GHeap → List Value → α → Prop}
end
end Go.Proofs.YtmojpbfkpggjhaaGreat

/-
  Contracts of methods of hash.Table: the slot of an element. No statement is proved here.
-/
namespace Go.Proofs.YtmojpbfkpggjhaaGreat
open Go Go.RowKit
set_option linter.unusedVariables false
set_option linter.unusedSimpArgs false
set_option maxHeartbeats 4000000
attribute [local irreducible] CW RW QW SW HW ConM retM heldQ calmQ elemP thenQ blockQ loopQ joinQ retQ Yields Con Sl zF magR unitF truncF fwF wholeF tidySpec elemQ rankF leastN tidyW
set_option maxHeartbeats 1000000
attribute [local irreducible] mixN wrN wr32 keyIt keyP

section
variable {P : Program} {n : Nat} {ops rest : List Oper} {C : World → Prop} {K : Env → Prop} {L : Env} {d : Option Tmp} {ty : TypeId} {pos : String} {aft : Array Edge} {g : Option (Nat × Bool)}
end
end Go.Proofs.YtmojpbfkpggjhaaGreat

/-
  Contracts of functions of package hash: whether, and where, an element is in a table; the table of a list. No statement is proved here.
-/
namespace Go.Proofs.YtmojpbfkpggjhaaGreat
open Go Go.RowKit
set_option linter.unusedVariables false
set_option linter.unusedSimpArgs false
set_option maxHeartbeats 4000000
attribute [local irreducible] CW RW QW SW HW ConM retM heldQ calmQ elemP thenQ blockQ loopQ joinQ retQ Yields Con Sl zF magR unitF truncF fwF wholeF tidySpec elemQ rankF leastN tidyW
set_option maxHeartbeats 1000000
attribute [local irreducible] mixN wrN wr32 keyIt keyP

end Go.Proofs.YtmojpbfkpggjhaaGreat

/-
  Plain Lean on lists: places of elements that something holds of, and of the first ones. No statement is proved here.
-/
namespace Go.Proofs.YtmojpbfkpggjhaaGreat
open Go Go.RowKit
set_option linter.unusedVariables false
set_option linter.unusedSimpArgs false

section
variable {γ : Type}
end
end Go.Proofs.YtmojpbfkpggjhaaGreat

/-
  Contracts of functions of package hash: where elements are in a list first, whether they are there. No statement is proved here.
-/
namespace Go.Proofs.YtmojpbfkpggjhaaGreat
open Go Go.RowKit
set_option linter.unusedVariables false
set_option linter.unusedSimpArgs false
set_option maxHeartbeats 4000000
attribute [local irreducible] CW RW QW SW HW ConM retM heldQ calmQ elemP thenQ blockQ loopQ joinQ retQ Yields Con Sl zF magR unitF truncF fwF wholeF tidySpec elemQ rankF leastN tidyW
set_option maxHeartbeats 1000000
attribute [local irreducible] mixN wrN wr32 keyIt keyP

theorem fillA {δ : Type} {A : List δ} {i n : Nat} (hA : A.length = i) (h : i < n) (b z : δ) : (A ++ List.replicate (n - i) b).set i z = (A ++ [z]) ++ List.replicate (n - (i + 1)) b := by
  obtain ⟨r, hr⟩ : ∃ r, n - i = r + 1 := ⟨n - i - 1, by omega⟩
  have e : n - (i + 1) = r := by omega
  rw [hr, e, List.replicate_succ, List.set_append_right _ _ (by omega), ← hA]
  simp
theorem takeMap {δ ε : Type} (F : δ → ε) (M : List δ) {i : Nat} (h : i < M.length) (d : δ) : (M.take (i + 1)).map F = (M.take i).map F ++ [F (M.getD i d)] := by
  rw [take_succ_getD M i d h, List.map_append]
  rfl
end Go.Proofs.YtmojpbfkpggjhaaGreat

/-
  Contracts of package reshape: whole numbers of a list, axes, a pick along an axis, Reshape. No statement is proved here.
-/
namespace Go.Proofs.YtmojpbfkpggjhaaGreat
open Go Go.RowKit
set_option linter.unusedVariables false
set_option linter.unusedSimpArgs false
set_option maxHeartbeats 4000000
attribute [local irreducible] CW RW QW SW HW ConM retM heldQ calmQ elemP thenQ blockQ loopQ joinQ retQ Yields Con Sl zF magR unitF truncF fwF wholeF tidySpec elemQ rankF leastN tidyW
set_option maxHeartbeats 4000000

theorem reWholes_con (k : Nat) (ca : List Value) (a : ArrD (AD (k + 1))) (l : List Int) (w : World) (h : GHeap) (ha : ArrAt (k + 2) h ca a) (hr : a.shape.length ≤ 1) (hk : a.vec.kind = 1 ∨ a.vec.kind = 2 ∨ a.vec.kind = 3) (hl : a.vec.nums.map (fun x => (wholeF x).1) = l) (hm : a.vec.len ≤ 1048576) : Con Tryz.prog 105 [.agg ca.toArray] w h (fun h' u => ∃ s, u = .tuple #[s, .int .i64 0] ∧ IntsAt h' s l) := by
  have ha' := ha
  obtain ⟨_, vca, rfl, ⟨ada, cpa, rfl, hSa⟩, hva⟩ := ha
  have hva' := hva
  obtain ⟨wa, na, sa, ia, fa, ga, xa, ⟨rfl, hoa⟩, -⟩ := hva
  have ma : ∀ h', GLe h h' → ArrAt (k + 2) h' (.slice ada a.shape.length cpa :: vecCells a.vec.kind wa na sa ia fa ga xa) a := fun h' hl => ArrAt.mono (k + 2) _ _ _ _ hl ha'
  have hcapa := hSa.caps
  have hll : l.length ≤ 1048576 := by have := hva'.shorts.1; rw [← hl, List.length_map]; omega
  have hr' : ¬ (1 : Int) < (a.shape.length : Int) := by omega
  refine Con.of_body Tryz.func105 rfl Tryz.ntmps105 rfl rfl ?_
  intro hs
  refine Zrun ?_
  (refine RW.boxN hs rfl rfl ?_; intro b1 w1 hs)
  refine Zerun ?_
  (refine RW.call T hs rfl rfl rfl (valueRank_con (R := ArrAt (k + 1)) _ a _ _ (ma _ (GLe.refl _))) ?_; intro v h2 w2 hle2 hp2 hs)
  subst hp2
  refine Zerun ?_
  (refine RW.call T hs rfl rfl rfl (vecWholes_con (ArrAt.mono (k + 1)) _ a.vec _ _ (hva'.mono (ArrAt.mono (k + 1)) hle2) (by omega)) ?_; intro v h3 w3 hle3 hp3 hs)
  obtain ⟨s3, rfl, hK3⟩ := hp3
  rw [if_pos hk, hl] at hK3
  rw [decide_eq_true hk]
  obtain ⟨ad3, cp3, rfl, hS3⟩ := hK3
  refine Zerun ?_
  (refine RW.make1 T hs rfl rfl rfl rfl rfl rfl rfl (by dsimp only; omega) (by omega) ?_; intro b4 w4 hs)
  have hs := hs.re (ys := (l.take 0 ++ List.replicate (l.length - 0) 0).map (Value.int .i64)) (by rw [List.map_append, List.map_replicate]; rfl)
  refine Zerun ?_
  refine CW.loop (fun i : Nat => [(1, .pointer (some ⟨b1, 0, none⟩)), (6, .slice (some ⟨b4, 0, none⟩) l.length l.length), (35, .slice ad3 l.length cp3), (36, .int .i64 l.length), (37, .int .i64 i)]) (fun i w' => i ≤ l.length ∧ Sees w h h3 [⟨some ⟨b4, 0, none⟩, l.length, l.length, 3, 1, (l.take i ++ List.replicate (l.length - i) 0).map (Value.int .i64)⟩, ⟨some ⟨b1, 0, none⟩, 1, 1, 39, 9, .slice ada a.shape.length cpa :: vecCells a.vec.kind wa na sa ia fa ga xa⟩] w') (fun i => l.length - i) 0 ⟨rfl, rfl, rfl, rfl, rfl, trivial⟩ ⟨by omega, hs⟩ ?_
  rintro i w5 ⟨hi, hs⟩
  by_cases hlt : i < l.length
  · have gi := map_get (Value.int .i64) l i 0 hlt
    have hAl : (l.take i).length = i := by rw [List.length_take]; omega
    have htk := take_succ_getD l i 0 hlt
    refine Zerun ?_
    refine RW.val (Y.idxRN T hs 0 rfl rfl rfl rfl rfl rfl hlt) rfl ?_
    refine RW.st1 T hs 0 rfl rfl rfl rfl rfl rfl rfl hlt ?_
    intro w6 hs
    dsimp only [List.set_cons_zero, List.set_cons_succ] at hs
    rw [map_set_int, fillA hAl hlt, ← htk] at hs
    refine Zerun ?_
    exact loopQ_round (i + 1) ⟨rfl, rfl, rfl, rfl, seti (by omega), trivial⟩ ⟨by omega, hs⟩ (by omega)
  obtain rfl : i = l.length := by omega
  rw [List.take_length, Nat.sub_self, List.replicate_zero, List.append_nil] at hs
  obtain ⟨h7, hle7, hs, hS7⟩ := hs.freeze
  have hI7 : IntsAt h7 (.slice (some ⟨b4, 0, none⟩) l.length l.length) l := IntsAt.of_sl hS7
  refine Zerun ?_
  exact retQ_ret [_, _] h7 ⟨rfl, rfl, trivial⟩ hs.dropAll ⟨_, rfl, hI7⟩
theorem reReshape_con (k : Nat) (cc ca : List Value) (c a : ArrD (AD (k + 1))) (l : List Int) (n most : Int) (w : World) (h : GHeap) (hc : ArrAt (k + 2) h cc c) (ha : ArrAt (k + 2) h ca a) (hr : c.shape.length ≤ 1) (hk : c.vec.kind = 1 ∨ c.vec.kind = 2 ∨ c.vec.kind = 3) (hl : c.vec.nums.map (fun x => (wholeF x).1) = l) (hcm : c.vec.len ≤ 1048576) (hp : product l most = (n, 0)) (hn : n ≤ 1048576) (hm : a.vec.len ≤ 1048576) (hk0 : a.vec.kind ≠ 0) :
    Con Tryz.prog 47 [.agg cc.toArray, .agg ca.toArray, .int .i64 most] w h (fun h' u => ∃ cs', u = .tuple #[.agg cs'.toArray, .int .i64 0] ∧ ArrAt (k + 2) h' cs' (⟨l, a.vec.pick (againL n.toNat a.vec.len) (blankA k)⟩ : ArrD (AD (k + 1)))) := by
  have hc' := hc
  obtain ⟨_, vcc, rfl, ⟨adc, cpc, rfl, hSc⟩, hvc⟩ := hc
  have hvc' := hvc
  obtain ⟨wc, nc, sc, ic, fc, gc, xc, ⟨rfl, hoc⟩, -⟩ := hvc
  have mc : ∀ h', GLe h h' → ArrAt (k + 2) h' (.slice adc c.shape.length cpc :: vecCells c.vec.kind wc nc sc ic fc gc xc) c := fun h' hl => ArrAt.mono (k + 2) _ _ _ _ hl hc'
  have hcapc := hSc.caps
  have ha' := ha
  obtain ⟨_, vca, rfl, ⟨ada, cpa, rfl, hSa⟩, hva⟩ := ha
  have hva' := hva
  obtain ⟨wa, na, sa, ia, fa, ga, xa, ⟨rfl, hoa⟩, -⟩ := hva
  have ma : ∀ h', GLe h h' → ArrAt (k + 2) h' (.slice ada a.shape.length cpa :: vecCells a.vec.kind wa na sa ia fa ga xa) a := fun h' hl => ArrAt.mono (k + 2) _ _ _ _ hl ha'
  have hcapa := hSa.caps
  have hll : l.length ≤ 1048576 := by have := hvc'.shorts.1; rw [← hl, List.length_map]; omega
  refine Con.of_body Tryz.func47 rfl Tryz.ntmps47 rfl rfl ?_
  intro hs
  refine Zrun ?_
  (refine RW.boxN hs rfl rfl ?_; intro b1 w1 hs)
  refine Zrun ?_
  (refine RW.boxN hs rfl rfl ?_; intro b2 w2 hs)
  refine Zrun ?_
  (refine RW.allocN T hs rfl rfl rfl rfl ?_; intro b3 w3 hs)
  refine Zerun ?_
  (refine RW.call T hs rfl rfl rfl (reWholes_con k _ c l _ _ (mc _ (GLe.refl _)) hr hk hl hcm) ?_; intro v h4 w4 hle4 hp4 hs)
  obtain ⟨s4, rfl, hI4⟩ := hp4
  have hI4' := hI4
  obtain ⟨ad4, cp4, rfl, _⟩ := hI4'
  refine Zerun ?_
  (refine RW.call T hs rfl rfl rfl (product_con _ l most _ _ hI4 (by omega)) ?_; intro v h5 w5 hle5 hp5 hs)
  rw [hp] at hp5
  subst hp5
  have hI4 := hI4.mono hle5
  have hv5 := hva'.mono (ArrAt.mono (k + 1)) (hle4.trans hle5)
  refine Zerun ?_
  (refine RW.call T hs rfl rfl rfl (flatAgain_con (ArrAt.mono (k + 1)) (ArrAt.one (k + 1)) (ArrAt.siz (k + 1)) (blankA k) (fun w h => flatBlank_con (ArrAt.mono k) (ArrAt.one k) w h) _ a.vec n _ _ hv5 hm hk0 hn) ?_; intro v h7 w7 hle7 hp7 hs)
  obtain ⟨cs7, rfl, hv7⟩ := hp7
  have hv7' := hv7
  have hI4 := hI4.mono hle7
  obtain ⟨wv7, nv7, sm7, il7, fl7, ch7, bx7, ⟨rfl, hoc7⟩, -⟩ := hv7
  refine Zerun ?_
  refine RW.val (Y.build T rfl rfl rfl rfl rfl rfl rfl) rfl ?_
  (refine RW.storeAll T hs 0 rfl rfl rfl rfl rfl rfl (by show (true && (vecCells _ wv7 nv7 sm7 il7 fl7 ch7 bx7).all Value.oneCell') = true; rw [hoc7]; rfl) rfl ?_; intro w8 hs)
  refine Zerun ?_
  exact retQ_ret [_, _] h7 ⟨resN T hs 0 rfl rfl rfl rfl rfl rfl, rfl, trivial⟩ hs.dropAll ⟨_, rfl, _, _, rfl, hI4, hv7'⟩
theorem reAxes_con (k : Nat) (cc ca : List Value) (c a : ArrD (AD (k + 1))) (l : List Int) (w : World) (h : GHeap) (hc : ArrAt (k + 2) h cc c) (ha : ArrAt (k + 2) h ca a) (hr : c.shape.length ≤ 1) (hk : c.vec.kind = 1 ∨ c.vec.kind = 2 ∨ c.vec.kind = 3) (hl : c.vec.nums.map (fun x => (wholeF x).1) = l) (hcm : c.vec.len ≤ 1048576) (ha1 : l.length ≤ a.shape.length) (ha0 : 0 < a.shape.length) (ha8 : a.shape.length ≤ 8) :
    Con Tryz.prog 98 [.agg cc.toArray, .agg ca.toArray] w h (fun h' u => ∃ s cs', u = .tuple #[s, .agg cs'.toArray, .int .i64 0] ∧ IntsAt h' s l ∧ ArrAt (k + 2) h' cs' a) := by
  have hc' := hc
  obtain ⟨_, vcc, rfl, ⟨adc, cpc, rfl, hSc⟩, hvc⟩ := hc
  have hvc' := hvc
  obtain ⟨wc, nc, sc, ic, fc, gc, xc, ⟨rfl, hoc⟩, -⟩ := hvc
  have mc : ∀ h', GLe h h' → ArrAt (k + 2) h' (.slice adc c.shape.length cpc :: vecCells c.vec.kind wc nc sc ic fc gc xc) c := fun h' hl => ArrAt.mono (k + 2) _ _ _ _ hl hc'
  have hcapc := hSc.caps
  have ha' := ha
  obtain ⟨_, vca, rfl, ⟨ada, cpa, rfl, hSa⟩, hva⟩ := ha
  have hva' := hva
  obtain ⟨wa, na, sa, ia, fa, ga, xa, ⟨rfl, hoa⟩, -⟩ := hva
  have ma : ∀ h', GLe h h' → ArrAt (k + 2) h' (.slice ada a.shape.length cpa :: vecCells a.vec.kind wa na sa ia fa ga xa) a := fun h' hl => ArrAt.mono (k + 2) _ _ _ _ hl ha'
  have hcapa := hSa.caps
  have hll : l.length ≤ 1048576 := by have := hvc'.shorts.1; rw [← hl, List.length_map]; omega
  have q0 : ¬ (a.shape.length : Int) = 0 := by omega
  have q8 : ¬ (8 : Int) < (a.shape.length : Int) := by omega
  have q1 : ¬ (a.shape.length : Int) < (l.length : Int) := by omega
  refine Con.of_body Tryz.func98 rfl Tryz.ntmps98 rfl rfl ?_
  intro hs
  refine Zrun ?_
  (refine RW.boxN hs rfl rfl ?_; intro b1 w1 hs)
  refine Zrun ?_
  (refine RW.boxN hs rfl rfl ?_; intro b2 w2 hs)
  refine Zrun ?_
  (refine RW.allocN T hs rfl rfl rfl rfl ?_; intro b3 w3 hs)
  refine Zerun ?_
  (refine RW.call T hs rfl rfl rfl (reWholes_con k _ c l _ _ (mc _ (GLe.refl _)) hr hk hl hcm) ?_; intro v h4 w4 hle4 hp4 hs)
  obtain ⟨s4, rfl, hI4⟩ := hp4
  have hI4' := hI4
  obtain ⟨ad4, cp4, rfl, _⟩ := hI4'
  refine Zerun ?_
  refine CW.regionR T 1 1 hs rfl rfl ?_
  intro w9 hs
  refine HW.takeR (fuel := 4) 0 rfl (fun _ _ ka kb _ hs hka hkb => Y.move rfl) ⟨_, _, 1, 1, hs, rfl, rfl⟩ rfl (by kernel_rfl) (by kernel_rfl) (by kernel_rfl) ?_
  refine HW.takeR (fuel := 3) 1 rfl (fun _ _ ka kb _ hs hka hkb => Y.loadRowN T hs ka hka rfl rfl rfl rfl rfl rfl) ⟨_, _, 1, 1, hs, rfl, rfl⟩ rfl (by kernel_rfl) (by kernel_rfl) (by kernel_rfl) ?_
  refine HW.takeR (fuel := 2) 2 rfl (fun _ _ ka kb _ hs hka hkb => Y.assign rfl) ⟨_, _, 1, 1, hs, rfl, rfl⟩ rfl (by kernel_rfl) (by kernel_rfl) (by kernel_rfl) ?_
  refine HW.one (fuel := 1) 3 rfl (by kernel_rfl) ?_
  (refine RW.storeAll T hs 0 rfl rfl rfl rfl rfl rfl (by show (Value.oneCell' (.slice ada _ cpa) && (vecCells _ wa na sa ia fa ga xa).all Value.oneCell') = true; rw [hoa]; rfl) rfl ?_; intro w8 hs)
  refine RW.nil ?_
  refine heldQ_normal ⟨_, _, 1, 1, hs, rfl, rfl⟩ ?_
  refine HW.takeR (fuel := 0) 4 rfl (fun _ _ ka kb _ hs hka hkb => Y.assign rfl) ⟨_, _, 1, 1, hs, rfl, rfl⟩ rfl (by kernel_rfl) (by kernel_rfl) (by kernel_rfl) ?_
  refine HW.done (by kernel_rfl) ?_
  refine calmQ_normal ?_
  refine Zerun ?_
  exact retQ_ret [_, _, _] h4 ⟨rfl, resN T hs 0 rfl rfl rfl rfl rfl rfl, rfl, trivial⟩ hs.dropAll ⟨_, _, rfl, hI4, ma _ hle4⟩
theorem reAlong_con (k : Nat) (ca : List Value) (a : ArrD (AD (k + 1))) (v1 : Value) (K outer n inner : Nat) (at_ s' : List Int) (w : World) (h : GHeap) (ha : ArrAt (k + 2) h ca a) (hat : IntsAt h v1 at_) (hsl : a.shape.length ≤ 8) (hw : withSpec a.shape K at_.length = (s', true)) (hs' : splitSpec a.shape K = ((outer : Int), (n : Int), (inner : Int), true)) (hal : at_.length ≤ 1048576) (hou : outer ≤ 1048576) (hm : outer * (at_.length * inner) ≤ 1048576) (hB : outer * n * inner ≤ 1099511627776) (hBn : outer * n ≤ 1099511627776) (hvm : a.vec.len ≤ 1048576) (hk0 : a.vec.kind ≠ 0) :
    Con Tryz.prog 101 [.agg ca.toArray, .int .i64 (K : Int), v1] w h (fun h' u => ∃ cs', u = .tuple #[.agg cs'.toArray, .int .i64 0] ∧ ArrAt (k + 2) h' cs' (⟨s', a.vec.pick (alongL outer n inner at_) (blankA k)⟩ : ArrD (AD (k + 1)))) := by
  have hat' := hat
  obtain ⟨adt, cpt, rfl, hSt⟩ := hat
  have ha' := ha
  obtain ⟨_, vca, rfl, ⟨ada, cpa, rfl, hSa⟩, hva⟩ := ha
  have hva' := hva
  obtain ⟨wa, na, sa, ia, fa, ga, xa, ⟨rfl, hoa⟩, -⟩ := hva
  have ma : ∀ h', GLe h h' → ArrAt (k + 2) h' (.slice ada a.shape.length cpa :: vecCells a.vec.kind wa na sa ia fa ga xa) a := fun h' hl => ArrAt.mono (k + 2) _ _ _ _ hl ha'
  have hcapa := hSa.caps
  refine Con.of_body Tryz.func101 rfl Tryz.ntmps101 rfl rfl ?_
  intro hs
  refine Zrun ?_
  (refine RW.boxN hs rfl rfl ?_; intro b1 w1 hs)
  refine Zrun ?_
  (refine RW.allocN T hs rfl rfl rfl rfl ?_; intro b2 w2 hs)
  refine Zerun ?_
  (refine RW.call T hs rfl rfl rfl (with_con _ a.shape K at_.length _ _ ⟨ada, cpa, rfl, hSa⟩ (by omega)) ?_; intro v h3 w3 hle3 hp3 hs)
  obtain ⟨u3, rfl, hI3⟩ := hp3
  rw [hw] at hI3 ⊢
  have hI3' := hI3
  obtain ⟨ad3, cp3, rfl, _⟩ := hI3'
  refine Zerun ?_
  (refine RW.call T hs rfl rfl rfl (split_con _ a.shape K _ _ ⟨ada, cpa, rfl, hSa.mono hle3⟩ (by omega)) ?_; intro v h5 w5 hle5 hp5 hs)
  rw [hs'] at hp5
  subst hp5
  have hI3 := hI3.mono hle5
  have g5 := hle3.trans hle5
  refine Zerun ?_
  (refine RW.call T hs rfl rfl rfl (pickAlong_con (ArrAt.mono (k + 1)) (ArrAt.one (k + 1)) (ArrAt.siz (k + 1)) (blankA k) (fun w h => flatBlank_con (ArrAt.mono k) (ArrAt.one k) w h) _ a.vec _ outer n inner at_ _ _ (hva'.mono (ArrAt.mono (k + 1)) g5) (hat'.mono g5) hal hou hm hB hBn hvm hk0) ?_; intro v h6 w6 hle6 hp6 hs)
  obtain ⟨cs6, rfl, hv6⟩ := hp6
  have hv6' := hv6
  have hI3 := hI3.mono hle6
  obtain ⟨wv6, nv6, sm6, il6, fl6, ch6, bx6, ⟨rfl, hoc6⟩, -⟩ := hv6
  refine Zerun ?_
  refine RW.val (Y.build T rfl rfl rfl rfl rfl rfl rfl) rfl ?_
  (refine RW.storeAll T hs 0 rfl rfl rfl rfl rfl rfl (by show (true && (vecCells _ wv6 nv6 sm6 il6 fl6 ch6 bx6).all Value.oneCell') = true; rw [hoc6]; rfl) rfl ?_; intro w8 hs)
  refine Zerun ?_
  exact retQ_ret [_, _] h6 ⟨resN T hs 0 rfl rfl rfl rfl rfl rfl, rfl, trivial⟩ hs.dropAll ⟨_, rfl, _, _, rfl, hI3, hv6'⟩
end Go.Proofs.YtmojpbfkpggjhaaGreat

/-
  Contracts of package reshape: Take and Drop with one count along the first axis. No statement is proved here.
-/
namespace Go.Proofs.YtmojpbfkpggjhaaGreat
open Go Go.RowKit
set_option linter.unusedVariables false
set_option linter.unusedSimpArgs false
set_option maxHeartbeats 4000000
attribute [local irreducible] CW RW QW SW HW ConM retM heldQ calmQ elemP thenQ blockQ loopQ joinQ retQ Yields Con Sl zF magR unitF truncF fwF wholeF tidySpec elemQ rankF leastN tidyW
set_option maxHeartbeats 4000000

theorem product_con' {s : List Int} {ad : Option Addr} {cp n : Nat} {most : Int} {w : World} {h : GHeap} (hI : IntsAt h (.slice ad n cp) s) (hm : s.length ≤ 9223372036854775807) : Con Tryz.prog 58 [.slice ad n cp, .int .i64 most] w h (fun _ v => v = .tuple #[.int .i64 (product s most).1, .int .i64 (product s most).2]) := product_con _ s most w h hI hm
theorem contains_con' {s : List Int} {ad : Option Addr} {cp n : Nat} {w : World} {h : GHeap} (x : Int) (hI : IntsAt h (.slice ad n cp) s) (hm : s.length ≤ 9223372036854775807) : Con Tryz.prog 99 [.slice ad n cp, .int .i64 x] w h (fun _ v => v = .bool (decide (x ∈ s))) := containsInt_con _ s x w h hI hm
theorem sl_of_ints {s : List Int} {ad : Option Addr} {cp n : Nat} {h : GHeap} (hI : IntsAt h (.slice ad n cp) s) (hn : s.length = n) : Sl h 1 ad n cp (s.map (Value.int .i64)) := by
  subst hn
  obtain ⟨a', c', e, q⟩ := hI
  cases e
  exact q
theorem yields_eqv {P n L w op ty} {u1 u2 : Value} (h : Yields P n L w op ty u1) (e : u1 = u2) : Yields P n L w op ty u2 := e ▸ h
theorem neq_ft {p : Prop} [Decidable p] (h : p) : (!(false == decide p)) = true := by rw [decide_eq_true h]; rfl
theorem neq_ff {p : Prop} [Decidable p] (h : ¬ p) : (!(false == decide p)) = false := by rw [decide_eq_false h]; rfl
theorem neq_tt {p : Prop} [Decidable p] (h : p) : (!(true == decide p)) = false := by rw [decide_eq_true h]; rfl
theorem neq_tf {p : Prop} [Decidable p] (h : ¬ p) : (!(true == decide p)) = true := by rw [decide_eq_false h]; rfl
theorem set0_getD {s : List Int} {d : Int} (h : 0 < s.length) : (s.set 0 d).getD 0 0 = d := by
  rw [List.getD_eq_getElem?_getD, List.getElem?_set_self h]; rfl
theorem set0_get {s : List Int} {d : Int} (h : 0 < s.length) : ((s.set 0 d).map (Value.int .i64))[0]? = some (.int .i64 d) := by
  rw [List.getElem?_map, List.getElem?_set_self h]; rfl
theorem reTake_con (k : Nat) (cc ca : List Value) (c a : ArrD (AD (k + 1))) (m most q : Int) (n inner : Nat) (w : World) (h : GHeap) (hc : ArrAt (k + 2) h cc c) (ha : ArrAt (k + 2) h ca a) (hr : c.shape.length ≤ 1) (hk : c.vec.kind = 1 ∨ c.vec.kind = 2 ∨ c.vec.kind = 3) (hl : c.vec.nums.map (fun x => (wholeF x).1) = [m]) (hcm : c.vec.len ≤ 1048576) (ha0 : 0 < a.shape.length) (ha8 : a.shape.length ≤ 8) (hn : a.shape.getD 0 0 = (n : Int)) (hs' : splitSpec a.shape 0 = (1, (n : Int), (inner : Int), true)) (hvm : a.vec.len ≤ 1048576) (hk0 : a.vec.kind ≠ 0) (hnb : n ≤ 1048576) (hib : n * inner ≤ 1048576) (hmb : m.natAbs ≤ 1048576) (hmi : m.natAbs * inner ≤ 1048576) (hp : product (a.shape.set 0 (m.natAbs : Int)) most = (q, 0)) (hq : (0 : Int) ∉ a.shape.set 0 (m.natAbs : Int)) (hw : withSpec a.shape ((0 : Nat) : Int) ((takenL n m).length : Nat) = (a.shape.set 0 (m.natAbs : Int), true)) :
    Con Tryz.prog 43 [.agg cc.toArray, .agg ca.toArray, .int .i64 most] w h (fun h' u => ∃ cs', u = .tuple #[.agg cs'.toArray, .int .i64 0] ∧ ArrAt (k + 2) h' cs' (⟨a.shape.set 0 (m.natAbs : Int), a.vec.pick (alongL 1 n inner (takenL n m)) (blankA k)⟩ : ArrD (AD (k + 1)))) := by
  have hc' := hc
  obtain ⟨_, vcc, rfl, ⟨adc, cpc, rfl, hSc⟩, hvc⟩ := hc
  have hvc' := hvc
  obtain ⟨wc, nc, sc, ic, fc, gc, xc, ⟨rfl, hoc⟩, -⟩ := hvc
  have mc : ∀ h', GLe h h' → ArrAt (k + 2) h' (.slice adc c.shape.length cpc :: vecCells c.vec.kind wc nc sc ic fc gc xc) c := fun h' hl => ArrAt.mono (k + 2) _ _ _ _ hl hc'
  have hcapc := hSc.caps
  have ha' := ha
  obtain ⟨_, vca, rfl, ⟨ada, cpa, rfl, hSa⟩, hva⟩ := ha
  have hva' := hva
  obtain ⟨wa, na, sa, ia, fa, ga, xa, ⟨rfl, hoa⟩, -⟩ := hva
  have ma : ∀ h', GLe h h' → ArrAt (k + 2) h' (.slice ada a.shape.length cpa :: vecCells a.vec.kind wa na sa ia fa ga xa) a := fun h' hl => ArrAt.mono (k + 2) _ _ _ _ hl ha'
  have hcapa := hSa.caps
  refine Con.of_body Tryz.func43 rfl Tryz.ntmps43 rfl rfl ?_
  intro hs
  refine Zrun ?_
  (refine RW.boxN hs rfl rfl ?_; intro b1 w1 hs)
  refine Zrun ?_
  (refine RW.boxN hs rfl rfl ?_; intro b2 w2 hs)
  refine Zrun ?_
  (refine RW.allocN T hs rfl rfl rfl rfl ?_; intro b3 w3 hs)
  refine Zerun ?_
  (refine RW.call T hs rfl rfl rfl (reAxes_con k _ _ c a [m] _ _ (mc _ (GLe.refl _)) (ma _ (GLe.refl _)) hr hk hl hcm (by show 1 ≤ _; omega) ha0 ha8) ?_; intro v h4 w4 hle4 hp4 hs)
  obtain ⟨s4, cs4, rfl, hI4, ha4⟩ := hp4
  obtain ⟨adl, cpl, rfl, hSl⟩ := hI4
  have hA4 := ha4
  obtain ⟨_, vc4, rfl, ⟨ad4, cp4, rfl, hS4⟩, hv4⟩ := ha4
  have hv4' := hv4
  obtain ⟨wv4, nv4, sm4, il4, fl4, ch4, bx4, ⟨rfl, hoc4⟩, -⟩ := hv4
  have hcap4 := hS4.caps
  have hSl : Sl h4 1 adl 1 cpl ([m].map (Value.int .i64)) := hSl
  refine Zerun ?_
  (refine RW.storeAll T hs 1 rfl rfl rfl rfl rfl rfl (by show (Value.oneCell' (.slice ad4 _ cp4) && (vecCells _ wv4 nv4 sm4 il4 fl4 ch4 bx4).all Value.oneCell') = true; rw [hoc4]; rfl) rfl ?_; intro w5 hs)
  refine Zerun ?_
  (refine RW.callM T hs rfl rfl rfl (cloneInt_conM ad4 cp4 a.shape _ _ _ _ _ hS4 (by omega)) ?_; intro v h6 O6 w6 hle6 hp6 hs)
  obtain ⟨rfl, ad6, cp6, rfl, rfl⟩ := hp6
  have gl0 : ([m].map (Value.int .i64))[0]? = some (.int .i64 m) := rfl
  refine Zerun ?_
  refine CW.loop (fun i : Nat => [(2, .int .i64 most), (4, .pointer (some ⟨b2, 0, none⟩)), (6, .pointer (some ⟨b3, 0, none⟩)), (8, .slice adl 1 cpl), (10, .slice ad6 a.shape.length cp6), (35, .slice adl 1 cpl), (36, .int .i64 1), (37, .int .i64 i)]) (fun i w' => i ≤ 1 ∧ Sees w h h6 [⟨ad6, a.shape.length, cp6, 3, 1, (if i = 0 then a.shape else a.shape.set 0 ((m.natAbs : Int))).map (Value.int .i64)⟩, ⟨some ⟨b3, 0, none⟩, 1, 1, 39, 9, .slice none 0 0 :: vecCells 0 (.slice none 0 0) 0 (.slice none 0 0) (.slice none 0 0) (.slice none 0 0) (.slice none 0 0) (.slice none 0 0)⟩, ⟨some ⟨b2, 0, none⟩, 1, 1, 39, 9, .slice ad4 a.shape.length cp4 :: vecCells a.vec.kind wv4 nv4 sm4 il4 fl4 ch4 bx4⟩, ⟨some ⟨b1, 0, none⟩, 1, 1, 39, 9, .slice adc c.shape.length cpc :: vecCells c.vec.kind wc nc sc ic fc gc xc⟩] w') (fun i => 1 - i) 0 ⟨rfl, rfl, rfl, rfl, rfl, rfl, rfl, rfl, trivial⟩ ⟨by omega, hs⟩ ?_
  rintro i w7 ⟨hi, hs⟩
  by_cases hlt : i = 0
  · subst hlt
    rw [if_pos rfl] at hs
    refine Zerun ?_
    refine RW.respell (t := 44) (v := .int .i64 m) rfl rfl ?_
    refine RW.respell (t := 45) (v := .int .i64 m) rfl rfl ?_
    refine RW.val (Y.neg rfl ⟨by omega, by omega⟩) rfl ?_
    refine Zerun ?_
    rw [show max m (-m) = (m.natAbs : Int) by omega]
    refine RW.val (Y.idxRN T hs 0 (u := 0) rfl rfl rfl rfl rfl rfl ha0) rfl ?_
    refine RW.st1 T hs 0 rfl rfl rfl rfl rfl rfl rfl ha0 ?_
    intro w8 hs
    dsimp only [List.set_cons_zero] at hs
    rw [map_set_int] at hs
    refine Zerun ?_
    exact loopQ_round 1 ⟨rfl, rfl, rfl, rfl, rfl, rfl, rfl, rfl, trivial⟩ ⟨by omega, by rw [if_neg (by omega)]; exact hs⟩ (by omega)
  obtain rfl : i = 1 := by omega
  rw [if_neg (by omega)] at hs
  obtain ⟨S, hS⟩ : ∃ S, a.shape.set 0 ((m.natAbs : Int)) = S := ⟨_, rfl⟩
  rw [hS] at hs hp hq hw ⊢
  have hSl0 : S.length = a.shape.length := by rw [← hS, List.length_set]
  obtain ⟨h9, hle9, hs, hS9⟩ := hs.freeze
  dsimp only at hS9
  have hI9 : IntsAt h9 (.slice ad6 a.shape.length cp6) S := by
    rw [← hSl0] at hS9 ⊢
    exact IntsAt.of_sl hS9
  have hSl := hSl.mono hle9
  refine Zerun ?_
  have hI9r := hI9
  rw [← hSl0] at hI9r
  have e10 : (Value.slice ad6 a.shape.length cp6) = .slice ad6 S.length cp6 := by rw [hSl0]
  (refine RW.call T hs rfl rfl rfl (product_con' hI9 (by omega)) ?_; intro v h10 w10 hle10 hp10 hs)
  rw [hp] at hp10
  subst hp10
  have hI9 := hI9.mono hle10
  have hSl := hSl.mono hle10
  refine Zerun ?_
  (refine RW.call T hs rfl rfl rfl (contains_con' 0 hI9 (by omega)) ?_; intro v h11 w11 hle11 hp11 hs)
  rw [decide_eq_false hq] at hp11
  subst hp11
  have hI9 := hI9.mono hle11
  have hSl := hSl.mono hle11
  refine Zerun ?_
  (refine RW.lit T hs (vs := [.bool false, .bool true]) (cs := [.bool false, .bool true]) rfl rfl rfl rfl (by simp [Value.cells]) rfl rfl rfl rfl rfl ?_; intro b12 w12 hs)
  obtain ⟨h12, hle12, hs, hS12⟩ := hs.freeze
  have hI9 := hI9.mono hle12
  have hSl := hSl.mono hle12
  have hS12 : Sl h12 1 (some ⟨b12, 0, none⟩) 2 2 [.bool false, .bool true] := hS12
  have hSS : Sl h12 1 ad6 a.shape.length cp6 (S.map (Value.int .i64)) := sl_of_ints hI9 hSl0
  have gS0 : (S.map (Value.int .i64))[0]? = some (.int .i64 (m.natAbs : Int)) := by rw [← hS]; exact set0_get ha0
  have ga0 : (a.shape.map (Value.int .i64))[0]? = some (.int .i64 (n : Int)) := by rw [map_get (Value.int .i64) a.shape 0 0 ha0, hn]
  have g12 := ((hle9.trans hle10).trans hle11).trans hle12
  have hA12 := ArrAt.mono (k + 2) _ _ _ _ g12 hA4
  obtain ⟨av, hav⟩ : ∃ av : ArrD (AD (k + 1)), (⟨S, a.vec.pick (alongL 1 n inner (takenL n m)) (blankA k)⟩ : ArrD (AD (k + 1))) = av := ⟨_, rfl⟩
  have havS : av.shape = S := by rw [← hav]
  rw [hav]
  refine Zerun ?_
  refine CW.loop (fun u : Nat × List Value × ArrD (AD (k + 1)) × GHeap => [(2, .int .i64 most), (4, .pointer (some ⟨b2, 0, none⟩)), (6, .pointer (some ⟨b3, 0, none⟩)), (8, .slice adl 1 cpl), (10, .slice ad6 a.shape.length cp6), (68, .slice (some ⟨b12, 0, none⟩) 2 2), (69, .int .i64 2), (70, .int .i64 u.1)]) (fun u w' => u.1 ≤ 2 ∧ GLe h12 u.2.2.2 ∧ ArrAt (k + 2) u.2.2.2 u.2.1 u.2.2.1 ∧ u.2.2.1 = (if u.1 = 0 ∨ (u.1 = 1 ∧ n < m.natAbs) then a else av) ∧ Sees w h u.2.2.2 [⟨some ⟨b3, 0, none⟩, 1, 1, 39, 9, .slice none 0 0 :: vecCells 0 (.slice none 0 0) 0 (.slice none 0 0) (.slice none 0 0) (.slice none 0 0) (.slice none 0 0) (.slice none 0 0)⟩, ⟨some ⟨b2, 0, none⟩, 1, 1, 39, 9, u.2.1⟩, ⟨some ⟨b1, 0, none⟩, 1, 1, 39, 9, .slice adc c.shape.length cpc :: vecCells c.vec.kind wc nc sc ic fc gc xc⟩] w') (fun u => 2 - u.1) (0, _, a, h12) ⟨rfl, rfl, rfl, rfl, rfl, rfl, rfl, rfl, trivial⟩ ⟨by omega, GLe.refl _, hA12, by rw [if_pos (.inl rfl)], hs⟩ ?_
  rintro ⟨r, cs13, cur, hh⟩ w13 ⟨hr2, hg, hA13, hcur, hs⟩
  dsimp only at hr2 hg hA13 hcur hs ⊢
  have ha13 := hA13
  have hA13 := ha13
  obtain ⟨_, vc13, rfl, ⟨ad13, cp13, rfl, hS13⟩, hv13⟩ := ha13
  have hv13' := hv13
  obtain ⟨wv13, nv13, sm13, il13, fl13, ch13, bx13, ⟨rfl, hoc13⟩, -⟩ := hv13
  have sS0 : S.getD 0 0 = (m.natAbs : Int) := by rw [← hS]; exact set0_getD ha0
  have havn : av.shape.getD 0 0 = (m.natAbs : Int) := by rw [havS]; exact sS0
  have hav8 : av.shape.length = a.shape.length := by rw [havS]; exact hSl0
  by_cases c2 : r = 2
  · subst c2
    rw [if_neg (by omega)] at hcur
    subst cur
    have havq : av.vec.sq = av.vec := by rw [← hav]; exact pickSq2 _ _ _
    have havm : av.vec.len ≤ 1048576 := by rw [← hav]; show (a.vec.pick _ _).len ≤ _; rw [(pick_facts _ _ _).2.2.1, alongL_len, taken_len]; omega
    refine Zerun ?_
    refine CW.regionG T 1 1 hs rfl rfl ?_
    intro w40 hs
    have hgl := GLe.refl hh
    refine HW.takeG (fuel := 7) 0 rfl (fun _ _ ka kb _ hg hs hka hkb => Y.fieldAddr T rfl rfl rfl rfl rfl) ⟨_, _, 1, 1, hgl, hs, rfl, rfl⟩ rfl (by kernel_rfl) (by kernel_rfl) (by kernel_rfl) ?_
    refine HW.takeG (fuel := 6) 1 rfl (fun _ _ ka kb _ hg hs hka hkb => Y.loadRow1 T hs ka hka rfl rfl rfl rfl) ⟨_, _, 1, 1, hgl, hs, rfl, rfl⟩ rfl (by kernel_rfl) (by kernel_rfl) (by kernel_rfl) ?_
    refine HW.takeG (fuel := 5) 2 rfl (fun _ _ ka kb _ hg hs hka hkb => Y.fieldAddr T rfl rfl rfl rfl rfl) ⟨_, _, 1, 1, hgl, hs, rfl, rfl⟩ rfl (by kernel_rfl) (by kernel_rfl) (by kernel_rfl) ?_
    refine HW.takeG (fuel := 4) 3 rfl (fun _ _ ka kb _ hg hs hka hkb => Y.loadRowN T hs ka hka rfl rfl rfl rfl rfl rfl) ⟨_, _, 1, 1, hgl, hs, rfl, rfl⟩ rfl (by kernel_rfl) (by kernel_rfl) (by kernel_rfl) ?_
    refine HW.one (fuel := 3) 4 rfl (by kernel_rfl) ?_
    (refine RW.call T hs rfl rfl rfl (sqSqueeze_con (ArrAt.mono (k + 1)) _ av.vec _ _ (hv13'.mono (ArrAt.mono (k + 1)) hgl) havm) ?_; intro v h123 w123 hle123 hp123 hs)
    rw [havq] at hp123
    obtain ⟨cs123, rfl, hv123⟩ := hp123
    have hv123' := hv123
    obtain ⟨wv, nv, sm, il, fl, ch, bx, ⟨rfl, hoc⟩, -⟩ := hv123
    have hgl := hgl.trans hle123
    refine RW.nil ?_
    refine heldQ_normal ⟨_, _, 1, 1, hgl, hs, rfl, rfl⟩ ?_
    refine HW.takeG (fuel := 2) 5 rfl (fun _ _ ka kb _ hg hs hka hkb => Y.build T rfl rfl rfl rfl rfl rfl rfl) ⟨_, _, 1, 1, hgl, hs, rfl, rfl⟩ rfl (by kernel_rfl) (by kernel_rfl) (by kernel_rfl) ?_
    refine HW.one (fuel := 1) 6 rfl (by kernel_rfl) ?_
    (refine RW.storeAll T hs 0 rfl rfl rfl rfl rfl rfl (by show (true && (vecCells _ wv nv sm il fl ch bx).all Value.oneCell') = true; rw [hoc]; rfl) rfl ?_; intro w124 hs)
    refine RW.nil ?_
    refine heldQ_normal ⟨_, _, 1, 1, hgl, hs, rfl, rfl⟩ ?_
    refine HW.takeG (fuel := 0) 7 rfl (fun _ _ ka kb _ hg hs hka hkb => Y.assign rfl) ⟨_, _, 1, 1, hgl, hs, rfl, rfl⟩ rfl (by kernel_rfl) (by kernel_rfl) (by kernel_rfl) ?_
    refine HW.done (by kernel_rfl) ?_
    refine calmQ_normal ?_
    refine Zerun ?_
    exact retQ_ret [_, _] h123 ⟨resN T hs 0 rfl rfl rfl rfl rfl rfl, rfl, trivial⟩ hs.dropAll ⟨_, rfl, _, _, rfl, ⟨ad13, cp13, rfl, hS13.mono hgl⟩, hv123'⟩
  by_cases c0 : r = 0
  · subst c0
    rw [if_pos (.inl rfl)] at hcur
    subst cur
    have hS12 := hS12.mono hg
    have gb : ([.bool false, .bool true] : List Value)[0]? = some (.bool false) := rfl
    refine Zerun ?_
    refine CW.loop (fun u : Nat × List Value × ArrD (AD (k + 1)) × GHeap => [(2, .int .i64 most), (4, .pointer (some ⟨b2, 0, none⟩)), (6, .pointer (some ⟨b3, 0, none⟩)), (8, .slice adl 1 cpl), (10, .slice ad6 a.shape.length cp6), (68, .slice (some ⟨b12, 0, none⟩) 2 2), (69, .int .i64 2), (70, .int .i64 ((0 : Nat) : Int)), (16, .bool false), (74, .slice adl 1 cpl), (75, .int .i64 1), (76, .int .i64 u.1)]) (fun u w' => u.1 ≤ 1 ∧ GLe h12 u.2.2.2 ∧ ArrAt (k + 2) u.2.2.2 u.2.1 u.2.2.1 ∧ u.2.2.1 = (if u.1 = 0 then a else (if n < m.natAbs then a else av)) ∧ Sees w h u.2.2.2 [⟨some ⟨b3, 0, none⟩, 1, 1, 39, 9, .slice none 0 0 :: vecCells 0 (.slice none 0 0) 0 (.slice none 0 0) (.slice none 0 0) (.slice none 0 0) (.slice none 0 0) (.slice none 0 0)⟩, ⟨some ⟨b2, 0, none⟩, 1, 1, 39, 9, u.2.1⟩, ⟨some ⟨b1, 0, none⟩, 1, 1, 39, 9, .slice adc c.shape.length cpc :: vecCells c.vec.kind wc nc sc ic fc gc xc⟩] w') (fun u => 1 - u.1) (0, _, a, hh) ⟨rfl, rfl, rfl, rfl, rfl, rfl, rfl, rfl, rfl, rfl, rfl, rfl, trivial⟩ ⟨by omega, hg, hA13, by rw [if_pos rfl], hs⟩ ?_
    rintro ⟨i, cs14, cu, h14⟩ w14 ⟨hi2, hg2, ha14, hcu, hs⟩
    dsimp only at hi2 hg2 ha14 hcu hs ⊢
    have hA14 := ha14
    obtain ⟨_, vc14, rfl, ⟨ad14, cp14, rfl, hS14⟩, hv14⟩ := ha14
    have hv14' := hv14
    obtain ⟨wv14, nv14, sm14, il14, fl14, ch14, bx14, ⟨rfl, hoc14⟩, -⟩ := hv14
    have hc14 := hS14.caps
    by_cases hlt2 : i = 0
    rotate_left
    · obtain rfl : i = 1 := by omega
      rw [if_neg (by omega)] at hcu
      subst cu
      refine Zerun ?_
      exact loopQ_round (0 + 1, _, (if n < m.natAbs then a else av), h14) ⟨rfl, rfl, rfl, rfl, rfl, rfl, rfl, rfl, trivial⟩ ⟨by dsimp only; omega, hg2, hA14, by dsimp only; simp only [Nat.zero_add, show ¬ (1 = 0) by omega, false_or, true_and], hs⟩ (by dsimp only; omega)
    subst hlt2
    rw [if_pos rfl] at hcu
    subst cu
    have hSl := hSl.mono hg2
    have hSS := hSS.mono hg2
    by_cases cc : (n : Int) < (m.natAbs : Int)
    · have ee : (if n < m.natAbs then a else av) = a := if_pos (by omega)
      refine Zerun ?_
      refine CW.regionQ T hs (Zeqrun ?_) (by kernel_rfl)
      refine QW.val (fun _ _ => yields_eqv (u2 := .bool true) (Y.neqB T rfl rfl rfl) (congrArg Value.bool (neq_ft (by omega)))) rfl ?_
      refine Zeqrun ?_
      intro w15 hs
      refine Zerun ?_
      exact loopQ_round (1, _, a, h14) ⟨rfl, rfl, rfl, rfl, rfl, rfl, rfl, rfl, rfl, rfl, rfl, rfl, trivial⟩ ⟨by dsimp only; omega, hg2, hA14, by dsimp only; rw [if_neg (by omega), ee], hs⟩ (by dsimp only; omega)
    have ee : (if n < m.natAbs then a else av) = av := if_neg (by omega)
    refine Zerun ?_
    refine CW.regionQ T hs (Zeqrun ?_) (by kernel_rfl)
    refine QW.val (fun _ _ => yields_eqv (u2 := .bool false) (Y.neqB T rfl rfl rfl) (congrArg Value.bool (neq_ff (by omega)))) rfl ?_
    refine Zeqrun ?_
    intro w15 hs
    refine Zerun ?_
    refine RW.respell (t := 98) (v := .int .i64 (n : Int)) rfl (by rw [hn]) ?_
    (refine RW.callM T hs rfl rfl rfl (taken_conM n m 1048576 _ _ _ _ _ hnb ⟨by omega, by omega⟩ ⟨by decide, by decide⟩) ?_; intro v h16 O16 w16 hle16 hp16 hs)
    obtain ⟨e16, hp16⟩ := hp16
    subst e16
    rw [if_pos (by omega)] at hp16
    obtain ⟨b16, rfl, rfl⟩ := hp16
    obtain ⟨h17, hle17, hs, hI17⟩ := freezeI hs (taken_len n m)
    have hA17 := ArrAt.mono (k + 2) _ _ _ _ hle17 hA14
    have hI17' : IntsAt h17 (.slice (some ⟨b16, 0, none⟩) m.natAbs m.natAbs) (takenL n m) := hI17
    refine Zerun ?_
    (refine RW.call T hs rfl rfl rfl (reAlong_con k _ a _ 0 1 n inner (takenL n m) S _ _ hA17 hI17' ha8 hw hs' (by rw [taken_len]; omega) (by decide) (by rw [taken_len]; omega) (by rw [Nat.one_mul]; omega) (by omega) hvm hk0) ?_; intro v h18 w18 hle18 hp18 hs)
    obtain ⟨cs18, rfl, ha18⟩ := hp18
    rw [hav] at ha18
    have hA18 := ha18
    obtain ⟨_, vc18, rfl, ⟨ad18, cp18, rfl, hS18⟩, hv18⟩ := ha18
    have hv18' := hv18
    obtain ⟨wv18, nv18, sm18, il18, fl18, ch18, bx18, ⟨rfl, hoc18⟩, -⟩ := hv18
    refine Zerun ?_
    (refine RW.storeAll T hs 1 rfl rfl rfl rfl rfl rfl (by show (Value.oneCell' (.slice ad18 _ cp18) && (vecCells _ wv18 nv18 sm18 il18 fl18 ch18 bx18).all Value.oneCell') = true; rw [hoc18]; rfl) rfl ?_; intro w19 hs)
    refine Zerun ?_
    exact loopQ_round (1, _, av, h18) ⟨rfl, rfl, rfl, rfl, rfl, rfl, rfl, rfl, rfl, rfl, rfl, rfl, trivial⟩ ⟨by dsimp only; omega, hg2.trans (hle17.trans hle18), hA18, by dsimp only; rw [if_neg (by omega), ee], hs⟩ (by dsimp only; omega)
  obtain rfl : r = 1 := by omega
  have hS12 := hS12.mono hg
  have gb : ([.bool false, .bool true] : List Value)[1]? = some (.bool true) := rfl
  by_cases cc : (n : Int) < (m.natAbs : Int)
  · rw [if_pos (.inr ⟨rfl, by omega⟩)] at hcur
    subst cur
    refine Zerun ?_
    refine CW.loop (fun u : Nat × List Value × ArrD (AD (k + 1)) × GHeap => [(2, .int .i64 most), (4, .pointer (some ⟨b2, 0, none⟩)), (6, .pointer (some ⟨b3, 0, none⟩)), (8, .slice adl 1 cpl), (10, .slice ad6 a.shape.length cp6), (68, .slice (some ⟨b12, 0, none⟩) 2 2), (69, .int .i64 2), (70, .int .i64 ((1 : Nat) : Int)), (16, .bool true), (74, .slice adl 1 cpl), (75, .int .i64 1), (76, .int .i64 u.1)]) (fun u w' => u.1 ≤ 1 ∧ GLe h12 u.2.2.2 ∧ ArrAt (k + 2) u.2.2.2 u.2.1 u.2.2.1 ∧ u.2.2.1 = (if u.1 = 0 then a else av) ∧ Sees w h u.2.2.2 [⟨some ⟨b3, 0, none⟩, 1, 1, 39, 9, .slice none 0 0 :: vecCells 0 (.slice none 0 0) 0 (.slice none 0 0) (.slice none 0 0) (.slice none 0 0) (.slice none 0 0) (.slice none 0 0)⟩, ⟨some ⟨b2, 0, none⟩, 1, 1, 39, 9, u.2.1⟩, ⟨some ⟨b1, 0, none⟩, 1, 1, 39, 9, .slice adc c.shape.length cpc :: vecCells c.vec.kind wc nc sc ic fc gc xc⟩] w') (fun u => 1 - u.1) (0, _, a, hh) ⟨rfl, rfl, rfl, rfl, rfl, rfl, rfl, rfl, rfl, rfl, rfl, rfl, trivial⟩ ⟨by omega, hg, hA13, by rw [if_pos rfl], hs⟩ ?_
    rintro ⟨i, cs14, cu, h14⟩ w14 ⟨hi2, hg2, ha14, hcu, hs⟩
    dsimp only at hi2 hg2 ha14 hcu hs ⊢
    have hA14 := ha14
    obtain ⟨_, vc14, rfl, ⟨ad14, cp14, rfl, hS14⟩, hv14⟩ := ha14
    have hv14' := hv14
    obtain ⟨wv14, nv14, sm14, il14, fl14, ch14, bx14, ⟨rfl, hoc14⟩, -⟩ := hv14
    have hc14 := hS14.caps
    by_cases hlt2 : i = 0
    rotate_left
    · obtain rfl : i = 1 := by omega
      rw [if_neg (by omega)] at hcu
      subst cu
      refine Zerun ?_
      exact loopQ_round (1 + 1, _, av, h14) ⟨rfl, rfl, rfl, rfl, rfl, rfl, rfl, rfl, trivial⟩ ⟨by dsimp only; omega, hg2, hA14, by dsimp only; rw [if_neg (by omega)], hs⟩ (by dsimp only; omega)
    subst hlt2
    rw [if_pos rfl] at hcu
    subst cu
    have hSl := hSl.mono hg2
    have hSS := hSS.mono hg2
    refine Zerun ?_
    refine CW.regionQ T hs (Zeqrun ?_) (by kernel_rfl)
    refine QW.val (fun _ _ => yields_eqv (u2 := .bool false) (Y.neqB T rfl rfl rfl) (congrArg Value.bool (neq_tt (by omega)))) rfl ?_
    refine Zeqrun ?_
    intro w15 hs
    refine Zerun ?_
    refine RW.respell (t := 98) (v := .int .i64 (n : Int)) rfl (by rw [hn]) ?_
    (refine RW.callM T hs rfl rfl rfl (taken_conM n m 1048576 _ _ _ _ _ hnb ⟨by omega, by omega⟩ ⟨by decide, by decide⟩) ?_; intro v h16 O16 w16 hle16 hp16 hs)
    obtain ⟨e16, hp16⟩ := hp16
    subst e16
    rw [if_pos (by omega)] at hp16
    obtain ⟨b16, rfl, rfl⟩ := hp16
    obtain ⟨h17, hle17, hs, hI17⟩ := freezeI hs (taken_len n m)
    have hA17 := ArrAt.mono (k + 2) _ _ _ _ hle17 hA14
    have hI17' : IntsAt h17 (.slice (some ⟨b16, 0, none⟩) m.natAbs m.natAbs) (takenL n m) := hI17
    refine Zerun ?_
    (refine RW.call T hs rfl rfl rfl (reAlong_con k _ a _ 0 1 n inner (takenL n m) S _ _ hA17 hI17' ha8 hw hs' (by rw [taken_len]; omega) (by decide) (by rw [taken_len]; omega) (by rw [Nat.one_mul]; omega) (by omega) hvm hk0) ?_; intro v h18 w18 hle18 hp18 hs)
    obtain ⟨cs18, rfl, ha18⟩ := hp18
    rw [hav] at ha18
    have hA18 := ha18
    obtain ⟨_, vc18, rfl, ⟨ad18, cp18, rfl, hS18⟩, hv18⟩ := ha18
    have hv18' := hv18
    obtain ⟨wv18, nv18, sm18, il18, fl18, ch18, bx18, ⟨rfl, hoc18⟩, -⟩ := hv18
    refine Zerun ?_
    (refine RW.storeAll T hs 1 rfl rfl rfl rfl rfl rfl (by show (Value.oneCell' (.slice ad18 _ cp18) && (vecCells _ wv18 nv18 sm18 il18 fl18 ch18 bx18).all Value.oneCell') = true; rw [hoc18]; rfl) rfl ?_; intro w19 hs)
    refine Zerun ?_
    exact loopQ_round (1, _, av, h18) ⟨rfl, rfl, rfl, rfl, rfl, rfl, rfl, rfl, rfl, rfl, rfl, rfl, trivial⟩ ⟨by dsimp only; omega, hg2.trans (hle17.trans hle18), hA18, by dsimp only; rw [if_neg (by omega)], hs⟩ (by dsimp only; omega)
  rw [if_neg (by omega)] at hcur
  subst cur
  refine Zerun ?_
  refine CW.loop (fun u : Nat × List Value × ArrD (AD (k + 1)) × GHeap => [(2, .int .i64 most), (4, .pointer (some ⟨b2, 0, none⟩)), (6, .pointer (some ⟨b3, 0, none⟩)), (8, .slice adl 1 cpl), (10, .slice ad6 a.shape.length cp6), (68, .slice (some ⟨b12, 0, none⟩) 2 2), (69, .int .i64 2), (70, .int .i64 ((1 : Nat) : Int)), (16, .bool true), (74, .slice adl 1 cpl), (75, .int .i64 1), (76, .int .i64 u.1)]) (fun u w' => u.1 ≤ 1 ∧ GLe h12 u.2.2.2 ∧ ArrAt (k + 2) u.2.2.2 u.2.1 u.2.2.1 ∧ u.2.2.1 = (if u.1 = 0 then av else av) ∧ Sees w h u.2.2.2 [⟨some ⟨b3, 0, none⟩, 1, 1, 39, 9, .slice none 0 0 :: vecCells 0 (.slice none 0 0) 0 (.slice none 0 0) (.slice none 0 0) (.slice none 0 0) (.slice none 0 0) (.slice none 0 0)⟩, ⟨some ⟨b2, 0, none⟩, 1, 1, 39, 9, u.2.1⟩, ⟨some ⟨b1, 0, none⟩, 1, 1, 39, 9, .slice adc c.shape.length cpc :: vecCells c.vec.kind wc nc sc ic fc gc xc⟩] w') (fun u => 1 - u.1) (0, _, av, hh) ⟨rfl, rfl, rfl, rfl, rfl, rfl, rfl, rfl, rfl, rfl, rfl, rfl, trivial⟩ ⟨by omega, hg, hA13, by rw [if_pos rfl], hs⟩ ?_
  rintro ⟨i, cs14, cu, h14⟩ w14 ⟨hi2, hg2, ha14, hcu, hs⟩
  dsimp only at hi2 hg2 ha14 hcu hs ⊢
  have hA14 := ha14
  obtain ⟨_, vc14, rfl, ⟨ad14, cp14, rfl, hS14⟩, hv14⟩ := ha14
  have hv14' := hv14
  obtain ⟨wv14, nv14, sm14, il14, fl14, ch14, bx14, ⟨rfl, hoc14⟩, -⟩ := hv14
  have hc14 := hS14.caps
  by_cases hlt2 : i = 0
  rotate_left
  · obtain rfl : i = 1 := by omega
    rw [if_neg (by omega)] at hcu
    subst cu
    refine Zerun ?_
    exact loopQ_round (1 + 1, _, av, h14) ⟨rfl, rfl, rfl, rfl, rfl, rfl, rfl, rfl, trivial⟩ ⟨by dsimp only; omega, hg2, hA14, by dsimp only; rw [if_neg (by omega)], hs⟩ (by dsimp only; omega)
  subst hlt2
  rw [if_pos rfl] at hcu
  subst cu
  have hSl := hSl.mono hg2
  have hSS := hSS.mono hg2
  refine Zerun ?_
  refine CW.regionQ T hs (Zeqrun ?_) (by kernel_rfl)
  refine QW.val (fun _ _ => yields_eqv (u2 := .bool true) (Y.neqB T rfl rfl rfl) (congrArg Value.bool (neq_tf (by omega)))) rfl ?_
  refine Zeqrun ?_
  intro w15 hs
  refine Zerun ?_
  exact loopQ_round (1, _, av, h14) ⟨rfl, rfl, rfl, rfl, rfl, rfl, rfl, rfl, rfl, rfl, rfl, rfl, trivial⟩ ⟨by dsimp only; omega, hg2, hA14, by dsimp only; rw [if_neg (by omega)], hs⟩ (by dsimp only; omega)
end Go.Proofs.YtmojpbfkpggjhaaGreat

/-
  Contract of reshape.Drop with one count along the first axis. No statement is proved here.
-/
namespace Go.Proofs.YtmojpbfkpggjhaaGreat
open Go Go.RowKit
set_option linter.unusedVariables false
set_option linter.unusedSimpArgs false
set_option maxHeartbeats 4000000
attribute [local irreducible] CW RW QW SW HW ConM retM heldQ calmQ elemP thenQ blockQ loopQ joinQ retQ Yields Con Sl zF magR unitF truncF fwF wholeF tidySpec elemQ rankF leastN tidyW
set_option maxHeartbeats 4000000

end Go.Proofs.YtmojpbfkpggjhaaGreat

/-
  Contracts of the law's own functions of layer 6, first part. No statement is proved here.
-/
namespace Go.Proofs.YtmojpbfkpggjhaaGreat
open Go Go.RowKit
set_option linter.unusedVariables false
set_option linter.unusedSimpArgs false
set_option maxHeartbeats 4000000
attribute [local irreducible] CW RW QW SW HW ConM retM heldQ calmQ elemP thenQ blockQ loopQ joinQ retQ Yields Con Sl


end Go.Proofs.YtmojpbfkpggjhaaGreat

/-
  Contracts of the law's own functions of layer 6, fifth part: all indexes in order. No statement is proved here.
-/
namespace Go.Proofs.YtmojpbfkpggjhaaGreat
open Go Go.RowKit
set_option linter.unusedVariables false
set_option linter.unusedSimpArgs false
set_option maxHeartbeats 4000000
attribute [local irreducible] CW RW QW SW HW ConM retM heldQ calmQ elemP thenQ blockQ loopQ joinQ retQ Yields Con Sl

theorem IntsAt.one {h : GHeap} {u : Value} {x : List Int} (hi : IntsAt h u x) : u.oneCell' = true := by
  obtain ⟨ad, cp, rfl, _⟩ := hi; rfl

end Go.Proofs.YtmojpbfkpggjhaaGreat

/-
  Contract of package pick: places taken so often as counts say. No statement is proved here.
-/
namespace Go.Proofs.YtmojpbfkpggjhaaGreat
open Go Go.RowKit
set_option linter.unusedVariables false
set_option linter.unusedSimpArgs false
set_option maxHeartbeats 4000000
attribute [local irreducible] CW RW QW SW HW ConM retM heldQ calmQ elemP thenQ blockQ loopQ joinQ retQ Yields Con Sl zF magR unitF truncF fwF wholeF tidySpec elemQ rankF leastN tidyW
set_option maxHeartbeats 4000000

section
variable {α : Type} {R : GHeap → List Value → α → Prop}
end
end Go.Proofs.YtmojpbfkpggjhaaGreat

/-
  Contract of the example of layer 15. No statement is proved here.
-/
namespace Go.Proofs.YtmojpbfkpggjhaaGreat
open Go Go.RowKit
set_option linter.unusedVariables false
set_option linter.unusedSimpArgs false
set_option maxHeartbeats 4000000
attribute [local irreducible] CW RW QW SW HW ConM retM heldQ calmQ elemP thenQ blockQ loopQ joinQ retQ Yields Con Sl zF magR unitF truncF fwF wholeF tidySpec elemQ rankF leastN tidyW
set_option maxHeartbeats 4000000

end Go.Proofs.YtmojpbfkpggjhaaGreat

/-
  Contract of the document's answer of layer 15: items picked along an axis. No statement is proved here.
-/
namespace Go.Proofs.YtmojpbfkpggjhaaGreat
open Go Go.RowKit
set_option linter.unusedVariables false
set_option linter.unusedSimpArgs false
set_option maxHeartbeats 4000000
attribute [local irreducible] CW RW QW SW HW ConM retM heldQ calmQ elemP thenQ blockQ loopQ joinQ retQ Yields Con Sl zF magR unitF truncF fwF wholeF tidySpec elemQ rankF leastN tidyW
set_option maxHeartbeats 4000000

section
variable {β : Type} {R : GHeap → List Value → β → Prop}
end
end Go.Proofs.YtmojpbfkpggjhaaGreat

/-
  Contracts of the law's own functions of layer 8: elements cut, repeated and turned. No statement is proved here.
-/
namespace Go.Proofs.YtmojpbfkpggjhaaGreat
open Go Go.RowKit
set_option linter.unusedVariables false
set_option linter.unusedSimpArgs false
set_option maxHeartbeats 4000000
attribute [local irreducible] CW RW QW SW HW ConM retM heldQ calmQ elemP thenQ blockQ loopQ joinQ retQ Yields Con Sl zF magR unitF truncF fwF wholeF tidySpec elemQ rankF leastN tidyW
set_option maxHeartbeats 8000000

theorem AllN.drop {α : Type} {sz : Nat} {R : List Value → α → Prop} : ∀ (j : Nat) {xs : List Value} {l : List α}, AllN sz R xs l → AllN sz R (xs.drop (j * sz)) (l.drop j)
  | 0, xs, l, h => by simpa using h
  | j + 1, xs, [], h => by have : xs = [] := h; rw [this]; simp; rfl
  | j + 1, xs, a :: l, h => by
    have := AllN.drop j h.2.2
    rw [List.drop_drop] at this
    rw [List.drop_succ_cons, Nat.add_mul, Nat.one_mul, Nat.add_comm]
    exact this
theorem AllN.take {α : Type} {sz : Nat} {R : List Value → α → Prop} : ∀ (j : Nat) {xs : List Value} {l : List α}, AllN sz R xs l → AllN sz R (xs.take (j * sz)) (l.take j)
  | 0, xs, l, h => by simp; rfl
  | j + 1, xs, [], h => by have : xs = [] := h; rw [this]; simp; rfl
  | j + 1, xs, a :: l, h => by
    have h2 := AllN.take j h.2.2
    have h1 := h.1
    have e : (xs.take ((j + 1) * sz)).take sz = xs.take sz := by rw [List.take_take, Nat.add_mul, Nat.one_mul, Nat.min_eq_left (by omega)]
    refine ⟨by rw [e]; exact h1, by rw [e]; exact h.2.1, ?_⟩
    rw [List.drop_take, Nat.add_mul, Nat.one_mul, Nat.add_sub_cancel]
    exact h2
theorem RowsAt.sub {α : Type} {sz : Nat} {R : List Value → α → Prop} {h : GHeap} {ad : Option Addr} {n cp x y : Nat} {l : List α} (hl : RowsAt sz R h (.slice ad n cp) l) (hx : x ≤ y) (hy : y ≤ l.length) : RowsAt sz R h (.slice (subAd ad x cp sz) (y - x) (cp - x)) ((l.drop x).take (y - x)) := by
  obtain ⟨ad', cp', xs, e, hS, hA⟩ := hl
  cases e
  have h1 := (hS.from x (by omega)).take (y - x) (by omega)
  have hlen : ((l.drop x).take (y - x)).length = y - x := by simp; omega
  refine ⟨_, _, _, by rw [hlen], by rw [hlen]; exact h1, ?_⟩
  exact (hA.drop x).take (y - x)
end Go.Proofs.YtmojpbfkpggjhaaGreat

/-
  Contract of the law's own function of layer 15: elements picked along an axis. No statement is proved here.
-/
namespace Go.Proofs.YtmojpbfkpggjhaaGreat
open Go Go.RowKit
set_option linter.unusedVariables false
set_option linter.unusedSimpArgs false
set_option maxHeartbeats 4000000
attribute [local irreducible] CW RW QW SW HW ConM retM heldQ calmQ elemP thenQ blockQ loopQ joinQ retQ Yields Con Sl zF magR unitF truncF fwF wholeF tidySpec elemQ rankF leastN tidyW
set_option maxHeartbeats 4000000

section
variable {P : Program} {n : Nat} {L : Env} {w : World} {ty : TypeId} {x y : Operand} {t yt : TypeId}
end
end Go.Proofs.YtmojpbfkpggjhaaGreat

/-
  Contracts of the document's answer of layer 22: axes that an array lacks. No statement is proved here.
-/
namespace Go.Proofs.YtmojpbfkpggjhaaGreat
open Go Go.RowKit
set_option linter.unusedVariables false
set_option linter.unusedSimpArgs false
set_option maxHeartbeats 4000000
attribute [local irreducible] CW RW QW SW HW ConM retM heldQ calmQ elemP thenQ blockQ loopQ joinQ retQ Yields Con Sl zF magR unitF truncF fwF wholeF tidySpec elemQ rankF leastN tidyW
set_option maxHeartbeats 4000000

end Go.Proofs.YtmojpbfkpggjhaaGreat

/-
  Contract of the document's answer of layer 22: arrays behind each other. No statement is proved here.
-/
namespace Go.Proofs.YtmojpbfkpggjhaaGreat
open Go Go.RowKit
set_option linter.unusedVariables false
set_option linter.unusedSimpArgs false
set_option maxHeartbeats 4000000
attribute [local irreducible] CW RW QW SW HW ConM retM heldQ calmQ elemP thenQ blockQ loopQ joinQ retQ Yields Con Sl zF magR unitF truncF fwF wholeF tidySpec elemQ rankF leastN tidyW
set_option maxHeartbeats 4000000

end Go.Proofs.YtmojpbfkpggjhaaGreat

/-
  Contracts of lists of arrays behind each other: the code's and the document's; and the plain law that both tell the same. No statement is proved here.
-/
namespace Go.Proofs.YtmojpbfkpggjhaaGreat
open Go Go.RowKit
set_option linter.unusedVariables false
set_option linter.unusedSimpArgs false
set_option maxHeartbeats 4000000
attribute [local irreducible] CW RW QW SW HW ConM retM heldQ calmQ elemP thenQ blockQ loopQ joinQ retQ Yields Con Sl zF magR unitF truncF fwF wholeF tidySpec elemQ rankF leastN tidyW
set_option maxHeartbeats 4000000

/-- an array and what it shows -/
structure LOk (k : Nat) (a : ArrD (AD (k + 1))) (p : PlainD (PD (k + 1))) : Prop where
  tl : Tells k a.vec p.items p.fill
  sq : a.vec.sq = a.vec
  sh : a.shape = p.shape
  pr : product a.shape 1048576 = ((a.vec.len : Int), 0)
theorem LOk.list {k : Nat} {a : ArrD (AD (k + 1))} {p : PlainD (PD (k + 1))} (H : LOk k a p) : LOk k (⟨[(a.vec.len : Int)], a.vec⟩ : ArrD (AD (k + 1))) (⟨[(p.items.length : Int)], p.items, p.fill⟩ : PlainD (PD (k + 1))) :=
  ⟨H.tl, H.sq, by show [(a.vec.len : Int)] = [(p.items.length : Int)]; rw [H.tl.ln], product_len1 _ H.tl.sh.vm⟩
/-! ## The answers -/
section
variable {k i : Nat} {most e : Int} {out a r : ArrD (AD (k + 1))} {po p ro : PlainD (PD (k + 1))} {Z : List (ArrD (AD (k + 1)))} {Y1 : List (PlainD (PD (k + 1)))}
end
/-! ## Walks -/
end Go.Proofs.YtmojpbfkpggjhaaGreat

/-
  Contract of the law's own function of layer 22: lists of arrays behind each other. No statement is proved here.
-/
namespace Go.Proofs.YtmojpbfkpggjhaaGreat
open Go Go.RowKit
set_option linter.unusedVariables false
set_option linter.unusedSimpArgs false
set_option maxHeartbeats 4000000
attribute [local irreducible] CW RW QW SW HW ConM retM heldQ calmQ elemP thenQ blockQ loopQ joinQ retQ Yields Con Sl zF magR unitF truncF fwF wholeF tidySpec elemQ rankF leastN tidyW
set_option maxHeartbeats 4000000

theorem arrV_sq2 {α β : Type} (f : α → β) (c : Int) (l : List (ItemD α)) : (arrV f c l).sq = arrV f c l := by
  unfold arrV
  by_cases h1 : c = 1
  · rw [if_pos h1]; exact sqC2 (show (1 : Int) ≠ 0 by decide)
  · rw [if_neg h1]
    by_cases h2 : c = 2
    · rw [if_pos h2]; exact sqC2 (show (2 : Int) ≠ 0 by decide)
    · rw [if_neg h2]
      have hb := leastN_bounds (l.map fun x => tidyW x.num)
      exact sq_nums _ _ (by omega) (by omega)
theorem lok_arr {k : Nat} (p : PD (k + 2)) (h : GHeap) (cs : List Value) (hp : PlainAt (k + 2) h cs p) (hc : chk (k + 2) 40 p = 0) : LOk k (arr (k + 2) p) (tidy (k + 2) p) := by
  obtain ⟨h1, h2⟩ := tells_of k p h cs hp hc
  exact ⟨h1, arrV_sq2 _ _ _, rfl, h2⟩
end Go.Proofs.YtmojpbfkpggjhaaGreat

/-
  Contracts of package reshape and of its reference: shape, tally, ravel, table. No statement is proved here.
-/
namespace Go.Proofs.YtmojpbfkpggjhaaGreat
open Go Go.RowKit
set_option linter.unusedVariables false
set_option linter.unusedSimpArgs false
set_option maxHeartbeats 4000000
attribute [local irreducible] CW RW QW SW HW ConM retM heldQ calmQ elemP thenQ blockQ loopQ joinQ retQ Yields Con Sl zF magR unitF truncF fwF wholeF tidySpec elemQ rankF leastN tidyW
set_option maxHeartbeats 4000000

/-- how many parts there are -/
def tallyN (s : List Int) : Int := if s.length = 0 then 1 else s.getD 0 0
/-- how many elements a part has -/
def partN (s : List Int) : Int := if s.length = 0 then 1 else (product (s.drop 1) 1048576).1
theorem tallyN_rng {s : List Int} (hg : goodS s = true) : 0 ≤ tallyN s ∧ tallyN s ≤ 1048576 := by
  unfold tallyN
  by_cases c : s.length = 0
  · rw [if_pos c]; omega
  · rw [if_neg c]; exact good_le s hg _ (mem_getD s 0 0 (by omega))
theorem table_prod {s : List Int} {n : Int} (h : product s 1048576 = (n, 0)) : product [tallyN s, partN s] 1048576 = (n, 0) := by
  have hg : goodS s = true := (goodS_iff _).2 (by rw [h])
  cases s with
  | nil =>
    have e : n = 1 := by have h2 : product ([] : List Int) 1048576 = (1, 0) := by decide
                         rw [h2] at h; exact (congrArg Prod.fst h).symm
    rw [e]
    decide
  | cons d S =>
    obtain ⟨h1, h2, h3⟩ := (goodS_spec _).1 hg
    have hp0 : pr (d :: S) = max 1 d * pr S := rfl
    have hp1 := pr_drop_le (d :: S) 1
    have hgS : goodS S = true := (goodS_spec _).2 ⟨by rw [List.length_cons] at h1; omega, fun e he => h2 e (List.mem_cons_of_mem _ he), by rw [List.drop_one, List.tail_cons] at hp1; omega⟩
    have e1 : tallyN (d :: S) = d := by unfold tallyN; rw [if_neg (by simp)]; rfl
    have e2 : partN (d :: S) = if 0 ∈ S then 0 else pr S := by
      unfold partN
      rw [if_neg (by simp), List.drop_one, List.tail_cons, product_good S hgS]
    have hd := h2 d List.mem_cons_self
    have hpS := pr_pos S
    rw [e1, e2]
    rw [product_good _ hg] at h
    have h := (congrArg Prod.fst h).symm
    dsimp only at h
    have pr2 : ∀ m : Int, pr [d, m] = max 1 d * (max 1 m * 1) := fun m => rfl
    by_cases c : 0 ∈ S
    · rw [if_pos c]
      rw [if_pos (List.mem_cons_of_mem _ c)] at h
      have hle : max 1 d * 1 ≤ max 1 d * pr S := Int.mul_le_mul_of_nonneg_left hpS (by omega)
      have hg2 : goodS [d, 0] = true := (goodS_spec _).2 ⟨by simp, fun e he => by rcases List.mem_cons.1 he with rfl | he; exact hd; rw [List.mem_singleton.1 he]; omega, by rw [pr2, show (max 1 (0 : Int) * 1) = 1 by decide]; omega⟩
      rw [product_good _ hg2, if_pos (by simp), h]
    · rw [if_neg c]
      have hm : max 1 (pr S) * 1 = pr S := by omega
      have hg2 : goodS [d, pr S] = true := (goodS_spec _).2 ⟨by simp, fun e he => by rcases List.mem_cons.1 he with rfl | he; exact hd; rw [List.mem_singleton.1 he]; omega, by rw [pr2, hm]; omega⟩
      rw [product_good _ hg2, h]
      by_cases c0 : d = 0
      · rw [if_pos (by rw [c0]; simp), if_pos (by rw [c0]; simp)]
      · rw [if_neg (by simp; omega), if_neg (by simp; exact ⟨fun e => c0 e.symm, c⟩), pr2, hm, hp0]
theorem reShape_con (k : Nat) (ca : List Value) (a : ArrD (AD k)) (w : World) (h : GHeap) (ha : ArrAt (k + 1) h ca a) (hg : goodS a.shape = true) : Con Tryz.prog 14 [.agg ca.toArray] w h (fun h' u => ∃ cs', u = .agg cs'.toArray ∧ ArrAt (k + 1) h' cs' (numsA k (a.shape.map fwF))) := by
  obtain ⟨_, vca, rfl, ⟨ada, cpa, rfl, hSa⟩, hva⟩ := ha
  obtain ⟨wa, na, sa, ia, fa, ga, xa, ⟨rfl, hoa⟩, -⟩ := hva
  obtain ⟨l, hl⟩ : ∃ l, a.shape = l := ⟨_, rfl⟩
  rw [hl] at hg hSa ⊢
  have h8 := ((goodS_spec _).1 hg).1
  refine Con.of_body Tryz.func14 rfl Tryz.ntmps14 rfl rfl ?_
  intro hs
  refine Zrun ?_
  (refine RW.boxN hs rfl rfl ?_; intro b1 w1 hs)
  (refine RW.allocN T hs rfl rfl rfl rfl ?_; intro b2 w2 hs)
  refine Zerun ?_
  (refine RW.make1 T hs rfl rfl rfl rfl rfl rfl rfl (by dsimp only; omega) (by omega) ?_; intro b3 w3 hs)
  have hs := hs.re (ys := (((l.take 0).map fun n => n) ++ List.replicate (l.length - 0) 0).map (Value.int .i64)) (by rw [List.map_append, List.map_replicate]; rfl)
  refine Zerun ?_
  refine CW.loop (fun i : Nat => [(2, .pointer (some ⟨b2, 0, none⟩)), (3, .slice (some ⟨b3, 0, none⟩) l.length l.length), (13, .slice ada l.length cpa), (14, .int .i64 l.length), (15, .int .i64 i)]) (fun i w' => i ≤ l.length ∧ Sees w h h [⟨some ⟨b3, 0, none⟩, l.length, l.length, 2, 1, (((l.take i).map fun n => n) ++ List.replicate (l.length - i) 0).map (Value.int .i64)⟩, ⟨some ⟨b2, 0, none⟩, 1, 1, 39, 9, .slice none 0 0 :: vecCells 0 (.slice none 0 0) 0 (.slice none 0 0) (.slice none 0 0) (.slice none 0 0) (.slice none 0 0) (.slice none 0 0)⟩, ⟨some ⟨b1, 0, none⟩, 1, 1, 39, 9, .slice ada l.length cpa :: vecCells a.vec.kind wa na sa ia fa ga xa⟩] w') (fun i => l.length - i) 0 ⟨rfl, rfl, rfl, rfl, rfl, trivial⟩ ⟨by omega, hs⟩ ?_
  rintro i w3 ⟨hi, hs⟩
  by_cases hlt : i < l.length
  · have gi := map_get (Value.int .i64) l i 0 hlt
    have htm := takeMap (fun n : Int => n) l hlt 0
    have hAl : ((l.take i).map fun n => n).length = i := by rw [List.length_map, List.length_take]; omega
    refine Zerun ?_
    refine RW.val (Y.idxRN T hs 0 rfl rfl rfl rfl rfl rfl hlt) rfl ?_
    refine RW.st1 T hs 0 rfl rfl rfl rfl rfl rfl rfl hlt ?_
    intro w4 hs
    dsimp only [List.set_cons_zero, List.set_cons_succ] at hs
    rw [map_set_int, fillA hAl hlt, ← htm] at hs
    refine Zerun ?_
    exact loopQ_round (i + 1) ⟨rfl, rfl, rfl, rfl, seti (by omega), trivial⟩ ⟨by omega, hs⟩ (by omega)
  obtain rfl : i = l.length := by omega
  rw [List.take_length, Nat.sub_self, List.replicate_zero, List.append_nil, List.map_id'] at hs
  obtain ⟨h4, hle4, hs, hS4⟩ := hs.freeze
  dsimp only at hS4
  have hK4 : KAt .i64 h4 (.slice (some ⟨b3, 0, none⟩) l.length l.length) l := RowAt.of_sl hS4
  refine Zerun ?_
  (refine RW.call T hs rfl rfl rfl (vecInts_con (α := AD k) (R := ArrAt k) _ l _ _ hK4 (by omega)) ?_; intro v h5 w5 hle5 hp5 hs)
  obtain ⟨cs5, ok, rfl, hok, hv5⟩ := hp5
  rw [decide_eq_true (fun u hu => by have := good_le l hg u hu; omega)] at hok
  subst hok
  rw [if_pos rfl] at hv5
  have hv5' := hv5
  obtain ⟨wv, nv, sm, il, fl, ch, bx, ⟨rfl, hoc⟩, -⟩ := hv5
  refine Zerun ?_
  (refine RW.allocN T hs rfl rfl rfl rfl ?_; intro b6 w6 hs)
  (refine RW.storeAll T hs 0 rfl rfl rfl rfl rfl rfl hoc rfl ?_; intro w7 hs)
  refine Zerun ?_
  (refine RW.call T hs rfl rfl rfl (valueList_con (ArrAt.mono k) _ _ _ _ hv5' (by show (l.map fwF).length + 0 + 0 ≤ 1048576; rw [List.length_map]; omega)) ?_; intro v h8 w8 hle8 hp8 hs)
  obtain ⟨cs8, rfl, ha8⟩ := hp8
  rw [sq_nums3] at ha8
  have ha8' : ArrAt (k + 1) h8 cs8 (numsA k (l.map fwF)) := ha8
  obtain ⟨_, vc8, rfl, ⟨ad8, cp8, rfl, _⟩, hv8⟩ := ha8
  obtain ⟨wv8, nv8, sm8, il8, fl8, ch8, bx8, ⟨rfl, hoc8⟩, -⟩ := hv8
  refine Zerun ?_
  (refine RW.storeAll T hs 1 rfl rfl rfl rfl rfl rfl (by show (Value.oneCell' (.slice ad8 _ cp8) && (vecCells _ wv8 nv8 sm8 il8 fl8 ch8 bx8).all Value.oneCell') = true; rw [hoc8]; rfl) rfl ?_; intro w9 hs)
  refine Zerun ?_
  exact retQ_ret [_] h8 ⟨resN T hs 1 rfl rfl rfl rfl rfl rfl, trivial⟩ hs.dropAll ⟨_, rfl, ha8'⟩
theorem reTally_con (k : Nat) (ca : List Value) (a : ArrD (AD k)) (w : World) (h : GHeap) (ha : ArrAt (k + 1) h ca a) (hg : goodS a.shape = true) : Con Tryz.prog 16 [.agg ca.toArray] w h (fun h' u => ∃ cs', u = .agg cs'.toArray ∧ ArrAt (k + 1) h' cs' (numA k (fwF (tallyN a.shape)))) := by
  obtain ⟨_, vca, rfl, ⟨ada, cpa, rfl, hSa⟩, hva⟩ := ha
  obtain ⟨wa, na, sa, ia, fa, ga, xa, ⟨rfl, hoa⟩, -⟩ := hva
  obtain ⟨l, hl⟩ : ∃ l, a.shape = l := ⟨_, rfl⟩
  have hrg := tallyN_rng hg
  rw [hl] at hg hSa hrg ⊢
  have hcap := hSa.caps
  have hfd := fwF_spec (tallyN l) (by omega)
  refine Con.of_body Tryz.func16 rfl Tryz.ntmps16 rfl rfl ?_
  intro hs
  refine Zrun ?_
  (refine RW.boxN hs rfl rfl ?_; intro b1 w1 hs)
  (refine RW.allocN T hs rfl rfl rfl rfl ?_; intro b2 w2 hs)
  refine Zerun ?_
  refine CW.meet (fun u : Unit => [(2, .pointer (some ⟨b2, 0, none⟩)), (3, .int .i64 (tallyN l))]) (fun _ w' => Sees w h h [⟨some ⟨b2, 0, none⟩, 1, 1, 39, 9, .slice none 0 0 :: vecCells 0 (.slice none 0 0) 0 (.slice none 0 0) (.slice none 0 0) (.slice none 0 0) (.slice none 0 0) (.slice none 0 0)⟩, ⟨some ⟨b1, 0, none⟩, 1, 1, 39, 9, .slice ada l.length cpa :: vecCells a.vec.kind wa na sa ia fa ga xa⟩] w') ?_ ?_
  · by_cases c : l.length = 0
    · have c' : ¬ (0 : Int) < (l.length : Int) := by omega
      have e : tallyN l = 1 := if_pos c
      refine Zerun ?_
      exact joinQ_meet () ⟨rfl, by rw [e]; rfl, trivial⟩ (hs)
    · have c' : (0 : Int) < (l.length : Int) := by omega
      have e : tallyN l = l.getD 0 0 := if_neg c
      have g0 := map_get (Value.int .i64) l 0 0 (by omega)
      have hpos0 : 0 < l.length := by omega
      refine Zerun ?_
      exact joinQ_meet () ⟨rfl, by rw [e]; rfl, trivial⟩ (hs)
  rintro ⟨⟩ w3 hs
  obtain ⟨n, hn⟩ : ∃ n, tallyN l = n := ⟨_, rfl⟩
  rw [hn] at hrg hfd ⊢
  refine Zerun ?_
  refine RW.val (Y.convIF T rfl rfl rfl) rfl ?_
  refine Zerun ?_
  obtain ⟨wd, hwd⟩ : ∃ wd, fwF n = wd := ⟨_, rfl⟩
  rw [hwd] at hfd ⊢
  (refine RW.call T hs rfl rfl rfl (valueNum_con (α := AD k) (R := ArrAt k) (ArrAt.mono k) wd _ _ hfd.1.1) ?_; intro v h5 w5 hle5 hp5 hs)
  obtain ⟨cs5, rfl, ha5⟩ := hp5
  rw [if_pos hfd.1.2.1, tidyWj hfd.1] at ha5
  rw [decide_eq_true hfd.1.2.1]
  have ha5' : ArrAt (k + 1) h5 cs5 (numA k wd) := ha5
  obtain ⟨_, vc5, rfl, ⟨ad5, cp5, rfl, _⟩, hv5⟩ := ha5
  obtain ⟨wv5, nv5, sm5, il5, fl5, ch5, bx5, ⟨rfl, hoc5⟩, -⟩ := hv5
  refine Zerun ?_
  (refine RW.allocN T hs rfl rfl rfl rfl ?_; intro b6 w6 hs)
  (refine RW.storeAll T hs 0 rfl rfl rfl rfl rfl rfl (by show (Value.oneCell' (.slice ad5 _ cp5) && (vecCells _ wv5 nv5 sm5 il5 fl5 ch5 bx5).all Value.oneCell') = true; rw [hoc5]; rfl) rfl ?_; intro w7 hs)
  refine Zerun ?_
  (refine RW.storeAll T hs 1 rfl rfl rfl rfl rfl rfl (by show (Value.oneCell' (.slice ad5 _ cp5) && (vecCells _ wv5 nv5 sm5 il5 fl5 ch5 bx5).all Value.oneCell') = true; rw [hoc5]; rfl) rfl ?_; intro w8 hs)
  refine Zerun ?_
  exact retQ_ret [_] h5 ⟨resN T hs 1 rfl rfl rfl rfl rfl rfl, trivial⟩ hs.dropAll ⟨_, rfl, ha5'⟩
theorem reRavel_con (k : Nat) (ca : List Value) (a : ArrD (AD k)) (w : World) (h : GHeap) (ha : ArrAt (k + 1) h ca a) (hm : a.vec.len ≤ 1048576) : Con Tryz.prog 18 [.agg ca.toArray] w h (fun h' u => ∃ cs', u = .agg cs'.toArray ∧ ArrAt (k + 1) h' cs' (⟨[(a.vec.len : Int)], a.vec.sq⟩ : ArrD (AD k))) := by
  obtain ⟨_, vca, rfl, ⟨ada, cpa, rfl, hSa⟩, hva⟩ := ha
  have hva' := hva
  obtain ⟨wa, na, sa, ia, fa, ga, xa, ⟨rfl, hoa⟩, -⟩ := hva
  refine Con.of_body Tryz.func18 rfl Tryz.ntmps18 rfl rfl ?_
  intro hs
  refine Zrun ?_
  (refine RW.boxN hs rfl rfl ?_; intro b1 w1 hs)
  (refine RW.allocN T hs rfl rfl rfl rfl ?_; intro b2 w2 hs)
  refine Zerun ?_
  (refine RW.call T hs rfl rfl rfl (valueList_con (ArrAt.mono k) _ _ _ _ hva' hm) ?_; intro v h8 w8 hle8 hp8 hs)
  obtain ⟨cs8, rfl, ha8⟩ := hp8
  have ha8' : ArrAt (k + 1) h8 cs8 (⟨[(a.vec.len : Int)], a.vec.sq⟩ : ArrD (AD k)) := ha8
  obtain ⟨_, vc8, rfl, ⟨ad8, cp8, rfl, _⟩, hv8⟩ := ha8
  obtain ⟨wv8, nv8, sm8, il8, fl8, ch8, bx8, ⟨rfl, hoc8⟩, -⟩ := hv8
  refine Zerun ?_
  (refine RW.storeAll T hs 0 rfl rfl rfl rfl rfl rfl (by show (Value.oneCell' (.slice ad8 _ cp8) && (vecCells _ wv8 nv8 sm8 il8 fl8 ch8 bx8).all Value.oneCell') = true; rw [hoc8]; rfl) rfl ?_; intro w9 hs)
  refine Zerun ?_
  exact retQ_ret [_] h8 ⟨resN T hs 0 rfl rfl rfl rfl rfl rfl, trivial⟩ hs.dropAll ⟨_, rfl, ha8'⟩
theorem reTable_con (k : Nat) (ca : List Value) (a : ArrD (AD k)) (w : World) (h : GHeap) (ha : ArrAt (k + 1) h ca a) (hg : goodS a.shape = true) : Con Tryz.prog 19 [.agg ca.toArray] w h (fun h' u => ∃ cs', u = .agg cs'.toArray ∧ ArrAt (k + 1) h' cs' (⟨[tallyN a.shape, partN a.shape], a.vec⟩ : ArrD (AD k))) := by
  obtain ⟨_, vca, rfl, ⟨ada, cpa, rfl, hSa⟩, hva⟩ := ha
  have hva' := hva
  obtain ⟨wa, na, sa, ia, fa, ga, xa, ⟨rfl, hoa⟩, -⟩ := hva
  obtain ⟨l, hl⟩ : ∃ l, a.shape = l := ⟨_, rfl⟩
  rw [hl] at hg hSa ⊢
  have hcap := hSa.caps
  have h8 := ((goodS_spec _).1 hg).1
  refine Con.of_body Tryz.func19 rfl Tryz.ntmps19 rfl rfl ?_
  intro hs
  refine Zrun ?_
  (refine RW.boxN hs rfl rfl ?_; intro b1 w1 hs)
  (refine RW.allocN T hs rfl rfl rfl rfl ?_; intro b2 w2 hs)
  refine Zerun ?_
  refine CW.meet (fun u : Unit => [(1, .pointer (some ⟨b1, 0, none⟩)), (2, .pointer (some ⟨b2, 0, none⟩)), (3, .int .i64 (tallyN l))]) (fun _ w' => Sees w h h [⟨some ⟨b2, 0, none⟩, 1, 1, 39, 9, .slice none 0 0 :: vecCells 0 (.slice none 0 0) 0 (.slice none 0 0) (.slice none 0 0) (.slice none 0 0) (.slice none 0 0) (.slice none 0 0)⟩, ⟨some ⟨b1, 0, none⟩, 1, 1, 39, 9, .slice ada l.length cpa :: vecCells a.vec.kind wa na sa ia fa ga xa⟩] w') ?_ ?_
  · by_cases c : l.length = 0
    · have c' : ¬ (0 : Int) < (l.length : Int) := by omega
      have e : tallyN l = 1 := if_pos c
      refine Zerun ?_
      exact joinQ_meet () ⟨rfl, rfl, by rw [e]; rfl, trivial⟩ hs
    · have c' : (0 : Int) < (l.length : Int) := by omega
      have e : tallyN l = l.getD 0 0 := if_neg c
      have g0 := map_get (Value.int .i64) l 0 0 (by omega)
      have hpos0 : 0 < l.length := by omega
      refine Zerun ?_
      exact joinQ_meet () ⟨rfl, rfl, by rw [e]; rfl, trivial⟩ hs
  rintro ⟨⟩ w3 hs
  refine Zerun ?_
  refine CW.meet (fun u : GHeap => [(1, .pointer (some ⟨b1, 0, none⟩)), (2, .pointer (some ⟨b2, 0, none⟩)), (3, .int .i64 (tallyN l)), (4, .int .i64 (partN l))]) (fun u w' => GLe h u ∧ Sees w h u [⟨some ⟨b2, 0, none⟩, 1, 1, 39, 9, .slice none 0 0 :: vecCells 0 (.slice none 0 0) 0 (.slice none 0 0) (.slice none 0 0) (.slice none 0 0) (.slice none 0 0) (.slice none 0 0)⟩, ⟨some ⟨b1, 0, none⟩, 1, 1, 39, 9, .slice ada l.length cpa :: vecCells a.vec.kind wa na sa ia fa ga xa⟩] w') ?_ ?_
  · by_cases c : l.length = 0
    · have c' : ¬ (0 : Int) < (l.length : Int) := by omega
      have e2 : partN l = 1 := if_pos c
      refine Zerun ?_
      exact joinQ_meet h ⟨rfl, rfl, rfl, by rw [e2]; rfl, trivial⟩ ⟨GLe.refl _, hs⟩
    · have c' : (0 : Int) < (l.length : Int) := by omega
      have e2 : partN l = (product (l.drop 1) 1048576).1 := if_neg c
      refine Zerun ?_
      refine RW.val (Y.sliceLo T rfl rfl rfl rfl (by omega) (by omega)) rfl ?_
      have hT2 : IntsAt h (.slice (subAd ada 1 cpa 1) (l.length - 1) (cpa - 1)) (l.drop 1) := by
        have := hSa.from 1 (by omega)
        rw [Nat.mul_one, ← List.map_drop] at this
        exact IntsAt.of_sl this
      (refine RW.call T hs rfl rfl rfl (product_con _ (l.drop 1) 1048576 _ _ hT2 (by simp; omega)) ?_; intro v h4 w4 hle4 hp4 hs)
      subst hp4
      refine Zerun ?_
      exact joinQ_meet h4 ⟨rfl, rfl, rfl, by rw [e2]; rfl, trivial⟩ ⟨hle4, hs⟩
  rintro h5 w5 ⟨g5, hs⟩
  have hva' := hva'.mono (ArrAt.mono k) g5
  refine Zerun ?_
  (refine RW.lit T hs (vs := [.int .i64 (tallyN l), .int .i64 (partN l)]) (cs := [.int .i64 (tallyN l), .int .i64 (partN l)]) rfl rfl rfl rfl (by simp [Value.cells]) rfl rfl rfl rfl rfl ?_; intro b6 w6 hs)
  obtain ⟨h6, hle6, hs, hS6⟩ := hs.freeze
  have hI6 : IntsAt h6 (.slice (some ⟨b6, 0, none⟩) 2 2) [tallyN l, partN l] := IntsAt.of_sl hS6
  have hva' := hva'.mono (ArrAt.mono k) hle6
  refine Zerun ?_
  refine RW.val (Y.build T rfl rfl rfl rfl rfl rfl rfl) rfl ?_
  (refine RW.storeAll T hs 0 rfl rfl rfl rfl rfl rfl (by show (true && (vecCells a.vec.kind wa na sa ia fa ga xa).all Value.oneCell') = true; rw [hoa]; rfl) rfl ?_; intro w8 hs)
  refine Zerun ?_
  exact retQ_ret [_] h6 ⟨resN T hs 0 rfl rfl rfl rfl rfl rfl, trivial⟩ hs.dropAll ⟨_, rfl, _, _, rfl, hI6, hva'⟩
theorem ref20Shape_con {α : Type} {R : GHeap → List Value → α → Prop} (hR : Mono R) (cp0 : List Value) (p : PlainD α) (w : World) (h : GHeap) (hp : PlainR R h cp0 p) (hg : goodS p.shape = true) : Con Tryz.prog 15 [.agg cp0.toArray] w h (fun h' u => ∃ cs', u = .agg cs'.toArray ∧ PlainR R h' cs' (numsP (p.shape.map fwF))) := by
  obtain ⟨_, it, rfl, ⟨ad, cp, rfl, hS⟩, ⟨ad3, cp3, xs3, rfl, _, _⟩⟩ := hp
  have hfl : ∃ fl, p.fill = fl := ⟨_, rfl⟩
  obtain ⟨fl, hfl⟩ := hfl
  have hil : ∃ il, p.items.length = il := ⟨_, rfl⟩
  obtain ⟨il, hil⟩ := hil
  obtain ⟨l, hl⟩ : ∃ l, p.shape = l := ⟨_, rfl⟩
  rw [hl] at hg hS ⊢
  rw [hfl, hil]
  have h8 := ((goodS_spec _).1 hg).1
  refine Con.of_body Tryz.func15 rfl Tryz.ntmps15 rfl rfl ?_
  intro hs
  refine Zrun ?_
  (refine RW.boxN hs rfl rfl ?_; intro b1 w1 hs)
  (refine RW.allocN T hs rfl rfl rfl rfl ?_; intro b2 w2 hs)
  have hs := hs.nilRow 46 1
  refine Zerun ?_
  refine CW.loop (fun u : Nat × (Option Addr × Nat) => [(1, .pointer (some ⟨b1, 0, none⟩)), (2, .pointer (some ⟨b2, 0, none⟩)), (3, .slice u.2.1 u.1 u.2.2), (4, .int .i64 u.1)]) (fun u w' => u.1 ≤ l.length ∧ Sees w h h [⟨u.2.1, u.1, u.2.2, 46, 1, (((l.take u.1).map fwF)).map (Value.float .f64)⟩, ⟨some ⟨b2, 0, none⟩, 1, 1, 25, 3, [.slice none 0 0, .slice none 0 0, .int .i64 0]⟩, ⟨some ⟨b1, 0, none⟩, 1, 1, 25, 3, [.slice ad l.length cp, .slice ad3 il cp3, .int .i64 fl]⟩] w') (fun u => l.length - u.1) (0, (none, 0)) ⟨rfl, rfl, rfl, rfl, trivial⟩ ⟨by omega, hs⟩ ?_
  rintro ⟨i, ⟨ai, ci⟩⟩ w5 ⟨hi, hs⟩
  dsimp only at hi hs ⊢
  by_cases hlt : i < l.length
  · have gi := map_get (Value.int .i64) l i 0 hlt
    have hri := good_le l hg _ (mem_getD l i 0 hlt)
    have htm := takeMap fwF l hlt 0
    obtain ⟨e, he⟩ : ∃ e, l.getD i 0 = e := ⟨_, rfl⟩
    rw [he] at gi hri htm
    refine Zerun ?_
    rw [he]
    refine RW.val (Y.convIF T rfl rfl rfl) rfl ?_
    (refine RW.lit T hs (vs := [.float .f64 (fwF e)]) (cs := [.float .f64 (fwF e)]) rfl rfl rfl rfl (by simp [Value.cells]) rfl rfl rfl rfl rfl ?_; intro b33 w33 hs)
    (refine RW.append T hs 1 rfl rfl (m := 1) (news := [.float .f64 (fwF e)]) rfl rfl rfl rfl rfl rfl (hs.src0 rfl (by simp [Value.oneCell'])) (by simp) (by dsimp only; omega) (by omega) ?_; intro ad34 cp34 w34 hs; replace hs := hs.drop)
    refine Zerun ?_
    refine loopQ_round (i + 1, (ad34, cp34)) ⟨rfl, rfl, rfl, seti (by dsimp only; omega), trivial⟩ ⟨by dsimp only; omega, ?_⟩ (by dsimp only; omega)
    dsimp only
    rw [htm, List.map_append]
    exact hs
  obtain rfl : i = l.length := by omega
  rw [List.take_length] at hs
  obtain ⟨h8', hle8, hs, hS8⟩ := hs.freeze
  have hln : (l.map fwF).length = l.length := List.length_map ..
  dsimp only at hS8
  rw [← hln] at hS8 ⊢
  have hF : FAt h8' (.slice ai (l.map fwF).length ci) (l.map fwF) := RowAt.of_sl hS8
  have htd : ∀ u ∈ l.map fwF, tidyF u := fun u hu => by
    obtain ⟨n, hn, rfl⟩ := List.mem_map.1 hu
    have := good_le l hg n hn
    exact (fwF_spec n (by omega)).1
  refine Zerun ?_
  (refine RW.call T hs rfl rfl rfl (refNums_con hR _ _ _ _ hF (fun u hu => (htd u hu).1) (by omega)) ?_; intro v h9 w9 hle9 hp9 hs)
  obtain ⟨cs9, rfl, hq9⟩ := hp9
  have hq9' := hq9
  obtain ⟨s9, it9, rfl, ⟨ad9, cp9, rfl, _⟩, ⟨adI9, cpI9, xsI9, rfl, _, _⟩⟩ := hq9
  refine Zerun ?_
  (refine RW.storeAll T hs 0 rfl rfl rfl rfl rfl rfl rfl rfl ?_; intro w10 hs)
  refine Zerun ?_
  exact retQ_ret [_] h9 ⟨resN T hs 0 rfl rfl rfl rfl rfl rfl, trivial⟩ hs.dropAll ⟨_, rfl, hq9'⟩
theorem ref20Table_con {α : Type} {R : GHeap → List Value → α → Prop} (hR : Mono R) (cp0 : List Value) (p : PlainD α) (w : World) (h : GHeap) (hp : PlainR R h cp0 p) (hg : goodS p.shape = true) : Con Tryz.prog 20 [.agg cp0.toArray] w h (fun h' u => ∃ cs', u = .agg cs'.toArray ∧ PlainR R h' cs' ⟨[tallyN p.shape, partN p.shape], p.items, p.fill⟩) := by
  obtain ⟨_, it, rfl, ⟨ad, cp, rfl, hS⟩, hit⟩ := hp
  have hit' := hit
  obtain ⟨ad3, cp3, xs3, rfl, _, _⟩ := hit
  obtain ⟨l, hl⟩ : ∃ l, p.shape = l := ⟨_, rfl⟩
  rw [hl] at hg hS ⊢
  have hcap := hS.caps
  have h8 := ((goodS_spec _).1 hg).1
  refine Con.of_body Tryz.func20 rfl Tryz.ntmps20 rfl rfl ?_
  intro hs
  refine Zrun ?_
  (refine RW.boxN hs rfl rfl ?_; intro b1 w1 hs)
  (refine RW.allocN T hs rfl rfl rfl rfl ?_; intro b2 w2 hs)
  refine Zerun ?_
  refine CW.meet (fun u : GHeap => [(1, .pointer (some ⟨b1, 0, none⟩)), (2, .pointer (some ⟨b2, 0, none⟩)), (3, .int .i64 (tallyN l)), (4, .int .i64 (partN l))]) (fun u w' => GLe h u ∧ Sees w h u [⟨some ⟨b2, 0, none⟩, 1, 1, 25, 3, [.slice none 0 0, .slice none 0 0, .int .i64 0]⟩, ⟨some ⟨b1, 0, none⟩, 1, 1, 25, 3, [.slice ad l.length cp, .slice ad3 p.items.length cp3, .int .i64 p.fill]⟩] w') ?_ ?_
  · by_cases c : l.length = 0
    · have c' : ¬ (0 : Int) < (l.length : Int) := by omega
      have e1 : tallyN l = 1 := if_pos c
      have e2 : partN l = 1 := if_pos c
      refine Zerun ?_
      exact joinQ_meet h ⟨rfl, rfl, by rw [e1]; rfl, by rw [e2]; rfl, trivial⟩ ⟨GLe.refl _, hs⟩
    · have c' : (0 : Int) < (l.length : Int) := by omega
      have e1 : tallyN l = l.getD 0 0 := if_neg c
      have e2 : partN l = (product (l.drop 1) 1048576).1 := if_neg c
      have g0 := map_get (Value.int .i64) l 0 0 (by omega)
      have hpos0 : 0 < l.length := by omega
      have e3 : (product (l.drop 1) 1048576).2 = 0 := by
        have hp1 := pr_drop_le l 1
        obtain ⟨_, g2, g3⟩ := (goodS_spec _).1 hg
        exact (goodS_iff _).1 ((goodS_spec _).2 ⟨by rw [List.length_drop]; omega, fun e he => g2 e (List.mem_of_mem_drop he), by omega⟩)
      refine Zerun ?_
      refine RW.val (Y.sliceLo T rfl rfl rfl rfl (by omega) (by omega)) rfl ?_
      have hT2 : IntsAt h (.slice (subAd ad 1 cp 1) (l.length - 1) (cp - 1)) (l.drop 1) := by
        have := hS.from 1 (by omega)
        rw [Nat.mul_one, ← List.map_drop] at this
        exact IntsAt.of_sl this
      (refine RW.call T hs rfl rfl rfl (refProduct_con _ (l.drop 1) 1048576 _ _ hT2 (by simp; omega)) ?_; intro v h4 w4 hle4 hp4 hs)
      subst hp4
      rw [e3]
      refine Zerun ?_
      exact joinQ_meet h4 ⟨rfl, rfl, by rw [e1]; rfl, by rw [e2]; rfl, trivial⟩ ⟨hle4, hs⟩
  rintro h5 w5 ⟨g5, hs⟩
  have hit' := hit'.mono g5 (fun u a => ItemAt.mono hR _ _ u a g5)
  refine Zerun ?_
  (refine RW.lit T hs (vs := [.int .i64 (tallyN l), .int .i64 (partN l)]) (cs := [.int .i64 (tallyN l), .int .i64 (partN l)]) rfl rfl rfl rfl (by simp [Value.cells]) rfl rfl rfl rfl rfl ?_; intro b6 w6 hs)
  obtain ⟨h6, hle6, hs, hS6⟩ := hs.freeze
  have hI6 : IntsAt h6 (.slice (some ⟨b6, 0, none⟩) 2 2) [tallyN l, partN l] := IntsAt.of_sl hS6
  have hit' := hit'.mono hle6 (fun u a => ItemAt.mono hR _ _ u a hle6)
  refine Zerun ?_
  refine RW.val (Y.build T rfl rfl rfl rfl rfl rfl rfl) rfl ?_
  (refine RW.storeAll T hs 0 rfl rfl rfl rfl rfl rfl rfl rfl ?_; intro w8 hs)
  refine Zerun ?_
  exact retQ_ret [_] h6 ⟨resN T hs 0 rfl rfl rfl rfl rfl rfl, trivial⟩ hs.dropAll ⟨_, rfl, _, _, rfl, hI6, hit'⟩
end Go.Proofs.YtmojpbfkpggjhaaGreat

/-
  Contracts of the law's own functions of layer 20: good plain arrays, arrays shown, the examples. No statement is proved here.
-/
namespace Go.Proofs.YtmojpbfkpggjhaaGreat
open Go Go.RowKit
set_option linter.unusedVariables false
set_option linter.unusedSimpArgs false
set_option maxHeartbeats 4000000
attribute [local irreducible] CW RW QW SW HW ConM retM heldQ calmQ elemP thenQ blockQ loopQ joinQ retQ Yields Con Sl zF magR unitF truncF fwF wholeF tidySpec elemQ rankF leastN tidyW
set_option maxHeartbeats 4000000
set_option maxRecDepth 4000

theorem shows20_con (k : Nat) (cs cp : List Value) (a : AD (k + 1)) (p : PD (k + 1)) (w : World) (h : GHeap) (ha : ArrAt (k + 1) h cs a) (hp : PlainAt (k + 1) h cp p) (hg : good (k + 1) 40 a) (he : plain (k + 1) a = p) (ht : tdy (k + 1) p) : Con Tryz.prog 13 [.agg cs.toArray, .int .i64 0, .agg cp.toArray, .int .i64 0] w h (fun _ u => u = .bool true) := by
  have ha' := ha
  have hp' := hp
  obtain ⟨s, vc, rfl, ⟨ad, cap, rfl, _⟩, hv⟩ := ha
  obtain ⟨wv, nv, sm, il, fl, ch, bx, ⟨rfl, hoc⟩, _⟩ := hv
  obtain ⟨s2, it2, rfl, ⟨ad2, cp2, rfl, _⟩, ⟨ad3, cp3, xs3, rfl, _, _⟩⟩ := hp
  refine Con.of_body Tryz.func13 rfl Tryz.ntmps13 rfl rfl ?_
  intro hs
  refine Zrun ?_
  (refine RW.boxN hs rfl rfl ?_; intro b1 w1 hs)
  refine Zrun ?_
  (refine RW.boxN hs rfl rfl ?_; intro b2 w2 hs)
  refine Zerun ?_
  refine CW.regionO T hs ?_
  intro w5 hs
  refine HW.takeS (fuel := 8) 0 rfl (fun _ _ hs => Y.loadRowN T hs 1 rfl rfl rfl rfl rfl rfl rfl) hs rfl (by kernel_rfl) (by kernel_rfl) (by kernel_rfl) ?_
  refine HW.one (fuel := 7) 1 rfl (by kernel_rfl) ?_
  (refine RW.call T hs rfl rfl rfl (valueGood_con (k + 1) _ a _ _ ha') ?_; intro v h25 w25 hle25 hp25 hs)
  subst hp25
  rw [decB_of hg]
  have ha' := ArrAt.mono (k + 1) _ _ _ _ hle25 ha'
  have hp' := PlainAt.mono (k + 1) _ _ _ _ hle25 hp'
  refine RW.nil ?_
  refine heldQ_normal ⟨_, hs⟩ ?_
  refine HW.takeS (fuel := 6) 2 rfl (fun _ _ hs => Y.move rfl) hs rfl (by kernel_rfl) (by kernel_rfl) (by kernel_rfl) ?_
  refine HW.takeSY (fuel := 5) 3 rfl rfl rfl (fun _ _ hs => Y.loadRowN T hs 1 rfl rfl rfl rfl rfl rfl rfl) hs rfl (by kernel_rfl) (by kernel_rfl) (by kernel_rfl) ?_
  refine HW.takeSY (fuel := 4) 5 rfl rfl rfl (fun _ _ hs => Y.loadRowN T hs 0 rfl rfl rfl rfl rfl rfl rfl) hs rfl (by kernel_rfl) (by kernel_rfl) (by kernel_rfl) ?_
  refine HW.one (fuel := 3) 4 rfl (by kernel_rfl) ?_
  refine RW.guardYes rfl rfl ?_
  (refine RW.call T hs rfl rfl rfl (plainV_con (k + 1) _ a _ _ ha' (good_sml (k + 1) 40 a hg)) ?_; intro v h28 w28 hle28 hp28 hs)
  obtain ⟨cs28, rfl, hq28⟩ := hp28
  rw [he] at hq28
  have hp' := PlainAt.mono (k + 1) _ _ _ _ hle28 hp'
  refine RW.nil ?_
  refine heldQ_normal ⟨_, hs⟩ ?_
  refine HW.one (fuel := 2) 6 rfl (by kernel_rfl) ?_
  refine RW.guardYes rfl rfl ?_
  (refine RW.call T hs rfl rfl rfl (refSame_con (k + 1) _ _ p p _ _ hq28 hp' ht ht) ?_; intro v h30 w30 hle30 hp30 hs)
  subst hp30
  rw [eqB_of (show p = p from rfl)]
  have hp' := PlainAt.mono (k + 1) _ _ _ _ hle30 hp'
  refine RW.nil ?_
  refine heldQ_normal ⟨_, hs⟩ ?_
  refine HW.takeS (fuel := 1) 7 rfl (fun _ _ hs => Y.pickT rfl rfl) hs rfl (by kernel_rfl) (by kernel_rfl) (by kernel_rfl) ?_
  refine HW.takeS (fuel := 0) 8 rfl (fun _ _ hs => Y.assign rfl) hs rfl (by kernel_rfl) (by kernel_rfl) (by kernel_rfl) ?_
  refine HW.done (by kernel_rfl) ?_
  refine calmQ_normal ?_
  refine Zerun ?_
  exact retQ_ret [_] h30 ⟨rfl, trivial⟩ hs.dropAll rfl
theorem fine20_con (k : Nat) (cs : List Value) (p : PD (k + 1)) (w : World) (h : GHeap) (hp : PlainAt (k + 1) h cs p) : Con Tryz.prog 9 [.agg cs.toArray] w h (fun _ u => ∃ b, u = .bool b ∧ (b = true → chk (k + 1) 40 p = 0 ∧ (PlainD.shape (α := PD k) p).length ≤ 8 ∧ (PlainD.items (α := PD k) p).length ≤ 3000)) := by
  have hp' := hp
  obtain ⟨s, it, rfl, ⟨ad0, cp0, rfl, hS0⟩, ⟨ad, cp, xs, rfl, hS, _⟩⟩ := hp
  have hcap := hS0.caps
  refine Con.of_body Tryz.func9 rfl Tryz.ntmps9 rfl rfl ?_
  intro hs
  refine Zrun ?_
  (refine RW.boxN hs rfl rfl ?_; intro b1 w1 hs)
  refine Zerun ?_
  (refine RW.call T hs rfl rfl rfl (refCountB_con 3000 k _ p _ _ hp') ?_; intro v h2 w2 hle2 hp2 hs)
  obtain ⟨r, rfl, hr⟩ := hp2
  by_cases c1 : r ≤ 1500
  · by_cases c2 : (PlainD.shape (α := PD k) p).length ≤ 8
    · refine Zerun ?_
      (refine RW.call T hs rfl rfl rfl (refCheck_con (k + 1) _ p _ _ (PlainAt.mono (k + 1) _ _ _ _ hle2 hp')) ?_; intro v h3 w3 hle3 hp3 hs)
      subst hp3
      refine Zerun ?_
      refine retQ_ret [_] h3 ⟨rfl, trivial⟩ hs.dropAll ⟨_, rfl, fun e => ?_⟩
      have hc := of_decide_eq_true e
      have hh := hr hc (by omega)
      exact ⟨hc, c2, by omega⟩
    · refine Zerun ?_
      exact retQ_ret [_] h2 ⟨rfl, trivial⟩ hs.dropAll ⟨_, rfl, fun e => by cases e⟩
  · refine Zerun ?_
    exact retQ_ret [_] h2 ⟨rfl, trivial⟩ hs.dropAll ⟨_, rfl, fun e => by cases e⟩
theorem shows20E_con {α β : Type} {R : GHeap → List Value → α → Prop} {Rq : GHeap → List Value → β → Prop} (cs cp : List Value) (p : PlainD β) (e : Int) (w : World) (h : GHeap) (he : e = 22 ∨ e = 23 ∨ e = 24 ∨ e = 26) (ha : ArrR R h cs ⟨[], VecD.none⟩) (hp : PlainR Rq h cp p) : Con Tryz.prog 13 [.agg cs.toArray, .int .i64 e, .agg cp.toArray, .int .i64 e] w h (fun _ u => u = .bool true) := by
  obtain ⟨_, vc, rfl, ⟨ad, cap, rfl, _⟩, hv⟩ := ha
  have hv' := hv
  obtain ⟨wv, nv, sm, il, fl, ch, bx, ⟨rfl, hoc⟩, _⟩ := hv
  obtain ⟨s2, it2, rfl, ⟨ad2, cp2, rfl, _⟩, ⟨ad3, cp3, xs3, rfl, _, _⟩⟩ := hp
  rcases he with rfl | rfl | rfl | rfl
  all_goals
    refine Con.of_body Tryz.func13 rfl Tryz.ntmps13 rfl rfl ?_
    intro hs
    refine Zrun ?_
    (refine RW.boxN hs rfl rfl ?_; intro b1 w1 hs)
    refine Zrun ?_
    (refine RW.boxN hs rfl rfl ?_; intro b2 w2 hs)
    refine Zerun ?_
    (refine RW.call T hs rfl rfl rfl (vecKind_con _ VecD.none _ _ hv') ?_; intro v h3 w3 hle3 hp3 hs)
    subst hp3
    refine Zerun ?_
    exact retQ_ret [_] h3 ⟨rfl, trivial⟩ hs.dropAll rfl
theorem shows20X_con (k : Nat) (cs cp : List Value) (e : Int) (a : AD (k + 1)) (p : PD (k + 1)) (w : World) (h : GHeap) (ha : ArrAt (k + 1) h cs a) (hp : PlainAt (k + 1) h cp p) (hr : ResX k e a p) : Con Tryz.prog 13 [.agg cs.toArray, .int .i64 e, .agg cp.toArray, .int .i64 e] w h (fun _ u => u = .bool true) := by
  rcases hr with ⟨rfl, h1, h2, h3⟩ | ⟨he, rfl⟩
  · exact shows20_con k cs cp a p w h ha hp h1 h2 h3
  · exact shows20E_con (α := AD k) (R := ArrAt k) (Rq := PlainAt k) cs cp p e w h he ha hp
/-! ## The examples -/
abbrev wj_7 : Nat := 4619567317775286272
theorem fwj_7 : fwF 7 = wj_7 := by unfold fwF; decide
theorem twj_7 : tidyF wj_7 := by rw [← fwj_7]; exact (fwF_spec 7 (by omega)).1
abbrev wj_8 : Nat := 4620693217682128896
theorem fwj_8 : fwF 8 = wj_8 := by unfold fwF; decide
theorem twj_8 : tidyF wj_8 := by rw [← fwj_8]; exact (fwF_spec 8 (by omega)).1
abbrev wj_m3 : Nat := 13837309855095848960
theorem fwj_m3 : fwF (-3) = wj_m3 := by unfold fwF; decide
theorem twj_m3 : tidyF wj_m3 := by rw [← fwj_m3]; exact (fwF_spec (-3) (by omega)).1
theorem fw_0 : fwF 0 = 0 := by unfold fwF; decide
theorem tw_0 : tidyF 0 := by rw [← fw_0]; exact (fwF_spec 0 (by omega)).1
theorem nums_kind (l : List Int) (h : ∀ n ∈ l, -9007199254740992 ≤ n ∧ n ≤ 9007199254740992) : leastN (l.map fwF) = 1 ∨ leastN (l.map fwF) = 2 ∨ leastN (l.map fwF) = 3 := by
  have hb := leastN_bounds (l.map fwF)
  have h3 := fw_rank l h
  omega
theorem nums_whole (l : List Int) (h : ∀ n ∈ l, -9007199254740992 ≤ n ∧ n ≤ 9007199254740992) : (l.map fwF).map (fun x => (wholeF x).1) = l := by
  rw [List.map_map]
  conv => rhs; rw [← List.map_id l]
  apply List.map_congr_left
  intro n hn
  show (wholeF (fwF n)).1 = n
  rw [wholeF_fw n (h n hn)]
theorem arr_fw (k : Nat) (l : List Int) (p : PD (k + 1)) (h : ∀ n ∈ l, -9007199254740992 ≤ n ∧ n ≤ 9007199254740992) (e : p = (numsP (l.map fwF) : PlainD (PD k))) : (arr (k + 1) p : AD (k + 1)) = numsA k (l.map fwF) := by
  rw [e, numsP_arr, fw_tidyW l h]
theorem pr22_t : ∀ u ∈ [wj_2, wj_2], tidyF u := by
  intro u hu
  simp only [List.mem_cons, List.not_mem_nil, or_false] at hu
  rcases hu with rfl | rfl
  · exact twj_2
  · exact twj_2
def pr22 : PD 2 := (numsP [wj_2, wj_2] : PlainD (PD 1))
theorem pr22_chk : chk 2 40 pr22 = 0 := numsP_chk 1 _ (fun x hx => (pr22_t x hx).2.1) (by decide)
theorem pr123_t : ∀ u ∈ [wj_1, wj_2, wj_3], tidyF u := by
  intro u hu
  simp only [List.mem_cons, List.not_mem_nil, or_false] at hu
  rcases hu with rfl | rfl | rfl
  · exact twj_1
  · exact twj_2
  · exact twj_3
def pr123 : PD 2 := (numsP [wj_1, wj_2, wj_3] : PlainD (PD 1))
theorem pr123_chk : chk 2 40 pr123 = 0 := numsP_chk 1 _ (fun x hx => (pr123_t x hx).2.1) (by decide)
theorem pr78_t : ∀ u ∈ [wj_7, wj_8], tidyF u := by
  intro u hu
  simp only [List.mem_cons, List.not_mem_nil, or_false] at hu
  rcases hu with rfl | rfl
  · exact twj_7
  · exact twj_8
def pr78 : PD 2 := (numsP [wj_7, wj_8] : PlainD (PD 1))
theorem pr78_chk : chk 2 40 pr78 = 0 := numsP_chk 1 _ (fun x hx => (pr78_t x hx).2.1) (by decide)
theorem pr1231_t : ∀ u ∈ [wj_1, wj_2, wj_3, wj_1], tidyF u := by
  intro u hu
  simp only [List.mem_cons, List.not_mem_nil, or_false] at hu
  rcases hu with rfl | rfl | rfl | rfl
  · exact twj_1
  · exact twj_2
  · exact twj_3
  · exact twj_1
def pr1231 : PD 2 := (numsP [wj_1, wj_2, wj_3, wj_1] : PlainD (PD 1))
theorem t078 : ∀ u ∈ [0, wj_7, wj_8], tidyF u := by
  intro u hu
  simp only [List.mem_cons, List.not_mem_nil, or_false] at hu
  rcases hu with rfl | rfl | rfl
  · exact tw_0
  · exact twj_7
  · exact twj_8
theorem tidy_pr123 : tidy 2 pr123 = pr123 := by
  show (⟨[3], [⟨0, tidyW wj_1, 0, []⟩, ⟨0, tidyW wj_2, 0, []⟩, ⟨0, tidyW wj_3, 0, []⟩], 0⟩ : PlainD (PD 1)) = ⟨[3], [⟨0, wj_1, 0, []⟩, ⟨0, wj_2, 0, []⟩, ⟨0, wj_3, 0, []⟩], 0⟩
  rw [tidyWj twj_1, tidyWj twj_2, tidyWj twj_3]
theorem tidy_pr78 : tidy 2 pr78 = pr78 := by
  show (⟨[2], [⟨0, tidyW wj_7, 0, []⟩, ⟨0, tidyW wj_8, 0, []⟩], 0⟩ : PlainD (PD 1)) = ⟨[2], [⟨0, wj_7, 0, []⟩, ⟨0, wj_8, 0, []⟩], 0⟩
  rw [tidyWj twj_7, tidyWj twj_8]
def prm3 : PD 2 := numQ 1 wj_m3
theorem prm3_chk : chk 2 40 prm3 = 0 := numQ_chk 1 _ twj_m3.2.1
def wantR : PlainD (PD 1) := ⟨[2, 2], [⟨0, wj_1, 0, []⟩, ⟨0, wj_2, 0, []⟩, ⟨0, wj_3, 0, []⟩, ⟨0, wj_1, 0, []⟩], 0⟩
theorem awake20_con (w : World) (h : GHeap) : Con Tryz.prog 10 [] w h (fun _ u => u = .bool true) := by
  refine Con.of_body Tryz.func10 rfl Tryz.ntmps10 rfl rfl ?_
  intro hs
  refine Zrun ?_
  (refine RW.lit T hs (vs := [.float .f64 4611686018427387904, .float .f64 4611686018427387904]) rfl rfl rfl rfl (by simp [Value.cells]) rfl rfl rfl rfl rfl ?_; intro b21 w21 hs)
  obtain ⟨h21, hle21, hs, hS21⟩ := hs.freeze
  have hF21 : FAt h21 (.slice (some ⟨b21, 0, none⟩) 2 2) [wj_2, wj_2] := RowAt.of_sl hS21
  refine Zerun ?_
  (refine RW.call T hs rfl rfl rfl (refNums_con (R := PlainAt 1) (PlainAt.mono 1) _ _ _ _ hF21 (fun x hx => (pr22_t x hx).1) (by decide)) ?_; intro v h22 w22 hle22 hp22 hs)
  obtain ⟨cs22, rfl, hq22⟩ := hp22
  have hq22 : PlainAt 2 h22 cs22 pr22 := hq22
  refine Zerun ?_
  (refine RW.call T hs rfl rfl rfl (of07_con 2 _ pr22 _ _ hq22 pr22_chk) ?_; intro v h23 w23 hle23 hp23 hs)
  obtain ⟨cs23, rfl, _, _, hn23⟩ := hp23
  have hn23 : ArrAt 2 h23 cs23 (arr 2 pr22) := hn23
  refine Zerun ?_
  (refine RW.lit T hs (vs := [.float .f64 4607182418800017408, .float .f64 4611686018427387904, .float .f64 4613937818241073152]) rfl rfl rfl rfl (by simp [Value.cells]) rfl rfl rfl rfl rfl ?_; intro b24 w24 hs)
  obtain ⟨h24, hle24, hs, hS24⟩ := hs.freeze
  have hn23 := ArrAt.mono 2 _ _ _ _ hle24 hn23
  have hF24 : FAt h24 (.slice (some ⟨b24, 0, none⟩) 3 3) [wj_1, wj_2, wj_3] := RowAt.of_sl hS24
  refine Zerun ?_
  (refine RW.call T hs rfl rfl rfl (refNums_con (R := PlainAt 1) (PlainAt.mono 1) _ _ _ _ hF24 (fun x hx => (pr123_t x hx).1) (by decide)) ?_; intro v h25 w25 hle25 hp25 hs)
  obtain ⟨cs25, rfl, hq25⟩ := hp25
  have hn23 := ArrAt.mono 2 _ _ _ _ hle25 hn23
  have hq25 : PlainAt 2 h25 cs25 pr123 := hq25
  refine Zerun ?_
  (refine RW.call T hs rfl rfl rfl (of07_con 2 _ pr123 _ _ hq25 pr123_chk) ?_; intro v h26 w26 hle26 hp26 hs)
  obtain ⟨cs26, rfl, _, _, hn26⟩ := hp26
  have hn26 : ArrAt 2 h26 cs26 (arr 2 pr123) := hn26
  have hn23 := ArrAt.mono 2 _ _ _ _ hle26 hn23
  have hq25 := PlainAt.mono 2 _ _ _ _ hle26 hq25
  refine Zerun ?_
  obtain ⟨H1, hpr1⟩ := tells_of 0 pr123 _ _ hq25 pr123_chk
  have e22 : (arr 2 pr22 : ArrD (AD 1)) = numsA 1 ([2, 2].map fwF) := arr_fw 1 _ _ (by decide) (by show (numsP [wj_2, wj_2] : PlainD (PD 1)) = numsP [fwF 2, fwF 2]; rw [fwj_2])
  have res1 : ResX 1 0 (⟨[2, 2], (ArrD.vec (α := AD 1) (arr 2 pr123)).pick (againL 4 (ArrD.vec (α := AD 1) (arr 2 pr123)).len) (blankA 0)⟩ : ArrD (AD 1)) wantR := by
    have t1 := H1.pick (againL 4 (ArrD.vec (α := AD 1) (arr 2 pr123)).len) (by rw [againL_length]; decide) (L' := PlainD.items (α := PD 1) wantR) (by rw [tidy_pr123]; rfl)
    exact t1.shape [2, 2] (by rw [(pick_facts _ _ _).2.2.1, againL_length]; decide)
  (refine RW.call T hs rfl rfl rfl (reReshape_con 0 _ _ (arr 2 pr22) (arr 2 pr123) [2, 2] 4 99 _ _ hn23 hn26 (by show 1 ≤ 1; omega) (by rw [e22]; exact nums_kind _ (by decide)) (by rw [e22]; exact nums_whole _ (by decide)) (by show 2 + 0 + 0 ≤ 1048576; omega) (by decide) (by decide) H1.sh.vm H1.sh.k0) ?_; intro v h27 w27 hle27 hp27 hs)
  obtain ⟨cs27, rfl, hA27⟩ := hp27
  have hA1 : ArrAt 2 h27 cs27 (⟨[2, 2], (ArrD.vec (α := AD 1) (arr 2 pr123)).pick (againL 4 (ArrD.vec (α := AD 1) (arr 2 pr123)).len) (blankA 0)⟩ : ArrD (AD 1)) := hA27
  obtain ⟨r1, hr1⟩ : ∃ r : ArrD (AD 1), (⟨[2, 2], (ArrD.vec (α := AD 1) (arr 2 pr123)).pick (againL 4 (ArrD.vec (α := AD 1) (arr 2 pr123)).len) (blankA 0)⟩ : ArrD (AD 1)) = r := ⟨_, rfl⟩
  rw [hr1] at hA1 res1
  obtain ⟨_, vc27, rfl, ⟨ad27, cp27, rfl, _⟩, hv27⟩ := id hA1
  obtain ⟨wv27, nv27, sm27, il27, fl27, ch27, bx27, ⟨rfl, hoc27⟩, -⟩ := hv27
  refine Zerun ?_
  (refine RW.allocN T hs rfl rfl rfl rfl ?_; intro b28 w28 hs)
  refine RW.storeAll T hs 0 rfl rfl rfl rfl rfl rfl (by show (Value.oneCell' (.slice ad27 _ cp27) && (vecCells _ wv27 nv27 sm27 il27 fl27 ch27 bx27).all Value.oneCell') = true; rw [hoc27]; rfl) rfl ?_
  intro w928 hs
  refine Zerun ?_
  (refine RW.call T hs rfl rfl rfl (refOne_con (α := PD 1) (R := PlainAt 1) wj_m3 _ _ (twj_m3).1) ?_; intro v h31 w31 hle31 hp31 hs)
  obtain ⟨cs31, rfl, hq31⟩ := hp31
  have hA1 := ArrAt.mono 2 _ _ _ _ hle31 hA1
  have hq31 : PlainAt 2 h31 cs31 prm3 := hq31
  refine Zerun ?_
  (refine RW.call T hs rfl rfl rfl (of07_con 2 _ prm3 _ _ hq31 prm3_chk) ?_; intro v h32 w32 hle32 hp32 hs)
  obtain ⟨cs32, rfl, _, _, hn32⟩ := hp32
  have hn32 : ArrAt 2 h32 cs32 (arr 2 prm3) := hn32
  have hA1 := ArrAt.mono 2 _ _ _ _ hle32 hA1
  refine Zerun ?_
  (refine RW.lit T hs (vs := [.float .f64 4619567317775286272, .float .f64 4620693217682128896]) rfl rfl rfl rfl (by simp [Value.cells]) rfl rfl rfl rfl rfl ?_; intro b33 w33 hs)
  obtain ⟨h33, hle33, hs, hS33⟩ := hs.freeze
  have hA1 := ArrAt.mono 2 _ _ _ _ hle33 hA1
  have hn32 := ArrAt.mono 2 _ _ _ _ hle33 hn32
  have hF33 : FAt h33 (.slice (some ⟨b33, 0, none⟩) 2 2) [wj_7, wj_8] := RowAt.of_sl hS33
  refine Zerun ?_
  (refine RW.call T hs rfl rfl rfl (refNums_con (R := PlainAt 1) (PlainAt.mono 1) _ _ _ _ hF33 (fun x hx => (pr78_t x hx).1) (by decide)) ?_; intro v h34 w34 hle34 hp34 hs)
  obtain ⟨cs34, rfl, hq34⟩ := hp34
  have hA1 := ArrAt.mono 2 _ _ _ _ hle34 hA1
  have hn32 := ArrAt.mono 2 _ _ _ _ hle34 hn32
  have hq34 : PlainAt 2 h34 cs34 pr78 := hq34
  refine Zerun ?_
  (refine RW.call T hs rfl rfl rfl (of07_con 2 _ pr78 _ _ hq34 pr78_chk) ?_; intro v h35 w35 hle35 hp35 hs)
  obtain ⟨cs35, rfl, _, _, hn35⟩ := hp35
  have hn35 : ArrAt 2 h35 cs35 (arr 2 pr78) := hn35
  have hA1 := ArrAt.mono 2 _ _ _ _ hle35 hA1
  have hn32 := ArrAt.mono 2 _ _ _ _ hle35 hn32
  have hq34 := PlainAt.mono 2 _ _ _ _ hle35 hq34
  refine Zerun ?_
  obtain ⟨H2, hpr2⟩ := tells_of 0 pr78 _ _ hq34 pr78_chk
  have em3 : (arr 2 prm3 : ArrD (AD 1)) = numA 1 (fwF (-3)) := by rw [fwj_m3]; exact (numQ_arr 1 wj_m3).trans (by rw [tidyWj twj_m3])
  have res2 : ResX 1 0 (⟨[3], (ArrD.vec (α := AD 1) (arr 2 pr78)).pick (alongL 1 2 1 (takenL 2 (-3))) (blankA 0)⟩ : ArrD (AD 1)) (numsP [0, wj_7, wj_8] : PlainD (PD 1)) := by
    have t1 := H2.pick (alongL 1 2 1 (takenL 2 (-3))) (by decide) (L' := PlainD.items (α := PD 1) (numsP [0, wj_7, wj_8] : PlainD (PD 1))) (by rw [tidy_pr78]; rfl)
    exact t1.shape [3] (by rw [(pick_facts _ _ _).2.2.1]; decide)
  have k3 : (ArrD.vec (α := AD 1) (arr 2 prm3)).nums.map (fun x => (wholeF x).1) = [-3] := by rw [em3]; show [(wholeF (fwF (-3))).1] = [-3]; rw [wholeF_fw _ (by omega)]
  (refine RW.call T hs rfl rfl rfl (reTake_con 0 _ _ (arr 2 prm3) (arr 2 pr78) (-3) 99 3 2 1 _ _ hn32 hn35 (by show 0 ≤ 1; omega) (by rw [em3]; exact nums_kind [-3] (by decide)) k3 (by show 1 + 0 + 0 ≤ 1048576; omega) (by show 0 < 1; omega) (by show 1 ≤ 8; omega) rfl (by decide) H2.sh.vm H2.sh.k0 (by omega) (by omega) (by decide) (by decide) (by decide) (by decide) (by decide)) ?_; intro v h36 w36 hle36 hp36 hs)
  obtain ⟨cs36, rfl, hA36⟩ := hp36
  have hA1 := ArrAt.mono 2 _ _ _ _ hle36 hA1
  have hA2 : ArrAt 2 h36 cs36 (⟨[3], (ArrD.vec (α := AD 1) (arr 2 pr78)).pick (alongL 1 2 1 (takenL 2 (-3))) (blankA 0)⟩ : ArrD (AD 1)) := hA36
  obtain ⟨r2, hr2⟩ : ∃ r : ArrD (AD 1), (⟨[3], (ArrD.vec (α := AD 1) (arr 2 pr78)).pick (alongL 1 2 1 (takenL 2 (-3))) (blankA 0)⟩ : ArrD (AD 1)) = r := ⟨_, rfl⟩
  rw [hr2] at hA2 res2
  obtain ⟨_, vc36, rfl, ⟨ad36, cp36, rfl, _⟩, hv36⟩ := id hA2
  obtain ⟨wv36, nv36, sm36, il36, fl36, ch36, bx36, ⟨rfl, hoc36⟩, -⟩ := hv36
  refine Zerun ?_
  (refine RW.allocN T hs rfl rfl rfl rfl ?_; intro b37 w37 hs)
  refine RW.storeAll T hs 0 rfl rfl rfl rfl rfl rfl (by show (Value.oneCell' (.slice ad36 _ cp36) && (vecCells _ wv36 nv36 sm36 il36 fl36 ch36 bx36).all Value.oneCell') = true; rw [hoc36]; rfl) rfl ?_
  intro w937 hs
  refine Zerun ?_
  (refine RW.lit T hs (vs := [.float .f64 4607182418800017408, .float .f64 4611686018427387904, .float .f64 4613937818241073152, .float .f64 4607182418800017408]) rfl rfl rfl rfl (by simp [Value.cells]) rfl rfl rfl rfl rfl ?_; intro b41 w41 hs)
  obtain ⟨h41, hle41, hs, hS41⟩ := hs.freeze
  have hA1 := ArrAt.mono 2 _ _ _ _ hle41 hA1
  have hA2 := ArrAt.mono 2 _ _ _ _ hle41 hA2
  have hF41 : FAt h41 (.slice (some ⟨b41, 0, none⟩) 4 4) [wj_1, wj_2, wj_3, wj_1] := RowAt.of_sl hS41
  refine Zerun ?_
  (refine RW.call T hs rfl rfl rfl (refNums_con (R := PlainAt 1) (PlainAt.mono 1) _ _ _ _ hF41 (fun x hx => (pr1231_t x hx).1) (by decide)) ?_; intro v h42 w42 hle42 hp42 hs)
  obtain ⟨cs42, rfl, hq42⟩ := hp42
  have hA1 := ArrAt.mono 2 _ _ _ _ hle42 hA1
  have hA2 := ArrAt.mono 2 _ _ _ _ hle42 hA2
  have hq42 : PlainAt 2 h42 cs42 pr1231 := hq42
  obtain ⟨_, it42, rfl, ⟨adS42, cpS42, rfl, _⟩, hit42⟩ := id hq42
  obtain ⟨adI42, cpI42, xsI42, rfl, _, _⟩ := id hit42
  refine Zerun ?_
  (refine RW.allocN T hs rfl rfl rfl rfl ?_; intro b43 w43 hs)
  (refine RW.storeAll T hs 0 rfl rfl rfl rfl rfl rfl rfl rfl ?_; intro w44 hs)
  refine Zerun ?_
  (refine RW.lit T hs (vs := [.int .i64 2, .int .i64 2]) (cs := [.int .i64 2, .int .i64 2]) rfl rfl rfl rfl (by simp [Value.cells]) rfl rfl rfl rfl rfl ?_; intro b45 w45 hs)
  obtain ⟨h45, hle45, hs, hS45⟩ := hs.freeze
  have hA1 := ArrAt.mono 2 _ _ _ _ hle45 hA1
  have hA2 := ArrAt.mono 2 _ _ _ _ hle45 hA2
  have hI45 : IntsAt h45 (.slice (some ⟨b45, 0, none⟩) 2 2) [2, 2] := IntsAt.of_sl hS45
  have hit42 := hit42.mono hle45 (fun u a => ItemAt.mono (PlainAt.mono 1) _ _ u a hle45)
  refine Zerun ?_
  (refine RW.store1 T hs 0 rfl rfl rfl rfl rfl rfl (by simp [Value.oneCell']) rfl ?_; intro w46 hs)
  dsimp only [List.set_cons_zero] at hs
  have hW : PlainAt 2 h45 [.slice (some ⟨b45, 0, none⟩) 2 2, .slice adI42 4 cpI42, .int .i64 0] wantR := ⟨_, _, rfl, hI45, hit42⟩
  refine Zerun ?_
  refine CW.regionO T hs ?_
  intro w47 hs
  refine HW.takeS (fuel := 11) 0 rfl (fun _ _ hs => Y.loadRowN T hs 2 rfl rfl rfl rfl rfl rfl rfl) hs rfl (by kernel_rfl) (by kernel_rfl) (by kernel_rfl) ?_
  refine HW.takeS (fuel := 10) 1 rfl (fun _ _ hs => Y.move rfl) hs rfl (by kernel_rfl) (by kernel_rfl) (by kernel_rfl) ?_
  refine HW.takeS (fuel := 9) 2 rfl (fun _ _ hs => Y.loadRowN T hs 0 rfl rfl rfl rfl rfl rfl rfl) hs rfl (by kernel_rfl) (by kernel_rfl) (by kernel_rfl) ?_
  refine HW.one (fuel := 8) 3 rfl (by kernel_rfl) ?_
  (refine RW.call T hs rfl rfl rfl (shows20X_con 1 _ _ 0 r1 wantR _ _ hA1 hW res1) ?_; intro v h32 w32 hle32 hp32 hs)
  subst hp32
  have hA2 := ArrAt.mono 2 _ _ _ _ hle32 hA2
  refine RW.nil ?_
  refine heldQ_normal ⟨_, hs⟩ ?_
  refine HW.takeS (fuel := 7) 4 rfl (fun _ _ hs => Y.move rfl) hs rfl (by kernel_rfl) (by kernel_rfl) (by kernel_rfl) ?_
  refine HW.takeSY (fuel := 6) 5 rfl rfl rfl (fun _ _ hs => Y.loadRowN T hs 1 rfl rfl rfl rfl rfl rfl rfl) hs rfl (by kernel_rfl) (by kernel_rfl) (by kernel_rfl) ?_
  refine HW.takeSY (fuel := 5) 6 rfl rfl rfl (fun _ _ hs => Y.move rfl) hs rfl (by kernel_rfl) (by kernel_rfl) (by kernel_rfl) ?_
  refine HW.one (fuel := 4) 7 rfl (by kernel_rfl) ?_
  refine RW.guardYes rfl rfl ?_
  (refine RW.lit T hs (vs := [.float .f64 0, .float .f64 4619567317775286272, .float .f64 4620693217682128896]) rfl rfl rfl rfl (by simp [Value.cells]) rfl rfl rfl rfl rfl ?_; intro b136 w136 hs)
  obtain ⟨h136, hle136, hs, hS136⟩ := hs.freeze
  have hF136 : FAt h136 (.slice (some ⟨b136, 0, none⟩) 3 3) [0, wj_7, wj_8] := RowAt.of_sl hS136
  have hA2 := ArrAt.mono 2 _ _ _ _ hle136 hA2
  refine RW.nil ?_
  refine heldQ_normal ⟨_, hs⟩ ?_
  refine HW.one (fuel := 3) 8 rfl (by kernel_rfl) ?_
  refine RW.guardYes rfl rfl ?_
  (refine RW.call T hs rfl rfl rfl (refNums_con (R := PlainAt 1) (PlainAt.mono 1) _ _ _ _ hF136 (fun x hx => (t078 x hx).1) (by decide)) ?_; intro v h137 w137 hle137 hp137 hs)
  obtain ⟨cs137, rfl, hq137⟩ := hp137
  have hq137 : PlainAt 2 h137 cs137 (numsP [0, wj_7, wj_8] : PlainD (PD 1)) := hq137
  have hA2 := ArrAt.mono 2 _ _ _ _ hle137 hA2
  refine RW.nil ?_
  refine heldQ_normal ⟨_, hs⟩ ?_
  refine HW.one (fuel := 2) 9 rfl (by kernel_rfl) ?_
  refine RW.guardYes rfl rfl ?_
  (refine RW.call T hs rfl rfl rfl (shows20X_con 1 _ _ 0 r2 (numsP [0, wj_7, wj_8] : PlainD (PD 1)) _ _ hA2 hq137 res2) ?_; intro v h38 w38 hle38 hp38 hs)
  subst hp38
  refine RW.nil ?_
  refine heldQ_normal ⟨_, hs⟩ ?_
  refine HW.takeS (fuel := 1) 10 rfl (fun _ _ hs => Y.pickT rfl rfl) hs rfl (by kernel_rfl) (by kernel_rfl) (by kernel_rfl) ?_
  refine HW.takeS (fuel := 0) 11 rfl (fun _ _ hs => Y.assign rfl) hs rfl (by kernel_rfl) (by kernel_rfl) (by kernel_rfl) ?_
  refine HW.done (by kernel_rfl) ?_
  refine calmQ_normal ?_
  refine Zerun ?_
  exact retQ_ret [_] h38 ⟨rfl, trivial⟩ hs.dropAll rfl
end Go.Proofs.YtmojpbfkpggjhaaGreat
