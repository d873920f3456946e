/-
  Own texts of the claim, merged: Je, Ka, Kb, Kc, Kd, Ke, Kf, Kg, Kh, Ng, Nh, Il, Im, Nj. Lemmas of the proof; no statement is proved here.
-/
import Derived.Test.YthbfkhklihejiaaMc
/-
  Contracts of the law's own functions of layer 8: elements picked, and picked again. No statement is proved here.
-/
namespace Go.Proofs.Ythbfkhklihejiaa
open Go Go.RowKit
set_option linter.unusedVariables false
set_option linter.unusedSimpArgs false
set_option maxHeartbeats 4000000
attribute [local irreducible] CW RW QW SW HW ConM retM heldQ calmQ elemP thenQ blockQ loopQ joinQ retQ Yields Con Sl zF magR unitF truncF fwF wholeF tidySpec elemQ rankF leastN tidyW
set_option maxHeartbeats 4000000

theorem u8_range {u : Int} (h : (Lit.int .u8 u).wf = true) : 0 ≤ u ∧ u ≤ 255 := by
  simp [Lit.wf, IntKind.min, IntKind.max, IntKind.signed, IntKind.bits] at h
  omega
/-- places among places, and what they come to -/
def kL (more at_ : List Int) : List Int := more.map fun u => u % (at_.length : Int)
def bL (more at_ : List Int) : List Int := more.map fun u => at_.getD (u % (at_.length : Int)).toNat 0
theorem kL_items {γ : Type} (more at_ : List Int) (h0 : at_.length ≠ 0) (L : List γ) (d : γ) : (kL more at_).map (fun i => atD (at_.map fun j => atD L j d) i d) = (bL more at_).map (fun i => atD L i d) := by
  unfold kL bL
  rw [List.map_map, List.map_map]
  apply List.map_congr_left
  intro u _
  have h1 : 0 ≤ u % (at_.length : Int) := Int.emod_nonneg _ (by omega)
  have h2 : u % (at_.length : Int) < at_.length := Int.emod_lt_of_pos _ (by omega)
  simp only [Function.comp]
  rw [atD_in ⟨h1, by simpa using h2⟩]
  have h3 : (u % (at_.length : Int)).toNat < at_.length := by omega
  rw [getD_map (fun j => atD L j d) at_ _ 0 d h3]
theorem flatTwiceLaw_con (k : Nat) (cs : List Value) (p : PD (k + 2)) (v1 v2 : Value) (at_ more : List Int) (w : World) (h : GHeap) (hp : PlainAt (k + 2) h cs p) (ha : IntsAt h v1 at_) (hmo : KAt .u8 h v2 more) (hu : ∀ u ∈ more, 0 ≤ u ∧ u ≤ 255) : Con Try.prog 11 [.agg cs.toArray, v1, v2] w h (fun _ u => u = .bool true) := by
  have hp' := hp
  have ha' := ha
  obtain ⟨s, it, rfl, ⟨ad, cp, rfl, _⟩, ⟨ad2, cp2, xs, rfl, _, _⟩⟩ := hp
  obtain ⟨ad1, cp1, rfl, hS1⟩ := ha
  obtain ⟨ad3, cp3, rfl, hS3⟩ := hmo
  refine Con.of_body Try.func11 rfl Try.ntmps11 rfl rfl ?_
  intro hs
  refine Zrun ?_
  (refine RW.boxN hs rfl rfl ?_; intro b1 w1 hs)
  refine Zerun ?_
  (refine RW.call T hs rfl rfl rfl (good08_con (k + 2) _ p _ _ hp') ?_; intro v h2 w2 hle2 hp2 hs)
  obtain ⟨b, rfl, hb⟩ := hp2
  have hp' := PlainAt.mono (k + 2) _ _ _ _ hle2 hp'
  have ha' := ha'.mono hle2
  have hS1 := hS1.mono hle2
  have hS3 := hS3.mono hle2
  cases b with
  | false =>
    refine Zerun ?_
    (refine RW.call T hs rfl rfl rfl (awake08_con _ _) ?_; intro v h3 w3 hle3 hp3 hs)
    subst hp3
    refine Zerun ?_
    exact retQ_ret [_] h3 ⟨rfl, trivial⟩ hs.dropAll rfl
  | true =>
  have hc := hb rfl
  by_cases c1 : 200 < at_.length
  · refine Zerun ?_
    (refine RW.call T hs rfl rfl rfl (awake08_con _ _) ?_; intro v h3 w3 hle3 hp3 hs)
    subst hp3
    refine Zerun ?_
    exact retQ_ret [_] h3 ⟨rfl, trivial⟩ hs.dropAll rfl
  by_cases c2 : 200 < more.length
  · refine Zerun ?_
    (refine RW.call T hs rfl rfl rfl (awake08_con _ _) ?_; intro v h3 w3 hle3 hp3 hs)
    subst hp3
    refine Zerun ?_
    exact retQ_ret [_] h3 ⟨rfl, trivial⟩ hs.dropAll rfl
  by_cases c3 : at_.length = 0
  · refine Zerun ?_
    (refine RW.call T hs rfl rfl rfl (awake08_con _ _) ?_; intro v h3 w3 hle3 hp3 hs)
    subst hp3
    refine Zerun ?_
    exact retQ_ret [_] h3 ⟨rfl, trivial⟩ hs.dropAll rfl
  refine Zerun ?_
  have hs := (hs.nilRow 3 1).nilRow 3 1
  refine CW.loop (fun u : Nat × (Option Addr × Nat) × (Option Addr × Nat) => [(1, .slice ad1 at_.length cp1), (2, .slice ad3 more.length cp3), (3, .pointer (some ⟨b1, 0, none⟩)), (7, .slice u.2.1.1 u.1 u.2.1.2), (8, .slice u.2.2.1 u.1 u.2.2.2), (9, .int .i64 u.1)]) (fun u w' => u.1 ≤ more.length ∧ Sees w h h2 [⟨u.2.2.1, u.1, u.2.2.2, 3, 1, (bL (more.take u.1) at_).map (Value.int .i64)⟩, ⟨u.2.1.1, u.1, u.2.1.2, 3, 1, (kL (more.take u.1) at_).map (Value.int .i64)⟩, ⟨some ⟨b1, 0, none⟩, 1, 1, 50, 3, [.slice ad p.shape.length cp, .slice ad2 p.items.length cp2, .int .i64 p.fill]⟩] w') (fun u => more.length - u.1) (0, (none, 0), (none, 0)) ⟨rfl, rfl, rfl, rfl, rfl, rfl, trivial⟩ ⟨by omega, hs⟩ ?_
  rintro ⟨i, ⟨ak, ck⟩, ⟨ab, cb⟩⟩ w5 ⟨hi, hs⟩
  dsimp only at hi hs ⊢
  by_cases hlt : i < more.length
  · have hum := hu _ (mem_getD more i 0 hlt)
    have htk := take_succ_getD more i 0 hlt
    have hm1 : 0 ≤ more.getD i 0 % (at_.length : Int) := Int.emod_nonneg _ (by omega)
    have hm2 : more.getD i 0 % (at_.length : Int) < at_.length := Int.emod_lt_of_pos _ (by omega)
    refine Zerun ?_
    refine RW.val (Y.conv64 T rfl rfl rfl (by omega)) rfl ?_
    refine Zerun ?_
    (refine RW.lit T hs (vs := [.int .i64 (more.getD i 0 % (at_.length : Int))]) (cs := [.int .i64 (more.getD i 0 % (at_.length : Int))]) rfl rfl rfl rfl (by simp [Value.cells]) rfl rfl rfl rfl rfl ?_; intro b6 w6 hs)
    (refine RW.append T hs 2 rfl rfl (m := 1) (news := [.int .i64 (more.getD i 0 % (at_.length : Int))]) rfl rfl rfl rfl rfl rfl (hs.src0 rfl (by simp [Value.oneCell'])) (by simp) (by dsimp only; omega) (by omega) ?_; intro ad7 cp7 w7 hs; replace hs := hs.drop)
    refine Zerun ?_
    refine RW.val (Y.conv64 T rfl rfl rfl (by omega)) rfl ?_
    refine Zerun ?_
    (refine RW.lit T hs (vs := [.int .i64 (at_.getD (more.getD i 0 % (at_.length : Int)).toNat 0)]) (cs := [.int .i64 (at_.getD (more.getD i 0 % (at_.length : Int)).toNat 0)]) rfl rfl rfl rfl (by simp [Value.cells]) rfl rfl rfl rfl rfl ?_; intro b8 w8 hs)
    (refine RW.append T hs 1 rfl rfl (m := 1) (news := [.int .i64 (at_.getD (more.getD i 0 % (at_.length : Int)).toNat 0)]) rfl rfl rfl rfl rfl rfl (hs.src0 rfl (by simp [Value.oneCell'])) (by simp) (by dsimp only; omega) (by omega) ?_; intro ad9 cp9 w9 hs; replace hs := hs.drop)
    refine Zerun ?_
    refine loopQ_round (i + 1, (ad7, cp7), (ad9, cp9)) ⟨rfl, rfl, rfl, rfl, rfl, rfl, trivial⟩ ⟨by dsimp only; omega, ?_⟩ (by dsimp only; omega)
    dsimp only
    have ek : (kL (more.take (i + 1)) at_).map (Value.int .i64) = (kL (more.take i) at_).map (Value.int .i64) ++ [.int .i64 (more.getD i 0 % (at_.length : Int))] := by unfold kL; rw [htk, List.map_append, List.map_append]; rfl
    have eb : (bL (more.take (i + 1)) at_).map (Value.int .i64) = (bL (more.take i) at_).map (Value.int .i64) ++ [.int .i64 (at_.getD (more.getD i 0 % (at_.length : Int)).toNat 0)] := by unfold bL; rw [htk, List.map_append, List.map_append]; rfl
    rw [ek, eb]
    exact hs
  obtain rfl : i = more.length := by omega
  rw [List.take_length] at hs
  have hkl : (kL more at_).length = more.length := by simp [kL]
  have hbl : (bL more at_).length = more.length := by simp [bL]
  obtain ⟨h6, hle6, hs, hS6⟩ := hs.freeze
  obtain ⟨h7, hle7, hs, hS7⟩ := hs.freeze
  have hbb : IntsAt h7 (.slice ab more.length cb) (bL more at_) := (IntsAt.of_sl hS6).mono hle7
  have hkk : IntsAt h7 (.slice ak more.length ck) (kL more at_) := IntsAt.of_sl hS7
  have hp' := PlainAt.mono (k + 2) _ _ _ _ (hle6.trans hle7) hp'
  have ha' := ha'.mono (hle6.trans hle7)
  refine Zerun ?_
  (refine RW.call T hs rfl rfl rfl (of07_con (k + 2) _ p _ _ hp' hc) ?_; intro v h8 w8 hle8 hp8 hs)
  obtain ⟨cs8, rfl, _, _, s8, vc8, rfl, _, hvv⟩ := hp8
  have hvs8 := hvv.size
  refine RW.val (Y.fieldVec T rfl rfl rfl rfl rfl rfl hvs8) rfl ?_
  have hp' := PlainAt.mono (k + 2) _ _ _ _ hle8 hp'
  have ha' := ha'.mono hle8
  have hbb := hbb.mono hle8
  have hkk := hkk.mono hle8
  have hvv' := hvv
  obtain ⟨wv, nv, sm, il, fl, ch, bx, ⟨rfl, hoc⟩, _⟩ := hvv'
  refine Zerun ?_
  (refine RW.allocN T hs rfl rfl rfl rfl ?_; intro b9 w9 hs)
  (refine RW.storeAll T hs 0 rfl rfl rfl rfl rfl rfl hoc rfl ?_; intro w10 hs)
  refine Zerun ?_
  have htd := tidy_tdy (k + 2) 40 p _ _ hp' hc
  have hgood := good_arr (k + 2) 40 p hc
  have hsml := good_sml (k + 2) 40 _ hgood
  have hfl : (ArrD.vec (α := AD (k + 1)) (arr (k + 2) p)).cls = PlainD.fill (α := PD (k + 1)) p := by
    obtain ⟨_, h2, h3, _, _⟩ := (chkP_ok (α := PD (k + 1)) _ _ _).1 hc
    exact cls_arrV (arr (k + 1)) _ _ h2 h3
  have hlen := hsml.2.1
  have hkn := hgood.2.1
  have hpf := pick_facts (ArrD.vec (α := AD (k + 1)) (arr (k + 2) p)) at_ (blankA k)
  have hpg := pick_facts ((ArrD.vec (α := AD (k + 1)) (arr (k + 2) p)).pick at_ (blankA k)) (kL more at_) (blankA k)
  have hS1 : (((ArrD.vec (α := AD (k + 1)) (arr (k + 2) p)).pick at_ (blankA k)).pick (kL more at_) (blankA k)).cls = PlainD.fill (α := PD (k + 1)) p := by rw [pick_cls, pick_cls, hfl]
  have hS2 := hpg.1
  have hS3 := hpg.2.1
  have hS4 : (((ArrD.vec (α := AD (k + 1)) (arr (k + 2) p)).pick at_ (blankA k)).pick (kL more at_) (blankA k)).len ≤ 1048576 := by rw [hpg.2.2.1]; omega
  have hS5 : ∀ b ∈ (((ArrD.vec (α := AD (k + 1)) (arr (k + 2) p)).pick at_ (blankA k)).pick (kL more at_) (blankA k)).boxes, sml (k + 1) b := by
    intro b hb
    rcases hpg.2.2.2 b hb with e | e
    · rcases hpf.2.2.2 b e with e | e
      · exact hsml.2.2 b e
      · rw [e]; exact blankA_sml k
    · rw [e]; exact blankA_sml k
  have hS7 : ∀ x ∈ (bL more at_).map (fun i => atD (PlainD.items (α := PD (k + 1)) (tidy (k + 2) p)) i (blankI (PlainD.fill (α := PD (k + 1)) p) : ItemD (PlainD (PD k)))), tdyIt (tdy (k + 1)) x := by
    intro x hx
    obtain ⟨i, _, rfl⟩ := List.mem_map.1 hx
    rcases atD_mem (PlainD.items (α := PD (k + 1)) (tidy (k + 2) p)) i (blankI (PlainD.fill (α := PD (k + 1)) p) : ItemD (PlainD (PD k))) with e | e
    · exact htd _ e
    · rw [e]; exact blankI_tdy k _
  have hS60 : itemsV (plain (k + 1)) ((ArrD.vec (α := AD (k + 1)) (arr (k + 2) p)).pick at_ (blankA k)) = at_.map (fun i => atD (PlainD.items (α := PD (k + 1)) (tidy (k + 2) p)) i (blankI (PlainD.fill (α := PD (k + 1)) p) : ItemD (PlainD (PD k)))) :=
    pick_items' (β := PD k) (plain (k + 1)) _ at_ (blankA k) _ _ (congrArg (PlainD.items (α := PD (k + 1))) (plain_arr (k + 2) 40 p hc)) hfl rfl
  have hS6 : itemsV (plain (k + 1)) (((ArrD.vec (α := AD (k + 1)) (arr (k + 2) p)).pick at_ (blankA k)).pick (kL more at_) (blankA k)) = (bL more at_).map (fun i => atD (PlainD.items (α := PD (k + 1)) (tidy (k + 2) p)) i (blankI (PlainD.fill (α := PD (k + 1)) p) : ItemD (PlainD (PD k)))) :=
    (pick_items' (β := PD k) (plain (k + 1)) _ (kL more at_) (blankA k) _ _ hS60 (by rw [pick_cls, hfl]) rfl).trans (kL_items more at_ c3 _ _)
  refine CW.regionO T hs ?_
  intro w11 hs
  refine HW.takeS (fuel := 18) 0 rfl (fun _ _ hs => Y.loadRowN T hs 0 rfl rfl rfl rfl rfl rfl rfl) hs rfl (by kernel_rfl) (by kernel_rfl) (by kernel_rfl) ?_
  refine HW.takeS (fuel := 17) 1 rfl (fun _ _ hs => Y.move rfl) hs rfl (by kernel_rfl) (by kernel_rfl) (by kernel_rfl) ?_
  refine HW.takeS (fuel := 16) 3 rfl (fun _ _ hs => Y.move rfl) hs rfl (by kernel_rfl) (by kernel_rfl) (by kernel_rfl) ?_
  refine HW.takeS (fuel := 15) 5 rfl (fun _ _ hs => Y.loadRowN T hs 1 rfl rfl rfl rfl rfl rfl rfl) hs rfl (by kernel_rfl) (by kernel_rfl) (by kernel_rfl) ?_
  refine HW.takeS (fuel := 14) 8 rfl (fun _ _ hs => Y.fieldAddr T rfl rfl rfl rfl rfl) hs rfl (by kernel_rfl) (by kernel_rfl) (by kernel_rfl) ?_
  refine HW.takeS (fuel := 13) 9 rfl (fun _ _ hs => Y.loadRow1 T hs 1 rfl rfl rfl rfl rfl) hs rfl (by kernel_rfl) (by kernel_rfl) (by kernel_rfl) ?_
  refine HW.takeS (fuel := 12) 10 rfl (fun _ _ hs => Y.move rfl) hs rfl (by kernel_rfl) (by kernel_rfl) (by kernel_rfl) ?_
  refine HW.takeS (fuel := 11) 12 rfl (fun _ _ hs => Y.fieldAddr T rfl rfl rfl rfl rfl) hs rfl (by kernel_rfl) (by kernel_rfl) (by kernel_rfl) ?_
  refine HW.takeS (fuel := 10) 13 rfl (fun _ _ hs => Y.loadRow1 T hs 1 rfl rfl rfl rfl rfl) hs rfl (by kernel_rfl) (by kernel_rfl) (by kernel_rfl) ?_
  refine HW.one (fuel := 9) 2 rfl (by kernel_rfl) ?_
  (refine RW.call T hs rfl rfl rfl (flatPick_con (ArrAt.mono (k + 1)) (ArrAt.one (k + 1)) (ArrAt.siz (k + 1)) (blankA k) (fun w h => flatBlank_con (ArrAt.mono k) (ArrAt.one k) w h) _ _ _ at_ _ _ hvv ha' (by omega) hlen hkn) ?_; intro v h66 w66 hle66 hp66 hs)
  obtain ⟨cs66, rfl, hv66⟩ := hp66
  have hp' := PlainAt.mono (k + 2) _ _ _ _ hle66 hp'
  have hkk := hkk.mono hle66
  have hbb := hbb.mono hle66
  refine RW.nil ?_
  refine heldQ_normal ⟨_, hs⟩ ?_
  refine HW.one (fuel := 8) 4 rfl (by kernel_rfl) ?_
  (refine RW.call T hs rfl rfl rfl (flatPick_con (ArrAt.mono (k + 1)) (ArrAt.one (k + 1)) (ArrAt.siz (k + 1)) (blankA k) (fun w h => flatBlank_con (ArrAt.mono k) (ArrAt.one k) w h) _ _ _ (kL more at_) _ _ hv66 hkk (by simp [kL]; omega) (by rw [hpf.2.2.1]; omega) hpf.1) ?_; intro v h68 w68 hle68 hp68 hs)
  obtain ⟨cs68, rfl, hv68⟩ := hp68
  have hp' := PlainAt.mono (k + 2) _ _ _ _ hle68 hp'
  have hbb := hbb.mono hle68
  refine RW.nil ?_
  refine heldQ_normal ⟨_, hs⟩ ?_
  refine HW.one (fuel := 7) 6 rfl (by kernel_rfl) ?_
  (refine RW.call T hs rfl rfl rfl (refTidyP_con (k + 2) 40 _ p _ _ hp' hc) ?_; intro v h70 w70 hle70 hp70 hs)
  obtain ⟨cs70, rfl, s70, it70, rfl, ⟨ad70, cp70, rfl, _⟩, hit70⟩ := hp70
  have hbb := hbb.mono hle70
  have hv68 := hv68.mono (ArrAt.mono (k + 1)) hle70
  refine RW.nil ?_
  refine heldQ_normal ⟨_, hs⟩ ?_
  refine HW.takeS (fuel := 6) 7 rfl (fun _ _ hs => Y.field1 T rfl rfl rfl rfl rfl rfl) hs rfl (by kernel_rfl) (by kernel_rfl) (by kernel_rfl) ?_
  refine HW.one (fuel := 5) 11 rfl (by kernel_rfl) ?_
  (refine RW.call T hs rfl rfl rfl (refPick08_con (PlainAt.mono k) _ _ _ (PlainD.fill (α := PD (k + 1)) p) (bL more at_) _ _ hit70 hbb (by simp [bL]; omega)) ?_; intro v h75 w75 hle75 hp75 hs)
  have hv68 := hv68.mono (ArrAt.mono (k + 1)) hle75
  refine RW.nil ?_
  refine heldQ_normal ⟨_, hs⟩ ?_
  refine HW.one (fuel := 4) 14 rfl (by kernel_rfl) ?_
  (refine RW.call T hs rfl rfl rfl (shows_con (k + 1) _ _ _ _ _ _ _ hv68 hp75 hS1 hS2 hS3 hS4 hS5 hS6 hS7) ?_; intro v h78 w78 hle78 hp78 hs)
  subst hp78
  refine RW.nil ?_
  refine heldQ_normal ⟨_, hs⟩ ?_
  refine HW.takeS (fuel := 3) 15 rfl (fun _ _ hs => Y.move rfl) hs rfl (by kernel_rfl) (by kernel_rfl) (by kernel_rfl) ?_
  refine HW.one (fuel := 2) 16 rfl (by kernel_rfl) ?_
  refine RW.guardYes rfl rfl ?_
  (refine RW.call T hs rfl rfl rfl (awake08_con _ _) ?_; intro v h80 w80 hle80 hp80 hs)
  subst hp80
  refine RW.nil ?_
  refine heldQ_normal ⟨_, hs⟩ ?_
  refine HW.takeS (fuel := 1) 17 rfl (fun _ _ hs => Y.pickB rfl rfl rfl) hs rfl (by kernel_rfl) (by kernel_rfl) (by kernel_rfl) ?_
  refine HW.takeS (fuel := 0) 18 rfl (fun _ _ hs => Y.assign rfl) hs rfl (by kernel_rfl) (by kernel_rfl) (by kernel_rfl) ?_
  refine HW.done (by kernel_rfl) ?_
  refine calmQ_normal ?_
  refine Zerun ?_
  exact retQ_ret [_] h80 ⟨rfl, trivial⟩ hs.dropAll rfl
end Go.Proofs.Ythbfkhklihejiaa

/-
  Contracts of functions of package flat: numbers from one up to another, elements backwards, and again and again. No statement is proved here.
-/
namespace Go.Proofs.Ythbfkhklihejiaa
open Go Go.RowKit
set_option linter.unusedVariables false
set_option linter.unusedSimpArgs false
set_option maxHeartbeats 4000000
attribute [local irreducible] CW RW QW SW HW ConM retM heldQ calmQ elemP thenQ blockQ loopQ joinQ retQ Yields Con Sl zF magR unitF truncF fwF wholeF tidySpec elemQ rankF leastN tidyW
set_option maxHeartbeats 4000000

def spanL (a b : Nat) : List Int := (List.range (b - a)).map fun i => ((a + i : Nat) : Int)
def turnL (n : Nat) : List Int := (List.range n).map fun i => ((n - 1 - i : Nat) : Int)
def againI (m i : Nat) : Int := if 0 < m then ((i % m : Nat) : Int) else -1
def againL (n m : Nat) : List Int := (List.range n).map (againI m)
theorem spanL_length (a b : Nat) : (spanL a b).length = b - a := by simp [spanL]
theorem turnL_length (n : Nat) : (turnL n).length = n := by simp [turnL]
theorem againL_length (n m : Nat) : (againL n m).length = n := by simp [againL]
theorem range_snoc (f : Nat → Int) (i : Nat) : (((List.range (i + 1)).map f).map (Value.int .i64)) = (((List.range i).map f).map (Value.int .i64)) ++ [.int .i64 (f i)] := by rw [List.range_succ, List.map_append, List.map_append]; rfl
theorem fill_snoc (f : Nat → Int) (i n : Nat) (h : i < n) (z : Value) : (((List.range i).map f).map (Value.int .i64) ++ List.replicate (n - i) z).set i (.int .i64 (f i)) = ((List.range (i + 1)).map f).map (Value.int .i64) ++ List.replicate (n - (i + 1)) z := by
  have e1 := set_snoc (((List.range i).map f).map (Value.int .i64)) (n - i) z (.int .i64 (f i)) (by omega)
  simp only [List.length_map, List.length_range] at e1
  rw [e1, range_snoc, show n - (i + 1) = n - i - 1 by omega]
theorem flatSpan_con (a b : Nat) (w : World) (h : GHeap) (hab : a ≤ b) (hb : b ≤ 1048576) : Con Try.prog 155 [.int .i64 a, .int .i64 b] w h (fun h' u => IntsAt h' u (spanL a b)) := by
  refine Con.of_body Try.func155 rfl Try.ntmps155 rfl rfl ?_
  intro hs
  refine Zerun ?_
  (refine RW.make T hs rfl rfl rfl rfl rfl ?_ ?_ ?_ ?_ ?_; omega; omega; (dsimp only; omega); omega; intro b1 w1 hs)
  have hs : Sees w h h [⟨some ⟨b1, 0, none⟩, 0, b - a, 3, 1, []⟩] w1 := by
    have e : ((b : Int) - a).toNat = b - a := by omega
    rw [e] at hs
    exact hs.re (made_one _ _)
  have e : ((b : Int) - a).toNat = b - a := by omega
  rw [e]
  refine Zerun ?_
  refine CW.loop (fun u : Nat × (Option Addr × Nat) => [(0, .int .i64 a), (1, .int .i64 b), (5, .slice u.2.1 u.1 u.2.2), (6, .int .i64 ((a + u.1 : Nat) : Int))]) (fun u w' => u.1 ≤ b - a ∧ Sees w h h [⟨u.2.1, u.1, u.2.2, 3, 1, ((List.range u.1).map fun i => ((a + i : Nat) : Int)).map (Value.int .i64)⟩] w') (fun u => b - a - u.1) (0, (some ⟨b1, 0, none⟩, b - a)) ⟨rfl, rfl, rfl, rfl, trivial⟩ ⟨by omega, hs⟩ ?_
  rintro ⟨i, ⟨ai, ci⟩⟩ w5 ⟨hi, hs⟩
  dsimp only at hi hs ⊢
  by_cases hlt : i < b - a
  · refine Zerun ?_
    (refine RW.lit T hs (vs := [.int .i64 ((a + i : Nat) : Int)]) (cs := [.int .i64 ((a + i : Nat) : Int)]) rfl rfl rfl rfl (by simp [Value.cells]) rfl rfl rfl rfl rfl ?_; intro b6 w6 hs)
    (refine RW.append T hs 1 rfl rfl (m := 1) (news := [.int .i64 ((a + i : Nat) : Int)]) rfl rfl rfl rfl rfl rfl (hs.src0 rfl (by simp [Value.oneCell'])) (by simp) (by dsimp only; omega) (by omega) ?_; intro ad7 cp7 w7 hs; replace hs := hs.drop)
    refine Zerun ?_
    refine loopQ_round (i + 1, (ad7, cp7)) ⟨rfl, rfl, rfl, seti (by dsimp only; omega), trivial⟩ ⟨by dsimp only; omega, ?_⟩ (by dsimp only; omega)
    dsimp only
    rw [range_snoc]
    exact hs
  · obtain rfl : i = b - a := by omega
    refine Zerun ?_
    obtain ⟨h6, hle6, hs, hS6⟩ := hs.freeze
    refine retQ_ret [_] h6 ⟨rfl, trivial⟩ hs.dropAll ?_
    have := IntsAt.of_sl (l := spanL a b) hS6
    exact this
section
variable {α : Type} {R : GHeap → List Value → α → Prop}
theorem flatTurn_con (hR : Mono R) (h1 : One R) (h9 : Siz 9 R) (nb : α) (hbl : ∀ w h, Con Try.prog 68 [] w h (fun h' u => ∃ cs', u = .agg cs'.toArray ∧ R h' cs' nb))
    (cs : List Value) (v : VecD α) (w : World) (h : GHeap) (hv : VecAt R h cs v) (hvm : v.len ≤ 1048576) (hk0 : v.kind ≠ 0) : Con Try.prog 86 [.agg cs.toArray] w h (fun h' u => ∃ cs', u = .agg cs'.toArray ∧ VecAt R h' cs' (v.pick (turnL v.len) nb)) := by
  have hv' := hv
  obtain ⟨wv, nv, sm, il, fl, ch, bx, ⟨rfl, hoc⟩, hk⟩ := hv
  refine Con.of_body Try.func86 rfl Try.ntmps86 rfl rfl ?_
  intro hs
  refine Zrun ?_
  (refine RW.boxN hs rfl rfl ?_; intro b1 w1 hs)
  (refine RW.allocN T hs rfl rfl rfl rfl ?_; intro b2 w2 hs)
  refine Zerun ?_
  (refine RW.call T hs rfl rfl rfl (vecLen_con _ v _ _ hv') ?_; intro v h3 w3 hle3 hp3 hs)
  subst hp3
  have hv' := hv'.mono hR hle3
  (refine RW.make1 T hs rfl rfl rfl rfl rfl rfl rfl (by dsimp only; omega) (by omega) ?_; intro b4 w4 hs)
  refine Zerun ?_
  refine CW.loop (fun u : Nat × GHeap => [(1, .pointer (some ⟨b1, 0, none⟩)), (2, .pointer (some ⟨b2, 0, none⟩)), (3, .slice (some ⟨b4, 0, none⟩) v.len v.len), (9, .int .i64 v.len), (10, .int .i64 u.1)]) (fun u w' => u.1 ≤ v.len ∧ GLe h3 u.2 ∧ Sees w h u.2 [⟨some ⟨b4, 0, none⟩, v.len, v.len, 3, 1, ((List.range u.1).map fun i => ((v.len - 1 - i : Nat) : Int)).map (Value.int .i64) ++ List.replicate (v.len - u.1) (.int .i64 0)⟩, ⟨some ⟨b2, 0, none⟩, 1, 1, 61, 8, vecCells 0 (.slice none 0 0) 0 (.slice none 0 0) (.slice none 0 0) (.slice none 0 0) (.slice none 0 0) (.slice none 0 0)⟩, ⟨some ⟨b1, 0, none⟩, 1, 1, 61, 8, vecCells v.kind wv nv sm il fl ch bx⟩] w') (fun u => v.len - u.1) (0, h3) ⟨rfl, rfl, rfl, rfl, rfl, trivial⟩ ⟨by omega, GLe.refl _, hs⟩ ?_
  rintro ⟨i, hh⟩ w5 ⟨hi, hg, hs⟩
  dsimp only at hi hg hs ⊢
  have hv' := hv'.mono hR hg
  by_cases hlt : i < v.len
  · refine Zerun ?_
    (refine RW.call T hs rfl rfl rfl (vecLen_con _ v _ _ hv') ?_; intro v h6 w6 hle6 hp6 hs)
    subst hp6
    have hvb : (v.len : Int) - 1 - i = ((v.len - 1 - i : Nat) : Int) := by omega
    refine Zerun ?_
    refine RW.val (Y.idxRN T hs 0 rfl rfl rfl rfl rfl rfl ?_) rfl ?_
    · omega
    rw [hvb]
    refine RW.st1 T hs 0 rfl rfl rfl rfl rfl rfl rfl (by omega) ?_
    intro w7 hs
    replace hs := hs.re (fill_snoc (fun i => ((v.len - 1 - i : Nat) : Int)) i v.len hlt _)
    refine Zerun ?_
    exact loopQ_round (i + 1, h6) ⟨rfl, rfl, rfl, rfl, rfl, trivial⟩ ⟨by dsimp only; omega, hg.trans hle6, hs⟩ (by dsimp only; omega)
  obtain rfl : i = v.len := by omega
  rw [Nat.sub_self, List.replicate_zero, List.append_nil] at hs
  obtain ⟨h8, hle8, hs, hS8⟩ := hs.freeze
  have ha8 : IntsAt h8 (.slice (some ⟨b4, 0, none⟩) v.len v.len) (turnL v.len) := IntsAt.of_sl hS8
  have hv' := hv'.mono hR hle8
  refine Zerun ?_
  (refine RW.call T hs rfl rfl rfl (flatPick_con hR h1 h9 nb hbl _ v _ (turnL v.len) _ _ hv' ha8 (by rw [turnL_length]; omega) hvm hk0) ?_; intro v h9 w9 hle9 hp9 hs)
  obtain ⟨cs9, rfl, hv9⟩ := hp9
  have hv9' := hv9
  obtain ⟨wv', nv', sm', il', fl', ch', bx', ⟨rfl, hoc'⟩, _⟩ := hv9
  (refine RW.storeAll T hs 0 rfl rfl rfl rfl rfl rfl hoc' rfl ?_; intro w10 hs)
  refine Zerun ?_
  exact retQ_ret [_] h9 ⟨resN T hs 0 rfl rfl rfl rfl rfl rfl, trivial⟩ hs.dropAll ⟨_, rfl, hv9'⟩
theorem flatAgain_con (hR : Mono R) (h1 : One R) (h9 : Siz 9 R) (nb : α) (hbl : ∀ w h, Con Try.prog 68 [] w h (fun h' u => ∃ cs', u = .agg cs'.toArray ∧ R h' cs' nb))
    (cs : List Value) (v : VecD α) (n : Int) (w : World) (h : GHeap) (hv : VecAt R h cs v) (hvm : v.len ≤ 1048576) (hk0 : v.kind ≠ 0) (hn : n ≤ 1048576) : Con Try.prog 84 [.agg cs.toArray, .int .i64 n] w h (fun h' u => ∃ cs', u = .agg cs'.toArray ∧ VecAt R h' cs' (v.pick (againL n.toNat v.len) nb)) := by
  have hv' := hv
  obtain ⟨wv, nv, sm, il, fl, ch, bx, ⟨rfl, hoc⟩, hk⟩ := hv
  refine Con.of_body Try.func84 rfl Try.ntmps84 rfl rfl ?_
  intro hs
  refine Zrun ?_
  (refine RW.boxN hs rfl rfl ?_; intro b1 w1 hs)
  (refine RW.allocN T hs rfl rfl rfl rfl ?_; intro b2 w2 hs)
  refine Zerun ?_
  have en : max 0 (min n 1048576) = (n.toNat : Int) := by omega
  rw [en]
  have hm : n.toNat ≤ 1048576 := by omega
  generalize n.toNat = m at hm ⊢
  (refine RW.make1 T hs rfl rfl rfl rfl rfl rfl rfl (by dsimp only; omega) (by omega) ?_; intro b4 w4 hs)
  refine Zerun ?_
  refine CW.loop (fun u : Nat × GHeap => [(2, .pointer (some ⟨b1, 0, none⟩)), (4, .pointer (some ⟨b2, 0, none⟩)), (5, .slice (some ⟨b4, 0, none⟩) m m), (13, .int .i64 m), (14, .int .i64 u.1)]) (fun u w' => u.1 ≤ m ∧ GLe h u.2 ∧ Sees w h u.2 [⟨some ⟨b4, 0, none⟩, m, m, 3, 1, ((List.range u.1).map (againI v.len)).map (Value.int .i64) ++ List.replicate (m - u.1) (.int .i64 0)⟩, ⟨some ⟨b2, 0, none⟩, 1, 1, 61, 8, vecCells 0 (.slice none 0 0) 0 (.slice none 0 0) (.slice none 0 0) (.slice none 0 0) (.slice none 0 0) (.slice none 0 0)⟩, ⟨some ⟨b1, 0, none⟩, 1, 1, 61, 8, vecCells v.kind wv nv sm il fl ch bx⟩] w') (fun u => m - u.1) (0, h) ⟨rfl, rfl, rfl, rfl, rfl, trivial⟩ ⟨by omega, GLe.refl _, hs⟩ ?_
  rintro ⟨i, hh⟩ w5 ⟨hi, hg, hs⟩
  dsimp only at hi hg hs ⊢
  have hv' := hv'.mono hR hg
  by_cases hlt : i < m
  · refine Zerun ?_
    refine RW.val (Y.idxRN T hs 0 rfl rfl rfl rfl rfl rfl ?_) rfl ?_
    · omega
    refine RW.st1 T hs 0 rfl rfl rfl rfl rfl rfl rfl (by omega) ?_
    intro w6 hs
    refine Zerun ?_
    (refine RW.call T hs rfl rfl rfl (vecLen_con _ v _ _ hv') ?_; intro v h7 w7 hle7 hp7 hs)
    subst hp7
    have hv' := hv'.mono hR hle7
    by_cases h0 : 0 < v.len
    · refine Zerun ?_
      (refine RW.call T hs rfl rfl rfl (vecLen_con _ v _ _ hv') ?_; intro v h8 w8 hle8 hp8 hs)
      subst hp8
      have ea : againI v.len i = (i : Int) % (v.len : Int) := by unfold againI; rw [if_pos h0]; omega
      refine Zerun ?_
      refine RW.val (Y.idxRN T hs 0 rfl rfl rfl rfl rfl rfl ?_) rfl ?_
      · omega
      rw [← ea]
      refine RW.st1 T hs 0 rfl rfl rfl rfl rfl rfl rfl (by omega) ?_
      intro w7 hs
      replace hs := hs.re ((List.set_set ..).trans (fill_snoc (againI v.len) i m hlt _))
      refine Zerun ?_
      exact loopQ_round (i + 1, h8) ⟨rfl, rfl, rfl, rfl, rfl, trivial⟩ ⟨by dsimp only; omega, (hg.trans hle7).trans hle8, hs⟩ (by dsimp only; omega)
    · have ea : againI v.len i = -1 := by unfold againI; rw [if_neg h0]
      rw [← ea] at hs
      replace hs := hs.re (fill_snoc (againI v.len) i m hlt _)
      refine Zerun ?_
      exact loopQ_round (i + 1, h7) ⟨rfl, rfl, rfl, rfl, rfl, trivial⟩ ⟨by dsimp only; omega, hg.trans hle7, hs⟩ (by dsimp only; omega)
  obtain rfl : i = m := by omega
  rw [Nat.sub_self, List.replicate_zero, List.append_nil] at hs
  obtain ⟨h8, hle8, hs, hS8⟩ := hs.freeze
  have ha8 : IntsAt h8 (.slice (some ⟨b4, 0, none⟩) i i) (againL i v.len) := by
    have hl : (againL i v.len).length = i := againL_length i v.len
    have := IntsAt.of_sl (l := againL i v.len) hS8
    exact this
  have hv' := hv'.mono hR hle8
  refine Zerun ?_
  (refine RW.call T hs rfl rfl rfl (flatPick_con hR h1 h9 nb hbl _ v _ (againL i v.len) _ _ hv' ha8 (by rw [againL_length]; omega) hvm hk0) ?_; intro v h9 w9 hle9 hp9 hs)
  obtain ⟨cs9, rfl, hv9⟩ := hp9
  have hv9' := hv9
  obtain ⟨wv', nv', sm', il', fl', ch', bx', ⟨rfl, hoc'⟩, _⟩ := hv9
  (refine RW.storeAll T hs 0 rfl rfl rfl rfl rfl rfl hoc' rfl ?_; intro w10 hs)
  refine Zerun ?_
  exact retQ_ret [_] h9 ⟨resN T hs 0 rfl rfl rfl rfl rfl rfl, trivial⟩ hs.dropAll ⟨_, rfl, hv9'⟩
end
end Go.Proofs.Ythbfkhklihejiaa

/-
  Contracts of functions of package bitvec: bits behind the last one away, and truths cut. No statement is proved here.
-/
namespace Go.Proofs.Ythbfkhklihejiaa
open Go Go.RowKit
set_option linter.unusedVariables false
set_option linter.unusedSimpArgs false
set_option maxHeartbeats 4000000
attribute [local irreducible] CW RW QW SW HW ConM retM heldQ calmQ elemP thenQ blockQ loopQ joinQ retQ Yields Con Sl zF magR unitF truncF fwF wholeF tidySpec elemQ rankF leastN tidyW
set_option maxHeartbeats 4000000

section
variable {P : Program} {n : Nat} {L : Env} {w : World} {ty : TypeId} {x y : Operand} {t yt : TypeId}
theorem Y.subU {u v : Nat} (hx : opv L x = some (.int .u64 (u : Int))) (hy : opv L y = some (.int .u64 (v : Int))) (hu : u < 18446744073709551616) (hv : v ≤ u) : Yields P n L w (.binOp .sub t x y yt) ty (.int .u64 ((u - v : Nat) : Int)) := by
  have := Y.sub' (P := P) (n := n) (w := w) (ty := ty) (t := t) (yt := yt) hx hy
  rw [show (u : Int) - v = ((u - v : Nat) : Int) by omega, wrapU _ (by omega)] at this
  exact this
theorem Y.shlI {u v : Nat} {yk : IntKind} (hx : opv L x = some (.int .i64 (u : Int))) (hy : opv L y = some (.int yk (v : Int))) (hv : v ≤ 64) (hb : u * 2 ^ v < 9223372036854775808) : Yields P n L w (.binOp .shl t x y yt) ty (.int .i64 ((u * 2 ^ v : Nat) : Int)) := by
  have := Y.shl' (P := P) (n := n) (w := w) (ty := ty) (t := t) (yt := yt) hx hy (by omega)
  have e : IntKind.i64.wrap ((u : Int) * 2 ^ (min (v : Int).toNat IntKind.i64.bits)) = ((u * 2 ^ v : Nat) : Int) := by
    rw [Int.toNat_natCast, show IntKind.i64.bits = 64 from rfl, Nat.min_eq_left hv, show (u : Int) * 2 ^ v = ((u * 2 ^ v : Nat) : Int) by push_cast; rfl, wrap64 (by omega)]
  rw [e] at this
  exact this
end
section
variable {P : Program} {L : Env} {w0 w : World} {h0 h : GHeap}
theorem retM_end {rs : List ResultVar} {post : GHeap → List Row → Value → Prop} (vs : List Value) (h' : GHeap) (O' : List Row) (hr : Res P L w rs vs) (hl : GLe h h') (hs : Sees w0 h0 h' O' w) (hp : post h' O' (packv vs)) : retM P rs w0 h0 h post .normal L w := by
  unfold retM
  exact ⟨vs, h', O', hr, hl, hs, hp⟩
end
/-! ## Plain facts -/
def BitsUp (m : Nat) (ws : List Int) (g : Nat → Bool) : Prop := ws.length = m ∧ (∀ u ∈ ws, 0 ≤ u ∧ u < 18446744073709551616) ∧ ∀ i, i < m * 64 → (ws.getD (i / 64) 0).toNat.testBit (i % 64) = g i
def trimW (n : Nat) (ws : List Int) : List Int := if n % 64 = 0 then ws else ws.set (ws.length - 1) (((ws.getD (ws.length - 1) 0).toNat &&& (2 ^ (n % 64) - 1) : Nat) : Int)
def cutW (ws : List Int) (f i : Nat) : Nat := ((ws.getD ((f + i * 64) / 64) 0).toNat >>> ((f + i * 64) % 64)) ||| (if 0 < (f + i * 64) % 64 ∧ (f + i * 64) / 64 + 1 < ws.length then (ws.getD ((f + i * 64) / 64 + 1) 0).toNat <<< (64 - (f + i * 64) % 64) % 18446744073709551616 else 0)
theorem word_lt {ws : List Int} (h : ∀ u ∈ ws, 0 ≤ u ∧ u < 18446744073709551616) (i : Nat) : (ws.getD i 0).toNat < 18446744073709551616 := by
  by_cases c : i < ws.length
  · have := h _ (mem_getD ws i 0 c); omega
  · simp [List.getD_eq_getElem?_getD, c]
theorem word_cast {ws : List Int} (h : ∀ u ∈ ws, 0 ≤ u ∧ u < 18446744073709551616) (i : Nat) : ws.getD i 0 = ((ws.getD i 0).toNat : Int) := by
  by_cases c : i < ws.length
  · have := h _ (mem_getD ws i 0 c); omega
  · simp [List.getD_eq_getElem?_getD, c]
theorem shl_lt (u v : Nat) : u <<< v % 18446744073709551616 < 18446744073709551616 := Nat.mod_lt _ (by decide)
theorem cutW_lt {ws : List Int} (h : ∀ u ∈ ws, 0 ≤ u ∧ u < 18446744073709551616) (f i : Nat) : cutW ws f i < 18446744073709551616 := by
  unfold cutW
  refine Nat.or_lt_two_pow (n := 64) (Nat.lt_of_le_of_lt (Nat.shiftRight_le _ _) (word_lt h _)) ?_
  split
  · exact shl_lt _ _
  · decide
theorem cutW_bit {ws : List Int} {bs : List Bool} (hb : BitsOf ws bs) (f i j : Nat) (hj : j < 64) : (cutW ws f i).testBit j = bs.getD (f + i * 64 + j) false := by
  obtain ⟨hl, hr, hb⟩ := hb
  have h1 := hb (f + i * 64 + j)
  rw [← h1]
  unfold cutW
  rw [Nat.testBit_or, Nat.testBit_shiftRight]
  generalize hk : (f + i * 64) / 64 = k
  generalize hrr : (f + i * 64) % 64 = r
  have hat : f + i * 64 = k * 64 + r := by omega
  have hr64 : r < 64 := by omega
  by_cases c : r + j < 64
  · have e1 : (f + i * 64 + j) / 64 = k := by omega
    have e2 : (f + i * 64 + j) % 64 = r + j := by omega
    rw [e1, e2]
    have : (if 0 < r ∧ k + 1 < ws.length then (ws.getD (k + 1) 0).toNat <<< (64 - r) % 18446744073709551616 else 0).testBit j = false := by
      split
      · rw [show (18446744073709551616 : Nat) = 2 ^ 64 from rfl, Nat.testBit_mod_two_pow, Nat.testBit_shiftLeft]
        simp [show ¬ (j ≥ 64 - r) by omega]
      · simp
    rw [this, Bool.or_false]
  · have e1 : (f + i * 64 + j) / 64 = k + 1 := by omega
    have e2 : (f + i * 64 + j) % 64 = r + j - 64 := by omega
    rw [e1, e2]
    have h2 : (ws.getD k 0).toNat.testBit (r + j) = false := by
      apply Nat.testBit_lt_two_pow
      exact Nat.lt_of_lt_of_le (word_lt hr k) (Nat.pow_le_pow_right (n := 2) (by omega) (show 64 ≤ r + j by omega))
    rw [h2, Bool.false_or]
    by_cases c2 : k + 1 < ws.length
    · rw [if_pos ⟨by omega, c2⟩, show (18446744073709551616 : Nat) = 2 ^ 64 from rfl, Nat.testBit_mod_two_pow, Nat.testBit_shiftLeft]
      simp [hj, show j ≥ 64 - r by omega, show j - (64 - r) = r + j - 64 by omega]
    · rw [if_neg (by omega)]
      simp [List.getD_eq_getElem?_getD, c2]
theorem BitsUp.trim {n : Nat} {ws : List Int} {g : Nat → Bool} (h : BitsUp ((n + 63) / 64) ws g) (bs : List Bool) (hn : bs.length = n) (hg : ∀ i, i < n → g i = bs.getD i false) : BitsOf (trimW n ws) bs := by
  obtain ⟨hl, hr, hb⟩ := h
  subst hn
  have hout : ∀ i, bs.length ≤ i → bs.getD i false = false := by intro i hi; simp [List.getD_eq_getElem?_getD, hi]
  have hbig : ∀ i, ws.length ≤ i / 64 → (ws.getD (i / 64) 0).toNat.testBit (i % 64) = false := by
    intro i hi
    have : ws.getD (i / 64) 0 = 0 := by simp [List.getD_eq_getElem?_getD, hi]
    rw [this]; simp
  unfold trimW
  by_cases c : bs.length % 64 = 0
  · rw [if_pos c]
    refine ⟨hl, hr, fun i => ?_⟩
    by_cases c2 : i < bs.length
    · rw [hb i (by omega), hg i c2]
    · rw [hout i (by omega)]
      exact hbig i (by omega)
  · rw [if_neg c]
    have hlast : ws.length - 1 < ws.length := by omega
    have hlt := word_lt hr (ws.length - 1)
    refine ⟨by rw [List.length_set]; exact hl, fun u hu => ?_, fun i => ?_⟩
    · rcases List.mem_or_eq_of_mem_set hu with hu | hu
      · exact hr u hu
      · subst hu
        have := Nat.and_le_left (n := (ws.getD (ws.length - 1) 0).toNat) (m := 2 ^ (bs.length % 64) - 1)
        omega
    · rw [getD_set _ _ _ _ _ hlast]
      by_cases c2 : i / 64 = ws.length - 1
      · rw [if_pos c2, Int.toNat_natCast, Nat.testBit_and, Nat.testBit_two_pow_sub_one]
        by_cases c3 : i < bs.length
        · have := hb i (by omega)
          rw [c2] at this
          rw [this, hg i c3]
          simp [show i % 64 < bs.length % 64 by omega]
        · rw [hout i (by omega)]
          simp [show ¬ i % 64 < bs.length % 64 by omega]
      · rw [if_neg c2]
        by_cases c3 : i < bs.length
        · rw [hb i (by omega), hg i c3]
        · rw [hout i (by omega)]
          exact hbig i (by omega)
theorem BitsUp.put {m : Nat} {ws : List Int} {bs : List Bool} {f i : Nat} {out : List Int} (hb : BitsOf ws bs) (ho : BitsUp m out (fun j => if j < i * 64 then bs.getD (f + j) false else false)) (hi : i < m) : BitsUp m (out.set i (cutW ws f i : Int)) (fun j => if j < (i + 1) * 64 then bs.getD (f + j) false else false) := by
  obtain ⟨hl, hr, hbo⟩ := ho
  refine ⟨by rw [List.length_set]; exact hl, fun u hu => ?_, fun j hj => ?_⟩
  · rcases List.mem_or_eq_of_mem_set hu with hu | hu
    · exact hr u hu
    · subst hu
      have := cutW_lt hb.2.1 f i
      omega
  · rw [getD_set _ _ _ _ _ (by omega)]
    by_cases e : j / 64 = i
    · rw [if_pos e, Int.toNat_natCast, cutW_bit hb f i _ (Nat.mod_lt _ (by omega))]
      dsimp only
      rw [if_pos (by omega)]
      congr 1
      omega
    · rw [if_neg e, hbo j hj]
      dsimp only
      by_cases c : j < i * 64
      · rw [if_pos c, if_pos (by omega)]
      · rw [if_neg c, if_neg (by omega)]
theorem BitsUp.zero (m : Nat) (g : Nat → Bool) : BitsUp m (List.replicate m 0) (fun j => if j < 0 * 64 then g j else false) := by
  refine ⟨by simp, fun u hu => ?_, fun j hj => ?_⟩
  · rw [List.eq_of_mem_replicate hu]; omega
  · dsimp only
    rw [if_neg (by omega)]
    have : (List.replicate m (0 : Int)).getD (j / 64) 0 = 0 := by
      rw [List.getD_eq_getElem?_getD, List.getElem?_replicate]
      split <;> rfl
    rw [this]; simp
theorem pow_sub_lt (r : Nat) (h : r < 64) : 2 ^ r < 18446744073709551616 := Nat.pow_lt_pow_right (show 1 < 2 by omega) h
theorem bitsTrim_conM (n : Nat) (b : Nat) (ws : List Int) (x0 : Row) (w0 w : World) (h0 h : GHeap) (O : List Row) (hl : ws.length = (n + 63) / 64) (hr : ∀ u ∈ ws, 0 ≤ u ∧ u < 18446744073709551616) (hn : n ≤ 1048576) : ConM Try.prog 191 [.agg [.slice (some ⟨b, 0, none⟩) ws.length ws.length, .int .i64 n].toArray] w0 h0 h (x0 :: ⟨some ⟨b, 0, none⟩, ws.length, ws.length, 107, 1, ws.map (Value.int .u64)⟩ :: O) w
    (fun h' O' v => h' = h ∧ O' = x0 :: ⟨some ⟨b, 0, none⟩, ws.length, ws.length, 107, 1, (trimW n ws).map (Value.int .u64)⟩ :: O) := by
  refine ConM.of_body Try.func191 rfl Try.ntmps191 rfl rfl ?_
  intro hs
  refine Zrun ?_
  (refine RW.boxN hs rfl rfl ?_; intro b1 w1 hs)
  refine Zerun ?_
  refine RW.val (Y.andI (u := n) (v := 63) rfl rfl (by omega) (by omega)) rfl ?_
  rw [and63]
  by_cases c : n % 64 = 0
  · refine Zerun ?_
    refine retM_end [] h _ (by trivial) (GLe.refl _) hs.drop ⟨rfl, ?_⟩
    unfold trimW
    rw [if_pos c]
  · have h64 := Nat.mod_lt n (show 64 > 0 by omega)
    have hp := pow_sub_lt _ h64
    have hp1 := Nat.pow_pos (n := n % 64) (show 0 < 2 by omega)
    have hwl := word_lt hr (ws.length - 1)
    have hwc := word_cast hr (ws.length - 1)
    have e1 : (ws.length : Int) - 1 = ((ws.length - 1 : Nat) : Int) := by omega
    refine Zerun ?_
    rw [e1]
    refine RW.val (Y.idxRN T hs 2 rfl rfl rfl rfl rfl rfl ?_) rfl ?_
    · omega
    refine RW.val (Y.ldRInt T hs 2 rfl rfl rfl rfl ?_) rfl ?_
    · omega
    rw [hwc]
    refine Zerun ?_
    refine RW.val (Y.convII T rfl rfl rfl) rfl ?_
    rw [wrapU _ (by omega)]
    refine RW.val (Y.shlU (u := 1) rfl rfl (by omega)) rfl ?_
    rw [Nat.one_shiftLeft, Nat.mod_eq_of_lt hp]
    refine RW.val (Y.subU rfl rfl hp (v := 1) (by omega)) rfl ?_
    refine RW.val (Y.andU rfl rfl hwl (by omega)) rfl ?_
    refine RW.val (Y.idxRN T hs 2 rfl rfl rfl rfl rfl rfl ?_) rfl ?_
    · omega
    refine RW.st1 T hs 2 rfl rfl rfl rfl rfl rfl rfl (by omega) ?_
    intro w2 hs
    refine Zerun ?_
    refine retM_end [] h _ (by trivial) (GLe.refl _) hs.drop ⟨rfl, ?_⟩
    unfold trimW
    rw [if_neg c, ← map_set_int]
    rfl
theorem bitsCut_con (wv : Value) (bs : List Bool) (f t_ : Nat) (w : World) (h : GHeap) (hb : BitsAt h wv bs) (hft : f ≤ t_) (ht : t_ ≤ bs.length) : Con Try.prog 154 [.agg [wv, .int .i64 bs.length].toArray, .int .i64 f, .int .i64 t_] w h (fun h' u => ∃ wv', u = .agg [wv', .int .i64 ((t_ - f : Nat) : Int)].toArray ∧ BitsAt h' wv' ((bs.drop f).take (t_ - f))) := by
  obtain ⟨hbm, ws, ⟨ad, cp, rfl, hS⟩, hB⟩ := hb
  have hB' := hB
  obtain ⟨hwl, hwr, hwb⟩ := hB'
  refine Con.of_body Try.func154 rfl Try.ntmps154 rfl rfl ?_
  intro hs
  refine Zrun ?_
  (refine RW.boxN hs rfl rfl ?_; intro b1 w1 hs)
  (refine RW.allocN T hs rfl rfl rfl rfl ?_; intro b2 w2 hs)
  refine Zerun ?_
  have e1 : max 0 (min (f : Int) (bs.length : Int)) = f := by omega
  rw [e1]
  have e2 : max (f : Int) (min (t_ : Int) (bs.length : Int)) = t_ := by omega
  rw [e2]
  have e3 : (t_ : Int) - f = ((t_ - f : Nat) : Int) := by omega
  rw [e3]
  (refine RW.callM T hs rfl rfl rfl (bitsMake_conM (t_ - f) _ _ _ _ _ (by omega)) ?_; intro v h3 O3 w3 hle3 hp3 hs)
  obtain ⟨rfl, b4, rfl, rfl⟩ := hp3
  (refine RW.allocN T hs rfl rfl rfl rfl ?_; intro b5 w5 hs)
  (refine RW.storeAll T hs 0 rfl rfl rfl rfl rfl rfl rfl rfl ?_; intro w6 hs)
  have hz := BitsUp.zero ((t_ - f + 63) / 64) (fun j => bs.getD (f + j) false)
  generalize hkk : (t_ - f + 63) / 64 = kk at hz hs ⊢
  refine Zerun ?_
  refine CW.loop (fun p : Nat × List Int => [(1, .int .i64 f), (3, .pointer (some ⟨b1, 0, none⟩)), (6, .pointer (some ⟨b2, 0, none⟩)), (7, .pointer (some ⟨b5, 0, none⟩)), (29, .int .i64 kk), (30, .int .i64 p.1)]) (fun p w' => p.1 ≤ kk ∧ BitsUp kk p.2 (fun j => if j < p.1 * 64 then bs.getD (f + j) false else false) ∧ Sees w h3 h3 [⟨some ⟨b5, 0, none⟩, 1, 1, 54, 2, [.slice (some ⟨b4, 0, none⟩) kk kk, .int .i64 ((t_ - f : Nat) : Int)]⟩, ⟨some ⟨b4, 0, none⟩, kk, kk, 107, 1, p.2.map (Value.int .u64)⟩, ⟨some ⟨b2, 0, none⟩, 1, 1, 54, 2, [.slice none 0 0, .int .i64 0]⟩, ⟨some ⟨b1, 0, none⟩, 1, 1, 54, 2, [.slice ad ws.length cp, .int .i64 bs.length]⟩] w') (fun p => kk - p.1) (0, List.replicate kk 0) ⟨rfl, rfl, rfl, rfl, rfl, rfl, trivial⟩ ⟨by omega, hz, hs⟩ ?_
  rintro ⟨i, out⟩ w7 ⟨hi, hU, hs⟩
  dsimp only at hi hU hs ⊢
  by_cases hlt : i < kk
  · have hput := hU.put hB hlt
    have hol : out.length = kk := hU.1
    have hcw : cutW ws f i = ((ws.getD ((f + i * 64) / 64) 0).toNat >>> ((f + i * 64) % 64)) ||| (if 0 < (f + i * 64) % 64 ∧ (f + i * 64) / 64 + 1 < ws.length then (ws.getD ((f + i * 64) / 64 + 1) 0).toNat <<< (64 - (f + i * 64) % 64) % 18446744073709551616 else 0) := rfl
    refine Zerun ?_
    refine RW.val (Y.shlI (u := i) (v := 6) rfl rfl (by omega) (by omega)) rfl ?_
    rw [show i * 2 ^ 6 = i * 64 from rfl]
    refine Zerun ?_
    rw [show (f : Int) + ((i * 64 : Nat) : Int) = ((f + i * 64 : Nat) : Int) by omega]
    refine RW.val (Y.shrI (u := f + i * 64) (v := 6) rfl rfl (by omega)) rfl ?_
    rw [shr6]
    refine Zerun ?_
    refine RW.val (Y.andI (u := f + i * 64) (v := 63) rfl rfl (by omega) (by omega)) rfl ?_
    rw [and63]
    refine RW.val (Y.convII T rfl rfl rfl) rfl ?_
    rw [wrapU _ (by omega)]
    have hkl : (f + i * 64) / 64 < ws.length := by omega
    have hr64 : (f + i * 64) % 64 < 64 := Nat.mod_lt _ (by omega)
    generalize (f + i * 64) / 64 = k at hkl hcw ⊢
    generalize (f + i * 64) % 64 = r at hr64 hcw ⊢
    have hwk := word_cast hwr k
    have hwk2 := word_lt hwr k
    refine Zerun ?_
    refine CW.regionT T 11 hs (fun w hs => ?_) (by kernel_rfl)
    simp only [List.take_succ_cons, List.take_zero, List.drop_succ_cons, List.drop_zero]
    refine Zsrun ?_
    rw [hwk]
    refine SW.val (Y.shrU rfl rfl (by omega)) rfl ?_
    refine SW.val (Y.idxRN T hs 1 rfl rfl rfl rfl rfl rfl ?_) rfl ?_
    · omega
    refine SW.nil ?_
    refine RW.st1 T hs 1 rfl rfl rfl rfl rfl rfl rfl (by omega) ?_
    intro w8 hs
    dsimp only [List.set_cons_succ, List.set_cons_zero] at hs
    rw [map_set_int] at hs
    have hsh : (ws.getD k 0).toNat >>> r < 18446744073709551616 := Nat.lt_of_le_of_lt (Nat.shiftRight_le _ _) hwk2
    by_cases c1 : 0 < r
    · by_cases c2 : k + 1 < ws.length
      · rw [if_pos ⟨c1, c2⟩] at hcw
        have hwk3 := word_cast hwr (k + 1)
        have hwk4 := word_lt hwr (k + 1)
        refine Zerun ?_
        refine CW.regionT T 16 hs (fun w hs => ?_) (by kernel_rfl)
        simp only [List.take_succ_cons, List.take_zero, List.drop_succ_cons, List.drop_zero]
        refine Zsrun ?_
        refine SW.val (Y.idxRN T hs 1 rfl rfl rfl rfl rfl rfl ?_) rfl ?_
        · omega
        refine SW.val (Y.ldRInt T hs 1 rfl rfl rfl rfl ?_) rfl ?_
        · omega
        rw [getD_set _ _ _ _ _ (by omega), if_pos rfl]
        refine Zsrun ?_
        have ek : (k : Int) + 1 = ((k + 1 : Nat) : Int) := by omega
        rw [ek]
        refine Zsrun ?_
        rw [hwk3]
        refine SW.val (Y.subU (u := 64) (v := r) rfl rfl (by omega) (by omega)) rfl ?_
        refine SW.val (Y.shlU rfl rfl (by omega)) rfl ?_
        refine SW.val (Y.orU rfl rfl hsh (shl_lt _ _)) rfl ?_
        refine SW.val (Y.idxRN T hs 1 rfl rfl rfl rfl rfl rfl ?_) rfl ?_
        · omega
        refine SW.nil ?_
        refine RW.st1 T hs 1 rfl rfl rfl rfl rfl rfl rfl (by omega) ?_
        intro w9 hs
        dsimp only [List.set_cons_succ, List.set_cons_zero] at hs
        rw [map_set_int, List.set_set, ← hcw] at hs
        refine Zerun ?_
        exact loopQ_round (i + 1, out.set i (cutW ws f i : Int)) ⟨rfl, rfl, rfl, rfl, rfl, rfl, trivial⟩ ⟨by dsimp only; omega, hput, hs⟩ (by dsimp only; omega)
      · rw [if_neg (by omega), Nat.or_zero] at hcw
        rw [← hcw] at hs
        refine Zerun ?_
        exact loopQ_round (i + 1, out.set i (cutW ws f i : Int)) ⟨rfl, rfl, rfl, rfl, rfl, rfl, trivial⟩ ⟨by dsimp only; omega, hput, hs⟩ (by dsimp only; omega)
    · rw [if_neg (by omega), Nat.or_zero] at hcw
      rw [← hcw] at hs
      refine Zerun ?_
      exact loopQ_round (i + 1, out.set i (cutW ws f i : Int)) ⟨rfl, rfl, rfl, rfl, rfl, rfl, trivial⟩ ⟨by dsimp only; omega, hput, hs⟩ (by dsimp only; omega)
  · obtain rfl : i = kk := by omega
    have hol : out.length = i := hU.1
    have hfin : BitsOf (trimW (t_ - f) out) ((bs.drop f).take (t_ - f)) := by
      have hU2 : BitsUp ((t_ - f + 63) / 64) out (fun j => if j < i * 64 then bs.getD (f + j) false else false) := by rw [hkk]; exact hU
      refine hU2.trim _ (by simp; omega) ?_
      intro j hj
      rw [if_pos (by omega)]
      simp only [List.getD_eq_getElem?_getD, List.getElem?_take, List.getElem?_drop]
      rw [if_pos hj]
    have hUr := hU.2.1
    subst hol
    refine Zerun ?_
    (refine RW.callM T hs rfl rfl rfl (bitsTrim_conM (t_ - f) b4 out _ _ _ _ _ _ hkk.symm hUr (by omega)) ?_; intro v h8 O8 w8 hle8 hp8 hs)
    obtain ⟨rfl, rfl⟩ := hp8
    refine Zerun ?_
    (refine RW.storeAll T hs 2 rfl rfl rfl rfl rfl rfl rfl rfl ?_; intro w9 hs)
    refine Zerun ?_
    obtain ⟨h9, hle9, hs9, hS9⟩ := hs.drop.freeze
    refine retQ_ret [_] h9 ⟨resN T hs 2 rfl rfl rfl rfl rfl rfl, trivial⟩ hs9.dropAll ⟨_, rfl, by simp; omega, trimW (t_ - f) out, ?_, hfin⟩
    have hlt : (trimW (t_ - f) out).length = out.length := by unfold trimW; split <;> simp
    rw [← hlt] at hS9 ⊢
    exact RowAt.of_sl hS9
end Go.Proofs.Ythbfkhklihejiaa

/-
  Contracts of functions of packages flat and bitvec: elements cut, truths one by one. No statement is proved here.
-/
namespace Go.Proofs.Ythbfkhklihejiaa
open Go Go.RowKit
set_option linter.unusedVariables false
set_option linter.unusedSimpArgs false
set_option maxHeartbeats 4000000
attribute [local irreducible] CW RW QW SW HW ConM retM heldQ calmQ elemP thenQ blockQ loopQ joinQ retQ Yields Con Sl zF magR unitF truncF fwF wholeF tidySpec elemQ rankF leastN tidyW
set_option maxHeartbeats 4000000

def cutA (n : Nat) (a : Int) : Nat := (max 0 (min a n)).toNat
def cutB (n : Nat) (a b : Int) : Nat := (max (cutA n a : Int) (min b n)).toNat
theorem cutA_le (n : Nat) (a : Int) : cutA n a ≤ n := by unfold cutA; omega
theorem cutB_le (n : Nat) (a b : Int) : cutA n a ≤ cutB n a b ∧ cutB n a b ≤ n := by have := cutA_le n a; unfold cutB; omega
theorem span_bits (bs : List Bool) (f t_ : Nat) (hf : f ≤ t_) (ht : t_ ≤ bs.length) : (spanL f t_).map (fun i => bitAt bs i) = (bs.drop f).take (t_ - f) := by
  apply List.ext_getElem?
  intro j
  simp only [spanL, List.map_map, List.getElem?_map, List.getElem?_take, List.getElem?_drop]
  by_cases c : j < t_ - f
  · rw [List.getElem?_range c, if_pos c]
    simp only [Option.map_some, Function.comp]
    have : f + j < bs.length := by omega
    unfold bitAt
    rw [if_pos (by omega), Int.toNat_natCast]
    simp [List.getD_eq_getElem?_getD, this]
  · rw [if_neg c]
    simp [c]
section
variable {α : Type} {R : GHeap → List Value → α → Prop}
theorem flatCut_con (hR : Mono R) (h1 : One R) (h9 : Siz 9 R) (nb : α) (hbl : ∀ w h, Con Try.prog 68 [] w h (fun h' u => ∃ cs', u = .agg cs'.toArray ∧ R h' cs' nb))
    (cs : List Value) (v : VecD α) (a b : Int) (w : World) (h : GHeap) (hv : VecAt R h cs v) (hvm : v.len ≤ 1048576) (hk0 : v.kind ≠ 0) : Con Try.prog 83 [.agg cs.toArray, .int .i64 a, .int .i64 b] w h (fun h' u => ∃ cs', u = .agg cs'.toArray ∧ VecAt R h' cs' (v.pick (spanL (cutA v.len a) (cutB v.len a b)) nb)) := by
  have hv' := hv
  obtain ⟨wv, nv, sm, il, fl, ch, bx, ⟨rfl, hoc⟩, hk⟩ := hv
  refine Con.of_body Try.func83 rfl Try.ntmps83 rfl rfl ?_
  intro hs
  refine Zrun ?_
  (refine RW.boxN hs rfl rfl ?_; intro b1 w1 hs)
  (refine RW.allocN T hs rfl rfl rfl rfl ?_; intro b2 w2 hs)
  refine Zerun ?_
  (refine RW.call T hs rfl rfl rfl (vecLen_con _ v _ _ hv') ?_; intro v h3 w3 hle3 hp3 hs)
  subst hp3
  have hv' := hv'.mono hR hle3
  refine Zerun ?_
  have e1 : max 0 (min a (v.len : Int)) = (cutA v.len a : Int) := by unfold cutA; omega
  rw [e1]
  (refine RW.call T hs rfl rfl rfl (vecLen_con _ v _ _ hv') ?_; intro v h4 w4 hle4 hp4 hs)
  subst hp4
  have hv' := hv'.mono hR hle4
  refine Zerun ?_
  have e2 : max (cutA v.len a : Int) (min b (v.len : Int)) = (cutB v.len a b : Int) := by unfold cutB; omega
  rw [e2]
  have hfA := cutA_le v.len a
  obtain ⟨hft, htl⟩ := cutB_le v.len a b
  generalize cutA v.len a = f at hfA hft ⊢
  generalize cutB v.len a b = t_ at hft htl ⊢
  (refine RW.call T hs rfl rfl rfl (vecPacked_con _ v _ _ hv') ?_; intro v h5 w5 hle5 hp5 hs)
  obtain ⟨wv5, bs, rfl, hb5, hb51, hb50⟩ := hp5
  have hv' := hv'.mono hR hle5
  have hb5' := hb5
  obtain ⟨_, ws, ⟨ad5, cp5, rfl, _⟩, _⟩ := hb5'
  refine Zerun ?_
  (refine RW.allocN T hs rfl rfl rfl rfl ?_; intro b6 w6 hs)
  (refine RW.storeAll T hs 0 rfl rfl rfl rfl rfl rfl rfl rfl ?_; intro w7 hs)
  refine Zerun ?_
  by_cases k1 : v.kind = 1
  · rw [decide_eq_true k1]
    have hvb := hb51 k1
    have hlen : v.len = bs.length := by rw [hvb]; simp [VecD.len]
    refine Zerun ?_
    (refine RW.call T hs rfl rfl rfl (bitsCut_con _ bs f t_ _ _ hb5 hft (by omega)) ?_; intro v h8 w8 hle8 hp8 hs)
    obtain ⟨wv8, rfl, hb8⟩ := hp8
    have hl8 : ((bs.drop f).take (t_ - f)).length = t_ - f := by simp; omega
    rw [← hl8]
    (refine RW.call T hs rfl rfl rfl (vecBits_con (R := R) wv8 _ _ _ hb8) ?_; intro v h9 w9 hle9 hp9 hs)
    obtain ⟨cs9, rfl, hv9⟩ := hp9
    rw [← span_bits bs f t_ hft (by omega), pick_bits bs _ nb, ← hvb] at hv9
    have hv9' := hv9
    obtain ⟨wv', nv', sm', il', fl', ch', bx', ⟨rfl, hoc'⟩, _⟩ := hv9'
    (refine RW.storeAll T hs 1 rfl rfl rfl rfl rfl rfl hoc' rfl ?_; intro w10 hs)
    refine Zerun ?_
    refine retQ_ret [_] h9 ⟨resN T hs 1 rfl rfl rfl rfl rfl rfl, trivial⟩ hs.dropAll ⟨_, rfl, hv9⟩
  rw [decide_eq_false k1]
  refine Zerun ?_
  refine CW.regionR T 2 2 hs rfl rfl ?_
  intro w8 hs
  refine HW.takeR (fuel := 5) 0 rfl (fun _ _ ka kb _ hs hka hkb => Y.loadRowN T hs ka hka rfl rfl rfl rfl rfl rfl) ⟨_, _, 2, 2, hs, rfl, rfl⟩ rfl (by kernel_rfl) (by kernel_rfl) (by kernel_rfl) ?_
  refine HW.takeR (fuel := 4) 1 rfl (fun _ _ ka kb _ hs hka hkb => Y.move rfl) ⟨_, _, 2, 2, hs, rfl, rfl⟩ rfl (by kernel_rfl) (by kernel_rfl) (by kernel_rfl) ?_
  refine HW.takeR (fuel := 3) 2 rfl (fun _ _ ka kb _ hs hka hkb => Y.move rfl) ⟨_, _, 2, 2, hs, rfl, rfl⟩ rfl (by kernel_rfl) (by kernel_rfl) (by kernel_rfl) ?_
  refine HW.one (fuel := 2) 3 rfl (by kernel_rfl) ?_
  (refine RW.call T hs rfl rfl rfl (flatSpan_con f t_ _ _ hft (by omega)) ?_; intro v h34 w34 hle34 hp34 hs)
  have hv' := hv'.mono hR hle34
  refine RW.nil ?_
  refine heldQ_normal ⟨_, _, 2, 2, hs, rfl, rfl⟩ ?_
  refine HW.one (fuel := 1) 4 rfl (by kernel_rfl) ?_
  (refine RW.call T hs rfl rfl rfl (flatPick_con hR h1 h9 nb hbl _ _ _ (spanL f t_) _ _ hv' hp34 (by rw [spanL_length]; omega) hvm hk0) ?_; intro v h35 w35 hle35 hp35 hs)
  obtain ⟨cs35, rfl, hv35⟩ := hp35
  have hv35' := hv35
  obtain ⟨wv5, nv5, sm5, il5, fl5, ch5, bx5, ⟨rfl, hoc5⟩, _⟩ := hv35'
  refine RW.nil ?_
  refine heldQ_normal ⟨_, _, 2, 2, hs, rfl, rfl⟩ ?_
  refine HW.one (fuel := 0) 5 rfl (by kernel_rfl) ?_
  (refine RW.storeAll T hs 1 rfl rfl rfl rfl rfl rfl hoc5 rfl ?_; intro w37 hs)
  refine RW.nil ?_
  refine heldQ_normal ⟨_, _, 2, 2, hs, rfl, rfl⟩ ?_
  refine HW.done (by kernel_rfl) ?_
  refine calmQ_normal ?_
  refine Zerun ?_
  exact retQ_ret [_] h35 ⟨resN T hs 1 rfl rfl rfl rfl rfl rfl, trivial⟩ hs.dropAll ⟨_, rfl, hv35⟩
end
theorem bitsUnpack_con (wv : Value) (bs : List Bool) (w : World) (h : GHeap) (hb : BitsAt h wv bs) : Con Try.prog 188 [.agg [wv, .int .i64 bs.length].toArray] w h (fun h' u => TAt h' u bs) := by
  have hb' := hb
  obtain ⟨hbm, ws, ⟨ad, cp, rfl, hS⟩, hwl, hwr, hwb⟩ := hb
  refine Con.of_body Try.func188 rfl Try.ntmps188 rfl rfl ?_
  intro hs
  refine Zrun ?_
  (refine RW.boxN hs rfl rfl ?_; intro b1 w1 hs)
  refine Zerun ?_
  (refine RW.make1 T hs rfl rfl rfl rfl rfl rfl rfl (by dsimp only; omega) (by omega) ?_; intro b2 w2 hs)
  refine Zerun ?_
  refine CW.loop (fun u : Nat × GHeap => [(1, .pointer (some ⟨b1, 0, none⟩)), (3, .slice (some ⟨b2, 0, none⟩) bs.length bs.length), (9, .int .i64 bs.length), (10, .int .i64 u.1)]) (fun u w' => u.1 ≤ bs.length ∧ GLe h u.2 ∧ Sees w h u.2 [⟨some ⟨b2, 0, none⟩, bs.length, bs.length, 4, 1, (bs.take u.1).map Value.bool ++ List.replicate (bs.length - u.1) (.bool false)⟩, ⟨some ⟨b1, 0, none⟩, 1, 1, 54, 2, [.slice ad ws.length cp, .int .i64 bs.length]⟩] w') (fun u => bs.length - u.1) (0, h) ⟨rfl, rfl, rfl, rfl, trivial⟩ ⟨by omega, GLe.refl _, hs⟩ ?_
  rintro ⟨i, hh⟩ w5 ⟨hi, hg, hs⟩
  dsimp only at hi hg hs ⊢
  have hb' := hb'.mono hg
  by_cases hlt : i < bs.length
  · have htk := take_succ_getD bs i false hlt
    refine Zerun ?_
    (refine RW.call T hs rfl rfl rfl (bitsAt_con _ bs i _ _ hb') ?_; intro v h6 w6 hle6 hp6 hs)
    subst hp6
    have eb : bitAt bs (i : Int) = bs.getD i false := by unfold bitAt; rw [if_pos (by omega), Int.toNat_natCast]
    rw [eb]
    refine RW.val (Y.idxRN T hs 0 rfl rfl rfl rfl rfl rfl ?_) rfl ?_
    · omega
    refine RW.st1 T hs 0 rfl rfl rfl rfl rfl rfl rfl (by omega) ?_
    intro w7 hs
    have e1 := set_snoc ((bs.take i).map Value.bool) (bs.length - i) (Value.bool false) (Value.bool (bs.getD i false)) (by omega)
    simp only [List.length_map, List.length_take, Nat.min_eq_left hi] at e1
    have e2 : (bs.take i).map Value.bool ++ [Value.bool (bs.getD i false)] ++ List.replicate (bs.length - i - 1) (.bool false) = (bs.take (i + 1)).map Value.bool ++ List.replicate (bs.length - (i + 1)) (.bool false) := by
      rw [htk, List.map_append, show bs.length - (i + 1) = bs.length - i - 1 by omega]; rfl
    replace hs := hs.re (e1.trans e2)
    refine Zerun ?_
    exact loopQ_round (i + 1, h6) ⟨rfl, rfl, rfl, rfl, trivial⟩ ⟨by dsimp only; omega, hg.trans hle6, hs⟩ (by dsimp only; omega)
  obtain rfl : i = bs.length := by omega
  rw [List.take_length, Nat.sub_self, List.replicate_zero, List.append_nil] at hs
  obtain ⟨h8, hle8, hs, hS8⟩ := hs.freeze
  refine Zerun ?_
  exact retQ_ret [_] h8 ⟨rfl, trivial⟩ hs.dropAll (RowAt.of_sl hS8)
end Go.Proofs.Ythbfkhklihejiaa

/-
  Contracts of functions of package flat: lists of a class behind each other. No statement is proved here.
-/
namespace Go.Proofs.Ythbfkhklihejiaa
open Go Go.RowKit
set_option linter.unusedVariables false
set_option linter.unusedSimpArgs false
set_option maxHeartbeats 4000000
attribute [local irreducible] CW RW QW SW HW ConM retM heldQ calmQ elemP thenQ blockQ loopQ joinQ retQ Yields Con Sl zF magR unitF truncF fwF wholeF tidySpec elemQ rankF leastN tidyW
set_option maxHeartbeats 4000000

section
variable {α : Type} {R : GHeap → List Value → α → Prop}
theorem fm_take_succ {δ γ : Type} (f : δ → List γ) (l : List δ) (i : Nat) (h : i < l.length) : (l.take (i + 1)).flatMap f = (l.take i).flatMap f ++ f l[i] := by
  rw [List.take_add_one, List.getElem?_eq_getElem h, Option.toList_some, List.flatMap_append, List.flatMap_cons, List.flatMap_nil, List.append_nil]
theorem fm_len {γ : Type} {f : VecD α → List γ} (hf : ∀ v, (f v).length ≤ v.len) : ∀ l : List (VecD α), (l.flatMap f).length ≤ (l.map VecD.len).sum
  | [] => Nat.le_refl _
  | v :: l => by
    have := fm_len hf l
    have := hf v
    rw [List.flatMap_cons, List.length_append, List.map_cons, List.sum_cons]
    omega
theorem sum_take_le : ∀ (l : List (VecD α)) (i : Nat), ((l.take i).map VecD.len).sum ≤ (l.map VecD.len).sum
  | [], i => by simp
  | v :: l, 0 => by simp
  | v :: l, i + 1 => by
    have := sum_take_le l i
    simp only [List.take_succ_cons, List.map_cons, List.sum_cons]
    omega
theorem fm_len' {γ : Type} {f : VecD α → List γ} (hf : ∀ v, (f v).length ≤ v.len) (l : List (VecD α)) (i : Nat) : ((l.take i).flatMap f).length ≤ (l.map VecD.len).sum := Nat.le_trans (fm_len hf _) (sum_take_le l i)
theorem len_le_sum : ∀ {l : List (VecD α)} {v : VecD α}, v ∈ l → v.len ≤ (l.map VecD.len).sum
  | u :: l, v, h => by
    rw [List.map_cons, List.sum_cons]
    rcases List.mem_cons.1 h with rfl | h
    · omega
    · have := len_le_sum h; omega
theorem AllN.ones {δ : Type} {sz : Nat} {S : List Value → δ → Prop} (hc : ∀ cs a, S cs a → ∀ u ∈ cs, u.oneCell' = true) : ∀ {l : List δ} {xs : List Value}, AllN sz S xs l → ∀ u ∈ xs, u.oneCell' = true
  | [], xs, hx, u, hu => by have : xs = [] := hx; rw [this] at hu; cases hu
  | a :: l, xs, hx, u, hu => by
    rw [← List.take_append_drop sz xs, List.mem_append] at hu
    rcases hu with hu | hu
    · exact hc _ a hx.2.1 u hu
    · exact AllN.ones hc hx.2.2 u hu
theorem leastN_bits (bs : List Bool) : leastN (bs.map bitF) = 1 := by
  have h1 := (leastN_bounds (bs.map bitF)).1
  have h2 : leastN (bs.map bitF) ≤ 1 := by
    rw [leastN.eq_1]
    refine fold_le _ 1 1 (by omega) ?_
    intro x hx
    obtain ⟨b, _, rfl⟩ := List.mem_map.1 hx
    cases b
    · exact (rank_bit _ tidy0).2 (.inl fw0.symm)
    · exact (rank_bit _ tidy1).2 (.inr fw1.symm)
  omega
def joinS (c : Int) (l : List (VecD α)) : VecD α := if c = 1 then ⟨5, [], l.flatMap (·.chars), []⟩ else if c = 2 then ⟨6, [], [], l.flatMap (·.boxes)⟩ else ⟨leastN (l.flatMap (·.nums)), l.flatMap (·.nums), [], []⟩
theorem flatJoined_con (hR : Mono R) (h1 : One R) (s : Value) (l : List (VecD α)) (c kd : Int) (w : World) (h : GHeap) (hl : RowsAt 8 (VecAt R h) h s l) (hm : (l.map VecD.len).sum ≤ 1048576) (hc : c = 0 ∨ c = 1 ∨ c = 2)
    (hk1 : c = 0 → kd = 1 → ∀ v ∈ l, v.kind = 1 ∨ v.nums = []) (hk3 : c = 0 → kd ≠ 1 → kd < 4 → ∀ v ∈ l, v.kind = 1 ∨ v.kind = 2 ∨ v.kind = 3 ∨ v.nums = []) : Con Try.prog 146 [s, .int .i64 c, .int .i64 kd] w h (fun h' u => ∃ cs', u = .agg cs'.toArray ∧ VecAt R h' cs' (joinS c l)) := by
  obtain ⟨ads, cps, xs, rfl, hS, hA⟩ := hl
  have hcap : l.length ≤ 9223372036854775807 := by have := hS.caps; omega
  refine Con.of_body Try.func146 rfl Try.ntmps146 rfl rfl ?_
  intro hs
  refine Zrun ?_
  (refine RW.allocN T hs rfl rfl rfl rfl ?_; intro b1 w1 hs)
  have htdl : ∀ x ∈ l.flatMap (·.nums), tidyF x := by
    intro x hx
    obtain ⟨v, hv, hx⟩ := List.mem_flatMap.1 hx
    obtain ⟨j, hj, rfl⟩ := List.mem_iff_getElem.1 hv
    obtain ⟨y, _, _, hRy⟩ := hA.elem j hj
    exact hRy.tidy x hx
  unfold joinS
  by_cases c1 : c = 1
  · rw [if_pos c1]
    have hs := hs.nilRow 21 1
    refine Zerun ?_
    refine CW.loop (fun u : Nat × (Option Addr × Nat × Nat) × List Int × GHeap => [(1, .int .i64 c), (2, .int .i64 kd), (6, .pointer (some ⟨b1, 0, none⟩)), (7, .slice u.2.1.1 u.2.1.2.1 u.2.1.2.2), (22, .slice ads l.length cps), (23, .int .i64 l.length), (24, .int .i64 u.1)]) (fun u w' => u.1 ≤ l.length ∧ GLe h u.2.2.2 ∧ (u.2.2.1 = (l.take u.1).flatMap (·.chars)) ∧ u.2.1.2.1 = u.2.2.1.length ∧ Sees w h u.2.2.2 [⟨u.2.1.1, u.2.1.2.1, u.2.1.2.2, 21, 1, u.2.2.1.map (Value.int .i32)⟩, ⟨some ⟨b1, 0, none⟩, 1, 1, 61, 8, vecCells 0 (.slice none 0 0) 0 (.slice none 0 0) (.slice none 0 0) (.slice none 0 0) (.slice none 0 0) (.slice none 0 0)⟩] w') (fun u => l.length - u.1) (0, (none, 0, 0), [], h) ⟨rfl, rfl, rfl, rfl, rfl, rfl, rfl, trivial⟩ ⟨Nat.zero_le _, GLe.refl _, rfl, rfl, hs⟩ ?_
    rintro ⟨i, ⟨ad, n, cp⟩, X, hh⟩ w5 ⟨hi, hg, hX, hn, hs⟩
    dsimp only at hi hg hX hn hs ⊢
    have hS := hS.mono hg
    by_cases hlt : i < l.length
    · obtain ⟨y, hy, hyl, hRy⟩ := hA.elem i hlt
      have hRy := hRy.mono hR hg
      have hRy' := hRy
      have hmem := List.getElem_mem hlt
      have hel := len_le_sum hmem
      have htk := fun (γ : Type) (f : VecD α → List γ) => fm_take_succ f l i hlt
      generalize hve : l[i] = ve at *
      obtain ⟨wv, nv, sm, il, fl, ch, bx, ⟨rfl, hoc⟩, _⟩ := hRy
      refine Zerun ?_
      (refine RW.allocN T hs rfl rfl rfl rfl ?_; intro b6 w6 hs)
      (refine RW.storeAll T hs 0 rfl rfl rfl rfl rfl rfl hoc rfl ?_; intro w7 hs)
      refine Zerun ?_
      (refine RW.call T hs rfl rfl rfl (vecText_con _ ve _ _ hRy' (by omega)) ?_; intro v h8 w8 hle8 hp8 hs)
      obtain ⟨ad8, cp8, rfl, hS8⟩ := hp8
      have hgh := hg.trans hle8
      have hXn : X ++ ve.chars = (l.take (i + 1)).flatMap (·.chars) := by rw [hX, htk]
      have hlen := fm_len' (f := fun v : VecD α => v.chars) (fun v => by unfold VecD.len; omega) l (i + 1)
      have hve2 : X.length + ve.chars.length ≤ 1048576 := by rw [← List.length_append, hXn]; omega
      refine RW.append T hs 1 rfl rfl (m := ve.chars.length) (news := ve.chars.map (Value.int .i32)) rfl rfl rfl rfl rfl rfl (hS8.src hs.agree (one_ints _ _)) (fun e => by subst e; exact hS8.nil0.2) (by dsimp only; omega) (by omega) ?_
      intro ad9 cp9 w9 hs
      refine Zerun ?_
      refine loopQ_round (i + 1, (ad9, n + ve.chars.length, cp9), X ++ ve.chars, h8) ⟨rfl, rfl, rfl, rfl, rfl, rfl, rfl, trivial⟩ ⟨by dsimp only; omega, hgh, hXn, by simp; omega, ?_⟩ (by dsimp only; omega)
      dsimp only
      rw [List.map_append]
      exact hs.drop
    obtain rfl : i = l.length := by omega
    rw [List.take_length] at hX
    have hlen := fm_len (f := fun v : VecD α => v.chars) (fun v => by unfold VecD.len; omega) l
    rw [← hX] at hlen
    subst hn
    obtain ⟨hF, hleF, hs, hSF⟩ := hs.freeze
    have hTF : KAt .i32 hF (.slice ad X.length cp) X := RowAt.of_sl hSF
    refine Zerun ?_
    (refine RW.call T hs rfl rfl rfl (vecChars_con (R := R) _ X _ _ hTF (by omega)) ?_; intro v hF wF hleF hpF hs)
    obtain ⟨csF, rfl, hvF⟩ := hpF
    have hvF' := hvF
    obtain ⟨wvF, nvF, smF, ilF, flF, chF, bxF, ⟨rfl, hocF⟩, _⟩ := hvF'
    (refine RW.storeAll T hs 0 rfl rfl rfl rfl rfl rfl hocF rfl ?_; intro wG hs)
    refine Zerun ?_
    refine retQ_ret [_] hF ⟨resN T hs 0 rfl rfl rfl rfl rfl rfl, trivial⟩ hs.dropAll ⟨_, rfl, ?_⟩
    rw [← hX]
    exact hvF

  rw [if_neg c1]
  by_cases c2 : c = 2
  · rw [if_pos c2]
    have hs := hs.nilRow 63 9
    refine Zerun ?_
    refine CW.loop (fun u : Nat × (Option Addr × Nat × Nat) × List Value × GHeap => [(1, .int .i64 c), (2, .int .i64 kd), (6, .pointer (some ⟨b1, 0, none⟩)), (8, .slice u.2.1.1 u.2.1.2.1 u.2.1.2.2), (22, .slice ads l.length cps), (23, .int .i64 l.length), (24, .int .i64 u.1)]) (fun u w' => u.1 ≤ l.length ∧ GLe h u.2.2.2 ∧ (AllN 9 (R u.2.2.2) u.2.2.1 ((l.take u.1).flatMap (·.boxes))) ∧ u.2.1.2.1 = ((l.take u.1).flatMap (·.boxes)).length ∧ Sees w h u.2.2.2 [⟨u.2.1.1, u.2.1.2.1, u.2.1.2.2, 63, 9, u.2.2.1⟩, ⟨some ⟨b1, 0, none⟩, 1, 1, 61, 8, vecCells 0 (.slice none 0 0) 0 (.slice none 0 0) (.slice none 0 0) (.slice none 0 0) (.slice none 0 0) (.slice none 0 0)⟩] w') (fun u => l.length - u.1) (0, (none, 0, 0), [], h) ⟨rfl, rfl, rfl, rfl, rfl, rfl, rfl, trivial⟩ ⟨Nat.zero_le _, GLe.refl _, rfl, rfl, hs⟩ ?_
    rintro ⟨i, ⟨ad, n, cp⟩, X, hh⟩ w5 ⟨hi, hg, hX, hn, hs⟩
    dsimp only at hi hg hX hn hs ⊢
    have hS := hS.mono hg
    by_cases hlt : i < l.length
    · obtain ⟨y, hy, hyl, hRy⟩ := hA.elem i hlt
      have hRy := hRy.mono hR hg
      have hRy' := hRy
      have hmem := List.getElem_mem hlt
      have hel := len_le_sum hmem
      have htk := fun (γ : Type) (f : VecD α → List γ) => fm_take_succ f l i hlt
      generalize hve : l[i] = ve at *
      obtain ⟨wv, nv, sm, il, fl, ch, bx, ⟨rfl, hoc⟩, _⟩ := hRy
      refine Zerun ?_
      (refine RW.allocN T hs rfl rfl rfl rfl ?_; intro b6 w6 hs)
      (refine RW.storeAll T hs 0 rfl rfl rfl rfl rfl rfl hoc rfl ?_; intro w7 hs)
      refine Zerun ?_
      (refine RW.call T hs rfl rfl rfl (vecArrays_con hR h1 _ ve _ _ hRy' (by omega)) ?_; intro v h8 w8 hle8 hp8 hs)
      obtain ⟨ad8, cp8, xs8, rfl, hS8, hA8⟩ := hp8
      have hgh := hg.trans hle8
      have hXn : AllN 9 (R h8) (X ++ xs8) ((l.take (i + 1)).flatMap (·.boxes)) := by
        rw [htk]
        exact (hX.mono (fun u a => hR _ _ u a hle8)).append hA8
      have hlen := fm_len' (f := fun v : VecD α => v.boxes) (fun v => by unfold VecD.len; omega) l (i + 1)
      rw [htk, List.length_append] at hlen
      have hne : ((l.take (i + 1)).flatMap (·.boxes)).length = ((l.take i).flatMap (·.boxes)).length + ve.boxes.length := by rw [htk, List.length_append]
      refine RW.append T hs 1 rfl rfl (m := ve.boxes.length) (news := xs8) rfl rfl rfl rfl rfl rfl (hS8.src hs.agree (hA8.ones (h1 h8))) (fun e => by subst e; exact hS8.nil0.2) (by dsimp only; omega) (by omega) ?_
      intro ad9 cp9 w9 hs
      refine Zerun ?_
      refine loopQ_round (i + 1, (ad9, n + ve.boxes.length, cp9), X ++ xs8, h8) ⟨rfl, rfl, rfl, rfl, rfl, rfl, rfl, trivial⟩ ⟨by dsimp only; omega, hgh, hXn, by dsimp only; omega, ?_⟩ (by dsimp only; omega)
      dsimp only
      exact hs.drop
    obtain rfl : i = l.length := by omega
    rw [List.take_length] at hX
    have hlen := fm_len (f := fun v : VecD α => v.boxes) (fun v => by unfold VecD.len; omega) l
    rw [List.take_length] at hn
    subst hn
    obtain ⟨hF, hleF, hs, hSF⟩ := hs.freeze
    have hTF : RowsAt 9 (R hF) hF (.slice ad (l.flatMap (·.boxes)).length cp) (l.flatMap (·.boxes)) := ⟨_, _, X, rfl, hSF, hX.mono (fun u a => hR _ _ u a hleF)⟩
    refine Zerun ?_
    (refine RW.call T hs rfl rfl rfl (vecBoxes_con hR h1 _ _ _ _ hTF (by omega)) ?_; intro v hF wF hleF hpF hs)
    obtain ⟨csF, rfl, hvF⟩ := hpF
    have hvF' := hvF
    obtain ⟨wvF, nvF, smF, ilF, flF, chF, bxF, ⟨rfl, hocF⟩, _⟩ := hvF'
    (refine RW.storeAll T hs 0 rfl rfl rfl rfl rfl rfl hocF rfl ?_; intro wG hs)
    refine Zerun ?_
    exact retQ_ret [_] hF ⟨resN T hs 0 rfl rfl rfl rfl rfl rfl, trivial⟩ hs.dropAll ⟨_, rfl, hvF⟩

  rw [if_neg c2]
  have hc0 : c = 0 := by omega
  by_cases hkd : kd = 1
  · skip
    have hs := hs.nilRow 4 1
    refine Zerun ?_
    refine CW.loop (fun u : Nat × (Option Addr × Nat × Nat) × List Bool × GHeap => [(1, .int .i64 c), (2, .int .i64 kd), (6, .pointer (some ⟨b1, 0, none⟩)), (9, .slice u.2.1.1 u.2.1.2.1 u.2.1.2.2), (22, .slice ads l.length cps), (23, .int .i64 l.length), (24, .int .i64 u.1)]) (fun u w' => u.1 ≤ l.length ∧ GLe h u.2.2.2 ∧ (u.2.2.1.map bitF = (l.take u.1).flatMap (·.nums)) ∧ u.2.1.2.1 = u.2.2.1.length ∧ Sees w h u.2.2.2 [⟨u.2.1.1, u.2.1.2.1, u.2.1.2.2, 4, 1, u.2.2.1.map Value.bool⟩, ⟨some ⟨b1, 0, none⟩, 1, 1, 61, 8, vecCells 0 (.slice none 0 0) 0 (.slice none 0 0) (.slice none 0 0) (.slice none 0 0) (.slice none 0 0) (.slice none 0 0)⟩] w') (fun u => l.length - u.1) (0, (none, 0, 0), [], h) ⟨rfl, rfl, rfl, rfl, rfl, rfl, rfl, trivial⟩ ⟨Nat.zero_le _, GLe.refl _, rfl, rfl, hs⟩ ?_
    rintro ⟨i, ⟨ad, n, cp⟩, X, hh⟩ w5 ⟨hi, hg, hX, hn, hs⟩
    dsimp only at hi hg hX hn hs ⊢
    have hS := hS.mono hg
    by_cases hlt : i < l.length
    · obtain ⟨y, hy, hyl, hRy⟩ := hA.elem i hlt
      have hRy := hRy.mono hR hg
      have hRy' := hRy
      have hmem := List.getElem_mem hlt
      have hel := len_le_sum hmem
      have htk := fun (γ : Type) (f : VecD α → List γ) => fm_take_succ f l i hlt
      generalize hve : l[i] = ve at *
      obtain ⟨wv, nv, sm, il, fl, ch, bx, ⟨rfl, hoc⟩, _⟩ := hRy
      refine Zerun ?_
      (refine RW.allocN T hs rfl rfl rfl rfl ?_; intro b6 w6 hs)
      (refine RW.storeAll T hs 0 rfl rfl rfl rfl rfl rfl hoc rfl ?_; intro w7 hs)
      refine Zerun ?_
      (refine RW.call T hs rfl rfl rfl (vecPacked_con _ ve _ _ hRy') ?_; intro v h8 w8 hle8 hp8 hs)
      obtain ⟨wv8, bs, rfl, hb8, hb81, hb80⟩ := hp8
      have hb8' := hb8
      obtain ⟨_, ws8, ⟨adw, cpw, rfl, _⟩, _⟩ := hb8'
      have hnb : bs.map bitF = ve.nums := by
        by_cases k1 : ve.kind = 1
        · rw [hb81 k1]
        · rw [hb80 k1]; rcases hk1 hc0 hkd ve hmem with e | e
          · exact absurd e k1
          · rw [e]; rfl
      refine Zerun ?_
      (refine RW.allocN T hs rfl rfl rfl rfl ?_; intro b9 w9 hs)
      (refine RW.storeAll T hs 0 rfl rfl rfl rfl rfl rfl rfl rfl ?_; intro w10 hs)
      refine Zerun ?_
      (refine RW.call T hs rfl rfl rfl (bitsUnpack_con _ bs _ _ hb8) ?_; intro v h11 w11 hle11 hp11 hs)
      obtain ⟨ad8, cp8, rfl, hS8⟩ := hp11
      have hgh := hg.trans (hle8.trans hle11)
      have hXn : (X ++ bs).map bitF = (l.take (i + 1)).flatMap (·.nums) := by rw [List.map_append, hX, hnb, htk]
      have hlen := fm_len' (f := fun v : VecD α => v.nums) (fun v => by unfold VecD.len; omega) l (i + 1)
      rw [← hXn, List.length_map, List.length_append] at hlen
      refine RW.append T hs 2 rfl rfl (m := bs.length) (news := bs.map Value.bool) rfl rfl rfl rfl rfl rfl (hS8.src hs.agree (by intro u hu; obtain ⟨x, _, rfl⟩ := List.mem_map.1 hu; rfl)) (fun e => by subst e; exact hS8.nil0.2) (by dsimp only; omega) (by omega) ?_
      intro ad9 cp9 w9 hs
      refine Zerun ?_
      refine loopQ_round (i + 1, (ad9, n + bs.length, cp9), X ++ bs, h11) ⟨rfl, rfl, rfl, rfl, rfl, rfl, rfl, trivial⟩ ⟨by dsimp only; omega, hgh, hXn, by simp; omega, ?_⟩ (by dsimp only; omega)
      dsimp only
      rw [List.map_append]
      exact hs.drop.drop
    obtain rfl : i = l.length := by omega
    rw [List.take_length] at hX
    have hlen := fm_len (f := fun v : VecD α => v.nums) (fun v => by unfold VecD.len; omega) l
    rw [← hX, List.length_map] at hlen
    subst hn
    obtain ⟨hF, hleF, hs, hSF⟩ := hs.freeze
    have hTF : TAt hF (.slice ad X.length cp) X := RowAt.of_sl hSF
    refine Zerun ?_
    (refine RW.call T hs rfl rfl rfl (bitsPack_con _ X _ _ hTF (by omega)) ?_; intro v hP wP hleP hpP hs)
    obtain ⟨wvP, rfl, hbP⟩ := hpP
    (refine RW.call T hs rfl rfl rfl (vecBits_con (R := R) wvP _ _ _ hbP) ?_; intro v hF wF hleF hpF hs)
    obtain ⟨csF, rfl, hvF⟩ := hpF
    have hvr : (⟨1, X.map bitF, [], []⟩ : VecD α) = ⟨leastN (l.flatMap (·.nums)), l.flatMap (·.nums), [], []⟩ := by rw [← hX, leastN_bits]
    rw [hvr] at hvF
    have hvF' := hvF
    obtain ⟨wvF, nvF, smF, ilF, flF, chF, bxF, ⟨rfl, hocF⟩, _⟩ := hvF'
    (refine RW.storeAll T hs 0 rfl rfl rfl rfl rfl rfl hocF rfl ?_; intro wG hs)
    refine Zerun ?_
    exact retQ_ret [_] hF ⟨resN T hs 0 rfl rfl rfl rfl rfl rfl, trivial⟩ hs.dropAll ⟨_, rfl, hvF⟩

  have hkd1 := hkd
  by_cases hkd3 : kd < 4
  · skip
    have hs := hs.nilRow 2 1
    refine Zerun ?_
    refine CW.loop (fun u : Nat × (Option Addr × Nat × Nat) × List Int × GHeap => [(1, .int .i64 c), (2, .int .i64 kd), (6, .pointer (some ⟨b1, 0, none⟩)), (10, .slice u.2.1.1 u.2.1.2.1 u.2.1.2.2), (22, .slice ads l.length cps), (23, .int .i64 l.length), (24, .int .i64 u.1)]) (fun u w' => u.1 ≤ l.length ∧ GLe h u.2.2.2 ∧ (u.2.2.1.map fwF = (l.take u.1).flatMap (·.nums) ∧ ∀ z ∈ u.2.2.1, -9007199254740992 ≤ z ∧ z ≤ 9007199254740992) ∧ u.2.1.2.1 = u.2.2.1.length ∧ Sees w h u.2.2.2 [⟨u.2.1.1, u.2.1.2.1, u.2.1.2.2, 2, 1, u.2.2.1.map (Value.int .i64)⟩, ⟨some ⟨b1, 0, none⟩, 1, 1, 61, 8, vecCells 0 (.slice none 0 0) 0 (.slice none 0 0) (.slice none 0 0) (.slice none 0 0) (.slice none 0 0) (.slice none 0 0)⟩] w') (fun u => l.length - u.1) (0, (none, 0, 0), [], h) ⟨rfl, rfl, rfl, rfl, rfl, rfl, rfl, trivial⟩ ⟨Nat.zero_le _, GLe.refl _, ⟨rfl, fun u hu => (by cases hu)⟩, rfl, hs⟩ ?_
    rintro ⟨i, ⟨ad, n, cp⟩, X, hh⟩ w5 ⟨hi, hg, hX, hn, hs⟩
    dsimp only at hi hg hX hn hs ⊢
    have hS := hS.mono hg
    by_cases hlt : i < l.length
    · obtain ⟨y, hy, hyl, hRy⟩ := hA.elem i hlt
      have hRy := hRy.mono hR hg
      have hRy' := hRy
      have hmem := List.getElem_mem hlt
      have hel := len_le_sum hmem
      have htk := fun (γ : Type) (f : VecD α → List γ) => fm_take_succ f l i hlt
      generalize hve : l[i] = ve at *
      obtain ⟨wv, nv, sm, il, fl, ch, bx, ⟨rfl, hoc⟩, _⟩ := hRy
      refine Zerun ?_
      (refine RW.allocN T hs rfl rfl rfl rfl ?_; intro b6 w6 hs)
      (refine RW.storeAll T hs 0 rfl rfl rfl rfl rfl rfl hoc rfl ?_; intro w7 hs)
      refine Zerun ?_
      have hwk := hRy'.wholes
      have htdv := hRy'.tidy
      (refine RW.call T hs rfl rfl rfl (vecWholes_con hR _ ve _ _ hRy' (by omega)) ?_; intro v h8 w8 hle8 hp8 hs)
      obtain ⟨s8, rfl, hK8⟩ := hp8
      have hY : ((if ve.kind = 1 ∨ ve.kind = 2 ∨ ve.kind = 3 then ve.nums.map (fun x => (wholeF x).1) else []).map fwF = ve.nums) ∧ ∀ u ∈ (if ve.kind = 1 ∨ ve.kind = 2 ∨ ve.kind = 3 then ve.nums.map (fun x => (wholeF x).1) else []), -9007199254740992 ≤ u ∧ u ≤ 9007199254740992 := by
        split
        · rename_i hk
          constructor
          · rw [List.map_map]
            conv => rhs; rw [← List.map_id ve.nums]
            apply List.map_congr_left
            intro x hx
            exact (fw_whole _ _ (htdv x hx) (by rw [← hwk hk x hx])).symm
          · intro u hu
            obtain ⟨x, _, rfl⟩ := List.mem_map.1 hu
            exact wholeF_bounds x
        · rename_i hk
          refine ⟨?_, fun u hu => by cases hu⟩
          rcases hk3 hc0 hkd1 hkd3 ve hmem with e | e | e | e
          · exact absurd (.inl e) hk
          · exact absurd (.inr (.inl e)) hk
          · exact absurd (.inr (.inr e)) hk
          · rw [e]; rfl
      generalize (if ve.kind = 1 ∨ ve.kind = 2 ∨ ve.kind = 3 then ve.nums.map (fun x => (wholeF x).1) else []) = Ys at hK8 hY
      obtain ⟨hYf, hYb⟩ := hY
      obtain ⟨ad8, cp8, rfl, hS8⟩ := hK8
      refine Zerun ?_
      have hgh := hg.trans hle8
      have hXn : (X ++ Ys).map fwF = (l.take (i + 1)).flatMap (·.nums) ∧ ∀ u ∈ X ++ Ys, -9007199254740992 ≤ u ∧ u ≤ 9007199254740992 := by
        refine ⟨by rw [List.map_append, hX.1, hYf, htk], fun u hu => ?_⟩
        rcases List.mem_append.1 hu with hu | hu
        · exact hX.2 u hu
        · exact hYb u hu
      have hlen := fm_len' (f := fun v : VecD α => v.nums) (fun v => by unfold VecD.len; omega) l (i + 1)
      rw [← hXn.1, List.length_map, List.length_append] at hlen
      refine RW.append T hs 1 rfl rfl (m := Ys.length) (news := Ys.map (Value.int .i64)) rfl rfl rfl rfl rfl rfl (hS8.src hs.agree (one_ints _ _)) (fun e => by subst e; exact hS8.nil0.2) (by dsimp only; omega) (by omega) ?_
      intro ad9 cp9 w9 hs
      refine Zerun ?_
      refine loopQ_round (i + 1, (ad9, n + Ys.length, cp9), X ++ Ys, h8) ⟨rfl, rfl, rfl, rfl, rfl, rfl, rfl, trivial⟩ ⟨by dsimp only; omega, hgh, hXn, by simp; omega, ?_⟩ (by dsimp only; omega)
      dsimp only
      rw [List.map_append]
      exact hs.drop
    obtain rfl : i = l.length := by omega
    rw [List.take_length] at hX
    have hlen := fm_len (f := fun v : VecD α => v.nums) (fun v => by unfold VecD.len; omega) l
    rw [← hX.1, List.length_map] at hlen
    subst hn
    obtain ⟨hF, hleF, hs, hSF⟩ := hs.freeze
    have hTF : KAt .i64 hF (.slice ad X.length cp) X := RowAt.of_sl hSF
    refine Zerun ?_
    (refine RW.call T hs rfl rfl rfl (vecInts_con (R := R) _ X _ _ hTF (by omega)) ?_; intro v hP wP hleP hpP hs)
    obtain ⟨csP, ok, rfl, hok, hvP⟩ := hpP
    obtain rfl : ok = true := by rw [hok]; exact decide_eq_true hX.2
    rw [if_pos rfl] at hvP
    have hvP' := hvP
    obtain ⟨wvP, nvP, smP, ilP, flP, chP, bxP, ⟨rfl, hocP⟩, _⟩ := hvP
    refine Zerun ?_
    (refine RW.allocN T hs rfl rfl rfl rfl ?_; intro bQ wQ hs)
    (refine RW.storeAll T hs 0 rfl rfl rfl rfl rfl rfl hocP rfl ?_; intro wS hs)
    refine Zerun ?_
    (refine RW.call T hs rfl rfl rfl (sqSqueeze_con hR _ _ _ _ hvP' (by simp [VecD.len]; omega)) ?_; intro v hF wF hleF hpF hs)
    obtain ⟨csF, rfl, hvF⟩ := hpF
    rw [sq_nums3, hX.1] at hvF
    have hvF' := hvF
    obtain ⟨wvF, nvF, smF, ilF, flF, chF, bxF, ⟨rfl, hocF⟩, _⟩ := hvF'
    (refine RW.storeAll T hs 1 rfl rfl rfl rfl rfl rfl hocF rfl ?_; intro wG hs)
    refine Zerun ?_
    exact retQ_ret [_] hF ⟨resN T hs 1 rfl rfl rfl rfl rfl rfl, trivial⟩ hs.dropAll ⟨_, rfl, hvF⟩

  · skip
    have hs := hs.nilRow 74 1
    refine Zerun ?_
    refine CW.loop (fun u : Nat × (Option Addr × Nat × Nat) × List Nat × GHeap => [(1, .int .i64 c), (2, .int .i64 kd), (6, .pointer (some ⟨b1, 0, none⟩)), (11, .slice u.2.1.1 u.2.1.2.1 u.2.1.2.2), (22, .slice ads l.length cps), (23, .int .i64 l.length), (24, .int .i64 u.1)]) (fun u w' => u.1 ≤ l.length ∧ GLe h u.2.2.2 ∧ (u.2.2.1 = (l.take u.1).flatMap (·.nums)) ∧ u.2.1.2.1 = u.2.2.1.length ∧ Sees w h u.2.2.2 [⟨u.2.1.1, u.2.1.2.1, u.2.1.2.2, 74, 1, u.2.2.1.map (Value.float .f64)⟩, ⟨some ⟨b1, 0, none⟩, 1, 1, 61, 8, vecCells 0 (.slice none 0 0) 0 (.slice none 0 0) (.slice none 0 0) (.slice none 0 0) (.slice none 0 0) (.slice none 0 0)⟩] w') (fun u => l.length - u.1) (0, (none, 0, 0), [], h) ⟨rfl, rfl, rfl, rfl, rfl, rfl, rfl, trivial⟩ ⟨Nat.zero_le _, GLe.refl _, rfl, rfl, hs⟩ ?_
    rintro ⟨i, ⟨ad, n, cp⟩, X, hh⟩ w5 ⟨hi, hg, hX, hn, hs⟩
    dsimp only at hi hg hX hn hs ⊢
    have hS := hS.mono hg
    by_cases hlt : i < l.length
    · obtain ⟨y, hy, hyl, hRy⟩ := hA.elem i hlt
      have hRy := hRy.mono hR hg
      have hRy' := hRy
      have hmem := List.getElem_mem hlt
      have hel := len_le_sum hmem
      have htk := fun (γ : Type) (f : VecD α → List γ) => fm_take_succ f l i hlt
      generalize hve : l[i] = ve at *
      obtain ⟨wv, nv, sm, il, fl, ch, bx, ⟨rfl, hoc⟩, _⟩ := hRy
      refine Zerun ?_
      (refine RW.allocN T hs rfl rfl rfl rfl ?_; intro b6 w6 hs)
      (refine RW.storeAll T hs 0 rfl rfl rfl rfl rfl rfl hoc rfl ?_; intro w7 hs)
      refine Zerun ?_
      (refine RW.call T hs rfl rfl rfl (vecNums_con hR _ ve _ _ hRy' (by omega)) ?_; intro v h8 w8 hle8 hp8 hs)
      obtain ⟨ad8, cp8, rfl, hS8⟩ := hp8
      have hgh := hg.trans hle8
      have hXn : X ++ ve.nums = (l.take (i + 1)).flatMap (·.nums) := by rw [hX, htk]
      have hlen := fm_len' (f := fun v : VecD α => v.nums) (fun v => by unfold VecD.len; omega) l (i + 1)
      rw [← hXn, List.length_append] at hlen
      refine RW.append T hs 1 rfl rfl (m := ve.nums.length) (news := ve.nums.map (Value.float .f64)) rfl rfl rfl rfl rfl rfl (hS8.src hs.agree (by intro u hu; obtain ⟨x, _, rfl⟩ := List.mem_map.1 hu; rfl)) (fun e => by subst e; exact hS8.nil0.2) (by dsimp only; omega) (by omega) ?_
      intro ad9 cp9 w9 hs
      refine Zerun ?_
      refine loopQ_round (i + 1, (ad9, n + ve.nums.length, cp9), X ++ ve.nums, h8) ⟨rfl, rfl, rfl, rfl, rfl, rfl, rfl, trivial⟩ ⟨by dsimp only; omega, hgh, hXn, by simp; omega, ?_⟩ (by dsimp only; omega)
      dsimp only
      rw [List.map_append]
      exact hs.drop
    obtain rfl : i = l.length := by omega
    rw [List.take_length] at hX
    have hlen := fm_len (f := fun v : VecD α => v.nums) (fun v => by unfold VecD.len; omega) l
    rw [← hX] at hlen htdl ⊢
    subst hn
    obtain ⟨hF, hleF, hs, hSF⟩ := hs.freeze
    have hTF : FAt hF (.slice ad X.length cp) X := RowAt.of_sl hSF
    refine Zerun ?_
    (refine RW.call T hs rfl rfl rfl (sqNumbers_con (R := R) hR _ X _ _ hTF (fun u hu => (htdl u hu).1) (by omega)) ?_; intro v hF wF hleF hpF hs)
    obtain ⟨csF, ok, rfl, hok, hvF⟩ := hpF
    obtain rfl : ok = true := by rw [hok]; exact decide_eq_true (fun u hu => (htdl u hu).2.1)
    have htw : X.map tidyW = X := by
      conv => rhs; rw [← List.map_id X]
      apply List.map_congr_left
      intro x hx
      unfold tidyW
      rw [tidySpec_of x (htdl x hx)]
      rfl
    rw [if_pos rfl, htw] at hvF
    have hvF' := hvF
    obtain ⟨wvF, nvF, smF, ilF, flF, chF, bxF, ⟨rfl, hocF⟩, _⟩ := hvF'
    refine Zerun ?_
    (refine RW.allocN T hs rfl rfl rfl rfl ?_; intro bP wP hs)
    (refine RW.storeAll T hs 0 rfl rfl rfl rfl rfl rfl hocF rfl ?_; intro wQ hs)
    refine Zerun ?_
    (refine RW.storeAll T hs 1 rfl rfl rfl rfl rfl rfl hocF rfl ?_; intro wG hs)
    refine Zerun ?_
    exact retQ_ret [_] hF ⟨resN T hs 1 rfl rfl rfl rfl rfl rfl, trivial⟩ hs.dropAll ⟨_, rfl, hvF⟩

end
end Go.Proofs.Ythbfkhklihejiaa

/-
  Contracts of functions of package flat: lists behind each other. No statement is proved here.
-/
namespace Go.Proofs.Ythbfkhklihejiaa
open Go Go.RowKit
set_option linter.unusedVariables false
set_option linter.unusedSimpArgs false
set_option maxHeartbeats 4000000
attribute [local irreducible] CW RW QW SW HW ConM retM heldQ calmQ elemP thenQ blockQ loopQ joinQ retQ Yields Con Sl zF magR unitF truncF fwF wholeF tidySpec elemQ rankF leastN tidyW
set_option maxHeartbeats 4000000

section
variable {α : Type} {R : GHeap → List Value → α → Prop}
/-- the class of lists behind each other, those without elements apart; none: of unlike ones -/
def joinC (c : Int) : List (VecD α) → Option Int
  | [] => some c
  | v :: l => if v.len = 0 then joinC c l else if 0 ≤ c ∧ c ≠ v.cls then none else joinC v.cls l
def headC : List (VecD α) → Int
  | [] => 0
  | v :: _ => v.cls
structure JF (c kd : Int) (m : List (VecD α)) : Prop where
  rng : c = -1 ∨ c = 0 ∨ c = 1 ∨ c = 2
  kd1 : 1 ≤ kd ∧ kd ≤ 6
  all : ∀ v ∈ m, v.len ≠ 0 → v.cls = c ∧ v.kind ≤ kd
theorem cls_rng (v : VecD α) : v.cls = 0 ∨ v.cls = 1 ∨ v.cls = 2 := by unfold VecD.cls; split <;> (try split) <;> omega
theorem joinC_skip {c : Int} {v : VecD α} {l : List (VecD α)} (h0 : v.len = 0) : joinC c (v :: l) = joinC c l := by rw [joinC, if_pos h0]
theorem joinC_bad {c : Int} {v : VecD α} {l : List (VecD α)} (h0 : ¬ v.len = 0) (hc : 0 ≤ c) (hv : ¬ c = v.cls) : joinC c (v :: l) = none := by rw [joinC, if_neg h0, if_pos ⟨hc, hv⟩]
theorem joinC_step {c : Int} {v : VecD α} {l : List (VecD α)} (h0 : ¬ v.len = 0) (hc : ¬ (0 ≤ c ∧ c ≠ v.cls)) : joinC c (v :: l) = joinC v.cls l := by rw [joinC, if_neg h0, if_neg hc]
theorem JF.skip {c kd : Int} {m : List (VecD α)} {v : VecD α} (hF : JF c kd m) (h0 : v.len = 0) : JF c kd (m ++ [v]) := by
  refine ⟨hF.rng, hF.kd1, fun u hu hn => ?_⟩
  rcases List.mem_append.1 hu with hu | hu
  · exact hF.all u hu hn
  · rw [List.mem_singleton.1 hu] at hn; exact absurd h0 hn
theorem JF.step {c kd : Int} {m : List (VecD α)} {v : VecD α} (hF : JF c kd m) (_h0 : ¬ v.len = 0) (hc : c = v.cls ∨ ∀ u ∈ m, u.len = 0) (hcl : v.cls = 0 ∨ v.cls = 1 ∨ v.cls = 2) (hkr : 0 ≤ v.kind ∧ v.kind ≤ 6) : JF v.cls (max kd v.kind) (m ++ [v]) := by
  refine ⟨by omega, by have := hF.kd1; omega, fun u hu hn => ?_⟩
  rcases List.mem_append.1 hu with hu | hu
  · rcases hc with e | e
    · have := hF.all u hu hn; exact ⟨by omega, by omega⟩
    · exact absurd (e u hu) hn
  · rw [List.mem_singleton.1 hu]; exact ⟨rfl, by omega⟩
theorem VecAt.kind_rng {h : GHeap} {cs : List Value} {v : VecD α} (hv : VecAt R h cs v) : 0 ≤ v.kind ∧ v.kind ≤ 6 := by
  obtain ⟨_, _, _, _, _, _, _, _, hk⟩ := hv
  rcases hk with ⟨e, _⟩ | ⟨e, _⟩ | ⟨e, _⟩ | ⟨e, _⟩ | ⟨e, _⟩ | ⟨e, _⟩ | ⟨e, _⟩ <;> omega
theorem VecAt.kind0 {h : GHeap} {cs : List Value} {v : VecD α} (hv : VecAt R h cs v) (k : v.kind = 0) : v.len = 0 := by
  obtain ⟨_, _, _, _, _, _, _, _, hk⟩ := hv
  rcases hk with ⟨_, e⟩ | ⟨e, _⟩ | ⟨e, _⟩ | ⟨e, _⟩ | ⟨e, _⟩ | ⟨e, _⟩ | ⟨e, _⟩ <;> first | omega | (rw [e]; rfl)
theorem flatJoin_con (hR : Mono R) (h1 : One R) (s : Value) (l : List (VecD α)) (w : World) (h : GHeap) (hl : RowsAt 8 (VecAt R h) h s l) (hm : (l.map VecD.len).sum ≤ 1048576) : Con Try.prog 72 [s] w h (fun h' u => ∃ cs' ok, u = .tuple #[.agg cs'.toArray, .bool ok] ∧ (joinC (-1) l = none → ok = false ∧ VecAt R h' cs' VecD.none) ∧ ∀ c, joinC (-1) l = some c → ok = true ∧ VecAt R h' cs' (if c < 0 then noneV (headC l) else joinS c l)) := by
  obtain ⟨ads, cps, xs, rfl, hS, hA⟩ := hl
  have hcap : l.length ≤ 9223372036854775807 := by have := hS.caps; omega
  refine Con.of_body Try.func72 rfl Try.ntmps72 rfl rfl ?_
  intro hs
  refine Zrun ?_
  (refine RW.allocN T hs rfl rfl rfl rfl ?_; intro b1 w1 hs)
  refine Zerun ?_
  refine CW.loop (fun u : Nat × Int × Int × Nat × GHeap => [(0, .slice ads l.length cps), (2, .pointer (some ⟨b1, 0, none⟩)), (4, .int .i64 u.2.1), (5, .int .i64 u.2.2.1), (6, .int .i64 u.2.2.2.1), (9, .slice ads l.length cps), (10, .int .i64 l.length), (11, .int .i64 u.1)]) (fun u w' => u.1 ≤ l.length ∧ GLe h u.2.2.2.2 ∧ joinC (-1) l = joinC u.2.1 (l.drop u.1) ∧ u.2.2.2.1 = ((l.take u.1).map VecD.len).sum ∧ JF u.2.1 u.2.2.1 (l.take u.1) ∧ Sees w h u.2.2.2.2 [⟨some ⟨b1, 0, none⟩, 1, 1, 61, 8, vecCells 0 (.slice none 0 0) 0 (.slice none 0 0) (.slice none 0 0) (.slice none 0 0) (.slice none 0 0) (.slice none 0 0)⟩] w') (fun u => l.length - u.1) (0, -1, 1, 0, h) ⟨rfl, rfl, rfl, rfl, rfl, rfl, rfl, rfl, trivial⟩ ⟨Nat.zero_le _, GLe.refl _, rfl, rfl, ⟨.inl rfl, by dsimp only; omega, fun v hv => by cases hv⟩, hs⟩ ?_
  rintro ⟨i, c, kd, n, hh⟩ w5 ⟨hi, hg, hJ, hn, hF, hs⟩
  dsimp only at hi hg hJ hn hF hs ⊢
  have hS0 := hS
  have hS := hS.mono hg
  have hrng := hF.rng
  have hkd1 := hF.kd1
  by_cases hlt : i < l.length
  · obtain ⟨y, hy, hyl, hRy⟩ := hA.elem i hlt
    have hRy := hRy.mono hR hg
    have hRy' := hRy
    have hkr := hRy.kind_rng
    have hcl := cls_rng l[i]
    have hd := List.drop_eq_getElem_cons hlt
    have htk : l.take (i + 1) = l.take i ++ [l[i]] := by rw [List.take_add_one, List.getElem?_eq_getElem hlt, Option.toList_some]
    have hsum : ((l.take (i + 1)).map VecD.len).sum = ((l.take i).map VecD.len).sum + l[i].len := by rw [htk, List.map_append, List.sum_append, List.map_cons, List.map_nil, List.sum_cons, List.sum_nil, Nat.add_zero]
    have hsl := sum_take_le l (i + 1)
    rw [hd] at hJ
    rw [hsum] at hsl
    rw [← hn] at hsl
    have hFs : l[i].len = 0 → JF c kd (l.take (i + 1)) := fun h0 => by rw [htk]; exact hF.skip h0
    generalize hve : l[i] = ve at *
    obtain ⟨wv, nv, sm, il, fl, ch, bx, ⟨rfl, hoc⟩, _⟩ := hRy
    refine Zerun ?_
    (refine RW.allocN T hs rfl rfl rfl rfl ?_; intro b6 w6 hs)
    (refine RW.storeAll T hs 0 rfl rfl rfl rfl rfl rfl hoc rfl ?_; intro w7 hs)
    refine Zerun ?_
    (refine RW.call T hs rfl rfl rfl (vecLen_con _ ve _ _ hRy') ?_; intro v h8 w8 hle8 hp8 hs)
    subst hp8
    have hRy' := hRy'.mono hR hle8
    by_cases h0 : ve.len = 0
    · refine Zerun ?_
      refine loopQ_round (i + 1, c, kd, n, h8) ⟨rfl, rfl, rfl, rfl, rfl, rfl, rfl, rfl, trivial⟩ ⟨by dsimp only; omega, hg.trans hle8, hJ.trans (joinC_skip h0), by dsimp only; rw [hsum, hn, h0, Nat.add_zero], hFs h0, ?_⟩ (by dsimp only; omega)
      exact hs.drop
    by_cases hc0 : 0 ≤ c
    · refine Zerun ?_
      (refine RW.call T hs rfl rfl rfl (vecClass_con _ ve _ _ hRy') ?_; intro v h12 w12 hle12 hp12 hs)
      subst hp12
      have hRy' := hRy'.mono hR hle12
      by_cases hcc : c = ve.cls
      · skip
        refine Zerun ?_
        (refine RW.call T hs rfl rfl rfl (vecClass_con _ ve _ _ hRy') ?_; intro v h9 w9 hle9 hp9 hs)
        subst hp9
        have hRy' := hRy'.mono hR hle9
        refine Zerun ?_
        (refine RW.call T hs rfl rfl rfl (vecKind_con _ ve _ _ hRy') ?_; intro v h10 w10 hle10 hp10 hs)
        subst hp10
        have hRy' := hRy'.mono hR hle10
        refine Zerun ?_
        (refine RW.call T hs rfl rfl rfl (vecLen_con _ ve _ _ hRy') ?_; intro v h11 w11 hle11 hp11 hs)
        subst hp11
        refine Zerun ?_
        refine loopQ_round (i + 1, ve.cls, max kd ve.kind, n + ve.len, h11) ⟨rfl, rfl, rfl, rfl, rfl, rfl, rfl, rfl, trivial⟩ ⟨by dsimp only; omega, ((((hg.trans hle8).trans hle12).trans hle9).trans hle10).trans hle11, hJ.trans (joinC_step h0 (fun e => e.2 hcc)), by dsimp only; rw [hsum, hn], by dsimp only; rw [htk]; exact hF.step h0 (.inl hcc) hcl hkr, ?_⟩ (by dsimp only; omega)
        exact hs.drop
      · refine Zerun ?_
        refine RW.val (Y.build T rfl rfl rfl rfl rfl rfl rfl) rfl ?_
        (refine RW.storeAll T hs 1 rfl rfl rfl rfl rfl rfl rfl rfl ?_; intro w13 hs)
        refine Zerun ?_
        exact retQ_ret [_, _] h12 ⟨resN T hs 1 rfl rfl rfl rfl rfl rfl, rfl, trivial⟩ hs.dropAll ⟨_, false, rfl, fun _ => ⟨rfl, vecNone h12⟩, fun c' e => by rw [hJ, joinC_bad h0 hc0 hcc] at e; cases e⟩
    · skip
      refine Zerun ?_
      (refine RW.call T hs rfl rfl rfl (vecClass_con _ ve _ _ hRy') ?_; intro v h9 w9 hle9 hp9 hs)
      subst hp9
      have hRy' := hRy'.mono hR hle9
      refine Zerun ?_
      (refine RW.call T hs rfl rfl rfl (vecKind_con _ ve _ _ hRy') ?_; intro v h10 w10 hle10 hp10 hs)
      subst hp10
      have hRy' := hRy'.mono hR hle10
      refine Zerun ?_
      (refine RW.call T hs rfl rfl rfl (vecLen_con _ ve _ _ hRy') ?_; intro v h11 w11 hle11 hp11 hs)
      subst hp11
      refine Zerun ?_
      refine loopQ_round (i + 1, ve.cls, max kd ve.kind, n + ve.len, h11) ⟨rfl, rfl, rfl, rfl, rfl, rfl, rfl, rfl, trivial⟩ ⟨by dsimp only; omega, (((hg.trans hle8).trans hle9).trans hle10).trans hle11, hJ.trans (joinC_step h0 (fun e => hc0 e.1)), by dsimp only; rw [hsum, hn], by dsimp only; rw [htk]; exact hF.step h0 (.inr (fun u hu => by have := hF.all u hu; have hcu := cls_rng u; by_cases e : u.len = 0; exact e; have := this e; omega)) hcl hkr, ?_⟩ (by dsimp only; omega)
      exact hs.drop
  · obtain rfl : i = l.length := by omega
    rw [List.take_length] at hF hn
    rw [List.drop_length] at hJ
    have hJ : joinC (-1) l = some c := hJ
    have hres : ∀ (csr : List Value) (h' : GHeap), VecAt R h' csr (if c < 0 then noneV (headC l) else joinS c l) → ∃ cs' ok, Value.tuple #[.agg csr.toArray, .bool true] = .tuple #[.agg cs'.toArray, .bool ok] ∧ (joinC (-1) l = none → ok = false ∧ VecAt R h' cs' VecD.none) ∧ ∀ c, joinC (-1) l = some c → ok = true ∧ VecAt R h' cs' (if c < 0 then noneV (headC l) else joinS c l) := by
      intro csr h' hv
      refine ⟨csr, true, rfl, (fun e => by rw [hJ] at e; cases e), fun c' e => ?_⟩
      rw [hJ] at e
      cases e
      exact ⟨rfl, hv⟩
    by_cases hcn : c < 0
    · rw [if_pos hcn] at hres
      by_cases hl0 : 0 < l.length
      · obtain ⟨y, hy, hyl, hRy⟩ := hA.elem 0 hl0
        have hRy := hRy.mono hR hg
        have hRy' := hRy
        have hhd : headC l = l[0].cls := by cases l with | nil => cases hl0 | cons a l => rfl
        generalize hve : l[0] = ve at *
        obtain ⟨wv, nv, sm, il, fl, ch, bx, ⟨rfl, hoc⟩, _⟩ := hRy
        refine Zerun ?_
        (refine RW.call T hs rfl rfl rfl (vecClass_con _ ve _ _ hRy') ?_; intro v h8 w8 hle8 hp8 hs)
        subst hp8
        (refine RW.call T hs rfl rfl rfl (vecNone_con hR h1 ve.cls _ _) ?_; intro v h9 w9 hle9 hp9 hs)
        obtain ⟨cs9, rfl, hv9⟩ := hp9
        have hv9' := hv9
        obtain ⟨wv', nv', sm', il', fl', ch', bx', ⟨rfl, hoc'⟩, _⟩ := hv9'
        (refine RW.storeAll T hs 0 rfl rfl rfl rfl rfl rfl hoc' rfl ?_; intro w10 hs)
        refine Zerun ?_
        exact retQ_ret [_, _] h9 ⟨resN T hs 0 rfl rfl rfl rfl rfl rfl, rfl, trivial⟩ hs.dropAll (hres _ _ (by rw [hhd]; exact hv9))
      · have hhd : headC l = 0 := by cases l with | nil => rfl | cons a l => exact absurd (Nat.succ_pos _) hl0
        refine Zerun ?_
        (refine RW.call T hs rfl rfl rfl (vecNone_con hR h1 0 _ _) ?_; intro v h9 w9 hle9 hp9 hs)
        obtain ⟨cs9, rfl, hv9⟩ := hp9
        have hv9' := hv9
        obtain ⟨wv', nv', sm', il', fl', ch', bx', ⟨rfl, hoc'⟩, _⟩ := hv9'
        (refine RW.storeAll T hs 0 rfl rfl rfl rfl rfl rfl hoc' rfl ?_; intro w10 hs)
        refine Zerun ?_
        exact retQ_ret [_, _] h9 ⟨resN T hs 0 rfl rfl rfl rfl rfl rfl, rfl, trivial⟩ hs.dropAll (hres _ _ (by rw [hhd]; exact hv9))
    · rw [if_neg hcn] at hres
      rw [← hn] at hm
      have hz : ∀ v ∈ l, v.nums = [] ∨ (v.kind ≠ 0 ∧ v.cls = c ∧ v.kind ≤ kd ∧ 0 ≤ v.kind) := by
        intro v hv
        by_cases h0 : v.len = 0
        · left
          unfold VecD.len at h0
          exact List.eq_nil_of_length_eq_zero (by omega)
        · right
          obtain ⟨j, hj, rfl⟩ := List.mem_iff_getElem.1 hv
          obtain ⟨y, _, _, hRy⟩ := hA.elem j hj
          have := hF.all _ hv h0
          exact ⟨fun k0 => h0 (hRy.kind0 k0), this.1, this.2, hRy.kind_rng.1⟩
      have hk1 : c = 0 → kd = 1 → ∀ v ∈ l, v.kind = 1 ∨ v.nums = [] := by
        intro _ e v hv
        rcases hz v hv with e2 | ⟨e2, _, e3, e4⟩
        · exact .inr e2
        · left; omega
      have hk3 : c = 0 → kd ≠ 1 → kd < 4 → ∀ v ∈ l, v.kind = 1 ∨ v.kind = 2 ∨ v.kind = 3 ∨ v.nums = [] := by
        intro _ _ e v hv
        rcases hz v hv with e2 | ⟨e2, _, e3, e4⟩
        · exact .inr (.inr (.inr e2))
        · omega
      refine Zerun ?_
      (refine RW.call T hs rfl rfl rfl (flatJoined_con hR h1 _ l c kd _ _ ⟨_, _, _, rfl, hS, hA.mono (fun u a hv => hv.mono hR hg)⟩ (by rw [← hn]; exact hm) (by omega) hk1 hk3) ?_; intro v h9 w9 hle9 hp9 hs)
      obtain ⟨cs9, rfl, hv9⟩ := hp9
      have hv9' := hv9
      have hoc' : cs9.all Value.oneCell' = true := by obtain ⟨_, _, _, _, _, _, _, ⟨_, hoc⟩, _⟩ := hv9'; exact hoc
      have hl9 := hv9.size
      refine RW.storeAll T hs 0 rfl rfl rfl rfl rfl hl9 hoc' hl9 ?_
      intro w10 hs
      refine Zerun ?_
      exact retQ_ret [_, _] h9 ⟨resN T hs 0 rfl rfl rfl rfl rfl hl9, rfl, trivial⟩ hs.dropAll (hres _ _ hv9)
end
end Go.Proofs.Ythbfkhklihejiaa

/-
  Contracts of the document's answer of layer 8: items again and again, turned, behind each other; a number brought between two. No statement is proved here.
-/
namespace Go.Proofs.Ythbfkhklihejiaa
open Go Go.RowKit
set_option linter.unusedVariables false
set_option linter.unusedSimpArgs false
set_option maxHeartbeats 4000000
attribute [local irreducible] CW RW QW SW HW ConM retM heldQ calmQ elemP thenQ blockQ loopQ joinQ retQ Yields Con Sl zF magR unitF truncF fwF wholeF tidySpec elemQ rankF leastN tidyW
set_option maxHeartbeats 4000000

theorem turnL_getD {n j : Nat} (h : j < n) : (turnL n).getD j 0 = ((n - 1 - j : Nat) : Int) := by simp [turnL, List.getD_eq_getElem?_getD, h]
theorem againL_getD {n m j : Nat} (h : j < n) : (againL n m).getD j 0 = againI m j := by simp [againL, List.getD_eq_getElem?_getD, h]
def intoI (n a b : Int) : Int := if n < a then a else if b < n then b else n
theorem refInto_con (n a b : Int) (w : World) (h : GHeap) : Con Try.prog 82 [.int .i64 n, .int .i64 a, .int .i64 b] w h (fun _ u => u = .int .i64 (intoI n a b)) := by
  refine Con.of_body Try.func82 rfl Try.ntmps82 rfl rfl ?_
  intro hs
  unfold intoI
  by_cases c1 : n < a
  · rw [if_pos c1]
    refine Zerun ?_
    exact retQ_ret [_] h ⟨rfl, trivial⟩ hs rfl
  rw [if_neg c1]
  by_cases c2 : b < n
  · rw [if_pos c2]
    refine Zerun ?_
    exact retQ_ret [_] h ⟨rfl, trivial⟩ hs rfl
  rw [if_neg c2]
  refine Zerun ?_
  exact retQ_ret [_] h ⟨rfl, trivial⟩ hs rfl
section
variable {γ : Type} {RC : GHeap → List Value → γ → Prop}
theorem refTurn08_con (hRC : Mono RC) (v : Value) (l : List (ItemD γ)) (w : World) (h : GHeap) (hl : RowsAt 4 (ItemAt RC h) h v l) (hm : l.length ≤ 1048576) : Con Try.prog 87 [v] w h (fun h' u => RowsAt 4 (ItemAt RC h') h' u ((turnL l.length).map fun i => atD l i noItem)) := by
  have hRI := ItemAt.mono hRC
  obtain ⟨ad, cp, xs, rfl, hS, hA⟩ := hl
  refine Con.of_body Try.func87 rfl Try.ntmps87 rfl rfl ?_
  intro hs
  refine Zerun ?_
  have hs := hs.nilRow 83 4
  refine CW.loop (fun u : Nat × Option Addr × Nat × List Value => [(0, .slice ad l.length cp), (3, .slice u.2.1 u.1 u.2.2.1), (4, .int .i64 ((l.length : Int) - 1 - u.1))]) (fun u w' => u.1 ≤ l.length ∧ AllN 4 (ItemAt RC h) u.2.2.2 (((turnL l.length).take u.1).map fun i => atD l i noItem) ∧ Sees w h h [⟨u.2.1, u.1, u.2.2.1, 83, 4, u.2.2.2⟩] w') (fun u => l.length - u.1) (0, none, 0, []) ⟨rfl, rfl, seti (by dsimp only; omega), trivial⟩ ⟨by omega, rfl, hs⟩ ?_
  rintro ⟨i, ra, rc, vs⟩ w5 ⟨hi, hAv, hs⟩
  dsimp only at hi hAv hs ⊢
  by_cases hlt : i < l.length
  · have htk := take_succ_getD (turnL l.length) i 0 (by rw [turnL_length]; exact hlt)
    rw [turnL_getD hlt] at htk
    have hlk : ((l.length : Int) - 1 - i).toNat < l.length := by omega
    obtain ⟨y, hy, hyl, hRy⟩ := hA.elem _ hlk
    have hoy := ItemAt.one _ _ _ hRy
    have hnx : AllN 4 (ItemAt RC h) (vs ++ y) (((turnL l.length).take (i + 1)).map fun i => atD l i noItem) := by
      rw [htk, List.map_append]
      refine hAv.append (AllN.one hyl ?_)
      show ItemAt RC h y (atD l ((l.length - 1 - i : Nat) : Int) noItem)
      rw [atD_in ⟨by omega, by omega⟩, ← getElem_getD l _ noItem (by omega)]
      have e : ((l.length : Int) - 1 - i).toNat = ((l.length - 1 - i : Nat) : Int).toNat := by omega
      simpa only [e] using hRy
    refine Zerun ?_
    (refine RW.lit T hs (vs := [.agg y.toArray]) (cs := y) rfl rfl rfl rfl (by simp [Value.cells, hyl]) rfl (by simp [Value.cells]) rfl rfl rfl ?_; intro b7 w7 hs)
    (refine RW.append T hs 1 rfl rfl (m := 1) (news := y) rfl rfl rfl rfl rfl rfl (hs.src0 (by simpa using hyl) hoy) (by simp) (by dsimp only; omega) (by omega) ?_; intro ad8 cp8 w8 hs; replace hs := hs.drop)
    refine Zerun ?_
    exact loopQ_round (i + 1, ad8, cp8, vs ++ y) ⟨rfl, rfl, seti (by dsimp only; omega), trivial⟩ ⟨by dsimp only; omega, hnx, hs⟩ (by dsimp only; omega)
  · obtain rfl : i = l.length := by omega
    rw [List.take_of_length_le (by rw [turnL_length]; exact Nat.le_refl _)] at hAv
    obtain ⟨h6, hle6, hs, hS6⟩ := hs.freeze
    refine Zerun ?_
    exact retQ_ret [_] h6 ⟨rfl, trivial⟩ hs.dropAll ⟨ra, rc, vs, by simp [packv, turnL_length], by simpa [turnL_length] using hS6, hAv.mono (fun u a => hRI _ _ u a hle6)⟩
end
section
variable {β : Type} {R : GHeap → List Value → β → Prop}
theorem refAgain08_con (hR : Mono R) (v : Value) (l : List (ItemD (PlainD β))) (c n : Int) (w : World) (h : GHeap) (hl : RowsAt 4 (ItemAt (PlainR R) h) h v l) (hn : n ≤ 1048576) : Con Try.prog 85 [v, .int .i64 c, .int .i64 n] w h (fun h' u => RowsAt 4 (ItemAt (PlainR R) h') h' u ((againL n.toNat l.length).map fun i => atD l i (blankI c))) := by
  have hRI := ItemAt.mono (PlainR.mono hR)
  obtain ⟨ad, cp, xs, rfl, hS, hA⟩ := hl
  have hlen : l.length ≤ 9223372036854775807 := by have := hS.caps; omega
  refine Con.of_body Try.func85 rfl Try.ntmps85 rfl rfl ?_
  intro hs
  refine Zerun ?_
  have hs := hs.nilRow 83 4
  refine CW.loop (fun u : Nat × Option Addr × Nat × List Value × GHeap => [(0, .slice ad l.length cp), (1, .int .i64 c), (2, .int .i64 n), (7, .slice u.2.1 u.1 u.2.2.1), (8, .int .i64 u.1)]) (fun u w' => u.1 ≤ n.toNat ∧ GLe h u.2.2.2.2 ∧ AllN 4 (ItemAt (PlainR R) u.2.2.2.2) u.2.2.2.1 (((againL n.toNat l.length).take u.1).map fun i => atD l i (blankI c)) ∧ Sees w h u.2.2.2.2 [⟨u.2.1, u.1, u.2.2.1, 83, 4, u.2.2.2.1⟩] w') (fun u => n.toNat - u.1) (0, none, 0, [], h) ⟨rfl, rfl, rfl, rfl, rfl, trivial⟩ ⟨by omega, GLe.refl _, rfl, hs⟩ ?_
  rintro ⟨i, ra, rc, vs, hh⟩ w5 ⟨hi, hg, hAv, hs⟩
  dsimp only at hi hg hAv hs ⊢
  have hS := hS.mono hg
  by_cases hlt : i < n.toNat
  · have htk := take_succ_getD (againL n.toNat l.length) i 0 (by rw [againL_length]; exact hlt)
    rw [againL_getD hlt] at htk
    have done : ∀ (h6 : GHeap) (cs6 : List Value) (x : ItemD (PlainD β)), GLe hh h6 → cs6.length = 4 → ItemAt (PlainR R) h6 cs6 x → x = atD l (againI l.length i) (blankI c) → AllN 4 (ItemAt (PlainR R) h6) (vs ++ cs6) (((againL n.toNat l.length).take (i + 1)).map fun i => atD l i (blankI c)) := by
      intro h6 cs6 x hle6 hl6 hi6 hx
      rw [htk, List.map_append]
      show AllN 4 _ (vs ++ cs6) (_ ++ [atD l (againI l.length i) (blankI c)])
      rw [← hx]
      exact (hAv.mono (fun u a => hRI _ _ u a hle6)).append (AllN.one hl6 hi6)
    by_cases c1 : l.length = 0
    · refine Zerun ?_
      (refine RW.call T hs rfl rfl rfl (refBlank08_con hR c _ _) ?_; intro v h6 w6 hle6 hp6 hs)
      obtain ⟨cs6, rfl, hi6⟩ := hp6
      have hl6 : cs6.length = 4 := by obtain ⟨_, rfl, _⟩ := hi6; rfl
      have ho6 := ItemAt.one _ _ _ hi6
      (refine RW.lit T hs (vs := [.agg cs6.toArray]) (cs := cs6) rfl rfl rfl rfl (by simp [Value.cells, hl6]) rfl (by simp [Value.cells]) rfl rfl rfl ?_; intro b7 w7 hs)
      (refine RW.append T hs 1 rfl rfl (m := 1) (news := cs6) rfl rfl rfl rfl rfl rfl (hs.src0 (by simpa using hl6) ho6) (by simp) (by dsimp only; omega) (by omega) ?_; intro ad8 cp8 w8 hs; replace hs := hs.drop)
      refine Zerun ?_
      exact loopQ_round (i + 1, ad8, cp8, vs ++ cs6, h6) ⟨rfl, rfl, rfl, rfl, rfl, trivial⟩ ⟨by dsimp only; omega, hg.trans hle6, done h6 cs6 _ hle6 hl6 hi6 (by unfold againI; rw [if_neg (by omega)]; rfl), hs⟩ (by dsimp only; omega)
    have hmp : 0 < l.length := by omega
    have hmod := Nat.mod_lt i hmp
    have hlk : ((i : Int) % (l.length : Int)).toNat < l.length := by omega
    obtain ⟨y, hy, hyl, hRy⟩ := hA.elem _ hlk
    have hoy := ItemAt.one _ _ _ hRy
    have hRy := hRI _ _ _ _ hg hRy
    refine Zerun ?_
    (refine RW.lit T hs (vs := [.agg y.toArray]) (cs := y) rfl rfl rfl rfl (by simp [Value.cells, hyl]) rfl (by simp [Value.cells]) rfl rfl rfl ?_; intro b7 w7 hs)
    (refine RW.append T hs 1 rfl rfl (m := 1) (news := y) rfl rfl rfl rfl rfl rfl (hs.src0 (by simpa using hyl) hoy) (by simp) (by dsimp only; omega) (by omega) ?_; intro ad8 cp8 w8 hs; replace hs := hs.drop)
    refine Zerun ?_
    have ea : againI l.length i = (i : Int) % (l.length : Int) := by unfold againI; rw [if_pos hmp]; omega
    exact loopQ_round (i + 1, ad8, cp8, vs ++ y, hh) ⟨rfl, rfl, rfl, rfl, rfl, trivial⟩ ⟨by dsimp only; omega, hg, done hh y _ (GLe.refl _) hyl hRy (by rw [ea]; exact (getElem_getD l _ _ hlk).trans (atD_in (by omega)).symm), hs⟩ (by dsimp only; omega)
  · obtain rfl : i = n.toNat := by omega
    rw [List.take_of_length_le (by rw [againL_length]; exact Nat.le_refl _)] at hAv
    obtain ⟨h6, hle6, hs, hS6⟩ := hs.freeze
    refine Zerun ?_
    exact retQ_ret [_] h6 ⟨rfl, trivial⟩ hs.dropAll ⟨ra, rc, vs, by simp [packv, againL_length], by simpa [againL_length] using hS6, hAv.mono (fun u a => hRI _ _ u a hle6)⟩
end
section
variable {γ : Type} {RC : GHeap → List Value → γ → Prop}
def joinP (c : Int) : List (PlainD γ) → Option Int
  | [] => some c
  | p :: l => if 0 < p.items.length ∧ 0 ≤ c ∧ c ≠ p.fill then none else joinP (if 0 < p.items.length then p.fill else c) l
def headF : List (PlainD γ) → Int
  | [] => 0
  | p :: _ => p.fill
theorem fmi_len' : ∀ (l : List (PlainD γ)) (i : Nat), ((l.take i).flatMap (·.items)).length ≤ (l.map (·.items.length)).sum
  | [], i => by simp
  | v :: l, 0 => by simp
  | v :: l, i + 1 => by
    have := fmi_len' l i
    simp only [List.take_succ_cons, List.map_cons, List.sum_cons, List.flatMap_cons, List.length_append]
    omega
theorem refJoin08_con (hRC : Mono RC) (s : Value) (l : List (PlainD γ)) (w : World) (h : GHeap) (hl : RowsAt 3 (PlainR RC h) h s l) (hm : (l.map (·.items.length)).sum ≤ 1048576) (hf : ∀ p ∈ l, 0 ≤ p.fill) : Con Try.prog 73 [s] w h (fun h' u => ∃ s' cl, u = .tuple #[s', .int .i64 cl] ∧ (joinP (-1) l = none → cl = -1) ∧ ∀ c, joinP (-1) l = some c → cl = (if 0 ≤ c then c else headF l) ∧ RowsAt 4 (ItemAt RC h') h' s' (l.flatMap (·.items))) := by
  have hRI := ItemAt.mono hRC
  obtain ⟨ad, cp, xs, rfl, hS, hA⟩ := hl
  have hlen : l.length ≤ 9223372036854775807 := by have := hS.caps; omega
  refine Con.of_body Try.func73 rfl Try.ntmps73 rfl rfl ?_
  intro hs
  refine Zerun ?_
  have hs := hs.nilRow 83 4
  refine CW.loop (fun u : Nat × Int × (Option Addr × Nat × Nat) × List Value => [(0, .slice ad l.length cp), (4, .slice u.2.2.1.1 u.2.2.1.2.1 u.2.2.1.2.2), (5, .int .i64 u.2.1), (6, .int .i64 u.1)]) (fun u w' => u.1 ≤ l.length ∧ AllN 4 (ItemAt RC h) u.2.2.2 ((l.take u.1).flatMap (·.items)) ∧ u.2.2.1.2.1 = ((l.take u.1).flatMap (·.items)).length ∧ joinP (-1) l = joinP u.2.1 (l.drop u.1) ∧ -1 ≤ u.2.1 ∧ Sees w h h [⟨u.2.2.1.1, u.2.2.1.2.1, u.2.2.1.2.2, 83, 4, u.2.2.2⟩] w') (fun u => l.length - u.1) (0, -1, (none, 0, 0), []) ⟨rfl, rfl, rfl, rfl, trivial⟩ ⟨by omega, rfl, rfl, rfl, by dsimp only; omega, hs⟩ ?_
  rintro ⟨i, c, ⟨ra, rn, rc⟩, vs⟩ w5 ⟨hi, hAv, hn, hJ, hcm, hs⟩
  dsimp only at hi hAv hn hJ hcm hs ⊢
  by_cases hlt : i < l.length
  · obtain ⟨y, hy, hyl, hRy⟩ := hA.elem _ hlt
    have htk := fm_take_succ (·.items) l i hlt
    have hlen2 := fmi_len' l (i + 1)
    have hd := List.drop_eq_getElem_cons hlt
    rw [hd] at hJ
    have hf0 := hf _ (List.getElem_mem hlt)
    rw [htk, List.length_append, ← hn] at hlen2
    generalize hve : l[i] = p at *
    obtain ⟨sv, it, rfl, hsh, ⟨ad2, cp2, xs2, rfl, hS2, hA2⟩⟩ := hRy
    have hx1 : xs[i * 3 + 1]? = some (.slice ad2 p.items.length cp2) := by rw [AllN.get4 hy 1 (by omega)]; rfl
    have hx2 : xs[i * 3 + 2]? = some (.int .i64 p.fill) := by rw [AllN.get4 hy 2 (by omega)]; rfl
    have ho2 := hA2.ones (ItemAt.one h)
    have hnx : AllN 4 (ItemAt RC h) (vs ++ xs2) ((l.take (i + 1)).flatMap (·.items)) := by rw [htk]; exact hAv.append hA2
    have hnn : rn + p.items.length = ((l.take (i + 1)).flatMap (·.items)).length := by rw [htk, List.length_append, hn]
    by_cases c1 : 0 < p.items.length
    · have hstep : (0 ≤ c → c = p.fill) → joinP c (p :: l.drop (i + 1)) = joinP p.fill (l.drop (i + 1)) := fun e => by
        rw [joinP, if_neg (fun e2 => e2.2.2 (e e2.2.1)), if_pos c1]
      by_cases c2 : 0 ≤ c
      · by_cases c3 : c = p.fill
        · refine Zerun ?_
          refine RW.append T hs 0 rfl rfl (m := p.items.length) (news := xs2) rfl rfl rfl rfl rfl rfl (hS2.src hs.agree ho2) (fun e => by subst e; exact hS2.nil0.2) (by dsimp only; omega) (by omega) ?_
          intro ad9 cp9 w9 hs
          refine Zerun ?_
          exact loopQ_round (i + 1, p.fill, (ad9, rn + p.items.length, cp9), vs ++ xs2) ⟨rfl, rfl, rfl, rfl, trivial⟩ ⟨by dsimp only; omega, hnx, hnn, hJ.trans (hstep (fun _ => c3)), by dsimp only; omega, hs⟩ (by dsimp only; omega)
        · refine Zerun ?_
          refine retQ_ret [_, _] h ⟨rfl, rfl, trivial⟩ hs.dropAll ⟨_, -1, rfl, fun _ => rfl, fun c' e => ?_⟩
          rw [hJ, joinP, if_pos ⟨c1, c2, c3⟩] at e
          cases e
      · refine Zerun ?_
        refine RW.append T hs 0 rfl rfl (m := p.items.length) (news := xs2) rfl rfl rfl rfl rfl rfl (hS2.src hs.agree ho2) (fun e => by subst e; exact hS2.nil0.2) (by dsimp only; omega) (by omega) ?_
        intro ad9 cp9 w9 hs
        refine Zerun ?_
        exact loopQ_round (i + 1, p.fill, (ad9, rn + p.items.length, cp9), vs ++ xs2) ⟨rfl, rfl, rfl, rfl, trivial⟩ ⟨by dsimp only; omega, hnx, hnn, hJ.trans (hstep (fun e => absurd e c2)), by dsimp only; omega, hs⟩ (by dsimp only; omega)
    · have hstep : joinP c (p :: l.drop (i + 1)) = joinP c (l.drop (i + 1)) := by rw [joinP, if_neg (fun e => c1 e.1), if_neg c1]
      refine Zerun ?_
      refine RW.append T hs 0 rfl rfl (m := p.items.length) (news := xs2) rfl rfl rfl rfl rfl rfl (hS2.src hs.agree ho2) (fun e => by subst e; exact hS2.nil0.2) (by dsimp only; omega) (by omega) ?_
      intro ad9 cp9 w9 hs
      refine Zerun ?_
      exact loopQ_round (i + 1, c, (ad9, rn + p.items.length, cp9), vs ++ xs2) ⟨rfl, rfl, rfl, rfl, trivial⟩ ⟨by dsimp only; omega, hnx, hnn, hJ.trans hstep, hcm, hs⟩ (by dsimp only; omega)
  · obtain rfl : i = l.length := by omega
    rw [List.take_length] at hAv hn
    rw [List.drop_length] at hJ
    have hJ : joinP (-1) l = some c := hJ
    subst hn
    obtain ⟨h6, hle6, hs, hS6⟩ := hs.freeze
    have hS := hS.mono hle6
    have hres : ∀ cl, cl = (if 0 ≤ c then c else headF l) → ∃ s' cl', Value.tuple #[.slice ra (l.flatMap (·.items)).length rc, .int .i64 cl] = .tuple #[s', .int .i64 cl'] ∧ (joinP (-1) l = none → cl' = -1) ∧ ∀ c, joinP (-1) l = some c → cl' = (if 0 ≤ c then c else headF l) ∧ RowsAt 4 (ItemAt RC h6) h6 s' (l.flatMap (·.items)) := by
      intro cl hcl
      refine ⟨_, cl, rfl, (fun e => by rw [hJ] at e; cases e), fun c' e => ?_⟩
      rw [hJ] at e
      cases e
      exact ⟨hcl, ra, rc, vs, rfl, hS6, hAv.mono (fun u a => hRI _ _ u a hle6)⟩
    by_cases c1 : 0 ≤ c
    · refine Zerun ?_
      exact retQ_ret [_, _] h6 ⟨rfl, rfl, trivial⟩ hs.dropAll (hres c (by rw [if_pos c1]))
    · rw [if_neg c1] at hres
      by_cases c2 : 0 < l.length
      · obtain ⟨y, hy, hyl, hRy⟩ := hA.elem 0 c2
        have hf0 := hf _ (List.getElem_mem c2)
        have hhd : headF l = l[0].fill := by cases l with | nil => cases c2 | cons a l => rfl
        generalize hve : l[0] = p at *
        obtain ⟨sv, it, rfl, hsh, ⟨ad2, cp2, xs2, rfl, hS2, hA2⟩⟩ := hRy
        have hx2 : xs[0 * 3 + 2]? = some (.int .i64 p.fill) := by rw [AllN.get4 hy 2 (by omega)]; rfl
        refine Zerun ?_
        exact retQ_ret [_, _] h6 ⟨rfl, rfl, trivial⟩ hs.dropAll (hres p.fill hhd.symm)
      · have hhd : headF l = 0 := by cases l with | nil => rfl | cons a l => exact absurd (Nat.succ_pos _) c2
        refine Zerun ?_
        exact retQ_ret [_, _] h6 ⟨rfl, rfl, trivial⟩ hs.dropAll (hres 0 hhd.symm)
end
end Go.Proofs.Ythbfkhklihejiaa

/-
  Contracts of the document's answer and of the laws: how many items a good plain array has. No statement is proved here.
-/
namespace Go.Proofs.Ythbfkhklihejiaa
open Go Go.RowKit
set_option linter.unusedVariables false
set_option linter.unusedSimpArgs false
set_option maxHeartbeats 4000000
attribute [local irreducible] CW RW QW SW HW ConM retM heldQ calmQ elemP thenQ blockQ loopQ joinQ retQ Yields Con Sl zF magR unitF truncF fwF wholeF tidySpec elemQ rankF leastN tidyW
set_option maxHeartbeats 4000000

section
variable {α : Type} {R : GHeap → List Value → α → Prop}
theorem refCountB_step (hR : Mono R) (most : Int) (ih : ∀ cs a w h, R h cs a → Con Try.prog 40 [.agg cs.toArray, .int .i64 most] w h (fun _ u => ∃ r, u = .int .i64 r))
    (cs : List Value) (p : PlainD α) (w : World) (h : GHeap) (hp : PlainR R h cs p) : Con Try.prog 40 [.agg cs.toArray, .int .i64 most] w h (fun _ u => ∃ r, u = .int .i64 r ∧ (p.shape.length ≤ 8 → p.items.length ≤ 1048576 → r ≤ most → (p.items.length : Int) + p.shape.length + 1 ≤ most)) := by
  obtain ⟨s, it, rfl, ⟨ad, cp, rfl, hS⟩, ⟨ad2, cp2, xs, rfl, hS2, hA⟩⟩ := hp
  have hlen : p.items.length ≤ 9223372036854775807 := by have := hS2.caps; omega
  refine Con.of_body Try.func40 rfl Try.ntmps40 rfl rfl ?_
  intro hs
  refine Zrun ?_
  (refine RW.boxN hs rfl rfl ?_; intro b1 w1 hs)
  refine Zerun ?_
  refine RW.val (Y.add' rfl rfl) rfl ?_
  refine RW.val (Y.add' rfl rfl) rfl ?_
  have hr0' : p.shape.length ≤ 8 → p.items.length ≤ 1048576 → IntKind.i64.wrap (IntKind.i64.wrap ((p.items.length : Int) + p.shape.length) + 1) = (p.items.length : Int) + p.shape.length + 1 := by
    intro h1 h2
    have e1 : IntKind.i64.wrap ((p.items.length : Int) + p.shape.length) = (p.items.length : Int) + p.shape.length := wrap64 (by omega)
    rw [e1, wrap64 (by omega)]
  generalize IntKind.i64.wrap (IntKind.i64.wrap _ + 1) = r0 at hr0' ⊢
  refine Zerun ?_
  refine CW.loop (fun q : Nat × Int × GHeap => [(1, .int .i64 most), (2, .pointer (some ⟨b1, 0, none⟩)), (5, .int .i64 q.2.1), (6, .int .i64 q.1)]) (fun q w' => q.1 ≤ p.items.length ∧ GLe h q.2.2 ∧ (most < r0 → q.2.1 = r0) ∧ Sees w h q.2.2 [⟨some ⟨b1, 0, none⟩, 1, 1, 50, 3, [.slice ad p.shape.length cp, .slice ad2 p.items.length cp2, .int .i64 p.fill]⟩] w') (fun q => p.items.length - q.1) (0, r0, h) ⟨rfl, rfl, rfl, rfl, trivial⟩ ⟨by omega, GLe.refl _, fun _ => rfl, hs⟩ ?_
  rintro ⟨i, r, hh⟩ w2 ⟨hi, hg, hr, hs⟩
  dsimp only at hi hg hr hs ⊢
  have hS2 := hS2.mono hg
  by_cases hlt : i < p.items.length
  · obtain ⟨bx, hx4, hx1, ⟨ad3, cp3, ys, rfl, hS3, hA3⟩, hx2, hq0, hq1, hq2, hq3⟩ := ItemAt.cells hA i hlt
    have hS3 := hS3.mono hg
    generalize p.items.getD i noItem = x at *
    by_cases hle : r ≤ most
    · refine Zerun ?_
      refine CW.loop (fun q : Nat × Int × GHeap => [(1, .int .i64 most), (2, .pointer (some ⟨b1, 0, none⟩)), (5, .int .i64 q.2.1), (6, .int .i64 i), (7, .int .i64 q.1)]) (fun q w' => q.1 ≤ x.box.length ∧ GLe hh q.2.2 ∧ Sees w h q.2.2 [⟨some ⟨b1, 0, none⟩, 1, 1, 50, 3, [.slice ad p.shape.length cp, .slice ad2 p.items.length cp2, .int .i64 p.fill]⟩] w') (fun q => x.box.length - q.1) (0, r, hh) ⟨rfl, rfl, rfl, rfl, rfl, trivial⟩ ⟨by omega, GLe.refl _, hs⟩ ?_
      rintro ⟨j, r2, h3⟩ w3 ⟨hj, hg3, hs⟩
      dsimp only at hj hg3 hs ⊢
      have hS2 := hS2.mono hg3
      have hS3 := hS3.mono hg3
      have hbl : x.box.length ≤ 9223372036854775807 := by have := hS3.caps; omega
      by_cases hlt3 : j < x.box.length
      · by_cases hle3 : r2 ≤ most
        · obtain ⟨y, hy, hR3, hR3l⟩ : ∃ y, (ys.drop (j * 3)).take 3 = y ∧ (∃ a, R h y a) ∧ y.length = 3 := by
            obtain ⟨h1, h2⟩ := hA3.get (x.box[j]) j hlt3
            exact ⟨_, rfl, ⟨_, h1⟩, h2⟩
          obtain ⟨a, hRa⟩ := hR3
          have hRa := hR _ _ _ _ (hg.trans hg3) hRa
          refine Zerun ?_
          (refine RW.call T hs rfl rfl rfl (ih _ a _ _ hRa) ?_; intro v h4 w4 hle4 hp4 hs)
          obtain ⟨r4, rfl⟩ := hp4
          refine RW.val (Y.add' rfl rfl) rfl ?_
          generalize IntKind.i64.wrap (r2 + r4) = r5
          refine Zerun ?_
          exact loopQ_round (j + 1, r5, h4) ⟨rfl, rfl, rfl, rfl, rfl, trivial⟩ ⟨by dsimp only; omega, hg3.trans hle4, hs⟩ (by dsimp only; omega)
        · refine Zerun ?_
          exact loopQ_round (i + 1, r2, h3) ⟨rfl, rfl, rfl, rfl, trivial⟩ ⟨by dsimp only; omega, hg.trans hg3, fun e => by have := hr e; omega, hs⟩ (by dsimp only; omega)
      · refine Zerun ?_
        exact loopQ_round (i + 1, r2, h3) ⟨rfl, rfl, rfl, rfl, trivial⟩ ⟨by dsimp only; omega, hg.trans hg3, fun e => by have := hr e; omega, hs⟩ (by dsimp only; omega)
    · refine Zerun ?_
      exact retQ_ret [_] hh ⟨rfl, trivial⟩ hs.dropAll ⟨_, rfl, fun h1 h2 h3 => by have e := hr0' h1 h2; by_cases c : most < r0; have := hr c; omega; omega⟩
  · refine Zerun ?_
    exact retQ_ret [_] hh ⟨rfl, trivial⟩ hs.dropAll ⟨_, rfl, fun h1 h2 h3 => by have e := hr0' h1 h2; by_cases c : most < r0; have := hr c; omega; omega⟩
end
theorem refCountB_con (most : Int) (k : Nat) (cs : List Value) (p : PD (k + 1)) (w : World) (h : GHeap) (hp : PlainAt (k + 1) h cs p) : Con Try.prog 40 [.agg cs.toArray, .int .i64 most] w h (fun _ u => ∃ r, u = .int .i64 r ∧ (chk (k + 1) 40 p = 0 → r ≤ most → (PlainD.items (α := PD k) p).length ≤ most)) := by
  have := refCountB_step (PlainAt.mono k) most (refCount_con most k) cs p w h hp
  refine this.mono ?_
  rintro h' u _ ⟨r, rfl, hr⟩
  refine ⟨r, rfl, fun hc hle => ?_⟩
  obtain ⟨_, _, _, hpr, hok⟩ := (chkP_ok (α := PD k) _ _ _).1 hc
  have h1 : (PlainD.shape (α := PD k) p).length ≤ 8 := by
    by_cases c : 8 < (PlainD.shape (α := PD k) p).length
    · unfold product at hpr
      rw [if_pos c] at hpr
      exact absurd (congrArg Prod.snd hpr) (show (26 : Int) ≠ 0 by decide)
    · omega
  have h2 := (good_sml (k + 1) 40 _ (good_arr (k + 1) 40 p hc)).2.1
  have h3 : (ArrD.vec (α := AD k) (arr (k + 1) p)).len = (PlainD.items (α := PD k) p).length := len_arrV (arr k) _ _ _ hok
  have := hr h1 (by omega) hle
  omega
theorem good08B_con (k : Nat) (cs : List Value) (p : PD (k + 1)) (w : World) (h : GHeap) (hp : PlainAt (k + 1) h cs p) : Con Try.prog 63 [.agg cs.toArray] w h (fun _ u => ∃ b, u = .bool b ∧ (b = true → chk (k + 1) 40 p = 0 ∧ (PlainD.items (α := PD k) p).length ≤ 3000)) := by
  have hp' := hp
  obtain ⟨s, it, rfl, _⟩ := hp
  refine Con.of_body Try.func63 rfl Try.ntmps63 rfl rfl ?_
  intro hs
  refine Zrun ?_
  (refine RW.boxN hs rfl rfl ?_; intro b1 w1 hs)
  refine Zerun ?_
  (refine RW.call T hs rfl rfl rfl (refCountB_con 3000 k _ p _ _ hp') ?_; intro v h2 w2 hle2 hp2 hs)
  obtain ⟨r, rfl, hr⟩ := hp2
  by_cases c1 : r ≤ 2000
  · refine Zerun ?_
    (refine RW.call T hs rfl rfl rfl (refCheck_con (k + 1) _ p _ _ (PlainAt.mono (k + 1) _ _ _ _ hle2 hp')) ?_; intro v h3 w3 hle3 hp3 hs)
    subst hp3
    refine Zerun ?_
    refine retQ_ret [_] h3 ⟨rfl, trivial⟩ hs.dropAll ⟨_, rfl, fun e => ?_⟩
    have hc := of_decide_eq_true e
    have := hr hc (by omega)
    exact ⟨hc, by omega⟩
  · refine Zerun ?_
    exact retQ_ret [_] h2 ⟨rfl, trivial⟩ hs.dropAll ⟨_, rfl, fun e => by cases e⟩
end Go.Proofs.Ythbfkhklihejiaa

/-
  Plain facts on lists of elements picked, cut, turned and put behind each other, and what they show. No statement is proved here.
-/
namespace Go.Proofs.Ythbfkhklihejiaa
open Go Go.RowKit
set_option linter.unusedVariables false
set_option linter.unusedSimpArgs false
set_option maxHeartbeats 4000000
attribute [local irreducible] CW RW QW SW HW ConM retM heldQ calmQ elemP thenQ blockQ loopQ joinQ retQ Yields Con Sl zF magR unitF truncF fwF wholeF tidySpec elemQ rankF leastN tidyW
set_option maxHeartbeats 4000000

structure Shown (k : Nat) (v : VecD (AD k)) (l : List (ItemD (PD k))) (c : Int) : Prop where
  hc : v.cls = c
  k0 : v.kind ≠ 0
  kl : v.kind = v.least
  vm : v.len ≤ 1048576
  sm : ∀ b ∈ v.boxes, sml k b
  he : itemsV (plain k) v = l
  td : ∀ x ∈ l, tdyIt (tdy k) x
theorem shown_of (k : Nat) (p : PD (k + 2)) (h : GHeap) (cs : List Value) (hp : PlainAt (k + 2) h cs p) (hc : chk (k + 2) 40 p = 0) : Shown (k + 1) (ArrD.vec (α := AD (k + 1)) (arr (k + 2) p)) (PlainD.items (α := PD (k + 1)) (tidy (k + 2) p)) (PlainD.fill (α := PD (k + 1)) p) := by
  have hgood := good_arr (k + 2) 40 p hc
  have hsml := good_sml (k + 2) 40 _ hgood
  refine ⟨?_, hgood.2.1, hgood.2.2.1, hsml.2.1, hsml.2.2, congrArg (PlainD.items (α := PD (k + 1))) (plain_arr (k + 2) 40 p hc), tidy_tdy (k + 2) 40 p _ _ hp hc⟩
  obtain ⟨_, h2, h3, _, _⟩ := (chkP_ok (α := PD (k + 1)) _ _ _).1 hc
  exact cls_arrV (arr (k + 1)) _ _ h2 h3
theorem Shown.pick {k : Nat} {v : VecD (AD (k + 1))} {L : List (ItemD (PD (k + 1)))} {c : Int} (H : Shown (k + 1) v L c) (at_ : List Int) (hm : at_.length ≤ 1048576) : Shown (k + 1) (v.pick at_ (blankA k)) (at_.map fun i => atD L i (blankI c : ItemD (PlainD (PD k)))) c := by
  have hpf := pick_facts v at_ (blankA k)
  refine ⟨by rw [pick_cls, H.hc], hpf.1, hpf.2.1, by rw [hpf.2.2.1]; exact hm, ?_, pick_items' (β := PD k) (plain (k + 1)) _ at_ (blankA k) _ _ H.he H.hc rfl, ?_⟩
  · intro b hb
    rcases hpf.2.2.2 b hb with e | e
    · exact H.sm b e
    · rw [e]; exact blankA_sml k
  · intro x hx
    obtain ⟨i, _, rfl⟩ := List.mem_map.1 hx
    rcases atD_mem L i (blankI c : ItemD (PlainD (PD k))) with e | e
    · exact H.td _ e
    · rw [e]; exact blankI_tdy k _
theorem span_items {γ : Type} (L : List γ) (f t_ : Nat) (hf : f ≤ t_) (ht : t_ ≤ L.length) (d : γ) : (spanL f t_).map (fun i => atD L i d) = (L.drop f).take (t_ - f) := by
  apply List.ext_getElem?
  intro j
  simp only [spanL, List.map_map, List.getElem?_map, List.getElem?_take, List.getElem?_drop]
  by_cases c : j < t_ - f
  · rw [List.getElem?_range c, if_pos c]
    simp only [Option.map_some, Function.comp]
    rw [atD_in ⟨by omega, by omega⟩, Int.toNat_natCast]
    have : f + j < L.length := by omega
    simp [List.getD_eq_getElem?_getD, this]
  · rw [if_neg c]
    simp [c]
theorem turn_items {γ : Type} (L : List γ) (d : γ) : (turnL L.length).map (fun i => atD L i d) = L.reverse := by
  apply List.ext_getElem?
  intro j
  simp only [turnL, List.map_map, List.getElem?_map]
  by_cases c : j < L.length
  · rw [List.getElem?_range c, List.getElem?_reverse c]
    simp only [Option.map_some, Function.comp]
    rw [atD_in ⟨by omega, by omega⟩, Int.toNat_natCast]
    have : L.length - 1 - j < L.length := by omega
    simp [List.getD_eq_getElem?_getD, this]
  · simp [c]
section
variable {α β : Type}
theorem len0 {v : VecD α} (h : v.len = 0) : v.nums = [] ∧ v.chars = [] ∧ v.boxes = [] := by
  unfold VecD.len at h
  exact ⟨List.eq_nil_of_length_eq_zero (by omega), List.eq_nil_of_length_eq_zero (by omega), List.eq_nil_of_length_eq_zero (by omega)⟩
theorem itemsV_len0 (f : α → β) {v : VecD α} (h : v.len = 0) : itemsV f v = [] := by
  obtain ⟨h1, h2, h3⟩ := len0 h
  unfold itemsV
  rw [h1, h2, h3]
  split <;> (try split) <;> rfl
theorem flatMap_map' {γ δ ε : Type} (g : δ → ε) (f : γ → List δ) : ∀ l : List γ, (l.flatMap f).map g = l.flatMap fun x => (f x).map g
  | [] => rfl
  | a :: l => by rw [List.flatMap_cons, List.map_append, flatMap_map' g f l, List.flatMap_cons]
theorem flatMap_eq {γ δ : Type} {f g : γ → List δ} : ∀ {l : List γ}, (∀ x ∈ l, f x = g x) → l.flatMap f = l.flatMap g
  | [], _ => rfl
  | a :: l, h => by rw [List.flatMap_cons, List.flatMap_cons, h a (by simp), flatMap_eq (fun x hx => h x (List.mem_cons_of_mem _ hx))]
theorem joinS_cls {c : Int} (hc : c = 0 ∨ c = 1 ∨ c = 2) (l : List (VecD α)) : (joinS c l).cls = c := by
  unfold joinS VecD.cls
  rcases hc with rfl | rfl | rfl
  · have := leastN_bounds (l.flatMap (·.nums))
    rw [if_neg (show ¬ (0 : Int) = 1 by decide), if_neg (show ¬ (0 : Int) = 2 by decide)]
    dsimp only
    rw [if_neg (by omega), if_neg (by omega)]
  · rfl
  · rfl
theorem itemsV_join (f : α → β) {c : Int} {l : List (VecD α)} (hc : c = 0 ∨ c = 1 ∨ c = 2) (h : ∀ v ∈ l, v.len ≠ 0 → v.cls = c) : itemsV f (joinS c l) = l.flatMap (itemsV f) := by
  have hcl := joinS_cls hc l
  rcases hc with rfl | rfl | rfl
  · rw [itemsV_c0 f hcl]
    show (l.flatMap (·.nums)).map _ = _
    rw [flatMap_map']
    apply flatMap_eq
    intro v hv
    by_cases e : v.len = 0
    · rw [itemsV_len0 f e, (len0 e).1]; rfl
    · rw [itemsV_c0 f (h v hv e)]
  · rw [itemsV_c1 f hcl]
    show (l.flatMap (·.chars)).map _ = _
    rw [flatMap_map']
    apply flatMap_eq
    intro v hv
    by_cases e : v.len = 0
    · rw [itemsV_len0 f e, (len0 e).2.1]; rfl
    · rw [itemsV_c1 f (h v hv e)]
  · rw [itemsV_c2 f hcl]
    show (l.flatMap (·.boxes)).map _ = _
    rw [flatMap_map']
    apply flatMap_eq
    intro v hv
    by_cases e : v.len = 0
    · rw [itemsV_len0 f e, (len0 e).2.2]; rfl
    · rw [itemsV_c2 f (h v hv e)]
theorem joinS_len (c : Int) (l : List (VecD α)) : (joinS c l).len ≤ (l.map VecD.len).sum := by
  unfold joinS
  split
  · have := fm_len (f := fun v : VecD α => v.chars) (fun v => by unfold VecD.len; omega) l
    simpa [VecD.len] using this
  · split
    · have := fm_len (f := fun v : VecD α => v.boxes) (fun v => by unfold VecD.len; omega) l
      simpa [VecD.len] using this
    · have := fm_len (f := fun v : VecD α => v.nums) (fun v => by unfold VecD.len; omega) l
      simpa [VecD.len] using this
theorem joinS_boxes {c : Int} {l : List (VecD α)} {b : α} (h : b ∈ (joinS c l).boxes) : ∃ v ∈ l, b ∈ v.boxes := by
  unfold joinS at h
  split at h
  · cases h
  · split at h
    · exact List.mem_flatMap.1 h
    · cases h
theorem joinS_kind (c : Int) (hc : c = 0 ∨ c = 1 ∨ c = 2) (l : List (VecD α)) : (joinS c l).kind ≠ 0 ∧ (joinS c l).kind = (joinS c l).least := by
  have hcl := joinS_cls hc l
  unfold VecD.least
  rw [hcl]
  rcases hc with rfl | rfl | rfl
  · have := leastN_bounds (l.flatMap (·.nums))
    have hk : (joinS 0 l).kind = leastN (l.flatMap (·.nums)) := rfl
    have hn : (joinS 0 l).nums = l.flatMap (·.nums) := rfl
    rw [hk, hn]
    exact ⟨by omega, by rw [if_pos ⟨rfl, by omega⟩]⟩
  · exact ⟨show (5 : Int) ≠ 0 by decide, rfl⟩
  · exact ⟨show (6 : Int) ≠ 0 by decide, rfl⟩
theorem noneV_facts (c : Int) (hc : c = 0 ∨ c = 1 ∨ c = 2) (f : α → β) : (noneV c : VecD α).cls = c ∧ (noneV c : VecD α).kind ≠ 0 ∧ (noneV c : VecD α).kind = (noneV c : VecD α).least ∧ (noneV c : VecD α).len = 0 ∧ (noneV c : VecD α).boxes = [] ∧ itemsV f (noneV c : VecD α) = [] := by
  rcases hc with rfl | rfl | rfl
  · have e : leastN [] = 1 := by have := leastN_bits []; simpa using this
    refine ⟨rfl, show (1 : Int) ≠ 0 by decide, ?_, rfl, rfl, rfl⟩
    show (1 : Int) = if (0 : Int) = 0 ∧ (1 : Int) ≠ 0 then leastN [] else 1
    rw [e]
    rfl
  · exact ⟨rfl, show (5 : Int) ≠ 0 by decide, rfl, rfl, rfl, rfl⟩
  · exact ⟨rfl, show (6 : Int) ≠ 0 by decide, rfl, rfl, rfl, rfl⟩
theorem joinC_some : ∀ (l : List (VecD α)) (c0 c : Int), joinC c0 l = some c → (0 ≤ c0 → c = c0) ∧ (c = c0 ∨ c = 0 ∨ c = 1 ∨ c = 2) ∧ ∀ v ∈ l, v.len ≠ 0 → v.cls = c
  | [], c0, c, h => by
    cases h
    exact ⟨fun _ => rfl, .inl rfl, fun v hv => by cases hv⟩
  | v :: l, c0, c, h => by
    by_cases h0 : v.len = 0
    · rw [joinC_skip h0] at h
      obtain ⟨h1, h2, h3⟩ := joinC_some l c0 c h
      refine ⟨h1, h2, fun u hu hn => ?_⟩
      rcases List.mem_cons.1 hu with rfl | hu
      · exact absurd h0 hn
      · exact h3 u hu hn
    · by_cases hb : 0 ≤ c0 ∧ c0 ≠ v.cls
      · rw [joinC, if_neg h0, if_pos hb] at h; cases h
      · rw [joinC, if_neg h0, if_neg hb] at h
        obtain ⟨h1, h2, h3⟩ := joinC_some l v.cls c h
        have hcl := cls_rng v
        have hcv := h1 (by omega)
        refine ⟨fun e => ?_, by omega, fun u hu hn => ?_⟩
        · rw [hcv]
          exact (Decidable.of_not_not (fun e2 => hb ⟨e, fun e3 => e2 e3.symm⟩))
        · rcases List.mem_cons.1 hu with rfl | hu
          · exact hcv.symm
          · exact h3 u hu hn
end
theorem shown_join {k : Nat} {vs : List (VecD (AD k))} {c : Int} (hJ : joinC (-1) vs = some c) (hA : ∀ v ∈ vs, Shown k v (itemsV (plain k) v) v.cls) (hm : (vs.map VecD.len).sum ≤ 1048576) : Shown k (if c < 0 then noneV (headC vs) else joinS c vs) (vs.flatMap (itemsV (plain k))) (if 0 ≤ c then c else headC vs) := by
  obtain ⟨_, hr, hall⟩ := joinC_some vs (-1) c hJ
  have htd : ∀ x ∈ vs.flatMap (itemsV (plain k)), tdyIt (tdy k) x := by
    intro x hx
    obtain ⟨v, hv, hx⟩ := List.mem_flatMap.1 hx
    exact (hA v hv).td x hx
  by_cases hc : c < 0
  · rw [if_pos hc, if_neg (by omega)]
    have hh : headC vs = 0 ∨ headC vs = 1 ∨ headC vs = 2 := by
      cases vs with
      | nil => exact .inl rfl
      | cons v l => exact cls_rng v
    have he : vs.flatMap (itemsV (plain k)) = [] := by
      rw [flatMap_eq (g := fun _ => [])]
      · simp
      · intro v hv
        apply itemsV_len0
        by_cases e : v.len = 0
        · exact e
        · have := hall v hv e; have := cls_rng v; omega
    obtain ⟨h1, h2, h3, h4, h5, h6⟩ := noneV_facts (headC vs) hh (plain k)
    exact ⟨h1, h2, h3, by omega, (by rw [h5]; intro b hb; cases hb), h6.trans he.symm, htd⟩
  · rw [if_neg hc, if_pos (by omega)]
    have hc3 : c = 0 ∨ c = 1 ∨ c = 2 := by omega
    obtain ⟨h1, h2⟩ := joinS_kind c hc3 vs
    refine ⟨joinS_cls hc3 vs, h1, h2, Nat.le_trans (joinS_len c vs) hm, ?_, itemsV_join _ hc3 hall, htd⟩
    intro b hb
    obtain ⟨v, hv, hb⟩ := joinS_boxes hb
    exact (hA v hv).sm b hb
theorem joinC_joinP {δ α γ : Type} (fv : δ → VecD α) (fp : δ → PlainD γ) : ∀ (l : List δ) (c : Int), (∀ x ∈ l, (fv x).len = (fp x).items.length ∧ (fv x).cls = (fp x).fill) → joinC c (l.map fv) = joinP c (l.map fp) ∧ headC (l.map fv) = headF (l.map fp)
  | [], c, _ => ⟨rfl, rfl⟩
  | x :: l, c, h => by
    obtain ⟨h1, h2⟩ := h x (by simp)
    refine ⟨?_, h2⟩
    have ih := fun c => (joinC_joinP fv fp l c (fun y hy => h y (List.mem_cons_of_mem _ hy))).1
    rw [List.map_cons, List.map_cons, joinC, joinP, h1, h2]
    by_cases e : (fp x).items.length = 0
    · rw [if_pos e, if_neg (by omega), if_neg (by omega)]; exact ih c
    · rw [if_neg e]
      by_cases e2 : 0 ≤ c ∧ c ≠ (fp x).fill
      · rw [if_pos e2, if_pos ⟨by omega, e2⟩]
      · rw [if_neg e2, if_neg (fun e3 => e2 e3.2), if_pos (by omega)]; exact ih _
end Go.Proofs.Ythbfkhklihejiaa

/-
  Contracts of the document's answer of layer 19 and of the law's own functions: where items are first, lists shown. No statement is proved here.
-/
namespace Go.Proofs.Ythbfkhklihejiaa
open Go Go.RowKit
set_option linter.unusedVariables false
set_option linter.unusedSimpArgs false
set_option maxHeartbeats 4000000
attribute [local irreducible] CW RW QW SW HW ConM retM heldQ calmQ elemP thenQ blockQ loopQ joinQ retQ Yields Con Sl zF magR unitF truncF fwF wholeF tidySpec elemQ rankF leastN tidyW
set_option maxHeartbeats 2000000
attribute [local irreducible] mixN wrN wr32 keyIt keyP

theorem Yields.to {P : Program} {n : Nat} {L : Env} {w : World} {op : Op} {ty : TypeId} {v u : Value} (h : Yields P n L w op ty v) (e : v = u) : Yields P n L w op ty u := e ▸ h
theorem VecAt.kinds {α : Type} {R : GHeap → List Value → α → Prop} {h : GHeap} {cs : List Value} {v : VecD α} (hv : VecAt R h cs v) : 0 ≤ v.kind ∧ v.kind ≤ 6 := by
  obtain ⟨_, _, _, _, _, _, _, _, hk⟩ := hv
  rcases hk with ⟨e, _⟩ | ⟨e, _⟩ | ⟨e, _⟩ | ⟨e, _⟩ | ⟨e, _⟩ | ⟨e, _⟩ | ⟨e, _⟩ <;> omega
theorem ref19Find_con (k : Nat) (s : Value) (l : List (ItemD (PD k))) (cs : List Value) (x : ItemD (PD k)) (w : World) (h : GHeap) (hl : RowsAt 4 (ItemAt (PlainAt k) h) h s l) (hx : ItemAt (PlainAt k) h cs x) (ql : ∀ y ∈ l, tdyIt (tdy k) y) (qx : tdyIt (tdy k) x) :
    Con Try.prog 78 [s, .agg cs.toArray] w h (fun _ u => u = .int .i64 (ixOf l x : Nat)) := by
  have hx' := hx
  obtain ⟨ad, cp, xs, rfl, hS, hA⟩ := hl
  obtain ⟨bx, rfl, _, _⟩ := hx
  have hlen : l.length ≤ 9223372036854775807 := by have := hS.caps; omega
  refine Con.of_body Try.func78 rfl Try.ntmps78 rfl rfl ?_
  intro hs
  refine Zrun ?_
  (refine RW.boxN hs rfl rfl ?_; intro b1 w1 hs)
  refine Zerun ?_
  refine CW.loop (fun i : Nat => [(0, .slice ad l.length cp), (3, .pointer (some ⟨b1, 0, none⟩)), (5, .int .i64 i)]) (fun i w' => i ≤ l.length ∧ (∀ j (hj : j < l.length), j < i → l[j] ≠ x) ∧ Sees w h h [⟨some ⟨b1, 0, none⟩, 1, 1, 83, 4, [.int .i64 x.kind, .float .f64 x.num, .int .i32 x.char, bx]⟩] w') (fun i => l.length - i) 0 ⟨rfl, rfl, rfl, trivial⟩ ⟨by omega, fun j _ hj => absurd hj (Nat.not_lt_zero _), hs⟩ ?_
  rintro i w4 ⟨hi, hno, hs⟩
  by_cases hlt : i < l.length
  · obtain ⟨y, hy, hyl, hRy⟩ := hA.elem i hlt
    have qy := ql _ (List.getElem_mem hlt)
    refine Zerun ?_
    refine CW.regionQ T hs (Zeqrun ?_) (by kernel_rfl)
    refine QW.call T hs rfl rfl rfl (fun w => refItem_con k _ _ _ _ w _ hRy hx' qy qx) ?_
    by_cases e : l[i] = x
    · rw [eqB_of e]
      refine Zeqrun ?_
      intro w5 hs
      refine Zerun ?_
      refine retQ_ret [_] h ⟨rfl, trivial⟩ hs.dropAll ?_
      rw [ixOf_of hlt e (fun j hj => hno j (by omega) hj)]
      rfl
    · rw [eqB_not e]
      refine Zeqrun ?_
      intro w5 hs
      refine Zerun ?_
      refine loopQ_round (i + 1) ⟨rfl, rfl, rfl, trivial⟩ ⟨by omega, ?_, hs⟩ (by omega)
      intro j hj hji
      rcases Nat.lt_or_ge j i with h3 | h3
      · exact hno j hj h3
      · have h4 : j = i := by omega
        subst h4
        exact e
  · obtain rfl : i = l.length := by omega
    refine Zerun ?_
    refine retQ_ret [_] h ⟨rfl, trivial⟩ hs.dropAll ?_
    rw [ixOf_not (fun j hj => hno j hj hj)]
    rfl
theorem ref19Firsts_con (k : Nat) (s : Value) (l : List (ItemD (PD k))) (w : World) (h : GHeap) (hl : RowsAt 4 (ItemAt (PlainAt k) h) h s l) (ql : ∀ y ∈ l, tdyIt (tdy k) y) (hm : l.length ≤ 1048576) :
    Con Try.prog 88 [s] w h (fun h' u => IntsAt h' u (placesN (firstB l noItem) l.length)) := by
  obtain ⟨ad, cp, xs, rfl, hS, hA⟩ := hl
  refine Con.of_body Try.func88 rfl Try.ntmps88 rfl rfl ?_
  intro hs
  refine Zerun ?_
  have hs := hs.nilRow 3 1
  refine CW.loop (fun q : Nat × Nat × (Option Addr × Nat) × GHeap => [(0, .slice ad l.length cp), (3, .slice q.2.2.1.1 q.2.1 q.2.2.1.2), (4, .int .i64 q.1)]) (fun q w' => q.1 ≤ l.length ∧ q.2.1 = (placesN (firstB l noItem) q.1).length ∧ GLe h q.2.2.2 ∧ Sees w h q.2.2.2 [⟨q.2.2.1.1, q.2.1, q.2.2.1.2, 3, 1, (placesN (firstB l noItem) q.1).map (Value.int .i64)⟩] w') (fun q => l.length - q.1) (0, 0, (none, 0), h) ⟨rfl, rfl, rfl, trivial⟩ ⟨by omega, by rw [placesN_zero]; rfl, GLe.refl _, hs⟩ ?_
  rintro ⟨i, n, ⟨al, cl⟩, hh⟩ w7 ⟨hi, hn, hg, hs⟩
  dsimp only at hi hn hg hs ⊢
  have hS := hS.mono hg
  have hnl := placesN_len (firstB l noItem) i
  by_cases hlt : i < l.length
  · obtain ⟨y, hy, hyl, hRy⟩ := hA.elem i hlt
    have hRy := ItemAt.mono (PlainAt.mono k) _ _ _ _ hg hRy
    have hA' := hA.mono (fun u a hv => ItemAt.mono (PlainAt.mono k) _ _ u a hg hv)
    have hgi : l.getD i noItem = l[i] := getD_elem hlt _
    refine Zerun ?_
    (refine RW.call T hs rfl rfl rfl (ref19Find_con k _ l _ _ _ _ ⟨_, _, _, rfl, hS, hA'⟩ hRy ql (ql _ (List.getElem_mem hlt))) ?_; intro v h8 w8 hle8 hp8 hs)
    subst hp8
    have hS := hS.mono hle8
    by_cases c : ixOf l l[i] = i
    · have hf : firstB l noItem i = true := decide_eq_true (by rw [hgi]; exact c)
      refine Zerun ?_
      (refine RW.lit T hs (vs := [.int .i64 (i : Int)]) (cs := [.int .i64 (i : Int)]) rfl rfl rfl rfl (by simp [Value.cells]) rfl rfl rfl rfl rfl ?_; intro b9 w9 hs)
      (refine RW.append T hs 1 rfl rfl (m := 1) (news := [.int .i64 (i : Int)]) rfl rfl rfl rfl rfl rfl (hs.src0 rfl (by simp [Value.oneCell'])) (by simp) (by dsimp only; omega) (by omega) ?_; intro ad10 cp10 w10 hs; replace hs := hs.drop)
      refine Zerun ?_
      refine loopQ_round (i + 1, n + 1, (ad10, cp10), h8) ⟨rfl, rfl, rfl, trivial⟩ ⟨by dsimp only; omega, ?_, hg.trans hle8, ?_⟩ (by dsimp only; omega)
      · dsimp only
        rw [placesN_yes hf, List.length_append, ← hn]; rfl
      · dsimp only
        rw [placesN_yes hf, List.map_append]
        exact hs
    · have hf : firstB l noItem i = false := decide_eq_false (by rw [hgi]; exact c)
      refine Zerun ?_
      refine loopQ_round (i + 1, n, (al, cl), h8) ⟨rfl, rfl, rfl, trivial⟩ ⟨by dsimp only; omega, ?_, hg.trans hle8, ?_⟩ (by dsimp only; omega)
      · dsimp only
        rw [placesN_no hf]; exact hn
      · dsimp only
        rw [placesN_no hf]; exact hs
  obtain rfl : i = l.length := by omega
  refine Zerun ?_
  obtain ⟨h9, hle9, hs, hS9⟩ := hs.freeze
  refine retQ_ret [_] h9 ⟨rfl, trivial⟩ hs.dropAll ?_
  rw [hn] at hS9 ⊢
  exact IntsAt.of_sl hS9
theorem filter_take {γ : Type} (q : γ → Bool) (l : List γ) (i : Nat) (hi : i < l.length) : (l.take (i + 1)).filter q = (l.take i).filter q ++ (if q l[i] = true then [l[i]] else []) := by
  rw [List.take_add_one, List.getElem?_eq_getElem hi, Option.toList_some, List.filter_append]
  congr 1
  by_cases h : q l[i] = true
  · rw [if_pos h, List.filter_cons_of_pos h]; rfl
  · rw [if_neg h, List.filter_cons_of_neg h]; rfl
noncomputable def inB {γ : Type} (m : List γ) (keep : Bool) (x : γ) : Bool := decide (ixOf m x < m.length) == keep
theorem ref19Without_con (k : Nat) (s s2 : Value) (l m : List (ItemD (PD k))) (keep : Bool) (w : World) (h : GHeap) (hl : RowsAt 4 (ItemAt (PlainAt k) h) h s l) (hm : RowsAt 4 (ItemAt (PlainAt k) h) h s2 m) (ql : ∀ y ∈ l, tdyIt (tdy k) y) (qm : ∀ y ∈ m, tdyIt (tdy k) y) (hlm : l.length ≤ 1048576) :
    Con Try.prog 89 [s, s2, .bool keep] w h (fun h' u => RowsAt 4 (ItemAt (PlainAt k) h') h' u (l.filter (inB m keep))) := by
  have hRI := ItemAt.mono (PlainAt.mono k)
  obtain ⟨ad, cp, xs, rfl, hS, hA⟩ := hl
  obtain ⟨ad2, cp2, xs2, rfl, hS2, hA2⟩ := hm
  have hlen2 : m.length ≤ 9223372036854775807 := by have := hS2.caps; omega
  refine Con.of_body Try.func89 rfl Try.ntmps89 rfl rfl ?_
  intro hs
  refine Zerun ?_
  have hs := hs.nilRow 83 4
  refine CW.loop (fun q : Nat × Nat × (Option Addr × Nat) × List Value × GHeap => [(0, .slice ad l.length cp), (1, .slice ad2 m.length cp2), (2, .bool keep), (7, .slice q.2.2.1.1 q.2.1 q.2.2.1.2), (8, .int .i64 q.1)]) (fun q w' => q.1 ≤ l.length ∧ q.2.1 = ((l.take q.1).filter (inB m keep)).length ∧ GLe h q.2.2.2.2 ∧ AllN 4 (ItemAt (PlainAt k) q.2.2.2.2) q.2.2.2.1 ((l.take q.1).filter (inB m keep)) ∧ Sees w h q.2.2.2.2 [⟨q.2.2.1.1, q.2.1, q.2.2.1.2, 83, 4, q.2.2.2.1⟩] w') (fun q => l.length - q.1) (0, 0, (none, 0), [], h) ⟨rfl, rfl, rfl, rfl, rfl, trivial⟩ ⟨by omega, rfl, GLe.refl _, rfl, hs⟩ ?_
  rintro ⟨i, n, ⟨al, cl⟩, vs, hh⟩ w7 ⟨hi, hn, hg, hAv, hs⟩
  dsimp only at hi hn hg hAv hs ⊢
  have hS := hS.mono hg
  have hS2 := hS2.mono hg
  have hnl : ((l.take i).filter (inB m keep)).length ≤ i := Nat.le_trans (List.length_filter_le _ _) (by rw [List.length_take]; omega)
  by_cases hlt : i < l.length
  · obtain ⟨y, hy, hyl, hRy⟩ := hA.elem i hlt
    have hoy := ItemAt.one _ _ _ hRy
    have hRy := hRI _ _ _ _ hg hRy
    have hA2' := hA2.mono (fun u a hv => hRI _ _ u a hg hv)
    have hft := filter_take (inB m keep) l i hlt
    refine Zerun ?_
    (refine RW.call T hs rfl rfl rfl (ref19Find_con k _ m _ _ _ _ ⟨_, _, _, rfl, hS2, hA2'⟩ hRy qm (ql _ (List.getElem_mem hlt))) ?_; intro v h8 w8 hle8 hp8 hs)
    subst hp8
    have hS := hS.mono hle8
    have hRy := hRI _ _ _ _ hle8 hRy
    have hAv := hAv.mono (fun u a hv => hRI _ _ u a hle8 hv)
    refine Zerun ?_
    have hdec : decide (((ixOf m l[i] : Nat) : Int) < (m.length : Int)) = decide (ixOf m l[i] < m.length) := by
      by_cases c : ixOf m l[i] < m.length
      · rw [decide_eq_true c, decide_eq_true (by omega)]
      · rw [decide_eq_false c, decide_eq_false (by omega)]
    refine RW.val (Y.eqlB T rfl rfl rfl) rfl ?_
    rw [hdec]
    by_cases c : (decide (ixOf m l[i] < m.length) == keep) = true
    · rw [if_pos (show inB m keep l[i] = true from c)] at hft
      rw [c]
      refine Zerun ?_
      (refine RW.lit T hs (vs := [.agg y.toArray]) (cs := y) rfl rfl rfl rfl (by simp [Value.cells, hyl]) rfl (by simp [Value.cells]) rfl rfl rfl ?_; intro b9 w9 hs)
      (refine RW.append T hs 1 rfl rfl (m := 1) (news := y) rfl rfl rfl rfl rfl rfl (hs.src0 (by simpa using hyl) hoy) (by simp) (by dsimp only; omega) (by omega) ?_; intro ad10 cp10 w10 hs; replace hs := hs.drop)
      refine Zerun ?_
      refine loopQ_round (i + 1, n + 1, (ad10, cp10), vs ++ y, h8) ⟨rfl, rfl, rfl, rfl, rfl, trivial⟩ ⟨by dsimp only; omega, ?_, hg.trans hle8, ?_, hs⟩ (by dsimp only; omega)
      · dsimp only
        rw [hft, List.length_append, ← hn]; rfl
      · dsimp only
        rw [hft]
        exact hAv.append (AllN.one hyl hRy)
    · have c' : (decide (ixOf m l[i] < m.length) == keep) = false := by simpa using c
      rw [if_neg (show ¬ inB m keep l[i] = true from c), List.append_nil] at hft
      rw [c']
      refine Zerun ?_
      refine loopQ_round (i + 1, n, (al, cl), vs, h8) ⟨rfl, rfl, rfl, rfl, rfl, trivial⟩ ⟨by dsimp only; omega, ?_, hg.trans hle8, ?_, hs⟩ (by dsimp only; omega)
      · dsimp only
        rw [hft]; exact hn
      · dsimp only
        rw [hft]; exact hAv
  obtain rfl : i = l.length := by omega
  rw [List.take_length] at hn hAv
  refine Zerun ?_
  obtain ⟨h9, hle9, hs, hS9⟩ := hs.freeze
  refine retQ_ret [_] h9 ⟨rfl, trivial⟩ hs.dropAll ?_
  rw [hn] at hS9 ⊢
  exact ⟨_, _, vs, rfl, hS9, hAv.mono (fun u a hv => hRI _ _ u a hle9 hv)⟩
theorem refBools_con (s t : Value) (l m : List Bool) (w : World) (h : GHeap) (hl : TAt h s l) (ht : TAt h t m) : Con Try.prog 80 [s, t] w h (fun _ v => v = .bool (decide (l = m))) := by
  obtain ⟨ad, cp, rfl, hS⟩ := hl
  obtain ⟨ad2, cp2, rfl, hS2⟩ := ht
  have hlen1 : l.length ≤ 9223372036854775807 := by have := hS.caps; omega
  have hlen2 : m.length ≤ 9223372036854775807 := by have := hS2.caps; omega
  refine Con.of_body Try.func80 rfl Try.ntmps80 rfl rfl ?_
  intro hs
  by_cases c1 : l.length ≠ m.length
  · refine Zerun ?_
    exact retQ_ret [_] h ⟨rfl, trivial⟩ hs.dropAll (by rw [decide_eq_false (fun e => c1 (by rw [e]))]; rfl)
  refine Zerun ?_
  refine CW.loop (fun i : Nat => [(0, .slice ad l.length cp), (1, .slice ad2 m.length cp2), (5, .int .i64 i)]) (fun i w' => i ≤ l.length ∧ l.take i = m.take i ∧ Sees w h h [] w') (fun i => l.length - i) 0 ⟨rfl, rfl, rfl, trivial⟩ ⟨by omega, rfl, hs⟩ ?_
  rintro i w4 ⟨hi, htk, hs⟩
  by_cases hlt : i < l.length
  · have hlt2 : i < m.length := by omega
    have hg1 := map_get Value.bool l i false hlt
    have hg2 := map_get Value.bool m i false hlt2
    have e1 : l.getD i false = l[i] := getD_elem hlt _
    have e2 : m.getD i false = m[i] := getD_elem hlt2 _
    refine Zerun ?_
    refine CW.regionQ T hs (Zeqrun ?_) (by kernel_rfl)
    refine QW.val (fun _ _ => Y.neqB T rfl rfl rfl) rfl ?_
    rw [e1, e2]
    by_cases c : l[i] = m[i]
    · rw [show (!(l[i] == m[i])) = false by simp [c]]
      refine Zeqrun ?_
      intro w5 hs
      refine Zerun ?_
      exact loopQ_round (i + 1) ⟨rfl, rfl, rfl, trivial⟩ ⟨by omega, take_eq_succ htk hlt hlt2 c, hs⟩ (by omega)
    · rw [show (!(l[i] == m[i])) = true by simp [c]]
      refine Zeqrun ?_
      intro w5 hs
      refine Zerun ?_
      exact retQ_ret [_] h ⟨rfl, trivial⟩ hs.dropAll (by rw [decide_eq_false (ne_of_get hlt hlt2 c)]; rfl)
  · obtain rfl : i = l.length := by omega
    rw [List.take_length, Decidable.of_not_not c1, List.take_length] at htk
    refine Zerun ?_
    exact retQ_ret [_] h ⟨rfl, trivial⟩ hs.dropAll (by rw [decide_eq_true htk]; rfl)
theorem good19_con (k : Nat) (cs : List Value) (p : PD (k + 1)) (w : World) (h : GHeap) (hp : PlainAt (k + 1) h cs p) : Con Try.prog 74 [.agg cs.toArray] w h (fun _ u => ∃ b, u = .bool b ∧ (b = true → chk (k + 1) 40 p = 0 ∧ (PlainD.items (α := PD k) p).length ≤ 200)) := by
  have hp' := hp
  obtain ⟨s, it, rfl, hs0, ⟨ad, cp, xs, rfl, hS, _⟩⟩ := hp
  have hcap := hS.caps
  refine Con.of_body Try.func74 rfl Try.ntmps74 rfl rfl ?_
  intro hs
  refine Zrun ?_
  (refine RW.boxN hs rfl rfl ?_; intro b1 w1 hs)
  refine Zerun ?_
  (refine RW.call T hs rfl rfl rfl (refCount_con 3000 (k + 1) _ p _ _ hp') ?_; intro v h2 w2 hle2 hp2 hs)
  obtain ⟨r, rfl⟩ := hp2
  by_cases c1 : r ≤ 1500
  · by_cases c2 : (PlainD.items (α := PD k) p).length ≤ 200
    · refine Zerun ?_
      (refine RW.call T hs rfl rfl rfl (refCheck_con (k + 1) _ p _ _ (PlainAt.mono (k + 1) _ _ _ _ hle2 hp')) ?_; intro v h3 w3 hle3 hp3 hs)
      subst hp3
      refine Zerun ?_
      exact retQ_ret [_] h3 ⟨rfl, trivial⟩ hs.dropAll ⟨_, rfl, fun e => ⟨of_decide_eq_true e, c2⟩⟩
    · refine Zerun ?_
      exact retQ_ret [_] h2 ⟨rfl, trivial⟩ hs.dropAll ⟨_, rfl, fun e => by cases e⟩
  · refine Zerun ?_
    exact retQ_ret [_] h2 ⟨rfl, trivial⟩ hs.dropAll ⟨_, rfl, fun e => by cases e⟩
theorem shows19_con (k : Nat) (cs : List Value) (v : VecD (AD k)) (v1 : Value) (l : List (ItemD (PD k))) (c : Int) (w : World) (h : GHeap) (hv : VecAt (ArrAt k) h cs v) (hl : RowsAt 4 (ItemAt (PlainAt k) h) h v1 l) (H : Shown k v l c) : Con Try.prog 91 [.agg cs.toArray, v1, .int .i64 c] w h (fun _ u => u = .bool true) := by
  obtain ⟨hc, hk0, hkl, hvm, hsm, he, htd⟩ := H
  have hv' := hv
  have hl' := hl
  have hlv : l.length = v.len := by rw [← he, itemsV_len (plain k) hv]
  have hkp : 0 < v.kind := by have := hv.kinds; omega
  have htd1 : tdy (k + 1) (plain (k + 1) (⟨[(v.len : Int)], v⟩ : ArrD (AD k))) := fun x hx => htd x (by rw [← he]; exact hx)
  have htd2 : tdy (k + 1) (⟨[(l.length : Int)], l, c⟩ : PlainD (PD k)) := fun x hx => htd x hx
  have hpe : plain (k + 1) (⟨[(v.len : Int)], v⟩ : ArrD (AD k)) = (⟨[(l.length : Int)], l, c⟩ : PlainD (PD k)) := by
    show (⟨[(v.len : Int)], itemsV (plain k) v, v.cls⟩ : PlainD (PD k)) = _
    rw [he, hlv, hc]
  obtain ⟨wv, nv, sm, il, fl, ch, bx, ⟨rfl, hoc⟩, hkk⟩ := hv
  clear hkk
  obtain ⟨ad, cp, xs, rfl, _, _⟩ := hl
  refine Con.of_body Try.func91 rfl Try.ntmps91 rfl rfl ?_
  intro hs
  refine Zrun ?_
  (refine RW.boxN hs rfl rfl ?_; intro b1 w1 hs)
  refine Zrun ?_
  refine CW.regionO T hs ?_
  intro w5 hs
  refine HW.takeS (fuel := 19) 0 rfl (fun _ _ hs => Y.loadRowN T hs 0 rfl rfl rfl rfl rfl rfl rfl) hs rfl (by kernel_rfl) (by kernel_rfl) (by kernel_rfl) ?_
  refine HW.one (fuel := 18) 1 rfl (by kernel_rfl) ?_
  (refine RW.call T hs rfl rfl rfl (vecKind_con _ v _ _ hv') ?_; intro v h8 w8 hle8 hp8 hs)
  subst hp8
  have hv' := hv'.mono (ArrAt.mono k) hle8
  have hl' := hl'.mono hle8 (fun u a => ItemAt.mono (PlainAt.mono k) _ _ u a hle8)
  refine RW.nil ?_
  refine heldQ_normal ⟨_, hs⟩ ?_
  refine HW.takeS (fuel := 17) 2 rfl (fun _ _ hs => (Y.gtr rfl rfl).to (congrArg Value.bool (decide_eq_true hkp))) hs rfl (by kernel_rfl) (by kernel_rfl) (by kernel_rfl) ?_
  refine HW.takeS (fuel := 16) 3 rfl (fun _ _ hs => Y.move rfl) hs rfl (by kernel_rfl) (by kernel_rfl) (by kernel_rfl) ?_
  refine HW.takeSY (fuel := 15) 4 rfl rfl rfl (fun _ _ hs => Y.loadRowN T hs 0 rfl rfl rfl rfl rfl rfl rfl) hs rfl (by kernel_rfl) (by kernel_rfl) (by kernel_rfl) ?_
  refine HW.one (fuel := 14) 5 rfl (by kernel_rfl) ?_
  refine RW.guardYes rfl rfl ?_
  (refine RW.call T hs rfl rfl rfl (sqTight_con (ArrAt.mono k) _ v _ _ hv' hvm) ?_; intro v h12 w12 hle12 hp12 hs)
  subst hp12
  rw [decide_eq_true hkl]
  have hv' := hv'.mono (ArrAt.mono k) hle12
  have hl' := hl'.mono hle12 (fun u a => ItemAt.mono (PlainAt.mono k) _ _ u a hle12)
  refine RW.nil ?_
  refine heldQ_normal ⟨_, hs⟩ ?_
  refine HW.takeS (fuel := 13) 6 rfl (fun _ _ hs => Y.pickT rfl rfl) hs rfl (by kernel_rfl) (by kernel_rfl) (by kernel_rfl) ?_
  refine HW.takeS (fuel := 12) 7 rfl (fun _ _ hs => Y.move rfl) hs rfl (by kernel_rfl) (by kernel_rfl) (by kernel_rfl) ?_
  refine HW.takeSY (fuel := 11) 8 rfl rfl rfl (fun _ _ hs => Y.loadRowN T hs 0 rfl rfl rfl rfl rfl rfl rfl) hs rfl (by kernel_rfl) (by kernel_rfl) (by kernel_rfl) ?_
  refine HW.takeSY (fuel := 10) 11 rfl rfl rfl (fun _ _ hs => Y.loadRowN T hs 0 rfl rfl rfl rfl rfl rfl rfl) hs rfl (by kernel_rfl) (by kernel_rfl) (by kernel_rfl) ?_
  refine HW.takeSY (fuel := 9) 14 rfl rfl rfl (fun _ _ hs => Y.move rfl) hs rfl (by kernel_rfl) (by kernel_rfl) (by kernel_rfl) ?_
  refine HW.takeSY (fuel := 8) 15 rfl rfl rfl (fun _ _ hs => Y.move rfl) hs rfl (by kernel_rfl) (by kernel_rfl) (by kernel_rfl) ?_
  refine HW.one (fuel := 7) 9 rfl (by kernel_rfl) ?_
  refine RW.guardYes rfl rfl ?_
  (refine RW.call T hs rfl rfl rfl (vecLen_con _ v _ _ hv') ?_; intro v h16 w16 hle16 hp16 hs)
  subst hp16
  have hv' := hv'.mono (ArrAt.mono k) hle16
  have hl' := hl'.mono hle16 (fun u a => ItemAt.mono (PlainAt.mono k) _ _ u a hle16)
  refine RW.nil ?_
  refine heldQ_normal ⟨_, hs⟩ ?_
  refine HW.one (fuel := 6) 10 rfl (by kernel_rfl) ?_
  refine RW.guardYes rfl rfl ?_
  (refine RW.lit T hs (vs := [.int .i64 v.len]) (cs := [.int .i64 v.len]) rfl rfl rfl rfl (by simp [Value.cells]) rfl rfl rfl rfl rfl ?_; intro b17 w17 hs)
  obtain ⟨h17, hle17, hs, hS17⟩ := hs.freeze
  have ha17 : ArrAt (k + 1) h17 (.slice (some ⟨b17, 0, none⟩) 1 1 :: (vecCells v.kind wv nv sm il fl ch bx)) (⟨[(v.len : Int)], v⟩ : ArrD (AD k)) := ⟨_, _, rfl, IntsAt.of_sl hS17, hv'.mono (ArrAt.mono k) hle17⟩
  have hl' := hl'.mono hle17 (fun u a => ItemAt.mono (PlainAt.mono k) _ _ u a hle17)
  refine RW.nil ?_
  refine heldQ_normal ⟨_, hs⟩ ?_
  refine HW.takeSY (fuel := 5) 12 rfl rfl rfl (fun _ _ hs => Y.build T rfl rfl rfl rfl rfl rfl rfl) hs rfl (by kernel_rfl) (by kernel_rfl) (by kernel_rfl) ?_
  refine HW.one (fuel := 4) 13 rfl (by kernel_rfl) ?_
  refine RW.guardYes rfl rfl ?_
  (refine RW.call T hs rfl rfl rfl (plainV_con (k + 1) _ _ _ _ ha17 ⟨(by show 1 ≤ 8; omega), hvm, hsm⟩) ?_; intro v h20 w20 hle20 hp20 hs)
  obtain ⟨cs20, rfl, hq20⟩ := hp20
  have hl' := hl'.mono hle20 (fun u a => ItemAt.mono (PlainAt.mono k) _ _ u a hle20)
  refine RW.nil ?_
  refine heldQ_normal ⟨_, hs⟩ ?_
  refine HW.one (fuel := 3) 16 rfl (by kernel_rfl) ?_
  refine RW.guardYes rfl rfl ?_
  (refine RW.call T hs rfl rfl rfl (refList08_con (PlainAt.mono k) _ _ c _ _ hl') ?_; intro v h23 w23 hle23 hp23 hs)
  obtain ⟨cs23, rfl, hq23⟩ := hp23
  have hq20 := PlainAt.mono (k + 1) _ _ _ _ hle23 hq20
  refine RW.nil ?_
  refine heldQ_normal ⟨_, hs⟩ ?_
  refine HW.one (fuel := 2) 17 rfl (by kernel_rfl) ?_
  refine RW.guardYes rfl rfl ?_
  (refine RW.call T hs rfl rfl rfl (refSame_con (k + 1) _ _ _ _ _ _ hq20 hq23 htd1 htd2) ?_; intro v h24 w24 hle24 hp24 hs)
  subst hp24
  rw [eqB_of hpe]
  refine RW.nil ?_
  refine heldQ_normal ⟨_, hs⟩ ?_
  refine HW.takeS (fuel := 1) 18 rfl (fun _ _ hs => Y.pickT rfl rfl) hs rfl (by kernel_rfl) (by kernel_rfl) (by kernel_rfl) ?_
  refine HW.takeS (fuel := 0) 19 rfl (fun _ _ hs => Y.assign rfl) hs rfl (by kernel_rfl) (by kernel_rfl) (by kernel_rfl) ?_
  refine HW.done (by kernel_rfl) ?_
  refine calmQ_normal ?_
  refine Zerun ?_
  exact retQ_ret [_] h24 ⟨rfl, trivial⟩ hs.dropAll rfl
end Go.Proofs.Ythbfkhklihejiaa

/-
  Contracts of the law's own functions of layer 19: the example, where elements are in a list. No statement is proved here.
-/
namespace Go.Proofs.Ythbfkhklihejiaa
open Go Go.RowKit
set_option linter.unusedVariables false
set_option linter.unusedSimpArgs false
set_option maxHeartbeats 4000000
attribute [local irreducible] CW RW QW SW HW ConM retM heldQ calmQ elemP thenQ blockQ loopQ joinQ retQ Yields Con Sl zF magR unitF truncF fwF wholeF tidySpec elemQ rankF leastN tidyW
set_option maxHeartbeats 4000000
attribute [local irreducible] mixN wrN wr32 keyIt keyP

theorem numVec_shown (k : Nat) (N : List Nat) (ht : ∀ x ∈ N, tidyF x) (hm : N.length ≤ 1048576) : Shown k (⟨leastN N, N, [], []⟩ : VecD (AD k)) (N.map fun x => ⟨0, x, 0, []⟩) 0 := by
  have hb := leastN_bounds N
  have hc : (⟨leastN N, N, [], []⟩ : VecD (AD k)).cls = 0 := by unfold VecD.cls; dsimp only; rw [if_neg (by omega), if_neg (by omega)]
  refine ⟨hc, (by show leastN N ≠ 0; omega), ?_, ?_, (fun b hb => nomatch hb), ?_, ?_⟩
  · unfold VecD.least
    rw [if_pos ⟨hc, by dsimp only; omega⟩]
  · show N.length + 0 + 0 ≤ _; omega
  · exact itemsV_c0 (plain k) hc
  · intro x hx
    obtain ⟨n, hn, rfl⟩ := List.mem_map.1 hx
    exact ⟨ht n hn, fun b hb => by cases hb⟩
theorem ix3a {γ : Type} (a b : γ) : ixOf [a, b, a] a = 0 := ixOf_of (i := 0) (show 0 < 3 by omega) rfl (fun j hj => absurd hj (Nat.not_lt_zero _))
theorem ix3b {γ : Type} {a b : γ} (h : a ≠ b) : ixOf [a, b, a] b = 1 := ixOf_of (i := 1) (show 1 < 3 by omega) rfl (fun j hj => by
  have : j = 0 := by omega
  subst this; exact h)
theorem ix3c {γ : Type} {a b c : γ} (h : a ≠ c) (h2 : b ≠ c) : ixOf [a, b, a] c = 3 := ixOf_not (fun j hj => by
  have hj : j < 3 := hj
  rcases j with _ | _ | _ | j
  · exact h
  · exact h2
  · exact h
  · omega)
theorem firsts3 {γ : Type} {a b : γ} (d : γ) (h : a ≠ b) : placesN (firstB [a, b, a] d) 3 = [0, 1] := by
  have h0 : firstB [a, b, a] d 0 = true := decide_eq_true (ix3a a b)
  have h1 : firstB [a, b, a] d 1 = true := decide_eq_true (ix3b h)
  have h2 : firstB [a, b, a] d 2 = false := decide_eq_false (fun e => by have := (ix3a a b).symm.trans e; omega)
  rw [placesN_no h2, placesN_yes h1, placesN_yes h0, placesN_zero]
  rfl
def n5 : Nat := 4617315517961601024
def n6 : Nat := 4618441417868443648
def n7 : Nat := 4619567317775286272
def i5 {α : Type} : ItemD α := ⟨0, n5, 0, []⟩
def i6 {α : Type} : ItemD α := ⟨0, n6, 0, []⟩
def i7 {α : Type} : ItemD α := ⟨0, n7, 0, []⟩
theorem i56 {α : Type} : (i5 : ItemD α) ≠ i6 := fun e => absurd (congrArg ItemD.num e) (show ¬ n5 = n6 by decide)
theorem i57 {α : Type} : (i5 : ItemD α) ≠ i7 := fun e => absurd (congrArg ItemD.num e) (show ¬ n5 = n7 by decide)
theorem i67 {α : Type} : (i6 : ItemD α) ≠ i7 := fun e => absurd (congrArg ItemD.num e) (show ¬ n6 = n7 by decide)
theorem awake19_con (w : World) (h : GHeap) : Con Try.prog 75 [] w h (fun _ u => u = .bool true) := by
  have ht565 : ∀ u ∈ [n5, n6, n5], tidyF u := by
    intro u hu
    simp only [List.mem_cons, List.not_mem_nil, or_false] at hu
    rcases hu with rfl | rfl | rfl
    · exact tidy5
    · exact tidy6
    · exact tidy5
  have ht57 : ∀ u ∈ [n5, n7], tidyF u := by
    intro u hu
    simp only [List.mem_cons, List.not_mem_nil, or_false] at hu
    rcases hu with rfl | rfl
    · exact tidy5
    · exact tidy7
  have eT : ∀ l : List Nat, (∀ u ∈ l, tidyF u) → l.map tidyW = l := fun l hl => by
    conv => rhs; rw [← List.map_id l]
    apply List.map_congr_left
    intro u hu
    unfold tidyW
    rw [tidySpec_of _ (hl u hu)]
    rfl
  refine Con.of_body Try.func75 rfl Try.ntmps75 rfl rfl ?_
  intro hs
  refine Zrun ?_
  (refine RW.lit T hs (vs := [.float .f64 4617315517961601024, .float .f64 4618441417868443648, .float .f64 4617315517961601024]) rfl rfl rfl rfl (by simp [Value.cells]) rfl rfl rfl rfl rfl ?_; intro b1 w1 hs)
  obtain ⟨h1, hle1, hs, hS1⟩ := hs.freeze
  have hF1 : FAt h1 (.slice (some ⟨b1, 0, none⟩) 3 3) [n5, n6, n5] := RowAt.of_sl hS1
  (refine RW.call T hs rfl rfl rfl (sqNumbers_con (R := ArrAt 1) (ArrAt.mono 1) _ _ _ _ hF1 (fun u hu => (ht565 u hu).1) (by decide)) ?_; intro v h2 w2 hle2 hp2 hs)
  obtain ⟨cs2, ok, rfl, hok, hv2⟩ := hp2
  obtain rfl : ok = true := by rw [hok]; exact decide_eq_true (fun u hu => (ht565 u hu).2.1)
  rw [if_pos rfl, eT _ ht565] at hv2
  have hA := numVec_shown 1 [n5, n6, n5] ht565 (by decide)
  obtain ⟨va, hva⟩ : ∃ va : VecD (AD 1), (⟨leastN [n5, n6, n5], [n5, n6, n5], [], []⟩ : VecD (AD 1)) = va := ⟨_, rfl⟩
  have hla : va.len = 3 := by rw [← hva]; rfl
  have hba : ∀ x ∈ va.boxes, sml 1 x := hva ▸ hA.sm
  rw [hva] at hv2 hA
  have hv2' := hv2
  obtain ⟨wv, nv, sm, il, fl, ch, bx, ⟨rfl, hoc2⟩, _⟩ := hv2
  refine Zerun ?_
  (refine RW.allocN T hs rfl rfl rfl rfl ?_; intro b3 w3 hs)
  (refine RW.storeAll T hs 0 rfl rfl rfl rfl rfl rfl hoc2 rfl ?_; intro w4 hs)
  refine Zerun ?_
  (refine RW.lit T hs (vs := [.float .f64 4617315517961601024, .float .f64 4619567317775286272]) rfl rfl rfl rfl (by simp [Value.cells]) rfl rfl rfl rfl rfl ?_; intro b5 w5 hs)
  obtain ⟨h5, hle5, hs, hS5⟩ := hs.freeze
  have hF5 : FAt h5 (.slice (some ⟨b5, 0, none⟩) 2 2) [n5, n7] := RowAt.of_sl hS5
  (refine RW.call T hs rfl rfl rfl (sqNumbers_con (R := ArrAt 1) (ArrAt.mono 1) _ _ _ _ hF5 (fun u hu => (ht57 u hu).1) (by decide)) ?_; intro v h6 w6 hle6 hp6 hs)
  obtain ⟨cs6, ok6, rfl, hok6, hv6⟩ := hp6
  obtain rfl : ok6 = true := by rw [hok6]; exact decide_eq_true (fun u hu => (ht57 u hu).2.1)
  rw [if_pos rfl, eT _ ht57] at hv6
  have hB := numVec_shown 1 [n5, n7] ht57 (by decide)
  obtain ⟨vb, hvb⟩ : ∃ vb : VecD (AD 1), (⟨leastN [n5, n7], [n5, n7], [], []⟩ : VecD (AD 1)) = vb := ⟨_, rfl⟩
  have hlb : vb.len = 2 := by rw [← hvb]; rfl
  have hbb : ∀ x ∈ vb.boxes, sml 1 x := hvb ▸ hB.sm
  rw [hvb] at hv6 hB
  have hv2' := hv2'.mono (ArrAt.mono 1) (hle5.trans hle6)
  have hv6' := hv6
  obtain ⟨wv2, nv2, sm2, il2, fl2, ch2, bx2, ⟨rfl, hoc6⟩, _⟩ := hv6
  refine Zerun ?_
  (refine RW.allocN T hs rfl rfl rfl rfl ?_; intro b7 w7 hs)
  (refine RW.storeAll T hs 0 rfl rfl rfl rfl rfl rfl hoc6 rfl ?_; intro w8 hs)
  refine Zerun ?_
  (refine RW.call T hs rfl rfl rfl (hashFind_con 1 _ _ va vb _ _ hv2' hv6' hba hbb (by omega) (by omega)) ?_; intro v h9 w9 hle9 hp9 hs)
  have hv2' := hv2'.mono (ArrAt.mono 1) hle9
  have hF : (itemsV (plain 1) vb).map (fun x => ((ixOf (itemsV (plain 1) va) x : Nat) : Int)) = [0, 3] := by
    rw [hA.he, hB.he]
    show [((ixOf [i5, i6, i5] i5 : Nat) : Int), ((ixOf [i5, i6, i5] i7 : Nat) : Int)] = _
    rw [ix3a, ix3c i57 i67]
    rfl
  rw [hF] at hp9
  obtain ⟨ad9, cp9, rfl, hS9⟩ := id hp9
  refine Zerun ?_
  (refine RW.lit T hs (vs := [.int .i64 0, .int .i64 3]) rfl rfl rfl rfl (by simp [Value.cells]) rfl rfl rfl rfl rfl ?_; intro b10 w10 hs)
  obtain ⟨h10, hle10, hs, hS10⟩ := hs.freeze
  have hI10 : IntsAt h10 (.slice (some ⟨b10, 0, none⟩) 2 2) [0, 3] := IntsAt.of_sl hS10
  have hv2' := hv2'.mono (ArrAt.mono 1) hle10
  refine Zerun ?_
  (refine RW.call T hs rfl rfl rfl (ints_con _ _ _ _ _ _ (hp9.mono hle10) hI10 (by decide)) ?_; intro v h11 w11 hle11 hp11 hs)
  subst hp11
  rw [decide_eq_true rfl]
  have hv2' := hv2'.mono (ArrAt.mono 1) hle11
  refine Zerun ?_
  (refine RW.call T hs rfl rfl rfl (hashUnique_con 0 _ va _ _ hv2' hba (by omega) hA.k0) ?_; intro v h12 w12 hle12 hp12 hs)
  obtain ⟨cs12, rfl, hv12⟩ := hp12
  have hpl : placesN (firstB (itemsV (plain 1) va) noItem) va.len = [0, 1] := by
    rw [hA.he, hla]
    exact firsts3 noItem i56
  rw [hpl] at hv12
  have hU := hA.pick [0, 1] (by decide)
  have hUi : ([0, 1] : List Int).map (fun i => atD (([n5, n6, n5].map fun x => (⟨0, x, 0, []⟩ : ItemD (PD 1)))) i (blankI 0)) = [i5, i6] := rfl
  rw [hUi] at hU
  refine Zerun ?_
  refine RW.val (Y.build T rfl rfl rfl rfl rfl rfl rfl) rfl ?_
  refine Zerun ?_
  refine RW.val (Y.build T rfl rfl rfl rfl rfl rfl rfl) rfl ?_
  refine Zerun ?_
  (refine RW.lit T hs (vs := [.agg [.int .i64 0, .float .f64 4617315517961601024, .int .i32 0, .slice none 0 0].toArray, .agg [.int .i64 0, .float .f64 4618441417868443648, .int .i32 0, .slice none 0 0].toArray]) (cs := [.int .i64 0, .float .f64 4617315517961601024, .int .i32 0, .slice none 0 0] ++ [.int .i64 0, .float .f64 4618441417868443648, .int .i32 0, .slice none 0 0]) rfl rfl rfl rfl (by simp [Value.cells]) rfl rfl rfl rfl rfl ?_; intro b13 w13 hs)
  obtain ⟨h14, hle14, hs, hS14⟩ := hs.freeze
  have hr14 : RowsAt 4 (ItemAt (PlainAt 1) h14) h14 (.slice (some ⟨b13, 0, none⟩) 2 2) [i5, i6] := by
    refine ⟨_, _, _, rfl, hS14, ?_⟩
    refine ⟨rfl, ⟨_, rfl, RowsAt.nil _, by decide⟩, rfl, ⟨_, rfl, RowsAt.nil _, by decide⟩, rfl⟩
  refine Zerun ?_
  (refine RW.call T hs rfl rfl rfl (shows19_con 1 _ _ _ _ 0 _ _ (hv12.mono (ArrAt.mono 1) hle14) hr14 hU) ?_; intro v h15 w15 hle15 hp15 hs)
  subst hp15
  refine Zerun ?_
  exact retQ_ret [_] h15 ⟨rfl, trivial⟩ hs.dropAll rfl
theorem hashFindsLaw_con (k : Nat) (cp0 cq0 : List Value) (p q : PD (k + 2)) (w : World) (h : GHeap) (hp : PlainAt (k + 2) h cp0 p) (hq : PlainAt (k + 2) h cq0 q) : Con Try.prog 15 [.agg cp0.toArray, .agg cq0.toArray] w h (fun _ u => u = .bool true) := by
  have hp' := hp
  have hq' := hq
  have hp0 := hp
  have hq0 := hq
  obtain ⟨s, it, rfl, ⟨ad, cp, rfl, _⟩, ⟨ad2, cp2, xs, rfl, _, _⟩⟩ := hp
  obtain ⟨s2, it2, rfl, ⟨ad3, cp3, rfl, _⟩, ⟨ad4, cp4, xs4, rfl, _, _⟩⟩ := hq
  refine Con.of_body Try.func15 rfl Try.ntmps15 rfl rfl ?_
  intro hs
  refine Zrun ?_
  (refine RW.boxN hs rfl rfl ?_; intro b1 w1 hs)
  refine Zrun ?_
  (refine RW.boxN hs rfl rfl ?_; intro b2 w2 hs)
  refine Zerun ?_
  (refine RW.call T hs rfl rfl rfl (good19_con (k + 1) _ p _ _ hp') ?_; intro v h3 w3 hle3 hp3 hs)
  obtain ⟨b, rfl, hbp⟩ := hp3
  have hp' := PlainAt.mono (k + 2) _ _ _ _ hle3 hp'
  have hq' := PlainAt.mono (k + 2) _ _ _ _ hle3 hq'
  cases b with
  | false =>
    refine Zerun ?_
    (refine RW.call T hs rfl rfl rfl (awake19_con _ _) ?_; intro v h4 w4 hle4 hp4 hs)
    subst hp4
    refine Zerun ?_
    exact retQ_ret [_] h4 ⟨rfl, trivial⟩ hs.dropAll rfl
  | true =>
  obtain ⟨hcp, hilp⟩ := hbp rfl
  refine Zerun ?_
  (refine RW.call T hs rfl rfl rfl (good19_con (k + 1) _ q _ _ hq') ?_; intro v h4 w4 hle4 hp4 hs)
  obtain ⟨b, rfl, hbq⟩ := hp4
  have hp' := PlainAt.mono (k + 2) _ _ _ _ hle4 hp'
  have hq' := PlainAt.mono (k + 2) _ _ _ _ hle4 hq'
  cases b with
  | false =>
    refine Zerun ?_
    (refine RW.call T hs rfl rfl rfl (awake19_con _ _) ?_; intro v h5 w5 hle5 hp5 hs)
    subst hp5
    refine Zerun ?_
    exact retQ_ret [_] h5 ⟨rfl, trivial⟩ hs.dropAll rfl
  | true =>
  obtain ⟨hcq, hilq⟩ := hbq rfl
  have hshp := shown_of k p _ _ hp0 hcp
  have hshq := shown_of k q _ _ hq0 hcq
  have hlp2 : (PlainD.items (α := PD (k + 1)) (tidy (k + 2) p)).length ≤ 200 := by
    have e : (PlainD.items (α := PD (k + 1)) (tidy (k + 2) p)).length = (PlainD.items (α := PD (k + 1)) p).length := List.length_map ..
    omega
  have hlq2 : (PlainD.items (α := PD (k + 1)) (tidy (k + 2) q)).length ≤ 200 := by
    have e : (PlainD.items (α := PD (k + 1)) (tidy (k + 2) q)).length = (PlainD.items (α := PD (k + 1)) q).length := List.length_map ..
    omega
  obtain ⟨L, hLe⟩ : ∃ L, PlainD.items (α := PD (k + 1)) (tidy (k + 2) p) = L := ⟨_, rfl⟩
  obtain ⟨M, hMe⟩ : ∃ M, PlainD.items (α := PD (k + 1)) (tidy (k + 2) q) = M := ⟨_, rfl⟩
  rw [hLe] at hshp hlp2
  rw [hMe] at hshq hlq2
  obtain ⟨cpp, hcpe⟩ : ∃ c, ([.slice ad (PlainD.shape (α := PD (k + 1)) p).length cp, .slice ad2 (PlainD.items (α := PD (k + 1)) p).length cp2, .int .i64 (PlainD.fill (α := PD (k + 1)) p)] : List Value) = c := ⟨_, rfl⟩
  refine Zerun ?_
  refine CW.meet (fun r : Option Addr × Nat × Option Addr × Nat × GHeap => [(2, .pointer (some ⟨b1, 0, none⟩)), (3, .pointer (some ⟨b2, 0, none⟩)), (5, .slice r.1 (PlainD.items (α := PD (k + 1)) (tidy (k + 2) p)).length r.2.1), (6, .slice r.2.2.1 (PlainD.items (α := PD (k + 1)) (tidy (k + 2) q)).length r.2.2.2.1)]) (fun r w' => RowsAt 4 (ItemAt (PlainAt (k + 1)) r.2.2.2.2) r.2.2.2.2 (.slice r.1 (PlainD.items (α := PD (k + 1)) (tidy (k + 2) p)).length r.2.1) (PlainD.items (α := PD (k + 1)) (tidy (k + 2) p)) ∧ RowsAt 4 (ItemAt (PlainAt (k + 1)) r.2.2.2.2) r.2.2.2.2 (.slice r.2.2.1 (PlainD.items (α := PD (k + 1)) (tidy (k + 2) q)).length r.2.2.2.1) (PlainD.items (α := PD (k + 1)) (tidy (k + 2) q)) ∧ GLe h4 r.2.2.2.2 ∧ Sees w h r.2.2.2.2 [⟨some ⟨b2, 0, none⟩, 1, 1, 50, 3, [.slice ad3 (PlainD.shape (α := PD (k + 1)) q).length cp3, .slice ad4 (PlainD.items (α := PD (k + 1)) q).length cp4, .int .i64 (PlainD.fill (α := PD (k + 1)) q)]⟩, ⟨some ⟨b1, 0, none⟩, 1, 1, 50, 3, [.slice ad (PlainD.shape (α := PD (k + 1)) p).length cp, .slice ad2 (PlainD.items (α := PD (k + 1)) p).length cp2, .int .i64 (PlainD.fill (α := PD (k + 1)) p)]⟩] w') ?_ ?_
  · refine CW.regionO T hs ?_
    intro w5 hs
    refine HW.takeS (fuel := 7) 0 rfl (fun _ _ hs => Y.loadRowN T hs 1 rfl rfl rfl rfl rfl rfl rfl) hs rfl (by kernel_rfl) (by kernel_rfl) (by kernel_rfl) ?_
    refine HW.takeS (fuel := 6) 3 rfl (fun _ _ hs => Y.loadRowN T hs 0 rfl rfl rfl rfl rfl rfl rfl) hs rfl (by kernel_rfl) (by kernel_rfl) (by kernel_rfl) ?_
    refine HW.one (fuel := 5) 1 rfl (by kernel_rfl) ?_
    (refine RW.call T hs rfl rfl rfl (refTidyP_con (k + 2) 40 _ p _ _ hp' hcp) ?_; intro v h23 w23 hle23 hp23 hs)
    obtain ⟨cs23, rfl, s23, it23, rfl, ⟨ad23, cp23, rfl, _⟩, hit23⟩ := hp23
    obtain ⟨adI23, cpI23, xsI23, rfl, _, _⟩ := id hit23
    have hp' := PlainAt.mono (k + 2) _ _ _ _ hle23 hp'
    have hq' := PlainAt.mono (k + 2) _ _ _ _ hle23 hq'
    refine RW.nil ?_
    refine heldQ_normal ⟨_, hs⟩ ?_
    refine HW.takeS (fuel := 4) 2 rfl (fun _ _ hs => Y.field1 T rfl rfl rfl rfl rfl rfl) hs rfl (by kernel_rfl) (by kernel_rfl) (by kernel_rfl) ?_
    refine HW.one (fuel := 3) 4 rfl (by kernel_rfl) ?_
    (refine RW.call T hs rfl rfl rfl (refTidyP_con (k + 2) 40 _ q _ _ hq' hcq) ?_; intro v h26 w26 hle26 hp26 hs)
    obtain ⟨cs26, rfl, s26, it26, rfl, ⟨ad26, cp26, rfl, _⟩, hit26⟩ := hp26
    obtain ⟨adI26, cpI26, xsI26, rfl, _, _⟩ := id hit26
    have hp' := PlainAt.mono (k + 2) _ _ _ _ hle26 hp'
    have hq' := PlainAt.mono (k + 2) _ _ _ _ hle26 hq'
    have hit23 := hit23.mono hle26 (fun u a => ItemAt.mono (PlainAt.mono (k + 1)) _ _ u a hle26)
    refine RW.nil ?_
    refine heldQ_normal ⟨_, hs⟩ ?_
    refine HW.takeS (fuel := 2) 5 rfl (fun _ _ hs => Y.field1 T rfl rfl rfl rfl rfl rfl) hs rfl (by kernel_rfl) (by kernel_rfl) (by kernel_rfl) ?_
    refine HW.takeS (fuel := 1) 6 rfl (fun _ _ hs => Y.assign rfl) hs rfl (by kernel_rfl) (by kernel_rfl) (by kernel_rfl) ?_
    refine HW.takeS (fuel := 0) 7 rfl (fun _ _ hs => Y.assign rfl) hs rfl (by kernel_rfl) (by kernel_rfl) (by kernel_rfl) ?_
    refine HW.done (by kernel_rfl) ?_
    refine calmQ_normal ?_
    exact joinQ_meet (adI23, cpI23, adI26, cpI26, h26) ⟨rfl, rfl, rfl, rfl, trivial⟩ ⟨hit23, hit26, hle23.trans hle26, hs⟩
  rintro ⟨adL, cpL, adM, cpM, h5⟩ w5 ⟨hL, hM, hg5, hs⟩
  dsimp only at hL hM hg5 hs ⊢
  rw [hLe] at hL ⊢
  rw [hMe] at hM ⊢
  have hp' := PlainAt.mono (k + 2) _ _ _ _ hg5 hp'
  have hq' := PlainAt.mono (k + 2) _ _ _ _ hg5 hq'
  obtain ⟨adL', cpL', xL, e1, hSL, hAL⟩ := hL
  cases e1
  obtain ⟨adM', cpM', xM, e2, hSM, hAM⟩ := hM
  cases e2
  have hlm9 : M.length ≤ 9223372036854775807 := by omega
  have hs := (hs.nilRow 3 1).nilRow 4 1
  refine Zerun ?_
  refine CW.loop (fun r : Nat × (Option Addr × Nat) × (Option Addr × Nat) × GHeap => [(2, .pointer (some ⟨b1, 0, none⟩)), (3, .pointer (some ⟨b2, 0, none⟩)), (5, .slice adL L.length cpL), (6, .slice adM M.length cpM), (7, .slice r.2.1.1 r.1 r.2.1.2), (8, .slice r.2.2.1.1 r.1 r.2.2.1.2), (9, .int .i64 r.1)]) (fun r w' => r.1 ≤ M.length ∧ GLe h5 r.2.2.2 ∧ Sees w h r.2.2.2 [⟨r.2.2.1.1, r.1, r.2.2.1.2, 4, 1, ((M.take r.1).map fun x => decide (ixOf L x < L.length)).map Value.bool⟩, ⟨r.2.1.1, r.1, r.2.1.2, 3, 1, ((M.take r.1).map fun x => ((ixOf L x : Nat) : Int)).map (Value.int .i64)⟩, ⟨some ⟨b2, 0, none⟩, 1, 1, 50, 3, [.slice ad3 (PlainD.shape (α := PD (k + 1)) q).length cp3, .slice ad4 (PlainD.items (α := PD (k + 1)) q).length cp4, .int .i64 (PlainD.fill (α := PD (k + 1)) q)]⟩, ⟨some ⟨b1, 0, none⟩, 1, 1, 50, 3, [.slice ad (PlainD.shape (α := PD (k + 1)) p).length cp, .slice ad2 (PlainD.items (α := PD (k + 1)) p).length cp2, .int .i64 (PlainD.fill (α := PD (k + 1)) p)]⟩] w') (fun r => M.length - r.1) (0, (none, 0), (none, 0), h5) ⟨rfl, rfl, rfl, rfl, rfl, rfl, rfl, trivial⟩ ⟨by omega, GLe.refl _, hs⟩ ?_
  rintro ⟨i, ⟨aw, cw⟩, ⟨at_, ct⟩, hh⟩ w6 ⟨hi, hg, hs⟩
  dsimp only at hi hg hs ⊢
  have hSL := hSL.mono hg
  have hSM := hSM.mono hg
  have hAL' := hAL.mono (fun u a hv => ItemAt.mono (PlainAt.mono (k + 1)) _ _ u a hg hv)
  by_cases hlt : i < M.length
  · obtain ⟨y, hy, hyl, hRy⟩ := hAM.elem i hlt
    have hRy := ItemAt.mono (PlainAt.mono (k + 1)) _ _ _ _ hg hRy
    have htm := takeMap (fun x => ((ixOf L x : Nat) : Int)) M hlt noItem
    have htb := takeMap (fun x => decide (ixOf L x < L.length)) M hlt noItem
    rw [getD_elem hlt] at htm htb
    refine Zerun ?_
    (refine RW.call T hs rfl rfl rfl (ref19Find_con (k + 1) _ L _ _ _ _ ⟨_, _, _, rfl, hSL, hAL'⟩ hRy (fun z hz => hshp.td z hz) (hshq.td _ (List.getElem_mem hlt))) ?_; intro v h8 w8 hle8 hp8 hs)
    subst hp8
    have hdec : decide (((ixOf L M[i] : Nat) : Int) < (L.length : Int)) = decide (ixOf L M[i] < L.length) := by
      by_cases c : ixOf L M[i] < L.length
      · rw [decide_eq_true c, decide_eq_true (by omega)]
      · rw [decide_eq_false c, decide_eq_false (by omega)]
    refine Zerun ?_
    (refine RW.lit T hs (vs := [.int .i64 ((ixOf L M[i] : Nat) : Int)]) (cs := [.int .i64 ((ixOf L M[i] : Nat) : Int)]) rfl rfl rfl rfl (by simp [Value.cells]) rfl rfl rfl rfl rfl ?_; intro b9 w9 hs)
    (refine RW.append T hs 2 rfl rfl (m := 1) (news := [.int .i64 ((ixOf L M[i] : Nat) : Int)]) rfl rfl rfl rfl rfl rfl (hs.src0 rfl (by simp [Value.oneCell'])) (by simp) (by dsimp only; omega) (by omega) ?_; intro ad10 cp10 w10 hs; replace hs := hs.drop)
    refine Zerun ?_
    rw [hdec]
    (refine RW.lit T hs (vs := [.bool (decide (ixOf L M[i] < L.length))]) (cs := [.bool (decide (ixOf L M[i] < L.length))]) rfl rfl rfl rfl (by simp [Value.cells]) rfl rfl rfl rfl rfl ?_; intro b11 w11 hs)
    (refine RW.append T hs 1 rfl rfl (m := 1) (news := [.bool (decide (ixOf L M[i] < L.length))]) rfl rfl rfl rfl rfl rfl (hs.src0 rfl (by simp [Value.oneCell'])) (by simp) (by dsimp only; omega) (by omega) ?_; intro ad12 cp12 w12 hs; replace hs := hs.drop)
    refine Zerun ?_
    refine loopQ_round (i + 1, (ad10, cp10), (ad12, cp12), h8) ⟨rfl, rfl, rfl, rfl, rfl, rfl, rfl, trivial⟩ ⟨by dsimp only; omega, hg.trans hle8, ?_⟩ (by dsimp only; omega)
    dsimp only
    rw [htm, htb, List.map_append, List.map_append]
    exact hs
  obtain rfl : i = M.length := by omega
  rw [List.take_length] at hs
  obtain ⟨h7, hle7, hs, hSt⟩ := hs.freeze
  obtain ⟨h8, hle8, hs, hSw⟩ := hs.freeze
  have hTt : TAt h8 (.slice at_ M.length ct) (M.map fun x => decide (ixOf L x < L.length)) := by
    have := RowAt.of_sl hSt
    exact RowAt.mono hle8 this
  have hIw : IntsAt h8 (.slice aw M.length cw) (M.map fun x => ((ixOf L x : Nat) : Int)) := IntsAt.of_sl hSw
  have hp' := PlainAt.mono (k + 2) _ _ _ _ ((hg.trans hle7).trans hle8) hp'
  have hq' := PlainAt.mono (k + 2) _ _ _ _ ((hg.trans hle7).trans hle8) hq'
  refine Zerun ?_
  refine CW.meet (fun r : Nat × Nat × List Value × List Value × GHeap => [(7, .slice aw M.length cw), (8, .slice at_ M.length ct), (11, .pointer (some ⟨r.1, 0, none⟩)), (12, .pointer (some ⟨r.2.1, 0, none⟩))]) (fun r w' => VecAt (ArrAt (k + 1)) r.2.2.2.2 r.2.2.1 (ArrD.vec (α := AD (k + 1)) (arr (k + 2) p)) ∧ VecAt (ArrAt (k + 1)) r.2.2.2.2 r.2.2.2.1 (ArrD.vec (α := AD (k + 1)) (arr (k + 2) q)) ∧ GLe h8 r.2.2.2.2 ∧ Sees w h r.2.2.2.2 [⟨some ⟨r.2.1, 0, none⟩, 1, 1, 61, 8, r.2.2.2.1⟩, ⟨some ⟨r.1, 0, none⟩, 1, 1, 61, 8, r.2.2.1⟩, ⟨some ⟨b2, 0, none⟩, 1, 1, 50, 3, [.slice ad3 (PlainD.shape (α := PD (k + 1)) q).length cp3, .slice ad4 (PlainD.items (α := PD (k + 1)) q).length cp4, .int .i64 (PlainD.fill (α := PD (k + 1)) q)]⟩, ⟨some ⟨b1, 0, none⟩, 1, 1, 50, 3, [.slice ad (PlainD.shape (α := PD (k + 1)) p).length cp, .slice ad2 (PlainD.items (α := PD (k + 1)) p).length cp2, .int .i64 (PlainD.fill (α := PD (k + 1)) p)]⟩] w') ?_ ?_
  · refine CW.regionR T 1 0 hs rfl rfl ?_
    intro w9 hs
    refine HW.takeR (fuel := 9) 0 rfl (fun _ _ ka kb _ hs hka hkb => Y.loadRowN T hs ka hka rfl rfl rfl rfl rfl rfl) ⟨_, _, 1, 0, hs, rfl, rfl⟩ rfl (by kernel_rfl) (by kernel_rfl) (by kernel_rfl) ?_
    refine HW.takeR (fuel := 8) 3 rfl (fun _ _ ka kb _ hs hka hkb => Y.loadRowN T hs kb hkb rfl rfl rfl rfl rfl rfl) ⟨_, _, 1, 0, hs, rfl, rfl⟩ rfl (by kernel_rfl) (by kernel_rfl) (by kernel_rfl) ?_
    refine HW.three (fuel := 7) 1 6 7 rfl rfl rfl (by kernel_rfl) ?_ ?_ ?_
    · (refine RW.call T hs rfl rfl rfl (of07_con (k + 2) _ p _ _ hp' hcp) ?_; intro v h52 w52 hle52 hp52 hs)
      obtain ⟨cs52, rfl, _, _, s52, vc52, rfl, _, hv52⟩ := hp52
      have hvs52 := hv52.size
      obtain ⟨wv52, nv52, sm52, il52, fl52, ch52, bx52, ⟨rfl, hoc52⟩, _⟩ := id hv52
      have hp' := PlainAt.mono (k + 2) _ _ _ _ hle52 hp'
      have hq' := PlainAt.mono (k + 2) _ _ _ _ hle52 hq'
      refine RW.nil ?_
      refine heldQ_normal ⟨_, _, 1, 0, hs, rfl, rfl⟩ ?_
      refine HW.takeR (fuel := 6) 2 rfl (fun _ _ ka kb _ hs hka hkb => Y.fieldVec T rfl rfl rfl rfl rfl rfl hvs52) ⟨_, _, 1, 0, hs, rfl, rfl⟩ rfl (by kernel_rfl) (by kernel_rfl) (by kernel_rfl) ?_
      refine HW.three (fuel := 5) 4 6 7 rfl rfl rfl (by kernel_rfl) ?_ ?_ ?_
      · (refine RW.call T hs rfl rfl rfl (of07_con (k + 2) _ q _ _ hq' hcq) ?_; intro v h55 w55 hle55 hp55 hs)
        obtain ⟨cs55, rfl, _, _, s55, vc55, rfl, _, hv55⟩ := hp55
        have hvs55 := hv55.size
        obtain ⟨wv55, nv55, sm55, il55, fl55, ch55, bx55, ⟨rfl, hoc55⟩, _⟩ := id hv55
        have hp' := PlainAt.mono (k + 2) _ _ _ _ hle55 hp'
        have hq' := PlainAt.mono (k + 2) _ _ _ _ hle55 hq'
        have hv52 := hv52.mono (ArrAt.mono (k + 1)) hle55
        refine RW.nil ?_
        refine heldQ_normal ⟨_, _, 1, 0, hs, rfl, rfl⟩ ?_
        refine HW.takeR (fuel := 4) 5 rfl (fun _ _ ka kb _ hs hka hkb => Y.fieldVec T rfl rfl rfl rfl rfl rfl hvs55) ⟨_, _, 1, 0, hs, rfl, rfl⟩ rfl (by kernel_rfl) (by kernel_rfl) (by kernel_rfl) ?_
        refine HW.two (fuel := 3) 6 7 rfl rfl (by kernel_rfl) ?_ ?_
        · (refine RW.allocN T hs rfl rfl rfl rfl ?_; intro b11 w11 hs)
          refine RW.nil ?_
          refine heldQ_normal ⟨_, _, 2, 1, hs, rfl, rfl⟩ ?_
          refine HW.one (fuel := 2) 7 rfl (by kernel_rfl) ?_
          (refine RW.allocN T hs rfl rfl rfl rfl ?_; intro b12 w12 hs)
          refine RW.nil ?_
          refine heldQ_normal ⟨_, _, 3, 2, hs, rfl, rfl⟩ ?_
          refine HW.one (fuel := 1) 8 rfl (by kernel_rfl) ?_
          refine RW.storeAll T hs 1 rfl rfl rfl rfl rfl rfl hoc52 rfl ?_
          intro w908 hs
          refine RW.nil ?_
          refine heldQ_normal ⟨_, _, 3, 2, hs, rfl, rfl⟩ ?_
          refine HW.one (fuel := 0) 9 rfl (by kernel_rfl) ?_
          refine RW.storeAll T hs 0 rfl rfl rfl rfl rfl rfl hoc55 rfl ?_
          intro w909 hs
          refine RW.nil ?_
          refine heldQ_normal ⟨_, _, 3, 2, hs, rfl, rfl⟩ ?_
          refine HW.done (by kernel_rfl) ?_
          refine calmQ_normal ?_
          exact joinQ_meet (b11, b12, _, _, h55) ⟨rfl, rfl, rfl, rfl, trivial⟩ ⟨hv52, hv55, hle52.trans hle55, hs⟩
        · (refine RW.allocN T hs rfl rfl rfl rfl ?_; intro b12 w12 hs)
          refine RW.nil ?_
          refine heldQ_normal ⟨_, _, 2, 1, hs, rfl, rfl⟩ ?_
          refine HW.one (fuel := 2) 6 rfl (by kernel_rfl) ?_
          (refine RW.allocN T hs rfl rfl rfl rfl ?_; intro b11 w11 hs)
          refine RW.nil ?_
          refine heldQ_normal ⟨_, _, 3, 2, hs, rfl, rfl⟩ ?_
          refine HW.one (fuel := 1) 8 rfl (by kernel_rfl) ?_
          refine RW.storeAll T hs 0 rfl rfl rfl rfl rfl rfl hoc52 rfl ?_
          intro w908 hs
          refine RW.nil ?_
          refine heldQ_normal ⟨_, _, 3, 2, hs, rfl, rfl⟩ ?_
          refine HW.one (fuel := 0) 9 rfl (by kernel_rfl) ?_
          refine RW.storeAll T hs 1 rfl rfl rfl rfl rfl rfl hoc55 rfl ?_
          intro w909 hs
          refine RW.nil ?_
          refine heldQ_normal ⟨_, _, 3, 2, hs, rfl, rfl⟩ ?_
          refine HW.done (by kernel_rfl) ?_
          refine calmQ_normal ?_
          exact joinQ_meet (b11, b12, _, _, h55) ⟨rfl, rfl, rfl, rfl, trivial⟩ ⟨hv52, hv55, hle52.trans hle55, hs.swap⟩
      · (refine RW.allocN T hs rfl rfl rfl rfl ?_; intro b11 w11 hs)
        refine RW.nil ?_
        refine heldQ_normal ⟨_, _, 2, 1, hs, rfl, rfl⟩ ?_
        refine HW.two (fuel := 4) 4 7 rfl rfl (by kernel_rfl) ?_ ?_
        · (refine RW.call T hs rfl rfl rfl (of07_con (k + 2) _ q _ _ hq' hcq) ?_; intro v h55 w55 hle55 hp55 hs)
          obtain ⟨cs55, rfl, _, _, s55, vc55, rfl, _, hv55⟩ := hp55
          have hvs55 := hv55.size
          obtain ⟨wv55, nv55, sm55, il55, fl55, ch55, bx55, ⟨rfl, hoc55⟩, _⟩ := id hv55
          have hp' := PlainAt.mono (k + 2) _ _ _ _ hle55 hp'
          have hq' := PlainAt.mono (k + 2) _ _ _ _ hle55 hq'
          have hv52 := hv52.mono (ArrAt.mono (k + 1)) hle55
          refine RW.nil ?_
          refine heldQ_normal ⟨_, _, 2, 1, hs, rfl, rfl⟩ ?_
          refine HW.takeR (fuel := 3) 5 rfl (fun _ _ ka kb _ hs hka hkb => Y.fieldVec T rfl rfl rfl rfl rfl rfl hvs55) ⟨_, _, 2, 1, hs, rfl, rfl⟩ rfl (by kernel_rfl) (by kernel_rfl) (by kernel_rfl) ?_
          refine HW.one (fuel := 2) 7 rfl (by kernel_rfl) ?_
          (refine RW.allocN T hs rfl rfl rfl rfl ?_; intro b12 w12 hs)
          refine RW.nil ?_
          refine heldQ_normal ⟨_, _, 3, 2, hs, rfl, rfl⟩ ?_
          refine HW.one (fuel := 1) 8 rfl (by kernel_rfl) ?_
          refine RW.storeAll T hs 1 rfl rfl rfl rfl rfl rfl hoc52 rfl ?_
          intro w908 hs
          refine RW.nil ?_
          refine heldQ_normal ⟨_, _, 3, 2, hs, rfl, rfl⟩ ?_
          refine HW.one (fuel := 0) 9 rfl (by kernel_rfl) ?_
          refine RW.storeAll T hs 0 rfl rfl rfl rfl rfl rfl hoc55 rfl ?_
          intro w909 hs
          refine RW.nil ?_
          refine heldQ_normal ⟨_, _, 3, 2, hs, rfl, rfl⟩ ?_
          refine HW.done (by kernel_rfl) ?_
          refine calmQ_normal ?_
          exact joinQ_meet (b11, b12, _, _, h55) ⟨rfl, rfl, rfl, rfl, trivial⟩ ⟨hv52, hv55, hle52.trans hle55, hs⟩
        · (refine RW.allocN T hs rfl rfl rfl rfl ?_; intro b12 w12 hs)
          refine RW.nil ?_
          refine heldQ_normal ⟨_, _, 3, 2, hs, rfl, rfl⟩ ?_
          refine HW.one (fuel := 3) 4 rfl (by kernel_rfl) ?_
          (refine RW.call T hs rfl rfl rfl (of07_con (k + 2) _ q _ _ hq' hcq) ?_; intro v h55 w55 hle55 hp55 hs)
          obtain ⟨cs55, rfl, _, _, s55, vc55, rfl, _, hv55⟩ := hp55
          have hvs55 := hv55.size
          obtain ⟨wv55, nv55, sm55, il55, fl55, ch55, bx55, ⟨rfl, hoc55⟩, _⟩ := id hv55
          have hp' := PlainAt.mono (k + 2) _ _ _ _ hle55 hp'
          have hq' := PlainAt.mono (k + 2) _ _ _ _ hle55 hq'
          have hv52 := hv52.mono (ArrAt.mono (k + 1)) hle55
          refine RW.nil ?_
          refine heldQ_normal ⟨_, _, 3, 2, hs, rfl, rfl⟩ ?_
          refine HW.takeR (fuel := 2) 5 rfl (fun _ _ ka kb _ hs hka hkb => Y.fieldVec T rfl rfl rfl rfl rfl rfl hvs55) ⟨_, _, 3, 2, hs, rfl, rfl⟩ rfl (by kernel_rfl) (by kernel_rfl) (by kernel_rfl) ?_
          refine HW.one (fuel := 1) 8 rfl (by kernel_rfl) ?_
          refine RW.storeAll T hs 1 rfl rfl rfl rfl rfl rfl hoc52 rfl ?_
          intro w908 hs
          refine RW.nil ?_
          refine heldQ_normal ⟨_, _, 3, 2, hs, rfl, rfl⟩ ?_
          refine HW.one (fuel := 0) 9 rfl (by kernel_rfl) ?_
          refine RW.storeAll T hs 0 rfl rfl rfl rfl rfl rfl hoc55 rfl ?_
          intro w909 hs
          refine RW.nil ?_
          refine heldQ_normal ⟨_, _, 3, 2, hs, rfl, rfl⟩ ?_
          refine HW.done (by kernel_rfl) ?_
          refine calmQ_normal ?_
          exact joinQ_meet (b11, b12, _, _, h55) ⟨rfl, rfl, rfl, rfl, trivial⟩ ⟨hv52, hv55, hle52.trans hle55, hs⟩
      · (refine RW.allocN T hs rfl rfl rfl rfl ?_; intro b12 w12 hs)
        refine RW.nil ?_
        refine heldQ_normal ⟨_, _, 2, 1, hs, rfl, rfl⟩ ?_
        refine HW.two (fuel := 4) 4 6 rfl rfl (by kernel_rfl) ?_ ?_
        · (refine RW.call T hs rfl rfl rfl (of07_con (k + 2) _ q _ _ hq' hcq) ?_; intro v h55 w55 hle55 hp55 hs)
          obtain ⟨cs55, rfl, _, _, s55, vc55, rfl, _, hv55⟩ := hp55
          have hvs55 := hv55.size
          obtain ⟨wv55, nv55, sm55, il55, fl55, ch55, bx55, ⟨rfl, hoc55⟩, _⟩ := id hv55
          have hp' := PlainAt.mono (k + 2) _ _ _ _ hle55 hp'
          have hq' := PlainAt.mono (k + 2) _ _ _ _ hle55 hq'
          have hv52 := hv52.mono (ArrAt.mono (k + 1)) hle55
          refine RW.nil ?_
          refine heldQ_normal ⟨_, _, 2, 1, hs, rfl, rfl⟩ ?_
          refine HW.takeR (fuel := 3) 5 rfl (fun _ _ ka kb _ hs hka hkb => Y.fieldVec T rfl rfl rfl rfl rfl rfl hvs55) ⟨_, _, 2, 1, hs, rfl, rfl⟩ rfl (by kernel_rfl) (by kernel_rfl) (by kernel_rfl) ?_
          refine HW.one (fuel := 2) 6 rfl (by kernel_rfl) ?_
          (refine RW.allocN T hs rfl rfl rfl rfl ?_; intro b11 w11 hs)
          refine RW.nil ?_
          refine heldQ_normal ⟨_, _, 3, 2, hs, rfl, rfl⟩ ?_
          refine HW.one (fuel := 1) 8 rfl (by kernel_rfl) ?_
          refine RW.storeAll T hs 0 rfl rfl rfl rfl rfl rfl hoc52 rfl ?_
          intro w908 hs
          refine RW.nil ?_
          refine heldQ_normal ⟨_, _, 3, 2, hs, rfl, rfl⟩ ?_
          refine HW.one (fuel := 0) 9 rfl (by kernel_rfl) ?_
          refine RW.storeAll T hs 1 rfl rfl rfl rfl rfl rfl hoc55 rfl ?_
          intro w909 hs
          refine RW.nil ?_
          refine heldQ_normal ⟨_, _, 3, 2, hs, rfl, rfl⟩ ?_
          refine HW.done (by kernel_rfl) ?_
          refine calmQ_normal ?_
          exact joinQ_meet (b11, b12, _, _, h55) ⟨rfl, rfl, rfl, rfl, trivial⟩ ⟨hv52, hv55, hle52.trans hle55, hs.swap⟩
        · (refine RW.allocN T hs rfl rfl rfl rfl ?_; intro b11 w11 hs)
          refine RW.nil ?_
          refine heldQ_normal ⟨_, _, 3, 2, hs, rfl, rfl⟩ ?_
          refine HW.one (fuel := 3) 4 rfl (by kernel_rfl) ?_
          (refine RW.call T hs rfl rfl rfl (of07_con (k + 2) _ q _ _ hq' hcq) ?_; intro v h55 w55 hle55 hp55 hs)
          obtain ⟨cs55, rfl, _, _, s55, vc55, rfl, _, hv55⟩ := hp55
          have hvs55 := hv55.size
          obtain ⟨wv55, nv55, sm55, il55, fl55, ch55, bx55, ⟨rfl, hoc55⟩, _⟩ := id hv55
          have hp' := PlainAt.mono (k + 2) _ _ _ _ hle55 hp'
          have hq' := PlainAt.mono (k + 2) _ _ _ _ hle55 hq'
          have hv52 := hv52.mono (ArrAt.mono (k + 1)) hle55
          refine RW.nil ?_
          refine heldQ_normal ⟨_, _, 3, 2, hs, rfl, rfl⟩ ?_
          refine HW.takeR (fuel := 2) 5 rfl (fun _ _ ka kb _ hs hka hkb => Y.fieldVec T rfl rfl rfl rfl rfl rfl hvs55) ⟨_, _, 3, 2, hs, rfl, rfl⟩ rfl (by kernel_rfl) (by kernel_rfl) (by kernel_rfl) ?_
          refine HW.one (fuel := 1) 8 rfl (by kernel_rfl) ?_
          refine RW.storeAll T hs 0 rfl rfl rfl rfl rfl rfl hoc52 rfl ?_
          intro w908 hs
          refine RW.nil ?_
          refine heldQ_normal ⟨_, _, 3, 2, hs, rfl, rfl⟩ ?_
          refine HW.one (fuel := 0) 9 rfl (by kernel_rfl) ?_
          refine RW.storeAll T hs 1 rfl rfl rfl rfl rfl rfl hoc55 rfl ?_
          intro w909 hs
          refine RW.nil ?_
          refine heldQ_normal ⟨_, _, 3, 2, hs, rfl, rfl⟩ ?_
          refine HW.done (by kernel_rfl) ?_
          refine calmQ_normal ?_
          exact joinQ_meet (b11, b12, _, _, h55) ⟨rfl, rfl, rfl, rfl, trivial⟩ ⟨hv52, hv55, hle52.trans hle55, hs.swap⟩
    · (refine RW.allocN T hs rfl rfl rfl rfl ?_; intro b11 w11 hs)
      refine RW.nil ?_
      refine heldQ_normal ⟨_, _, 2, 1, hs, rfl, rfl⟩ ?_
      refine HW.two (fuel := 6) 1 7 rfl rfl (by kernel_rfl) ?_ ?_
      · (refine RW.call T hs rfl rfl rfl (of07_con (k + 2) _ p _ _ hp' hcp) ?_; intro v h52 w52 hle52 hp52 hs)
        obtain ⟨cs52, rfl, _, _, s52, vc52, rfl, _, hv52⟩ := hp52
        have hvs52 := hv52.size
        obtain ⟨wv52, nv52, sm52, il52, fl52, ch52, bx52, ⟨rfl, hoc52⟩, _⟩ := id hv52
        have hp' := PlainAt.mono (k + 2) _ _ _ _ hle52 hp'
        have hq' := PlainAt.mono (k + 2) _ _ _ _ hle52 hq'
        refine RW.nil ?_
        refine heldQ_normal ⟨_, _, 2, 1, hs, rfl, rfl⟩ ?_
        refine HW.takeR (fuel := 5) 2 rfl (fun _ _ ka kb _ hs hka hkb => Y.fieldVec T rfl rfl rfl rfl rfl rfl hvs52) ⟨_, _, 2, 1, hs, rfl, rfl⟩ rfl (by kernel_rfl) (by kernel_rfl) (by kernel_rfl) ?_
        refine HW.two (fuel := 4) 4 7 rfl rfl (by kernel_rfl) ?_ ?_
        · (refine RW.call T hs rfl rfl rfl (of07_con (k + 2) _ q _ _ hq' hcq) ?_; intro v h55 w55 hle55 hp55 hs)
          obtain ⟨cs55, rfl, _, _, s55, vc55, rfl, _, hv55⟩ := hp55
          have hvs55 := hv55.size
          obtain ⟨wv55, nv55, sm55, il55, fl55, ch55, bx55, ⟨rfl, hoc55⟩, _⟩ := id hv55
          have hp' := PlainAt.mono (k + 2) _ _ _ _ hle55 hp'
          have hq' := PlainAt.mono (k + 2) _ _ _ _ hle55 hq'
          have hv52 := hv52.mono (ArrAt.mono (k + 1)) hle55
          refine RW.nil ?_
          refine heldQ_normal ⟨_, _, 2, 1, hs, rfl, rfl⟩ ?_
          refine HW.takeR (fuel := 3) 5 rfl (fun _ _ ka kb _ hs hka hkb => Y.fieldVec T rfl rfl rfl rfl rfl rfl hvs55) ⟨_, _, 2, 1, hs, rfl, rfl⟩ rfl (by kernel_rfl) (by kernel_rfl) (by kernel_rfl) ?_
          refine HW.one (fuel := 2) 7 rfl (by kernel_rfl) ?_
          (refine RW.allocN T hs rfl rfl rfl rfl ?_; intro b12 w12 hs)
          refine RW.nil ?_
          refine heldQ_normal ⟨_, _, 3, 2, hs, rfl, rfl⟩ ?_
          refine HW.one (fuel := 1) 8 rfl (by kernel_rfl) ?_
          refine RW.storeAll T hs 1 rfl rfl rfl rfl rfl rfl hoc52 rfl ?_
          intro w908 hs
          refine RW.nil ?_
          refine heldQ_normal ⟨_, _, 3, 2, hs, rfl, rfl⟩ ?_
          refine HW.one (fuel := 0) 9 rfl (by kernel_rfl) ?_
          refine RW.storeAll T hs 0 rfl rfl rfl rfl rfl rfl hoc55 rfl ?_
          intro w909 hs
          refine RW.nil ?_
          refine heldQ_normal ⟨_, _, 3, 2, hs, rfl, rfl⟩ ?_
          refine HW.done (by kernel_rfl) ?_
          refine calmQ_normal ?_
          exact joinQ_meet (b11, b12, _, _, h55) ⟨rfl, rfl, rfl, rfl, trivial⟩ ⟨hv52, hv55, hle52.trans hle55, hs⟩
        · (refine RW.allocN T hs rfl rfl rfl rfl ?_; intro b12 w12 hs)
          refine RW.nil ?_
          refine heldQ_normal ⟨_, _, 3, 2, hs, rfl, rfl⟩ ?_
          refine HW.one (fuel := 3) 4 rfl (by kernel_rfl) ?_
          (refine RW.call T hs rfl rfl rfl (of07_con (k + 2) _ q _ _ hq' hcq) ?_; intro v h55 w55 hle55 hp55 hs)
          obtain ⟨cs55, rfl, _, _, s55, vc55, rfl, _, hv55⟩ := hp55
          have hvs55 := hv55.size
          obtain ⟨wv55, nv55, sm55, il55, fl55, ch55, bx55, ⟨rfl, hoc55⟩, _⟩ := id hv55
          have hp' := PlainAt.mono (k + 2) _ _ _ _ hle55 hp'
          have hq' := PlainAt.mono (k + 2) _ _ _ _ hle55 hq'
          have hv52 := hv52.mono (ArrAt.mono (k + 1)) hle55
          refine RW.nil ?_
          refine heldQ_normal ⟨_, _, 3, 2, hs, rfl, rfl⟩ ?_
          refine HW.takeR (fuel := 2) 5 rfl (fun _ _ ka kb _ hs hka hkb => Y.fieldVec T rfl rfl rfl rfl rfl rfl hvs55) ⟨_, _, 3, 2, hs, rfl, rfl⟩ rfl (by kernel_rfl) (by kernel_rfl) (by kernel_rfl) ?_
          refine HW.one (fuel := 1) 8 rfl (by kernel_rfl) ?_
          refine RW.storeAll T hs 1 rfl rfl rfl rfl rfl rfl hoc52 rfl ?_
          intro w908 hs
          refine RW.nil ?_
          refine heldQ_normal ⟨_, _, 3, 2, hs, rfl, rfl⟩ ?_
          refine HW.one (fuel := 0) 9 rfl (by kernel_rfl) ?_
          refine RW.storeAll T hs 0 rfl rfl rfl rfl rfl rfl hoc55 rfl ?_
          intro w909 hs
          refine RW.nil ?_
          refine heldQ_normal ⟨_, _, 3, 2, hs, rfl, rfl⟩ ?_
          refine HW.done (by kernel_rfl) ?_
          refine calmQ_normal ?_
          exact joinQ_meet (b11, b12, _, _, h55) ⟨rfl, rfl, rfl, rfl, trivial⟩ ⟨hv52, hv55, hle52.trans hle55, hs⟩
      · (refine RW.allocN T hs rfl rfl rfl rfl ?_; intro b12 w12 hs)
        refine RW.nil ?_
        refine heldQ_normal ⟨_, _, 3, 2, hs, rfl, rfl⟩ ?_
        refine HW.one (fuel := 5) 1 rfl (by kernel_rfl) ?_
        (refine RW.call T hs rfl rfl rfl (of07_con (k + 2) _ p _ _ hp' hcp) ?_; intro v h52 w52 hle52 hp52 hs)
        obtain ⟨cs52, rfl, _, _, s52, vc52, rfl, _, hv52⟩ := hp52
        have hvs52 := hv52.size
        obtain ⟨wv52, nv52, sm52, il52, fl52, ch52, bx52, ⟨rfl, hoc52⟩, _⟩ := id hv52
        have hp' := PlainAt.mono (k + 2) _ _ _ _ hle52 hp'
        have hq' := PlainAt.mono (k + 2) _ _ _ _ hle52 hq'
        refine RW.nil ?_
        refine heldQ_normal ⟨_, _, 3, 2, hs, rfl, rfl⟩ ?_
        refine HW.takeR (fuel := 4) 2 rfl (fun _ _ ka kb _ hs hka hkb => Y.fieldVec T rfl rfl rfl rfl rfl rfl hvs52) ⟨_, _, 3, 2, hs, rfl, rfl⟩ rfl (by kernel_rfl) (by kernel_rfl) (by kernel_rfl) ?_
        refine HW.one (fuel := 3) 4 rfl (by kernel_rfl) ?_
        (refine RW.call T hs rfl rfl rfl (of07_con (k + 2) _ q _ _ hq' hcq) ?_; intro v h55 w55 hle55 hp55 hs)
        obtain ⟨cs55, rfl, _, _, s55, vc55, rfl, _, hv55⟩ := hp55
        have hvs55 := hv55.size
        obtain ⟨wv55, nv55, sm55, il55, fl55, ch55, bx55, ⟨rfl, hoc55⟩, _⟩ := id hv55
        have hp' := PlainAt.mono (k + 2) _ _ _ _ hle55 hp'
        have hq' := PlainAt.mono (k + 2) _ _ _ _ hle55 hq'
        have hv52 := hv52.mono (ArrAt.mono (k + 1)) hle55
        refine RW.nil ?_
        refine heldQ_normal ⟨_, _, 3, 2, hs, rfl, rfl⟩ ?_
        refine HW.takeR (fuel := 2) 5 rfl (fun _ _ ka kb _ hs hka hkb => Y.fieldVec T rfl rfl rfl rfl rfl rfl hvs55) ⟨_, _, 3, 2, hs, rfl, rfl⟩ rfl (by kernel_rfl) (by kernel_rfl) (by kernel_rfl) ?_
        refine HW.one (fuel := 1) 8 rfl (by kernel_rfl) ?_
        refine RW.storeAll T hs 1 rfl rfl rfl rfl rfl rfl hoc52 rfl ?_
        intro w908 hs
        refine RW.nil ?_
        refine heldQ_normal ⟨_, _, 3, 2, hs, rfl, rfl⟩ ?_
        refine HW.one (fuel := 0) 9 rfl (by kernel_rfl) ?_
        refine RW.storeAll T hs 0 rfl rfl rfl rfl rfl rfl hoc55 rfl ?_
        intro w909 hs
        refine RW.nil ?_
        refine heldQ_normal ⟨_, _, 3, 2, hs, rfl, rfl⟩ ?_
        refine HW.done (by kernel_rfl) ?_
        refine calmQ_normal ?_
        exact joinQ_meet (b11, b12, _, _, h55) ⟨rfl, rfl, rfl, rfl, trivial⟩ ⟨hv52, hv55, hle52.trans hle55, hs⟩
    · (refine RW.allocN T hs rfl rfl rfl rfl ?_; intro b12 w12 hs)
      refine RW.nil ?_
      refine heldQ_normal ⟨_, _, 2, 1, hs, rfl, rfl⟩ ?_
      refine HW.two (fuel := 6) 1 6 rfl rfl (by kernel_rfl) ?_ ?_
      · (refine RW.call T hs rfl rfl rfl (of07_con (k + 2) _ p _ _ hp' hcp) ?_; intro v h52 w52 hle52 hp52 hs)
        obtain ⟨cs52, rfl, _, _, s52, vc52, rfl, _, hv52⟩ := hp52
        have hvs52 := hv52.size
        obtain ⟨wv52, nv52, sm52, il52, fl52, ch52, bx52, ⟨rfl, hoc52⟩, _⟩ := id hv52
        have hp' := PlainAt.mono (k + 2) _ _ _ _ hle52 hp'
        have hq' := PlainAt.mono (k + 2) _ _ _ _ hle52 hq'
        refine RW.nil ?_
        refine heldQ_normal ⟨_, _, 2, 1, hs, rfl, rfl⟩ ?_
        refine HW.takeR (fuel := 5) 2 rfl (fun _ _ ka kb _ hs hka hkb => Y.fieldVec T rfl rfl rfl rfl rfl rfl hvs52) ⟨_, _, 2, 1, hs, rfl, rfl⟩ rfl (by kernel_rfl) (by kernel_rfl) (by kernel_rfl) ?_
        refine HW.two (fuel := 4) 4 6 rfl rfl (by kernel_rfl) ?_ ?_
        · (refine RW.call T hs rfl rfl rfl (of07_con (k + 2) _ q _ _ hq' hcq) ?_; intro v h55 w55 hle55 hp55 hs)
          obtain ⟨cs55, rfl, _, _, s55, vc55, rfl, _, hv55⟩ := hp55
          have hvs55 := hv55.size
          obtain ⟨wv55, nv55, sm55, il55, fl55, ch55, bx55, ⟨rfl, hoc55⟩, _⟩ := id hv55
          have hp' := PlainAt.mono (k + 2) _ _ _ _ hle55 hp'
          have hq' := PlainAt.mono (k + 2) _ _ _ _ hle55 hq'
          have hv52 := hv52.mono (ArrAt.mono (k + 1)) hle55
          refine RW.nil ?_
          refine heldQ_normal ⟨_, _, 2, 1, hs, rfl, rfl⟩ ?_
          refine HW.takeR (fuel := 3) 5 rfl (fun _ _ ka kb _ hs hka hkb => Y.fieldVec T rfl rfl rfl rfl rfl rfl hvs55) ⟨_, _, 2, 1, hs, rfl, rfl⟩ rfl (by kernel_rfl) (by kernel_rfl) (by kernel_rfl) ?_
          refine HW.one (fuel := 2) 6 rfl (by kernel_rfl) ?_
          (refine RW.allocN T hs rfl rfl rfl rfl ?_; intro b11 w11 hs)
          refine RW.nil ?_
          refine heldQ_normal ⟨_, _, 3, 2, hs, rfl, rfl⟩ ?_
          refine HW.one (fuel := 1) 8 rfl (by kernel_rfl) ?_
          refine RW.storeAll T hs 0 rfl rfl rfl rfl rfl rfl hoc52 rfl ?_
          intro w908 hs
          refine RW.nil ?_
          refine heldQ_normal ⟨_, _, 3, 2, hs, rfl, rfl⟩ ?_
          refine HW.one (fuel := 0) 9 rfl (by kernel_rfl) ?_
          refine RW.storeAll T hs 1 rfl rfl rfl rfl rfl rfl hoc55 rfl ?_
          intro w909 hs
          refine RW.nil ?_
          refine heldQ_normal ⟨_, _, 3, 2, hs, rfl, rfl⟩ ?_
          refine HW.done (by kernel_rfl) ?_
          refine calmQ_normal ?_
          exact joinQ_meet (b11, b12, _, _, h55) ⟨rfl, rfl, rfl, rfl, trivial⟩ ⟨hv52, hv55, hle52.trans hle55, hs.swap⟩
        · (refine RW.allocN T hs rfl rfl rfl rfl ?_; intro b11 w11 hs)
          refine RW.nil ?_
          refine heldQ_normal ⟨_, _, 3, 2, hs, rfl, rfl⟩ ?_
          refine HW.one (fuel := 3) 4 rfl (by kernel_rfl) ?_
          (refine RW.call T hs rfl rfl rfl (of07_con (k + 2) _ q _ _ hq' hcq) ?_; intro v h55 w55 hle55 hp55 hs)
          obtain ⟨cs55, rfl, _, _, s55, vc55, rfl, _, hv55⟩ := hp55
          have hvs55 := hv55.size
          obtain ⟨wv55, nv55, sm55, il55, fl55, ch55, bx55, ⟨rfl, hoc55⟩, _⟩ := id hv55
          have hp' := PlainAt.mono (k + 2) _ _ _ _ hle55 hp'
          have hq' := PlainAt.mono (k + 2) _ _ _ _ hle55 hq'
          have hv52 := hv52.mono (ArrAt.mono (k + 1)) hle55
          refine RW.nil ?_
          refine heldQ_normal ⟨_, _, 3, 2, hs, rfl, rfl⟩ ?_
          refine HW.takeR (fuel := 2) 5 rfl (fun _ _ ka kb _ hs hka hkb => Y.fieldVec T rfl rfl rfl rfl rfl rfl hvs55) ⟨_, _, 3, 2, hs, rfl, rfl⟩ rfl (by kernel_rfl) (by kernel_rfl) (by kernel_rfl) ?_
          refine HW.one (fuel := 1) 8 rfl (by kernel_rfl) ?_
          refine RW.storeAll T hs 0 rfl rfl rfl rfl rfl rfl hoc52 rfl ?_
          intro w908 hs
          refine RW.nil ?_
          refine heldQ_normal ⟨_, _, 3, 2, hs, rfl, rfl⟩ ?_
          refine HW.one (fuel := 0) 9 rfl (by kernel_rfl) ?_
          refine RW.storeAll T hs 1 rfl rfl rfl rfl rfl rfl hoc55 rfl ?_
          intro w909 hs
          refine RW.nil ?_
          refine heldQ_normal ⟨_, _, 3, 2, hs, rfl, rfl⟩ ?_
          refine HW.done (by kernel_rfl) ?_
          refine calmQ_normal ?_
          exact joinQ_meet (b11, b12, _, _, h55) ⟨rfl, rfl, rfl, rfl, trivial⟩ ⟨hv52, hv55, hle52.trans hle55, hs.swap⟩
      · (refine RW.allocN T hs rfl rfl rfl rfl ?_; intro b11 w11 hs)
        refine RW.nil ?_
        refine heldQ_normal ⟨_, _, 3, 2, hs, rfl, rfl⟩ ?_
        refine HW.one (fuel := 5) 1 rfl (by kernel_rfl) ?_
        (refine RW.call T hs rfl rfl rfl (of07_con (k + 2) _ p _ _ hp' hcp) ?_; intro v h52 w52 hle52 hp52 hs)
        obtain ⟨cs52, rfl, _, _, s52, vc52, rfl, _, hv52⟩ := hp52
        have hvs52 := hv52.size
        obtain ⟨wv52, nv52, sm52, il52, fl52, ch52, bx52, ⟨rfl, hoc52⟩, _⟩ := id hv52
        have hp' := PlainAt.mono (k + 2) _ _ _ _ hle52 hp'
        have hq' := PlainAt.mono (k + 2) _ _ _ _ hle52 hq'
        refine RW.nil ?_
        refine heldQ_normal ⟨_, _, 3, 2, hs, rfl, rfl⟩ ?_
        refine HW.takeR (fuel := 4) 2 rfl (fun _ _ ka kb _ hs hka hkb => Y.fieldVec T rfl rfl rfl rfl rfl rfl hvs52) ⟨_, _, 3, 2, hs, rfl, rfl⟩ rfl (by kernel_rfl) (by kernel_rfl) (by kernel_rfl) ?_
        refine HW.one (fuel := 3) 4 rfl (by kernel_rfl) ?_
        (refine RW.call T hs rfl rfl rfl (of07_con (k + 2) _ q _ _ hq' hcq) ?_; intro v h55 w55 hle55 hp55 hs)
        obtain ⟨cs55, rfl, _, _, s55, vc55, rfl, _, hv55⟩ := hp55
        have hvs55 := hv55.size
        obtain ⟨wv55, nv55, sm55, il55, fl55, ch55, bx55, ⟨rfl, hoc55⟩, _⟩ := id hv55
        have hp' := PlainAt.mono (k + 2) _ _ _ _ hle55 hp'
        have hq' := PlainAt.mono (k + 2) _ _ _ _ hle55 hq'
        have hv52 := hv52.mono (ArrAt.mono (k + 1)) hle55
        refine RW.nil ?_
        refine heldQ_normal ⟨_, _, 3, 2, hs, rfl, rfl⟩ ?_
        refine HW.takeR (fuel := 2) 5 rfl (fun _ _ ka kb _ hs hka hkb => Y.fieldVec T rfl rfl rfl rfl rfl rfl hvs55) ⟨_, _, 3, 2, hs, rfl, rfl⟩ rfl (by kernel_rfl) (by kernel_rfl) (by kernel_rfl) ?_
        refine HW.one (fuel := 1) 8 rfl (by kernel_rfl) ?_
        refine RW.storeAll T hs 0 rfl rfl rfl rfl rfl rfl hoc52 rfl ?_
        intro w908 hs
        refine RW.nil ?_
        refine heldQ_normal ⟨_, _, 3, 2, hs, rfl, rfl⟩ ?_
        refine HW.one (fuel := 0) 9 rfl (by kernel_rfl) ?_
        refine RW.storeAll T hs 1 rfl rfl rfl rfl rfl rfl hoc55 rfl ?_
        intro w909 hs
        refine RW.nil ?_
        refine heldQ_normal ⟨_, _, 3, 2, hs, rfl, rfl⟩ ?_
        refine HW.done (by kernel_rfl) ?_
        refine calmQ_normal ?_
        exact joinQ_meet (b11, b12, _, _, h55) ⟨rfl, rfl, rfl, rfl, trivial⟩ ⟨hv52, hv55, hle52.trans hle55, hs.swap⟩
  rintro ⟨b11, b12, vcp, vcq, h9⟩ w10 ⟨hvp, hvq, hg9, hs⟩
  dsimp only at hvp hvq hg9 hs ⊢
  obtain ⟨vp, hvpe⟩ : ∃ v, ArrD.vec (α := AD (k + 1)) (arr (k + 2) p) = v := ⟨_, rfl⟩
  obtain ⟨vq, hvqe⟩ : ∃ v, ArrD.vec (α := AD (k + 1)) (arr (k + 2) q) = v := ⟨_, rfl⟩
  rw [hvpe] at hvp hshp
  rw [hvqe] at hvq hshq
  have hTt := RowAt.mono hg9 hTt
  have hIw := RowAt.mono hg9 hIw
  have hvp' := hvp
  have hvq' := hvq
  have hlv : vp.len = L.length := by rw [← itemsV_len (plain (k + 1)) hvp, hshp.he]
  obtain ⟨wv, nv, sm, il, fl, ch, bx, ⟨rfl, hoc⟩, _⟩ := hvp
  obtain ⟨wv2, nv2, sm2, il2, fl2, ch2, bx2, ⟨rfl, hoc2⟩, _⟩ := hvq
  refine Zerun ?_
  (refine RW.call T hs rfl rfl rfl (hashFind_con (k + 1) _ _ vp vq _ _ hvp' hvq' hshp.sm hshq.sm hshp.vm hshq.vm) ?_; intro v h13 w13 hle13 hp13 hs)
  rw [hshp.he, hshq.he] at hp13
  obtain ⟨ad13, cp13, rfl, _⟩ := id hp13
  have hTt := RowAt.mono hle13 hTt
  have hIw := RowAt.mono hle13 hIw
  have hvp' := hvp'.mono (ArrAt.mono (k + 1)) hle13
  have hvq' := hvq'.mono (ArrAt.mono (k + 1)) hle13
  refine Zerun ?_
  (refine RW.call T hs rfl rfl rfl (ints_con _ _ _ _ _ _ hp13 hIw (by rw [List.length_map]; omega)) ?_; intro v h14 w14 hle14 hp14 hs)
  subst hp14
  rw [decide_eq_true rfl]
  have hTt := RowAt.mono hle14 hTt
  have hvp' := hvp'.mono (ArrAt.mono (k + 1)) hle14
  have hvq' := hvq'.mono (ArrAt.mono (k + 1)) hle14
  refine Zerun ?_
  (refine RW.call T hs rfl rfl rfl (hashHas_con (k + 1) _ _ vp vq _ _ hvp' hvq' hshp.sm hshq.sm hshp.vm hshq.vm) ?_; intro v h15 w15 hle15 hp15 hs)
  rw [hshp.he, hshq.he, hlv] at hp15
  obtain ⟨ad15, cp15, rfl, _⟩ := id hp15
  have hTt := RowAt.mono hle15 hTt
  refine Zerun ?_
  (refine RW.call T hs rfl rfl rfl (refBools_con _ _ _ _ _ _ hp15 hTt) ?_; intro v h16 w16 hle16 hp16 hs)
  subst hp16
  rw [decide_eq_true rfl]
  refine Zerun ?_
  (refine RW.call T hs rfl rfl rfl (awake19_con _ _) ?_; intro v h17 w17 hle17 hp17 hs)
  subst hp17
  refine Zerun ?_
  exact retQ_ret [_] h17 ⟨rfl, trivial⟩ hs.dropAll rfl
end Go.Proofs.Ythbfkhklihejiaa

/-
  Contracts of functions of package value: arrays made of elements, a number, a character, a box alone. No statement is proved here.
-/
namespace Go.Proofs.Ythbfkhklihejiaa
open Go Go.RowKit
set_option linter.unusedVariables false
set_option linter.unusedSimpArgs false
set_option maxHeartbeats 4000000
attribute [local irreducible] CW RW QW SW HW ConM retM heldQ calmQ elemP thenQ blockQ loopQ joinQ retQ Yields Con Sl zF magR unitF truncF fwF wholeF tidySpec elemQ rankF leastN tidyW

section
variable {α : Type} {R : GHeap → List Value → α → Prop}
/-- what is wrong with elements of a shape -/
def newE (l : List Int) (v : VecD α) : Int := if (product l 1048576).2 ≠ 0 then (product l 1048576).2 else if v.kind = 0 then 1 else if (product l 1048576).1 ≠ v.len then 23 else 0
theorem valueNew_con (hR : Mono R) (s : Value) (l : List Int) (cs : List Value) (v : VecD α) (w : World) (h : GHeap) (hl : IntsAt h s l) (hv : VecAt R h cs v) : Con Try.prog 62 [s, .agg cs.toArray] w h (OfPost (ArrR R) (newE l v) ⟨l, v.sq⟩) := by
  have hl' := hl
  obtain ⟨ad, cp, rfl, hS⟩ := hl
  have hsl : l.length ≤ 9223372036854775807 := by have := hS.caps; omega
  have hv' := hv
  obtain ⟨wv, nv, sm, il, fl, ch, bx, ⟨rfl, hoc⟩, hk⟩ := hv
  clear hk
  unfold newE
  refine Con.of_body Try.func62 rfl Try.ntmps62 rfl rfl ?_
  intro hs
  refine Zrun ?_
  (refine RW.boxN hs rfl rfl ?_; intro b1 w1 hs)
  (refine RW.allocN T hs rfl rfl rfl rfl ?_; intro b2 w2 hs)
  refine Zerun ?_
  (refine RW.call T hs rfl rfl rfl (product_con _ l 1048576 _ _ hl' hsl) ?_; intro v h3 w3 hle3 hp3 hs)
  subst hp3
  have hl' := hl'.mono hle3
  have hv' := hv'.mono hR hle3
  generalize hpr : product l 1048576 = r
  obtain ⟨n, e⟩ := r
  dsimp only
  by_cases c1 : e ≠ 0
  · rw [if_pos c1]
    refine Zerun ?_
    refine RW.val (Y.build T rfl rfl rfl rfl rfl rfl rfl) rfl ?_
    refine Zerun ?_
    (refine RW.storeAll T hs 0 rfl rfl rfl rfl rfl rfl rfl rfl ?_; intro w4 hs)
    refine Zerun ?_
    exact retQ_ret [_, _] h3 ⟨resN T hs 0 rfl rfl rfl rfl rfl rfl, rfl, trivial⟩ hs.dropAll (OfPost.bad c1)
  rw [if_neg c1]
  refine Zerun ?_
  (refine RW.call T hs rfl rfl rfl (vecKind_con _ v _ _ hv') ?_; intro v h4 w4 hle4 hp4 hs)
  subst hp4
  have hl' := hl'.mono hle4
  have hv' := hv'.mono hR hle4
  by_cases c2 : v.kind = 0
  · rw [if_pos c2]
    refine Zerun ?_
    refine RW.val (Y.build T rfl rfl rfl rfl rfl rfl rfl) rfl ?_
    (refine RW.storeAll T hs 0 rfl rfl rfl rfl rfl rfl rfl rfl ?_; intro w5 hs)
    refine Zerun ?_
    exact retQ_ret [_, _] h4 ⟨resN T hs 0 rfl rfl rfl rfl rfl rfl, rfl, trivial⟩ hs.dropAll (OfPost.bad (by omega))
  rw [if_neg c2]
  refine Zerun ?_
  (refine RW.call T hs rfl rfl rfl (vecLen_con _ v _ _ hv') ?_; intro v h5 w5 hle5 hp5 hs)
  subst hp5
  have hl' := hl'.mono hle5
  have hv' := hv'.mono hR hle5
  by_cases c3 : n ≠ v.len
  · rw [if_pos c3]
    refine Zerun ?_
    refine RW.val (Y.build T rfl rfl rfl rfl rfl rfl rfl) rfl ?_
    (refine RW.storeAll T hs 0 rfl rfl rfl rfl rfl rfl rfl rfl ?_; intro w6 hs)
    refine Zerun ?_
    exact retQ_ret [_, _] h5 ⟨resN T hs 0 rfl rfl rfl rfl rfl rfl, rfl, trivial⟩ hs.dropAll (OfPost.bad (by omega))
  rw [if_neg c3]
  have hpr2 : product l 1048576 = ((v.len : Int), 0) := by rw [hpr, Decidable.of_not_not c1, Decidable.of_not_not c3]
  have hln := product_le hpr2
  have hlen := hln.2
  refine Zerun ?_
  refine CW.regionH T (fun w' : World => ∃ (h' : GHeap) (O : List Row) (k : Nat), Sees w h h' O w' ∧ O[k]? = some (Row.mk (some ⟨b1, 0, none⟩) 1 1 61 8 (vecCells v.kind wv nv sm il fl ch bx))) ?_
  rintro w4 rfl
  have hs := hs.drew
  refine HW.take (fuel := 6) 0 rfl (v := .slice ad l.length cp) ?_ ?_ rfl (by kernel_rfl) (by kernel_rfl) (by kernel_rfl) ?_
  · intro w' _; exact Y.move rfl
  · exact ⟨_, _, 1, hs, rfl⟩
  refine HW.take (fuel := 5) 2 rfl (v := .agg (vecCells v.kind wv nv sm il fl ch bx).toArray) ?_ ?_ rfl (by kernel_rfl) (by kernel_rfl) (by kernel_rfl) ?_
  · rintro w' ⟨h', O, k, hs', e0⟩; exact Y.loadRowN T hs' k e0 rfl rfl rfl rfl rfl rfl
  · exact ⟨_, _, 1, hs, rfl⟩
  refine HW.one (fuel := 4) 1 rfl (by kernel_rfl) ?_
  (refine RW.call T hs rfl rfl rfl (cloneInts_con _ l _ _ hl' (by omega)) ?_; intro v h5 w5 hle5 hp5 hs)
  have hl5 := hp5
  obtain ⟨ad5, cp5, rfl, _⟩ := hp5
  have hv' := hv'.mono hR hle5
  refine RW.nil ?_
  refine heldQ_normal ⟨_, _, 1, hs, rfl⟩ ?_
  refine HW.one (fuel := 3) 3 rfl (by kernel_rfl) ?_
  (refine RW.call T hs rfl rfl rfl (sqSqueeze_con hR _ v _ _ hv' hlen) ?_; intro v h6 w6 hle6 hp6 hs)
  obtain ⟨cs6, rfl, hv6⟩ := hp6
  have hl5 := hl5.mono hle6
  have hv6' := hv6
  obtain ⟨wv', nv', sm', il', fl', ch', bx', ⟨rfl, hoc6⟩, _⟩ := hv6
  generalize v.sq.kind = vk at *
  refine RW.nil ?_
  refine heldQ_normal ⟨_, _, 1, hs, rfl⟩ ?_
  refine HW.take (fuel := 2) 4 rfl (v := .agg (.slice ad5 l.length cp5 :: vecCells vk wv' nv' sm' il' fl' ch' bx').toArray) ?_ ?_ rfl (by kernel_rfl) (by kernel_rfl) (by kernel_rfl) ?_
  · intro w' _; exact Y.build T rfl rfl rfl rfl rfl rfl rfl
  · exact ⟨_, _, 1, hs, rfl⟩
  refine HW.one (fuel := 1) 5 rfl (by kernel_rfl) ?_
  (refine RW.storeAll T hs 0 rfl rfl rfl rfl rfl rfl hoc6 rfl ?_; intro w7 hs)
  refine RW.nil ?_
  refine heldQ_normal ⟨_, _, 1, hs, rfl⟩ ?_
  refine HW.one (fuel := 0) 6 rfl (by kernel_rfl) ?_
  refine RW.val (Y.assign rfl) rfl ?_
  refine RW.nil ?_
  refine heldQ_normal ⟨_, _, 1, hs, rfl⟩ ?_
  refine HW.done (by kernel_rfl) ?_
  refine calmQ_normal ?_
  refine Zerun ?_
  refine retQ_ret [_, _] h6 ⟨resN T hs 0 rfl rfl rfl rfl rfl rfl, rfl, trivial⟩ hs.dropAll ⟨_, rfl, rfl, ?_, fun _ => ⟨_, _, rfl, hl5, hv6'⟩, fun e => absurd rfl e⟩
  intro u hu
  rcases List.mem_cons.1 hu with rfl | hu
  · rfl
  · exact List.all_eq_true.1 hoc6 u hu
theorem valueList_con (hR : Mono R) (cs : List Value) (v : VecD α) (w : World) (h : GHeap) (hv : VecAt R h cs v) (hm : v.len ≤ 1048576) : Con Try.prog 59 [.agg cs.toArray] w h (fun h' u => ∃ cs', u = .agg cs'.toArray ∧ ArrR R h' cs' ⟨[(v.len : Int)], v.sq⟩) := by
  have hv' := hv
  obtain ⟨wv, nv, sm, il, fl, ch, bx, ⟨rfl, hoc⟩, hk⟩ := hv
  clear hk
  refine Con.of_body Try.func59 rfl Try.ntmps59 rfl rfl ?_
  intro hs
  refine Zrun ?_
  (refine RW.boxN hs rfl rfl ?_; intro b1 w1 hs)
  (refine RW.allocN T hs rfl rfl rfl rfl ?_; intro b2 w2 hs)
  refine Zerun ?_
  refine CW.regionH T (fun w' : World => ∃ (h' : GHeap) (O : List Row) (k : Nat), Sees w h h' O w' ∧ O[k]? = some (Row.mk (some ⟨b1, 0, none⟩) 1 1 61 8 (vecCells v.kind wv nv sm il fl ch bx))) ?_
  rintro w4 rfl
  have hs := hs.drew
  refine HW.take (fuel := 6) 0 rfl (v := .agg (vecCells v.kind wv nv sm il fl ch bx).toArray) ?_ ?_ rfl (by kernel_rfl) (by kernel_rfl) (by kernel_rfl) ?_
  · rintro w' ⟨h', O, k, hs', e0⟩; exact Y.loadRowN T hs' k e0 rfl rfl rfl rfl rfl rfl
  · exact ⟨_, _, 1, hs, rfl⟩
  refine HW.take (fuel := 5) 3 rfl (v := .agg (vecCells v.kind wv nv sm il fl ch bx).toArray) ?_ ?_ rfl (by kernel_rfl) (by kernel_rfl) (by kernel_rfl) ?_
  · rintro w' ⟨h', O, k, hs', e0⟩; exact Y.loadRowN T hs' k e0 rfl rfl rfl rfl rfl rfl
  · exact ⟨_, _, 1, hs, rfl⟩
  refine HW.one (fuel := 4) 1 rfl (by kernel_rfl) ?_
  (refine RW.call T hs rfl rfl rfl (vecLen_con _ v _ _ hv') ?_; intro v h5 w5 hle5 hp5 hs)
  subst hp5
  have hv' := hv'.mono hR hle5
  refine RW.nil ?_
  refine heldQ_normal ⟨_, _, 1, hs, rfl⟩ ?_
  refine HW.two (fuel := 3) 2 4 rfl rfl (by kernel_rfl) ?_ ?_
  · (refine RW.lit T hs (vs := [.int .i64 v.len]) (cs := [.int .i64 v.len]) rfl rfl rfl rfl (by simp [Value.cells]) rfl rfl rfl rfl rfl ?_; intro b7 w7 hs)
    refine RW.nil ?_
    refine heldQ_normal ⟨_, _, 2, hs, rfl⟩ ?_
    refine HW.one (fuel := 2) 4 rfl (by kernel_rfl) ?_
    (refine RW.call T hs rfl rfl rfl (sqSqueeze_con hR _ v _ _ hv' hm) ?_; intro v h6 w6 hle6 hp6 hs)
    obtain ⟨cs6, rfl, hv6⟩ := hp6
    have hv6' := hv6
    obtain ⟨wv', nv', sm', il', fl', ch', bx', ⟨rfl, hoc6⟩, _⟩ := hv6
    generalize v.sq.kind = vk at *
    refine RW.nil ?_
    refine heldQ_normal ⟨_, _, 2, hs, rfl⟩ ?_
    refine HW.take (fuel := 1) 5 rfl (v := .agg (.slice (some ⟨b7, 0, none⟩) 1 1 :: vecCells vk wv' nv' sm' il' fl' ch' bx').toArray) ?_ ?_ rfl (by kernel_rfl) (by kernel_rfl) (by kernel_rfl) ?_
    · intro w' _; exact Y.build T rfl rfl rfl rfl rfl rfl rfl
    · exact ⟨_, _, 2, hs, rfl⟩
    refine HW.one (fuel := 0) 6 rfl (by kernel_rfl) ?_
    (refine RW.storeAll T hs 1 rfl rfl rfl rfl rfl rfl hoc6 rfl ?_; intro w8 hs)
    refine RW.nil ?_
    refine heldQ_normal ⟨_, _, 2, hs, rfl⟩ ?_
    refine HW.done (by kernel_rfl) ?_
    refine calmQ_normal ?_
    refine Zerun ?_
    obtain ⟨h9, hle9, hs, hS9⟩ := hs.freeze
    exact retQ_ret [_] h9 ⟨resN T hs 0 rfl rfl rfl rfl rfl rfl, trivial⟩ hs.dropAll ⟨_, rfl, _, _, rfl, IntsAt.of_sl hS9, hv6'.mono hR hle9⟩
  · (refine RW.call T hs rfl rfl rfl (sqSqueeze_con hR _ v _ _ hv' hm) ?_; intro v h6 w6 hle6 hp6 hs)
    obtain ⟨cs6, rfl, hv6⟩ := hp6
    have hv6' := hv6
    obtain ⟨wv', nv', sm', il', fl', ch', bx', ⟨rfl, hoc6⟩, _⟩ := hv6
    generalize v.sq.kind = vk at *
    refine RW.nil ?_
    refine heldQ_normal ⟨_, _, 1, hs, rfl⟩ ?_
    refine HW.one (fuel := 2) 2 rfl (by kernel_rfl) ?_
    (refine RW.lit T hs (vs := [.int .i64 v.len]) (cs := [.int .i64 v.len]) rfl rfl rfl rfl (by simp [Value.cells]) rfl rfl rfl rfl rfl ?_; intro b7 w7 hs)
    refine RW.nil ?_
    refine heldQ_normal ⟨_, _, 2, hs, rfl⟩ ?_
    refine HW.take (fuel := 1) 5 rfl (v := .agg (.slice (some ⟨b7, 0, none⟩) 1 1 :: vecCells vk wv' nv' sm' il' fl' ch' bx').toArray) ?_ ?_ rfl (by kernel_rfl) (by kernel_rfl) (by kernel_rfl) ?_
    · intro w' _; exact Y.build T rfl rfl rfl rfl rfl rfl rfl
    · exact ⟨_, _, 2, hs, rfl⟩
    refine HW.one (fuel := 0) 6 rfl (by kernel_rfl) ?_
    (refine RW.storeAll T hs 1 rfl rfl rfl rfl rfl rfl hoc6 rfl ?_; intro w8 hs)
    refine RW.nil ?_
    refine heldQ_normal ⟨_, _, 2, hs, rfl⟩ ?_
    refine HW.done (by kernel_rfl) ?_
    refine calmQ_normal ?_
    refine Zerun ?_
    obtain ⟨h9, hle9, hs, hS9⟩ := hs.freeze
    exact retQ_ret [_] h9 ⟨resN T hs 0 rfl rfl rfl rfl rfl rfl, trivial⟩ hs.dropAll ⟨_, rfl, _, _, rfl, IntsAt.of_sl hS9, hv6'.mono hR hle9⟩
theorem valueNum_con (hR : Mono R) (x : Nat) (w : World) (h : GHeap) (hx : x < 18446744073709551616) : Con Try.prog 53 [.float .f64 x] w h (fun h' u => ∃ cs', u = .tuple #[.agg cs'.toArray, .bool (decide (finF x))] ∧ ArrR R h' cs' ⟨[], if finF x then ⟨leastN [tidyW x], [tidyW x], [], []⟩ else VecD.none⟩) := by
  refine Con.of_body Try.func53 rfl Try.ntmps53 rfl rfl ?_
  intro hs
  refine Zrun ?_
  (refine RW.allocN T hs rfl rfl rfl rfl ?_; intro b1 w1 hs)
  refine Zerun ?_
  (refine RW.lit T hs (vs := [.float .f64 x]) (cs := [.float .f64 x]) rfl rfl rfl rfl (by simp [Value.cells]) rfl rfl rfl rfl rfl ?_; intro b2 w2 hs)
  obtain ⟨h3, hle3, hs, hS3⟩ := hs.freeze
  have hF3 : FAt h3 (.slice (some ⟨b2, 0, none⟩) 1 1) [x] := RowAt.of_sl hS3
  (refine RW.call T hs rfl rfl rfl (sqNumbers_con (R := R) hR _ [x] _ _ hF3 (by intro u hu; rw [List.mem_singleton.1 hu]; exact hx) (by simp)) ?_; intro v h4 w4 hle4 hp4 hs)
  obtain ⟨cs4, ok, rfl, hok, hv4⟩ := hp4
  have hok : ok = decide (finF x) := by rw [hok]; exact decide_eq_decide.2 ⟨fun e => e x (by simp), fun e u hu => by rw [List.mem_singleton.1 hu]; exact e⟩
  have hv4' := hv4
  obtain ⟨wv, nv, sm, il, fl, ch, bx, ⟨hcs4, hoc4⟩, _⟩ := hv4
  generalize hvk : (if ok = true then (⟨leastN ([x].map tidyW), [x].map tidyW, [], []⟩ : VecD α) else VecD.none).kind = vk at hcs4
  subst hcs4
  refine Zerun ?_
  (refine RW.allocN T hs rfl rfl rfl rfl ?_; intro b5 w5 hs)
  (refine RW.storeAll T hs 0 rfl rfl rfl rfl rfl rfl hoc4 rfl ?_; intro w6 hs)
  refine Zerun ?_
  by_cases hf : finF x
  · rw [decide_eq_true hf] at hok ⊢
    subst hok
    refine Zerun ?_
    refine RW.val (Y.build T rfl rfl rfl rfl rfl rfl rfl) rfl ?_
    (refine RW.storeAll T hs 1 rfl rfl rfl rfl rfl rfl hoc4 rfl ?_; intro w7 hs)
    refine Zerun ?_
    refine retQ_ret [_, _] h4 ⟨resN T hs 1 rfl rfl rfl rfl rfl rfl, rfl, trivial⟩ hs.dropAll ⟨_, rfl, _, _, rfl, RowAt.nil _, ?_⟩
    rw [if_pos hf]
    exact hv4'
  · rw [decide_eq_false hf] at hok ⊢
    subst hok
    refine Zerun ?_
    refine RW.val (Y.build T rfl rfl rfl rfl rfl rfl rfl) rfl ?_
    (refine RW.storeAll T hs 1 rfl rfl rfl rfl rfl rfl rfl rfl ?_; intro w7 hs)
    refine Zerun ?_
    refine retQ_ret [_, _] h4 ⟨resN T hs 1 rfl rfl rfl rfl rfl rfl, rfl, trivial⟩ hs.dropAll ⟨_, rfl, _, _, rfl, RowAt.nil _, ?_⟩
    rw [if_neg hf]
    exact vecNone h4
theorem valueChar_con (c : Int) (w : World) (h : GHeap) : Con Try.prog 54 [.int .i32 c] w h (fun h' u => ∃ cs', u = .agg cs'.toArray ∧ ArrR R h' cs' ⟨[], ⟨5, [], [c], []⟩⟩) := by
  refine Con.of_body Try.func54 rfl Try.ntmps54 rfl rfl ?_
  intro hs
  refine Zrun ?_
  (refine RW.allocN T hs rfl rfl rfl rfl ?_; intro b1 w1 hs)
  refine Zerun ?_
  (refine RW.lit T hs (vs := [.int .i32 c]) (cs := [.int .i32 c]) rfl rfl rfl rfl (by simp [Value.cells]) rfl rfl rfl rfl rfl ?_; intro b2 w2 hs)
  obtain ⟨h3, hle3, hs, hS3⟩ := hs.freeze
  have hC3 : KAt .i32 h3 (.slice (some ⟨b2, 0, none⟩) 1 1) [c] := RowAt.of_sl hS3
  (refine RW.call T hs rfl rfl rfl (vecChars_con (R := R) _ [c] _ _ hC3 (by simp)) ?_; intro v h4 w4 hle4 hp4 hs)
  obtain ⟨cs4, rfl, hv4⟩ := hp4
  have hv4' := hv4
  obtain ⟨wv, nv, sm, il, fl, ch, bx, ⟨rfl, hoc4⟩, _⟩ := hv4
  refine RW.val (Y.build T rfl rfl rfl rfl rfl rfl rfl) rfl ?_
  (refine RW.storeAll T hs 0 rfl rfl rfl rfl rfl rfl hoc4 rfl ?_; intro w5 hs)
  refine Zerun ?_
  exact retQ_ret [_] h4 ⟨resN T hs 0 rfl rfl rfl rfl rfl rfl, trivial⟩ hs.dropAll ⟨_, rfl, _, _, rfl, RowAt.nil _, hv4'⟩
theorem valueBox_con (hR : Mono R) (h1 : One R) (h9 : Siz 9 R) (cs : List Value) (a : α) (w : World) (h : GHeap) (ha : R h cs a) : Con Try.prog 55 [.agg cs.toArray] w h (fun h' u => ∃ cs', u = .agg cs'.toArray ∧ ArrR R h' cs' ⟨[], ⟨6, [], [], [a]⟩⟩) := by
  have hl9 := h9 _ _ _ ha
  refine Con.of_body Try.func55 rfl Try.ntmps55 rfl rfl ?_
  intro hs
  refine Zrun ?_
  (refine RW.boxN hs rfl rfl ?_; intro b1 w1 hs)
  (refine RW.allocN T hs rfl rfl rfl rfl ?_; intro b2 w2 hs)
  refine Zerun ?_
  refine RW.val (Y.loadRowN (cs := cs) T hs 1 rfl rfl rfl rfl rfl (List.take_of_length_le (by rw [List.drop_zero]; exact Nat.le_of_eq hl9)) hl9) rfl ?_
  (refine RW.lit T hs (vs := [.agg cs.toArray]) (cs := cs) rfl rfl rfl rfl (by simp [Value.cells, hl9]) rfl (by simp [Value.cells]) rfl rfl rfl ?_; intro b3 w3 hs)
  obtain ⟨h4, hle4, hs, hS4⟩ := hs.freeze
  have hB4 : RowsAt 9 (R h4) h4 (.slice (some ⟨b3, 0, none⟩) 1 1) [a] := RowsAt.single hS4 (hR _ _ _ _ hle4 ha)
  (refine RW.call T hs rfl rfl rfl (vecBoxes_con (R := R) hR h1 _ [a] _ _ hB4 (by simp)) ?_; intro v h5 w5 hle5 hp5 hs)
  obtain ⟨cs5, rfl, hv5⟩ := hp5
  have hv5' := hv5
  obtain ⟨wv, nv, sm, il, fl, ch, bx, ⟨rfl, hoc5⟩, _⟩ := hv5
  refine RW.val (Y.build T rfl rfl rfl rfl rfl rfl rfl) rfl ?_
  (refine RW.storeAll T hs 0 rfl rfl rfl rfl rfl rfl hoc5 rfl ?_; intro w6 hs)
  refine Zerun ?_
  exact retQ_ret [_] h5 ⟨resN T hs 0 rfl rfl rfl rfl rfl rfl, trivial⟩ hs.dropAll ⟨_, rfl, _, _, rfl, RowAt.nil _, hv5'⟩
end
end Go.Proofs.Ythbfkhklihejiaa

/-
  Contracts of the law's own functions of layer 7: which shapes elements can have. No statement is proved here.
-/
namespace Go.Proofs.Ythbfkhklihejiaa
open Go Go.RowKit
set_option linter.unusedVariables false
set_option linter.unusedSimpArgs false
set_option maxHeartbeats 4000000
attribute [local irreducible] CW RW QW SW HW ConM retM heldQ calmQ elemP thenQ blockQ loopQ joinQ retQ Yields Con Sl zF magR unitF truncF fwF wholeF tidySpec elemQ rankF leastN tidyW

/-- the plain array of numbers -/
def numsP {α : Type} (l : List Nat) : PlainD α := ⟨[(l.length : Int)], l.map fun x => ⟨0, x, 0, []⟩, 0⟩
theorem refNums_con {α : Type} {R : GHeap → List Value → α → Prop} (hR : Mono R) (s : Value) (l : List Nat) (w : World) (h : GHeap) (hl : FAt h s l) (hx : ∀ u ∈ l, u < 18446744073709551616) (hm : l.length ≤ 1048576) : Con Try.prog 60 [s] w h (fun h' u => ∃ cs', u = .agg cs'.toArray ∧ PlainR R h' cs' (numsP l)) := by
  obtain ⟨ad, cp, rfl, hS⟩ := hl
  refine Con.of_body Try.func60 rfl Try.ntmps60 rfl rfl ?_
  intro hs
  refine Zrun ?_
  (refine RW.allocN T hs rfl rfl rfl rfl ?_; intro b1 w1 hs)
  refine Zerun ?_
  (refine RW.lit T hs (vs := [.int .i64 l.length]) (cs := [.int .i64 l.length]) rfl rfl rfl rfl (by simp [Value.cells]) rfl rfl rfl rfl rfl ?_; intro b2 w2 hs)
  obtain ⟨h3, hle3, hs, hS3⟩ := hs.freeze
  have hI3 : IntsAt h3 (.slice (some ⟨b2, 0, none⟩) 1 1) [(l.length : Int)] := IntsAt.of_sl hS3
  refine RW.val (Y.build T rfl rfl rfl rfl rfl rfl rfl) rfl ?_
  (refine RW.allocN T hs rfl rfl rfl rfl ?_; intro b3 w3 hs)
  (refine RW.storeAll T hs 0 rfl rfl rfl rfl rfl rfl rfl rfl ?_; intro w4 hs)
  refine Zerun ?_
  have hs := hs.nilRow 83 4
  refine CW.loop (fun u : Nat × Option Addr × Nat × List Value => [(0, .slice ad l.length cp), (2, .pointer (some ⟨b1, 0, none⟩)), (3, .pointer (some ⟨b3, 0, none⟩)), (4, .int .i64 u.1)]) (fun u w' => u.1 ≤ l.length ∧ AllN 4 (ItemAt R h3) u.2.2.2 ((l.take u.1).map fun x => ⟨0, x, 0, []⟩) ∧ Sees w h h3 [⟨u.2.1, u.1, u.2.2.1, 83, 4, u.2.2.2⟩, ⟨some ⟨b3, 0, none⟩, 1, 1, 50, 3, [.slice (some ⟨b2, 0, none⟩) 1 1, .slice u.2.1 u.1 u.2.2.1, .int .i64 0]⟩, ⟨some ⟨b1, 0, none⟩, 1, 1, 50, 3, [.slice none 0 0, .slice none 0 0, .int .i64 0]⟩] w') (fun u => l.length - u.1) (0, none, 0, []) ⟨rfl, rfl, rfl, rfl, trivial⟩ ⟨by omega, rfl, hs⟩ ?_
  rintro ⟨i, ra, rc, vs⟩ w5 ⟨hi, hAv, hs⟩
  dsimp only at hi hAv hs ⊢
  by_cases hlt : i < l.length
  · have htk := take_succ_getD l i 0 hlt
    refine Zerun ?_
    refine CW.regionH T (fun w' : World => ∃ (h' : GHeap) (O : List Row), Sees w h h' O w') ?_
    rintro w7 rfl
    have hs := hs.drew
    refine HW.take (fuel := 10) 0 rfl (v := .pointer (some ⟨b3, 0 + 1, none⟩)) ?_ ?_ rfl (by kernel_rfl) (by kernel_rfl) (by kernel_rfl) ?_
    · intro w' _; exact Y.fieldAddr T rfl rfl rfl rfl rfl
    · exact ⟨_, _, hs⟩
    refine HW.take (fuel := 9) 2 rfl (v := .slice ad l.length cp) ?_ ?_ rfl (by kernel_rfl) (by kernel_rfl) (by kernel_rfl) ?_
    · intro w' _; exact Y.move rfl
    · exact ⟨_, _, hs⟩
    refine HW.take (fuel := 8) 3 rfl (v := .int .i64 i) ?_ ?_ rfl (by kernel_rfl) (by kernel_rfl) (by kernel_rfl) ?_
    · intro w' _; exact Y.move rfl
    · exact ⟨_, _, hs⟩
    refine HW.take (fuel := 7) 4 rfl (v := elemP ad i 1) ?_ ?_ rfl (by kernel_rfl) (by kernel_rfl) (by kernel_rfl) ?_
    · rintro w' ⟨h', O, hs'⟩; exact Y.idxSN T rfl rfl (hS.mono hs'.le) rfl rfl rfl hlt
    · exact ⟨_, _, hs⟩
    refine HW.take (fuel := 6) 5 rfl (v := .float .f64 (l.getD i 0)) ?_ ?_ rfl (by kernel_rfl) (by kernel_rfl) (by kernel_rfl) ?_
    · rintro w' ⟨h', O, hs'⟩; exact Y.ldS T hs' rfl (hS.mono hs'.le) rfl rfl hlt (map_get _ _ _ _ hlt)
    · exact ⟨_, _, hs⟩
    refine HW.take (fuel := 5) 6 rfl (v := .agg [.int .i64 0, .float .f64 (l.getD i 0), .int .i32 0, .slice none 0 0].toArray) ?_ ?_ rfl (by kernel_rfl) (by kernel_rfl) (by kernel_rfl) ?_
    · intro w' _; exact Y.build T rfl rfl rfl rfl rfl rfl rfl
    · exact ⟨_, _, hs⟩
    refine HW.two (fuel := 4) 1 7 rfl rfl (by kernel_rfl) ?_ ?_
    · refine RW.val (Y.loadRow1 T hs 1 rfl rfl rfl rfl rfl) rfl ?_
      refine RW.nil ?_
      refine heldQ_normal ⟨_, _, hs⟩ ?_
      refine HW.one (fuel := 3) 7 rfl (by kernel_rfl) ?_
      (refine RW.lit T hs (vs := [.agg [.int .i64 0, .float .f64 (l.getD i 0), .int .i32 0, .slice none 0 0].toArray]) (cs := [.int .i64 0, .float .f64 (l.getD i 0), .int .i32 0, .slice none 0 0]) rfl rfl rfl rfl (by simp [Value.cells]) rfl rfl rfl rfl rfl ?_; intro b8 w8 hs)
      refine RW.nil ?_
      refine heldQ_normal ⟨_, _, hs⟩ ?_
      refine HW.one (fuel := 2) 8 rfl (by kernel_rfl) ?_
      (refine RW.append T hs 1 rfl rfl (m := 1) (news := [.int .i64 0, .float .f64 (l.getD i 0), .int .i32 0, .slice none 0 0]) rfl rfl rfl rfl rfl rfl (hs.src0 rfl (by simp [Value.oneCell'])) (by simp) (by dsimp only; omega) (by omega) ?_; intro ad9 cp9 w9 hs; replace hs := hs.drop)
      refine RW.nil ?_
      refine heldQ_normal ⟨_, _, hs⟩ ?_
      refine HW.take (fuel := 1) 9 rfl (v := .pointer (some ⟨b3, 0 + 1, none⟩)) ?_ ?_ rfl (by kernel_rfl) (by kernel_rfl) (by kernel_rfl) ?_
      · intro w' _; exact Y.fieldAddr T rfl rfl rfl rfl rfl
      · exact ⟨_, _, hs⟩
      refine HW.one (fuel := 0) 10 rfl (by kernel_rfl) ?_
      (refine RW.store1 T hs 1 rfl rfl rfl rfl rfl rfl rfl rfl ?_; intro w10 hs)
      refine RW.nil ?_
      refine heldQ_normal ⟨_, _, hs⟩ ?_
      refine HW.done (by kernel_rfl) ?_
      refine calmQ_normal ?_
      refine Zerun ?_
      refine loopQ_round (i + 1, ad9, cp9, _) ⟨rfl, rfl, rfl, rfl, trivial⟩ ⟨by dsimp only; omega, ?_, hs⟩ (by dsimp only; omega)
      dsimp only
      rw [htk, List.map_append]
      exact hAv.append (AllN.one rfl (ItemAt.mk' (x := ⟨0, l.getD i 0, 0, []⟩) (RowsAt.nil _) (hx _ (mem_getD _ _ _ hlt))))
    · (refine RW.lit T hs (vs := [.agg [.int .i64 0, .float .f64 (l.getD i 0), .int .i32 0, .slice none 0 0].toArray]) (cs := [.int .i64 0, .float .f64 (l.getD i 0), .int .i32 0, .slice none 0 0]) rfl rfl rfl rfl (by simp [Value.cells]) rfl rfl rfl rfl rfl ?_; intro b8 w8 hs)
      refine RW.nil ?_
      refine heldQ_normal ⟨_, _, hs⟩ ?_
      refine HW.one (fuel := 3) 1 rfl (by kernel_rfl) ?_
      refine RW.val (Y.loadRow1 T hs 2 rfl rfl rfl rfl rfl) rfl ?_
      refine RW.nil ?_
      refine heldQ_normal ⟨_, _, hs⟩ ?_
      refine HW.one (fuel := 2) 8 rfl (by kernel_rfl) ?_
      (refine RW.append T hs 1 rfl rfl (m := 1) (news := [.int .i64 0, .float .f64 (l.getD i 0), .int .i32 0, .slice none 0 0]) rfl rfl rfl rfl rfl rfl (hs.src0 rfl (by simp [Value.oneCell'])) (by simp) (by dsimp only; omega) (by omega) ?_; intro ad9 cp9 w9 hs; replace hs := hs.drop)
      refine RW.nil ?_
      refine heldQ_normal ⟨_, _, hs⟩ ?_
      refine HW.take (fuel := 1) 9 rfl (v := .pointer (some ⟨b3, 0 + 1, none⟩)) ?_ ?_ rfl (by kernel_rfl) (by kernel_rfl) (by kernel_rfl) ?_
      · intro w' _; exact Y.fieldAddr T rfl rfl rfl rfl rfl
      · exact ⟨_, _, hs⟩
      refine HW.one (fuel := 0) 10 rfl (by kernel_rfl) ?_
      (refine RW.store1 T hs 1 rfl rfl rfl rfl rfl rfl rfl rfl ?_; intro w10 hs)
      refine RW.nil ?_
      refine heldQ_normal ⟨_, _, hs⟩ ?_
      refine HW.done (by kernel_rfl) ?_
      refine calmQ_normal ?_
      refine Zerun ?_
      refine loopQ_round (i + 1, ad9, cp9, _) ⟨rfl, rfl, rfl, rfl, trivial⟩ ⟨by dsimp only; omega, ?_, hs⟩ (by dsimp only; omega)
      dsimp only
      rw [htk, List.map_append]
      exact hAv.append (AllN.one rfl (ItemAt.mk' (x := ⟨0, l.getD i 0, 0, []⟩) (RowsAt.nil _) (hx _ (mem_getD _ _ _ hlt))))
  · obtain rfl : i = l.length := by omega
    rw [List.take_length] at hAv
    obtain ⟨h6, hle6, hs, hS6⟩ := hs.freeze
    refine Zerun ?_
    (refine RW.storeAll T hs 1 rfl rfl rfl rfl rfl rfl rfl rfl ?_; intro w7 hs)
    refine Zerun ?_
    refine retQ_ret [_] h6 ⟨resN T hs 1 rfl rfl rfl rfl rfl rfl, trivial⟩ hs.dropAll ⟨_, rfl, _, _, rfl, hI3.mono hle6, ra, rc, vs, by simp [numsP], ?_, hAv.mono (fun u a => ItemAt.mono hR _ _ u a hle6)⟩
    simpa [numsP] using hS6
/-- numbers of a shape -/
def numsS (s : List Int) (l : List Nat) : PD 1 := (⟨s, l.map fun x => ⟨0, x, 0, []⟩, 0⟩ : PlainD Unit)
theorem numsS_chk (s : List Int) (l : List Nat) (hf : ∀ x ∈ l, finF x) : chk 1 40 (numsS s l) = if (product s 1048576).2 ≠ 0 then (product s 1048576).2 else if (product s 1048576).1 ≠ l.length then 23 else 0 := by
  show chkP (chk 0 39) 40 (⟨s, l.map fun x => ⟨0, x, 0, []⟩, 0⟩ : PlainD (PD 0)) = _
  unfold chkP
  rw [if_neg (by
    rintro (e | e | e)
    · exact absurd e (by decide)
    · exact absurd (show (0 : Int) < 0 from e) (by decide)
    · exact absurd (show (2 : Int) < 0 from e) (by decide))]
  dsimp only
  rw [List.length_map]
  have e : chkIt (chk 0 39) 0 (l.map fun x => (⟨0, x, 0, []⟩ : ItemD (PD 0))) true = 0 := by
    rw [chkIt_ok]
    refine ⟨rfl, fun x hx => ?_⟩
    obtain ⟨y, hy, rfl⟩ := List.mem_map.1 hx
    exact ⟨rfl, fun e => absurd (show (0 : Int) = 2 from e) (by decide), fun _ => hf y hy⟩
  rw [e]
theorem numsS_arr (s : List Int) (l : List Nat) : arr 1 (numsS s l) = (⟨s, ⟨leastN (l.map tidyW), l.map tidyW, [], []⟩⟩ : ArrD (AD 0)) := by
  show (⟨s, arrV (arr 0) 0 (l.map fun x => (⟨0, x, 0, []⟩ : ItemD (PD 0)))⟩ : ArrD (AD 0)) = _
  unfold arrV
  rw [if_neg (by omega), if_neg (by omega), List.map_map]
  rfl
theorem into_kinds {α : Type} (N : List Nat) (k : Int) (h : (VecD.into (⟨4, N, [], []⟩ : VecD α) k).2 = true) : ∃ vk, 1 ≤ vk ∧ vk ≤ 4 ∧ (VecD.into (⟨4, N, [], []⟩ : VecD α) k).1 = ⟨vk, N, [], []⟩ := by
  unfold VecD.into at h ⊢
  by_cases c1 : (⟨4, N, [], []⟩ : VecD α).kind = k
  · rw [if_pos c1]; exact ⟨4, by omega, by omega, rfl⟩
  · rw [if_neg c1] at h ⊢
    have c2 : ¬ ((⟨4, N, [], []⟩ : VecD α).cls ≠ 0 ∨ (⟨4, N, [], []⟩ : VecD α).kind = 0) := by
      intro e
      rcases e with e | e
      · exact e (by simp [VecD.cls])
      · exact absurd (show (4 : Int) = 0 from e) (by decide)
    rw [if_neg c2] at h ⊢
    by_cases c3 : 1 ≤ k ∧ k ≤ 4 ∧ ∀ x ∈ (⟨4, N, [], []⟩ : VecD α).nums, rankF x ≤ k
    · rw [if_pos c3]; exact ⟨k, c3.1, c3.2.1, rfl⟩
    · rw [if_neg c3] at h; cases h
theorem sq_nums {α : Type} (vk : Int) (N : List Nat) (h1 : 1 ≤ vk) (h4 : vk ≤ 4) : (⟨vk, N, [], []⟩ : VecD α).sq = ⟨leastN N, N, [], []⟩ := by
  unfold VecD.sq VecD.cls
  have e5 : ¬ vk = 5 := by omega
  have e6 : ¬ vk = 6 := by omega
  simp only [if_neg e5, if_neg e6]
  rw [if_pos ⟨trivial, by omega⟩]
theorem newE_nums {α : Type} (s : List Int) (vk : Int) (l : List Nat) (h1 : 1 ≤ vk) (hf : ∀ x ∈ l, finF x) : newE s (⟨vk, l.map tidyW, [], []⟩ : VecD α) = chk 1 40 (numsS s l) := by
  rw [numsS_chk s l hf]
  unfold newE VecD.len
  dsimp only
  rw [if_neg (show ¬ vk = 0 by omega)]
  simp
theorem valueNewLaw_con (v0 v1 : Value) (s : List Int) (l : List Nat) (kind : Int) (w : World) (h : GHeap) (hl : IntsAt h v0 s) (hn : FAt h v1 l) (hx : ∀ u ∈ l, u < 18446744073709551616) : Con Try.prog 9 [v0, v1, .int .i64 kind] w h (fun _ u => u = .bool true) := by
  have hl' := hl
  have hn' := hn
  obtain ⟨ad, cp, rfl, hS⟩ := hl
  obtain ⟨ad1, cp1, rfl, hS1⟩ := hn
  refine Con.of_body Try.func9 rfl Try.ntmps9 rfl rfl ?_
  intro hs
  refine Zerun ?_
  by_cases c1 : 60 < s.length
  · refine Zerun ?_
    (refine RW.call T hs rfl rfl rfl (awake07_con _ _) ?_; intro v h3 w3 hle3 hp3 hs)
    subst hp3
    refine Zerun ?_
    exact retQ_ret [_] h3 ⟨rfl, trivial⟩ hs.dropAll rfl
  by_cases c2 : 500 < l.length
  · refine Zerun ?_
    (refine RW.call T hs rfl rfl rfl (awake07_con _ _) ?_; intro v h3 w3 hle3 hp3 hs)
    subst hp3
    refine Zerun ?_
    exact retQ_ret [_] h3 ⟨rfl, trivial⟩ hs.dropAll rfl
  refine Zerun ?_
  (refine RW.call T hs rfl rfl rfl (vecFloats_con (R := ArrAt 0) _ l _ _ hn' hx (by omega)) ?_; intro v h2 w2 hle2 hp2 hs)
  obtain ⟨cs2, ok, rfl, hok, hv2⟩ := hp2
  have hl' := hl'.mono hle2
  have hn' := hn'.mono hle2
  have hv2' := hv2
  obtain ⟨wv, nv, sm, il, fl, ch, bx, ⟨hcs2, hoc2⟩, _⟩ := hv2
  generalize hvk : (if ok = true then (⟨4, l.map tidyW, [], []⟩ : VecD (AD 0)) else VecD.none).kind = vk at hcs2
  subst hcs2
  refine Zerun ?_
  (refine RW.allocN T hs rfl rfl rfl rfl ?_; intro b3 w3 hs)
  (refine RW.storeAll T hs 0 rfl rfl rfl rfl rfl rfl hoc2 rfl ?_; intro w4 hs)
  refine Zerun ?_
  cases ok with
  | false =>
    refine Zerun ?_
    (refine RW.call T hs rfl rfl rfl (awake07_con _ _) ?_; intro v h5 w5 hle5 hp5 hs)
    subst hp5
    refine Zerun ?_
    exact retQ_ret [_] h5 ⟨rfl, trivial⟩ hs.dropAll rfl
  | true =>
    have hf : ∀ x ∈ l, finF x := of_decide_eq_true hok.symm
    rw [if_pos rfl] at hv2'
    refine Zerun ?_
    (refine RW.call T hs rfl rfl rfl (sqInto_con (ArrAt.mono 0) _ _ kind _ _ hv2' (by simp [VecD.len]; omega)) ?_; intro v h5 w5 hle5 hp5 hs)
    obtain ⟨cs5, rfl, hv5⟩ := hp5
    have hl' := hl'.mono hle5
    have hn' := hn'.mono hle5
    have hv2' := hv2'.mono (ArrAt.mono 0) hle5
    have hik := into_kinds (α := AD 0) (l.map tidyW) kind
    generalize VecD.into (⟨4, l.map tidyW, [], []⟩ : VecD (AD 0)) kind = iv at hv5 hik ⊢
    obtain ⟨iv, is⟩ := iv
    dsimp only at hv5 hik ⊢
    have hv5' := hv5
    obtain ⟨wv5, nv5, sm5, il5, fl5, ch5, bx5, ⟨rfl, hoc5⟩, _⟩ := hv5
    refine Zerun ?_
    (refine RW.allocN T hs rfl rfl rfl rfl ?_; intro b6 w6 hs)
    (refine RW.storeAll T hs 0 rfl rfl rfl rfl rfl rfl hoc5 rfl ?_; intro w7 hs)
    refine Zerun ?_
    refine CW.meet (fun u : List Value × Int => [(0, .slice ad s.length cp), (1, .slice ad1 l.length cp1), (7, .pointer (some ⟨b3, 0, none⟩))]) (fun u w' => (1 ≤ u.2 ∧ u.2 ≤ 4) ∧ VecAt (ArrAt 0) h5 u.1 ⟨u.2, l.map tidyW, [], []⟩ ∧ Sees w h h5 [⟨some ⟨b3, 0, none⟩, 1, 1, 61, 8, u.1⟩] w') ?_ ?_
    · cases is with
      | true =>
        obtain ⟨ik, i1, i4, rfl⟩ := hik rfl
        refine Zerun ?_
        (refine RW.storeAll T hs 1 rfl rfl rfl rfl rfl rfl hoc5 rfl ?_; intro w8 hs)
        refine Zerun ?_
        exact joinQ_meet (_, ik) ⟨rfl, rfl, rfl, trivial⟩ ⟨⟨i1, i4⟩, hv5', hs.drop⟩
      | false =>
        refine Zerun ?_
        exact joinQ_meet (_, 4) ⟨rfl, rfl, rfl, trivial⟩ ⟨⟨by omega, by omega⟩, hv2', hs.drop⟩
    rintro ⟨cs8, vk8⟩ w8 ⟨⟨hk1, hk4⟩, hv8, hs⟩
    dsimp only at hk1 hk4 hv8 hs ⊢
    have hsq := sq_nums (α := AD 0) vk8 (l.map tidyW) hk1 hk4
    have hne := newE_nums (α := AD 0) s vk8 l hk1 hf
    have harr := numsS_arr s l
    have hv8' := hv8
    obtain ⟨wv8, nv8, sm8, il8, fl8, ch8, bx8, ⟨rfl, hoc8⟩, _⟩ := hv8
    refine Zerun ?_
    (refine RW.call T hs rfl rfl rfl (refNums_con (PlainAt.mono 0) _ l _ _ hn' hx (by omega)) ?_; intro v h9 w9 hle9 hp9 hs)
    obtain ⟨cs9, rfl, s9, it9, rfl, ⟨ad9, cp9, rfl, _⟩, hit9⟩ := hp9
    have hit9' := hit9
    obtain ⟨ad10, cp10, xs10, rfl, _, _⟩ := hit9
    have hl' := hl'.mono hle9
    have hv8' := hv8'.mono (ArrAt.mono 0) hle9
    refine Zerun ?_
    (refine RW.allocN T hs rfl rfl rfl rfl ?_; intro b10 w10 hs)
    (refine RW.storeAll T hs 0 rfl rfl rfl rfl rfl rfl rfl rfl ?_; intro w11 hs)
    refine Zerun ?_
    (refine RW.store1 T hs 0 rfl rfl rfl rfl rfl rfl rfl rfl ?_; intro w12 hs)
    have hp' : PlainAt 1 h9 [.slice ad s.length cp, .slice ad10 (numsP (α := PD 0) l).items.length cp10, .int .i64 0] (numsS s l) := ⟨_, _, rfl, hl', hit9'⟩
    have hs : Sees w h h9 [⟨some ⟨b10, 0, none⟩, 1, 1, 50, 3, [.slice ad s.length cp, .slice ad10 (numsP (α := PD 0) l).items.length cp10, .int .i64 0]⟩, ⟨some ⟨b3, 0, none⟩, 1, 1, 61, 8, vecCells vk8 wv8 nv8 sm8 il8 fl8 ch8 bx8⟩] w12 := hs
    refine Zerun ?_
    (refine RW.call T hs rfl rfl rfl (valueNew_con (ArrAt.mono 0) _ s _ _ _ _ hl' hv8') ?_; intro v h13 w13 hle13 hp13 hs)
    rw [hne, hsq] at hp13
    obtain ⟨cs13, rfl, hl13, ho13, hz13, hn13⟩ := hp13
    have hl' := hl'.mono hle13
    have hp' := PlainAt.mono 1 _ _ _ _ hle13 hp'
    refine Zerun ?_
    (refine RW.allocN T hs rfl rfl rfl rfl ?_; intro b14 w14 hs)
    refine RW.storeAll T hs 0 rfl rfl rfl rfl rfl hl13 (List.all_eq_true.2 ho13) hl13 ?_
    intro w15 hs
    refine Zerun ?_
    refine RW.val (Y.build T rfl rfl rfl rfl rfl rfl rfl) rfl ?_
    (refine RW.call T hs rfl rfl rfl (valueNew_con (ArrAt.mono 0) _ s _ _ _ _ hl' (vecNone _)) ?_; intro v h16 w16 hle16 hp16 hs)
    obtain ⟨cs16, rfl, hl16, ho16, _, _⟩ := hp16
    have hp' := PlainAt.mono 1 _ _ _ _ hle16 hp'
    refine Zerun ?_
    (refine RW.allocN T hs rfl rfl rfl rfl ?_; intro b17 w17 hs)
    refine RW.storeAll T hs 0 rfl rfl rfl rfl rfl hl16 (List.all_eq_true.2 ho16) hl16 ?_
    intro w18 hs
    replace hs := hs.drop
    refine Zerun ?_
    (refine RW.call T hs rfl rfl rfl (refCheck_con 1 _ (numsS s l) _ _ hp') ?_; intro v h19 w19 hle19 hp19 hs)
    subst hp19
    have hp' := PlainAt.mono 1 _ _ _ _ hle19 hp'
    by_cases hc : chk 1 40 (numsS s l) = 0
    · have ha13 := hz13 hc
      rw [← harr] at ha13
      have ha' := ArrAt.mono 1 _ _ _ _ (hle16.trans hle19) (show ArrAt 1 h13 cs13 (arr 1 (numsS s l)) from ha13)
      have hgood := good_arr 1 40 (numsS s l) hc
      have hsml := good_sml 1 40 _ hgood
      have htdy := tidy_tdy 1 40 (numsS s l) _ _ hp' hc
      have hnone : newE s (VecD.none : VecD (AD 0)) = 1 := by
        rw [numsS_chk s l hf] at hc
        unfold newE
        by_cases e1 : (product s 1048576).2 ≠ 0
        · rw [if_pos e1] at hc; exact absurd hc e1
        · rw [if_neg e1, if_pos (show (VecD.none : VecD (AD 0)).kind = 0 from rfl)]
      have ha13 := ha'
      obtain ⟨s5, vc5, rfl, hl5, hv5⟩ := ha13
      obtain ⟨ad5, cp5, rfl, _⟩ := hl5
      obtain ⟨wv, nv, sm, il, fl, ch, bx, ⟨rfl, _⟩, _⟩ := hv5
      refine Zerun ?_
      refine CW.regionO T hs ?_
      intro w20 hs
      refine HW.takeS (fuel := 20) 0 rfl (fun _ _ hs => Y.move rfl) hs rfl (by kernel_rfl) (by kernel_rfl) (by kernel_rfl) ?_
      refine HW.takeS (fuel := 19) 1 rfl (fun _ _ hs => Y.eqT rfl rfl hc) hs rfl (by kernel_rfl) (by kernel_rfl) (by kernel_rfl) ?_
      refine HW.takeS (fuel := 18) 2 rfl (fun _ _ hs => Y.move rfl) hs rfl (by kernel_rfl) (by kernel_rfl) (by kernel_rfl) ?_
      refine HW.takeSY (fuel := 17) 3 rfl rfl rfl (fun _ _ hs => Y.move rfl) hs rfl (by kernel_rfl) (by kernel_rfl) (by kernel_rfl) ?_
      refine HW.takeSY (fuel := 16) 4 rfl rfl rfl (fun _ _ hs => Y.eqT rfl rfl hnone) hs rfl (by kernel_rfl) (by kernel_rfl) (by kernel_rfl) ?_
      refine HW.takeS (fuel := 15) 5 rfl (fun _ _ hs => Y.pickT rfl rfl) hs rfl (by kernel_rfl) (by kernel_rfl) (by kernel_rfl) ?_
      refine HW.takeS (fuel := 14) 6 rfl (fun _ _ hs => Y.move rfl) hs rfl (by kernel_rfl) (by kernel_rfl) (by kernel_rfl) ?_
      refine HW.takeSY (fuel := 13) 7 rfl rfl rfl (fun _ _ hs => Y.loadRowN T hs 0 rfl rfl rfl rfl rfl rfl rfl) hs rfl (by kernel_rfl) (by kernel_rfl) (by kernel_rfl) ?_
      refine HW.one (fuel := 12) 8 rfl (by kernel_rfl) ?_
      refine RW.guardYes rfl rfl ?_
      (refine RW.call T hs rfl rfl rfl (valueGood_con 1 _ (arr 1 (numsS s l)) _ _ ha') ?_; intro v h87 w87 hle87 hp87 hs)
      subst hp87
      rw [decB_of hgood]
      have ha' := ArrAt.mono 1 _ _ _ _ hle87 ha'
      have hp' := PlainAt.mono 1 _ _ _ _ hle87 hp'
      refine RW.nil ?_
      refine heldQ_normal ⟨_, hs⟩ ?_
      refine HW.takeS (fuel := 11) 9 rfl (fun _ _ hs => Y.pickT rfl rfl) hs rfl (by kernel_rfl) (by kernel_rfl) (by kernel_rfl) ?_
      refine HW.takeS (fuel := 10) 10 rfl (fun _ _ hs => Y.move rfl) hs rfl (by kernel_rfl) (by kernel_rfl) (by kernel_rfl) ?_
      refine HW.takeSY (fuel := 9) 11 rfl rfl rfl (fun _ _ hs => Y.loadRowN T hs 0 rfl rfl rfl rfl rfl rfl rfl) hs rfl (by kernel_rfl) (by kernel_rfl) (by kernel_rfl) ?_
      refine HW.takeSY (fuel := 8) 13 rfl rfl rfl (fun _ _ hs => Y.loadRowN T hs 1 rfl rfl rfl rfl rfl rfl rfl) hs rfl (by kernel_rfl) (by kernel_rfl) (by kernel_rfl) ?_
      refine HW.one (fuel := 7) 12 rfl (by kernel_rfl) ?_
      refine RW.guardYes rfl rfl ?_
      (refine RW.call T hs rfl rfl rfl (plainV_con 1 _ (arr 1 (numsS s l)) _ _ ha' hsml) ?_; intro v h91 w91 hle91 hp91 hs)
      obtain ⟨cs91, rfl, hq91⟩ := hp91
      rw [plain_arr 1 40 (numsS s l) hc] at hq91
      have ha' := ArrAt.mono 1 _ _ _ _ hle91 ha'
      have hp' := PlainAt.mono 1 _ _ _ _ hle91 hp'
      refine RW.nil ?_
      refine heldQ_normal ⟨_, hs⟩ ?_
      refine HW.one (fuel := 6) 14 rfl (by kernel_rfl) ?_
      refine RW.guardYes rfl rfl ?_
      (refine RW.call T hs rfl rfl rfl (refTidyP_con 1 40 _ (numsS s l) _ _ hp' hc) ?_; intro v h93 w93 hle93 hp93 hs)
      obtain ⟨cs93, rfl, hq93⟩ := hp93
      have ha' := ArrAt.mono 1 _ _ _ _ hle93 ha'
      have hp' := PlainAt.mono 1 _ _ _ _ hle93 hp'
      have hq91 := PlainAt.mono 1 _ _ _ _ hle93 hq91
      refine RW.nil ?_
      refine heldQ_normal ⟨_, hs⟩ ?_
      refine HW.one (fuel := 5) 15 rfl (by kernel_rfl) ?_
      refine RW.guardYes rfl rfl ?_
      (refine RW.call T hs rfl rfl rfl (refSame_con 1 _ _ (tidy 1 (numsS s l)) (tidy 1 (numsS s l)) _ _ hq91 hq93 htdy htdy) ?_; intro v h94 w94 hle94 hp94 hs)
      subst hp94
      rw [eqB_of (show tidy 1 (numsS s l) = tidy 1 (numsS s l) from rfl)]
      have ha' := ArrAt.mono 1 _ _ _ _ hle94 ha'
      have hp' := PlainAt.mono 1 _ _ _ _ hle94 hp'
      refine RW.nil ?_
      refine heldQ_normal ⟨_, hs⟩ ?_
      refine HW.takeS (fuel := 4) 16 rfl (fun _ _ hs => Y.pickT rfl rfl) hs rfl (by kernel_rfl) (by kernel_rfl) (by kernel_rfl) ?_
      refine HW.takeS (fuel := 3) 17 rfl (fun _ _ hs => Y.move rfl) hs rfl (by kernel_rfl) (by kernel_rfl) (by kernel_rfl) ?_
      refine HW.one (fuel := 2) 18 rfl (by kernel_rfl) ?_
      refine RW.guardYes rfl rfl ?_
      (refine RW.call T hs rfl rfl rfl (awake07_con _ _) ?_; intro v h97 w97 hle97 hp97 hs)
      subst hp97
      refine RW.nil ?_
      refine heldQ_normal ⟨_, hs⟩ ?_
      refine HW.takeS (fuel := 1) 19 rfl (fun _ _ hs => Y.pickT rfl rfl) hs rfl (by kernel_rfl) (by kernel_rfl) (by kernel_rfl) ?_
      refine HW.takeS (fuel := 0) 20 rfl (fun _ _ hs => Y.assign rfl) hs rfl (by kernel_rfl) (by kernel_rfl) (by kernel_rfl) ?_
      refine HW.done (by kernel_rfl) ?_
      refine calmQ_normal ?_
      refine Zerun ?_
      exact retQ_ret [_] h97 ⟨rfl, trivial⟩ hs.dropAll rfl
    · obtain rfl := hn13 hc
      refine Zerun ?_
      (refine RW.call T hs rfl rfl rfl (refCheck_con 1 _ (numsS s l) _ _ hp') ?_; intro v h20 w20 hle20 hp20 hs)
      subst hp20
      refine Zerun ?_
      (refine RW.call T hs rfl rfl rfl (vecKind_con (R := ArrAt 0) _ VecD.none _ _ (vecNone _)) ?_; intro v h21 w21 hle21 hp21 hs)
      subst hp21
      refine Zerun ?_
      (refine RW.call T hs rfl rfl rfl (awake07_con _ _) ?_; intro v h22 w22 hle22 hp22 hs)
      subst hp22
      refine Zerun ?_
      exact retQ_ret [_] h22 ⟨rfl, trivial⟩ hs.dropAll rfl
end Go.Proofs.Ythbfkhklihejiaa

/-
  Contracts of the law's own functions of layer 19: keys of alike elements. No statement is proved here.
-/
namespace Go.Proofs.Ythbfkhklihejiaa
open Go Go.RowKit
set_option linter.unusedVariables false
set_option linter.unusedSimpArgs false
set_option maxHeartbeats 4000000
attribute [local irreducible] CW RW QW SW HW ConM retM heldQ calmQ elemP thenQ blockQ loopQ joinQ retQ Yields Con Sl zF magR unitF truncF fwF wholeF tidySpec elemQ rankF leastN tidyW
set_option maxHeartbeats 4000000
attribute [local irreducible] mixN wrN wr32 keyIt keyP

theorem into_any {α : Type} {a : Int} (h1 : 1 ≤ a) (h4 : a ≤ 4) (N : List Nat) (k : Int) (h : (VecD.into (⟨a, N, [], []⟩ : VecD α) k).2 = true) : ∃ vk, 1 ≤ vk ∧ vk ≤ 4 ∧ (VecD.into (⟨a, N, [], []⟩ : VecD α) k).1 = ⟨vk, N, [], []⟩ := by
  unfold VecD.into at h ⊢
  split at h
  · rename_i c
    rw [if_pos c]
    exact ⟨a, h1, h4, rfl⟩
  · rename_i c
    rw [if_neg c]
    split at h
    · cases h
    · rename_i c2
      rw [if_neg c2]
      split at h
      · rename_i c3
        rw [if_pos c3]
        exact ⟨k, c3.1, c3.2.1, rfl⟩
      · cases h
theorem nums_items {k : Nat} {a : Int} (h1 : 1 ≤ a) (h4 : a ≤ 4) (N : List Nat) : itemsV (plain k) (⟨a, N, [], []⟩ : VecD (AD k)) = N.map (fun x => ⟨0, x, 0, []⟩) := by
  have hc : (⟨a, N, [], []⟩ : VecD (AD k)).cls = 0 := by unfold VecD.cls; dsimp only; rw [if_neg (by omega), if_neg (by omega)]
  exact itemsV_c0 (plain k) hc
theorem arr_len (k : Nat) (d : Int) (p : PD (k + 1)) (hc : chk (k + 1) d p = 0) : (ArrD.vec (α := AD k) (arr (k + 1) p)).len = (PlainD.items (α := PD k) (tidy (k + 1) p)).length := by
  obtain ⟨_, _, _, _, h⟩ := (chkP_ok (α := PD k) _ _ _).1 hc
  exact (len_arrV (arr k) _ _ _ h).trans (List.length_map ..).symm
theorem hashKeysLaw_con (k : Nat) (v0 : Value) (l : List Nat) (kind : Int) (cp0 cq0 : List Value) (p q : PD (k + 2)) (w : World) (h : GHeap) (hn : FAt h v0 l) (hx : ∀ u ∈ l, u < 18446744073709551616) (hp : PlainAt (k + 2) h cp0 p) (hq : PlainAt (k + 2) h cq0 q) : Con Try.prog 14 [v0, .int .i64 kind, .agg cp0.toArray, .agg cq0.toArray] w h (fun _ u => u = .bool true) := by
  have hp' := hp
  have hq' := hq
  have hp0 := hp
  have hq0 := hq
  have hn' := hn
  obtain ⟨adn, cpn, rfl, hSn⟩ := hn
  have hcapn := hSn.caps
  obtain ⟨s, it, rfl, ⟨ad, cp, rfl, _⟩, ⟨ad2, cp2, xs, rfl, _, _⟩⟩ := hp
  obtain ⟨s2, it2, rfl, ⟨ad3, cp3, rfl, _⟩, ⟨ad4, cp4, xs4, rfl, _, _⟩⟩ := hq
  refine Con.of_body Try.func14 rfl Try.ntmps14 rfl rfl ?_
  intro hs
  refine Zrun ?_
  (refine RW.boxN hs rfl rfl ?_; intro b1 w1 hs)
  refine Zrun ?_
  (refine RW.boxN hs rfl rfl ?_; intro b2 w2 hs)
  by_cases c200 : 200 < l.length
  · refine Zerun ?_
    (refine RW.call T hs rfl rfl rfl (awake19_con _ _) ?_; intro v h4 w4 hle4 hp4 hs)
    subst hp4
    refine Zerun ?_
    exact retQ_ret [_] h4 ⟨rfl, trivial⟩ hs.dropAll rfl
  refine Zerun ?_
  (refine RW.call T hs rfl rfl rfl (good19_con (k + 1) _ p _ _ hp') ?_; intro v h3 w3 hle3 hp3 hs)
  obtain ⟨b, rfl, hbp⟩ := hp3
  have hp' := PlainAt.mono (k + 2) _ _ _ _ hle3 hp'
  have hq' := PlainAt.mono (k + 2) _ _ _ _ hle3 hq'
  have hn' := RowAt.mono hle3 hn'
  cases b with
  | false =>
    refine Zerun ?_
    (refine RW.call T hs rfl rfl rfl (awake19_con _ _) ?_; intro v h4 w4 hle4 hp4 hs)
    subst hp4
    refine Zerun ?_
    exact retQ_ret [_] h4 ⟨rfl, trivial⟩ hs.dropAll rfl
  | true =>
  obtain ⟨hcp, hilp⟩ := hbp rfl
  refine Zerun ?_
  (refine RW.call T hs rfl rfl rfl (good19_con (k + 1) _ q _ _ hq') ?_; intro v h4 w4 hle4 hp4 hs)
  obtain ⟨b, rfl, hbq⟩ := hp4
  have hp' := PlainAt.mono (k + 2) _ _ _ _ hle4 hp'
  have hq' := PlainAt.mono (k + 2) _ _ _ _ hle4 hq'
  have hn' := RowAt.mono hle4 hn'
  cases b with
  | false =>
    refine Zerun ?_
    (refine RW.call T hs rfl rfl rfl (awake19_con _ _) ?_; intro v h5 w5 hle5 hp5 hs)
    subst hp5
    refine Zerun ?_
    exact retQ_ret [_] h5 ⟨rfl, trivial⟩ hs.dropAll rfl
  | true =>
  obtain ⟨hcq, hilq⟩ := hbq rfl
  have hshp := shown_of k p _ _ hp0 hcp
  have hshq := shown_of k q _ _ hq0 hcq
  have hlp2 : (PlainD.items (α := PD (k + 1)) (tidy (k + 2) p)).length ≤ 200 := by
    have e : (PlainD.items (α := PD (k + 1)) (tidy (k + 2) p)).length = (PlainD.items (α := PD (k + 1)) p).length := List.length_map ..
    omega
  have hlq2 : (PlainD.items (α := PD (k + 1)) (tidy (k + 2) q)).length ≤ 200 := by
    have e : (PlainD.items (α := PD (k + 1)) (tidy (k + 2) q)).length = (PlainD.items (α := PD (k + 1)) q).length := List.length_map ..
    omega
  refine Zerun ?_
  (refine RW.call T hs rfl rfl rfl (sqNumbers_con (R := ArrAt 1) (ArrAt.mono 1) _ l _ _ hn' hx (by omega)) ?_; intro v h6 w6 hle6 hp6 hs)
  obtain ⟨cs6, ok, rfl, hok, hv6⟩ := hp6
  have hp' := PlainAt.mono (k + 2) _ _ _ _ hle6 hp'
  have hq' := PlainAt.mono (k + 2) _ _ _ _ hle6 hq'
  obtain ⟨V, hVe⟩ : ∃ V : VecD (AD 1), (if ok = true then ⟨leastN (l.map tidyW), l.map tidyW, [], []⟩ else VecD.none) = V := ⟨_, rfl⟩
  rw [hVe] at hv6
  have hv6' := hv6
  obtain ⟨wv, nv, sm, il, fl, ch, bx, ⟨hcs6, hoc6⟩, _⟩ := hv6
  obtain ⟨vk, hvke⟩ : ∃ vk, V.kind = vk := ⟨_, rfl⟩
  rw [hvke] at hcs6
  subst hcs6
  refine Zerun ?_
  (refine RW.allocN T hs rfl rfl rfl rfl ?_; intro b7 w7 hs)
  (refine RW.storeAll T hs 0 rfl rfl rfl rfl rfl rfl hoc6 rfl ?_; intro w8 hs)
  refine Zerun ?_
  cases ok with
  | false =>
    refine Zerun ?_
    (refine RW.call T hs rfl rfl rfl (awake19_con _ _) ?_; intro v h9 w9 hle9 hp9 hs)
    subst hp9
    refine Zerun ?_
    exact retQ_ret [_] h9 ⟨rfl, trivial⟩ hs.dropAll rfl
  | true =>
  rw [if_pos rfl] at hVe
  have hlb := leastN_bounds (l.map tidyW)
  refine Zerun ?_
  (refine RW.call T hs rfl rfl rfl (sqInto_con (ArrAt.mono 1) _ V kind _ _ hv6' (by rw [← hVe]; show (l.map tidyW).length + 0 + 0 ≤ _; rw [List.length_map]; omega)) ?_; intro v h8 w8 hle8 hp8 hs)
  obtain ⟨cs8, rfl, hv8⟩ := hp8
  have hp' := PlainAt.mono (k + 2) _ _ _ _ hle8 hp'
  have hq' := PlainAt.mono (k + 2) _ _ _ _ hle8 hq'
  have hv6' := hv6'.mono (ArrAt.mono 1) hle8
  obtain ⟨W2, hWe⟩ : ∃ W2, (V.into kind).1 = W2 := ⟨_, rfl⟩
  obtain ⟨is, hie⟩ : ∃ is, (V.into kind).2 = is := ⟨_, rfl⟩
  rw [hWe] at hv8
  rw [hie]
  have hv8' := hv8
  obtain ⟨wv2, nv2, sm2, il2, fl2, ch2, bx2, ⟨hcs8, hoc8⟩, _⟩ := hv8
  obtain ⟨wk, hwke⟩ : ∃ wk, W2.kind = wk := ⟨_, rfl⟩
  rw [hwke] at hcs8
  subst hcs8
  refine Zerun ?_
  (refine RW.allocN T hs rfl rfl rfl rfl ?_; intro b9 w9 hs)
  (refine RW.storeAll T hs 0 rfl rfl rfl rfl rfl rfl hoc8 rfl ?_; intro w10 hs)
  have hlV : V.len = l.length := by rw [← hVe]; show (l.map tidyW).length + 0 + 0 = _; rw [List.length_map]; rfl
  have hVi : itemsV (plain 1) V = (l.map tidyW).map (fun x => ⟨0, x, 0, []⟩) := by rw [← hVe]; exact nums_items hlb.1 hlb.2 _
  have hVb : ∀ x ∈ V.boxes, sml 1 x := by rw [← hVe]; exact fun b hb => nomatch hb
  have hW : is = true → W2.len = l.length ∧ itemsV (plain 1) W2 = (l.map tidyW).map (fun x => ⟨0, x, 0, []⟩) ∧ ∀ x ∈ W2.boxes, sml 1 x := by
    intro e
    rw [← hVe] at hWe hie
    obtain ⟨vk2, h1, h4, he⟩ := into_any hlb.1 hlb.2 (l.map tidyW) kind (hie.trans e)
    rw [he] at hWe
    subst hWe
    refine ⟨?_, nums_items h1 h4 _, fun b hb => nomatch hb⟩
    show (l.map tidyW).length + 0 + 0 = _
    rw [List.length_map]; rfl
  refine Zerun ?_
  refine CW.meetB (fun _ : Unit => [(6, .pointer (some ⟨b1, 0, none⟩)), (7, .pointer (some ⟨b2, 0, none⟩))]) (fun _ w' => Sees w h h8 [⟨some ⟨b9, 0, none⟩, 1, 1, 61, 8, vecCells wk wv2 nv2 sm2 il2 fl2 ch2 bx2⟩, ⟨some ⟨b7, 0, none⟩, 1, 1, 61, 8, vecCells vk wv nv sm il fl ch bx⟩, ⟨some ⟨b2, 0, none⟩, 1, 1, 50, 3, [.slice ad3 (PlainD.shape (α := PD (k + 1)) q).length cp3, .slice ad4 (PlainD.items (α := PD (k + 1)) q).length cp4, .int .i64 (PlainD.fill (α := PD (k + 1)) q)]⟩, ⟨some ⟨b1, 0, none⟩, 1, 1, 50, 3, [.slice ad (PlainD.shape (α := PD (k + 1)) p).length cp, .slice ad2 (PlainD.items (α := PD (k + 1)) p).length cp2, .int .i64 (PlainD.fill (α := PD (k + 1)) p)]⟩] w') ?_ ?_
  rotate_left
  · rintro _ w12 hs
    refine Zerun ?_
    refine CW.meet (fun r : Option Addr × Nat × Option Addr × Nat × GHeap => [(6, .pointer (some ⟨b1, 0, none⟩)), (7, .pointer (some ⟨b2, 0, none⟩)), (14, .slice r.1 (PlainD.items (α := PD (k + 1)) (tidy (k + 2) p)).length r.2.1), (15, .slice r.2.2.1 (PlainD.items (α := PD (k + 1)) (tidy (k + 2) q)).length r.2.2.2.1)]) (fun r w' => RowsAt 4 (ItemAt (PlainAt (k + 1)) r.2.2.2.2) r.2.2.2.2 (.slice r.1 (PlainD.items (α := PD (k + 1)) (tidy (k + 2) p)).length r.2.1) (PlainD.items (α := PD (k + 1)) (tidy (k + 2) p)) ∧ RowsAt 4 (ItemAt (PlainAt (k + 1)) r.2.2.2.2) r.2.2.2.2 (.slice r.2.2.1 (PlainD.items (α := PD (k + 1)) (tidy (k + 2) q)).length r.2.2.2.1) (PlainD.items (α := PD (k + 1)) (tidy (k + 2) q)) ∧ GLe h8 r.2.2.2.2 ∧ Sees w h r.2.2.2.2 [⟨some ⟨b9, 0, none⟩, 1, 1, 61, 8, vecCells wk wv2 nv2 sm2 il2 fl2 ch2 bx2⟩, ⟨some ⟨b7, 0, none⟩, 1, 1, 61, 8, vecCells vk wv nv sm il fl ch bx⟩, ⟨some ⟨b2, 0, none⟩, 1, 1, 50, 3, [.slice ad3 (PlainD.shape (α := PD (k + 1)) q).length cp3, .slice ad4 (PlainD.items (α := PD (k + 1)) q).length cp4, .int .i64 (PlainD.fill (α := PD (k + 1)) q)]⟩, ⟨some ⟨b1, 0, none⟩, 1, 1, 50, 3, [.slice ad (PlainD.shape (α := PD (k + 1)) p).length cp, .slice ad2 (PlainD.items (α := PD (k + 1)) p).length cp2, .int .i64 (PlainD.fill (α := PD (k + 1)) p)]⟩] w') ?_ ?_
    · refine CW.regionO T hs ?_
      intro w5 hs
      refine HW.takeS (fuel := 7) 0 rfl (fun _ _ hs => Y.loadRowN T hs 3 rfl rfl rfl rfl rfl rfl rfl) hs rfl (by kernel_rfl) (by kernel_rfl) (by kernel_rfl) ?_
      refine HW.takeS (fuel := 6) 3 rfl (fun _ _ hs => Y.loadRowN T hs 2 rfl rfl rfl rfl rfl rfl rfl) hs rfl (by kernel_rfl) (by kernel_rfl) (by kernel_rfl) ?_
      refine HW.one (fuel := 5) 1 rfl (by kernel_rfl) ?_
      (refine RW.call T hs rfl rfl rfl (refTidyP_con (k + 2) 40 _ p _ _ hp' hcp) ?_; intro v h63 w63 hle63 hp63 hs)
      obtain ⟨cs63, rfl, s63, it63, rfl, ⟨ad63, cp63, rfl, _⟩, hit63⟩ := hp63
      obtain ⟨adI63, cpI63, xsI63, rfl, _, _⟩ := id hit63
      have hp' := PlainAt.mono (k + 2) _ _ _ _ hle63 hp'
      have hq' := PlainAt.mono (k + 2) _ _ _ _ hle63 hq'
      refine RW.nil ?_
      refine heldQ_normal ⟨_, hs⟩ ?_
      refine HW.takeS (fuel := 4) 2 rfl (fun _ _ hs => Y.field1 T rfl rfl rfl rfl rfl rfl) hs rfl (by kernel_rfl) (by kernel_rfl) (by kernel_rfl) ?_
      refine HW.one (fuel := 3) 4 rfl (by kernel_rfl) ?_
      (refine RW.call T hs rfl rfl rfl (refTidyP_con (k + 2) 40 _ q _ _ hq' hcq) ?_; intro v h66 w66 hle66 hp66 hs)
      obtain ⟨cs66, rfl, s66, it66, rfl, ⟨ad66, cp66, rfl, _⟩, hit66⟩ := hp66
      obtain ⟨adI66, cpI66, xsI66, rfl, _, _⟩ := id hit66
      have hp' := PlainAt.mono (k + 2) _ _ _ _ hle66 hp'
      have hq' := PlainAt.mono (k + 2) _ _ _ _ hle66 hq'
      have hit63 := hit63.mono hle66 (fun u a => ItemAt.mono (PlainAt.mono (k + 1)) _ _ u a hle66)
      refine RW.nil ?_
      refine heldQ_normal ⟨_, hs⟩ ?_
      refine HW.takeS (fuel := 2) 5 rfl (fun _ _ hs => Y.field1 T rfl rfl rfl rfl rfl rfl) hs rfl (by kernel_rfl) (by kernel_rfl) (by kernel_rfl) ?_
      refine HW.takeS (fuel := 1) 6 rfl (fun _ _ hs => Y.assign rfl) hs rfl (by kernel_rfl) (by kernel_rfl) (by kernel_rfl) ?_
      refine HW.takeS (fuel := 0) 7 rfl (fun _ _ hs => Y.assign rfl) hs rfl (by kernel_rfl) (by kernel_rfl) (by kernel_rfl) ?_
      refine HW.done (by kernel_rfl) ?_
      refine calmQ_normal ?_
      exact joinQ_meet (adI63, cpI63, adI66, cpI66, h66) ⟨rfl, rfl, rfl, rfl, trivial⟩ ⟨hit63, hit66, hle63.trans hle66, hs⟩
    rintro ⟨adL, cpL, adM, cpM, h12⟩ w13 ⟨hL, hM, hg5, hs⟩
    dsimp only at hL hM hg5 hs ⊢
    have hp' := PlainAt.mono (k + 2) _ _ _ _ hg5 hp'
    have hq' := PlainAt.mono (k + 2) _ _ _ _ hg5 hq'
    obtain ⟨L, hLe⟩ : ∃ L, PlainD.items (α := PD (k + 1)) (tidy (k + 2) p) = L := ⟨_, rfl⟩
    obtain ⟨M, hMe⟩ : ∃ M, PlainD.items (α := PD (k + 1)) (tidy (k + 2) q) = M := ⟨_, rfl⟩
    have hlvp : (ArrD.vec (α := AD (k + 1)) (arr (k + 2) p)).len = (PlainD.items (α := PD (k + 1)) (tidy (k + 2) p)).length := arr_len (k + 1) 40 p hcp
    have hlvq : (ArrD.vec (α := AD (k + 1)) (arr (k + 2) q)).len = (PlainD.items (α := PD (k + 1)) (tidy (k + 2) q)).length := arr_len (k + 1) 40 q hcq
    rw [hLe] at hL hshp hlp2 hlvp ⊢
    rw [hMe] at hM hshq hlq2 hlvq ⊢
    obtain ⟨adL', cpL', xL, e1, hSL, hAL⟩ := hL
    cases e1
    obtain ⟨adM', cpM', xM, e2, hSM, hAM⟩ := hM
    cases e2
    refine Zerun ?_
    refine CW.loop (fun r : Nat × GHeap => [(6, .pointer (some ⟨b1, 0, none⟩)), (7, .pointer (some ⟨b2, 0, none⟩)), (14, .slice adL L.length cpL), (15, .slice adM M.length cpM), (16, .int .i64 r.1)]) (fun r w' => r.1 ≤ L.length ∧ GLe h12 r.2 ∧ Sees w h r.2 [⟨some ⟨b9, 0, none⟩, 1, 1, 61, 8, vecCells wk wv2 nv2 sm2 il2 fl2 ch2 bx2⟩, ⟨some ⟨b7, 0, none⟩, 1, 1, 61, 8, vecCells vk wv nv sm il fl ch bx⟩, ⟨some ⟨b2, 0, none⟩, 1, 1, 50, 3, [.slice ad3 (PlainD.shape (α := PD (k + 1)) q).length cp3, .slice ad4 (PlainD.items (α := PD (k + 1)) q).length cp4, .int .i64 (PlainD.fill (α := PD (k + 1)) q)]⟩, ⟨some ⟨b1, 0, none⟩, 1, 1, 50, 3, [.slice ad (PlainD.shape (α := PD (k + 1)) p).length cp, .slice ad2 (PlainD.items (α := PD (k + 1)) p).length cp2, .int .i64 (PlainD.fill (α := PD (k + 1)) p)]⟩] w') (fun r => L.length - r.1) (0, h12) ⟨rfl, rfl, rfl, rfl, rfl, trivial⟩ ⟨by omega, GLe.refl _, hs⟩ ?_
    rintro ⟨i, hi_⟩ w14 ⟨hi, hg1, hs⟩
    dsimp only at hi hg1 hs ⊢
    by_cases hi1 : i < L.length
    · obtain ⟨y, hy, hyl, hRy0⟩ := hAL.elem i hi1
      refine Zerun ?_
      refine CW.loop (fun r : Nat × GHeap => [(6, .pointer (some ⟨b1, 0, none⟩)), (7, .pointer (some ⟨b2, 0, none⟩)), (14, .slice adL L.length cpL), (15, .slice adM M.length cpM), (16, .int .i64 i), (17, .int .i64 r.1)]) (fun r w' => r.1 ≤ M.length ∧ GLe hi_ r.2 ∧ Sees w h r.2 [⟨some ⟨b9, 0, none⟩, 1, 1, 61, 8, vecCells wk wv2 nv2 sm2 il2 fl2 ch2 bx2⟩, ⟨some ⟨b7, 0, none⟩, 1, 1, 61, 8, vecCells vk wv nv sm il fl ch bx⟩, ⟨some ⟨b2, 0, none⟩, 1, 1, 50, 3, [.slice ad3 (PlainD.shape (α := PD (k + 1)) q).length cp3, .slice ad4 (PlainD.items (α := PD (k + 1)) q).length cp4, .int .i64 (PlainD.fill (α := PD (k + 1)) q)]⟩, ⟨some ⟨b1, 0, none⟩, 1, 1, 50, 3, [.slice ad (PlainD.shape (α := PD (k + 1)) p).length cp, .slice ad2 (PlainD.items (α := PD (k + 1)) p).length cp2, .int .i64 (PlainD.fill (α := PD (k + 1)) p)]⟩] w') (fun r => M.length - r.1) (0, hi_) ⟨rfl, rfl, rfl, rfl, rfl, rfl, trivial⟩ ⟨by omega, GLe.refl _, hs⟩ ?_
      rintro ⟨j, hj⟩ w15 ⟨hjl, hg2, hs⟩
      dsimp only at hjl hg2 hs ⊢
      by_cases hi2 : j < M.length
      · obtain ⟨z, hz, hzl, hRz0⟩ := hAM.elem j hi2
        have hgj := hg1.trans hg2
        have hRy := ItemAt.mono (PlainAt.mono (k + 1)) _ _ _ _ hgj hRy0
        have hRz := ItemAt.mono (PlainAt.mono (k + 1)) _ _ _ _ hgj hRz0
        have hSL := hSL.mono hgj
        have hSM := hSM.mono hgj
        have hp' := PlainAt.mono (k + 2) _ _ _ _ hgj hp'
        have hq' := PlainAt.mono (k + 2) _ _ _ _ hgj hq'
        refine Zerun ?_
        refine CW.regionG T 3 2 hs rfl rfl ?_
        intro w16 hs
        by_cases e : L[i] = M[j]
        · skip
          have hgl := GLe.refl hj
          refine HW.takeG (fuel := 21) 0 rfl (fun _ _ ka kb _ hg hs hka hkb => Y.move rfl) ⟨_, _, 3, 2, hgl, hs, rfl, rfl⟩ rfl (by kernel_rfl) (by kernel_rfl) (by kernel_rfl) ?_
          refine HW.takeG (fuel := 20) 1 rfl (fun _ _ ka kb _ hg hs hka hkb => Y.move rfl) ⟨_, _, 3, 2, hgl, hs, rfl, rfl⟩ rfl (by kernel_rfl) (by kernel_rfl) (by kernel_rfl) ?_
          refine HW.takeG (fuel := 19) 2 rfl (fun _ _ ka kb _ hg hs hka hkb => Y.idxSN T rfl rfl (hSL.mono hg) rfl rfl rfl hi1) ⟨_, _, 3, 2, hgl, hs, rfl, rfl⟩ rfl (by kernel_rfl) (by kernel_rfl) (by kernel_rfl) ?_
          refine HW.takeG (fuel := 18) 3 rfl (fun _ _ ka kb _ hg hs hka hkb => Y.ldSN T hs rfl (hSL.mono hg) rfl rfl rfl rfl hi1 hy hyl) ⟨_, _, 3, 2, hgl, hs, rfl, rfl⟩ rfl (by kernel_rfl) (by kernel_rfl) (by kernel_rfl) ?_
          refine HW.takeG (fuel := 17) 4 rfl (fun _ _ ka kb _ hg hs hka hkb => Y.move rfl) ⟨_, _, 3, 2, hgl, hs, rfl, rfl⟩ rfl (by kernel_rfl) (by kernel_rfl) (by kernel_rfl) ?_
          refine HW.takeG (fuel := 16) 5 rfl (fun _ _ ka kb _ hg hs hka hkb => Y.move rfl) ⟨_, _, 3, 2, hgl, hs, rfl, rfl⟩ rfl (by kernel_rfl) (by kernel_rfl) (by kernel_rfl) ?_
          refine HW.takeG (fuel := 15) 6 rfl (fun _ _ ka kb _ hg hs hka hkb => Y.idxSN T rfl rfl (hSM.mono hg) rfl rfl rfl hi2) ⟨_, _, 3, 2, hgl, hs, rfl, rfl⟩ rfl (by kernel_rfl) (by kernel_rfl) (by kernel_rfl) ?_
          refine HW.takeG (fuel := 14) 7 rfl (fun _ _ ka kb _ hg hs hka hkb => Y.ldSN T hs rfl (hSM.mono hg) rfl rfl rfl rfl hi2 hz hzl) ⟨_, _, 3, 2, hgl, hs, rfl, rfl⟩ rfl (by kernel_rfl) (by kernel_rfl) (by kernel_rfl) ?_
          refine HW.one (fuel := 13) 8 rfl (by kernel_rfl) ?_
          (refine RW.call T hs rfl rfl rfl (refItem_con (k + 1) _ _ _ _ _ _ hRy hRz (hshp.td _ (List.getElem_mem hi1)) (hshq.td _ (List.getElem_mem hi2))) ?_; intro v h88 w88 hle88 hp88 hs)
          subst hp88
          rw [eqB_of e]
          have hp' := PlainAt.mono (k + 2) _ _ _ _ hle88 hp'
          have hq' := PlainAt.mono (k + 2) _ _ _ _ hle88 hq'
          have hgl := hgl.trans hle88
          refine RW.nil ?_
          refine heldQ_normal ⟨_, _, 3, 2, hgl, hs, rfl, rfl⟩ ?_
          refine HW.takeG (fuel := 12) 9 rfl (fun _ _ ka kb _ hg hs hka hkb => Y.move rfl) ⟨_, _, 3, 2, hgl, hs, rfl, rfl⟩ rfl (by kernel_rfl) (by kernel_rfl) (by kernel_rfl) ?_
          refine HW.takeGY (fuel := 11) 10 rfl rfl rfl (fun _ _ ka kb _ hg hs hka hkb => Y.loadRowN T hs ka hka rfl rfl rfl rfl rfl rfl) ⟨_, _, 3, 2, hgl, hs, rfl, rfl⟩ rfl (by kernel_rfl) (by kernel_rfl) (by kernel_rfl) ?_
          refine HW.takeGY (fuel := 10) 13 rfl rfl rfl (fun _ _ ka kb _ hg hs hka hkb => Y.move rfl) ⟨_, _, 3, 2, hgl, hs, rfl, rfl⟩ rfl (by kernel_rfl) (by kernel_rfl) (by kernel_rfl) ?_
          refine HW.takeGY (fuel := 9) 15 rfl rfl rfl (fun _ _ ka kb _ hg hs hka hkb => Y.loadRowN T hs kb hkb rfl rfl rfl rfl rfl rfl) ⟨_, _, 3, 2, hgl, hs, rfl, rfl⟩ rfl (by kernel_rfl) (by kernel_rfl) (by kernel_rfl) ?_
          refine HW.takeGY (fuel := 8) 18 rfl rfl rfl (fun _ _ ka kb _ hg hs hka hkb => Y.move rfl) ⟨_, _, 3, 2, hgl, hs, rfl, rfl⟩ rfl (by kernel_rfl) (by kernel_rfl) (by kernel_rfl) ?_
          refine HW.one (fuel := 7) 11 rfl (by kernel_rfl) ?_
          refine RW.guardYes rfl rfl ?_
          (refine RW.call T hs rfl rfl rfl (of07_con (k + 2) _ p _ _ hp' hcp) ?_; intro v h91 w91 hle91 hp91 hs)
          obtain ⟨cs91, rfl, _, _, s91, vc91, rfl, _, hv91⟩ := hp91
          have hvs91 := hv91.size
          have hp' := PlainAt.mono (k + 2) _ _ _ _ hle91 hp'
          have hq' := PlainAt.mono (k + 2) _ _ _ _ hle91 hq'
          have hgl := hgl.trans hle91
          refine RW.nil ?_
          refine heldQ_normal ⟨_, _, 3, 2, hgl, hs, rfl, rfl⟩ ?_
          refine HW.takeGY (fuel := 6) 12 rfl rfl rfl (fun _ _ ka kb _ hg hs hka hkb => Y.fieldVec T rfl rfl rfl rfl rfl rfl hvs91) ⟨_, _, 3, 2, hgl, hs, rfl, rfl⟩ rfl (by kernel_rfl) (by kernel_rfl) (by kernel_rfl) ?_
          refine HW.one (fuel := 5) 14 rfl (by kernel_rfl) ?_
          refine RW.guardYes rfl rfl ?_
          (refine RW.call T hs rfl rfl rfl (key_con (k + 1) _ _ i _ _ hv91 (by omega) hshp.sm) ?_; intro v h94 w94 hle94 hp94 hs)
          subst hp94
          rw [hshp.he, getD_elem hi1]
          have hp' := PlainAt.mono (k + 2) _ _ _ _ hle94 hp'
          have hq' := PlainAt.mono (k + 2) _ _ _ _ hle94 hq'
          have hgl := hgl.trans hle94
          refine RW.nil ?_
          refine heldQ_normal ⟨_, _, 3, 2, hgl, hs, rfl, rfl⟩ ?_
          refine HW.one (fuel := 4) 16 rfl (by kernel_rfl) ?_
          refine RW.guardYes rfl rfl ?_
          (refine RW.call T hs rfl rfl rfl (of07_con (k + 2) _ q _ _ hq' hcq) ?_; intro v h96 w96 hle96 hp96 hs)
          obtain ⟨cs96, rfl, _, _, s96, vc96, rfl, _, hv96⟩ := hp96
          have hvs96 := hv96.size
          have hp' := PlainAt.mono (k + 2) _ _ _ _ hle96 hp'
          have hq' := PlainAt.mono (k + 2) _ _ _ _ hle96 hq'
          have hgl := hgl.trans hle96
          refine RW.nil ?_
          refine heldQ_normal ⟨_, _, 3, 2, hgl, hs, rfl, rfl⟩ ?_
          refine HW.takeGY (fuel := 3) 17 rfl rfl rfl (fun _ _ ka kb _ hg hs hka hkb => Y.fieldVec T rfl rfl rfl rfl rfl rfl hvs96) ⟨_, _, 3, 2, hgl, hs, rfl, rfl⟩ rfl (by kernel_rfl) (by kernel_rfl) (by kernel_rfl) ?_
          refine HW.one (fuel := 2) 19 rfl (by kernel_rfl) ?_
          refine RW.guardYes rfl rfl ?_
          (refine RW.call T hs rfl rfl rfl (key_con (k + 1) _ _ j _ _ hv96 (by omega) hshq.sm) ?_; intro v h99 w99 hle99 hp99 hs)
          subst hp99
          rw [hshq.he, getD_elem hi2]
          have hp' := PlainAt.mono (k + 2) _ _ _ _ hle99 hp'
          have hq' := PlainAt.mono (k + 2) _ _ _ _ hle99 hq'
          have hgl := hgl.trans hle99
          refine RW.nil ?_
          refine heldQ_normal ⟨_, _, 3, 2, hgl, hs, rfl, rfl⟩ ?_
          refine HW.takeGY (fuel := 1) 20 rfl rfl rfl (fun _ _ ka kb _ hg hs hka hkb => Y.neqF rfl rfl (congrArg (fun z => ((keyIt (keyP (k + 1)) z : Nat) : Int)) e)) ⟨_, _, 3, 2, hgl, hs, rfl, rfl⟩ rfl (by kernel_rfl) (by kernel_rfl) (by kernel_rfl) ?_
          refine HW.takeG (fuel := 0) 21 rfl (fun _ _ ka kb _ hg hs hka hkb => Y.pickT rfl rfl) ⟨_, _, 3, 2, hgl, hs, rfl, rfl⟩ rfl (by kernel_rfl) (by kernel_rfl) (by kernel_rfl) ?_
          refine HW.done (by kernel_rfl) ?_
          refine calmQ_normal ?_
          refine Zerun ?_
          exact loopQ_round (j + 1, h99) ⟨rfl, rfl, rfl, rfl, rfl, rfl, trivial⟩ ⟨by dsimp only; omega, hg2.trans hgl, hs⟩ (by dsimp only; omega)
        · skip
          have hgl := GLe.refl hj
          refine HW.takeG (fuel := 21) 0 rfl (fun _ _ ka kb _ hg hs hka hkb => Y.move rfl) ⟨_, _, 3, 2, hgl, hs, rfl, rfl⟩ rfl (by kernel_rfl) (by kernel_rfl) (by kernel_rfl) ?_
          refine HW.takeG (fuel := 20) 1 rfl (fun _ _ ka kb _ hg hs hka hkb => Y.move rfl) ⟨_, _, 3, 2, hgl, hs, rfl, rfl⟩ rfl (by kernel_rfl) (by kernel_rfl) (by kernel_rfl) ?_
          refine HW.takeG (fuel := 19) 2 rfl (fun _ _ ka kb _ hg hs hka hkb => Y.idxSN T rfl rfl (hSL.mono hg) rfl rfl rfl hi1) ⟨_, _, 3, 2, hgl, hs, rfl, rfl⟩ rfl (by kernel_rfl) (by kernel_rfl) (by kernel_rfl) ?_
          refine HW.takeG (fuel := 18) 3 rfl (fun _ _ ka kb _ hg hs hka hkb => Y.ldSN T hs rfl (hSL.mono hg) rfl rfl rfl rfl hi1 hy hyl) ⟨_, _, 3, 2, hgl, hs, rfl, rfl⟩ rfl (by kernel_rfl) (by kernel_rfl) (by kernel_rfl) ?_
          refine HW.takeG (fuel := 17) 4 rfl (fun _ _ ka kb _ hg hs hka hkb => Y.move rfl) ⟨_, _, 3, 2, hgl, hs, rfl, rfl⟩ rfl (by kernel_rfl) (by kernel_rfl) (by kernel_rfl) ?_
          refine HW.takeG (fuel := 16) 5 rfl (fun _ _ ka kb _ hg hs hka hkb => Y.move rfl) ⟨_, _, 3, 2, hgl, hs, rfl, rfl⟩ rfl (by kernel_rfl) (by kernel_rfl) (by kernel_rfl) ?_
          refine HW.takeG (fuel := 15) 6 rfl (fun _ _ ka kb _ hg hs hka hkb => Y.idxSN T rfl rfl (hSM.mono hg) rfl rfl rfl hi2) ⟨_, _, 3, 2, hgl, hs, rfl, rfl⟩ rfl (by kernel_rfl) (by kernel_rfl) (by kernel_rfl) ?_
          refine HW.takeG (fuel := 14) 7 rfl (fun _ _ ka kb _ hg hs hka hkb => Y.ldSN T hs rfl (hSM.mono hg) rfl rfl rfl rfl hi2 hz hzl) ⟨_, _, 3, 2, hgl, hs, rfl, rfl⟩ rfl (by kernel_rfl) (by kernel_rfl) (by kernel_rfl) ?_
          refine HW.one (fuel := 13) 8 rfl (by kernel_rfl) ?_
          (refine RW.call T hs rfl rfl rfl (refItem_con (k + 1) _ _ _ _ _ _ hRy hRz (hshp.td _ (List.getElem_mem hi1)) (hshq.td _ (List.getElem_mem hi2))) ?_; intro v h88 w88 hle88 hp88 hs)
          subst hp88
          rw [eqB_not e]
          have hgl := hgl.trans hle88
          refine RW.nil ?_
          refine heldQ_normal ⟨_, _, 3, 2, hgl, hs, rfl, rfl⟩ ?_
          refine HW.takeG (fuel := 12) 9 rfl (fun _ _ ka kb _ hg hs hka hkb => Y.move rfl) ⟨_, _, 3, 2, hgl, hs, rfl, rfl⟩ rfl (by kernel_rfl) (by kernel_rfl) (by kernel_rfl) ?_
          refine HW.takeGN (fuel := 11) 10 rfl rfl rfl rfl ⟨_, _, 3, 2, hgl, hs, rfl, rfl⟩ rfl (by kernel_rfl) (by kernel_rfl) (by kernel_rfl) ?_
          refine HW.takeGN (fuel := 10) 11 rfl rfl rfl rfl ⟨_, _, 3, 2, hgl, hs, rfl, rfl⟩ rfl (by kernel_rfl) (by kernel_rfl) (by kernel_rfl) ?_
          refine HW.takeGN (fuel := 9) 12 rfl rfl rfl rfl ⟨_, _, 3, 2, hgl, hs, rfl, rfl⟩ rfl (by kernel_rfl) (by kernel_rfl) (by kernel_rfl) ?_
          refine HW.takeGN (fuel := 8) 13 rfl rfl rfl rfl ⟨_, _, 3, 2, hgl, hs, rfl, rfl⟩ rfl (by kernel_rfl) (by kernel_rfl) (by kernel_rfl) ?_
          refine HW.takeGN (fuel := 7) 14 rfl rfl rfl rfl ⟨_, _, 3, 2, hgl, hs, rfl, rfl⟩ rfl (by kernel_rfl) (by kernel_rfl) (by kernel_rfl) ?_
          refine HW.takeGN (fuel := 6) 15 rfl rfl rfl rfl ⟨_, _, 3, 2, hgl, hs, rfl, rfl⟩ rfl (by kernel_rfl) (by kernel_rfl) (by kernel_rfl) ?_
          refine HW.takeGN (fuel := 5) 16 rfl rfl rfl rfl ⟨_, _, 3, 2, hgl, hs, rfl, rfl⟩ rfl (by kernel_rfl) (by kernel_rfl) (by kernel_rfl) ?_
          refine HW.takeGN (fuel := 4) 17 rfl rfl rfl rfl ⟨_, _, 3, 2, hgl, hs, rfl, rfl⟩ rfl (by kernel_rfl) (by kernel_rfl) (by kernel_rfl) ?_
          refine HW.takeGN (fuel := 3) 18 rfl rfl rfl rfl ⟨_, _, 3, 2, hgl, hs, rfl, rfl⟩ rfl (by kernel_rfl) (by kernel_rfl) (by kernel_rfl) ?_
          refine HW.takeGN (fuel := 2) 19 rfl rfl rfl rfl ⟨_, _, 3, 2, hgl, hs, rfl, rfl⟩ rfl (by kernel_rfl) (by kernel_rfl) (by kernel_rfl) ?_
          refine HW.takeGN (fuel := 1) 20 rfl rfl rfl rfl ⟨_, _, 3, 2, hgl, hs, rfl, rfl⟩ rfl (by kernel_rfl) (by kernel_rfl) (by kernel_rfl) ?_
          refine HW.takeG (fuel := 0) 21 rfl (fun _ _ ka kb _ hg hs hka hkb => Y.pickF rfl rfl) ⟨_, _, 3, 2, hgl, hs, rfl, rfl⟩ rfl (by kernel_rfl) (by kernel_rfl) (by kernel_rfl) ?_
          refine HW.done (by kernel_rfl) ?_
          refine calmQ_normal ?_
          refine Zerun ?_
          exact loopQ_round (j + 1, h88) ⟨rfl, rfl, rfl, rfl, rfl, rfl, trivial⟩ ⟨by dsimp only; omega, hg2.trans hgl, hs⟩ (by dsimp only; omega)
      obtain rfl : j = M.length := by omega
      refine Zerun ?_
      exact loopQ_round (i + 1, hj) ⟨rfl, rfl, rfl, rfl, rfl, trivial⟩ ⟨by dsimp only; omega, hg1.trans hg2, hs⟩ (by dsimp only; omega)
    obtain rfl : i = L.length := by omega
    refine Zerun ?_
    (refine RW.call T hs rfl rfl rfl (awake19_con _ _) ?_; intro v h17 w17 hle17 hp17 hs)
    subst hp17
    refine Zerun ?_
    exact retQ_ret [_] h17 ⟨rfl, trivial⟩ hs.dropAll rfl
  refine CW.loop (fun i : Nat => [(0, .slice adn l.length cpn), (6, .pointer (some ⟨b1, 0, none⟩)), (7, .pointer (some ⟨b2, 0, none⟩)), (9, .pointer (some ⟨b7, 0, none⟩)), (11, .pointer (some ⟨b9, 0, none⟩)), (12, .bool is), (13, .int .i64 i)]) (fun i w' => i ≤ l.length ∧ Sees w h h8 [⟨some ⟨b9, 0, none⟩, 1, 1, 61, 8, vecCells wk wv2 nv2 sm2 il2 fl2 ch2 bx2⟩, ⟨some ⟨b7, 0, none⟩, 1, 1, 61, 8, vecCells vk wv nv sm il fl ch bx⟩, ⟨some ⟨b2, 0, none⟩, 1, 1, 50, 3, [.slice ad3 (PlainD.shape (α := PD (k + 1)) q).length cp3, .slice ad4 (PlainD.items (α := PD (k + 1)) q).length cp4, .int .i64 (PlainD.fill (α := PD (k + 1)) q)]⟩, ⟨some ⟨b1, 0, none⟩, 1, 1, 50, 3, [.slice ad (PlainD.shape (α := PD (k + 1)) p).length cp, .slice ad2 (PlainD.items (α := PD (k + 1)) p).length cp2, .int .i64 (PlainD.fill (α := PD (k + 1)) p)]⟩] w') (fun i => l.length - i) 0 ⟨rfl, rfl, rfl, rfl, rfl, rfl, rfl, trivial⟩ ⟨by omega, hs⟩ ?_
  rintro i w11 ⟨hi, hs⟩
  by_cases c : is = true ∧ i < l.length
  · obtain ⟨rfl, hlt⟩ := c
    obtain ⟨hlW, hWi, hWb⟩ := hW rfl
    refine Zerun ?_
    refine CW.regionQ T hs (Zeqrun ?_) (by kernel_rfl)
    refine QW.call T hs rfl rfl rfl (fun w => by have := key_con 1 _ V i w _ hv6' (by omega) hVb; rw [hVi] at this; exact this) ?_
    refine Zeqrun ?_
    refine QW.call T hs rfl rfl rfl (fun w => by have := key_con 1 _ W2 i w _ hv8' (by omega) hWb; rw [hWi] at this; exact this) ?_
    refine QW.val (fun _ _ => Y.neqF rfl rfl rfl) rfl ?_
    refine Zeqrun ?_
    intro w12 hs
    refine Zerun ?_
    exact loopQ_round (i + 1) ⟨rfl, rfl, rfl, rfl, rfl, rfl, rfl, trivial⟩ ⟨by omega, hs⟩ (by omega)
  have hex : is = false ∨ ¬ i < l.length := by
    by_cases h1 : is = true
    · exact .inr (fun hh => c ⟨h1, hh⟩)
    · exact .inl (by simpa using h1)
  clear c hi
  cases is with
  | false =>
    refine Zerun ?_
    exact joinQ_meet () ⟨rfl, rfl, trivial⟩ hs
  | true =>
    have hlt : ¬ i < l.length := hex.resolve_left (by simp)
    refine Zerun ?_
    exact joinQ_meet () ⟨rfl, rfl, trivial⟩ hs
end Go.Proofs.Ythbfkhklihejiaa
