/-
  Own texts of the claim, merged: Fe, Vd, Ve, Io, LibY, Na, PlainL, Nb, Nc, Nd, PlainM, Ne, Nf, Ng, Wa, Wb, Wd, We. Lemmas of the proof; no statement is proved here.
-/
import Derived.Test.YtmojpbfkpggjhaaGreatDoorMc
import Derived.Laws.Externs
/-
  Contracts of functions of package shape and of its reference, fifth part. No statement is proved here.
-/
namespace Go.Proofs.YtmojpbfkpggjhaaGreatDoor
open Go Go.RowKit
set_option linter.unusedVariables false
set_option linter.unusedSimpArgs false
set_option maxHeartbeats 4000000
attribute [local irreducible] CW RW QW SW HW ConM retM heldQ calmQ elemP thenQ blockQ loopQ joinQ retQ Yields Con Sl

theorem split_con (s : Value) (l : List Int) (axis : Int) (w : World) (h : GHeap) (hl : IntsAt h s l) (hm : l.length ≤ 9223372036854775807) : Con Tryz.prog 113 [s, .int .i64 axis] w h
    (fun _ v => v = .tuple #[.int .i64 (splitSpec l axis).1, .int .i64 (splitSpec l axis).2.1, .int .i64 (splitSpec l axis).2.2.1, .bool (splitSpec l axis).2.2.2]) := by
  have hl' := hl
  obtain ⟨ad, cp, rfl, hS⟩ := hl
  have bad : ¬ splitOk l axis → splitSpec l axis = (0, 0, 0, false) := fun hn => by unfold splitSpec; rw [if_neg hn]
  refine Con.of_body Tryz.func113 rfl Tryz.ntmps113 rfl rfl ?_
  intro hs
  refine Zrun ?_
  (refine RW.call T hs rfl rfl rfl (good_con _ l _ _ hl' hm) ?_; intro v h1 w1 hle1 hp1 hs)
  subst hp1
  have hS := hS.mono hle1
  refine Zrun ?_
  refine RW.gd rfl rfl (fun hg => ?_) (fun hg => ?_)
  · have hb := bad (fun e => hg ((goodS_iff l).1 e.1))
    refine Zrun ?_
    exact retQ_ret [_, _, _, _] h1 ⟨rfl, rfl, rfl, rfl, trivial⟩ hs (by rw [hb]; rfl)
  have hg := Decidable.of_not_not hg
  refine Zrun ?_
  refine RW.gd rfl rfl (fun h2 => ?_) (fun h2 => ?_)
  · have hb := bad (fun e => by have := e.2.1; omega)
    refine Zrun ?_
    exact retQ_ret [_, _, _, _] h1 ⟨rfl, rfl, rfl, rfl, trivial⟩ hs (by rw [hb]; rfl)
  refine Zrun ?_
  refine CW.condD rfl (fun h3 => ?_) (fun h3 => ?_)
  · have hb := bad (fun e => by have := e.2.2.1; omega)
    refine Zrun ?_
    exact retQ_ret [_, _, _, _] h1 ⟨rfl, rfl, rfl, rfl, trivial⟩ hs (by rw [hb]; rfl)
  obtain ⟨q, rfl⟩ := Int.eq_ofNat_of_zero_le (show 0 ≤ axis by omega)
  have hq : q < l.length := by omega
  have hcaps := hS.caps
  refine Zrun ?_
  refine RW.val (Y.sliceHi T rfl rfl rfl rfl ?_) rfl ?_
  · omega
  have hlt : (l.take q).length = q := by simp; omega
  have hT1 : IntsAt h1 (.slice ad q cp) (l.take q) := by
    have := hS.take q (by omega)
    rw [Nat.mul_one, ← List.map_take] at this
    exact IntsAt.of_sl this
  (refine RW.call T hs rfl rfl rfl (product_con _ (l.take q) 1048576 _ _ hT1 (by omega)) ?_; intro v h2 w2 hle2 hp2 hs)
  subst hp2
  have hS := hS.mono hle2
  refine Zrun ?_
  refine RW.val (Y.sliceLo T rfl rfl rfl rfl ?_ ?_) rfl ?_
  · omega
  · omega
  have hT2 : IntsAt h2 (.slice (subAd ad (q + 1) cp 1) (l.length - (q + 1)) (cp - (q + 1))) (l.drop (q + 1)) := by
    have := hS.from (q + 1) (by omega)
    rw [Nat.mul_one, ← List.map_drop] at this
    exact IntsAt.of_sl this
  (refine RW.call T hs rfl rfl rfl (product_con _ (l.drop (q + 1)) 1048576 _ _ hT2 (by simp; omega)) ?_; intro v h4 w4 hle4 hp4 hs)
  subst hp4
  have hS := hS.mono hle4
  refine Zrun ?_
  have hsp : splitSpec l (q : Int) = if (product (l.take q) 1048576).2 = 0 ∧ (product (l.drop (q + 1)) 1048576).2 = 0 then ((product (l.take q) 1048576).1, l.getD q 0, (product (l.drop (q + 1)) 1048576).1, true) else (0, 0, 0, false) := by
    unfold splitSpec splitOk
    simp only [Int.toNat_natCast]
    have e1 : goodS l = true := (goodS_iff l).2 hg
    have e2 : (0 : Int) ≤ (q : Int) := by omega
    have e3 : (q : Int) < (l.length : Int) := by omega
    simp only [e1, e2, e3, true_and]
  refine RW.gd rfl rfl (fun h5 => ?_) (fun h5 => ?_)
  · refine Zrun ?_
    exact retQ_ret [_, _, _, _] h4 ⟨rfl, rfl, rfl, rfl, trivial⟩ hs (by rw [hsp, if_neg (fun e => h5 e.1)]; rfl)
  have h5 := Decidable.of_not_not h5
  refine Zrun ?_
  refine CW.condD rfl (fun h6 => ?_) (fun h6 => ?_)
  · refine Zrun ?_
    exact retQ_ret [_, _, _, _] h4 ⟨rfl, rfl, rfl, rfl, trivial⟩ hs (by rw [hsp, if_neg (fun e => h6 e.2)]; rfl)
  have h6 := Decidable.of_not_not h6
  refine Zrun ?_
  refine CW.regionQ T hs (Zqrun ?_) (by kernel_rfl)
  intro w hs
  refine Zrun ?_
  exact retQ_ret [_, _, _, _] h4 ⟨rfl, rfl, rfl, rfl, trivial⟩ hs (by rw [hsp, if_pos ⟨h5, h6⟩]; rfl)

theorem with_con (s : Value) (l : List Int) (axis n : Int) (w : World) (h : GHeap) (hl : IntsAt h s l) (hm : l.length ≤ 17592186044416) : Con Tryz.prog 112 [s, .int .i64 axis, .int .i64 n] w h
    (fun h' v => ∃ u, v = .tuple #[u, .bool (withSpec l axis n).2] ∧ IntsAt h' u (withSpec l axis n).1) := by
  have hl' := hl
  obtain ⟨ad, cp, rfl, hS⟩ := hl
  have bad : ¬ (0 ≤ axis ∧ axis < l.length ∧ goodS (l.set axis.toNat n) = true) → withSpec l axis n = ([], false) := fun hn => by unfold withSpec; rw [if_neg hn]
  refine Con.of_body Tryz.func112 rfl Tryz.ntmps112 rfl rfl ?_
  intro hs
  refine Zrun ?_
  refine RW.gd rfl rfl (fun h2 => ?_) (fun h2 => ?_)
  · have hb := bad (fun e => by have := e.1; omega)
    refine Zrun ?_
    exact retQ_ret [_, _] h ⟨rfl, rfl, trivial⟩ hs (by rw [hb]; exact ⟨_, rfl, IntsAt.nil _⟩)
  refine Zrun ?_
  refine CW.condD rfl (fun h3 => ?_) (fun h3 => ?_)
  · have hb := bad (fun e => by have := e.2.1; omega)
    refine Zrun ?_
    exact retQ_ret [_, _] h ⟨rfl, rfl, trivial⟩ hs (by rw [hb]; exact ⟨_, rfl, IntsAt.nil _⟩)
  obtain ⟨q, rfl⟩ := Int.eq_ofNat_of_zero_le (show 0 ≤ axis by omega)
  have hq : q < l.length := by omega
  refine Zrun ?_
  (refine RW.callM T hs rfl rfl rfl (cloneInt_conM ad cp l _ _ _ _ _ hS hm) ?_; intro v h1 O1 w1 hle1 hp1 hs)
  obtain ⟨rfl, ad', cp', rfl, rfl⟩ := hp1
  refine Zrun ?_
  refine RW.val (Y.idxRN T hs 0 rfl rfl rfl rfl rfl rfl ?_) rfl ?_
  · omega
  refine RW.st1 T hs 0 rfl rfl rfl rfl rfl rfl rfl (by omega) ?_
  intro w2 hs
  obtain ⟨h3, hle3, hs, hS3⟩ := hs.freeze
  simp only [map_set_int] at hS3
  have hI3 : IntsAt h3 (.slice ad' l.length cp') (l.set q n) := IntsAt.of_sl hS3
  refine Zrun ?_
  (refine RW.call T hs rfl rfl rfl (good_con _ _ _ _ hI3 (by simp; omega)) ?_; intro v h4 w4 hle4 hp4 hs)
  subst hp4
  refine Zrun ?_
  refine CW.condD rfl (fun h5 => ?_) (fun h5 => ?_)
  · have hb := bad (fun e => h5 ((goodS_iff _).1 e.2.2))
    refine Zrun ?_
    exact retQ_ret [_, _] h4 ⟨rfl, rfl, trivial⟩ hs (by rw [hb]; exact ⟨_, rfl, IntsAt.nil _⟩)
  · have h5 := Decidable.of_not_not h5
    refine Zrun ?_
    refine retQ_ret [_, _] h4 ⟨rfl, rfl, trivial⟩ hs ?_
    have hw : withSpec l (q : Int) n = (l.set q n, true) := by
      unfold withSpec
      rw [if_pos ⟨by omega, by omega, (goodS_iff _).2 h5⟩]
      simp
    rw [hw]
    exact ⟨_, rfl, hI3.mono hle4⟩
end Go.Proofs.YtmojpbfkpggjhaaGreatDoor

/-
  Contracts of package base: an axis for all, parts picked along it, parts so often as counts say. No statement is proved here.
-/
namespace Go.Proofs.YtmojpbfkpggjhaaGreatDoor
open Go Go.RowKit
set_option linter.unusedVariables false
set_option linter.unusedSimpArgs false
set_option maxHeartbeats 4000000
attribute [local irreducible] CW RW QW SW HW ConM retM heldQ calmQ elemP thenQ blockQ loopQ joinQ retQ Yields Con Sl zF magR unitF truncF fwF wholeF tidySpec elemQ rankF leastN tidyW
set_option maxHeartbeats 4000000

theorem sq_cls' {α : Type} {v : VecD α} (h : v.cls ≠ 0) : v.sq = v := by
  unfold VecD.sq
  rw [if_neg (fun e => h e.1)]
theorem pick_sq' {α : Type} (v : VecD α) (at_ : List Int) (nb : α) : (v.pick at_ nb).sq = v.pick at_ nb := by
  have hb := leastN_bounds (at_.map v.num)
  unfold VecD.pick
  split
  · exact sq_cls' (show (1 : Int) ≠ 0 by decide)
  · split
    · exact sq_cls' (show (2 : Int) ≠ 0 by decide)
    · exact sq_nums _ _ (by omega) (by omega)
def axS (s : List Int) : List Int := if s = [] then [1] else s
def axN (s : List Int) (first : Bool) : Nat := if first = true then 0 else (axS s).length - 1
theorem baseAlong_con (k : Nat) (cs : List Value) (a : ArrD (AD k)) (first : Bool) (w : World) (h : GHeap) (ha : ArrAt (k + 1) h cs a) : Con Tryz.prog 44 [.agg cs.toArray, .bool first] w h (fun h' u => ∃ s' vc, u = .tuple #[.agg (s' :: vc).toArray, .int .i64 (axN a.shape first : Nat)] ∧ IntsAt h' s' (axS a.shape) ∧ VecAt (ArrAt k) h' vc a.vec) := by
  obtain ⟨_, vc, rfl, ⟨ad, cp, rfl, hS⟩, hv⟩ := ha
  have hv' := hv
  have hcap := hS.caps
  obtain ⟨wv, nv, sm, il, fl, ch, bx, ⟨rfl, hoc⟩, -⟩ := hv
  refine Con.of_body Tryz.func44 rfl Tryz.ntmps44 rfl rfl ?_
  intro hs
  refine Zrun ?_
  (refine RW.boxN hs rfl rfl ?_; intro b1 w1 hs)
  refine Zrun ?_
  (refine RW.allocN T hs rfl rfl rfl rfl ?_; intro b2 w2 hs)
  refine Zerun ?_
  refine CW.meet (fun u : (Option Addr × Nat) × GHeap => [(1, .bool first), (2, .pointer (some ⟨b1, 0, none⟩)), (4, .pointer (some ⟨b2, 0, none⟩))]) (fun u w' => GLe h u.2 ∧ Sl u.2 1 u.1.1 (axS a.shape).length u.1.2 ((axS a.shape).map (Value.int .i64)) ∧ Sees w h u.2 [⟨some ⟨b2, 0, none⟩, 1, 1, 40, 9, .slice none 0 0 :: vecCells 0 (.slice none 0 0) 0 (.slice none 0 0) (.slice none 0 0) (.slice none 0 0) (.slice none 0 0) (.slice none 0 0)⟩, ⟨some ⟨b1, 0, none⟩, 1, 1, 40, 9, .slice u.1.1 (axS a.shape).length u.1.2 :: vecCells a.vec.kind wv nv sm il fl ch bx⟩] w') ?_ ?_
  · by_cases e : a.shape = []
    · have hx : axS a.shape = [1] := by unfold axS; rw [if_pos e]
      have hl0 : a.shape.length = 0 := by rw [e]; rfl
      rw [hx, hl0]
      refine Zerun ?_
      (refine RW.lit T hs (vs := [.int .i64 1]) (cs := [.int .i64 1]) rfl rfl rfl rfl (by simp [Value.cells]) rfl rfl rfl rfl rfl ?_; intro b3 w3 hs)
      obtain ⟨h3, hle3, hs, hS3⟩ := hs.freeze
      refine Zerun ?_
      refine RW.val (Y.build T rfl rfl rfl rfl rfl rfl rfl) rfl ?_
      (refine RW.storeAll T hs 1 rfl rfl rfl rfl rfl rfl (by show (true && (vecCells a.vec.kind wv nv sm il fl ch bx).all Value.oneCell') = true; rw [hoc]; rfl) rfl ?_; intro w4 hs)
      refine Zerun ?_
      exact joinQ_meet ((some ⟨b3, 0, none⟩, 1), h3) ⟨rfl, rfl, rfl, trivial⟩ ⟨hle3, hS3, hs⟩
    · have hx : axS a.shape = a.shape := by unfold axS; rw [if_neg e]
      have hl0 : (a.shape.length : Int) ≠ 0 := by
        intro h0
        exact e (List.eq_nil_of_length_eq_zero (by omega))
      rw [hx]
      refine Zerun ?_
      exact joinQ_meet ((ad, cp), h) ⟨rfl, rfl, rfl, trivial⟩ ⟨GLe.refl _, hS, hs⟩
  rintro ⟨⟨ad5, cp5⟩, h5⟩ w5 ⟨g5, hS5, hs⟩
  dsimp only at g5 hS5 hs ⊢
  have hpos : 1 ≤ (axS a.shape).length := by
    unfold axS
    by_cases e : a.shape = []
    · rw [if_pos e]; decide
    · rw [if_neg e]; exact List.length_pos_iff.2 e
  have hcap5 := hS5.caps
  cases first with
  | true =>
    refine Zerun ?_
    (refine RW.storeAll T hs 0 rfl rfl rfl rfl rfl rfl (by show (true && (vecCells a.vec.kind wv nv sm il fl ch bx).all Value.oneCell') = true; rw [hoc]; rfl) rfl ?_; intro w6 hs)
    refine Zerun ?_
    refine retQ_ret [_, _] h5 ⟨resN T hs 0 rfl rfl rfl rfl rfl rfl, rfl, trivial⟩ hs.dropAll ⟨_, _, ?_, ⟨ad5, cp5, rfl, hS5⟩, hv'.mono (ArrAt.mono k) g5⟩
    unfold axN
    rw [if_pos rfl]
    rfl
  | false =>
    refine Zerun ?_
    refine CW.regionR T 1 1 hs rfl rfl ?_
    intro w7 hs
    refine HW.takeR (fuel := 6) 0 rfl (fun _ _ ka kb _ hs hka hkb => Y.loadRowN T hs kb hkb rfl rfl rfl rfl rfl rfl) ⟨_, _, 1, 1, hs, rfl, rfl⟩ rfl (by kernel_rfl) (by kernel_rfl) (by kernel_rfl) ?_
    refine HW.takeR (fuel := 5) 1 rfl (fun _ _ ka kb _ hs hka hkb => Y.fieldAddr T rfl rfl rfl rfl rfl) ⟨_, _, 1, 1, hs, rfl, rfl⟩ rfl (by kernel_rfl) (by kernel_rfl) (by kernel_rfl) ?_
    refine HW.takeR (fuel := 4) 2 rfl (fun _ _ ka kb _ hs hka hkb => Y.loadRow1 T hs kb hkb rfl rfl rfl rfl) ⟨_, _, 1, 1, hs, rfl, rfl⟩ rfl (by kernel_rfl) (by kernel_rfl) (by kernel_rfl) ?_
    refine HW.takeR (fuel := 3) 3 rfl (fun _ _ ka kb _ hs hka hkb => Y.len T rfl rfl) ⟨_, _, 1, 1, hs, rfl, rfl⟩ rfl (by kernel_rfl) (by kernel_rfl) (by kernel_rfl) ?_
    refine HW.takeR (fuel := 2) 4 rfl (fun _ _ ka kb _ hs hka hkb => Y.sub rfl rfl ⟨by omega, by omega⟩) ⟨_, _, 1, 1, hs, rfl, rfl⟩ rfl (by kernel_rfl) (by kernel_rfl) (by kernel_rfl) ?_
    refine HW.one (fuel := 1) 5 rfl (by kernel_rfl) ?_
    (refine RW.storeAll T hs 0 rfl rfl rfl rfl rfl rfl (by show (true && (vecCells a.vec.kind wv nv sm il fl ch bx).all Value.oneCell') = true; rw [hoc]; rfl) rfl ?_; intro w8 hs)
    refine RW.nil ?_
    refine heldQ_normal ⟨_, _, 1, 1, hs, rfl, rfl⟩ ?_
    refine HW.takeR (fuel := 0) 6 rfl (fun _ _ ka kb _ hs hka hkb => Y.assign rfl) ⟨_, _, 1, 1, hs, rfl, rfl⟩ rfl (by kernel_rfl) (by kernel_rfl) (by kernel_rfl) ?_
    refine HW.done (by kernel_rfl) ?_
    refine calmQ_normal ?_
    refine Zerun ?_
    refine retQ_ret [_, _] h5 ⟨resN T hs 0 rfl rfl rfl rfl rfl rfl, seti (by unfold axN; rw [if_neg (by decide)]; omega), trivial⟩ hs.dropAll ⟨_, _, rfl, ⟨ad5, cp5, rfl, hS5⟩, hv'.mono (ArrAt.mono k) g5⟩
theorem basePicked_con (k : Nat) (cs : List Value) (a : ArrD (AD (k + 1))) (v1 : Value) (K outer n inner : Nat) (at_ s' : List Int) (most : Int) (w : World) (h : GHeap) (ha : ArrAt (k + 2) h cs a) (hat : IntsAt h v1 at_) (hsl : a.shape.length ≤ 8) (hw : withSpec a.shape K at_.length = (s', true)) (hp : (product s' most).2 = 0) (hs' : splitSpec a.shape K = ((outer : Int), (n : Int), (inner : Int), true)) (hal : at_.length ≤ 1048576) (hou : outer ≤ 1048576) (hm : outer * (at_.length * inner) ≤ 1048576) (hB : outer * n * inner ≤ 1099511627776) (hBn : outer * n ≤ 1099511627776) (hvm : a.vec.len ≤ 1048576) (hk0 : a.vec.kind ≠ 0) (hne : newE s' (a.vec.pick (alongL outer n inner at_) (blankA k)) = 0) :
    Con Tryz.prog 46 [.agg cs.toArray, .int .i64 (K : Int), v1, .int .i64 most] w h (fun h' u => ∃ cs', u = .tuple #[.agg cs'.toArray, .int .i64 0] ∧ ArrAt (k + 2) h' cs' (⟨s', a.vec.pick (alongL outer n inner at_) (blankA k)⟩ : ArrD (AD (k + 1)))) := by
  have hat' := hat
  obtain ⟨_, vc, rfl, ⟨ad, cp, rfl, hS⟩, hv⟩ := ha
  obtain ⟨ad1, cp1, rfl, hS1⟩ := hat
  have hv' := hv
  have hI : ∀ h', GLe h h' → IntsAt h' (.slice ad a.shape.length cp) a.shape := fun h' hl => ⟨ad, cp, rfl, hS.mono hl⟩
  obtain ⟨wv, nv, sm, il, fl, ch, bx, ⟨rfl, hoc⟩, -⟩ := hv
  have hsz : s'.length ≤ 8 := by
    unfold withSpec at hw
    split at hw
    · injection hw with e1 e2
      rw [← e1, List.length_set]; exact hsl
    · injection hw with e1 e2; cases e2
  refine Con.of_body Tryz.func46 rfl Tryz.ntmps46 rfl rfl ?_
  intro hs
  refine Zrun ?_
  (refine RW.boxN hs rfl rfl ?_; intro b1 w1 hs)
  refine Zrun ?_
  (refine RW.allocN T hs rfl rfl rfl rfl ?_; intro b2 w2 hs)
  refine Zerun ?_
  (refine RW.call T hs rfl rfl rfl (with_con _ a.shape K at_.length _ _ (hI _ (GLe.refl _)) (by omega)) ?_; intro v h3 w3 hle3 hp3 hs)
  obtain ⟨u3, rfl, hI3⟩ := hp3
  rw [hw] at hI3 ⊢
  have hI3' := hI3
  obtain ⟨ad3, cp3, rfl, _⟩ := hI3
  refine Zerun ?_
  (refine RW.call T hs rfl rfl rfl (product_con _ s' most _ _ hI3' (by omega)) ?_; intro v h4 w4 hle4 hp4 hs)
  rw [hp] at hp4
  subst hp4
  have hI3' := hI3'.mono hle4
  have g4 := hle3.trans hle4
  refine Zerun ?_
  (refine RW.call T hs rfl rfl rfl (split_con _ a.shape K _ _ (hI _ g4) (by omega)) ?_; intro v h5 w5 hle5 hp5 hs)
  rw [hs'] at hp5
  subst hp5
  have hI3' := hI3'.mono hle5
  have g5 := g4.trans hle5
  refine Zerun ?_
  (refine RW.call T hs rfl rfl rfl (pickAlong_con (ArrAt.mono (k + 1)) (ArrAt.one (k + 1)) (ArrAt.siz (k + 1)) (blankA k) (fun w h => flatBlank_con (ArrAt.mono k) (ArrAt.one k) w h) _ a.vec _ outer n inner at_ _ _ (hv'.mono (ArrAt.mono (k + 1)) g5) (hat'.mono g5) hal hou hm hB hBn hvm hk0) ?_; intro v h6 w6 hle6 hp6 hs)
  obtain ⟨cs6, rfl, hv6⟩ := hp6
  have hI3' := hI3'.mono hle6
  refine Zerun ?_
  (refine RW.call T hs rfl rfl rfl (valueNew_con (ArrAt.mono (k + 1)) _ s' _ _ _ _ hI3' hv6) ?_; intro v h7 w7 hle7 hp7 hs)
  rw [hne, pick_sq'] at hp7
  obtain ⟨cs7, rfl, _, hone7, hgo7, _⟩ := hp7
  have hA7 := hgo7 rfl
  have hA7' : ArrAt (k + 2) h7 cs7 (⟨s', a.vec.pick (alongL outer n inner at_) (blankA k)⟩ : ArrD (AD (k + 1))) := hA7
  obtain ⟨_, vc7, rfl, ⟨ad7, cp7, rfl, _⟩, hv7⟩ := hA7
  obtain ⟨wv7, nv7, sm7, il7, fl7, ch7, bx7, ⟨rfl, hoc7⟩, -⟩ := hv7
  refine Zerun ?_
  (refine RW.storeAll T hs 0 rfl rfl rfl rfl rfl rfl (by show (Value.oneCell' (.slice ad7 s'.length cp7) && (vecCells _ wv7 nv7 sm7 il7 fl7 ch7 bx7).all Value.oneCell') = true; rw [hoc7]; rfl) rfl ?_; intro w8 hs)
  refine Zerun ?_
  exact retQ_ret [_, _] h7 ⟨resN T hs 0 rfl rfl rfl rfl rfl rfl, rfl, trivial⟩ hs.dropAll ⟨_, rfl, hA7'⟩
theorem baseCopy_con (k : Nat) (cc cs : List Value) (c a : ArrD (AD (k + 1))) (first : Bool) (ks : List Int) (outer n inner : Nat) (at_ s' : List Int) (most : Int) (w : World) (h : GHeap) (hT : TzTab h) (hc : ArrAt (k + 2) h cc c) (ha : ArrAt (k + 2) h cs a) (hcs : c.shape.length ≤ 1) (hck : c.vec.kind = 1 ∨ c.vec.kind = 2 ∨ c.vec.kind = 3) (hks : ks = c.vec.nums.map (fun x => (wholeF x).1)) (hkb : ∀ x ∈ ks, -9007199254740992 ≤ x ∧ x ≤ 9007199254740992) (hcm : c.vec.len ≤ 1048576) (hmost : 0 ≤ most ∧ most ≤ 1048576)
    (hsl : a.shape.length ≤ 8) (hn : (axS a.shape).getD (axN a.shape first) 0 = (n : Int)) (hn1 : n ≠ 1) (hn2 : n ≤ 1048576) (hat : copiesRes ks n most = (at_, 0)) (hw : withSpec (axS a.shape) (axN a.shape first : Nat) at_.length = (s', true)) (hp : (product s' most).2 = 0) (hs' : splitSpec (axS a.shape) (axN a.shape first : Nat) = ((outer : Int), (n : Int), (inner : Int), true)) (hal : at_.length ≤ 1048576) (hou : outer ≤ 1048576) (hm : outer * (at_.length * inner) ≤ 1048576) (hB : outer * n * inner ≤ 1099511627776) (hBn : outer * n ≤ 1099511627776) (hvm : a.vec.len ≤ 1048576) (hk0 : a.vec.kind ≠ 0) (hne : newE s' (a.vec.pick (alongL outer n inner at_) (blankA k)) = 0) :
    Con Tryz.prog 10 [.agg cc.toArray, .agg cs.toArray, .bool first, .int .i64 most] w h (fun h' u => ∃ cs', u = .tuple #[.agg cs'.toArray, .int .i64 0] ∧ ArrAt (k + 2) h' cs' (⟨s', a.vec.pick (alongL outer n inner at_) (blankA k)⟩ : ArrD (AD (k + 1)))) := by
  have ha' := ha
  have hc' := hc
  obtain ⟨_, vca, rfl, ⟨ada, cpa, rfl, hSa⟩, hva⟩ := ha
  obtain ⟨_, vcc, rfl, ⟨adc, cpc, rfl, hSc⟩, hvc⟩ := hc
  have hvc' := hvc
  obtain ⟨wa, na, sa, ia, fa, ga, xa, ⟨rfl, hoa⟩, -⟩ := hva
  obtain ⟨wc, nc, sc, ic, fc, gc, xc, ⟨rfl, hoc⟩, -⟩ := hvc
  have hKlt : axN a.shape first < (axS a.shape).length := by
    have hpos : 1 ≤ (axS a.shape).length := by
      unfold axS
      by_cases e : a.shape = []
      · rw [if_pos e]; decide
      · rw [if_neg e]; exact List.length_pos_iff.2 e
    unfold axN
    split <;> omega
  have hsx : (axS a.shape).length ≤ 8 := by
    unfold axS
    split
    · decide
    · exact hsl
  refine Con.of_body Tryz.func10 rfl Tryz.ntmps10 rfl rfl ?_
  intro hs
  refine Zrun ?_
  (refine RW.boxN hs rfl rfl ?_; intro b1 w1 hs)
  refine Zrun ?_
  (refine RW.boxN hs rfl rfl ?_; intro b2 w2 hs)
  refine Zrun ?_
  (refine RW.allocN T hs rfl rfl rfl rfl ?_; intro b3 w3 hs)
  refine Zerun ?_
  (refine RW.call T hs rfl rfl rfl (valueRank_con (R := ArrAt (k + 1)) _ c _ _ hc') ?_; intro v h4 w4 hle4 hp4 hs)
  subst hp4
  have ha' := ArrAt.mono (k + 2) _ _ _ _ hle4 ha'
  have hvc' := hvc'.mono (ArrAt.mono (k + 1)) hle4
  have hT := hT.mono hle4
  refine Zerun ?_
  (refine RW.call T hs rfl rfl rfl (baseAlong_con (k + 1) _ a first _ _ ha') ?_; intro v h5 w5 hle5 hp5 hs)
  obtain ⟨s5, vc5, rfl, hI5, hv5⟩ := hp5
  have hI5' := hI5
  have hv5' := hv5
  obtain ⟨ad5, cp5, rfl, hS5⟩ := hI5
  obtain ⟨wv, nv, sm, il, fl, ch, bx, ⟨rfl, ho5⟩, -⟩ := hv5
  have hvc' := hvc'.mono (ArrAt.mono (k + 1)) hle5
  have hT := hT.mono hle5
  have hgn := map_get (Value.int .i64) (axS a.shape) (axN a.shape first) 0 hKlt
  refine Zerun ?_
  (refine RW.storeAll T hs 1 rfl rfl rfl rfl rfl rfl (by show (Value.oneCell' (.slice ad5 (axS a.shape).length cp5) && (vecCells _ wv nv sm il fl ch bx).all Value.oneCell') = true; rw [ho5]; rfl) rfl ?_; intro w6 hs)
  refine Zerun ?_
  rw [hn]
  have hn1' : (n : Int) ≠ 1 := by omega
  refine Zerun ?_
  (refine RW.call T hs rfl rfl rfl (pickCopies_con (ArrAt.mono (k + 1)) _ c.vec n most ks _ _ hT hvc' hcm hck hks hkb hn2 hmost) ?_; intro v h7 w7 hle7 hp7 hs)
  rw [hat] at hp7
  obtain ⟨s7, rfl, hI7⟩ := hp7
  have hI7' := hI7
  obtain ⟨ad7, cp7, rfl, _⟩ := hI7
  have hS7 := hS5.mono hle7
  refine Zerun ?_
  rw [hn]
  refine Zerun ?_
  have hA7 : ArrAt (k + 2) h7 (.slice ad5 (axS a.shape).length cp5 :: vecCells a.vec.kind wv nv sm il fl ch bx) (⟨axS a.shape, a.vec⟩ : ArrD (AD (k + 1))) := ⟨_, _, rfl, ⟨ad5, cp5, rfl, hS7⟩, hv5'.mono (ArrAt.mono (k + 1)) hle7⟩
  (refine RW.call T hs rfl rfl rfl (basePicked_con k _ (⟨axS a.shape, a.vec⟩ : ArrD (AD (k + 1))) _ (axN a.shape first) outer n inner at_ s' most _ _ hA7 hI7' hsx hw hp hs' hal hou hm hB hBn hvm hk0 hne) ?_; intro v h8 w8 hle8 hp8 hs)
  obtain ⟨cs8, rfl, hA8⟩ := hp8
  have hA8' := hA8
  obtain ⟨_, vc8, rfl, ⟨ad8, cp8, rfl, _⟩, hv8⟩ := hA8
  obtain ⟨wv8, nv8, sm8, il8, fl8, ch8, bx8, ⟨rfl, hoc8⟩, -⟩ := hv8
  refine Zerun ?_
  (refine RW.storeAll T hs 0 rfl rfl rfl rfl rfl rfl (by show (Value.oneCell' (.slice ad8 s'.length cp8) && (vecCells _ wv8 nv8 sm8 il8 fl8 ch8 bx8).all Value.oneCell') = true; rw [hoc8]; rfl) rfl ?_; intro w9 hs)
  refine Zerun ?_
  exact retQ_ret [_, _] h8 ⟨resN T hs 0 rfl rfl rfl rfl rfl rfl, rfl, trivial⟩ hs.dropAll ⟨_, rfl, hA8'⟩
end Go.Proofs.YtmojpbfkpggjhaaGreatDoor

/-
  Contracts of the law's own functions of layer 27: good plain arrays, arrays shown, the example. No statement is proved here.
-/
namespace Go.Proofs.YtmojpbfkpggjhaaGreatDoor
open Go Go.RowKit
set_option linter.unusedVariables false
set_option linter.unusedSimpArgs false
set_option maxHeartbeats 4000000
attribute [local irreducible] CW RW QW SW HW ConM retM heldQ calmQ elemP thenQ blockQ loopQ joinQ retQ Yields Con Sl zF magR unitF truncF fwF wholeF tidySpec elemQ rankF leastN tidyW
set_option maxHeartbeats 4000000

theorem shows27_con (k : Nat) (cs cp : List Value) (a : AD (k + 1)) (p : PD (k + 1)) (w : World) (h : GHeap) (ha : ArrAt (k + 1) h cs a) (hp : PlainAt (k + 1) h cp p) (hg : good (k + 1) 40 a) (he : plain (k + 1) a = p) (ht : tdy (k + 1) p) : Con Tryz.prog 16 [.agg cs.toArray, .int .i64 0, .agg cp.toArray, .int .i64 0] w h (fun _ u => u = .bool true) := by
  have ha' := ha
  have hp' := hp
  obtain ⟨s, vc, rfl, ⟨ad, cap, rfl, _⟩, hv⟩ := ha
  obtain ⟨wv, nv, sm, il, fl, ch, bx, ⟨rfl, hoc⟩, _⟩ := hv
  obtain ⟨s2, it2, rfl, ⟨ad2, cp2, rfl, _⟩, ⟨ad3, cp3, xs3, rfl, _, _⟩⟩ := hp
  refine Con.of_body Tryz.func16 rfl Tryz.ntmps16 rfl rfl ?_
  intro hs
  refine Zrun ?_
  (refine RW.boxN hs rfl rfl ?_; intro b1 w1 hs)
  refine Zrun ?_
  (refine RW.boxN hs rfl rfl ?_; intro b2 w2 hs)
  refine Zerun ?_
  refine CW.regionO T hs ?_
  intro w5 hs
  refine HW.takeS (fuel := 8) 0 rfl (fun _ _ hs => Y.loadRowN T hs 1 rfl rfl rfl rfl rfl rfl rfl) hs rfl (by kernel_rfl) (by kernel_rfl) (by kernel_rfl) ?_
  refine HW.one (fuel := 7) 1 rfl (by kernel_rfl) ?_
  (refine RW.call T hs rfl rfl rfl (valueGood_con (k + 1) _ a _ _ ha') ?_; intro v h25 w25 hle25 hp25 hs)
  subst hp25
  rw [decB_of hg]
  have ha' := ArrAt.mono (k + 1) _ _ _ _ hle25 ha'
  have hp' := PlainAt.mono (k + 1) _ _ _ _ hle25 hp'
  refine RW.nil ?_
  refine heldQ_normal ⟨_, hs⟩ ?_
  refine HW.takeS (fuel := 6) 2 rfl (fun _ _ hs => Y.move rfl) hs rfl (by kernel_rfl) (by kernel_rfl) (by kernel_rfl) ?_
  refine HW.takeSY (fuel := 5) 3 rfl rfl rfl (fun _ _ hs => Y.loadRowN T hs 1 rfl rfl rfl rfl rfl rfl rfl) hs rfl (by kernel_rfl) (by kernel_rfl) (by kernel_rfl) ?_
  refine HW.takeSY (fuel := 4) 5 rfl rfl rfl (fun _ _ hs => Y.loadRowN T hs 0 rfl rfl rfl rfl rfl rfl rfl) hs rfl (by kernel_rfl) (by kernel_rfl) (by kernel_rfl) ?_
  refine HW.one (fuel := 3) 4 rfl (by kernel_rfl) ?_
  refine RW.guardYes rfl rfl ?_
  (refine RW.call T hs rfl rfl rfl (plainV_con (k + 1) _ a _ _ ha' (good_sml (k + 1) 40 a hg)) ?_; intro v h28 w28 hle28 hp28 hs)
  obtain ⟨cs28, rfl, hq28⟩ := hp28
  rw [he] at hq28
  have hp' := PlainAt.mono (k + 1) _ _ _ _ hle28 hp'
  refine RW.nil ?_
  refine heldQ_normal ⟨_, hs⟩ ?_
  refine HW.one (fuel := 2) 6 rfl (by kernel_rfl) ?_
  refine RW.guardYes rfl rfl ?_
  (refine RW.call T hs rfl rfl rfl (refSame_con (k + 1) _ _ p p _ _ hq28 hp' ht ht) ?_; intro v h30 w30 hle30 hp30 hs)
  subst hp30
  rw [eqB_of (show p = p from rfl)]
  have hp' := PlainAt.mono (k + 1) _ _ _ _ hle30 hp'
  refine RW.nil ?_
  refine heldQ_normal ⟨_, hs⟩ ?_
  refine HW.takeS (fuel := 1) 7 rfl (fun _ _ hs => Y.pickT rfl rfl) hs rfl (by kernel_rfl) (by kernel_rfl) (by kernel_rfl) ?_
  refine HW.takeS (fuel := 0) 8 rfl (fun _ _ hs => Y.assign rfl) hs rfl (by kernel_rfl) (by kernel_rfl) (by kernel_rfl) ?_
  refine HW.done (by kernel_rfl) ?_
  refine calmQ_normal ?_
  refine Zerun ?_
  exact retQ_ret [_] h30 ⟨rfl, trivial⟩ hs.dropAll rfl
theorem fine27_con (k : Nat) (cs : List Value) (p : PD (k + 1)) (w : World) (h : GHeap) (hp : PlainAt (k + 1) h cs p) : Con Tryz.prog 8 [.agg cs.toArray] w h (fun _ u => ∃ b, u = .bool b ∧ (b = true → chk (k + 1) 40 p = 0 ∧ (PlainD.shape (α := PD k) p).length ≤ 8 ∧ (PlainD.items (α := PD k) p).length ≤ 3000)) := by
  have hp' := hp
  obtain ⟨s, it, rfl, ⟨ad0, cp0, rfl, hS0⟩, ⟨ad, cp, xs, rfl, hS, _⟩⟩ := hp
  have hcap := hS0.caps
  refine Con.of_body Tryz.func8 rfl Tryz.ntmps8 rfl rfl ?_
  intro hs
  refine Zrun ?_
  (refine RW.boxN hs rfl rfl ?_; intro b1 w1 hs)
  refine Zerun ?_
  (refine RW.call T hs rfl rfl rfl (refCountB_con 3000 k _ p _ _ hp') ?_; intro v h2 w2 hle2 hp2 hs)
  obtain ⟨r, rfl, hr⟩ := hp2
  by_cases c1 : r ≤ 1500
  · by_cases c2 : (PlainD.shape (α := PD k) p).length ≤ 8
    · refine Zerun ?_
      (refine RW.call T hs rfl rfl rfl (refCheck_con (k + 1) _ p _ _ (PlainAt.mono (k + 1) _ _ _ _ hle2 hp')) ?_; intro v h3 w3 hle3 hp3 hs)
      subst hp3
      refine Zerun ?_
      refine retQ_ret [_] h3 ⟨rfl, trivial⟩ hs.dropAll ⟨_, rfl, fun e => ?_⟩
      have hc := of_decide_eq_true e
      have hh := hr hc (by omega)
      exact ⟨hc, c2, by omega⟩
    · refine Zerun ?_
      exact retQ_ret [_] h2 ⟨rfl, trivial⟩ hs.dropAll ⟨_, rfl, fun e => by cases e⟩
  · refine Zerun ?_
    exact retQ_ret [_] h2 ⟨rfl, trivial⟩ hs.dropAll ⟨_, rfl, fun e => by cases e⟩
theorem tidyW_of {x : Nat} (h : tidyF x) : tidyW x = x := by unfold tidyW; rw [tidySpec_of _ h]
theorem tidyL {l : List Nat} (h : ∀ u ∈ l, tidyF u) : l.map tidyW = l := by
  conv => rhs; rw [← List.map_id l]
  apply List.map_congr_left
  intro u hu
  exact tidyW_of (h u hu)
abbrev w27_1 : Nat := 4607182418800017408
theorem fwq_1 : fwF 1 = w27_1 := by unfold fwF; decide
theorem tw_1 : tidyF w27_1 := by rw [← fwq_1]; exact (fwF_spec 1 (by omega)).1
abbrev w27_2 : Nat := 4611686018427387904
theorem fwq_2 : fwF 2 = w27_2 := by unfold fwF; decide
theorem tw_2 : tidyF w27_2 := by rw [← fwq_2]; exact (fwF_spec 2 (by omega)).1
abbrev w27_3 : Nat := 4613937818241073152
theorem fwq_3 : fwF 3 = w27_3 := by unfold fwF; decide
theorem tw_3 : tidyF w27_3 := by rw [← fwq_3]; exact (fwF_spec 3 (by omega)).1
abbrev w27_10 : Nat := 4621819117588971520
theorem fwq_10 : fwF 10 = w27_10 := by unfold fwF; decide
theorem tw_10 : tidyF w27_10 := by rw [← fwq_10]; exact (fwF_spec 10 (by omega)).1
abbrev w27_24 : Nat := 4627448617123184640
theorem fwq_24 : fwF 24 = w27_24 := by unfold fwF; decide
theorem tw_24 : tidyF w27_24 := by rw [← fwq_24]; exact (fwF_spec 24 (by omega)).1
abbrev w27_60 : Nat := 4633641066610819072
theorem fwq_60 : fwF 60 = w27_60 := by unfold fwF; decide
theorem tw_60 : tidyF w27_60 := by rw [← fwq_60]; exact (fwF_spec 60 (by omega)).1
abbrev w27_1500 : Nat := 4654311885213007872
theorem fwq_1500 : fwF 1500 = w27_1500 := by unfold fwF; decide
theorem tw_1500 : tidyF w27_1500 := by rw [← fwq_1500]; exact (fwF_spec 1500 (by omega)).1
abbrev w27_123 : Nat := 4638355772470722560
theorem fwq_123 : fwF 123 = w27_123 := by unfold fwF; decide
theorem tw_123 : tidyF w27_123 := by rw [← fwq_123]; exact (fwF_spec 123 (by omega)).1
abbrev w27_5 : Nat := 4617315517961601024
theorem fwq_5 : fwF 5 = w27_5 := by unfold fwF; decide
theorem tw_5 : tidyF w27_5 := by rw [← fwq_5]; exact (fwF_spec 5 (by omega)).1
abbrev w27_6 : Nat := 4618441417868443648
theorem fwq_6 : fwF 6 = w27_6 := by unfold fwF; decide
theorem tw_6 : tidyF w27_6 := by rw [← fwq_6]; exact (fwF_spec 6 (by omega)).1
abbrev w27_7 : Nat := 4619567317775286272
theorem fwq_7 : fwF 7 = w27_7 := by unfold fwF; decide
theorem tw_7 : tidyF w27_7 := by rw [← fwq_7]; exact (fwF_spec 7 (by omega)).1
abbrev w27_0 : Nat := 0
theorem fwq_0 : fwF 0 = w27_0 := by unfold fwF; decide
theorem tw_0 : tidyF w27_0 := by rw [← fwq_0]; exact (fwF_spec 0 (by omega)).1
theorem t27_3 : ∀ u ∈ [w27_1, w27_2, w27_3], tidyF u := by
  intro u hu
  simp only [List.mem_cons, List.not_mem_nil, or_false] at hu
  rcases hu with rfl | rfl | rfl
  · exact tw_1
  · exact tw_2
  · exact tw_3
theorem t27_11 : ∀ u ∈ [w27_24, w27_60], tidyF u := by
  intro u hu
  simp only [List.mem_cons, List.not_mem_nil, or_false] at hu
  rcases hu with rfl | rfl
  · exact tw_24
  · exact tw_60
theorem t27_21 : ∀ u ∈ [w27_1, w27_0, w27_2], tidyF u := by
  intro u hu
  simp only [List.mem_cons, List.not_mem_nil, or_false] at hu
  rcases hu with rfl | rfl | rfl
  · exact tw_1
  · exact tw_0
  · exact tw_2
theorem t27_24 : ∀ u ∈ [w27_5, w27_6, w27_7], tidyF u := by
  intro u hu
  simp only [List.mem_cons, List.not_mem_nil, or_false] at hu
  rcases hu with rfl | rfl | rfl
  · exact tw_5
  · exact tw_6
  · exact tw_7
theorem t27_42 : ∀ u ∈ [w27_1, w27_0], tidyF u := by
  intro u hu
  simp only [List.mem_cons, List.not_mem_nil, or_false] at hu
  rcases hu with rfl | rfl
  · exact tw_1
  · exact tw_0
theorem t27_49 : ∀ u ∈ [w27_5, w27_7, w27_7], tidyF u := by
  intro u hu
  simp only [List.mem_cons, List.not_mem_nil, or_false] at hu
  rcases hu with rfl | rfl | rfl
  · exact tw_5
  · exact tw_7
  · exact tw_7
theorem numsA_pick' {α : Type} (N : List Nat) (at_ : List Int) (nb : α) (N' : List Nat) (h : at_.map (VecD.num (⟨leastN N, N, [], []⟩ : VecD α)) = N') : (⟨leastN N, N, [], []⟩ : VecD α).pick at_ nb = ⟨leastN N', N', [], []⟩ := by
  have hb := leastN_bounds N
  unfold VecD.pick
  rw [if_neg (by dsimp only; omega), if_neg (by dsimp only; omega), h]
theorem kind27 {α : Type} (zs : List Int) (N : List Nat) (he : zs.map fwF = N) (h : ∀ n ∈ zs, -9007199254740992 ≤ n ∧ n ≤ 9007199254740992) : (⟨leastN N, N, [], []⟩ : VecD α).kind = 1 ∨ (⟨leastN N, N, [], []⟩ : VecD α).kind = 2 ∨ (⟨leastN N, N, [], []⟩ : VecD α).kind = 3 := by
  subst he
  have hb := leastN_bounds (zs.map fwF)
  have h3 := fw_rank zs h
  dsimp only
  omega
theorem whole27 {α : Type} (zs : List Int) (N : List Nat) (he : zs.map fwF = N) (h : ∀ n ∈ zs, -9007199254740992 ≤ n ∧ n ≤ 9007199254740992) : (⟨leastN N, N, [], []⟩ : VecD α).nums.map (fun u => (wholeF u).1) = zs := by
  subst he
  show (zs.map fwF).map (fun u => (wholeF u).1) = zs
  rw [List.map_map]
  conv => rhs; rw [← List.map_id zs]
  apply List.map_congr_left
  intro u hu
  show (wholeF (fwF u)).1 = u
  rw [wholeF_fw u (h u hu)]
theorem in27b : ∀ n ∈ ([24, 60] : List Int), -9007199254740992 ≤ n ∧ n ≤ 9007199254740992 := by decide
theorem bas27 : ∀ n ∈ ([24, 60] : List Int), 1 ≤ n ∧ n ≤ 9007199254740992 := by decide
theorem in27c : ∀ n ∈ ([1, 0, 2] : List Int), -9007199254740992 ≤ n ∧ n ≤ 9007199254740992 := by decide
theorem cop27 : copiesRes [1, 0, 2] 3 99 = ([0, 2, 2], 0) := by decide
theorem wit27 : withSpec (axS [3]) ((axN [3] false : Nat) : Int) (([0, 2, 2] : List Int).length : Nat) = ([3], true) := by decide
theorem spl27 : splitSpec (axS [3]) ((axN [3] false : Nat) : Int) = (((1 : Nat) : Int), ((3 : Nat) : Int), ((1 : Nat) : Int), true) := by decide
theorem knz27 {α : Type} {N : List Nat} : (⟨leastN N, N, [], []⟩ : VecD α).kind ≠ 0 := by have := leastN_bounds N; dsimp only; omega
theorem one27 : (⟨leastN [w27_1500], [w27_1500], [], []⟩ : VecD (AD 1)).whole 0 = (1500, true) := by
  have hk := kind27 (α := AD 1) [1500] [w27_1500] (by rw [← fwq_1500]; rfl) (by decide)
  unfold VecD.whole
  rw [if_pos ⟨hk, by decide, by decide⟩]
  show ((wholeF w27_1500).1, true) = _
  rw [← fwq_1500, wholeF_fw 1500 (by omega)]
theorem pic27v : (⟨leastN [w27_5, w27_6, w27_7], [w27_5, w27_6, w27_7], [], []⟩ : VecD (AD 1)).pick (alongL 1 3 1 [0, 2, 2]) (blankA 0) = ⟨leastN [w27_5, w27_7, w27_7], [w27_5, w27_7, w27_7], [], []⟩ := by
  rw [show alongL 1 3 1 [0, 2, 2] = [0, 2, 2] by decide]
  exact numsA_pick' _ _ _ _ rfl
theorem pic27 : (⟨[3], (ArrD.vec (⟨[3], ⟨leastN [w27_5, w27_6, w27_7], [w27_5, w27_6, w27_7], [], []⟩⟩ : ArrD (AD 1))).pick (alongL 1 3 1 [0, 2, 2]) (blankA 0)⟩ : ArrD (AD 1)) = ⟨[3], ⟨leastN [w27_5, w27_7, w27_7], [w27_5, w27_7, w27_7], [], []⟩⟩ := congrArg (ArrD.mk [3]) pic27v
theorem new27 : newE [3] ((ArrD.vec (⟨[3], ⟨leastN [w27_5, w27_6, w27_7], [w27_5, w27_6, w27_7], [], []⟩⟩ : ArrD (AD 1))).pick (alongL 1 3 1 [0, 2, 2]) (blankA 0)) = 0 := by
  show newE [3] ((⟨leastN [w27_5, w27_6, w27_7], [w27_5, w27_6, w27_7], [], []⟩ : VecD (AD 1)).pick (alongL 1 3 1 [0, 2, 2]) (blankA 0)) = 0
  rw [pic27v]
  unfold newE
  rw [if_neg (by decide), if_neg knz27, if_neg (by decide)]
theorem x27 : ∀ i : Nat, i < 3 → (⟨leastN [w27_10], [w27_10], [], []⟩ : VecD (AD 1)).num (if (⟨leastN [w27_10], [w27_10], [], []⟩ : VecD (AD 1)).len = 1 then 0 else (i : Int)) = fwF 10 := by
  intro i _
  rw [if_pos (by show (1 : Nat) = 1; rfl), fwq_10]; rfl
theorem y27 : ∀ i : Nat, i < 3 → (⟨leastN [w27_1, w27_2, w27_3], [w27_1, w27_2, w27_3], [], []⟩ : VecD (AD 1)).num (if (⟨leastN [w27_1, w27_2, w27_3], [w27_1, w27_2, w27_3], [], []⟩ : VecD (AD 1)).len = 1 then 0 else (i : Int)) = fwF (([1, 2, 3] : List Int).getD i 0) := by
  intro i hi
  rw [if_neg (by show ¬ (3 : Nat) = 1; decide)]
  match i, hi with
  | 0, _ => exact fwq_1.symm
  | 1, _ => exact fwq_2.symm
  | 2, _ => exact fwq_3.symm
theorem s27 : ∀ i : Nat, i < 3 → ([0, 1, 12, 123] : List Int).getD (i + 1) 0 = ([0, 1, 12, 123] : List Int).getD i 0 * 10 + ([1, 2, 3] : List Int).getD i 0 ∧ (0 : Int) ≤ 10 ∧ (10 : Int) ≤ 9007199254740992 ∧ 0 ≤ ([1, 2, 3] : List Int).getD i 0 ∧ ([1, 2, 3] : List Int).getD i 0 ≤ 9007199254740992 ∧ ([0, 1, 12, 123] : List Int).getD i 0 * 10 ≤ 9007199254740992 := by
  intro i hi
  match i, hi with
  | 0, _ => decide
  | 1, _ => decide
  | 2, _ => decide
theorem r27 : ∀ i : Nat, i ≤ 3 → 0 ≤ ([0, 1, 12, 123] : List Int).getD i 0 ∧ ([0, 1, 12, 123] : List Int).getD i 0 ≤ 9007199254740992 := by
  intro i hi
  match i, hi with
  | 0, _ => decide
  | 1, _ => decide
  | 2, _ => decide
  | 3, _ => decide
theorem awake27_con (w : World) (h : GHeap) (hT : TzTab h) : Con Tryz.prog 9 [] w h (fun _ u => u = .bool true) := by
  refine Con.of_body Tryz.func9 rfl Tryz.ntmps9 rfl rfl ?_
  intro hs
  refine Zrun ?_
  (refine RW.call T hs rfl rfl rfl (refOne_con (α := PD 1) (R := PlainAt 1) w27_10 _ _ (tw_10).1) ?_; intro v h1 w1 hle1 hp1 hs)
  obtain ⟨cs1, rfl, hq1⟩ := hp1
  have hT := hT.mono hle1
  refine Zerun ?_
  (refine RW.call T hs rfl rfl rfl (of07_con 2 _ (numQ 1 w27_10) _ _ hq1 (numQ_chk 1 _ (tw_10).2.1)) ?_; intro v h2 w2 hle2 hp2 hs)
  obtain ⟨cs2, rfl, _, _, hn2⟩ := hp2
  rw [numQ_arr, tidyW_of (tw_10)] at hn2
  have hT := hT.mono hle2
  refine Zerun ?_
  (refine RW.lit T hs (vs := [.float .f64 4607182418800017408, .float .f64 4611686018427387904, .float .f64 4613937818241073152]) rfl rfl rfl rfl (by simp [Value.cells]) rfl rfl rfl rfl rfl ?_; intro b3 w3 hs)
  obtain ⟨h3, hle3, hs, hS3⟩ := hs.freeze
  have hF3 : FAt h3 (.slice (some ⟨b3, 0, none⟩) 3 3) [w27_1, w27_2, w27_3] := RowAt.of_sl hS3
  have hn2 := ArrAt.mono 2 _ _ _ _ hle3 hn2
  have hT := hT.mono hle3
  refine Zerun ?_
  (refine RW.call T hs rfl rfl rfl (refNums_con (R := PlainAt 1) (PlainAt.mono 1) _ _ _ _ hF3 (fun x hx => (t27_3 x hx).1) (by decide)) ?_; intro v h4 w4 hle4 hp4 hs)
  obtain ⟨cs4, rfl, hq4⟩ := hp4
  have hn2 := ArrAt.mono 2 _ _ _ _ hle4 hn2
  have hT := hT.mono hle4
  refine Zerun ?_
  (refine RW.call T hs rfl rfl rfl (of07_con 2 _ (numsP [w27_1, w27_2, w27_3] : PlainD (PD 1)) _ _ hq4 (numsP_chk 1 _ (fun x hx => (t27_3 x hx).2.1) (by decide))) ?_; intro v h5 w5 hle5 hp5 hs)
  obtain ⟨cs5, rfl, _, _, hn5⟩ := hp5
  rw [numsP_arr, tidyL (t27_3)] at hn5
  have hn2 := ArrAt.mono 2 _ _ _ _ hle5 hn2
  have hT := hT.mono hle5
  refine Zerun ?_
  (refine RW.call T hs rfl rfl rfl (baseDecode_con 1 _ _ (ArrD.mk [] ⟨leastN [w27_10], [w27_10], [], []⟩) (ArrD.mk [3] ⟨leastN [w27_1, w27_2, w27_3], [w27_1, w27_2, w27_3], [], []⟩) 3 (fun _ => 10) (fun i => ([1, 2, 3] : List Int).getD i 0) (fun i => ([0, 1, 12, 123] : List Int).getD i 0) _ _ hn2 hn5 (by decide) (by decide) (numV_cls _) (numV_cls _) (.inl rfl) rfl (by decide) x27 y27 rfl s27 r27) ?_; intro v h6 w6 hle6 hp6 hs)
  obtain ⟨cs6, rfl, hr6⟩ := hp6
  rw [show fwF (([0, 1, 12, 123] : List Int).getD 3 0) = w27_123 from fwq_123] at hr6
  have hT := hT.mono hle6
  have hA6 := hr6
  obtain ⟨_, vc6, rfl, ⟨ad6, cp6, rfl, _⟩, hv6⟩ := hr6
  obtain ⟨wv6, nv6, sm6, il6, fl6, ch6, bx6, ⟨rfl, hoc6⟩, -⟩ := hv6
  refine Zerun ?_
  (refine RW.allocN T hs rfl rfl rfl rfl ?_; intro b7 w7 hs)
  (refine RW.storeAll T hs 0 rfl rfl rfl rfl rfl rfl (by show (Value.oneCell' (.slice ad6 _ cp6) && (vecCells _ wv6 nv6 sm6 il6 fl6 ch6 bx6).all Value.oneCell') = true; rw [hoc6]; rfl) rfl ?_; intro w8 hs)
  refine Zerun ?_
  (refine RW.lit T hs (vs := [.float .f64 4627448617123184640, .float .f64 4633641066610819072]) rfl rfl rfl rfl (by simp [Value.cells]) rfl rfl rfl rfl rfl ?_; intro b11 w11 hs)
  obtain ⟨h11, hle11, hs, hS11⟩ := hs.freeze
  have hF11 : FAt h11 (.slice (some ⟨b11, 0, none⟩) 2 2) [w27_24, w27_60] := RowAt.of_sl hS11
  have hT := hT.mono hle11
  have hA6 := ArrAt.mono 2 _ _ _ _ hle11 hA6
  refine Zerun ?_
  (refine RW.call T hs rfl rfl rfl (refNums_con (R := PlainAt 1) (PlainAt.mono 1) _ _ _ _ hF11 (fun x hx => (t27_11 x hx).1) (by decide)) ?_; intro v h12 w12 hle12 hp12 hs)
  obtain ⟨cs12, rfl, hq12⟩ := hp12
  have hT := hT.mono hle12
  have hA6 := ArrAt.mono 2 _ _ _ _ hle12 hA6
  refine Zerun ?_
  (refine RW.call T hs rfl rfl rfl (of07_con 2 _ (numsP [w27_24, w27_60] : PlainD (PD 1)) _ _ hq12 (numsP_chk 1 _ (fun x hx => (t27_11 x hx).2.1) (by decide))) ?_; intro v h13 w13 hle13 hp13 hs)
  obtain ⟨cs13, rfl, _, _, hn13⟩ := hp13
  rw [numsP_arr, tidyL (t27_11)] at hn13
  have hT := hT.mono hle13
  have hA6 := ArrAt.mono 2 _ _ _ _ hle13 hA6
  refine Zerun ?_
  (refine RW.call T hs rfl rfl rfl (refOne_con (α := PD 1) (R := PlainAt 1) w27_1500 _ _ (tw_1500).1) ?_; intro v h14 w14 hle14 hp14 hs)
  obtain ⟨cs14, rfl, hq14⟩ := hp14
  have hT := hT.mono hle14
  have hA6 := ArrAt.mono 2 _ _ _ _ hle14 hA6
  have hn13 := ArrAt.mono 2 _ _ _ _ hle14 hn13
  refine Zerun ?_
  (refine RW.call T hs rfl rfl rfl (of07_con 2 _ (numQ 1 w27_1500) _ _ hq14 (numQ_chk 1 _ (tw_1500).2.1)) ?_; intro v h15 w15 hle15 hp15 hs)
  obtain ⟨cs15, rfl, _, _, hn15⟩ := hp15
  rw [numQ_arr, tidyW_of (tw_1500)] at hn15
  have hT := hT.mono hle15
  have hA6 := ArrAt.mono 2 _ _ _ _ hle15 hA6
  have hn13 := ArrAt.mono 2 _ _ _ _ hle15 hn13
  refine Zerun ?_
  (refine RW.call T hs rfl rfl rfl (baseEncode_con 1 _ _ (ArrD.mk [2] ⟨leastN [w27_24, w27_60], [w27_24, w27_60], [], []⟩) (ArrD.mk [] ⟨leastN [w27_1500], [w27_1500], [], []⟩) [24, 60] 1500 _ _ hn13 hn15 (by decide) (by decide) (kind27 [24, 60] _ (by rw [← fwq_24, ← fwq_60]; rfl) in27b) (whole27 [24, 60] _ (by rw [← fwq_24, ← fwq_60]; rfl) in27b) (by decide) rfl one27 (by omega) bas27) ?_; intro v h16 w16 hle16 hp16 hs)
  obtain ⟨cs16, rfl, hr16⟩ := hp16
  rw [show (encD [24, 60] 1500).1 = [1, 0] by decide, show ([1, 0] : List Int).map fwF = [w27_1, w27_0] by rw [← fwq_1, ← fwq_0]; rfl] at hr16
  have hT := hT.mono hle16
  have hA6 := ArrAt.mono 2 _ _ _ _ hle16 hA6
  have hA16 := hr16
  obtain ⟨_, vc16, rfl, ⟨ad16, cp16, rfl, _⟩, hv16⟩ := hr16
  obtain ⟨wv16, nv16, sm16, il16, fl16, ch16, bx16, ⟨rfl, hoc16⟩, -⟩ := hv16
  refine Zerun ?_
  (refine RW.allocN T hs rfl rfl rfl rfl ?_; intro b17 w17 hs)
  (refine RW.storeAll T hs 0 rfl rfl rfl rfl rfl rfl (by show (Value.oneCell' (.slice ad16 _ cp16) && (vecCells _ wv16 nv16 sm16 il16 fl16 ch16 bx16).all Value.oneCell') = true; rw [hoc16]; rfl) rfl ?_; intro w18 hs)
  refine Zerun ?_
  (refine RW.lit T hs (vs := [.float .f64 4607182418800017408, .float .f64 0, .float .f64 4611686018427387904]) rfl rfl rfl rfl (by simp [Value.cells]) rfl rfl rfl rfl rfl ?_; intro b21 w21 hs)
  obtain ⟨h21, hle21, hs, hS21⟩ := hs.freeze
  have hF21 : FAt h21 (.slice (some ⟨b21, 0, none⟩) 3 3) [w27_1, w27_0, w27_2] := RowAt.of_sl hS21
  have hT := hT.mono hle21
  have hA6 := ArrAt.mono 2 _ _ _ _ hle21 hA6
  have hA16 := ArrAt.mono 2 _ _ _ _ hle21 hA16
  refine Zerun ?_
  (refine RW.call T hs rfl rfl rfl (refNums_con (R := PlainAt 1) (PlainAt.mono 1) _ _ _ _ hF21 (fun x hx => (t27_21 x hx).1) (by decide)) ?_; intro v h22 w22 hle22 hp22 hs)
  obtain ⟨cs22, rfl, hq22⟩ := hp22
  have hT := hT.mono hle22
  have hA6 := ArrAt.mono 2 _ _ _ _ hle22 hA6
  have hA16 := ArrAt.mono 2 _ _ _ _ hle22 hA16
  refine Zerun ?_
  (refine RW.call T hs rfl rfl rfl (of07_con 2 _ (numsP [w27_1, w27_0, w27_2] : PlainD (PD 1)) _ _ hq22 (numsP_chk 1 _ (fun x hx => (t27_21 x hx).2.1) (by decide))) ?_; intro v h23 w23 hle23 hp23 hs)
  obtain ⟨cs23, rfl, _, _, hn23⟩ := hp23
  rw [numsP_arr, tidyL (t27_21)] at hn23
  have hT := hT.mono hle23
  have hA6 := ArrAt.mono 2 _ _ _ _ hle23 hA6
  have hA16 := ArrAt.mono 2 _ _ _ _ hle23 hA16
  refine Zerun ?_
  (refine RW.lit T hs (vs := [.float .f64 4617315517961601024, .float .f64 4618441417868443648, .float .f64 4619567317775286272]) rfl rfl rfl rfl (by simp [Value.cells]) rfl rfl rfl rfl rfl ?_; intro b24 w24 hs)
  obtain ⟨h24, hle24, hs, hS24⟩ := hs.freeze
  have hF24 : FAt h24 (.slice (some ⟨b24, 0, none⟩) 3 3) [w27_5, w27_6, w27_7] := RowAt.of_sl hS24
  have hT := hT.mono hle24
  have hA6 := ArrAt.mono 2 _ _ _ _ hle24 hA6
  have hA16 := ArrAt.mono 2 _ _ _ _ hle24 hA16
  have hn23 := ArrAt.mono 2 _ _ _ _ hle24 hn23
  refine Zerun ?_
  (refine RW.call T hs rfl rfl rfl (refNums_con (R := PlainAt 1) (PlainAt.mono 1) _ _ _ _ hF24 (fun x hx => (t27_24 x hx).1) (by decide)) ?_; intro v h25 w25 hle25 hp25 hs)
  obtain ⟨cs25, rfl, hq25⟩ := hp25
  have hT := hT.mono hle25
  have hA6 := ArrAt.mono 2 _ _ _ _ hle25 hA6
  have hA16 := ArrAt.mono 2 _ _ _ _ hle25 hA16
  have hn23 := ArrAt.mono 2 _ _ _ _ hle25 hn23
  refine Zerun ?_
  (refine RW.call T hs rfl rfl rfl (of07_con 2 _ (numsP [w27_5, w27_6, w27_7] : PlainD (PD 1)) _ _ hq25 (numsP_chk 1 _ (fun x hx => (t27_24 x hx).2.1) (by decide))) ?_; intro v h26 w26 hle26 hp26 hs)
  obtain ⟨cs26, rfl, _, _, hn26⟩ := hp26
  rw [numsP_arr, tidyL (t27_24)] at hn26
  have hT := hT.mono hle26
  have hA6 := ArrAt.mono 2 _ _ _ _ hle26 hA6
  have hA16 := ArrAt.mono 2 _ _ _ _ hle26 hA16
  have hn23 := ArrAt.mono 2 _ _ _ _ hle26 hn23
  refine Zerun ?_
  (refine RW.call T hs rfl rfl rfl (baseCopy_con 0 _ _ (ArrD.mk [3] ⟨leastN [w27_1, w27_0, w27_2], [w27_1, w27_0, w27_2], [], []⟩) (ArrD.mk [3] ⟨leastN [w27_5, w27_6, w27_7], [w27_5, w27_6, w27_7], [], []⟩) false [1, 0, 2] 1 3 1 [0, 2, 2] [3] 99 _ _ hT hn23 hn26 (by decide) (kind27 [1, 0, 2] _ (by rw [← fwq_1, ← fwq_0, ← fwq_2]; rfl) in27c) (whole27 [1, 0, 2] _ (by rw [← fwq_1, ← fwq_0, ← fwq_2]; rfl) in27c).symm in27c (by decide) (by decide) (by decide) (by decide) (by decide) (by decide) cop27 wit27 (by decide) spl27 (by decide) (by decide) (by decide) (by decide) (by decide) (by decide) knz27 new27) ?_; intro v h27 w27 hle27 hp27 hs)
  obtain ⟨cs27, rfl, hr27⟩ := hp27
  rw [pic27] at hr27
  have hT := hT.mono hle27
  have hA6 := ArrAt.mono 2 _ _ _ _ hle27 hA6
  have hA16 := ArrAt.mono 2 _ _ _ _ hle27 hA16
  have hA27 := hr27
  obtain ⟨_, vc27, rfl, ⟨ad27, cp27, rfl, _⟩, hv27⟩ := hr27
  obtain ⟨wv27, nv27, sm27, il27, fl27, ch27, bx27, ⟨rfl, hoc27⟩, -⟩ := hv27
  refine Zerun ?_
  (refine RW.allocN T hs rfl rfl rfl rfl ?_; intro b28 w28 hs)
  (refine RW.storeAll T hs 0 rfl rfl rfl rfl rfl rfl (by show (Value.oneCell' (.slice ad27 _ cp27) && (vecCells _ wv27 nv27 sm27 il27 fl27 ch27 bx27).all Value.oneCell') = true; rw [hoc27]; rfl) rfl ?_; intro w29 hs)
  refine Zerun ?_
  refine CW.regionO T hs ?_
  intro w99 hs
  refine HW.takeS (fuel := 18) 0 rfl (fun _ _ hs => Y.loadRowN T hs 2 rfl rfl rfl rfl rfl rfl rfl) hs rfl (by kernel_rfl) (by kernel_rfl) (by kernel_rfl) ?_
  refine HW.takeS (fuel := 17) 1 rfl (fun _ _ hs => Y.move rfl) hs rfl (by kernel_rfl) (by kernel_rfl) (by kernel_rfl) ?_
  refine HW.one (fuel := 16) 2 rfl (by kernel_rfl) ?_
  (refine RW.call T hs rfl rfl rfl (refOne_con (α := PD 1) (R := PlainAt 1) w27_123 _ _ tw_123.1) ?_; intro v h37 w37 hle37 hp37 hs)
  obtain ⟨cs37, rfl, hq37⟩ := hp37
  have hA6 := ArrAt.mono 2 _ _ _ _ hle37 hA6
  have hA16 := ArrAt.mono 2 _ _ _ _ hle37 hA16
  have hA27 := ArrAt.mono 2 _ _ _ _ hle37 hA27
  refine RW.nil ?_
  refine heldQ_normal ⟨_, hs⟩ ?_
  refine HW.one (fuel := 15) 3 rfl (by kernel_rfl) ?_
  (refine RW.call T hs rfl rfl rfl (shows27_con 1 _ _ (numA 1 w27_123) (numQ 1 w27_123) _ _ hA6 hq37 (numA_good 1 _ 40 (by omega)) (numA_plain 1 _) (numQ_tdy 1 _ tw_123)) ?_; intro v h38 w38 hle38 hp38 hs)
  subst hp38
  have hA16 := ArrAt.mono 2 _ _ _ _ hle38 hA16
  have hA27 := ArrAt.mono 2 _ _ _ _ hle38 hA27
  refine RW.nil ?_
  refine heldQ_normal ⟨_, hs⟩ ?_
  refine HW.takeS (fuel := 14) 4 rfl (fun _ _ hs => Y.move rfl) hs rfl (by kernel_rfl) (by kernel_rfl) (by kernel_rfl) ?_
  refine HW.takeSY (fuel := 13) 5 rfl rfl rfl (fun _ _ hs => Y.loadRowN T hs 1 rfl rfl rfl rfl rfl rfl rfl) hs rfl (by kernel_rfl) (by kernel_rfl) (by kernel_rfl) ?_
  refine HW.takeSY (fuel := 12) 6 rfl rfl rfl (fun _ _ hs => Y.move rfl) hs rfl (by kernel_rfl) (by kernel_rfl) (by kernel_rfl) ?_
  refine HW.one (fuel := 11) 7 rfl (by kernel_rfl) ?_
  refine RW.guardYes rfl rfl ?_
  (refine RW.lit T hs (vs := [.float .f64 4607182418800017408, .float .f64 0]) rfl rfl rfl rfl (by simp [Value.cells]) rfl rfl rfl rfl rfl ?_; intro b42 w42 hs)
  obtain ⟨h42, hle42, hs, hS42⟩ := hs.freeze
  have hF42 : FAt h42 (.slice (some ⟨b42, 0, none⟩) 2 2) [w27_1, w27_0] := RowAt.of_sl hS42
  have hA16 := ArrAt.mono 2 _ _ _ _ hle42 hA16
  have hA27 := ArrAt.mono 2 _ _ _ _ hle42 hA27
  refine RW.nil ?_
  refine heldQ_normal ⟨_, hs⟩ ?_
  refine HW.one (fuel := 10) 8 rfl (by kernel_rfl) ?_
  refine RW.guardYes rfl rfl ?_
  (refine RW.call T hs rfl rfl rfl (refNums_con (R := PlainAt 1) (PlainAt.mono 1) _ _ _ _ hF42 (fun x hx => (t27_42 x hx).1) (by decide)) ?_; intro v h43 w43 hle43 hp43 hs)
  obtain ⟨cs43, rfl, hq43⟩ := hp43
  have hA16 := ArrAt.mono 2 _ _ _ _ hle43 hA16
  have hA27 := ArrAt.mono 2 _ _ _ _ hle43 hA27
  refine RW.nil ?_
  refine heldQ_normal ⟨_, hs⟩ ?_
  refine HW.one (fuel := 9) 9 rfl (by kernel_rfl) ?_
  refine RW.guardYes rfl rfl ?_
  (refine RW.call T hs rfl rfl rfl (shows27_con 1 _ _ (numsA 1 [w27_1, w27_0]) ((numsP [w27_1, w27_0] : PlainD (PD 1))) _ _ hA16 hq43 (numsA_good 1 _ 40 (by omega) (by decide)) (numsA_plain 1 _) (numsP_tdy 1 _ t27_42)) ?_; intro v h44 w44 hle44 hp44 hs)
  subst hp44
  have hA27 := ArrAt.mono 2 _ _ _ _ hle44 hA27
  refine RW.nil ?_
  refine heldQ_normal ⟨_, hs⟩ ?_
  refine HW.takeS (fuel := 8) 10 rfl (fun _ _ hs => Y.pickT rfl rfl) hs rfl (by kernel_rfl) (by kernel_rfl) (by kernel_rfl) ?_
  refine HW.takeS (fuel := 7) 11 rfl (fun _ _ hs => Y.move rfl) hs rfl (by kernel_rfl) (by kernel_rfl) (by kernel_rfl) ?_
  refine HW.takeSY (fuel := 6) 12 rfl rfl rfl (fun _ _ hs => Y.loadRowN T hs 0 rfl rfl rfl rfl rfl rfl rfl) hs rfl (by kernel_rfl) (by kernel_rfl) (by kernel_rfl) ?_
  refine HW.takeSY (fuel := 5) 13 rfl rfl rfl (fun _ _ hs => Y.move rfl) hs rfl (by kernel_rfl) (by kernel_rfl) (by kernel_rfl) ?_
  refine HW.one (fuel := 4) 14 rfl (by kernel_rfl) ?_
  refine RW.guardYes rfl rfl ?_
  (refine RW.lit T hs (vs := [.float .f64 4617315517961601024, .float .f64 4619567317775286272, .float .f64 4619567317775286272]) rfl rfl rfl rfl (by simp [Value.cells]) rfl rfl rfl rfl rfl ?_; intro b49 w49 hs)
  obtain ⟨h49, hle49, hs, hS49⟩ := hs.freeze
  have hF49 : FAt h49 (.slice (some ⟨b49, 0, none⟩) 3 3) [w27_5, w27_7, w27_7] := RowAt.of_sl hS49
  have hA27 := ArrAt.mono 2 _ _ _ _ hle49 hA27
  refine RW.nil ?_
  refine heldQ_normal ⟨_, hs⟩ ?_
  refine HW.one (fuel := 3) 15 rfl (by kernel_rfl) ?_
  refine RW.guardYes rfl rfl ?_
  (refine RW.call T hs rfl rfl rfl (refNums_con (R := PlainAt 1) (PlainAt.mono 1) _ _ _ _ hF49 (fun x hx => (t27_49 x hx).1) (by decide)) ?_; intro v h50 w50 hle50 hp50 hs)
  obtain ⟨cs50, rfl, hq50⟩ := hp50
  have hA27 := ArrAt.mono 2 _ _ _ _ hle50 hA27
  refine RW.nil ?_
  refine heldQ_normal ⟨_, hs⟩ ?_
  refine HW.one (fuel := 2) 16 rfl (by kernel_rfl) ?_
  refine RW.guardYes rfl rfl ?_
  (refine RW.call T hs rfl rfl rfl (shows27_con 1 _ _ (numsA 1 [w27_5, w27_7, w27_7]) ((numsP [w27_5, w27_7, w27_7] : PlainD (PD 1))) _ _ hA27 hq50 (numsA_good 1 _ 40 (by omega) (by decide)) (numsA_plain 1 _) (numsP_tdy 1 _ t27_49)) ?_; intro v h51 w51 hle51 hp51 hs)
  subst hp51
  refine RW.nil ?_
  refine heldQ_normal ⟨_, hs⟩ ?_
  refine HW.takeS (fuel := 1) 17 rfl (fun _ _ hs => Y.pickT rfl rfl) hs rfl (by kernel_rfl) (by kernel_rfl) (by kernel_rfl) ?_
  refine HW.takeS (fuel := 0) 18 rfl (fun _ _ hs => Y.assign rfl) hs rfl (by kernel_rfl) (by kernel_rfl) (by kernel_rfl) ?_
  refine HW.done (by kernel_rfl) ?_
  refine calmQ_normal ?_
  refine Zerun ?_
  exact retQ_ret [_] h51 ⟨rfl, trivial⟩ hs.dropAll rfl
end Go.Proofs.YtmojpbfkpggjhaaGreatDoor

/-
  Contracts of functions of package value: whether arrays, and elements, are alike. No statement is proved here.
-/
namespace Go.Proofs.YtmojpbfkpggjhaaGreatDoor
open Go Go.RowKit
set_option linter.unusedVariables false
set_option linter.unusedSimpArgs false
set_option maxHeartbeats 4000000
attribute [local irreducible] CW RW QW SW HW ConM retM heldQ calmQ elemP thenQ blockQ loopQ joinQ retQ Yields Con Sl zF magR unitF truncF fwF wholeF tidySpec elemQ rankF leastN tidyW

section
variable {α β : Type} {R : GHeap → List Value → α → Prop}
theorem itemsV_num (f : α → β) {v : VecD α} {i : Nat} (hc : v.cls = 0) (hi : i < v.nums.length) : (itemsV f v).getD i noItem = ⟨0, v.num i, 0, []⟩ := by
  unfold itemsV; rw [if_neg (by omega), if_neg (by omega), getD_map' _ _ _ _ hi]
  unfold VecD.num; rw [if_pos (by omega), Int.toNat_natCast, List.getD_eq_getElem?_getD, List.getElem?_eq_getElem hi]; rfl
theorem itemsV_chr (f : α → β) {v : VecD α} {i : Nat} (hc : v.cls = 1) (hi : i < v.chars.length) : (itemsV f v).getD i noItem = ⟨1, 0, v.chr i, []⟩ := by
  unfold itemsV; rw [if_pos hc, getD_map' _ _ _ _ hi]
  unfold VecD.chr; rw [if_pos (by omega), Int.toNat_natCast, List.getD_eq_getElem?_getD, List.getElem?_eq_getElem hi]; rfl
theorem itemsV_box (f : α → β) {v : VecD α} {i : Nat} (hc : v.cls = 2) (hi : i < v.boxes.length) : (itemsV f v).getD i noItem = ⟨2, 0, 0, [f v.boxes[i]]⟩ := by
  unfold itemsV; rw [if_neg (by omega), if_pos hc, getD_map' _ _ _ _ hi]
theorem itemsV_kind (f : α → β) {h : GHeap} {cs : List Value} {v : VecD α} (hv : VecAt R h cs v) {i : Nat} (hi : i < v.len) : ((itemsV f v).getD i noItem).kind = v.cls := by
  rcases hv.sorts with ⟨hc, hn⟩ | ⟨hc, hn⟩ | ⟨hc, hn⟩
  · rw [itemsV_num f hc (by omega), hc]
  · rw [itemsV_chr f hc (by omega), hc]
  · rw [itemsV_box f hc (by omega), hc]
theorem alike_step (hR : Mono R) (h1 : One R) (f : α → β) (q : α → Prop) (ih : ∀ cs cs' a b w h, R h cs a → R h cs' b → q a → q b → Con Tryz.prog 200 [.agg cs.toArray, .agg cs'.toArray] w h (fun _ u => u = .bool (eqB (f a) (f b))))
    (cs cs' : List Value) (a b : VecD α) (i j : Nat) (w : World) (h : GHeap) (ha : VecAt R h cs a) (hb : VecAt R h cs' b) (hi : i < a.len) (hj : j < b.len) (qa : ∀ x ∈ a.boxes, q x) (qb : ∀ x ∈ b.boxes, q x) :
    Con Tryz.prog 187 [.agg cs.toArray, .int .i64 i, .agg cs'.toArray, .int .i64 j] w h (fun _ u => u = .bool (eqB ((itemsV f a).getD i noItem) ((itemsV f b).getD j noItem))) := by
  have ha' := ha
  have hb' := hb
  obtain ⟨wv, nv, sm, il, fl, ch, bx, ⟨rfl, hoc⟩, hka⟩ := ha
  obtain ⟨wv', nv', sm', il', fl', ch', bx', ⟨rfl, hoc'⟩, hkb⟩ := hb
  clear hka hkb
  refine Con.of_body Tryz.func187 rfl Tryz.ntmps187 rfl rfl ?_
  intro hs
  refine Zrun ?_
  (refine RW.boxN hs rfl rfl ?_; intro b1 w1 hs)
  refine Zerun ?_
  (refine RW.boxN hs rfl rfl ?_; intro b2 w2 hs)
  refine Zerun ?_
  refine CW.regionQ T hs (Zeqrun ?_) (by kernel_rfl)
  refine QW.call T hs rfl rfl rfl (fun w => vecClass_con _ a w _ ha') ?_
  refine Zeqrun ?_
  refine QW.call T hs rfl rfl rfl (fun w => vecClass_con _ b w _ hb') ?_
  refine Zeqrun ?_
  intro w3 hs
  by_cases c1 : a.cls ≠ b.cls
  · refine Zerun ?_
    refine retQ_ret [_] h ⟨rfl, trivial⟩ hs.dropAll ?_
    rw [eqB_not]
    · rfl
    · intro e
      have := congrArg ItemD.kind e
      rw [itemsV_kind f ha' hi, itemsV_kind f hb' hj] at this
      exact c1 this
  refine Zerun ?_
  (refine RW.call T hs rfl rfl rfl (vecClass_con _ a _ _ ha') ?_; intro v h4 w4 hle4 hp4 hs)
  subst hp4
  have ha' := ha'.mono hR hle4
  have hb' := hb'.mono hR hle4
  refine Zerun ?_
  rcases ha'.sorts with ⟨hc, hn⟩ | ⟨hc, hn⟩ | ⟨hc, hn⟩
  · have hnb : b.len = b.nums.length := by rcases hb'.sorts with ⟨e, e2⟩ | ⟨e, _⟩ | ⟨e, _⟩ <;> omega
    rw [itemsV_num f hc (by omega), itemsV_num f (by omega) (by omega)]
    have ta : tidyF (a.num i) := by unfold VecD.num; rw [if_pos (by omega), Int.toNat_natCast]; exact ha'.tidy _ (mem_getD _ _ _ (by omega))
    have tb : tidyF (b.num j) := by unfold VecD.num; rw [if_pos (by omega), Int.toNat_natCast]; exact hb'.tidy _ (mem_getD _ _ _ (by omega))
    refine Zerun ?_
    refine CW.regionQ T hs (Zeqrun ?_) (by kernel_rfl)
    refine QW.call T hs rfl rfl rfl (fun w => vecNum_con _ a i w _ ha') ?_
    refine Zeqrun ?_
    refine QW.call T hs rfl rfl rfl (fun w => vecNum_con _ b j w _ hb') ?_
    refine QW.val (fun _ _ => Y.fEql ta.2.1 tb.2.1 rfl rfl) rfl ?_
    refine Zeqrun ?_
    intro w5 hs
    refine Zerun ?_
    refine retQ_ret [_] h4 ⟨rfl, trivial⟩ hs.dropAll ?_
    show Value.bool _ = Value.bool _
    congr 1
    by_cases e : a.num i = b.num j
    · rw [decide_eq_true (by rw [e]), eqB_of (by rw [e])]
    · rw [decide_eq_false (fun e' => e (zF_inj ta tb e')), eqB_not (fun e' => e (by injection e'))]
  · have hnb : b.len = b.chars.length := by rcases hb'.sorts with ⟨e, _⟩ | ⟨e, e2⟩ | ⟨e, _⟩ <;> omega
    rw [itemsV_chr f hc (by omega), itemsV_chr f (by omega) (by omega)]
    refine Zerun ?_
    refine CW.regionQ T hs (Zeqrun ?_) (by kernel_rfl)
    refine QW.call T hs rfl rfl rfl (fun w => vecChar_con _ a i w _ ha') ?_
    refine Zeqrun ?_
    refine QW.call T hs rfl rfl rfl (fun w => vecChar_con _ b j w _ hb') ?_
    refine Zeqrun ?_
    intro w5 hs
    refine Zerun ?_
    refine retQ_ret [_] h4 ⟨rfl, trivial⟩ hs.dropAll ?_
    show Value.bool _ = Value.bool _
    congr 1
    by_cases e : a.chr i = b.chr j
    · rw [decide_eq_true e, eqB_of (by rw [e])]
    · rw [decide_eq_false e, eqB_not (fun e' => e (by injection e'))]
  · have hnb : b.len = b.boxes.length := by rcases hb'.sorts with ⟨e, _⟩ | ⟨e, _⟩ | ⟨e, e2⟩ <;> omega
    have hia : i < a.boxes.length := by omega
    have hjb : j < b.boxes.length := by omega
    rw [itemsV_box f hc hia, itemsV_box f (by omega) hjb]
    refine Zerun ?_
    refine CW.regionO T hs ?_
    intro w5 hs
    refine HW.takeS (fuel := 7) 0 rfl (fun _ _ hs => Y.loadRowN T hs 1 rfl rfl rfl rfl rfl rfl rfl) hs rfl (by kernel_rfl) (by kernel_rfl) (by kernel_rfl) ?_
    refine HW.takeS (fuel := 6) 1 rfl (fun _ _ hs => Y.move rfl) hs rfl (by kernel_rfl) (by kernel_rfl) (by kernel_rfl) ?_
    refine HW.takeS (fuel := 5) 3 rfl (fun _ _ hs => Y.loadRowN T hs 0 rfl rfl rfl rfl rfl rfl rfl) hs rfl (by kernel_rfl) (by kernel_rfl) (by kernel_rfl) ?_
    refine HW.takeS (fuel := 4) 4 rfl (fun _ _ hs => Y.move rfl) hs rfl (by kernel_rfl) (by kernel_rfl) (by kernel_rfl) ?_
    refine HW.one (fuel := 3) 2 rfl (by kernel_rfl) ?_
    (refine RW.call T hs rfl rfl rfl (vecBox_con hR h1 _ a i a.boxes[i] _ _ ha' hia) ?_; intro v h29 w29 hle29 hp29 hs)
    obtain ⟨cs29, rfl, _, hR29⟩ := hp29
    rw [List.getD_eq_getElem?_getD, List.getElem?_eq_getElem hia] at hR29
    have hb' := hb'.mono hR hle29
    refine RW.nil ?_
    refine heldQ_normal ⟨_, hs⟩ ?_
    refine HW.one (fuel := 2) 5 rfl (by kernel_rfl) ?_
    (refine RW.call T hs rfl rfl rfl (vecBox_con hR h1 _ b j b.boxes[j] _ _ hb' hjb) ?_; intro v h32 w32 hle32 hp32 hs)
    obtain ⟨cs32, rfl, _, hR32⟩ := hp32
    rw [List.getD_eq_getElem?_getD, List.getElem?_eq_getElem hjb] at hR32
    have hR29 := hR _ _ _ _ hle32 hR29
    refine RW.nil ?_
    refine heldQ_normal ⟨_, hs⟩ ?_
    refine HW.one (fuel := 1) 6 rfl (by kernel_rfl) ?_
    (refine RW.call T hs rfl rfl rfl (ih _ _ _ _ _ _ hR29 hR32 (qa _ (List.getElem_mem hia)) (qb _ (List.getElem_mem hjb))) ?_; intro v h33 w33 hle33 hp33 hs)
    subst hp33
    refine RW.nil ?_
    refine heldQ_normal ⟨_, hs⟩ ?_
    refine HW.takeS (fuel := 0) 7 rfl (fun _ _ hs => Y.assign rfl) hs rfl (by kernel_rfl) (by kernel_rfl) (by kernel_rfl) ?_
    refine HW.done (by kernel_rfl) ?_
    refine calmQ_normal ?_
    refine Zerun ?_
    refine retQ_ret [_] h33 ⟨rfl, trivial⟩ hs.dropAll ?_
    show Value.bool (eqB (f a.boxes[i]) (f b.boxes[j])) = _
    by_cases e : f a.boxes[i] = f b.boxes[j]
    · rw [eqB_of e, eqB_of (by rw [e])]
    · rw [eqB_not e, eqB_not (fun e' => e (by injection e' with _ _ _ e4; injection e4))]
theorem same_step (hR : Mono R) (f : α → β) (q : α → Prop) (ih : ∀ cs cs' a b i j w h, VecAt R h cs a → VecAt R h cs' b → i < a.len → j < b.len → (∀ x ∈ a.boxes, q x) → (∀ x ∈ b.boxes, q x) → Con Tryz.prog 187 [.agg cs.toArray, .int .i64 (i : Nat), .agg cs'.toArray, .int .i64 (j : Nat)] w h (fun _ u => u = .bool (eqB ((itemsV f a).getD i noItem) ((itemsV f b).getD j noItem))))
    (cs cs' : List Value) (a b : ArrD α) (w : World) (h : GHeap) (ha : ArrR R h cs a) (hb : ArrR R h cs' b) (qa : ∀ x ∈ a.vec.boxes, q x) (qb : ∀ x ∈ b.vec.boxes, q x) (hma : a.vec.len ≤ 1048576) :
    Con Tryz.prog 200 [.agg cs.toArray, .agg cs'.toArray] w h (fun _ u => u = .bool (eqB (plainA f a) (plainA f b))) := by
  obtain ⟨s, vc, rfl, hl, hv⟩ := ha
  obtain ⟨s2, vc2, rfl, hm, hu⟩ := hb
  have hl' := hl
  have hm' := hm
  obtain ⟨ad, cp, rfl, hS⟩ := hl
  obtain ⟨ad2, cp2, rfl, hS2⟩ := hm
  have hl3 : a.shape.length ≤ 9223372036854775807 := by have := hS.caps; omega
  have hv' := hv
  have hu' := hu
  have hila := itemsV_len f hv
  have hilb := itemsV_len f hu
  obtain ⟨wv, nv, sm, il, fl, ch, bx, ⟨rfl, hoc⟩, hka⟩ := hv
  obtain ⟨wv', nv', sm', il', fl', ch', bx', ⟨rfl, hoc'⟩, hkb⟩ := hu
  clear hka hkb
  refine Con.of_body Tryz.func200 rfl Tryz.ntmps200 rfl rfl ?_
  intro hs
  refine Zrun ?_
  (refine RW.boxN hs rfl rfl ?_; intro b1 w1 hs)
  (refine RW.boxN hs rfl rfl ?_; intro b2 w2 hs)
  refine Zerun ?_
  refine CW.meet (fun u : Bool => [(2, .pointer (some ⟨b1, 0, none⟩)), (3, .pointer (some ⟨b2, 0, none⟩)), (29, .bool u)]) (fun u w' => (u = true → ¬ (a.shape = b.shape ∧ a.vec.cls = b.vec.cls ∧ a.vec.len = b.vec.len)) ∧ (u = false → a.shape = b.shape ∧ a.vec.cls = b.vec.cls ∧ a.vec.len = b.vec.len) ∧ Sees w h h [⟨some ⟨b2, 0, none⟩, 1, 1, 40, 9, .slice ad2 b.shape.length cp2 :: vecCells b.vec.kind wv' nv' sm' il' fl' ch' bx'⟩, ⟨some ⟨b1, 0, none⟩, 1, 1, 40, 9, .slice ad a.shape.length cp :: vecCells a.vec.kind wv nv sm il fl ch bx⟩] w') ?_ ?_
  · refine CW.regionQ T hs (Zeqrun ?_) (by kernel_rfl)
    refine QW.call T hs rfl rfl rfl (fun w => same_con _ _ _ _ w _ hl' hm' hl3) ?_
    by_cases c1 : a.shape = b.shape
    · rw [decide_eq_true c1]
      refine Zeqrun ?_
      refine QW.call T hs rfl rfl rfl (fun w => vecClass_con _ a.vec w _ hv') ?_
      refine Zeqrun ?_
      refine QW.call T hs rfl rfl rfl (fun w => vecClass_con _ b.vec w _ hu') ?_
      by_cases c2 : a.vec.cls = b.vec.cls
      · refine Zeqrun ?_
        refine QW.call T hs rfl rfl rfl (fun w => vecLen_con _ a.vec w _ hv') ?_
        refine Zeqrun ?_
        refine QW.call T hs rfl rfl rfl (fun w => vecLen_con _ b.vec w _ hu') ?_
        refine Zeqrun ?_
        intro w3 hs
        refine joinQ_meet (decide ((a.vec.len : Int) ≠ b.vec.len)) ⟨rfl, rfl, rfl, trivial⟩ ⟨fun e g => ?_, fun e => ⟨c1, c2, ?_⟩, hs⟩
        · have := of_decide_eq_true e
          exact this (by rw [g.2.2])
        · have := of_decide_eq_false e
          omega
      · refine Zeqrun ?_
        intro w3 hs
        exact joinQ_meet true ⟨rfl, rfl, rfl, trivial⟩ ⟨fun _ g => c2 g.2.1, fun e => (by cases e), hs⟩
    · rw [decide_eq_false c1]
      refine Zeqrun ?_
      intro w3 hs
      exact joinQ_meet true ⟨rfl, rfl, rfl, trivial⟩ ⟨fun _ g => c1 g.1, fun e => (by cases e), hs⟩
  rintro u w3 ⟨hu1, hu0, hs⟩
  have hlens : ∀ v : ArrD α, (plainA f v).items = itemsV f v.vec := fun _ => rfl
  cases u with
  | true =>
    refine Zerun ?_
    refine retQ_ret [_] h ⟨rfl, trivial⟩ hs.dropAll ?_
    rw [eqB_not]
    · rfl
    · intro e
      refine hu1 rfl ⟨congrArg PlainD.shape e, congrArg PlainD.fill e, ?_⟩
      have := congrArg (fun p : PlainD β => p.items.length) e
      simp only [hlens, hila, hilb] at this
      exact this
  | false =>
    obtain ⟨e1, e2, e3⟩ := hu0 rfl
    refine Zerun ?_
    (refine RW.call T hs rfl rfl rfl (vecLen_con _ a.vec _ _ hv') ?_; intro v h4 w4 hle4 hp4 hs)
    subst hp4
    refine Zerun ?_
    refine CW.loop (fun u : Nat × GHeap => [(2, .pointer (some ⟨b1, 0, none⟩)), (3, .pointer (some ⟨b2, 0, none⟩)), (32, .int .i64 a.vec.len), (33, .int .i64 u.1)]) (fun u w' => u.1 ≤ a.vec.len ∧ GLe h u.2 ∧ (itemsV f a.vec).take u.1 = (itemsV f b.vec).take u.1 ∧ Sees w h u.2 [⟨some ⟨b2, 0, none⟩, 1, 1, 40, 9, .slice ad2 b.shape.length cp2 :: vecCells b.vec.kind wv' nv' sm' il' fl' ch' bx'⟩, ⟨some ⟨b1, 0, none⟩, 1, 1, 40, 9, .slice ad a.shape.length cp :: vecCells a.vec.kind wv nv sm il fl ch bx⟩] w') (fun u => a.vec.len - u.1) (0, h4) ⟨rfl, rfl, rfl, rfl, trivial⟩ ⟨by omega, hle4, rfl, hs⟩ ?_
    rintro ⟨i, hh⟩ w5 ⟨hi, hg, htk, hs⟩
    dsimp only at hi hg htk hs ⊢
    by_cases hlt : i < a.vec.len
    · have hv' := hv'.mono hR hg
      have hu' := hu'.mono hR hg
      refine Zerun ?_
      (refine RW.call T hs rfl rfl rfl (ih _ _ a.vec b.vec i i _ _ hv' hu' hlt (by omega) qa qb) ?_; intro v h6 w6 hle6 hp6 hs)
      subst hp6
      have ga : (itemsV f a.vec).getD i noItem = (itemsV f a.vec)[i]'(by omega) := by rw [List.getD_eq_getElem?_getD, List.getElem?_eq_getElem (by omega)]; rfl
      have gb : (itemsV f b.vec).getD i noItem = (itemsV f b.vec)[i]'(by omega) := by rw [List.getD_eq_getElem?_getD, List.getElem?_eq_getElem (by omega)]; rfl
      rw [ga, gb]
      by_cases e : (itemsV f a.vec)[i]'(by omega) = (itemsV f b.vec)[i]'(by omega)
      · rw [eqB_of e]
        refine Zerun ?_
        exact loopQ_round (i + 1, h6) ⟨rfl, rfl, rfl, rfl, trivial⟩ ⟨by dsimp only; omega, hg.trans hle6, take_eq_succ htk (by omega) (by omega) e, hs⟩ (by dsimp only; omega)
      · rw [eqB_not e]
        refine Zerun ?_
        refine retQ_ret [_] h6 ⟨rfl, trivial⟩ hs.dropAll ?_
        rw [eqB_not]
        · rfl
        · intro e'
          exact ne_of_get (by omega) (by omega) e (congrArg PlainD.items e')
    · obtain rfl : i = a.vec.len := by omega
      refine Zerun ?_
      refine retQ_ret [_] hh ⟨rfl, trivial⟩ hs.dropAll ?_
      rw [eqB_of]
      · rfl
      · have e4 : itemsV f a.vec = itemsV f b.vec := by
          rw [List.take_of_length_le (by omega), List.take_of_length_le (by omega)] at htk
          exact htk
        unfold plainA
        rw [e1, e2, e4]
end
theorem sameV_con : ∀ (k : Nat) (cs cs' : List Value) (a b : AD k) (w : World) (h : GHeap), ArrAt k h cs a → ArrAt k h cs' b → sml k a → sml k b → Con Tryz.prog 200 [.agg cs.toArray, .agg cs'.toArray] w h (fun _ u => u = .bool (eqB (plain k a) (plain k b)))
  | 0, _, _, _, _, _, _, ha, _, _, _ => ha.elim
  | k + 1, cs, cs', a, b, w, h, ha, hb, sa, sb => same_step (ArrAt.mono k) (plain k) (sml k) (fun cs cs' a b i j w h ha hb hi hj qa qb => alike_step (ArrAt.mono k) (ArrAt.one k) (plain k) (sml k) (sameV_con k) cs cs' a b i j w h ha hb hi hj qa qb) cs cs' a b w h ha hb sa.2.2 sb.2.2 sa.2.1
theorem alikeV_con (k : Nat) (cs cs' : List Value) (a b : VecD (AD k)) (i j : Nat) (w : World) (h : GHeap) (ha : VecAt (ArrAt k) h cs a) (hb : VecAt (ArrAt k) h cs' b) (hi : i < a.len) (hj : j < b.len) (qa : ∀ x ∈ a.boxes, sml k x) (qb : ∀ x ∈ b.boxes, sml k x) : Con Tryz.prog 187 [.agg cs.toArray, .int .i64 i, .agg cs'.toArray, .int .i64 j] w h (fun _ u => u = .bool (eqB ((itemsV (plain k) a).getD i noItem) ((itemsV (plain k) b).getD j noItem))) :=
  alike_step (ArrAt.mono k) (ArrAt.one k) (plain k) (sml k) (sameV_con k) cs cs' a b i j w h ha hb hi hj qa qb
end Go.Proofs.YtmojpbfkpggjhaaGreatDoor

/-
  The program logic, nineteenth part: frozen rows of whole structs, products of words, functions that the model stands in for. No statement is proved here.
-/
namespace Go.Proofs.YtmojpbfkpggjhaaGreatDoor
open Go Go.RowKit
set_option linter.unusedVariables false
set_option linter.unusedSimpArgs false
set_option linter.unusedVariables false
section
variable {P : Program} (T : Tab P) {n : Nat} {Q : Post} {L : Env} {w0 w : World} {h0 h : GHeap} {O : List Row} {ops rest : List Oper} {x y : Operand} {t : TypeId}
variable {d : Option Tmp} {ty yt : TypeId} {pos : String} {aft : Array Edge}
/-- a cell of a frozen row -/
theorem Sl.cellAt (hs : Sees w0 h0 h O w) {b sz m cp o : Nat} {xs : List Value} {v : Value} (hS : Sl h sz (some ⟨b, 0, none⟩) m cp xs) (ho : o < m * sz) (hv : xs[o]? = some v) : w.cell? ⟨b, o, none⟩ = some v := by
  obtain ⟨cs, h1, h2⟩ := (hS.2.2.2.2 _ rfl).2 o ho
  refine hs.cell h1 ?_
  rw [Nat.zero_add] at h2
  rw [h2, hv]
theorem Y.ldF1 (hs : Sees w0 h0 h O w) {dd : Ty} {b sz m cp o : Nat} {xs : List Value} {v : Value} (hS : Sl h sz (some ⟨b, 0, none⟩) m cp xs) (hx : opv L x = some (.pointer (some ⟨b, o, none⟩))) (hT : T.ty t = some dd) (hd : dd.agg = false) (ho : Nat.blt o (m * sz) = true) (hv : xs[o]? = some v) : Yields P n L w (.load t x) ty v :=
  Y.load1 T hT hd hx (Sl.cellAt hs hS (Nat.le_of_ble_eq_true ho) hv)
theorem Y.ldFN (hs : Sees w0 h0 h O w) {dd : Ty} {i : Inf} {b sz m cp o : Nat} {xs cs : List Value} (hS : Sl h sz (some ⟨b, 0, none⟩) m cp xs) (hx : opv L x = some (.pointer (some ⟨b, o, none⟩))) (hT : T.ty t = some dd) (hd : dd.agg = true) (hI : T.inf t = some i) (ho : Nat.ble (o + i.size) (m * sz) = true) (hc : (xs.drop o).take i.size = cs) (hl : cs.length = i.size) : Yields P n L w (.load t x) ty (.agg cs.toArray) := by
  have ho := Nat.le_of_ble_eq_true ho
  refine Y.loadN T hT hd hI hl hx ?_
  intro j r hj
  have hjl := (List.getElem?_eq_some_iff.1 hj).1
  refine Sl.cellAt hs hS (by omega) ?_
  rw [← hc, List.getElem?_take, if_pos (by omega), List.getElem?_drop] at hj
  exact hj
/-- a whole number, as a word -/
def wrN (z : Int) : Nat := (z % 18446744073709551616).toNat
theorem wrN_lt (z : Int) : wrN z < 18446744073709551616 := by unfold wrN; omega
theorem wrap_wrN (z : Int) : IntKind.u64.wrap z = (wrN z : Int) := by
  unfold wrN
  have e : IntKind.u64.wrap z = z % 18446744073709551616 := by
    simp [IntKind.wrap, IntKind.signed, IntKind.bits]
  rw [e]; omega
def wr32 (z : Int) : Nat := (z % 4294967296).toNat
theorem wr32_lt (z : Int) : wr32 z < 4294967296 := by unfold wr32; omega
theorem wrap_wr32 (z : Int) : IntKind.u32.wrap z = (wr32 z : Int) := by
  unfold wr32
  have e : IntKind.u32.wrap z = z % 4294967296 := by
    simp [IntKind.wrap, IntKind.signed, IntKind.bits]
  rw [e]; omega
theorem Y.mulU {u v : Nat} (hx : opv L x = some (.int .u64 (u : Int))) (hy : opv L y = some (.int .u64 (v : Int))) : Yields P n L w (.binOp .mul t x y yt) ty (.int .u64 ((u * v % 18446744073709551616 : Nat) : Int)) := by
  have := Y.mul' (P := P) (n := n) (w := w) (ty := ty) (t := t) (yt := yt) hx hy
  have e : IntKind.u64.wrap ((u : Int) * (v : Int)) = ((u * v % 18446744073709551616 : Nat) : Int) := by
    rw [wrap_wrN]; unfold wrN
    rw [← Int.natCast_mul]
    omega
  rwa [e] at this
theorem Y.addU {u v : Nat} (hx : opv L x = some (.int .u64 (u : Int))) (hy : opv L y = some (.int .u64 (v : Int))) (hb : u + v < 18446744073709551616) : Yields P n L w (.binOp .add t x y yt) ty (.int .u64 ((u + v : Nat) : Int)) := by
  have := Y.add' (P := P) (n := n) (w := w) (ty := ty) (t := t) (yt := yt) hx hy
  have e : IntKind.u64.wrap ((u : Int) + (v : Int)) = ((u + v : Nat) : Int) := by
    rw [wrap_wrN]; unfold wrN; omega
  rwa [e] at this
/-- a call of a function that the model stands in for -/
theorem Y.stood {f : FuncId} {fn : Func} {e : Array Value → Sem Value} (hf : P.funcs[f]? = some fn) (hname : (fn.name == "runtime.NumGoroutine") = false) (hb : fn.body.isNone = true) (hn : Extern.findNext fn = none) (he : Extern.find fn = some e)
    {u v : Value} (hx : opv L x = some u) (hr : (e #[u]).run P w = .ok v w) {ats : Array TypeId} : Yields P n L w (.call ⟨.value (.func f), #[x], ats⟩) ty v := by
  intro a ha d pos aft g
  have h1 := run_callFunc_extern hf hname hb hn he #[u] w
  rw [hr] at h1
  have h2 : #[x].map a.eval = #[u] := by simp [ha.eval hx]
  have hcl : a.eval (.func f) = .func (.func f) #[] #[] := rfl
  simp [execOp, resolve, Deferred.ofValue, hcl, invoke, ha.eval hx, h1]
end
/-! ## Regions that draw their order and change memory: two of the call's own rows fixed, and what lies frozen -/
section
variable {P : Program} {n : Nat} {Q : Post} {L : Env} {w0 w : World} {h0 h hb : GHeap} {O : List Row} {ops rest : List Oper} {ra rb : Row}
variable {d : Option Tmp} {ty : TypeId} {pos : String} {aft : Array Edge} {fuel : Nat} {listed : Array Bool}
def SG (w0 : World) (h0 hb : GHeap) (ra rb : Row) (w : World) : Prop := ∃ (h' : GHeap) (O : List Row) (k j : Nat), GLe hb h' ∧ Sees w0 h0 h' O w ∧ O[k]? = some ra ∧ O[j]? = some rb
theorem CW.regionG (T' : Tab P) (k j : Nat) (hs : Sees w0 h0 h O w) (ha : O[k]? = some ra) (hb' : O[j]? = some rb) {id : Nat} {l : List Oper} (K : ∀ w', Sees w0 h0 h O w' → HW P n l (calmQ Q) (SG w0 h0 h ra rb) l.length (Array.replicate l.length false) L w') : CW P n Q (.region id l.toArray true) L w :=
  CW.regionH T' (SG w0 h0 h ra rb) (fun w' e => by subst e; exact K _ hs.drew)
theorem HW.takeG (i : Nat) {op : Op} {v : Value} (hi : ops.toArray[i]? = some ⟨d, op, ty, pos, aft, none⟩) (hy : ∀ (h' : GHeap) (O : List Row) (ka kb : Nat) (w' : World), GLe hb h' → Sees w0 h0 h' O w' → O[ka]? = some ra → O[kb]? = some rb → Yields P n L w' op ty v) (hS : SG w0 h0 hb ra rb w) (hd : dstOk n d = true)
    (hs : Region.noSelect ops.toArray = true) (hf : Region.free .any ops.toArray listed i = true) (hr : (Region.ready .any ops.toArray listed).contains i = true)
    (hh : HW P n ops (calmQ Q) (SG w0 h0 hb ra rb) fuel (listed.setIfInBounds i true) (updo d v L) w) : HW P n ops (calmQ Q) (SG w0 h0 hb ra rb) (fuel + 1) listed L w :=
  HW.take i hi (fun w' ⟨h', O, k, j, g, s, a, b⟩ => hy h' O k j w' g s a b) hS hd hs hf hr hh
end
end Go.Proofs.YtmojpbfkpggjhaaGreatDoor

/-
  Contracts of functions of package hash: the keys of elements and of whole arrays. No statement is proved here.
-/
namespace Go.Proofs.YtmojpbfkpggjhaaGreatDoor
open Go Go.RowKit
set_option linter.unusedVariables false
set_option linter.unusedSimpArgs false
set_option maxHeartbeats 4000000
attribute [local irreducible] CW RW QW SW HW ConM retM heldQ calmQ elemP thenQ blockQ loopQ joinQ retQ Yields Con Sl zF magR unitF truncF fwF wholeF tidySpec elemQ rankF leastN tidyW
set_option maxHeartbeats 1000000

def mixN (a b : Nat) : Nat := ((a ^^^ b) * 11400714819323198485 % 18446744073709551616) ^^^ (((a ^^^ b) * 11400714819323198485 % 18446744073709551616) >>> 29)
theorem xor_lt64 {a b : Nat} (ha : a < 18446744073709551616) (hb : b < 18446744073709551616) : a ^^^ b < 18446744073709551616 := Nat.xor_lt_two_pow (n := 64) ha hb
theorem mixN_lt (a b : Nat) : mixN a b < 18446744073709551616 := by
  unfold mixN
  refine xor_lt64 (Nat.mod_lt _ (by decide)) ?_
  exact Nat.lt_of_le_of_lt (Nat.shiftRight_le _ _) (Nat.mod_lt _ (by decide))
theorem mix_con (a b : Nat) (w : World) (h : GHeap) (ha : a < 18446744073709551616) (hb : b < 18446744073709551616) : Con Tryz.prog 197 [.int .u64 a, .int .u64 b] w h (fun _ u => u = .int .u64 (mixN a b)) := by
  refine Con.of_body Tryz.func197 rfl Tryz.ntmps197 rfl rfl ?_
  intro hs
  refine Zrun ?_
  refine RW.val (Y.xorU rfl rfl ha hb) rfl ?_
  refine Zrun ?_
  refine RW.val (Y.mulU (v := 11400714819323198485) rfl rfl) rfl ?_
  refine Zrun ?_
  refine RW.val (Y.shrU (v := 29) rfl rfl (by omega)) rfl ?_
  refine RW.val (Y.xorU rfl rfl (Nat.mod_lt _ (by decide)) (Nat.lt_of_le_of_lt (Nat.shiftRight_le _ _) (Nat.mod_lt _ (by decide)))) rfl ?_
  refine Zrun ?_
  exact retQ_ret [_] h ⟨rfl, trivial⟩ hs rfl
theorem Y.f64bits {n : Nat} {L : Env} {w : World} {ty : TypeId} {x : Operand} {u : Nat} {ats : Array TypeId} (hx : opv L x = some (.float .f64 u)) : Yields Tryz.prog n L w (.call ⟨.value (.func 199), #[x], ats⟩) ty (.int .u64 (u : Int)) :=
  Y.stood (e := Extern.MathFloatBits.float64bits) Tryz.func199 (by kernel_rfl) (by kernel_rfl) (by kernel_rfl) (by kernel_rfl) hx rfl

/-- the key of an item, of a plain array -/
def keyIt {β : Type} (G : β → Nat) (x : ItemD β) : Nat := if x.kind = 1 then mixN 1 (wr32 x.char) else if x.kind = 2 then (x.box.map G).headD 0 else mixN 2 x.num
def keyPl {β : Type} (G : β → Nat) (p : PlainD β) : Nat := p.items.foldl (fun k x => mixN k (keyIt G x)) (p.shape.foldl (fun k d => mixN k (wrN d)) (mixN 3 (wrN p.fill)))
def keyP : (k : Nat) → PD k → Nat
  | 0 => fun _ => 0
  | k + 1 => fun p => keyPl (β := PD k) (keyP k) p
theorem fold_lt {δ : Type} (f : δ → Nat) : ∀ (l : List δ) (a : Nat), a < 18446744073709551616 → l.foldl (fun k x => mixN k (f x)) a < 18446744073709551616
  | [], _, h => h
  | x :: l, a, _ => fold_lt f l _ (mixN_lt _ _)
theorem keyPl_lt {β : Type} (G : β → Nat) (p : PlainD β) : keyPl G p < 18446744073709551616 := fold_lt _ _ _ (fold_lt _ _ _ (mixN_lt _ _))
theorem keyP_lt : ∀ (k : Nat) (p : PD k), keyP k p < 18446744073709551616
  | 0, _ => by show 0 < _; omega
  | k + 1, p => keyPl_lt (β := PD k) _ p
theorem keyIt_lt {β : Type} (G : β → Nat) (hG : ∀ b, G b < 18446744073709551616) (x : ItemD β) : keyIt G x < 18446744073709551616 := by
  unfold keyIt
  split
  · exact mixN_lt _ _
  · split
    · cases x.box with
      | nil => show 0 < _; omega
      | cons b r => exact hG b
    · exact mixN_lt _ _
theorem keyIt_num {β : Type} (G : β → Nat) (n : Nat) : keyIt G ⟨0, n, 0, []⟩ = mixN 2 n := by
  unfold keyIt
  rw [if_neg (show ¬ (0 : Int) = 1 by omega), if_neg (show ¬ (0 : Int) = 2 by omega)]
theorem keyIt_chr {β : Type} (G : β → Nat) (c : Int) : keyIt G ⟨1, 0, c, []⟩ = mixN 1 (wr32 c) := by
  unfold keyIt
  rw [if_pos (show (1 : Int) = 1 by omega)]
theorem keyIt_box {β : Type} (G : β → Nat) (b : β) : keyIt G ⟨2, 0, 0, [b]⟩ = G b := by
  unfold keyIt
  rw [if_neg (show ¬ (2 : Int) = 1 by omega), if_pos (show (2 : Int) = 2 by omega)]
  rfl
attribute [local irreducible] mixN wrN wr32 keyIt

section
variable {α β : Type} {R : GHeap → List Value → α → Prop}
theorem key_step (hR : Mono R) (h1 : One R) (f : α → β) (G : β → Nat) (q : α → Prop) (ih : ∀ cs a w h, R h cs a → q a → Con Tryz.prog 198 [.agg cs.toArray] w h (fun _ u => u = .int .u64 (G (f a) : Nat)))
    (cs : List Value) (v : VecD α) (i : Nat) (w : World) (h : GHeap) (hv : VecAt R h cs v) (hi : i < v.len) (qb : ∀ x ∈ v.boxes, q x) :
    Con Tryz.prog 186 [.agg cs.toArray, .int .i64 i] w h (fun _ u => u = .int .u64 (keyIt G ((itemsV f v).getD i noItem) : Nat)) := by
  have hv' := hv
  obtain ⟨wv, nv, sm, il, fl, ch, bx, ⟨rfl, hoc⟩, hk⟩ := hv
  clear hk
  refine Con.of_body Tryz.func186 rfl Tryz.ntmps186 rfl rfl ?_
  intro hs
  refine Zrun ?_
  (refine RW.boxN hs rfl rfl ?_; intro b1 w1 hs)
  refine Zerun ?_
  (refine RW.call T hs rfl rfl rfl (vecClass_con _ v _ _ hv') ?_; intro v h2 w2 hle2 hp2 hs)
  subst hp2
  have hv' := hv'.mono hR hle2
  refine Zerun ?_
  rcases hv'.sorts with ⟨hc, hn⟩ | ⟨hc, hn⟩ | ⟨hc, hn⟩
  · rw [itemsV_num f hc (by omega), keyIt_num]
    have tv : v.num i < 18446744073709551616 := by
      unfold VecD.num; rw [if_pos (by omega), Int.toNat_natCast]; exact (hv'.tidy _ (mem_getD _ _ _ (by omega))).1
    refine Zerun ?_
    (refine RW.call T hs rfl rfl rfl (vecNum_con _ v i _ _ hv') ?_; intro v h3 w3 hle3 hp3 hs)
    subst hp3
    refine RW.val (Y.f64bits rfl) rfl ?_
    (refine RW.call T hs rfl rfl rfl (mix_con 2 _ _ _ (by omega) tv) ?_; intro v h4 w4 hle4 hp4 hs)
    subst hp4
    refine Zerun ?_
    exact retQ_ret [_] h4 ⟨rfl, trivial⟩ hs.dropAll rfl
  · rw [itemsV_chr f hc (by omega), keyIt_chr]
    refine Zerun ?_
    (refine RW.call T hs rfl rfl rfl (vecChar_con _ v i _ _ hv') ?_; intro v h3 w3 hle3 hp3 hs)
    subst hp3
    refine RW.val (Y.convII T rfl rfl rfl) rfl ?_
    refine RW.val (Y.convII T rfl rfl rfl) rfl ?_
    rw [wrap_wr32, wrapU _ (Nat.lt_trans (wr32_lt _) (by decide))]
    (refine RW.call T hs rfl rfl rfl (mix_con 1 _ _ _ (by omega) (Nat.lt_trans (wr32_lt _) (by decide))) ?_; intro v h4 w4 hle4 hp4 hs)
    subst hp4
    refine Zerun ?_
    exact retQ_ret [_] h4 ⟨rfl, trivial⟩ hs.dropAll rfl
  · have hia : i < v.boxes.length := by omega
    rw [itemsV_box f hc hia, keyIt_box]
    refine Zerun ?_
    (refine RW.call T hs rfl rfl rfl (vecBox_con hR h1 _ v i v.boxes[i] _ _ hv' hia) ?_; intro v h3 w3 hle3 hp3 hs)
    obtain ⟨cs3, rfl, _, hR3⟩ := hp3
    rw [List.getD_eq_getElem?_getD, List.getElem?_eq_getElem hia] at hR3
    (refine RW.call T hs rfl rfl rfl (ih _ _ _ _ hR3 (qb _ (List.getElem_mem hia))) ?_; intro v h4 w4 hle4 hp4 hs)
    subst hp4
    refine Zerun ?_
    exact retQ_ret [_] h4 ⟨rfl, trivial⟩ hs.dropAll rfl
theorem fold_take {δ : Type} (f : Nat → δ → Nat) (l : List δ) (a : Nat) (i : Nat) (d : δ) (hi : i < l.length) : (l.take (i + 1)).foldl f a = f ((l.take i).foldl f a) (l.getD i d) := by
  rw [List.take_add_one, List.getElem?_eq_getElem hi, Option.toList_some, List.foldl_append]
  simp [List.getD_eq_getElem?_getD, hi]
theorem whole_step (hR : Mono R) (f : α → β) (G : β → Nat) (hG : ∀ b, G b < 18446744073709551616) (q : α → Prop) (ih : ∀ cs v i w h, VecAt R h cs v → i < v.len → (∀ x ∈ v.boxes, q x) → Con Tryz.prog 186 [.agg cs.toArray, .int .i64 (i : Nat)] w h (fun _ u => u = .int .u64 (keyIt G ((itemsV f v).getD i noItem) : Nat)))
    (cs : List Value) (a : ArrD α) (w : World) (h : GHeap) (ha : ArrR R h cs a) (qa : smlA q a) :
    Con Tryz.prog 198 [.agg cs.toArray] w h (fun _ u => u = .int .u64 (keyPl G (plainA f a) : Nat)) := by
  obtain ⟨s, vc, rfl, hs', hv⟩ := ha
  have hv' := hv
  obtain ⟨ad, cp, rfl, hS⟩ := hs'
  obtain ⟨wv, nv, sm, il, fl, ch, bx, ⟨rfl, hoc⟩, hk⟩ := hv
  clear hk
  obtain ⟨q1, q2, q3⟩ := qa
  have hlen := itemsV_len f hv'
  have hac : keyPl G (plainA f a) = (itemsV f a.vec).foldl (fun k x => mixN k (keyIt G x)) (a.shape.foldl (fun k d => mixN k (wrN d)) (mixN 3 (wrN a.vec.cls))) := rfl
  rw [hac]
  have hm3 := mixN_lt 3 (wrN a.vec.cls)
  refine Con.of_body Tryz.func198 rfl Tryz.ntmps198 rfl rfl ?_
  intro hs
  refine Zrun ?_
  (refine RW.boxN hs rfl rfl ?_; intro b1 w1 hs)
  refine Zerun ?_
  (refine RW.call T hs rfl rfl rfl (vecClass_con _ a.vec _ _ hv') ?_; intro v h2 w2 hle2 hp2 hs)
  subst hp2
  have hv' := hv'.mono hR hle2
  have hS := hS.mono hle2
  refine RW.val (Y.convII T rfl rfl rfl) rfl ?_
  rw [wrap_wrN]
  (refine RW.call T hs rfl rfl rfl (mix_con 3 _ _ _ (by omega) (wrN_lt _)) ?_; intro v h3 w3 hle3 hp3 hs)
  subst hp3
  have hv' := hv'.mono hR hle3
  have hS := hS.mono hle3
  obtain ⟨m3, e3⟩ : ∃ m3, mixN 3 (wrN a.vec.cls) = m3 := ⟨_, rfl⟩
  rw [e3] at hm3 ⊢
  refine Zerun ?_
  refine CW.loop (fun u : Nat × Nat × GHeap => [(1, .pointer (some ⟨b1, 0, none⟩)), (3, .int .u64 (u.2.1 : Int)), (13, .slice ad a.shape.length cp), (14, .int .i64 a.shape.length), (15, .int .i64 u.1)]) (fun u w' => u.1 ≤ a.shape.length ∧ u.2.1 = (a.shape.take u.1).foldl (fun k d => mixN k (wrN d)) m3 ∧ GLe h3 u.2.2 ∧ Sees w h u.2.2 [⟨some ⟨b1, 0, none⟩, 1, 1, 40, 9, .slice ad a.shape.length cp :: vecCells a.vec.kind wv nv sm il fl ch bx⟩] w') (fun u => a.shape.length - u.1) (0, m3, h3) ⟨rfl, rfl, rfl, rfl, rfl, trivial⟩ ⟨by omega, by simp, GLe.refl _, hs⟩ ?_
  rintro ⟨i, acc, hh⟩ w4 ⟨hi, hac, hg, hs⟩
  dsimp only at hi hac hg hs ⊢
  have hS := hS.mono hg
  by_cases hlt : i < a.shape.length
  · have hfl := fold_lt wrN (a.shape.take i) _ hm3
    have hft := fold_take (fun k d => mixN k (wrN d)) a.shape m3 i 0 hlt
    rw [← hac] at hfl hft
    refine Zerun ?_
    refine RW.val (Y.convII T rfl rfl rfl) rfl ?_
    rw [wrap_wrN]
    (refine RW.call T hs rfl rfl rfl (mix_con _ _ _ _ hfl (wrN_lt _)) ?_; intro v h5 w5 hle5 hp5 hs)
    subst hp5
    refine Zerun ?_
    exact loopQ_round (i + 1, _, h5) ⟨rfl, rfl, rfl, rfl, rfl, trivial⟩ ⟨by dsimp only; omega, hft.symm, hg.trans hle5, hs⟩ (by dsimp only; omega)
  have e : i = a.shape.length := by omega
  subst e
  rw [List.take_length] at hac
  have hal := fold_lt wrN a.shape _ hm3
  rw [← hac] at hal ⊢
  clear hac
  have hv' := hv'.mono hR hg
  refine Zerun ?_
  (refine RW.call T hs rfl rfl rfl (vecLen_con _ a.vec _ _ hv') ?_; intro v h6 w6 hle6 hp6 hs)
  subst hp6
  have hv' := hv'.mono hR hle6
  refine Zerun ?_
  refine CW.loop (fun u : Nat × Nat × GHeap => [(1, .pointer (some ⟨b1, 0, none⟩)), (3, .int .u64 (u.2.1 : Int)), (26, .int .i64 a.vec.len), (27, .int .i64 u.1)]) (fun u w' => u.1 ≤ a.vec.len ∧ u.2.1 = ((itemsV f a.vec).take u.1).foldl (fun k x => mixN k (keyIt G x)) acc ∧ GLe h6 u.2.2 ∧ Sees w h u.2.2 [⟨some ⟨b1, 0, none⟩, 1, 1, 40, 9, .slice ad a.shape.length cp :: vecCells a.vec.kind wv nv sm il fl ch bx⟩] w') (fun u => a.vec.len - u.1) (0, acc, h6) ⟨rfl, rfl, rfl, rfl, trivial⟩ ⟨by omega, by simp, GLe.refl _, hs⟩ ?_
  rintro ⟨i, acc2, hh⟩ w4 ⟨hi, hac2, hg, hs⟩
  dsimp only at hi hac2 hg hs ⊢
  have hv' := hv'.mono hR hg
  by_cases hlt : i < a.vec.len
  · have hfl := fold_lt (keyIt G) ((itemsV f a.vec).take i) _ hal
    have hft := fold_take (fun k x => mixN k (keyIt G x)) (itemsV f a.vec) acc i noItem (by omega)
    rw [← hac2] at hfl hft
    refine Zerun ?_
    (refine RW.call T hs rfl rfl rfl (ih _ a.vec i _ _ hv' hlt q3) ?_; intro v h7 w7 hle7 hp7 hs)
    subst hp7
    (refine RW.call T hs rfl rfl rfl (mix_con _ _ _ _ hfl (keyIt_lt G hG _)) ?_; intro v h8 w8 hle8 hp8 hs)
    subst hp8
    refine Zerun ?_
    exact loopQ_round (i + 1, _, h8) ⟨rfl, rfl, rfl, rfl, trivial⟩ ⟨by dsimp only; omega, hft.symm, (hg.trans hle7).trans hle8, hs⟩ (by dsimp only; omega)
  have e : i = (itemsV f a.vec).length := by omega
  subst e
  rw [List.take_length] at hac2
  refine Zerun ?_
  exact retQ_ret [_] hh ⟨rfl, trivial⟩ hs.dropAll (by rw [hac2]; rfl)
end
theorem whole_con : ∀ (k : Nat) (cs : List Value) (a : AD k) (w : World) (h : GHeap), ArrAt k h cs a → sml k a → Con Tryz.prog 198 [.agg cs.toArray] w h (fun _ u => u = .int .u64 (keyP k (plain k a) : Nat))
  | 0 => fun _ _ _ _ h => h.elim
  | k + 1 => fun cs a w h ha qa => whole_step (α := AD k) (β := PD k) (ArrAt.mono k) (plain k) (keyP k) (keyP_lt k) (sml k) (fun cs v i w h hv hi qb => key_step (ArrAt.mono k) (ArrAt.one k) (plain k) (keyP k) (sml k) (whole_con k) cs v i w h hv hi qb) cs a w h ha qa
theorem key_con (k : Nat) (cs : List Value) (v : VecD (AD k)) (i : Nat) (w : World) (h : GHeap) (hv : VecAt (ArrAt k) h cs v) (hi : i < v.len) (qb : ∀ x ∈ v.boxes, sml k x) : Con Tryz.prog 186 [.agg cs.toArray, .int .i64 i] w h (fun _ u => u = .int .u64 (keyIt (keyP k) ((itemsV (plain k) v).getD i noItem) : Nat)) :=
  key_step (ArrAt.mono k) (ArrAt.one k) (plain k) (keyP k) (sml k) (whole_con k) cs v i w h hv hi qb
end Go.Proofs.YtmojpbfkpggjhaaGreatDoor

/-
  Plain Lean on hash tables: where an element is first in a list, and slots that are looked through in turn. No statement is proved here.
-/
namespace Go.Proofs.YtmojpbfkpggjhaaGreatDoor
open Go Go.RowKit
set_option linter.unusedVariables false
set_option linter.unusedSimpArgs false

section
variable {γ : Type}
/-- where an element is first in a list; the list's length, if it isn't there -/
noncomputable def ixOf (l : List γ) (x : γ) : Nat := l.findIdx (fun y => eqB y x)
theorem ixOf_le (l : List γ) (x : γ) : ixOf l x ≤ l.length := List.findIdx_le_length
theorem ixOf_get {l : List γ} {x : γ} (h : ixOf l x < l.length) : l[ixOf l x] = x := (eqB_true _ _).1 (List.findIdx_getElem (p := fun y => eqB y x) (w := h))
theorem ixOf_min {l : List γ} {x : γ} {j : Nat} (h : j < ixOf l x) (hj : j < l.length) : l[j] ≠ x := by
  intro e
  have := List.not_of_lt_findIdx (p := fun y => eqB y x) h
  rw [eqB_of e] at this
  cases this
theorem ixOf_of {l : List γ} {x : γ} {i : Nat} (hi : i < l.length) (he : l[i] = x) (hm : ∀ j (hj : j < i), l[j] ≠ x) : ixOf l x = i := by
  rcases Nat.lt_trichotomy (ixOf l x) i with h | h | h
  · exact absurd (ixOf_get (by omega)) (hm _ h)
  · exact h
  · exact absurd he (ixOf_min h hi)
theorem ixOf_not {l : List γ} {x : γ} (hm : ∀ j (hj : j < l.length), l[j] ≠ x) : ixOf l x = l.length := by
  rcases Nat.lt_or_ge (ixOf l x) l.length with h | h
  · exact absurd (ixOf_get h) (hm _ h)
  · exact Nat.le_antisymm (ixOf_le l x) h

/-- slots: below 0 they are free, the others hold numbers of elements; those of S are in it, each once -/
structure TabOk (key : γ → Nat) (el : Nat → γ) (S : Nat → Prop) (c : Nat) (sl : List Int) : Prop where
  rng : ∀ p, p < sl.length → sl.getD p 0 = -1 ∨ ∃ i : Nat, S i ∧ sl.getD p 0 = (i : Int)
  at_ : ∀ i, S i → ∃ d, sl.getD ((key (el i) + d) % sl.length) 0 = (i : Int) ∧ ∀ e, e < d → 0 ≤ sl.getD ((key (el i) + e) % sl.length) 0
  one : ∀ i j, S i → S j → el i = el j → i = j
  cnt : sl.countP (fun z => decide (0 ≤ z)) ≤ c
/-- so many slots were looked at, and none has the element -/
def Probed (key : γ → Nat) (el : Nat → γ) (sl : List Int) (x : γ) (d : Nat) : Prop := ∀ e, e < d → ∃ i : Nat, sl.getD ((key x + e) % sl.length) 0 = (i : Int) ∧ el i ≠ x
variable {key : γ → Nat} {el : Nat → γ} {S : Nat → Prop} {c : Nat} {sl : List Int} {x : γ} {d : Nat}
theorem countP_all {l : List Int} (h : ∀ p, p < l.length → 0 ≤ l.getD p 0) : l.countP (fun z => decide (0 ≤ z)) = l.length := by
  rw [List.countP_eq_length]
  intro a ha
  obtain ⟨i, hi, rfl⟩ := List.getElem_of_mem ha
  have := h i hi
  rw [List.getD_eq_getElem?_getD, List.getElem?_eq_getElem hi] at this
  simpa using this
theorem TabOk.room (ok : TabOk key el S c sl) (hc : c < sl.length) (hp : Probed key el sl x d) : d < sl.length := by
  rcases Nat.lt_or_ge d sl.length with h | h
  · exact h
  · exfalso
    have := countP_all (l := sl) (fun p hpl => by
      have hm := Nat.mod_lt (key x) (show 0 < sl.length by omega)
      obtain ⟨i, hi, _⟩ := hp ((p + (sl.length - key x % sl.length)) % sl.length) (Nat.lt_of_lt_of_le (Nat.mod_lt _ (by omega)) h)
      have e : (key x + (p + (sl.length - key x % sl.length)) % sl.length) % sl.length = p := by
        rw [Nat.add_mod, Nat.mod_mod, ← Nat.add_mod]
        have e2 : key x + (p + (sl.length - key x % sl.length)) = p + sl.length * (key x / sl.length + 1) := by
          have := Nat.div_add_mod (key x) sl.length
          rw [Nat.mul_add, Nat.mul_one]
          omega
        rw [e2, Nat.add_mul_mod_self_left]
        exact Nat.mod_eq_of_lt hpl
      rw [e] at hi
      omega)
    have := ok.cnt
    omega
theorem TabOk.miss (ok : TabOk key el S c sl) (hp : Probed key el sl x d) (hs : sl.getD ((key x + d) % sl.length) 0 < 0) : ∀ j, S j → el j ≠ x := by
  intro j hj e
  obtain ⟨dj, h1, h2⟩ := ok.at_ j hj
  rw [e] at h1 h2
  rcases Nat.lt_trichotomy d dj with h | h | h
  · have := h2 d h; omega
  · rw [h] at hs; omega
  · obtain ⟨i, h3, h4⟩ := hp dj h
    rw [h1] at h3
    have : j = i := by omega
    exact h4 (this ▸ e)
theorem countP_set_neg : ∀ (l : List Int) (p : Nat) (v : Int), p < l.length → l.getD p 0 < 0 → 0 ≤ v → (l.set p v).countP (fun z => decide (0 ≤ z)) = l.countP (fun z => decide (0 ≤ z)) + 1
  | [], _, _, h, _, _ => absurd h (Nat.not_lt_zero _)
  | a :: l, 0, v, _, hn, hv => by
    have hn : a < 0 := by simpa using hn
    simp only [List.set_cons_zero, List.countP_cons]
    rw [decide_eq_true hv, decide_eq_false (show ¬ 0 ≤ a by omega)]
    simp
  | a :: l, p + 1, v, h, hn, hv => by
    have := countP_set_neg l p v (by simpa using h) (by simpa using hn) hv
    simp only [List.set_cons_succ, List.countP_cons, this]
    omega
theorem getD_setI (l : List Int) (k j : Nat) (v d : Int) (h : k < l.length) : (l.set k v).getD j d = if j = k then v else l.getD j d := by
  simp only [List.getD_eq_getElem?_getD, List.getElem?_set]
  by_cases e : k = j
  · subst e; simp [h]
  · simp [e, Ne.symm e]
theorem TabOk.put (ok : TabOk key el S c sl) {k : Nat} (hp : Probed key el sl (el k) d) (hs : sl.getD ((key (el k) + d) % sl.length) 0 < 0) (hl : 0 < sl.length) :
    TabOk key el (fun i => S i ∨ i = k) (c + 1) (sl.set ((key (el k) + d) % sl.length) (k : Int)) := by
  have hpl := Nat.mod_lt (key (el k) + d) hl
  have hmiss := ok.miss hp hs
  refine ⟨?_, ?_, ?_, ?_⟩
  · intro p hpp
    rw [List.length_set] at hpp
    rw [getD_setI _ _ _ _ _ hpl]
    split
    · exact .inr ⟨k, .inr rfl, rfl⟩
    · rcases ok.rng p hpp with h | ⟨i, h1, h2⟩
      · exact .inl h
      · exact .inr ⟨i, .inl h1, h2⟩
  · intro i hi
    simp only [List.length_set]
    by_cases hik : i = k
    · subst hik
      refine ⟨d, ?_, ?_⟩
      · rw [getD_setI _ _ _ _ _ hpl, if_pos rfl]
      · intro e he
        rw [getD_setI _ _ _ _ _ hpl]
        split
        · omega
        · obtain ⟨i, h1, _⟩ := hp e he; omega
    · have hi' : S i := hi.resolve_right hik
      obtain ⟨di, h1, h2⟩ := ok.at_ i hi'
      refine ⟨di, ?_, ?_⟩
      · rw [getD_setI _ _ _ _ _ hpl, if_neg]
        · exact h1
        · intro e; rw [e] at h1; omega
      · intro e he
        rw [getD_setI _ _ _ _ _ hpl]
        split
        · omega
        · exact h2 e he
  · intro i j hi hj e
    rcases hi with hi | rfl <;> rcases hj with hj | rfl
    · exact ok.one i j hi hj e
    · exact absurd e (hmiss i hi)
    · exact absurd e.symm (hmiss j hj)
    · rfl
  · rw [countP_set_neg _ _ _ hpl hs (by omega)]
    have := ok.cnt
    omega
theorem TabOk.keep (ok : TabOk key el S c sl) {S' : Nat → Prop} (hS : ∀ i, S' i ↔ S i) {c' : Nat} (hc : c ≤ c') : TabOk key el S' c' sl :=
  ⟨fun p hp => (ok.rng p hp).imp id fun ⟨i, a, b⟩ => ⟨i, (hS i).2 a, b⟩, fun i hi => ok.at_ i ((hS i).1 hi), fun i j hi hj => ok.one i j ((hS i).1 hi) ((hS j).1 hj), Nat.le_trans ok.cnt hc⟩
theorem TabOk.empty (key : γ → Nat) (el : Nat → γ) (m : Nat) : TabOk key el (fun _ => False) 0 (List.replicate m (-1)) := by
  refine ⟨fun p hp => .inl ?_, fun i h => h.elim, fun i j h => h.elim, ?_⟩
  · rw [List.length_replicate] at hp
    simp [List.getD_eq_getElem?_getD, hp]
  · rw [List.countP_replicate]; simp
/-- the elements, of the first ones, that aren't like one ahead of them -/
def Firsts (l : List γ) (k : Nat) (i : Nat) : Prop := i < k ∧ ∃ h : i < l.length, ixOf l l[i] = i
theorem firsts_old {l : List γ} {k : Nat} (hk : k < l.length) (h : ixOf l l[k] ≠ k) (i : Nat) : Firsts l (k + 1) i ↔ Firsts l k i := by
  constructor
  · rintro ⟨h1, h2, h3⟩
    refine ⟨?_, h2, h3⟩
    rcases Nat.lt_or_ge i k with h4 | h4
    · exact h4
    · have : i = k := by omega
      subst this; exact absurd h3 h
  · rintro ⟨h1, h2⟩; exact ⟨by omega, h2⟩
theorem firsts_new {l : List γ} {k : Nat} (hk : k < l.length) (h : ixOf l l[k] = k) (i : Nat) : Firsts l (k + 1) i ↔ (Firsts l k i ∨ i = k) := by
  constructor
  · rintro ⟨h1, h2⟩
    rcases Nat.lt_or_ge i k with h4 | h4
    · exact .inl ⟨h4, h2⟩
    · exact .inr (by omega)
  · rintro (⟨h1, h2⟩ | rfl)
    · exact ⟨by omega, h2⟩
    · exact ⟨by omega, hk, h⟩
/-- what a look through the table comes to -/
theorem look_hit {l : List γ} {n : Nat} (d0 : γ) (ok : TabOk key (fun i => l.getD i d0) (Firsts l n) c sl) {d : Nat} {i : Nat} (hs : sl.getD ((key x + d) % sl.length) 0 = (i : Int)) (hl : 0 < sl.length) (hx : l.getD i d0 = x) : i < n ∧ ixOf l x = i := by
  rcases ok.rng _ (Nat.mod_lt (key x + d) hl) with h | ⟨j, ⟨h1, h2, h3⟩, h4⟩
  · omega
  · have : i = j := by omega
    subst this
    rw [List.getD_eq_getElem?_getD, List.getElem?_eq_getElem h2] at hx
    simp only [Option.getD_some] at hx
    rw [hx] at h3
    exact ⟨h1, h3⟩
theorem look_miss {l : List γ} {n : Nat} (d0 : γ) (ok : TabOk key (fun i => l.getD i d0) (Firsts l n) c sl) {d : Nat} (hp : Probed key (fun i => l.getD i d0) sl x d) (hs : sl.getD ((key x + d) % sl.length) 0 < 0) : ∀ j (hj : j < l.length), j < n → l[j] ≠ x := by
  intro j hj hjn e
  have hm := ok.miss hp hs
  have h1 : ixOf l x ≤ j := by
    rcases Nat.lt_or_ge j (ixOf l x) with h | h
    · exact absurd e (ixOf_min h hj)
    · exact h
  have h2 : ixOf l x < l.length := by omega
  have h3 := ixOf_get h2
  refine hm (ixOf l x) ⟨by omega, h2, ?_⟩ ?_
  · rw [h3]
  · show l.getD (ixOf l x) d0 = x
    rw [List.getD_eq_getElem?_getD, List.getElem?_eq_getElem h2]
    exact h3
theorem and_mask (k e : Nat) : k &&& (2 ^ e - 1) = k % 2 ^ e := Nat.and_two_pow_sub_one_eq_mod k e
theorem probe_next (a d m : Nat) : ((a + d) % m + 1) % m = (a + (d + 1)) % m := by
  rw [Nat.add_mod, Nat.mod_mod, ← Nat.add_mod, Nat.add_assoc]
end
end Go.Proofs.YtmojpbfkpggjhaaGreatDoor

/-
  Contracts of functions of package hash: a new table. No statement is proved here.
-/
namespace Go.Proofs.YtmojpbfkpggjhaaGreatDoor
open Go Go.RowKit
set_option linter.unusedVariables false
set_option linter.unusedSimpArgs false
set_option maxHeartbeats 4000000
attribute [local irreducible] CW RW QW SW HW ConM retM heldQ calmQ elemP thenQ blockQ loopQ joinQ retQ Yields Con Sl zF magR unitF truncF fwF wholeF tidySpec elemQ rankF leastN tidyW
set_option maxHeartbeats 1000000

/-- the cells of a table: the elements, the slots, the mask -/
def tblCells (vc : List Value) (bs m : Nat) : List Value := vc ++ [.slice (some ⟨bs, 0, none⟩) m m, .int .u64 ((m - 1 : Nat) : Int)]
def TblAt (h : GHeap) (bt : Nat) (vc : List Value) (bs m : Nat) : Prop := Sl h 10 (some ⟨bt, 0, none⟩) 1 1 (tblCells vc bs m)
def slotRow (bs m : Nat) (sl : List Int) : Row := ⟨some ⟨bs, 0, none⟩, m, m, 3, 1, sl.map (Value.int .i64)⟩
theorem set_fill {δ : Type} (a b : δ) (i m : Nat) (h : i < m) : (List.replicate i a ++ List.replicate (m - i) b).set i a = List.replicate (i + 1) a ++ List.replicate (m - (i + 1)) b := by
  obtain ⟨r, hr⟩ : ∃ r, m - i = r + 1 := ⟨m - i - 1, by omega⟩
  have e : m - (i + 1) = r := by omega
  rw [hr, e, List.replicate_succ, List.replicate_succ', List.append_assoc]
  rw [List.set_append_right _ _ (by simp)]
  simp
section
variable {α : Type} {R : GHeap → List Value → α → Prop}
theorem hashNew_conM (hR : Mono R) (cs : List Value) (v : VecD α) (n : Nat) (w0 w : World) (h0 h : GHeap) (O : List Row) (hv : VecAt R h cs v) (hn : n ≤ 1048576) : ConM Tryz.prog 162 [.agg cs.toArray, .int .i64 n] w0 h0 h O w
    (fun h' O' u => ∃ bt bs m, u = .pointer (some ⟨bt, 0, none⟩) ∧ TblAt h' bt cs bs m ∧ O' = slotRow bs m (List.replicate m (-1)) :: O ∧ (∃ e, m = 2 ^ e) ∧ 2 * n ≤ m ∧ 8 ≤ m ∧ m ≤ 4194304) := by
  obtain ⟨wv, nv, sm, il, fl, ch, bx, ⟨rfl, hoc⟩, _⟩ := hv
  refine ConM.of_body Tryz.func162 rfl Tryz.ntmps162 rfl rfl ?_
  intro hs
  refine Zrun ?_
  (refine RW.boxN hs rfl rfl ?_; intro b1 w1 hs)
  refine Zrun ?_
  refine CW.loop (fun s : Nat => [(1, .int .i64 n), (2, .pointer (some ⟨b1, 0, none⟩)), (5, .int .i64 s)]) (fun s w' => (∃ e, s = 2 ^ e) ∧ 8 ≤ s ∧ s ≤ 4194304 ∧ Sees w0 h0 h (⟨some ⟨b1, 0, none⟩, 1, 1, 38, 8, vecCells v.kind wv nv sm il fl ch bx⟩ :: O) w') (fun s => 4194304 - s) 8 ⟨rfl, rfl, rfl, trivial⟩ ⟨⟨3, by decide⟩, by omega, by omega, hs⟩ ?_
  rintro s w2 ⟨hpow, hs1, hs2, hs⟩
  refine Zrun ?_
  refine RW.val (Y.mul rfl rfl ?_) rfl ?_
  · omega
  by_cases hlt : s < 2 * n
  · first | (refine A0 ?_; first | refine R1 rfl rfl ?_ | refine R2 rfl rfl ?_ | (refine A1 ?_; first | refine D3 rfl rfl ?_ | refine D4 rfl rfl rfl rfl ?_ | refine D5 rfl rfl rfl ?_ | refine E6 ?_ rfl rfl | refine E7 ?_ rfl rfl) | refine Zb ?_ rfl | (refine A3 ?_; first | refine R34 T hs 0 rfl rfl rfl rfl rfl rfl ?_ | refine R34 T hs 1 rfl rfl rfl rfl rfl rfl ?_ | refine Zl ?_ rfl) | refine Zi ?_ rfl | refine Zo ?_ rfl | refine A8 ?_) | (refine B0 ?_; first | refine B1 ?_ | refine B2 ?_ | refine B3 ?_ | refine B4 ?_ | refine B5 ?_ | refine B6 ?_ | refine B7 rfl ?_ | refine B8 rfl ?_ | refine E8 ?_ rfl | refine E9 ?_ rfl) | refine C1 ?_ | refine C2 ?_ | refine C3 ?_ | refine C4 ?_ | refine C5 ?_ | refine C6 ?_ | refine C7 ?_ | refine C8 ?_ | refine C9 ?_ | refine D1 rfl ?_ | refine D2 rfl ?_
    first | (refine A0 ?_; first | refine R1 rfl rfl ?_ | refine R2 rfl rfl ?_ | (refine A1 ?_; first | refine D3 rfl rfl ?_ | refine D4 rfl rfl rfl rfl ?_ | refine D5 rfl rfl rfl ?_ | refine E6 ?_ rfl rfl | refine E7 ?_ rfl rfl) | refine Zb ?_ rfl | (refine A3 ?_; first | refine R34 T hs 0 rfl rfl rfl rfl rfl rfl ?_ | refine R34 T hs 1 rfl rfl rfl rfl rfl rfl ?_ | refine Zl ?_ rfl) | refine Zi ?_ rfl | refine Zo ?_ rfl | refine A8 ?_) | (refine B0 ?_; first | refine B1 ?_ | refine B2 ?_ | refine B3 ?_ | refine B4 ?_ | refine B5 ?_ | refine B6 ?_ | refine B7 rfl ?_ | refine B8 rfl ?_ | refine E8 ?_ rfl | refine E9 ?_ rfl) | refine C1 ?_ | refine C2 ?_ | refine C3 ?_ | refine C4 ?_ | refine C5 ?_ | refine C6 ?_ | refine C7 ?_ | refine C8 ?_ | refine C9 ?_ | refine D1 rfl ?_ | refine D2 rfl ?_
    first | (refine A0 ?_; first | refine R1 rfl rfl ?_ | refine R2 rfl rfl ?_ | (refine A1 ?_; first | refine D3 rfl rfl ?_ | refine D4 rfl rfl rfl rfl ?_ | refine D5 rfl rfl rfl ?_ | refine E6 ?_ rfl rfl | refine E7 ?_ rfl rfl) | refine Zb ?_ rfl | (refine A3 ?_; first | refine R34 T hs 0 rfl rfl rfl rfl rfl rfl ?_ | refine R34 T hs 1 rfl rfl rfl rfl rfl rfl ?_ | refine Zl ?_ rfl) | refine Zi ?_ rfl | refine Zo ?_ rfl | refine A8 ?_) | (refine B0 ?_; first | refine B1 ?_ | refine B2 ?_ | refine B3 ?_ | refine B4 ?_ | refine B5 ?_ | refine B6 ?_ | refine B7 rfl ?_ | refine B8 rfl ?_ | refine E8 ?_ rfl | refine E9 ?_ rfl) | refine C1 ?_ | refine C2 ?_ | refine C3 ?_ | refine C4 ?_ | refine C5 ?_ | refine C6 ?_ | refine C7 ?_ | refine C8 ?_ | refine C9 ?_ | refine D1 rfl ?_ | refine D2 rfl ?_
    first | (refine A0 ?_; first | refine R1 rfl rfl ?_ | refine R2 rfl rfl ?_ | (refine A1 ?_; first | refine D3 rfl rfl ?_ | refine D4 rfl rfl rfl rfl ?_ | refine D5 rfl rfl rfl ?_ | refine E6 ?_ rfl rfl | refine E7 ?_ rfl rfl) | refine Zb ?_ rfl | (refine A3 ?_; first | refine R34 T hs 0 rfl rfl rfl rfl rfl rfl ?_ | refine R34 T hs 1 rfl rfl rfl rfl rfl rfl ?_ | refine Zl ?_ rfl) | refine Zi ?_ rfl | refine Zo ?_ rfl | refine A8 ?_) | (refine B0 ?_; first | refine B1 ?_ | refine B2 ?_ | refine B3 ?_ | refine B4 ?_ | refine B5 ?_ | refine B6 ?_ | refine B7 rfl ?_ | refine B8 rfl ?_ | refine E8 ?_ rfl | refine E9 ?_ rfl) | refine C1 ?_ | refine C2 ?_ | refine C3 ?_ | refine C4 ?_ | refine C5 ?_ | refine C6 ?_ | refine C7 ?_ | refine C8 ?_ | refine C9 ?_ | refine D1 rfl ?_ | refine D2 rfl ?_
    first | (refine A0 ?_; first | refine R1 rfl rfl ?_ | refine R2 rfl rfl ?_ | (refine A1 ?_; first | refine D3 rfl rfl ?_ | refine D4 rfl rfl rfl rfl ?_ | refine D5 rfl rfl rfl ?_ | refine E6 ?_ rfl rfl | refine E7 ?_ rfl rfl) | refine Zb ?_ rfl | (refine A3 ?_; first | refine R34 T hs 0 rfl rfl rfl rfl rfl rfl ?_ | refine R34 T hs 1 rfl rfl rfl rfl rfl rfl ?_ | refine Zl ?_ rfl) | refine Zi ?_ rfl | refine Zo ?_ rfl | refine A8 ?_) | (refine B0 ?_; first | refine B1 ?_ | refine B2 ?_ | refine B3 ?_ | refine B4 ?_ | refine B5 ?_ | refine B6 ?_ | refine B7 rfl ?_ | refine B8 rfl ?_ | refine E8 ?_ rfl | refine E9 ?_ rfl) | refine C1 ?_ | refine C2 ?_ | refine C3 ?_ | refine C4 ?_ | refine C5 ?_ | refine C6 ?_ | refine C7 ?_ | refine C8 ?_ | refine C9 ?_ | refine D1 rfl ?_ | refine D2 rfl ?_
    first | (refine A0 ?_; first | refine R1 rfl rfl ?_ | refine R2 rfl rfl ?_ | (refine A1 ?_; first | refine D3 rfl rfl ?_ | refine D4 rfl rfl rfl rfl ?_ | refine D5 rfl rfl rfl ?_ | refine E6 ?_ rfl rfl | refine E7 ?_ rfl rfl) | refine Zb ?_ rfl | (refine A3 ?_; first | refine R34 T hs 0 rfl rfl rfl rfl rfl rfl ?_ | refine R34 T hs 1 rfl rfl rfl rfl rfl rfl ?_ | refine Zl ?_ rfl) | refine Zi ?_ rfl | refine Zo ?_ rfl | refine A8 ?_) | (refine B0 ?_; first | refine B1 ?_ | refine B2 ?_ | refine B3 ?_ | refine B4 ?_ | refine B5 ?_ | refine B6 ?_ | refine B7 rfl ?_ | refine B8 rfl ?_ | refine E8 ?_ rfl | refine E9 ?_ rfl) | refine C1 ?_ | refine C2 ?_ | refine C3 ?_ | refine C4 ?_ | refine C5 ?_ | refine C6 ?_ | refine C7 ?_ | refine C8 ?_ | refine C9 ?_ | refine D1 rfl ?_ | refine D2 rfl ?_
    first | (refine A0 ?_; first | refine R1 rfl rfl ?_ | refine R2 rfl rfl ?_ | (refine A1 ?_; first | refine D3 rfl rfl ?_ | refine D4 rfl rfl rfl rfl ?_ | refine D5 rfl rfl rfl ?_ | refine E6 ?_ rfl rfl | refine E7 ?_ rfl rfl) | refine Zb ?_ rfl | (refine A3 ?_; first | refine R34 T hs 0 rfl rfl rfl rfl rfl rfl ?_ | refine R34 T hs 1 rfl rfl rfl rfl rfl rfl ?_ | refine Zl ?_ rfl) | refine Zi ?_ rfl | refine Zo ?_ rfl | refine A8 ?_) | (refine B0 ?_; first | refine B1 ?_ | refine B2 ?_ | refine B3 ?_ | refine B4 ?_ | refine B5 ?_ | refine B6 ?_ | refine B7 rfl ?_ | refine B8 rfl ?_ | refine E8 ?_ rfl | refine E9 ?_ rfl) | refine C1 ?_ | refine C2 ?_ | refine C3 ?_ | refine C4 ?_ | refine C5 ?_ | refine C6 ?_ | refine C7 ?_ | refine C8 ?_ | refine C9 ?_ | refine D1 rfl ?_ | refine D2 rfl ?_
    first | (refine A0 ?_; first | refine R1 rfl rfl ?_ | refine R2 rfl rfl ?_ | (refine A1 ?_; first | refine D3 rfl rfl ?_ | refine D4 rfl rfl rfl rfl ?_ | refine D5 rfl rfl rfl ?_ | refine E6 ?_ rfl rfl | refine E7 ?_ rfl rfl) | refine Zb ?_ rfl | (refine A3 ?_; first | refine R34 T hs 0 rfl rfl rfl rfl rfl rfl ?_ | refine R34 T hs 1 rfl rfl rfl rfl rfl rfl ?_ | refine Zl ?_ rfl) | refine Zi ?_ rfl | refine Zo ?_ rfl | refine A8 ?_) | (refine B0 ?_; first | refine B1 ?_ | refine B2 ?_ | refine B3 ?_ | refine B4 ?_ | refine B5 ?_ | refine B6 ?_ | refine B7 rfl ?_ | refine B8 rfl ?_ | refine E8 ?_ rfl | refine E9 ?_ rfl) | refine C1 ?_ | refine C2 ?_ | refine C3 ?_ | refine C4 ?_ | refine C5 ?_ | refine C6 ?_ | refine C7 ?_ | refine C8 ?_ | refine C9 ?_ | refine D1 rfl ?_ | refine D2 rfl ?_
    refine RW.respell (t := 15) rfl (congrArg Value.bool (decide_eq_true (show (s : Int) < 4194304 by omega))) ?_
    refine Zrun ?_
    refine RW.val (Y.mul rfl rfl ?_) rfl ?_
    · omega
    refine Zrun ?_
    refine loopQ_round (2 * s) ⟨rfl, rfl, seti (by omega), trivial⟩ ⟨?_, by omega, by omega, hs⟩ (by omega)
    obtain ⟨e, he⟩ := hpow
    exact ⟨e + 1, by rw [he, Nat.pow_succ, Nat.mul_comm]⟩
  refine Zrun ?_
  refine CW.meet (fun q : Nat × Nat => [(6, .pointer (some ⟨q.2, 0, none⟩))]) (fun q w' => Sees w0 h0 h (⟨some ⟨q.2, 0, none⟩, 1, 1, 206, 10, tblCells (vecCells v.kind wv nv sm il fl ch bx) q.1 s⟩ :: ⟨some ⟨q.1, 0, none⟩, s, s, 3, 1, List.replicate s (.int .i64 0)⟩ :: ⟨some ⟨b1, 0, none⟩, 1, 1, 38, 8, vecCells v.kind wv nv sm il fl ch bx⟩ :: O) w') ?_ ?_
  · have hwr : IntKind.u64.wrap ((s : Int) - 1) = ((s - 1 : Nat) : Int) := by
      rw [wrap_wrN]; unfold wrN; omega
    refine CW.regionR T 0 0 hs rfl rfl ?_
    intro w4 hs
    refine HW.takeR (fuel := 8) 0 rfl (fun _ _ ka kb _ hs hka hkb => Y.loadRowN T hs ka hka rfl rfl rfl rfl rfl rfl) ⟨_, _, 0, 0, hs, rfl, rfl⟩ rfl (by kernel_rfl) (by kernel_rfl) (by kernel_rfl) ?_
    refine HW.takeR (fuel := 7) 1 rfl (fun _ _ ka kb _ hs hka hkb => Y.move rfl) ⟨_, _, 0, 0, hs, rfl, rfl⟩ rfl (by kernel_rfl) (by kernel_rfl) (by kernel_rfl) ?_
    refine HW.takeR (fuel := 6) 3 rfl (fun _ _ ka kb _ hs hka hkb => Y.move rfl) ⟨_, _, 0, 0, hs, rfl, rfl⟩ rfl (by kernel_rfl) (by kernel_rfl) (by kernel_rfl) ?_
    refine HW.takeR (fuel := 5) 4 rfl (fun _ _ ka kb _ hs hka hkb => Y.sub rfl rfl (by omega)) ⟨_, _, 0, 0, hs, rfl, rfl⟩ rfl (by kernel_rfl) (by kernel_rfl) (by kernel_rfl) ?_
    refine HW.takeR (fuel := 4) 5 rfl (fun _ _ ka kb _ hs hka hkb => Y.convII T rfl rfl rfl) ⟨_, _, 0, 0, hs, rfl, rfl⟩ rfl (by kernel_rfl) (by kernel_rfl) (by kernel_rfl) ?_
    refine HW.one (fuel := 3) 2 rfl (by kernel_rfl) ?_
    (refine RW.make1 T hs rfl rfl rfl rfl rfl rfl rfl (by dsimp only; omega) (by omega) ?_; intro b20 w20 hs)
    refine RW.nil ?_
    refine heldQ_normal ⟨_, _, 1, 1, hs, rfl, rfl⟩ ?_
    refine HW.takeR (fuel := 2) 6 rfl (fun _ _ ka kb _ hs hka hkb => Y.build T rfl rfl rfl rfl rfl rfl rfl) ⟨_, _, 1, 1, hs, rfl, rfl⟩ rfl (by kernel_rfl) (by kernel_rfl) (by kernel_rfl) ?_
    refine HW.one (fuel := 1) 7 rfl (by kernel_rfl) ?_
    (refine RW.boxN hs rfl rfl ?_; intro b25 w25 hs)
    refine RW.nil ?_
    refine heldQ_normal ⟨_, _, 2, 2, hs, rfl, rfl⟩ ?_
    refine HW.takeR (fuel := 0) 8 rfl (fun _ _ ka kb _ hs hka hkb => Y.assign rfl) ⟨_, _, 2, 2, hs, rfl, rfl⟩ rfl (by kernel_rfl) (by kernel_rfl) (by kernel_rfl) ?_
    refine HW.done (by kernel_rfl) ?_
    refine calmQ_normal ?_
    rw [hwr] at hs
    exact joinQ_meet (b20, b25) ⟨rfl, trivial⟩ hs
  rintro ⟨bs, bt⟩ w5 hs
  dsimp only at hs ⊢
  obtain ⟨h3, hle3, hs, hT⟩ := hs.freeze
  have hs := hs.swap.drop
  refine Zrun ?_
  refine RW.val (Y.nilCheck rfl) rfl ?_
  refine Zrun ?_
  refine RW.val (Y.ldF1 T hs hT rfl rfl rfl rfl rfl) rfl ?_
  refine Zrun ?_
  refine CW.loop (fun i : Nat => [(6, .pointer (some ⟨bt, 0, none⟩)), (30, .int .i64 s), (31, .int .i64 i)]) (fun i w' => i ≤ s ∧ Sees w0 h0 h3 (slotRow bs s (List.replicate i (-1) ++ List.replicate (s - i) 0) :: O) w') (fun i => s - i) 0 ⟨rfl, rfl, rfl, trivial⟩ ⟨by omega, by simpa [slotRow] using hs⟩ ?_
  rintro i w6 ⟨hi, hs⟩
  by_cases hlt2 : i < s
  · refine Zrun ?_
    refine RW.val (Y.nilCheck rfl) rfl ?_
    refine Zrun ?_
    refine RW.val (Y.ldF1 T hs hT rfl rfl rfl rfl rfl) rfl ?_
    refine Zrun ?_
    refine RW.val (Y.idxRN T hs 0 rfl rfl rfl rfl rfl rfl hlt2) rfl ?_
    refine RW.st1 T hs 0 rfl rfl rfl rfl rfl rfl rfl hlt2 ?_
    intro w7 hs
    dsimp only [slotRow, List.set_cons_zero] at hs
    rw [map_set_int, set_fill _ _ _ _ hlt2] at hs
    refine Zrun ?_
    exact loopQ_round (i + 1) ⟨rfl, rfl, rfl, trivial⟩ ⟨by omega, hs⟩ (by omega)
  have e2 : i = s := by omega
  subst e2
  refine Zrun ?_
  refine retM_ret [_] h3 _ ⟨rfl, trivial⟩ hle3 hs ⟨bt, bs, i, rfl, hT, ?_, hpow, by omega, hs1, hs2⟩
  rw [Nat.sub_self, List.replicate_zero, List.append_nil]
end
end Go.Proofs.YtmojpbfkpggjhaaGreatDoor

/-
  Contracts of methods of hash.Table: the slot of an element. No statement is proved here.
-/
namespace Go.Proofs.YtmojpbfkpggjhaaGreatDoor
open Go Go.RowKit
set_option linter.unusedVariables false
set_option linter.unusedSimpArgs false
set_option maxHeartbeats 4000000
attribute [local irreducible] CW RW QW SW HW ConM retM heldQ calmQ elemP thenQ blockQ loopQ joinQ retQ Yields Con Sl zF magR unitF truncF fwF wholeF tidySpec elemQ rankF leastN tidyW
set_option maxHeartbeats 1000000
attribute [local irreducible] mixN wrN wr32 keyIt keyP

theorem mask_of {m a : Nat} (hp : ∃ e, m = 2 ^ e) : a &&& (m - 1) = a % m := by
  obtain ⟨e, rfl⟩ := hp
  exact and_mask a e
section
variable {P : Program} {n : Nat} {ops rest : List Oper} {C : World → Prop} {K : Env → Prop} {L : Env} {d : Option Tmp} {ty : TypeId} {pos : String} {aft : Array Edge} {g : Option (Nat × Bool)}
/-- the elements of a list, by number -/
def elsOf {γ : Type} (l : List (ItemD γ)) (i : Nat) : ItemD γ := l.getD i noItem
end
theorem hashFind_conM (k : Nat) (bt bs m q : Nat) (cs cs' : List Value) (v u : VecD (AD k)) (j : Nat) (S : Nat → Prop) (c : Nat) (sl : List Int) (w0 w : World) (h0 h : GHeap) (O : List Row)
    (hT : TblAt h bt cs bs m) (hv : VecAt (ArrAt k) h cs v) (hu : VecAt (ArrAt k) h cs' u) (hj : j < u.len) (qv : ∀ x ∈ v.boxes, sml k x) (qu : ∀ x ∈ u.boxes, sml k x)
    (hm : ∃ e, m = 2 ^ e) (hml : sl.length = m) (hm2 : m ≤ 4194304) (ok : TabOk (keyIt (keyP k)) (elsOf (itemsV (plain k) v)) S c sl) (hS : ∀ i, S i → i < v.len) (hc : c < m) (hO : O[q]? = some (slotRow bs m sl)) :
    ConM Tryz.prog 164 [.pointer (some ⟨bt, 0, none⟩), .agg cs'.toArray, .int .i64 j] w0 h0 h O w
      (fun h' O' r => O' = O ∧ h = h' ∧ ∃ d, Probed (keyIt (keyP k)) (elsOf (itemsV (plain k) v)) sl ((itemsV (plain k) u).getD j noItem) d ∧ r = .int .i64 (((keyIt (keyP k) ((itemsV (plain k) u).getD j noItem) + d) % m : Nat) : Int)
        ∧ (sl.getD ((keyIt (keyP k) ((itemsV (plain k) u).getD j noItem) + d) % m) 0 < 0 ∨ ∃ i, S i ∧ sl.getD ((keyIt (keyP k) ((itemsV (plain k) u).getD j noItem) + d) % m) 0 = (i : Int) ∧ elsOf (itemsV (plain k) v) i = (itemsV (plain k) u).getD j noItem)) := by
  have hv' := hv
  have hu' := hu
  obtain ⟨wv, nv, sm, il, fl, ch, bx, ⟨rfl, hoc⟩, _⟩ := hv
  obtain ⟨wv2, nv2, sm2, il2, fl2, ch2, bx2, ⟨rfl, hoc2⟩, _⟩ := hu
  obtain ⟨x, hx⟩ : ∃ x, (itemsV (plain k) u).getD j noItem = x := ⟨_, rfl⟩
  have hm0 : 0 < m := by obtain ⟨e, rfl⟩ := hm; exact Nat.pow_pos (by omega)
  have hkx : keyIt (keyP k) x < 18446744073709551616 := keyIt_lt _ (keyP_lt k) x
  have hkey : ∀ w, Con Tryz.prog 186 [.agg (vecCells u.kind wv2 nv2 sm2 il2 fl2 ch2 bx2).toArray, .int .i64 j] w h (fun _ r => r = .int .u64 (keyIt (keyP k) x : Nat)) := fun w => by
    rw [← hx]; exact key_con k _ u j w h hu' hj qu
  rw [hx]
  obtain ⟨kx, hkxe⟩ : ∃ kx, keyIt (keyP k) x = kx := ⟨_, rfl⟩
  have hprb : ∀ d, Probed (keyIt (keyP k)) (elsOf (itemsV (plain k) v)) sl x d ↔ ∀ e, e < d → ∃ i : Nat, sl.getD ((kx + e) % m) 0 = (i : Int) ∧ elsOf (itemsV (plain k) v) i ≠ x := fun d => by
    unfold Probed; rw [hkxe, hml]
  rw [hkxe] at hkx hkey ⊢
  refine ConM.of_body Tryz.func164 rfl Tryz.ntmps164 rfl rfl ?_
  intro hs
  refine Zrun ?_
  (refine RW.boxN hs rfl rfl ?_; intro b1 w1 hs)
  have hO1 : (⟨some ⟨b1, 0, none⟩, 1, 1, 38, 8, vecCells u.kind wv2 nv2 sm2 il2 fl2 ch2 bx2⟩ :: O : List Row)[q + 1]? = some (slotRow bs m sl) := hO
  refine Zrun ?_
  refine CW.regionQ T hs (Zeqrun ?_) (by kernel_rfl)
  refine QW.call T hs rfl rfl rfl hkey ?_
  refine Zeqrun ?_
  refine QW.val (fun _ _ => Y.nilCheck rfl) rfl ?_
  refine Zeqrun ?_
  refine QW.val (fun _ hs => Y.ldF1 T hs hT rfl rfl rfl rfl rfl) rfl ?_
  refine QW.val (fun _ _ => Y.andU rfl rfl hkx (by omega)) rfl ?_
  rw [mask_of hm]
  refine Zeqrun ?_
  intro w2 hs
  refine Zerun ?_
  refine CW.loop (fun d : Nat => [(0, .pointer (some ⟨bt, 0, none⟩)), (2, .int .i64 j), (4, .pointer (some ⟨b1, 0, none⟩)), (7, .int .u64 (((kx + d) % m : Nat) : Int))]) (fun d w' => Probed (keyIt (keyP k)) (elsOf (itemsV (plain k) v)) sl x d ∧ Sees w0 h0 h (⟨some ⟨b1, 0, none⟩, 1, 1, 38, 8, vecCells u.kind wv2 nv2 sm2 il2 fl2 ch2 bx2⟩ :: O) w') (fun d => m - d) 0 ⟨rfl, rfl, rfl, rfl, trivial⟩ ⟨fun e he => absurd he (Nat.not_lt_zero _), hs⟩ ?_
  rintro d w3 ⟨hp, hs⟩
  have hpm := Nat.mod_lt (kx + d) hm0
  obtain ⟨p, hpe⟩ : ∃ p, (kx + d) % m = p := ⟨_, rfl⟩
  rw [hpe] at hpm ⊢
  have hd : d < m := hml ▸ ok.room (by omega) hp
  refine Zerun ?_
  refine CW.regionQ T hs (Zeqrun ?_) (by kernel_rfl)
  refine QW.val (fun _ _ => Y.nilCheck rfl) rfl ?_
  refine Zeqrun ?_
  refine QW.val (fun _ hs => Y.ldF1 T hs hT rfl rfl rfl rfl rfl) rfl ?_
  refine Zeqrun ?_
  refine QW.val (fun _ hs => Y.idxRN T hs (q + 1) rfl rfl hO1 rfl rfl rfl hpm) rfl ?_
  refine QW.val (fun _ hs => Y.ldRInt T hs (q + 1) rfl hO1 rfl rfl hpm) rfl ?_
  rcases ok.rng p (by omega) with hneg | ⟨i, hSi, hsi⟩
  · rw [hneg]
    refine Zeqrun ?_
    intro w4 hs
    refine Zerun ?_
    refine RW.val (Y.conv64 T rfl rfl rfl ?_) rfl ?_
    · omega
    refine Zerun ?_
    exact retM_ret [_] h _ ⟨rfl, trivial⟩ (GLe.refl _) hs.drop ⟨rfl, rfl, d, hp, by rw [hpe]; rfl, .inl (by rw [hpe, hneg]; omega)⟩
  · rw [hsi]
    refine Zeqrun ?_
    refine QW.val (fun _ _ => Y.nilCheck rfl) rfl ?_
    refine Zeqrun ?_
    refine QW.val (fun _ hs => Y.ldFN T hs hT rfl rfl rfl rfl rfl rfl rfl) rfl ?_
    refine Zeqrun ?_
    refine QW.val (fun _ _ => Y.nilCheck rfl) rfl ?_
    refine Zeqrun ?_
    refine QW.val (fun _ hs => Y.ldF1 T hs hT rfl rfl rfl rfl rfl) rfl ?_
    refine Zeqrun ?_
    refine QW.val (fun _ hs => Y.idxRN T hs (q + 1) rfl rfl hO1 rfl rfl rfl hpm) rfl ?_
    refine Zeqrun ?_
    refine QW.val (fun _ hs => Y.ldRInt T hs (q + 1) rfl hO1 rfl rfl hpm) rfl ?_
    rw [hsi]
    refine Zeqrun ?_
    refine QW.call T hs rfl rfl rfl (fun w => alikeV_con k _ _ v u i j w h hv' hu' (hS i hSi) hj qv qu) ?_
    rw [hx]
    by_cases e : (itemsV (plain k) v).getD i noItem = x
    · rw [eqB_of e]
      refine Zeqrun ?_
      intro w4 hs
      refine Zerun ?_
      refine RW.val (Y.conv64 T rfl rfl rfl ?_) rfl ?_
      · omega
      refine Zerun ?_
      exact retM_ret [_] h _ ⟨rfl, trivial⟩ (GLe.refl _) hs.drop ⟨rfl, rfl, d, hp, by rw [hpe]; rfl, .inr ⟨i, hSi, by rw [hpe, hsi], e⟩⟩
    · rw [eqB_not e]
      refine Zeqrun ?_
      intro w4 hs
      have hp' : Probed (keyIt (keyP k)) (elsOf (itemsV (plain k) v)) sl x (d + 1) := (hprb _).2 fun e2 he2 => by
        rcases Nat.lt_or_ge e2 d with h3 | h3
        · exact (hprb d).1 hp e2 h3
        · have h4 : e2 = d := by omega
          subst h4
          exact ⟨i, by rw [hpe, hsi], e⟩
      have hd' : d + 1 < m := hml ▸ ok.room (by omega) hp'
      refine Zerun ?_
      refine RW.val (Y.addU (v := 1) rfl rfl (by omega)) rfl ?_
      refine Zerun ?_
      refine RW.val (Y.nilCheck rfl) rfl ?_
      refine Zerun ?_
      refine RW.val (Y.ldF1 T hs hT rfl rfl rfl rfl rfl) rfl ?_
      refine RW.val (Y.andU rfl rfl (by omega) (by omega)) rfl ?_
      rw [mask_of hm, ← hpe, probe_next]
      refine Zerun ?_
      exact loopQ_round (d + 1) ⟨rfl, rfl, rfl, rfl, trivial⟩ ⟨hp', hs⟩ (by omega)
end Go.Proofs.YtmojpbfkpggjhaaGreatDoor

/-
  Contracts of functions of package hash: whether, and where, an element is in a table; the table of a list. No statement is proved here.
-/
namespace Go.Proofs.YtmojpbfkpggjhaaGreatDoor
open Go Go.RowKit
set_option linter.unusedVariables false
set_option linter.unusedSimpArgs false
set_option maxHeartbeats 4000000
attribute [local irreducible] CW RW QW SW HW ConM retM heldQ calmQ elemP thenQ blockQ loopQ joinQ retQ Yields Con Sl zF magR unitF truncF fwF wholeF tidySpec elemQ rankF leastN tidyW
set_option maxHeartbeats 1000000
attribute [local irreducible] mixN wrN wr32 keyIt keyP

theorem hashGet_conM (k : Nat) (bt bs m n : Nat) (cs cs' : List Value) (v u : VecD (AD k)) (j : Nat) (c : Nat) (sl : List Int) (w0 w : World) (h0 h : GHeap) (O : List Row)
    (hT : TblAt h bt cs bs m) (hv : VecAt (ArrAt k) h cs v) (hu : VecAt (ArrAt k) h cs' u) (hj : j < u.len) (qv : ∀ x ∈ v.boxes, sml k x) (qu : ∀ x ∈ u.boxes, sml k x)
    (hm : ∃ e, m = 2 ^ e) (hml : sl.length = m) (hm2 : m ≤ 4194304) (hn : n = v.len) (ok : TabOk (keyIt (keyP k)) (elsOf (itemsV (plain k) v)) (Firsts (itemsV (plain k) v) n) c sl) (hc : c < m) :
    ConM Tryz.prog 131 [.pointer (some ⟨bt, 0, none⟩), .agg cs'.toArray, .int .i64 j] w0 h0 h (slotRow bs m sl :: O) w
      (fun h' O' r => O' = slotRow bs m sl :: O ∧ h = h' ∧ r = .int .i64 (if ixOf (itemsV (plain k) v) ((itemsV (plain k) u).getD j noItem) < v.len then (ixOf (itemsV (plain k) v) ((itemsV (plain k) u).getD j noItem) : Int) else -1)) := by
  have hv' := hv
  have hu' := hu
  obtain ⟨wv2, nv2, sm2, il2, fl2, ch2, bx2, ⟨rfl, hoc2⟩, _⟩ := hu
  have hlen := itemsV_len (plain k) hv
  obtain ⟨wv, nv, sm, il, fl, ch, bx, ⟨rfl, hoc⟩, _⟩ := hv
  have hm0 : 0 < m := by obtain ⟨e, rfl⟩ := hm; exact Nat.pow_pos (by omega)
  refine ConM.of_body Tryz.func131 rfl Tryz.ntmps131 rfl rfl ?_
  intro hs
  refine Zrun ?_
  (refine RW.boxN hs rfl rfl ?_; intro b1 w1 hs)
  refine Zrun ?_
  refine CW.regionG T 0 1 hs rfl rfl ?_
  intro w4 hs
  have hgl := GLe.refl h
  refine HW.takeG (fuel := 10) 0 rfl (fun _ _ ka kb _ hg hs hka hkb => Y.move rfl) ⟨_, _, 0, 1, hgl, hs, rfl, rfl⟩ rfl (by kernel_rfl) (by kernel_rfl) (by kernel_rfl) ?_
  refine HW.takeG (fuel := 9) 1 rfl (fun _ _ ka kb _ hg hs hka hkb => Y.nilCheck rfl) ⟨_, _, 0, 1, hgl, hs, rfl, rfl⟩ rfl (by kernel_rfl) (by kernel_rfl) (by kernel_rfl) ?_
  refine HW.takeG (fuel := 8) 2 rfl (fun _ _ ka kb _ hg hs hka hkb => Y.fieldAddr T rfl rfl rfl rfl rfl) ⟨_, _, 0, 1, hgl, hs, rfl, rfl⟩ rfl (by kernel_rfl) (by kernel_rfl) (by kernel_rfl) ?_
  refine HW.takeG (fuel := 7) 3 rfl (fun _ _ ka kb _ hg hs hka hkb => Y.ldF1 T hs (hT.mono hg) rfl rfl rfl rfl rfl) ⟨_, _, 0, 1, hgl, hs, rfl, rfl⟩ rfl (by kernel_rfl) (by kernel_rfl) (by kernel_rfl) ?_
  refine HW.takeG (fuel := 6) 4 rfl (fun _ _ ka kb _ hg hs hka hkb => Y.move rfl) ⟨_, _, 0, 1, hgl, hs, rfl, rfl⟩ rfl (by kernel_rfl) (by kernel_rfl) (by kernel_rfl) ?_
  refine HW.takeG (fuel := 5) 5 rfl (fun _ _ ka kb _ hg hs hka hkb => Y.loadRowN T hs ka hka rfl rfl rfl rfl rfl rfl) ⟨_, _, 0, 1, hgl, hs, rfl, rfl⟩ rfl (by kernel_rfl) (by kernel_rfl) (by kernel_rfl) ?_
  refine HW.takeG (fuel := 4) 6 rfl (fun _ _ ka kb _ hg hs hka hkb => Y.move rfl) ⟨_, _, 0, 1, hgl, hs, rfl, rfl⟩ rfl (by kernel_rfl) (by kernel_rfl) (by kernel_rfl) ?_
  refine HW.one (fuel := 3) 7 rfl (by kernel_rfl) ?_
  (refine RW.callM T hs rfl rfl rfl (hashFind_conM k bt bs m 1 _ _ v u j _ _ sl _ _ _ _ _ hT hv' hu' hj qv qu hm hml hm2 ok (fun i hi => by rw [← hlen]; exact hi.2.1) hc rfl) ?_; intro v h14 O14 w14 hle14 hp14 hs)
  obtain ⟨rfl, rfl, d, hp, rfl, hfd⟩ := hp14
  have hgl := hgl.trans hle14
  refine RW.nil ?_
  refine heldQ_normal ⟨_, _, 0, 1, hgl, hs, rfl, rfl⟩ ?_
  refine HW.takeG (fuel := 2) 8 rfl (fun _ _ ka kb _ hg hs hka hkb => Y.idxRN T hs kb rfl rfl hkb rfl rfl rfl (Nat.mod_lt _ hm0)) ⟨_, _, 0, 1, hgl, hs, rfl, rfl⟩ rfl (by kernel_rfl) (by kernel_rfl) (by kernel_rfl) ?_
  refine HW.takeG (fuel := 1) 9 rfl (fun _ _ ka kb _ hg hs hka hkb => Y.ldRInt T hs kb rfl hkb rfl rfl (Nat.mod_lt _ hm0)) ⟨_, _, 0, 1, hgl, hs, rfl, rfl⟩ rfl (by kernel_rfl) (by kernel_rfl) (by kernel_rfl) ?_
  refine HW.takeG (fuel := 0) 10 rfl (fun _ _ ka kb _ hg hs hka hkb => Y.assign rfl) ⟨_, _, 0, 1, hgl, hs, rfl, rfl⟩ rfl (by kernel_rfl) (by kernel_rfl) (by kernel_rfl) ?_
  refine HW.done (by kernel_rfl) ?_
  refine calmQ_normal ?_
  refine Zerun ?_
  refine retM_ret [_] _ _ ⟨rfl, trivial⟩ (GLe.refl _) hs.drop ⟨rfl, rfl, ?_⟩
  show Value.int _ _ = Value.int _ _
  congr 1
  rcases hfd with hneg | ⟨i, hSi, hsi, hel⟩
  · have hmiss := look_miss noItem ok hp (by rw [hml]; exact hneg)
    have hno : ixOf (itemsV (plain k) v) ((itemsV (plain k) u).getD j noItem) = (itemsV (plain k) v).length := ixOf_not (fun j' hj' => hmiss j' hj' (by omega))
    rw [hno, if_neg (by omega)]
    rcases ok.rng ((keyIt (keyP k) ((itemsV (plain k) u).getD j noItem) + d) % m) (by rw [hml]; exact Nat.mod_lt _ hm0) with e | ⟨i, _, e⟩
    · exact e
    · omega
  · obtain ⟨h1, h2⟩ := look_hit (x := (itemsV (plain k) u).getD j noItem) noItem ok (d := d) (by rw [hml]; exact hsi) (by omega) hel
    rw [h2, if_pos (by omega)]
    exact hsi
theorem hashPut_conM (k : Nat) (bt bs m i : Nat) (cs : List Value) (v : VecD (AD k)) (sl : List Int) (w0 w : World) (h0 h : GHeap) (O : List Row)
    (hT : TblAt h bt cs bs m) (hv : VecAt (ArrAt k) h cs v) (hi : i < v.len) (qv : ∀ x ∈ v.boxes, sml k x)
    (hm : ∃ e, m = 2 ^ e) (hml : sl.length = m) (hm2 : m ≤ 4194304) (ok : TabOk (keyIt (keyP k)) (elsOf (itemsV (plain k) v)) (Firsts (itemsV (plain k) v) i) i sl) (hc : i < m) :
    ConM Tryz.prog 163 [.pointer (some ⟨bt, 0, none⟩), .int .i64 i] w0 h0 h (slotRow bs m sl :: O) w
      (fun h' O' r => h = h' ∧ ∃ sl', O' = slotRow bs m sl' :: O ∧ sl'.length = m ∧ TabOk (keyIt (keyP k)) (elsOf (itemsV (plain k) v)) (Firsts (itemsV (plain k) v) (i + 1)) (i + 1) sl' ∧ r = .int .i64 (ixOf (itemsV (plain k) v) ((itemsV (plain k) v).getD i noItem) : Nat)) := by
  have hv' := hv
  obtain ⟨wv, nv, sm, il, fl, ch, bx, ⟨rfl, hoc⟩, _⟩ := hv
  have hlen := itemsV_len (plain k) hv'
  have hm0 : 0 < m := by omega
  have hiL : i < (itemsV (plain k) v).length := by omega
  have hgi : (itemsV (plain k) v).getD i noItem = (itemsV (plain k) v)[i] := by rw [List.getD_eq_getElem?_getD, List.getElem?_eq_getElem hiL]; rfl
  refine ConM.of_body Tryz.func163 rfl Tryz.ntmps163 rfl rfl ?_
  intro hs
  refine Zrun ?_
  refine RW.val (Y.nilCheck rfl) rfl ?_
  refine Zrun ?_
  refine RW.val (Y.ldFN T hs hT rfl rfl rfl rfl rfl rfl rfl) rfl ?_
  refine Zrun ?_
  (refine RW.callM T hs rfl rfl rfl (hashFind_conM k bt bs m 0 _ _ v v i _ _ sl _ _ _ _ _ hT hv' hv' hi qv qv hm hml hm2 ok (fun i hi => by rw [← hlen]; exact hi.2.1) hc rfl) ?_; intro v h2 O2 w2 hle2 hp2 hs)
  obtain ⟨rfl, rfl, d, hp, rfl, hfd⟩ := hp2
  obtain ⟨p, hpe⟩ : ∃ p, (keyIt (keyP k) ((itemsV (plain k) v).getD i noItem) + d) % m = p := ⟨_, rfl⟩
  have hpm : p < m := hpe ▸ Nat.mod_lt _ hm0
  rw [hpe] at hfd ⊢
  have hpe' : (keyIt (keyP k) (elsOf (itemsV (plain k) v) i) + d) % sl.length = p := by rw [hml]; exact hpe
  refine Zerun ?_
  refine RW.val (Y.nilCheck rfl) rfl ?_
  refine Zerun ?_
  refine RW.val (Y.ldF1 T hs hT rfl rfl rfl rfl rfl) rfl ?_
  refine Zerun ?_
  refine RW.val (Y.idxRN T hs 0 rfl rfl rfl rfl rfl rfl hpm) rfl ?_
  refine RW.val (Y.ldRInt T hs 0 rfl rfl rfl rfl hpm) rfl ?_
  rcases hfd with hneg | ⟨i', hSi, hsi, hel⟩
  · have hnew := ok.put (k := i) hp (by rw [hpe']; exact hneg) (by omega)
    have hmiss := look_miss (x := (itemsV (plain k) v).getD i noItem) noItem ok hp (by rw [hml, hpe]; exact hneg)
    have hix : ixOf (itemsV (plain k) v) ((itemsV (plain k) v).getD i noItem) = i := by
      refine ixOf_of hiL hgi.symm (fun j' hj' => ?_)
      exact hmiss j' (by omega) hj'
    rw [hpe'] at hnew
    refine Zerun ?_
    refine RW.val (Y.nilCheck rfl) rfl ?_
    refine Zerun ?_
    refine RW.val (Y.ldF1 T hs hT rfl rfl rfl rfl rfl) rfl ?_
    refine Zerun ?_
    refine RW.val (Y.idxRN T hs 0 rfl rfl rfl rfl rfl rfl hpm) rfl ?_
    refine RW.st1 T hs 0 rfl rfl rfl rfl rfl rfl rfl hpm ?_
    intro w7 hs
    dsimp only [slotRow, List.set_cons_zero] at hs
    rw [map_set_int] at hs
    refine Zerun ?_
    refine RW.val (Y.nilCheck rfl) rfl ?_
    refine Zerun ?_
    refine RW.val (Y.ldF1 T hs hT rfl rfl rfl rfl rfl) rfl ?_
    refine Zerun ?_
    refine RW.val (Y.idxRN T hs 0 rfl rfl rfl rfl rfl rfl hpm) rfl ?_
    refine RW.val (Y.ldRInt T hs 0 rfl rfl rfl rfl hpm) rfl ?_
    rw [getD_setI _ _ _ _ _ (by omega), if_pos rfl]
    refine Zerun ?_
    refine retM_ret [_] _ _ ⟨rfl, trivial⟩ (GLe.refl _) hs ⟨rfl, sl.set p (i : Int), rfl, by rw [List.length_set]; exact hml, hnew.keep (fun z => firsts_new hiL (by rw [← hgi]; exact hix) z) (Nat.le_refl _), ?_⟩
    rw [hix]; rfl
  · obtain ⟨h1, h2⟩ := look_hit (x := (itemsV (plain k) v).getD i noItem) noItem ok (d := d) (by rw [hml, hpe]; exact hsi) (by omega) hel
    rw [hsi]
    refine Zerun ?_
    refine RW.val (Y.nilCheck rfl) rfl ?_
    refine Zerun ?_
    refine RW.val (Y.ldF1 T hs hT rfl rfl rfl rfl rfl) rfl ?_
    refine Zerun ?_
    refine RW.val (Y.idxRN T hs 0 rfl rfl rfl rfl rfl rfl hpm) rfl ?_
    refine RW.val (Y.ldRInt T hs 0 rfl rfl rfl rfl hpm) rfl ?_
    rw [hsi]
    refine Zerun ?_
    refine retM_ret [_] _ _ ⟨rfl, trivial⟩ (GLe.refl _) hs ⟨rfl, sl, rfl, hml, ok.keep (fun z => firsts_old hiL (by rw [← hgi]; omega) z) (by omega), ?_⟩
    rw [h2]; rfl
theorem hashTable_conM (k : Nat) (cs : List Value) (v : VecD (AD k)) (w0 w : World) (h0 h : GHeap) (O : List Row) (hv : VecAt (ArrAt k) h cs v) (qv : ∀ x ∈ v.boxes, sml k x) (hm : v.len ≤ 1048576) :
    ConM Tryz.prog 130 [.agg cs.toArray] w0 h0 h O w
      (fun h' O' r => ∃ bt bs m sl, r = .pointer (some ⟨bt, 0, none⟩) ∧ TblAt h' bt cs bs m ∧ O' = slotRow bs m sl :: O ∧ (∃ e, m = 2 ^ e) ∧ sl.length = m ∧ m ≤ 4194304 ∧ v.len < m ∧ TabOk (keyIt (keyP k)) (elsOf (itemsV (plain k) v)) (Firsts (itemsV (plain k) v) v.len) v.len sl) := by
  have hR := ArrAt.mono k
  have hv' := hv
  obtain ⟨wv, nv, sm, il, fl, ch, bx, ⟨rfl, hoc⟩, _⟩ := hv
  refine ConM.of_body Tryz.func130 rfl Tryz.ntmps130 rfl rfl ?_
  intro hs
  refine Zrun ?_
  (refine RW.boxN hs rfl rfl ?_; intro b1 w1 hs)
  refine Zrun ?_
  refine CW.meet (fun q : Nat × Nat × Nat × GHeap => [(1, .pointer (some ⟨b1, 0, none⟩)), (3, .pointer (some ⟨q.1, 0, none⟩))]) (fun q w' => TblAt q.2.2.2 q.1 (vecCells v.kind wv nv sm il fl ch bx) q.2.1 q.2.2.1 ∧ (∃ e, q.2.2.1 = 2 ^ e) ∧ 2 * v.len ≤ q.2.2.1 ∧ 8 ≤ q.2.2.1 ∧ q.2.2.1 ≤ 4194304 ∧ GLe h q.2.2.2 ∧ Sees w0 h0 q.2.2.2 (slotRow q.2.1 q.2.2.1 (List.replicate q.2.2.1 (-1)) :: ⟨some ⟨b1, 0, none⟩, 1, 1, 38, 8, vecCells v.kind wv nv sm il fl ch bx⟩ :: O) w') ?_ ?_
  · refine CW.regionR T 0 0 hs rfl rfl ?_
    intro w4 hs
    refine HW.takeR (fuel := 4) 0 rfl (fun _ _ ka kb _ hs hka hkb => Y.loadRowN T hs ka hka rfl rfl rfl rfl rfl rfl) ⟨_, _, 0, 0, hs, rfl, rfl⟩ rfl (by kernel_rfl) (by kernel_rfl) (by kernel_rfl) ?_
    refine HW.takeR (fuel := 3) 1 rfl (fun _ _ ka kb _ hs hka hkb => Y.loadRowN T hs ka hka rfl rfl rfl rfl rfl rfl) ⟨_, _, 0, 0, hs, rfl, rfl⟩ rfl (by kernel_rfl) (by kernel_rfl) (by kernel_rfl) ?_
    refine HW.one (fuel := 2) 2 rfl (by kernel_rfl) ?_
    (refine RW.call T hs rfl rfl rfl (vecLen_con _ v _ _ hv') ?_; intro v h7 w7 hle7 hp7 hs)
    subst hp7
    have hv' := hv'.mono hR hle7
    refine RW.nil ?_
    refine heldQ_normal ⟨_, _, 0, 0, hs, rfl, rfl⟩ ?_
    refine HW.one (fuel := 1) 3 rfl (by kernel_rfl) ?_
    (refine RW.callM T hs rfl rfl rfl (hashNew_conM hR _ v v.len _ _ _ _ _ hv' hm) ?_; intro v h8 O8 w8 hle8 hp8 hs)
    obtain ⟨bt, bs, m, rfl, hT, rfl, hpow, hm1, hm2, hm3⟩ := hp8
    skip
    refine RW.nil ?_
    refine heldQ_normal ⟨_, _, 1, 1, hs, rfl, rfl⟩ ?_
    refine HW.takeR (fuel := 0) 4 rfl (fun _ _ ka kb _ hs hka hkb => Y.assign rfl) ⟨_, _, 1, 1, hs, rfl, rfl⟩ rfl (by kernel_rfl) (by kernel_rfl) (by kernel_rfl) ?_
    refine HW.done (by kernel_rfl) ?_
    refine calmQ_normal ?_
    exact joinQ_meet (bt, bs, m, h8) ⟨rfl, rfl, trivial⟩ ⟨hT, hpow, hm1, hm2, hm3, hle7.trans hle8, hs⟩
  rintro ⟨bt, bs, m, h2⟩ w5 ⟨hT, hpow, hm1, hm2, hm3, hg, hs⟩
  dsimp only at hT hpow hm1 hm2 hm3 hg hs ⊢
  have hv' := hv'.mono hR hg
  refine Zerun ?_
  (refine RW.call T hs rfl rfl rfl (vecLen_con _ v _ _ hv') ?_; intro v h6 w6 hle6 hp6 hs)
  subst hp6
  have hv' := hv'.mono hR hle6
  have hT : TblAt h6 bt _ bs m := Sl.mono hle6 hT
  have ok0 : TabOk (keyIt (keyP k)) (elsOf (itemsV (plain k) v)) (Firsts (itemsV (plain k) v) 0) 0 (List.replicate m (-1)) := (TabOk.empty _ _ m).keep (fun z => ⟨fun h => absurd h.1 (Nat.not_lt_zero _), fun h => h.elim⟩) (Nat.le_refl _)
  refine Zerun ?_
  refine CW.loop (fun q : Nat × List Int => [(3, .pointer (some ⟨bt, 0, none⟩)), (10, .int .i64 v.len), (11, .int .i64 q.1)]) (fun q w' => q.1 ≤ v.len ∧ q.2.length = m ∧ TabOk (keyIt (keyP k)) (elsOf (itemsV (plain k) v)) (Firsts (itemsV (plain k) v) q.1) q.1 q.2 ∧ Sees w0 h0 h6 (slotRow bs m q.2 :: ⟨some ⟨b1, 0, none⟩, 1, 1, 38, 8, vecCells v.kind wv nv sm il fl ch bx⟩ :: O) w') (fun q => v.len - q.1) (0, List.replicate m (-1)) ⟨rfl, rfl, rfl, trivial⟩ ⟨by omega, List.length_replicate .., ok0, hs⟩ ?_
  rintro ⟨i, sl⟩ w7 ⟨hi, hml, ok, hs⟩
  dsimp only at hi hml ok hs ⊢
  by_cases hlt : i < v.len
  · refine Zerun ?_
    (refine RW.callM T hs rfl rfl rfl (hashPut_conM k bt bs m i _ v sl _ _ _ _ _ hT hv' hlt qv hpow hml hm3 ok (by omega)) ?_; intro v h8 O8 w8 hle8 hp8 hs)
    obtain ⟨rfl, sl', rfl, hml', ok', rfl⟩ := hp8
    refine Zerun ?_
    exact loopQ_round (i + 1, sl') ⟨rfl, rfl, rfl, trivial⟩ ⟨by dsimp only; omega, hml', ok', hs⟩ (by dsimp only; omega)
  have e : i = v.len := by omega
  subst e
  refine Zerun ?_
  exact retM_ret [_] _ _ ⟨rfl, trivial⟩ (hg.trans hle6) hs.swap.drop ⟨bt, bs, m, sl, rfl, hT, rfl, hpow, hml, hm3, by omega, ok⟩
end Go.Proofs.YtmojpbfkpggjhaaGreatDoor

/-
  Plain Lean on lists: places of elements that something holds of, and of the first ones. No statement is proved here.
-/
namespace Go.Proofs.YtmojpbfkpggjhaaGreatDoor
open Go Go.RowKit
set_option linter.unusedVariables false
set_option linter.unusedSimpArgs false

section
variable {γ : Type}
/-- places, of the first so many, that something holds of -/
def placesN (p : Nat → Bool) (n : Nat) : List Int := ((List.range n).filter p).map fun i => ((i : Nat) : Int)
theorem placesN_zero (p : Nat → Bool) : placesN p 0 = [] := rfl
theorem placesN_yes {p : Nat → Bool} {n : Nat} (h : p n = true) : placesN p (n + 1) = placesN p n ++ [(n : Int)] := by
  unfold placesN
  rw [List.range_succ, List.filter_append, List.map_append]
  simp [h]
theorem placesN_no {p : Nat → Bool} {n : Nat} (h : p n = false) : placesN p (n + 1) = placesN p n := by
  unfold placesN
  rw [List.range_succ, List.filter_append, List.map_append]
  simp [h]
theorem placesN_len (p : Nat → Bool) (n : Nat) : (placesN p n).length ≤ n := by
  unfold placesN
  rw [List.length_map]
  have := List.length_filter_le p (List.range n)
  rw [List.length_range] at this
  exact this
theorem atD_nat (l : List γ) (i : Nat) (d : γ) : atD l (i : Int) d = l.getD i d := by unfold atD; rw [if_pos (by omega), Int.toNat_natCast]
theorem placesN_items (p : Nat → Bool) (l : List γ) (n : Nat) (d : γ) : (placesN p n).map (fun i => atD l i d) = ((List.range n).filter p).map (fun i => l.getD i d) := by
  unfold placesN
  rw [List.map_map]
  apply List.map_congr_left
  intro i _
  exact atD_nat l i d
/-- elements that something holds of -/
theorem filter_range (q : γ → Bool) (d : γ) : ∀ (l : List γ) (n : Nat), n ≤ l.length → ((List.range n).filter (fun i => q (l.getD i d))).map (fun i => l.getD i d) = (l.take n).filter q
  | l, 0, _ => by simp
  | l, n + 1, h => by
    rw [List.range_succ, List.filter_append, List.map_append, filter_range q d l n (by omega), List.take_add_one, List.filter_append]
    congr 1
    rw [List.getElem?_eq_getElem (by omega)]
    have e : l.getD n d = l[n] := by rw [List.getD_eq_getElem?_getD, List.getElem?_eq_getElem (by omega)]; rfl
    show List.map _ (List.filter (fun i => q (l.getD i d)) [n]) = List.filter q [l[n]]
    by_cases hq : q l[n] = true
    · rw [List.filter_cons_of_pos (by rw [e]; exact hq), List.filter_cons_of_pos hq]
      show [l.getD n d] = [l[n]]
      rw [e]
    · rw [List.filter_cons_of_neg (by rw [e]; exact hq), List.filter_cons_of_neg hq]
      rfl
theorem places_filter (q : γ → Bool) (l : List γ) (d : γ) : (placesN (fun i => q (l.getD i d)) l.length).map (fun i => atD l i d) = l.filter q := by
  rw [placesN_items, filter_range q d l l.length (Nat.le_refl _), List.take_length]
/-- places of the first ones -/
noncomputable def firstB (l : List γ) (d : γ) (i : Nat) : Bool := decide (ixOf l (l.getD i d) = i)
noncomputable def uniq (l : List γ) (d : γ) : List γ := (placesN (firstB l d) l.length).map fun i => atD l i d
theorem getD_elem {l : List γ} {i : Nat} (h : i < l.length) (d : γ) : l.getD i d = l[i] := by rw [List.getD_eq_getElem?_getD, List.getElem?_eq_getElem h]; rfl
end
end Go.Proofs.YtmojpbfkpggjhaaGreatDoor

/-
  Contracts of functions of package hash: where elements are in a list first, whether they are there. No statement is proved here.
-/
namespace Go.Proofs.YtmojpbfkpggjhaaGreatDoor
open Go Go.RowKit
set_option linter.unusedVariables false
set_option linter.unusedSimpArgs false
set_option maxHeartbeats 4000000
attribute [local irreducible] CW RW QW SW HW ConM retM heldQ calmQ elemP thenQ blockQ loopQ joinQ retQ Yields Con Sl zF magR unitF truncF fwF wholeF tidySpec elemQ rankF leastN tidyW
set_option maxHeartbeats 1000000
attribute [local irreducible] mixN wrN wr32 keyIt keyP

theorem fillA {δ : Type} {A : List δ} {i n : Nat} (hA : A.length = i) (h : i < n) (b z : δ) : (A ++ List.replicate (n - i) b).set i z = (A ++ [z]) ++ List.replicate (n - (i + 1)) b := by
  obtain ⟨r, hr⟩ : ∃ r, n - i = r + 1 := ⟨n - i - 1, by omega⟩
  have e : n - (i + 1) = r := by omega
  rw [hr, e, List.replicate_succ, List.set_append_right _ _ (by omega), ← hA]
  simp
theorem takeMap {δ ε : Type} (F : δ → ε) (M : List δ) {i : Nat} (h : i < M.length) (d : δ) : (M.take (i + 1)).map F = (M.take i).map F ++ [F (M.getD i d)] := by
  rw [take_succ_getD M i d h, List.map_append]
  rfl
theorem hashHas_con (k : Nat) (cs cs' : List Value) (v u : VecD (AD k)) (w : World) (h : GHeap) (hv : VecAt (ArrAt k) h cs v) (hu : VecAt (ArrAt k) h cs' u) (qv : ∀ x ∈ v.boxes, sml k x) (qu : ∀ x ∈ u.boxes, sml k x) (hm : v.len ≤ 1048576) (hm2 : u.len ≤ 1048576) :
    Con Tryz.prog 70 [.agg cs.toArray, .agg cs'.toArray] w h (fun h' r => TAt h' r ((itemsV (plain k) u).map fun x => decide (ixOf (itemsV (plain k) v) x < v.len))) := by
  have hv' := hv
  have hu' := hu
  obtain ⟨wv, nv, sm, il, fl, ch, bx, ⟨rfl, hoc⟩, _⟩ := hv
  obtain ⟨wv2, nv2, sm2, il2, fl2, ch2, bx2, ⟨rfl, hoc2⟩, _⟩ := hu
  have hR := ArrAt.mono k
  have hML := itemsV_len (plain k) hu'
  have hLL := itemsV_len (plain k) hv'
  refine Con.of_body Tryz.func70 rfl Tryz.ntmps70 rfl rfl ?_
  intro hs
  refine Zrun ?_
  (refine RW.boxN hs rfl rfl ?_; intro b1 w1 hs)
  refine Zrun ?_
  (refine RW.boxN hs rfl rfl ?_; intro b2 w2 hs)
  refine Zerun ?_
  (refine RW.call T hs rfl rfl rfl (vecLen_con _ u _ _ hu') ?_; intro v h3 w3 hle3 hp3 hs)
  subst hp3
  have hv' := hv'.mono hR hle3
  have hu' := hu'.mono hR hle3
  refine Zerun ?_
  (refine RW.make1 T hs rfl rfl rfl rfl rfl rfl rfl (by dsimp only; omega) (by omega) ?_; intro b4 w4 hs)
  refine Zerun ?_
  (refine RW.callM T hs rfl rfl rfl (hashTable_conM k _ v _ _ _ _ _ hv' qv hm) ?_; intro v h5 O5 w5 hle5 hp5 hs)
  obtain ⟨bt, bs, m, sl, rfl, hT, rfl, hpow, hml, hm3, hvm, ok⟩ := hp5
  have hv' := hv'.mono hR hle5
  have hu' := hu'.mono hR hle5
  refine Zerun ?_
  refine CW.loop (fun q : Nat => [(3, .pointer (some ⟨b2, 0, none⟩)), (5, .slice (some ⟨b4, 0, none⟩) u.len u.len), (6, .pointer (some ⟨bt, 0, none⟩)), (14, .int .i64 u.len), (15, .int .i64 q)]) (fun q w' => q ≤ u.len ∧ Sees w h h5 (slotRow bs m sl :: ⟨some ⟨b4, 0, none⟩, u.len, u.len, 4, 1, ((((itemsV (plain k) u).take q).map fun x => decide (ixOf (itemsV (plain k) v) x < v.len)) ++ List.replicate (u.len - q) false).map Value.bool⟩ :: ⟨some ⟨b2, 0, none⟩, 1, 1, 38, 8, vecCells u.kind wv2 nv2 sm2 il2 fl2 ch2 bx2⟩ :: [⟨some ⟨b1, 0, none⟩, 1, 1, 38, 8, vecCells v.kind wv nv sm il fl ch bx⟩]) w') (fun q => u.len - q) 0 ⟨rfl, rfl, rfl, rfl, rfl, trivial⟩ ⟨by omega, by simp only [List.take_zero, List.map_nil, List.nil_append, Nat.sub_zero, List.map_replicate]; exact hs⟩ ?_
  rintro i w6 ⟨hi, hs⟩
  by_cases hlt : i < u.len
  · have htm := takeMap (fun x => decide (ixOf (itemsV (plain k) v) x < v.len)) (itemsV (plain k) u) (show i < (itemsV (plain k) u).length by omega) noItem
    have hAl : (((itemsV (plain k) u).take i).map fun x => decide (ixOf (itemsV (plain k) v) x < v.len)).length = i := by rw [List.length_map, List.length_take]; omega
    refine Zerun ?_
    refine Zerun ?_
    (refine RW.callM T hs rfl rfl rfl (hashGet_conM k bt bs m v.len _ _ v u i v.len sl _ _ _ _ _ hT hv' hu' hlt qv qu hpow hml hm3 rfl ok hvm) ?_; intro v h6 O6 w6 hle6 hp6 hs)
    obtain ⟨rfl, e6, rfl⟩ := hp6
    rw [← e6] at hs
    refine Zerun ?_
    refine RW.val (Y.idxRN T hs 1 rfl rfl rfl rfl rfl rfl hlt) rfl ?_
    refine RW.st1 T hs 1 rfl rfl rfl rfl rfl rfl rfl hlt ?_
    intro w7 hs
    dsimp only [List.set_cons_zero, List.set_cons_succ] at hs
    have hdec : decide ((0 : Int) ≤ if ixOf (itemsV (plain k) v) ((itemsV (plain k) u).getD i noItem) < v.len then ((ixOf (itemsV (plain k) v) ((itemsV (plain k) u).getD i noItem) : Nat) : Int) else -1) = decide (ixOf (itemsV (plain k) v) ((itemsV (plain k) u).getD i noItem) < v.len) := by
      by_cases c : ixOf (itemsV (plain k) v) ((itemsV (plain k) u).getD i noItem) < v.len
      · rw [if_pos c, decide_eq_true c, decide_eq_true (by omega)]
      · rw [if_neg c, decide_eq_false c, decide_eq_false (by omega)]
    rw [hdec, ← List.map_set, fillA hAl hlt, ← htm] at hs
    refine Zerun ?_
    exact loopQ_round (i + 1) ⟨rfl, rfl, rfl, rfl, rfl, trivial⟩ ⟨by omega, hs⟩ (by omega)
  have e : i = (itemsV (plain k) u).length := by omega
  subst e
  rw [List.take_length, show u.len - (itemsV (plain k) u).length = 0 by omega, List.replicate_zero, List.append_nil] at hs
  refine Zerun ?_
  obtain ⟨h6, hle6, hs, hS6⟩ := hs.drop.freeze
  refine retQ_ret [_] h6 ⟨rfl, trivial⟩ hs.dropAll ?_
  exact RowAt.of_sl hS6
end Go.Proofs.YtmojpbfkpggjhaaGreatDoor

/-
  Contracts of functions of package hash: the first ones of a list, those that are in another list, or not. No statement is proved here.
-/
namespace Go.Proofs.YtmojpbfkpggjhaaGreatDoor
open Go Go.RowKit
set_option linter.unusedVariables false
set_option linter.unusedSimpArgs false
set_option maxHeartbeats 4000000
attribute [local irreducible] CW RW QW SW HW ConM retM heldQ calmQ elemP thenQ blockQ loopQ joinQ retQ Yields Con Sl zF magR unitF truncF fwF wholeF tidySpec elemQ rankF leastN tidyW
set_option maxHeartbeats 1000000
attribute [local irreducible] mixN wrN wr32 keyIt keyP

theorem hashFirsts_con (k : Nat) (cs : List Value) (v : VecD (AD k)) (w : World) (h : GHeap) (hv : VecAt (ArrAt k) h cs v) (qv : ∀ x ∈ v.boxes, sml k x) (hm : v.len ≤ 1048576) :
    Con Tryz.prog 135 [.agg cs.toArray] w h (fun h' r => IntsAt h' r (placesN (firstB (itemsV (plain k) v) noItem) v.len)) := by
  have hR := ArrAt.mono k
  have hv' := hv
  obtain ⟨wv, nv, sm, il, fl, ch, bx, ⟨rfl, hoc⟩, _⟩ := hv
  refine Con.of_body Tryz.func135 rfl Tryz.ntmps135 rfl rfl ?_
  intro hs
  refine Zrun ?_
  (refine RW.boxN hs rfl rfl ?_; intro b1 w1 hs)
  refine Zerun ?_
  refine CW.meet (fun q : Nat × Nat × Nat × GHeap => [(1, .pointer (some ⟨b1, 0, none⟩)), (3, .slice none 0 0), (4, .pointer (some ⟨q.1, 0, none⟩))]) (fun q w' => TblAt q.2.2.2 q.1 (vecCells v.kind wv nv sm il fl ch bx) q.2.1 q.2.2.1 ∧ (∃ e, q.2.2.1 = 2 ^ e) ∧ 2 * v.len ≤ q.2.2.1 ∧ 8 ≤ q.2.2.1 ∧ q.2.2.1 ≤ 4194304 ∧ GLe h q.2.2.2 ∧ Sees w h q.2.2.2 (slotRow q.2.1 q.2.2.1 (List.replicate q.2.2.1 (-1)) :: [⟨some ⟨b1, 0, none⟩, 1, 1, 38, 8, vecCells v.kind wv nv sm il fl ch bx⟩]) w') ?_ ?_
  · refine CW.regionR T 0 0 hs rfl rfl ?_
    intro w4 hs
    refine HW.takeR (fuel := 4) 0 rfl (fun _ _ ka kb _ hs hka hkb => Y.loadRowN T hs ka hka rfl rfl rfl rfl rfl rfl) ⟨_, _, 0, 0, hs, rfl, rfl⟩ rfl (by kernel_rfl) (by kernel_rfl) (by kernel_rfl) ?_
    refine HW.takeR (fuel := 3) 1 rfl (fun _ _ ka kb _ hs hka hkb => Y.loadRowN T hs ka hka rfl rfl rfl rfl rfl rfl) ⟨_, _, 0, 0, hs, rfl, rfl⟩ rfl (by kernel_rfl) (by kernel_rfl) (by kernel_rfl) ?_
    refine HW.one (fuel := 2) 2 rfl (by kernel_rfl) ?_
    (refine RW.call T hs rfl rfl rfl (vecLen_con _ v _ _ hv') ?_; intro v h8 w8 hle8 hp8 hs)
    subst hp8
    have hv' := hv'.mono hR hle8
    refine RW.nil ?_
    refine heldQ_normal ⟨_, _, 0, 0, hs, rfl, rfl⟩ ?_
    refine HW.one (fuel := 1) 3 rfl (by kernel_rfl) ?_
    (refine RW.callM T hs rfl rfl rfl (hashNew_conM hR _ v v.len _ _ _ _ _ hv' hm) ?_; intro v h9 O9 w9 hle9 hp9 hs)
    obtain ⟨bt, bs, m, rfl, hT, rfl, hpow, hm1, hm2, hm3⟩ := hp9
    refine RW.nil ?_
    refine heldQ_normal ⟨_, _, 1, 1, hs, rfl, rfl⟩ ?_
    refine HW.takeR (fuel := 0) 4 rfl (fun _ _ ka kb _ hs hka hkb => Y.assign rfl) ⟨_, _, 1, 1, hs, rfl, rfl⟩ rfl (by kernel_rfl) (by kernel_rfl) (by kernel_rfl) ?_
    refine HW.done (by kernel_rfl) ?_
    refine calmQ_normal ?_
    exact joinQ_meet (bt, bs, m, h9) ⟨rfl, rfl, rfl, trivial⟩ ⟨hT, hpow, hm1, hm2, hm3, hle8.trans hle9, hs⟩
  rintro ⟨bt, bs, m, h2⟩ w5 ⟨hT, hpow, hm1, hm2, hm3, hg, hs⟩
  dsimp only at hT hpow hm1 hm2 hm3 hg hs ⊢
  have hv' := hv'.mono hR hg
  refine Zerun ?_
  (refine RW.call T hs rfl rfl rfl (vecLen_con _ v _ _ hv') ?_; intro v h6 w6 hle6 hp6 hs)
  subst hp6
  have hv' := hv'.mono hR hle6
  have hT : TblAt h6 bt _ bs m := Sl.mono hle6 hT
  have ok0 : TabOk (keyIt (keyP k)) (elsOf (itemsV (plain k) v)) (Firsts (itemsV (plain k) v) 0) 0 (List.replicate m (-1)) := (TabOk.empty _ _ m).keep (fun z => ⟨fun h => absurd h.1 (Nat.not_lt_zero _), fun h => h.elim⟩) (Nat.le_refl _)
  have hs := (hs.nilRow 3 1).swap
  refine Zerun ?_
  refine CW.loop (fun q : Nat × Nat × (Option Addr × Nat) × List Int => [(3, .slice q.2.2.1.1 q.2.1 q.2.2.1.2), (4, .pointer (some ⟨bt, 0, none⟩)), (11, .int .i64 v.len), (12, .int .i64 q.1)]) (fun q w' => q.1 ≤ v.len ∧ q.2.1 = (placesN (firstB (itemsV (plain k) v) noItem) q.1).length ∧ q.2.2.2.length = m ∧ TabOk (keyIt (keyP k)) (elsOf (itemsV (plain k) v)) (Firsts (itemsV (plain k) v) q.1) q.1 q.2.2.2 ∧ Sees w h h6 (slotRow bs m q.2.2.2 :: ⟨q.2.2.1.1, q.2.1, q.2.2.1.2, 3, 1, (placesN (firstB (itemsV (plain k) v) noItem) q.1).map (Value.int .i64)⟩ :: [⟨some ⟨b1, 0, none⟩, 1, 1, 38, 8, vecCells v.kind wv nv sm il fl ch bx⟩]) w') (fun q => v.len - q.1) (0, 0, (none, 0), List.replicate m (-1)) ⟨rfl, rfl, rfl, rfl, trivial⟩ ⟨by omega, by rw [placesN_zero]; rfl, List.length_replicate .., ok0, hs⟩ ?_
  rintro ⟨i, n, ⟨al, cl⟩, sl⟩ w7 ⟨hi, hn, hml, ok, hs⟩
  dsimp only at hi hn hml ok hs ⊢
  have hnl := placesN_len (firstB (itemsV (plain k) v) noItem) i
  by_cases hlt : i < v.len
  · refine Zerun ?_
    (refine RW.callM T hs rfl rfl rfl (hashPut_conM k bt bs m i _ v sl _ _ _ _ _ hT hv' hlt qv hpow hml hm3 ok (by omega)) ?_; intro v h8 O8 w8 hle8 hp8 hs)
    obtain ⟨e8, sl', rfl, hml', ok', rfl⟩ := hp8
    rw [← e8] at hs
    refine Zerun ?_
    by_cases c : ixOf (itemsV (plain k) v) ((itemsV (plain k) v).getD i noItem) = i
    · have hf : firstB (itemsV (plain k) v) noItem i = true := decide_eq_true c
      refine Zerun ?_
      (refine RW.lit T hs (vs := [.int .i64 (i : Int)]) (cs := [.int .i64 (i : Int)]) rfl rfl rfl rfl (by simp [Value.cells]) rfl rfl rfl rfl rfl ?_; intro b9 w9 hs)
      (refine RW.append T hs 2 rfl rfl (m := 1) (news := [.int .i64 (i : Int)]) rfl rfl rfl rfl rfl rfl (hs.src0 rfl (by simp [Value.oneCell'])) (by simp) (by dsimp only; omega) (by omega) ?_; intro ad10 cp10 w10 hs; replace hs := hs.drop)
      refine Zerun ?_
      refine loopQ_round (i + 1, n + 1, (ad10, cp10), sl') ⟨rfl, rfl, rfl, rfl, trivial⟩ ⟨by dsimp only; omega, ?_, hml', ok', ?_⟩ (by dsimp only; omega)
      · dsimp only
        rw [placesN_yes hf, List.length_append, ← hn]; rfl
      · dsimp only
        rw [placesN_yes hf, List.map_append]
        exact hs
    · have hf : firstB (itemsV (plain k) v) noItem i = false := decide_eq_false c
      refine Zerun ?_
      refine loopQ_round (i + 1, n, (al, cl), sl') ⟨rfl, rfl, rfl, rfl, trivial⟩ ⟨by dsimp only; omega, ?_, hml', ok', ?_⟩ (by dsimp only; omega)
      · dsimp only
        rw [placesN_no hf]; exact hn
      · dsimp only
        rw [placesN_no hf]; exact hs
  have e : i = v.len := by omega
  subst e
  refine Zerun ?_
  obtain ⟨h9, hle9, hs, hS9⟩ := hs.drop.freeze
  refine retQ_ret [_] h9 ⟨rfl, trivial⟩ hs.dropAll ?_
  exact IntsAt.of_sl hS9
theorem hashUnique_con (k : Nat) (cs : List Value) (v : VecD (AD (k + 1))) (w : World) (h : GHeap) (hv : VecAt (ArrAt (k + 1)) h cs v) (qv : ∀ x ∈ v.boxes, sml (k + 1) x) (hm : v.len ≤ 1048576) (hk0 : v.kind ≠ 0) :
    Con Tryz.prog 75 [.agg cs.toArray] w h (fun h' r => ∃ cs', r = .agg cs'.toArray ∧ VecAt (ArrAt (k + 1)) h' cs' (v.pick (placesN (firstB (itemsV (plain (k + 1)) v) noItem) v.len) (blankA k))) := by
  have hv' := hv
  have hpl := Nat.le_trans (placesN_len (firstB (itemsV (plain (k + 1)) v) noItem) v.len) hm
  obtain ⟨wv, nv, sm, il, fl, ch, bx, ⟨rfl, hoc⟩, _⟩ := hv
  refine Con.of_body Tryz.func75 rfl Tryz.ntmps75 rfl rfl ?_
  intro hs
  refine Zrun ?_
  (refine RW.boxN hs rfl rfl ?_; intro b1 w1 hs)
  (refine RW.allocN T hs rfl rfl rfl rfl ?_; intro b2 w2 hs)
  refine Zerun ?_
  refine CW.regionR T 1 1 hs rfl rfl ?_
  intro w4 hs
  refine HW.takeR (fuel := 4) 0 rfl (fun _ _ ka kb _ hs hka hkb => Y.loadRowN T hs ka hka rfl rfl rfl rfl rfl rfl) ⟨_, _, 1, 1, hs, rfl, rfl⟩ rfl (by kernel_rfl) (by kernel_rfl) (by kernel_rfl) ?_
  refine HW.takeR (fuel := 3) 1 rfl (fun _ _ ka kb _ hs hka hkb => Y.loadRowN T hs ka hka rfl rfl rfl rfl rfl rfl) ⟨_, _, 1, 1, hs, rfl, rfl⟩ rfl (by kernel_rfl) (by kernel_rfl) (by kernel_rfl) ?_
  refine HW.one (fuel := 2) 2 rfl (by kernel_rfl) ?_
  (refine RW.call T hs rfl rfl rfl (hashFirsts_con (k + 1) _ v _ _ hv' qv hm) ?_; intro v h5 w5 hle5 hp5 hs)
  have hv' := hv'.mono (ArrAt.mono (k + 1)) hle5
  refine RW.nil ?_
  refine heldQ_normal ⟨_, _, 1, 1, hs, rfl, rfl⟩ ?_
  refine HW.one (fuel := 1) 3 rfl (by kernel_rfl) ?_
  (refine RW.call T hs rfl rfl rfl (flatPick_con (ArrAt.mono (k + 1)) (ArrAt.one (k + 1)) (ArrAt.siz (k + 1)) (blankA k) (fun w h => flatBlank_con (ArrAt.mono k) (ArrAt.one k) w h) _ _ _ _ _ _ hv' hp5 hpl hm hk0) ?_; intro v h6 w6 hle6 hp6 hs)
  obtain ⟨cs6, rfl, hv6⟩ := hp6
  have ho6 := hv6.one
  obtain ⟨wv6, nv6, sm6, il6, fl6, ch6, bx6, ⟨rfl, hoc6⟩, _⟩ := id hv6
  have hv' := hv'.mono (ArrAt.mono (k + 1)) hle6
  have hp5 := hp5.mono hle6
  refine RW.nil ?_
  refine heldQ_normal ⟨_, _, 1, 1, hs, rfl, rfl⟩ ?_
  refine HW.one (fuel := 0) 4 rfl (by kernel_rfl) ?_
  (refine RW.storeAll T hs 0 rfl rfl rfl rfl rfl rfl hoc6 rfl ?_; intro w7 hs)
  refine RW.nil ?_
  refine heldQ_normal ⟨_, _, 1, 1, hs, rfl, rfl⟩ ?_
  refine HW.done (by kernel_rfl) ?_
  refine calmQ_normal ?_
  refine Zerun ?_
  exact retQ_ret [_] h6 ⟨resN T hs 0 rfl rfl rfl rfl rfl rfl, trivial⟩ hs.dropAll ⟨_, rfl, hv6⟩
/-- places of elements that are in another list, or are not -/
noncomputable def hasB {γ : Type} (M L : List γ) (n : Nat) (d : γ) (keep : Bool) (i : Nat) : Bool := decide (ixOf M (L.getD i d) < n) == keep
theorem hashWithout_con (k : Nat) (cs cs' : List Value) (v u : VecD (AD (k + 1))) (keep : Bool) (w : World) (h : GHeap) (hv : VecAt (ArrAt (k + 1)) h cs v) (hu : VecAt (ArrAt (k + 1)) h cs' u) (qv : ∀ x ∈ v.boxes, sml (k + 1) x) (qu : ∀ x ∈ u.boxes, sml (k + 1) x) (hm : v.len ≤ 1048576) (hm2 : u.len ≤ 1048576) (hk0 : v.kind ≠ 0) :
    Con Tryz.prog 79 [.agg cs.toArray, .agg cs'.toArray, .bool keep] w h (fun h' r => ∃ cs2, r = .agg cs2.toArray ∧ VecAt (ArrAt (k + 1)) h' cs2 (v.pick (placesN (hasB (itemsV (plain (k + 1)) u) (itemsV (plain (k + 1)) v) u.len noItem keep) v.len) (blankA k))) := by
  have hR := ArrAt.mono (k + 1)
  have hv' := hv
  have hu' := hu
  have hL := itemsV_len (plain (k + 1)) hv
  obtain ⟨wv, nv, sm, il, fl, ch, bx, ⟨rfl, hoc⟩, _⟩ := hv
  obtain ⟨wv2, nv2, sm2, il2, fl2, ch2, bx2, ⟨rfl, hoc2⟩, _⟩ := hu
  refine Con.of_body Tryz.func79 rfl Tryz.ntmps79 rfl rfl ?_
  intro hs
  refine Zrun ?_
  (refine RW.boxN hs rfl rfl ?_; intro b1 w1 hs)
  refine Zrun ?_
  (refine RW.boxN hs rfl rfl ?_; intro b2 w2 hs)
  (refine RW.allocN T hs rfl rfl rfl rfl ?_; intro b3 w3 hs)
  refine Zerun ?_
  (refine RW.call T hs rfl rfl rfl (hashHas_con (k + 1) _ _ u v _ _ hu' hv' qu qv hm2 hm) ?_; intro v h4 w4 hle4 hp4 hs)
  have hv' := hv'.mono hR hle4
  obtain ⟨ah, ch4, rfl, hS⟩ := hp4
  obtain ⟨bsl, hbe⟩ : ∃ bsl, (itemsV (plain (k + 1)) v).map (fun x => decide (ixOf (itemsV (plain (k + 1)) u) x < u.len)) = bsl := ⟨_, rfl⟩
  have hbl : bsl.length = v.len := by rw [← hbe, List.length_map, hL]
  have hbg : ∀ i, i < v.len → bsl.getD i false = decide (ixOf (itemsV (plain (k + 1)) u) ((itemsV (plain (k + 1)) v).getD i noItem) < u.len) := fun i hi => by
    rw [← hbe, getD_map (fun x => decide (ixOf (itemsV (plain (k + 1)) u) x < u.len)) _ _ noItem false (by omega)]
  rw [hbe] at hS ⊢
  rw [hbl] at hS ⊢
  have hs := hs.nilRow 3 1
  refine Zerun ?_
  refine CW.loop (fun q : Nat × Nat × (Option Addr × Nat) => [(2, .bool keep), (3, .pointer (some ⟨b1, 0, none⟩)), (6, .pointer (some ⟨b3, 0, none⟩)), (7, .slice q.2.2.1 q.2.1 q.2.2.2), (12, .slice ah v.len ch4), (13, .int .i64 v.len), (14, .int .i64 q.1)]) (fun q w' => q.1 ≤ v.len ∧ q.2.1 = (placesN (hasB (itemsV (plain (k + 1)) u) (itemsV (plain (k + 1)) v) u.len noItem keep) q.1).length ∧ Sees w h h4 (⟨q.2.2.1, q.2.1, q.2.2.2, 3, 1, (placesN (hasB (itemsV (plain (k + 1)) u) (itemsV (plain (k + 1)) v) u.len noItem keep) q.1).map (Value.int .i64)⟩ :: ⟨some ⟨b3, 0, none⟩, 1, 1, 38, 8, vecCells 0 (.slice none 0 0) 0 (.slice none 0 0) (.slice none 0 0) (.slice none 0 0) (.slice none 0 0) (.slice none 0 0)⟩ :: ⟨some ⟨b2, 0, none⟩, 1, 1, 38, 8, vecCells u.kind wv2 nv2 sm2 il2 fl2 ch2 bx2⟩ :: [⟨some ⟨b1, 0, none⟩, 1, 1, 38, 8, vecCells v.kind wv nv sm il fl ch bx⟩]) w') (fun q => v.len - q.1) (0, 0, none, 0) ⟨rfl, rfl, rfl, rfl, rfl, rfl, rfl, trivial⟩ ⟨by omega, by rw [placesN_zero]; rfl, hs⟩ ?_
  rintro ⟨i, n, al, cl⟩ w7 ⟨hi, hn, hs⟩
  dsimp only at hi hn hs ⊢
  have hnl := placesN_len (hasB (itemsV (plain (k + 1)) u) (itemsV (plain (k + 1)) v) u.len noItem keep) i
  by_cases hlt : i < v.len
  · have hg := map_get Value.bool bsl i false (by omega)
    refine Zerun ?_
    refine RW.val (Y.eqlB T rfl rfl rfl) rfl ?_
    rw [hbg i hlt]
    by_cases c : (decide (ixOf (itemsV (plain (k + 1)) u) ((itemsV (plain (k + 1)) v).getD i noItem) < u.len) == keep) = true
    · have hf : hasB (itemsV (plain (k + 1)) u) (itemsV (plain (k + 1)) v) u.len noItem keep i = true := c
      rw [c]
      refine Zerun ?_
      (refine RW.lit T hs (vs := [.int .i64 (i : Int)]) (cs := [.int .i64 (i : Int)]) rfl rfl rfl rfl (by simp [Value.cells]) rfl rfl rfl rfl rfl ?_; intro b9 w9 hs)
      (refine RW.append T hs 1 rfl rfl (m := 1) (news := [.int .i64 (i : Int)]) rfl rfl rfl rfl rfl rfl (hs.src0 rfl (by simp [Value.oneCell'])) (by simp) (by dsimp only; omega) (by omega) ?_; intro ad10 cp10 w10 hs; replace hs := hs.drop)
      refine Zerun ?_
      refine loopQ_round (i + 1, n + 1, ad10, cp10) ⟨rfl, rfl, rfl, rfl, rfl, rfl, rfl, trivial⟩ ⟨by dsimp only; omega, ?_, ?_⟩ (by dsimp only; omega)
      · dsimp only
        rw [placesN_yes hf, List.length_append, ← hn]; rfl
      · dsimp only
        rw [placesN_yes hf, List.map_append]
        exact hs
    · have c' : (decide (ixOf (itemsV (plain (k + 1)) u) ((itemsV (plain (k + 1)) v).getD i noItem) < u.len) == keep) = false := by simpa using c
      have hf : hasB (itemsV (plain (k + 1)) u) (itemsV (plain (k + 1)) v) u.len noItem keep i = false := c'
      rw [c']
      refine Zerun ?_
      refine loopQ_round (i + 1, n, al, cl) ⟨rfl, rfl, rfl, rfl, rfl, rfl, rfl, trivial⟩ ⟨by dsimp only; omega, ?_, ?_⟩ (by dsimp only; omega)
      · dsimp only
        rw [placesN_no hf]; exact hn
      · dsimp only
        rw [placesN_no hf]; exact hs
  have e : i = v.len := by omega
  subst e
  obtain ⟨h9, hle9, hs, hS9⟩ := hs.freeze
  have hv' := hv'.mono hR hle9
  refine Zerun ?_
  (refine RW.call T hs rfl rfl rfl (flatPick_con (ArrAt.mono (k + 1)) (ArrAt.one (k + 1)) (ArrAt.siz (k + 1)) (blankA k) (fun w h => flatBlank_con (ArrAt.mono k) (ArrAt.one k) w h) _ v _ (placesN (hasB (itemsV (plain (k + 1)) u) (itemsV (plain (k + 1)) v) u.len noItem keep) v.len) _ _ hv' (by rw [hn]; rw [hn] at hS9; exact IntsAt.of_sl hS9) (by omega) hm hk0) ?_; intro v h11 w11 hle11 hp11 hs)
  obtain ⟨cs11, rfl, hv11⟩ := hp11
  obtain ⟨wv6, nv6, sm6, il6, fl6, ch6, bx6, ⟨rfl, hoc6⟩, _⟩ := id hv11
  (refine RW.storeAll T hs 0 rfl rfl rfl rfl rfl rfl hoc6 rfl ?_; intro w12 hs)
  refine Zerun ?_
  exact retQ_ret [_] h11 ⟨resN T hs 0 rfl rfl rfl rfl rfl rfl, trivial⟩ hs.dropAll ⟨_, rfl, hv11⟩
end Go.Proofs.YtmojpbfkpggjhaaGreatDoor

/-
  Contracts of the document's answer of layer 19 and of the law's own functions: where items are first, lists shown. No statement is proved here.
-/
namespace Go.Proofs.YtmojpbfkpggjhaaGreatDoor
open Go Go.RowKit
set_option linter.unusedVariables false
set_option linter.unusedSimpArgs false
set_option maxHeartbeats 4000000
attribute [local irreducible] CW RW QW SW HW ConM retM heldQ calmQ elemP thenQ blockQ loopQ joinQ retQ Yields Con Sl zF magR unitF truncF fwF wholeF tidySpec elemQ rankF leastN tidyW
set_option maxHeartbeats 2000000
attribute [local irreducible] mixN wrN wr32 keyIt keyP

theorem Yields.to {P : Program} {n : Nat} {L : Env} {w : World} {op : Op} {ty : TypeId} {v u : Value} (h : Yields P n L w op ty v) (e : v = u) : Yields P n L w op ty u := e ▸ h
theorem ref19Find_con (k : Nat) (s : Value) (l : List (ItemD (PD k))) (cs : List Value) (x : ItemD (PD k)) (w : World) (h : GHeap) (hl : RowsAt 4 (ItemAt (PlainAt k) h) h s l) (hx : ItemAt (PlainAt k) h cs x) (ql : ∀ y ∈ l, tdyIt (tdy k) y) (qx : tdyIt (tdy k) x) :
    Con Tryz.prog 69 [s, .agg cs.toArray] w h (fun _ u => u = .int .i64 (ixOf l x : Nat)) := by
  have hx' := hx
  obtain ⟨ad, cp, xs, rfl, hS, hA⟩ := hl
  obtain ⟨bx, rfl, _, _⟩ := hx
  have hlen : l.length ≤ 9223372036854775807 := by have := hS.caps; omega
  refine Con.of_body Tryz.func69 rfl Tryz.ntmps69 rfl rfl ?_
  intro hs
  refine Zrun ?_
  (refine RW.boxN hs rfl rfl ?_; intro b1 w1 hs)
  refine Zerun ?_
  refine CW.loop (fun i : Nat => [(0, .slice ad l.length cp), (3, .pointer (some ⟨b1, 0, none⟩)), (5, .int .i64 i)]) (fun i w' => i ≤ l.length ∧ (∀ j (hj : j < l.length), j < i → l[j] ≠ x) ∧ Sees w h h [⟨some ⟨b1, 0, none⟩, 1, 1, 70, 4, [.int .i64 x.kind, .float .f64 x.num, .int .i32 x.char, bx]⟩] w') (fun i => l.length - i) 0 ⟨rfl, rfl, rfl, trivial⟩ ⟨by omega, fun j _ hj => absurd hj (Nat.not_lt_zero _), hs⟩ ?_
  rintro i w4 ⟨hi, hno, hs⟩
  by_cases hlt : i < l.length
  · obtain ⟨y, hy, hyl, hRy⟩ := hA.elem i hlt
    have qy := ql _ (List.getElem_mem hlt)
    refine Zerun ?_
    refine CW.regionQ T hs (Zeqrun ?_) (by kernel_rfl)
    refine QW.call T hs rfl rfl rfl (fun w => refItem_con k _ _ _ _ w _ hRy hx' qy qx) ?_
    by_cases e : l[i] = x
    · rw [eqB_of e]
      refine Zeqrun ?_
      intro w5 hs
      refine Zerun ?_
      refine retQ_ret [_] h ⟨rfl, trivial⟩ hs.dropAll ?_
      rw [ixOf_of hlt e (fun j hj => hno j (by omega) hj)]
      rfl
    · rw [eqB_not e]
      refine Zeqrun ?_
      intro w5 hs
      refine Zerun ?_
      refine loopQ_round (i + 1) ⟨rfl, rfl, rfl, trivial⟩ ⟨by omega, ?_, hs⟩ (by omega)
      intro j hj hji
      rcases Nat.lt_or_ge j i with h3 | h3
      · exact hno j hj h3
      · have h4 : j = i := by omega
        subst h4
        exact e
  · obtain rfl : i = l.length := by omega
    refine Zerun ?_
    refine retQ_ret [_] h ⟨rfl, trivial⟩ hs.dropAll ?_
    rw [ixOf_not (fun j hj => hno j hj hj)]
    rfl
theorem ref19Firsts_con (k : Nat) (s : Value) (l : List (ItemD (PD k))) (w : World) (h : GHeap) (hl : RowsAt 4 (ItemAt (PlainAt k) h) h s l) (ql : ∀ y ∈ l, tdyIt (tdy k) y) (hm : l.length ≤ 1048576) :
    Con Tryz.prog 78 [s] w h (fun h' u => IntsAt h' u (placesN (firstB l noItem) l.length)) := by
  obtain ⟨ad, cp, xs, rfl, hS, hA⟩ := hl
  refine Con.of_body Tryz.func78 rfl Tryz.ntmps78 rfl rfl ?_
  intro hs
  refine Zerun ?_
  have hs := hs.nilRow 3 1
  refine CW.loop (fun q : Nat × Nat × (Option Addr × Nat) × GHeap => [(0, .slice ad l.length cp), (3, .slice q.2.2.1.1 q.2.1 q.2.2.1.2), (4, .int .i64 q.1)]) (fun q w' => q.1 ≤ l.length ∧ q.2.1 = (placesN (firstB l noItem) q.1).length ∧ GLe h q.2.2.2 ∧ Sees w h q.2.2.2 [⟨q.2.2.1.1, q.2.1, q.2.2.1.2, 3, 1, (placesN (firstB l noItem) q.1).map (Value.int .i64)⟩] w') (fun q => l.length - q.1) (0, 0, (none, 0), h) ⟨rfl, rfl, rfl, trivial⟩ ⟨by omega, by rw [placesN_zero]; rfl, GLe.refl _, hs⟩ ?_
  rintro ⟨i, n, ⟨al, cl⟩, hh⟩ w7 ⟨hi, hn, hg, hs⟩
  dsimp only at hi hn hg hs ⊢
  have hS := hS.mono hg
  have hnl := placesN_len (firstB l noItem) i
  by_cases hlt : i < l.length
  · obtain ⟨y, hy, hyl, hRy⟩ := hA.elem i hlt
    have hRy := ItemAt.mono (PlainAt.mono k) _ _ _ _ hg hRy
    have hA' := hA.mono (fun u a hv => ItemAt.mono (PlainAt.mono k) _ _ u a hg hv)
    have hgi : l.getD i noItem = l[i] := getD_elem hlt _
    refine Zerun ?_
    (refine RW.call T hs rfl rfl rfl (ref19Find_con k _ l _ _ _ _ ⟨_, _, _, rfl, hS, hA'⟩ hRy ql (ql _ (List.getElem_mem hlt))) ?_; intro v h8 w8 hle8 hp8 hs)
    subst hp8
    have hS := hS.mono hle8
    by_cases c : ixOf l l[i] = i
    · have hf : firstB l noItem i = true := decide_eq_true (by rw [hgi]; exact c)
      refine Zerun ?_
      (refine RW.lit T hs (vs := [.int .i64 (i : Int)]) (cs := [.int .i64 (i : Int)]) rfl rfl rfl rfl (by simp [Value.cells]) rfl rfl rfl rfl rfl ?_; intro b9 w9 hs)
      (refine RW.append T hs 1 rfl rfl (m := 1) (news := [.int .i64 (i : Int)]) rfl rfl rfl rfl rfl rfl (hs.src0 rfl (by simp [Value.oneCell'])) (by simp) (by dsimp only; omega) (by omega) ?_; intro ad10 cp10 w10 hs; replace hs := hs.drop)
      refine Zerun ?_
      refine loopQ_round (i + 1, n + 1, (ad10, cp10), h8) ⟨rfl, rfl, rfl, trivial⟩ ⟨by dsimp only; omega, ?_, hg.trans hle8, ?_⟩ (by dsimp only; omega)
      · dsimp only
        rw [placesN_yes hf, List.length_append, ← hn]; rfl
      · dsimp only
        rw [placesN_yes hf, List.map_append]
        exact hs
    · have hf : firstB l noItem i = false := decide_eq_false (by rw [hgi]; exact c)
      refine Zerun ?_
      refine loopQ_round (i + 1, n, (al, cl), h8) ⟨rfl, rfl, rfl, trivial⟩ ⟨by dsimp only; omega, ?_, hg.trans hle8, ?_⟩ (by dsimp only; omega)
      · dsimp only
        rw [placesN_no hf]; exact hn
      · dsimp only
        rw [placesN_no hf]; exact hs
  obtain rfl : i = l.length := by omega
  refine Zerun ?_
  obtain ⟨h9, hle9, hs, hS9⟩ := hs.freeze
  refine retQ_ret [_] h9 ⟨rfl, trivial⟩ hs.dropAll ?_
  rw [hn] at hS9 ⊢
  exact IntsAt.of_sl hS9
theorem filter_take {γ : Type} (q : γ → Bool) (l : List γ) (i : Nat) (hi : i < l.length) : (l.take (i + 1)).filter q = (l.take i).filter q ++ (if q l[i] = true then [l[i]] else []) := by
  rw [List.take_add_one, List.getElem?_eq_getElem hi, Option.toList_some, List.filter_append]
  congr 1
  by_cases h : q l[i] = true
  · rw [if_pos h, List.filter_cons_of_pos h]; rfl
  · rw [if_neg h, List.filter_cons_of_neg h]; rfl
noncomputable def inB {γ : Type} (m : List γ) (keep : Bool) (x : γ) : Bool := decide (ixOf m x < m.length) == keep
theorem ref19Without_con (k : Nat) (s s2 : Value) (l m : List (ItemD (PD k))) (keep : Bool) (w : World) (h : GHeap) (hl : RowsAt 4 (ItemAt (PlainAt k) h) h s l) (hm : RowsAt 4 (ItemAt (PlainAt k) h) h s2 m) (ql : ∀ y ∈ l, tdyIt (tdy k) y) (qm : ∀ y ∈ m, tdyIt (tdy k) y) (hlm : l.length ≤ 1048576) :
    Con Tryz.prog 80 [s, s2, .bool keep] w h (fun h' u => RowsAt 4 (ItemAt (PlainAt k) h') h' u (l.filter (inB m keep))) := by
  have hRI := ItemAt.mono (PlainAt.mono k)
  obtain ⟨ad, cp, xs, rfl, hS, hA⟩ := hl
  obtain ⟨ad2, cp2, xs2, rfl, hS2, hA2⟩ := hm
  have hlen2 : m.length ≤ 9223372036854775807 := by have := hS2.caps; omega
  refine Con.of_body Tryz.func80 rfl Tryz.ntmps80 rfl rfl ?_
  intro hs
  refine Zerun ?_
  have hs := hs.nilRow 70 4
  refine CW.loop (fun q : Nat × Nat × (Option Addr × Nat) × List Value × GHeap => [(0, .slice ad l.length cp), (1, .slice ad2 m.length cp2), (2, .bool keep), (7, .slice q.2.2.1.1 q.2.1 q.2.2.1.2), (8, .int .i64 q.1)]) (fun q w' => q.1 ≤ l.length ∧ q.2.1 = ((l.take q.1).filter (inB m keep)).length ∧ GLe h q.2.2.2.2 ∧ AllN 4 (ItemAt (PlainAt k) q.2.2.2.2) q.2.2.2.1 ((l.take q.1).filter (inB m keep)) ∧ Sees w h q.2.2.2.2 [⟨q.2.2.1.1, q.2.1, q.2.2.1.2, 70, 4, q.2.2.2.1⟩] w') (fun q => l.length - q.1) (0, 0, (none, 0), [], h) ⟨rfl, rfl, rfl, rfl, rfl, trivial⟩ ⟨by omega, rfl, GLe.refl _, rfl, hs⟩ ?_
  rintro ⟨i, n, ⟨al, cl⟩, vs, hh⟩ w7 ⟨hi, hn, hg, hAv, hs⟩
  dsimp only at hi hn hg hAv hs ⊢
  have hS := hS.mono hg
  have hS2 := hS2.mono hg
  have hnl : ((l.take i).filter (inB m keep)).length ≤ i := Nat.le_trans (List.length_filter_le _ _) (by rw [List.length_take]; omega)
  by_cases hlt : i < l.length
  · obtain ⟨y, hy, hyl, hRy⟩ := hA.elem i hlt
    have hoy := ItemAt.one _ _ _ hRy
    have hRy := hRI _ _ _ _ hg hRy
    have hA2' := hA2.mono (fun u a hv => hRI _ _ u a hg hv)
    have hft := filter_take (inB m keep) l i hlt
    refine Zerun ?_
    (refine RW.call T hs rfl rfl rfl (ref19Find_con k _ m _ _ _ _ ⟨_, _, _, rfl, hS2, hA2'⟩ hRy qm (ql _ (List.getElem_mem hlt))) ?_; intro v h8 w8 hle8 hp8 hs)
    subst hp8
    have hS := hS.mono hle8
    have hRy := hRI _ _ _ _ hle8 hRy
    have hAv := hAv.mono (fun u a hv => hRI _ _ u a hle8 hv)
    refine Zerun ?_
    have hdec : decide (((ixOf m l[i] : Nat) : Int) < (m.length : Int)) = decide (ixOf m l[i] < m.length) := by
      by_cases c : ixOf m l[i] < m.length
      · rw [decide_eq_true c, decide_eq_true (by omega)]
      · rw [decide_eq_false c, decide_eq_false (by omega)]
    refine RW.val (Y.eqlB T rfl rfl rfl) rfl ?_
    rw [hdec]
    by_cases c : (decide (ixOf m l[i] < m.length) == keep) = true
    · rw [if_pos (show inB m keep l[i] = true from c)] at hft
      rw [c]
      refine Zerun ?_
      (refine RW.lit T hs (vs := [.agg y.toArray]) (cs := y) rfl rfl rfl rfl (by simp [Value.cells, hyl]) rfl (by simp [Value.cells]) rfl rfl rfl ?_; intro b9 w9 hs)
      (refine RW.append T hs 1 rfl rfl (m := 1) (news := y) rfl rfl rfl rfl rfl rfl (hs.src0 (by simpa using hyl) hoy) (by simp) (by dsimp only; omega) (by omega) ?_; intro ad10 cp10 w10 hs; replace hs := hs.drop)
      refine Zerun ?_
      refine loopQ_round (i + 1, n + 1, (ad10, cp10), vs ++ y, h8) ⟨rfl, rfl, rfl, rfl, rfl, trivial⟩ ⟨by dsimp only; omega, ?_, hg.trans hle8, ?_, hs⟩ (by dsimp only; omega)
      · dsimp only
        rw [hft, List.length_append, ← hn]; rfl
      · dsimp only
        rw [hft]
        exact hAv.append (AllN.one hyl hRy)
    · have c' : (decide (ixOf m l[i] < m.length) == keep) = false := by simpa using c
      rw [if_neg (show ¬ inB m keep l[i] = true from c), List.append_nil] at hft
      rw [c']
      refine Zerun ?_
      refine loopQ_round (i + 1, n, (al, cl), vs, h8) ⟨rfl, rfl, rfl, rfl, rfl, trivial⟩ ⟨by dsimp only; omega, ?_, hg.trans hle8, ?_, hs⟩ (by dsimp only; omega)
      · dsimp only
        rw [hft]; exact hn
      · dsimp only
        rw [hft]; exact hAv
  obtain rfl : i = l.length := by omega
  rw [List.take_length] at hn hAv
  refine Zerun ?_
  obtain ⟨h9, hle9, hs, hS9⟩ := hs.freeze
  refine retQ_ret [_] h9 ⟨rfl, trivial⟩ hs.dropAll ?_
  rw [hn] at hS9 ⊢
  exact ⟨_, _, vs, rfl, hS9, hAv.mono (fun u a hv => hRI _ _ u a hle9 hv)⟩
end Go.Proofs.YtmojpbfkpggjhaaGreatDoor

/-
  Contracts of base.ints, of the document's ints, of the origin, and of errors shown. No statement is proved here.
-/
namespace Go.Proofs.YtmojpbfkpggjhaaGreatDoor
open Go Go.RowKit
set_option linter.unusedVariables false
set_option linter.unusedSimpArgs false
set_option maxHeartbeats 4000000
attribute [local irreducible] CW RW QW SW HW ConM retM heldQ calmQ elemP thenQ blockQ loopQ joinQ retQ Yields Con Sl zF magR unitF truncF fwF wholeF tidySpec elemQ rankF leastN tidyW
set_option maxHeartbeats 4000000
attribute [local irreducible] mixN wrN wr32 keyIt keyP

theorem shows27E_con {α β : Type} {R : GHeap → List Value → α → Prop} {Rq : GHeap → List Value → β → Prop} (cs cp : List Value) (p : PlainD β) (e : Int) (w : World) (h : GHeap) (he : e = 22 ∨ e = 23 ∨ e = 24 ∨ e = 26) (ha : ArrR R h cs ⟨[], VecD.none⟩) (hp : PlainR Rq h cp p) : Con Tryz.prog 16 [.agg cs.toArray, .int .i64 e, .agg cp.toArray, .int .i64 e] w h (fun _ u => u = .bool true) := by
  obtain ⟨_, vc, rfl, ⟨ad, cap, rfl, _⟩, hv⟩ := ha
  have hv' := hv
  obtain ⟨wv, nv, sm, il, fl, ch, bx, ⟨rfl, hoc⟩, _⟩ := hv
  obtain ⟨s2, it2, rfl, ⟨ad2, cp2, rfl, _⟩, ⟨ad3, cp3, xs3, rfl, _, _⟩⟩ := hp
  rcases he with rfl | rfl | rfl | rfl
  all_goals
    refine Con.of_body Tryz.func16 rfl Tryz.ntmps16 rfl rfl ?_
    intro hs
    refine Zrun ?_
    (refine RW.boxN hs rfl rfl ?_; intro b1 w1 hs)
    refine Zrun ?_
    (refine RW.boxN hs rfl rfl ?_; intro b2 w2 hs)
    refine Zerun ?_
    (refine RW.call T hs rfl rfl rfl (vecKind_con _ VecD.none _ _ hv') ?_; intro v h3 w3 hle3 hp3 hs)
    subst hp3
    refine Zerun ?_
    exact retQ_ret [_] h3 ⟨rfl, trivial⟩ hs.dropAll rfl
end Go.Proofs.YtmojpbfkpggjhaaGreatDoor

/-
  Contracts of base.IndexOf, base.Member and of the document's answers to them. No statement is proved here.
-/
namespace Go.Proofs.YtmojpbfkpggjhaaGreatDoor
open Go Go.RowKit
set_option linter.unusedVariables false
set_option linter.unusedSimpArgs false
set_option maxHeartbeats 4000000
attribute [local irreducible] CW RW QW SW HW ConM retM heldQ calmQ elemP thenQ blockQ loopQ joinQ retQ Yields Con Sl zF magR unitF truncF fwF wholeF tidySpec elemQ rankF leastN tidyW
set_option maxHeartbeats 4000000
attribute [local irreducible] mixN wrN wr32 keyIt keyP

def zeroP {α : Type} : PlainD α := ⟨[], [], 0⟩
section
variable {k : Nat}
end
end Go.Proofs.YtmojpbfkpggjhaaGreatDoor

/-
  Contracts of base.Unique, base.Without, base.Union and of the document's answers to them. No statement is proved here.
-/
namespace Go.Proofs.YtmojpbfkpggjhaaGreatDoor
open Go Go.RowKit
set_option linter.unusedVariables false
set_option linter.unusedSimpArgs false
set_option maxHeartbeats 4000000
attribute [local irreducible] CW RW QW SW HW ConM retM heldQ calmQ elemP thenQ blockQ loopQ joinQ retQ Yields Con Sl zF magR unitF truncF fwF wholeF tidySpec elemQ rankF leastN tidyW
set_option maxHeartbeats 4000000
attribute [local irreducible] mixN wrN wr32 keyIt keyP

theorem two_rows8 {α : Type} {R : GHeap → List Value → α → Prop} {h : GHeap} {b : Nat} {c1 c2 : List Value} {x y : α} (hS : Sl h 8 (some ⟨b, 0, none⟩) 2 2 (c1 ++ c2)) (l1 : c1.length = 8) (h1 : R h c1 x) (l2 : c2.length = 8) (h2 : R h c2 y) : RowsAt 8 (R h) h (.slice (some ⟨b, 0, none⟩) 2 2) [x, y] :=
  ⟨_, _, _, rfl, hS, (AllN.one l1 h1).append (AllN.one l2 h2)⟩
theorem two_rows3 {α : Type} {R : GHeap → List Value → α → Prop} {h : GHeap} {b : Nat} {c1 c2 : List Value} {x y : α} (hS : Sl h 3 (some ⟨b, 0, none⟩) 2 2 (c1 ++ c2)) (l1 : c1.length = 3) (h1 : R h c1 x) (l2 : c2.length = 3) (h2 : R h c2 y) : RowsAt 3 (R h) h (.slice (some ⟨b, 0, none⟩) 2 2) [x, y] :=
  ⟨_, _, _, rfl, hS, (AllN.one l1 h1).append (AllN.one l2 h2)⟩
theorem uniq_any' {γ : Type} (l : List γ) (d b : γ) : (placesN (firstB l d) l.length).map (fun i => atD l i b) = uniq l d := by
  unfold uniq
  rw [placesN_items, placesN_items]
  apply List.map_congr_left
  intro i hi
  have := List.mem_range.1 (List.mem_filter.1 hi).1
  rw [getD_elem this, getD_elem this]
def listA {k : Nat} (x : VecD (AD (k + 1))) : ArrD (AD (k + 1)) := ⟨[(x.len : Int)], x.sq⟩
noncomputable def uniqV {k : Nat} (a : ArrD (AD (k + 1))) : VecD (AD (k + 1)) := a.vec.pick (placesN (firstB (itemsV (plain (k + 1)) a.vec) noItem) a.vec.len) (blankA k)
noncomputable def withV {k : Nat} (a b : ArrD (AD (k + 1))) (keep : Bool) : VecD (AD (k + 1)) := a.vec.pick (placesN (hasB (itemsV (plain (k + 1)) b.vec) (itemsV (plain (k + 1)) a.vec) b.vec.len noItem keep) a.vec.len) (blankA k)
theorem uniqV_len {k : Nat} (a : ArrD (AD (k + 1))) (hm : a.vec.len ≤ 1048576) : (uniqV a).len ≤ 1048576 := by
  unfold uniqV
  rw [(pick_facts _ _ _).2.2.1]
  exact Nat.le_trans (placesN_len _ _) hm
theorem withV_len {k : Nat} (a b : ArrD (AD (k + 1))) (keep : Bool) (hm : a.vec.len ≤ 1048576) : (withV a b keep).len ≤ 1048576 := by
  unfold withV
  rw [(pick_facts _ _ _).2.2.1]
  exact Nat.le_trans (placesN_len _ _) hm
noncomputable def uniqueS {k : Nat} (a : ArrD (AD (k + 1))) : Int × ArrD (AD (k + 1)) := if 1 < a.shape.length then (22, ⟨[], VecD.none⟩) else (0, listA (uniqV a))
noncomputable def withoutS {k : Nat} (a b : ArrD (AD (k + 1))) (keep : Bool) : Int × ArrD (AD (k + 1)) := if 1 < a.shape.length ∨ 1 < b.shape.length then (22, ⟨[], VecD.none⟩) else (0, listA (withV a b keep))
noncomputable def joinU {k : Nat} (a b : ArrD (AD (k + 1))) (c : Int) : VecD (AD (k + 1)) := if c < 0 then noneV (headC [a.vec, withV b a false]) else joinS c [a.vec, withV b a false]
noncomputable def unionS {k : Nat} (a b : ArrD (AD (k + 1))) (most : Int) : Int × ArrD (AD (k + 1)) := if 1 < a.shape.length ∨ 1 < b.shape.length then (22, ⟨[], VecD.none⟩) else match joinC (-1) [a.vec, withV b a false] with
  | none => (24, ⟨[], VecD.none⟩)
  | some c => if most < ((joinU a b c).len : Int) then (26, ⟨[], VecD.none⟩) else (0, listA (joinU a b c))
theorem unionS_none {k : Nat} {a b : ArrD (AD (k + 1))} {most : Int} (c : ¬ (1 < a.shape.length ∨ 1 < b.shape.length)) (hj : joinC (-1) [a.vec, withV b a false] = none) : unionS a b most = (24, ⟨[], VecD.none⟩) := by unfold unionS; rw [if_neg c, hj]
theorem unionS_some {k : Nat} {a b : ArrD (AD (k + 1))} {most cj : Int} (c : ¬ (1 < a.shape.length ∨ 1 < b.shape.length)) (hj : joinC (-1) [a.vec, withV b a false] = some cj) : unionS a b most = if most < ((joinU a b cj).len : Int) then (26, ⟨[], VecD.none⟩) else (0, listA (joinU a b cj)) := by unfold unionS; rw [if_neg c, hj]
noncomputable def uniqueR {α : Type} (p : PlainD α) : Int × PlainD α := if 1 < p.shape.length then (22, zeroP) else (0, ⟨[((uniq p.items noItem).length : Int)], uniq p.items noItem, p.fill⟩)
noncomputable def withoutR {α : Type} (p q : PlainD α) (keep : Bool) : Int × PlainD α := if 1 < p.shape.length ∨ 1 < q.shape.length then (22, zeroP) else (0, ⟨[((p.items.filter (inB q.items keep)).length : Int)], p.items.filter (inB q.items keep), p.fill⟩)
noncomputable def withoutQ {α : Type} (q p : PlainD α) : PlainD α := ⟨[((q.items.filter (inB p.items false)).length : Int)], q.items.filter (inB p.items false), q.fill⟩
noncomputable def unionR {α : Type} (p q : PlainD α) (most : Int) : Int × PlainD α := if 1 < p.shape.length ∨ 1 < q.shape.length then (22, zeroP) else match joinP (-1) [p, withoutQ q p] with
  | none => (24, zeroP)
  | some c => if most < ((p.items ++ q.items.filter (inB p.items false)).length : Int) then (26, zeroP) else (0, ⟨[((p.items ++ q.items.filter (inB p.items false)).length : Int)], p.items ++ q.items.filter (inB p.items false), if 0 ≤ c then c else headF [p, withoutQ q p]⟩)
theorem unionR_none {α : Type} {p q : PlainD α} {most : Int} (c : ¬ (1 < p.shape.length ∨ 1 < q.shape.length)) (hj : joinP (-1) [p, withoutQ q p] = none) : unionR p q most = (24, zeroP) := by unfold unionR; rw [if_neg c, hj]
theorem unionR_some {α : Type} {p q : PlainD α} {most cj : Int} (c : ¬ (1 < p.shape.length ∨ 1 < q.shape.length)) (hj : joinP (-1) [p, withoutQ q p] = some cj) : unionR p q most = if most < ((p.items ++ q.items.filter (inB p.items false)).length : Int) then (26, zeroP) else (0, ⟨[((p.items ++ q.items.filter (inB p.items false)).length : Int)], p.items ++ q.items.filter (inB p.items false), if 0 ≤ cj then cj else headF [p, withoutQ q p]⟩) := by unfold unionR; rw [if_neg c, hj]
theorem flat2 {α : Type} (p q : PlainD α) : [p, withoutQ q p].flatMap (·.items) = p.items ++ q.items.filter (inB p.items false) := by
  show p.items ++ (q.items.filter (inB p.items false) ++ []) = _
  rw [List.append_nil]
theorem joinP_nn {α : Type} {p q : PlainD α} {c : Int} (hfl : ∀ r ∈ [p, withoutQ q p], 0 ≤ r.fill) (_ : joinP (-1) [p, withoutQ q p] = some c) : ¬ (if 0 ≤ c then c else headF [p, withoutQ q p]) < 0 := by
  have h1 : 0 ≤ headF [p, withoutQ q p] := hfl p (by simp)
  split <;> omega
theorem baseUnique_con (k : Nat) (ca : List Value) (a : ArrD (AD (k + 1))) (w : World) (h : GHeap) (ha : ArrAt (k + 2) h ca a) (qa : ∀ x ∈ a.vec.boxes, sml (k + 1) x) (hm : a.vec.len ≤ 1048576) (hk0 : a.vec.kind ≠ 0) :
    Con Tryz.prog 26 [.agg ca.toArray] w h (fun h' u => ∃ cs', u = .tuple #[.agg cs'.toArray, .int .i64 (uniqueS a).1] ∧ ArrAt (k + 2) h' cs' (uniqueS a).2) := by
  have ha' := ha
  obtain ⟨_, vca, rfl, ⟨ada, cpa, rfl, hSa⟩, hva⟩ := ha
  have hva' := hva
  obtain ⟨wa, na, sa, ia, fa, ga, xa, ⟨rfl, hoa⟩, -⟩ := hva
  have mA : ∀ h', GLe h h' → ArrAt (k + 2) h' (.slice ada a.shape.length cpa :: vecCells a.vec.kind wa na sa ia fa ga xa) a := fun h' hl => ArrAt.mono (k + 2) _ _ _ _ hl ha'
  have vA : ∀ h', GLe h h' → VecAt (ArrAt (k + 1)) h' (vecCells a.vec.kind wa na sa ia fa ga xa) a.vec := fun h' hl => hva'.mono (ArrAt.mono (k + 1)) hl
  refine Con.of_body Tryz.func26 rfl Tryz.ntmps26 rfl rfl ?_
  intro hs
  refine Zrun ?_
  (refine RW.boxN hs rfl rfl ?_; intro b1 w1 hs)
  refine Zrun ?_
  (refine RW.allocN T hs rfl rfl rfl rfl ?_; intro b3 w3 hs)
  refine Zerun ?_
  (refine RW.lit T hs (vs := [.agg (.slice ada a.shape.length cpa :: vecCells a.vec.kind wa na sa ia fa ga xa).toArray]) (cs := (.slice ada a.shape.length cpa :: vecCells a.vec.kind wa na sa ia fa ga xa)) rfl rfl rfl rfl (by simp [Value.cells, vecCells]) rfl rfl rfl rfl rfl ?_; intro b4 w4 hs)
  obtain ⟨h4, hle4, hs, hS4⟩ := hs.freeze
  have hR4 : RowsAt (α := AD (k + 2)) 9 (ArrAt (k + 2) h4) h4 (.slice (some ⟨b4, 0, none⟩) 1 1) [a] := RowsAt.single hS4 (mA _ hle4)
  refine Zerun ?_
  (refine RW.call T hs rfl rfl rfl (listed_con (k + 1) _ [a] _ _ hR4) ?_; intro v h5 w5 hle5 hp5 hs)
  subst hp5
  have g5 := hle4.trans hle5
  by_cases c : 1 < a.shape.length
  · rw [show uniqueS a = (22, ⟨[], VecD.none⟩) from if_pos c]
    rw [show (!([a] : List (ArrD (AD (k + 1)))).any fun a => decide (1 < (a.shape.length : Int))) = false by
        simp only [List.any_cons, List.any_nil]
        rw [decide_eq_true (by omega)]; rfl]
    refine Zerun ?_
    refine RW.val (Y.build T rfl rfl rfl rfl rfl rfl rfl) rfl ?_
    (refine RW.storeAll T hs 0 rfl rfl rfl rfl rfl rfl rfl rfl ?_; intro w9 hs)
    refine Zerun ?_
    exact retQ_ret [_, _] h5 ⟨resN T hs 0 rfl rfl rfl rfl rfl rfl, rfl, trivial⟩ hs.dropAll ⟨_, rfl, _, _, rfl, IntsAt.nil _, vecNone _⟩
  rw [show uniqueS a = (0, listA (uniqV a)) from if_neg c]
  rw [show (!([a] : List (ArrD (AD (k + 1)))).any fun a => decide (1 < (a.shape.length : Int))) = true by
    simp only [List.any_cons, List.any_nil]
    rw [decide_eq_false (by omega)]; rfl]
  refine Zerun ?_
  (refine RW.call T hs rfl rfl rfl (hashUnique_con k _ a.vec _ _ (vA _ g5) qa hm hk0) ?_; intro v h6 w6 hle6 hp6 hs)
  obtain ⟨cs6, rfl, hv6⟩ := hp6
  refine Zerun ?_
  (refine RW.call T hs rfl rfl rfl (valueList_con (ArrAt.mono (k + 1)) _ _ _ _ hv6 (uniqV_len a hm)) ?_; intro v h7 w7 hle7 hp7 hs)
  obtain ⟨cs7, rfl, ha7⟩ := hp7
  have hr7 := ha7
  obtain ⟨_, vc7, rfl, ⟨ad7, cp7, rfl, _⟩, hv7⟩ := ha7
  obtain ⟨wv7, nv7, sm7, il7, fl7, ch7, bx7, ⟨rfl, hoc7⟩, -⟩ := hv7
  refine Zerun ?_
  (refine RW.storeAll T hs 0 rfl rfl rfl rfl rfl rfl (by show (Value.oneCell' (.slice ad7 _ cp7) && (vecCells _ wv7 nv7 sm7 il7 fl7 ch7 bx7).all Value.oneCell') = true; rw [hoc7]; rfl) rfl ?_; intro w907 hs)
  refine Zerun ?_
  exact retQ_ret [_, _] h7 ⟨resN T hs 0 rfl rfl rfl rfl rfl rfl, rfl, trivial⟩ hs.dropAll ⟨_, rfl, hr7⟩
theorem baseWithout_con (k : Nat) (ca cb : List Value) (a b : ArrD (AD (k + 1))) (keep : Bool) (w : World) (h : GHeap) (ha : ArrAt (k + 2) h ca a) (hb : ArrAt (k + 2) h cb b) (qa : ∀ x ∈ a.vec.boxes, sml (k + 1) x) (hm : a.vec.len ≤ 1048576) (qb : ∀ x ∈ b.vec.boxes, sml (k + 1) x) (hmb : b.vec.len ≤ 1048576) (hk0 : a.vec.kind ≠ 0) :
    Con Tryz.prog 28 [.agg ca.toArray, .agg cb.toArray, .bool keep] w h (fun h' u => ∃ cs', u = .tuple #[.agg cs'.toArray, .int .i64 (withoutS a b keep).1] ∧ ArrAt (k + 2) h' cs' (withoutS a b keep).2) := by
  have ha' := ha
  obtain ⟨_, vca, rfl, ⟨ada, cpa, rfl, hSa⟩, hva⟩ := ha
  have hva' := hva
  obtain ⟨wa, na, sa, ia, fa, ga, xa, ⟨rfl, hoa⟩, -⟩ := hva
  have mA : ∀ h', GLe h h' → ArrAt (k + 2) h' (.slice ada a.shape.length cpa :: vecCells a.vec.kind wa na sa ia fa ga xa) a := fun h' hl => ArrAt.mono (k + 2) _ _ _ _ hl ha'
  have vA : ∀ h', GLe h h' → VecAt (ArrAt (k + 1)) h' (vecCells a.vec.kind wa na sa ia fa ga xa) a.vec := fun h' hl => hva'.mono (ArrAt.mono (k + 1)) hl
  have hb' := hb
  obtain ⟨_, vcb, rfl, ⟨adb, cpb, rfl, hSb⟩, hvb⟩ := hb
  have hvb' := hvb
  obtain ⟨wb, nb, sb, ib, fb, gb, xb, ⟨rfl, hob⟩, -⟩ := hvb
  have mB : ∀ h', GLe h h' → ArrAt (k + 2) h' (.slice adb b.shape.length cpb :: vecCells b.vec.kind wb nb sb ib fb gb xb) b := fun h' hl => ArrAt.mono (k + 2) _ _ _ _ hl hb'
  have vB : ∀ h', GLe h h' → VecAt (ArrAt (k + 1)) h' (vecCells b.vec.kind wb nb sb ib fb gb xb) b.vec := fun h' hl => hvb'.mono (ArrAt.mono (k + 1)) hl
  refine Con.of_body Tryz.func28 rfl Tryz.ntmps28 rfl rfl ?_
  intro hs
  refine Zrun ?_
  (refine RW.boxN hs rfl rfl ?_; intro b1 w1 hs)
  refine Zrun ?_
  (refine RW.boxN hs rfl rfl ?_; intro b2 w2 hs)
  refine Zrun ?_
  (refine RW.allocN T hs rfl rfl rfl rfl ?_; intro b3 w3 hs)
  refine Zerun ?_
  (refine RW.lit T hs (vs := [.agg (.slice ada a.shape.length cpa :: vecCells a.vec.kind wa na sa ia fa ga xa).toArray, .agg (.slice adb b.shape.length cpb :: vecCells b.vec.kind wb nb sb ib fb gb xb).toArray]) (cs := ((.slice ada a.shape.length cpa :: vecCells a.vec.kind wa na sa ia fa ga xa) ++ (.slice adb b.shape.length cpb :: vecCells b.vec.kind wb nb sb ib fb gb xb))) rfl rfl rfl rfl (by simp [Value.cells, vecCells]) rfl rfl rfl rfl rfl ?_; intro b4 w4 hs)
  obtain ⟨h4, hle4, hs, hS4⟩ := hs.freeze
  have hR4 : RowsAt (α := AD (k + 2)) 9 (ArrAt (k + 2) h4) h4 (.slice (some ⟨b4, 0, none⟩) 2 2) [a, b] := two_rows hS4 rfl (mA _ hle4) rfl (mB _ hle4)
  refine Zerun ?_
  (refine RW.call T hs rfl rfl rfl (listed_con (k + 1) _ [a, b] _ _ hR4) ?_; intro v h5 w5 hle5 hp5 hs)
  subst hp5
  have g5 := hle4.trans hle5
  by_cases c : 1 < a.shape.length ∨ 1 < b.shape.length
  · rw [show withoutS a b keep = (22, ⟨[], VecD.none⟩) from if_pos c]
    rw [show (!([a, b] : List (ArrD (AD (k + 1)))).any fun a => decide (1 < (a.shape.length : Int))) = false by
        simp only [List.any_cons, List.any_nil]
        rcases c with c | c
        · rw [decide_eq_true (show (1 : Int) < (a.shape.length : Int) by omega)]; rfl
        · rw [decide_eq_true (show (1 : Int) < (b.shape.length : Int) by omega), Bool.true_or, Bool.or_true]; rfl]
    refine Zerun ?_
    refine RW.val (Y.build T rfl rfl rfl rfl rfl rfl rfl) rfl ?_
    (refine RW.storeAll T hs 0 rfl rfl rfl rfl rfl rfl rfl rfl ?_; intro w9 hs)
    refine Zerun ?_
    exact retQ_ret [_, _] h5 ⟨resN T hs 0 rfl rfl rfl rfl rfl rfl, rfl, trivial⟩ hs.dropAll ⟨_, rfl, _, _, rfl, IntsAt.nil _, vecNone _⟩
  rw [show withoutS a b keep = (0, listA (withV a b keep)) from if_neg c]
  rw [show (!([a, b] : List (ArrD (AD (k + 1)))).any fun a => decide (1 < (a.shape.length : Int))) = true by
    simp only [List.any_cons, List.any_nil]
    rw [decide_eq_false (by omega), decide_eq_false (by omega)]; rfl]
  refine Zerun ?_
  (refine RW.call T hs rfl rfl rfl (hashWithout_con k _ _ a.vec b.vec keep _ _ (vA _ g5) (vB _ g5) qa qb hm hmb hk0) ?_; intro v h6 w6 hle6 hp6 hs)
  obtain ⟨cs6, rfl, hv6⟩ := hp6
  refine Zerun ?_
  (refine RW.call T hs rfl rfl rfl (valueList_con (ArrAt.mono (k + 1)) _ _ _ _ hv6 (withV_len a b keep hm)) ?_; intro v h7 w7 hle7 hp7 hs)
  obtain ⟨cs7, rfl, ha7⟩ := hp7
  have hr7 := ha7
  obtain ⟨_, vc7, rfl, ⟨ad7, cp7, rfl, _⟩, hv7⟩ := ha7
  obtain ⟨wv7, nv7, sm7, il7, fl7, ch7, bx7, ⟨rfl, hoc7⟩, -⟩ := hv7
  refine Zerun ?_
  (refine RW.storeAll T hs 0 rfl rfl rfl rfl rfl rfl (by show (Value.oneCell' (.slice ad7 _ cp7) && (vecCells _ wv7 nv7 sm7 il7 fl7 ch7 bx7).all Value.oneCell') = true; rw [hoc7]; rfl) rfl ?_; intro w907 hs)
  refine Zerun ?_
  exact retQ_ret [_, _] h7 ⟨resN T hs 0 rfl rfl rfl rfl rfl rfl, rfl, trivial⟩ hs.dropAll ⟨_, rfl, hr7⟩
theorem baseUnion_con (k : Nat) (ca cb : List Value) (a b : ArrD (AD (k + 1))) (most : Int) (w : World) (h : GHeap) (ha : ArrAt (k + 2) h ca a) (hb : ArrAt (k + 2) h cb b) (qa : ∀ x ∈ a.vec.boxes, sml (k + 1) x) (hm : a.vec.len ≤ 1048576) (qb : ∀ x ∈ b.vec.boxes, sml (k + 1) x) (hmb : b.vec.len ≤ 1048576) (hkb : b.vec.kind ≠ 0) (hsum : ([a.vec, withV b a false].map VecD.len).sum ≤ 1048576) (hll : ∀ c, joinC (-1) [a.vec, withV b a false] = some c → (joinU a b c).len ≤ 1048576) :
    Con Tryz.prog 30 [.agg ca.toArray, .agg cb.toArray, .int .i64 most] w h (fun h' u => ∃ cs', u = .tuple #[.agg cs'.toArray, .int .i64 (unionS a b most).1] ∧ ArrAt (k + 2) h' cs' (unionS a b most).2) := by
  have ha' := ha
  obtain ⟨_, vca, rfl, ⟨ada, cpa, rfl, hSa⟩, hva⟩ := ha
  have hva' := hva
  obtain ⟨wa, na, sa, ia, fa, ga, xa, ⟨rfl, hoa⟩, -⟩ := hva
  have mA : ∀ h', GLe h h' → ArrAt (k + 2) h' (.slice ada a.shape.length cpa :: vecCells a.vec.kind wa na sa ia fa ga xa) a := fun h' hl => ArrAt.mono (k + 2) _ _ _ _ hl ha'
  have vA : ∀ h', GLe h h' → VecAt (ArrAt (k + 1)) h' (vecCells a.vec.kind wa na sa ia fa ga xa) a.vec := fun h' hl => hva'.mono (ArrAt.mono (k + 1)) hl
  have hb' := hb
  obtain ⟨_, vcb, rfl, ⟨adb, cpb, rfl, hSb⟩, hvb⟩ := hb
  have hvb' := hvb
  obtain ⟨wb, nb, sb, ib, fb, gb, xb, ⟨rfl, hob⟩, -⟩ := hvb
  have mB : ∀ h', GLe h h' → ArrAt (k + 2) h' (.slice adb b.shape.length cpb :: vecCells b.vec.kind wb nb sb ib fb gb xb) b := fun h' hl => ArrAt.mono (k + 2) _ _ _ _ hl hb'
  have vB : ∀ h', GLe h h' → VecAt (ArrAt (k + 1)) h' (vecCells b.vec.kind wb nb sb ib fb gb xb) b.vec := fun h' hl => hvb'.mono (ArrAt.mono (k + 1)) hl
  refine Con.of_body Tryz.func30 rfl Tryz.ntmps30 rfl rfl ?_
  intro hs
  refine Zrun ?_
  (refine RW.boxN hs rfl rfl ?_; intro b1 w1 hs)
  refine Zrun ?_
  (refine RW.boxN hs rfl rfl ?_; intro b2 w2 hs)
  refine Zrun ?_
  (refine RW.allocN T hs rfl rfl rfl rfl ?_; intro b3 w3 hs)
  refine Zerun ?_
  (refine RW.lit T hs (vs := [.agg (.slice ada a.shape.length cpa :: vecCells a.vec.kind wa na sa ia fa ga xa).toArray, .agg (.slice adb b.shape.length cpb :: vecCells b.vec.kind wb nb sb ib fb gb xb).toArray]) (cs := ((.slice ada a.shape.length cpa :: vecCells a.vec.kind wa na sa ia fa ga xa) ++ (.slice adb b.shape.length cpb :: vecCells b.vec.kind wb nb sb ib fb gb xb))) rfl rfl rfl rfl (by simp [Value.cells, vecCells]) rfl rfl rfl rfl rfl ?_; intro b4 w4 hs)
  obtain ⟨h4, hle4, hs, hS4⟩ := hs.freeze
  have hR4 : RowsAt (α := AD (k + 2)) 9 (ArrAt (k + 2) h4) h4 (.slice (some ⟨b4, 0, none⟩) 2 2) [a, b] := two_rows hS4 rfl (mA _ hle4) rfl (mB _ hle4)
  refine Zerun ?_
  (refine RW.call T hs rfl rfl rfl (listed_con (k + 1) _ [a, b] _ _ hR4) ?_; intro v h5 w5 hle5 hp5 hs)
  subst hp5
  have g5 := hle4.trans hle5
  by_cases c : 1 < a.shape.length ∨ 1 < b.shape.length
  · rw [show unionS a b most = (22, ⟨[], VecD.none⟩) from if_pos c]
    rw [show (!([a, b] : List (ArrD (AD (k + 1)))).any fun a => decide (1 < (a.shape.length : Int))) = false by
        simp only [List.any_cons, List.any_nil]
        rcases c with c | c
        · rw [decide_eq_true (show (1 : Int) < (a.shape.length : Int) by omega)]; rfl
        · rw [decide_eq_true (show (1 : Int) < (b.shape.length : Int) by omega), Bool.true_or, Bool.or_true]; rfl]
    refine Zerun ?_
    refine RW.val (Y.build T rfl rfl rfl rfl rfl rfl rfl) rfl ?_
    (refine RW.storeAll T hs 0 rfl rfl rfl rfl rfl rfl rfl rfl ?_; intro w9 hs)
    refine Zerun ?_
    exact retQ_ret [_, _] h5 ⟨resN T hs 0 rfl rfl rfl rfl rfl rfl, rfl, trivial⟩ hs.dropAll ⟨_, rfl, _, _, rfl, IntsAt.nil _, vecNone _⟩
  have gg := g5
  rw [show (!([a, b] : List (ArrD (AD (k + 1)))).any fun a => decide (1 < (a.shape.length : Int))) = true by
    simp only [List.any_cons, List.any_nil]
    rw [decide_eq_false (by omega), decide_eq_false (by omega)]; rfl]
  refine Zerun ?_
  rcases hj : joinC (-1) [a.vec, withV b a false] with _ | cj
  · rw [unionS_none c hj]
    refine CW.meet (fun r : Nat × List Value × GHeap => [(2, .int .i64 most), (6, .pointer (some ⟨b3, 0, none⟩)), (8, .pointer (some ⟨r.1, 0, none⟩)), (9, .bool false)]) (fun r w' => VecAt (ArrAt (k + 1)) r.2.2 r.2.1 VecD.none ∧ Sees w h r.2.2 [⟨some ⟨r.1, 0, none⟩, 1, 1, 38, 8, r.2.1⟩, ⟨some ⟨b3, 0, none⟩, 1, 1, 40, 9, .slice none 0 0 :: vecCells 0 (.slice none 0 0) 0 (.slice none 0 0) (.slice none 0 0) (.slice none 0 0) (.slice none 0 0) (.slice none 0 0)⟩, ⟨some ⟨b2, 0, none⟩, 1, 1, 40, 9, (.slice adb b.shape.length cpb :: vecCells b.vec.kind wb nb sb ib fb gb xb)⟩, ⟨some ⟨b1, 0, none⟩, 1, 1, 40, 9, (.slice ada a.shape.length cpa :: vecCells a.vec.kind wa na sa ia fa ga xa)⟩] w') ?_ ?_
    · refine CW.regionR T 2 1 hs rfl rfl ?_
      intro w20 hs
      refine HW.takeR (fuel := 14) 0 rfl (fun _ _ ka kb _ hs hka hkb => Y.fieldAddr T rfl rfl rfl rfl rfl) ⟨_, _, 2, 1, hs, rfl, rfl⟩ rfl (by kernel_rfl) (by kernel_rfl) (by kernel_rfl) ?_
      refine HW.takeR (fuel := 13) 1 rfl (fun _ _ ka kb _ hs hka hkb => Y.loadRowN T hs ka hka rfl rfl rfl rfl rfl rfl) ⟨_, _, 2, 1, hs, rfl, rfl⟩ rfl (by kernel_rfl) (by kernel_rfl) (by kernel_rfl) ?_
      refine HW.takeR (fuel := 12) 2 rfl (fun _ _ ka kb _ hs hka hkb => Y.fieldAddr T rfl rfl rfl rfl rfl) ⟨_, _, 2, 1, hs, rfl, rfl⟩ rfl (by kernel_rfl) (by kernel_rfl) (by kernel_rfl) ?_
      refine HW.takeR (fuel := 11) 3 rfl (fun _ _ ka kb _ hs hka hkb => Y.loadRowN T hs kb hkb rfl rfl rfl rfl rfl rfl) ⟨_, _, 2, 1, hs, rfl, rfl⟩ rfl (by kernel_rfl) (by kernel_rfl) (by kernel_rfl) ?_
      refine HW.takeR (fuel := 10) 4 rfl (fun _ _ ka kb _ hs hka hkb => Y.fieldAddr T rfl rfl rfl rfl rfl) ⟨_, _, 2, 1, hs, rfl, rfl⟩ rfl (by kernel_rfl) (by kernel_rfl) (by kernel_rfl) ?_
      refine HW.takeR (fuel := 9) 5 rfl (fun _ _ ka kb _ hs hka hkb => Y.loadRowN T hs ka hka rfl rfl rfl rfl rfl rfl) ⟨_, _, 2, 1, hs, rfl, rfl⟩ rfl (by kernel_rfl) (by kernel_rfl) (by kernel_rfl) ?_
      refine HW.two (fuel := 8) 6 12 rfl rfl (by kernel_rfl) ?_ ?_
      · (refine RW.call T hs rfl rfl rfl (hashWithout_con k _ _ b.vec a.vec false _ _ (vB _ gg) (vA _ gg) qb qa hmb hm hkb) ?_; intro v h23 w23 hle23 hp23 hs)
        have gg := gg.trans hle23
        obtain ⟨cs23, rfl, hv23⟩ := hp23
        obtain ⟨wu, nu, su, iu, fu, gu, xu, ⟨rfl, hou⟩, -⟩ := id hv23
        refine RW.nil ?_
        refine heldQ_normal ⟨_, _, 2, 1, hs, rfl, rfl⟩ ?_
        refine HW.two (fuel := 7) 7 12 rfl rfl (by kernel_rfl) ?_ ?_
        · (refine RW.lit T hs (vs := [.agg (vecCells a.vec.kind wa na sa ia fa ga xa).toArray, .agg (vecCells (withV b a false).kind wu nu su iu fu gu xu).toArray]) (cs := (vecCells a.vec.kind wa na sa ia fa ga xa ++ vecCells (withV b a false).kind wu nu su iu fu gu xu)) rfl rfl rfl rfl (by simp [Value.cells, vecCells]) rfl rfl rfl rfl rfl ?_; intro b24 w24 hs)
          obtain ⟨h24, hle24, hs, hS24⟩ := hs.freeze
          have gg := gg.trans hle24
          have hR24 : RowsAt 8 (VecAt (ArrAt (k + 1)) h24) h24 (.slice (some ⟨b24, 0, none⟩) 2 2) [a.vec, withV b a false] := two_rows8 hS24 rfl (vA _ gg) rfl (hv23.mono (ArrAt.mono (k + 1)) hle24)
          refine RW.nil ?_
          refine heldQ_normal ⟨_, _, 2, 1, hs, rfl, rfl⟩ ?_
          refine HW.two (fuel := 6) 8 12 rfl rfl (by kernel_rfl) ?_ ?_
          · (refine RW.call T hs rfl rfl rfl (flatJoin_con (ArrAt.mono (k + 1)) (ArrAt.one (k + 1)) _ [a.vec, withV b a false] _ _ hR24 hsum) ?_; intro v h25 w25 hle25 hp25 hs)
            obtain ⟨cs25, ok, rfl, hno, hye⟩ := hp25
            obtain ⟨rfl, hv25⟩ := hno hj
            obtain ⟨wv25, nv25, sm25, il25, fl25, ch25, bx25, ⟨rfl, hoc25⟩, -⟩ := id hv25
            refine RW.nil ?_
            refine heldQ_normal ⟨_, _, 2, 1, hs, rfl, rfl⟩ ?_
            refine HW.takeR (fuel := 5) 9 rfl (fun _ _ ka kb _ hs hka hkb => Y.move rfl) ⟨_, _, 2, 1, hs, rfl, rfl⟩ rfl (by kernel_rfl) (by kernel_rfl) (by kernel_rfl) ?_
            refine HW.takeR (fuel := 4) 10 rfl (fun _ _ ka kb _ hs hka hkb => Y.extract rfl rfl) ⟨_, _, 2, 1, hs, rfl, rfl⟩ rfl (by kernel_rfl) (by kernel_rfl) (by kernel_rfl) ?_
            refine HW.takeR (fuel := 3) 11 rfl (fun _ _ ka kb _ hs hka hkb => Y.extract rfl rfl) ⟨_, _, 2, 1, hs, rfl, rfl⟩ rfl (by kernel_rfl) (by kernel_rfl) (by kernel_rfl) ?_
            refine HW.one (fuel := 2) 12 rfl (by kernel_rfl) ?_
            (refine RW.allocN T hs rfl rfl rfl rfl ?_; intro b8 w8 hs)
            refine RW.nil ?_
            refine heldQ_normal ⟨_, _, 3, 2, hs, rfl, rfl⟩ ?_
            refine HW.one (fuel := 1) 13 rfl (by kernel_rfl) ?_
            refine RW.storeAll T hs 0 rfl rfl rfl rfl rfl rfl hoc25 rfl ?_
            intro w912 hs
            refine RW.nil ?_
            refine heldQ_normal ⟨_, _, 3, 2, hs, rfl, rfl⟩ ?_
            refine HW.takeR (fuel := 0) 14 rfl (fun _ _ ka kb _ hs hka hkb => Y.assign rfl) ⟨_, _, 3, 2, hs, rfl, rfl⟩ rfl (by kernel_rfl) (by kernel_rfl) (by kernel_rfl) ?_
            refine HW.done (by kernel_rfl) ?_
            refine calmQ_normal ?_
            exact joinQ_meet (b8, _, h25) ⟨rfl, rfl, rfl, rfl, trivial⟩ ⟨hv25, hs⟩
          · (refine RW.allocN T hs rfl rfl rfl rfl ?_; intro b8 w8 hs)
            refine RW.nil ?_
            refine heldQ_normal ⟨_, _, 3, 2, hs, rfl, rfl⟩ ?_
            refine HW.one (fuel := 5) 8 rfl (by kernel_rfl) ?_
            (refine RW.call T hs rfl rfl rfl (flatJoin_con (ArrAt.mono (k + 1)) (ArrAt.one (k + 1)) _ [a.vec, withV b a false] _ _ hR24 hsum) ?_; intro v h25 w25 hle25 hp25 hs)
            obtain ⟨cs25, ok, rfl, hno, hye⟩ := hp25
            obtain ⟨rfl, hv25⟩ := hno hj
            obtain ⟨wv25, nv25, sm25, il25, fl25, ch25, bx25, ⟨rfl, hoc25⟩, -⟩ := id hv25
            refine RW.nil ?_
            refine heldQ_normal ⟨_, _, 3, 2, hs, rfl, rfl⟩ ?_
            refine HW.takeR (fuel := 4) 9 rfl (fun _ _ ka kb _ hs hka hkb => Y.move rfl) ⟨_, _, 3, 2, hs, rfl, rfl⟩ rfl (by kernel_rfl) (by kernel_rfl) (by kernel_rfl) ?_
            refine HW.takeR (fuel := 3) 10 rfl (fun _ _ ka kb _ hs hka hkb => Y.extract rfl rfl) ⟨_, _, 3, 2, hs, rfl, rfl⟩ rfl (by kernel_rfl) (by kernel_rfl) (by kernel_rfl) ?_
            refine HW.takeR (fuel := 2) 11 rfl (fun _ _ ka kb _ hs hka hkb => Y.extract rfl rfl) ⟨_, _, 3, 2, hs, rfl, rfl⟩ rfl (by kernel_rfl) (by kernel_rfl) (by kernel_rfl) ?_
            refine HW.one (fuel := 1) 13 rfl (by kernel_rfl) ?_
            refine RW.storeAll T hs 0 rfl rfl rfl rfl rfl rfl hoc25 rfl ?_
            intro w912 hs
            refine RW.nil ?_
            refine heldQ_normal ⟨_, _, 3, 2, hs, rfl, rfl⟩ ?_
            refine HW.takeR (fuel := 0) 14 rfl (fun _ _ ka kb _ hs hka hkb => Y.assign rfl) ⟨_, _, 3, 2, hs, rfl, rfl⟩ rfl (by kernel_rfl) (by kernel_rfl) (by kernel_rfl) ?_
            refine HW.done (by kernel_rfl) ?_
            refine calmQ_normal ?_
            exact joinQ_meet (b8, _, h25) ⟨rfl, rfl, rfl, rfl, trivial⟩ ⟨hv25, hs⟩
        · (refine RW.allocN T hs rfl rfl rfl rfl ?_; intro b8 w8 hs)
          refine RW.nil ?_
          refine heldQ_normal ⟨_, _, 3, 2, hs, rfl, rfl⟩ ?_
          refine HW.one (fuel := 6) 7 rfl (by kernel_rfl) ?_
          (refine RW.lit T hs (vs := [.agg (vecCells a.vec.kind wa na sa ia fa ga xa).toArray, .agg (vecCells (withV b a false).kind wu nu su iu fu gu xu).toArray]) (cs := (vecCells a.vec.kind wa na sa ia fa ga xa ++ vecCells (withV b a false).kind wu nu su iu fu gu xu)) rfl rfl rfl rfl (by simp [Value.cells, vecCells]) rfl rfl rfl rfl rfl ?_; intro b24 w24 hs)
          obtain ⟨h24, hle24, hs, hS24⟩ := hs.freeze
          have gg := gg.trans hle24
          have hR24 : RowsAt 8 (VecAt (ArrAt (k + 1)) h24) h24 (.slice (some ⟨b24, 0, none⟩) 2 2) [a.vec, withV b a false] := two_rows8 hS24 rfl (vA _ gg) rfl (hv23.mono (ArrAt.mono (k + 1)) hle24)
          refine RW.nil ?_
          refine heldQ_normal ⟨_, _, 3, 2, hs, rfl, rfl⟩ ?_
          refine HW.one (fuel := 5) 8 rfl (by kernel_rfl) ?_
          (refine RW.call T hs rfl rfl rfl (flatJoin_con (ArrAt.mono (k + 1)) (ArrAt.one (k + 1)) _ [a.vec, withV b a false] _ _ hR24 hsum) ?_; intro v h25 w25 hle25 hp25 hs)
          obtain ⟨cs25, ok, rfl, hno, hye⟩ := hp25
          obtain ⟨rfl, hv25⟩ := hno hj
          obtain ⟨wv25, nv25, sm25, il25, fl25, ch25, bx25, ⟨rfl, hoc25⟩, -⟩ := id hv25
          refine RW.nil ?_
          refine heldQ_normal ⟨_, _, 3, 2, hs, rfl, rfl⟩ ?_
          refine HW.takeR (fuel := 4) 9 rfl (fun _ _ ka kb _ hs hka hkb => Y.move rfl) ⟨_, _, 3, 2, hs, rfl, rfl⟩ rfl (by kernel_rfl) (by kernel_rfl) (by kernel_rfl) ?_
          refine HW.takeR (fuel := 3) 10 rfl (fun _ _ ka kb _ hs hka hkb => Y.extract rfl rfl) ⟨_, _, 3, 2, hs, rfl, rfl⟩ rfl (by kernel_rfl) (by kernel_rfl) (by kernel_rfl) ?_
          refine HW.takeR (fuel := 2) 11 rfl (fun _ _ ka kb _ hs hka hkb => Y.extract rfl rfl) ⟨_, _, 3, 2, hs, rfl, rfl⟩ rfl (by kernel_rfl) (by kernel_rfl) (by kernel_rfl) ?_
          refine HW.one (fuel := 1) 13 rfl (by kernel_rfl) ?_
          refine RW.storeAll T hs 0 rfl rfl rfl rfl rfl rfl hoc25 rfl ?_
          intro w912 hs
          refine RW.nil ?_
          refine heldQ_normal ⟨_, _, 3, 2, hs, rfl, rfl⟩ ?_
          refine HW.takeR (fuel := 0) 14 rfl (fun _ _ ka kb _ hs hka hkb => Y.assign rfl) ⟨_, _, 3, 2, hs, rfl, rfl⟩ rfl (by kernel_rfl) (by kernel_rfl) (by kernel_rfl) ?_
          refine HW.done (by kernel_rfl) ?_
          refine calmQ_normal ?_
          exact joinQ_meet (b8, _, h25) ⟨rfl, rfl, rfl, rfl, trivial⟩ ⟨hv25, hs⟩
      · (refine RW.allocN T hs rfl rfl rfl rfl ?_; intro b8 w8 hs)
        refine RW.nil ?_
        refine heldQ_normal ⟨_, _, 3, 2, hs, rfl, rfl⟩ ?_
        refine HW.one (fuel := 7) 6 rfl (by kernel_rfl) ?_
        (refine RW.call T hs rfl rfl rfl (hashWithout_con k _ _ b.vec a.vec false _ _ (vB _ gg) (vA _ gg) qb qa hmb hm hkb) ?_; intro v h23 w23 hle23 hp23 hs)
        have gg := gg.trans hle23
        obtain ⟨cs23, rfl, hv23⟩ := hp23
        obtain ⟨wu, nu, su, iu, fu, gu, xu, ⟨rfl, hou⟩, -⟩ := id hv23
        refine RW.nil ?_
        refine heldQ_normal ⟨_, _, 3, 2, hs, rfl, rfl⟩ ?_
        refine HW.one (fuel := 6) 7 rfl (by kernel_rfl) ?_
        (refine RW.lit T hs (vs := [.agg (vecCells a.vec.kind wa na sa ia fa ga xa).toArray, .agg (vecCells (withV b a false).kind wu nu su iu fu gu xu).toArray]) (cs := (vecCells a.vec.kind wa na sa ia fa ga xa ++ vecCells (withV b a false).kind wu nu su iu fu gu xu)) rfl rfl rfl rfl (by simp [Value.cells, vecCells]) rfl rfl rfl rfl rfl ?_; intro b24 w24 hs)
        obtain ⟨h24, hle24, hs, hS24⟩ := hs.freeze
        have gg := gg.trans hle24
        have hR24 : RowsAt 8 (VecAt (ArrAt (k + 1)) h24) h24 (.slice (some ⟨b24, 0, none⟩) 2 2) [a.vec, withV b a false] := two_rows8 hS24 rfl (vA _ gg) rfl (hv23.mono (ArrAt.mono (k + 1)) hle24)
        refine RW.nil ?_
        refine heldQ_normal ⟨_, _, 3, 2, hs, rfl, rfl⟩ ?_
        refine HW.one (fuel := 5) 8 rfl (by kernel_rfl) ?_
        (refine RW.call T hs rfl rfl rfl (flatJoin_con (ArrAt.mono (k + 1)) (ArrAt.one (k + 1)) _ [a.vec, withV b a false] _ _ hR24 hsum) ?_; intro v h25 w25 hle25 hp25 hs)
        obtain ⟨cs25, ok, rfl, hno, hye⟩ := hp25
        obtain ⟨rfl, hv25⟩ := hno hj
        obtain ⟨wv25, nv25, sm25, il25, fl25, ch25, bx25, ⟨rfl, hoc25⟩, -⟩ := id hv25
        refine RW.nil ?_
        refine heldQ_normal ⟨_, _, 3, 2, hs, rfl, rfl⟩ ?_
        refine HW.takeR (fuel := 4) 9 rfl (fun _ _ ka kb _ hs hka hkb => Y.move rfl) ⟨_, _, 3, 2, hs, rfl, rfl⟩ rfl (by kernel_rfl) (by kernel_rfl) (by kernel_rfl) ?_
        refine HW.takeR (fuel := 3) 10 rfl (fun _ _ ka kb _ hs hka hkb => Y.extract rfl rfl) ⟨_, _, 3, 2, hs, rfl, rfl⟩ rfl (by kernel_rfl) (by kernel_rfl) (by kernel_rfl) ?_
        refine HW.takeR (fuel := 2) 11 rfl (fun _ _ ka kb _ hs hka hkb => Y.extract rfl rfl) ⟨_, _, 3, 2, hs, rfl, rfl⟩ rfl (by kernel_rfl) (by kernel_rfl) (by kernel_rfl) ?_
        refine HW.one (fuel := 1) 13 rfl (by kernel_rfl) ?_
        refine RW.storeAll T hs 0 rfl rfl rfl rfl rfl rfl hoc25 rfl ?_
        intro w912 hs
        refine RW.nil ?_
        refine heldQ_normal ⟨_, _, 3, 2, hs, rfl, rfl⟩ ?_
        refine HW.takeR (fuel := 0) 14 rfl (fun _ _ ka kb _ hs hka hkb => Y.assign rfl) ⟨_, _, 3, 2, hs, rfl, rfl⟩ rfl (by kernel_rfl) (by kernel_rfl) (by kernel_rfl) ?_
        refine HW.done (by kernel_rfl) ?_
        refine calmQ_normal ?_
        exact joinQ_meet (b8, _, h25) ⟨rfl, rfl, rfl, rfl, trivial⟩ ⟨hv25, hs⟩
    rintro ⟨b8, cs25, h25⟩ w25 ⟨hv25, hs⟩
    dsimp only at hv25 hs ⊢
    refine Zerun ?_
    refine RW.val (Y.build T rfl rfl rfl rfl rfl rfl rfl) rfl ?_
    (refine RW.storeAll T hs 1 rfl rfl rfl rfl rfl rfl rfl rfl ?_; intro w9 hs)
    refine Zerun ?_
    exact retQ_ret [_, _] h25 ⟨resN T hs 1 rfl rfl rfl rfl rfl rfl, rfl, trivial⟩ hs.dropAll ⟨_, rfl, _, _, rfl, IntsAt.nil _, vecNone _⟩
  · have hvl := hll cj hj
    obtain ⟨Vj, hVj⟩ : ∃ Vj, joinU a b cj = Vj := ⟨_, rfl⟩
    rw [unionS_some c hj, hVj]
    rw [hVj] at hvl
    unfold joinU at hVj
    refine CW.meet (fun r : Nat × List Value × GHeap => [(2, .int .i64 most), (6, .pointer (some ⟨b3, 0, none⟩)), (8, .pointer (some ⟨r.1, 0, none⟩)), (9, .bool true)]) (fun r w' => VecAt (ArrAt (k + 1)) r.2.2 r.2.1 Vj ∧ Sees w h r.2.2 [⟨some ⟨r.1, 0, none⟩, 1, 1, 38, 8, r.2.1⟩, ⟨some ⟨b3, 0, none⟩, 1, 1, 40, 9, .slice none 0 0 :: vecCells 0 (.slice none 0 0) 0 (.slice none 0 0) (.slice none 0 0) (.slice none 0 0) (.slice none 0 0) (.slice none 0 0)⟩, ⟨some ⟨b2, 0, none⟩, 1, 1, 40, 9, (.slice adb b.shape.length cpb :: vecCells b.vec.kind wb nb sb ib fb gb xb)⟩, ⟨some ⟨b1, 0, none⟩, 1, 1, 40, 9, (.slice ada a.shape.length cpa :: vecCells a.vec.kind wa na sa ia fa ga xa)⟩] w') ?_ ?_
    · refine CW.regionR T 2 1 hs rfl rfl ?_
      intro w20 hs
      refine HW.takeR (fuel := 14) 0 rfl (fun _ _ ka kb _ hs hka hkb => Y.fieldAddr T rfl rfl rfl rfl rfl) ⟨_, _, 2, 1, hs, rfl, rfl⟩ rfl (by kernel_rfl) (by kernel_rfl) (by kernel_rfl) ?_
      refine HW.takeR (fuel := 13) 1 rfl (fun _ _ ka kb _ hs hka hkb => Y.loadRowN T hs ka hka rfl rfl rfl rfl rfl rfl) ⟨_, _, 2, 1, hs, rfl, rfl⟩ rfl (by kernel_rfl) (by kernel_rfl) (by kernel_rfl) ?_
      refine HW.takeR (fuel := 12) 2 rfl (fun _ _ ka kb _ hs hka hkb => Y.fieldAddr T rfl rfl rfl rfl rfl) ⟨_, _, 2, 1, hs, rfl, rfl⟩ rfl (by kernel_rfl) (by kernel_rfl) (by kernel_rfl) ?_
      refine HW.takeR (fuel := 11) 3 rfl (fun _ _ ka kb _ hs hka hkb => Y.loadRowN T hs kb hkb rfl rfl rfl rfl rfl rfl) ⟨_, _, 2, 1, hs, rfl, rfl⟩ rfl (by kernel_rfl) (by kernel_rfl) (by kernel_rfl) ?_
      refine HW.takeR (fuel := 10) 4 rfl (fun _ _ ka kb _ hs hka hkb => Y.fieldAddr T rfl rfl rfl rfl rfl) ⟨_, _, 2, 1, hs, rfl, rfl⟩ rfl (by kernel_rfl) (by kernel_rfl) (by kernel_rfl) ?_
      refine HW.takeR (fuel := 9) 5 rfl (fun _ _ ka kb _ hs hka hkb => Y.loadRowN T hs ka hka rfl rfl rfl rfl rfl rfl) ⟨_, _, 2, 1, hs, rfl, rfl⟩ rfl (by kernel_rfl) (by kernel_rfl) (by kernel_rfl) ?_
      refine HW.two (fuel := 8) 6 12 rfl rfl (by kernel_rfl) ?_ ?_
      · (refine RW.call T hs rfl rfl rfl (hashWithout_con k _ _ b.vec a.vec false _ _ (vB _ gg) (vA _ gg) qb qa hmb hm hkb) ?_; intro v h23 w23 hle23 hp23 hs)
        have gg := gg.trans hle23
        obtain ⟨cs23, rfl, hv23⟩ := hp23
        obtain ⟨wu, nu, su, iu, fu, gu, xu, ⟨rfl, hou⟩, -⟩ := id hv23
        refine RW.nil ?_
        refine heldQ_normal ⟨_, _, 2, 1, hs, rfl, rfl⟩ ?_
        refine HW.two (fuel := 7) 7 12 rfl rfl (by kernel_rfl) ?_ ?_
        · (refine RW.lit T hs (vs := [.agg (vecCells a.vec.kind wa na sa ia fa ga xa).toArray, .agg (vecCells (withV b a false).kind wu nu su iu fu gu xu).toArray]) (cs := (vecCells a.vec.kind wa na sa ia fa ga xa ++ vecCells (withV b a false).kind wu nu su iu fu gu xu)) rfl rfl rfl rfl (by simp [Value.cells, vecCells]) rfl rfl rfl rfl rfl ?_; intro b24 w24 hs)
          obtain ⟨h24, hle24, hs, hS24⟩ := hs.freeze
          have gg := gg.trans hle24
          have hR24 : RowsAt 8 (VecAt (ArrAt (k + 1)) h24) h24 (.slice (some ⟨b24, 0, none⟩) 2 2) [a.vec, withV b a false] := two_rows8 hS24 rfl (vA _ gg) rfl (hv23.mono (ArrAt.mono (k + 1)) hle24)
          refine RW.nil ?_
          refine heldQ_normal ⟨_, _, 2, 1, hs, rfl, rfl⟩ ?_
          refine HW.two (fuel := 6) 8 12 rfl rfl (by kernel_rfl) ?_ ?_
          · (refine RW.call T hs rfl rfl rfl (flatJoin_con (ArrAt.mono (k + 1)) (ArrAt.one (k + 1)) _ [a.vec, withV b a false] _ _ hR24 hsum) ?_; intro v h25 w25 hle25 hp25 hs)
            obtain ⟨cs25, ok, rfl, hno, hye⟩ := hp25
            obtain ⟨rfl, hv25⟩ := hye _ hj
            rw [hVj] at hv25
            obtain ⟨wv25, nv25, sm25, il25, fl25, ch25, bx25, ⟨rfl, hoc25⟩, -⟩ := id hv25
            refine RW.nil ?_
            refine heldQ_normal ⟨_, _, 2, 1, hs, rfl, rfl⟩ ?_
            refine HW.takeR (fuel := 5) 9 rfl (fun _ _ ka kb _ hs hka hkb => Y.move rfl) ⟨_, _, 2, 1, hs, rfl, rfl⟩ rfl (by kernel_rfl) (by kernel_rfl) (by kernel_rfl) ?_
            refine HW.takeR (fuel := 4) 10 rfl (fun _ _ ka kb _ hs hka hkb => Y.extract rfl rfl) ⟨_, _, 2, 1, hs, rfl, rfl⟩ rfl (by kernel_rfl) (by kernel_rfl) (by kernel_rfl) ?_
            refine HW.takeR (fuel := 3) 11 rfl (fun _ _ ka kb _ hs hka hkb => Y.extract rfl rfl) ⟨_, _, 2, 1, hs, rfl, rfl⟩ rfl (by kernel_rfl) (by kernel_rfl) (by kernel_rfl) ?_
            refine HW.one (fuel := 2) 12 rfl (by kernel_rfl) ?_
            (refine RW.allocN T hs rfl rfl rfl rfl ?_; intro b8 w8 hs)
            refine RW.nil ?_
            refine heldQ_normal ⟨_, _, 3, 2, hs, rfl, rfl⟩ ?_
            refine HW.one (fuel := 1) 13 rfl (by kernel_rfl) ?_
            refine RW.storeAll T hs 0 rfl rfl rfl rfl rfl rfl hoc25 rfl ?_
            intro w912 hs
            refine RW.nil ?_
            refine heldQ_normal ⟨_, _, 3, 2, hs, rfl, rfl⟩ ?_
            refine HW.takeR (fuel := 0) 14 rfl (fun _ _ ka kb _ hs hka hkb => Y.assign rfl) ⟨_, _, 3, 2, hs, rfl, rfl⟩ rfl (by kernel_rfl) (by kernel_rfl) (by kernel_rfl) ?_
            refine HW.done (by kernel_rfl) ?_
            refine calmQ_normal ?_
            exact joinQ_meet (b8, _, h25) ⟨rfl, rfl, rfl, rfl, trivial⟩ ⟨hv25, hs⟩
          · (refine RW.allocN T hs rfl rfl rfl rfl ?_; intro b8 w8 hs)
            refine RW.nil ?_
            refine heldQ_normal ⟨_, _, 3, 2, hs, rfl, rfl⟩ ?_
            refine HW.one (fuel := 5) 8 rfl (by kernel_rfl) ?_
            (refine RW.call T hs rfl rfl rfl (flatJoin_con (ArrAt.mono (k + 1)) (ArrAt.one (k + 1)) _ [a.vec, withV b a false] _ _ hR24 hsum) ?_; intro v h25 w25 hle25 hp25 hs)
            obtain ⟨cs25, ok, rfl, hno, hye⟩ := hp25
            obtain ⟨rfl, hv25⟩ := hye _ hj
            rw [hVj] at hv25
            obtain ⟨wv25, nv25, sm25, il25, fl25, ch25, bx25, ⟨rfl, hoc25⟩, -⟩ := id hv25
            refine RW.nil ?_
            refine heldQ_normal ⟨_, _, 3, 2, hs, rfl, rfl⟩ ?_
            refine HW.takeR (fuel := 4) 9 rfl (fun _ _ ka kb _ hs hka hkb => Y.move rfl) ⟨_, _, 3, 2, hs, rfl, rfl⟩ rfl (by kernel_rfl) (by kernel_rfl) (by kernel_rfl) ?_
            refine HW.takeR (fuel := 3) 10 rfl (fun _ _ ka kb _ hs hka hkb => Y.extract rfl rfl) ⟨_, _, 3, 2, hs, rfl, rfl⟩ rfl (by kernel_rfl) (by kernel_rfl) (by kernel_rfl) ?_
            refine HW.takeR (fuel := 2) 11 rfl (fun _ _ ka kb _ hs hka hkb => Y.extract rfl rfl) ⟨_, _, 3, 2, hs, rfl, rfl⟩ rfl (by kernel_rfl) (by kernel_rfl) (by kernel_rfl) ?_
            refine HW.one (fuel := 1) 13 rfl (by kernel_rfl) ?_
            refine RW.storeAll T hs 0 rfl rfl rfl rfl rfl rfl hoc25 rfl ?_
            intro w912 hs
            refine RW.nil ?_
            refine heldQ_normal ⟨_, _, 3, 2, hs, rfl, rfl⟩ ?_
            refine HW.takeR (fuel := 0) 14 rfl (fun _ _ ka kb _ hs hka hkb => Y.assign rfl) ⟨_, _, 3, 2, hs, rfl, rfl⟩ rfl (by kernel_rfl) (by kernel_rfl) (by kernel_rfl) ?_
            refine HW.done (by kernel_rfl) ?_
            refine calmQ_normal ?_
            exact joinQ_meet (b8, _, h25) ⟨rfl, rfl, rfl, rfl, trivial⟩ ⟨hv25, hs⟩
        · (refine RW.allocN T hs rfl rfl rfl rfl ?_; intro b8 w8 hs)
          refine RW.nil ?_
          refine heldQ_normal ⟨_, _, 3, 2, hs, rfl, rfl⟩ ?_
          refine HW.one (fuel := 6) 7 rfl (by kernel_rfl) ?_
          (refine RW.lit T hs (vs := [.agg (vecCells a.vec.kind wa na sa ia fa ga xa).toArray, .agg (vecCells (withV b a false).kind wu nu su iu fu gu xu).toArray]) (cs := (vecCells a.vec.kind wa na sa ia fa ga xa ++ vecCells (withV b a false).kind wu nu su iu fu gu xu)) rfl rfl rfl rfl (by simp [Value.cells, vecCells]) rfl rfl rfl rfl rfl ?_; intro b24 w24 hs)
          obtain ⟨h24, hle24, hs, hS24⟩ := hs.freeze
          have gg := gg.trans hle24
          have hR24 : RowsAt 8 (VecAt (ArrAt (k + 1)) h24) h24 (.slice (some ⟨b24, 0, none⟩) 2 2) [a.vec, withV b a false] := two_rows8 hS24 rfl (vA _ gg) rfl (hv23.mono (ArrAt.mono (k + 1)) hle24)
          refine RW.nil ?_
          refine heldQ_normal ⟨_, _, 3, 2, hs, rfl, rfl⟩ ?_
          refine HW.one (fuel := 5) 8 rfl (by kernel_rfl) ?_
          (refine RW.call T hs rfl rfl rfl (flatJoin_con (ArrAt.mono (k + 1)) (ArrAt.one (k + 1)) _ [a.vec, withV b a false] _ _ hR24 hsum) ?_; intro v h25 w25 hle25 hp25 hs)
          obtain ⟨cs25, ok, rfl, hno, hye⟩ := hp25
          obtain ⟨rfl, hv25⟩ := hye _ hj
          rw [hVj] at hv25
          obtain ⟨wv25, nv25, sm25, il25, fl25, ch25, bx25, ⟨rfl, hoc25⟩, -⟩ := id hv25
          refine RW.nil ?_
          refine heldQ_normal ⟨_, _, 3, 2, hs, rfl, rfl⟩ ?_
          refine HW.takeR (fuel := 4) 9 rfl (fun _ _ ka kb _ hs hka hkb => Y.move rfl) ⟨_, _, 3, 2, hs, rfl, rfl⟩ rfl (by kernel_rfl) (by kernel_rfl) (by kernel_rfl) ?_
          refine HW.takeR (fuel := 3) 10 rfl (fun _ _ ka kb _ hs hka hkb => Y.extract rfl rfl) ⟨_, _, 3, 2, hs, rfl, rfl⟩ rfl (by kernel_rfl) (by kernel_rfl) (by kernel_rfl) ?_
          refine HW.takeR (fuel := 2) 11 rfl (fun _ _ ka kb _ hs hka hkb => Y.extract rfl rfl) ⟨_, _, 3, 2, hs, rfl, rfl⟩ rfl (by kernel_rfl) (by kernel_rfl) (by kernel_rfl) ?_
          refine HW.one (fuel := 1) 13 rfl (by kernel_rfl) ?_
          refine RW.storeAll T hs 0 rfl rfl rfl rfl rfl rfl hoc25 rfl ?_
          intro w912 hs
          refine RW.nil ?_
          refine heldQ_normal ⟨_, _, 3, 2, hs, rfl, rfl⟩ ?_
          refine HW.takeR (fuel := 0) 14 rfl (fun _ _ ka kb _ hs hka hkb => Y.assign rfl) ⟨_, _, 3, 2, hs, rfl, rfl⟩ rfl (by kernel_rfl) (by kernel_rfl) (by kernel_rfl) ?_
          refine HW.done (by kernel_rfl) ?_
          refine calmQ_normal ?_
          exact joinQ_meet (b8, _, h25) ⟨rfl, rfl, rfl, rfl, trivial⟩ ⟨hv25, hs⟩
      · (refine RW.allocN T hs rfl rfl rfl rfl ?_; intro b8 w8 hs)
        refine RW.nil ?_
        refine heldQ_normal ⟨_, _, 3, 2, hs, rfl, rfl⟩ ?_
        refine HW.one (fuel := 7) 6 rfl (by kernel_rfl) ?_
        (refine RW.call T hs rfl rfl rfl (hashWithout_con k _ _ b.vec a.vec false _ _ (vB _ gg) (vA _ gg) qb qa hmb hm hkb) ?_; intro v h23 w23 hle23 hp23 hs)
        have gg := gg.trans hle23
        obtain ⟨cs23, rfl, hv23⟩ := hp23
        obtain ⟨wu, nu, su, iu, fu, gu, xu, ⟨rfl, hou⟩, -⟩ := id hv23
        refine RW.nil ?_
        refine heldQ_normal ⟨_, _, 3, 2, hs, rfl, rfl⟩ ?_
        refine HW.one (fuel := 6) 7 rfl (by kernel_rfl) ?_
        (refine RW.lit T hs (vs := [.agg (vecCells a.vec.kind wa na sa ia fa ga xa).toArray, .agg (vecCells (withV b a false).kind wu nu su iu fu gu xu).toArray]) (cs := (vecCells a.vec.kind wa na sa ia fa ga xa ++ vecCells (withV b a false).kind wu nu su iu fu gu xu)) rfl rfl rfl rfl (by simp [Value.cells, vecCells]) rfl rfl rfl rfl rfl ?_; intro b24 w24 hs)
        obtain ⟨h24, hle24, hs, hS24⟩ := hs.freeze
        have gg := gg.trans hle24
        have hR24 : RowsAt 8 (VecAt (ArrAt (k + 1)) h24) h24 (.slice (some ⟨b24, 0, none⟩) 2 2) [a.vec, withV b a false] := two_rows8 hS24 rfl (vA _ gg) rfl (hv23.mono (ArrAt.mono (k + 1)) hle24)
        refine RW.nil ?_
        refine heldQ_normal ⟨_, _, 3, 2, hs, rfl, rfl⟩ ?_
        refine HW.one (fuel := 5) 8 rfl (by kernel_rfl) ?_
        (refine RW.call T hs rfl rfl rfl (flatJoin_con (ArrAt.mono (k + 1)) (ArrAt.one (k + 1)) _ [a.vec, withV b a false] _ _ hR24 hsum) ?_; intro v h25 w25 hle25 hp25 hs)
        obtain ⟨cs25, ok, rfl, hno, hye⟩ := hp25
        obtain ⟨rfl, hv25⟩ := hye _ hj
        rw [hVj] at hv25
        obtain ⟨wv25, nv25, sm25, il25, fl25, ch25, bx25, ⟨rfl, hoc25⟩, -⟩ := id hv25
        refine RW.nil ?_
        refine heldQ_normal ⟨_, _, 3, 2, hs, rfl, rfl⟩ ?_
        refine HW.takeR (fuel := 4) 9 rfl (fun _ _ ka kb _ hs hka hkb => Y.move rfl) ⟨_, _, 3, 2, hs, rfl, rfl⟩ rfl (by kernel_rfl) (by kernel_rfl) (by kernel_rfl) ?_
        refine HW.takeR (fuel := 3) 10 rfl (fun _ _ ka kb _ hs hka hkb => Y.extract rfl rfl) ⟨_, _, 3, 2, hs, rfl, rfl⟩ rfl (by kernel_rfl) (by kernel_rfl) (by kernel_rfl) ?_
        refine HW.takeR (fuel := 2) 11 rfl (fun _ _ ka kb _ hs hka hkb => Y.extract rfl rfl) ⟨_, _, 3, 2, hs, rfl, rfl⟩ rfl (by kernel_rfl) (by kernel_rfl) (by kernel_rfl) ?_
        refine HW.one (fuel := 1) 13 rfl (by kernel_rfl) ?_
        refine RW.storeAll T hs 0 rfl rfl rfl rfl rfl rfl hoc25 rfl ?_
        intro w912 hs
        refine RW.nil ?_
        refine heldQ_normal ⟨_, _, 3, 2, hs, rfl, rfl⟩ ?_
        refine HW.takeR (fuel := 0) 14 rfl (fun _ _ ka kb _ hs hka hkb => Y.assign rfl) ⟨_, _, 3, 2, hs, rfl, rfl⟩ rfl (by kernel_rfl) (by kernel_rfl) (by kernel_rfl) ?_
        refine HW.done (by kernel_rfl) ?_
        refine calmQ_normal ?_
        exact joinQ_meet (b8, _, h25) ⟨rfl, rfl, rfl, rfl, trivial⟩ ⟨hv25, hs⟩
    rintro ⟨b8, cs25, h25⟩ w25 ⟨hv25, hs⟩
    dsimp only at hv25 hs ⊢
    have hv25' := hv25
    obtain ⟨wv25, nv25, sm25, il25, fl25, ch25, bx25, ⟨rfl, hoc25⟩, -⟩ := hv25
    refine Zerun ?_
    (refine RW.call T hs rfl rfl rfl (vecLen_con _ Vj _ _ hv25') ?_; intro v h26 w26 hle26 hp26 hs)
    subst hp26
    have hv25' := hv25'.mono (ArrAt.mono (k + 1)) hle26
    by_cases c2 : most < (Vj.len : Int)
    · rw [if_pos c2]
      refine Zerun ?_
      refine RW.val (Y.build T rfl rfl rfl rfl rfl rfl rfl) rfl ?_
      (refine RW.storeAll T hs 1 rfl rfl rfl rfl rfl rfl rfl rfl ?_; intro w9 hs)
      refine Zerun ?_
      exact retQ_ret [_, _] h26 ⟨resN T hs 1 rfl rfl rfl rfl rfl rfl, rfl, trivial⟩ hs.dropAll ⟨_, rfl, _, _, rfl, IntsAt.nil _, vecNone _⟩
    · rw [if_neg c2]
      refine Zerun ?_
      (refine RW.call T hs rfl rfl rfl (valueList_con (ArrAt.mono (k + 1)) _ _ _ _ hv25' hvl) ?_; intro v h27 w27 hle27 hp27 hs)
      obtain ⟨cs27, rfl, ha27⟩ := hp27
      have hr27 := ha27
      obtain ⟨_, vc27, rfl, ⟨ad27, cp27, rfl, _⟩, hv27⟩ := ha27
      obtain ⟨wv27, nv27, sm27, il27, fl27, ch27, bx27, ⟨rfl, hoc27⟩, -⟩ := hv27
      refine Zerun ?_
      (refine RW.storeAll T hs 1 rfl rfl rfl rfl rfl rfl (by show (Value.oneCell' (.slice ad27 _ cp27) && (vecCells _ wv27 nv27 sm27 il27 fl27 ch27 bx27).all Value.oneCell') = true; rw [hoc27]; rfl) rfl ?_; intro w927 hs)
      refine Zerun ?_
      exact retQ_ret [_, _] h27 ⟨resN T hs 1 rfl rfl rfl rfl rfl rfl, rfl, trivial⟩ hs.dropAll ⟨_, rfl, hr27⟩
theorem ref27List_con {α : Type} {R : GHeap → List Value → α → Prop} (cs : List Value) (p : PlainD α) (w : World) (h : GHeap) (hp : PlainR R h cs p) : Con Tryz.prog 48 [.agg cs.toArray] w h (fun _ u => u = .bool (decide ((p.shape.length : Int) ≤ 1))) := by
  obtain ⟨s, it, rfl, ⟨ad, cp, rfl, _⟩, ⟨ad2, cp2, xs, rfl, _, _⟩⟩ := hp
  refine Con.of_body Tryz.func48 rfl Tryz.ntmps48 rfl rfl ?_
  intro hs
  refine Zrun ?_
  (refine RW.boxN hs rfl rfl ?_; intro b1 w1 hs)
  refine Zerun ?_
  exact retQ_ret [_] h ⟨rfl, trivial⟩ hs.dropAll rfl
theorem ref27Unique_con (k : Nat) (cp0 : List Value) (p : PlainD (PD (k + 1))) (w : World) (h : GHeap) (hp : PlainR (PlainAt (k + 1)) h cp0 p) (tp : ∀ y ∈ p.items, tdyIt (tdy (k + 1)) y) (hm : p.items.length ≤ 1048576) :
    Con Tryz.prog 27 [.agg cp0.toArray] w h (fun h' u => ∃ cs', u = .tuple #[.agg cs'.toArray, .int .i64 (uniqueR p).1] ∧ PlainR (PlainAt (k + 1)) h' cs' (uniqueR p).2) := by
  have hp' := hp
  obtain ⟨s, it, rfl, ⟨ad, cp, rfl, hSs⟩, hit⟩ := hp
  have hit' := hit
  obtain ⟨ad2, cp2, xs, rfl, _, _⟩ := hit
  refine Con.of_body Tryz.func27 rfl Tryz.ntmps27 rfl rfl ?_
  intro hs
  refine Zrun ?_
  (refine RW.boxN hs rfl rfl ?_; intro b1 w1 hs)
  refine Zrun ?_
  (refine RW.allocN T hs rfl rfl rfl rfl ?_; intro b3 w3 hs)
  refine Zerun ?_
  (refine RW.call T hs rfl rfl rfl (ref27List_con (R := PlainAt (k + 1)) _ p _ _ hp') ?_; intro v h4 w4 hle4 hp4 hs)
  subst hp4
  have hit' := hit'.mono hle4 (fun u a => ItemAt.mono (PlainAt.mono (k + 1)) _ _ u a hle4)
  by_cases c : 1 < p.shape.length
  · rw [show uniqueR p = (22, zeroP) from if_pos c]
    refine Zerun ?_
    refine RW.val (Y.build T rfl rfl rfl rfl rfl rfl rfl) rfl ?_
    (refine RW.storeAll T hs 0 rfl rfl rfl rfl rfl rfl rfl rfl ?_; intro w9 hs)
    refine Zerun ?_
    exact retQ_ret [_, _] h4 ⟨resN T hs 0 rfl rfl rfl rfl rfl rfl, rfl, trivial⟩ hs.dropAll ⟨_, rfl, _, _, rfl, IntsAt.nil _, RowsAt.nil _⟩
  rw [show uniqueR p = (0, ⟨[((uniq p.items noItem).length : Int)], uniq p.items noItem, p.fill⟩) from if_neg c]
  have eU : (placesN (firstB p.items noItem) p.items.length).map (fun i => atD p.items i (blankI p.fill : ItemD (PlainD (PD k)))) = uniq p.items noItem := uniq_any' p.items noItem _
  refine Zerun ?_
  refine CW.regionR T 1 1 hs rfl rfl ?_
  intro w10 hs
  refine HW.takeR (fuel := 12) 0 rfl (fun _ _ ka kb _ hs hka hkb => Y.fieldAddr T rfl rfl rfl rfl rfl) ⟨_, _, 1, 1, hs, rfl, rfl⟩ rfl (by kernel_rfl) (by kernel_rfl) (by kernel_rfl) ?_
  refine HW.takeR (fuel := 11) 1 rfl (fun _ _ ka kb _ hs hka hkb => Y.loadRow1 T hs ka hka rfl rfl rfl rfl) ⟨_, _, 1, 1, hs, rfl, rfl⟩ rfl (by kernel_rfl) (by kernel_rfl) (by kernel_rfl) ?_
  refine HW.takeR (fuel := 10) 2 rfl (fun _ _ ka kb _ hs hka hkb => Y.fieldAddr T rfl rfl rfl rfl rfl) ⟨_, _, 1, 1, hs, rfl, rfl⟩ rfl (by kernel_rfl) (by kernel_rfl) (by kernel_rfl) ?_
  refine HW.takeR (fuel := 9) 3 rfl (fun _ _ ka kb _ hs hka hkb => Y.loadRow1 T hs ka hka rfl rfl rfl rfl) ⟨_, _, 1, 1, hs, rfl, rfl⟩ rfl (by kernel_rfl) (by kernel_rfl) (by kernel_rfl) ?_
  refine HW.takeR (fuel := 8) 4 rfl (fun _ _ ka kb _ hs hka hkb => Y.fieldAddr T rfl rfl rfl rfl rfl) ⟨_, _, 1, 1, hs, rfl, rfl⟩ rfl (by kernel_rfl) (by kernel_rfl) (by kernel_rfl) ?_
  refine HW.takeR (fuel := 7) 5 rfl (fun _ _ ka kb _ hs hka hkb => Y.loadRow1 T hs ka hka rfl rfl rfl rfl) ⟨_, _, 1, 1, hs, rfl, rfl⟩ rfl (by kernel_rfl) (by kernel_rfl) (by kernel_rfl) ?_
  refine HW.takeR (fuel := 6) 8 rfl (fun _ _ ka kb _ hs hka hkb => Y.fieldAddr T rfl rfl rfl rfl rfl) ⟨_, _, 1, 1, hs, rfl, rfl⟩ rfl (by kernel_rfl) (by kernel_rfl) (by kernel_rfl) ?_
  refine HW.takeR (fuel := 5) 9 rfl (fun _ _ ka kb _ hs hka hkb => Y.loadRow1 T hs ka hka rfl rfl rfl rfl) ⟨_, _, 1, 1, hs, rfl, rfl⟩ rfl (by kernel_rfl) (by kernel_rfl) (by kernel_rfl) ?_
  refine HW.one (fuel := 4) 6 rfl (by kernel_rfl) ?_
  (refine RW.call T hs rfl rfl rfl (ref19Firsts_con (k + 1) _ p.items _ _ hit' tp hm) ?_; intro v h14 w14 hle14 hp14 hs)
  have hit' := hit'.mono hle14 (fun u a => ItemAt.mono (PlainAt.mono (k + 1)) _ _ u a hle14)
  refine RW.nil ?_
  refine heldQ_normal ⟨_, _, 1, 1, hs, rfl, rfl⟩ ?_
  refine HW.one (fuel := 3) 7 rfl (by kernel_rfl) ?_
  (refine RW.call T hs rfl rfl rfl (refPick08_con (PlainAt.mono k) _ _ p.items p.fill (placesN (firstB p.items noItem) p.items.length) _ _ hit' hp14 (Nat.le_trans (placesN_len _ _) hm)) ?_; intro v h15 w15 hle15 hp15 hs)
  have hp15 : RowsAt 4 (ItemAt (PlainAt (k + 1)) h15) h15 _ (uniq p.items noItem) := eU ▸ hp15
  have hit' := hit'.mono hle15 (fun u a => ItemAt.mono (PlainAt.mono (k + 1)) _ _ u a hle15)
  refine RW.nil ?_
  refine heldQ_normal ⟨_, _, 1, 1, hs, rfl, rfl⟩ ?_
  refine HW.one (fuel := 2) 10 rfl (by kernel_rfl) ?_
  (refine RW.call T hs rfl rfl rfl (refList08_con (PlainAt.mono (k + 1)) _ _ _ _ _ hp15) ?_; intro v h18 w18 hle18 hp18 hs)
  obtain ⟨cs18, rfl, hq18⟩ := hp18
  obtain ⟨s18, it18, rfl, ⟨adS18, cpS18, rfl, _⟩, ⟨adI18, cpI18, xsI18, rfl, _, _⟩⟩ := id hq18
  have hit' := hit'.mono hle18 (fun u a => ItemAt.mono (PlainAt.mono (k + 1)) _ _ u a hle18)
  have hp15 := hp15.mono hle18 (fun u a => ItemAt.mono (PlainAt.mono (k + 1)) _ _ u a hle18)
  refine RW.nil ?_
  refine heldQ_normal ⟨_, _, 1, 1, hs, rfl, rfl⟩ ?_
  refine HW.one (fuel := 1) 11 rfl (by kernel_rfl) ?_
  refine RW.storeAll T hs 0 rfl rfl rfl rfl rfl rfl rfl rfl ?_
  intro w911 hs
  refine RW.nil ?_
  refine heldQ_normal ⟨_, _, 1, 1, hs, rfl, rfl⟩ ?_
  refine HW.takeR (fuel := 0) 12 rfl (fun _ _ ka kb _ hs hka hkb => Y.assign rfl) ⟨_, _, 1, 1, hs, rfl, rfl⟩ rfl (by kernel_rfl) (by kernel_rfl) (by kernel_rfl) ?_
  refine HW.done (by kernel_rfl) ?_
  refine calmQ_normal ?_
  refine Zerun ?_
  exact retQ_ret [_, _] h18 ⟨resN T hs 0 rfl rfl rfl rfl rfl rfl, rfl, trivial⟩ hs.dropAll ⟨_, rfl, hq18⟩
theorem ref27Without_con (k : Nat) (cp0 cq0 : List Value) (p q : PlainD (PD (k + 1))) (keep : Bool) (w : World) (h : GHeap) (hp : PlainR (PlainAt (k + 1)) h cp0 p) (hq : PlainR (PlainAt (k + 1)) h cq0 q) (tp : ∀ y ∈ p.items, tdyIt (tdy (k + 1)) y) (hm : p.items.length ≤ 1048576) (tq : ∀ y ∈ q.items, tdyIt (tdy (k + 1)) y) (hmq : q.items.length ≤ 1048576) :
    Con Tryz.prog 29 [.agg cp0.toArray, .agg cq0.toArray, .bool keep] w h (fun h' u => ∃ cs', u = .tuple #[.agg cs'.toArray, .int .i64 (withoutR p q keep).1] ∧ PlainR (PlainAt (k + 1)) h' cs' (withoutR p q keep).2) := by
  have hp' := hp
  obtain ⟨s, it, rfl, ⟨ad, cp, rfl, hSs⟩, hit⟩ := hp
  have hit' := hit
  obtain ⟨ad2, cp2, xs, rfl, _, _⟩ := hit
  have hq' := hq
  obtain ⟨s2, it2, rfl, ⟨ad3, cp3, rfl, hSs2⟩, hiq⟩ := hq
  have hiq' := hiq
  obtain ⟨ad4, cp4, xs4, rfl, _, _⟩ := hiq
  refine Con.of_body Tryz.func29 rfl Tryz.ntmps29 rfl rfl ?_
  intro hs
  refine Zrun ?_
  (refine RW.boxN hs rfl rfl ?_; intro b1 w1 hs)
  refine Zrun ?_
  (refine RW.boxN hs rfl rfl ?_; intro b2 w2 hs)
  refine Zrun ?_
  (refine RW.allocN T hs rfl rfl rfl rfl ?_; intro b3 w3 hs)
  refine Zerun ?_
  (refine RW.call T hs rfl rfl rfl (ref27List_con (R := PlainAt (k + 1)) _ p _ _ hp') ?_; intro v h4 w4 hle4 hp4 hs)
  subst hp4
  have hit' := hit'.mono hle4 (fun u a => ItemAt.mono (PlainAt.mono (k + 1)) _ _ u a hle4)
  have hiq' := hiq'.mono hle4 (fun u a => ItemAt.mono (PlainAt.mono (k + 1)) _ _ u a hle4)
  have hq' := PlainAt.mono (k + 2) _ _ _ _ hle4 hq'
  have hp' := PlainAt.mono (k + 2) _ _ _ _ hle4 hp'
  by_cases c1 : 1 < p.shape.length
  · rw [show withoutR p q keep = (22, zeroP) from if_pos (.inl c1)]
    refine Zerun ?_
    refine RW.val (Y.build T rfl rfl rfl rfl rfl rfl rfl) rfl ?_
    (refine RW.storeAll T hs 0 rfl rfl rfl rfl rfl rfl rfl rfl ?_; intro w9 hs)
    refine Zerun ?_
    exact retQ_ret [_, _] h4 ⟨resN T hs 0 rfl rfl rfl rfl rfl rfl, rfl, trivial⟩ hs.dropAll ⟨_, rfl, _, _, rfl, IntsAt.nil _, RowsAt.nil _⟩
  refine Zerun ?_
  (refine RW.call T hs rfl rfl rfl (ref27List_con (R := PlainAt (k + 1)) _ q _ _ hq') ?_; intro v h5 w5 hle5 hp5 hs)
  subst hp5
  have hit' := hit'.mono hle5 (fun u a => ItemAt.mono (PlainAt.mono (k + 1)) _ _ u a hle5)
  have hiq' := hiq'.mono hle5 (fun u a => ItemAt.mono (PlainAt.mono (k + 1)) _ _ u a hle5)
  have hp' := PlainAt.mono (k + 2) _ _ _ _ hle5 hp'
  by_cases c3 : 1 < q.shape.length
  · rw [show withoutR p q keep = (22, zeroP) from if_pos (.inr c3)]
    refine Zerun ?_
    refine RW.val (Y.build T rfl rfl rfl rfl rfl rfl rfl) rfl ?_
    (refine RW.storeAll T hs 0 rfl rfl rfl rfl rfl rfl rfl rfl ?_; intro w9 hs)
    refine Zerun ?_
    exact retQ_ret [_, _] h5 ⟨resN T hs 0 rfl rfl rfl rfl rfl rfl, rfl, trivial⟩ hs.dropAll ⟨_, rfl, _, _, rfl, IntsAt.nil _, RowsAt.nil _⟩
  have c : ¬ (1 < p.shape.length ∨ 1 < q.shape.length) := by omega
  rw [show withoutR p q keep = (0, ⟨[((p.items.filter (inB q.items keep)).length : Int)], p.items.filter (inB q.items keep), p.fill⟩) from if_neg c]
  refine Zerun ?_
  refine CW.regionR T 2 1 hs rfl rfl ?_
  intro w10 hs
  refine HW.takeR (fuel := 10) 0 rfl (fun _ _ ka kb _ hs hka hkb => Y.fieldAddr T rfl rfl rfl rfl rfl) ⟨_, _, 2, 1, hs, rfl, rfl⟩ rfl (by kernel_rfl) (by kernel_rfl) (by kernel_rfl) ?_
  refine HW.takeR (fuel := 9) 1 rfl (fun _ _ ka kb _ hs hka hkb => Y.loadRow1 T hs ka hka rfl rfl rfl rfl) ⟨_, _, 2, 1, hs, rfl, rfl⟩ rfl (by kernel_rfl) (by kernel_rfl) (by kernel_rfl) ?_
  refine HW.takeR (fuel := 8) 2 rfl (fun _ _ ka kb _ hs hka hkb => Y.fieldAddr T rfl rfl rfl rfl rfl) ⟨_, _, 2, 1, hs, rfl, rfl⟩ rfl (by kernel_rfl) (by kernel_rfl) (by kernel_rfl) ?_
  refine HW.takeR (fuel := 7) 3 rfl (fun _ _ ka kb _ hs hka hkb => Y.loadRow1 T hs kb hkb rfl rfl rfl rfl) ⟨_, _, 2, 1, hs, rfl, rfl⟩ rfl (by kernel_rfl) (by kernel_rfl) (by kernel_rfl) ?_
  refine HW.takeR (fuel := 6) 4 rfl (fun _ _ ka kb _ hs hka hkb => Y.move rfl) ⟨_, _, 2, 1, hs, rfl, rfl⟩ rfl (by kernel_rfl) (by kernel_rfl) (by kernel_rfl) ?_
  refine HW.takeR (fuel := 5) 6 rfl (fun _ _ ka kb _ hs hka hkb => Y.fieldAddr T rfl rfl rfl rfl rfl) ⟨_, _, 2, 1, hs, rfl, rfl⟩ rfl (by kernel_rfl) (by kernel_rfl) (by kernel_rfl) ?_
  refine HW.takeR (fuel := 4) 7 rfl (fun _ _ ka kb _ hs hka hkb => Y.loadRow1 T hs ka hka rfl rfl rfl rfl) ⟨_, _, 2, 1, hs, rfl, rfl⟩ rfl (by kernel_rfl) (by kernel_rfl) (by kernel_rfl) ?_
  refine HW.one (fuel := 3) 5 rfl (by kernel_rfl) ?_
  (refine RW.call T hs rfl rfl rfl (ref19Without_con (k + 1) _ _ p.items q.items keep _ _ hit' hiq' tp tq hm) ?_; intro v h22 w22 hle22 hp22 hs)
  have hit' := hit'.mono hle22 (fun u a => ItemAt.mono (PlainAt.mono (k + 1)) _ _ u a hle22)
  have hiq' := hiq'.mono hle22 (fun u a => ItemAt.mono (PlainAt.mono (k + 1)) _ _ u a hle22)
  refine RW.nil ?_
  refine heldQ_normal ⟨_, _, 2, 1, hs, rfl, rfl⟩ ?_
  refine HW.one (fuel := 2) 8 rfl (by kernel_rfl) ?_
  (refine RW.call T hs rfl rfl rfl (refList08_con (PlainAt.mono (k + 1)) _ _ _ _ _ hp22) ?_; intro v h25 w25 hle25 hp25 hs)
  obtain ⟨cs25, rfl, hq25⟩ := hp25
  obtain ⟨s25, it25, rfl, ⟨adS25, cpS25, rfl, _⟩, ⟨adI25, cpI25, xsI25, rfl, _, _⟩⟩ := id hq25
  have hit' := hit'.mono hle25 (fun u a => ItemAt.mono (PlainAt.mono (k + 1)) _ _ u a hle25)
  have hiq' := hiq'.mono hle25 (fun u a => ItemAt.mono (PlainAt.mono (k + 1)) _ _ u a hle25)
  have hp22 := hp22.mono hle25 (fun u a => ItemAt.mono (PlainAt.mono (k + 1)) _ _ u a hle25)
  refine RW.nil ?_
  refine heldQ_normal ⟨_, _, 2, 1, hs, rfl, rfl⟩ ?_
  refine HW.one (fuel := 1) 9 rfl (by kernel_rfl) ?_
  refine RW.storeAll T hs 0 rfl rfl rfl rfl rfl rfl rfl rfl ?_
  intro w911 hs
  refine RW.nil ?_
  refine heldQ_normal ⟨_, _, 2, 1, hs, rfl, rfl⟩ ?_
  refine HW.takeR (fuel := 0) 10 rfl (fun _ _ ka kb _ hs hka hkb => Y.assign rfl) ⟨_, _, 2, 1, hs, rfl, rfl⟩ rfl (by kernel_rfl) (by kernel_rfl) (by kernel_rfl) ?_
  refine HW.done (by kernel_rfl) ?_
  refine calmQ_normal ?_
  refine Zerun ?_
  exact retQ_ret [_, _] h25 ⟨resN T hs 0 rfl rfl rfl rfl rfl rfl, rfl, trivial⟩ hs.dropAll ⟨_, rfl, hq25⟩
theorem ref27Union_con (k : Nat) (cp0 cq0 : List Value) (p q : PlainD (PD (k + 1))) (most : Int) (w : World) (h : GHeap) (hp : PlainR (PlainAt (k + 1)) h cp0 p) (hq : PlainR (PlainAt (k + 1)) h cq0 q) (tp : ∀ y ∈ p.items, tdyIt (tdy (k + 1)) y) (hm : p.items.length ≤ 1048576) (tq : ∀ y ∈ q.items, tdyIt (tdy (k + 1)) y) (hmq : q.items.length ≤ 1048576) (hsum : ([p, withoutQ q p].map (·.items.length)).sum ≤ 1048576) (hfl : ∀ r ∈ [p, withoutQ q p], 0 ≤ r.fill) :
    Con Tryz.prog 31 [.agg cp0.toArray, .agg cq0.toArray, .int .i64 most] w h (fun h' u => ∃ cs', u = .tuple #[.agg cs'.toArray, .int .i64 (unionR p q most).1] ∧ PlainR (PlainAt (k + 1)) h' cs' (unionR p q most).2) := by
  have hp' := hp
  obtain ⟨s, it, rfl, ⟨ad, cp, rfl, hSs⟩, hit⟩ := hp
  have hit' := hit
  obtain ⟨ad2, cp2, xs, rfl, _, _⟩ := hit
  have hq' := hq
  obtain ⟨s2, it2, rfl, ⟨ad3, cp3, rfl, hSs2⟩, hiq⟩ := hq
  have hiq' := hiq
  obtain ⟨ad4, cp4, xs4, rfl, _, _⟩ := hiq
  refine Con.of_body Tryz.func31 rfl Tryz.ntmps31 rfl rfl ?_
  intro hs
  refine Zrun ?_
  (refine RW.boxN hs rfl rfl ?_; intro b1 w1 hs)
  refine Zrun ?_
  (refine RW.boxN hs rfl rfl ?_; intro b2 w2 hs)
  refine Zrun ?_
  (refine RW.allocN T hs rfl rfl rfl rfl ?_; intro b3 w3 hs)
  refine Zerun ?_
  (refine RW.call T hs rfl rfl rfl (ref27List_con (R := PlainAt (k + 1)) _ p _ _ hp') ?_; intro v h4 w4 hle4 hp4 hs)
  subst hp4
  have hit' := hit'.mono hle4 (fun u a => ItemAt.mono (PlainAt.mono (k + 1)) _ _ u a hle4)
  have hiq' := hiq'.mono hle4 (fun u a => ItemAt.mono (PlainAt.mono (k + 1)) _ _ u a hle4)
  have hq' := PlainAt.mono (k + 2) _ _ _ _ hle4 hq'
  have hp' := PlainAt.mono (k + 2) _ _ _ _ hle4 hp'
  by_cases c1 : 1 < p.shape.length
  · rw [show unionR p q most = (22, zeroP) from if_pos (.inl c1)]
    refine Zerun ?_
    refine RW.val (Y.build T rfl rfl rfl rfl rfl rfl rfl) rfl ?_
    (refine RW.storeAll T hs 0 rfl rfl rfl rfl rfl rfl rfl rfl ?_; intro w9 hs)
    refine Zerun ?_
    exact retQ_ret [_, _] h4 ⟨resN T hs 0 rfl rfl rfl rfl rfl rfl, rfl, trivial⟩ hs.dropAll ⟨_, rfl, _, _, rfl, IntsAt.nil _, RowsAt.nil _⟩
  refine Zerun ?_
  (refine RW.call T hs rfl rfl rfl (ref27List_con (R := PlainAt (k + 1)) _ q _ _ hq') ?_; intro v h5 w5 hle5 hp5 hs)
  subst hp5
  have hit' := hit'.mono hle5 (fun u a => ItemAt.mono (PlainAt.mono (k + 1)) _ _ u a hle5)
  have hiq' := hiq'.mono hle5 (fun u a => ItemAt.mono (PlainAt.mono (k + 1)) _ _ u a hle5)
  have hp' := PlainAt.mono (k + 2) _ _ _ _ hle5 hp'
  by_cases c3 : 1 < q.shape.length
  · rw [show unionR p q most = (22, zeroP) from if_pos (.inr c3)]
    refine Zerun ?_
    refine RW.val (Y.build T rfl rfl rfl rfl rfl rfl rfl) rfl ?_
    (refine RW.storeAll T hs 0 rfl rfl rfl rfl rfl rfl rfl rfl ?_; intro w9 hs)
    refine Zerun ?_
    exact retQ_ret [_, _] h5 ⟨resN T hs 0 rfl rfl rfl rfl rfl rfl, rfl, trivial⟩ hs.dropAll ⟨_, rfl, _, _, rfl, IntsAt.nil _, RowsAt.nil _⟩
  have c : ¬ (1 < p.shape.length ∨ 1 < q.shape.length) := by omega
  refine Zerun ?_
  rcases hj : joinP (-1) [p, withoutQ q p] with _ | cj
  · rw [unionR_none c hj]
    refine CW.regionR T 2 1 hs rfl rfl ?_
    intro w10 hs
    refine HW.takeR (fuel := 15) 0 rfl (fun _ _ ka kb _ hs hka hkb => Y.loadRowN T hs ka hka rfl rfl rfl rfl rfl rfl) ⟨_, _, 2, 1, hs, rfl, rfl⟩ rfl (by kernel_rfl) (by kernel_rfl) (by kernel_rfl) ?_
    refine HW.takeR (fuel := 14) 1 rfl (fun _ _ ka kb _ hs hka hkb => Y.fieldAddr T rfl rfl rfl rfl rfl) ⟨_, _, 2, 1, hs, rfl, rfl⟩ rfl (by kernel_rfl) (by kernel_rfl) (by kernel_rfl) ?_
    refine HW.takeR (fuel := 13) 2 rfl (fun _ _ ka kb _ hs hka hkb => Y.loadRow1 T hs kb hkb rfl rfl rfl rfl) ⟨_, _, 2, 1, hs, rfl, rfl⟩ rfl (by kernel_rfl) (by kernel_rfl) (by kernel_rfl) ?_
    refine HW.takeR (fuel := 12) 3 rfl (fun _ _ ka kb _ hs hka hkb => Y.fieldAddr T rfl rfl rfl rfl rfl) ⟨_, _, 2, 1, hs, rfl, rfl⟩ rfl (by kernel_rfl) (by kernel_rfl) (by kernel_rfl) ?_
    refine HW.takeR (fuel := 11) 4 rfl (fun _ _ ka kb _ hs hka hkb => Y.loadRow1 T hs ka hka rfl rfl rfl rfl) ⟨_, _, 2, 1, hs, rfl, rfl⟩ rfl (by kernel_rfl) (by kernel_rfl) (by kernel_rfl) ?_
    refine HW.takeR (fuel := 10) 6 rfl (fun _ _ ka kb _ hs hka hkb => Y.fieldAddr T rfl rfl rfl rfl rfl) ⟨_, _, 2, 1, hs, rfl, rfl⟩ rfl (by kernel_rfl) (by kernel_rfl) (by kernel_rfl) ?_
    refine HW.takeR (fuel := 9) 7 rfl (fun _ _ ka kb _ hs hka hkb => Y.loadRow1 T hs kb hkb rfl rfl rfl rfl) ⟨_, _, 2, 1, hs, rfl, rfl⟩ rfl (by kernel_rfl) (by kernel_rfl) (by kernel_rfl) ?_
    refine HW.one (fuel := 8) 5 rfl (by kernel_rfl) ?_
    (refine RW.call T hs rfl rfl rfl (ref19Without_con (k + 1) _ _ q.items p.items false _ _ hiq' hit' tq tp hmq) ?_; intro v h25 w25 hle25 hp25 hs)
    have hit' := hit'.mono hle25 (fun u a => ItemAt.mono (PlainAt.mono (k + 1)) _ _ u a hle25)
    have hiq' := hiq'.mono hle25 (fun u a => ItemAt.mono (PlainAt.mono (k + 1)) _ _ u a hle25)
    have hp' := PlainAt.mono (k + 2) _ _ _ _ hle25 hp'
    refine RW.nil ?_
    refine heldQ_normal ⟨_, _, 2, 1, hs, rfl, rfl⟩ ?_
    refine HW.one (fuel := 7) 8 rfl (by kernel_rfl) ?_
    (refine RW.call T hs rfl rfl rfl (refList08_con (PlainAt.mono (k + 1)) _ _ _ _ _ hp25) ?_; intro v h28 w28 hle28 hp28 hs)
    obtain ⟨cs28, rfl, hq28⟩ := hp28
    obtain ⟨s28, it28, rfl, ⟨adS28, cpS28, rfl, _⟩, ⟨adI28, cpI28, xsI28, rfl, _, _⟩⟩ := id hq28
    have hit' := hit'.mono hle28 (fun u a => ItemAt.mono (PlainAt.mono (k + 1)) _ _ u a hle28)
    have hiq' := hiq'.mono hle28 (fun u a => ItemAt.mono (PlainAt.mono (k + 1)) _ _ u a hle28)
    have hp' := PlainAt.mono (k + 2) _ _ _ _ hle28 hp'
    have hp25 := hp25.mono hle28 (fun u a => ItemAt.mono (PlainAt.mono (k + 1)) _ _ u a hle28)
    refine RW.nil ?_
    refine heldQ_normal ⟨_, _, 2, 1, hs, rfl, rfl⟩ ?_
    refine HW.one (fuel := 6) 9 rfl (by kernel_rfl) ?_
    (refine RW.lit T hs (vs := [.agg [.slice ad p.shape.length cp, .slice ad2 p.items.length cp2, .int .i64 p.fill].toArray, .agg [.slice adS28 [((q.items.filter (inB p.items false)).length : Int)].length cpS28, .slice adI28 (q.items.filter (inB p.items false)).length cpI28, .int .i64 q.fill].toArray]) (cs := ([.slice ad p.shape.length cp, .slice ad2 p.items.length cp2, .int .i64 p.fill] ++ [.slice adS28 [((q.items.filter (inB p.items false)).length : Int)].length cpS28, .slice adI28 (q.items.filter (inB p.items false)).length cpI28, .int .i64 q.fill])) rfl rfl rfl rfl (by simp [Value.cells]) rfl rfl rfl rfl rfl ?_; intro b29 w29 hs)
    obtain ⟨h29, hle29, hs, hS29⟩ := hs.freeze
    have hR29 : RowsAt 3 (PlainR (PlainAt (k + 1)) h29) h29 (.slice (some ⟨b29, 0, none⟩) 2 2) [p, withoutQ q p] := two_rows3 hS29 rfl (PlainAt.mono (k + 2) _ _ _ _ hle29 hp') rfl (PlainAt.mono (k + 2) _ _ _ _ hle29 hq28)
    have hit' := hit'.mono hle29 (fun u a => ItemAt.mono (PlainAt.mono (k + 1)) _ _ u a hle29)
    have hiq' := hiq'.mono hle29 (fun u a => ItemAt.mono (PlainAt.mono (k + 1)) _ _ u a hle29)
    have hp' := PlainAt.mono (k + 2) _ _ _ _ hle29 hp'
    have hp25 := hp25.mono hle29 (fun u a => ItemAt.mono (PlainAt.mono (k + 1)) _ _ u a hle29)
    refine RW.nil ?_
    refine heldQ_normal ⟨_, _, 2, 1, hs, rfl, rfl⟩ ?_
    refine HW.one (fuel := 5) 10 rfl (by kernel_rfl) ?_
    (refine RW.call T hs rfl rfl rfl (refJoin08_con (PlainAt.mono (k + 1)) _ [p, withoutQ q p] _ _ hR29 hsum hfl) ?_; intro v h30 w30 hle30 hp30 hs)
    obtain ⟨s30, cl, rfl, hno, hye⟩ := hp30
    obtain rfl := hno hj
    have hit' := hit'.mono hle30 (fun u a => ItemAt.mono (PlainAt.mono (k + 1)) _ _ u a hle30)
    have hiq' := hiq'.mono hle30 (fun u a => ItemAt.mono (PlainAt.mono (k + 1)) _ _ u a hle30)
    have hp' := PlainAt.mono (k + 2) _ _ _ _ hle30 hp'
    have hp25 := hp25.mono hle30 (fun u a => ItemAt.mono (PlainAt.mono (k + 1)) _ _ u a hle30)
    refine RW.nil ?_
    refine heldQ_normal ⟨_, _, 2, 1, hs, rfl, rfl⟩ ?_
    refine HW.takeR (fuel := 4) 11 rfl (fun _ _ ka kb _ hs hka hkb => Y.move rfl) ⟨_, _, 2, 1, hs, rfl, rfl⟩ rfl (by kernel_rfl) (by kernel_rfl) (by kernel_rfl) ?_
    refine HW.takeR (fuel := 3) 12 rfl (fun _ _ ka kb _ hs hka hkb => Y.extract rfl rfl) ⟨_, _, 2, 1, hs, rfl, rfl⟩ rfl (by kernel_rfl) (by kernel_rfl) (by kernel_rfl) ?_
    refine HW.takeR (fuel := 2) 13 rfl (fun _ _ ka kb _ hs hka hkb => Y.extract rfl rfl) ⟨_, _, 2, 1, hs, rfl, rfl⟩ rfl (by kernel_rfl) (by kernel_rfl) (by kernel_rfl) ?_
    refine HW.takeR (fuel := 1) 14 rfl (fun _ _ ka kb _ hs hka hkb => Y.assign rfl) ⟨_, _, 2, 1, hs, rfl, rfl⟩ rfl (by kernel_rfl) (by kernel_rfl) (by kernel_rfl) ?_
    refine HW.takeR (fuel := 0) 15 rfl (fun _ _ ka kb _ hs hka hkb => Y.assign rfl) ⟨_, _, 2, 1, hs, rfl, rfl⟩ rfl (by kernel_rfl) (by kernel_rfl) (by kernel_rfl) ?_
    refine HW.done (by kernel_rfl) ?_
    refine calmQ_normal ?_
    refine Zerun ?_
    refine RW.val (Y.build T rfl rfl rfl rfl rfl rfl rfl) rfl ?_
    (refine RW.storeAll T hs 0 rfl rfl rfl rfl rfl rfl rfl rfl ?_; intro w9 hs)
    refine Zerun ?_
    exact retQ_ret [_, _] h30 ⟨resN T hs 0 rfl rfl rfl rfl rfl rfl, rfl, trivial⟩ hs.dropAll ⟨_, rfl, _, _, rfl, IntsAt.nil _, RowsAt.nil _⟩
  · rw [unionR_some c hj]
    refine CW.regionR T 2 1 hs rfl rfl ?_
    intro w10 hs
    refine HW.takeR (fuel := 15) 0 rfl (fun _ _ ka kb _ hs hka hkb => Y.loadRowN T hs ka hka rfl rfl rfl rfl rfl rfl) ⟨_, _, 2, 1, hs, rfl, rfl⟩ rfl (by kernel_rfl) (by kernel_rfl) (by kernel_rfl) ?_
    refine HW.takeR (fuel := 14) 1 rfl (fun _ _ ka kb _ hs hka hkb => Y.fieldAddr T rfl rfl rfl rfl rfl) ⟨_, _, 2, 1, hs, rfl, rfl⟩ rfl (by kernel_rfl) (by kernel_rfl) (by kernel_rfl) ?_
    refine HW.takeR (fuel := 13) 2 rfl (fun _ _ ka kb _ hs hka hkb => Y.loadRow1 T hs kb hkb rfl rfl rfl rfl) ⟨_, _, 2, 1, hs, rfl, rfl⟩ rfl (by kernel_rfl) (by kernel_rfl) (by kernel_rfl) ?_
    refine HW.takeR (fuel := 12) 3 rfl (fun _ _ ka kb _ hs hka hkb => Y.fieldAddr T rfl rfl rfl rfl rfl) ⟨_, _, 2, 1, hs, rfl, rfl⟩ rfl (by kernel_rfl) (by kernel_rfl) (by kernel_rfl) ?_
    refine HW.takeR (fuel := 11) 4 rfl (fun _ _ ka kb _ hs hka hkb => Y.loadRow1 T hs ka hka rfl rfl rfl rfl) ⟨_, _, 2, 1, hs, rfl, rfl⟩ rfl (by kernel_rfl) (by kernel_rfl) (by kernel_rfl) ?_
    refine HW.takeR (fuel := 10) 6 rfl (fun _ _ ka kb _ hs hka hkb => Y.fieldAddr T rfl rfl rfl rfl rfl) ⟨_, _, 2, 1, hs, rfl, rfl⟩ rfl (by kernel_rfl) (by kernel_rfl) (by kernel_rfl) ?_
    refine HW.takeR (fuel := 9) 7 rfl (fun _ _ ka kb _ hs hka hkb => Y.loadRow1 T hs kb hkb rfl rfl rfl rfl) ⟨_, _, 2, 1, hs, rfl, rfl⟩ rfl (by kernel_rfl) (by kernel_rfl) (by kernel_rfl) ?_
    refine HW.one (fuel := 8) 5 rfl (by kernel_rfl) ?_
    (refine RW.call T hs rfl rfl rfl (ref19Without_con (k + 1) _ _ q.items p.items false _ _ hiq' hit' tq tp hmq) ?_; intro v h25 w25 hle25 hp25 hs)
    have hit' := hit'.mono hle25 (fun u a => ItemAt.mono (PlainAt.mono (k + 1)) _ _ u a hle25)
    have hiq' := hiq'.mono hle25 (fun u a => ItemAt.mono (PlainAt.mono (k + 1)) _ _ u a hle25)
    have hp' := PlainAt.mono (k + 2) _ _ _ _ hle25 hp'
    refine RW.nil ?_
    refine heldQ_normal ⟨_, _, 2, 1, hs, rfl, rfl⟩ ?_
    refine HW.one (fuel := 7) 8 rfl (by kernel_rfl) ?_
    (refine RW.call T hs rfl rfl rfl (refList08_con (PlainAt.mono (k + 1)) _ _ _ _ _ hp25) ?_; intro v h28 w28 hle28 hp28 hs)
    obtain ⟨cs28, rfl, hq28⟩ := hp28
    obtain ⟨s28, it28, rfl, ⟨adS28, cpS28, rfl, _⟩, ⟨adI28, cpI28, xsI28, rfl, _, _⟩⟩ := id hq28
    have hit' := hit'.mono hle28 (fun u a => ItemAt.mono (PlainAt.mono (k + 1)) _ _ u a hle28)
    have hiq' := hiq'.mono hle28 (fun u a => ItemAt.mono (PlainAt.mono (k + 1)) _ _ u a hle28)
    have hp' := PlainAt.mono (k + 2) _ _ _ _ hle28 hp'
    have hp25 := hp25.mono hle28 (fun u a => ItemAt.mono (PlainAt.mono (k + 1)) _ _ u a hle28)
    refine RW.nil ?_
    refine heldQ_normal ⟨_, _, 2, 1, hs, rfl, rfl⟩ ?_
    refine HW.one (fuel := 6) 9 rfl (by kernel_rfl) ?_
    (refine RW.lit T hs (vs := [.agg [.slice ad p.shape.length cp, .slice ad2 p.items.length cp2, .int .i64 p.fill].toArray, .agg [.slice adS28 [((q.items.filter (inB p.items false)).length : Int)].length cpS28, .slice adI28 (q.items.filter (inB p.items false)).length cpI28, .int .i64 q.fill].toArray]) (cs := ([.slice ad p.shape.length cp, .slice ad2 p.items.length cp2, .int .i64 p.fill] ++ [.slice adS28 [((q.items.filter (inB p.items false)).length : Int)].length cpS28, .slice adI28 (q.items.filter (inB p.items false)).length cpI28, .int .i64 q.fill])) rfl rfl rfl rfl (by simp [Value.cells]) rfl rfl rfl rfl rfl ?_; intro b29 w29 hs)
    obtain ⟨h29, hle29, hs, hS29⟩ := hs.freeze
    have hR29 : RowsAt 3 (PlainR (PlainAt (k + 1)) h29) h29 (.slice (some ⟨b29, 0, none⟩) 2 2) [p, withoutQ q p] := two_rows3 hS29 rfl (PlainAt.mono (k + 2) _ _ _ _ hle29 hp') rfl (PlainAt.mono (k + 2) _ _ _ _ hle29 hq28)
    have hit' := hit'.mono hle29 (fun u a => ItemAt.mono (PlainAt.mono (k + 1)) _ _ u a hle29)
    have hiq' := hiq'.mono hle29 (fun u a => ItemAt.mono (PlainAt.mono (k + 1)) _ _ u a hle29)
    have hp' := PlainAt.mono (k + 2) _ _ _ _ hle29 hp'
    have hp25 := hp25.mono hle29 (fun u a => ItemAt.mono (PlainAt.mono (k + 1)) _ _ u a hle29)
    refine RW.nil ?_
    refine heldQ_normal ⟨_, _, 2, 1, hs, rfl, rfl⟩ ?_
    refine HW.one (fuel := 5) 10 rfl (by kernel_rfl) ?_
    (refine RW.call T hs rfl rfl rfl (refJoin08_con (PlainAt.mono (k + 1)) _ [p, withoutQ q p] _ _ hR29 hsum hfl) ?_; intro v h30 w30 hle30 hp30 hs)
    obtain ⟨s30, cl, rfl, hno, hye⟩ := hp30
    obtain ⟨rfl, hi30⟩ := hye _ hj
    have hit' := hit'.mono hle30 (fun u a => ItemAt.mono (PlainAt.mono (k + 1)) _ _ u a hle30)
    have hiq' := hiq'.mono hle30 (fun u a => ItemAt.mono (PlainAt.mono (k + 1)) _ _ u a hle30)
    have hp' := PlainAt.mono (k + 2) _ _ _ _ hle30 hp'
    have hp25 := hp25.mono hle30 (fun u a => ItemAt.mono (PlainAt.mono (k + 1)) _ _ u a hle30)
    refine RW.nil ?_
    refine heldQ_normal ⟨_, _, 2, 1, hs, rfl, rfl⟩ ?_
    refine HW.takeR (fuel := 4) 11 rfl (fun _ _ ka kb _ hs hka hkb => Y.move rfl) ⟨_, _, 2, 1, hs, rfl, rfl⟩ rfl (by kernel_rfl) (by kernel_rfl) (by kernel_rfl) ?_
    refine HW.takeR (fuel := 3) 12 rfl (fun _ _ ka kb _ hs hka hkb => Y.extract rfl rfl) ⟨_, _, 2, 1, hs, rfl, rfl⟩ rfl (by kernel_rfl) (by kernel_rfl) (by kernel_rfl) ?_
    refine HW.takeR (fuel := 2) 13 rfl (fun _ _ ka kb _ hs hka hkb => Y.extract rfl rfl) ⟨_, _, 2, 1, hs, rfl, rfl⟩ rfl (by kernel_rfl) (by kernel_rfl) (by kernel_rfl) ?_
    refine HW.takeR (fuel := 1) 14 rfl (fun _ _ ka kb _ hs hka hkb => Y.assign rfl) ⟨_, _, 2, 1, hs, rfl, rfl⟩ rfl (by kernel_rfl) (by kernel_rfl) (by kernel_rfl) ?_
    refine HW.takeR (fuel := 0) 15 rfl (fun _ _ ka kb _ hs hka hkb => Y.assign rfl) ⟨_, _, 2, 1, hs, rfl, rfl⟩ rfl (by kernel_rfl) (by kernel_rfl) (by kernel_rfl) ?_
    refine HW.done (by kernel_rfl) ?_
    refine calmQ_normal ?_
    refine Zerun ?_
    obtain ⟨adU, cpU, xsU, rfl, _, _⟩ := id hi30
    rw [flat2] at hi30
    rw [flat2]
    have hcj := joinP_nn hfl hj
    have hcl : ¬ (if 0 ≤ cj then cj else headF [p, withoutQ q p]) < 0 := hcj
    generalize (if 0 ≤ cj then cj else headF [p, withoutQ q p]) = cl at *
    refine Zerun ?_
    by_cases c2 : most < ((p.items ++ q.items.filter (inB p.items false)).length : Int)
    · rw [if_pos c2]
      refine Zerun ?_
      refine RW.val (Y.build T rfl rfl rfl rfl rfl rfl rfl) rfl ?_
      (refine RW.storeAll T hs 0 rfl rfl rfl rfl rfl rfl rfl rfl ?_; intro w9 hs)
      refine Zerun ?_
      exact retQ_ret [_, _] h30 ⟨resN T hs 0 rfl rfl rfl rfl rfl rfl, rfl, trivial⟩ hs.dropAll ⟨_, rfl, _, _, rfl, IntsAt.nil _, RowsAt.nil _⟩
    · rw [if_neg c2]
      refine Zerun ?_
      (refine RW.call T hs rfl rfl rfl (refList08_con (PlainAt.mono (k + 1)) _ _ _ _ _ hi30) ?_; intro v h43 w43 hle43 hp43 hs)
      obtain ⟨cs43, rfl, hq43⟩ := hp43
      obtain ⟨s43, it43, rfl, ⟨adS43, cpS43, rfl, _⟩, ⟨adI43, cpI43, xsI43, rfl, _, _⟩⟩ := id hq43
      refine Zerun ?_
      (refine RW.storeAll T hs 0 rfl rfl rfl rfl rfl rfl rfl rfl ?_; intro w9 hs)
      refine Zerun ?_
      exact retQ_ret [_, _] h43 ⟨resN T hs 0 rfl rfl rfl rfl rfl rfl, rfl, trivial⟩ hs.dropAll ⟨_, rfl, hq43⟩
end Go.Proofs.YtmojpbfkpggjhaaGreatDoor

/-
  What sets tell, and why not: the code's answers and the document's. No statement is proved here.
-/
namespace Go.Proofs.YtmojpbfkpggjhaaGreatDoor
open Go Go.RowKit
set_option linter.unusedVariables false
set_option linter.unusedSimpArgs false
set_option maxHeartbeats 4000000
attribute [local irreducible] CW RW QW SW HW ConM retM heldQ calmQ elemP thenQ blockQ loopQ joinQ retQ Yields Con Sl zF magR unitF truncF fwF wholeF tidySpec elemQ rankF leastN tidyW
set_option maxHeartbeats 4000000
attribute [local irreducible] mixN wrN wr32 keyIt keyP

/-- what is told of an array, and of a plain one; or an error's number -/
def ResA (k : Nat) (e : Int) (a : AD (k + 1)) (p : PD (k + 1)) : Prop := (e = 0 ∧ good (k + 1) 40 a ∧ plain (k + 1) a = p ∧ tdy (k + 1) p) ∨ ((e = 22 ∨ e = 23 ∨ e = 24 ∨ e = 26) ∧ a = (⟨[], VecD.none⟩ : ArrD (AD k)))
theorem shows27R_con (k : Nat) (cs cp : List Value) (e : Int) (a : AD (k + 1)) (p : PD (k + 1)) (w : World) (h : GHeap) (ha : ArrAt (k + 1) h cs a) (hp : PlainAt (k + 1) h cp p) (hr : ResA k e a p) : Con Tryz.prog 16 [.agg cs.toArray, .int .i64 e, .agg cp.toArray, .int .i64 e] w h (fun _ u => u = .bool true) := by
  rcases hr with ⟨rfl, h1, h2, h3⟩ | ⟨he, rfl⟩
  · exact shows27_con k cs cp a p w h ha hp h1 h2 h3
  · exact shows27E_con (α := AD k) (R := ArrAt k) (Rq := PlainAt k) cs cp p e w h he ha hp
theorem places_any' {γ : Type} (q : γ → Bool) (l : List γ) (d b : γ) : (placesN (fun i => q (l.getD i d)) l.length).map (fun i => atD l i b) = l.filter q := by
  rw [← places_filter q l d, placesN_items, placesN_items]
  apply List.map_congr_left
  intro i hi
  have := List.mem_range.1 (List.mem_filter.1 hi).1
  rw [getD_elem this, getD_elem this]
theorem blankA_good' (k : Nat) (d : Int) (hd : d ≠ 0) : good (k + 1) d (blankA k) := by
  refine ⟨(by show product [0] 1048576 = (((0 : Nat) : Int), 0); decide), (by show (1 : Int) ≠ 0; omega), ?_, hd, fun b hb => nomatch hb⟩
  show (1 : Int) = VecD.least (⟨1, [], [], []⟩ : VecD (AD k))
  unfold VecD.least
  rw [if_pos ⟨rfl, by dsimp only; omega⟩]
  exact (show (1 : Int) = leastN [] by unfold leastN; rfl)
structure Fine2 (k : Nat) (x : VecD (AD (k + 1))) (L : List (ItemD (PD (k + 1)))) (c : Int) : Prop where
  sh : Shown (k + 1) x L c
  hg : ∀ b ∈ x.boxes, good (k + 1) (40 - 1) b
  ln : L.length = x.len
theorem list_res {k : Nat} {x : VecD (AD (k + 1))} {L : List (ItemD (PD (k + 1)))} {c : Int} (H : Fine2 k x L c) (hsq : x.sq = x) : ResA (k + 1) 0 (listA x) (⟨[(L.length : Int)], L, c⟩ : PlainD (PD (k + 1))) := by
  refine .inl ⟨rfl, ?_, ?_, H.sh.td⟩
  · refine ⟨?_, ?_, ?_, by omega, ?_⟩
    · show product [(x.len : Int)] 1048576 = ((x.sq.len : Int), 0)
      rw [hsq]; exact product_len1 _ H.sh.vm
    · show x.sq.kind ≠ 0
      rw [hsq]; exact H.sh.k0
    · show x.sq.kind = x.sq.least
      rw [hsq]; exact H.sh.kl
    · show ∀ b ∈ x.sq.boxes, good (k + 1) (40 - 1) b
      rw [hsq]; exact H.hg
  · show (⟨[(x.len : Int)], itemsV (plain (k + 1)) x.sq, x.sq.cls⟩ : PlainD (PD (k + 1))) = _
    rw [hsq, H.sh.he, H.sh.hc, H.ln]
theorem pick_fine {k : Nat} {x : VecD (AD (k + 1))} {L L' : List (ItemD (PD (k + 1)))} {c : Int} (H : Fine2 k x L c) (at_ : List Int) (hm : at_.length ≤ 1048576) (hL : at_.map (fun i => atD L i (blankI c : ItemD (PlainD (PD k)))) = L') : Fine2 k (x.pick at_ (blankA k)) L' c := by
  subst hL
  have f := pick_facts x at_ (blankA k)
  refine ⟨H.sh.pick at_ hm, fun b hb => ?_, by rw [List.length_map, f.2.2.1]⟩
  rcases f.2.2.2 b hb with e | e
  · exact H.hg b e
  · rw [e]; exact blankA_good' k _ (by omega)
theorem uniq_fine {k : Nat} {a : ArrD (AD (k + 1))} {L : List (ItemD (PD (k + 1)))} {c : Int} (H : Fine2 k a.vec L c) : Fine2 k (uniqV a) (uniq L noItem) c := by
  have e : uniqV a = a.vec.pick (placesN (firstB L noItem) L.length) (blankA k) := by unfold uniqV; rw [H.sh.he, H.ln]
  rw [e]
  exact pick_fine H _ (Nat.le_trans (placesN_len _ _) (by rw [H.ln]; exact H.sh.vm)) (uniq_any' L noItem _)
theorem with_fine {k : Nat} {a b : ArrD (AD (k + 1))} {L M : List (ItemD (PD (k + 1)))} {c d : Int} (H : Fine2 k a.vec L c) (Hb : Fine2 k b.vec M d) (keep : Bool) : Fine2 k (withV a b keep) (L.filter (inB M keep)) c := by
  have e : withV a b keep = a.vec.pick (placesN (fun i => inB M keep (L.getD i noItem)) L.length) (blankA k) := by unfold withV; rw [H.sh.he, Hb.sh.he, ← H.ln, ← Hb.ln]; rfl
  rw [e]
  exact pick_fine H _ (Nat.le_trans (placesN_len _ _) (by rw [H.ln]; exact H.sh.vm)) (places_any' (inB M keep) L noItem _)
theorem unique_res {k : Nat} {a : ArrD (AD (k + 1))} {p : PlainD (PD (k + 1))} (H : Fine2 k a.vec p.items p.fill) (hs : a.shape.length = p.shape.length) : (uniqueS a).1 = (uniqueR p).1 ∧ ResA (k + 1) (uniqueS a).1 (uniqueS a).2 (uniqueR p).2 := by
  unfold uniqueS uniqueR
  rw [hs]
  by_cases c : 1 < p.shape.length
  · rw [if_pos c, if_pos c]; exact ⟨rfl, .inr ⟨.inl rfl, rfl⟩⟩
  · rw [if_neg c, if_neg c]; exact ⟨rfl, list_res (uniq_fine H) (pick_sq' _ _ _)⟩
theorem without_res {k : Nat} {a b : ArrD (AD (k + 1))} {p q : PlainD (PD (k + 1))} (H : Fine2 k a.vec p.items p.fill) (Hb : Fine2 k b.vec q.items q.fill) (hs : a.shape.length = p.shape.length) (hsb : b.shape.length = q.shape.length) (keep : Bool) : (withoutS a b keep).1 = (withoutR p q keep).1 ∧ ResA (k + 1) (withoutS a b keep).1 (withoutS a b keep).2 (withoutR p q keep).2 := by
  unfold withoutS withoutR
  rw [hs, hsb]
  by_cases c : 1 < p.shape.length ∨ 1 < q.shape.length
  · rw [if_pos c, if_pos c]; exact ⟨rfl, .inr ⟨.inl rfl, rfl⟩⟩
  · rw [if_neg c, if_neg c]; exact ⟨rfl, list_res (with_fine H Hb keep) (pick_sq' _ _ _)⟩
theorem leastN_nil : leastN [] = 1 := by unfold leastN; rfl
theorem noneV_sq {α : Type} (c : Int) : (noneV c : VecD α).sq = noneV c := by
  unfold noneV
  split
  · exact sq_cls' (show (1 : Int) ≠ 0 by decide)
  · split
    · exact sq_cls' (show (2 : Int) ≠ 0 by decide)
    · rw [sq_nums _ _ (by omega) (by omega), leastN_nil]
theorem joinS_sq {α : Type} (c : Int) (l : List (VecD α)) : (joinS c l).sq = joinS c l := by
  unfold joinS
  split
  · exact sq_cls' (show (1 : Int) ≠ 0 by decide)
  · split
    · exact sq_cls' (show (2 : Int) ≠ 0 by decide)
    · have hb := leastN_bounds (l.flatMap (·.nums))
      exact sq_nums _ _ (by omega) (by omega)
theorem noneV_items {α β : Type} (f : α → β) (c : Int) : (itemsV f (noneV c : VecD α)).length = (noneV c : VecD α).len := by
  unfold noneV
  split
  · rfl
  · split
    · rfl
    · rfl
theorem joinS_items {α β : Type} (f : α → β) (c : Int) (l : List (VecD α)) : (itemsV f (joinS c l)).length = (joinS c l).len := by
  unfold joinS
  split
  · show ((l.flatMap (·.chars)).map _).length = 0 + (l.flatMap (·.chars)).length + 0
    rw [List.length_map]; omega
  · split
    · show ((l.flatMap (·.boxes)).map _).length = 0 + 0 + (l.flatMap (·.boxes)).length
      rw [List.length_map]; omega
    · rw [itemsV_c0 f (numV_cls _), List.length_map]
      rfl
theorem noneV_boxes {α : Type} (c : Int) : (noneV c : VecD α).boxes = [] := by
  unfold noneV
  split
  · rfl
  · split <;> rfl
theorem union_sum {k : Nat} {a b : ArrD (AD (k + 1))} {p q : PlainD (PD (k + 1))} (H : Fine2 k a.vec p.items p.fill) (Hb : Fine2 k b.vec q.items q.fill) (h1 : p.items.length ≤ 200) (h2 : q.items.length ≤ 200) : ([a.vec, withV b a false].map VecD.len).sum ≤ 1048576 ∧ ([p, withoutQ q p].map (·.items.length)).sum ≤ 1048576 := by
  have Hw := with_fine Hb H false
  have e := Hw.ln
  have e2 := H.ln
  have e3 := List.length_filter_le (inB p.items false) q.items
  constructor
  · show a.vec.len + ((withV b a false).len + 0) ≤ 1048576
    omega
  · show p.items.length + ((q.items.filter (inB p.items false)).length + 0) ≤ 1048576
    omega
theorem union_len {k : Nat} {a b : ArrD (AD (k + 1))} (c : Int) (hsum : ([a.vec, withV b a false].map VecD.len).sum ≤ 1048576) : (joinU a b c).len ≤ 1048576 := by
  unfold joinU
  split
  · unfold noneV
    split
    · exact Nat.zero_le _
    · split <;> exact Nat.zero_le _
  · exact Nat.le_trans (joinS_len _ _) hsum
theorem union_res {k : Nat} {a b : ArrD (AD (k + 1))} {p q : PlainD (PD (k + 1))} (H : Fine2 k a.vec p.items p.fill) (Hb : Fine2 k b.vec q.items q.fill) (hs : a.shape.length = p.shape.length) (hsb : b.shape.length = q.shape.length) (most : Int) (hsum : ([a.vec, withV b a false].map VecD.len).sum ≤ 1048576) : (unionS a b most).1 = (unionR p q most).1 ∧ ResA (k + 1) (unionS a b most).1 (unionS a b most).2 (unionR p q most).2 := by
  have Hw := with_fine Hb H false
  obtain ⟨j1, j2⟩ := joinC_joinP (α := AD (k + 1)) (γ := PD (k + 1)) Prod.fst Prod.snd [(a.vec, p), (withV b a false, withoutQ q p)] (-1) (by
    intro z hz
    simp only [List.mem_cons, List.not_mem_nil, or_false] at hz
    rcases hz with rfl | rfl
    · exact ⟨H.ln.symm, H.sh.hc⟩
    · exact ⟨Hw.ln.symm, Hw.sh.hc⟩)
  have j1 : joinC (-1) [a.vec, withV b a false] = joinP (-1) [p, withoutQ q p] := j1
  have j2 : headC [a.vec, withV b a false] = headF [p, withoutQ q p] := j2
  by_cases c : 1 < p.shape.length ∨ 1 < q.shape.length
  · unfold unionS unionR
    rw [hs, hsb, if_pos c, if_pos c]; exact ⟨rfl, .inr ⟨.inl rfl, rfl⟩⟩
  · have c' : ¬ (1 < a.shape.length ∨ 1 < b.shape.length) := by omega
    rcases hj : joinC (-1) [a.vec, withV b a false] with _ | cj
    · rw [unionS_none c' hj, unionR_none c (j1 ▸ hj)]; exact ⟨rfl, .inr ⟨.inr (.inr (.inl rfl)), rfl⟩⟩
    · rw [unionS_some c' hj, unionR_some c (j1 ▸ hj)]
      have hS := shown_join hj (by
        intro z hz
        simp only [List.mem_cons, List.not_mem_nil, or_false] at hz
        rcases hz with rfl | rfl
        · have := H.sh; rw [← H.sh.he, ← H.sh.hc] at this; exact this
        · have := Hw.sh; rw [← Hw.sh.he, ← Hw.sh.hc] at this; exact this) hsum
      have e1 : [a.vec, withV b a false].flatMap (itemsV (plain (k + 1))) = p.items ++ q.items.filter (inB p.items false) := by
        show itemsV (plain (k + 1)) a.vec ++ (itemsV (plain (k + 1)) (withV b a false) ++ []) = _
        rw [List.append_nil, H.sh.he, Hw.sh.he]
      rw [e1, j2] at hS
      have hF : Fine2 k (joinU a b cj) (p.items ++ q.items.filter (inB p.items false)) (if 0 ≤ cj then cj else headF [p, withoutQ q p]) := by
        refine ⟨by unfold joinU; rw [j2]; exact hS, ?_, ?_⟩
        · unfold joinU
          split
          · rw [noneV_boxes]; exact fun z hz => nomatch hz
          · intro z hz
            obtain ⟨y, hy, hz⟩ := joinS_boxes hz
            simp only [List.mem_cons, List.not_mem_nil, or_false] at hy
            rcases hy with rfl | rfl
            · exact H.hg z hz
            · exact Hw.hg z hz
        · rw [← hS.he, ← j2]
          unfold joinU
          split
          · exact noneV_items _ _
          · exact joinS_items _ _ _
      have hln := hF.ln
      rw [← hln]
      by_cases c2 : most < ((p.items ++ q.items.filter (inB p.items false)).length : Int)
      · rw [if_pos c2, if_pos c2]; exact ⟨rfl, .inr ⟨.inr (.inr (.inr rfl)), rfl⟩⟩
      · rw [if_neg c2, if_neg c2]
        refine ⟨rfl, list_res hF ?_⟩
        unfold joinU
        split
        · exact noneV_sq _
        · exact joinS_sq _ _
end Go.Proofs.YtmojpbfkpggjhaaGreatDoor
