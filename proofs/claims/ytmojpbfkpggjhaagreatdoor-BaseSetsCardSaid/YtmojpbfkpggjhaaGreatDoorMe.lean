/-
  Own texts of the claim, merged: Wf. Lemmas of the proof; no statement is proved here.
-/
import Derived.Test.YtmojpbfkpggjhaaGreatDoorMd
/-
  Contracts of the law's own functions of layer 27: lists as sets. No statement is proved here.
-/
namespace Go.Proofs.YtmojpbfkpggjhaaGreatDoor
open Go Go.RowKit
set_option linter.unusedVariables false
set_option linter.unusedSimpArgs false
set_option maxHeartbeats 4000000
attribute [local irreducible] CW RW QW SW HW ConM retM heldQ calmQ elemP thenQ blockQ loopQ joinQ retQ Yields Con Sl zF magR unitF truncF fwF wholeF tidySpec elemQ rankF leastN tidyW
set_option maxHeartbeats 4000000
attribute [local irreducible] mixN wrN wr32 keyIt keyP

theorem sets_facts (k : Nat) (p : PD (k + 2)) (h : GHeap) (cs : List Value) (hp : PlainAt (k + 2) h cs p) (hc : chk (k + 2) 40 p = 0) : Fine2 k (ArrD.vec (α := AD (k + 1)) (arr (k + 2) p)) (PlainD.items (α := PD (k + 1)) (tidy (k + 2) p)) (PlainD.fill (α := PD (k + 1)) (tidy (k + 2) p)) ∧ (PlainD.items (α := PD (k + 1)) (tidy (k + 2) p)).length = (PlainD.items (α := PD (k + 1)) p).length := by
  obtain ⟨_, _, _, h4, _⟩ := (chkP_ok (α := PD (k + 1)) _ _ _).1 hc
  have hl : (PlainD.items (α := PD (k + 1)) (tidy (k + 2) p)).length = (PlainD.items (α := PD (k + 1)) p).length := List.length_map ..
  have hg := good_arr (k + 2) 40 p hc
  have hg2 : product (PlainD.shape (α := PD (k + 1)) p) 1048576 = (((ArrD.vec (α := AD (k + 1)) (arr (k + 2) p)).len : Int), 0) := hg.1
  rw [h4] at hg2
  have := congrArg Prod.fst hg2
  dsimp only at this
  exact ⟨⟨shown_of k p h cs hp hc, hg.2.2.2.2, by omega⟩, hl⟩
theorem baseSetsLaw_con (k : Nat) (cp0 cq0 : List Value) (p q : PD (k + 2)) (keep : Bool) (x : Int) (w : World) (h : GHeap) (hT : TzTab h) (hp : PlainAt (k + 2) h cp0 p) (hq : PlainAt (k + 2) h cq0 q) (hx : 0 ≤ x ∧ x ≤ 65535) : Con Tryz.prog 6 [.agg cp0.toArray, .agg cq0.toArray, .bool keep, .int .u16 x] w h (fun _ u => u = .bool true) := by
  have hp' := hp
  have hq' := hq
  have hp0 := hp
  have hq0 := hq
  obtain ⟨s, it, rfl, ⟨ad, cp, rfl, _⟩, ⟨ad2, cp2, xs, rfl, _, _⟩⟩ := hp
  obtain ⟨s2, it2, rfl, ⟨ad3, cp3, rfl, _⟩, ⟨ad4, cp4, xs4, rfl, _, _⟩⟩ := hq
  refine Con.of_body Tryz.func6 rfl Tryz.ntmps6 rfl rfl ?_
  intro hs
  refine Zrun ?_
  (refine RW.boxN hs rfl rfl ?_; intro b1 w1 hs)
  refine Zrun ?_
  (refine RW.boxN hs rfl rfl ?_; intro b2 w2 hs)
  refine Zerun ?_
  (refine RW.call T hs rfl rfl rfl (fine27_con (k + 1) _ p _ _ hp') ?_; intro v h3 w3 hle3 hp3 hs)
  obtain ⟨b, rfl, hbp⟩ := hp3
  have hp' := PlainAt.mono (k + 2) _ _ _ _ hle3 hp'
  have hq' := PlainAt.mono (k + 2) _ _ _ _ hle3 hq'
  have hT := hT.mono hle3
  cases b with
  | false =>
    refine Zerun ?_
    (refine RW.call T hs rfl rfl rfl (awake27_con _ _ hT) ?_; intro v h13 w13 hle13 hp13 hs)
    subst hp13
    refine Zerun ?_
    exact retQ_ret [_] h13 ⟨rfl, trivial⟩ hs.dropAll rfl
  | true =>
  obtain ⟨hcp, h8p, _⟩ := hbp rfl
  refine Zerun ?_
  (refine RW.call T hs rfl rfl rfl (fine27_con (k + 1) _ q _ _ hq') ?_; intro v h4 w4 hle4 hp4 hs)
  obtain ⟨b, rfl, hbq⟩ := hp4
  have hp' := PlainAt.mono (k + 2) _ _ _ _ hle4 hp'
  have hq' := PlainAt.mono (k + 2) _ _ _ _ hle4 hq'
  have hT := hT.mono hle4
  cases b with
  | false =>
    refine Zerun ?_
    (refine RW.call T hs rfl rfl rfl (awake27_con _ _ hT) ?_; intro v h14 w14 hle14 hp14 hs)
    subst hp14
    refine Zerun ?_
    exact retQ_ret [_] h14 ⟨rfl, trivial⟩ hs.dropAll rfl
  | true =>
  obtain ⟨hcq, h8q, _⟩ := hbq rfl
  by_cases c1 : 200 < (PlainD.items (α := PD (k + 1)) p).length
  · refine Zerun ?_
    (refine RW.call T hs rfl rfl rfl (awake27_con _ _ hT) ?_; intro v h5 w5 hle5 hp5 hs)
    subst hp5
    refine Zerun ?_
    exact retQ_ret [_] h5 ⟨rfl, trivial⟩ hs.dropAll rfl
  by_cases c2 : 200 < (PlainD.items (α := PD (k + 1)) q).length
  · refine Zerun ?_
    (refine RW.call T hs rfl rfl rfl (awake27_con _ _ hT) ?_; intro v h5 w5 hle5 hp5 hs)
    subst hp5
    refine Zerun ?_
    exact retQ_ret [_] h5 ⟨rfl, trivial⟩ hs.dropAll rfl
  obtain ⟨hfp, hlp⟩ := sets_facts k p _ _ hp0 hcp
  obtain ⟨hfq, hlq⟩ := sets_facts k q _ _ hq0 hcq
  have hsmp := good_sml (k + 2) 40 _ (good_arr (k + 2) 40 p hcp)
  have hsmq := good_sml (k + 2) 40 _ (good_arr (k + 2) 40 q hcq)
  have tp := hfp.sh.td
  have tq := hfq.sh.td
  have flp := (chkP_ok (α := PD (k + 1)) _ _ _).1 hcp
  have flq := (chkP_ok (α := PD (k + 1)) _ _ _).1 hcq
  have hlp2 : (PlainD.items (α := PD (k + 1)) (tidy (k + 2) p)).length ≤ 200 := by omega
  have hlq2 : (PlainD.items (α := PD (k + 1)) (tidy (k + 2) q)).length ≤ 200 := by omega
  have ssp : (ArrD.shape (α := AD (k + 1)) (arr (k + 2) p)).length = (PlainD.shape (α := PD (k + 1)) (tidy (k + 2) p)).length := rfl
  have ssq : (ArrD.shape (α := AD (k + 1)) (arr (k + 2) q)).length = (PlainD.shape (α := PD (k + 1)) (tidy (k + 2) q)).length := rfl
  obtain ⟨hsA, hsP⟩ := union_sum hfp hfq hlp2 hlq2
  have hll := fun c (_ : joinC (-1) [ArrD.vec (α := AD (k + 1)) (arr (k + 2) p), withV (k := k) (arr (k + 2) q) (arr (k + 2) p) false] = some c) => union_len (k := k) (a := arr (k + 2) p) (b := arr (k + 2) q) c hsA
  have hfl : ∀ r ∈ [(tidy (k + 2) p : PlainD (PD (k + 1))), withoutQ (tidy (k + 2) q : PlainD (PD (k + 1))) (tidy (k + 2) p)], 0 ≤ r.fill := by
    intro r hr
    rcases List.mem_cons.1 hr with e | hr
    · rw [e]; exact flp.2.1
    · rw [List.mem_singleton.1 hr]; exact flq.2.1
  obtain ⟨eqU, rsU⟩ := unique_res hfp ssp
  obtain ⟨eqW, rsW⟩ := without_res hfp hfq ssp ssq keep
  refine Zerun ?_
  refine Zerun ?_
  obtain ⟨most, hmost⟩ : ∃ most : Int, x % 3000 = most := ⟨_, rfl⟩
  rw [hmost]
  refine RW.val (Y.conv64 (u := most) T rfl rfl rfl (by omega)) rfl ?_
  obtain ⟨eqN, rsN⟩ := union_res hfp hfq ssp ssq most hsA
  obtain ⟨eU, heUe⟩ : ∃ z, (uniqueS (k := k) (arr (k + 2) p)).1 = z := ⟨_, rfl⟩
  obtain ⟨aU, haUe⟩ : ∃ z, (uniqueS (k := k) (arr (k + 2) p)).2 = z := ⟨_, rfl⟩
  obtain ⟨pU, hpUe⟩ : ∃ z, (uniqueR (α := PD (k + 1)) (tidy (k + 2) p)).2 = z := ⟨_, rfl⟩
  rw [heUe, haUe, hpUe] at rsU
  rw [heUe] at eqU
  have eqU := eqU.symm
  obtain ⟨eW, heWe⟩ : ∃ z, (withoutS (k := k) (arr (k + 2) p) (arr (k + 2) q) keep).1 = z := ⟨_, rfl⟩
  obtain ⟨aW, haWe⟩ : ∃ z, (withoutS (k := k) (arr (k + 2) p) (arr (k + 2) q) keep).2 = z := ⟨_, rfl⟩
  obtain ⟨pW, hpWe⟩ : ∃ z, (withoutR (α := PD (k + 1)) (tidy (k + 2) p) (tidy (k + 2) q) keep).2 = z := ⟨_, rfl⟩
  rw [heWe, haWe, hpWe] at rsW
  rw [heWe] at eqW
  have eqW := eqW.symm
  obtain ⟨eN, heNe⟩ : ∃ z, (unionS (k := k) (arr (k + 2) p) (arr (k + 2) q) most).1 = z := ⟨_, rfl⟩
  obtain ⟨aN, haNe⟩ : ∃ z, (unionS (k := k) (arr (k + 2) p) (arr (k + 2) q) most).2 = z := ⟨_, rfl⟩
  obtain ⟨pN, hpNe⟩ : ∃ z, (unionR (α := PD (k + 1)) (tidy (k + 2) p) (tidy (k + 2) q) most).2 = z := ⟨_, rfl⟩
  rw [heNe, haNe, hpNe] at rsN
  rw [heNe] at eqN
  have eqN := eqN.symm
  have hlpm : (PlainD.items (α := PD (k + 1)) (tidy (k + 2) p)).length ≤ 1048576 := by omega
  have hlqm : (PlainD.items (α := PD (k + 1)) (tidy (k + 2) q)).length ≤ 1048576 := by omega
  refine Zerun ?_
  (refine RW.call T hs rfl rfl rfl (of07_con (k + 2) _ p _ _ hp' hcp) ?_; intro v h48 w48 hle48 hp48 hs)
  obtain ⟨cs48, rfl, _, _, hn48⟩ := hp48
  have hp' := PlainAt.mono (k + 2) _ _ _ _ hle48 hp'
  have hq' := PlainAt.mono (k + 2) _ _ _ _ hle48 hq'
  have hT := hT.mono hle48
  refine Zerun ?_
  (refine RW.call T hs rfl rfl rfl (baseUnique_con k _ (arr (k + 2) p) _ _ hn48 hsmp.2.2 hsmp.2.1 hfp.sh.k0) ?_; intro v h49 w49 hle49 hp49 hs)
  obtain ⟨cs49, rfl, ha49⟩ := hp49
  rw [haUe] at ha49
  rw [heUe]
  obtain ⟨_, vc49, rfl, ⟨ad49, cap49, rfl, _⟩, hv49⟩ := id ha49
  obtain ⟨wv49, nv49, sm49, il49, fl49, ch49, bx49, ⟨rfl, hoc49⟩, -⟩ := hv49
  have hall49 : (Value.oneCell' (.slice ad49 (ArrD.shape (α := AD (k + 1)) aU).length cap49) && (vecCells (ArrD.vec (α := AD (k + 1)) aU).kind wv49 nv49 sm49 il49 fl49 ch49 bx49).all Value.oneCell') = true := by rw [hoc49]; rfl
  have hp' := PlainAt.mono (k + 2) _ _ _ _ hle49 hp'
  have hq' := PlainAt.mono (k + 2) _ _ _ _ hle49 hq'
  have hT := hT.mono hle49
  refine Zerun ?_
  (refine RW.allocN T hs rfl rfl rfl rfl ?_; intro b10 w10 hs)
  refine RW.storeAll T hs 0 rfl rfl rfl rfl rfl rfl hall49 rfl ?_
  intro w949 hs
  have haU := ha49
  refine Zerun ?_
  (refine RW.call T hs rfl rfl rfl (refTidyP_con (k + 2) 40 _ p _ _ hp' hcp) ?_; intro v h54 w54 hle54 hp54 hs)
  obtain ⟨cs54, rfl, hq54⟩ := hp54
  have hp' := PlainAt.mono (k + 2) _ _ _ _ hle54 hp'
  have hq' := PlainAt.mono (k + 2) _ _ _ _ hle54 hq'
  have hT := hT.mono hle54
  have haU := ArrAt.mono (k + 2) _ _ _ _ hle54 haU
  refine Zerun ?_
  (refine RW.call T hs rfl rfl rfl (ref27Unique_con k _ (tidy (k + 2) p) _ _ hq54 tp hlpm) ?_; intro v h55 w55 hle55 hp55 hs)
  obtain ⟨cs55, rfl, hq55⟩ := hp55
  rw [hpUe] at hq55
  rw [eqU]
  have hq55 : PlainAt (k + 2) h55 cs55 pU := hq55
  obtain ⟨s55, it55, rfl, ⟨adS55, cpS55, rfl, _⟩, ⟨adI55, cpI55, xsI55, rfl, _, _⟩⟩ := id hq55
  have hp' := PlainAt.mono (k + 2) _ _ _ _ hle55 hp'
  have hq' := PlainAt.mono (k + 2) _ _ _ _ hle55 hq'
  have hT := hT.mono hle55
  have haU := ArrAt.mono (k + 2) _ _ _ _ hle55 haU
  refine Zerun ?_
  (refine RW.allocN T hs rfl rfl rfl rfl ?_; intro b12 w12 hs)
  refine RW.storeAll T hs 0 rfl rfl rfl rfl rfl rfl rfl rfl ?_
  intro w955 hs
  have hpU := hq55
  refine Zerun ?_
  refine CW.meet (fun r : Nat × List Value × GHeap => [(2, .bool keep), (4, .pointer (some ⟨b1, 0, none⟩)), (5, .pointer (some ⟨b2, 0, none⟩)), (9, .int .i64 most), (10, .pointer (some ⟨b10, 0, none⟩)), (11, .int .i64 eU), (12, .pointer (some ⟨b12, 0, none⟩)), (13, .int .i64 eU), (14, .pointer (some ⟨r.1, 0, none⟩)), (15, .int .i64 eW)]) (fun r w' => ArrAt (k + 2) r.2.2 r.2.1 aW ∧ ArrAt (k + 2) r.2.2 (.slice ad49 (ArrD.shape (α := AD (k + 1)) aU).length cap49 :: vecCells (ArrD.vec (α := AD (k + 1)) aU).kind wv49 nv49 sm49 il49 fl49 ch49 bx49) aU ∧ PlainAt (k + 2) r.2.2 [.slice adS55 (PlainD.shape (α := PD (k + 1)) pU).length cpS55, .slice adI55 (PlainD.items (α := PD (k + 1)) pU).length cpI55, .int .i64 (PlainD.fill (α := PD (k + 1)) pU)] pU ∧  PlainAt (k + 2) r.2.2 [.slice ad (PlainD.shape (α := PD (k + 1)) p).length cp, .slice ad2 (PlainD.items (α := PD (k + 1)) p).length cp2, .int .i64 (PlainD.fill (α := PD (k + 1)) p)] p ∧ PlainAt (k + 2) r.2.2 [.slice ad3 (PlainD.shape (α := PD (k + 1)) q).length cp3, .slice ad4 (PlainD.items (α := PD (k + 1)) q).length cp4, .int .i64 (PlainD.fill (α := PD (k + 1)) q)] q ∧ TzTab r.2.2 ∧ Sees w h r.2.2 [⟨some ⟨r.1, 0, none⟩, 1, 1, 40, 9, r.2.1⟩, ⟨some ⟨b12, 0, none⟩, 1, 1, 25, 3, [.slice adS55 (PlainD.shape (α := PD (k + 1)) pU).length cpS55, .slice adI55 (PlainD.items (α := PD (k + 1)) pU).length cpI55, .int .i64 (PlainD.fill (α := PD (k + 1)) pU)]⟩, ⟨some ⟨b10, 0, none⟩, 1, 1, 40, 9, (.slice ad49 (ArrD.shape (α := AD (k + 1)) aU).length cap49 :: vecCells (ArrD.vec (α := AD (k + 1)) aU).kind wv49 nv49 sm49 il49 fl49 ch49 bx49)⟩, ⟨some ⟨b2, 0, none⟩, 1, 1, 25, 3, [.slice ad3 (PlainD.shape (α := PD (k + 1)) q).length cp3, .slice ad4 (PlainD.items (α := PD (k + 1)) q).length cp4, .int .i64 (PlainD.fill (α := PD (k + 1)) q)]⟩, ⟨some ⟨b1, 0, none⟩, 1, 1, 25, 3, [.slice ad (PlainD.shape (α := PD (k + 1)) p).length cp, .slice ad2 (PlainD.items (α := PD (k + 1)) p).length cp2, .int .i64 (PlainD.fill (α := PD (k + 1)) p)]⟩] w') ?_ ?_
  · refine CW.regionR T 3 2 hs rfl rfl ?_
    intro w864 hs
    refine HW.takeR (fuel := 11) 0 rfl (fun _ _ ka kb _ hs hka hkb => Y.loadRowN T hs ka hka rfl rfl rfl rfl rfl rfl) ⟨_, _, 3, 2, hs, rfl, rfl⟩ rfl (by kernel_rfl) (by kernel_rfl) (by kernel_rfl) ?_
    refine HW.takeR (fuel := 10) 2 rfl (fun _ _ ka kb _ hs hka hkb => Y.loadRowN T hs kb hkb rfl rfl rfl rfl rfl rfl) ⟨_, _, 3, 2, hs, rfl, rfl⟩ rfl (by kernel_rfl) (by kernel_rfl) (by kernel_rfl) ?_
    refine HW.takeR (fuel := 9) 4 rfl (fun _ _ ka kb _ hs hka hkb => Y.move rfl) ⟨_, _, 3, 2, hs, rfl, rfl⟩ rfl (by kernel_rfl) (by kernel_rfl) (by kernel_rfl) ?_
    refine HW.two (fuel := 8) 1 9 rfl rfl (by kernel_rfl) ?_ ?_
    · (refine RW.call T hs rfl rfl rfl (of07_con (k + 2) _ p _ _ hp' hcp) ?_; intro v h60 w60 hle60 hp60 hs)
      obtain ⟨cs60, rfl, _, _, hn60⟩ := hp60
      have hp' := PlainAt.mono (k + 2) _ _ _ _ hle60 hp'
      have hq' := PlainAt.mono (k + 2) _ _ _ _ hle60 hq'
      have hT := hT.mono hle60
      have haU := ArrAt.mono (k + 2) _ _ _ _ hle60 haU
      have hpU := PlainAt.mono (k + 2) _ _ _ _ hle60 hpU
      refine RW.nil ?_
      refine heldQ_normal ⟨_, _, 3, 2, hs, rfl, rfl⟩ ?_
      refine HW.two (fuel := 7) 3 9 rfl rfl (by kernel_rfl) ?_ ?_
      · (refine RW.call T hs rfl rfl rfl (of07_con (k + 2) _ q _ _ hq' hcq) ?_; intro v h62 w62 hle62 hp62 hs)
        obtain ⟨cs62, rfl, _, _, hn62⟩ := hp62
        have hp' := PlainAt.mono (k + 2) _ _ _ _ hle62 hp'
        have hq' := PlainAt.mono (k + 2) _ _ _ _ hle62 hq'
        have hT := hT.mono hle62
        have haU := ArrAt.mono (k + 2) _ _ _ _ hle62 haU
        have hpU := PlainAt.mono (k + 2) _ _ _ _ hle62 hpU
        have hn60 := ArrAt.mono (k + 2) _ _ _ _ hle62 hn60
        refine RW.nil ?_
        refine heldQ_normal ⟨_, _, 3, 2, hs, rfl, rfl⟩ ?_
        refine HW.two (fuel := 6) 5 9 rfl rfl (by kernel_rfl) ?_ ?_
        · (refine RW.call T hs rfl rfl rfl (baseWithout_con k _ _ (arr (k + 2) p) (arr (k + 2) q) keep _ _ hn60 hn62 hsmp.2.2 hsmp.2.1 hsmq.2.2 hsmq.2.1 hfp.sh.k0) ?_; intro v h64 w64 hle64 hp64 hs)
          obtain ⟨cs64, rfl, ha64⟩ := hp64
          rw [haWe] at ha64
          rw [heWe]
          obtain ⟨_, vc64, rfl, ⟨ad64, cap64, rfl, _⟩, hv64⟩ := id ha64
          obtain ⟨wv64, nv64, sm64, il64, fl64, ch64, bx64, ⟨rfl, hoc64⟩, -⟩ := hv64
          have hall64 : (Value.oneCell' (.slice ad64 (ArrD.shape (α := AD (k + 1)) aW).length cap64) && (vecCells (ArrD.vec (α := AD (k + 1)) aW).kind wv64 nv64 sm64 il64 fl64 ch64 bx64).all Value.oneCell') = true := by rw [hoc64]; rfl
          have hp' := PlainAt.mono (k + 2) _ _ _ _ hle64 hp'
          have hq' := PlainAt.mono (k + 2) _ _ _ _ hle64 hq'
          have hT := hT.mono hle64
          have haU := ArrAt.mono (k + 2) _ _ _ _ hle64 haU
          have hpU := PlainAt.mono (k + 2) _ _ _ _ hle64 hpU
          have hn60 := ArrAt.mono (k + 2) _ _ _ _ hle64 hn60
          have hn62 := ArrAt.mono (k + 2) _ _ _ _ hle64 hn62
          refine RW.nil ?_
          refine heldQ_normal ⟨_, _, 3, 2, hs, rfl, rfl⟩ ?_
          refine HW.takeR (fuel := 5) 6 rfl (fun _ _ ka kb _ hs hka hkb => Y.move rfl) ⟨_, _, 3, 2, hs, rfl, rfl⟩ rfl (by kernel_rfl) (by kernel_rfl) (by kernel_rfl) ?_
          refine HW.takeR (fuel := 4) 7 rfl (fun _ _ ka kb _ hs hka hkb => Y.extract rfl rfl) ⟨_, _, 3, 2, hs, rfl, rfl⟩ rfl (by kernel_rfl) (by kernel_rfl) (by kernel_rfl) ?_
          refine HW.takeR (fuel := 3) 8 rfl (fun _ _ ka kb _ hs hka hkb => Y.extract rfl rfl) ⟨_, _, 3, 2, hs, rfl, rfl⟩ rfl (by kernel_rfl) (by kernel_rfl) (by kernel_rfl) ?_
          refine HW.one (fuel := 2) 9 rfl (by kernel_rfl) ?_
          (refine RW.allocN T hs rfl rfl rfl rfl ?_; intro b14 w14 hs)
          refine RW.nil ?_
          refine heldQ_normal ⟨_, _, 4, 3, hs, rfl, rfl⟩ ?_
          refine HW.one (fuel := 1) 10 rfl (by kernel_rfl) ?_
          refine RW.storeAll T hs 0 rfl rfl rfl rfl rfl rfl hall64 rfl ?_
          intro w964 hs
          refine RW.nil ?_
          refine heldQ_normal ⟨_, _, 4, 3, hs, rfl, rfl⟩ ?_
          refine HW.takeR (fuel := 0) 11 rfl (fun _ _ ka kb _ hs hka hkb => Y.assign rfl) ⟨_, _, 4, 3, hs, rfl, rfl⟩ rfl (by kernel_rfl) (by kernel_rfl) (by kernel_rfl) ?_
          refine HW.done (by kernel_rfl) ?_
          refine calmQ_normal ?_
          exact joinQ_meet (b14, _, h64) ⟨rfl, rfl, rfl, rfl, rfl, rfl, rfl, rfl, rfl, rfl, trivial⟩ ⟨ha64, haU, hpU,  hp', hq', hT, hs⟩
        · (refine RW.allocN T hs rfl rfl rfl rfl ?_; intro b14 w14 hs)
          refine RW.nil ?_
          refine heldQ_normal ⟨_, _, 4, 3, hs, rfl, rfl⟩ ?_
          refine HW.one (fuel := 5) 5 rfl (by kernel_rfl) ?_
          (refine RW.call T hs rfl rfl rfl (baseWithout_con k _ _ (arr (k + 2) p) (arr (k + 2) q) keep _ _ hn60 hn62 hsmp.2.2 hsmp.2.1 hsmq.2.2 hsmq.2.1 hfp.sh.k0) ?_; intro v h64 w64 hle64 hp64 hs)
          obtain ⟨cs64, rfl, ha64⟩ := hp64
          rw [haWe] at ha64
          rw [heWe]
          obtain ⟨_, vc64, rfl, ⟨ad64, cap64, rfl, _⟩, hv64⟩ := id ha64
          obtain ⟨wv64, nv64, sm64, il64, fl64, ch64, bx64, ⟨rfl, hoc64⟩, -⟩ := hv64
          have hall64 : (Value.oneCell' (.slice ad64 (ArrD.shape (α := AD (k + 1)) aW).length cap64) && (vecCells (ArrD.vec (α := AD (k + 1)) aW).kind wv64 nv64 sm64 il64 fl64 ch64 bx64).all Value.oneCell') = true := by rw [hoc64]; rfl
          have hp' := PlainAt.mono (k + 2) _ _ _ _ hle64 hp'
          have hq' := PlainAt.mono (k + 2) _ _ _ _ hle64 hq'
          have hT := hT.mono hle64
          have haU := ArrAt.mono (k + 2) _ _ _ _ hle64 haU
          have hpU := PlainAt.mono (k + 2) _ _ _ _ hle64 hpU
          have hn60 := ArrAt.mono (k + 2) _ _ _ _ hle64 hn60
          have hn62 := ArrAt.mono (k + 2) _ _ _ _ hle64 hn62
          refine RW.nil ?_
          refine heldQ_normal ⟨_, _, 4, 3, hs, rfl, rfl⟩ ?_
          refine HW.takeR (fuel := 4) 6 rfl (fun _ _ ka kb _ hs hka hkb => Y.move rfl) ⟨_, _, 4, 3, hs, rfl, rfl⟩ rfl (by kernel_rfl) (by kernel_rfl) (by kernel_rfl) ?_
          refine HW.takeR (fuel := 3) 7 rfl (fun _ _ ka kb _ hs hka hkb => Y.extract rfl rfl) ⟨_, _, 4, 3, hs, rfl, rfl⟩ rfl (by kernel_rfl) (by kernel_rfl) (by kernel_rfl) ?_
          refine HW.takeR (fuel := 2) 8 rfl (fun _ _ ka kb _ hs hka hkb => Y.extract rfl rfl) ⟨_, _, 4, 3, hs, rfl, rfl⟩ rfl (by kernel_rfl) (by kernel_rfl) (by kernel_rfl) ?_
          refine HW.one (fuel := 1) 10 rfl (by kernel_rfl) ?_
          refine RW.storeAll T hs 0 rfl rfl rfl rfl rfl rfl hall64 rfl ?_
          intro w964 hs
          refine RW.nil ?_
          refine heldQ_normal ⟨_, _, 4, 3, hs, rfl, rfl⟩ ?_
          refine HW.takeR (fuel := 0) 11 rfl (fun _ _ ka kb _ hs hka hkb => Y.assign rfl) ⟨_, _, 4, 3, hs, rfl, rfl⟩ rfl (by kernel_rfl) (by kernel_rfl) (by kernel_rfl) ?_
          refine HW.done (by kernel_rfl) ?_
          refine calmQ_normal ?_
          exact joinQ_meet (b14, _, h64) ⟨rfl, rfl, rfl, rfl, rfl, rfl, rfl, rfl, rfl, rfl, trivial⟩ ⟨ha64, haU, hpU,  hp', hq', hT, hs⟩
      · (refine RW.allocN T hs rfl rfl rfl rfl ?_; intro b14 w14 hs)
        refine RW.nil ?_
        refine heldQ_normal ⟨_, _, 4, 3, hs, rfl, rfl⟩ ?_
        refine HW.one (fuel := 6) 3 rfl (by kernel_rfl) ?_
        (refine RW.call T hs rfl rfl rfl (of07_con (k + 2) _ q _ _ hq' hcq) ?_; intro v h62 w62 hle62 hp62 hs)
        obtain ⟨cs62, rfl, _, _, hn62⟩ := hp62
        have hp' := PlainAt.mono (k + 2) _ _ _ _ hle62 hp'
        have hq' := PlainAt.mono (k + 2) _ _ _ _ hle62 hq'
        have hT := hT.mono hle62
        have haU := ArrAt.mono (k + 2) _ _ _ _ hle62 haU
        have hpU := PlainAt.mono (k + 2) _ _ _ _ hle62 hpU
        have hn60 := ArrAt.mono (k + 2) _ _ _ _ hle62 hn60
        refine RW.nil ?_
        refine heldQ_normal ⟨_, _, 4, 3, hs, rfl, rfl⟩ ?_
        refine HW.one (fuel := 5) 5 rfl (by kernel_rfl) ?_
        (refine RW.call T hs rfl rfl rfl (baseWithout_con k _ _ (arr (k + 2) p) (arr (k + 2) q) keep _ _ hn60 hn62 hsmp.2.2 hsmp.2.1 hsmq.2.2 hsmq.2.1 hfp.sh.k0) ?_; intro v h64 w64 hle64 hp64 hs)
        obtain ⟨cs64, rfl, ha64⟩ := hp64
        rw [haWe] at ha64
        rw [heWe]
        obtain ⟨_, vc64, rfl, ⟨ad64, cap64, rfl, _⟩, hv64⟩ := id ha64
        obtain ⟨wv64, nv64, sm64, il64, fl64, ch64, bx64, ⟨rfl, hoc64⟩, -⟩ := hv64
        have hall64 : (Value.oneCell' (.slice ad64 (ArrD.shape (α := AD (k + 1)) aW).length cap64) && (vecCells (ArrD.vec (α := AD (k + 1)) aW).kind wv64 nv64 sm64 il64 fl64 ch64 bx64).all Value.oneCell') = true := by rw [hoc64]; rfl
        have hp' := PlainAt.mono (k + 2) _ _ _ _ hle64 hp'
        have hq' := PlainAt.mono (k + 2) _ _ _ _ hle64 hq'
        have hT := hT.mono hle64
        have haU := ArrAt.mono (k + 2) _ _ _ _ hle64 haU
        have hpU := PlainAt.mono (k + 2) _ _ _ _ hle64 hpU
        have hn60 := ArrAt.mono (k + 2) _ _ _ _ hle64 hn60
        have hn62 := ArrAt.mono (k + 2) _ _ _ _ hle64 hn62
        refine RW.nil ?_
        refine heldQ_normal ⟨_, _, 4, 3, hs, rfl, rfl⟩ ?_
        refine HW.takeR (fuel := 4) 6 rfl (fun _ _ ka kb _ hs hka hkb => Y.move rfl) ⟨_, _, 4, 3, hs, rfl, rfl⟩ rfl (by kernel_rfl) (by kernel_rfl) (by kernel_rfl) ?_
        refine HW.takeR (fuel := 3) 7 rfl (fun _ _ ka kb _ hs hka hkb => Y.extract rfl rfl) ⟨_, _, 4, 3, hs, rfl, rfl⟩ rfl (by kernel_rfl) (by kernel_rfl) (by kernel_rfl) ?_
        refine HW.takeR (fuel := 2) 8 rfl (fun _ _ ka kb _ hs hka hkb => Y.extract rfl rfl) ⟨_, _, 4, 3, hs, rfl, rfl⟩ rfl (by kernel_rfl) (by kernel_rfl) (by kernel_rfl) ?_
        refine HW.one (fuel := 1) 10 rfl (by kernel_rfl) ?_
        refine RW.storeAll T hs 0 rfl rfl rfl rfl rfl rfl hall64 rfl ?_
        intro w964 hs
        refine RW.nil ?_
        refine heldQ_normal ⟨_, _, 4, 3, hs, rfl, rfl⟩ ?_
        refine HW.takeR (fuel := 0) 11 rfl (fun _ _ ka kb _ hs hka hkb => Y.assign rfl) ⟨_, _, 4, 3, hs, rfl, rfl⟩ rfl (by kernel_rfl) (by kernel_rfl) (by kernel_rfl) ?_
        refine HW.done (by kernel_rfl) ?_
        refine calmQ_normal ?_
        exact joinQ_meet (b14, _, h64) ⟨rfl, rfl, rfl, rfl, rfl, rfl, rfl, rfl, rfl, rfl, trivial⟩ ⟨ha64, haU, hpU,  hp', hq', hT, hs⟩
    · (refine RW.allocN T hs rfl rfl rfl rfl ?_; intro b14 w14 hs)
      refine RW.nil ?_
      refine heldQ_normal ⟨_, _, 4, 3, hs, rfl, rfl⟩ ?_
      refine HW.one (fuel := 7) 1 rfl (by kernel_rfl) ?_
      (refine RW.call T hs rfl rfl rfl (of07_con (k + 2) _ p _ _ hp' hcp) ?_; intro v h60 w60 hle60 hp60 hs)
      obtain ⟨cs60, rfl, _, _, hn60⟩ := hp60
      have hp' := PlainAt.mono (k + 2) _ _ _ _ hle60 hp'
      have hq' := PlainAt.mono (k + 2) _ _ _ _ hle60 hq'
      have hT := hT.mono hle60
      have haU := ArrAt.mono (k + 2) _ _ _ _ hle60 haU
      have hpU := PlainAt.mono (k + 2) _ _ _ _ hle60 hpU
      refine RW.nil ?_
      refine heldQ_normal ⟨_, _, 4, 3, hs, rfl, rfl⟩ ?_
      refine HW.one (fuel := 6) 3 rfl (by kernel_rfl) ?_
      (refine RW.call T hs rfl rfl rfl (of07_con (k + 2) _ q _ _ hq' hcq) ?_; intro v h62 w62 hle62 hp62 hs)
      obtain ⟨cs62, rfl, _, _, hn62⟩ := hp62
      have hp' := PlainAt.mono (k + 2) _ _ _ _ hle62 hp'
      have hq' := PlainAt.mono (k + 2) _ _ _ _ hle62 hq'
      have hT := hT.mono hle62
      have haU := ArrAt.mono (k + 2) _ _ _ _ hle62 haU
      have hpU := PlainAt.mono (k + 2) _ _ _ _ hle62 hpU
      have hn60 := ArrAt.mono (k + 2) _ _ _ _ hle62 hn60
      refine RW.nil ?_
      refine heldQ_normal ⟨_, _, 4, 3, hs, rfl, rfl⟩ ?_
      refine HW.one (fuel := 5) 5 rfl (by kernel_rfl) ?_
      (refine RW.call T hs rfl rfl rfl (baseWithout_con k _ _ (arr (k + 2) p) (arr (k + 2) q) keep _ _ hn60 hn62 hsmp.2.2 hsmp.2.1 hsmq.2.2 hsmq.2.1 hfp.sh.k0) ?_; intro v h64 w64 hle64 hp64 hs)
      obtain ⟨cs64, rfl, ha64⟩ := hp64
      rw [haWe] at ha64
      rw [heWe]
      obtain ⟨_, vc64, rfl, ⟨ad64, cap64, rfl, _⟩, hv64⟩ := id ha64
      obtain ⟨wv64, nv64, sm64, il64, fl64, ch64, bx64, ⟨rfl, hoc64⟩, -⟩ := hv64
      have hall64 : (Value.oneCell' (.slice ad64 (ArrD.shape (α := AD (k + 1)) aW).length cap64) && (vecCells (ArrD.vec (α := AD (k + 1)) aW).kind wv64 nv64 sm64 il64 fl64 ch64 bx64).all Value.oneCell') = true := by rw [hoc64]; rfl
      have hp' := PlainAt.mono (k + 2) _ _ _ _ hle64 hp'
      have hq' := PlainAt.mono (k + 2) _ _ _ _ hle64 hq'
      have hT := hT.mono hle64
      have haU := ArrAt.mono (k + 2) _ _ _ _ hle64 haU
      have hpU := PlainAt.mono (k + 2) _ _ _ _ hle64 hpU
      have hn60 := ArrAt.mono (k + 2) _ _ _ _ hle64 hn60
      have hn62 := ArrAt.mono (k + 2) _ _ _ _ hle64 hn62
      refine RW.nil ?_
      refine heldQ_normal ⟨_, _, 4, 3, hs, rfl, rfl⟩ ?_
      refine HW.takeR (fuel := 4) 6 rfl (fun _ _ ka kb _ hs hka hkb => Y.move rfl) ⟨_, _, 4, 3, hs, rfl, rfl⟩ rfl (by kernel_rfl) (by kernel_rfl) (by kernel_rfl) ?_
      refine HW.takeR (fuel := 3) 7 rfl (fun _ _ ka kb _ hs hka hkb => Y.extract rfl rfl) ⟨_, _, 4, 3, hs, rfl, rfl⟩ rfl (by kernel_rfl) (by kernel_rfl) (by kernel_rfl) ?_
      refine HW.takeR (fuel := 2) 8 rfl (fun _ _ ka kb _ hs hka hkb => Y.extract rfl rfl) ⟨_, _, 4, 3, hs, rfl, rfl⟩ rfl (by kernel_rfl) (by kernel_rfl) (by kernel_rfl) ?_
      refine HW.one (fuel := 1) 10 rfl (by kernel_rfl) ?_
      refine RW.storeAll T hs 0 rfl rfl rfl rfl rfl rfl hall64 rfl ?_
      intro w964 hs
      refine RW.nil ?_
      refine heldQ_normal ⟨_, _, 4, 3, hs, rfl, rfl⟩ ?_
      refine HW.takeR (fuel := 0) 11 rfl (fun _ _ ka kb _ hs hka hkb => Y.assign rfl) ⟨_, _, 4, 3, hs, rfl, rfl⟩ rfl (by kernel_rfl) (by kernel_rfl) (by kernel_rfl) ?_
      refine HW.done (by kernel_rfl) ?_
      refine calmQ_normal ?_
      exact joinQ_meet (b14, _, h64) ⟨rfl, rfl, rfl, rfl, rfl, rfl, rfl, rfl, rfl, rfl, trivial⟩ ⟨ha64, haU, hpU,  hp', hq', hT, hs⟩
  rintro ⟨b14, cs64, h64⟩ w64 ⟨haW, haU, hpU, hp', hq', hT, hs⟩
  dsimp only at haW haU hpU hp' hq' hT hs ⊢
  obtain ⟨_, vc64, rfl, ⟨ad64, cap64, rfl, _⟩, hv64⟩ := id haW
  obtain ⟨wv64, nv64, sm64, il64, fl64, ch64, bx64, ⟨rfl, hoc64⟩, -⟩ := hv64
  refine Zerun ?_
  refine CW.meet (fun r : Nat × List Value × GHeap => [(2, .bool keep), (4, .pointer (some ⟨b1, 0, none⟩)), (5, .pointer (some ⟨b2, 0, none⟩)), (9, .int .i64 most), (10, .pointer (some ⟨b10, 0, none⟩)), (11, .int .i64 eU), (12, .pointer (some ⟨b12, 0, none⟩)), (13, .int .i64 eU), (14, .pointer (some ⟨b14, 0, none⟩)), (15, .int .i64 eW), (16, .pointer (some ⟨r.1, 0, none⟩)), (17, .int .i64 eW)]) (fun r w' => PlainAt (k + 2) r.2.2 r.2.1 pW ∧ ArrAt (k + 2) r.2.2 (.slice ad49 (ArrD.shape (α := AD (k + 1)) aU).length cap49 :: vecCells (ArrD.vec (α := AD (k + 1)) aU).kind wv49 nv49 sm49 il49 fl49 ch49 bx49) aU ∧ PlainAt (k + 2) r.2.2 [.slice adS55 (PlainD.shape (α := PD (k + 1)) pU).length cpS55, .slice adI55 (PlainD.items (α := PD (k + 1)) pU).length cpI55, .int .i64 (PlainD.fill (α := PD (k + 1)) pU)] pU ∧ ArrAt (k + 2) r.2.2 (.slice ad64 (ArrD.shape (α := AD (k + 1)) aW).length cap64 :: vecCells (ArrD.vec (α := AD (k + 1)) aW).kind wv64 nv64 sm64 il64 fl64 ch64 bx64) aW ∧  PlainAt (k + 2) r.2.2 [.slice ad (PlainD.shape (α := PD (k + 1)) p).length cp, .slice ad2 (PlainD.items (α := PD (k + 1)) p).length cp2, .int .i64 (PlainD.fill (α := PD (k + 1)) p)] p ∧ PlainAt (k + 2) r.2.2 [.slice ad3 (PlainD.shape (α := PD (k + 1)) q).length cp3, .slice ad4 (PlainD.items (α := PD (k + 1)) q).length cp4, .int .i64 (PlainD.fill (α := PD (k + 1)) q)] q ∧ TzTab r.2.2 ∧ Sees w h r.2.2 [⟨some ⟨r.1, 0, none⟩, 1, 1, 25, 3, r.2.1⟩, ⟨some ⟨b14, 0, none⟩, 1, 1, 40, 9, (.slice ad64 (ArrD.shape (α := AD (k + 1)) aW).length cap64 :: vecCells (ArrD.vec (α := AD (k + 1)) aW).kind wv64 nv64 sm64 il64 fl64 ch64 bx64)⟩, ⟨some ⟨b12, 0, none⟩, 1, 1, 25, 3, [.slice adS55 (PlainD.shape (α := PD (k + 1)) pU).length cpS55, .slice adI55 (PlainD.items (α := PD (k + 1)) pU).length cpI55, .int .i64 (PlainD.fill (α := PD (k + 1)) pU)]⟩, ⟨some ⟨b10, 0, none⟩, 1, 1, 40, 9, (.slice ad49 (ArrD.shape (α := AD (k + 1)) aU).length cap49 :: vecCells (ArrD.vec (α := AD (k + 1)) aU).kind wv49 nv49 sm49 il49 fl49 ch49 bx49)⟩, ⟨some ⟨b2, 0, none⟩, 1, 1, 25, 3, [.slice ad3 (PlainD.shape (α := PD (k + 1)) q).length cp3, .slice ad4 (PlainD.items (α := PD (k + 1)) q).length cp4, .int .i64 (PlainD.fill (α := PD (k + 1)) q)]⟩, ⟨some ⟨b1, 0, none⟩, 1, 1, 25, 3, [.slice ad (PlainD.shape (α := PD (k + 1)) p).length cp, .slice ad2 (PlainD.items (α := PD (k + 1)) p).length cp2, .int .i64 (PlainD.fill (α := PD (k + 1)) p)]⟩] w') ?_ ?_
  · refine CW.regionR T 4 3 hs rfl rfl ?_
    intro w873 hs
    refine HW.takeR (fuel := 11) 0 rfl (fun _ _ ka kb _ hs hka hkb => Y.loadRowN T hs ka hka rfl rfl rfl rfl rfl rfl) ⟨_, _, 4, 3, hs, rfl, rfl⟩ rfl (by kernel_rfl) (by kernel_rfl) (by kernel_rfl) ?_
    refine HW.takeR (fuel := 10) 2 rfl (fun _ _ ka kb _ hs hka hkb => Y.loadRowN T hs kb hkb rfl rfl rfl rfl rfl rfl) ⟨_, _, 4, 3, hs, rfl, rfl⟩ rfl (by kernel_rfl) (by kernel_rfl) (by kernel_rfl) ?_
    refine HW.takeR (fuel := 9) 4 rfl (fun _ _ ka kb _ hs hka hkb => Y.move rfl) ⟨_, _, 4, 3, hs, rfl, rfl⟩ rfl (by kernel_rfl) (by kernel_rfl) (by kernel_rfl) ?_
    refine HW.two (fuel := 8) 1 9 rfl rfl (by kernel_rfl) ?_ ?_
    · (refine RW.call T hs rfl rfl rfl (refTidyP_con (k + 2) 40 _ p _ _ hp' hcp) ?_; intro v h69 w69 hle69 hp69 hs)
      obtain ⟨cs69, rfl, hq69⟩ := hp69
      have hp' := PlainAt.mono (k + 2) _ _ _ _ hle69 hp'
      have hq' := PlainAt.mono (k + 2) _ _ _ _ hle69 hq'
      have hT := hT.mono hle69
      have haU := ArrAt.mono (k + 2) _ _ _ _ hle69 haU
      have hpU := PlainAt.mono (k + 2) _ _ _ _ hle69 hpU
      have haW := ArrAt.mono (k + 2) _ _ _ _ hle69 haW
      refine RW.nil ?_
      refine heldQ_normal ⟨_, _, 4, 3, hs, rfl, rfl⟩ ?_
      refine HW.two (fuel := 7) 3 9 rfl rfl (by kernel_rfl) ?_ ?_
      · (refine RW.call T hs rfl rfl rfl (refTidyP_con (k + 2) 40 _ q _ _ hq' hcq) ?_; intro v h71 w71 hle71 hp71 hs)
        obtain ⟨cs71, rfl, hq71⟩ := hp71
        have hp' := PlainAt.mono (k + 2) _ _ _ _ hle71 hp'
        have hq' := PlainAt.mono (k + 2) _ _ _ _ hle71 hq'
        have hT := hT.mono hle71
        have haU := ArrAt.mono (k + 2) _ _ _ _ hle71 haU
        have hpU := PlainAt.mono (k + 2) _ _ _ _ hle71 hpU
        have haW := ArrAt.mono (k + 2) _ _ _ _ hle71 haW
        have hq69 := PlainAt.mono (k + 2) _ _ _ _ hle71 hq69
        refine RW.nil ?_
        refine heldQ_normal ⟨_, _, 4, 3, hs, rfl, rfl⟩ ?_
        refine HW.two (fuel := 6) 5 9 rfl rfl (by kernel_rfl) ?_ ?_
        · (refine RW.call T hs rfl rfl rfl (ref27Without_con k _ _ (tidy (k + 2) p) (tidy (k + 2) q) keep _ _ hq69 hq71 tp hlpm tq hlqm) ?_; intro v h73 w73 hle73 hp73 hs)
          obtain ⟨cs73, rfl, hq73⟩ := hp73
          rw [hpWe] at hq73
          rw [eqW]
          have hq73 : PlainAt (k + 2) h73 cs73 pW := hq73
          obtain ⟨s73, it73, rfl, ⟨adS73, cpS73, rfl, _⟩, ⟨adI73, cpI73, xsI73, rfl, _, _⟩⟩ := id hq73
          have hp' := PlainAt.mono (k + 2) _ _ _ _ hle73 hp'
          have hq' := PlainAt.mono (k + 2) _ _ _ _ hle73 hq'
          have hT := hT.mono hle73
          have haU := ArrAt.mono (k + 2) _ _ _ _ hle73 haU
          have hpU := PlainAt.mono (k + 2) _ _ _ _ hle73 hpU
          have haW := ArrAt.mono (k + 2) _ _ _ _ hle73 haW
          have hq69 := PlainAt.mono (k + 2) _ _ _ _ hle73 hq69
          have hq71 := PlainAt.mono (k + 2) _ _ _ _ hle73 hq71
          refine RW.nil ?_
          refine heldQ_normal ⟨_, _, 4, 3, hs, rfl, rfl⟩ ?_
          refine HW.takeR (fuel := 5) 6 rfl (fun _ _ ka kb _ hs hka hkb => Y.move rfl) ⟨_, _, 4, 3, hs, rfl, rfl⟩ rfl (by kernel_rfl) (by kernel_rfl) (by kernel_rfl) ?_
          refine HW.takeR (fuel := 4) 7 rfl (fun _ _ ka kb _ hs hka hkb => Y.extract rfl rfl) ⟨_, _, 4, 3, hs, rfl, rfl⟩ rfl (by kernel_rfl) (by kernel_rfl) (by kernel_rfl) ?_
          refine HW.takeR (fuel := 3) 8 rfl (fun _ _ ka kb _ hs hka hkb => Y.extract rfl rfl) ⟨_, _, 4, 3, hs, rfl, rfl⟩ rfl (by kernel_rfl) (by kernel_rfl) (by kernel_rfl) ?_
          refine HW.one (fuel := 2) 9 rfl (by kernel_rfl) ?_
          (refine RW.allocN T hs rfl rfl rfl rfl ?_; intro b16 w16 hs)
          refine RW.nil ?_
          refine heldQ_normal ⟨_, _, 5, 4, hs, rfl, rfl⟩ ?_
          refine HW.one (fuel := 1) 10 rfl (by kernel_rfl) ?_
          refine RW.storeAll T hs 0 rfl rfl rfl rfl rfl rfl rfl rfl ?_
          intro w973 hs
          refine RW.nil ?_
          refine heldQ_normal ⟨_, _, 5, 4, hs, rfl, rfl⟩ ?_
          refine HW.takeR (fuel := 0) 11 rfl (fun _ _ ka kb _ hs hka hkb => Y.assign rfl) ⟨_, _, 5, 4, hs, rfl, rfl⟩ rfl (by kernel_rfl) (by kernel_rfl) (by kernel_rfl) ?_
          refine HW.done (by kernel_rfl) ?_
          refine calmQ_normal ?_
          exact joinQ_meet (b16, _, h73) ⟨rfl, rfl, rfl, rfl, rfl, rfl, rfl, rfl, rfl, rfl, rfl, rfl, trivial⟩ ⟨hq73, haU, hpU, haW,  hp', hq', hT, hs⟩
        · (refine RW.allocN T hs rfl rfl rfl rfl ?_; intro b16 w16 hs)
          refine RW.nil ?_
          refine heldQ_normal ⟨_, _, 5, 4, hs, rfl, rfl⟩ ?_
          refine HW.one (fuel := 5) 5 rfl (by kernel_rfl) ?_
          (refine RW.call T hs rfl rfl rfl (ref27Without_con k _ _ (tidy (k + 2) p) (tidy (k + 2) q) keep _ _ hq69 hq71 tp hlpm tq hlqm) ?_; intro v h73 w73 hle73 hp73 hs)
          obtain ⟨cs73, rfl, hq73⟩ := hp73
          rw [hpWe] at hq73
          rw [eqW]
          have hq73 : PlainAt (k + 2) h73 cs73 pW := hq73
          obtain ⟨s73, it73, rfl, ⟨adS73, cpS73, rfl, _⟩, ⟨adI73, cpI73, xsI73, rfl, _, _⟩⟩ := id hq73
          have hp' := PlainAt.mono (k + 2) _ _ _ _ hle73 hp'
          have hq' := PlainAt.mono (k + 2) _ _ _ _ hle73 hq'
          have hT := hT.mono hle73
          have haU := ArrAt.mono (k + 2) _ _ _ _ hle73 haU
          have hpU := PlainAt.mono (k + 2) _ _ _ _ hle73 hpU
          have haW := ArrAt.mono (k + 2) _ _ _ _ hle73 haW
          have hq69 := PlainAt.mono (k + 2) _ _ _ _ hle73 hq69
          have hq71 := PlainAt.mono (k + 2) _ _ _ _ hle73 hq71
          refine RW.nil ?_
          refine heldQ_normal ⟨_, _, 5, 4, hs, rfl, rfl⟩ ?_
          refine HW.takeR (fuel := 4) 6 rfl (fun _ _ ka kb _ hs hka hkb => Y.move rfl) ⟨_, _, 5, 4, hs, rfl, rfl⟩ rfl (by kernel_rfl) (by kernel_rfl) (by kernel_rfl) ?_
          refine HW.takeR (fuel := 3) 7 rfl (fun _ _ ka kb _ hs hka hkb => Y.extract rfl rfl) ⟨_, _, 5, 4, hs, rfl, rfl⟩ rfl (by kernel_rfl) (by kernel_rfl) (by kernel_rfl) ?_
          refine HW.takeR (fuel := 2) 8 rfl (fun _ _ ka kb _ hs hka hkb => Y.extract rfl rfl) ⟨_, _, 5, 4, hs, rfl, rfl⟩ rfl (by kernel_rfl) (by kernel_rfl) (by kernel_rfl) ?_
          refine HW.one (fuel := 1) 10 rfl (by kernel_rfl) ?_
          refine RW.storeAll T hs 0 rfl rfl rfl rfl rfl rfl rfl rfl ?_
          intro w973 hs
          refine RW.nil ?_
          refine heldQ_normal ⟨_, _, 5, 4, hs, rfl, rfl⟩ ?_
          refine HW.takeR (fuel := 0) 11 rfl (fun _ _ ka kb _ hs hka hkb => Y.assign rfl) ⟨_, _, 5, 4, hs, rfl, rfl⟩ rfl (by kernel_rfl) (by kernel_rfl) (by kernel_rfl) ?_
          refine HW.done (by kernel_rfl) ?_
          refine calmQ_normal ?_
          exact joinQ_meet (b16, _, h73) ⟨rfl, rfl, rfl, rfl, rfl, rfl, rfl, rfl, rfl, rfl, rfl, rfl, trivial⟩ ⟨hq73, haU, hpU, haW,  hp', hq', hT, hs⟩
      · (refine RW.allocN T hs rfl rfl rfl rfl ?_; intro b16 w16 hs)
        refine RW.nil ?_
        refine heldQ_normal ⟨_, _, 5, 4, hs, rfl, rfl⟩ ?_
        refine HW.one (fuel := 6) 3 rfl (by kernel_rfl) ?_
        (refine RW.call T hs rfl rfl rfl (refTidyP_con (k + 2) 40 _ q _ _ hq' hcq) ?_; intro v h71 w71 hle71 hp71 hs)
        obtain ⟨cs71, rfl, hq71⟩ := hp71
        have hp' := PlainAt.mono (k + 2) _ _ _ _ hle71 hp'
        have hq' := PlainAt.mono (k + 2) _ _ _ _ hle71 hq'
        have hT := hT.mono hle71
        have haU := ArrAt.mono (k + 2) _ _ _ _ hle71 haU
        have hpU := PlainAt.mono (k + 2) _ _ _ _ hle71 hpU
        have haW := ArrAt.mono (k + 2) _ _ _ _ hle71 haW
        have hq69 := PlainAt.mono (k + 2) _ _ _ _ hle71 hq69
        refine RW.nil ?_
        refine heldQ_normal ⟨_, _, 5, 4, hs, rfl, rfl⟩ ?_
        refine HW.one (fuel := 5) 5 rfl (by kernel_rfl) ?_
        (refine RW.call T hs rfl rfl rfl (ref27Without_con k _ _ (tidy (k + 2) p) (tidy (k + 2) q) keep _ _ hq69 hq71 tp hlpm tq hlqm) ?_; intro v h73 w73 hle73 hp73 hs)
        obtain ⟨cs73, rfl, hq73⟩ := hp73
        rw [hpWe] at hq73
        rw [eqW]
        have hq73 : PlainAt (k + 2) h73 cs73 pW := hq73
        obtain ⟨s73, it73, rfl, ⟨adS73, cpS73, rfl, _⟩, ⟨adI73, cpI73, xsI73, rfl, _, _⟩⟩ := id hq73
        have hp' := PlainAt.mono (k + 2) _ _ _ _ hle73 hp'
        have hq' := PlainAt.mono (k + 2) _ _ _ _ hle73 hq'
        have hT := hT.mono hle73
        have haU := ArrAt.mono (k + 2) _ _ _ _ hle73 haU
        have hpU := PlainAt.mono (k + 2) _ _ _ _ hle73 hpU
        have haW := ArrAt.mono (k + 2) _ _ _ _ hle73 haW
        have hq69 := PlainAt.mono (k + 2) _ _ _ _ hle73 hq69
        have hq71 := PlainAt.mono (k + 2) _ _ _ _ hle73 hq71
        refine RW.nil ?_
        refine heldQ_normal ⟨_, _, 5, 4, hs, rfl, rfl⟩ ?_
        refine HW.takeR (fuel := 4) 6 rfl (fun _ _ ka kb _ hs hka hkb => Y.move rfl) ⟨_, _, 5, 4, hs, rfl, rfl⟩ rfl (by kernel_rfl) (by kernel_rfl) (by kernel_rfl) ?_
        refine HW.takeR (fuel := 3) 7 rfl (fun _ _ ka kb _ hs hka hkb => Y.extract rfl rfl) ⟨_, _, 5, 4, hs, rfl, rfl⟩ rfl (by kernel_rfl) (by kernel_rfl) (by kernel_rfl) ?_
        refine HW.takeR (fuel := 2) 8 rfl (fun _ _ ka kb _ hs hka hkb => Y.extract rfl rfl) ⟨_, _, 5, 4, hs, rfl, rfl⟩ rfl (by kernel_rfl) (by kernel_rfl) (by kernel_rfl) ?_
        refine HW.one (fuel := 1) 10 rfl (by kernel_rfl) ?_
        refine RW.storeAll T hs 0 rfl rfl rfl rfl rfl rfl rfl rfl ?_
        intro w973 hs
        refine RW.nil ?_
        refine heldQ_normal ⟨_, _, 5, 4, hs, rfl, rfl⟩ ?_
        refine HW.takeR (fuel := 0) 11 rfl (fun _ _ ka kb _ hs hka hkb => Y.assign rfl) ⟨_, _, 5, 4, hs, rfl, rfl⟩ rfl (by kernel_rfl) (by kernel_rfl) (by kernel_rfl) ?_
        refine HW.done (by kernel_rfl) ?_
        refine calmQ_normal ?_
        exact joinQ_meet (b16, _, h73) ⟨rfl, rfl, rfl, rfl, rfl, rfl, rfl, rfl, rfl, rfl, rfl, rfl, trivial⟩ ⟨hq73, haU, hpU, haW,  hp', hq', hT, hs⟩
    · (refine RW.allocN T hs rfl rfl rfl rfl ?_; intro b16 w16 hs)
      refine RW.nil ?_
      refine heldQ_normal ⟨_, _, 5, 4, hs, rfl, rfl⟩ ?_
      refine HW.one (fuel := 7) 1 rfl (by kernel_rfl) ?_
      (refine RW.call T hs rfl rfl rfl (refTidyP_con (k + 2) 40 _ p _ _ hp' hcp) ?_; intro v h69 w69 hle69 hp69 hs)
      obtain ⟨cs69, rfl, hq69⟩ := hp69
      have hp' := PlainAt.mono (k + 2) _ _ _ _ hle69 hp'
      have hq' := PlainAt.mono (k + 2) _ _ _ _ hle69 hq'
      have hT := hT.mono hle69
      have haU := ArrAt.mono (k + 2) _ _ _ _ hle69 haU
      have hpU := PlainAt.mono (k + 2) _ _ _ _ hle69 hpU
      have haW := ArrAt.mono (k + 2) _ _ _ _ hle69 haW
      refine RW.nil ?_
      refine heldQ_normal ⟨_, _, 5, 4, hs, rfl, rfl⟩ ?_
      refine HW.one (fuel := 6) 3 rfl (by kernel_rfl) ?_
      (refine RW.call T hs rfl rfl rfl (refTidyP_con (k + 2) 40 _ q _ _ hq' hcq) ?_; intro v h71 w71 hle71 hp71 hs)
      obtain ⟨cs71, rfl, hq71⟩ := hp71
      have hp' := PlainAt.mono (k + 2) _ _ _ _ hle71 hp'
      have hq' := PlainAt.mono (k + 2) _ _ _ _ hle71 hq'
      have hT := hT.mono hle71
      have haU := ArrAt.mono (k + 2) _ _ _ _ hle71 haU
      have hpU := PlainAt.mono (k + 2) _ _ _ _ hle71 hpU
      have haW := ArrAt.mono (k + 2) _ _ _ _ hle71 haW
      have hq69 := PlainAt.mono (k + 2) _ _ _ _ hle71 hq69
      refine RW.nil ?_
      refine heldQ_normal ⟨_, _, 5, 4, hs, rfl, rfl⟩ ?_
      refine HW.one (fuel := 5) 5 rfl (by kernel_rfl) ?_
      (refine RW.call T hs rfl rfl rfl (ref27Without_con k _ _ (tidy (k + 2) p) (tidy (k + 2) q) keep _ _ hq69 hq71 tp hlpm tq hlqm) ?_; intro v h73 w73 hle73 hp73 hs)
      obtain ⟨cs73, rfl, hq73⟩ := hp73
      rw [hpWe] at hq73
      rw [eqW]
      have hq73 : PlainAt (k + 2) h73 cs73 pW := hq73
      obtain ⟨s73, it73, rfl, ⟨adS73, cpS73, rfl, _⟩, ⟨adI73, cpI73, xsI73, rfl, _, _⟩⟩ := id hq73
      have hp' := PlainAt.mono (k + 2) _ _ _ _ hle73 hp'
      have hq' := PlainAt.mono (k + 2) _ _ _ _ hle73 hq'
      have hT := hT.mono hle73
      have haU := ArrAt.mono (k + 2) _ _ _ _ hle73 haU
      have hpU := PlainAt.mono (k + 2) _ _ _ _ hle73 hpU
      have haW := ArrAt.mono (k + 2) _ _ _ _ hle73 haW
      have hq69 := PlainAt.mono (k + 2) _ _ _ _ hle73 hq69
      have hq71 := PlainAt.mono (k + 2) _ _ _ _ hle73 hq71
      refine RW.nil ?_
      refine heldQ_normal ⟨_, _, 5, 4, hs, rfl, rfl⟩ ?_
      refine HW.takeR (fuel := 4) 6 rfl (fun _ _ ka kb _ hs hka hkb => Y.move rfl) ⟨_, _, 5, 4, hs, rfl, rfl⟩ rfl (by kernel_rfl) (by kernel_rfl) (by kernel_rfl) ?_
      refine HW.takeR (fuel := 3) 7 rfl (fun _ _ ka kb _ hs hka hkb => Y.extract rfl rfl) ⟨_, _, 5, 4, hs, rfl, rfl⟩ rfl (by kernel_rfl) (by kernel_rfl) (by kernel_rfl) ?_
      refine HW.takeR (fuel := 2) 8 rfl (fun _ _ ka kb _ hs hka hkb => Y.extract rfl rfl) ⟨_, _, 5, 4, hs, rfl, rfl⟩ rfl (by kernel_rfl) (by kernel_rfl) (by kernel_rfl) ?_
      refine HW.one (fuel := 1) 10 rfl (by kernel_rfl) ?_
      refine RW.storeAll T hs 0 rfl rfl rfl rfl rfl rfl rfl rfl ?_
      intro w973 hs
      refine RW.nil ?_
      refine heldQ_normal ⟨_, _, 5, 4, hs, rfl, rfl⟩ ?_
      refine HW.takeR (fuel := 0) 11 rfl (fun _ _ ka kb _ hs hka hkb => Y.assign rfl) ⟨_, _, 5, 4, hs, rfl, rfl⟩ rfl (by kernel_rfl) (by kernel_rfl) (by kernel_rfl) ?_
      refine HW.done (by kernel_rfl) ?_
      refine calmQ_normal ?_
      exact joinQ_meet (b16, _, h73) ⟨rfl, rfl, rfl, rfl, rfl, rfl, rfl, rfl, rfl, rfl, rfl, rfl, trivial⟩ ⟨hq73, haU, hpU, haW,  hp', hq', hT, hs⟩
  rintro ⟨b16, cs73, h73⟩ w73 ⟨hpW, haU, hpU, haW, hp', hq', hT, hs⟩
  dsimp only at hpW haU hpU haW hp' hq' hT hs ⊢
  obtain ⟨s73, it73, rfl, ⟨adS73, cpS73, rfl, _⟩, ⟨adI73, cpI73, xsI73, rfl, _, _⟩⟩ := id hpW
  refine Zerun ?_
  refine CW.meet (fun r : Nat × List Value × GHeap => [(2, .bool keep), (4, .pointer (some ⟨b1, 0, none⟩)), (5, .pointer (some ⟨b2, 0, none⟩)), (9, .int .i64 most), (10, .pointer (some ⟨b10, 0, none⟩)), (11, .int .i64 eU), (12, .pointer (some ⟨b12, 0, none⟩)), (13, .int .i64 eU), (14, .pointer (some ⟨b14, 0, none⟩)), (15, .int .i64 eW), (16, .pointer (some ⟨b16, 0, none⟩)), (17, .int .i64 eW), (18, .pointer (some ⟨r.1, 0, none⟩)), (19, .int .i64 eN)]) (fun r w' => ArrAt (k + 2) r.2.2 r.2.1 aN ∧ ArrAt (k + 2) r.2.2 (.slice ad49 (ArrD.shape (α := AD (k + 1)) aU).length cap49 :: vecCells (ArrD.vec (α := AD (k + 1)) aU).kind wv49 nv49 sm49 il49 fl49 ch49 bx49) aU ∧ PlainAt (k + 2) r.2.2 [.slice adS55 (PlainD.shape (α := PD (k + 1)) pU).length cpS55, .slice adI55 (PlainD.items (α := PD (k + 1)) pU).length cpI55, .int .i64 (PlainD.fill (α := PD (k + 1)) pU)] pU ∧ ArrAt (k + 2) r.2.2 (.slice ad64 (ArrD.shape (α := AD (k + 1)) aW).length cap64 :: vecCells (ArrD.vec (α := AD (k + 1)) aW).kind wv64 nv64 sm64 il64 fl64 ch64 bx64) aW ∧ PlainAt (k + 2) r.2.2 [.slice adS73 (PlainD.shape (α := PD (k + 1)) pW).length cpS73, .slice adI73 (PlainD.items (α := PD (k + 1)) pW).length cpI73, .int .i64 (PlainD.fill (α := PD (k + 1)) pW)] pW ∧  PlainAt (k + 2) r.2.2 [.slice ad (PlainD.shape (α := PD (k + 1)) p).length cp, .slice ad2 (PlainD.items (α := PD (k + 1)) p).length cp2, .int .i64 (PlainD.fill (α := PD (k + 1)) p)] p ∧ PlainAt (k + 2) r.2.2 [.slice ad3 (PlainD.shape (α := PD (k + 1)) q).length cp3, .slice ad4 (PlainD.items (α := PD (k + 1)) q).length cp4, .int .i64 (PlainD.fill (α := PD (k + 1)) q)] q ∧ TzTab r.2.2 ∧ Sees w h r.2.2 [⟨some ⟨r.1, 0, none⟩, 1, 1, 40, 9, r.2.1⟩, ⟨some ⟨b16, 0, none⟩, 1, 1, 25, 3, [.slice adS73 (PlainD.shape (α := PD (k + 1)) pW).length cpS73, .slice adI73 (PlainD.items (α := PD (k + 1)) pW).length cpI73, .int .i64 (PlainD.fill (α := PD (k + 1)) pW)]⟩, ⟨some ⟨b14, 0, none⟩, 1, 1, 40, 9, (.slice ad64 (ArrD.shape (α := AD (k + 1)) aW).length cap64 :: vecCells (ArrD.vec (α := AD (k + 1)) aW).kind wv64 nv64 sm64 il64 fl64 ch64 bx64)⟩, ⟨some ⟨b12, 0, none⟩, 1, 1, 25, 3, [.slice adS55 (PlainD.shape (α := PD (k + 1)) pU).length cpS55, .slice adI55 (PlainD.items (α := PD (k + 1)) pU).length cpI55, .int .i64 (PlainD.fill (α := PD (k + 1)) pU)]⟩, ⟨some ⟨b10, 0, none⟩, 1, 1, 40, 9, (.slice ad49 (ArrD.shape (α := AD (k + 1)) aU).length cap49 :: vecCells (ArrD.vec (α := AD (k + 1)) aU).kind wv49 nv49 sm49 il49 fl49 ch49 bx49)⟩, ⟨some ⟨b2, 0, none⟩, 1, 1, 25, 3, [.slice ad3 (PlainD.shape (α := PD (k + 1)) q).length cp3, .slice ad4 (PlainD.items (α := PD (k + 1)) q).length cp4, .int .i64 (PlainD.fill (α := PD (k + 1)) q)]⟩, ⟨some ⟨b1, 0, none⟩, 1, 1, 25, 3, [.slice ad (PlainD.shape (α := PD (k + 1)) p).length cp, .slice ad2 (PlainD.items (α := PD (k + 1)) p).length cp2, .int .i64 (PlainD.fill (α := PD (k + 1)) p)]⟩] w') ?_ ?_
  · refine CW.regionR T 5 4 hs rfl rfl ?_
    intro w882 hs
    refine HW.takeR (fuel := 11) 0 rfl (fun _ _ ka kb _ hs hka hkb => Y.loadRowN T hs ka hka rfl rfl rfl rfl rfl rfl) ⟨_, _, 5, 4, hs, rfl, rfl⟩ rfl (by kernel_rfl) (by kernel_rfl) (by kernel_rfl) ?_
    refine HW.takeR (fuel := 10) 2 rfl (fun _ _ ka kb _ hs hka hkb => Y.loadRowN T hs kb hkb rfl rfl rfl rfl rfl rfl) ⟨_, _, 5, 4, hs, rfl, rfl⟩ rfl (by kernel_rfl) (by kernel_rfl) (by kernel_rfl) ?_
    refine HW.takeR (fuel := 9) 4 rfl (fun _ _ ka kb _ hs hka hkb => Y.move rfl) ⟨_, _, 5, 4, hs, rfl, rfl⟩ rfl (by kernel_rfl) (by kernel_rfl) (by kernel_rfl) ?_
    refine HW.two (fuel := 8) 1 9 rfl rfl (by kernel_rfl) ?_ ?_
    · (refine RW.call T hs rfl rfl rfl (of07_con (k + 2) _ p _ _ hp' hcp) ?_; intro v h78 w78 hle78 hp78 hs)
      obtain ⟨cs78, rfl, _, _, hn78⟩ := hp78
      have hp' := PlainAt.mono (k + 2) _ _ _ _ hle78 hp'
      have hq' := PlainAt.mono (k + 2) _ _ _ _ hle78 hq'
      have hT := hT.mono hle78
      have haU := ArrAt.mono (k + 2) _ _ _ _ hle78 haU
      have hpU := PlainAt.mono (k + 2) _ _ _ _ hle78 hpU
      have haW := ArrAt.mono (k + 2) _ _ _ _ hle78 haW
      have hpW := PlainAt.mono (k + 2) _ _ _ _ hle78 hpW
      refine RW.nil ?_
      refine heldQ_normal ⟨_, _, 5, 4, hs, rfl, rfl⟩ ?_
      refine HW.two (fuel := 7) 3 9 rfl rfl (by kernel_rfl) ?_ ?_
      · (refine RW.call T hs rfl rfl rfl (of07_con (k + 2) _ q _ _ hq' hcq) ?_; intro v h80 w80 hle80 hp80 hs)
        obtain ⟨cs80, rfl, _, _, hn80⟩ := hp80
        have hp' := PlainAt.mono (k + 2) _ _ _ _ hle80 hp'
        have hq' := PlainAt.mono (k + 2) _ _ _ _ hle80 hq'
        have hT := hT.mono hle80
        have haU := ArrAt.mono (k + 2) _ _ _ _ hle80 haU
        have hpU := PlainAt.mono (k + 2) _ _ _ _ hle80 hpU
        have haW := ArrAt.mono (k + 2) _ _ _ _ hle80 haW
        have hpW := PlainAt.mono (k + 2) _ _ _ _ hle80 hpW
        have hn78 := ArrAt.mono (k + 2) _ _ _ _ hle80 hn78
        refine RW.nil ?_
        refine heldQ_normal ⟨_, _, 5, 4, hs, rfl, rfl⟩ ?_
        refine HW.two (fuel := 6) 5 9 rfl rfl (by kernel_rfl) ?_ ?_
        · (refine RW.call T hs rfl rfl rfl (baseUnion_con k _ _ (arr (k + 2) p) (arr (k + 2) q) most _ _ hn78 hn80 hsmp.2.2 hsmp.2.1 hsmq.2.2 hsmq.2.1 hfq.sh.k0 hsA hll) ?_; intro v h82 w82 hle82 hp82 hs)
          obtain ⟨cs82, rfl, ha82⟩ := hp82
          rw [haNe] at ha82
          rw [heNe]
          obtain ⟨_, vc82, rfl, ⟨ad82, cap82, rfl, _⟩, hv82⟩ := id ha82
          obtain ⟨wv82, nv82, sm82, il82, fl82, ch82, bx82, ⟨rfl, hoc82⟩, -⟩ := hv82
          have hall82 : (Value.oneCell' (.slice ad82 (ArrD.shape (α := AD (k + 1)) aN).length cap82) && (vecCells (ArrD.vec (α := AD (k + 1)) aN).kind wv82 nv82 sm82 il82 fl82 ch82 bx82).all Value.oneCell') = true := by rw [hoc82]; rfl
          have hp' := PlainAt.mono (k + 2) _ _ _ _ hle82 hp'
          have hq' := PlainAt.mono (k + 2) _ _ _ _ hle82 hq'
          have hT := hT.mono hle82
          have haU := ArrAt.mono (k + 2) _ _ _ _ hle82 haU
          have hpU := PlainAt.mono (k + 2) _ _ _ _ hle82 hpU
          have haW := ArrAt.mono (k + 2) _ _ _ _ hle82 haW
          have hpW := PlainAt.mono (k + 2) _ _ _ _ hle82 hpW
          have hn78 := ArrAt.mono (k + 2) _ _ _ _ hle82 hn78
          have hn80 := ArrAt.mono (k + 2) _ _ _ _ hle82 hn80
          refine RW.nil ?_
          refine heldQ_normal ⟨_, _, 5, 4, hs, rfl, rfl⟩ ?_
          refine HW.takeR (fuel := 5) 6 rfl (fun _ _ ka kb _ hs hka hkb => Y.move rfl) ⟨_, _, 5, 4, hs, rfl, rfl⟩ rfl (by kernel_rfl) (by kernel_rfl) (by kernel_rfl) ?_
          refine HW.takeR (fuel := 4) 7 rfl (fun _ _ ka kb _ hs hka hkb => Y.extract rfl rfl) ⟨_, _, 5, 4, hs, rfl, rfl⟩ rfl (by kernel_rfl) (by kernel_rfl) (by kernel_rfl) ?_
          refine HW.takeR (fuel := 3) 8 rfl (fun _ _ ka kb _ hs hka hkb => Y.extract rfl rfl) ⟨_, _, 5, 4, hs, rfl, rfl⟩ rfl (by kernel_rfl) (by kernel_rfl) (by kernel_rfl) ?_
          refine HW.one (fuel := 2) 9 rfl (by kernel_rfl) ?_
          (refine RW.allocN T hs rfl rfl rfl rfl ?_; intro b18 w18 hs)
          refine RW.nil ?_
          refine heldQ_normal ⟨_, _, 6, 5, hs, rfl, rfl⟩ ?_
          refine HW.one (fuel := 1) 10 rfl (by kernel_rfl) ?_
          refine RW.storeAll T hs 0 rfl rfl rfl rfl rfl rfl hall82 rfl ?_
          intro w982 hs
          refine RW.nil ?_
          refine heldQ_normal ⟨_, _, 6, 5, hs, rfl, rfl⟩ ?_
          refine HW.takeR (fuel := 0) 11 rfl (fun _ _ ka kb _ hs hka hkb => Y.assign rfl) ⟨_, _, 6, 5, hs, rfl, rfl⟩ rfl (by kernel_rfl) (by kernel_rfl) (by kernel_rfl) ?_
          refine HW.done (by kernel_rfl) ?_
          refine calmQ_normal ?_
          exact joinQ_meet (b18, _, h82) ⟨rfl, rfl, rfl, rfl, rfl, rfl, rfl, rfl, rfl, rfl, rfl, rfl, rfl, rfl, trivial⟩ ⟨ha82, haU, hpU, haW, hpW,  hp', hq', hT, hs⟩
        · (refine RW.allocN T hs rfl rfl rfl rfl ?_; intro b18 w18 hs)
          refine RW.nil ?_
          refine heldQ_normal ⟨_, _, 6, 5, hs, rfl, rfl⟩ ?_
          refine HW.one (fuel := 5) 5 rfl (by kernel_rfl) ?_
          (refine RW.call T hs rfl rfl rfl (baseUnion_con k _ _ (arr (k + 2) p) (arr (k + 2) q) most _ _ hn78 hn80 hsmp.2.2 hsmp.2.1 hsmq.2.2 hsmq.2.1 hfq.sh.k0 hsA hll) ?_; intro v h82 w82 hle82 hp82 hs)
          obtain ⟨cs82, rfl, ha82⟩ := hp82
          rw [haNe] at ha82
          rw [heNe]
          obtain ⟨_, vc82, rfl, ⟨ad82, cap82, rfl, _⟩, hv82⟩ := id ha82
          obtain ⟨wv82, nv82, sm82, il82, fl82, ch82, bx82, ⟨rfl, hoc82⟩, -⟩ := hv82
          have hall82 : (Value.oneCell' (.slice ad82 (ArrD.shape (α := AD (k + 1)) aN).length cap82) && (vecCells (ArrD.vec (α := AD (k + 1)) aN).kind wv82 nv82 sm82 il82 fl82 ch82 bx82).all Value.oneCell') = true := by rw [hoc82]; rfl
          have hp' := PlainAt.mono (k + 2) _ _ _ _ hle82 hp'
          have hq' := PlainAt.mono (k + 2) _ _ _ _ hle82 hq'
          have hT := hT.mono hle82
          have haU := ArrAt.mono (k + 2) _ _ _ _ hle82 haU
          have hpU := PlainAt.mono (k + 2) _ _ _ _ hle82 hpU
          have haW := ArrAt.mono (k + 2) _ _ _ _ hle82 haW
          have hpW := PlainAt.mono (k + 2) _ _ _ _ hle82 hpW
          have hn78 := ArrAt.mono (k + 2) _ _ _ _ hle82 hn78
          have hn80 := ArrAt.mono (k + 2) _ _ _ _ hle82 hn80
          refine RW.nil ?_
          refine heldQ_normal ⟨_, _, 6, 5, hs, rfl, rfl⟩ ?_
          refine HW.takeR (fuel := 4) 6 rfl (fun _ _ ka kb _ hs hka hkb => Y.move rfl) ⟨_, _, 6, 5, hs, rfl, rfl⟩ rfl (by kernel_rfl) (by kernel_rfl) (by kernel_rfl) ?_
          refine HW.takeR (fuel := 3) 7 rfl (fun _ _ ka kb _ hs hka hkb => Y.extract rfl rfl) ⟨_, _, 6, 5, hs, rfl, rfl⟩ rfl (by kernel_rfl) (by kernel_rfl) (by kernel_rfl) ?_
          refine HW.takeR (fuel := 2) 8 rfl (fun _ _ ka kb _ hs hka hkb => Y.extract rfl rfl) ⟨_, _, 6, 5, hs, rfl, rfl⟩ rfl (by kernel_rfl) (by kernel_rfl) (by kernel_rfl) ?_
          refine HW.one (fuel := 1) 10 rfl (by kernel_rfl) ?_
          refine RW.storeAll T hs 0 rfl rfl rfl rfl rfl rfl hall82 rfl ?_
          intro w982 hs
          refine RW.nil ?_
          refine heldQ_normal ⟨_, _, 6, 5, hs, rfl, rfl⟩ ?_
          refine HW.takeR (fuel := 0) 11 rfl (fun _ _ ka kb _ hs hka hkb => Y.assign rfl) ⟨_, _, 6, 5, hs, rfl, rfl⟩ rfl (by kernel_rfl) (by kernel_rfl) (by kernel_rfl) ?_
          refine HW.done (by kernel_rfl) ?_
          refine calmQ_normal ?_
          exact joinQ_meet (b18, _, h82) ⟨rfl, rfl, rfl, rfl, rfl, rfl, rfl, rfl, rfl, rfl, rfl, rfl, rfl, rfl, trivial⟩ ⟨ha82, haU, hpU, haW, hpW,  hp', hq', hT, hs⟩
      · (refine RW.allocN T hs rfl rfl rfl rfl ?_; intro b18 w18 hs)
        refine RW.nil ?_
        refine heldQ_normal ⟨_, _, 6, 5, hs, rfl, rfl⟩ ?_
        refine HW.one (fuel := 6) 3 rfl (by kernel_rfl) ?_
        (refine RW.call T hs rfl rfl rfl (of07_con (k + 2) _ q _ _ hq' hcq) ?_; intro v h80 w80 hle80 hp80 hs)
        obtain ⟨cs80, rfl, _, _, hn80⟩ := hp80
        have hp' := PlainAt.mono (k + 2) _ _ _ _ hle80 hp'
        have hq' := PlainAt.mono (k + 2) _ _ _ _ hle80 hq'
        have hT := hT.mono hle80
        have haU := ArrAt.mono (k + 2) _ _ _ _ hle80 haU
        have hpU := PlainAt.mono (k + 2) _ _ _ _ hle80 hpU
        have haW := ArrAt.mono (k + 2) _ _ _ _ hle80 haW
        have hpW := PlainAt.mono (k + 2) _ _ _ _ hle80 hpW
        have hn78 := ArrAt.mono (k + 2) _ _ _ _ hle80 hn78
        refine RW.nil ?_
        refine heldQ_normal ⟨_, _, 6, 5, hs, rfl, rfl⟩ ?_
        refine HW.one (fuel := 5) 5 rfl (by kernel_rfl) ?_
        (refine RW.call T hs rfl rfl rfl (baseUnion_con k _ _ (arr (k + 2) p) (arr (k + 2) q) most _ _ hn78 hn80 hsmp.2.2 hsmp.2.1 hsmq.2.2 hsmq.2.1 hfq.sh.k0 hsA hll) ?_; intro v h82 w82 hle82 hp82 hs)
        obtain ⟨cs82, rfl, ha82⟩ := hp82
        rw [haNe] at ha82
        rw [heNe]
        obtain ⟨_, vc82, rfl, ⟨ad82, cap82, rfl, _⟩, hv82⟩ := id ha82
        obtain ⟨wv82, nv82, sm82, il82, fl82, ch82, bx82, ⟨rfl, hoc82⟩, -⟩ := hv82
        have hall82 : (Value.oneCell' (.slice ad82 (ArrD.shape (α := AD (k + 1)) aN).length cap82) && (vecCells (ArrD.vec (α := AD (k + 1)) aN).kind wv82 nv82 sm82 il82 fl82 ch82 bx82).all Value.oneCell') = true := by rw [hoc82]; rfl
        have hp' := PlainAt.mono (k + 2) _ _ _ _ hle82 hp'
        have hq' := PlainAt.mono (k + 2) _ _ _ _ hle82 hq'
        have hT := hT.mono hle82
        have haU := ArrAt.mono (k + 2) _ _ _ _ hle82 haU
        have hpU := PlainAt.mono (k + 2) _ _ _ _ hle82 hpU
        have haW := ArrAt.mono (k + 2) _ _ _ _ hle82 haW
        have hpW := PlainAt.mono (k + 2) _ _ _ _ hle82 hpW
        have hn78 := ArrAt.mono (k + 2) _ _ _ _ hle82 hn78
        have hn80 := ArrAt.mono (k + 2) _ _ _ _ hle82 hn80
        refine RW.nil ?_
        refine heldQ_normal ⟨_, _, 6, 5, hs, rfl, rfl⟩ ?_
        refine HW.takeR (fuel := 4) 6 rfl (fun _ _ ka kb _ hs hka hkb => Y.move rfl) ⟨_, _, 6, 5, hs, rfl, rfl⟩ rfl (by kernel_rfl) (by kernel_rfl) (by kernel_rfl) ?_
        refine HW.takeR (fuel := 3) 7 rfl (fun _ _ ka kb _ hs hka hkb => Y.extract rfl rfl) ⟨_, _, 6, 5, hs, rfl, rfl⟩ rfl (by kernel_rfl) (by kernel_rfl) (by kernel_rfl) ?_
        refine HW.takeR (fuel := 2) 8 rfl (fun _ _ ka kb _ hs hka hkb => Y.extract rfl rfl) ⟨_, _, 6, 5, hs, rfl, rfl⟩ rfl (by kernel_rfl) (by kernel_rfl) (by kernel_rfl) ?_
        refine HW.one (fuel := 1) 10 rfl (by kernel_rfl) ?_
        refine RW.storeAll T hs 0 rfl rfl rfl rfl rfl rfl hall82 rfl ?_
        intro w982 hs
        refine RW.nil ?_
        refine heldQ_normal ⟨_, _, 6, 5, hs, rfl, rfl⟩ ?_
        refine HW.takeR (fuel := 0) 11 rfl (fun _ _ ka kb _ hs hka hkb => Y.assign rfl) ⟨_, _, 6, 5, hs, rfl, rfl⟩ rfl (by kernel_rfl) (by kernel_rfl) (by kernel_rfl) ?_
        refine HW.done (by kernel_rfl) ?_
        refine calmQ_normal ?_
        exact joinQ_meet (b18, _, h82) ⟨rfl, rfl, rfl, rfl, rfl, rfl, rfl, rfl, rfl, rfl, rfl, rfl, rfl, rfl, trivial⟩ ⟨ha82, haU, hpU, haW, hpW,  hp', hq', hT, hs⟩
    · (refine RW.allocN T hs rfl rfl rfl rfl ?_; intro b18 w18 hs)
      refine RW.nil ?_
      refine heldQ_normal ⟨_, _, 6, 5, hs, rfl, rfl⟩ ?_
      refine HW.one (fuel := 7) 1 rfl (by kernel_rfl) ?_
      (refine RW.call T hs rfl rfl rfl (of07_con (k + 2) _ p _ _ hp' hcp) ?_; intro v h78 w78 hle78 hp78 hs)
      obtain ⟨cs78, rfl, _, _, hn78⟩ := hp78
      have hp' := PlainAt.mono (k + 2) _ _ _ _ hle78 hp'
      have hq' := PlainAt.mono (k + 2) _ _ _ _ hle78 hq'
      have hT := hT.mono hle78
      have haU := ArrAt.mono (k + 2) _ _ _ _ hle78 haU
      have hpU := PlainAt.mono (k + 2) _ _ _ _ hle78 hpU
      have haW := ArrAt.mono (k + 2) _ _ _ _ hle78 haW
      have hpW := PlainAt.mono (k + 2) _ _ _ _ hle78 hpW
      refine RW.nil ?_
      refine heldQ_normal ⟨_, _, 6, 5, hs, rfl, rfl⟩ ?_
      refine HW.one (fuel := 6) 3 rfl (by kernel_rfl) ?_
      (refine RW.call T hs rfl rfl rfl (of07_con (k + 2) _ q _ _ hq' hcq) ?_; intro v h80 w80 hle80 hp80 hs)
      obtain ⟨cs80, rfl, _, _, hn80⟩ := hp80
      have hp' := PlainAt.mono (k + 2) _ _ _ _ hle80 hp'
      have hq' := PlainAt.mono (k + 2) _ _ _ _ hle80 hq'
      have hT := hT.mono hle80
      have haU := ArrAt.mono (k + 2) _ _ _ _ hle80 haU
      have hpU := PlainAt.mono (k + 2) _ _ _ _ hle80 hpU
      have haW := ArrAt.mono (k + 2) _ _ _ _ hle80 haW
      have hpW := PlainAt.mono (k + 2) _ _ _ _ hle80 hpW
      have hn78 := ArrAt.mono (k + 2) _ _ _ _ hle80 hn78
      refine RW.nil ?_
      refine heldQ_normal ⟨_, _, 6, 5, hs, rfl, rfl⟩ ?_
      refine HW.one (fuel := 5) 5 rfl (by kernel_rfl) ?_
      (refine RW.call T hs rfl rfl rfl (baseUnion_con k _ _ (arr (k + 2) p) (arr (k + 2) q) most _ _ hn78 hn80 hsmp.2.2 hsmp.2.1 hsmq.2.2 hsmq.2.1 hfq.sh.k0 hsA hll) ?_; intro v h82 w82 hle82 hp82 hs)
      obtain ⟨cs82, rfl, ha82⟩ := hp82
      rw [haNe] at ha82
      rw [heNe]
      obtain ⟨_, vc82, rfl, ⟨ad82, cap82, rfl, _⟩, hv82⟩ := id ha82
      obtain ⟨wv82, nv82, sm82, il82, fl82, ch82, bx82, ⟨rfl, hoc82⟩, -⟩ := hv82
      have hall82 : (Value.oneCell' (.slice ad82 (ArrD.shape (α := AD (k + 1)) aN).length cap82) && (vecCells (ArrD.vec (α := AD (k + 1)) aN).kind wv82 nv82 sm82 il82 fl82 ch82 bx82).all Value.oneCell') = true := by rw [hoc82]; rfl
      have hp' := PlainAt.mono (k + 2) _ _ _ _ hle82 hp'
      have hq' := PlainAt.mono (k + 2) _ _ _ _ hle82 hq'
      have hT := hT.mono hle82
      have haU := ArrAt.mono (k + 2) _ _ _ _ hle82 haU
      have hpU := PlainAt.mono (k + 2) _ _ _ _ hle82 hpU
      have haW := ArrAt.mono (k + 2) _ _ _ _ hle82 haW
      have hpW := PlainAt.mono (k + 2) _ _ _ _ hle82 hpW
      have hn78 := ArrAt.mono (k + 2) _ _ _ _ hle82 hn78
      have hn80 := ArrAt.mono (k + 2) _ _ _ _ hle82 hn80
      refine RW.nil ?_
      refine heldQ_normal ⟨_, _, 6, 5, hs, rfl, rfl⟩ ?_
      refine HW.takeR (fuel := 4) 6 rfl (fun _ _ ka kb _ hs hka hkb => Y.move rfl) ⟨_, _, 6, 5, hs, rfl, rfl⟩ rfl (by kernel_rfl) (by kernel_rfl) (by kernel_rfl) ?_
      refine HW.takeR (fuel := 3) 7 rfl (fun _ _ ka kb _ hs hka hkb => Y.extract rfl rfl) ⟨_, _, 6, 5, hs, rfl, rfl⟩ rfl (by kernel_rfl) (by kernel_rfl) (by kernel_rfl) ?_
      refine HW.takeR (fuel := 2) 8 rfl (fun _ _ ka kb _ hs hka hkb => Y.extract rfl rfl) ⟨_, _, 6, 5, hs, rfl, rfl⟩ rfl (by kernel_rfl) (by kernel_rfl) (by kernel_rfl) ?_
      refine HW.one (fuel := 1) 10 rfl (by kernel_rfl) ?_
      refine RW.storeAll T hs 0 rfl rfl rfl rfl rfl rfl hall82 rfl ?_
      intro w982 hs
      refine RW.nil ?_
      refine heldQ_normal ⟨_, _, 6, 5, hs, rfl, rfl⟩ ?_
      refine HW.takeR (fuel := 0) 11 rfl (fun _ _ ka kb _ hs hka hkb => Y.assign rfl) ⟨_, _, 6, 5, hs, rfl, rfl⟩ rfl (by kernel_rfl) (by kernel_rfl) (by kernel_rfl) ?_
      refine HW.done (by kernel_rfl) ?_
      refine calmQ_normal ?_
      exact joinQ_meet (b18, _, h82) ⟨rfl, rfl, rfl, rfl, rfl, rfl, rfl, rfl, rfl, rfl, rfl, rfl, rfl, rfl, trivial⟩ ⟨ha82, haU, hpU, haW, hpW,  hp', hq', hT, hs⟩
  rintro ⟨b18, cs82, h82⟩ w82 ⟨haN, haU, hpU, haW, hpW, hp', hq', hT, hs⟩
  dsimp only at haN haU hpU haW hpW hp' hq' hT hs ⊢
  obtain ⟨_, vc82, rfl, ⟨ad82, cap82, rfl, _⟩, hv82⟩ := id haN
  obtain ⟨wv82, nv82, sm82, il82, fl82, ch82, bx82, ⟨rfl, hoc82⟩, -⟩ := hv82
  refine Zerun ?_
  refine CW.meet (fun r : Nat × List Value × GHeap => [(2, .bool keep), (4, .pointer (some ⟨b1, 0, none⟩)), (5, .pointer (some ⟨b2, 0, none⟩)), (9, .int .i64 most), (10, .pointer (some ⟨b10, 0, none⟩)), (11, .int .i64 eU), (12, .pointer (some ⟨b12, 0, none⟩)), (13, .int .i64 eU), (14, .pointer (some ⟨b14, 0, none⟩)), (15, .int .i64 eW), (16, .pointer (some ⟨b16, 0, none⟩)), (17, .int .i64 eW), (18, .pointer (some ⟨b18, 0, none⟩)), (19, .int .i64 eN), (20, .pointer (some ⟨r.1, 0, none⟩)), (21, .int .i64 eN)]) (fun r w' => PlainAt (k + 2) r.2.2 r.2.1 pN ∧ ArrAt (k + 2) r.2.2 (.slice ad49 (ArrD.shape (α := AD (k + 1)) aU).length cap49 :: vecCells (ArrD.vec (α := AD (k + 1)) aU).kind wv49 nv49 sm49 il49 fl49 ch49 bx49) aU ∧ PlainAt (k + 2) r.2.2 [.slice adS55 (PlainD.shape (α := PD (k + 1)) pU).length cpS55, .slice adI55 (PlainD.items (α := PD (k + 1)) pU).length cpI55, .int .i64 (PlainD.fill (α := PD (k + 1)) pU)] pU ∧ ArrAt (k + 2) r.2.2 (.slice ad64 (ArrD.shape (α := AD (k + 1)) aW).length cap64 :: vecCells (ArrD.vec (α := AD (k + 1)) aW).kind wv64 nv64 sm64 il64 fl64 ch64 bx64) aW ∧ PlainAt (k + 2) r.2.2 [.slice adS73 (PlainD.shape (α := PD (k + 1)) pW).length cpS73, .slice adI73 (PlainD.items (α := PD (k + 1)) pW).length cpI73, .int .i64 (PlainD.fill (α := PD (k + 1)) pW)] pW ∧ ArrAt (k + 2) r.2.2 (.slice ad82 (ArrD.shape (α := AD (k + 1)) aN).length cap82 :: vecCells (ArrD.vec (α := AD (k + 1)) aN).kind wv82 nv82 sm82 il82 fl82 ch82 bx82) aN ∧  PlainAt (k + 2) r.2.2 [.slice ad (PlainD.shape (α := PD (k + 1)) p).length cp, .slice ad2 (PlainD.items (α := PD (k + 1)) p).length cp2, .int .i64 (PlainD.fill (α := PD (k + 1)) p)] p ∧ PlainAt (k + 2) r.2.2 [.slice ad3 (PlainD.shape (α := PD (k + 1)) q).length cp3, .slice ad4 (PlainD.items (α := PD (k + 1)) q).length cp4, .int .i64 (PlainD.fill (α := PD (k + 1)) q)] q ∧ TzTab r.2.2 ∧ Sees w h r.2.2 [⟨some ⟨r.1, 0, none⟩, 1, 1, 25, 3, r.2.1⟩, ⟨some ⟨b18, 0, none⟩, 1, 1, 40, 9, (.slice ad82 (ArrD.shape (α := AD (k + 1)) aN).length cap82 :: vecCells (ArrD.vec (α := AD (k + 1)) aN).kind wv82 nv82 sm82 il82 fl82 ch82 bx82)⟩, ⟨some ⟨b16, 0, none⟩, 1, 1, 25, 3, [.slice adS73 (PlainD.shape (α := PD (k + 1)) pW).length cpS73, .slice adI73 (PlainD.items (α := PD (k + 1)) pW).length cpI73, .int .i64 (PlainD.fill (α := PD (k + 1)) pW)]⟩, ⟨some ⟨b14, 0, none⟩, 1, 1, 40, 9, (.slice ad64 (ArrD.shape (α := AD (k + 1)) aW).length cap64 :: vecCells (ArrD.vec (α := AD (k + 1)) aW).kind wv64 nv64 sm64 il64 fl64 ch64 bx64)⟩, ⟨some ⟨b12, 0, none⟩, 1, 1, 25, 3, [.slice adS55 (PlainD.shape (α := PD (k + 1)) pU).length cpS55, .slice adI55 (PlainD.items (α := PD (k + 1)) pU).length cpI55, .int .i64 (PlainD.fill (α := PD (k + 1)) pU)]⟩, ⟨some ⟨b10, 0, none⟩, 1, 1, 40, 9, (.slice ad49 (ArrD.shape (α := AD (k + 1)) aU).length cap49 :: vecCells (ArrD.vec (α := AD (k + 1)) aU).kind wv49 nv49 sm49 il49 fl49 ch49 bx49)⟩, ⟨some ⟨b2, 0, none⟩, 1, 1, 25, 3, [.slice ad3 (PlainD.shape (α := PD (k + 1)) q).length cp3, .slice ad4 (PlainD.items (α := PD (k + 1)) q).length cp4, .int .i64 (PlainD.fill (α := PD (k + 1)) q)]⟩, ⟨some ⟨b1, 0, none⟩, 1, 1, 25, 3, [.slice ad (PlainD.shape (α := PD (k + 1)) p).length cp, .slice ad2 (PlainD.items (α := PD (k + 1)) p).length cp2, .int .i64 (PlainD.fill (α := PD (k + 1)) p)]⟩] w') ?_ ?_
  · refine CW.regionR T 6 5 hs rfl rfl ?_
    intro w891 hs
    refine HW.takeR (fuel := 11) 0 rfl (fun _ _ ka kb _ hs hka hkb => Y.loadRowN T hs ka hka rfl rfl rfl rfl rfl rfl) ⟨_, _, 6, 5, hs, rfl, rfl⟩ rfl (by kernel_rfl) (by kernel_rfl) (by kernel_rfl) ?_
    refine HW.takeR (fuel := 10) 2 rfl (fun _ _ ka kb _ hs hka hkb => Y.loadRowN T hs kb hkb rfl rfl rfl rfl rfl rfl) ⟨_, _, 6, 5, hs, rfl, rfl⟩ rfl (by kernel_rfl) (by kernel_rfl) (by kernel_rfl) ?_
    refine HW.takeR (fuel := 9) 4 rfl (fun _ _ ka kb _ hs hka hkb => Y.move rfl) ⟨_, _, 6, 5, hs, rfl, rfl⟩ rfl (by kernel_rfl) (by kernel_rfl) (by kernel_rfl) ?_
    refine HW.two (fuel := 8) 1 9 rfl rfl (by kernel_rfl) ?_ ?_
    · (refine RW.call T hs rfl rfl rfl (refTidyP_con (k + 2) 40 _ p _ _ hp' hcp) ?_; intro v h87 w87 hle87 hp87 hs)
      obtain ⟨cs87, rfl, hq87⟩ := hp87
      have hp' := PlainAt.mono (k + 2) _ _ _ _ hle87 hp'
      have hq' := PlainAt.mono (k + 2) _ _ _ _ hle87 hq'
      have hT := hT.mono hle87
      have haU := ArrAt.mono (k + 2) _ _ _ _ hle87 haU
      have hpU := PlainAt.mono (k + 2) _ _ _ _ hle87 hpU
      have haW := ArrAt.mono (k + 2) _ _ _ _ hle87 haW
      have hpW := PlainAt.mono (k + 2) _ _ _ _ hle87 hpW
      have haN := ArrAt.mono (k + 2) _ _ _ _ hle87 haN
      refine RW.nil ?_
      refine heldQ_normal ⟨_, _, 6, 5, hs, rfl, rfl⟩ ?_
      refine HW.two (fuel := 7) 3 9 rfl rfl (by kernel_rfl) ?_ ?_
      · (refine RW.call T hs rfl rfl rfl (refTidyP_con (k + 2) 40 _ q _ _ hq' hcq) ?_; intro v h89 w89 hle89 hp89 hs)
        obtain ⟨cs89, rfl, hq89⟩ := hp89
        have hp' := PlainAt.mono (k + 2) _ _ _ _ hle89 hp'
        have hq' := PlainAt.mono (k + 2) _ _ _ _ hle89 hq'
        have hT := hT.mono hle89
        have haU := ArrAt.mono (k + 2) _ _ _ _ hle89 haU
        have hpU := PlainAt.mono (k + 2) _ _ _ _ hle89 hpU
        have haW := ArrAt.mono (k + 2) _ _ _ _ hle89 haW
        have hpW := PlainAt.mono (k + 2) _ _ _ _ hle89 hpW
        have haN := ArrAt.mono (k + 2) _ _ _ _ hle89 haN
        have hq87 := PlainAt.mono (k + 2) _ _ _ _ hle89 hq87
        refine RW.nil ?_
        refine heldQ_normal ⟨_, _, 6, 5, hs, rfl, rfl⟩ ?_
        refine HW.two (fuel := 6) 5 9 rfl rfl (by kernel_rfl) ?_ ?_
        · (refine RW.call T hs rfl rfl rfl (ref27Union_con k _ _ (tidy (k + 2) p) (tidy (k + 2) q) most _ _ hq87 hq89 tp hlpm tq hlqm hsP hfl) ?_; intro v h91 w91 hle91 hp91 hs)
          obtain ⟨cs91, rfl, hq91⟩ := hp91
          rw [hpNe] at hq91
          rw [eqN]
          have hq91 : PlainAt (k + 2) h91 cs91 pN := hq91
          obtain ⟨s91, it91, rfl, ⟨adS91, cpS91, rfl, _⟩, ⟨adI91, cpI91, xsI91, rfl, _, _⟩⟩ := id hq91
          have hp' := PlainAt.mono (k + 2) _ _ _ _ hle91 hp'
          have hq' := PlainAt.mono (k + 2) _ _ _ _ hle91 hq'
          have hT := hT.mono hle91
          have haU := ArrAt.mono (k + 2) _ _ _ _ hle91 haU
          have hpU := PlainAt.mono (k + 2) _ _ _ _ hle91 hpU
          have haW := ArrAt.mono (k + 2) _ _ _ _ hle91 haW
          have hpW := PlainAt.mono (k + 2) _ _ _ _ hle91 hpW
          have haN := ArrAt.mono (k + 2) _ _ _ _ hle91 haN
          have hq87 := PlainAt.mono (k + 2) _ _ _ _ hle91 hq87
          have hq89 := PlainAt.mono (k + 2) _ _ _ _ hle91 hq89
          refine RW.nil ?_
          refine heldQ_normal ⟨_, _, 6, 5, hs, rfl, rfl⟩ ?_
          refine HW.takeR (fuel := 5) 6 rfl (fun _ _ ka kb _ hs hka hkb => Y.move rfl) ⟨_, _, 6, 5, hs, rfl, rfl⟩ rfl (by kernel_rfl) (by kernel_rfl) (by kernel_rfl) ?_
          refine HW.takeR (fuel := 4) 7 rfl (fun _ _ ka kb _ hs hka hkb => Y.extract rfl rfl) ⟨_, _, 6, 5, hs, rfl, rfl⟩ rfl (by kernel_rfl) (by kernel_rfl) (by kernel_rfl) ?_
          refine HW.takeR (fuel := 3) 8 rfl (fun _ _ ka kb _ hs hka hkb => Y.extract rfl rfl) ⟨_, _, 6, 5, hs, rfl, rfl⟩ rfl (by kernel_rfl) (by kernel_rfl) (by kernel_rfl) ?_
          refine HW.one (fuel := 2) 9 rfl (by kernel_rfl) ?_
          (refine RW.allocN T hs rfl rfl rfl rfl ?_; intro b20 w20 hs)
          refine RW.nil ?_
          refine heldQ_normal ⟨_, _, 7, 6, hs, rfl, rfl⟩ ?_
          refine HW.one (fuel := 1) 10 rfl (by kernel_rfl) ?_
          refine RW.storeAll T hs 0 rfl rfl rfl rfl rfl rfl rfl rfl ?_
          intro w991 hs
          refine RW.nil ?_
          refine heldQ_normal ⟨_, _, 7, 6, hs, rfl, rfl⟩ ?_
          refine HW.takeR (fuel := 0) 11 rfl (fun _ _ ka kb _ hs hka hkb => Y.assign rfl) ⟨_, _, 7, 6, hs, rfl, rfl⟩ rfl (by kernel_rfl) (by kernel_rfl) (by kernel_rfl) ?_
          refine HW.done (by kernel_rfl) ?_
          refine calmQ_normal ?_
          exact joinQ_meet (b20, _, h91) ⟨rfl, rfl, rfl, rfl, rfl, rfl, rfl, rfl, rfl, rfl, rfl, rfl, rfl, rfl, rfl, rfl, trivial⟩ ⟨hq91, haU, hpU, haW, hpW, haN,  hp', hq', hT, hs⟩
        · (refine RW.allocN T hs rfl rfl rfl rfl ?_; intro b20 w20 hs)
          refine RW.nil ?_
          refine heldQ_normal ⟨_, _, 7, 6, hs, rfl, rfl⟩ ?_
          refine HW.one (fuel := 5) 5 rfl (by kernel_rfl) ?_
          (refine RW.call T hs rfl rfl rfl (ref27Union_con k _ _ (tidy (k + 2) p) (tidy (k + 2) q) most _ _ hq87 hq89 tp hlpm tq hlqm hsP hfl) ?_; intro v h91 w91 hle91 hp91 hs)
          obtain ⟨cs91, rfl, hq91⟩ := hp91
          rw [hpNe] at hq91
          rw [eqN]
          have hq91 : PlainAt (k + 2) h91 cs91 pN := hq91
          obtain ⟨s91, it91, rfl, ⟨adS91, cpS91, rfl, _⟩, ⟨adI91, cpI91, xsI91, rfl, _, _⟩⟩ := id hq91
          have hp' := PlainAt.mono (k + 2) _ _ _ _ hle91 hp'
          have hq' := PlainAt.mono (k + 2) _ _ _ _ hle91 hq'
          have hT := hT.mono hle91
          have haU := ArrAt.mono (k + 2) _ _ _ _ hle91 haU
          have hpU := PlainAt.mono (k + 2) _ _ _ _ hle91 hpU
          have haW := ArrAt.mono (k + 2) _ _ _ _ hle91 haW
          have hpW := PlainAt.mono (k + 2) _ _ _ _ hle91 hpW
          have haN := ArrAt.mono (k + 2) _ _ _ _ hle91 haN
          have hq87 := PlainAt.mono (k + 2) _ _ _ _ hle91 hq87
          have hq89 := PlainAt.mono (k + 2) _ _ _ _ hle91 hq89
          refine RW.nil ?_
          refine heldQ_normal ⟨_, _, 7, 6, hs, rfl, rfl⟩ ?_
          refine HW.takeR (fuel := 4) 6 rfl (fun _ _ ka kb _ hs hka hkb => Y.move rfl) ⟨_, _, 7, 6, hs, rfl, rfl⟩ rfl (by kernel_rfl) (by kernel_rfl) (by kernel_rfl) ?_
          refine HW.takeR (fuel := 3) 7 rfl (fun _ _ ka kb _ hs hka hkb => Y.extract rfl rfl) ⟨_, _, 7, 6, hs, rfl, rfl⟩ rfl (by kernel_rfl) (by kernel_rfl) (by kernel_rfl) ?_
          refine HW.takeR (fuel := 2) 8 rfl (fun _ _ ka kb _ hs hka hkb => Y.extract rfl rfl) ⟨_, _, 7, 6, hs, rfl, rfl⟩ rfl (by kernel_rfl) (by kernel_rfl) (by kernel_rfl) ?_
          refine HW.one (fuel := 1) 10 rfl (by kernel_rfl) ?_
          refine RW.storeAll T hs 0 rfl rfl rfl rfl rfl rfl rfl rfl ?_
          intro w991 hs
          refine RW.nil ?_
          refine heldQ_normal ⟨_, _, 7, 6, hs, rfl, rfl⟩ ?_
          refine HW.takeR (fuel := 0) 11 rfl (fun _ _ ka kb _ hs hka hkb => Y.assign rfl) ⟨_, _, 7, 6, hs, rfl, rfl⟩ rfl (by kernel_rfl) (by kernel_rfl) (by kernel_rfl) ?_
          refine HW.done (by kernel_rfl) ?_
          refine calmQ_normal ?_
          exact joinQ_meet (b20, _, h91) ⟨rfl, rfl, rfl, rfl, rfl, rfl, rfl, rfl, rfl, rfl, rfl, rfl, rfl, rfl, rfl, rfl, trivial⟩ ⟨hq91, haU, hpU, haW, hpW, haN,  hp', hq', hT, hs⟩
      · (refine RW.allocN T hs rfl rfl rfl rfl ?_; intro b20 w20 hs)
        refine RW.nil ?_
        refine heldQ_normal ⟨_, _, 7, 6, hs, rfl, rfl⟩ ?_
        refine HW.one (fuel := 6) 3 rfl (by kernel_rfl) ?_
        (refine RW.call T hs rfl rfl rfl (refTidyP_con (k + 2) 40 _ q _ _ hq' hcq) ?_; intro v h89 w89 hle89 hp89 hs)
        obtain ⟨cs89, rfl, hq89⟩ := hp89
        have hp' := PlainAt.mono (k + 2) _ _ _ _ hle89 hp'
        have hq' := PlainAt.mono (k + 2) _ _ _ _ hle89 hq'
        have hT := hT.mono hle89
        have haU := ArrAt.mono (k + 2) _ _ _ _ hle89 haU
        have hpU := PlainAt.mono (k + 2) _ _ _ _ hle89 hpU
        have haW := ArrAt.mono (k + 2) _ _ _ _ hle89 haW
        have hpW := PlainAt.mono (k + 2) _ _ _ _ hle89 hpW
        have haN := ArrAt.mono (k + 2) _ _ _ _ hle89 haN
        have hq87 := PlainAt.mono (k + 2) _ _ _ _ hle89 hq87
        refine RW.nil ?_
        refine heldQ_normal ⟨_, _, 7, 6, hs, rfl, rfl⟩ ?_
        refine HW.one (fuel := 5) 5 rfl (by kernel_rfl) ?_
        (refine RW.call T hs rfl rfl rfl (ref27Union_con k _ _ (tidy (k + 2) p) (tidy (k + 2) q) most _ _ hq87 hq89 tp hlpm tq hlqm hsP hfl) ?_; intro v h91 w91 hle91 hp91 hs)
        obtain ⟨cs91, rfl, hq91⟩ := hp91
        rw [hpNe] at hq91
        rw [eqN]
        have hq91 : PlainAt (k + 2) h91 cs91 pN := hq91
        obtain ⟨s91, it91, rfl, ⟨adS91, cpS91, rfl, _⟩, ⟨adI91, cpI91, xsI91, rfl, _, _⟩⟩ := id hq91
        have hp' := PlainAt.mono (k + 2) _ _ _ _ hle91 hp'
        have hq' := PlainAt.mono (k + 2) _ _ _ _ hle91 hq'
        have hT := hT.mono hle91
        have haU := ArrAt.mono (k + 2) _ _ _ _ hle91 haU
        have hpU := PlainAt.mono (k + 2) _ _ _ _ hle91 hpU
        have haW := ArrAt.mono (k + 2) _ _ _ _ hle91 haW
        have hpW := PlainAt.mono (k + 2) _ _ _ _ hle91 hpW
        have haN := ArrAt.mono (k + 2) _ _ _ _ hle91 haN
        have hq87 := PlainAt.mono (k + 2) _ _ _ _ hle91 hq87
        have hq89 := PlainAt.mono (k + 2) _ _ _ _ hle91 hq89
        refine RW.nil ?_
        refine heldQ_normal ⟨_, _, 7, 6, hs, rfl, rfl⟩ ?_
        refine HW.takeR (fuel := 4) 6 rfl (fun _ _ ka kb _ hs hka hkb => Y.move rfl) ⟨_, _, 7, 6, hs, rfl, rfl⟩ rfl (by kernel_rfl) (by kernel_rfl) (by kernel_rfl) ?_
        refine HW.takeR (fuel := 3) 7 rfl (fun _ _ ka kb _ hs hka hkb => Y.extract rfl rfl) ⟨_, _, 7, 6, hs, rfl, rfl⟩ rfl (by kernel_rfl) (by kernel_rfl) (by kernel_rfl) ?_
        refine HW.takeR (fuel := 2) 8 rfl (fun _ _ ka kb _ hs hka hkb => Y.extract rfl rfl) ⟨_, _, 7, 6, hs, rfl, rfl⟩ rfl (by kernel_rfl) (by kernel_rfl) (by kernel_rfl) ?_
        refine HW.one (fuel := 1) 10 rfl (by kernel_rfl) ?_
        refine RW.storeAll T hs 0 rfl rfl rfl rfl rfl rfl rfl rfl ?_
        intro w991 hs
        refine RW.nil ?_
        refine heldQ_normal ⟨_, _, 7, 6, hs, rfl, rfl⟩ ?_
        refine HW.takeR (fuel := 0) 11 rfl (fun _ _ ka kb _ hs hka hkb => Y.assign rfl) ⟨_, _, 7, 6, hs, rfl, rfl⟩ rfl (by kernel_rfl) (by kernel_rfl) (by kernel_rfl) ?_
        refine HW.done (by kernel_rfl) ?_
        refine calmQ_normal ?_
        exact joinQ_meet (b20, _, h91) ⟨rfl, rfl, rfl, rfl, rfl, rfl, rfl, rfl, rfl, rfl, rfl, rfl, rfl, rfl, rfl, rfl, trivial⟩ ⟨hq91, haU, hpU, haW, hpW, haN,  hp', hq', hT, hs⟩
    · (refine RW.allocN T hs rfl rfl rfl rfl ?_; intro b20 w20 hs)
      refine RW.nil ?_
      refine heldQ_normal ⟨_, _, 7, 6, hs, rfl, rfl⟩ ?_
      refine HW.one (fuel := 7) 1 rfl (by kernel_rfl) ?_
      (refine RW.call T hs rfl rfl rfl (refTidyP_con (k + 2) 40 _ p _ _ hp' hcp) ?_; intro v h87 w87 hle87 hp87 hs)
      obtain ⟨cs87, rfl, hq87⟩ := hp87
      have hp' := PlainAt.mono (k + 2) _ _ _ _ hle87 hp'
      have hq' := PlainAt.mono (k + 2) _ _ _ _ hle87 hq'
      have hT := hT.mono hle87
      have haU := ArrAt.mono (k + 2) _ _ _ _ hle87 haU
      have hpU := PlainAt.mono (k + 2) _ _ _ _ hle87 hpU
      have haW := ArrAt.mono (k + 2) _ _ _ _ hle87 haW
      have hpW := PlainAt.mono (k + 2) _ _ _ _ hle87 hpW
      have haN := ArrAt.mono (k + 2) _ _ _ _ hle87 haN
      refine RW.nil ?_
      refine heldQ_normal ⟨_, _, 7, 6, hs, rfl, rfl⟩ ?_
      refine HW.one (fuel := 6) 3 rfl (by kernel_rfl) ?_
      (refine RW.call T hs rfl rfl rfl (refTidyP_con (k + 2) 40 _ q _ _ hq' hcq) ?_; intro v h89 w89 hle89 hp89 hs)
      obtain ⟨cs89, rfl, hq89⟩ := hp89
      have hp' := PlainAt.mono (k + 2) _ _ _ _ hle89 hp'
      have hq' := PlainAt.mono (k + 2) _ _ _ _ hle89 hq'
      have hT := hT.mono hle89
      have haU := ArrAt.mono (k + 2) _ _ _ _ hle89 haU
      have hpU := PlainAt.mono (k + 2) _ _ _ _ hle89 hpU
      have haW := ArrAt.mono (k + 2) _ _ _ _ hle89 haW
      have hpW := PlainAt.mono (k + 2) _ _ _ _ hle89 hpW
      have haN := ArrAt.mono (k + 2) _ _ _ _ hle89 haN
      have hq87 := PlainAt.mono (k + 2) _ _ _ _ hle89 hq87
      refine RW.nil ?_
      refine heldQ_normal ⟨_, _, 7, 6, hs, rfl, rfl⟩ ?_
      refine HW.one (fuel := 5) 5 rfl (by kernel_rfl) ?_
      (refine RW.call T hs rfl rfl rfl (ref27Union_con k _ _ (tidy (k + 2) p) (tidy (k + 2) q) most _ _ hq87 hq89 tp hlpm tq hlqm hsP hfl) ?_; intro v h91 w91 hle91 hp91 hs)
      obtain ⟨cs91, rfl, hq91⟩ := hp91
      rw [hpNe] at hq91
      rw [eqN]
      have hq91 : PlainAt (k + 2) h91 cs91 pN := hq91
      obtain ⟨s91, it91, rfl, ⟨adS91, cpS91, rfl, _⟩, ⟨adI91, cpI91, xsI91, rfl, _, _⟩⟩ := id hq91
      have hp' := PlainAt.mono (k + 2) _ _ _ _ hle91 hp'
      have hq' := PlainAt.mono (k + 2) _ _ _ _ hle91 hq'
      have hT := hT.mono hle91
      have haU := ArrAt.mono (k + 2) _ _ _ _ hle91 haU
      have hpU := PlainAt.mono (k + 2) _ _ _ _ hle91 hpU
      have haW := ArrAt.mono (k + 2) _ _ _ _ hle91 haW
      have hpW := PlainAt.mono (k + 2) _ _ _ _ hle91 hpW
      have haN := ArrAt.mono (k + 2) _ _ _ _ hle91 haN
      have hq87 := PlainAt.mono (k + 2) _ _ _ _ hle91 hq87
      have hq89 := PlainAt.mono (k + 2) _ _ _ _ hle91 hq89
      refine RW.nil ?_
      refine heldQ_normal ⟨_, _, 7, 6, hs, rfl, rfl⟩ ?_
      refine HW.takeR (fuel := 4) 6 rfl (fun _ _ ka kb _ hs hka hkb => Y.move rfl) ⟨_, _, 7, 6, hs, rfl, rfl⟩ rfl (by kernel_rfl) (by kernel_rfl) (by kernel_rfl) ?_
      refine HW.takeR (fuel := 3) 7 rfl (fun _ _ ka kb _ hs hka hkb => Y.extract rfl rfl) ⟨_, _, 7, 6, hs, rfl, rfl⟩ rfl (by kernel_rfl) (by kernel_rfl) (by kernel_rfl) ?_
      refine HW.takeR (fuel := 2) 8 rfl (fun _ _ ka kb _ hs hka hkb => Y.extract rfl rfl) ⟨_, _, 7, 6, hs, rfl, rfl⟩ rfl (by kernel_rfl) (by kernel_rfl) (by kernel_rfl) ?_
      refine HW.one (fuel := 1) 10 rfl (by kernel_rfl) ?_
      refine RW.storeAll T hs 0 rfl rfl rfl rfl rfl rfl rfl rfl ?_
      intro w991 hs
      refine RW.nil ?_
      refine heldQ_normal ⟨_, _, 7, 6, hs, rfl, rfl⟩ ?_
      refine HW.takeR (fuel := 0) 11 rfl (fun _ _ ka kb _ hs hka hkb => Y.assign rfl) ⟨_, _, 7, 6, hs, rfl, rfl⟩ rfl (by kernel_rfl) (by kernel_rfl) (by kernel_rfl) ?_
      refine HW.done (by kernel_rfl) ?_
      refine calmQ_normal ?_
      exact joinQ_meet (b20, _, h91) ⟨rfl, rfl, rfl, rfl, rfl, rfl, rfl, rfl, rfl, rfl, rfl, rfl, rfl, rfl, rfl, rfl, trivial⟩ ⟨hq91, haU, hpU, haW, hpW, haN,  hp', hq', hT, hs⟩
  rintro ⟨b20, cs91, h91⟩ w91 ⟨hpN, haU, hpU, haW, hpW, haN, hp', hq', hT, hs⟩
  dsimp only at hpN haU hpU haW hpW haN hp' hq' hT hs ⊢
  obtain ⟨s91, it91, rfl, ⟨adS91, cpS91, rfl, _⟩, ⟨adI91, cpI91, xsI91, rfl, _, _⟩⟩ := id hpN
  refine Zerun ?_
  (refine RW.call T hs rfl rfl rfl (shows27R_con (k + 1) _ _ _ aU pU _ _ haU hpU rsU) ?_; intro v h98 w98 hle98 hp98 hs)
  subst hp98
  have hT := hT.mono hle98
  have haW := ArrAt.mono (k + 2) _ _ _ _ hle98 haW
  have hpW := PlainAt.mono (k + 2) _ _ _ _ hle98 hpW
  have haN := ArrAt.mono (k + 2) _ _ _ _ hle98 haN
  have hpN := PlainAt.mono (k + 2) _ _ _ _ hle98 hpN
  refine Zerun ?_
  (refine RW.call T hs rfl rfl rfl (shows27R_con (k + 1) _ _ _ aW pW _ _ haW hpW rsW) ?_; intro v h104 w104 hle104 hp104 hs)
  subst hp104
  have hT := hT.mono hle104
  have haN := ArrAt.mono (k + 2) _ _ _ _ hle104 haN
  have hpN := PlainAt.mono (k + 2) _ _ _ _ hle104 hpN
  refine Zerun ?_
  (refine RW.call T hs rfl rfl rfl (shows27R_con (k + 1) _ _ _ aN pN _ _ haN hpN rsN) ?_; intro v h111 w111 hle111 hp111 hs)
  subst hp111
  have hT := hT.mono hle111
  refine Zerun ?_
  (refine RW.call T hs rfl rfl rfl (awake27_con _ _ hT) ?_; intro v h114 w114 hle114 hp114 hs)
  subst hp114
  refine Zerun ?_
  exact retQ_ret [_] h114 ⟨rfl, trivial⟩ hs.dropAll rfl
end Go.Proofs.YtmojpbfkpggjhaaGreatDoor
