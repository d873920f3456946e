/-
  Own texts of the claim, merged: Kj. Lemmas of the proof; no statement is proved here.
-/
import Derived.Test.YthbfkhklihejiaaMc
/-
  Contracts of the law's own functions of layer 8: elements cut, repeated and turned. No statement is proved here.
-/
namespace Go.Proofs.Ythbfkhklihejiaa
open Go Go.RowKit
set_option linter.unusedVariables false
set_option linter.unusedSimpArgs false
set_option maxHeartbeats 4000000
attribute [local irreducible] CW RW QW SW HW ConM retM heldQ calmQ elemP thenQ blockQ loopQ joinQ retQ Yields Con Sl zF magR unitF truncF fwF wholeF tidySpec elemQ rankF leastN tidyW
set_option maxHeartbeats 8000000

theorem AllN.drop {α : Type} {sz : Nat} {R : List Value → α → Prop} : ∀ (j : Nat) {xs : List Value} {l : List α}, AllN sz R xs l → AllN sz R (xs.drop (j * sz)) (l.drop j)
  | 0, xs, l, h => by simpa using h
  | j + 1, xs, [], h => by have : xs = [] := h; rw [this]; simp; rfl
  | j + 1, xs, a :: l, h => by
    have := AllN.drop j h.2.2
    rw [List.drop_drop] at this
    rw [List.drop_succ_cons, Nat.add_mul, Nat.one_mul, Nat.add_comm]
    exact this
theorem AllN.take {α : Type} {sz : Nat} {R : List Value → α → Prop} : ∀ (j : Nat) {xs : List Value} {l : List α}, AllN sz R xs l → AllN sz R (xs.take (j * sz)) (l.take j)
  | 0, xs, l, h => by simp; rfl
  | j + 1, xs, [], h => by have : xs = [] := h; rw [this]; simp; rfl
  | j + 1, xs, a :: l, h => by
    have h2 := AllN.take j h.2.2
    have h1 := h.1
    have e : (xs.take ((j + 1) * sz)).take sz = xs.take sz := by rw [List.take_take, Nat.add_mul, Nat.one_mul, Nat.min_eq_left (by omega)]
    refine ⟨by rw [e]; exact h1, by rw [e]; exact h.2.1, ?_⟩
    rw [List.drop_take, Nat.add_mul, Nat.one_mul, Nat.add_sub_cancel]
    exact h2
theorem RowsAt.sub {α : Type} {sz : Nat} {R : List Value → α → Prop} {h : GHeap} {ad : Option Addr} {n cp x y : Nat} {l : List α} (hl : RowsAt sz R h (.slice ad n cp) l) (hx : x ≤ y) (hy : y ≤ l.length) : RowsAt sz R h (.slice (subAd ad x cp sz) (y - x) (cp - x)) ((l.drop x).take (y - x)) := by
  obtain ⟨ad', cp', xs, e, hS, hA⟩ := hl
  cases e
  have h1 := (hS.from x (by omega)).take (y - x) (by omega)
  have hlen : ((l.drop x).take (y - x)).length = y - x := by simp; omega
  refine ⟨_, _, _, by rw [hlen], by rw [hlen]; exact h1, ?_⟩
  exact (hA.drop x).take (y - x)
theorem intoI_cutA (n : Nat) (a : Int) : intoI a 0 n = (cutA n a : Int) := by unfold intoI cutA; split <;> (try split) <;> omega
theorem intoI_cutB (n : Nat) (a b : Int) : intoI b (cutA n a : Int) n = (cutB n a b : Int) := by have := cutA_le n a; unfold intoI cutB; split <;> (try split) <;> omega
theorem cutA_nat {n x : Nat} (h : x ≤ n) : cutA n (x : Int) = x := by unfold cutA; omega
theorem cutB_nat {n x y : Nat} (h : x ≤ y) (h2 : y ≤ n) : cutB n (x : Int) (y : Int) = y := by unfold cutB cutA; omega
theorem joinC_same {α : Type} {c : Int} : ∀ (l : List (VecD α)) (c0 : Int), (∀ v ∈ l, v.cls = c) → (c0 = -1 ∨ c0 = c) → ∃ c3, joinC c0 l = some c3 ∧ (c3 = -1 ∨ c3 = c)
  | [], c0, _, h => ⟨c0, rfl, h⟩
  | v :: l, c0, hv, h => by
    by_cases h0 : v.len = 0
    · rw [joinC_skip h0]; exact joinC_same l c0 (fun u hu => hv u (List.mem_cons_of_mem _ hu)) h
    · have hc := hv v (by simp)
      rw [joinC_step h0 (by omega)]
      exact joinC_same l v.cls (fun u hu => hv u (List.mem_cons_of_mem _ hu)) (.inr hc)
theorem flatCutsLaw_con (k : Nat) (cs : List Value) (p : PD (k + 2)) (a b n : Int) (w : World) (h : GHeap) (hp : PlainAt (k + 2) h cs p) : Con Try.prog 16 [.agg cs.toArray, .int .i64 a, .int .i64 b, .int .i64 n] w h (fun _ u => u = .bool true) := by
  have hp' := hp
  have hp0 := hp
  obtain ⟨s, it, rfl, ⟨ad, cp, rfl, _⟩, ⟨ad2, cp2, xs, rfl, _, _⟩⟩ := hp
  refine Con.of_body Try.func16 rfl Try.ntmps16 rfl rfl ?_
  intro hs
  refine Zrun ?_
  (refine RW.boxN hs rfl rfl ?_; intro b1 w1 hs)
  refine Zerun ?_
  (refine RW.call T hs rfl rfl rfl (good08B_con (k + 1) _ p _ _ hp') ?_; intro v h2 w2 hle2 hp2 hs)
  obtain ⟨bb, rfl, hb⟩ := hp2
  have hp' := PlainAt.mono (k + 2) _ _ _ _ hle2 hp'
  cases bb with
  | false =>
    refine Zerun ?_
    (refine RW.call T hs rfl rfl rfl (awake08_con _ _) ?_; intro v h3 w3 hle3 hp3 hs)
    subst hp3
    refine Zerun ?_
    exact retQ_ret [_] h3 ⟨rfl, trivial⟩ hs.dropAll rfl
  | true =>
  obtain ⟨hc, hil⟩ := hb rfl
  by_cases c5 : 500 < n
  · refine Zerun ?_
    (refine RW.call T hs rfl rfl rfl (awake08_con _ _) ?_; intro v h3 w3 hle3 hp3 hs)
    subst hp3
    refine Zerun ?_
    exact retQ_ret [_] h3 ⟨rfl, trivial⟩ hs.dropAll rfl
  have hsh := shown_of k p _ _ hp0 hc
  have hil2 : (PlainD.items (α := PD (k + 1)) (tidy (k + 2) p)).length ≤ 3000 := by
    have h2 : (PlainD.items (α := PD (k + 1)) (tidy (k + 2) p)).length = (PlainD.items (α := PD (k + 1)) p).length := List.length_map ..
    omega
  have hcr : PlainD.fill (α := PD (k + 1)) p = 0 ∨ PlainD.fill (α := PD (k + 1)) p = 1 ∨ PlainD.fill (α := PD (k + 1)) p = 2 := by
    rw [← hsh.hc]; exact cls_rng _
  refine Zerun ?_
  refine CW.meet (fun q : Nat × List Value × (Option Addr × Nat) × GHeap => [(1, .int .i64 a), (2, .int .i64 b), (3, .int .i64 n), (4, .pointer (some ⟨b1, 0, none⟩)), (9, .pointer (some ⟨q.1, 0, none⟩)), (10, .slice q.2.2.1.1 (PlainD.items (α := PD (k + 1)) (tidy (k + 2) p)).length q.2.2.1.2)]) (fun q w' => VecAt (ArrAt (k + 1)) q.2.2.2 q.2.1 (ArrD.vec (α := AD (k + 1)) (arr (k + 2) p)) ∧ RowsAt 4 (ItemAt (PlainAt (k + 1)) q.2.2.2) q.2.2.2 (.slice q.2.2.1.1 (PlainD.items (α := PD (k + 1)) (tidy (k + 2) p)).length q.2.2.1.2) (PlainD.items (α := PD (k + 1)) (tidy (k + 2) p)) ∧ Sees w h q.2.2.2 [⟨some ⟨q.1, 0, none⟩, 1, 1, 61, 8, q.2.1⟩, ⟨some ⟨b1, 0, none⟩, 1, 1, 50, 3, [.slice ad p.shape.length cp, .slice ad2 p.items.length cp2, .int .i64 p.fill]⟩] w') ?_ ?_
  · refine CW.regionR T 0 0 hs rfl rfl ?_
    intro w4 hs
    refine HW.takeR (fuel := 8) 0 rfl (fun _ _ ka kb _ hs hka hkb => Y.loadRowN T hs ka hka rfl rfl rfl rfl rfl rfl) ⟨_, _, 0, 0, hs, rfl, rfl⟩ rfl (by kernel_rfl) (by kernel_rfl) (by kernel_rfl) ?_
    refine HW.takeR (fuel := 7) 3 rfl (fun _ _ ka kb _ hs hka hkb => Y.loadRowN T hs ka hka rfl rfl rfl rfl rfl rfl) ⟨_, _, 0, 0, hs, rfl, rfl⟩ rfl (by kernel_rfl) (by kernel_rfl) (by kernel_rfl) ?_
    refine HW.two (fuel := 6) 1 6 rfl rfl (by kernel_rfl) ?_ ?_
    · (refine RW.call T hs rfl rfl rfl (of07_con (k + 2) _ p _ _ hp' hc) ?_; intro v h24 w24 hle24 hp24 hs)
      obtain ⟨cs24, rfl, _, _, s24, vc24, rfl, _, hvv⟩ := hp24
      have hvs24 := hvv.size
      have hvv' := hvv
      obtain ⟨wv, nv, sm, il, fl, ch, bx, ⟨rfl, hoc⟩, _⟩ := hvv'
      have hp' := PlainAt.mono (k + 2) _ _ _ _ hle24 hp'
      refine RW.nil ?_
      refine heldQ_normal ⟨_, _, 0, 0, hs, rfl, rfl⟩ ?_
      refine HW.takeR (fuel := 5) 2 rfl (fun _ _ ka kb _ hs hka hkb => Y.fieldVec T rfl rfl rfl rfl rfl rfl hvs24) ⟨_, _, 0, 0, hs, rfl, rfl⟩ rfl (by kernel_rfl) (by kernel_rfl) (by kernel_rfl) ?_
      refine HW.two (fuel := 4) 4 6 rfl rfl (by kernel_rfl) ?_ ?_
      · (refine RW.call T hs rfl rfl rfl (refTidyP_con (k + 2) 40 _ p _ _ hp' hc) ?_; intro v h27 w27 hle27 hp27 hs)
        obtain ⟨cs27, rfl, s27, it27, rfl, ⟨ad27, cp27, rfl, _⟩, hit27⟩ := hp27
        obtain ⟨adI, cpI, xsI, rfl, _, _⟩ := id hit27
        have hvv := hvv.mono (ArrAt.mono (k + 1)) hle27
        refine RW.nil ?_
        refine heldQ_normal ⟨_, _, 0, 0, hs, rfl, rfl⟩ ?_
        refine HW.takeR (fuel := 3) 5 rfl (fun _ _ ka kb _ hs hka hkb => Y.field1 T rfl rfl rfl rfl rfl rfl) ⟨_, _, 0, 0, hs, rfl, rfl⟩ rfl (by kernel_rfl) (by kernel_rfl) (by kernel_rfl) ?_
        refine HW.one (fuel := 2) 6 rfl (by kernel_rfl) ?_
        (refine RW.allocN T hs rfl rfl rfl rfl ?_; intro b29 w29 hs)
        refine RW.nil ?_
        refine heldQ_normal ⟨_, _, 1, 1, hs, rfl, rfl⟩ ?_
        refine HW.one (fuel := 1) 7 rfl (by kernel_rfl) ?_
        (refine RW.storeAll T hs 0 rfl rfl rfl rfl rfl rfl hoc rfl ?_; intro w30 hs)
        refine RW.nil ?_
        refine heldQ_normal ⟨_, _, 1, 1, hs, rfl, rfl⟩ ?_
        refine HW.takeR (fuel := 0) 8 rfl (fun _ _ ka kb _ hs hka hkb => Y.assign rfl) ⟨_, _, 1, 1, hs, rfl, rfl⟩ rfl (by kernel_rfl) (by kernel_rfl) (by kernel_rfl) ?_
        refine HW.done (by kernel_rfl) ?_
        refine calmQ_normal ?_
        exact joinQ_meet (b29, _, (adI, cpI), h27) ⟨rfl, rfl, rfl, rfl, rfl, rfl, trivial⟩ ⟨hvv, hit27, hs⟩
      · (refine RW.allocN T hs rfl rfl rfl rfl ?_; intro b29 w29 hs)
        refine RW.nil ?_
        refine heldQ_normal ⟨_, _, 1, 1, hs, rfl, rfl⟩ ?_
        refine HW.one (fuel := 3) 4 rfl (by kernel_rfl) ?_
        (refine RW.call T hs rfl rfl rfl (refTidyP_con (k + 2) 40 _ p _ _ hp' hc) ?_; intro v h27 w27 hle27 hp27 hs)
        obtain ⟨cs27, rfl, s27, it27, rfl, ⟨ad27, cp27, rfl, _⟩, hit27⟩ := hp27
        obtain ⟨adI, cpI, xsI, rfl, _, _⟩ := id hit27
        have hvv := hvv.mono (ArrAt.mono (k + 1)) hle27
        refine RW.nil ?_
        refine heldQ_normal ⟨_, _, 1, 1, hs, rfl, rfl⟩ ?_
        refine HW.takeR (fuel := 2) 5 rfl (fun _ _ ka kb _ hs hka hkb => Y.field1 T rfl rfl rfl rfl rfl rfl) ⟨_, _, 1, 1, hs, rfl, rfl⟩ rfl (by kernel_rfl) (by kernel_rfl) (by kernel_rfl) ?_
        refine HW.one (fuel := 1) 7 rfl (by kernel_rfl) ?_
        (refine RW.storeAll T hs 0 rfl rfl rfl rfl rfl rfl hoc rfl ?_; intro w30 hs)
        refine RW.nil ?_
        refine heldQ_normal ⟨_, _, 1, 1, hs, rfl, rfl⟩ ?_
        refine HW.takeR (fuel := 0) 8 rfl (fun _ _ ka kb _ hs hka hkb => Y.assign rfl) ⟨_, _, 1, 1, hs, rfl, rfl⟩ rfl (by kernel_rfl) (by kernel_rfl) (by kernel_rfl) ?_
        refine HW.done (by kernel_rfl) ?_
        refine calmQ_normal ?_
        exact joinQ_meet (b29, _, (adI, cpI), h27) ⟨rfl, rfl, rfl, rfl, rfl, rfl, trivial⟩ ⟨hvv, hit27, hs⟩
    · (refine RW.allocN T hs rfl rfl rfl rfl ?_; intro b29 w29 hs)
      refine RW.nil ?_
      refine heldQ_normal ⟨_, _, 1, 1, hs, rfl, rfl⟩ ?_
      refine HW.one (fuel := 5) 1 rfl (by kernel_rfl) ?_
      (refine RW.call T hs rfl rfl rfl (of07_con (k + 2) _ p _ _ hp' hc) ?_; intro v h24 w24 hle24 hp24 hs)
      obtain ⟨cs24, rfl, _, _, s24, vc24, rfl, _, hvv⟩ := hp24
      have hvs24 := hvv.size
      have hvv' := hvv
      obtain ⟨wv, nv, sm, il, fl, ch, bx, ⟨rfl, hoc⟩, _⟩ := hvv'
      have hp' := PlainAt.mono (k + 2) _ _ _ _ hle24 hp'
      refine RW.nil ?_
      refine heldQ_normal ⟨_, _, 1, 1, hs, rfl, rfl⟩ ?_
      refine HW.takeR (fuel := 4) 2 rfl (fun _ _ ka kb _ hs hka hkb => Y.fieldVec T rfl rfl rfl rfl rfl rfl hvs24) ⟨_, _, 1, 1, hs, rfl, rfl⟩ rfl (by kernel_rfl) (by kernel_rfl) (by kernel_rfl) ?_
      refine HW.one (fuel := 3) 4 rfl (by kernel_rfl) ?_
      (refine RW.call T hs rfl rfl rfl (refTidyP_con (k + 2) 40 _ p _ _ hp' hc) ?_; intro v h27 w27 hle27 hp27 hs)
      obtain ⟨cs27, rfl, s27, it27, rfl, ⟨ad27, cp27, rfl, _⟩, hit27⟩ := hp27
      obtain ⟨adI, cpI, xsI, rfl, _, _⟩ := id hit27
      have hvv := hvv.mono (ArrAt.mono (k + 1)) hle27
      refine RW.nil ?_
      refine heldQ_normal ⟨_, _, 1, 1, hs, rfl, rfl⟩ ?_
      refine HW.takeR (fuel := 2) 5 rfl (fun _ _ ka kb _ hs hka hkb => Y.field1 T rfl rfl rfl rfl rfl rfl) ⟨_, _, 1, 1, hs, rfl, rfl⟩ rfl (by kernel_rfl) (by kernel_rfl) (by kernel_rfl) ?_
      refine HW.one (fuel := 1) 7 rfl (by kernel_rfl) ?_
      (refine RW.storeAll T hs 0 rfl rfl rfl rfl rfl rfl hoc rfl ?_; intro w30 hs)
      refine RW.nil ?_
      refine heldQ_normal ⟨_, _, 1, 1, hs, rfl, rfl⟩ ?_
      refine HW.takeR (fuel := 0) 8 rfl (fun _ _ ka kb _ hs hka hkb => Y.assign rfl) ⟨_, _, 1, 1, hs, rfl, rfl⟩ rfl (by kernel_rfl) (by kernel_rfl) (by kernel_rfl) ?_
      refine HW.done (by kernel_rfl) ?_
      refine calmQ_normal ?_
      exact joinQ_meet (b29, _, (adI, cpI), h27) ⟨rfl, rfl, rfl, rfl, rfl, rfl, trivial⟩ ⟨hvv, hit27, hs⟩
  rintro ⟨b29, vc, ⟨adI, cpI⟩, h30⟩ w30 ⟨hvv, hitR, hs⟩
  dsimp only at hvv hitR hs ⊢
  have hVl : (ArrD.vec (α := AD (k + 1)) (arr (k + 2) p)).len = (PlainD.items (α := PD (k + 1)) (tidy (k + 2) p)).length := by rw [← hsh.he, itemsV_len (plain (k + 1)) hvv]
  generalize ArrD.vec (α := AD (k + 1)) (arr (k + 2) p) = V at hvv hsh hVl ⊢
  generalize PlainD.items (α := PD (k + 1)) (tidy (k + 2) p) = L at hitR hsh hVl hil2 ⊢
  generalize PlainD.fill (α := PD (k + 1)) p = c at hs hsh hcr ⊢
  generalize (PlainD.shape (α := PD (k + 1)) p).length = nsh at hs ⊢
  generalize (PlainD.items (α := PD (k + 1)) p).length = nit at hs ⊢
  have hcI : L.length ≤ cpI ∧ cpI ≤ 9223372036854775807 := by
    obtain ⟨_, _, _, e, hS, _⟩ := id hitR
    cases e
    exact hS.caps
  obtain ⟨wv, nv, sm, il, fl, ch, bx, ⟨rfl, hoc⟩, _⟩ := id hvv
  refine Zerun ?_
  (refine RW.call T hs rfl rfl rfl (refInto_con _ _ _ _ _) ?_; intro v h31 w31 hle31 hp31 hs)
  subst hp31
  rw [intoI_cutA]
  refine Zerun ?_
  (refine RW.call T hs rfl rfl rfl (refInto_con _ _ _ _ _) ?_; intro v h32 w32 hle32 hp32 hs)
  subst hp32
  rw [intoI_cutB]
  have hvv := hvv.mono (ArrAt.mono (k + 1)) (hle31.trans hle32)
  have hitR := hitR.mono (hle31.trans hle32) (fun u a => ItemAt.mono (PlainAt.mono (k + 1)) _ _ u a (hle31.trans hle32))
  have hxl := cutA_le L.length a
  obtain ⟨hx4, hx5⟩ := cutB_le L.length a b
  generalize hcx : cutA L.length a = x at hxl hx4 ⊢
  generalize hcy : cutB L.length a b = y at hx4 hx5 ⊢
  have hx6 : 0 ≤ (x : Int) ∧ (x : Int) ≤ y ∧ (y : Int) ≤ cpI := by omega
  have hspan : ∀ f t_ : Nat, f ≤ t_ → t_ ≤ L.length → Shown (k + 1) (V.pick (spanL f t_) (blankA k)) ((L.drop f).take (t_ - f)) c := by
    intro f t_ h1 h2
    have := hsh.pick (spanL f t_) (by rw [spanL_length]; omega)
    rw [span_items L f t_ h1 h2 (blankI c : ItemD (PlainD (PD k)))] at this
    exact this
  have hsh41 := hspan x y hx4 hx5
  have hsh53 := hsh.pick (againL n.toNat L.length) (by rw [againL_length]; omega)
  have hsh66 := hsh.pick (turnL L.length) (by rw [turnL_length]; omega)
  have hTl : (V.pick (turnL L.length) (blankA k)).len = L.length := by rw [(pick_facts V (turnL L.length) (blankA k)).2.2.1, turnL_length]
  rw [turn_items L (blankI c : ItemD (PlainD (PD k)))] at hsh66
  have hsh77 := hsh66.pick (turnL L.length) (by rw [turnL_length]; omega)
  have ett : (turnL L.length).map (fun i => atD L.reverse i (blankI c : ItemD (PlainD (PD k)))) = L := by
    have := turn_items L.reverse (blankI c : ItemD (PlainD (PD k)))
    rw [List.length_reverse, List.reverse_reverse] at this
    exact this
  rw [ett] at hsh77
  have etn : (turnL L.length).map (fun i => atD L i noItem) = L.reverse := turn_items L noItem
  refine Zerun ?_
  refine CW.meet (fun _ : GHeap => [(4, .pointer (some ⟨b1, 0, none⟩)), (9, .pointer (some ⟨b29, 0, none⟩)), (10, .slice adI L.length cpI), (11, .int .i64 x), (12, .int .i64 y), (83, .bool false)]) (fun q w' => VecAt (ArrAt (k + 1)) q (vecCells V.kind wv nv sm il fl ch bx) V ∧ RowsAt 4 (ItemAt (PlainAt (k + 1)) q) q (.slice adI L.length cpI) L ∧ Sees w h q [⟨some ⟨b29, 0, none⟩, 1, 1, 61, 8, vecCells V.kind wv nv sm il fl ch bx⟩, ⟨some ⟨b1, 0, none⟩, 1, 1, 50, 3, [.slice ad nsh cp, .slice ad2 nit cp2, .int .i64 c]⟩] w') ?_ ?_
  · refine CW.regionO T hs ?_
    intro w33 hs
    refine HW.takeS (fuel := 45) 0 rfl (fun _ _ hs => Y.loadRowN T hs 0 rfl rfl rfl rfl rfl rfl rfl) hs rfl (by kernel_rfl) (by kernel_rfl) (by kernel_rfl) ?_
    refine HW.takeS (fuel := 44) 1 rfl (fun _ _ hs => Y.move rfl) hs rfl (by kernel_rfl) (by kernel_rfl) (by kernel_rfl) ?_
    refine HW.takeS (fuel := 43) 2 rfl (fun _ _ hs => Y.move rfl) hs rfl (by kernel_rfl) (by kernel_rfl) (by kernel_rfl) ?_
    refine HW.takeS (fuel := 42) 4 rfl (fun _ _ hs => Y.move rfl) hs rfl (by kernel_rfl) (by kernel_rfl) (by kernel_rfl) ?_
    refine HW.takeS (fuel := 41) 5 rfl (fun _ _ hs => Y.move rfl) hs rfl (by kernel_rfl) (by kernel_rfl) (by kernel_rfl) ?_
    refine HW.takeS (fuel := 40) 6 rfl (fun _ _ hs => Y.move rfl) hs rfl (by kernel_rfl) (by kernel_rfl) (by kernel_rfl) ?_
    refine HW.takeS (fuel := 39) 7 rfl (fun _ _ hs => Y.sliceLH T rfl rfl rfl rfl rfl hx6) hs rfl (by kernel_rfl) (by kernel_rfl) (by kernel_rfl) ?_
    refine HW.takeS (fuel := 38) 8 rfl (fun _ _ hs => Y.fieldAddr T rfl rfl rfl rfl rfl) hs rfl (by kernel_rfl) (by kernel_rfl) (by kernel_rfl) ?_
    refine HW.takeS (fuel := 37) 9 rfl (fun _ _ hs => Y.loadRow1 T hs 1 rfl rfl rfl rfl rfl) hs rfl (by kernel_rfl) (by kernel_rfl) (by kernel_rfl) ?_
    refine HW.one (fuel := 36) 3 rfl (by kernel_rfl) ?_
    (refine RW.call T hs rfl rfl rfl (flatCut_con (ArrAt.mono (k + 1)) (ArrAt.one (k + 1)) (ArrAt.siz (k + 1)) (blankA k) (fun w h => flatBlank_con (ArrAt.mono k) (ArrAt.one k) w h) _ _ _ _ _ _ hvv hsh.vm hsh.k0) ?_; intro v h41 w41 hle41 hp41 hs)
    obtain ⟨cs41, rfl, hv41⟩ := hp41
    rw [hVl, hcx, hcy] at hv41
    have hvv := hvv.mono (ArrAt.mono (k + 1)) hle41
    have hitR := hitR.mono hle41 (fun u a => ItemAt.mono (PlainAt.mono (k + 1)) _ _ u a hle41)
    refine RW.nil ?_
    refine heldQ_normal ⟨_, hs⟩ ?_
    refine HW.one (fuel := 35) 10 rfl (by kernel_rfl) ?_
    (refine RW.call T hs rfl rfl rfl (shows_con (k + 1) _ _ _ _ _ _ _ hv41 (hitR.sub hx4 hx5) hsh41.hc hsh41.k0 hsh41.kl hsh41.vm hsh41.sm hsh41.he hsh41.td) ?_; intro v h48 w48 hle48 hp48 hs)
    subst hp48
    have hvv := hvv.mono (ArrAt.mono (k + 1)) hle48
    have hitR := hitR.mono hle48 (fun u a => ItemAt.mono (PlainAt.mono (k + 1)) _ _ u a hle48)
    refine RW.nil ?_
    refine heldQ_normal ⟨_, hs⟩ ?_
    refine HW.takeS (fuel := 34) 11 rfl (fun _ _ hs => Y.not rfl) hs rfl (by kernel_rfl) (by kernel_rfl) (by kernel_rfl) ?_
    refine HW.takeS (fuel := 33) 12 rfl (fun _ _ hs => Y.move rfl) hs rfl (by kernel_rfl) (by kernel_rfl) (by kernel_rfl) ?_
    refine HW.takeSY (fuel := 32) 13 rfl rfl rfl (fun _ _ hs => Y.loadRowN T hs 0 rfl rfl rfl rfl rfl rfl rfl) hs rfl (by kernel_rfl) (by kernel_rfl) (by kernel_rfl) ?_
    refine HW.takeSY (fuel := 31) 14 rfl rfl rfl (fun _ _ hs => Y.move rfl) hs rfl (by kernel_rfl) (by kernel_rfl) (by kernel_rfl) ?_
    refine HW.takeSY (fuel := 30) 16 rfl rfl rfl (fun _ _ hs => Y.move rfl) hs rfl (by kernel_rfl) (by kernel_rfl) (by kernel_rfl) ?_
    refine HW.takeSY (fuel := 29) 17 rfl rfl rfl (fun _ _ hs => Y.fieldAddr T rfl rfl rfl rfl rfl) hs rfl (by kernel_rfl) (by kernel_rfl) (by kernel_rfl) ?_
    refine HW.takeSY (fuel := 28) 18 rfl rfl rfl (fun _ _ hs => Y.loadRow1 T hs 1 rfl rfl rfl rfl rfl) hs rfl (by kernel_rfl) (by kernel_rfl) (by kernel_rfl) ?_
    refine HW.takeSY (fuel := 27) 19 rfl rfl rfl (fun _ _ hs => Y.move rfl) hs rfl (by kernel_rfl) (by kernel_rfl) (by kernel_rfl) ?_
    refine HW.takeSY (fuel := 26) 21 rfl rfl rfl (fun _ _ hs => Y.fieldAddr T rfl rfl rfl rfl rfl) hs rfl (by kernel_rfl) (by kernel_rfl) (by kernel_rfl) ?_
    refine HW.takeSY (fuel := 25) 22 rfl rfl rfl (fun _ _ hs => Y.loadRow1 T hs 1 rfl rfl rfl rfl rfl) hs rfl (by kernel_rfl) (by kernel_rfl) (by kernel_rfl) ?_
    refine HW.one (fuel := 24) 15 rfl (by kernel_rfl) ?_
    refine RW.guardYes rfl rfl ?_
    (refine RW.call T hs rfl rfl rfl (flatAgain_con (ArrAt.mono (k + 1)) (ArrAt.one (k + 1)) (ArrAt.siz (k + 1)) (blankA k) (fun w h => flatBlank_con (ArrAt.mono k) (ArrAt.one k) w h) _ _ _ _ _ hvv hsh.vm hsh.k0 (by omega)) ?_; intro v h53 w53 hle53 hp53 hs)
    obtain ⟨cs53, rfl, hv53⟩ := hp53
    rw [hVl] at hv53
    have hvv := hvv.mono (ArrAt.mono (k + 1)) hle53
    have hitR := hitR.mono hle53 (fun u a => ItemAt.mono (PlainAt.mono (k + 1)) _ _ u a hle53)
    refine RW.nil ?_
    refine heldQ_normal ⟨_, hs⟩ ?_
    refine HW.one (fuel := 23) 20 rfl (by kernel_rfl) ?_
    refine RW.guardYes rfl rfl ?_
    (refine RW.call T hs rfl rfl rfl (refAgain08_con (PlainAt.mono k) _ _ _ _ _ _ hitR (by omega)) ?_; intro v h58 w58 hle58 hp58 hs)
    have hvv := hvv.mono (ArrAt.mono (k + 1)) hle58
    have hitR := hitR.mono hle58 (fun u a => ItemAt.mono (PlainAt.mono (k + 1)) _ _ u a hle58)
    have hv53 := hv53.mono (ArrAt.mono (k + 1)) hle58
    refine RW.nil ?_
    refine heldQ_normal ⟨_, hs⟩ ?_
    refine HW.one (fuel := 22) 23 rfl (by kernel_rfl) ?_
    refine RW.guardYes rfl rfl ?_
    (refine RW.call T hs rfl rfl rfl (shows_con (k + 1) _ _ _ _ _ _ _ hv53 hp58 hsh53.hc hsh53.k0 hsh53.kl hsh53.vm hsh53.sm hsh53.he hsh53.td) ?_; intro v h61 w61 hle61 hp61 hs)
    subst hp61
    have hvv := hvv.mono (ArrAt.mono (k + 1)) hle61
    have hitR := hitR.mono hle61 (fun u a => ItemAt.mono (PlainAt.mono (k + 1)) _ _ u a hle61)
    refine RW.nil ?_
    refine heldQ_normal ⟨_, hs⟩ ?_
    refine HW.takeSY (fuel := 21) 24 rfl rfl rfl (fun _ _ hs => Y.not rfl) hs rfl (by kernel_rfl) (by kernel_rfl) (by kernel_rfl) ?_
    refine HW.takeS (fuel := 20) 25 rfl (fun _ _ hs => Y.pickB rfl rfl rfl) hs rfl (by kernel_rfl) (by kernel_rfl) (by kernel_rfl) ?_
    refine HW.takeS (fuel := 19) 26 rfl (fun _ _ hs => Y.move rfl) hs rfl (by kernel_rfl) (by kernel_rfl) (by kernel_rfl) ?_
    refine HW.takeSY (fuel := 18) 27 rfl rfl rfl (fun _ _ hs => Y.loadRowN T hs 0 rfl rfl rfl rfl rfl rfl rfl) hs rfl (by kernel_rfl) (by kernel_rfl) (by kernel_rfl) ?_
    refine HW.takeSY (fuel := 17) 29 rfl rfl rfl (fun _ _ hs => Y.move rfl) hs rfl (by kernel_rfl) (by kernel_rfl) (by kernel_rfl) ?_
    refine HW.takeSY (fuel := 16) 31 rfl rfl rfl (fun _ _ hs => Y.fieldAddr T rfl rfl rfl rfl rfl) hs rfl (by kernel_rfl) (by kernel_rfl) (by kernel_rfl) ?_
    refine HW.takeSY (fuel := 15) 32 rfl rfl rfl (fun _ _ hs => Y.loadRow1 T hs 1 rfl rfl rfl rfl rfl) hs rfl (by kernel_rfl) (by kernel_rfl) (by kernel_rfl) ?_
    refine HW.one (fuel := 14) 28 rfl (by kernel_rfl) ?_
    refine RW.guardYes rfl rfl ?_
    (refine RW.call T hs rfl rfl rfl (flatTurn_con (ArrAt.mono (k + 1)) (ArrAt.one (k + 1)) (ArrAt.siz (k + 1)) (blankA k) (fun w h => flatBlank_con (ArrAt.mono k) (ArrAt.one k) w h) _ _ _ _ hvv hsh.vm hsh.k0) ?_; intro v h66 w66 hle66 hp66 hs)
    obtain ⟨cs66, rfl, hv66⟩ := hp66
    rw [hVl] at hv66
    have hvv := hvv.mono (ArrAt.mono (k + 1)) hle66
    have hitR := hitR.mono hle66 (fun u a => ItemAt.mono (PlainAt.mono (k + 1)) _ _ u a hle66)
    refine RW.nil ?_
    refine heldQ_normal ⟨_, hs⟩ ?_
    refine HW.one (fuel := 13) 30 rfl (by kernel_rfl) ?_
    refine RW.guardYes rfl rfl ?_
    (refine RW.call T hs rfl rfl rfl (refTurn08_con (PlainAt.mono (k + 1)) _ _ _ _ hitR (by omega)) ?_; intro v h68 w68 hle68 hp68 hs)
    rw [etn] at hp68
    have hvv := hvv.mono (ArrAt.mono (k + 1)) hle68
    have hitR := hitR.mono hle68 (fun u a => ItemAt.mono (PlainAt.mono (k + 1)) _ _ u a hle68)
    have hv66 := hv66.mono (ArrAt.mono (k + 1)) hle68
    refine RW.nil ?_
    refine heldQ_normal ⟨_, hs⟩ ?_
    refine HW.one (fuel := 12) 33 rfl (by kernel_rfl) ?_
    refine RW.guardYes rfl rfl ?_
    (refine RW.call T hs rfl rfl rfl (shows_con (k + 1) _ _ _ _ _ _ _ hv66 hp68 hsh66.hc hsh66.k0 hsh66.kl hsh66.vm hsh66.sm hsh66.he hsh66.td) ?_; intro v h71 w71 hle71 hp71 hs)
    subst hp71
    have hvv := hvv.mono (ArrAt.mono (k + 1)) hle71
    have hitR := hitR.mono hle71 (fun u a => ItemAt.mono (PlainAt.mono (k + 1)) _ _ u a hle71)
    refine RW.nil ?_
    refine heldQ_normal ⟨_, hs⟩ ?_
    refine HW.takeSY (fuel := 11) 34 rfl rfl rfl (fun _ _ hs => Y.not rfl) hs rfl (by kernel_rfl) (by kernel_rfl) (by kernel_rfl) ?_
    refine HW.takeS (fuel := 10) 35 rfl (fun _ _ hs => Y.pickB rfl rfl rfl) hs rfl (by kernel_rfl) (by kernel_rfl) (by kernel_rfl) ?_
    refine HW.takeS (fuel := 9) 36 rfl (fun _ _ hs => Y.move rfl) hs rfl (by kernel_rfl) (by kernel_rfl) (by kernel_rfl) ?_
    refine HW.takeSY (fuel := 8) 37 rfl rfl rfl (fun _ _ hs => Y.loadRowN T hs 0 rfl rfl rfl rfl rfl rfl rfl) hs rfl (by kernel_rfl) (by kernel_rfl) (by kernel_rfl) ?_
    refine HW.takeSY (fuel := 7) 40 rfl rfl rfl (fun _ _ hs => Y.move rfl) hs rfl (by kernel_rfl) (by kernel_rfl) (by kernel_rfl) ?_
    refine HW.takeSY (fuel := 6) 41 rfl rfl rfl (fun _ _ hs => Y.fieldAddr T rfl rfl rfl rfl rfl) hs rfl (by kernel_rfl) (by kernel_rfl) (by kernel_rfl) ?_
    refine HW.takeSY (fuel := 5) 42 rfl rfl rfl (fun _ _ hs => Y.loadRow1 T hs 1 rfl rfl rfl rfl rfl) hs rfl (by kernel_rfl) (by kernel_rfl) (by kernel_rfl) ?_
    refine HW.one (fuel := 4) 38 rfl (by kernel_rfl) ?_
    refine RW.guardYes rfl rfl ?_
    (refine RW.call T hs rfl rfl rfl (flatTurn_con (ArrAt.mono (k + 1)) (ArrAt.one (k + 1)) (ArrAt.siz (k + 1)) (blankA k) (fun w h => flatBlank_con (ArrAt.mono k) (ArrAt.one k) w h) _ _ _ _ hvv hsh.vm hsh.k0) ?_; intro v h76 w76 hle76 hp76 hs)
    obtain ⟨cs76, rfl, hv76⟩ := hp76
    rw [hVl] at hv76
    have hvv := hvv.mono (ArrAt.mono (k + 1)) hle76
    have hitR := hitR.mono hle76 (fun u a => ItemAt.mono (PlainAt.mono (k + 1)) _ _ u a hle76)
    refine RW.nil ?_
    refine heldQ_normal ⟨_, hs⟩ ?_
    refine HW.one (fuel := 3) 39 rfl (by kernel_rfl) ?_
    refine RW.guardYes rfl rfl ?_
    (refine RW.call T hs rfl rfl rfl (flatTurn_con (ArrAt.mono (k + 1)) (ArrAt.one (k + 1)) (ArrAt.siz (k + 1)) (blankA k) (fun w h => flatBlank_con (ArrAt.mono k) (ArrAt.one k) w h) _ _ _ _ hv76 hsh66.vm hsh66.k0) ?_; intro v h77 w77 hle77 hp77 hs)
    obtain ⟨cs77, rfl, hv77⟩ := hp77
    rw [hTl] at hv77
    have hvv := hvv.mono (ArrAt.mono (k + 1)) hle77
    have hitR := hitR.mono hle77 (fun u a => ItemAt.mono (PlainAt.mono (k + 1)) _ _ u a hle77)
    refine RW.nil ?_
    refine heldQ_normal ⟨_, hs⟩ ?_
    refine HW.one (fuel := 2) 43 rfl (by kernel_rfl) ?_
    refine RW.guardYes rfl rfl ?_
    (refine RW.call T hs rfl rfl rfl (shows_con (k + 1) _ _ _ _ _ _ _ hv77 hitR hsh77.hc hsh77.k0 hsh77.kl hsh77.vm hsh77.sm hsh77.he hsh77.td) ?_; intro v h81 w81 hle81 hp81 hs)
    subst hp81
    have hvv := hvv.mono (ArrAt.mono (k + 1)) hle81
    have hitR := hitR.mono hle81 (fun u a => ItemAt.mono (PlainAt.mono (k + 1)) _ _ u a hle81)
    refine RW.nil ?_
    refine heldQ_normal ⟨_, hs⟩ ?_
    refine HW.takeSY (fuel := 1) 44 rfl rfl rfl (fun _ _ hs => Y.not rfl) hs rfl (by kernel_rfl) (by kernel_rfl) (by kernel_rfl) ?_
    refine HW.takeS (fuel := 0) 45 rfl (fun _ _ hs => Y.pickB rfl rfl rfl) hs rfl (by kernel_rfl) (by kernel_rfl) (by kernel_rfl) ?_
    refine HW.done (by kernel_rfl) ?_
    refine calmQ_normal ?_
    exact joinQ_meet h81 ⟨rfl, rfl, rfl, rfl, rfl, rfl, trivial⟩ ⟨hvv, hitR, hs⟩
  rintro h81 w81 ⟨hvv, hitR, hs⟩
  have e87 : V.pick (spanL (cutA V.len 0) (cutB V.len 0 (x : Int))) (blankA k) = V.pick (spanL 0 x) (blankA k) := by
    rw [show (0 : Int) = ((0 : Nat) : Int) from rfl, hVl, cutA_nat (by omega), cutB_nat (by omega) (by omega)]
  have e91 : V.pick (spanL (cutA V.len (x : Int)) (cutB V.len (x : Int) (y : Int))) (blankA k) = V.pick (spanL x y) (blankA k) := by
    rw [hVl, cutA_nat (by omega), cutB_nat (by omega) (by omega)]
  have e96 : V.pick (spanL (cutA V.len (y : Int)) (cutB V.len (y : Int) (L.length : Int))) (blankA k) = V.pick (spanL y L.length) (blankA k) := by
    rw [hVl, cutA_nat (by omega), cutB_nat (by omega) (by omega)]
  have hA := hspan 0 x (by omega) (by omega)
  have hB := hspan x y (by omega) (by omega)
  have hC := hspan y L.length (by omega) (by omega)
  have hpl := fun f t_ : Nat => (pick_facts V (spanL f t_) (blankA k)).2.2.1
  have hsum3 : ([V.pick (spanL 0 x) (blankA k), V.pick (spanL x y) (blankA k), V.pick (spanL y L.length) (blankA k)].map VecD.len).sum ≤ 1048576 := by
    simp only [List.map_cons, List.map_nil, List.sum_cons, List.sum_nil, hpl, spanL_length]
    omega
  have hall : ∀ v ∈ [V.pick (spanL 0 x) (blankA k), V.pick (spanL x y) (blankA k), V.pick (spanL y L.length) (blankA k)], Shown (k + 1) v (itemsV (plain (k + 1)) v) c := by
    intro v hv
    simp only [List.mem_cons, List.not_mem_nil, or_false] at hv
    rcases hv with rfl | rfl | rfl
    · rw [hA.he]; exact hA
    · rw [hB.he]; exact hB
    · rw [hC.he]; exact hC
  obtain ⟨c3, hj3, hc3⟩ := joinC_same _ (-1) (fun v hv => (hall v hv).hc) (.inl rfl)
  have hJ := shown_join hj3 (fun v hv => by rw [(hall v hv).hc]; exact hall v hv) hsum3
  have hcc : (if 0 ≤ c3 then c3 else headC [V.pick (spanL 0 x) (blankA k), V.pick (spanL x y) (blankA k), V.pick (spanL y L.length) (blankA k)]) = c := by
    rcases hc3 with rfl | rfl
    · exact hA.hc
    · rw [if_pos (by omega)]
  have hLL : [V.pick (spanL 0 x) (blankA k), V.pick (spanL x y) (blankA k), V.pick (spanL y L.length) (blankA k)].flatMap (itemsV (plain (k + 1))) = L := by
    simp only [List.flatMap_cons, List.flatMap_nil, hA.he, hB.he, hC.he, List.append_nil]
    apply List.ext_getElem?
    intro j
    simp only [List.getElem?_append, List.getElem?_take, List.getElem?_drop, List.length_take, List.length_drop, Nat.sub_zero, Nat.zero_add]
    by_cases c1 : j < x
    · rw [if_pos (by omega), if_pos c1]
    · rw [if_neg (by omega)]
      by_cases c2 : j < y
      · rw [if_pos (by omega), if_pos (by omega)]
        congr 1
        omega
      · rw [if_neg (by omega)]
        by_cases c3 : j < L.length
        · rw [if_pos (by omega)]
          congr 1
          omega
        · rw [if_neg (by omega)]
          simp [c3]
  rw [hcc, hLL] at hJ
  generalize hVJ : (if c3 < 0 then noneV (headC [V.pick (spanL 0 x) (blankA k), V.pick (spanL x y) (blankA k), V.pick (spanL y L.length) (blankA k)]) else joinS c3 [V.pick (spanL 0 x) (blankA k), V.pick (spanL x y) (blankA k), V.pick (spanL y L.length) (blankA k)]) = VJ at hJ
  refine Zerun ?_
  refine CW.meet (fun q : Nat × List Value × GHeap => [(4, .pointer (some ⟨b1, 0, none⟩)), (10, .slice adI L.length cpI), (13, .pointer (some ⟨q.1, 0, none⟩)), (14, .bool true)]) (fun q w' => VecAt (ArrAt (k + 1)) q.2.2 q.2.1 VJ ∧ RowsAt 4 (ItemAt (PlainAt (k + 1)) q.2.2) q.2.2 (.slice adI L.length cpI) L ∧ Sees w h q.2.2 [⟨some ⟨q.1, 0, none⟩, 1, 1, 61, 8, q.2.1⟩, ⟨some ⟨b29, 0, none⟩, 1, 1, 61, 8, vecCells V.kind wv nv sm il fl ch bx⟩, ⟨some ⟨b1, 0, none⟩, 1, 1, 50, 3, [.slice ad nsh cp, .slice ad2 nit cp2, .int .i64 c]⟩] w') ?_ ?_
  · refine CW.regionR T 0 0 hs rfl rfl ?_
    intro w82 hs
    refine HW.takeR (fuel := 19) 0 rfl (fun _ _ ka kb _ hs hka hkb => Y.loadRowN T hs ka hka rfl rfl rfl rfl rfl rfl) ⟨_, _, 0, 0, hs, rfl, rfl⟩ rfl (by kernel_rfl) (by kernel_rfl) (by kernel_rfl) ?_
    refine HW.takeR (fuel := 18) 1 rfl (fun _ _ ka kb _ hs hka hkb => Y.move rfl) ⟨_, _, 0, 0, hs, rfl, rfl⟩ rfl (by kernel_rfl) (by kernel_rfl) (by kernel_rfl) ?_
    refine HW.takeR (fuel := 17) 3 rfl (fun _ _ ka kb _ hs hka hkb => Y.loadRowN T hs ka hka rfl rfl rfl rfl rfl rfl) ⟨_, _, 0, 0, hs, rfl, rfl⟩ rfl (by kernel_rfl) (by kernel_rfl) (by kernel_rfl) ?_
    refine HW.takeR (fuel := 16) 4 rfl (fun _ _ ka kb _ hs hka hkb => Y.move rfl) ⟨_, _, 0, 0, hs, rfl, rfl⟩ rfl (by kernel_rfl) (by kernel_rfl) (by kernel_rfl) ?_
    refine HW.takeR (fuel := 15) 5 rfl (fun _ _ ka kb _ hs hka hkb => Y.move rfl) ⟨_, _, 0, 0, hs, rfl, rfl⟩ rfl (by kernel_rfl) (by kernel_rfl) (by kernel_rfl) ?_
    refine HW.takeR (fuel := 14) 7 rfl (fun _ _ ka kb _ hs hka hkb => Y.loadRowN T hs ka hka rfl rfl rfl rfl rfl rfl) ⟨_, _, 0, 0, hs, rfl, rfl⟩ rfl (by kernel_rfl) (by kernel_rfl) (by kernel_rfl) ?_
    refine HW.takeR (fuel := 13) 8 rfl (fun _ _ ka kb _ hs hka hkb => Y.move rfl) ⟨_, _, 0, 0, hs, rfl, rfl⟩ rfl (by kernel_rfl) (by kernel_rfl) (by kernel_rfl) ?_
    refine HW.takeR (fuel := 12) 9 rfl (fun _ _ ka kb _ hs hka hkb => Y.move rfl) ⟨_, _, 0, 0, hs, rfl, rfl⟩ rfl (by kernel_rfl) (by kernel_rfl) (by kernel_rfl) ?_
    refine HW.takeR (fuel := 11) 10 rfl (fun _ _ ka kb _ hs hka hkb => Y.len T rfl rfl) ⟨_, _, 0, 0, hs, rfl, rfl⟩ rfl (by kernel_rfl) (by kernel_rfl) (by kernel_rfl) ?_
    refine HW.two (fuel := 10) 2 17 rfl rfl (by kernel_rfl) ?_ ?_
    · (refine RW.call T hs rfl rfl rfl (flatCut_con (ArrAt.mono (k + 1)) (ArrAt.one (k + 1)) (ArrAt.siz (k + 1)) (blankA k) (fun w h => flatBlank_con (ArrAt.mono k) (ArrAt.one k) w h) _ _ _ _ _ _ hvv hsh.vm hsh.k0) ?_; intro v h87 w87 hle87 hp87 hs)
      obtain ⟨cs87, rfl, hv87⟩ := hp87
      rw [e87] at hv87
      have hvv := hvv.mono (ArrAt.mono (k + 1)) hle87
      have hitR := hitR.mono hle87 (fun u a => ItemAt.mono (PlainAt.mono (k + 1)) _ _ u a hle87)
      refine RW.nil ?_
      refine heldQ_normal ⟨_, _, 0, 0, hs, rfl, rfl⟩ ?_
      refine HW.two (fuel := 9) 6 17 rfl rfl (by kernel_rfl) ?_ ?_
      · (refine RW.call T hs rfl rfl rfl (flatCut_con (ArrAt.mono (k + 1)) (ArrAt.one (k + 1)) (ArrAt.siz (k + 1)) (blankA k) (fun w h => flatBlank_con (ArrAt.mono k) (ArrAt.one k) w h) _ _ _ _ _ _ hvv hsh.vm hsh.k0) ?_; intro v h91 w91 hle91 hp91 hs)
        obtain ⟨cs91, rfl, hv91⟩ := hp91
        rw [e91] at hv91
        have hvv := hvv.mono (ArrAt.mono (k + 1)) hle91
        have hitR := hitR.mono hle91 (fun u a => ItemAt.mono (PlainAt.mono (k + 1)) _ _ u a hle91)
        have hv87 := hv87.mono (ArrAt.mono (k + 1)) hle91
        refine RW.nil ?_
        refine heldQ_normal ⟨_, _, 0, 0, hs, rfl, rfl⟩ ?_
        refine HW.two (fuel := 8) 11 17 rfl rfl (by kernel_rfl) ?_ ?_
        · (refine RW.call T hs rfl rfl rfl (flatCut_con (ArrAt.mono (k + 1)) (ArrAt.one (k + 1)) (ArrAt.siz (k + 1)) (blankA k) (fun w h => flatBlank_con (ArrAt.mono k) (ArrAt.one k) w h) _ _ _ _ _ _ hvv hsh.vm hsh.k0) ?_; intro v h96 w96 hle96 hp96 hs)
          obtain ⟨cs96, rfl, hv96⟩ := hp96
          rw [e96] at hv96
          have hvv := hvv.mono (ArrAt.mono (k + 1)) hle96
          have hitR := hitR.mono hle96 (fun u a => ItemAt.mono (PlainAt.mono (k + 1)) _ _ u a hle96)
          have hv87 := hv87.mono (ArrAt.mono (k + 1)) hle96
          have hv91 := hv91.mono (ArrAt.mono (k + 1)) hle96
          refine RW.nil ?_
          refine heldQ_normal ⟨_, _, 0, 0, hs, rfl, rfl⟩ ?_
          refine HW.two (fuel := 7) 12 17 rfl rfl (by kernel_rfl) ?_ ?_
          · have hz87 := hv87.size
            have hz91 := hv91.size
            have hz96 := hv96.size
            (refine RW.lit T hs (vs := [.agg cs87.toArray, .agg cs91.toArray, .agg cs96.toArray]) (cs := cs87 ++ cs91 ++ cs96) rfl rfl rfl rfl (by simp [Value.cells, hz87, hz91, hz96]) rfl (by simp [Value.cells]) rfl rfl rfl ?_; intro b97 w97 hs)
            obtain ⟨h97, hle97, hs, hS97⟩ := hs.freeze
            have hvs : RowsAt 8 (VecAt (ArrAt (k + 1)) h97) h97 (.slice (some ⟨b97, 0, none⟩) 3 3) [V.pick (spanL 0 x) (blankA k), V.pick (spanL x y) (blankA k), V.pick (spanL y L.length) (blankA k)] := ⟨_, _, _, rfl, hS97, ((AllN.one hz87 (hv87.mono (ArrAt.mono (k + 1)) hle97)).append (AllN.one hz91 (hv91.mono (ArrAt.mono (k + 1)) hle97))).append (AllN.one hz96 (hv96.mono (ArrAt.mono (k + 1)) hle97))⟩
            have hvv := hvv.mono (ArrAt.mono (k + 1)) hle97
            have hitR := hitR.mono hle97 (fun u a => ItemAt.mono (PlainAt.mono (k + 1)) _ _ u a hle97)
            refine RW.nil ?_
            refine heldQ_normal ⟨_, _, 0, 0, hs, rfl, rfl⟩ ?_
            refine HW.two (fuel := 6) 13 17 rfl rfl (by kernel_rfl) ?_ ?_
            · (refine RW.call T hs rfl rfl rfl (flatJoin_con (ArrAt.mono (k + 1)) (ArrAt.one (k + 1)) _ _ _ _ hvs hsum3) ?_; intro v h98 w98 hle98 hp98 hs)
              obtain ⟨cs98, ok, rfl, _, hJ98⟩ := hp98
              obtain ⟨rfl, hv98⟩ := hJ98 c3 hj3; rw [hVJ] at hv98
              have hv98' := hv98
              obtain ⟨wj, nj, sj, ij, fj, cj, bj, ⟨rfl, hocj⟩, _⟩ := hv98'
              have hvv := hvv.mono (ArrAt.mono (k + 1)) hle98
              have hitR := hitR.mono hle98 (fun u a => ItemAt.mono (PlainAt.mono (k + 1)) _ _ u a hle98)
              refine RW.nil ?_
              refine heldQ_normal ⟨_, _, 0, 0, hs, rfl, rfl⟩ ?_
              refine HW.takeR (fuel := 5) 14 rfl (fun _ _ ka kb _ hs hka hkb => Y.move rfl) ⟨_, _, 0, 0, hs, rfl, rfl⟩ rfl (by kernel_rfl) (by kernel_rfl) (by kernel_rfl) ?_
              refine HW.takeR (fuel := 4) 15 rfl (fun _ _ ka kb _ hs hka hkb => Y.extract rfl rfl) ⟨_, _, 0, 0, hs, rfl, rfl⟩ rfl (by kernel_rfl) (by kernel_rfl) (by kernel_rfl) ?_
              refine HW.takeR (fuel := 3) 16 rfl (fun _ _ ka kb _ hs hka hkb => Y.extract rfl rfl) ⟨_, _, 0, 0, hs, rfl, rfl⟩ rfl (by kernel_rfl) (by kernel_rfl) (by kernel_rfl) ?_
              refine HW.one (fuel := 2) 17 rfl (by kernel_rfl) ?_
              (refine RW.allocN T hs rfl rfl rfl rfl ?_; intro b99 w99 hs)
              refine RW.nil ?_
              refine heldQ_normal ⟨_, _, 1, 1, hs, rfl, rfl⟩ ?_
              refine HW.one (fuel := 1) 18 rfl (by kernel_rfl) ?_
              (refine RW.storeAll T hs 0 rfl rfl rfl rfl rfl rfl hocj rfl ?_; intro w100 hs)
              refine RW.nil ?_
              refine heldQ_normal ⟨_, _, 1, 1, hs, rfl, rfl⟩ ?_
              refine HW.takeR (fuel := 0) 19 rfl (fun _ _ ka kb _ hs hka hkb => Y.assign rfl) ⟨_, _, 1, 1, hs, rfl, rfl⟩ rfl (by kernel_rfl) (by kernel_rfl) (by kernel_rfl) ?_
              refine HW.done (by kernel_rfl) ?_
              refine calmQ_normal ?_
              exact joinQ_meet (b99, _, h98) ⟨rfl, rfl, rfl, rfl, trivial⟩ ⟨hv98, hitR, hs⟩
            · (refine RW.allocN T hs rfl rfl rfl rfl ?_; intro b99 w99 hs)
              refine RW.nil ?_
              refine heldQ_normal ⟨_, _, 1, 1, hs, rfl, rfl⟩ ?_
              refine HW.one (fuel := 5) 13 rfl (by kernel_rfl) ?_
              (refine RW.call T hs rfl rfl rfl (flatJoin_con (ArrAt.mono (k + 1)) (ArrAt.one (k + 1)) _ _ _ _ hvs hsum3) ?_; intro v h98 w98 hle98 hp98 hs)
              obtain ⟨cs98, ok, rfl, _, hJ98⟩ := hp98
              obtain ⟨rfl, hv98⟩ := hJ98 c3 hj3; rw [hVJ] at hv98
              have hv98' := hv98
              obtain ⟨wj, nj, sj, ij, fj, cj, bj, ⟨rfl, hocj⟩, _⟩ := hv98'
              have hvv := hvv.mono (ArrAt.mono (k + 1)) hle98
              have hitR := hitR.mono hle98 (fun u a => ItemAt.mono (PlainAt.mono (k + 1)) _ _ u a hle98)
              refine RW.nil ?_
              refine heldQ_normal ⟨_, _, 1, 1, hs, rfl, rfl⟩ ?_
              refine HW.takeR (fuel := 4) 14 rfl (fun _ _ ka kb _ hs hka hkb => Y.move rfl) ⟨_, _, 1, 1, hs, rfl, rfl⟩ rfl (by kernel_rfl) (by kernel_rfl) (by kernel_rfl) ?_
              refine HW.takeR (fuel := 3) 15 rfl (fun _ _ ka kb _ hs hka hkb => Y.extract rfl rfl) ⟨_, _, 1, 1, hs, rfl, rfl⟩ rfl (by kernel_rfl) (by kernel_rfl) (by kernel_rfl) ?_
              refine HW.takeR (fuel := 2) 16 rfl (fun _ _ ka kb _ hs hka hkb => Y.extract rfl rfl) ⟨_, _, 1, 1, hs, rfl, rfl⟩ rfl (by kernel_rfl) (by kernel_rfl) (by kernel_rfl) ?_
              refine HW.one (fuel := 1) 18 rfl (by kernel_rfl) ?_
              (refine RW.storeAll T hs 0 rfl rfl rfl rfl rfl rfl hocj rfl ?_; intro w100 hs)
              refine RW.nil ?_
              refine heldQ_normal ⟨_, _, 1, 1, hs, rfl, rfl⟩ ?_
              refine HW.takeR (fuel := 0) 19 rfl (fun _ _ ka kb _ hs hka hkb => Y.assign rfl) ⟨_, _, 1, 1, hs, rfl, rfl⟩ rfl (by kernel_rfl) (by kernel_rfl) (by kernel_rfl) ?_
              refine HW.done (by kernel_rfl) ?_
              refine calmQ_normal ?_
              exact joinQ_meet (b99, _, h98) ⟨rfl, rfl, rfl, rfl, trivial⟩ ⟨hv98, hitR, hs⟩
          · (refine RW.allocN T hs rfl rfl rfl rfl ?_; intro b99 w99 hs)
            refine RW.nil ?_
            refine heldQ_normal ⟨_, _, 1, 1, hs, rfl, rfl⟩ ?_
            refine HW.one (fuel := 6) 12 rfl (by kernel_rfl) ?_
            have hz87 := hv87.size
            have hz91 := hv91.size
            have hz96 := hv96.size
            (refine RW.lit T hs (vs := [.agg cs87.toArray, .agg cs91.toArray, .agg cs96.toArray]) (cs := cs87 ++ cs91 ++ cs96) rfl rfl rfl rfl (by simp [Value.cells, hz87, hz91, hz96]) rfl (by simp [Value.cells]) rfl rfl rfl ?_; intro b97 w97 hs)
            obtain ⟨h97, hle97, hs, hS97⟩ := hs.freeze
            have hvs : RowsAt 8 (VecAt (ArrAt (k + 1)) h97) h97 (.slice (some ⟨b97, 0, none⟩) 3 3) [V.pick (spanL 0 x) (blankA k), V.pick (spanL x y) (blankA k), V.pick (spanL y L.length) (blankA k)] := ⟨_, _, _, rfl, hS97, ((AllN.one hz87 (hv87.mono (ArrAt.mono (k + 1)) hle97)).append (AllN.one hz91 (hv91.mono (ArrAt.mono (k + 1)) hle97))).append (AllN.one hz96 (hv96.mono (ArrAt.mono (k + 1)) hle97))⟩
            have hvv := hvv.mono (ArrAt.mono (k + 1)) hle97
            have hitR := hitR.mono hle97 (fun u a => ItemAt.mono (PlainAt.mono (k + 1)) _ _ u a hle97)
            refine RW.nil ?_
            refine heldQ_normal ⟨_, _, 1, 1, hs, rfl, rfl⟩ ?_
            refine HW.one (fuel := 5) 13 rfl (by kernel_rfl) ?_
            (refine RW.call T hs rfl rfl rfl (flatJoin_con (ArrAt.mono (k + 1)) (ArrAt.one (k + 1)) _ _ _ _ hvs hsum3) ?_; intro v h98 w98 hle98 hp98 hs)
            obtain ⟨cs98, ok, rfl, _, hJ98⟩ := hp98
            obtain ⟨rfl, hv98⟩ := hJ98 c3 hj3; rw [hVJ] at hv98
            have hv98' := hv98
            obtain ⟨wj, nj, sj, ij, fj, cj, bj, ⟨rfl, hocj⟩, _⟩ := hv98'
            have hvv := hvv.mono (ArrAt.mono (k + 1)) hle98
            have hitR := hitR.mono hle98 (fun u a => ItemAt.mono (PlainAt.mono (k + 1)) _ _ u a hle98)
            refine RW.nil ?_
            refine heldQ_normal ⟨_, _, 1, 1, hs, rfl, rfl⟩ ?_
            refine HW.takeR (fuel := 4) 14 rfl (fun _ _ ka kb _ hs hka hkb => Y.move rfl) ⟨_, _, 1, 1, hs, rfl, rfl⟩ rfl (by kernel_rfl) (by kernel_rfl) (by kernel_rfl) ?_
            refine HW.takeR (fuel := 3) 15 rfl (fun _ _ ka kb _ hs hka hkb => Y.extract rfl rfl) ⟨_, _, 1, 1, hs, rfl, rfl⟩ rfl (by kernel_rfl) (by kernel_rfl) (by kernel_rfl) ?_
            refine HW.takeR (fuel := 2) 16 rfl (fun _ _ ka kb _ hs hka hkb => Y.extract rfl rfl) ⟨_, _, 1, 1, hs, rfl, rfl⟩ rfl (by kernel_rfl) (by kernel_rfl) (by kernel_rfl) ?_
            refine HW.one (fuel := 1) 18 rfl (by kernel_rfl) ?_
            (refine RW.storeAll T hs 0 rfl rfl rfl rfl rfl rfl hocj rfl ?_; intro w100 hs)
            refine RW.nil ?_
            refine heldQ_normal ⟨_, _, 1, 1, hs, rfl, rfl⟩ ?_
            refine HW.takeR (fuel := 0) 19 rfl (fun _ _ ka kb _ hs hka hkb => Y.assign rfl) ⟨_, _, 1, 1, hs, rfl, rfl⟩ rfl (by kernel_rfl) (by kernel_rfl) (by kernel_rfl) ?_
            refine HW.done (by kernel_rfl) ?_
            refine calmQ_normal ?_
            exact joinQ_meet (b99, _, h98) ⟨rfl, rfl, rfl, rfl, trivial⟩ ⟨hv98, hitR, hs⟩
        · (refine RW.allocN T hs rfl rfl rfl rfl ?_; intro b99 w99 hs)
          refine RW.nil ?_
          refine heldQ_normal ⟨_, _, 1, 1, hs, rfl, rfl⟩ ?_
          refine HW.one (fuel := 7) 11 rfl (by kernel_rfl) ?_
          (refine RW.call T hs rfl rfl rfl (flatCut_con (ArrAt.mono (k + 1)) (ArrAt.one (k + 1)) (ArrAt.siz (k + 1)) (blankA k) (fun w h => flatBlank_con (ArrAt.mono k) (ArrAt.one k) w h) _ _ _ _ _ _ hvv hsh.vm hsh.k0) ?_; intro v h96 w96 hle96 hp96 hs)
          obtain ⟨cs96, rfl, hv96⟩ := hp96
          rw [e96] at hv96
          have hvv := hvv.mono (ArrAt.mono (k + 1)) hle96
          have hitR := hitR.mono hle96 (fun u a => ItemAt.mono (PlainAt.mono (k + 1)) _ _ u a hle96)
          have hv87 := hv87.mono (ArrAt.mono (k + 1)) hle96
          have hv91 := hv91.mono (ArrAt.mono (k + 1)) hle96
          refine RW.nil ?_
          refine heldQ_normal ⟨_, _, 1, 1, hs, rfl, rfl⟩ ?_
          refine HW.one (fuel := 6) 12 rfl (by kernel_rfl) ?_
          have hz87 := hv87.size
          have hz91 := hv91.size
          have hz96 := hv96.size
          (refine RW.lit T hs (vs := [.agg cs87.toArray, .agg cs91.toArray, .agg cs96.toArray]) (cs := cs87 ++ cs91 ++ cs96) rfl rfl rfl rfl (by simp [Value.cells, hz87, hz91, hz96]) rfl (by simp [Value.cells]) rfl rfl rfl ?_; intro b97 w97 hs)
          obtain ⟨h97, hle97, hs, hS97⟩ := hs.freeze
          have hvs : RowsAt 8 (VecAt (ArrAt (k + 1)) h97) h97 (.slice (some ⟨b97, 0, none⟩) 3 3) [V.pick (spanL 0 x) (blankA k), V.pick (spanL x y) (blankA k), V.pick (spanL y L.length) (blankA k)] := ⟨_, _, _, rfl, hS97, ((AllN.one hz87 (hv87.mono (ArrAt.mono (k + 1)) hle97)).append (AllN.one hz91 (hv91.mono (ArrAt.mono (k + 1)) hle97))).append (AllN.one hz96 (hv96.mono (ArrAt.mono (k + 1)) hle97))⟩
          have hvv := hvv.mono (ArrAt.mono (k + 1)) hle97
          have hitR := hitR.mono hle97 (fun u a => ItemAt.mono (PlainAt.mono (k + 1)) _ _ u a hle97)
          refine RW.nil ?_
          refine heldQ_normal ⟨_, _, 1, 1, hs, rfl, rfl⟩ ?_
          refine HW.one (fuel := 5) 13 rfl (by kernel_rfl) ?_
          (refine RW.call T hs rfl rfl rfl (flatJoin_con (ArrAt.mono (k + 1)) (ArrAt.one (k + 1)) _ _ _ _ hvs hsum3) ?_; intro v h98 w98 hle98 hp98 hs)
          obtain ⟨cs98, ok, rfl, _, hJ98⟩ := hp98
          obtain ⟨rfl, hv98⟩ := hJ98 c3 hj3; rw [hVJ] at hv98
          have hv98' := hv98
          obtain ⟨wj, nj, sj, ij, fj, cj, bj, ⟨rfl, hocj⟩, _⟩ := hv98'
          have hvv := hvv.mono (ArrAt.mono (k + 1)) hle98
          have hitR := hitR.mono hle98 (fun u a => ItemAt.mono (PlainAt.mono (k + 1)) _ _ u a hle98)
          refine RW.nil ?_
          refine heldQ_normal ⟨_, _, 1, 1, hs, rfl, rfl⟩ ?_
          refine HW.takeR (fuel := 4) 14 rfl (fun _ _ ka kb _ hs hka hkb => Y.move rfl) ⟨_, _, 1, 1, hs, rfl, rfl⟩ rfl (by kernel_rfl) (by kernel_rfl) (by kernel_rfl) ?_
          refine HW.takeR (fuel := 3) 15 rfl (fun _ _ ka kb _ hs hka hkb => Y.extract rfl rfl) ⟨_, _, 1, 1, hs, rfl, rfl⟩ rfl (by kernel_rfl) (by kernel_rfl) (by kernel_rfl) ?_
          refine HW.takeR (fuel := 2) 16 rfl (fun _ _ ka kb _ hs hka hkb => Y.extract rfl rfl) ⟨_, _, 1, 1, hs, rfl, rfl⟩ rfl (by kernel_rfl) (by kernel_rfl) (by kernel_rfl) ?_
          refine HW.one (fuel := 1) 18 rfl (by kernel_rfl) ?_
          (refine RW.storeAll T hs 0 rfl rfl rfl rfl rfl rfl hocj rfl ?_; intro w100 hs)
          refine RW.nil ?_
          refine heldQ_normal ⟨_, _, 1, 1, hs, rfl, rfl⟩ ?_
          refine HW.takeR (fuel := 0) 19 rfl (fun _ _ ka kb _ hs hka hkb => Y.assign rfl) ⟨_, _, 1, 1, hs, rfl, rfl⟩ rfl (by kernel_rfl) (by kernel_rfl) (by kernel_rfl) ?_
          refine HW.done (by kernel_rfl) ?_
          refine calmQ_normal ?_
          exact joinQ_meet (b99, _, h98) ⟨rfl, rfl, rfl, rfl, trivial⟩ ⟨hv98, hitR, hs⟩
      · (refine RW.allocN T hs rfl rfl rfl rfl ?_; intro b99 w99 hs)
        refine RW.nil ?_
        refine heldQ_normal ⟨_, _, 1, 1, hs, rfl, rfl⟩ ?_
        refine HW.one (fuel := 8) 6 rfl (by kernel_rfl) ?_
        (refine RW.call T hs rfl rfl rfl (flatCut_con (ArrAt.mono (k + 1)) (ArrAt.one (k + 1)) (ArrAt.siz (k + 1)) (blankA k) (fun w h => flatBlank_con (ArrAt.mono k) (ArrAt.one k) w h) _ _ _ _ _ _ hvv hsh.vm hsh.k0) ?_; intro v h91 w91 hle91 hp91 hs)
        obtain ⟨cs91, rfl, hv91⟩ := hp91
        rw [e91] at hv91
        have hvv := hvv.mono (ArrAt.mono (k + 1)) hle91
        have hitR := hitR.mono hle91 (fun u a => ItemAt.mono (PlainAt.mono (k + 1)) _ _ u a hle91)
        have hv87 := hv87.mono (ArrAt.mono (k + 1)) hle91
        refine RW.nil ?_
        refine heldQ_normal ⟨_, _, 1, 1, hs, rfl, rfl⟩ ?_
        refine HW.one (fuel := 7) 11 rfl (by kernel_rfl) ?_
        (refine RW.call T hs rfl rfl rfl (flatCut_con (ArrAt.mono (k + 1)) (ArrAt.one (k + 1)) (ArrAt.siz (k + 1)) (blankA k) (fun w h => flatBlank_con (ArrAt.mono k) (ArrAt.one k) w h) _ _ _ _ _ _ hvv hsh.vm hsh.k0) ?_; intro v h96 w96 hle96 hp96 hs)
        obtain ⟨cs96, rfl, hv96⟩ := hp96
        rw [e96] at hv96
        have hvv := hvv.mono (ArrAt.mono (k + 1)) hle96
        have hitR := hitR.mono hle96 (fun u a => ItemAt.mono (PlainAt.mono (k + 1)) _ _ u a hle96)
        have hv87 := hv87.mono (ArrAt.mono (k + 1)) hle96
        have hv91 := hv91.mono (ArrAt.mono (k + 1)) hle96
        refine RW.nil ?_
        refine heldQ_normal ⟨_, _, 1, 1, hs, rfl, rfl⟩ ?_
        refine HW.one (fuel := 6) 12 rfl (by kernel_rfl) ?_
        have hz87 := hv87.size
        have hz91 := hv91.size
        have hz96 := hv96.size
        (refine RW.lit T hs (vs := [.agg cs87.toArray, .agg cs91.toArray, .agg cs96.toArray]) (cs := cs87 ++ cs91 ++ cs96) rfl rfl rfl rfl (by simp [Value.cells, hz87, hz91, hz96]) rfl (by simp [Value.cells]) rfl rfl rfl ?_; intro b97 w97 hs)
        obtain ⟨h97, hle97, hs, hS97⟩ := hs.freeze
        have hvs : RowsAt 8 (VecAt (ArrAt (k + 1)) h97) h97 (.slice (some ⟨b97, 0, none⟩) 3 3) [V.pick (spanL 0 x) (blankA k), V.pick (spanL x y) (blankA k), V.pick (spanL y L.length) (blankA k)] := ⟨_, _, _, rfl, hS97, ((AllN.one hz87 (hv87.mono (ArrAt.mono (k + 1)) hle97)).append (AllN.one hz91 (hv91.mono (ArrAt.mono (k + 1)) hle97))).append (AllN.one hz96 (hv96.mono (ArrAt.mono (k + 1)) hle97))⟩
        have hvv := hvv.mono (ArrAt.mono (k + 1)) hle97
        have hitR := hitR.mono hle97 (fun u a => ItemAt.mono (PlainAt.mono (k + 1)) _ _ u a hle97)
        refine RW.nil ?_
        refine heldQ_normal ⟨_, _, 1, 1, hs, rfl, rfl⟩ ?_
        refine HW.one (fuel := 5) 13 rfl (by kernel_rfl) ?_
        (refine RW.call T hs rfl rfl rfl (flatJoin_con (ArrAt.mono (k + 1)) (ArrAt.one (k + 1)) _ _ _ _ hvs hsum3) ?_; intro v h98 w98 hle98 hp98 hs)
        obtain ⟨cs98, ok, rfl, _, hJ98⟩ := hp98
        obtain ⟨rfl, hv98⟩ := hJ98 c3 hj3; rw [hVJ] at hv98
        have hv98' := hv98
        obtain ⟨wj, nj, sj, ij, fj, cj, bj, ⟨rfl, hocj⟩, _⟩ := hv98'
        have hvv := hvv.mono (ArrAt.mono (k + 1)) hle98
        have hitR := hitR.mono hle98 (fun u a => ItemAt.mono (PlainAt.mono (k + 1)) _ _ u a hle98)
        refine RW.nil ?_
        refine heldQ_normal ⟨_, _, 1, 1, hs, rfl, rfl⟩ ?_
        refine HW.takeR (fuel := 4) 14 rfl (fun _ _ ka kb _ hs hka hkb => Y.move rfl) ⟨_, _, 1, 1, hs, rfl, rfl⟩ rfl (by kernel_rfl) (by kernel_rfl) (by kernel_rfl) ?_
        refine HW.takeR (fuel := 3) 15 rfl (fun _ _ ka kb _ hs hka hkb => Y.extract rfl rfl) ⟨_, _, 1, 1, hs, rfl, rfl⟩ rfl (by kernel_rfl) (by kernel_rfl) (by kernel_rfl) ?_
        refine HW.takeR (fuel := 2) 16 rfl (fun _ _ ka kb _ hs hka hkb => Y.extract rfl rfl) ⟨_, _, 1, 1, hs, rfl, rfl⟩ rfl (by kernel_rfl) (by kernel_rfl) (by kernel_rfl) ?_
        refine HW.one (fuel := 1) 18 rfl (by kernel_rfl) ?_
        (refine RW.storeAll T hs 0 rfl rfl rfl rfl rfl rfl hocj rfl ?_; intro w100 hs)
        refine RW.nil ?_
        refine heldQ_normal ⟨_, _, 1, 1, hs, rfl, rfl⟩ ?_
        refine HW.takeR (fuel := 0) 19 rfl (fun _ _ ka kb _ hs hka hkb => Y.assign rfl) ⟨_, _, 1, 1, hs, rfl, rfl⟩ rfl (by kernel_rfl) (by kernel_rfl) (by kernel_rfl) ?_
        refine HW.done (by kernel_rfl) ?_
        refine calmQ_normal ?_
        exact joinQ_meet (b99, _, h98) ⟨rfl, rfl, rfl, rfl, trivial⟩ ⟨hv98, hitR, hs⟩
    · (refine RW.allocN T hs rfl rfl rfl rfl ?_; intro b99 w99 hs)
      refine RW.nil ?_
      refine heldQ_normal ⟨_, _, 1, 1, hs, rfl, rfl⟩ ?_
      refine HW.one (fuel := 9) 2 rfl (by kernel_rfl) ?_
      (refine RW.call T hs rfl rfl rfl (flatCut_con (ArrAt.mono (k + 1)) (ArrAt.one (k + 1)) (ArrAt.siz (k + 1)) (blankA k) (fun w h => flatBlank_con (ArrAt.mono k) (ArrAt.one k) w h) _ _ _ _ _ _ hvv hsh.vm hsh.k0) ?_; intro v h87 w87 hle87 hp87 hs)
      obtain ⟨cs87, rfl, hv87⟩ := hp87
      rw [e87] at hv87
      have hvv := hvv.mono (ArrAt.mono (k + 1)) hle87
      have hitR := hitR.mono hle87 (fun u a => ItemAt.mono (PlainAt.mono (k + 1)) _ _ u a hle87)
      refine RW.nil ?_
      refine heldQ_normal ⟨_, _, 1, 1, hs, rfl, rfl⟩ ?_
      refine HW.one (fuel := 8) 6 rfl (by kernel_rfl) ?_
      (refine RW.call T hs rfl rfl rfl (flatCut_con (ArrAt.mono (k + 1)) (ArrAt.one (k + 1)) (ArrAt.siz (k + 1)) (blankA k) (fun w h => flatBlank_con (ArrAt.mono k) (ArrAt.one k) w h) _ _ _ _ _ _ hvv hsh.vm hsh.k0) ?_; intro v h91 w91 hle91 hp91 hs)
      obtain ⟨cs91, rfl, hv91⟩ := hp91
      rw [e91] at hv91
      have hvv := hvv.mono (ArrAt.mono (k + 1)) hle91
      have hitR := hitR.mono hle91 (fun u a => ItemAt.mono (PlainAt.mono (k + 1)) _ _ u a hle91)
      have hv87 := hv87.mono (ArrAt.mono (k + 1)) hle91
      refine RW.nil ?_
      refine heldQ_normal ⟨_, _, 1, 1, hs, rfl, rfl⟩ ?_
      refine HW.one (fuel := 7) 11 rfl (by kernel_rfl) ?_
      (refine RW.call T hs rfl rfl rfl (flatCut_con (ArrAt.mono (k + 1)) (ArrAt.one (k + 1)) (ArrAt.siz (k + 1)) (blankA k) (fun w h => flatBlank_con (ArrAt.mono k) (ArrAt.one k) w h) _ _ _ _ _ _ hvv hsh.vm hsh.k0) ?_; intro v h96 w96 hle96 hp96 hs)
      obtain ⟨cs96, rfl, hv96⟩ := hp96
      rw [e96] at hv96
      have hvv := hvv.mono (ArrAt.mono (k + 1)) hle96
      have hitR := hitR.mono hle96 (fun u a => ItemAt.mono (PlainAt.mono (k + 1)) _ _ u a hle96)
      have hv87 := hv87.mono (ArrAt.mono (k + 1)) hle96
      have hv91 := hv91.mono (ArrAt.mono (k + 1)) hle96
      refine RW.nil ?_
      refine heldQ_normal ⟨_, _, 1, 1, hs, rfl, rfl⟩ ?_
      refine HW.one (fuel := 6) 12 rfl (by kernel_rfl) ?_
      have hz87 := hv87.size
      have hz91 := hv91.size
      have hz96 := hv96.size
      (refine RW.lit T hs (vs := [.agg cs87.toArray, .agg cs91.toArray, .agg cs96.toArray]) (cs := cs87 ++ cs91 ++ cs96) rfl rfl rfl rfl (by simp [Value.cells, hz87, hz91, hz96]) rfl (by simp [Value.cells]) rfl rfl rfl ?_; intro b97 w97 hs)
      obtain ⟨h97, hle97, hs, hS97⟩ := hs.freeze
      have hvs : RowsAt 8 (VecAt (ArrAt (k + 1)) h97) h97 (.slice (some ⟨b97, 0, none⟩) 3 3) [V.pick (spanL 0 x) (blankA k), V.pick (spanL x y) (blankA k), V.pick (spanL y L.length) (blankA k)] := ⟨_, _, _, rfl, hS97, ((AllN.one hz87 (hv87.mono (ArrAt.mono (k + 1)) hle97)).append (AllN.one hz91 (hv91.mono (ArrAt.mono (k + 1)) hle97))).append (AllN.one hz96 (hv96.mono (ArrAt.mono (k + 1)) hle97))⟩
      have hvv := hvv.mono (ArrAt.mono (k + 1)) hle97
      have hitR := hitR.mono hle97 (fun u a => ItemAt.mono (PlainAt.mono (k + 1)) _ _ u a hle97)
      refine RW.nil ?_
      refine heldQ_normal ⟨_, _, 1, 1, hs, rfl, rfl⟩ ?_
      refine HW.one (fuel := 5) 13 rfl (by kernel_rfl) ?_
      (refine RW.call T hs rfl rfl rfl (flatJoin_con (ArrAt.mono (k + 1)) (ArrAt.one (k + 1)) _ _ _ _ hvs hsum3) ?_; intro v h98 w98 hle98 hp98 hs)
      obtain ⟨cs98, ok, rfl, _, hJ98⟩ := hp98
      obtain ⟨rfl, hv98⟩ := hJ98 c3 hj3; rw [hVJ] at hv98
      have hv98' := hv98
      obtain ⟨wj, nj, sj, ij, fj, cj, bj, ⟨rfl, hocj⟩, _⟩ := hv98'
      have hvv := hvv.mono (ArrAt.mono (k + 1)) hle98
      have hitR := hitR.mono hle98 (fun u a => ItemAt.mono (PlainAt.mono (k + 1)) _ _ u a hle98)
      refine RW.nil ?_
      refine heldQ_normal ⟨_, _, 1, 1, hs, rfl, rfl⟩ ?_
      refine HW.takeR (fuel := 4) 14 rfl (fun _ _ ka kb _ hs hka hkb => Y.move rfl) ⟨_, _, 1, 1, hs, rfl, rfl⟩ rfl (by kernel_rfl) (by kernel_rfl) (by kernel_rfl) ?_
      refine HW.takeR (fuel := 3) 15 rfl (fun _ _ ka kb _ hs hka hkb => Y.extract rfl rfl) ⟨_, _, 1, 1, hs, rfl, rfl⟩ rfl (by kernel_rfl) (by kernel_rfl) (by kernel_rfl) ?_
      refine HW.takeR (fuel := 2) 16 rfl (fun _ _ ka kb _ hs hka hkb => Y.extract rfl rfl) ⟨_, _, 1, 1, hs, rfl, rfl⟩ rfl (by kernel_rfl) (by kernel_rfl) (by kernel_rfl) ?_
      refine HW.one (fuel := 1) 18 rfl (by kernel_rfl) ?_
      (refine RW.storeAll T hs 0 rfl rfl rfl rfl rfl rfl hocj rfl ?_; intro w100 hs)
      refine RW.nil ?_
      refine heldQ_normal ⟨_, _, 1, 1, hs, rfl, rfl⟩ ?_
      refine HW.takeR (fuel := 0) 19 rfl (fun _ _ ka kb _ hs hka hkb => Y.assign rfl) ⟨_, _, 1, 1, hs, rfl, rfl⟩ rfl (by kernel_rfl) (by kernel_rfl) (by kernel_rfl) ?_
      refine HW.done (by kernel_rfl) ?_
      refine calmQ_normal ?_
      exact joinQ_meet (b99, _, h98) ⟨rfl, rfl, rfl, rfl, trivial⟩ ⟨hv98, hitR, hs⟩
  rintro ⟨b99, vj, h98⟩ w98 ⟨hv98, hitR, hs⟩
  dsimp only at hv98 hitR hs ⊢
  obtain ⟨wj, nj, sj, ij, fj, cj, bj, ⟨rfl, hocj⟩, _⟩ := id hv98
  refine Zerun ?_
  (refine RW.call T hs rfl rfl rfl (shows_con (k + 1) _ _ _ _ _ _ _ hv98 hitR hJ.hc hJ.k0 hJ.kl hJ.vm hJ.sm hJ.he hJ.td) ?_; intro v h101 w101 hle101 hp101 hs)
  subst hp101
  refine Zerun ?_
  (refine RW.call T hs rfl rfl rfl (awake08_con _ _) ?_; intro v h102 w102 hle102 hp102 hs)
  subst hp102
  refine Zerun ?_
  exact retQ_ret [_] h102 ⟨rfl, trivial⟩ hs.dropAll rfl
end Go.Proofs.Ythbfkhklihejiaa
