/-
  Own texts of the claim, merged: Ih, Ii, LibU, Ij, Ik, Ja, Jb, Jc, Jd, Je, Ka, PlainN, LibX, Pa, Fc, Fd, Fe, Ff, Pb. Lemmas of the proof; no statement is proved here.
-/
import Derived.Test.YthbfkhklihejiaaMb
/-
  Contracts of functions of package value: an array of a plain one. No statement is proved here.
-/
namespace Go.Proofs.Ythbfkhklihejiaa
open Go Go.RowKit
set_option linter.unusedVariables false
set_option linter.unusedSimpArgs false
set_option maxHeartbeats 4000000
attribute [local irreducible] CW RW QW SW HW ConM retM heldQ calmQ elemP thenQ blockQ loopQ joinQ retQ Yields Con Sl zF magR unitF truncF fwF wholeF tidySpec elemQ rankF leastN tidyW

def zeroArr : List Value := [.slice none 0 0, .int .i64 0, .slice none 0 0, .int .i64 0, .slice none 0 0, .slice none 0 0, .slice none 0 0, .slice none 0 0, .slice none 0 0]
section
variable {α β : Type} {R : GHeap → List Value → α → Prop} {RB : GHeap → List Value → β → Prop}
/-- what is told of an array that was asked for -/
def OfPost (RB : GHeap → List Value → β → Prop) (e : Int) (b : β) (h' : GHeap) (u : Value) : Prop := ∃ cs', u = .tuple #[.agg cs'.toArray, .int .i64 e] ∧ cs'.length = 9 ∧ (∀ u ∈ cs', u.oneCell' = true) ∧ (e = 0 → RB h' cs' b) ∧ (e ≠ 0 → cs' = zeroArr)
theorem OfPost.bad {e : Int} {b : β} {h' : GHeap} (he : e ≠ 0) : OfPost RB e b h' (.tuple #[.agg zeroArr.toArray, .int .i64 e]) := ⟨zeroArr, rfl, rfl, by decide, fun e' => absurd e' he, fun _ => rfl⟩
theorem fin_snoc (N : List Nat) (x : Nat) : (decide (∀ y ∈ N, finF y) && decide (finF x)) = decide (∀ y ∈ N ++ [x], finF y) := by
  rw [← Bool.decide_and, decide_eq_decide]; simp only [List.forall_mem_append, List.forall_mem_singleton]
theorem of_step (hR : Mono R) (hRB : Mono RB) (h1 : One RB) (h9 : Siz 9 RB) (F : Int → α → Int) (A : α → β) (ih : ∀ d cs a w h, 0 ≤ d → d ≤ 40 → R h cs a → Con Try.prog 115 [.agg cs.toArray, .int .i64 d] w h (OfPost RB (F d a) (A a)))
    (d : Int) (cs : List Value) (p : PlainD α) (w : World) (h : GHeap) (hd0 : 0 ≤ d) (hd4 : d ≤ 40) (hp : PlainR R h cs p) : Con Try.prog 115 [.agg cs.toArray, .int .i64 d] w h (OfPost (ArrR RB) (chkP (F (d - 1)) d p) (arrP A p)) := by
  obtain ⟨s, it, rfl, hl, ⟨ad2, cp2, xs, rfl, hS2, hA⟩⟩ := hp
  have hl' := hl
  obtain ⟨ad, cp, rfl, hS⟩ := hl
  have hsl : p.shape.length ≤ 9223372036854775807 := by have := hS.caps; omega
  have hlen : p.items.length ≤ 9223372036854775807 := by have := hS2.caps; omega
  have hret1 : chkP (F (d - 1)) d p = 1 → ∀ h', OfPost (ArrR RB) (chkP (F (d - 1)) d p) (arrP A p) h' (.tuple #[.agg zeroArr.toArray, .int .i64 1]) := by
    intro e h'; rw [e]; exact OfPost.bad (by omega)
  refine Con.of_body Try.func115 rfl Try.ntmps115 rfl rfl ?_
  intro hs
  refine Zrun ?_
  (refine RW.boxN hs rfl rfl ?_; intro b1 w1 hs)
  (refine RW.allocN T hs rfl rfl rfl rfl ?_; intro b2 w2 hs)
  refine Zerun ?_
  by_cases c1 : d = 0
  · refine Zerun ?_
    refine RW.val (Y.build T rfl rfl rfl rfl rfl rfl rfl) rfl ?_
    (refine RW.storeAll T hs 0 rfl rfl rfl rfl rfl rfl rfl rfl ?_; intro w3 hs)
    refine Zerun ?_
    exact retQ_ret [_, _] h ⟨resN T hs 0 rfl rfl rfl rfl rfl rfl, rfl, trivial⟩ hs.dropAll (hret1 (by unfold chkP; rw [if_pos (.inl c1)]) _)
  by_cases c2 : p.fill < 0
  · refine Zerun ?_
    refine RW.val (Y.build T rfl rfl rfl rfl rfl rfl rfl) rfl ?_
    (refine RW.storeAll T hs 0 rfl rfl rfl rfl rfl rfl rfl rfl ?_; intro w3 hs)
    refine Zerun ?_
    exact retQ_ret [_, _] h ⟨resN T hs 0 rfl rfl rfl rfl rfl rfl, rfl, trivial⟩ hs.dropAll (hret1 (by unfold chkP; rw [if_pos (.inr (.inl c2))]) _)
  by_cases c3 : 2 < p.fill
  · refine Zerun ?_
    refine RW.val (Y.build T rfl rfl rfl rfl rfl rfl rfl) rfl ?_
    (refine RW.storeAll T hs 0 rfl rfl rfl rfl rfl rfl rfl rfl ?_; intro w3 hs)
    refine Zerun ?_
    exact retQ_ret [_, _] h ⟨resN T hs 0 rfl rfl rfl rfl rfl rfl, rfl, trivial⟩ hs.dropAll (hret1 (by unfold chkP; rw [if_pos (.inr (.inr c3))]) _)
  have e1 : chkP (F (d - 1)) d p = if (product p.shape 1048576).2 ≠ 0 then (product p.shape 1048576).2 else if (product p.shape 1048576).1 ≠ p.items.length then 23 else chkIt (F (d - 1)) p.fill p.items true := by
    unfold chkP; rw [if_neg (by omega)]
  rw [e1]
  clear hret1 e1
  refine Zerun ?_
  (refine RW.call T hs rfl rfl rfl (product_con _ p.shape 1048576 _ _ hl' hsl) ?_; intro v h3 w3 hle3 hp3 hs)
  subst hp3
  generalize hpr : product p.shape 1048576 = r
  obtain ⟨n, e⟩ := r
  dsimp only
  by_cases c4 : e ≠ 0
  · rw [if_pos c4]
    refine Zerun ?_
    refine RW.val (Y.build T rfl rfl rfl rfl rfl rfl rfl) rfl ?_
    refine Zerun ?_
    (refine RW.storeAll T hs 0 rfl rfl rfl rfl rfl rfl rfl rfl ?_; intro w4 hs)
    refine Zerun ?_
    exact retQ_ret [_, _] h3 ⟨resN T hs 0 rfl rfl rfl rfl rfl rfl, rfl, trivial⟩ hs.dropAll (OfPost.bad c4)
  rw [if_neg c4]
  by_cases c5 : n ≠ p.items.length
  · rw [if_pos c5]
    refine Zerun ?_
    refine RW.val (Y.build T rfl rfl rfl rfl rfl rfl rfl) rfl ?_
    (refine RW.storeAll T hs 0 rfl rfl rfl rfl rfl rfl rfl rfl ?_; intro w4 hs)
    refine Zerun ?_
    exact retQ_ret [_, _] h3 ⟨resN T hs 0 rfl rfl rfl rfl rfl rfl, rfl, trivial⟩ hs.dropAll (OfPost.bad (by omega))
  rw [if_neg c5]
  have hpr2 : product p.shape 1048576 = ((p.items.length : Int), 0) := by rw [hpr, Decidable.of_not_not c4, Decidable.of_not_not c5]
  have hn := product_le hpr2
  generalize htot : chkIt (F (d - 1)) p.fill p.items true = tot
  refine Zerun ?_
  have hs := ((hs.nilRow 63 9).nilRow 21 1).nilRow 74 1
  refine CW.loop (fun u : Nat × (Option Addr × Nat × List Nat) × (Option Addr × Nat × List Int) × (Option Addr × Nat × List Value × List β) × GHeap => [(1, .int .i64 d), (2, .pointer (some ⟨b1, 0, none⟩)), (4, .pointer (some ⟨b2, 0, none⟩)), (8, .slice u.2.1.1 u.2.1.2.2.length u.2.1.2.1), (9, .slice u.2.2.1.1 u.2.2.1.2.2.length u.2.2.1.2.1), (10, .slice u.2.2.2.1.1 u.2.2.2.1.2.2.2.length u.2.2.2.1.2.1), (47, .slice ad2 p.items.length cp2), (48, .int .i64 p.items.length), (49, .int .i64 u.1)])
    (fun u w' => (u.1 ≤ p.items.length ∧ u.2.1.2.2.length ≤ u.1 ∧ u.2.2.1.2.2.length ≤ u.1 ∧ u.2.2.2.1.2.2.2.length ≤ u.1) ∧ GLe h3 u.2.2.2.2
      ∧ tot = chkIt (F (d - 1)) p.fill (p.items.drop u.1) (decide (∀ x ∈ u.2.1.2.2, finF x))
      ∧ u.2.1.2.2 = (if p.fill = 0 then (p.items.take u.1).map (·.num) else [])
      ∧ u.2.2.1.2.2 = (if p.fill = 1 then (p.items.take u.1).map (·.char) else [])
      ∧ u.2.2.2.1.2.2.2 = (if p.fill = 2 then (p.items.take u.1).flatMap (fun x => x.box.map A) else [])
      ∧ (∀ x ∈ u.2.1.2.2, x < 18446744073709551616)
      ∧ AllN 9 (RB u.2.2.2.2) u.2.2.2.1.2.2.1 u.2.2.2.1.2.2.2
      ∧ Sees w h u.2.2.2.2 [⟨u.2.1.1, u.2.1.2.2.length, u.2.1.2.1, 74, 1, u.2.1.2.2.map (Value.float .f64)⟩, ⟨u.2.2.1.1, u.2.2.1.2.2.length, u.2.2.1.2.1, 21, 1, u.2.2.1.2.2.map (Value.int .i32)⟩, ⟨u.2.2.2.1.1, u.2.2.2.1.2.2.2.length, u.2.2.2.1.2.1, 63, 9, u.2.2.2.1.2.2.1⟩, ⟨some ⟨b2, 0, none⟩, 1, 1, 63, 9, zeroArr⟩, ⟨some ⟨b1, 0, none⟩, 1, 1, 50, 3, [.slice ad p.shape.length cp, .slice ad2 p.items.length cp2, .int .i64 p.fill]⟩] w')
    (fun u => p.items.length - u.1) (0, (none, 0, []), (none, 0, []), (none, 0, [], []), h3) ⟨rfl, rfl, rfl, rfl, rfl, rfl, rfl, rfl, rfl, trivial⟩ ⟨⟨by omega, by simp, by simp, by simp⟩, GLe.refl _, by simpa using htot.symm, by simp, by simp, by simp, by simp, rfl, hs⟩ ?_
  rintro ⟨i, ⟨an, cn, N⟩, ⟨ac, cc, C⟩, ⟨ab, cb, vs, B⟩, hh⟩ w5 ⟨⟨hi, hN, hC, hB⟩, hg, hck, eN, eC, eB, hN64, hAB, hs⟩
  dsimp only at hi hN hC hB hg hck eN eC eB hN64 hAB hs ⊢
  by_cases hlt : i < p.items.length
  · obtain ⟨bx, hx4, hx1, ⟨ad3, cp3, ys, rfl, hS3, hA3⟩, hx2, hq0, hq1, hq2, hq3⟩ := ItemAt.cells hA i hlt
    have hS2 := hS2.mono (hle3.trans hg)
    have hS3 := hS3.mono (hle3.trans hg)
    have htk := take_succ_getD p.items i noItem hlt
    rw [drop_getD _ _ noItem hlt] at hck
    generalize p.items.getD i noItem = x at *
    have hoc := item_one (x := x) hx1
    unfold chkIt at hck
    refine Zerun ?_
    (refine RW.allocN T hs rfl rfl rfl rfl ?_; intro b6 w6 hs)
    (refine RW.storeAll T hs 0 rfl rfl rfl rfl rfl rfl hoc rfl ?_; intro w7 hs)
    refine Zerun ?_
    by_cases k1 : x.kind ≠ p.fill
    · rw [if_pos (.inl k1)] at hck
      refine Zerun ?_
      refine RW.val (Y.build T rfl rfl rfl rfl rfl rfl rfl) rfl ?_
      (refine RW.storeAll T hs 4 rfl rfl rfl rfl rfl rfl rfl rfl ?_; intro w8 hs)
      refine Zerun ?_
      exact retQ_ret [_, _] hh ⟨resN T hs 4 rfl rfl rfl rfl rfl rfl, rfl, trivial⟩ hs.dropAll (by rw [hck]; exact OfPost.bad (by omega))
    have hkk : x.kind = 0 ∨ x.kind = 1 ∨ x.kind = 2 := by omega
    rcases hkk with k2 | k2 | k2
    · have hf : p.fill = 0 := by omega
      rw [if_neg (by omega), if_neg (by omega)] at hck
      refine Zerun ?_
      (refine RW.lit T hs (vs := [.float .f64 x.num]) (cs := [.float .f64 x.num]) rfl rfl rfl rfl (by simp [Value.cells]) rfl rfl rfl rfl rfl ?_; intro b9 w9 hs)
      (refine RW.append T hs 2 rfl rfl (m := 1) (news := [.float .f64 x.num]) rfl rfl rfl rfl rfl rfl (hs.src0 rfl (by simp [Value.oneCell'])) (by simp) (by dsimp only; omega) (by omega) ?_; intro ad10 cp10 w10 hs; replace hs := hs.drop)
      refine Zerun ?_
      rw [decide_eq_decide.2 (show (x.kind ≠ 0 ∨ finF x.num) ↔ finF x.num from ⟨fun e => e.resolve_left (fun e' => e' k2), .inr⟩), fin_snoc] at hck
      have e1 : (N ++ [x.num]).length = N.length + 1 := by simp
      refine loopQ_round (i + 1, (ad10, cp10, N ++ [x.num]), (ac, cc, C), (ab, cb, vs, B), hh) ⟨rfl, rfl, rfl, by dsimp only; rw [e1]; rfl, rfl, rfl, rfl, rfl, rfl, trivial⟩ ⟨⟨by dsimp only; omega, by dsimp only; omega, by dsimp only; omega, by dsimp only; omega⟩, hg, hck, ?_, ?_, ?_, ?_, hAB, ?_⟩ (by dsimp only; omega)
      · dsimp only; rw [if_pos hf, htk, List.map_append, eN, if_pos hf]; rfl
      · dsimp only; rw [eC, if_neg (by omega), if_neg (by omega)]
      · dsimp only; rw [eB, if_neg (by omega), if_neg (by omega)]
      · intro y hy
        rcases List.mem_append.1 hy with hy | hy
        · exact hN64 y hy
        · rw [List.mem_singleton.1 hy]; exact hx2
      · dsimp only; rw [e1, List.map_append]; exact hs.drop
    · have hf : p.fill = 1 := by omega
      rw [if_neg (by omega), if_neg (by omega), decide_eq_true (show x.kind ≠ 0 ∨ finF x.num from .inl (by omega)), Bool.and_true] at hck
      refine Zerun ?_
      (refine RW.lit T hs (vs := [.int .i32 x.char]) (cs := [.int .i32 x.char]) rfl rfl rfl rfl (by simp [Value.cells]) rfl rfl rfl rfl rfl ?_; intro b9 w9 hs)
      (refine RW.append T hs 3 rfl rfl (m := 1) (news := [.int .i32 x.char]) rfl rfl rfl rfl rfl rfl (hs.src0 rfl (by simp [Value.oneCell'])) (by simp) (by dsimp only; omega) (by omega) ?_; intro ad10 cp10 w10 hs; replace hs := hs.drop)
      refine Zerun ?_
      have e1 : (C ++ [x.char]).length = C.length + 1 := by simp
      refine loopQ_round (i + 1, (an, cn, N), (ad10, cp10, C ++ [x.char]), (ab, cb, vs, B), hh) ⟨rfl, rfl, rfl, rfl, by dsimp only; rw [e1]; rfl, rfl, rfl, rfl, rfl, trivial⟩ ⟨⟨by dsimp only; omega, by dsimp only; omega, by dsimp only; omega, by dsimp only; omega⟩, hg, hck, ?_, ?_, ?_, hN64, hAB, ?_⟩ (by dsimp only; omega)
      · dsimp only; rw [eN, if_neg (by omega), if_neg (by omega)]
      · dsimp only; rw [if_pos hf, htk, List.map_append, eC, if_pos hf]; rfl
      · dsimp only; rw [eB, if_neg (by omega), if_neg (by omega)]
      · dsimp only; rw [e1, List.map_append]; exact hs.drop
    · have hf : p.fill = 2 := by omega
      by_cases k3 : x.box.length ≠ 1
      · rw [if_pos (.inr ⟨k2, k3⟩)] at hck
        refine Zerun ?_
        refine RW.val (Y.build T rfl rfl rfl rfl rfl rfl rfl) rfl ?_
        (refine RW.storeAll T hs 4 rfl rfl rfl rfl rfl rfl rfl rfl ?_; intro w8 hs)
        refine Zerun ?_
        exact retQ_ret [_, _] hh ⟨resN T hs 4 rfl rfl rfl rfl rfl rfl, rfl, trivial⟩ hs.dropAll (by rw [hck]; exact OfPost.bad (by omega))
      rw [if_neg (by omega)] at hck
      obtain ⟨b, hbl⟩ := len1 (Decidable.of_not_not k3)
      rw [hbl] at hA3 hck
      obtain ⟨y, hy, hyl, hRb⟩ := hA3.first
      have hRb := hR _ _ _ _ (hle3.trans hg) hRb
      refine Zerun ?_
      (refine RW.call T hs rfl rfl rfl (ih (d - 1) _ b _ _ (by omega) (by omega) hRb) ?_; intro v h8 w8 hle8 hp8 hs)
      obtain ⟨cs8, rfl, hl8, ho8, hz8, hn8⟩ := hp8
      simp only [List.map_cons, List.map_nil, List.headD_cons] at hck
      generalize F (d - 1) b = e8 at hck hz8 hn8
      refine Zerun ?_
      (refine RW.allocN T hs rfl rfl rfl rfl ?_; intro b9 w9 hs)
      refine RW.storeAll T hs 0 rfl rfl rfl rfl rfl hl8 (List.all_eq_true.2 ho8) hl8 ?_
      intro w10 hs
      refine Zerun ?_
      by_cases k4 : e8 ≠ 0
      · rw [if_pos ⟨k2, k4⟩] at hck
        refine Zerun ?_
        refine RW.val (Y.build T rfl rfl rfl rfl rfl rfl rfl) rfl ?_
        refine Zerun ?_
        (refine RW.storeAll T hs 5 rfl rfl rfl rfl rfl rfl rfl rfl ?_; intro w11 hs)
        refine Zerun ?_
        exact retQ_ret [_, _] h8 ⟨resN T hs 5 rfl rfl rfl rfl rfl rfl, rfl, trivial⟩ hs.dropAll (by rw [hck]; exact OfPost.bad k4)
      have k5 : e8 = 0 := Decidable.of_not_not k4
      rw [if_neg (fun e => k4 e.2), decide_eq_true (show x.kind ≠ 0 ∨ finF x.num from .inl (by omega)), Bool.and_true] at hck
      refine Zerun ?_
      refine RW.val (Y.loadRowN (cs := cs8) T hs 0 rfl rfl rfl rfl rfl (List.take_of_length_le (by rw [List.drop_zero]; exact Nat.le_of_eq hl8)) hl8) rfl ?_
      (refine RW.lit T hs (vs := [.agg cs8.toArray]) (cs := cs8) rfl rfl rfl rfl (by simp [Value.cells, hl8]) rfl (by simp [Value.cells]) rfl rfl rfl ?_; intro b11 w11 hs)
      (refine RW.append T hs 5 rfl rfl (m := 1) (news := cs8) rfl rfl rfl rfl rfl rfl (hs.src0 (by simpa using hl8) ho8) (by simp) (by dsimp only; omega) (by omega) ?_; intro ad12 cp12 w12 hs; replace hs := hs.drop)
      refine Zerun ?_
      have e1 : (B ++ [A b]).length = B.length + 1 := by simp
      refine loopQ_round (i + 1, (an, cn, N), (ac, cc, C), (ad12, cp12, vs ++ cs8, B ++ [A b]), h8) ⟨rfl, rfl, rfl, rfl, rfl, by dsimp only; rw [e1]; rfl, rfl, rfl, rfl, trivial⟩ ⟨⟨by dsimp only; omega, by dsimp only; omega, by dsimp only; omega, by dsimp only; omega⟩, hg.trans hle8, hck, ?_, ?_, ?_, hN64, (hAB.mono (fun u a => hRB _ _ u a hle8)).append (AllN.one hl8 (hz8 k5)), ?_⟩ (by dsimp only; omega)
      · dsimp only; rw [eN, if_neg (by omega), if_neg (by omega)]
      · dsimp only; rw [eC, if_neg (by omega), if_neg (by omega)]
      · dsimp only; rw [if_pos hf, htk, List.flatMap_append, eB, if_pos hf]; simp [hbl]
      · dsimp only; rw [e1]; exact hs.drop.drop
  · obtain rfl : i = p.items.length := by omega
    rw [List.drop_length] at hck
    rw [List.take_length] at eN eC eB
    unfold chkIt at hck
    obtain ⟨h6, hle6, hs, hS6⟩ := hs.freeze
    obtain ⟨h7, hle7, hs, hS7⟩ := hs.freeze
    obtain ⟨h8, hle8, hs, hS8⟩ := hs.freeze
    have hF8 : FAt h8 (.slice an N.length cn) N := (RowAt.of_sl hS6).mono (hle7.trans hle8)
    have hC8 : KAt .i32 h8 (.slice ac C.length cc) C := (RowAt.of_sl hS7).mono hle8
    have hB8 : RowsAt 9 (RB h8) h8 (.slice ab B.length cb) B := ⟨ab, cb, vs, rfl, hS8, hAB.mono (fun u a => hRB _ _ u a ((hle6.trans hle7).trans hle8))⟩
    refine Zerun ?_
    (refine RW.call T hs rfl rfl rfl (sqNumbers_con (R := RB) hRB _ N _ _ hF8 hN64 (by omega)) ?_; intro v h9 w9 hle9 hp9 hs)
    obtain ⟨cs9, ok, rfl, hok, hv9⟩ := hp9
    rw [← hok] at hck
    have hv9' := hv9
    obtain ⟨wv, nv, sm, il, fl, ch, bx, ⟨hcs9, hoc9⟩, _⟩ := hv9
    generalize hvk : (if ok = true then (⟨leastN (N.map tidyW), N.map tidyW, [], []⟩ : VecD β) else VecD.none).kind = vk at hcs9
    subst hcs9
    refine Zerun ?_
    (refine RW.allocN T hs rfl rfl rfl rfl ?_; intro b10 w10 hs)
    (refine RW.storeAll T hs 0 rfl rfl rfl rfl rfl rfl hoc9 rfl ?_; intro w11 hs)
    refine Zerun ?_
    refine CW.meetB (fun q : List Value × GHeap => [(2, .pointer (some ⟨b1, 0, none⟩)), (4, .pointer (some ⟨b2, 0, none⟩)), (15, .pointer (some ⟨b10, 0, none⟩)), (16, .bool ok)]) (fun q w' => GLe h9 q.2 ∧ (ok = true → VecAt RB q.2 q.1 (arrV A p.fill p.items)) ∧ Sees w h q.2 [⟨some ⟨b10, 0, none⟩, 1, 1, 61, 8, q.1⟩, ⟨some ⟨b2, 0, none⟩, 1, 1, 63, 9, zeroArr⟩, ⟨some ⟨b1, 0, none⟩, 1, 1, 50, 3, [.slice ad p.shape.length cp, .slice ad2 p.items.length cp2, .int .i64 p.fill]⟩] w') ?_ ?_
    · by_cases f1 : p.fill = 1
      · have ev : arrV A p.fill p.items = ⟨5, [], C, []⟩ := by unfold arrV; rw [if_pos f1, eC, if_pos f1]
        refine Zerun ?_
        (refine RW.call T hs rfl rfl rfl (vecChars_con (R := RB) _ C _ _ (hC8.mono hle9) (by omega)) ?_; intro v h12 w12 hle12 hp12 hs)
        obtain ⟨cs12, rfl, hv12⟩ := hp12
        have hv12' := hv12
        obtain ⟨wv, nv, sm, il, fl, ch, bx, ⟨rfl, hoc12⟩, _⟩ := hv12
        refine Zerun ?_
        (refine RW.storeAll T hs 0 rfl rfl rfl rfl rfl rfl hoc12 rfl ?_; intro w13 hs)
        refine Zerun ?_
        exact joinQ_meet (_, h12) ⟨rfl, rfl, rfl, rfl, trivial⟩ ⟨hle12, fun _ => by rw [ev]; exact hv12', hs⟩
      by_cases f2 : p.fill = 2
      · have ev : arrV A p.fill p.items = ⟨6, [], [], B⟩ := by unfold arrV; rw [if_neg f1, if_pos f2, eB, if_pos f2]
        refine Zerun ?_
        (refine RW.call T hs rfl rfl rfl (vecBoxes_con (R := RB) hRB h1 _ B _ _ (hB8.mono hle9 (fun u a => hRB _ _ u a hle9)) (by omega)) ?_; intro v h12 w12 hle12 hp12 hs)
        obtain ⟨cs12, rfl, hv12⟩ := hp12
        have hv12' := hv12
        obtain ⟨wv, nv, sm, il, fl, ch, bx, ⟨rfl, hoc12⟩, _⟩ := hv12
        refine Zerun ?_
        (refine RW.storeAll T hs 0 rfl rfl rfl rfl rfl rfl hoc12 rfl ?_; intro w13 hs)
        refine Zerun ?_
        exact joinQ_meet (_, h12) ⟨rfl, rfl, rfl, rfl, trivial⟩ ⟨hle12, fun _ => by rw [ev]; exact hv12', hs⟩
      · have ev : arrV A p.fill p.items = ⟨leastN (N.map tidyW), N.map tidyW, [], []⟩ := by
          unfold arrV; rw [if_neg f1, if_neg f2, eN, if_pos (by omega), List.map_map]; rfl
        refine Zerun ?_
        exact joinQ_meet (_, h9) ⟨rfl, rfl, rfl, rfl, trivial⟩ ⟨GLe.refl _, fun e => by rw [ev]; rw [if_pos e] at hv9'; exact hv9', hs⟩
    rintro ⟨cs13, h13⟩ w13 ⟨hle13, hv13, hs⟩
    dsimp only at hle13 hv13 hs ⊢
    cases ok with
    | false =>
      refine Zerun ?_
      refine RW.val (Y.build T rfl rfl rfl rfl rfl rfl rfl) rfl ?_
      (refine RW.storeAll T hs 1 rfl rfl rfl rfl rfl rfl rfl rfl ?_; intro w14 hs)
      refine Zerun ?_
      exact retQ_ret [_, _] h13 ⟨resN T hs 1 rfl rfl rfl rfl rfl rfl, rfl, trivial⟩ hs.dropAll (by rw [hck]; exact OfPost.bad (by decide))
    | true =>
      have hv14 := hv13 rfl
      have hv14' := hv14
      obtain ⟨wv, nv, sm, il, fl, ch, bx, ⟨rfl, hoc14⟩, _⟩ := hv14
      generalize (arrV A p.fill p.items).kind = vk at *
      refine Zerun ?_
      refine CW.regionH T (fun w' : World => ∃ (h' : GHeap) (O : List Row), Sees w h h' O w' ∧ O[0]? = some (Row.mk (some ⟨b10, 0, none⟩) 1 1 61 8 (vecCells vk wv nv sm il fl ch bx)) ∧ O[2]? = some (Row.mk (some ⟨b1, 0, none⟩) 1 1 50 3 [.slice ad p.shape.length cp, .slice ad2 p.items.length cp2, .int .i64 p.fill])) ?_
      rintro w14 rfl
      have hs := hs.drew
      refine HW.take (fuel := 6) 0 rfl (v := .pointer (some ⟨b1, 0 + 0, none⟩)) ?_ ?_ rfl (by kernel_rfl) (by kernel_rfl) (by kernel_rfl) ?_
      · intro w' _; exact Y.fieldAddr T rfl rfl rfl rfl rfl
      · exact ⟨_, _, hs, rfl, rfl⟩
      refine HW.take (fuel := 5) 1 rfl (v := .slice ad p.shape.length cp) ?_ ?_ rfl (by kernel_rfl) (by kernel_rfl) (by kernel_rfl) ?_
      · rintro w' ⟨h', O, hs', e0, e2⟩; exact Y.loadRow1 T hs' 2 e2 rfl rfl rfl rfl
      · exact ⟨_, _, hs, rfl, rfl⟩
      refine HW.take (fuel := 4) 3 rfl (v := .agg (vecCells vk wv nv sm il fl ch bx).toArray) ?_ ?_ rfl (by kernel_rfl) (by kernel_rfl) (by kernel_rfl) ?_
      · rintro w' ⟨h', O, hs', e0, e2⟩; exact Y.loadRowN T hs' 0 e0 rfl rfl rfl rfl rfl rfl
      · exact ⟨_, _, hs, rfl, rfl⟩
      refine HW.one (fuel := 3) 2 rfl (by kernel_rfl) ?_
      (refine RW.call T hs rfl rfl rfl (cloneInts_con _ p.shape _ _ (hl'.mono ((hle3.trans hg).trans ((hle6.trans hle7).trans (hle8.trans (hle9.trans hle13))))) (by omega)) ?_; intro v h15 w15 hle15 hp15 hs)
      have hl15 := hp15
      obtain ⟨ad15, cp15, rfl, _⟩ := hp15
      refine RW.nil ?_
      refine heldQ_normal ⟨_, _, hs, rfl, rfl⟩ ?_
      refine HW.take (fuel := 2) 4 rfl (v := .agg (.slice ad15 p.shape.length cp15 :: vecCells vk wv nv sm il fl ch bx).toArray) ?_ ?_ rfl (by kernel_rfl) (by kernel_rfl) (by kernel_rfl) ?_
      · intro w' _; exact Y.build T rfl rfl rfl rfl rfl rfl rfl
      · exact ⟨_, _, hs, rfl, rfl⟩
      refine HW.one (fuel := 1) 5 rfl (by kernel_rfl) ?_
      (refine RW.storeAll T hs 1 rfl rfl rfl rfl rfl rfl hoc14 rfl ?_; intro w16 hs)
      refine RW.nil ?_
      refine heldQ_normal ⟨_, _, hs, rfl, rfl⟩ ?_
      refine HW.one (fuel := 0) 6 rfl (by kernel_rfl) ?_
      refine RW.val (Y.assign rfl) rfl ?_
      refine RW.nil ?_
      refine heldQ_normal ⟨_, _, hs, rfl, rfl⟩ ?_
      refine HW.done (by kernel_rfl) ?_
      refine calmQ_normal ?_
      refine Zerun ?_
      refine retQ_ret [_, _] h15 ⟨resN T hs 1 rfl rfl rfl rfl rfl rfl, rfl, trivial⟩ hs.dropAll ?_
      have e0 : tot = 0 := by rw [hck]; rfl
      rw [e0]
      refine ⟨_, rfl, rfl, ?_, fun _ => ⟨_, _, rfl, hl15, hv14'.mono hRB hle15⟩, fun e => absurd rfl e⟩
      intro u hu
      rcases List.mem_cons.1 hu with rfl | hu
      · rfl
      · exact List.all_eq_true.1 hoc14 u hu
end
theorem of_con : ∀ (k : Nat) (d : Int) (cs : List Value) (p : PD k) (w : World) (h : GHeap), 0 ≤ d → d ≤ 40 → PlainAt k h cs p → Con Try.prog 115 [.agg cs.toArray, .int .i64 d] w h (OfPost (ArrAt k) (chk k d p) (arr k p))
  | 0, _, _, _, _, _, _, _, hp => hp.elim
  | k + 1, d, cs, p, w, h, h0, h4, hp => of_step (PlainAt.mono k) (ArrAt.mono k) (ArrAt.one k) (ArrAt.siz k) (chk k) (arr k) (of_con k) d cs p w h h0 h4 hp
theorem valueOf_con (k : Nat) (cs : List Value) (p : PD k) (w : World) (h : GHeap) (hp : PlainAt k h cs p) : Con Try.prog 42 [.agg cs.toArray] w h (OfPost (ArrAt k) (chk k 40 p) (arr k p)) := by
  have hp' := hp
  cases k with
  | zero => exact hp.elim
  | succ k =>
    obtain ⟨s, it, rfl, _⟩ := hp
    refine Con.of_body Try.func42 rfl Try.ntmps42 rfl rfl ?_
    intro hs
    refine Zrun ?_
    (refine RW.boxN hs rfl rfl ?_; intro b1 w1 hs)
    (refine RW.allocN T hs rfl rfl rfl rfl ?_; intro b2 w2 hs)
    refine Zerun ?_
    (refine RW.call T hs rfl rfl rfl (of_con _ 40 _ _ _ _ (by omega) (by omega) hp') ?_; intro v h3 w3 hle3 hp3 hs)
    obtain ⟨cs3, rfl, hl3, ho3, hz3, hn3⟩ := hp3
    refine Zerun ?_
    refine RW.storeAll T hs 0 rfl rfl rfl rfl rfl hl3 (List.all_eq_true.2 ho3) hl3 ?_
    intro w4 hs
    refine Zerun ?_
    exact retQ_ret [_, _] h3 ⟨resN T hs 0 rfl rfl rfl rfl rfl hl3, rfl, trivial⟩ hs.dropAll ⟨_, rfl, hl3, ho3, hz3, hn3⟩
end Go.Proofs.Ythbfkhklihejiaa

/-
  Contracts of functions of package value: an array told as a plain one. No statement is proved here.
-/
namespace Go.Proofs.Ythbfkhklihejiaa
open Go Go.RowKit
set_option linter.unusedVariables false
set_option linter.unusedSimpArgs false
set_option maxHeartbeats 4000000
attribute [local irreducible] CW RW QW SW HW ConM retM heldQ calmQ elemP thenQ blockQ loopQ joinQ retQ Yields Con Sl zF magR unitF truncF fwF wholeF tidySpec elemQ rankF leastN tidyW

section
variable {α β : Type} {R : GHeap → List Value → α → Prop} {RB : GHeap → List Value → β → Prop}
theorem VecAt.sorts {h : GHeap} {cs : List Value} {v : VecD α} (hv : VecAt R h cs v) : (v.cls = 0 ∧ v.len = v.nums.length) ∨ (v.cls = 1 ∧ v.len = v.chars.length) ∨ (v.cls = 2 ∧ v.len = v.boxes.length) := by
  obtain ⟨wv, nv, sm, il, fl, ch, bx, _, hk⟩ := hv
  rcases hk with ⟨_, rfl⟩ | ⟨_, bs, _, rfl, rfl⟩ | ⟨_, l, _, _, rfl⟩ | ⟨_, l, _, _, rfl⟩ | ⟨_, l, _, _, rfl⟩ | ⟨_, l, _, rfl⟩ | ⟨_, l, _, rfl⟩
  all_goals simp [VecD.cls, VecD.len]
theorem itemsV_len (f : α → β) {h : GHeap} {cs : List Value} {v : VecD α} (hv : VecAt R h cs v) : (itemsV f v).length = v.len := by
  unfold itemsV
  rcases hv.sorts with ⟨a, b⟩ | ⟨a, b⟩ | ⟨a, b⟩
  · rw [if_neg (by omega), if_neg (by omega), b]; simp
  · rw [if_pos a, b]; simp
  · rw [if_neg (by omega), if_pos a, b]; simp
theorem getD_map' {γ δ : Type} (g : γ → δ) (l : List γ) (i : Nat) (d : δ) (h : i < l.length) : (l.map g).getD i d = g l[i] := by
  rw [List.getD_eq_getElem?_getD, List.getElem?_map, List.getElem?_eq_getElem h]; rfl
theorem plain_step (hR : Mono R) (hRB : Mono RB) (h1 : One R) (h1B : One RB) (h3 : Siz 3 RB) (f : α → β) (q : α → Prop) (ih : ∀ cs a w h, R h cs a → q a → Con Try.prog 47 [.agg cs.toArray] w h (fun h' u => ∃ cs', u = .agg cs'.toArray ∧ RB h' cs' (f a)))
    (cs : List Value) (a : ArrD α) (w : World) (h : GHeap) (ha : ArrR R h cs a) (hq : ∀ b ∈ a.vec.boxes, q b) (hsl : a.shape.length ≤ 8) (hm : a.vec.len ≤ 1048576) :
    Con Try.prog 47 [.agg cs.toArray] w h (fun h' u => ∃ cs', u = .agg cs'.toArray ∧ PlainR RB h' cs' (plainA f a)) := by
  obtain ⟨s, vc, rfl, hl, hv⟩ := ha
  have hl' := hl
  obtain ⟨ad, cp, rfl, hS⟩ := hl
  have hv' := hv
  have hsort := hv.sorts
  have hil := itemsV_len f hv
  obtain ⟨wv, nv, sm, il, fl, ch, bx, ⟨rfl, hoc⟩, hk⟩ := hv
  clear hk
  refine Con.of_body Try.func47 rfl Try.ntmps47 rfl rfl ?_
  intro hs
  refine Zrun ?_
  (refine RW.boxN hs rfl rfl ?_; intro b1 w1 hs)
  (refine RW.allocN T hs rfl rfl rfl rfl ?_; intro b2 w2 hs)
  refine Zerun ?_
  refine CW.meet (fun u : Nat × Option Addr × Nat × GHeap => [(1, .pointer (some ⟨b1, 0, none⟩)), (2, .pointer (some ⟨b2, 0, none⟩)), (3, .pointer (some ⟨u.1, 0, none⟩))]) (fun u w' => IntsAt u.2.2.2 (.slice u.2.1 a.shape.length u.2.2.1) a.shape ∧ VecAt R u.2.2.2 (vecCells a.vec.kind wv nv sm il fl ch bx) a.vec ∧ Sees w h u.2.2.2 [⟨some ⟨u.1, 0, none⟩, 1, 1, 50, 3, [.slice u.2.1 a.shape.length u.2.2.1, .slice none 0 0, .int .i64 a.vec.cls]⟩, ⟨some ⟨b2, 0, none⟩, 1, 1, 50, 3, [.slice none 0 0, .slice none 0 0, .int .i64 0]⟩, ⟨some ⟨b1, 0, none⟩, 1, 1, 63, 9, .slice ad a.shape.length cp :: vecCells a.vec.kind wv nv sm il fl ch bx⟩] w') ?_ ?_
  · refine CW.regionH T (fun w' : World => ∃ (h' : GHeap) (O : List Row) (k : Nat), Sees w h h' O w' ∧ O[k]? = some (Row.mk (some ⟨b1, 0, none⟩) 1 1 63 9 (.slice ad a.shape.length cp :: vecCells a.vec.kind wv nv sm il fl ch bx))) ?_
    rintro w4 rfl
    have hs := hs.drew
    refine HW.take (fuel := 8) 0 rfl (v := .pointer (some ⟨b1, 0 + 0, none⟩)) ?_ ?_ rfl (by kernel_rfl) (by kernel_rfl) (by kernel_rfl) ?_
    · intro w' _; exact Y.fieldAddr T rfl rfl rfl rfl rfl
    · exact ⟨_, _, 1, hs, rfl⟩
    refine HW.take (fuel := 7) 1 rfl (v := .slice ad a.shape.length cp) ?_ ?_ rfl (by kernel_rfl) (by kernel_rfl) (by kernel_rfl) ?_
    · rintro w' ⟨h', O, k, hs', e0⟩; exact Y.loadRow1 T hs' k e0 rfl rfl rfl rfl
    · exact ⟨_, _, 1, hs, rfl⟩
    refine HW.take (fuel := 6) 3 rfl (v := .pointer (some ⟨b1, 0 + 1, none⟩)) ?_ ?_ rfl (by kernel_rfl) (by kernel_rfl) (by kernel_rfl) ?_
    · intro w' _; exact Y.fieldAddr T rfl rfl rfl rfl rfl
    · exact ⟨_, _, 1, hs, rfl⟩
    refine HW.take (fuel := 5) 4 rfl (v := .agg (vecCells a.vec.kind wv nv sm il fl ch bx).toArray) ?_ ?_ rfl (by kernel_rfl) (by kernel_rfl) (by kernel_rfl) ?_
    · rintro w' ⟨h', O, k, hs', e0⟩; exact Y.loadRowN T hs' k e0 rfl rfl rfl rfl rfl rfl
    · exact ⟨_, _, 1, hs, rfl⟩
    refine HW.two (fuel := 4) 2 7 rfl rfl (by kernel_rfl) ?_ ?_
    · (refine RW.call T hs rfl rfl rfl (cloneInts_con _ a.shape _ _ hl' (by omega)) ?_; intro v h5 w5 hle5 hp5 hs)
      have hl5 := hp5
      obtain ⟨ad5, cp5, rfl, _⟩ := hp5
      have hl' := hl'.mono hle5
      have hv' := hv'.mono hR hle5
      (refine RW.nil ?_; refine heldQ_normal ⟨_, _, 1, hs, rfl⟩ ?_)
      refine HW.two (fuel := 3) 5 7 rfl rfl (by kernel_rfl) ?_ ?_
      · (refine RW.call T hs rfl rfl rfl (vecClass_con _ a.vec _ _ hv') ?_; intro v h6 w6 hle6 hp6 hs)
        subst hp6
        have hl' := hl'.mono hle6
        have hv' := hv'.mono hR hle6
        have hl5 := hl5.mono hle6
        (refine RW.nil ?_; refine heldQ_normal ⟨_, _, 1, hs, rfl⟩ ?_)
        refine HW.take (fuel := 2) 6 rfl (v := .agg [.slice ad5 a.shape.length cp5, .slice none 0 0, .int .i64 a.vec.cls].toArray) ?_ ?_ rfl (by kernel_rfl) (by kernel_rfl) (by kernel_rfl) ?_
        · intro w' _; exact Y.build T rfl rfl rfl rfl rfl rfl rfl
        · exact ⟨_, _, 1, hs, rfl⟩
        refine HW.one (fuel := 1) 7 rfl (by kernel_rfl) ?_
        (refine RW.allocN T hs rfl rfl rfl rfl ?_; intro b7 w7 hs)
        (refine RW.nil ?_; refine heldQ_normal ⟨_, _, 2, hs, rfl⟩ ?_)
        refine HW.one (fuel := 0) 8 rfl (by kernel_rfl) ?_
        (refine RW.storeAll T hs 0 rfl rfl rfl rfl rfl rfl rfl rfl ?_; intro w8 hs)
        (refine RW.nil ?_; refine heldQ_normal ⟨_, _, 2, hs, rfl⟩ ?_)
        refine HW.done (by kernel_rfl) ?_
        refine calmQ_normal ?_
        exact joinQ_meet (b7, ad5, cp5, h6) ⟨rfl, rfl, rfl, trivial⟩ ⟨hl5, hv', hs⟩
      · (refine RW.allocN T hs rfl rfl rfl rfl ?_; intro b7 w7 hs)
        (refine RW.nil ?_; refine heldQ_normal ⟨_, _, 2, hs, rfl⟩ ?_)
        refine HW.one (fuel := 2) 5 rfl (by kernel_rfl) ?_
        (refine RW.call T hs rfl rfl rfl (vecClass_con _ a.vec _ _ hv') ?_; intro v h6 w6 hle6 hp6 hs)
        subst hp6
        have hl' := hl'.mono hle6
        have hv' := hv'.mono hR hle6
        have hl5 := hl5.mono hle6
        (refine RW.nil ?_; refine heldQ_normal ⟨_, _, 2, hs, rfl⟩ ?_)
        refine HW.take (fuel := 1) 6 rfl (v := .agg [.slice ad5 a.shape.length cp5, .slice none 0 0, .int .i64 a.vec.cls].toArray) ?_ ?_ rfl (by kernel_rfl) (by kernel_rfl) (by kernel_rfl) ?_
        · intro w' _; exact Y.build T rfl rfl rfl rfl rfl rfl rfl
        · exact ⟨_, _, 2, hs, rfl⟩
        refine HW.one (fuel := 0) 8 rfl (by kernel_rfl) ?_
        (refine RW.storeAll T hs 0 rfl rfl rfl rfl rfl rfl rfl rfl ?_; intro w8 hs)
        (refine RW.nil ?_; refine heldQ_normal ⟨_, _, 2, hs, rfl⟩ ?_)
        refine HW.done (by kernel_rfl) ?_
        refine calmQ_normal ?_
        exact joinQ_meet (b7, ad5, cp5, h6) ⟨rfl, rfl, rfl, trivial⟩ ⟨hl5, hv', hs⟩
    · (refine RW.allocN T hs rfl rfl rfl rfl ?_; intro b7 w7 hs)
      (refine RW.nil ?_; refine heldQ_normal ⟨_, _, 2, hs, rfl⟩ ?_)
      refine HW.one (fuel := 3) 2 rfl (by kernel_rfl) ?_
      (refine RW.call T hs rfl rfl rfl (cloneInts_con _ a.shape _ _ hl' (by omega)) ?_; intro v h5 w5 hle5 hp5 hs)
      have hl5 := hp5
      obtain ⟨ad5, cp5, rfl, _⟩ := hp5
      have hl' := hl'.mono hle5
      have hv' := hv'.mono hR hle5
      (refine RW.nil ?_; refine heldQ_normal ⟨_, _, 2, hs, rfl⟩ ?_)
      refine HW.one (fuel := 2) 5 rfl (by kernel_rfl) ?_
      (refine RW.call T hs rfl rfl rfl (vecClass_con _ a.vec _ _ hv') ?_; intro v h6 w6 hle6 hp6 hs)
      subst hp6
      have hl' := hl'.mono hle6
      have hv' := hv'.mono hR hle6
      have hl5 := hl5.mono hle6
      (refine RW.nil ?_; refine heldQ_normal ⟨_, _, 2, hs, rfl⟩ ?_)
      refine HW.take (fuel := 1) 6 rfl (v := .agg [.slice ad5 a.shape.length cp5, .slice none 0 0, .int .i64 a.vec.cls].toArray) ?_ ?_ rfl (by kernel_rfl) (by kernel_rfl) (by kernel_rfl) ?_
      · intro w' _; exact Y.build T rfl rfl rfl rfl rfl rfl rfl
      · exact ⟨_, _, 2, hs, rfl⟩
      refine HW.one (fuel := 0) 8 rfl (by kernel_rfl) ?_
      (refine RW.storeAll T hs 0 rfl rfl rfl rfl rfl rfl rfl rfl ?_; intro w8 hs)
      (refine RW.nil ?_; refine heldQ_normal ⟨_, _, 2, hs, rfl⟩ ?_)
      refine HW.done (by kernel_rfl) ?_
      refine calmQ_normal ?_
      exact joinQ_meet (b7, ad5, cp5, h6) ⟨rfl, rfl, rfl, trivial⟩ ⟨hl5, hv', hs⟩
  rintro ⟨b3, ad5, cp5, h5⟩ w5 ⟨hl5, hv', hs⟩
  dsimp only at hl5 hv' hs ⊢
  refine Zerun ?_
  (refine RW.call T hs rfl rfl rfl (vecLen_con _ a.vec _ _ hv') ?_; intro v h6 w6 hle6 hp6 hs)
  subst hp6
  have hv' := hv'.mono hR hle6
  refine Zerun ?_
  have hs := hs.nilRow 83 4
  refine CW.loop (fun u : Nat × Option Addr × Nat × List Value × GHeap => [(1, .pointer (some ⟨b1, 0, none⟩)), (2, .pointer (some ⟨b2, 0, none⟩)), (3, .pointer (some ⟨b3, 0, none⟩)), (15, .int .i64 a.vec.len), (16, .int .i64 u.1)]) (fun u w' => u.1 ≤ a.vec.len ∧ GLe h6 u.2.2.2.2 ∧ AllN 4 (ItemAt RB u.2.2.2.2) u.2.2.2.1 ((itemsV f a.vec).take u.1) ∧ Sees w h u.2.2.2.2 [⟨u.2.1, u.1, u.2.2.1, 83, 4, u.2.2.2.1⟩, ⟨some ⟨b3, 0, none⟩, 1, 1, 50, 3, [.slice ad5 a.shape.length cp5, .slice u.2.1 u.1 u.2.2.1, .int .i64 a.vec.cls]⟩, ⟨some ⟨b2, 0, none⟩, 1, 1, 50, 3, [.slice none 0 0, .slice none 0 0, .int .i64 0]⟩, ⟨some ⟨b1, 0, none⟩, 1, 1, 63, 9, .slice ad a.shape.length cp :: vecCells a.vec.kind wv nv sm il fl ch bx⟩] w') (fun u => a.vec.len - u.1) (0, none, 0, [], h6) ⟨rfl, rfl, rfl, rfl, rfl, trivial⟩ ⟨by omega, GLe.refl _, rfl, hs⟩ ?_
  rintro ⟨i, ra, rc, vs, hh⟩ w7 ⟨hi, hg, hAv, hs⟩
  dsimp only at hi hg hAv hs ⊢
  by_cases hlt : i < a.vec.len
  · have hv' := hv'.mono hR hg
    have htk := take_succ_getD (itemsV f a.vec) i noItem (by omega)
    have done : ∀ (h6 : GHeap) (cs6 : List Value) (x : ItemD β), GLe hh h6 → (itemsV f a.vec).getD i noItem = x → ItemAt RB h6 cs6 x → AllN 4 (ItemAt RB h6) (vs ++ cs6) ((itemsV f a.vec).take (i + 1)) := by
      intro h6 cs6 x hle6 hx hi6
      rw [htk, hx]
      exact (hAv.mono (fun u a => ItemAt.mono hRB _ _ u a hle6)).append (AllN.one (by obtain ⟨_, rfl, _⟩ := hi6; rfl) hi6)
    refine Zerun ?_
    refine RW.val (Y.build T rfl rfl rfl rfl rfl rfl rfl) rfl ?_
    (refine RW.allocN T hs rfl rfl rfl rfl ?_; intro b8 w8 hs)
    (refine RW.storeAll T hs 0 rfl rfl rfl rfl rfl rfl rfl rfl ?_; intro w9 hs)
    refine Zerun ?_
    rcases hsort with ⟨hc, hn⟩ | ⟨hc, hn⟩ | ⟨hc, hn⟩
    · have hx : (itemsV f a.vec).getD i noItem = ⟨0, a.vec.num i, 0, []⟩ := by
        unfold itemsV; rw [if_neg (by omega), if_neg (by omega), getD_map' _ _ _ _ (by omega)]
        unfold VecD.num; rw [if_pos (by omega), Int.toNat_natCast, List.getD_eq_getElem?_getD, List.getElem?_eq_getElem (by omega)]; rfl
      have hnm : a.vec.num i < 18446744073709551616 := by
        unfold VecD.num; rw [if_pos (by omega), Int.toNat_natCast]
        exact (hv'.tidy _ (mem_getD _ _ _ (by omega))).1
      rw [hc] at hs ⊢
      refine Zerun ?_
      (refine RW.call T hs rfl rfl rfl (vecNum_con _ a.vec i _ _ hv') ?_; intro v h10 w10 hle10 hp10 hs)
      subst hp10
      refine Zerun ?_
      (refine RW.store1 T hs 0 rfl rfl rfl rfl rfl rfl rfl rfl ?_; intro w11 hs)
      refine Zerun ?_
      (refine RW.lit T hs (vs := [.agg [.int .i64 0, .float .f64 (a.vec.num i), .int .i32 0, .slice none 0 0].toArray]) (cs := [.int .i64 0, .float .f64 (a.vec.num i), .int .i32 0, .slice none 0 0]) rfl rfl rfl rfl (by simp [Value.cells]) rfl rfl rfl rfl rfl ?_; intro b12 w12 hs)
      (refine RW.append T hs 2 rfl rfl (m := 1) (news := [.int .i64 0, .float .f64 (a.vec.num i), .int .i32 0, .slice none 0 0]) rfl rfl rfl rfl rfl rfl (hs.src0 rfl (by simp [Value.oneCell'])) (by simp) (by dsimp only; omega) (by omega) ?_; intro ad13 cp13 w13 hs; replace hs := hs.drop)
      refine Zerun ?_
      (refine RW.store1 T hs 2 rfl rfl rfl rfl rfl rfl rfl rfl ?_; intro w14 hs)
      refine Zerun ?_
      exact loopQ_round (i + 1, ad13, cp13, _, h10) ⟨rfl, rfl, rfl, rfl, rfl, trivial⟩ ⟨by dsimp only; omega, hg.trans hle10, done h10 _ _ hle10 hx (ItemAt.mk' (x := ⟨0, a.vec.num i, 0, []⟩) (RowsAt.nil _) hnm), hs.drop⟩ (by dsimp only; omega)
    · have hx : (itemsV f a.vec).getD i noItem = ⟨1, 0, a.vec.chr i, []⟩ := by
        unfold itemsV; rw [if_pos hc, getD_map' _ _ _ _ (by omega)]
        unfold VecD.chr; rw [if_pos (by omega), Int.toNat_natCast, List.getD_eq_getElem?_getD, List.getElem?_eq_getElem (by omega)]; rfl
      rw [hc] at hs ⊢
      refine Zerun ?_
      (refine RW.call T hs rfl rfl rfl (vecChar_con _ a.vec i _ _ hv') ?_; intro v h10 w10 hle10 hp10 hs)
      subst hp10
      refine Zerun ?_
      (refine RW.store1 T hs 0 rfl rfl rfl rfl rfl rfl rfl rfl ?_; intro w11 hs)
      refine Zerun ?_
      (refine RW.lit T hs (vs := [.agg [.int .i64 1, .float .f64 0, .int .i32 (a.vec.chr i), .slice none 0 0].toArray]) (cs := [.int .i64 1, .float .f64 0, .int .i32 (a.vec.chr i), .slice none 0 0]) rfl rfl rfl rfl (by simp [Value.cells]) rfl rfl rfl rfl rfl ?_; intro b12 w12 hs)
      (refine RW.append T hs 2 rfl rfl (m := 1) (news := [.int .i64 1, .float .f64 0, .int .i32 (a.vec.chr i), .slice none 0 0]) rfl rfl rfl rfl rfl rfl (hs.src0 rfl (by simp [Value.oneCell'])) (by simp) (by dsimp only; omega) (by omega) ?_; intro ad13 cp13 w13 hs; replace hs := hs.drop)
      refine Zerun ?_
      (refine RW.store1 T hs 2 rfl rfl rfl rfl rfl rfl rfl rfl ?_; intro w14 hs)
      refine Zerun ?_
      exact loopQ_round (i + 1, ad13, cp13, _, h10) ⟨rfl, rfl, rfl, rfl, rfl, trivial⟩ ⟨by dsimp only; omega, hg.trans hle10, done h10 _ _ hle10 hx (ItemAt.mk' (x := ⟨1, 0, a.vec.chr i, []⟩) (RowsAt.nil _) (Nat.succ_pos _)), hs.drop⟩ (by dsimp only; omega)
    · have hib : i < a.vec.boxes.length := by omega
      have hx : (itemsV f a.vec).getD i noItem = ⟨2, 0, 0, [f a.vec.boxes[i]]⟩ := by
        unfold itemsV; rw [if_neg (by omega), if_pos hc, getD_map' _ _ _ _ hib]
      rw [hc] at hs ⊢
      refine Zerun ?_
      (refine RW.call T hs rfl rfl rfl (vecBox_con hR h1 _ a.vec i a.vec.boxes[i] _ _ hv' hib) ?_; intro v h10 w10 hle10 hp10 hs)
      obtain ⟨cs10, rfl, hl10, hR10⟩ := hp10
      rw [List.getD_eq_getElem?_getD, List.getElem?_eq_getElem hib] at hR10
      (refine RW.call T hs rfl rfl rfl (ih _ a.vec.boxes[i] _ _ hR10 (hq _ (List.getElem_mem hib))) ?_; intro v h11 w11 hle11 hp11 hs)
      obtain ⟨cs11, rfl, hR11⟩ := hp11
      have hl11 := h3 _ _ _ hR11
      have ho11 := h1B _ _ _ hR11
      (refine RW.lit T hs (vs := [.agg cs11.toArray]) (cs := cs11) rfl rfl rfl rfl (by simp [Value.cells, hl11]) rfl (by simp [Value.cells]) rfl rfl rfl ?_; intro b12 w12 hs)
      refine Zerun ?_
      (refine RW.store1 T hs 1 rfl rfl rfl rfl rfl rfl rfl rfl ?_; intro w13 hs)
      obtain ⟨h14, hle14, hs, hS14⟩ := hs.freeze
      have hR14 : RowsAt 3 (RB h14) h14 (.slice (some ⟨b12, 0, none⟩) 1 1) [f a.vec.boxes[i]] := RowsAt.single hS14 (hRB _ _ _ _ hle14 hR11)
      refine Zerun ?_
      (refine RW.lit T hs (vs := [.agg [.int .i64 2, .float .f64 0, .int .i32 0, .slice (some ⟨b12, 0, none⟩) 1 1].toArray]) (cs := [.int .i64 2, .float .f64 0, .int .i32 0, .slice (some ⟨b12, 0, none⟩) 1 1]) rfl rfl rfl rfl (by simp [Value.cells]) rfl rfl rfl rfl rfl ?_; intro b15 w15 hs)
      (refine RW.append T hs 2 rfl rfl (m := 1) (news := [.int .i64 2, .float .f64 0, .int .i32 0, .slice (some ⟨b12, 0, none⟩) 1 1]) rfl rfl rfl rfl rfl rfl (hs.src0 rfl (by simp [Value.oneCell'])) (by simp) (by dsimp only; omega) (by omega) ?_; intro ad16 cp16 w16 hs; replace hs := hs.drop)
      refine Zerun ?_
      (refine RW.store1 T hs 2 rfl rfl rfl rfl rfl rfl rfl rfl ?_; intro w17 hs)
      refine Zerun ?_
      exact loopQ_round (i + 1, ad16, cp16, _, h14) ⟨rfl, rfl, rfl, rfl, rfl, trivial⟩ ⟨by dsimp only; omega, hg.trans (hle10.trans (hle11.trans hle14)), done h14 _ _ (hle10.trans (hle11.trans hle14)) hx (ItemAt.mk' (x := ⟨2, 0, 0, [f a.vec.boxes[i]]⟩) hR14 (Nat.succ_pos _)), hs.drop⟩ (by dsimp only; omega)
  · obtain rfl : i = a.vec.len := by omega
    rw [← hil, List.take_length] at hAv
    obtain ⟨h8, hle8, hs, hS8⟩ := hs.freeze
    refine Zerun ?_
    (refine RW.storeAll T hs 1 rfl rfl rfl rfl rfl rfl rfl rfl ?_; intro w9 hs)
    refine Zerun ?_
    refine retQ_ret [_] h8 ⟨resN T hs 1 rfl rfl rfl rfl rfl rfl, trivial⟩ hs.dropAll ⟨_, rfl, _, _, rfl, hl5.mono (hle6.trans (hg.trans hle8)), ra, rc, vs, by simp [plainA, hil], ?_, hAv.mono (fun u a => ItemAt.mono hRB _ _ u a hle8)⟩
    show Sl h8 4 ra (itemsV f a.vec).length rc vs
    rw [hil]
    exact hS8
end
theorem plainV_con : ∀ (k : Nat) (cs : List Value) (a : AD k) (w : World) (h : GHeap), ArrAt k h cs a → sml k a → Con Try.prog 47 [.agg cs.toArray] w h (fun h' u => ∃ cs', u = .agg cs'.toArray ∧ PlainAt k h' cs' (plain k a))
  | 0, _, _, _, _, ha, _ => ha.elim
  | k + 1, cs, a, w, h, ha, hs => plain_step (ArrAt.mono k) (PlainAt.mono k) (ArrAt.one k) (PlainAt.one k) (PlainAt.siz k) (plain k) (sml k) (fun cs a w h ha hs => plainV_con k cs a w h ha hs) cs a w h ha hs.2.2 hs.1 hs.2.1
end Go.Proofs.Ythbfkhklihejiaa

/-
  The program logic, seventeenth part: regions that draw their order, the call's own rows fixed. No statement is proved here.
-/
namespace Go.Proofs.Ythbfkhklihejiaa
open Go Go.RowKit
set_option linter.unusedVariables false
set_option linter.unusedSimpArgs false
set_option linter.unusedVariables false
section
variable {P : Program} {n : Nat} {Q : Post} {L : Env} {w0 w : World} {h0 h : GHeap} {O : List Row} {ops rest : List Oper} {x y : Operand} {t : TypeId}
variable {d : Option Tmp} {ty yt : TypeId} {pos : String} {aft : Array Edge} {fuel : Nat} {listed : Array Bool}
def SO (w0 : World) (h0 : GHeap) (O : List Row) (w : World) : Prop := ∃ h', Sees w0 h0 h' O w
theorem CW.regionO (T' : Tab P) (hs : Sees w0 h0 h O w) {id : Nat} {l : List Oper} (K : ∀ w', Sees w0 h0 h O w' → HW P n l (calmQ Q) (SO w0 h0 O) l.length (Array.replicate l.length false) L w') : CW P n Q (.region id l.toArray true) L w :=
  CW.regionH T' (SO w0 h0 O) (fun w' e => by subst e; exact K _ hs.drew)
theorem HW.takeS (i : Nat) {op : Op} {v : Value} (hi : ops.toArray[i]? = some ⟨d, op, ty, pos, aft, none⟩) (hy : ∀ h' w', Sees w0 h0 h' O w' → Yields P n L w' op ty v) (hS : Sees w0 h0 h O w) (hd : dstOk n d = true)
    (hs : Region.noSelect ops.toArray = true) (hf : Region.free .any ops.toArray listed i = true) (hr : (Region.ready .any ops.toArray listed).contains i = true)
    (hh : HW P n ops (calmQ Q) (SO w0 h0 O) fuel (listed.setIfInBounds i true) (updo d v L) w) : HW P n ops (calmQ Q) (SO w0 h0 O) (fuel + 1) listed L w :=
  HW.take i hi (fun w' ⟨h', s⟩ => hy h' w' s) ⟨h, hS⟩ hd hs hf hr hh
theorem HW.takeSY (i : Nat) {op : Op} {v : Value} {j : Nat} {want : Bool} {t : Tmp} (hi : ops.toArray[i]? = some ⟨d, op, ty, pos, aft, some (j, want)⟩) (hj : gdst ops j = some t) (ht : get L t = some (.bool want)) (hy : ∀ h' w', Sees w0 h0 h' O w' → Yields P n L w' op ty v) (hS : Sees w0 h0 h O w) (hd : dstOk n d = true)
    (hs : Region.noSelect ops.toArray = true) (hf : Region.free .any ops.toArray listed i = true) (hr : (Region.ready .any ops.toArray listed).contains i = true)
    (hh : HW P n ops (calmQ Q) (SO w0 h0 O) fuel (listed.setIfInBounds i true) (updo d v L) w) : HW P n ops (calmQ Q) (SO w0 h0 O) (fuel + 1) listed L w :=
  HW.takeYes i hi hj ht (fun w' ⟨h', s⟩ => hy h' w' s) ⟨h, hS⟩ hd hs hf hr hh
theorem HW.takeSN (i : Nat) {op : Op} {j : Nat} {want b : Bool} {t : Tmp} (hi : ops.toArray[i]? = some ⟨d, op, ty, pos, aft, some (j, want)⟩) (hj : gdst ops j = some t) (ht : get L t = some (.bool b)) (hb : (b == want) = false) (hS : Sees w0 h0 h O w) (hd : dstOk n d = true)
    (hs : Region.noSelect ops.toArray = true) (hf : Region.free .any ops.toArray listed i = true) (hr : (Region.ready .any ops.toArray listed).contains i = true)
    (hh : HW P n ops (calmQ Q) (SO w0 h0 O) fuel (listed.setIfInBounds i true) (updo d undef L) w) : HW P n ops (calmQ Q) (SO w0 h0 O) (fuel + 1) listed L w :=
  HW.takeNo i hi hj ht hb ⟨h, hS⟩ hd hs hf hr hh
theorem Y.neqF {k : IntKind} {u v : Int} (hx : opv L x = some (.int k u)) (hy : opv L y = some (.int k v)) (h : u = v) : Yields P n L w (.binOp .neq t x y yt) ty (.bool false) := by
  have := Y.neq (P := P) (n := n) (w := w) (ty := ty) (t := t) (yt := yt) hx hy
  rwa [decide_eq_false (fun e => e h)] at this
theorem Y.neqT {k : IntKind} {u v : Int} (hx : opv L x = some (.int k u)) (hy : opv L y = some (.int k v)) (h : u ≠ v) : Yields P n L w (.binOp .neq t x y yt) ty (.bool true) := by
  have := Y.neq (P := P) (n := n) (w := w) (ty := ty) (t := t) (yt := yt) hx hy
  rwa [decide_eq_true h] at this
theorem Y.eqF {k : IntKind} {u v : Int} (hx : opv L x = some (.int k u)) (hy : opv L y = some (.int k v)) (h : u ≠ v) : Yields P n L w (.binOp .eql t x y yt) ty (.bool false) := by
  have := Y.eql (P := P) (n := n) (w := w) (ty := ty) (t := t) (yt := yt) hx hy
  rwa [decide_eq_false h] at this
theorem Y.neqBF (T : Tab P) {b b' : Bool} (hT : T.ty t = some .bool) (hx : opv L x = some (.bool b)) (hy : opv L y = some (.bool b')) (h : b = b') : Yields P n L w (.binOp .neq t x y yt) ty (.bool false) := by
  have := Y.neqB (P := P) (n := n) (w := w) (ty := ty) (yt := yt) T hT hx hy
  rw [h] at this
  simpa using this
theorem Y.pickB {c : Operand} {b : Bool} {v u : Value} (hc : opv L c = some (.bool b)) (hx : opv L x = some v) (hy : opv L y = some u) : Yields P n L w (.pick c x y) ty (bif b then v else u) := by
  cases b with
  | true => exact Y.pickT hc hx
  | false => exact Y.pickF hc hy
theorem Y.eqT {k : IntKind} {u v : Int} (hx : opv L x = some (.int k u)) (hy : opv L y = some (.int k v)) (h : u = v) : Yields P n L w (.binOp .eql t x y yt) ty (.bool true) := by
  have := Y.eql (P := P) (n := n) (w := w) (ty := ty) (t := t) (yt := yt) hx hy
  rwa [decide_eq_true h] at this
end
end Go.Proofs.Ythbfkhklihejiaa

/-
  Contracts of the law's own functions of layer 7: the chapter's example; the array of a plain one. No statement is proved here.
-/
namespace Go.Proofs.Ythbfkhklihejiaa
open Go Go.RowKit
set_option linter.unusedVariables false
set_option linter.unusedSimpArgs false
set_option maxHeartbeats 4000000
attribute [local irreducible] CW RW QW SW HW ConM retM heldQ calmQ elemP thenQ blockQ loopQ joinQ retQ Yields Con Sl zF magR unitF truncF fwF wholeF tidySpec elemQ rankF leastN tidyW

/-! ## Plain facts -/
theorem AllN.mem {α : Type} {sz : Nat} {R : List Value → α → Prop} : ∀ {xs : List Value} {l : List α}, AllN sz R xs l → ∀ a ∈ l, ∃ cs, R cs a
  | _, [], _, _, h => by cases h
  | xs, b :: l, h, a, ha => by
    rcases List.mem_cons.1 ha with rfl | ha
    · exact ⟨_, h.2.1⟩
    · exact AllN.mem h.2.2 a ha
theorem tidy_tdy : ∀ (k : Nat) (d : Int) (p : PD k) (h : GHeap) (cs : List Value), PlainAt k h cs p → chk k d p = 0 → tdy k (tidy k p)
  | 0, _, _, _, _, _, _ => trivial
  | k + 1, d, p, h, cs, hp, hc => by
    obtain ⟨h1, h2, h3, h4, h5⟩ := (chkP_ok (α := PD k) _ _ _).1 hc
    obtain ⟨s, it, rfl, hl, ⟨ad2, cp2, xs, rfl, hS2, hA⟩⟩ := hp
    show tdyP (tdy k) (tidyP (tidy k) p)
    intro y hy
    obtain ⟨x, hx, rfl⟩ := List.mem_map.1 hy
    obtain ⟨cx, bx, rfl, ⟨ad3, cp3, ys, rfl, hS3, hA3⟩, hn⟩ := hA.mem x hx
    obtain ⟨o1, o2, o3⟩ := h5 x hx
    unfold tidyIt
    by_cases k0 : x.kind = 0
    · rw [if_pos k0]
      exact ⟨tidyW_tidy hn (o3 k0), by simp⟩
    rw [if_neg k0]
    by_cases k1 : x.kind = 1
    · rw [if_pos k1]
      exact ⟨tidy0, by simp⟩
    rw [if_neg k1]
    by_cases k2 : x.kind = 2
    · rw [if_pos k2]
      refine ⟨tidy0, ?_⟩
      obtain ⟨b, hb, hcb⟩ := o2 k2
      intro b' hb'
      dsimp only at hb'
      rw [hb] at hb' hA3
      simp at hb'
      subst hb'
      obtain ⟨cb, hRb⟩ := hA3.mem b (by simp)
      exact tidy_tdy k (d - 1) b h cb hRb hcb
    · rw [if_neg k2]
      exact ⟨tidy0, by simp⟩
/-- the chapter's example: the identity of two rows -/
def p0 : PD 1 := (⟨[2, 2], [⟨0, 4607182418800017408, 0, []⟩, ⟨0, 0, 0, []⟩, ⟨0, 0, 0, []⟩, ⟨0, 4607182418800017408, 0, []⟩], 0⟩ : PlainD Unit)
theorem tidy1 : tidyF 4607182418800017408 := ⟨by omega, fin1, by omega⟩
theorem tidyW0 : tidyW 0 = 0 := by unfold tidyW; rw [tidySpec_of 0 tidy0]
theorem tidyW1 : tidyW 4607182418800017408 = 4607182418800017408 := by unfold tidyW; rw [tidySpec_of _ tidy1]
theorem p0_mem {x : ItemD (PD 0)} (hx : x ∈ PlainD.items (α := PD 0) p0) : x = ⟨0, 4607182418800017408, 0, []⟩ ∨ x = ⟨0, 0, 0, []⟩ := by
  have h : x ∈ ([⟨0, 4607182418800017408, 0, []⟩, ⟨0, 0, 0, []⟩, ⟨0, 0, 0, []⟩, ⟨0, 4607182418800017408, 0, []⟩] : List (ItemD (PD 0))) := hx
  simp only [List.mem_cons, List.not_mem_nil, or_false] at h
  rcases h with h | h | h | h
  · exact .inl h
  · exact .inr h
  · exact .inr h
  · exact .inl h
theorem p0_chk : chk 1 40 p0 = 0 := by
  refine (chkP_ok (α := PD 0) _ _ _).2 ⟨by omega, by decide, by decide, by decide, ?_⟩
  intro x hx
  rcases p0_mem hx with rfl | rfl
  · exact ⟨rfl, fun e => absurd e (by decide), fun _ => fin1⟩
  · exact ⟨rfl, fun e => absurd e (by decide), fun _ => fin0⟩
theorem p0_tidy : tidy 1 p0 = p0 := by
  have t1 : tidyIt (tidy 0) (⟨0, 4607182418800017408, 0, []⟩ : ItemD (PD 0)) = ⟨0, 4607182418800017408, 0, []⟩ := by unfold tidyIt; rw [if_pos rfl, tidyW1]
  have t0 : tidyIt (tidy 0) (⟨0, 0, 0, []⟩ : ItemD (PD 0)) = ⟨0, 0, 0, []⟩ := by unfold tidyIt; rw [if_pos rfl, tidyW0]
  show (⟨[2, 2], [tidyIt (tidy 0) ⟨0, 4607182418800017408, 0, []⟩, tidyIt (tidy 0) ⟨0, 0, 0, []⟩, tidyIt (tidy 0) ⟨0, 0, 0, []⟩, tidyIt (tidy 0) ⟨0, 4607182418800017408, 0, []⟩], 0⟩ : PlainD (PD 0)) = _
  rw [t1, t0]
  rfl
theorem p0_tdy : tdy 1 p0 := by
  intro x hx
  rcases p0_mem hx with rfl | rfl
  · exact ⟨tidy1, by simp⟩
  · exact ⟨tidy0, by simp⟩
theorem p0_depth : depth 1 p0 = 1 := by
  show depthP _ _ = _
  unfold depthP
  rfl
theorem p0_kind : (ArrD.vec (α := AD 0) (arr 1 p0)).kind = 1 := by
  have e : (arrV (arr 0) 0 [⟨0, 4607182418800017408, 0, []⟩, ⟨0, 0, 0, []⟩, ⟨0, 0, 0, []⟩, ⟨0, 4607182418800017408, 0, []⟩]).kind = leastN [4607182418800017408, 0, 0, 4607182418800017408] := by
    unfold arrV
    rw [if_neg (by omega), if_neg (by omega)]
    simp [tidyW0, tidyW1]
  show (arrV (arr 0) 0 [⟨0, 4607182418800017408, 0, []⟩, ⟨0, 0, 0, []⟩, ⟨0, 0, 0, []⟩, ⟨0, 4607182418800017408, 0, []⟩]).kind = 1
  rw [e]
  have h1 := (leastN_bounds [4607182418800017408, 0, 0, 4607182418800017408]).1
  have h2 : leastN [4607182418800017408, 0, 0, 4607182418800017408] ≤ 1 := by
    rw [leastN.eq_1]
    refine fold_le _ 1 1 (by omega) ?_
    intro x hx
    simp only [List.mem_cons, List.not_mem_nil, or_false] at hx
    rcases hx with rfl | rfl | rfl | rfl
    · exact (rank_bit _ tidy1).2 (.inr fw1.symm)
    · exact (rank_bit _ tidy0).2 (.inl fw0.symm)
    · exact (rank_bit _ tidy0).2 (.inl fw0.symm)
    · exact (rank_bit _ tidy1).2 (.inr fw1.symm)
  omega

theorem awake07_con (w : World) (h : GHeap) : Con Try.prog 41 [] w h (fun _ u => u = .bool true) := by
  refine Con.of_body Try.func41 rfl Try.ntmps41 rfl rfl ?_
  intro hs
  refine Zrun ?_
  (refine RW.lit T hs (vs := [.int .i64 2, .int .i64 2]) rfl rfl rfl rfl (by simp [Value.cells]) rfl rfl rfl rfl rfl ?_; intro b1 w1 hs)
  obtain ⟨h1, hle1, hs, hS1⟩ := hs.freeze
  have hI1 : IntsAt h1 (.slice (some ⟨b1, 0, none⟩) 2 2) [2, 2] := IntsAt.of_sl hS1
  refine RW.val (Y.build T rfl rfl rfl rfl rfl rfl rfl) rfl ?_
  refine RW.val (Y.build T rfl rfl rfl rfl rfl rfl rfl) rfl ?_
  refine RW.val (Y.build T rfl rfl rfl rfl rfl rfl rfl) rfl ?_
  refine RW.val (Y.build T rfl rfl rfl rfl rfl rfl rfl) rfl ?_
  (refine RW.lit T hs (vs := [.agg [.int .i64 0, .float .f64 4607182418800017408, .int .i32 0, .slice none 0 0].toArray, .agg [.int .i64 0, .float .f64 0, .int .i32 0, .slice none 0 0].toArray, .agg [.int .i64 0, .float .f64 0, .int .i32 0, .slice none 0 0].toArray, .agg [.int .i64 0, .float .f64 4607182418800017408, .int .i32 0, .slice none 0 0].toArray]) (cs := [.int .i64 0, .float .f64 4607182418800017408, .int .i32 0, .slice none 0 0, .int .i64 0, .float .f64 0, .int .i32 0, .slice none 0 0, .int .i64 0, .float .f64 0, .int .i32 0, .slice none 0 0, .int .i64 0, .float .f64 4607182418800017408, .int .i32 0, .slice none 0 0]) rfl rfl rfl rfl (by simp [Value.cells]) rfl rfl rfl rfl rfl ?_; intro b2 w2 hs)
  obtain ⟨h2, hle2, hs, hS2⟩ := hs.freeze
  have hp : PlainAt 1 h2 [.slice (some ⟨b1, 0, none⟩) 2 2, .slice (some ⟨b2, 0, none⟩) 4 4, .int .i64 0] p0 := by
    refine ⟨_, _, rfl, hI1.mono hle2, some ⟨b2, 0, none⟩, 4, _, rfl, hS2, ?_⟩
    refine ⟨rfl, ⟨_, rfl, RowsAt.nil _, by decide⟩, rfl, ⟨_, rfl, RowsAt.nil _, by decide⟩, rfl, ⟨_, rfl, RowsAt.nil _, by decide⟩, rfl, ⟨_, rfl, RowsAt.nil _, by decide⟩, rfl⟩
  refine RW.val (Y.build T rfl rfl rfl rfl rfl rfl rfl) rfl ?_
  (refine RW.allocN T hs rfl rfl rfl rfl ?_; intro b3 w3 hs)
  (refine RW.storeAll T hs 0 rfl rfl rfl rfl rfl rfl rfl rfl ?_; intro w4 hs)
  refine Zerun ?_
  (refine RW.call T hs rfl rfl rfl (valueOf_con 1 _ p0 _ _ hp) ?_; intro v h5 w5 hle5 hp5 hs)
  rw [p0_chk] at hp5
  obtain ⟨cs5, rfl, hl5, ho5, ha5, _⟩ := hp5
  have ha' := ha5 rfl
  have hp' := PlainAt.mono 1 _ _ _ _ hle5 hp
  have ha2 := ha'
  obtain ⟨s5, vc5, rfl, _, hv'⟩ := ha2
  have hv2 := hv'
  obtain ⟨wv, nv, sm, il, fl, ch, bx, ⟨rfl, _⟩, _⟩ := hv2
  refine Zerun ?_
  (refine RW.allocN T hs rfl rfl rfl rfl ?_; intro b6 w6 hs)
  (refine RW.storeAll T hs 0 rfl rfl rfl rfl rfl rfl (List.all_eq_true.2 ho5) rfl ?_; intro w7 hs)
  refine Zerun ?_
  refine CW.regionO T hs ?_
  intro w8 hs
  refine HW.takeS (fuel := 23) 0 rfl (fun _ _ hs => Y.move rfl) hs rfl (by kernel_rfl) (by kernel_rfl) (by kernel_rfl) ?_
  refine HW.takeS (fuel := 22) 1 rfl (fun _ _ hs => Y.eqT rfl rfl rfl) hs rfl (by kernel_rfl) (by kernel_rfl) (by kernel_rfl) ?_
  refine HW.takeS (fuel := 21) 2 rfl (fun _ _ hs => Y.move rfl) hs rfl (by kernel_rfl) (by kernel_rfl) (by kernel_rfl) ?_
  refine HW.takeSY (fuel := 20) 3 rfl rfl rfl (fun _ _ hs => Y.fieldAddr T rfl rfl rfl rfl rfl) hs rfl (by kernel_rfl) (by kernel_rfl) (by kernel_rfl) ?_
  refine HW.takeSY (fuel := 19) 4 rfl rfl rfl (fun _ _ hs => Y.loadRowN T hs 0 rfl rfl rfl rfl rfl rfl rfl) hs rfl (by kernel_rfl) (by kernel_rfl) (by kernel_rfl) ?_
  refine HW.one (fuel := 18) 5 rfl (by kernel_rfl) ?_
  refine RW.guardYes rfl rfl ?_
  (refine RW.call T hs rfl rfl rfl (vecKind_con _ (arr 1 p0).vec _ _ hv') ?_; intro v h21 w21 hle21 hp21 hs)
  subst hp21
  have ha' := ArrAt.mono 1 _ _ _ _ hle21 ha'
  have hv' := hv'.mono (ArrAt.mono 0) hle21
  have hp' := PlainAt.mono 1 _ _ _ _ hle21 hp'
  refine RW.nil ?_
  refine heldQ_normal ⟨_, hs⟩ ?_
  refine HW.takeSY (fuel := 17) 6 rfl rfl rfl (fun _ _ hs => Y.eqT rfl rfl p0_kind) hs rfl (by kernel_rfl) (by kernel_rfl) (by kernel_rfl) ?_
  refine HW.takeS (fuel := 16) 7 rfl (fun _ _ hs => Y.pickT rfl rfl) hs rfl (by kernel_rfl) (by kernel_rfl) (by kernel_rfl) ?_
  refine HW.takeS (fuel := 15) 8 rfl (fun _ _ hs => Y.move rfl) hs rfl (by kernel_rfl) (by kernel_rfl) (by kernel_rfl) ?_
  refine HW.takeSY (fuel := 14) 9 rfl rfl rfl (fun _ _ hs => Y.loadRowN T hs 0 rfl rfl rfl rfl rfl rfl rfl) hs rfl (by kernel_rfl) (by kernel_rfl) (by kernel_rfl) ?_
  refine HW.one (fuel := 13) 10 rfl (by kernel_rfl) ?_
  refine RW.guardYes rfl rfl ?_
  (refine RW.call T hs rfl rfl rfl (valueDepth_con 1 40 _ (arr 1 p0) _ _ (by omega) (by omega) ha' (good_arr 1 40 p0 p0_chk)) ?_; intro v h26 w26 hle26 hp26 hs)
  subst hp26
  have ha' := ArrAt.mono 1 _ _ _ _ hle26 ha'
  have hp' := PlainAt.mono 1 _ _ _ _ hle26 hp'
  refine RW.nil ?_
  refine heldQ_normal ⟨_, hs⟩ ?_
  refine HW.takeSY (fuel := 12) 11 rfl rfl rfl (fun _ _ hs => Y.eqT rfl rfl (by rw [depth_arr 1 40 p0 p0_chk, p0_depth])) hs rfl (by kernel_rfl) (by kernel_rfl) (by kernel_rfl) ?_
  refine HW.takeS (fuel := 11) 12 rfl (fun _ _ hs => Y.pickT rfl rfl) hs rfl (by kernel_rfl) (by kernel_rfl) (by kernel_rfl) ?_
  refine HW.takeS (fuel := 10) 13 rfl (fun _ _ hs => Y.move rfl) hs rfl (by kernel_rfl) (by kernel_rfl) (by kernel_rfl) ?_
  refine HW.takeSY (fuel := 9) 14 rfl rfl rfl (fun _ _ hs => Y.loadRowN T hs 0 rfl rfl rfl rfl rfl rfl rfl) hs rfl (by kernel_rfl) (by kernel_rfl) (by kernel_rfl) ?_
  refine HW.takeSY (fuel := 8) 16 rfl rfl rfl (fun _ _ hs => Y.loadRowN T hs 1 rfl rfl rfl rfl rfl rfl rfl) hs rfl (by kernel_rfl) (by kernel_rfl) (by kernel_rfl) ?_
  refine HW.one (fuel := 7) 15 rfl (by kernel_rfl) ?_
  refine RW.guardYes rfl rfl ?_
  (refine RW.call T hs rfl rfl rfl (plainV_con 1 _ (arr 1 p0) _ _ ha' (good_sml 1 40 _ (good_arr 1 40 p0 p0_chk))) ?_; intro v h31 w31 hle31 hp31 hs)
  obtain ⟨cs31, rfl, hq31⟩ := hp31
  rw [plain_arr 1 40 p0 p0_chk, p0_tidy] at hq31
  have ha' := ArrAt.mono 1 _ _ _ _ hle31 ha'
  have hp' := PlainAt.mono 1 _ _ _ _ hle31 hp'
  refine RW.nil ?_
  refine heldQ_normal ⟨_, hs⟩ ?_
  refine HW.one (fuel := 6) 17 rfl (by kernel_rfl) ?_
  refine RW.guardYes rfl rfl ?_
  (refine RW.call T hs rfl rfl rfl (refSame_con 1 _ _ p0 p0 _ _ hq31 hp' p0_tdy p0_tdy) ?_; intro v h33 w33 hle33 hp33 hs)
  subst hp33
  rw [eqB_of (show p0 = p0 from rfl)]
  have ha' := ArrAt.mono 1 _ _ _ _ hle33 ha'
  refine RW.nil ?_
  refine heldQ_normal ⟨_, hs⟩ ?_
  refine HW.takeS (fuel := 5) 18 rfl (fun _ _ hs => Y.pickT rfl rfl) hs rfl (by kernel_rfl) (by kernel_rfl) (by kernel_rfl) ?_
  refine HW.takeS (fuel := 4) 19 rfl (fun _ _ hs => Y.move rfl) hs rfl (by kernel_rfl) (by kernel_rfl) (by kernel_rfl) ?_
  refine HW.takeSY (fuel := 3) 20 rfl rfl rfl (fun _ _ hs => Y.loadRowN T hs 0 rfl rfl rfl rfl rfl rfl rfl) hs rfl (by kernel_rfl) (by kernel_rfl) (by kernel_rfl) ?_
  refine HW.one (fuel := 2) 21 rfl (by kernel_rfl) ?_
  refine RW.guardYes rfl rfl ?_
  (refine RW.call T hs rfl rfl rfl (valueGood_con 1 _ (arr 1 p0) _ _ ha') ?_; intro v h37 w37 hle37 hp37 hs)
  subst hp37
  rw [decB_of (good_arr 1 40 p0 p0_chk)]
  refine RW.nil ?_
  refine heldQ_normal ⟨_, hs⟩ ?_
  refine HW.takeS (fuel := 1) 22 rfl (fun _ _ hs => Y.pickT rfl rfl) hs rfl (by kernel_rfl) (by kernel_rfl) (by kernel_rfl) ?_
  refine HW.takeS (fuel := 0) 23 rfl (fun _ _ hs => Y.assign rfl) hs rfl (by kernel_rfl) (by kernel_rfl) (by kernel_rfl) ?_
  refine HW.done (by kernel_rfl) ?_
  refine calmQ_normal ?_
  refine Zerun ?_
  exact retQ_ret [_] h37 ⟨rfl, trivial⟩ hs.dropAll rfl
theorem of07_con (k : Nat) (cs : List Value) (p : PD k) (w : World) (h : GHeap) (hp : PlainAt k h cs p) (hc : chk k 40 p = 0) : Con Try.prog 56 [.agg cs.toArray] w h (fun h' u => ∃ cs', u = .agg cs'.toArray ∧ cs'.length = 9 ∧ (∀ u ∈ cs', u.oneCell' = true) ∧ ArrAt k h' cs' (arr k p)) := by
  have hp' := hp
  cases k with
  | zero => exact hp.elim
  | succ k =>
    obtain ⟨s, it, rfl, _⟩ := hp
    refine Con.of_body Try.func56 rfl Try.ntmps56 rfl rfl ?_
    intro hs
    refine Zrun ?_
    (refine RW.boxN hs rfl rfl ?_; intro b1 w1 hs)
    (refine RW.allocN T hs rfl rfl rfl rfl ?_; intro b2 w2 hs)
    refine Zerun ?_
    (refine RW.call T hs rfl rfl rfl (valueOf_con _ _ _ _ _ hp') ?_; intro v h3 w3 hle3 hp3 hs)
    rw [hc] at hp3
    obtain ⟨cs3, rfl, hl3, ho3, hz3, hn3⟩ := hp3
    refine Zerun ?_
    (refine RW.allocN T hs rfl rfl rfl rfl ?_; intro b4 w4 hs)
    refine RW.storeAll T hs 0 rfl rfl rfl rfl rfl hl3 (List.all_eq_true.2 ho3) hl3 ?_
    intro w5 hs
    refine Zerun ?_
    refine RW.val (Y.loadRowN (cs := cs3) T hs 0 rfl rfl rfl rfl rfl (List.take_of_length_le (by rw [List.drop_zero]; exact Nat.le_of_eq hl3)) hl3) rfl ?_
    refine RW.storeAll T hs 1 rfl rfl rfl rfl rfl hl3 (List.all_eq_true.2 ho3) hl3 ?_
    intro w6 hs
    refine Zerun ?_
    exact retQ_ret [_] h3 ⟨resN T hs 1 rfl rfl rfl rfl rfl hl3, trivial⟩ hs.dropAll ⟨_, rfl, hl3, ho3, hz3 rfl⟩
end Go.Proofs.Ythbfkhklihejiaa

/-
  Contracts of the law's own functions of layer 7: which plain arrays are arrays. No statement is proved here.
-/
namespace Go.Proofs.Ythbfkhklihejiaa
open Go Go.RowKit
set_option linter.unusedVariables false
set_option linter.unusedSimpArgs false
set_option maxHeartbeats 4000000
attribute [local irreducible] CW RW QW SW HW ConM retM heldQ calmQ elemP thenQ blockQ loopQ joinQ retQ Yields Con Sl zF magR unitF truncF fwF wholeF tidySpec elemQ rankF leastN tidyW

theorem Y.eqlBT {P : Program} (T : Tab P) {n : Nat} {L : Env} {w : World} {ty : TypeId} {x y : Operand} {t yt : TypeId} {b b' : Bool} (hT : T.ty t = some .bool) (hx : opv L x = some (.bool b)) (hy : opv L y = some (.bool b')) (h : b = b') : Yields P n L w (.binOp .eql t x y yt) ty (.bool true) := by
  have := Y.eqlB (P := P) (n := n) (w := w) (ty := ty) (yt := yt) T hT hx hy
  rw [h] at this
  simpa using this
theorem zeroArr_at (k : Nat) (h : GHeap) : ArrAt (k + 1) h zeroArr (⟨[], VecD.none⟩ : ArrD (AD k)) := ⟨_, _, rfl, RowAt.nil h, vecNone h⟩
theorem zeroArr_bad (k : Nat) (d : Int) : ¬ good (k + 1) d (⟨[], VecD.none⟩ : ArrD (AD k)) := fun g => g.2.1 rfl
theorem valueOfLaw_con (k : Nat) (cs : List Value) (p : PD (k + 1)) (w : World) (h : GHeap) (hp : PlainAt (k + 1) h cs p) : Con Try.prog 7 [.agg cs.toArray] w h (fun _ u => u = .bool true) := by
  have hp' := hp
  obtain ⟨s, it, rfl, ⟨ad, cp, rfl, hS⟩, ⟨ad2, cp2, xs, rfl, hS2, hA⟩⟩ := hp
  refine Con.of_body Try.func7 rfl Try.ntmps7 rfl rfl ?_
  intro hs
  refine Zrun ?_
  (refine RW.boxN hs rfl rfl ?_; intro b1 w1 hs)
  refine Zerun ?_
  (refine RW.call T hs rfl rfl rfl (refCount_con 3000 (k + 1) _ p _ _ hp') ?_; intro v h2 w2 hle2 hp2 hs)
  obtain ⟨r, rfl⟩ := hp2
  have hp' := PlainAt.mono (k + 1) _ _ _ _ hle2 hp'
  by_cases c1 : 2000 < r
  · refine Zerun ?_
    (refine RW.call T hs rfl rfl rfl (awake07_con _ _) ?_; intro v h3 w3 hle3 hp3 hs)
    subst hp3
    refine Zerun ?_
    exact retQ_ret [_] h3 ⟨rfl, trivial⟩ hs.dropAll rfl
  refine Zerun ?_
  (refine RW.call T hs rfl rfl rfl (valueOf_con (k + 1) _ p _ _ hp') ?_; intro v h3 w3 hle3 hp3 hs)
  obtain ⟨cs3, rfl, hl3, ho3, hz3, hn3⟩ := hp3
  have hp' := PlainAt.mono (k + 1) _ _ _ _ hle3 hp'
  refine Zerun ?_
  (refine RW.allocN T hs rfl rfl rfl rfl ?_; intro b4 w4 hs)
  refine RW.storeAll T hs 0 rfl rfl rfl rfl rfl hl3 (List.all_eq_true.2 ho3) hl3 ?_
  intro w5 hs
  refine Zerun ?_
  (refine RW.call T hs rfl rfl rfl (refCheck_con (k + 1) _ p _ _ hp') ?_; intro v h6 w6 hle6 hp6 hs)
  subst hp6
  have hp' := PlainAt.mono (k + 1) _ _ _ _ hle6 hp'
  by_cases hc : chk (k + 1) 40 p = 0
  · have ha3 := ArrAt.mono (k + 1) _ _ _ _ hle6 (hz3 hc)
    have hgood := good_arr (k + 1) 40 p hc
    have hsml := good_sml (k + 1) 40 _ hgood
    have htdy := tidy_tdy (k + 1) 40 p _ _ hp' hc
    have hdep := depth_arr (k + 1) 40 p hc
    have hsing : decide ((ArrD.vec (α := AD k) (arr (k + 1) p)).len = 1) = decide (((PlainD.items (α := PD k) p).length : Int) = 1) := by
      have e : (ArrD.vec (α := AD k) (arr (k + 1) p)).len = (PlainD.items (α := PD k) p).length := by
        obtain ⟨_, _, _, _, h5⟩ := (chkP_ok (α := PD k) _ _ _).1 hc
        exact len_arrV (arr k) _ _ _ h5
      rw [e, decide_eq_decide]; omega
    have ha' := ha3
    obtain ⟨s5, vc5, rfl, hl5, hv5⟩ := ha3
    obtain ⟨ad5, cp5, rfl, _⟩ := hl5
    obtain ⟨wv, nv, sm, il, fl, ch, bx, ⟨rfl, _⟩, _⟩ := hv5
    refine Zerun ?_
    · refine CW.regionO T hs ?_
      intro w8 hs
      refine HW.takeS (fuel := 36) 0 rfl (fun _ _ hs => Y.loadRowN T hs 0 rfl rfl rfl rfl rfl rfl rfl) hs rfl (by kernel_rfl) (by kernel_rfl) (by kernel_rfl) ?_
      refine HW.one (fuel := 35) 1 rfl (by kernel_rfl) ?_
      (refine RW.call T hs rfl rfl rfl (valueGood_con (k + 1) _ (arr (k + 1) p) _ _ ha') ?_; intro v h39 w39 hle39 hp39 hs)
      subst hp39
      rw [decB_of hgood]
      have ha' := ArrAt.mono (k + 1) _ _ _ _ hle39 ha'
      have hp' := PlainAt.mono (k + 1) _ _ _ _ hle39 hp'
      refine RW.nil ?_
      refine heldQ_normal ⟨_, hs⟩ ?_
      refine HW.takeS (fuel := 34) 2 rfl (fun _ _ hs => Y.move rfl) hs rfl (by kernel_rfl) (by kernel_rfl) (by kernel_rfl) ?_
      refine HW.takeSY (fuel := 33) 3 rfl rfl rfl (fun _ _ hs => Y.loadRowN T hs 0 rfl rfl rfl rfl rfl rfl rfl) hs rfl (by kernel_rfl) (by kernel_rfl) (by kernel_rfl) ?_
      refine HW.takeSY (fuel := 32) 5 rfl rfl rfl (fun _ _ hs => Y.loadRowN T hs 1 rfl rfl rfl rfl rfl rfl rfl) hs rfl (by kernel_rfl) (by kernel_rfl) (by kernel_rfl) ?_
      refine HW.one (fuel := 31) 4 rfl (by kernel_rfl) ?_
      refine RW.guardYes rfl rfl ?_
      (refine RW.call T hs rfl rfl rfl (plainV_con (k + 1) _ (arr (k + 1) p) _ _ ha' hsml) ?_; intro v h42 w42 hle42 hp42 hs)
      obtain ⟨cs42, rfl, hq42⟩ := hp42
      rw [plain_arr (k + 1) 40 p hc] at hq42
      have ha' := ArrAt.mono (k + 1) _ _ _ _ hle42 ha'
      have hp' := PlainAt.mono (k + 1) _ _ _ _ hle42 hp'
      refine RW.nil ?_
      refine heldQ_normal ⟨_, hs⟩ ?_
      refine HW.one (fuel := 30) 6 rfl (by kernel_rfl) ?_
      refine RW.guardYes rfl rfl ?_
      (refine RW.call T hs rfl rfl rfl (refTidyP_con (k + 1) 40 _ p _ _ hp' hc) ?_; intro v h44 w44 hle44 hp44 hs)
      obtain ⟨cs44, rfl, hq44⟩ := hp44
      have ha' := ArrAt.mono (k + 1) _ _ _ _ hle44 ha'
      have hp' := PlainAt.mono (k + 1) _ _ _ _ hle44 hp'
      have hq42 := PlainAt.mono (k + 1) _ _ _ _ hle44 hq42
      refine RW.nil ?_
      refine heldQ_normal ⟨_, hs⟩ ?_
      refine HW.one (fuel := 29) 7 rfl (by kernel_rfl) ?_
      refine RW.guardYes rfl rfl ?_
      (refine RW.call T hs rfl rfl rfl (refSame_con (k + 1) _ _ (tidy (k + 1) p) (tidy (k + 1) p) _ _ hq42 hq44 htdy htdy) ?_; intro v h45 w45 hle45 hp45 hs)
      subst hp45
      rw [eqB_of (show tidy (k + 1) p = tidy (k + 1) p from rfl)]
      have ha' := ArrAt.mono (k + 1) _ _ _ _ hle45 ha'
      have hp' := PlainAt.mono (k + 1) _ _ _ _ hle45 hp'
      refine RW.nil ?_
      refine heldQ_normal ⟨_, hs⟩ ?_
      refine HW.takeS (fuel := 28) 8 rfl (fun _ _ hs => Y.pickT rfl rfl) hs rfl (by kernel_rfl) (by kernel_rfl) (by kernel_rfl) ?_
      refine HW.takeS (fuel := 27) 9 rfl (fun _ _ hs => Y.move rfl) hs rfl (by kernel_rfl) (by kernel_rfl) (by kernel_rfl) ?_
      refine HW.takeSY (fuel := 26) 10 rfl rfl rfl (fun _ _ hs => Y.loadRowN T hs 0 rfl rfl rfl rfl rfl rfl rfl) hs rfl (by kernel_rfl) (by kernel_rfl) (by kernel_rfl) ?_
      refine HW.takeSY (fuel := 25) 12 rfl rfl rfl (fun _ _ hs => Y.loadRowN T hs 1 rfl rfl rfl rfl rfl rfl rfl) hs rfl (by kernel_rfl) (by kernel_rfl) (by kernel_rfl) ?_
      refine HW.one (fuel := 24) 11 rfl (by kernel_rfl) ?_
      refine RW.guardYes rfl rfl ?_
      (refine RW.call T hs rfl rfl rfl (valueDepth_con (k + 1) 40 _ (arr (k + 1) p) _ _ (by omega) (by omega) ha' hgood) ?_; intro v h49 w49 hle49 hp49 hs)
      subst hp49
      have ha' := ArrAt.mono (k + 1) _ _ _ _ hle49 ha'
      have hp' := PlainAt.mono (k + 1) _ _ _ _ hle49 hp'
      refine RW.nil ?_
      refine heldQ_normal ⟨_, hs⟩ ?_
      refine HW.one (fuel := 23) 13 rfl (by kernel_rfl) ?_
      refine RW.guardYes rfl rfl ?_
      (refine RW.call T hs rfl rfl rfl (refDepth_con (k + 1) 40 _ p _ _ (by omega) (by omega) hp' hc) ?_; intro v h51 w51 hle51 hp51 hs)
      subst hp51
      have ha' := ArrAt.mono (k + 1) _ _ _ _ hle51 ha'
      have hp' := PlainAt.mono (k + 1) _ _ _ _ hle51 hp'
      refine RW.nil ?_
      refine heldQ_normal ⟨_, hs⟩ ?_
      refine HW.takeSY (fuel := 22) 14 rfl rfl rfl (fun _ _ hs => Y.eqT rfl rfl hdep) hs rfl (by kernel_rfl) (by kernel_rfl) (by kernel_rfl) ?_
      refine HW.takeS (fuel := 21) 15 rfl (fun _ _ hs => Y.pickT rfl rfl) hs rfl (by kernel_rfl) (by kernel_rfl) (by kernel_rfl) ?_
      refine HW.takeS (fuel := 20) 16 rfl (fun _ _ hs => Y.move rfl) hs rfl (by kernel_rfl) (by kernel_rfl) (by kernel_rfl) ?_
      refine HW.takeSY (fuel := 19) 17 rfl rfl rfl (fun _ _ hs => Y.loadRowN T hs 0 rfl rfl rfl rfl rfl rfl rfl) hs rfl (by kernel_rfl) (by kernel_rfl) (by kernel_rfl) ?_
      refine HW.takeSY (fuel := 18) 19 rfl rfl rfl (fun _ _ hs => Y.fieldAddr T rfl rfl rfl rfl rfl) hs rfl (by kernel_rfl) (by kernel_rfl) (by kernel_rfl) ?_
      refine HW.takeSY (fuel := 17) 20 rfl rfl rfl (fun _ _ hs => Y.loadRow1 T hs 1 rfl rfl rfl rfl rfl) hs rfl (by kernel_rfl) (by kernel_rfl) (by kernel_rfl) ?_
      refine HW.takeSY (fuel := 16) 21 rfl rfl rfl (fun _ _ hs => Y.len T rfl rfl) hs rfl (by kernel_rfl) (by kernel_rfl) (by kernel_rfl) ?_
      refine HW.one (fuel := 15) 18 rfl (by kernel_rfl) ?_
      refine RW.guardYes rfl rfl ?_
      (refine RW.call T hs rfl rfl rfl (valueRank_con (R := ArrAt k) _ (arr (k + 1) p) _ _ ha') ?_; intro v h56 w56 hle56 hp56 hs)
      subst hp56
      have ha' := ArrAt.mono (k + 1) _ _ _ _ hle56 ha'
      have hp' := PlainAt.mono (k + 1) _ _ _ _ hle56 hp'
      refine RW.nil ?_
      refine heldQ_normal ⟨_, hs⟩ ?_
      refine HW.takeSY (fuel := 14) 22 rfl rfl rfl (fun _ _ hs => Y.eqT rfl rfl rfl) hs rfl (by kernel_rfl) (by kernel_rfl) (by kernel_rfl) ?_
      refine HW.takeS (fuel := 13) 23 rfl (fun _ _ hs => Y.pickT rfl rfl) hs rfl (by kernel_rfl) (by kernel_rfl) (by kernel_rfl) ?_
      refine HW.takeS (fuel := 12) 24 rfl (fun _ _ hs => Y.move rfl) hs rfl (by kernel_rfl) (by kernel_rfl) (by kernel_rfl) ?_
      refine HW.takeSY (fuel := 11) 25 rfl rfl rfl (fun _ _ hs => Y.loadRowN T hs 0 rfl rfl rfl rfl rfl rfl rfl) hs rfl (by kernel_rfl) (by kernel_rfl) (by kernel_rfl) ?_
      refine HW.takeSY (fuel := 10) 27 rfl rfl rfl (fun _ _ hs => Y.fieldAddr T rfl rfl rfl rfl rfl) hs rfl (by kernel_rfl) (by kernel_rfl) (by kernel_rfl) ?_
      refine HW.takeSY (fuel := 9) 28 rfl rfl rfl (fun _ _ hs => Y.loadRow1 T hs 1 rfl rfl rfl rfl rfl) hs rfl (by kernel_rfl) (by kernel_rfl) (by kernel_rfl) ?_
      refine HW.takeSY (fuel := 8) 29 rfl rfl rfl (fun _ _ hs => Y.len T rfl rfl) hs rfl (by kernel_rfl) (by kernel_rfl) (by kernel_rfl) ?_
      refine HW.takeSY (fuel := 7) 30 rfl rfl rfl (fun _ _ hs => Y.eql rfl rfl) hs rfl (by kernel_rfl) (by kernel_rfl) (by kernel_rfl) ?_
      refine HW.one (fuel := 6) 26 rfl (by kernel_rfl) ?_
      refine RW.guardYes rfl rfl ?_
      (refine RW.call T hs rfl rfl rfl (valueSingle_con (R := ArrAt k) _ (arr (k + 1) p) _ _ ha') ?_; intro v h64 w64 hle64 hp64 hs)
      subst hp64
      have ha' := ArrAt.mono (k + 1) _ _ _ _ hle64 ha'
      have hp' := PlainAt.mono (k + 1) _ _ _ _ hle64 hp'
      refine RW.nil ?_
      refine heldQ_normal ⟨_, hs⟩ ?_
      refine HW.takeSY (fuel := 5) 31 rfl rfl rfl (fun _ _ hs => Y.eqlBT T rfl rfl rfl hsing) hs rfl (by kernel_rfl) (by kernel_rfl) (by kernel_rfl) ?_
      refine HW.takeS (fuel := 4) 32 rfl (fun _ _ hs => Y.pickT rfl rfl) hs rfl (by kernel_rfl) (by kernel_rfl) (by kernel_rfl) ?_
      refine HW.takeS (fuel := 3) 33 rfl (fun _ _ hs => Y.move rfl) hs rfl (by kernel_rfl) (by kernel_rfl) (by kernel_rfl) ?_
      refine HW.one (fuel := 2) 34 rfl (by kernel_rfl) ?_
      refine RW.guardYes rfl rfl ?_
      (refine RW.call T hs rfl rfl rfl (awake07_con _ _) ?_; intro v h72 w72 hle72 hp72 hs)
      subst hp72
      refine RW.nil ?_
      refine heldQ_normal ⟨_, hs⟩ ?_
      refine HW.takeS (fuel := 1) 35 rfl (fun _ _ hs => Y.pickT rfl rfl) hs rfl (by kernel_rfl) (by kernel_rfl) (by kernel_rfl) ?_
      refine HW.takeS (fuel := 0) 36 rfl (fun _ _ hs => Y.assign rfl) hs rfl (by kernel_rfl) (by kernel_rfl) (by kernel_rfl) ?_
      refine HW.done (by kernel_rfl) ?_
      refine calmQ_normal ?_
      refine Zerun ?_
      exact retQ_ret [_] h72 ⟨rfl, trivial⟩ hs.dropAll rfl
  · obtain rfl := hn3 hc
    refine Zerun ?_
    (refine RW.call T hs rfl rfl rfl (vecKind_con (R := ArrAt k) _ VecD.none _ _ (vecNone _)) ?_; intro v h7 w7 hle7 hp7 hs)
    subst hp7
    refine Zerun ?_
    (refine RW.call T hs rfl rfl rfl (valueGood_con (k + 1) _ _ _ _ (zeroArr_at k _)) ?_; intro v h8 w8 hle8 hp8 hs)
    subst hp8
    rw [decB_not (zeroArr_bad k 40)]
    refine Zerun ?_
    (refine RW.call T hs rfl rfl rfl (awake07_con _ _) ?_; intro v h9 w9 hle9 hp9 hs)
    subst hp9
    refine Zerun ?_
    exact retQ_ret [_] h9 ⟨rfl, trivial⟩ hs.dropAll rfl
end Go.Proofs.Ythbfkhklihejiaa

/-
  Contracts of functions of packages vec and flat: no elements, what stands for none, elements of a list at some places. No statement is proved here.
-/
namespace Go.Proofs.Ythbfkhklihejiaa
open Go Go.RowKit
set_option linter.unusedVariables false
set_option linter.unusedSimpArgs false
set_option maxHeartbeats 4000000
attribute [local irreducible] CW RW QW SW HW ConM retM heldQ calmQ elemP thenQ blockQ loopQ joinQ retQ Yields Con Sl zF magR unitF truncF fwF wholeF tidySpec elemQ rankF leastN tidyW

theorem bits_none (h : GHeap) : BitsAt h (.slice none 0 0) [] := ⟨Nat.zero_le _, [], RowAt.nil h, ⟨rfl, ⟨fun u hu => (by cases hu), fun i => (by simp)⟩⟩⟩
theorem putCells_mid : ∀ (cs pre mid suf : List Value), mid.length = cs.length → putCells (pre ++ (mid ++ suf)) pre.length cs = pre ++ (cs ++ suf)
  | [], pre, mid, suf, h => by
    have : mid = [] := List.eq_nil_of_length_eq_zero h
    subst this; rfl
  | c :: r, pre, [], suf, h => by simp at h
  | c :: r, pre, m :: mid, suf, h => by
    simp only [putCells]
    have e : (pre ++ (m :: mid ++ suf)).set pre.length c = (pre ++ [c]) ++ (mid ++ suf) := by simp
    rw [e]
    have := putCells_mid r (pre ++ [c]) mid suf (by simpa using h)
    simp only [List.length_append, List.length_singleton] at this
    rw [this]
    simp
section
variable {α : Type} {R : GHeap → List Value → α → Prop}
/-- no elements of a class -/
def noneV (c : Int) : VecD α := if c = 1 then ⟨5, [], [], []⟩ else if c = 2 then ⟨6, [], [], []⟩ else ⟨1, [], [], []⟩
theorem vecNone_con (hR : Mono R) (h1 : One R) (c : Int) (w : World) (h : GHeap) : Con Try.prog 144 [.int .i64 c] w h (fun h' u => ∃ cs', u = .agg cs'.toArray ∧ VecAt R h' cs' (noneV c)) := by
  refine Con.of_body Try.func144 rfl Try.ntmps144 rfl rfl ?_
  intro hs
  refine Zrun ?_
  (refine RW.allocN T hs rfl rfl rfl rfl ?_; intro b1 w1 hs)
  refine Zerun ?_
  unfold noneV
  by_cases c1 : c = 1
  · rw [if_pos c1]
    refine Zerun ?_
    (refine RW.call T hs rfl rfl rfl (vecChars_con (R := R) _ [] _ _ (RowAt.nil _) (by simp)) ?_; intro v h2 w2 hle2 hp2 hs)
    obtain ⟨cs2, rfl, hv2⟩ := hp2
    have hv2' := hv2
    obtain ⟨wv, nv, sm, il, fl, ch, bx, ⟨rfl, hoc⟩, _⟩ := hv2
    (refine RW.storeAll T hs 0 rfl rfl rfl rfl rfl rfl hoc rfl ?_; intro w3 hs)
    refine Zerun ?_
    exact retQ_ret [_] h2 ⟨resN T hs 0 rfl rfl rfl rfl rfl rfl, trivial⟩ hs.dropAll ⟨_, rfl, hv2'⟩
  rw [if_neg c1]
  by_cases c2 : c = 2
  · rw [if_pos c2]
    refine Zerun ?_
    (refine RW.call T hs rfl rfl rfl (vecBoxes_con (R := R) hR h1 _ [] _ _ (RowsAt.nil _) (by simp)) ?_; intro v h2 w2 hle2 hp2 hs)
    obtain ⟨cs2, rfl, hv2⟩ := hp2
    have hv2' := hv2
    obtain ⟨wv, nv, sm, il, fl, ch, bx, ⟨rfl, hoc⟩, _⟩ := hv2
    (refine RW.storeAll T hs 0 rfl rfl rfl rfl rfl rfl hoc rfl ?_; intro w3 hs)
    refine Zerun ?_
    exact retQ_ret [_] h2 ⟨resN T hs 0 rfl rfl rfl rfl rfl rfl, trivial⟩ hs.dropAll ⟨_, rfl, hv2'⟩
  rw [if_neg c2]
  refine Zerun ?_
  refine RW.val (Y.build T rfl rfl rfl rfl rfl rfl rfl) rfl ?_
  (refine RW.call T hs rfl rfl rfl (vecBits_con (R := R) _ [] _ _ (bits_none _)) ?_; intro v h2 w2 hle2 hp2 hs)
  obtain ⟨cs2, rfl, hv2⟩ := hp2
  have hv2' := hv2
  obtain ⟨wv, nv, sm, il, fl, ch, bx, ⟨rfl, hoc⟩, _⟩ := hv2
  (refine RW.storeAll T hs 0 rfl rfl rfl rfl rfl rfl hoc rfl ?_; intro w3 hs)
  refine Zerun ?_
  exact retQ_ret [_] h2 ⟨resN T hs 0 rfl rfl rfl rfl rfl rfl, trivial⟩ hs.dropAll ⟨_, rfl, hv2'⟩
theorem flatBlank_con (hR : Mono R) (h1 : One R) (w : World) (h : GHeap) : Con Try.prog 68 [] w h (fun h' u => ∃ cs', u = .agg cs'.toArray ∧ ArrR R h' cs' ⟨[0], ⟨1, [], [], []⟩⟩) := by
  refine Con.of_body Try.func68 rfl Try.ntmps68 rfl rfl ?_
  intro hs
  refine Zrun ?_
  (refine RW.allocN T hs rfl rfl rfl rfl ?_; intro b1 w1 hs)
  refine Zerun ?_
  (refine RW.lit T hs (vs := [.int .i64 0]) (cs := [.int .i64 0]) rfl rfl rfl rfl (by simp [Value.cells]) rfl rfl rfl rfl rfl ?_; intro b2 w2 hs)
  obtain ⟨h3, hle3, hs, hS3⟩ := hs.freeze
  have hI3 : IntsAt h3 (.slice (some ⟨b2, 0, none⟩) 1 1) [0] := IntsAt.of_sl hS3
  (refine RW.call T hs rfl rfl rfl (vecNone_con (R := R) hR h1 0 _ _) ?_; intro v h4 w4 hle4 hp4 hs)
  obtain ⟨cs4, rfl, hv4⟩ := hp4
  have hv4' : VecAt R h4 cs4 ⟨1, [], [], []⟩ := hv4
  have hv5 := hv4'
  obtain ⟨wv, nv, sm, il, fl, ch, bx, ⟨rfl, hoc⟩, _⟩ := hv5
  refine RW.val (Y.build T rfl rfl rfl rfl rfl rfl rfl) rfl ?_
  (refine RW.storeAll T hs 0 rfl rfl rfl rfl rfl rfl hoc rfl ?_; intro w5 hs)
  refine Zerun ?_
  exact retQ_ret [_] h4 ⟨resN T hs 0 rfl rfl rfl rfl rfl rfl, trivial⟩ hs.dropAll ⟨_, rfl, _, _, rfl, hI3.mono hle4, hv4'⟩
theorem flatFrom_con (cs : List Value) (v : VecD α) (i : Int) (w : World) (h : GHeap) (hv : VecAt R h cs v) : Con Try.prog 139 [.agg cs.toArray, .int .i64 i] w h (fun _ u => u = .float .f64 (v.num i)) := by
  have hv' := hv
  obtain ⟨wv, nv, sm, il, fl, ch, bx, ⟨rfl, hoc⟩, _⟩ := hv
  refine Con.of_body Try.func139 rfl Try.ntmps139 rfl rfl ?_
  intro hs
  refine Zrun ?_
  (refine RW.boxN hs rfl rfl ?_; intro b1 w1 hs)
  refine Zerun ?_
  (refine RW.call T hs rfl rfl rfl (vecNum_con _ v i _ _ hv') ?_; intro v h2 w2 hle2 hp2 hs)
  subst hp2
  refine Zerun ?_
  exact retQ_ret [_] h2 ⟨rfl, trivial⟩ hs.dropAll rfl
end
/-- the elements of a list at a place; another one, where there is no such place -/
def atD {γ : Type} (l : List γ) (i : Int) (d : γ) : γ := if 0 ≤ i then l.getD i.toNat d else d
theorem atD_in {γ : Type} {l : List γ} {i : Int} {d : γ} (h : 0 ≤ i ∧ i < l.length) : atD l i d = l.getD i.toNat d := by unfold atD; rw [if_pos h.1]
theorem atD_out {γ : Type} {l : List γ} {i : Int} {d : γ} (h : ¬ (0 ≤ i ∧ i < l.length)) : atD l i d = d := by
  unfold atD
  by_cases c : 0 ≤ i
  · rw [if_pos c, List.getD_eq_getElem?_getD, List.getElem?_eq_none (by omega)]; rfl
  · rw [if_neg c]
theorem getD_any {γ : Type} (l : List γ) (k : Nat) (a b : γ) (h : k < l.length) : l.getD k a = l.getD k b := by simp [List.getD_eq_getElem?_getD, h]
theorem getElem_getD {γ : Type} (l : List γ) (k : Nat) (d : γ) (h : k < l.length) : l[k] = l.getD k d := by simp [List.getD_eq_getElem?_getD, h]
theorem set_again {β : Type} (a r : List β) (z v : β) : ((a ++ [z]) ++ r).set a.length v = (a ++ [v]) ++ r := by simp
theorem thoseRune_con (v v1 : Value) (l at_ : List Int) (d : Int) (w : World) (h : GHeap) (hl : KAt .i32 h v l) (ha : IntsAt h v1 at_) (hm : at_.length ≤ 1048576) : Con Try.prog 140 [v, v1, .int .i32 d] w h (fun h' u => KAt .i32 h' u (at_.map fun i => atD l i d)) := by
  obtain ⟨ad, cp, rfl, hS⟩ := hl
  obtain ⟨ad1, cp1, rfl, hS1⟩ := ha
  have hlen : l.length ≤ 9223372036854775807 := by have := hS.caps; omega
  refine Con.of_body Try.func140 rfl Try.ntmps140 rfl rfl ?_
  intro hs
  refine Zerun ?_
  (refine RW.make1 T hs rfl rfl rfl rfl rfl rfl rfl (by dsimp only; omega) (by omega) ?_; intro b3 w3 hs)
  refine Zerun ?_
  refine CW.loop (fun i : Nat => [(0, .slice ad l.length cp), (1, .slice ad1 at_.length cp1), (2, .int .i32 d), (7, .slice (some ⟨b3, 0, none⟩) at_.length at_.length), (13, .slice ad1 at_.length cp1), (14, .int .i64 at_.length), (15, .int .i64 i)]) (fun i w' => i ≤ at_.length ∧ Sees w h h [⟨some ⟨b3, 0, none⟩, at_.length, at_.length, 21, 1, ((at_.take i).map fun i => atD l i d).map (Value.int .i32) ++ List.replicate (at_.length - i) (.int .i32 0)⟩] w') (fun i => at_.length - i) 0 ⟨rfl, rfl, rfl, rfl, rfl, rfl, rfl, trivial⟩ ⟨by omega, by simpa using hs⟩ ?_
  rintro i w5 ⟨hi, hs⟩
  by_cases hlt : i < at_.length
  · have htk := take_succ_getD at_ i 0 hlt
    have ga := map_get (Value.int .i64) at_ i 0 hlt
    have fin : ∀ x : Int, x = atD l (at_.getD i 0) d → ((at_.take i).map fun i => atD l i d).map (Value.int .i32) ++ [Value.int .i32 x] ++ List.replicate (at_.length - i - 1) (.int .i32 0) = ((at_.take (i + 1)).map fun i => atD l i d).map (Value.int .i32) ++ List.replicate (at_.length - (i + 1)) (.int .i32 0) := by
      intro x hx
      rw [htk, List.map_append, List.map_append, hx, show at_.length - (i + 1) = at_.length - i - 1 by omega]; rfl
    have e1 := set_snoc (((at_.take i).map fun i => atD l i d).map (Value.int .i32)) (at_.length - i) (Value.int .i32 0) (Value.int .i32 d) (by omega)
    simp only [List.length_map, List.length_take, Nat.min_eq_left hi] at e1
    refine Zerun ?_
    refine RW.val (Y.idxRN T hs 0 rfl rfl rfl rfl rfl rfl ?_) rfl ?_
    · omega
    refine RW.st1 T hs 0 rfl rfl rfl rfl rfl rfl rfl (by omega) ?_
    intro w6 hs
    replace hs := hs.re e1
    refine Zerun ?_
    have done : ∀ (x : Int) (w' : World), x = atD l (at_.getD i 0) d → Sees w h h [⟨some ⟨b3, 0, none⟩, at_.length, at_.length, 21, 1, ((at_.take i).map fun i => atD l i d).map (Value.int .i32) ++ [Value.int .i32 x] ++ List.replicate (at_.length - i - 1) (.int .i32 0)⟩] w' → Sees w h h [⟨some ⟨b3, 0, none⟩, at_.length, at_.length, 21, 1, ((at_.take (i + 1)).map fun i => atD l i d).map (Value.int .i32) ++ List.replicate (at_.length - (i + 1)) (.int .i32 0)⟩] w' := fun x w' hx hs => hs.re (fin x hx)
    by_cases c1 : at_.getD i 0 < 0
    · refine Zerun ?_
      exact loopQ_round (i + 1) ⟨rfl, rfl, rfl, rfl, rfl, rfl, rfl, trivial⟩ ⟨by omega, done d _ (atD_out (by omega)).symm hs⟩ (by omega)
    by_cases c2 : ¬ at_.getD i 0 < l.length
    · refine Zerun ?_
      exact loopQ_round (i + 1) ⟨rfl, rfl, rfl, rfl, rfl, rfl, rfl, trivial⟩ ⟨by omega, done d _ (atD_out (by omega)).symm hs⟩ (by omega)
    have hlk : (at_.getD i 0).toNat < l.length := by omega
    refine Zerun ?_
    refine RW.val (Y.idxRN T hs 0 rfl rfl rfl rfl rfl rfl ?_) rfl ?_
    · omega
    refine RW.st1 T hs 0 rfl rfl rfl rfl rfl rfl rfl (by omega) ?_
    intro w7 hs
    have e2 := set_again (((at_.take i).map fun i => atD l i d).map (Value.int .i32)) (List.replicate (at_.length - i - 1) (.int .i32 0)) (Value.int .i32 d) (Value.int .i32 (l.getD (at_.getD i 0).toNat 0))
    simp only [List.length_map, List.length_take, Nat.min_eq_left hi] at e2
    replace hs := hs.re e2
    refine Zerun ?_
    refine loopQ_round (i + 1) ⟨rfl, rfl, rfl, rfl, rfl, rfl, rfl, trivial⟩ ⟨by omega, done _ _ ?_ hs⟩ (by omega)
    rw [atD_in (by omega)]
    exact getD_any l _ 0 d hlk
  · obtain rfl : i = at_.length := by omega
    rw [List.take_length, Nat.sub_self, List.replicate_zero, List.append_nil] at hs
    obtain ⟨h6, hle6, hs, hS6⟩ := hs.freeze
    refine Zerun ?_
    refine retQ_ret [_] h6 ⟨rfl, trivial⟩ hs.dropAll ?_
    have := RowAt.of_sl (mk := Value.int .i32) hS6
    exact this
theorem length_zeros (n : Nat) : (madeCells (#[.slice none 0 0, .int .i64 0, .slice none 0 0, .int .i64 0, .slice none 0 0, .slice none 0 0, .slice none 0 0, .slice none 0 0, .slice none 0 0] : Array Value) (n * 9)).toList.length = n * 9 := by
  simp [madeCells]
section
variable {α : Type} {R : GHeap → List Value → α → Prop}
theorem thoseArr_con (hR : Mono R) (h1 : One R) (h9 : Siz 9 R) (v v1 : Value) (l : List α) (at_ : List Int) (cs : List Value) (d : α) (w : World) (h : GHeap) (hl : RowsAt 9 (R h) h v l) (ha : IntsAt h v1 at_) (hd : R h cs d) (hm : at_.length ≤ 1048576) : Con Try.prog 142 [v, v1, .agg cs.toArray] w h (fun h' u => RowsAt 9 (R h') h' u (at_.map fun i => atD l i d)) := by
  obtain ⟨ad, cp, xs, rfl, hS, hA⟩ := hl
  obtain ⟨ad1, cp1, rfl, hS1⟩ := ha
  have hlen : l.length ≤ 9223372036854775807 := by have := hS.caps; omega
  have hl9 := h9 _ _ _ hd
  have ho9 := h1 _ _ _ hd
  refine Con.of_body Try.func142 rfl Try.ntmps142 rfl rfl ?_
  intro hs
  refine Zrun ?_
  (refine RW.boxN hs rfl rfl ?_; intro b1 w1 hs)
  refine Zerun ?_
  (refine RW.make T hs rfl rfl rfl rfl rfl ?_ ?_ ?_ ?_ ?_; omega; omega; (dsimp only; omega); omega; intro b3 w3 hs)
  rw [Int.toNat_natCast] at hs ⊢
  have hzl := length_zeros at_.length
  generalize hz : (madeCells (#[.slice none 0 0, .int .i64 0, .slice none 0 0, .int .i64 0, .slice none 0 0, .slice none 0 0, .slice none 0 0, .slice none 0 0, .slice none 0 0] : Array Value) (at_.length * 9)).toList = zs at hzl
  have hs : Sees w h h [⟨some ⟨b3, 0, none⟩, at_.length, at_.length, 63, 9, [] ++ zs⟩, ⟨some ⟨b1, 0, none⟩, 1, 1, 63, cs.length, cs⟩] w3 := by rw [← hz]; exact hs
  refine Zerun ?_
  refine CW.loop (fun u : Nat × List Value × List Value => [(0, .slice ad l.length cp), (1, .slice ad1 at_.length cp1), (5, .pointer (some ⟨b1, 0, none⟩)), (7, .slice (some ⟨b3, 0, none⟩) at_.length at_.length), (13, .slice ad1 at_.length cp1), (14, .int .i64 at_.length), (15, .int .i64 u.1)]) (fun u w' => u.1 ≤ at_.length ∧ u.2.2.length = (at_.length - u.1) * 9 ∧ AllN 9 (R h) u.2.1 ((at_.take u.1).map fun i => atD l i d) ∧ Sees w h h [⟨some ⟨b3, 0, none⟩, at_.length, at_.length, 63, 9, u.2.1 ++ u.2.2⟩, ⟨some ⟨b1, 0, none⟩, 1, 1, 63, cs.length, cs⟩] w') (fun u => at_.length - u.1) (0, [], zs) ⟨rfl, rfl, rfl, rfl, rfl, rfl, rfl, trivial⟩ ⟨by omega, by simpa using hzl, rfl, hs⟩ ?_
  rintro ⟨i, vs, zs⟩ w5 ⟨hi, hzl, hAv, hs⟩
  dsimp only at hi hzl hAv hs ⊢
  by_cases hlt : i < at_.length
  · have htk := take_succ_getD at_ i 0 hlt
    have ga := map_get (Value.int .i64) at_ i 0 hlt
    have hvl : vs.length = i * 9 := by rw [hAv.length]; simp [Nat.min_eq_left hi]
    have hz9 : (zs.take 9).length = 9 := by rw [List.length_take]; have : 9 ≤ zs.length := by rw [hzl]; omega
                                            omega
    have hput := putCells_mid cs vs (zs.take 9) (zs.drop 9) (by rw [hz9, hl9])
    rw [List.take_append_drop, hvl] at hput
    have hzd : (zs.drop 9).length = (at_.length - (i + 1)) * 9 := by rw [List.length_drop, hzl]; omega
    refine Zerun ?_
    refine RW.val (Y.loadRowN (cs := cs) T hs 1 rfl rfl rfl rfl rfl (List.take_of_length_le (by rw [List.drop_zero]; exact Nat.le_of_eq hl9)) hl9) rfl ?_
    refine RW.val (Y.idxRN T hs 0 rfl rfl rfl rfl rfl rfl ?_) rfl ?_
    · omega
    refine RW.stN T hs 0 rfl rfl rfl rfl rfl (by simpa using hl9) (by simpa using ho9) rfl (by omega) ?_
    intro w6 hs
    have hs : Sees w h h [⟨some ⟨b3, 0, none⟩, at_.length, at_.length, 63, 9, vs ++ (cs ++ zs.drop 9)⟩, ⟨some ⟨b1, 0, none⟩, 1, 1, 63, cs.length, cs⟩] w6 := by rw [← hput]; exact hs
    have hlen2 : ∀ ys : List Value, ys.length = 9 → (vs ++ (ys ++ zs.drop 9)) = (vs ++ ys) ++ zs.drop 9 := fun ys _ => by simp
    have done : ∀ (ys : List Value) (x : α), R h ys x → x = atD l (at_.getD i 0) d → AllN 9 (R h) (vs ++ ys) ((at_.take (i + 1)).map fun i => atD l i d) := by
      intro ys x hy hx
      rw [htk, List.map_append]
      show AllN 9 (R h) (vs ++ ys) (_ ++ [atD l (at_.getD i 0) d])
      rw [← hx]
      exact hAv.append (AllN.one (h9 _ _ _ hy) hy)
    refine Zerun ?_
    by_cases c1 : at_.getD i 0 < 0
    · refine Zerun ?_
      exact loopQ_round (i + 1, vs ++ cs, zs.drop 9) ⟨rfl, rfl, rfl, rfl, rfl, rfl, rfl, trivial⟩ ⟨by dsimp only; omega, hzd, done cs d hd (atD_out (by omega)).symm, by dsimp only; rw [← hlen2 cs hl9]; exact hs⟩ (by dsimp only; omega)
    by_cases c2 : ¬ at_.getD i 0 < l.length
    · refine Zerun ?_
      exact loopQ_round (i + 1, vs ++ cs, zs.drop 9) ⟨rfl, rfl, rfl, rfl, rfl, rfl, rfl, trivial⟩ ⟨by dsimp only; omega, hzd, done cs d hd (atD_out (by omega)).symm, by dsimp only; rw [← hlen2 cs hl9]; exact hs⟩ (by dsimp only; omega)
    have hlk : (at_.getD i 0).toNat < l.length := by omega
    obtain ⟨y, hy, hyl, hRy⟩ := hA.elem _ hlk
    have hoy := h1 _ _ _ hRy
    refine Zerun ?_
    refine RW.val (Y.idxRN T hs 0 rfl rfl rfl rfl rfl rfl ?_) rfl ?_
    · omega
    refine RW.stN T hs 0 rfl rfl rfl rfl rfl (by simpa using hyl) (by simpa using hoy) rfl (by omega) ?_
    intro w7 hs
    have hput2 := putCells_mid y vs cs (zs.drop 9) (by rw [hl9, hyl])
    rw [hvl] at hput2
    have hs : Sees w h h [⟨some ⟨b3, 0, none⟩, at_.length, at_.length, 63, 9, vs ++ (y ++ zs.drop 9)⟩, ⟨some ⟨b1, 0, none⟩, 1, 1, 63, cs.length, cs⟩] w7 := by rw [← hput2]; exact hs
    refine Zerun ?_
    refine loopQ_round (i + 1, vs ++ y, zs.drop 9) ⟨rfl, rfl, rfl, rfl, rfl, rfl, rfl, trivial⟩ ⟨by dsimp only; omega, hzd, done y _ hRy ?_, by dsimp only; rw [← hlen2 y hyl]; exact hs⟩ (by dsimp only; omega)
    exact (getElem_getD l _ d hlk).trans (atD_in (by omega)).symm
  · obtain rfl : i = at_.length := by omega
    rw [List.take_length] at hAv
    have hz0 : zs = [] := List.eq_nil_of_length_eq_zero (by rw [hzl]; omega)
    subst hz0
    obtain ⟨h6, hle6, hs, hS6⟩ := hs.freeze
    refine Zerun ?_
    refine retQ_ret [_] h6 ⟨rfl, trivial⟩ hs.dropAll ⟨some ⟨b3, 0, none⟩, at_.length, vs, by simp [packv], ?_, hAv.mono (fun u a => hR _ _ u a hle6)⟩
    simpa using hS6
end
end Go.Proofs.Ythbfkhklihejiaa

/-
  Contracts of functions of package flat: elements picked. No statement is proved here.
-/
namespace Go.Proofs.Ythbfkhklihejiaa
open Go Go.RowKit
set_option linter.unusedVariables false
set_option linter.unusedSimpArgs false
set_option maxHeartbeats 4000000
attribute [local irreducible] CW RW QW SW HW ConM retM heldQ calmQ elemP thenQ blockQ loopQ joinQ retQ Yields Con Sl zF magR unitF truncF fwF wholeF tidySpec elemQ rankF leastN tidyW
set_option maxHeartbeats 4000000

theorem wholeF_bounds (x : Nat) : -9007199254740992 ≤ (wholeF x).1 ∧ (wholeF x).1 ≤ 9007199254740992 := by
  unfold wholeF
  split
  · rename_i h; exact trunc_bounds x h
  · constructor <;> decide
section
variable {α : Type} {R : GHeap → List Value → α → Prop}
theorem flatPickBits_con (hR : Mono R) (cs : List Value) (v : VecD α) (v1 : Value) (at_ : List Int) (bs : List Bool) (w : World) (h : GHeap) (hv : VecAt R h cs v) (hbs : v = ⟨1, bs.map bitF, [], []⟩) (ha : IntsAt h v1 at_) (hm : at_.length ≤ 1048576) : Con Try.prog 137 [.agg cs.toArray, v1] w h (fun h' u => ∃ cs', u = .agg cs'.toArray ∧ VecAt R h' cs' ⟨1, (at_.map fun i => bitAt bs i).map bitF, [], []⟩) := by
  obtain ⟨ad1, cp1, rfl, hS1⟩ := ha
  have hv' := hv
  obtain ⟨wv, nv, sm, il, fl, ch, bx, ⟨rfl, hoc⟩, hk⟩ := hv
  clear hk
  refine Con.of_body Try.func137 rfl Try.ntmps137 rfl rfl ?_
  intro hs
  refine Zrun ?_
  (refine RW.boxN hs rfl rfl ?_; intro b1 w1 hs)
  (refine RW.allocN T hs rfl rfl rfl rfl ?_; intro b2 w2 hs)
  refine Zerun ?_
  (refine RW.call T hs rfl rfl rfl (vecPacked_con _ v _ _ hv') ?_; intro v h3 w3 hle3 hp3 hs)
  obtain ⟨wv3, bs3, rfl, hb3, hb3', _⟩ := hp3
  have hbb : bs3 = bs := by
    have e := hb3' (by rw [hbs])
    rw [hbs] at e
    have e2 : bs.map bitF = bs3.map bitF := by injection e
    have inj : ∀ a b : Bool, bitF a = bitF b → a = b := by decide
    have key : ∀ (a b : List Bool), a.map bitF = b.map bitF → a = b := by
      intro a
      induction a with
      | nil => intro b hb; cases b with
        | nil => rfl
        | cons => simp at hb
      | cons x a ih => intro b hb; cases b with
        | nil => simp at hb
        | cons y b =>
          simp only [List.map_cons, List.cons.injEq] at hb
          rw [inj x y hb.1, ih b hb.2]
    exact (key _ _ e2).symm
  subst hbb
  have hb3'' := hb3
  obtain ⟨_, ws3, ⟨ad3, cp3, rfl, _⟩, _⟩ := hb3
  have hS1 := hS1.mono hle3
  refine Zerun ?_
  (refine RW.allocN T hs rfl rfl rfl rfl ?_; intro b4 w4 hs)
  (refine RW.storeAll T hs 0 rfl rfl rfl rfl rfl rfl rfl rfl ?_; intro w5 hs)
  refine Zerun ?_
  (refine RW.make1 T hs rfl rfl rfl rfl rfl rfl rfl (by dsimp only; omega) (by omega) ?_; intro b6 w6 hs)
  refine Zerun ?_
  refine CW.loop (fun u : Nat × GHeap => [(1, .slice ad1 at_.length cp1), (2, .pointer (some ⟨b1, 0, none⟩)), (4, .pointer (some ⟨b2, 0, none⟩)), (5, .pointer (some ⟨b4, 0, none⟩)), (7, .slice (some ⟨b6, 0, none⟩) at_.length at_.length), (18, .slice ad1 at_.length cp1), (19, .int .i64 at_.length), (20, .int .i64 u.1)]) (fun u w' => u.1 ≤ at_.length ∧ GLe h3 u.2 ∧ Sees w h u.2 [⟨some ⟨b6, 0, none⟩, at_.length, at_.length, 4, 1, ((at_.take u.1).map fun i => bitAt bs3 i).map Value.bool ++ List.replicate (at_.length - u.1) (.bool false)⟩, ⟨some ⟨b4, 0, none⟩, 1, 1, 54, 2, [.slice ad3 ws3.length cp3, .int .i64 bs3.length]⟩, ⟨some ⟨b2, 0, none⟩, 1, 1, 61, 8, vecCells 0 (.slice none 0 0) 0 (.slice none 0 0) (.slice none 0 0) (.slice none 0 0) (.slice none 0 0) (.slice none 0 0)⟩, ⟨some ⟨b1, 0, none⟩, 1, 1, 61, 8, vecCells v.kind wv nv sm il fl ch bx⟩] w') (fun u => at_.length - u.1) (0, h3) ⟨rfl, rfl, rfl, rfl, rfl, rfl, rfl, rfl, trivial⟩ ⟨by omega, GLe.refl _, by simp only [List.take_zero, List.map_nil, List.nil_append, Nat.sub_zero]; exact hs⟩ ?_
  rintro ⟨i, hh⟩ w7 ⟨hi, hg, hs⟩
  dsimp only at hi hg hs ⊢
  have hS1 := hS1.mono hg
  have hb' := hb3''.mono hg
  by_cases hlt : i < at_.length
  · have htk := take_succ_getD at_ i 0 hlt
    refine Zerun ?_
    (refine RW.call T hs rfl rfl rfl (bitsAt_con _ bs3 (at_.getD i 0) _ _ hb') ?_; intro v h8 w8 hle8 hp8 hs)
    subst hp8
    refine RW.val (Y.idxRN T hs 0 rfl rfl rfl rfl rfl rfl ?_) rfl ?_
    · omega
    refine RW.st1 T hs 0 rfl rfl rfl rfl rfl rfl rfl (by omega) ?_
    intro w9 hs
    have e1 := set_snoc (((at_.take i).map fun i => bitAt bs3 i).map Value.bool) (at_.length - i) (Value.bool false) (Value.bool (bitAt bs3 (at_.getD i 0))) (by omega)
    simp only [List.length_map, List.length_take, Nat.min_eq_left hi] at e1
    have e2 : ((at_.take i).map fun i => bitAt bs3 i).map Value.bool ++ [Value.bool (bitAt bs3 (at_.getD i 0))] ++ List.replicate (at_.length - i - 1) (.bool false) = ((at_.take (i + 1)).map fun i => bitAt bs3 i).map Value.bool ++ List.replicate (at_.length - (i + 1)) (.bool false) := by
      rw [htk, List.map_append, List.map_append, show at_.length - (i + 1) = at_.length - i - 1 by omega]; rfl
    replace hs := hs.re (e1.trans e2)
    refine Zerun ?_
    exact loopQ_round (i + 1, h8) ⟨rfl, rfl, rfl, rfl, rfl, rfl, rfl, rfl, trivial⟩ ⟨by dsimp only; omega, hg.trans hle8, hs⟩ (by dsimp only; omega)
  · obtain rfl : i = at_.length := by omega
    rw [List.take_length, Nat.sub_self, List.replicate_zero, List.append_nil] at hs
    obtain ⟨h8, hle8, hs, hS8⟩ := hs.freeze
    have hT8 : TAt h8 (.slice (some ⟨b6, 0, none⟩) at_.length at_.length) (at_.map fun i => bitAt bs3 i) := RowAt.of_sl hS8
    refine Zerun ?_
    (refine RW.call T hs rfl rfl rfl (bitsPack_con _ _ _ _ hT8 (by simpa using hm)) ?_; intro v h9 w9 hle9 hp9 hs)
    obtain ⟨wv9, rfl, hb9⟩ := hp9
    (refine RW.call T hs rfl rfl rfl (vecBits_con (R := R) _ _ _ _ hb9) ?_; intro v h10 w10 hle10 hp10 hs)
    obtain ⟨cs10, rfl, hv10⟩ := hp10
    have hv10' := hv10
    obtain ⟨wv', nv', sm', il', fl', ch', bx', ⟨rfl, hoc'⟩, _⟩ := hv10
    (refine RW.storeAll T hs 1 rfl rfl rfl rfl rfl rfl hoc' rfl ?_; intro w11 hs)
    refine Zerun ?_
    exact retQ_ret [_] h10 ⟨resN T hs 1 rfl rfl rfl rfl rfl rfl, trivial⟩ hs.dropAll ⟨_, rfl, hv10'⟩
/-- the elements at some places -/
def VecD.pick (v : VecD α) (at_ : List Int) (nb : α) : VecD α :=
  if v.kind = 5 then ⟨5, [], at_.map (fun i => atD v.chars i 32), []⟩
  else if v.kind = 6 then ⟨6, [], [], at_.map (fun i => atD v.boxes i nb)⟩
  else ⟨leastN (at_.map v.num), at_.map v.num, [], []⟩
theorem num_tidy {h : GHeap} {cs : List Value} {v : VecD α} (hv : VecAt R h cs v) (i : Int) : tidyF (v.num i) := by
  unfold VecD.num
  split
  · by_cases c : i.toNat < v.nums.length
    · exact hv.tidy _ (mem_getD _ _ _ c)
    · rw [List.getD_eq_getElem?_getD, List.getElem?_eq_none (by omega)]; exact tidy0
  · exact tidy0
theorem whole_num {h : GHeap} {cs : List Value} {v : VecD α} (hv : VecAt R h cs v) (hk : v.kind = 1 ∨ v.kind = 2 ∨ v.kind = 3) (i : Int) : fwF (v.whole i).1 = v.num i := by
  have hw := hv.wholes hk
  have hn : v.nums.length = v.len := hv.nums_len (by unfold VecD.cls; rw [if_neg (by omega), if_neg (by omega)])
  unfold VecD.whole VecD.num
  by_cases c : 0 ≤ i ∧ i < v.len
  · rw [if_pos ⟨hk, c⟩, if_pos c.1]
    have hm := mem_getD v.nums i.toNat 0 (by omega)
    exact (fw_whole _ _ (hv.tidy _ hm) (by rw [← hw _ hm])).symm
  · rw [if_neg (fun e => c e.2)]
    show fwF 0 = _
    rw [fw0]
    split
    · rw [List.getD_eq_getElem?_getD, List.getElem?_eq_none (by omega)]; rfl
    · rfl
theorem pick_wholes {h : GHeap} {cs : List Value} {v : VecD α} (hv : VecAt R h cs v) (hk : v.kind = 1 ∨ v.kind = 2 ∨ v.kind = 3) (at_ : List Int) (nb : α) : (⟨leastN ((at_.map fun i => (v.whole i).1).map fwF), (at_.map fun i => (v.whole i).1).map fwF, [], []⟩ : VecD α) = v.pick at_ nb := by
  have e : (at_.map fun i => (v.whole i).1).map fwF = at_.map v.num := by
    rw [List.map_map]
    apply List.map_congr_left
    intro i _
    exact whole_num hv hk i
  rw [e]
  unfold VecD.pick
  rw [if_neg (by omega), if_neg (by omega)]
theorem sq_nums3 (N : List Nat) : (⟨3, N, [], []⟩ : VecD α).sq = ⟨leastN N, N, [], []⟩ := by
  unfold VecD.sq VecD.cls
  simp
theorem pick_bits (bs : List Bool) (at_ : List Int) (nb : α) : (⟨1, (at_.map fun i => bitAt bs i).map bitF, [], []⟩ : VecD α) = VecD.pick ⟨1, bs.map bitF, [], []⟩ at_ nb := by
  have e : (at_.map fun i => bitAt bs i).map bitF = at_.map (VecD.num (⟨1, bs.map bitF, [], []⟩ : VecD α)) := by
    rw [List.map_map]
    apply List.map_congr_left
    intro i _
    simp only [Function.comp, bitAt, VecD.num]
    split
    · by_cases c : i.toNat < bs.length
      · rw [getD_map bitF bs i.toNat false 0 c]
      · rw [List.getD_eq_getElem?_getD, List.getElem?_eq_none (by omega), List.getD_eq_getElem?_getD, List.getElem?_eq_none (by simp; omega)]; rfl
    · rfl
  have el : leastN ((at_.map fun i => bitAt bs i).map bitF) = 1 := by
    have h1 := (leastN_bounds ((at_.map fun i => bitAt bs i).map bitF)).1
    have h2 : leastN ((at_.map fun i => bitAt bs i).map bitF) ≤ 1 := by
      rw [leastN.eq_1]
      refine fold_le _ 1 1 (by omega) ?_
      intro x hx
      obtain ⟨b, _, rfl⟩ := List.mem_map.1 hx
      cases b
      · exact (rank_bit _ tidy0).2 (.inl fw0.symm)
      · exact (rank_bit _ tidy1).2 (.inr fw1.symm)
    omega
  unfold VecD.pick
  rw [if_neg (show ¬ (1 : Int) = 5 by decide), if_neg (show ¬ (1 : Int) = 6 by decide), ← e, el]
theorem flatPick_con (hR : Mono R) (h1 : One R) (h9 : Siz 9 R) (nb : α) (hbl : ∀ w h, Con Try.prog 68 [] w h (fun h' u => ∃ cs', u = .agg cs'.toArray ∧ R h' cs' nb))
    (cs : List Value) (v : VecD α) (v1 : Value) (at_ : List Int) (w : World) (h : GHeap) (hv : VecAt R h cs v) (ha : IntsAt h v1 at_) (hm : at_.length ≤ 1048576) (hvm : v.len ≤ 1048576) (hk0 : v.kind ≠ 0) : Con Try.prog 66 [.agg cs.toArray, v1] w h (fun h' u => ∃ cs', u = .agg cs'.toArray ∧ VecAt R h' cs' (v.pick at_ nb)) := by
  have ha' := ha
  obtain ⟨ad1, cp1, rfl, hS1⟩ := ha
  have hv' := hv
  have hv0 := hv
  obtain ⟨wv, nv, sm, il, fl, ch, bx, ⟨rfl, hoc⟩, hk⟩ := hv
  have hkk : (v.kind = 1 ∧ ∃ bs : List Bool, v = ⟨1, bs.map bitF, [], []⟩) ∨ (v.kind = 2 ∨ v.kind = 3) ∨ v.kind = 4 ∨ v.kind = 5 ∨ v.kind = 6 := by
    rcases hk with ⟨e, _⟩ | ⟨e, bs, _, _, e2⟩ | ⟨e, _⟩ | ⟨e, _⟩ | ⟨e, _⟩ | ⟨e, _⟩ | ⟨e, _⟩
    · exact absurd e hk0
    · exact .inl ⟨e, bs, e2⟩
    · exact .inr (.inl (.inl e))
    · exact .inr (.inl (.inr e))
    · exact .inr (.inr (.inl e))
    · exact .inr (.inr (.inr (.inl e)))
    · exact .inr (.inr (.inr (.inr e)))
  clear hk
  refine Con.of_body Try.func66 rfl Try.ntmps66 rfl rfl ?_
  intro hs
  refine Zrun ?_
  (refine RW.boxN hs rfl rfl ?_; intro b1 w1 hs)
  (refine RW.allocN T hs rfl rfl rfl rfl ?_; intro b2 w2 hs)
  refine Zerun ?_
  (refine RW.call T hs rfl rfl rfl (vecKind_con _ v _ _ hv') ?_; intro v h3 w3 hle3 hp3 hs)
  subst hp3
  have hv' := hv'.mono hR hle3
  have ha' := ha'.mono hle3
  have hS1 := hS1.mono hle3
  rcases hkk with ⟨k1, bs, hbs⟩ | k23 | k4 | k5 | k6
  · have hsp := pick_bits bs at_ nb
    rw [← hbs] at hsp
    refine Zerun ?_
    (refine RW.call T hs rfl rfl rfl (flatPickBits_con hR _ v _ at_ bs _ _ hv' hbs ha' hm) ?_; intro v h4 w4 hle4 hp4 hs)
    obtain ⟨cs4, rfl, hv4⟩ := hp4
    rw [hsp] at hv4
    have hv4' := hv4
    obtain ⟨wv', nv', sm', il', fl', ch', bx', ⟨rfl, hoc'⟩, _⟩ := hv4
    (refine RW.storeAll T hs 0 rfl rfl rfl rfl rfl rfl hoc' rfl ?_; intro w5 hs)
    refine Zerun ?_
    exact retQ_ret [_] h4 ⟨resN T hs 0 rfl rfl rfl rfl rfl rfl, trivial⟩ hs.dropAll ⟨_, rfl, hv4'⟩
  · rcases k23 with k2 | k3
    ·
      have hsp := pick_wholes hv0 (by omega) at_ nb
      refine Zerun ?_
      (refine RW.make1 T hs rfl rfl rfl rfl rfl rfl rfl (by dsimp only; omega) (by omega) ?_; intro b6 w6 hs)
      refine Zerun ?_
      refine CW.loop (fun u : Nat × GHeap => [(2, .pointer (some ⟨b1, 0, none⟩)), (4, .pointer (some ⟨b2, 0, none⟩)), (5, .slice (some ⟨b6, 0, none⟩) at_.length at_.length), (28, .slice ad1 at_.length cp1), (29, .int .i64 at_.length), (30, .int .i64 u.1)]) (fun u w' => u.1 ≤ at_.length ∧ GLe h3 u.2 ∧ Sees w h u.2 [⟨some ⟨b6, 0, none⟩, at_.length, at_.length, 2, 1, ((at_.take u.1).map fun i => (v.whole i).1).map (Value.int .i64) ++ List.replicate (at_.length - u.1) (.int .i64 0)⟩, ⟨some ⟨b2, 0, none⟩, 1, 1, 61, 8, vecCells 0 (.slice none 0 0) 0 (.slice none 0 0) (.slice none 0 0) (.slice none 0 0) (.slice none 0 0) (.slice none 0 0)⟩, ⟨some ⟨b1, 0, none⟩, 1, 1, 61, 8, vecCells v.kind wv nv sm il fl ch bx⟩] w') (fun u => at_.length - u.1) (0, h3) ⟨rfl, rfl, rfl, rfl, rfl, rfl, trivial⟩ ⟨by omega, GLe.refl _, by simp only [List.take_zero, List.map_nil, List.nil_append, Nat.sub_zero]; exact hs⟩ ?_
      rintro ⟨i, hh⟩ w7 ⟨hi, hg, hs⟩
      dsimp only at hi hg hs ⊢
      have hS1 := hS1.mono hg
      have hv' := hv'.mono hR hg
      by_cases hlt : i < at_.length
      · have htk := take_succ_getD at_ i 0 hlt
        refine Zerun ?_
        (refine RW.call T hs rfl rfl rfl (vecWhole_con _ v (at_.getD i 0) _ _ hv') ?_; intro v h8 w8 hle8 hp8 hs)
        subst hp8
        refine Zerun ?_
        refine RW.val (Y.idxRN T hs 0 rfl rfl rfl rfl rfl rfl ?_) rfl ?_
        · omega
        refine RW.st1 T hs 0 rfl rfl rfl rfl rfl rfl rfl (by omega) ?_
        intro w9 hs
        have e1 := set_snoc (((at_.take i).map fun i => (v.whole i).1).map (Value.int .i64)) (at_.length - i) (.int .i64 0) (Value.int .i64 ((v.whole (at_.getD i 0)).1)) (by omega)
        simp only [List.length_map, List.length_take, Nat.min_eq_left hi] at e1
        have e2 : ((at_.take i).map fun i => (v.whole i).1).map (Value.int .i64) ++ [Value.int .i64 ((v.whole (at_.getD i 0)).1)] ++ List.replicate (at_.length - i - 1) (.int .i64 0) = ((at_.take (i + 1)).map fun i => (v.whole i).1).map (Value.int .i64) ++ List.replicate (at_.length - (i + 1)) (.int .i64 0) := by
          rw [htk, List.map_append, List.map_append, show at_.length - (i + 1) = at_.length - i - 1 by omega]; rfl
        replace hs := hs.re (e1.trans e2)
        refine Zerun ?_
        exact loopQ_round (i + 1, h8) ⟨rfl, rfl, rfl, rfl, rfl, rfl, trivial⟩ ⟨by dsimp only; omega, hg.trans hle8, hs⟩ (by dsimp only; omega)
      obtain rfl : i = at_.length := by omega
      rw [List.take_length, Nat.sub_self, List.replicate_zero, List.append_nil] at hs
      obtain ⟨h8, hle8, hs, hS8⟩ := hs.freeze
      have hT8 : KAt .i64 h8 (.slice (some ⟨b6, 0, none⟩) at_.length at_.length) (at_.map fun i => (v.whole i).1) := RowAt.of_sl hS8
      refine Zerun ?_
      (refine RW.call T hs rfl rfl rfl (vecInts_con (R := R) _ _ _ _ hT8 (by simp; omega)) ?_; intro v h9 w9 hle9 hp9 hs)
      obtain ⟨cs9, ok, rfl, hok, hv9⟩ := hp9
      obtain rfl : ok = true := by
        rw [hok]
        refine decide_eq_true ?_
        intro u hu
        obtain ⟨i, _, rfl⟩ := List.mem_map.1 hu
        unfold VecD.whole
        split
        · exact wholeF_bounds _
        · constructor <;> decide
      rw [if_pos rfl] at hv9
      have hv9' := hv9
      obtain ⟨wv', nv', sm', il', fl', ch', bx', ⟨rfl, hoc'⟩, _⟩ := hv9
      refine Zerun ?_
      (refine RW.allocN T hs rfl rfl rfl rfl ?_; intro b10 w10 hs)
      (refine RW.storeAll T hs 0 rfl rfl rfl rfl rfl rfl hoc' rfl ?_; intro w11 hs)
      refine Zerun ?_
      (refine RW.call T hs rfl rfl rfl (sqSqueeze_con hR _ _ _ _ hv9' (by simp [VecD.len]; omega)) ?_; intro v h12 w12 hle12 hp12 hs)
      obtain ⟨cs12, rfl, hv12⟩ := hp12
      rw [sq_nums3, hsp] at hv12
      have hv12' := hv12
      obtain ⟨wv2, nv2, sm2, il2, fl2, ch2, bx2, ⟨rfl, hoc2⟩, _⟩ := hv12
      (refine RW.storeAll T hs 1 rfl rfl rfl rfl rfl rfl hoc2 rfl ?_; intro w13 hs)
      refine Zerun ?_
      exact retQ_ret [_] h12 ⟨resN T hs 1 rfl rfl rfl rfl rfl rfl, trivial⟩ hs.dropAll ⟨_, rfl, hv12'⟩
    ·
      have hsp := pick_wholes hv0 (by omega) at_ nb
      refine Zerun ?_
      (refine RW.make1 T hs rfl rfl rfl rfl rfl rfl rfl (by dsimp only; omega) (by omega) ?_; intro b6 w6 hs)
      refine Zerun ?_
      refine CW.loop (fun u : Nat × GHeap => [(2, .pointer (some ⟨b1, 0, none⟩)), (4, .pointer (some ⟨b2, 0, none⟩)), (5, .slice (some ⟨b6, 0, none⟩) at_.length at_.length), (28, .slice ad1 at_.length cp1), (29, .int .i64 at_.length), (30, .int .i64 u.1)]) (fun u w' => u.1 ≤ at_.length ∧ GLe h3 u.2 ∧ Sees w h u.2 [⟨some ⟨b6, 0, none⟩, at_.length, at_.length, 2, 1, ((at_.take u.1).map fun i => (v.whole i).1).map (Value.int .i64) ++ List.replicate (at_.length - u.1) (.int .i64 0)⟩, ⟨some ⟨b2, 0, none⟩, 1, 1, 61, 8, vecCells 0 (.slice none 0 0) 0 (.slice none 0 0) (.slice none 0 0) (.slice none 0 0) (.slice none 0 0) (.slice none 0 0)⟩, ⟨some ⟨b1, 0, none⟩, 1, 1, 61, 8, vecCells v.kind wv nv sm il fl ch bx⟩] w') (fun u => at_.length - u.1) (0, h3) ⟨rfl, rfl, rfl, rfl, rfl, rfl, trivial⟩ ⟨by omega, GLe.refl _, by simp only [List.take_zero, List.map_nil, List.nil_append, Nat.sub_zero]; exact hs⟩ ?_
      rintro ⟨i, hh⟩ w7 ⟨hi, hg, hs⟩
      dsimp only at hi hg hs ⊢
      have hS1 := hS1.mono hg
      have hv' := hv'.mono hR hg
      by_cases hlt : i < at_.length
      · have htk := take_succ_getD at_ i 0 hlt
        refine Zerun ?_
        (refine RW.call T hs rfl rfl rfl (vecWhole_con _ v (at_.getD i 0) _ _ hv') ?_; intro v h8 w8 hle8 hp8 hs)
        subst hp8
        refine Zerun ?_
        refine RW.val (Y.idxRN T hs 0 rfl rfl rfl rfl rfl rfl ?_) rfl ?_
        · omega
        refine RW.st1 T hs 0 rfl rfl rfl rfl rfl rfl rfl (by omega) ?_
        intro w9 hs
        have e1 := set_snoc (((at_.take i).map fun i => (v.whole i).1).map (Value.int .i64)) (at_.length - i) (.int .i64 0) (Value.int .i64 ((v.whole (at_.getD i 0)).1)) (by omega)
        simp only [List.length_map, List.length_take, Nat.min_eq_left hi] at e1
        have e2 : ((at_.take i).map fun i => (v.whole i).1).map (Value.int .i64) ++ [Value.int .i64 ((v.whole (at_.getD i 0)).1)] ++ List.replicate (at_.length - i - 1) (.int .i64 0) = ((at_.take (i + 1)).map fun i => (v.whole i).1).map (Value.int .i64) ++ List.replicate (at_.length - (i + 1)) (.int .i64 0) := by
          rw [htk, List.map_append, List.map_append, show at_.length - (i + 1) = at_.length - i - 1 by omega]; rfl
        replace hs := hs.re (e1.trans e2)
        refine Zerun ?_
        exact loopQ_round (i + 1, h8) ⟨rfl, rfl, rfl, rfl, rfl, rfl, trivial⟩ ⟨by dsimp only; omega, hg.trans hle8, hs⟩ (by dsimp only; omega)
      obtain rfl : i = at_.length := by omega
      rw [List.take_length, Nat.sub_self, List.replicate_zero, List.append_nil] at hs
      obtain ⟨h8, hle8, hs, hS8⟩ := hs.freeze
      have hT8 : KAt .i64 h8 (.slice (some ⟨b6, 0, none⟩) at_.length at_.length) (at_.map fun i => (v.whole i).1) := RowAt.of_sl hS8
      refine Zerun ?_
      (refine RW.call T hs rfl rfl rfl (vecInts_con (R := R) _ _ _ _ hT8 (by simp; omega)) ?_; intro v h9 w9 hle9 hp9 hs)
      obtain ⟨cs9, ok, rfl, hok, hv9⟩ := hp9
      obtain rfl : ok = true := by
        rw [hok]
        refine decide_eq_true ?_
        intro u hu
        obtain ⟨i, _, rfl⟩ := List.mem_map.1 hu
        unfold VecD.whole
        split
        · exact wholeF_bounds _
        · constructor <;> decide
      rw [if_pos rfl] at hv9
      have hv9' := hv9
      obtain ⟨wv', nv', sm', il', fl', ch', bx', ⟨rfl, hoc'⟩, _⟩ := hv9
      refine Zerun ?_
      (refine RW.allocN T hs rfl rfl rfl rfl ?_; intro b10 w10 hs)
      (refine RW.storeAll T hs 0 rfl rfl rfl rfl rfl rfl hoc' rfl ?_; intro w11 hs)
      refine Zerun ?_
      (refine RW.call T hs rfl rfl rfl (sqSqueeze_con hR _ _ _ _ hv9' (by simp [VecD.len]; omega)) ?_; intro v h12 w12 hle12 hp12 hs)
      obtain ⟨cs12, rfl, hv12⟩ := hp12
      rw [sq_nums3, hsp] at hv12
      have hv12' := hv12
      obtain ⟨wv2, nv2, sm2, il2, fl2, ch2, bx2, ⟨rfl, hoc2⟩, _⟩ := hv12
      (refine RW.storeAll T hs 1 rfl rfl rfl rfl rfl rfl hoc2 rfl ?_; intro w13 hs)
      refine Zerun ?_
      exact retQ_ret [_] h12 ⟨resN T hs 1 rfl rfl rfl rfl rfl rfl, trivial⟩ hs.dropAll ⟨_, rfl, hv12'⟩
  ·
    have hsp : (⟨leastN ((at_.map fun i => v.num i).map tidyW), (at_.map fun i => v.num i).map tidyW, [], []⟩ : VecD α) = v.pick at_ nb := by
      have e : (at_.map fun i => v.num i).map tidyW = at_.map v.num := by
        rw [List.map_map]
        apply List.map_congr_left
        intro i _
        simp only [Function.comp]
        unfold tidyW
        rw [tidySpec_of _ (num_tidy hv0 i)]
      rw [e]
      unfold VecD.pick
      rw [if_neg (by omega), if_neg (by omega)]
    refine Zerun ?_
    (refine RW.make1 T hs rfl rfl rfl rfl rfl rfl rfl (by dsimp only; omega) (by omega) ?_; intro b6 w6 hs)
    refine Zerun ?_
    refine CW.loop (fun u : Nat × GHeap => [(2, .pointer (some ⟨b1, 0, none⟩)), (4, .pointer (some ⟨b2, 0, none⟩)), (10, .slice (some ⟨b6, 0, none⟩) at_.length at_.length), (57, .slice ad1 at_.length cp1), (58, .int .i64 at_.length), (59, .int .i64 u.1)]) (fun u w' => u.1 ≤ at_.length ∧ GLe h3 u.2 ∧ Sees w h u.2 [⟨some ⟨b6, 0, none⟩, at_.length, at_.length, 74, 1, ((at_.take u.1).map fun i => v.num i).map (Value.float .f64) ++ List.replicate (at_.length - u.1) (.float .f64 0)⟩, ⟨some ⟨b2, 0, none⟩, 1, 1, 61, 8, vecCells 0 (.slice none 0 0) 0 (.slice none 0 0) (.slice none 0 0) (.slice none 0 0) (.slice none 0 0) (.slice none 0 0)⟩, ⟨some ⟨b1, 0, none⟩, 1, 1, 61, 8, vecCells v.kind wv nv sm il fl ch bx⟩] w') (fun u => at_.length - u.1) (0, h3) ⟨rfl, rfl, rfl, rfl, rfl, rfl, trivial⟩ ⟨by omega, GLe.refl _, by simp only [List.take_zero, List.map_nil, List.nil_append, Nat.sub_zero]; exact hs⟩ ?_
    rintro ⟨i, hh⟩ w7 ⟨hi, hg, hs⟩
    dsimp only at hi hg hs ⊢
    have hS1 := hS1.mono hg
    have hv' := hv'.mono hR hg
    by_cases hlt : i < at_.length
    · have htk := take_succ_getD at_ i 0 hlt
      refine Zerun ?_
      (refine RW.call T hs rfl rfl rfl (flatFrom_con _ v (at_.getD i 0) _ _ hv') ?_; intro v h8 w8 hle8 hp8 hs)
      subst hp8
      skip
      refine RW.val (Y.idxRN T hs 0 rfl rfl rfl rfl rfl rfl ?_) rfl ?_
      · omega
      refine RW.st1 T hs 0 rfl rfl rfl rfl rfl rfl rfl (by omega) ?_
      intro w9 hs
      have e1 := set_snoc (((at_.take i).map fun i => v.num i).map (Value.float .f64)) (at_.length - i) (.float .f64 0) (Value.float .f64 (v.num (at_.getD i 0))) (by omega)
      simp only [List.length_map, List.length_take, Nat.min_eq_left hi] at e1
      have e2 : ((at_.take i).map fun i => v.num i).map (Value.float .f64) ++ [Value.float .f64 (v.num (at_.getD i 0))] ++ List.replicate (at_.length - i - 1) (.float .f64 0) = ((at_.take (i + 1)).map fun i => v.num i).map (Value.float .f64) ++ List.replicate (at_.length - (i + 1)) (.float .f64 0) := by
        rw [htk, List.map_append, List.map_append, show at_.length - (i + 1) = at_.length - i - 1 by omega]; rfl
      replace hs := hs.re (e1.trans e2)
      refine Zerun ?_
      exact loopQ_round (i + 1, h8) ⟨rfl, rfl, rfl, rfl, rfl, rfl, trivial⟩ ⟨by dsimp only; omega, hg.trans hle8, hs⟩ (by dsimp only; omega)
    obtain rfl : i = at_.length := by omega
    rw [List.take_length, Nat.sub_self, List.replicate_zero, List.append_nil] at hs
    obtain ⟨h8, hle8, hs, hS8⟩ := hs.freeze
    have hT8 : FAt h8 (.slice (some ⟨b6, 0, none⟩) at_.length at_.length) (at_.map fun i => v.num i) := RowAt.of_sl hS8
    refine Zerun ?_
    (refine RW.call T hs rfl rfl rfl (sqNumbers_con (R := R) hR _ _ _ _ hT8 (by intro u hu; obtain ⟨i, _, rfl⟩ := List.mem_map.1 hu; exact (num_tidy hv0 i).1) (by simp; omega)) ?_; intro v h9 w9 hle9 hp9 hs)
    obtain ⟨cs9, ok, rfl, hok, hv9⟩ := hp9
    obtain rfl : ok = true := by
      rw [hok]
      refine decide_eq_true ?_
      intro u hu
      obtain ⟨i, _, rfl⟩ := List.mem_map.1 hu
      exact (num_tidy hv0 i).2.1
    rw [if_pos rfl, hsp] at hv9
    have hv9' := hv9
    obtain ⟨wv', nv', sm', il', fl', ch', bx', ⟨rfl, hoc'⟩, _⟩ := hv9
    refine Zerun ?_
    (refine RW.allocN T hs rfl rfl rfl rfl ?_; intro b10 w10 hs)
    (refine RW.storeAll T hs 0 rfl rfl rfl rfl rfl rfl hoc' rfl ?_; intro w11 hs)
    refine Zerun ?_
    (refine RW.storeAll T hs 1 rfl rfl rfl rfl rfl rfl hoc' rfl ?_; intro w12 hs)
    refine Zerun ?_
    exact retQ_ret [_] h9 ⟨resN T hs 1 rfl rfl rfl rfl rfl rfl, trivial⟩ hs.dropAll ⟨_, rfl, hv9'⟩
  · have hsp : (⟨5, [], at_.map (fun i => atD v.chars i 32), []⟩ : VecD α) = v.pick at_ nb := by unfold VecD.pick; rw [if_pos k5]
    refine Zerun ?_
    (refine RW.call T hs rfl rfl rfl (vecText_con _ v _ _ hv' (by omega)) ?_; intro v h4 w4 hle4 hp4 hs)
    refine Zerun ?_
    (refine RW.call T hs rfl rfl rfl (thoseRune_con _ _ _ at_ 32 _ _ hp4 (ha'.mono hle4) hm) ?_; intro v h5 w5 hle5 hp5 hs)
    (refine RW.call T hs rfl rfl rfl (vecChars_con (R := R) _ _ _ _ hp5 (by simp; omega)) ?_; intro v h6 w6 hle6 hp6 hs)
    obtain ⟨cs6, rfl, hv6⟩ := hp6
    rw [hsp] at hv6
    have hv6' := hv6
    obtain ⟨wv', nv', sm', il', fl', ch', bx', ⟨rfl, hoc'⟩, _⟩ := hv6
    (refine RW.storeAll T hs 0 rfl rfl rfl rfl rfl rfl hoc' rfl ?_; intro w7 hs)
    refine Zerun ?_
    exact retQ_ret [_] h6 ⟨resN T hs 0 rfl rfl rfl rfl rfl rfl, trivial⟩ hs.dropAll ⟨_, rfl, hv6'⟩
  · have hsp : (⟨6, [], [], at_.map (fun i => atD v.boxes i nb)⟩ : VecD α) = v.pick at_ nb := by unfold VecD.pick; rw [if_neg (by omega), if_pos k6]
    refine Zerun ?_
    (refine RW.call T hs rfl rfl rfl (vecArrays_con hR h1 _ v _ _ hv' (by omega)) ?_; intro v h4 w4 hle4 hp4 hs)
    refine Zerun ?_
    (refine RW.call T hs rfl rfl rfl (hbl _ _) ?_; intro v h5 w5 hle5 hp5 hs)
    obtain ⟨cs5, rfl, hb5⟩ := hp5
    (refine RW.call T hs rfl rfl rfl (thoseArr_con hR h1 h9 _ _ _ at_ _ nb _ _ (hp4.mono hle5 (fun u a => hR _ _ u a hle5)) (ha'.mono (hle4.trans hle5)) hb5 hm) ?_; intro v h6 w6 hle6 hp6 hs)
    (refine RW.call T hs rfl rfl rfl (vecBoxes_con hR h1 _ _ _ _ hp6 (by simp; omega)) ?_; intro v h7 w7 hle7 hp7 hs)
    obtain ⟨cs7, rfl, hv7⟩ := hp7
    rw [hsp] at hv7
    have hv7' := hv7
    obtain ⟨wv', nv', sm', il', fl', ch', bx', ⟨rfl, hoc'⟩, _⟩ := hv7
    (refine RW.storeAll T hs 0 rfl rfl rfl rfl rfl rfl hoc' rfl ?_; intro w8 hs)
    refine Zerun ?_
    exact retQ_ret [_] h7 ⟨resN T hs 0 rfl rfl rfl rfl rfl rfl, trivial⟩ hs.dropAll ⟨_, rfl, hv7'⟩
end
end Go.Proofs.Ythbfkhklihejiaa

/-
  Contracts of the document's answer and of the law's own functions of layer 8: items picked, lists shown. No statement is proved here.
-/
namespace Go.Proofs.Ythbfkhklihejiaa
open Go Go.RowKit
set_option linter.unusedVariables false
set_option linter.unusedSimpArgs false
set_option maxHeartbeats 4000000
attribute [local irreducible] CW RW QW SW HW ConM retM heldQ calmQ elemP thenQ blockQ loopQ joinQ retQ Yields Con Sl zF magR unitF truncF fwF wholeF tidySpec elemQ rankF leastN tidyW
set_option maxHeartbeats 4000000

section
variable {β : Type} {R : GHeap → List Value → β → Prop}
/-- what stands for none, of a class -/
def blankI (c : Int) : ItemD (PlainD β) := ⟨c, 0, if c = 1 then 32 else 0, if c = 2 then [⟨[0], [], 0⟩] else []⟩
theorem refBlank08_con (hR : Mono R) (c : Int) (w : World) (h : GHeap) : Con Try.prog 143 [.int .i64 c] w h (fun h' u => ∃ cs', u = .agg cs'.toArray ∧ ItemAt (PlainR R) h' cs' (blankI c)) := by
  refine Con.of_body Try.func143 rfl Try.ntmps143 rfl rfl ?_
  intro hs
  refine Zrun ?_
  (refine RW.allocN T hs rfl rfl rfl rfl ?_; intro b1 w1 hs)
  refine Zerun ?_
  refine RW.val (Y.build T rfl rfl rfl rfl rfl rfl rfl) rfl ?_
  (refine RW.allocN T hs rfl rfl rfl rfl ?_; intro b2 w2 hs)
  (refine RW.storeAll T hs 0 rfl rfl rfl rfl rfl rfl rfl rfl ?_; intro w3 hs)
  refine Zerun ?_
  unfold blankI
  by_cases c1 : c = 1
  · rw [if_pos c1, if_neg (by omega)]
    refine Zerun ?_
    (refine RW.store1 T hs 0 rfl rfl rfl rfl rfl rfl rfl rfl ?_; intro w4 hs)
    refine Zerun ?_
    (refine RW.storeAll T hs 1 rfl rfl rfl rfl rfl rfl rfl rfl ?_; intro w5 hs)
    refine Zerun ?_
    exact retQ_ret [_] h ⟨resN T hs 1 rfl rfl rfl rfl rfl rfl, trivial⟩ hs.dropAll ⟨_, rfl, ItemAt.mk' (x := ⟨c, 0, 32, []⟩) (RowsAt.nil _) (Nat.succ_pos _)⟩
  rw [if_neg c1]
  by_cases c2 : c = 2
  · rw [if_pos c2]
    refine Zerun ?_
    (refine RW.lit T hs (vs := [.int .i64 0]) (cs := [.int .i64 0]) rfl rfl rfl rfl (by simp [Value.cells]) rfl rfl rfl rfl rfl ?_; intro b4 w4 hs)
    obtain ⟨h5, hle5, hs, hS5⟩ := hs.freeze
    have hI5 : IntsAt h5 (.slice (some ⟨b4, 0, none⟩) 1 1) [0] := IntsAt.of_sl hS5
    refine RW.val (Y.build T rfl rfl rfl rfl rfl rfl rfl) rfl ?_
    (refine RW.lit T hs (vs := [.agg [.slice (some ⟨b4, 0, none⟩) 1 1, .slice none 0 0, .int .i64 0].toArray]) (cs := [.slice (some ⟨b4, 0, none⟩) 1 1, .slice none 0 0, .int .i64 0]) rfl rfl rfl rfl (by simp [Value.cells]) rfl rfl rfl rfl rfl ?_; intro b6 w6 hs)
    obtain ⟨h7, hle7, hs, hS7⟩ := hs.freeze
    have hR7 : RowsAt 3 (PlainR R h7) h7 (.slice (some ⟨b6, 0, none⟩) 1 1) [(⟨[0], [], 0⟩ : PlainD β)] := RowsAt.single hS7 ⟨_, _, rfl, hI5.mono hle7, RowsAt.nil _⟩
    refine Zerun ?_
    (refine RW.store1 T hs 0 rfl rfl rfl rfl rfl rfl rfl rfl ?_; intro w8 hs)
    refine Zerun ?_
    (refine RW.storeAll T hs 1 rfl rfl rfl rfl rfl rfl rfl rfl ?_; intro w9 hs)
    refine Zerun ?_
    exact retQ_ret [_] h7 ⟨resN T hs 1 rfl rfl rfl rfl rfl rfl, trivial⟩ hs.dropAll ⟨_, rfl, ItemAt.mk' (x := ⟨c, 0, 0, [(⟨[0], [], 0⟩ : PlainD β)]⟩) hR7 (Nat.succ_pos _)⟩
  rw [if_neg c2]
  refine Zerun ?_
  (refine RW.storeAll T hs 1 rfl rfl rfl rfl rfl rfl rfl rfl ?_; intro w5 hs)
  refine Zerun ?_
  exact retQ_ret [_] h ⟨resN T hs 1 rfl rfl rfl rfl rfl rfl, trivial⟩ hs.dropAll ⟨_, rfl, ItemAt.mk' (x := ⟨c, 0, 0, []⟩) (RowsAt.nil _) (Nat.succ_pos _)⟩
theorem refList08_con {γ : Type} {RC : GHeap → List Value → γ → Prop} (hRC : Mono RC) (v : Value) (l : List (ItemD γ)) (c : Int) (w : World) (h : GHeap) (hl : RowsAt 4 (ItemAt RC h) h v l) : Con Try.prog 136 [v, .int .i64 c] w h (fun h' u => ∃ cs', u = .agg cs'.toArray ∧ PlainR RC h' cs' (⟨[(l.length : Int)], l, c⟩ : PlainD γ)) := by
  have hl' := hl
  obtain ⟨ad, cp, xs, rfl, hS, hA⟩ := hl
  refine Con.of_body Try.func136 rfl Try.ntmps136 rfl rfl ?_
  intro hs
  refine Zrun ?_
  (refine RW.allocN T hs rfl rfl rfl rfl ?_; intro b1 w1 hs)
  refine Zerun ?_
  (refine RW.lit T hs (vs := [.int .i64 l.length]) (cs := [.int .i64 l.length]) rfl rfl rfl rfl (by simp [Value.cells]) rfl rfl rfl rfl rfl ?_; intro b2 w2 hs)
  obtain ⟨h3, hle3, hs, hS3⟩ := hs.freeze
  have hI3 : IntsAt h3 (.slice (some ⟨b2, 0, none⟩) 1 1) [(l.length : Int)] := IntsAt.of_sl hS3
  refine Zerun ?_
  refine RW.val (Y.build T rfl rfl rfl rfl rfl rfl rfl) rfl ?_
  (refine RW.storeAll T hs 0 rfl rfl rfl rfl rfl rfl rfl rfl ?_; intro w4 hs)
  refine Zerun ?_
  exact retQ_ret [_] h3 ⟨resN T hs 0 rfl rfl rfl rfl rfl rfl, trivial⟩ hs.dropAll ⟨_, rfl, _, _, rfl, hI3, hl'.mono hle3 (fun u a => ItemAt.mono hRC _ _ u a hle3)⟩
theorem refPick08_con (hR : Mono R) (v v1 : Value) (l : List (ItemD (PlainD β))) (c : Int) (at_ : List Int) (w : World) (h : GHeap) (hl : RowsAt 4 (ItemAt (PlainR R) h) h v l) (ha : IntsAt h v1 at_) (hm : at_.length ≤ 1048576) : Con Try.prog 67 [v, .int .i64 c, v1] w h (fun h' u => RowsAt 4 (ItemAt (PlainR R) h') h' u (at_.map fun i => atD l i (blankI c))) := by
  have hRI := ItemAt.mono (PlainR.mono hR)
  obtain ⟨ad, cp, xs, rfl, hS, hA⟩ := hl
  obtain ⟨ad1, cp1, rfl, hS1⟩ := ha
  have hlen : l.length ≤ 9223372036854775807 := by have := hS.caps; omega
  refine Con.of_body Try.func67 rfl Try.ntmps67 rfl rfl ?_
  intro hs
  refine Zerun ?_
  have hs := hs.nilRow 83 4
  refine CW.loop (fun u : Nat × Option Addr × Nat × List Value × GHeap => [(0, .slice ad l.length cp), (1, .int .i64 c), (2, .slice ad1 at_.length cp1), (7, .slice u.2.1 u.1 u.2.2.1), (8, .int .i64 u.1)]) (fun u w' => u.1 ≤ at_.length ∧ GLe h u.2.2.2.2 ∧ AllN 4 (ItemAt (PlainR R) u.2.2.2.2) u.2.2.2.1 ((at_.take u.1).map fun i => atD l i (blankI c)) ∧ Sees w h u.2.2.2.2 [⟨u.2.1, u.1, u.2.2.1, 83, 4, u.2.2.2.1⟩] w') (fun u => at_.length - u.1) (0, none, 0, [], h) ⟨rfl, rfl, rfl, rfl, rfl, trivial⟩ ⟨by omega, GLe.refl _, rfl, hs⟩ ?_
  rintro ⟨i, ra, rc, vs, hh⟩ w5 ⟨hi, hg, hAv, hs⟩
  dsimp only at hi hg hAv hs ⊢
  have hS := hS.mono hg
  have hS1 := hS1.mono hg
  by_cases hlt : i < at_.length
  · have htk := take_succ_getD at_ i 0 hlt
    have done : ∀ (h6 : GHeap) (cs6 : List Value) (x : ItemD (PlainD β)), GLe hh h6 → cs6.length = 4 → ItemAt (PlainR R) h6 cs6 x → x = atD l (at_.getD i 0) (blankI c) → AllN 4 (ItemAt (PlainR R) h6) (vs ++ cs6) ((at_.take (i + 1)).map fun i => atD l i (blankI c)) := by
      intro h6 cs6 x hle6 hl6 hi6 hx
      rw [htk, List.map_append]
      show AllN 4 _ (vs ++ cs6) (_ ++ [atD l (at_.getD i 0) (blankI c)])
      rw [← hx]
      exact (hAv.mono (fun u a => hRI _ _ u a hle6)).append (AllN.one hl6 hi6)
    by_cases c1 : at_.getD i 0 < 0
    · refine Zerun ?_
      (refine RW.call T hs rfl rfl rfl (refBlank08_con hR c _ _) ?_; intro v h6 w6 hle6 hp6 hs)
      obtain ⟨cs6, rfl, hi6⟩ := hp6
      have hl6 : cs6.length = 4 := by obtain ⟨_, rfl, _⟩ := hi6; rfl
      have ho6 := ItemAt.one _ _ _ hi6
      (refine RW.lit T hs (vs := [.agg cs6.toArray]) (cs := cs6) rfl rfl rfl rfl (by simp [Value.cells, hl6]) rfl (by simp [Value.cells]) rfl rfl rfl ?_; intro b7 w7 hs)
      (refine RW.append T hs 1 rfl rfl (m := 1) (news := cs6) rfl rfl rfl rfl rfl rfl (hs.src0 (by simpa using hl6) ho6) (by simp) (by dsimp only; omega) (by omega) ?_; intro ad8 cp8 w8 hs; replace hs := hs.drop)
      refine Zerun ?_
      exact loopQ_round (i + 1, ad8, cp8, vs ++ cs6, h6) ⟨rfl, rfl, rfl, rfl, rfl, trivial⟩ ⟨by dsimp only; omega, hg.trans hle6, done h6 cs6 _ hle6 hl6 hi6 (atD_out (by omega)).symm, hs⟩ (by dsimp only; omega)
    by_cases c2 : ¬ at_.getD i 0 < l.length
    · refine Zerun ?_
      (refine RW.call T hs rfl rfl rfl (refBlank08_con hR c _ _) ?_; intro v h6 w6 hle6 hp6 hs)
      obtain ⟨cs6, rfl, hi6⟩ := hp6
      have hl6 : cs6.length = 4 := by obtain ⟨_, rfl, _⟩ := hi6; rfl
      have ho6 := ItemAt.one _ _ _ hi6
      (refine RW.lit T hs (vs := [.agg cs6.toArray]) (cs := cs6) rfl rfl rfl rfl (by simp [Value.cells, hl6]) rfl (by simp [Value.cells]) rfl rfl rfl ?_; intro b7 w7 hs)
      (refine RW.append T hs 1 rfl rfl (m := 1) (news := cs6) rfl rfl rfl rfl rfl rfl (hs.src0 (by simpa using hl6) ho6) (by simp) (by dsimp only; omega) (by omega) ?_; intro ad8 cp8 w8 hs; replace hs := hs.drop)
      refine Zerun ?_
      exact loopQ_round (i + 1, ad8, cp8, vs ++ cs6, h6) ⟨rfl, rfl, rfl, rfl, rfl, trivial⟩ ⟨by dsimp only; omega, hg.trans hle6, done h6 cs6 _ hle6 hl6 hi6 (atD_out (by omega)).symm, hs⟩ (by dsimp only; omega)
    have hlk : (at_.getD i 0).toNat < l.length := by omega
    obtain ⟨y, hy, hyl, hRy⟩ := hA.elem _ hlk
    have hoy := ItemAt.one _ _ _ hRy
    have hRy := hRI _ _ _ _ hg hRy
    refine Zerun ?_
    (refine RW.lit T hs (vs := [.agg y.toArray]) (cs := y) rfl rfl rfl rfl (by simp [Value.cells, hyl]) rfl (by simp [Value.cells]) rfl rfl rfl ?_; intro b7 w7 hs)
    (refine RW.append T hs 1 rfl rfl (m := 1) (news := y) rfl rfl rfl rfl rfl rfl (hs.src0 (by simpa using hyl) hoy) (by simp) (by dsimp only; omega) (by omega) ?_; intro ad8 cp8 w8 hs; replace hs := hs.drop)
    refine Zerun ?_
    exact loopQ_round (i + 1, ad8, cp8, vs ++ y, hh) ⟨rfl, rfl, rfl, rfl, rfl, trivial⟩ ⟨by dsimp only; omega, hg, done hh y _ (GLe.refl _) hyl hRy ((getElem_getD l _ _ hlk).trans (atD_in (by omega)).symm), hs⟩ (by dsimp only; omega)
  · obtain rfl : i = at_.length := by omega
    rw [List.take_length] at hAv
    obtain ⟨h6, hle6, hs, hS6⟩ := hs.freeze
    refine Zerun ?_
    exact retQ_ret [_] h6 ⟨rfl, trivial⟩ hs.dropAll ⟨ra, rc, vs, by simp [packv], by simpa using hS6, hAv.mono (fun u a => hRI _ _ u a hle6)⟩
end
theorem shows_con (k : Nat) (cs : List Value) (v : VecD (AD k)) (v1 : Value) (l : List (ItemD (PD k))) (c : Int) (w : World) (h : GHeap) (hv : VecAt (ArrAt k) h cs v) (hl : RowsAt 4 (ItemAt (PlainAt k) h) h v1 l) (hc : v.cls = c) (hk0 : v.kind ≠ 0) (hkl : v.kind = v.least) (hvm : v.len ≤ 1048576) (hsm : ∀ b ∈ v.boxes, sml k b) (he : itemsV (plain k) v = l) (htd : ∀ x ∈ l, tdyIt (tdy k) x) : Con Try.prog 65 [.agg cs.toArray, v1, .int .i64 c] w h (fun _ u => u = .bool true) := by
  have hv' := hv
  have hl' := hl
  have hlv : l.length = v.len := by rw [← he, itemsV_len (plain k) hv]
  have htd1 : tdy (k + 1) (plain (k + 1) (⟨[(v.len : Int)], v⟩ : ArrD (AD k))) := fun x hx => htd x (by rw [← he]; exact hx)
  have htd2 : tdy (k + 1) (⟨[(l.length : Int)], l, c⟩ : PlainD (PD k)) := fun x hx => htd x hx
  have hpe : plain (k + 1) (⟨[(v.len : Int)], v⟩ : ArrD (AD k)) = (⟨[(l.length : Int)], l, c⟩ : PlainD (PD k)) := by
    show (⟨[(v.len : Int)], itemsV (plain k) v, v.cls⟩ : PlainD (PD k)) = _
    rw [he, hlv, hc]
  obtain ⟨wv, nv, sm, il, fl, ch, bx, ⟨rfl, hoc⟩, hkk⟩ := hv
  clear hkk
  obtain ⟨ad, cp, xs, rfl, _, _⟩ := hl
  refine Con.of_body Try.func65 rfl Try.ntmps65 rfl rfl ?_
  intro hs
  refine Zrun ?_
  (refine RW.boxN hs rfl rfl ?_; intro b1 w1 hs)
  refine Zerun ?_
  (refine RW.call T hs rfl rfl rfl (vecClass_con _ v _ _ hv') ?_; intro v h2 w2 hle2 hp2 hs)
  subst hp2
  have hv' := hv'.mono (ArrAt.mono k) hle2
  have hl' := hl'.mono hle2 (fun u a => ItemAt.mono (PlainAt.mono k) _ _ u a hle2)
  refine Zerun ?_
  (refine RW.call T hs rfl rfl rfl (sqTight_con (ArrAt.mono k) _ v _ _ hv' hvm) ?_; intro v h3 w3 hle3 hp3 hs)
  subst hp3
  rw [decide_eq_true hkl]
  have hv' := hv'.mono (ArrAt.mono k) hle3
  have hl' := hl'.mono hle3 (fun u a => ItemAt.mono (PlainAt.mono k) _ _ u a hle3)
  refine Zerun ?_
  (refine RW.call T hs rfl rfl rfl (vecKind_con _ v _ _ hv') ?_; intro v h4 w4 hle4 hp4 hs)
  subst hp4
  have hv' := hv'.mono (ArrAt.mono k) hle4
  have hl' := hl'.mono hle4 (fun u a => ItemAt.mono (PlainAt.mono k) _ _ u a hle4)
  refine Zerun ?_
  refine CW.regionO T hs ?_
  intro w5 hs
  refine HW.takeS (fuel := 10) 0 rfl (fun _ _ hs => Y.loadRowN T hs 0 rfl rfl rfl rfl rfl rfl rfl) hs rfl (by kernel_rfl) (by kernel_rfl) (by kernel_rfl) ?_
  refine HW.takeS (fuel := 9) 3 rfl (fun _ _ hs => Y.loadRowN T hs 0 rfl rfl rfl rfl rfl rfl rfl) hs rfl (by kernel_rfl) (by kernel_rfl) (by kernel_rfl) ?_
  refine HW.takeS (fuel := 8) 6 rfl (fun _ _ hs => Y.move rfl) hs rfl (by kernel_rfl) (by kernel_rfl) (by kernel_rfl) ?_
  refine HW.takeS (fuel := 7) 7 rfl (fun _ _ hs => Y.move rfl) hs rfl (by kernel_rfl) (by kernel_rfl) (by kernel_rfl) ?_
  refine HW.one (fuel := 6) 1 rfl (by kernel_rfl) ?_
  (refine RW.call T hs rfl rfl rfl (vecLen_con _ v _ _ hv') ?_; intro v h22 w22 hle22 hp22 hs)
  subst hp22
  have hv' := hv'.mono (ArrAt.mono k) hle22
  have hl' := hl'.mono hle22 (fun u a => ItemAt.mono (PlainAt.mono k) _ _ u a hle22)
  refine RW.nil ?_
  refine heldQ_normal ⟨_, hs⟩ ?_
  refine HW.one (fuel := 5) 2 rfl (by kernel_rfl) ?_
  (refine RW.lit T hs (vs := [.int .i64 v.len]) (cs := [.int .i64 v.len]) rfl rfl rfl rfl (by simp [Value.cells]) rfl rfl rfl rfl rfl ?_; intro b23 w23 hs)
  obtain ⟨h23, hle23, hs, hS23⟩ := hs.freeze
  have ha23 : ArrAt (k + 1) h23 (.slice (some ⟨b23, 0, none⟩) 1 1 :: (vecCells v.kind wv nv sm il fl ch bx)) (⟨[(v.len : Int)], v⟩ : ArrD (AD k)) := ⟨_, _, rfl, IntsAt.of_sl hS23, hv'.mono (ArrAt.mono k) hle23⟩
  have hl' := hl'.mono hle23 (fun u a => ItemAt.mono (PlainAt.mono k) _ _ u a hle23)
  refine RW.nil ?_
  refine heldQ_normal ⟨_, hs⟩ ?_
  refine HW.takeS (fuel := 4) 4 rfl (fun _ _ hs => Y.build T rfl rfl rfl rfl rfl rfl rfl) hs rfl (by kernel_rfl) (by kernel_rfl) (by kernel_rfl) ?_
  refine HW.one (fuel := 3) 5 rfl (by kernel_rfl) ?_
  (refine RW.call T hs rfl rfl rfl (plainV_con (k + 1) _ _ _ _ ha23 ⟨(by show 1 ≤ 8; omega), hvm, hsm⟩) ?_; intro v h26 w26 hle26 hp26 hs)
  obtain ⟨cs26, rfl, hq26⟩ := hp26
  have hl' := hl'.mono hle26 (fun u a => ItemAt.mono (PlainAt.mono k) _ _ u a hle26)
  refine RW.nil ?_
  refine heldQ_normal ⟨_, hs⟩ ?_
  refine HW.one (fuel := 2) 8 rfl (by kernel_rfl) ?_
  (refine RW.call T hs rfl rfl rfl (refList08_con (PlainAt.mono k) _ _ c _ _ hl') ?_; intro v h29 w29 hle29 hp29 hs)
  obtain ⟨cs29, rfl, hq29⟩ := hp29
  have hq26 := PlainAt.mono (k + 1) _ _ _ _ hle29 hq26
  refine RW.nil ?_
  refine heldQ_normal ⟨_, hs⟩ ?_
  refine HW.one (fuel := 1) 9 rfl (by kernel_rfl) ?_
  (refine RW.call T hs rfl rfl rfl (refSame_con (k + 1) _ _ _ _ _ _ hq26 hq29 htd1 htd2) ?_; intro v h30 w30 hle30 hp30 hs)
  subst hp30
  rw [eqB_of hpe]
  refine RW.nil ?_
  refine heldQ_normal ⟨_, hs⟩ ?_
  refine HW.takeS (fuel := 0) 10 rfl (fun _ _ hs => Y.assign rfl) hs rfl (by kernel_rfl) (by kernel_rfl) (by kernel_rfl) ?_
  refine HW.done (by kernel_rfl) ?_
  refine calmQ_normal ?_
  refine Zerun ?_
  exact retQ_ret [_] h30 ⟨rfl, trivial⟩ hs.dropAll rfl
end Go.Proofs.Ythbfkhklihejiaa

/-
  Contracts of the law's own functions of layer 8: good plain arrays, the chapter's example, elements at all places. No statement is proved here.
-/
namespace Go.Proofs.Ythbfkhklihejiaa
open Go Go.RowKit
set_option linter.unusedVariables false
set_option linter.unusedSimpArgs false
set_option maxHeartbeats 4000000
attribute [local irreducible] CW RW QW SW HW ConM retM heldQ calmQ elemP thenQ blockQ loopQ joinQ retQ Yields Con Sl zF magR unitF truncF fwF wholeF tidySpec elemQ rankF leastN tidyW
set_option maxHeartbeats 4000000

theorem Y.fieldVec {P : Program} (T : Tab P) {n : Nat} {L : Env} {w : World} {ty t : TypeId} {x : Operand} {fs : List (Nat × Nat)} {j ft : Nat} {d : Ty} {i : Inf} {s : Value} {vc : List Value} (hT : T.ty t = some (.struct fs)) (hf : fs[j]? = some (ft, 1)) (hF : T.ty ft = some d) (hd : d.agg = true) (hI : T.inf ft = some i) (hx : opv L x = some (.agg (s :: vc).toArray)) (hl : vc.length = i.size) : Yields P n L w (.field t x j) ty (.agg vc.toArray) := by
  have := Y.fieldN (P := P) (n := n) (w := w) (ty := ty) T hT hf hF hd hI hx
  have e : (s :: vc).toArray.extract 1 (1 + i.size) = vc.toArray := by
    apply Array.ext'
    simp [← hl]
  rwa [e] at this
/-! ## Plain facts -/
theorem atD_map {γ δ : Type} (g : γ → δ) (l : List γ) (i : Int) (d : γ) : atD (l.map g) i (g d) = g (atD l i d) := by
  unfold atD
  split
  · by_cases c : i.toNat < l.length
    · simp [List.getD_eq_getElem?_getD, c]
    · simp [List.getD_eq_getElem?_getD, c]
  · rfl
theorem atD_mem {γ : Type} (l : List γ) (i : Int) (d : γ) : atD l i d ∈ l ∨ atD l i d = d := by
  unfold atD
  split
  · by_cases c : i.toNat < l.length
    · exact .inl (mem_getD _ _ _ c)
    · right; simp [List.getD_eq_getElem?_getD, c]
  · exact .inr rfl
section
variable {α β : Type} {R : GHeap → List Value → α → Prop}
theorem pick_cls (v : VecD α) (at_ : List Int) (nb : α) : (v.pick at_ nb).cls = v.cls := by
  unfold VecD.pick
  by_cases k5 : v.kind = 5
  · rw [if_pos k5]; unfold VecD.cls; rw [if_pos rfl, if_pos k5]
  · rw [if_neg k5]
    by_cases k6 : v.kind = 6
    · rw [if_pos k6]; unfold VecD.cls; rw [if_neg (show ¬ (6 : Int) = 5 by decide), if_pos rfl, if_neg k5, if_pos k6]
    · rw [if_neg k6]
      have := leastN_bounds (at_.map v.num)
      unfold VecD.cls
      rw [if_neg k5, if_neg k6]
      dsimp only
      rw [if_neg (by omega), if_neg (by omega)]
theorem pick_facts (v : VecD α) (at_ : List Int) (nb : α) : (v.pick at_ nb).kind ≠ 0 ∧ (v.pick at_ nb).kind = (v.pick at_ nb).least ∧ (v.pick at_ nb).len = at_.length ∧ ∀ b ∈ (v.pick at_ nb).boxes, b ∈ v.boxes ∨ b = nb := by
  have hc := pick_cls v at_ nb
  unfold VecD.least
  rw [hc]
  unfold VecD.cls VecD.pick
  by_cases k5 : v.kind = 5
  · rw [if_pos k5, if_pos k5]; simp [VecD.len]
  · rw [if_neg k5, if_neg k5]
    by_cases k6 : v.kind = 6
    · rw [if_pos k6, if_pos k6]
      refine ⟨show (6 : Int) ≠ 0 by decide, by simp, by simp [VecD.len], ?_⟩
      intro b hb
      obtain ⟨i, _, rfl⟩ := List.mem_map.1 hb
      exact atD_mem _ _ _
    · rw [if_neg k6, if_neg k6]
      have := leastN_bounds (at_.map v.num)
      exact ⟨by dsimp only; omega, by dsimp only; rw [if_pos ⟨rfl, by omega⟩], by simp [VecD.len], fun b hb => by cases hb⟩
theorem itemsV_c1 (f : α → β) {v : VecD α} (hc : v.cls = 1) : itemsV f v = v.chars.map fun c => ⟨1, 0, c, []⟩ := by unfold itemsV; rw [if_pos hc]
theorem itemsV_c2 (f : α → β) {v : VecD α} (hc : v.cls = 2) : itemsV f v = v.boxes.map fun b => ⟨2, 0, 0, [f b]⟩ := by unfold itemsV; rw [if_neg (by omega), if_pos hc]
theorem itemsV_c0 (f : α → β) {v : VecD α} (hc : v.cls = 0) : itemsV f v = v.nums.map fun x => ⟨0, x, 0, []⟩ := by unfold itemsV; rw [if_neg (by omega), if_neg (by omega)]
theorem pick_items (f : α → PlainD β) (v : VecD α) (at_ : List Int) (nb : α) (hnb : f nb = ⟨[0], [], 0⟩) : itemsV f (v.pick at_ nb) = at_.map (fun i => atD (itemsV f v) i (blankI v.cls)) := by
  have hpc := pick_cls v at_ nb
  have hcl : v.cls = if v.kind = 5 then 1 else if v.kind = 6 then 2 else 0 := rfl
  by_cases k5 : v.kind = 5
  · rw [if_pos k5] at hcl
    have e : (v.pick at_ nb).chars = at_.map (fun i => atD v.chars i 32) := by unfold VecD.pick; rw [if_pos k5]
    rw [itemsV_c1 f (hpc.trans hcl), itemsV_c1 f hcl, hcl, e, List.map_map]
    apply List.map_congr_left
    intro i _
    exact (atD_map (fun c => (⟨1, 0, c, []⟩ : ItemD (PlainD β))) v.chars i 32).symm
  · rw [if_neg k5] at hcl
    by_cases k6 : v.kind = 6
    · rw [if_pos k6] at hcl
      have e : (v.pick at_ nb).boxes = at_.map (fun i => atD v.boxes i nb) := by unfold VecD.pick; rw [if_neg k5, if_pos k6]
      rw [itemsV_c2 f (hpc.trans hcl), itemsV_c2 f hcl, hcl, e, List.map_map]
      apply List.map_congr_left
      intro i _
      have e := (atD_map (fun b => (⟨2, 0, 0, [f b]⟩ : ItemD (PlainD β))) v.boxes i nb).symm
      rw [hnb] at e
      exact e
    · rw [if_neg k6] at hcl
      have e : (v.pick at_ nb).nums = at_.map v.num := by unfold VecD.pick; rw [if_neg k5, if_neg k6]
      rw [itemsV_c0 f (hpc.trans hcl), itemsV_c0 f hcl, hcl, e, List.map_map]
      apply List.map_congr_left
      intro i _
      exact (atD_map (fun x => (⟨0, x, 0, []⟩ : ItemD (PlainD β))) v.nums i 0).symm
theorem pick_items' (f : α → PlainD β) (v : VecD α) (at_ : List Int) (nb : α) (L : List (ItemD (PlainD β))) (c : Int) (hL : itemsV f v = L) (hc : v.cls = c) (hnb : f nb = ⟨[0], [], 0⟩) : itemsV f (v.pick at_ nb) = at_.map (fun i => atD L i (blankI c)) := by
  subst hL hc
  exact pick_items f v at_ nb hnb
end
def blankA (k : Nat) : AD (k + 1) := (⟨[0], ⟨1, [], [], []⟩⟩ : ArrD (AD k))
def blankP (k : Nat) : PD (k + 1) := (⟨[0], [], 0⟩ : PlainD (PD k))
theorem blankA_plain (k : Nat) : plain (k + 1) (blankA k) = blankP k := rfl
theorem blankA_sml (k : Nat) : sml (k + 1) (blankA k) := ⟨by show 1 ≤ 8; omega, Nat.zero_le _, fun b hb => by cases hb⟩
theorem blankP_tdy (k : Nat) : tdy (k + 1) (blankP k) := fun x hx => by cases hx
theorem blankI_tdy (k : Nat) (c : Int) : tdyIt (tdy (k + 1)) (blankI c : ItemD (PlainD (PD k))) := by
  refine ⟨tidy0, fun b hb => ?_⟩
  unfold blankI at hb
  dsimp only at hb
  split at hb
  · rw [List.mem_singleton.1 hb]; exact blankP_tdy k
  · cases hb
theorem good08_con (k : Nat) (cs : List Value) (p : PD k) (w : World) (h : GHeap) (hp : PlainAt k h cs p) : Con Try.prog 63 [.agg cs.toArray] w h (fun _ u => ∃ b, u = .bool b ∧ (b = true → chk k 40 p = 0)) := by
  have hp' := hp
  cases k with
  | zero => exact hp.elim
  | succ k =>
    obtain ⟨s, it, rfl, _⟩ := hp
    refine Con.of_body Try.func63 rfl Try.ntmps63 rfl rfl ?_
    intro hs
    refine Zrun ?_
    (refine RW.boxN hs rfl rfl ?_; intro b1 w1 hs)
    refine Zerun ?_
    (refine RW.call T hs rfl rfl rfl (refCount_con 3000 (k + 1) _ p _ _ hp') ?_; intro v h2 w2 hle2 hp2 hs)
    obtain ⟨r, rfl⟩ := hp2
    by_cases c1 : r ≤ 2000
    · refine Zerun ?_
      (refine RW.call T hs rfl rfl rfl (refCheck_con (k + 1) _ p _ _ (PlainAt.mono (k + 1) _ _ _ _ hle2 hp')) ?_; intro v h3 w3 hle3 hp3 hs)
      subst hp3
      refine Zerun ?_
      exact retQ_ret [_] h3 ⟨rfl, trivial⟩ hs.dropAll ⟨_, rfl, fun e => of_decide_eq_true e⟩
    · refine Zerun ?_
      exact retQ_ret [_] h2 ⟨rfl, trivial⟩ hs.dropAll ⟨_, rfl, fun e => by cases e⟩
theorem tidy5 : tidyF 4617315517961601024 := ⟨by omega, by decide, by omega⟩
theorem tidy6 : tidyF 4618441417868443648 := ⟨by omega, by decide, by omega⟩
theorem tidy7 : tidyF 4619567317775286272 := ⟨by omega, by decide, by omega⟩
theorem l567 : ∀ u ∈ [4617315517961601024, 4618441417868443648, 4619567317775286272], tidyF u := by
  intro u hu
  simp only [List.mem_cons, List.not_mem_nil, or_false] at hu
  rcases hu with rfl | rfl | rfl
  · exact tidy5
  · exact tidy6
  · exact tidy7
theorem awake08_con (w : World) (h : GHeap) : Con Try.prog 64 [] w h (fun _ u => u = .bool true) := by
  refine Con.of_body Try.func64 rfl Try.ntmps64 rfl rfl ?_
  intro hs
  refine Zrun ?_
  (refine RW.lit T hs (vs := [.float .f64 4617315517961601024, .float .f64 4618441417868443648, .float .f64 4619567317775286272]) rfl rfl rfl rfl (by simp [Value.cells]) rfl rfl rfl rfl rfl ?_; intro b1 w1 hs)
  obtain ⟨h1, hle1, hs, hS1⟩ := hs.freeze
  have hF1 : FAt h1 (.slice (some ⟨b1, 0, none⟩) 3 3) [4617315517961601024, 4618441417868443648, 4619567317775286272] := RowAt.of_sl hS1
  (refine RW.call T hs rfl rfl rfl (sqNumbers_con (R := ArrAt 1) (ArrAt.mono 1) _ _ _ _ hF1 (fun u hu => (l567 u hu).1) (by decide)) ?_; intro v h2 w2 hle2 hp2 hs)
  obtain ⟨cs2, ok, rfl, hok, hv2⟩ := hp2
  obtain rfl : ok = true := by rw [hok]; exact decide_eq_true (fun u hu => (l567 u hu).2.1)
  rw [if_pos rfl] at hv2
  have eN : [4617315517961601024, 4618441417868443648, 4619567317775286272].map tidyW = [4617315517961601024, 4618441417868443648, 4619567317775286272] := by
    simp only [List.map_cons, List.map_nil]
    unfold tidyW
    rw [tidySpec_of _ tidy5, tidySpec_of _ tidy6, tidySpec_of _ tidy7]
  rw [eN] at hv2
  have hlb := leastN_bounds [4617315517961601024, 4618441417868443648, 4619567317775286272]
  generalize leastN [4617315517961601024, 4618441417868443648, 4619567317775286272] = ln at hv2 hlb
  have hv2' := hv2
  obtain ⟨wv, nv, sm, il, fl, ch, bx, ⟨rfl, hoc2⟩, _⟩ := hv2
  refine Zerun ?_
  (refine RW.allocN T hs rfl rfl rfl rfl ?_; intro b3 w3 hs)
  (refine RW.storeAll T hs 0 rfl rfl rfl rfl rfl rfl hoc2 rfl ?_; intro w4 hs)
  refine Zerun ?_
  (refine RW.lit T hs (vs := [.int .i64 2, .int .i64 (-1), .int .i64 0]) rfl rfl rfl rfl (by simp [Value.cells]) rfl rfl rfl rfl rfl ?_; intro b5 w5 hs)
  obtain ⟨h5, hle5, hs, hS5⟩ := hs.freeze
  have hI5 : IntsAt h5 (.slice (some ⟨b5, 0, none⟩) 3 3) [2, -1, 0] := IntsAt.of_sl hS5
  (refine RW.call T hs rfl rfl rfl (flatPick_con (ArrAt.mono 1) (ArrAt.one 1) (ArrAt.siz 1) (blankA 0) (fun w h => flatBlank_con (ArrAt.mono 0) (ArrAt.one 0) w h) _ _ _ [2, -1, 0] _ _ (hv2'.mono (ArrAt.mono 1) hle5) hI5 (by decide) (by simp [VecD.len]) (by dsimp only; omega)) ?_; intro v h6 w6 hle6 hp6 hs)
  obtain ⟨cs6, rfl, hv6⟩ := hp6
  have hpf := pick_facts (⟨ln, [4617315517961601024, 4618441417868443648, 4619567317775286272], [], []⟩ : VecD (AD 1)) [2, -1, 0] (blankA 0)
  have hpc := pick_cls (⟨ln, [4617315517961601024, 4618441417868443648, 4619567317775286272], [], []⟩ : VecD (AD 1)) [2, -1, 0] (blankA 0)
  have hcl : (⟨ln, [4617315517961601024, 4618441417868443648, 4619567317775286272], [], []⟩ : VecD (AD 1)).cls = 0 := by unfold VecD.cls; dsimp only; rw [if_neg (by omega), if_neg (by omega)]
  rw [hcl] at hpc
  have hit : itemsV (plain 1) (⟨ln, [4617315517961601024, 4618441417868443648, 4619567317775286272], [], []⟩ : VecD (AD 1)) = [⟨0, 4617315517961601024, 0, []⟩, ⟨0, 4618441417868443648, 0, []⟩, ⟨0, 4619567317775286272, 0, []⟩] := by unfold itemsV; rw [hcl]; rfl
  have hpi : itemsV (plain 1) (VecD.pick (⟨ln, [4617315517961601024, 4618441417868443648, 4619567317775286272], [], []⟩ : VecD (AD 1)) [2, -1, 0] (blankA 0)) = [⟨0, 4619567317775286272, 0, []⟩, ⟨0, 0, 0, []⟩, ⟨0, 4617315517961601024, 0, []⟩] :=
    pick_items' (β := PD 0) (plain 1) _ [2, -1, 0] (blankA 0) _ 0 hit hcl rfl
  have hv6' := hv6
  generalize VecD.pick (⟨ln, [4617315517961601024, 4618441417868443648, 4619567317775286272], [], []⟩ : VecD (AD 1)) [2, -1, 0] (blankA 0) = pv at *
  obtain ⟨wv6, nv6, sm6, il6, fl6, ch6, bx6, ⟨rfl, hoc6⟩, _⟩ := hv6
  refine Zerun ?_
  (refine RW.allocN T hs rfl rfl rfl rfl ?_; intro b7 w7 hs)
  (refine RW.storeAll T hs 0 rfl rfl rfl rfl rfl rfl hoc6 rfl ?_; intro w8 hs)
  refine Zerun ?_
  refine RW.val (Y.build T rfl rfl rfl rfl rfl rfl rfl) rfl ?_
  refine Zerun ?_
  refine RW.val (Y.build T rfl rfl rfl rfl rfl rfl rfl) rfl ?_
  refine Zerun ?_
  refine RW.val (Y.build T rfl rfl rfl rfl rfl rfl rfl) rfl ?_
  refine Zerun ?_
  (refine RW.lit T hs (vs := [.agg [.int .i64 0, .float .f64 4619567317775286272, .int .i32 0, .slice none 0 0].toArray, .agg [.int .i64 0, .float .f64 0, .int .i32 0, .slice none 0 0].toArray, .agg [.int .i64 0, .float .f64 4617315517961601024, .int .i32 0, .slice none 0 0].toArray]) (cs := [.int .i64 0, .float .f64 4619567317775286272, .int .i32 0, .slice none 0 0] ++ ([.int .i64 0, .float .f64 0, .int .i32 0, .slice none 0 0] ++ [.int .i64 0, .float .f64 4617315517961601024, .int .i32 0, .slice none 0 0])) rfl rfl rfl rfl (by simp [Value.cells]) rfl rfl rfl rfl rfl ?_; intro b9 w9 hs)
  obtain ⟨h10, hle10, hs, hS10⟩ := hs.freeze
  have hr10 : RowsAt 4 (ItemAt (PlainAt 1) h10) h10 (.slice (some ⟨b9, 0, none⟩) 3 3) [⟨0, 4619567317775286272, 0, []⟩, ⟨0, 0, 0, []⟩, ⟨0, 4617315517961601024, 0, []⟩] := by
    refine ⟨_, _, _, rfl, hS10, ?_⟩
    refine ⟨rfl, ⟨_, rfl, RowsAt.nil _, by decide⟩, rfl, ⟨_, rfl, RowsAt.nil _, by decide⟩, rfl, ⟨_, rfl, RowsAt.nil _, by decide⟩, rfl⟩
  refine Zerun ?_
  have htt : ∀ x ∈ ([⟨0, 4619567317775286272, 0, []⟩, ⟨0, 0, 0, []⟩, ⟨0, 4617315517961601024, 0, []⟩] : List (ItemD (PD 1))), tdyIt (tdy 1) x := by
    intro x hx
    simp only [List.mem_cons, List.not_mem_nil, or_false] at hx
    rcases hx with rfl | rfl | rfl
    · exact ⟨tidy7, fun b hb => by cases hb⟩
    · exact ⟨tidy0, fun b hb => by cases hb⟩
    · exact ⟨tidy5, fun b hb => by cases hb⟩
  have hsb : ∀ b ∈ pv.boxes, sml 1 b := by
    intro b hb
    rcases hpf.2.2.2 b hb with e | e
    · cases e
    · rw [e]; exact blankA_sml 0
  (refine RW.call T hs rfl rfl rfl (shows_con 1 _ _ _ _ 0 _ _ (hv6'.mono (ArrAt.mono 1) hle10) hr10 hpc hpf.1 hpf.2.1 (by rw [hpf.2.2.1]; decide) hsb hpi htt) ?_; intro v h11 w11 hle11 hp11 hs)
  subst hp11
  refine Zerun ?_
  exact retQ_ret [_] h11 ⟨rfl, trivial⟩ hs.dropAll rfl
theorem flatPicksLaw_con (k : Nat) (cs : List Value) (p : PD (k + 2)) (v1 : Value) (at_ : List Int) (w : World) (h : GHeap) (hp : PlainAt (k + 2) h cs p) (ha : IntsAt h v1 at_) : Con Try.prog 10 [.agg cs.toArray, v1] w h (fun _ u => u = .bool true) := by
  have hp' := hp
  have ha' := ha
  obtain ⟨s, it, rfl, ⟨ad, cp, rfl, _⟩, ⟨ad2, cp2, xs, rfl, _, _⟩⟩ := hp
  obtain ⟨ad1, cp1, rfl, _⟩ := ha
  refine Con.of_body Try.func10 rfl Try.ntmps10 rfl rfl ?_
  intro hs
  refine Zrun ?_
  (refine RW.boxN hs rfl rfl ?_; intro b1 w1 hs)
  refine Zerun ?_
  (refine RW.call T hs rfl rfl rfl (good08_con (k + 2) _ p _ _ hp') ?_; intro v h2 w2 hle2 hp2 hs)
  obtain ⟨b, rfl, hb⟩ := hp2
  have hp' := PlainAt.mono (k + 2) _ _ _ _ hle2 hp'
  have ha' := ha'.mono hle2
  cases b with
  | false =>
    refine Zerun ?_
    (refine RW.call T hs rfl rfl rfl (awake08_con _ _) ?_; intro v h3 w3 hle3 hp3 hs)
    subst hp3
    refine Zerun ?_
    exact retQ_ret [_] h3 ⟨rfl, trivial⟩ hs.dropAll rfl
  | true =>
  have hc := hb rfl
  by_cases c1 : 300 < at_.length
  · refine Zerun ?_
    (refine RW.call T hs rfl rfl rfl (awake08_con _ _) ?_; intro v h3 w3 hle3 hp3 hs)
    subst hp3
    refine Zerun ?_
    exact retQ_ret [_] h3 ⟨rfl, trivial⟩ hs.dropAll rfl
  refine Zerun ?_
  (refine RW.call T hs rfl rfl rfl (refTidyP_con (k + 2) 40 _ p _ _ hp' hc) ?_; intro v h3 w3 hle3 hp3 hs)
  obtain ⟨cs3, rfl, hq3⟩ := hp3
  have htd := tidy_tdy (k + 2) 40 p _ _ hp' hc
  have hp' := PlainAt.mono (k + 2) _ _ _ _ hle3 hp'
  have ha' := ha'.mono hle3
  obtain ⟨s3, it3, rfl, ⟨ad3, cp3, rfl, _⟩, hit'⟩ := hq3
  have hit'' := hit'
  obtain ⟨ad4, cp4, xs4, rfl, _, _⟩ := hit''
  refine Zerun ?_
  (refine RW.allocN T hs rfl rfl rfl rfl ?_; intro b4 w4 hs)
  (refine RW.storeAll T hs 0 rfl rfl rfl rfl rfl rfl rfl rfl ?_; intro w5 hs)
  refine Zerun ?_
  have hgood := good_arr (k + 2) 40 p hc
  have hsml := good_sml (k + 2) 40 _ hgood
  have hfl : (ArrD.vec (α := AD (k + 1)) (arr (k + 2) p)).cls = PlainD.fill (α := PD (k + 1)) p := by
    obtain ⟨_, h2, h3, _, _⟩ := (chkP_ok (α := PD (k + 1)) _ _ _).1 hc
    exact cls_arrV (arr (k + 1)) _ _ h2 h3
  have hlen := hsml.2.1
  have hkn := hgood.2.1
  have hpf := pick_facts (ArrD.vec (α := AD (k + 1)) (arr (k + 2) p)) at_ (blankA k)
  have hS1 : ((ArrD.vec (α := AD (k + 1)) (arr (k + 2) p)).pick at_ (blankA k)).cls = PlainD.fill (α := PD (k + 1)) p := by rw [pick_cls, hfl]
  have hS2 := hpf.1
  have hS3 := hpf.2.1
  have hS4 : ((ArrD.vec (α := AD (k + 1)) (arr (k + 2) p)).pick at_ (blankA k)).len ≤ 1048576 := by rw [hpf.2.2.1]; omega
  have hS5 : ∀ b ∈ ((ArrD.vec (α := AD (k + 1)) (arr (k + 2) p)).pick at_ (blankA k)).boxes, sml (k + 1) b := by
    intro b hb
    rcases hpf.2.2.2 b hb with e | e
    · exact hsml.2.2 b e
    · rw [e]; exact blankA_sml k
  have hS7 : ∀ x ∈ at_.map (fun i => atD (PlainD.items (α := PD (k + 1)) (tidy (k + 2) p)) i (blankI (PlainD.fill (α := PD (k + 1)) p) : ItemD (PlainD (PD k)))), tdyIt (tdy (k + 1)) x := by
    intro x hx
    obtain ⟨i, _, rfl⟩ := List.mem_map.1 hx
    rcases atD_mem (PlainD.items (α := PD (k + 1)) (tidy (k + 2) p)) i (blankI (PlainD.fill (α := PD (k + 1)) p) : ItemD (PlainD (PD k))) with e | e
    · exact htd _ e
    · rw [e]; exact blankI_tdy k _
  have hS6 : itemsV (plain (k + 1)) ((ArrD.vec (α := AD (k + 1)) (arr (k + 2) p)).pick at_ (blankA k)) = at_.map (fun i => atD (PlainD.items (α := PD (k + 1)) (tidy (k + 2) p)) i (blankI (PlainD.fill (α := PD (k + 1)) p) : ItemD (PlainD (PD k)))) := by
    exact pick_items' (β := PD k) (plain (k + 1)) _ at_ (blankA k) _ _ (congrArg (PlainD.items (α := PD (k + 1))) (plain_arr (k + 2) 40 p hc)) hfl rfl
  refine CW.regionO T hs ?_
  intro w6 hs
  refine HW.takeS (fuel := 24) 0 rfl (fun _ _ hs => Y.loadRowN T hs 1 rfl rfl rfl rfl rfl rfl rfl) hs rfl (by kernel_rfl) (by kernel_rfl) (by kernel_rfl) ?_
  refine HW.takeS (fuel := 23) 3 rfl (fun _ _ hs => Y.move rfl) hs rfl (by kernel_rfl) (by kernel_rfl) (by kernel_rfl) ?_
  refine HW.takeS (fuel := 22) 5 rfl (fun _ _ hs => Y.fieldAddr T rfl rfl rfl rfl rfl) hs rfl (by kernel_rfl) (by kernel_rfl) (by kernel_rfl) ?_
  refine HW.takeS (fuel := 21) 6 rfl (fun _ _ hs => Y.loadRow1 T hs 0 rfl rfl rfl rfl rfl) hs rfl (by kernel_rfl) (by kernel_rfl) (by kernel_rfl) ?_
  refine HW.takeS (fuel := 20) 7 rfl (fun _ _ hs => Y.fieldAddr T rfl rfl rfl rfl rfl) hs rfl (by kernel_rfl) (by kernel_rfl) (by kernel_rfl) ?_
  refine HW.takeS (fuel := 19) 8 rfl (fun _ _ hs => Y.loadRow1 T hs 1 rfl rfl rfl rfl rfl) hs rfl (by kernel_rfl) (by kernel_rfl) (by kernel_rfl) ?_
  refine HW.takeS (fuel := 18) 9 rfl (fun _ _ hs => Y.move rfl) hs rfl (by kernel_rfl) (by kernel_rfl) (by kernel_rfl) ?_
  refine HW.takeS (fuel := 17) 11 rfl (fun _ _ hs => Y.fieldAddr T rfl rfl rfl rfl rfl) hs rfl (by kernel_rfl) (by kernel_rfl) (by kernel_rfl) ?_
  refine HW.takeS (fuel := 16) 12 rfl (fun _ _ hs => Y.loadRow1 T hs 1 rfl rfl rfl rfl rfl) hs rfl (by kernel_rfl) (by kernel_rfl) (by kernel_rfl) ?_
  refine HW.one (fuel := 15) 1 rfl (by kernel_rfl) ?_
  (refine RW.call T hs rfl rfl rfl (of07_con (k + 2) _ p _ _ hp' hc) ?_; intro v h18 w18 hle18 hp18 hs)
  obtain ⟨cs18, rfl, _, _, s18, vc18, rfl, _, hv18⟩ := hp18
  have hvs18 := hv18.size
  have hit' := hit'.mono hle18 (fun u a => ItemAt.mono (PlainAt.mono (k + 1)) _ _ u a hle18)
  have ha' := ha'.mono hle18
  refine RW.nil ?_
  refine heldQ_normal ⟨_, hs⟩ ?_
  refine HW.takeS (fuel := 14) 2 rfl (fun _ _ hs => Y.fieldVec T rfl rfl rfl rfl rfl rfl hvs18) hs rfl (by kernel_rfl) (by kernel_rfl) (by kernel_rfl) ?_
  refine HW.one (fuel := 13) 4 rfl (by kernel_rfl) ?_
  (refine RW.call T hs rfl rfl rfl (flatPick_con (ArrAt.mono (k + 1)) (ArrAt.one (k + 1)) (ArrAt.siz (k + 1)) (blankA k) (fun w h => flatBlank_con (ArrAt.mono k) (ArrAt.one k) w h) _ _ _ at_ _ _ hv18 ha' (by omega) hlen hkn) ?_; intro v h21 w21 hle21 hp21 hs)
  obtain ⟨cs21, rfl, hv21⟩ := hp21
  have hit' := hit'.mono hle21 (fun u a => ItemAt.mono (PlainAt.mono (k + 1)) _ _ u a hle21)
  have ha' := ha'.mono hle21
  refine RW.nil ?_
  refine heldQ_normal ⟨_, hs⟩ ?_
  refine HW.one (fuel := 12) 10 rfl (by kernel_rfl) ?_
  (refine RW.call T hs rfl rfl rfl (refPick08_con (PlainAt.mono k) _ _ _ (PlainD.fill (α := PD (k + 1)) p) at_ _ _ hit' ha' (by omega)) ?_; intro v h27 w27 hle27 hp27 hs)
  have hv21 := hv21.mono (ArrAt.mono (k + 1)) hle27
  refine RW.nil ?_
  refine heldQ_normal ⟨_, hs⟩ ?_
  refine HW.one (fuel := 11) 13 rfl (by kernel_rfl) ?_
  (refine RW.call T hs rfl rfl rfl (shows_con (k + 1) _ _ _ _ _ _ _ hv21 hp27 hS1 hS2 hS3 hS4 hS5 hS6 hS7) ?_; intro v h30 w30 hle30 hp30 hs)
  subst hp30
  refine RW.nil ?_
  refine heldQ_normal ⟨_, hs⟩ ?_
  refine HW.takeS (fuel := 10) 14 rfl (fun _ _ hs => Y.move rfl) hs rfl (by kernel_rfl) (by kernel_rfl) (by kernel_rfl) ?_
  refine HW.two (fuel := 9) 15 17 rfl rfl (by kernel_rfl) ?_ ?_
  · refine RW.guardYes rfl rfl ?_
    (refine RW.call T hs rfl rfl rfl (flatBlank_con (ArrAt.mono k) (ArrAt.one k) _ _) ?_; intro v h32 w32 hle32 hp32 hs)
    obtain ⟨cs32, rfl, ha32⟩ := hp32
    have ha32 : ArrAt (k + 1) h32 cs32 (blankA k) := ha32
    refine RW.nil ?_
    refine heldQ_normal ⟨_, hs⟩ ?_
    refine HW.two (fuel := 8) 16 17 rfl rfl (by kernel_rfl) ?_ ?_
    · refine RW.guardYes rfl rfl ?_
      (refine RW.call T hs rfl rfl rfl (plainV_con (k + 1) _ _ _ _ ha32 (blankA_sml k)) ?_; intro v h33 w33 hle33 hp33 hs)
      obtain ⟨cs33, rfl, hq33⟩ := hp33
      rw [blankA_plain] at hq33
      refine RW.nil ?_
      refine heldQ_normal ⟨_, hs⟩ ?_
      refine HW.one (fuel := 7) 17 rfl (by kernel_rfl) ?_
      refine RW.guardYes rfl rfl ?_
      (refine RW.lit T hs (vs := [.int .i64 0]) (cs := [.int .i64 0]) rfl rfl rfl rfl (by simp [Value.cells]) rfl rfl rfl rfl rfl ?_; intro b34 w34 hs)
      obtain ⟨h34, hle34, hs, hS34⟩ := hs.freeze
      have hq34 : PlainAt (k + 1) h34 [.slice (some ⟨b34, 0, none⟩) 1 1, .slice none 0 0, .int .i64 0] (blankP k) := ⟨_, _, rfl, IntsAt.of_sl hS34, RowsAt.nil _⟩
      have hq33 := PlainAt.mono (k + 1) _ _ _ _ hle34 hq33
      refine RW.nil ?_
      refine heldQ_normal ⟨_, hs⟩ ?_
      refine HW.takeSY (fuel := 6) 18 rfl rfl rfl (fun _ _ hs => Y.build T rfl rfl rfl rfl rfl rfl rfl) hs rfl (by kernel_rfl) (by kernel_rfl) (by kernel_rfl) ?_
      refine HW.one (fuel := 5) 19 rfl (by kernel_rfl) ?_
      refine RW.guardYes rfl rfl ?_
      (refine RW.call T hs rfl rfl rfl (refSame_con (k + 1) _ _ _ _ _ _ hq33 hq34 (blankP_tdy k) (blankP_tdy k)) ?_; intro v h36 w36 hle36 hp36 hs)
      subst hp36
      rw [eqB_of (show blankP k = blankP k from rfl)]
      refine RW.nil ?_
      refine heldQ_normal ⟨_, hs⟩ ?_
      refine HW.takeS (fuel := 4) 20 rfl (fun _ _ hs => Y.pickB rfl rfl rfl) hs rfl (by kernel_rfl) (by kernel_rfl) (by kernel_rfl) ?_
      refine HW.takeS (fuel := 3) 21 rfl (fun _ _ hs => Y.move rfl) hs rfl (by kernel_rfl) (by kernel_rfl) (by kernel_rfl) ?_
      refine HW.one (fuel := 2) 22 rfl (by kernel_rfl) ?_
      refine RW.guardYes rfl rfl ?_
      (refine RW.call T hs rfl rfl rfl (awake08_con _ _) ?_; intro v h39 w39 hle39 hp39 hs)
      subst hp39
      refine RW.nil ?_
      refine heldQ_normal ⟨_, hs⟩ ?_
      refine HW.takeS (fuel := 1) 23 rfl (fun _ _ hs => Y.pickB rfl rfl rfl) hs rfl (by kernel_rfl) (by kernel_rfl) (by kernel_rfl) ?_
      refine HW.takeS (fuel := 0) 24 rfl (fun _ _ hs => Y.assign rfl) hs rfl (by kernel_rfl) (by kernel_rfl) (by kernel_rfl) ?_
      refine HW.done (by kernel_rfl) ?_
      refine calmQ_normal ?_
      refine Zerun ?_
      exact retQ_ret [_] h39 ⟨rfl, trivial⟩ hs.dropAll rfl
    · refine RW.guardYes rfl rfl ?_
      (refine RW.lit T hs (vs := [.int .i64 0]) (cs := [.int .i64 0]) rfl rfl rfl rfl (by simp [Value.cells]) rfl rfl rfl rfl rfl ?_; intro b34 w34 hs)
      obtain ⟨h34, hle34, hs, hS34⟩ := hs.freeze
      have hq34 : PlainAt (k + 1) h34 [.slice (some ⟨b34, 0, none⟩) 1 1, .slice none 0 0, .int .i64 0] (blankP k) := ⟨_, _, rfl, IntsAt.of_sl hS34, RowsAt.nil _⟩
      have ha32 := ArrAt.mono (k + 1) _ _ _ _ hle34 ha32
      refine RW.nil ?_
      refine heldQ_normal ⟨_, hs⟩ ?_
      refine HW.takeSY (fuel := 7) 18 rfl rfl rfl (fun _ _ hs => Y.build T rfl rfl rfl rfl rfl rfl rfl) hs rfl (by kernel_rfl) (by kernel_rfl) (by kernel_rfl) ?_
      refine HW.one (fuel := 6) 16 rfl (by kernel_rfl) ?_
      refine RW.guardYes rfl rfl ?_
      (refine RW.call T hs rfl rfl rfl (plainV_con (k + 1) _ _ _ _ ha32 (blankA_sml k)) ?_; intro v h33 w33 hle33 hp33 hs)
      obtain ⟨cs33, rfl, hq33⟩ := hp33
      rw [blankA_plain] at hq33
      have hq34 := PlainAt.mono (k + 1) _ _ _ _ hle33 hq34
      refine RW.nil ?_
      refine heldQ_normal ⟨_, hs⟩ ?_
      refine HW.one (fuel := 5) 19 rfl (by kernel_rfl) ?_
      refine RW.guardYes rfl rfl ?_
      (refine RW.call T hs rfl rfl rfl (refSame_con (k + 1) _ _ _ _ _ _ hq33 hq34 (blankP_tdy k) (blankP_tdy k)) ?_; intro v h36 w36 hle36 hp36 hs)
      subst hp36
      rw [eqB_of (show blankP k = blankP k from rfl)]
      refine RW.nil ?_
      refine heldQ_normal ⟨_, hs⟩ ?_
      refine HW.takeS (fuel := 4) 20 rfl (fun _ _ hs => Y.pickB rfl rfl rfl) hs rfl (by kernel_rfl) (by kernel_rfl) (by kernel_rfl) ?_
      refine HW.takeS (fuel := 3) 21 rfl (fun _ _ hs => Y.move rfl) hs rfl (by kernel_rfl) (by kernel_rfl) (by kernel_rfl) ?_
      refine HW.one (fuel := 2) 22 rfl (by kernel_rfl) ?_
      refine RW.guardYes rfl rfl ?_
      (refine RW.call T hs rfl rfl rfl (awake08_con _ _) ?_; intro v h39 w39 hle39 hp39 hs)
      subst hp39
      refine RW.nil ?_
      refine heldQ_normal ⟨_, hs⟩ ?_
      refine HW.takeS (fuel := 1) 23 rfl (fun _ _ hs => Y.pickB rfl rfl rfl) hs rfl (by kernel_rfl) (by kernel_rfl) (by kernel_rfl) ?_
      refine HW.takeS (fuel := 0) 24 rfl (fun _ _ hs => Y.assign rfl) hs rfl (by kernel_rfl) (by kernel_rfl) (by kernel_rfl) ?_
      refine HW.done (by kernel_rfl) ?_
      refine calmQ_normal ?_
      refine Zerun ?_
      exact retQ_ret [_] h39 ⟨rfl, trivial⟩ hs.dropAll rfl
  · refine RW.guardYes rfl rfl ?_
    (refine RW.lit T hs (vs := [.int .i64 0]) (cs := [.int .i64 0]) rfl rfl rfl rfl (by simp [Value.cells]) rfl rfl rfl rfl rfl ?_; intro b34 w34 hs)
    obtain ⟨h34, hle34, hs, hS34⟩ := hs.freeze
    have hq34 : PlainAt (k + 1) h34 [.slice (some ⟨b34, 0, none⟩) 1 1, .slice none 0 0, .int .i64 0] (blankP k) := ⟨_, _, rfl, IntsAt.of_sl hS34, RowsAt.nil _⟩
    refine RW.nil ?_
    refine heldQ_normal ⟨_, hs⟩ ?_
    refine HW.takeSY (fuel := 8) 18 rfl rfl rfl (fun _ _ hs => Y.build T rfl rfl rfl rfl rfl rfl rfl) hs rfl (by kernel_rfl) (by kernel_rfl) (by kernel_rfl) ?_
    refine HW.one (fuel := 7) 15 rfl (by kernel_rfl) ?_
    refine RW.guardYes rfl rfl ?_
    (refine RW.call T hs rfl rfl rfl (flatBlank_con (ArrAt.mono k) (ArrAt.one k) _ _) ?_; intro v h32 w32 hle32 hp32 hs)
    obtain ⟨cs32, rfl, ha32⟩ := hp32
    have ha32 : ArrAt (k + 1) h32 cs32 (blankA k) := ha32
    have hq34 := PlainAt.mono (k + 1) _ _ _ _ hle32 hq34
    refine RW.nil ?_
    refine heldQ_normal ⟨_, hs⟩ ?_
    refine HW.one (fuel := 6) 16 rfl (by kernel_rfl) ?_
    refine RW.guardYes rfl rfl ?_
    (refine RW.call T hs rfl rfl rfl (plainV_con (k + 1) _ _ _ _ ha32 (blankA_sml k)) ?_; intro v h33 w33 hle33 hp33 hs)
    obtain ⟨cs33, rfl, hq33⟩ := hp33
    rw [blankA_plain] at hq33
    have hq34 := PlainAt.mono (k + 1) _ _ _ _ hle33 hq34
    refine RW.nil ?_
    refine heldQ_normal ⟨_, hs⟩ ?_
    refine HW.one (fuel := 5) 19 rfl (by kernel_rfl) ?_
    refine RW.guardYes rfl rfl ?_
    (refine RW.call T hs rfl rfl rfl (refSame_con (k + 1) _ _ _ _ _ _ hq33 hq34 (blankP_tdy k) (blankP_tdy k)) ?_; intro v h36 w36 hle36 hp36 hs)
    subst hp36
    rw [eqB_of (show blankP k = blankP k from rfl)]
    refine RW.nil ?_
    refine heldQ_normal ⟨_, hs⟩ ?_
    refine HW.takeS (fuel := 4) 20 rfl (fun _ _ hs => Y.pickB rfl rfl rfl) hs rfl (by kernel_rfl) (by kernel_rfl) (by kernel_rfl) ?_
    refine HW.takeS (fuel := 3) 21 rfl (fun _ _ hs => Y.move rfl) hs rfl (by kernel_rfl) (by kernel_rfl) (by kernel_rfl) ?_
    refine HW.one (fuel := 2) 22 rfl (by kernel_rfl) ?_
    refine RW.guardYes rfl rfl ?_
    (refine RW.call T hs rfl rfl rfl (awake08_con _ _) ?_; intro v h39 w39 hle39 hp39 hs)
    subst hp39
    refine RW.nil ?_
    refine heldQ_normal ⟨_, hs⟩ ?_
    refine HW.takeS (fuel := 1) 23 rfl (fun _ _ hs => Y.pickB rfl rfl rfl) hs rfl (by kernel_rfl) (by kernel_rfl) (by kernel_rfl) ?_
    refine HW.takeS (fuel := 0) 24 rfl (fun _ _ hs => Y.assign rfl) hs rfl (by kernel_rfl) (by kernel_rfl) (by kernel_rfl) ?_
    refine HW.done (by kernel_rfl) ?_
    refine calmQ_normal ?_
    refine Zerun ?_
    exact retQ_ret [_] h39 ⟨rfl, trivial⟩ hs.dropAll rfl
end Go.Proofs.Ythbfkhklihejiaa

/-
  Contracts of the law's own functions of layer 8: elements picked, and picked again. No statement is proved here.
-/
namespace Go.Proofs.Ythbfkhklihejiaa
open Go Go.RowKit
set_option linter.unusedVariables false
set_option linter.unusedSimpArgs false
set_option maxHeartbeats 4000000
attribute [local irreducible] CW RW QW SW HW ConM retM heldQ calmQ elemP thenQ blockQ loopQ joinQ retQ Yields Con Sl zF magR unitF truncF fwF wholeF tidySpec elemQ rankF leastN tidyW
set_option maxHeartbeats 4000000

theorem u8_range {u : Int} (h : (Lit.int .u8 u).wf = true) : 0 ≤ u ∧ u ≤ 255 := by
  simp [Lit.wf, IntKind.min, IntKind.max, IntKind.signed, IntKind.bits] at h
  omega
/-- places among places, and what they come to -/
def kL (more at_ : List Int) : List Int := more.map fun u => u % (at_.length : Int)
def bL (more at_ : List Int) : List Int := more.map fun u => at_.getD (u % (at_.length : Int)).toNat 0
theorem kL_items {γ : Type} (more at_ : List Int) (h0 : at_.length ≠ 0) (L : List γ) (d : γ) : (kL more at_).map (fun i => atD (at_.map fun j => atD L j d) i d) = (bL more at_).map (fun i => atD L i d) := by
  unfold kL bL
  rw [List.map_map, List.map_map]
  apply List.map_congr_left
  intro u _
  have h1 : 0 ≤ u % (at_.length : Int) := Int.emod_nonneg _ (by omega)
  have h2 : u % (at_.length : Int) < at_.length := Int.emod_lt_of_pos _ (by omega)
  simp only [Function.comp]
  rw [atD_in ⟨h1, by simpa using h2⟩]
  have h3 : (u % (at_.length : Int)).toNat < at_.length := by omega
  rw [getD_map (fun j => atD L j d) at_ _ 0 d h3]
theorem flatTwiceLaw_con (k : Nat) (cs : List Value) (p : PD (k + 2)) (v1 v2 : Value) (at_ more : List Int) (w : World) (h : GHeap) (hp : PlainAt (k + 2) h cs p) (ha : IntsAt h v1 at_) (hmo : KAt .u8 h v2 more) (hu : ∀ u ∈ more, 0 ≤ u ∧ u ≤ 255) : Con Try.prog 11 [.agg cs.toArray, v1, v2] w h (fun _ u => u = .bool true) := by
  have hp' := hp
  have ha' := ha
  obtain ⟨s, it, rfl, ⟨ad, cp, rfl, _⟩, ⟨ad2, cp2, xs, rfl, _, _⟩⟩ := hp
  obtain ⟨ad1, cp1, rfl, hS1⟩ := ha
  obtain ⟨ad3, cp3, rfl, hS3⟩ := hmo
  refine Con.of_body Try.func11 rfl Try.ntmps11 rfl rfl ?_
  intro hs
  refine Zrun ?_
  (refine RW.boxN hs rfl rfl ?_; intro b1 w1 hs)
  refine Zerun ?_
  (refine RW.call T hs rfl rfl rfl (good08_con (k + 2) _ p _ _ hp') ?_; intro v h2 w2 hle2 hp2 hs)
  obtain ⟨b, rfl, hb⟩ := hp2
  have hp' := PlainAt.mono (k + 2) _ _ _ _ hle2 hp'
  have ha' := ha'.mono hle2
  have hS1 := hS1.mono hle2
  have hS3 := hS3.mono hle2
  cases b with
  | false =>
    refine Zerun ?_
    (refine RW.call T hs rfl rfl rfl (awake08_con _ _) ?_; intro v h3 w3 hle3 hp3 hs)
    subst hp3
    refine Zerun ?_
    exact retQ_ret [_] h3 ⟨rfl, trivial⟩ hs.dropAll rfl
  | true =>
  have hc := hb rfl
  by_cases c1 : 200 < at_.length
  · refine Zerun ?_
    (refine RW.call T hs rfl rfl rfl (awake08_con _ _) ?_; intro v h3 w3 hle3 hp3 hs)
    subst hp3
    refine Zerun ?_
    exact retQ_ret [_] h3 ⟨rfl, trivial⟩ hs.dropAll rfl
  by_cases c2 : 200 < more.length
  · refine Zerun ?_
    (refine RW.call T hs rfl rfl rfl (awake08_con _ _) ?_; intro v h3 w3 hle3 hp3 hs)
    subst hp3
    refine Zerun ?_
    exact retQ_ret [_] h3 ⟨rfl, trivial⟩ hs.dropAll rfl
  by_cases c3 : at_.length = 0
  · refine Zerun ?_
    (refine RW.call T hs rfl rfl rfl (awake08_con _ _) ?_; intro v h3 w3 hle3 hp3 hs)
    subst hp3
    refine Zerun ?_
    exact retQ_ret [_] h3 ⟨rfl, trivial⟩ hs.dropAll rfl
  refine Zerun ?_
  have hs := (hs.nilRow 3 1).nilRow 3 1
  refine CW.loop (fun u : Nat × (Option Addr × Nat) × (Option Addr × Nat) => [(1, .slice ad1 at_.length cp1), (2, .slice ad3 more.length cp3), (3, .pointer (some ⟨b1, 0, none⟩)), (7, .slice u.2.1.1 u.1 u.2.1.2), (8, .slice u.2.2.1 u.1 u.2.2.2), (9, .int .i64 u.1)]) (fun u w' => u.1 ≤ more.length ∧ Sees w h h2 [⟨u.2.2.1, u.1, u.2.2.2, 3, 1, (bL (more.take u.1) at_).map (Value.int .i64)⟩, ⟨u.2.1.1, u.1, u.2.1.2, 3, 1, (kL (more.take u.1) at_).map (Value.int .i64)⟩, ⟨some ⟨b1, 0, none⟩, 1, 1, 50, 3, [.slice ad p.shape.length cp, .slice ad2 p.items.length cp2, .int .i64 p.fill]⟩] w') (fun u => more.length - u.1) (0, (none, 0), (none, 0)) ⟨rfl, rfl, rfl, rfl, rfl, rfl, trivial⟩ ⟨by omega, hs⟩ ?_
  rintro ⟨i, ⟨ak, ck⟩, ⟨ab, cb⟩⟩ w5 ⟨hi, hs⟩
  dsimp only at hi hs ⊢
  by_cases hlt : i < more.length
  · have hum := hu _ (mem_getD more i 0 hlt)
    have htk := take_succ_getD more i 0 hlt
    have hm1 : 0 ≤ more.getD i 0 % (at_.length : Int) := Int.emod_nonneg _ (by omega)
    have hm2 : more.getD i 0 % (at_.length : Int) < at_.length := Int.emod_lt_of_pos _ (by omega)
    refine Zerun ?_
    refine RW.val (Y.conv64 T rfl rfl rfl (by omega)) rfl ?_
    refine Zerun ?_
    (refine RW.lit T hs (vs := [.int .i64 (more.getD i 0 % (at_.length : Int))]) (cs := [.int .i64 (more.getD i 0 % (at_.length : Int))]) rfl rfl rfl rfl (by simp [Value.cells]) rfl rfl rfl rfl rfl ?_; intro b6 w6 hs)
    (refine RW.append T hs 2 rfl rfl (m := 1) (news := [.int .i64 (more.getD i 0 % (at_.length : Int))]) rfl rfl rfl rfl rfl rfl (hs.src0 rfl (by simp [Value.oneCell'])) (by simp) (by dsimp only; omega) (by omega) ?_; intro ad7 cp7 w7 hs; replace hs := hs.drop)
    refine Zerun ?_
    refine RW.val (Y.conv64 T rfl rfl rfl (by omega)) rfl ?_
    refine Zerun ?_
    (refine RW.lit T hs (vs := [.int .i64 (at_.getD (more.getD i 0 % (at_.length : Int)).toNat 0)]) (cs := [.int .i64 (at_.getD (more.getD i 0 % (at_.length : Int)).toNat 0)]) rfl rfl rfl rfl (by simp [Value.cells]) rfl rfl rfl rfl rfl ?_; intro b8 w8 hs)
    (refine RW.append T hs 1 rfl rfl (m := 1) (news := [.int .i64 (at_.getD (more.getD i 0 % (at_.length : Int)).toNat 0)]) rfl rfl rfl rfl rfl rfl (hs.src0 rfl (by simp [Value.oneCell'])) (by simp) (by dsimp only; omega) (by omega) ?_; intro ad9 cp9 w9 hs; replace hs := hs.drop)
    refine Zerun ?_
    refine loopQ_round (i + 1, (ad7, cp7), (ad9, cp9)) ⟨rfl, rfl, rfl, rfl, rfl, rfl, trivial⟩ ⟨by dsimp only; omega, ?_⟩ (by dsimp only; omega)
    dsimp only
    have ek : (kL (more.take (i + 1)) at_).map (Value.int .i64) = (kL (more.take i) at_).map (Value.int .i64) ++ [.int .i64 (more.getD i 0 % (at_.length : Int))] := by unfold kL; rw [htk, List.map_append, List.map_append]; rfl
    have eb : (bL (more.take (i + 1)) at_).map (Value.int .i64) = (bL (more.take i) at_).map (Value.int .i64) ++ [.int .i64 (at_.getD (more.getD i 0 % (at_.length : Int)).toNat 0)] := by unfold bL; rw [htk, List.map_append, List.map_append]; rfl
    rw [ek, eb]
    exact hs
  obtain rfl : i = more.length := by omega
  rw [List.take_length] at hs
  have hkl : (kL more at_).length = more.length := by simp [kL]
  have hbl : (bL more at_).length = more.length := by simp [bL]
  obtain ⟨h6, hle6, hs, hS6⟩ := hs.freeze
  obtain ⟨h7, hle7, hs, hS7⟩ := hs.freeze
  have hbb : IntsAt h7 (.slice ab more.length cb) (bL more at_) := (IntsAt.of_sl hS6).mono hle7
  have hkk : IntsAt h7 (.slice ak more.length ck) (kL more at_) := IntsAt.of_sl hS7
  have hp' := PlainAt.mono (k + 2) _ _ _ _ (hle6.trans hle7) hp'
  have ha' := ha'.mono (hle6.trans hle7)
  refine Zerun ?_
  (refine RW.call T hs rfl rfl rfl (of07_con (k + 2) _ p _ _ hp' hc) ?_; intro v h8 w8 hle8 hp8 hs)
  obtain ⟨cs8, rfl, _, _, s8, vc8, rfl, _, hvv⟩ := hp8
  have hvs8 := hvv.size
  refine RW.val (Y.fieldVec T rfl rfl rfl rfl rfl rfl hvs8) rfl ?_
  have hp' := PlainAt.mono (k + 2) _ _ _ _ hle8 hp'
  have ha' := ha'.mono hle8
  have hbb := hbb.mono hle8
  have hkk := hkk.mono hle8
  have hvv' := hvv
  obtain ⟨wv, nv, sm, il, fl, ch, bx, ⟨rfl, hoc⟩, _⟩ := hvv'
  refine Zerun ?_
  (refine RW.allocN T hs rfl rfl rfl rfl ?_; intro b9 w9 hs)
  (refine RW.storeAll T hs 0 rfl rfl rfl rfl rfl rfl hoc rfl ?_; intro w10 hs)
  refine Zerun ?_
  have htd := tidy_tdy (k + 2) 40 p _ _ hp' hc
  have hgood := good_arr (k + 2) 40 p hc
  have hsml := good_sml (k + 2) 40 _ hgood
  have hfl : (ArrD.vec (α := AD (k + 1)) (arr (k + 2) p)).cls = PlainD.fill (α := PD (k + 1)) p := by
    obtain ⟨_, h2, h3, _, _⟩ := (chkP_ok (α := PD (k + 1)) _ _ _).1 hc
    exact cls_arrV (arr (k + 1)) _ _ h2 h3
  have hlen := hsml.2.1
  have hkn := hgood.2.1
  have hpf := pick_facts (ArrD.vec (α := AD (k + 1)) (arr (k + 2) p)) at_ (blankA k)
  have hpg := pick_facts ((ArrD.vec (α := AD (k + 1)) (arr (k + 2) p)).pick at_ (blankA k)) (kL more at_) (blankA k)
  have hS1 : (((ArrD.vec (α := AD (k + 1)) (arr (k + 2) p)).pick at_ (blankA k)).pick (kL more at_) (blankA k)).cls = PlainD.fill (α := PD (k + 1)) p := by rw [pick_cls, pick_cls, hfl]
  have hS2 := hpg.1
  have hS3 := hpg.2.1
  have hS4 : (((ArrD.vec (α := AD (k + 1)) (arr (k + 2) p)).pick at_ (blankA k)).pick (kL more at_) (blankA k)).len ≤ 1048576 := by rw [hpg.2.2.1]; omega
  have hS5 : ∀ b ∈ (((ArrD.vec (α := AD (k + 1)) (arr (k + 2) p)).pick at_ (blankA k)).pick (kL more at_) (blankA k)).boxes, sml (k + 1) b := by
    intro b hb
    rcases hpg.2.2.2 b hb with e | e
    · rcases hpf.2.2.2 b e with e | e
      · exact hsml.2.2 b e
      · rw [e]; exact blankA_sml k
    · rw [e]; exact blankA_sml k
  have hS7 : ∀ x ∈ (bL more at_).map (fun i => atD (PlainD.items (α := PD (k + 1)) (tidy (k + 2) p)) i (blankI (PlainD.fill (α := PD (k + 1)) p) : ItemD (PlainD (PD k)))), tdyIt (tdy (k + 1)) x := by
    intro x hx
    obtain ⟨i, _, rfl⟩ := List.mem_map.1 hx
    rcases atD_mem (PlainD.items (α := PD (k + 1)) (tidy (k + 2) p)) i (blankI (PlainD.fill (α := PD (k + 1)) p) : ItemD (PlainD (PD k))) with e | e
    · exact htd _ e
    · rw [e]; exact blankI_tdy k _
  have hS60 : itemsV (plain (k + 1)) ((ArrD.vec (α := AD (k + 1)) (arr (k + 2) p)).pick at_ (blankA k)) = at_.map (fun i => atD (PlainD.items (α := PD (k + 1)) (tidy (k + 2) p)) i (blankI (PlainD.fill (α := PD (k + 1)) p) : ItemD (PlainD (PD k)))) :=
    pick_items' (β := PD k) (plain (k + 1)) _ at_ (blankA k) _ _ (congrArg (PlainD.items (α := PD (k + 1))) (plain_arr (k + 2) 40 p hc)) hfl rfl
  have hS6 : itemsV (plain (k + 1)) (((ArrD.vec (α := AD (k + 1)) (arr (k + 2) p)).pick at_ (blankA k)).pick (kL more at_) (blankA k)) = (bL more at_).map (fun i => atD (PlainD.items (α := PD (k + 1)) (tidy (k + 2) p)) i (blankI (PlainD.fill (α := PD (k + 1)) p) : ItemD (PlainD (PD k)))) :=
    (pick_items' (β := PD k) (plain (k + 1)) _ (kL more at_) (blankA k) _ _ hS60 (by rw [pick_cls, hfl]) rfl).trans (kL_items more at_ c3 _ _)
  refine CW.regionO T hs ?_
  intro w11 hs
  refine HW.takeS (fuel := 18) 0 rfl (fun _ _ hs => Y.loadRowN T hs 0 rfl rfl rfl rfl rfl rfl rfl) hs rfl (by kernel_rfl) (by kernel_rfl) (by kernel_rfl) ?_
  refine HW.takeS (fuel := 17) 1 rfl (fun _ _ hs => Y.move rfl) hs rfl (by kernel_rfl) (by kernel_rfl) (by kernel_rfl) ?_
  refine HW.takeS (fuel := 16) 3 rfl (fun _ _ hs => Y.move rfl) hs rfl (by kernel_rfl) (by kernel_rfl) (by kernel_rfl) ?_
  refine HW.takeS (fuel := 15) 5 rfl (fun _ _ hs => Y.loadRowN T hs 1 rfl rfl rfl rfl rfl rfl rfl) hs rfl (by kernel_rfl) (by kernel_rfl) (by kernel_rfl) ?_
  refine HW.takeS (fuel := 14) 8 rfl (fun _ _ hs => Y.fieldAddr T rfl rfl rfl rfl rfl) hs rfl (by kernel_rfl) (by kernel_rfl) (by kernel_rfl) ?_
  refine HW.takeS (fuel := 13) 9 rfl (fun _ _ hs => Y.loadRow1 T hs 1 rfl rfl rfl rfl rfl) hs rfl (by kernel_rfl) (by kernel_rfl) (by kernel_rfl) ?_
  refine HW.takeS (fuel := 12) 10 rfl (fun _ _ hs => Y.move rfl) hs rfl (by kernel_rfl) (by kernel_rfl) (by kernel_rfl) ?_
  refine HW.takeS (fuel := 11) 12 rfl (fun _ _ hs => Y.fieldAddr T rfl rfl rfl rfl rfl) hs rfl (by kernel_rfl) (by kernel_rfl) (by kernel_rfl) ?_
  refine HW.takeS (fuel := 10) 13 rfl (fun _ _ hs => Y.loadRow1 T hs 1 rfl rfl rfl rfl rfl) hs rfl (by kernel_rfl) (by kernel_rfl) (by kernel_rfl) ?_
  refine HW.one (fuel := 9) 2 rfl (by kernel_rfl) ?_
  (refine RW.call T hs rfl rfl rfl (flatPick_con (ArrAt.mono (k + 1)) (ArrAt.one (k + 1)) (ArrAt.siz (k + 1)) (blankA k) (fun w h => flatBlank_con (ArrAt.mono k) (ArrAt.one k) w h) _ _ _ at_ _ _ hvv ha' (by omega) hlen hkn) ?_; intro v h66 w66 hle66 hp66 hs)
  obtain ⟨cs66, rfl, hv66⟩ := hp66
  have hp' := PlainAt.mono (k + 2) _ _ _ _ hle66 hp'
  have hkk := hkk.mono hle66
  have hbb := hbb.mono hle66
  refine RW.nil ?_
  refine heldQ_normal ⟨_, hs⟩ ?_
  refine HW.one (fuel := 8) 4 rfl (by kernel_rfl) ?_
  (refine RW.call T hs rfl rfl rfl (flatPick_con (ArrAt.mono (k + 1)) (ArrAt.one (k + 1)) (ArrAt.siz (k + 1)) (blankA k) (fun w h => flatBlank_con (ArrAt.mono k) (ArrAt.one k) w h) _ _ _ (kL more at_) _ _ hv66 hkk (by simp [kL]; omega) (by rw [hpf.2.2.1]; omega) hpf.1) ?_; intro v h68 w68 hle68 hp68 hs)
  obtain ⟨cs68, rfl, hv68⟩ := hp68
  have hp' := PlainAt.mono (k + 2) _ _ _ _ hle68 hp'
  have hbb := hbb.mono hle68
  refine RW.nil ?_
  refine heldQ_normal ⟨_, hs⟩ ?_
  refine HW.one (fuel := 7) 6 rfl (by kernel_rfl) ?_
  (refine RW.call T hs rfl rfl rfl (refTidyP_con (k + 2) 40 _ p _ _ hp' hc) ?_; intro v h70 w70 hle70 hp70 hs)
  obtain ⟨cs70, rfl, s70, it70, rfl, ⟨ad70, cp70, rfl, _⟩, hit70⟩ := hp70
  have hbb := hbb.mono hle70
  have hv68 := hv68.mono (ArrAt.mono (k + 1)) hle70
  refine RW.nil ?_
  refine heldQ_normal ⟨_, hs⟩ ?_
  refine HW.takeS (fuel := 6) 7 rfl (fun _ _ hs => Y.field1 T rfl rfl rfl rfl rfl rfl) hs rfl (by kernel_rfl) (by kernel_rfl) (by kernel_rfl) ?_
  refine HW.one (fuel := 5) 11 rfl (by kernel_rfl) ?_
  (refine RW.call T hs rfl rfl rfl (refPick08_con (PlainAt.mono k) _ _ _ (PlainD.fill (α := PD (k + 1)) p) (bL more at_) _ _ hit70 hbb (by simp [bL]; omega)) ?_; intro v h75 w75 hle75 hp75 hs)
  have hv68 := hv68.mono (ArrAt.mono (k + 1)) hle75
  refine RW.nil ?_
  refine heldQ_normal ⟨_, hs⟩ ?_
  refine HW.one (fuel := 4) 14 rfl (by kernel_rfl) ?_
  (refine RW.call T hs rfl rfl rfl (shows_con (k + 1) _ _ _ _ _ _ _ hv68 hp75 hS1 hS2 hS3 hS4 hS5 hS6 hS7) ?_; intro v h78 w78 hle78 hp78 hs)
  subst hp78
  refine RW.nil ?_
  refine heldQ_normal ⟨_, hs⟩ ?_
  refine HW.takeS (fuel := 3) 15 rfl (fun _ _ hs => Y.move rfl) hs rfl (by kernel_rfl) (by kernel_rfl) (by kernel_rfl) ?_
  refine HW.one (fuel := 2) 16 rfl (by kernel_rfl) ?_
  refine RW.guardYes rfl rfl ?_
  (refine RW.call T hs rfl rfl rfl (awake08_con _ _) ?_; intro v h80 w80 hle80 hp80 hs)
  subst hp80
  refine RW.nil ?_
  refine heldQ_normal ⟨_, hs⟩ ?_
  refine HW.takeS (fuel := 1) 17 rfl (fun _ _ hs => Y.pickB rfl rfl rfl) hs rfl (by kernel_rfl) (by kernel_rfl) (by kernel_rfl) ?_
  refine HW.takeS (fuel := 0) 18 rfl (fun _ _ hs => Y.assign rfl) hs rfl (by kernel_rfl) (by kernel_rfl) (by kernel_rfl) ?_
  refine HW.done (by kernel_rfl) ?_
  refine calmQ_normal ?_
  refine Zerun ?_
  exact retQ_ret [_] h80 ⟨rfl, trivial⟩ hs.dropAll rfl
end Go.Proofs.Ythbfkhklihejiaa

/-
  Contracts of functions of package flat: numbers from one up to another, elements backwards, and again and again. No statement is proved here.
-/
namespace Go.Proofs.Ythbfkhklihejiaa
open Go Go.RowKit
set_option linter.unusedVariables false
set_option linter.unusedSimpArgs false
set_option maxHeartbeats 4000000
attribute [local irreducible] CW RW QW SW HW ConM retM heldQ calmQ elemP thenQ blockQ loopQ joinQ retQ Yields Con Sl zF magR unitF truncF fwF wholeF tidySpec elemQ rankF leastN tidyW
set_option maxHeartbeats 4000000

def spanL (a b : Nat) : List Int := (List.range (b - a)).map fun i => ((a + i : Nat) : Int)
def turnL (n : Nat) : List Int := (List.range n).map fun i => ((n - 1 - i : Nat) : Int)
def againI (m i : Nat) : Int := if 0 < m then ((i % m : Nat) : Int) else -1
def againL (n m : Nat) : List Int := (List.range n).map (againI m)
theorem spanL_length (a b : Nat) : (spanL a b).length = b - a := by simp [spanL]
theorem turnL_length (n : Nat) : (turnL n).length = n := by simp [turnL]
theorem againL_length (n m : Nat) : (againL n m).length = n := by simp [againL]
theorem range_snoc (f : Nat → Int) (i : Nat) : (((List.range (i + 1)).map f).map (Value.int .i64)) = (((List.range i).map f).map (Value.int .i64)) ++ [.int .i64 (f i)] := by rw [List.range_succ, List.map_append, List.map_append]; rfl
theorem fill_snoc (f : Nat → Int) (i n : Nat) (h : i < n) (z : Value) : (((List.range i).map f).map (Value.int .i64) ++ List.replicate (n - i) z).set i (.int .i64 (f i)) = ((List.range (i + 1)).map f).map (Value.int .i64) ++ List.replicate (n - (i + 1)) z := by
  have e1 := set_snoc (((List.range i).map f).map (Value.int .i64)) (n - i) z (.int .i64 (f i)) (by omega)
  simp only [List.length_map, List.length_range] at e1
  rw [e1, range_snoc, show n - (i + 1) = n - i - 1 by omega]
theorem flatSpan_con (a b : Nat) (w : World) (h : GHeap) (hab : a ≤ b) (hb : b ≤ 1048576) : Con Try.prog 155 [.int .i64 a, .int .i64 b] w h (fun h' u => IntsAt h' u (spanL a b)) := by
  refine Con.of_body Try.func155 rfl Try.ntmps155 rfl rfl ?_
  intro hs
  refine Zerun ?_
  (refine RW.make T hs rfl rfl rfl rfl rfl ?_ ?_ ?_ ?_ ?_; omega; omega; (dsimp only; omega); omega; intro b1 w1 hs)
  have hs : Sees w h h [⟨some ⟨b1, 0, none⟩, 0, b - a, 3, 1, []⟩] w1 := by
    have e : ((b : Int) - a).toNat = b - a := by omega
    rw [e] at hs
    exact hs.re (made_one _ _)
  have e : ((b : Int) - a).toNat = b - a := by omega
  rw [e]
  refine Zerun ?_
  refine CW.loop (fun u : Nat × (Option Addr × Nat) => [(0, .int .i64 a), (1, .int .i64 b), (5, .slice u.2.1 u.1 u.2.2), (6, .int .i64 ((a + u.1 : Nat) : Int))]) (fun u w' => u.1 ≤ b - a ∧ Sees w h h [⟨u.2.1, u.1, u.2.2, 3, 1, ((List.range u.1).map fun i => ((a + i : Nat) : Int)).map (Value.int .i64)⟩] w') (fun u => b - a - u.1) (0, (some ⟨b1, 0, none⟩, b - a)) ⟨rfl, rfl, rfl, rfl, trivial⟩ ⟨by omega, hs⟩ ?_
  rintro ⟨i, ⟨ai, ci⟩⟩ w5 ⟨hi, hs⟩
  dsimp only at hi hs ⊢
  by_cases hlt : i < b - a
  · refine Zerun ?_
    (refine RW.lit T hs (vs := [.int .i64 ((a + i : Nat) : Int)]) (cs := [.int .i64 ((a + i : Nat) : Int)]) rfl rfl rfl rfl (by simp [Value.cells]) rfl rfl rfl rfl rfl ?_; intro b6 w6 hs)
    (refine RW.append T hs 1 rfl rfl (m := 1) (news := [.int .i64 ((a + i : Nat) : Int)]) rfl rfl rfl rfl rfl rfl (hs.src0 rfl (by simp [Value.oneCell'])) (by simp) (by dsimp only; omega) (by omega) ?_; intro ad7 cp7 w7 hs; replace hs := hs.drop)
    refine Zerun ?_
    refine loopQ_round (i + 1, (ad7, cp7)) ⟨rfl, rfl, rfl, seti (by dsimp only; omega), trivial⟩ ⟨by dsimp only; omega, ?_⟩ (by dsimp only; omega)
    dsimp only
    rw [range_snoc]
    exact hs
  · obtain rfl : i = b - a := by omega
    refine Zerun ?_
    obtain ⟨h6, hle6, hs, hS6⟩ := hs.freeze
    refine retQ_ret [_] h6 ⟨rfl, trivial⟩ hs.dropAll ?_
    have := IntsAt.of_sl (l := spanL a b) hS6
    exact this
section
variable {α : Type} {R : GHeap → List Value → α → Prop}
theorem flatTurn_con (hR : Mono R) (h1 : One R) (h9 : Siz 9 R) (nb : α) (hbl : ∀ w h, Con Try.prog 68 [] w h (fun h' u => ∃ cs', u = .agg cs'.toArray ∧ R h' cs' nb))
    (cs : List Value) (v : VecD α) (w : World) (h : GHeap) (hv : VecAt R h cs v) (hvm : v.len ≤ 1048576) (hk0 : v.kind ≠ 0) : Con Try.prog 86 [.agg cs.toArray] w h (fun h' u => ∃ cs', u = .agg cs'.toArray ∧ VecAt R h' cs' (v.pick (turnL v.len) nb)) := by
  have hv' := hv
  obtain ⟨wv, nv, sm, il, fl, ch, bx, ⟨rfl, hoc⟩, hk⟩ := hv
  refine Con.of_body Try.func86 rfl Try.ntmps86 rfl rfl ?_
  intro hs
  refine Zrun ?_
  (refine RW.boxN hs rfl rfl ?_; intro b1 w1 hs)
  (refine RW.allocN T hs rfl rfl rfl rfl ?_; intro b2 w2 hs)
  refine Zerun ?_
  (refine RW.call T hs rfl rfl rfl (vecLen_con _ v _ _ hv') ?_; intro v h3 w3 hle3 hp3 hs)
  subst hp3
  have hv' := hv'.mono hR hle3
  (refine RW.make1 T hs rfl rfl rfl rfl rfl rfl rfl (by dsimp only; omega) (by omega) ?_; intro b4 w4 hs)
  refine Zerun ?_
  refine CW.loop (fun u : Nat × GHeap => [(1, .pointer (some ⟨b1, 0, none⟩)), (2, .pointer (some ⟨b2, 0, none⟩)), (3, .slice (some ⟨b4, 0, none⟩) v.len v.len), (9, .int .i64 v.len), (10, .int .i64 u.1)]) (fun u w' => u.1 ≤ v.len ∧ GLe h3 u.2 ∧ Sees w h u.2 [⟨some ⟨b4, 0, none⟩, v.len, v.len, 3, 1, ((List.range u.1).map fun i => ((v.len - 1 - i : Nat) : Int)).map (Value.int .i64) ++ List.replicate (v.len - u.1) (.int .i64 0)⟩, ⟨some ⟨b2, 0, none⟩, 1, 1, 61, 8, vecCells 0 (.slice none 0 0) 0 (.slice none 0 0) (.slice none 0 0) (.slice none 0 0) (.slice none 0 0) (.slice none 0 0)⟩, ⟨some ⟨b1, 0, none⟩, 1, 1, 61, 8, vecCells v.kind wv nv sm il fl ch bx⟩] w') (fun u => v.len - u.1) (0, h3) ⟨rfl, rfl, rfl, rfl, rfl, trivial⟩ ⟨by omega, GLe.refl _, hs⟩ ?_
  rintro ⟨i, hh⟩ w5 ⟨hi, hg, hs⟩
  dsimp only at hi hg hs ⊢
  have hv' := hv'.mono hR hg
  by_cases hlt : i < v.len
  · refine Zerun ?_
    (refine RW.call T hs rfl rfl rfl (vecLen_con _ v _ _ hv') ?_; intro v h6 w6 hle6 hp6 hs)
    subst hp6
    have hvb : (v.len : Int) - 1 - i = ((v.len - 1 - i : Nat) : Int) := by omega
    refine Zerun ?_
    refine RW.val (Y.idxRN T hs 0 rfl rfl rfl rfl rfl rfl ?_) rfl ?_
    · omega
    rw [hvb]
    refine RW.st1 T hs 0 rfl rfl rfl rfl rfl rfl rfl (by omega) ?_
    intro w7 hs
    replace hs := hs.re (fill_snoc (fun i => ((v.len - 1 - i : Nat) : Int)) i v.len hlt _)
    refine Zerun ?_
    exact loopQ_round (i + 1, h6) ⟨rfl, rfl, rfl, rfl, rfl, trivial⟩ ⟨by dsimp only; omega, hg.trans hle6, hs⟩ (by dsimp only; omega)
  obtain rfl : i = v.len := by omega
  rw [Nat.sub_self, List.replicate_zero, List.append_nil] at hs
  obtain ⟨h8, hle8, hs, hS8⟩ := hs.freeze
  have ha8 : IntsAt h8 (.slice (some ⟨b4, 0, none⟩) v.len v.len) (turnL v.len) := IntsAt.of_sl hS8
  have hv' := hv'.mono hR hle8
  refine Zerun ?_
  (refine RW.call T hs rfl rfl rfl (flatPick_con hR h1 h9 nb hbl _ v _ (turnL v.len) _ _ hv' ha8 (by rw [turnL_length]; omega) hvm hk0) ?_; intro v h9 w9 hle9 hp9 hs)
  obtain ⟨cs9, rfl, hv9⟩ := hp9
  have hv9' := hv9
  obtain ⟨wv', nv', sm', il', fl', ch', bx', ⟨rfl, hoc'⟩, _⟩ := hv9
  (refine RW.storeAll T hs 0 rfl rfl rfl rfl rfl rfl hoc' rfl ?_; intro w10 hs)
  refine Zerun ?_
  exact retQ_ret [_] h9 ⟨resN T hs 0 rfl rfl rfl rfl rfl rfl, trivial⟩ hs.dropAll ⟨_, rfl, hv9'⟩
theorem flatAgain_con (hR : Mono R) (h1 : One R) (h9 : Siz 9 R) (nb : α) (hbl : ∀ w h, Con Try.prog 68 [] w h (fun h' u => ∃ cs', u = .agg cs'.toArray ∧ R h' cs' nb))
    (cs : List Value) (v : VecD α) (n : Int) (w : World) (h : GHeap) (hv : VecAt R h cs v) (hvm : v.len ≤ 1048576) (hk0 : v.kind ≠ 0) (hn : n ≤ 1048576) : Con Try.prog 84 [.agg cs.toArray, .int .i64 n] w h (fun h' u => ∃ cs', u = .agg cs'.toArray ∧ VecAt R h' cs' (v.pick (againL n.toNat v.len) nb)) := by
  have hv' := hv
  obtain ⟨wv, nv, sm, il, fl, ch, bx, ⟨rfl, hoc⟩, hk⟩ := hv
  refine Con.of_body Try.func84 rfl Try.ntmps84 rfl rfl ?_
  intro hs
  refine Zrun ?_
  (refine RW.boxN hs rfl rfl ?_; intro b1 w1 hs)
  (refine RW.allocN T hs rfl rfl rfl rfl ?_; intro b2 w2 hs)
  refine Zerun ?_
  have en : max 0 (min n 1048576) = (n.toNat : Int) := by omega
  rw [en]
  have hm : n.toNat ≤ 1048576 := by omega
  generalize n.toNat = m at hm ⊢
  (refine RW.make1 T hs rfl rfl rfl rfl rfl rfl rfl (by dsimp only; omega) (by omega) ?_; intro b4 w4 hs)
  refine Zerun ?_
  refine CW.loop (fun u : Nat × GHeap => [(2, .pointer (some ⟨b1, 0, none⟩)), (4, .pointer (some ⟨b2, 0, none⟩)), (5, .slice (some ⟨b4, 0, none⟩) m m), (13, .int .i64 m), (14, .int .i64 u.1)]) (fun u w' => u.1 ≤ m ∧ GLe h u.2 ∧ Sees w h u.2 [⟨some ⟨b4, 0, none⟩, m, m, 3, 1, ((List.range u.1).map (againI v.len)).map (Value.int .i64) ++ List.replicate (m - u.1) (.int .i64 0)⟩, ⟨some ⟨b2, 0, none⟩, 1, 1, 61, 8, vecCells 0 (.slice none 0 0) 0 (.slice none 0 0) (.slice none 0 0) (.slice none 0 0) (.slice none 0 0) (.slice none 0 0)⟩, ⟨some ⟨b1, 0, none⟩, 1, 1, 61, 8, vecCells v.kind wv nv sm il fl ch bx⟩] w') (fun u => m - u.1) (0, h) ⟨rfl, rfl, rfl, rfl, rfl, trivial⟩ ⟨by omega, GLe.refl _, hs⟩ ?_
  rintro ⟨i, hh⟩ w5 ⟨hi, hg, hs⟩
  dsimp only at hi hg hs ⊢
  have hv' := hv'.mono hR hg
  by_cases hlt : i < m
  · refine Zerun ?_
    refine RW.val (Y.idxRN T hs 0 rfl rfl rfl rfl rfl rfl ?_) rfl ?_
    · omega
    refine RW.st1 T hs 0 rfl rfl rfl rfl rfl rfl rfl (by omega) ?_
    intro w6 hs
    refine Zerun ?_
    (refine RW.call T hs rfl rfl rfl (vecLen_con _ v _ _ hv') ?_; intro v h7 w7 hle7 hp7 hs)
    subst hp7
    have hv' := hv'.mono hR hle7
    by_cases h0 : 0 < v.len
    · refine Zerun ?_
      (refine RW.call T hs rfl rfl rfl (vecLen_con _ v _ _ hv') ?_; intro v h8 w8 hle8 hp8 hs)
      subst hp8
      have ea : againI v.len i = (i : Int) % (v.len : Int) := by unfold againI; rw [if_pos h0]; omega
      refine Zerun ?_
      refine RW.val (Y.idxRN T hs 0 rfl rfl rfl rfl rfl rfl ?_) rfl ?_
      · omega
      rw [← ea]
      refine RW.st1 T hs 0 rfl rfl rfl rfl rfl rfl rfl (by omega) ?_
      intro w7 hs
      replace hs := hs.re ((List.set_set ..).trans (fill_snoc (againI v.len) i m hlt _))
      refine Zerun ?_
      exact loopQ_round (i + 1, h8) ⟨rfl, rfl, rfl, rfl, rfl, trivial⟩ ⟨by dsimp only; omega, (hg.trans hle7).trans hle8, hs⟩ (by dsimp only; omega)
    · have ea : againI v.len i = -1 := by unfold againI; rw [if_neg h0]
      rw [← ea] at hs
      replace hs := hs.re (fill_snoc (againI v.len) i m hlt _)
      refine Zerun ?_
      exact loopQ_round (i + 1, h7) ⟨rfl, rfl, rfl, rfl, rfl, trivial⟩ ⟨by dsimp only; omega, hg.trans hle7, hs⟩ (by dsimp only; omega)
  obtain rfl : i = m := by omega
  rw [Nat.sub_self, List.replicate_zero, List.append_nil] at hs
  obtain ⟨h8, hle8, hs, hS8⟩ := hs.freeze
  have ha8 : IntsAt h8 (.slice (some ⟨b4, 0, none⟩) i i) (againL i v.len) := by
    have hl : (againL i v.len).length = i := againL_length i v.len
    have := IntsAt.of_sl (l := againL i v.len) hS8
    exact this
  have hv' := hv'.mono hR hle8
  refine Zerun ?_
  (refine RW.call T hs rfl rfl rfl (flatPick_con hR h1 h9 nb hbl _ v _ (againL i v.len) _ _ hv' ha8 (by rw [againL_length]; omega) hvm hk0) ?_; intro v h9 w9 hle9 hp9 hs)
  obtain ⟨cs9, rfl, hv9⟩ := hp9
  have hv9' := hv9
  obtain ⟨wv', nv', sm', il', fl', ch', bx', ⟨rfl, hoc'⟩, _⟩ := hv9
  (refine RW.storeAll T hs 0 rfl rfl rfl rfl rfl rfl hoc' rfl ?_; intro w10 hs)
  refine Zerun ?_
  exact retQ_ret [_] h9 ⟨resN T hs 0 rfl rfl rfl rfl rfl rfl, trivial⟩ hs.dropAll ⟨_, rfl, hv9'⟩
end
end Go.Proofs.Ythbfkhklihejiaa

/-
  Plain Lean on elements along an axis: places turned, and turned back. No statement is proved here.
-/
namespace Go.Proofs.Ythbfkhklihejiaa
open Go Go.RowKit
set_option linter.unusedVariables false
set_option linter.unusedSimpArgs false

theorem le_mul1 {a b : Int} (ha : 0 ≤ a) (hb : 1 ≤ b) : a ≤ a * b := by
  calc a = a * 1 := (Int.mul_one a).symm
    _ ≤ a * b := Int.mul_le_mul_of_nonneg_left hb ha
theorem sum_const {δ : Type} (c : Nat) : ∀ l : List δ, (l.map fun _ => c).sum = l.length * c
  | [] => by simp
  | a :: l => by rw [List.map_cons, List.sum_cons, sum_const c l, List.length_cons, Nat.add_mul, Nat.one_mul, Nat.add_comm]
theorem flatMap_eqN {γ δ : Type} {f g : γ → List δ} : ∀ {l : List γ}, (∀ x ∈ l, f x = g x) → l.flatMap f = l.flatMap g
  | [], _ => rfl
  | a :: l, h => by rw [List.flatMap_cons, List.flatMap_cons, h a (by simp), flatMap_eqN (fun x hx => h x (List.mem_cons_of_mem _ hx))]
theorem product_parts {s t : List Int} {d : Int} {n : Nat} (h : product (s ++ d :: t) 1048576 = ((n : Int), 0)) (hn : 0 < n) : product s 1048576 = (pr s, 0) ∧ product t 1048576 = (pr t, 0) ∧ 1 ≤ d ∧ pr s * d * pr t = n ∧ goodS (s ++ d :: t) = true := by
  obtain ⟨hg, _, _, _, hv⟩ := product_fits _ _ _ h
  obtain ⟨h8, h0, hp⟩ := (goodS_spec _).1 hg
  have hz : ¬ (0 : Int) ∈ s ++ d :: t := fun e => by rw [if_pos e] at hv; omega
  rw [if_neg hz] at hv
  have hd : 1 ≤ d := by
    have := h0 d (by simp)
    have h1 : d ≠ 0 := fun e => hz (by rw [← e]; simp)
    omega
  have hpr : pr (s ++ d :: t) = pr s * d * pr t := by
    rw [pr_append]
    show pr s * (max 1 d * pr t) = _
    rw [show max 1 d = d by omega, Int.mul_assoc]
  have hs1 := pr_pos s
  have ht1 := pr_pos t
  have hsle : pr s ≤ pr (s ++ d :: t) := by
    rw [pr_append]
    exact le_mul1 (by omega) (pr_pos _)
  have htle : pr t ≤ pr (s ++ d :: t) := by
    rw [hpr]
    have h2 : 1 ≤ pr s * d := Int.le_trans hs1 (le_mul1 (by omega) hd)
    exact Int.le_trans (Int.le_of_eq (Int.one_mul _).symm) (Int.mul_le_mul_of_nonneg_right h2 (by omega))
  have sub : ∀ u : List Int, (∀ x ∈ u, x ∈ s ++ d :: t) → u.length ≤ (s ++ d :: t).length → pr u ≤ pr (s ++ d :: t) → product u 1048576 = (pr u, 0) := by
    intro u hu hul hpu
    have hgu : goodS u = true := (goodS_spec _).2 ⟨by omega, fun x hx => h0 x (hu x hx), by omega⟩
    rw [product_good u hgu, if_neg (fun e => hz (hu 0 e))]
  refine ⟨sub s (fun x hx => by simp [hx]) (by simp) hsle, sub t (fun x hx => by simp [hx]) (by simp; omega) htle, hd, ?_, hg⟩
  rw [← hpr, hv]
theorem split_of {l : List Int} {n k : Nat} (h : product l 1048576 = ((n : Int), 0)) (hn : 0 < n) (hk : k < l.length) : ∃ o d i : Nat, splitSpec l (k : Int) = ((o : Int), (d : Int), (i : Int), true) ∧ l.getD k 0 = (d : Int) ∧ o * d * i = n ∧ 0 < o ∧ 0 < d ∧ 0 < i := by
  have e : l = l.take k ++ l[k] :: l.drop (k + 1) := by
    rw [← List.drop_eq_getElem_cons hk, List.take_append_drop]
  rw [e] at h
  obtain ⟨h1, h2, h3, h4, h5⟩ := product_parts h hn
  rw [← e] at h5
  have hs1 := pr_pos (l.take k)
  have ht1 := pr_pos (l.drop (k + 1))
  have hg : l.getD k 0 = l[k] := by rw [List.getD_eq_getElem?_getD, List.getElem?_eq_getElem hk]; rfl
  refine ⟨(pr (l.take k)).toNat, l[k].toNat, (pr (l.drop (k + 1))).toNat, ?_, by rw [hg]; omega, ?_, by omega, by omega, by omega⟩
  · unfold splitSpec
    rw [if_pos]
    · rw [Int.toNat_natCast, h1, h2, hg, Int.toNat_of_nonneg (by omega), Int.toNat_of_nonneg (by omega), Int.toNat_of_nonneg (by omega)]
    · unfold splitOk
      rw [Int.toNat_natCast, h1, h2]
      exact ⟨h5, by omega, by omega, rfl, rfl⟩
  · have e2 : (((pr (l.take k)).toNat * l[k].toNat * (pr (l.drop (k + 1))).toNat : Nat) : Int) = (n : Int) := by
      rw [Int.natCast_mul, Int.natCast_mul, Int.toNat_of_nonneg (by omega), Int.toNat_of_nonneg (by omega), Int.toNat_of_nonneg (by omega)]
      exact h4
    exact Int.ofNat.inj e2

/-- the place of an element along an axis; below 0: there's none -/
def alongI (n inner o : Nat) (i : Int) (k : Nat) : Int := if 0 ≤ i ∧ i < n then ((o * n + i.toNat) * inner + k : Nat) else -1
def alongL (outer n inner : Nat) (at_ : List Int) : List Int := (List.range outer).flatMap fun o => at_.flatMap fun i => (List.range inner).map fun k => alongI n inner o i k
theorem alongL_len (outer n inner : Nat) (at_ : List Int) : (alongL outer n inner at_).length = outer * (at_.length * inner) := by
  unfold alongL
  rw [List.length_flatMap]
  have e : ∀ o, (at_.flatMap fun i => (List.range inner).map fun k => alongI n inner o i k).length = at_.length * inner := by
    intro o
    rw [List.length_flatMap]
    simp only [List.length_map, List.length_range]
    exact sum_const _ _
  simp only [e]
  rw [sum_const, List.length_range]
/-- places along an axis whose own places are given one by one -/
theorem along_range (outer d inner : Nat) (f : Nat → Nat) (hi : 0 < inner) (hd : 0 < d) (hf : ∀ y, y < d → f y < d) : alongL outer d inner ((List.range d).map fun y => ((f y : Nat) : Int)) = (List.range (outer * d * inner)).map fun p => (((p / inner / d * d + f (p / inner % d)) * inner + p % inner : Nat) : Int) := by
  unfold alongL
  have h1 : ∀ o, ((List.range d).map fun y => ((f y : Nat) : Int)).flatMap (fun i => (List.range inner).map fun k => alongI d inner o i k) = (List.range (d * inner)).map fun q => (((o * d + f (q / inner)) * inner + q % inner : Nat) : Int) := by
    intro o
    rw [← flat_range inner hi (fun y k => (((o * d + f y) * inner + k : Nat) : Int)) d, List.flatMap_map]
    apply flatMap_eqN
    intro y hy
    have hy := hf y (List.mem_range.1 hy)
    apply List.map_congr_left
    intro k _
    unfold alongI
    rw [if_pos (by omega), Int.toNat_natCast]
  simp only [h1]
  rw [flat_range (d * inner) (Nat.mul_pos hd hi) (fun o q => (((o * d + f (q / inner)) * inner + q % inner : Nat) : Int)) outer, ← Nat.mul_assoc]
  apply List.map_congr_left
  intro p _
  have e1 : p / (d * inner) = p / inner / d := by rw [Nat.mul_comm d inner, Nat.div_div_eq_div_mul]
  have e2 : p % (d * inner) / inner = p / inner % d := by rw [Nat.mul_comm d inner, Nat.mod_mul_right_div_self]
  have e3 : p % (d * inner) % inner = p % inner := Nat.mod_mod_of_dvd p (Nat.dvd_mul_left inner d)
  rw [e1, e2, e3]
theorem idx_lt {outer d inner p g : Nat} (hi : 0 < inner) (hd : 0 < d) (hp : p < outer * d * inner) (hg : g < d) : (p / inner / d * d + g) * inner + p % inner < outer * d * inner := by
  have h1 : p / inner < outer * d := Nat.div_lt_of_lt_mul (by rw [Nat.mul_comm]; exact hp)
  have h2 : p / inner / d < outer := Nat.div_lt_of_lt_mul (by rw [Nat.mul_comm]; exact h1)
  have h3 : p / inner / d * d + g < outer * d := by
    have : (p / inner / d + 1) * d ≤ outer * d := Nat.mul_le_mul_right d h2
    rw [Nat.add_mul, Nat.one_mul] at this
    omega
  have h4 := Nat.mod_lt p hi
  have : (p / inner / d * d + g + 1) * inner ≤ outer * d * inner := Nat.mul_le_mul_right inner h3
  rw [Nat.add_mul, Nat.one_mul] at this
  omega
theorem idx_parts {d inner x g z : Nat} (hi : z < inner) (hg : g < d) : ((x * d + g) * inner + z) % inner = z ∧ ((x * d + g) * inner + z) / inner % d = g ∧ ((x * d + g) * inner + z) / inner / d = x := by
  have h1 : ((x * d + g) * inner + z) / inner = x * d + g := by
    rw [Nat.add_comm, Nat.add_mul_div_right _ _ (by omega), Nat.div_eq_of_lt hi, Nat.zero_add]
  have h2 : ((x * d + g) * inner + z) % inner = z := by
    rw [Nat.add_comm, Nat.add_mul_mod_self_right, Nat.mod_eq_of_lt hi]
  refine ⟨h2, ?_, ?_⟩
  · rw [h1, Nat.add_comm, Nat.add_mul_mod_self_right, Nat.mod_eq_of_lt hg]
  · rw [h1, Nat.add_comm, Nat.add_mul_div_right _ _ (by omega), Nat.div_eq_of_lt hg, Nat.zero_add]
theorem atD_natP {γ : Type} (l : List γ) (i : Nat) (d : γ) : atD l (i : Int) d = l.getD i d := by unfold atD; rw [if_pos (by omega), Int.toNat_natCast]
/-- turned by f along an axis, and then by g: where g undoes f, all is as it was -/
theorem along_back {γ : Type} (L : List γ) (b : γ) (outer d inner : Nat) (f g : Nat → Nat) (hi : 0 < inner) (hd : 0 < d) (hf : ∀ y, y < d → f y < d) (hg : ∀ y, y < d → g y < d) (hfg : ∀ y, y < d → f (g y) = y) (hL : L.length = outer * d * inner) :
    (alongL outer d inner ((List.range d).map fun y => ((g y : Nat) : Int))).map (fun i => atD ((alongL outer d inner ((List.range d).map fun y => ((f y : Nat) : Int))).map fun i => atD L i b) i b) = L := by
  rw [along_range outer d inner f hi hd hf, along_range outer d inner g hi hd hg, List.map_map, List.map_map]
  apply List.ext_getElem?
  intro p
  rw [List.getElem?_map]
  by_cases hp : p < outer * d * inner
  · rw [List.getElem?_range hp, Option.map_some]
    have hm := Nat.mod_lt (p / inner) hd
    have hz := Nat.mod_lt p hi
    have hgl := hg _ hm
    have hq := idx_lt (outer := outer) hi hd hp hgl
    simp only [Function.comp]
    obtain ⟨e1, e2, e3⟩ := idx_parts (x := p / inner / d) hz hgl
    rw [atD_natP, List.getD_eq_getElem?_getD, List.getElem?_map, List.getElem?_range hq, Option.map_some, Option.getD_some]
    simp only [Function.comp]
    rw [e1, e2, e3, hfg _ hm, atD_natP]
    have e4 : (p / inner / d * d + p / inner % d) * inner + p % inner = p := by
      rw [Nat.mul_comm (p / inner / d) d, Nat.div_add_mod (p / inner) d, Nat.mul_comm, Nat.div_add_mod]
    rw [e4]
    have hpl : p < L.length := by omega
    rw [List.getD_eq_getElem?_getD, List.getElem?_eq_getElem hpl]
    rfl
  · rw [List.getElem?_eq_none (by rw [List.length_range]; omega), List.getElem?_eq_none (by omega)]
    rfl
/-- an axis turned on by so many -/
def rolledN (n : Nat) (by_ : Int) (y : Nat) : Nat := (((y : Int) + by_ % n) % n).toNat
def rolledL (n : Nat) (by_ : Int) : List Int := (List.range n).map fun y => ((rolledN n by_ y : Nat) : Int)
theorem rolledN_lt (n : Nat) (by_ : Int) (h : 0 < n) (y : Nat) : rolledN n by_ y < n := by
  unfold rolledN
  have h1 := Int.emod_nonneg ((y : Int) + by_ % n) (show (n : Int) ≠ 0 by omega)
  have h2 := Int.emod_lt_of_pos ((y : Int) + by_ % n) (show (0 : Int) < n by omega)
  omega
theorem rolledN_back (n : Nat) (by_ : Int) (y : Nat) (h : y < n) : rolledN n by_ (rolledN n (-by_) y) = y := by
  have h0 : 0 < n := by omega
  unfold rolledN
  have h1 := Int.emod_nonneg ((y : Int) + -by_ % n) (show (n : Int) ≠ 0 by omega)
  rw [Int.toNat_of_nonneg h1]
  have e0 : ((y : Int) + -by_ % n) % n + by_ % n = y + n * (-((-by_) / n) - (((y : Int) + -by_ % n) / n) - by_ / n) := by
    rw [Int.emod_def ((y : Int) + -by_ % n) n, Int.mul_sub, Int.mul_sub, Int.mul_neg]
    have h2 := Int.emod_def (-by_) (n : Int)
    have h3 := Int.emod_def by_ (n : Int)
    omega
  have e : (((y : Int) + -by_ % n) % n + by_ % n) % n = y := by
    rw [e0, Int.add_mul_emod_self_left]
    exact Int.emod_eq_of_lt (by omega) (by omega)
  rw [e]
  omega
theorem turnN_lt {n y : Nat} (h : y < n) : n - 1 - y < n := by omega
end Go.Proofs.Ythbfkhklihejiaa

/-
  The program logic, eighteenth part: regions that draw their order and change memory, two of the call's own rows fixed. No statement is proved here.
-/
namespace Go.Proofs.Ythbfkhklihejiaa
open Go Go.RowKit
set_option linter.unusedVariables false
set_option linter.unusedSimpArgs false
set_option linter.unusedVariables false
section
variable {P : Program} {n : Nat} {Q : Post} {L : Env} {w0 w : World} {h0 h : GHeap} {O : List Row} {ops rest : List Oper} {x y : Operand} {t : TypeId} {ra rb : Row}
variable {d : Option Tmp} {ty yt : TypeId} {pos : String} {aft : Array Edge} {fuel : Nat} {listed : Array Bool}
def SR (w0 : World) (h0 : GHeap) (ra rb : Row) (w : World) : Prop := ∃ (h' : GHeap) (O : List Row) (k j : Nat), Sees w0 h0 h' O w ∧ O[k]? = some ra ∧ O[j]? = some rb
theorem CW.regionR (T' : Tab P) (k j : Nat) (hs : Sees w0 h0 h O w) (ha : O[k]? = some ra) (hb : O[j]? = some rb) {id : Nat} {l : List Oper} (K : ∀ w', Sees w0 h0 h O w' → HW P n l (calmQ Q) (SR w0 h0 ra rb) l.length (Array.replicate l.length false) L w') : CW P n Q (.region id l.toArray true) L w :=
  CW.regionH T' (SR w0 h0 ra rb) (fun w' e => by subst e; exact K _ hs.drew)
theorem HW.takeR (i : Nat) {op : Op} {v : Value} (hi : ops.toArray[i]? = some ⟨d, op, ty, pos, aft, none⟩) (hy : ∀ (h' : GHeap) (O : List Row) (ka kb : Nat) (w' : World), Sees w0 h0 h' O w' → O[ka]? = some ra → O[kb]? = some rb → Yields P n L w' op ty v) (hS : SR w0 h0 ra rb w) (hd : dstOk n d = true)
    (hs : Region.noSelect ops.toArray = true) (hf : Region.free .any ops.toArray listed i = true) (hr : (Region.ready .any ops.toArray listed).contains i = true)
    (hh : HW P n ops (calmQ Q) (SR w0 h0 ra rb) fuel (listed.setIfInBounds i true) (updo d v L) w) : HW P n ops (calmQ Q) (SR w0 h0 ra rb) (fuel + 1) listed L w :=
  HW.take i hi (fun w' ⟨h', O, k, j, s, a, b⟩ => hy h' O k j w' s a b) hS hd hs hf hr hh
theorem HW.takeRY (i : Nat) {op : Op} {v : Value} {j : Nat} {want : Bool} {t : Tmp} (hi : ops.toArray[i]? = some ⟨d, op, ty, pos, aft, some (j, want)⟩) (hj : gdst ops j = some t) (ht : get L t = some (.bool want)) (hy : ∀ (h' : GHeap) (O : List Row) (ka kb : Nat) (w' : World), Sees w0 h0 h' O w' → O[ka]? = some ra → O[kb]? = some rb → Yields P n L w' op ty v) (hS : SR w0 h0 ra rb w) (hd : dstOk n d = true)
    (hs : Region.noSelect ops.toArray = true) (hf : Region.free .any ops.toArray listed i = true) (hr : (Region.ready .any ops.toArray listed).contains i = true)
    (hh : HW P n ops (calmQ Q) (SR w0 h0 ra rb) fuel (listed.setIfInBounds i true) (updo d v L) w) : HW P n ops (calmQ Q) (SR w0 h0 ra rb) (fuel + 1) listed L w :=
  HW.takeYes i hi hj ht (fun w' ⟨h', O, k, j, s, a, b⟩ => hy h' O k j w' s a b) hS hd hs hf hr hh
theorem HW.takeRN (i : Nat) {op : Op} {j : Nat} {want b : Bool} {t : Tmp} (hi : ops.toArray[i]? = some ⟨d, op, ty, pos, aft, some (j, want)⟩) (hj : gdst ops j = some t) (ht : get L t = some (.bool b)) (hb : (b == want) = false) (hS : SR w0 h0 ra rb w) (hd : dstOk n d = true)
    (hs : Region.noSelect ops.toArray = true) (hf : Region.free .any ops.toArray listed i = true) (hr : (Region.ready .any ops.toArray listed).contains i = true)
    (hh : HW P n ops (calmQ Q) (SR w0 h0 ra rb) fuel (listed.setIfInBounds i true) (updo d undef L) w) : HW P n ops (calmQ Q) (SR w0 h0 ra rb) (fuel + 1) listed L w :=
  HW.takeNo i hi hj ht hb hS hd hs hf hr hh
end
end Go.Proofs.Ythbfkhklihejiaa

/-
  Contracts of functions of package pick: places along an axis, turned on. No statement is proved here.
-/
namespace Go.Proofs.Ythbfkhklihejiaa
open Go Go.RowKit
set_option linter.unusedVariables false
set_option linter.unusedSimpArgs false
set_option maxHeartbeats 4000000
attribute [local irreducible] CW RW QW SW HW ConM retM heldQ calmQ elemP thenQ blockQ loopQ joinQ retQ Yields Con Sl zF magR unitF truncF fwF wholeF tidySpec elemQ rankF leastN tidyW
set_option maxHeartbeats 4000000

theorem tmod_emod (a : Int) (n : Nat) (hn : 0 < n) : -(n : Int) < a.tmod n ∧ a.tmod n < n ∧ (if a.tmod n < 0 then a.tmod n + n else a.tmod n) = a % n := by
  have h1 : a.tmod n < n := Int.tmod_lt_of_pos a (by omega)
  have h2 : -(n : Int) < a.tmod n := by
    rcases Int.le_total 0 a with h | h
    · have := Int.tmod_nonneg (n : Int) h
      omega
    · have h5 := Int.tmod_lt_of_pos (-a) (show (0 : Int) < n by omega)
      rw [Int.neg_tmod] at h5
      omega
  have h3 : a = (n : Int) * a.tdiv n + a.tmod n := (Int.mul_tdiv_add_tmod a n).symm
  have h4 : a % n = a.tmod n % n := by
    conv => lhs; rw [h3]
    rw [Int.add_comm, Int.add_mul_emod_self_left]
  refine ⟨h2, h1, ?_⟩
  rw [h4]
  split
  · rw [← Int.add_emod_right, Int.emod_eq_of_lt (by omega) (by omega)]
  · rw [Int.emod_eq_of_lt (by omega) (by omega)]
theorem fillA' {δ : Type} {A : List δ} {i n : Nat} (hA : A.length = i) (h : i < n) (b z : δ) : (A ++ List.replicate (n - i) b).set i z = (A ++ [z]) ++ List.replicate (n - (i + 1)) b := by
  obtain ⟨r, hr⟩ : ∃ r, n - i = r + 1 := ⟨n - i - 1, by omega⟩
  have e : n - (i + 1) = r := by omega
  rw [hr, e, List.replicate_succ, List.set_append_right _ _ (by omega), ← hA]
  simp
theorem setA' {δ : Type} {A Rr : List δ} {i : Nat} (hA : A.length = i) (z y : δ) : ((A ++ [z]) ++ Rr).set i y = (A ++ [y]) ++ Rr := by
  subst hA
  simp
theorem pickRolled_con (n : Nat) (by_ : Int) (w : World) (h : GHeap) (hn : n ≤ 1048576) : Con Try.prog 167 [.int .i64 n, .int .i64 by_] w h (fun h' u => IntsAt h' u (rolledL n by_)) := by
  refine Con.of_body Try.func167 rfl Try.ntmps167 rfl rfl ?_
  intro hs
  refine Zerun ?_
  (refine RW.make1 T hs rfl rfl rfl rfl rfl rfl rfl (by dsimp only; omega) (by omega) ?_; intro b1 w1 hs)
  by_cases c0 : n = 0
  · subst c0
    refine Zerun ?_
    obtain ⟨h2, hle2, hs, hS2⟩ := hs.freeze
    exact retQ_ret [_] h2 ⟨rfl, trivial⟩ hs.dropAll (IntsAt.of_sl (l := []) hS2)
  obtain ⟨ht1, ht2, ht3⟩ := tmod_emod by_ n (by omega)
  have hfr : 0 ≤ by_ % (n : Int) ∧ by_ % (n : Int) < n := ⟨Int.emod_nonneg _ (by omega), Int.emod_lt_of_pos _ (by omega)⟩
  refine Zerun ?_
  refine RW.val (Y.rem' rfl rfl (by omega)) rfl ?_
  by_cases c : by_.tmod n < 0
  · rw [if_pos c] at ht3
    refine Zerun ?_
    rw [ht3]
    obtain ⟨fr, hfe⟩ : ∃ fr, by_ % (n : Int) = fr := ⟨_, rfl⟩
    rw [hfe] at hfr ⊢
    refine CW.loop (fun i : Nat => [(0, .int .i64 n), (5, .slice (some ⟨b1, 0, none⟩) n n), (6, .int .i64 fr), (22, .int .i64 n), (23, .int .i64 i)]) (fun i w' => i ≤ n ∧ Sees w h h [⟨some ⟨b1, 0, none⟩, n, n, 3, 1, ((List.range i).map fun y => ((rolledN n by_ y : Nat) : Int)).map (Value.int .i64) ++ List.replicate (n - i) (.int .i64 0)⟩] w') (fun i => n - i) 0 ⟨rfl, rfl, rfl, rfl, rfl, trivial⟩ ⟨by omega, hs⟩ ?_
    rintro i w5 ⟨hi, hs⟩
    by_cases hlt : i < n
    · have hv : ((i : Int) + fr) % n = ((rolledN n by_ i : Nat) : Int) := by
        unfold rolledN
        rw [hfe, Int.toNat_of_nonneg (Int.emod_nonneg _ (by omega))]
      refine Zerun ?_
      rw [hv]
      refine RW.val (Y.idxRN T hs 0 rfl rfl rfl rfl rfl rfl hlt) rfl ?_
      refine RW.st1 T hs 0 rfl rfl rfl rfl rfl rfl rfl hlt ?_
      intro w7 hs
      replace hs := hs.re (fill_snoc (fun y => ((rolledN n by_ y : Nat) : Int)) i n hlt _)
      refine Zerun ?_
      exact loopQ_round (i + 1) ⟨rfl, rfl, rfl, rfl, rfl, trivial⟩ ⟨by omega, hs⟩ (by omega)
    obtain rfl : i = n := by omega
    rw [Nat.sub_self, List.replicate_zero, List.append_nil] at hs
    obtain ⟨h8, hle8, hs, hS8⟩ := hs.freeze
    refine Zerun ?_
    exact retQ_ret [_] h8 ⟨rfl, trivial⟩ hs.dropAll (IntsAt.of_sl (l := rolledL i by_) hS8)
  · rw [if_neg c] at ht3
    rw [ht3] at c ⊢
    refine Zerun ?_
    obtain ⟨fr, hfe⟩ : ∃ fr, by_ % (n : Int) = fr := ⟨_, rfl⟩
    rw [hfe] at hfr ⊢
    refine CW.loop (fun i : Nat => [(0, .int .i64 n), (5, .slice (some ⟨b1, 0, none⟩) n n), (6, .int .i64 fr), (22, .int .i64 n), (23, .int .i64 i)]) (fun i w' => i ≤ n ∧ Sees w h h [⟨some ⟨b1, 0, none⟩, n, n, 3, 1, ((List.range i).map fun y => ((rolledN n by_ y : Nat) : Int)).map (Value.int .i64) ++ List.replicate (n - i) (.int .i64 0)⟩] w') (fun i => n - i) 0 ⟨rfl, rfl, rfl, rfl, rfl, trivial⟩ ⟨by omega, hs⟩ ?_
    rintro i w5 ⟨hi, hs⟩
    by_cases hlt : i < n
    · have hv : ((i : Int) + fr) % n = ((rolledN n by_ i : Nat) : Int) := by
        unfold rolledN
        rw [hfe, Int.toNat_of_nonneg (Int.emod_nonneg _ (by omega))]
      refine Zerun ?_
      rw [hv]
      refine RW.val (Y.idxRN T hs 0 rfl rfl rfl rfl rfl rfl hlt) rfl ?_
      refine RW.st1 T hs 0 rfl rfl rfl rfl rfl rfl rfl hlt ?_
      intro w7 hs
      replace hs := hs.re (fill_snoc (fun y => ((rolledN n by_ y : Nat) : Int)) i n hlt _)
      refine Zerun ?_
      exact loopQ_round (i + 1) ⟨rfl, rfl, rfl, rfl, rfl, trivial⟩ ⟨by omega, hs⟩ (by omega)
    obtain rfl : i = n := by omega
    rw [Nat.sub_self, List.replicate_zero, List.append_nil] at hs
    obtain ⟨h8, hle8, hs, hS8⟩ := hs.freeze
    refine Zerun ?_
    exact retQ_ret [_] h8 ⟨rfl, trivial⟩ hs.dropAll (IntsAt.of_sl (l := rolledL i by_) hS8)
/-- a place that isn't there -/
def noneI (n : Nat) (i : Int) : Int := if i < 0 ∨ (n : Int) ≤ i then -1 else i
theorem pickNone_con (v1 : Value) (at_ : List Int) (n : Nat) (w : World) (h : GHeap) (ha : IntsAt h v1 at_) (hm : at_.length ≤ 1048576) : Con Try.prog 198 [v1, .int .i64 n] w h (fun h' u => IntsAt h' u (at_.map (noneI n))) := by
  obtain ⟨ad, cp, rfl, hS⟩ := ha
  refine Con.of_body Try.func198 rfl Try.ntmps198 rfl rfl ?_
  intro hs
  refine Zerun ?_
  (refine RW.make1 T hs rfl rfl rfl rfl rfl rfl rfl (by dsimp only; omega) (by omega) ?_; intro b1 w1 hs)
  refine Zerun ?_
  refine CW.loop (fun i : Nat => [(1, .int .i64 n), (5, .slice (some ⟨b1, 0, none⟩) at_.length at_.length), (11, .slice ad at_.length cp), (12, .int .i64 at_.length), (13, .int .i64 i)]) (fun i w' => i ≤ at_.length ∧ Sees w h h [⟨some ⟨b1, 0, none⟩, at_.length, at_.length, 3, 1, (((at_.take i).map (noneI n)) ++ List.replicate (at_.length - i) 0).map (Value.int .i64)⟩] w') (fun i => at_.length - i) 0 ⟨rfl, rfl, rfl, rfl, rfl, trivial⟩ ⟨by omega, by simp only [List.take_zero, List.map_nil, List.nil_append, Nat.sub_zero, List.map_replicate]; exact hs⟩ ?_
  rintro i w2 ⟨hi, hs⟩
  by_cases hlt : i < at_.length
  · have hAl : ((at_.take i).map (noneI n)).length = i := by rw [List.length_map, List.length_take]; omega
    have htm : (at_.take (i + 1)).map (noneI n) = (at_.take i).map (noneI n) ++ [noneI n (at_.getD i 0)] := by
      rw [take_succ_getD at_ i 0 hlt, List.map_append]; rfl
    refine Zerun ?_
    refine RW.val (Y.idxRN T hs 0 rfl rfl rfl rfl rfl rfl hlt) rfl ?_
    refine RW.st1 T hs 0 rfl rfl rfl rfl rfl rfl rfl hlt ?_
    intro w3 hs
    dsimp only [List.set_cons_zero, List.set_cons_succ] at hs
    rw [map_set_int, fillA' hAl hlt] at hs
    by_cases c1 : at_.getD i 0 < 0
    · have hv : noneI n (at_.getD i 0) = -1 := by unfold noneI; rw [if_pos (.inl c1)]
      refine Zerun ?_
      refine RW.val (Y.idxRN T hs 0 rfl rfl rfl rfl rfl rfl hlt) rfl ?_
      refine RW.st1 T hs 0 rfl rfl rfl rfl rfl rfl rfl hlt ?_
      intro w3 hs
      dsimp only [List.set_cons_zero, List.set_cons_succ] at hs
      rw [map_set_int, setA' hAl, ← hv, ← htm] at hs
      refine Zerun ?_
      exact loopQ_round (i + 1) ⟨rfl, rfl, rfl, rfl, rfl, trivial⟩ ⟨by omega, hs⟩ (by omega)
    by_cases c2 : (n : Int) ≤ at_.getD i 0
    · have hv : noneI n (at_.getD i 0) = -1 := by unfold noneI; rw [if_pos (.inr c2)]
      refine Zerun ?_
      refine RW.val (Y.idxRN T hs 0 rfl rfl rfl rfl rfl rfl hlt) rfl ?_
      refine RW.st1 T hs 0 rfl rfl rfl rfl rfl rfl rfl hlt ?_
      intro w3 hs
      dsimp only [List.set_cons_zero, List.set_cons_succ] at hs
      rw [map_set_int, setA' hAl, ← hv, ← htm] at hs
      refine Zerun ?_
      exact loopQ_round (i + 1) ⟨rfl, rfl, rfl, rfl, rfl, trivial⟩ ⟨by omega, hs⟩ (by omega)
    have hv : noneI n (at_.getD i 0) = at_.getD i 0 := by unfold noneI; rw [if_neg (by omega)]
    rw [hv] at htm
    rw [← htm] at hs
    refine Zerun ?_
    exact loopQ_round (i + 1) ⟨rfl, rfl, rfl, rfl, rfl, trivial⟩ ⟨by omega, hs⟩ (by omega)
  obtain rfl : i = at_.length := by omega
  rw [List.take_length, Nat.sub_self, List.replicate_zero, List.append_nil] at hs
  refine Zerun ?_
  obtain ⟨h6, hle6, hs, hS6⟩ := hs.freeze
  refine retQ_ret [_] h6 ⟨rfl, trivial⟩ hs.dropAll ?_
  have := IntsAt.of_sl hS6
  exact this
theorem flat_single {γ δ : Type} (f : γ → δ) : ∀ l : List γ, (l.flatMap fun x => [f x]) = l.map f
  | [] => rfl
  | a :: l => by rw [List.flatMap_cons, flat_single f l]; rfl
theorem alongL_one (n : Nat) (at_ : List Int) : alongL 1 n 1 at_ = at_.map (noneI n) := by
  show (List.range 1).flatMap _ = _
  rw [show List.range 1 = [0] from rfl, List.flatMap_cons, List.flatMap_nil, List.append_nil]
  rw [← flat_single (noneI n) at_]
  apply flatMap_eqN
  intro i _
  show [alongI n 1 0 i 0] = [noneI n i]
  congr 1
  unfold alongI noneI
  by_cases c : 0 ≤ i ∧ i < n
  · rw [if_pos c, if_neg (by omega)]
    omega
  · rw [if_neg c, if_pos (by omega)]
section
variable {α : Type} {R : GHeap → List Value → α → Prop}
theorem pickAlong_con (hR : Mono R) (h1 : One R) (h9 : Siz 9 R) (nb : α) (hbl : ∀ w h, Con Try.prog 68 [] w h (fun h' u => ∃ cs', u = .agg cs'.toArray ∧ R h' cs' nb)) (cs : List Value) (v : VecD α) (v1 : Value) (outer n inner : Nat) (at_ : List Int) (w : World) (h : GHeap) (hv : VecAt R h cs v) (ha : IntsAt h v1 at_) (hal : at_.length ≤ 1048576) (hou : outer ≤ 1048576) (hm : outer * (at_.length * inner) ≤ 1048576) (hB : outer * n * inner ≤ 1099511627776) (hBn : outer * n ≤ 1099511627776) (hvm : v.len ≤ 1048576) (hk0 : v.kind ≠ 0) :
    Con Try.prog 193 [.agg cs.toArray, .int .i64 outer, .int .i64 n, .int .i64 inner, v1] w h (fun h' u => ∃ cs', u = .agg cs'.toArray ∧ VecAt R h' cs' (v.pick (alongL outer n inner at_) nb)) := by
  have hv' := hv
  have ha' := ha
  obtain ⟨ad, cp, rfl, hS⟩ := ha
  obtain ⟨wv, nv, sm, il, fl, ch, bx, ⟨rfl, hoc⟩, _⟩ := hv
  refine Con.of_body Try.func193 rfl Try.ntmps193 rfl rfl ?_
  intro hs
  refine Zrun ?_
  (refine RW.boxN hs rfl rfl ?_; intro b1 w1 hs)
  (refine RW.allocN T hs rfl rfl rfl rfl ?_; intro b2 w2 hs)
  by_cases c : outer = 1 ∧ inner = 1
  · obtain ⟨rfl, rfl⟩ := c
    refine Zerun ?_
    refine CW.regionR T 1 1 hs rfl rfl ?_
    intro w4 hs
    refine HW.takeR (fuel := 5) 0 rfl (fun _ _ ka kb _ hs hka hkb => Y.loadRowN T hs ka hka rfl rfl rfl rfl rfl rfl) ⟨_, _, 1, 1, hs, rfl, rfl⟩ rfl (by kernel_rfl) (by kernel_rfl) (by kernel_rfl) ?_
    refine HW.takeR (fuel := 4) 1 rfl (fun _ _ ka kb _ hs hka hkb => Y.move rfl) ⟨_, _, 1, 1, hs, rfl, rfl⟩ rfl (by kernel_rfl) (by kernel_rfl) (by kernel_rfl) ?_
    refine HW.takeR (fuel := 3) 2 rfl (fun _ _ ka kb _ hs hka hkb => Y.move rfl) ⟨_, _, 1, 1, hs, rfl, rfl⟩ rfl (by kernel_rfl) (by kernel_rfl) (by kernel_rfl) ?_
    refine HW.one (fuel := 2) 3 rfl (by kernel_rfl) ?_
    (refine RW.call T hs rfl rfl rfl (pickNone_con _ _ n _ _ ha' (by omega)) ?_; intro v h25 w25 hle25 hp25 hs)
    have hv' := hv'.mono hR hle25
    have ha' := ha'.mono hle25
    refine RW.nil ?_
    refine heldQ_normal ⟨_, _, 1, 1, hs, rfl, rfl⟩ ?_
    refine HW.one (fuel := 1) 4 rfl (by kernel_rfl) ?_
    (refine RW.call T hs rfl rfl rfl (flatPick_con hR h1 h9 nb hbl _ _ _ (at_.map (noneI n)) _ _ hv' hp25 (by rw [List.length_map]; omega) hvm hk0) ?_; intro v h26 w26 hle26 hp26 hs)
    obtain ⟨cs26, rfl, hv26⟩ := hp26
    obtain ⟨wv6, nv6, sm6, il6, fl6, ch6, bx6, ⟨rfl, hoc6⟩, _⟩ := id hv26
    have hv' := hv'.mono hR hle26
    have ha' := ha'.mono hle26
    refine RW.nil ?_
    refine heldQ_normal ⟨_, _, 1, 1, hs, rfl, rfl⟩ ?_
    refine HW.one (fuel := 0) 5 rfl (by kernel_rfl) ?_
    (refine RW.storeAll T hs 0 rfl rfl rfl rfl rfl rfl hoc6 rfl ?_; intro w27 hs)
    refine RW.nil ?_
    refine heldQ_normal ⟨_, _, 1, 1, hs, rfl, rfl⟩ ?_
    refine HW.done (by kernel_rfl) ?_
    refine calmQ_normal ?_
    refine Zerun ?_
    exact retQ_ret [_] h26 ⟨resN T hs 0 rfl rfl rfl rfl rfl rfl, trivial⟩ hs.dropAll ⟨_, rfl, by rw [alongL_one]; exact hv26⟩
  have hlm : ∀ a b : Nat, ((a : Int) * (b : Int)) = ((a * b : Nat) : Int) := fun a b => (Int.natCast_mul a b).symm
  have hoa : outer * at_.length ≤ 1099511627776 := Nat.le_trans (Nat.mul_le_mul hou hal) (by omega)
  have hoai : outer * at_.length * inner ≤ 1048576 := by rw [Nat.mul_assoc]; exact hm
  first | (refine A0 ?_; first | refine R1 rfl rfl ?_ | refine R2 rfl rfl ?_ | (refine A1 ?_; first | refine D3 rfl rfl ?_ | refine D4 rfl rfl rfl rfl ?_ | refine D5 rfl rfl rfl ?_ | refine E6 ?_ rfl rfl | refine E7 ?_ rfl rfl) | refine Zb ?_ rfl | (refine A3 ?_; first | refine R34 T hs 0 rfl rfl rfl rfl rfl rfl ?_ | refine R34 T hs 1 rfl rfl rfl rfl rfl rfl ?_ | refine Zl ?_ rfl) | refine Zi ?_ rfl | refine Zo ?_ rfl | refine A8 ?_) | (refine B0 ?_; first | refine B1 ?_ | refine B2 ?_ | refine B3 ?_ | refine B4 ?_ | refine B5 ?_ | refine B6 ?_ | refine B7 rfl ?_ | refine B8 rfl ?_ | refine E8 ?_ rfl | refine E9 ?_ rfl) | refine C1 ?_ | refine C2 ?_ | refine C3 ?_ | refine C4 ?_ | refine C5 ?_ | refine C6 ?_ | refine C7 ?_ | refine C8 ?_ | refine C9 ?_ | refine D1 rfl ?_ | refine D2 rfl ?_
  first | (refine A0 ?_; first | refine R1 rfl rfl ?_ | refine R2 rfl rfl ?_ | (refine A1 ?_; first | refine D3 rfl rfl ?_ | refine D4 rfl rfl rfl rfl ?_ | refine D5 rfl rfl rfl ?_ | refine E6 ?_ rfl rfl | refine E7 ?_ rfl rfl) | refine Zb ?_ rfl | (refine A3 ?_; first | refine R34 T hs 0 rfl rfl rfl rfl rfl rfl ?_ | refine R34 T hs 1 rfl rfl rfl rfl rfl rfl ?_ | refine Zl ?_ rfl) | refine Zi ?_ rfl | refine Zo ?_ rfl | refine A8 ?_) | (refine B0 ?_; first | refine B1 ?_ | refine B2 ?_ | refine B3 ?_ | refine B4 ?_ | refine B5 ?_ | refine B6 ?_ | refine B7 rfl ?_ | refine B8 rfl ?_ | refine E8 ?_ rfl | refine E9 ?_ rfl) | refine C1 ?_ | refine C2 ?_ | refine C3 ?_ | refine C4 ?_ | refine C5 ?_ | refine C6 ?_ | refine C7 ?_ | refine C8 ?_ | refine C9 ?_ | refine D1 rfl ?_ | refine D2 rfl ?_
  first | (refine A0 ?_; first | refine R1 rfl rfl ?_ | refine R2 rfl rfl ?_ | (refine A1 ?_; first | refine D3 rfl rfl ?_ | refine D4 rfl rfl rfl rfl ?_ | refine D5 rfl rfl rfl ?_ | refine E6 ?_ rfl rfl | refine E7 ?_ rfl rfl) | refine Zb ?_ rfl | (refine A3 ?_; first | refine R34 T hs 0 rfl rfl rfl rfl rfl rfl ?_ | refine R34 T hs 1 rfl rfl rfl rfl rfl rfl ?_ | refine Zl ?_ rfl) | refine Zi ?_ rfl | refine Zo ?_ rfl | refine A8 ?_) | (refine B0 ?_; first | refine B1 ?_ | refine B2 ?_ | refine B3 ?_ | refine B4 ?_ | refine B5 ?_ | refine B6 ?_ | refine B7 rfl ?_ | refine B8 rfl ?_ | refine E8 ?_ rfl | refine E9 ?_ rfl) | refine C1 ?_ | refine C2 ?_ | refine C3 ?_ | refine C4 ?_ | refine C5 ?_ | refine C6 ?_ | refine C7 ?_ | refine C8 ?_ | refine C9 ?_ | refine D1 rfl ?_ | refine D2 rfl ?_
  refine CW.meet (fun _ : Unit => [(1, .int .i64 outer), (2, .int .i64 n), (3, .int .i64 inner), (4, .slice ad at_.length cp), (5, .pointer (some ⟨b1, 0, none⟩)), (10, .pointer (some ⟨b2, 0, none⟩)), (21, .bool false)]) (fun _ w' => Sees w h h [⟨some ⟨b2, 0, none⟩, 1, 1, 61, 8, vecCells 0 (.slice none 0 0) 0 (.slice none 0 0) (.slice none 0 0) (.slice none 0 0) (.slice none 0 0) (.slice none 0 0)⟩, ⟨some ⟨b1, 0, none⟩, 1, 1, 61, 8, vecCells v.kind wv nv sm il fl ch bx⟩] w') ?_ ?_
  · by_cases c1 : outer = 1
    · have c2 : ¬ inner = 1 := fun e => c ⟨c1, e⟩
      refine Zerun ?_
      exact joinQ_meet () ⟨rfl, rfl, rfl, rfl, rfl, rfl, setb (decide_eq_false (by omega)), trivial⟩ hs
    · refine Zerun ?_
      exact joinQ_meet () ⟨rfl, rfl, rfl, rfl, rfl, rfl, rfl, trivial⟩ hs
  rintro _ w3 hs
  refine Zerun ?_
  refine RW.val (Y.mul rfl rfl ?_) rfl ?_
  · rw [hlm]; omega
  rw [hlm]
  refine Zerun ?_
  refine RW.val (Y.mul rfl rfl ?_) rfl ?_
  · rw [hlm]; omega
  rw [hlm]
  obtain ⟨N, hN⟩ : ∃ N, outer * at_.length * inner = N := ⟨_, rfl⟩
  rw [hN] at hoai ⊢
  (refine RW.make T hs rfl rfl rfl rfl rfl ?_ ?_ ?_ ?_ ?_; omega; omega; (dsimp only; omega); omega; intro b4 w4 hs)
  have hs : Sees w h h [⟨some ⟨b4, 0, none⟩, 0, N, 3, 1, []⟩, ⟨some ⟨b2, 0, none⟩, 1, 1, 61, 8, vecCells 0 (.slice none 0 0) 0 (.slice none 0 0) (.slice none 0 0) (.slice none 0 0) (.slice none 0 0) (.slice none 0 0)⟩, ⟨some ⟨b1, 0, none⟩, 1, 1, 61, 8, vecCells v.kind wv nv sm il fl ch bx⟩] w4 := by
    have e : ((N : Int)).toNat = N := Int.toNat_natCast _
    rw [e] at hs
    exact hs.re (made_one _ _)
  have e : ((N : Int)).toNat = N := Int.toNat_natCast _
  rw [e]
  refine Zerun ?_
  refine CW.loop (fun u : Nat × Nat × (Option Addr × Nat) => [(1, .int .i64 outer), (2, .int .i64 n), (3, .int .i64 inner), (4, .slice ad at_.length cp), (5, .pointer (some ⟨b1, 0, none⟩)), (10, .pointer (some ⟨b2, 0, none⟩)), (11, .slice u.2.2.1 u.2.1 u.2.2.2), (34, .int .i64 outer), (35, .int .i64 u.1)]) (fun u w' => u.1 ≤ outer ∧ u.2.1 = (alongL u.1 n inner at_).length ∧ Sees w h h [⟨u.2.2.1, u.2.1, u.2.2.2, 3, 1, (alongL u.1 n inner at_).map (Value.int .i64)⟩, ⟨some ⟨b2, 0, none⟩, 1, 1, 61, 8, vecCells 0 (.slice none 0 0) 0 (.slice none 0 0) (.slice none 0 0) (.slice none 0 0) (.slice none 0 0) (.slice none 0 0)⟩, ⟨some ⟨b1, 0, none⟩, 1, 1, 61, 8, vecCells v.kind wv nv sm il fl ch bx⟩] w') (fun u => outer - u.1) (0, 0, (some ⟨b4, 0, none⟩, N)) ⟨rfl, rfl, rfl, rfl, rfl, rfl, rfl, rfl, rfl, trivial⟩ ⟨by omega, rfl, hs⟩ ?_
  rintro ⟨o, nn, ⟨ab, cb⟩⟩ w5 ⟨ho, hnn, hs⟩
  dsimp only at ho hnn hs ⊢
  have hal2 := alongL_len o n inner at_
  by_cases hlt : o < outer
  · have hon : o * n ≤ outer * n := Nat.mul_le_mul_right n (by omega)
    have hob : o * (at_.length * inner) ≤ outer * (at_.length * inner) := Nat.mul_le_mul_right _ (by omega)
    have hob1 : o * (at_.length * inner) + at_.length * inner ≤ outer * (at_.length * inner) := by
      have := Nat.mul_le_mul_right (at_.length * inner) (show o + 1 ≤ outer by omega)
      rw [Nat.add_mul, Nat.one_mul] at this
      exact this
    refine Zerun ?_
    refine CW.loop (fun u : Nat × Nat × (Option Addr × Nat) => [(1, .int .i64 outer), (2, .int .i64 n), (3, .int .i64 inner), (4, .slice ad at_.length cp), (5, .pointer (some ⟨b1, 0, none⟩)), (10, .pointer (some ⟨b2, 0, none⟩)), (11, .slice u.2.2.1 u.2.1 u.2.2.2), (12, .int .i64 o), (34, .int .i64 outer), (35, .int .i64 o), (38, .slice ad at_.length cp), (39, .int .i64 at_.length), (40, .int .i64 u.1)]) (fun u w' => u.1 ≤ at_.length ∧ u.2.1 = o * (at_.length * inner) + u.1 * inner ∧ Sees w h h [⟨u.2.2.1, u.2.1, u.2.2.2, 3, 1, (alongL o n inner at_ ++ (at_.take u.1).flatMap (fun i => (List.range inner).map fun k => alongI n inner o i k)).map (Value.int .i64)⟩, ⟨some ⟨b2, 0, none⟩, 1, 1, 61, 8, vecCells 0 (.slice none 0 0) 0 (.slice none 0 0) (.slice none 0 0) (.slice none 0 0) (.slice none 0 0) (.slice none 0 0)⟩, ⟨some ⟨b1, 0, none⟩, 1, 1, 61, 8, vecCells v.kind wv nv sm il fl ch bx⟩] w') (fun u => at_.length - u.1) (0, nn, (ab, cb)) ⟨rfl, rfl, rfl, rfl, rfl, rfl, rfl, rfl, rfl, rfl, rfl, rfl, rfl, trivial⟩ ⟨by omega, by dsimp only; omega, by simp only [List.take_zero, List.flatMap_nil, List.append_nil]; exact hs⟩ ?_
    rintro ⟨j, nj, ⟨aj, cj⟩⟩ w6 ⟨hj, hnj, hs⟩
    dsimp only at hj hnj hs ⊢
    by_cases hlj : j < at_.length
    · have hji : j * inner + inner ≤ at_.length * inner := by
        have := Nat.mul_le_mul_right inner (show j + 1 ≤ at_.length by omega)
        rw [Nat.add_mul, Nat.one_mul] at this
        exact this
      have htk : (at_.take (j + 1)).flatMap (fun i => (List.range inner).map fun k => alongI n inner o i k) = (at_.take j).flatMap (fun i => (List.range inner).map fun k => alongI n inner o i k) ++ (List.range inner).map fun k => alongI n inner o (at_.getD j 0) k := by
        rw [take_succ_getD at_ j 0 hlj, List.flatMap_append]
        simp
      refine Zerun ?_
      obtain ⟨x, hxe⟩ : ∃ x, at_.getD j 0 = x := ⟨_, rfl⟩
      rw [hxe] at htk ⊢
      refine CW.loop (fun u : Nat × Nat × (Option Addr × Nat) => [(1, .int .i64 outer), (2, .int .i64 n), (3, .int .i64 inner), (4, .slice ad at_.length cp), (5, .pointer (some ⟨b1, 0, none⟩)), (10, .pointer (some ⟨b2, 0, none⟩)), (11, .slice u.2.2.1 u.2.1 u.2.2.2), (12, .int .i64 o), (14, .int .i64 x), (34, .int .i64 outer), (35, .int .i64 o), (38, .slice ad at_.length cp), (39, .int .i64 at_.length), (40, .int .i64 j), (44, .int .i64 inner), (45, .int .i64 u.1)]) (fun u w' => u.1 ≤ inner ∧ u.2.1 = o * (at_.length * inner) + j * inner + u.1 ∧ Sees w h h [⟨u.2.2.1, u.2.1, u.2.2.2, 3, 1, (alongL o n inner at_ ++ (at_.take j).flatMap (fun i => (List.range inner).map fun k => alongI n inner o i k) ++ (List.range u.1).map (fun k => alongI n inner o x k)).map (Value.int .i64)⟩, ⟨some ⟨b2, 0, none⟩, 1, 1, 61, 8, vecCells 0 (.slice none 0 0) 0 (.slice none 0 0) (.slice none 0 0) (.slice none 0 0) (.slice none 0 0) (.slice none 0 0)⟩, ⟨some ⟨b1, 0, none⟩, 1, 1, 61, 8, vecCells v.kind wv nv sm il fl ch bx⟩] w') (fun u => inner - u.1) (0, nj, (aj, cj)) ⟨rfl, rfl, rfl, rfl, rfl, rfl, rfl, rfl, rfl, rfl, rfl, rfl, rfl, rfl, rfl, rfl, trivial⟩ ⟨by omega, hnj, by simp only [List.range_zero, List.map_nil, List.append_nil]; exact hs⟩ ?_
      rintro ⟨m, nm, ⟨am, cm⟩⟩ w7 ⟨hmm, hnm, hs⟩
      dsimp only at hmm hnm hs ⊢
      by_cases hlm2 : m < inner
      · have hrs : (List.range (m + 1)).map (fun k => alongI n inner o x k) = (List.range m).map (fun k => alongI n inner o x k) ++ [alongI n inner o x m] := by
          rw [List.range_succ, List.map_append]; rfl
        by_cases c1 : x < 0 ∨ (n : Int) ≤ x
        · have hv : alongI n inner o x m = -1 := by unfold alongI; rw [if_neg (by omega)]
          by_cases c2 : x < 0
          · refine Zerun ?_
            (refine RW.lit T hs (vs := [.int .i64 (-1)]) (cs := [.int .i64 (-1)]) rfl rfl rfl rfl (by simp [Value.cells]) rfl rfl rfl rfl rfl ?_; intro b8 w8 hs)
            (refine RW.append T hs 1 rfl rfl (m := 1) (news := [.int .i64 (-1)]) rfl rfl rfl rfl rfl rfl (hs.src0 rfl (by simp [Value.oneCell'])) (by simp) (by dsimp only; omega) (by omega) ?_; intro ad9 cp9 w9 hs; replace hs := hs.drop)
            refine Zerun ?_
            refine loopQ_round (m + 1, nm + 1, (ad9, cp9)) ⟨rfl, rfl, rfl, rfl, rfl, rfl, rfl, rfl, rfl, rfl, rfl, rfl, rfl, rfl, rfl, rfl, trivial⟩ ⟨by dsimp only; omega, by dsimp only; omega, ?_⟩ (by dsimp only; omega)
            dsimp only
            rw [hrs, hv, ← List.append_assoc, List.map_append]
            exact hs
          · have c3 : (n : Int) ≤ x := by omega
            refine Zerun ?_
            (refine RW.lit T hs (vs := [.int .i64 (-1)]) (cs := [.int .i64 (-1)]) rfl rfl rfl rfl (by simp [Value.cells]) rfl rfl rfl rfl rfl ?_; intro b8 w8 hs)
            (refine RW.append T hs 1 rfl rfl (m := 1) (news := [.int .i64 (-1)]) rfl rfl rfl rfl rfl rfl (hs.src0 rfl (by simp [Value.oneCell'])) (by simp) (by dsimp only; omega) (by omega) ?_; intro ad9 cp9 w9 hs; replace hs := hs.drop)
            refine Zerun ?_
            refine loopQ_round (m + 1, nm + 1, (ad9, cp9)) ⟨rfl, rfl, rfl, rfl, rfl, rfl, rfl, rfl, rfl, rfl, rfl, rfl, rfl, rfl, rfl, rfl, trivial⟩ ⟨by dsimp only; omega, by dsimp only; omega, ?_⟩ (by dsimp only; omega)
            dsimp only
            rw [hrs, hv, ← List.append_assoc, List.map_append]
            exact hs
        · have hx0 : 0 ≤ x ∧ x < n := by omega
          have hv : alongI n inner o x m = (((o * n + x.toNat) * inner + m : Nat) : Int) := by unfold alongI; rw [if_pos hx0]
          have hox : o * n + x.toNat < outer * n := by
            have := Nat.mul_le_mul_right n (show o + 1 ≤ outer by omega)
            rw [Nat.add_mul, Nat.one_mul] at this
            omega
          have hoxi : (o * n + x.toNat) * inner + m < outer * n * inner := by
            have := Nat.mul_le_mul_right inner (show o * n + x.toNat + 1 ≤ outer * n by omega)
            rw [Nat.add_mul, Nat.one_mul] at this
            omega
          refine Zerun ?_
          refine RW.val (Y.mul rfl rfl ?_) rfl ?_
          · rw [hlm]; omega
          rw [hlm]
          refine Zerun ?_
          rw [show ((o * n : Nat) : Int) + x = ((o * n + x.toNat : Nat) : Int) by omega]
          refine RW.val (Y.mul rfl rfl ?_) rfl ?_
          · rw [hlm]; omega
          rw [hlm]
          refine Zerun ?_
          (refine RW.lit T hs (vs := [.int .i64 ((((o * n + x.toNat) * inner : Nat) : Int) + m)]) (cs := [.int .i64 ((((o * n + x.toNat) * inner : Nat) : Int) + m)]) rfl rfl rfl rfl (by simp [Value.cells]) rfl rfl rfl rfl rfl ?_; intro b8 w8 hs)
          (refine RW.append T hs 1 rfl rfl (m := 1) (news := [.int .i64 ((((o * n + x.toNat) * inner : Nat) : Int) + m)]) rfl rfl rfl rfl rfl rfl (hs.src0 rfl (by simp [Value.oneCell'])) (by simp) (by dsimp only; omega) (by omega) ?_; intro ad9 cp9 w9 hs; replace hs := hs.drop)
          refine Zerun ?_
          refine loopQ_round (m + 1, nm + 1, (ad9, cp9)) ⟨rfl, rfl, rfl, rfl, rfl, rfl, rfl, rfl, rfl, rfl, rfl, rfl, rfl, rfl, rfl, rfl, trivial⟩ ⟨by dsimp only; omega, by dsimp only; omega, ?_⟩ (by dsimp only; omega)
          dsimp only
          rw [hrs, hv, ← List.append_assoc, List.map_append]
          exact hs
      obtain rfl : m = inner := by omega
      rw [List.append_assoc, ← htk] at hs
      refine Zerun ?_
      refine loopQ_round (j + 1, nm, (am, cm)) ⟨rfl, rfl, rfl, rfl, rfl, rfl, rfl, rfl, rfl, rfl, rfl, rfl, rfl, trivial⟩ ⟨by dsimp only; omega, ?_, hs⟩ (by dsimp only; omega)
      dsimp only
      rw [Nat.add_mul, Nat.one_mul]
      omega
    obtain rfl : j = at_.length := by omega
    have hsn : alongL (o + 1) n inner at_ = alongL o n inner at_ ++ at_.flatMap (fun i => (List.range inner).map fun k => alongI n inner o i k) := by
      unfold alongL
      rw [List.range_succ, List.flatMap_append]
      simp
    rw [List.take_length, ← hsn] at hs
    refine Zerun ?_
    refine loopQ_round (o + 1, nj, (aj, cj)) ⟨rfl, rfl, rfl, rfl, rfl, rfl, rfl, rfl, rfl, trivial⟩ ⟨by dsimp only; omega, ?_, hs⟩ (by dsimp only; omega)
    dsimp only
    rw [alongL_len, Nat.add_mul, Nat.one_mul]
    omega
  obtain rfl : o = outer := by omega
  obtain ⟨h6, hle6, hs, hS6⟩ := hs.freeze
  have hI6 : IntsAt h6 (.slice ab nn cb) (alongL o n inner at_) := IntsAt.of_sl hS6
  have hv' := hv'.mono hR hle6
  refine Zerun ?_
  (refine RW.call T hs rfl rfl rfl (flatPick_con hR h1 h9 nb hbl _ _ _ (alongL o n inner at_) _ _ hv' hI6 (by omega) hvm hk0) ?_; intro v h11 w11 hle11 hp11 hs)
  obtain ⟨cs11, rfl, hv11⟩ := hp11
  obtain ⟨wv6, nv6, sm6, il6, fl6, ch6, bx6, ⟨rfl, hoc6⟩, _⟩ := id hv11
  (refine RW.storeAll T hs 0 rfl rfl rfl rfl rfl rfl hoc6 rfl ?_; intro w12 hs)
  refine Zerun ?_
  exact retQ_ret [_] h11 ⟨resN T hs 0 rfl rfl rfl rfl rfl rfl, trivial⟩ hs.dropAll ⟨_, rfl, hv11⟩
end
end Go.Proofs.Ythbfkhklihejiaa

/-
  Contracts of functions of package shape and of its reference, third part: places and indexes. No statement is proved here.
-/
namespace Go.Proofs.Ythbfkhklihejiaa
open Go Go.RowKit
set_option linter.unusedVariables false
set_option linter.unusedSimpArgs false
set_option maxHeartbeats 4000000
attribute [local irreducible] CW RW QW SW HW ConM retM heldQ calmQ elemP thenQ blockQ loopQ joinQ retQ Yields Con Sl

theorem at_con (s t : Value) (l m : List Int) (w : World) (h : GHeap) (hl : IntsAt h s l) (ht : IntsAt h t m) (hm : l.length ≤ 9223372036854775807) : Con Try.prog 27 [s, t] w h
    (fun _ v => v = .tuple #[.int .i64 (atSpec l m).1, .bool (atSpec l m).2]) := by
  have hl' := hl
  obtain ⟨ad, cp, rfl, hS⟩ := hl
  obtain ⟨ad2, cp2, rfl, hS2⟩ := ht
  refine Con.of_body Try.func27 rfl Try.ntmps27 rfl rfl ?_
  intro hs
  refine Zrun ?_
  (refine RW.call T hs rfl rfl rfl (good_con _ l _ _ hl' hm) ?_; intro v h1 w1 hle1 hp1 hs)
  subst hp1
  have hS := hS.mono hle1
  have hS2 := hS2.mono hle1
  refine Zrun ?_
  refine RW.gd rfl rfl (fun hg => ?_) (fun hg => ?_)
  · refine Zrun ?_
    exact retQ_ret [_, _] h1 ⟨rfl, rfl, trivial⟩ hs (by simp [packv, at_bad l m hg])
  have hg := Decidable.of_not_not hg
  refine Zrun ?_
  refine CW.condD rfl (fun h8 => ?_) (fun h8 => ?_)
  · refine Zrun ?_
    exact retQ_ret [_, _] h1 ⟨rfl, rfl, trivial⟩ hs (by simp [packv, at_len l m (by omega)])
  have hlen : l.length = m.length := by omega
  refine Zrun ?_
  refine CW.loop (fun k : Nat => [(0, .slice ad l.length cp), (1, .slice ad2 m.length cp2), (6, .int .i64 (off (l.take k) (m.take k))), (19, .slice ad l.length cp), (20, .int .i64 l.length), (21, .int .i64 k)]) (fun k w' => k ≤ l.length ∧ (∀ j, j < k → 0 ≤ m.getD j 0 ∧ m.getD j 0 < l.getD j 0) ∧ Sees w h h1 [] w') (fun k => l.length - k) 0 ⟨rfl, rfl, by simp [off]; rfl, rfl, rfl, rfl, trivial⟩ ⟨by omega, by omega, hs⟩ ?_
  rintro k w' ⟨hk, hno, hs⟩
  have hob := off_take_bound l m k hg hk hlen hno
  by_cases hlt : k < l.length
  · have hgd := good_getD l hg k hlt
    have hsn := off_take_succ l m k hlen hlt
    have hmb := mul_bound ⟨hob.1, by omega⟩ hgd
    refine Zrun ?_
    refine RW.gd rfl rfl (fun h2 => ?_) (fun h2 => ?_)
    · refine Zrun ?_
      exact retQ_ret [_, _] h1 ⟨rfl, rfl, trivial⟩ hs (by simp [packv, at_out l m k hlt (by omega)])
    · refine Zrun ?_
      refine CW.condD rfl (fun h3 => ?_) (fun h3 => ?_)
      · refine Zrun ?_
        exact retQ_ret [_, _] h1 ⟨rfl, rfl, trivial⟩ hs (by simp [packv, at_out l m k hlt (by omega)])
      · refine Zrun ?_
        refine RW.val (Y.mul rfl rfl ⟨by omega, by omega⟩) rfl ?_
        refine Zrun ?_
        refine loopQ_round (k + 1) ⟨rfl, rfl, by rw [hsn]; rfl, rfl, rfl, rfl, trivial⟩ ⟨by omega, ?_, hs⟩ (by omega)
        intro j hj
        by_cases e : j = k
        · subst e; omega
        · exact hno j (by omega)
  obtain rfl : k = l.length := by omega
  refine Zrun ?_
  refine retQ_ret [_, _] h1 ⟨rfl, rfl, trivial⟩ hs ?_
  rw [List.take_of_length_le (Nat.le_refl _), List.take_of_length_le (by omega)]
  simp [packv, at_in l m hg hlen hno]

theorem place_con (s t : Value) (l m : List Int) (w : World) (h : GHeap) (hl : IntsAt h s l) (ht : IntsAt h t m) (hm : l.length ≤ 9223372036854775807) : Con Try.prog 28 [s, t] w h
    (fun _ v => v = .int .i64 (if (atSpec l m).2 = true then (atSpec l m).1 else -1)) := by
  have hl' := hl
  obtain ⟨ad, cp, rfl, hS⟩ := hl
  obtain ⟨ad2, cp2, rfl, hS2⟩ := ht
  refine Con.of_body Try.func28 rfl Try.ntmps28 rfl rfl ?_
  intro hs
  refine Zrun ?_
  (refine RW.call T hs rfl rfl rfl (refGood_con _ l _ _ hl' hm) ?_; intro v h1 w1 hle1 hp1 hs)
  subst hp1
  have hS := hS.mono hle1
  have hS2 := hS2.mono hle1
  refine Zrun ?_
  refine RW.gd rfl rfl (fun hg => ?_) (fun hg => ?_)
  · refine Zrun ?_
    exact retQ_ret [_] h1 ⟨rfl, trivial⟩ hs (by simp [packv, at_bad l m hg])
  have hg := Decidable.of_not_not hg
  refine Zrun ?_
  refine CW.condD rfl (fun h8 => ?_) (fun h8 => ?_)
  · refine Zrun ?_
    exact retQ_ret [_] h1 ⟨rfl, trivial⟩ hs (by simp [packv, at_len l m (by omega)])
  have hlen : l.length = m.length := by omega
  refine Zrun ?_
  refine CW.loop (fun k : Nat => [(0, .slice ad l.length cp), (1, .slice ad2 m.length cp2), (5, .int .i64 (off (l.drop k) (m.drop k))), (6, .int .i64 (prn (l.drop k))), (7, .int .i64 ((k : Int) - 1))]) (fun k w' => k ≤ l.length ∧ (∀ j, k ≤ j → j < l.length → 0 ≤ m.getD j 0 ∧ m.getD j 0 < l.getD j 0) ∧ Sees w h h1 [] w') (fun k => k) l.length ⟨rfl, rfl, by simp [off]; rfl, by simp [prn]; rfl, rfl, trivial⟩ ⟨by omega, by omega, hs⟩ ?_
  rintro k w' ⟨hk, hno, hs⟩
  have hob := off_drop_bound l m k hg hlen hno
  rcases k with _ | k
  · refine Zrun ?_
    refine retQ_ret [_] h1 ⟨rfl, trivial⟩ hs ?_
    simp [packv, at_in l m hg hlen (fun j hj => hno j (by omega) hj)]
  · have e1 : ((k + 1 : Nat) : Int) - 1 = (k : Int) := by omega
    rw [e1]
    have hgd := good_getD l hg k (by omega)
    refine Zrun ?_
    refine CW.regionQ T hs (Zqrun ?_) (by kernel_rfl)
    refine QW.gd rfl rfl (fun h2 => ?_) (fun h2 => ?_)
    · repeat
        first | with_reducible refine QW.nil ?_ | refine Qz ?_ rfl | refine QW.guardYes rfl rfl ?_ | refine QW.guardNo rfl rfl rfl rfl ?_ | refine QW.guardUndef rfl rfl rfl ?_ | (refine QW.gdY rfl rfl ?_ ?_; omega) | (refine QW.gdN rfl rfl ?_ ?_; omega)
      intro w' hs
      refine Zrun ?_
      exact retQ_ret [_] h1 ⟨rfl, trivial⟩ hs (by simp [packv, at_out l m k (by omega) (by omega)])
    · repeat
        first | with_reducible refine QW.nil ?_ | refine Qz ?_ rfl | refine QW.guardYes rfl rfl ?_ | refine QW.guardNo rfl rfl rfl rfl ?_ | refine QW.guardUndef rfl rfl rfl ?_ | (refine QW.gdY rfl rfl ?_ ?_; omega) | (refine QW.gdN rfl rfl ?_ ?_; omega)
      intro w' hs
      refine Zrun ?_
      refine CW.condD rfl (fun h3 => ?_) (fun h3 => ?_)
      · refine Zrun ?_
        exact retQ_ret [_] h1 ⟨rfl, trivial⟩ hs (by simp [packv, at_out l m k (by omega) (by omega)])
      · have hmb := mul_bound (a := prn (l.drop (k + 1))) (b := m.getD k 0) (by omega) (by omega)
        have hmb2 := mul_bound (a := prn (l.drop (k + 1))) (b := l.getD k 0) (by omega) (by omega)
        refine Zrun ?_
        refine RW.val (Y.mul rfl rfl ⟨by omega, by omega⟩) rfl ?_
        refine Zrun ?_
        refine RW.val (Y.mul rfl rfl ⟨by omega, by omega⟩) rfl ?_
        refine Zrun ?_
        refine loopQ_round k ⟨rfl, rfl, seti (by rw [off_drop l m k hlen (by omega), Int.mul_comm, Int.add_comm]), seti (by rw [prn_drop l k (by omega), Int.mul_comm]), rfl, trivial⟩ ⟨by omega, ?_, hs⟩ (by omega)
        intro j hj hj2
        by_cases e : j = k
        · subst e; omega
        · exact hno j (by omega) hj2
end Go.Proofs.Ythbfkhklihejiaa

/-
  Contracts of functions of package shape and of its reference, fourth part: new shapes. No statement is proved here.
-/
namespace Go.Proofs.Ythbfkhklihejiaa
open Go Go.RowKit
set_option linter.unusedVariables false
set_option linter.unusedSimpArgs false
set_option maxHeartbeats 4000000
attribute [local irreducible] CW RW QW SW HW ConM retM heldQ calmQ elemP thenQ blockQ loopQ joinQ retQ Yields Con Sl

/-- a clone of a slice of int: the caller's own -/
theorem cloneInt_conM (ad : Option Addr) (cp : Nat) (l : List Int) (w0 w : World) (h0 h : GHeap) (O : List Row) (hS : Sl h 1 ad l.length cp (l.map (Value.int .i64))) (hm : l.length ≤ 17592186044416) :
    ConM Try.prog 112 [.slice ad l.length cp] w0 h0 h O w (fun h' O' v => h' = h ∧ ∃ ad' cp', v = .slice ad' l.length cp' ∧ O' = ⟨ad', l.length, cp', 3, 1, l.map (Value.int .i64)⟩ :: O) := by
  refine ConM.of_body Try.func112 rfl Try.ntmps112 rfl rfl ?_
  intro hs
  refine Zrun ?_
  refine RW.val (Y.sliceNil T rfl rfl rfl) rfl ?_
  refine Zrun ?_
  cases ad with
  | none =>
    have h4 : l = [] := List.eq_nil_of_length_eq_zero hS.nil0.1
    subst h4
    refine Zrun ?_
    exact retM_ret [_] h _ ⟨rfl, trivial⟩ (GLe.refl _) (hs.nilRow 3 1) ⟨rfl, none, 0, rfl, rfl⟩
  | some p =>
    refine Zrun ?_
    (refine RW.lit T hs (vs := []) rfl rfl rfl rfl (by simp [Value.cells]) rfl rfl rfl rfl rfl ?_; intro b1 w1 hs)
    refine Zrun ?_
    refine RW.append T hs 0 rfl rfl (m := l.length) (news := l.map (Value.int .i64)) rfl rfl rfl rfl rfl rfl (hS.src hs.agree (one_ints _ _)) (by simp) (by dsimp only; omega) (by omega) ?_
    intro ad' cp' w2 hs
    refine Zrun ?_
    exact retM_ret [_] h _ ⟨rfl, trivial⟩ (GLe.refl _) hs ⟨rfl, ad', cp', by rw [Nat.zero_add]; rfl, by simp⟩

theorem equalInt_con (s t : Value) (l m : List Int) (w : World) (h : GHeap) (hl : IntsAt h s l) (ht : IntsAt h t m) (hm : l.length ≤ 9223372036854775807) : Con Try.prog 114 [s, t] w h (fun _ v => v = .bool (decide (l = m))) := by
  obtain ⟨ad, cp, rfl, hS⟩ := hl
  obtain ⟨ad2, cp2, rfl, hS2⟩ := ht
  refine Con.of_body Try.func114 rfl Try.ntmps114 rfl rfl ?_
  intro hs
  refine Zrun ?_
  refine CW.condD rfl (fun h8 => ?_) (fun h8 => ?_)
  · refine Zrun ?_
    refine retQ_ret [_] h ⟨rfl, trivial⟩ hs ?_
    have : l ≠ m := fun e => h8 (by rw [e])
    simp [packv, this]
  have hlen : l.length = m.length := by omega
  refine Zrun ?_
  refine CW.loop (fun k : Nat => [(0, .slice ad l.length cp), (1, .slice ad2 m.length cp2), (12, .int .i64 l.length), (13, .int .i64 k)]) (fun k w' => k ≤ l.length ∧ (∀ j, j < k → l.getD j 0 = m.getD j 0) ∧ Sees w h h [] w') (fun k => l.length - k) 0 ⟨rfl, rfl, rfl, rfl, trivial⟩ ⟨by omega, by omega, hs⟩ ?_
  rintro k w' ⟨hk, hno, hs⟩
  by_cases hlt : k < l.length
  · refine Zrun ?_
    refine CW.regionQ T hs (Zqrun ?_) (by kernel_rfl)
    intro w' hs
    refine Zrun ?_
    refine CW.condD rfl (fun h2 => ?_) (fun h2 => ?_)
    · refine Zrun ?_
      refine retQ_ret [_] h ⟨rfl, trivial⟩ hs ?_
      have : l ≠ m := fun e => h2 (by rw [e])
      simp [packv, this]
    · refine Zrun ?_
      refine loopQ_round (k + 1) ⟨rfl, rfl, rfl, rfl, trivial⟩ ⟨by omega, ?_, hs⟩ (by omega)
      intro j hj
      by_cases e : j = k
      · subst e; exact Decidable.of_not_not h2
      · exact hno j (by omega)
  obtain rfl : k = l.length := by omega
  refine Zrun ?_
  refine retQ_ret [_] h ⟨rfl, trivial⟩ hs ?_
  have : l = m := by
    apply List.ext_getElem hlen
    intro j h1 h2
    have := hno j h1
    simpa [List.getD_eq_getElem?_getD, h1, h2] using this
  simp [packv, this]

theorem same_con (s t : Value) (l m : List Int) (w : World) (h : GHeap) (hl : IntsAt h s l) (ht : IntsAt h t m) (hm : l.length ≤ 9223372036854775807) : Con Try.prog 37 [s, t] w h (fun _ v => v = .bool (decide (l = m))) := by
  refine Con.of_body Try.func37 rfl Try.ntmps37 rfl rfl ?_
  intro hs
  refine Zrun ?_
  (refine RW.call T hs rfl rfl rfl (equalInt_con s t l m _ _ hl ht hm) ?_; intro v h1 w1 hle1 hp1 hs)
  subst hp1
  refine Zrun ?_
  exact retQ_ret [_] h1 ⟨rfl, trivial⟩ hs rfl

/-- the indexes of a place: made -/
theorem index_con (s : Value) (l : List Int) (a : Int) (w : World) (h : GHeap) (hl : IntsAt h s l) (hm : l.length ≤ 9223372036854775807) : Con Try.prog 29 [s, .int .i64 a] w h
    (fun h' v => ∃ u, v = .tuple #[u, .bool (indexSpec l a).2] ∧ IntsAt h' u (indexSpec l a).1) := by
  have hl' := hl
  obtain ⟨ad, cp, rfl, hS⟩ := hl
  refine Con.of_body Try.func29 rfl Try.ntmps29 rfl rfl ?_
  intro hs
  refine Zrun ?_
  (refine RW.call T hs rfl rfl rfl (product_con _ l 1048576 _ _ hl' hm) ?_; intro v h1 w1 hle1 hp1 hs)
  subst hp1
  have hS := hS.mono hle1
  have bad : ¬ (goodS l = true ∧ 0 ≤ a ∧ a < (product l 1048576).1) → indexSpec l a = ([], false) := fun hn => by unfold indexSpec; rw [if_neg hn]
  refine Zrun ?_
  refine RW.gd rfl rfl (fun hg => ?_) (fun hg => ?_)
  · have hb := bad (fun e => hg ((goodS_iff l).1 e.1))
    refine Zrun ?_
    exact retQ_ret [_, _] h1 ⟨rfl, rfl, trivial⟩ hs (by rw [hb]; exact ⟨_, rfl, IntsAt.nil _⟩)
  have hg := Decidable.of_not_not hg
  refine Zrun ?_
  refine RW.gd rfl rfl (fun h2 => ?_) (fun h2 => ?_)
  · have hb := bad (fun e => by omega)
    refine Zrun ?_
    exact retQ_ret [_, _] h1 ⟨rfl, rfl, trivial⟩ hs (by rw [hb]; exact ⟨_, rfl, IntsAt.nil _⟩)
  refine Zrun ?_
  refine CW.condD rfl (fun h3 => ?_) (fun h3 => ?_)
  · have hb := bad (fun e => by omega)
    refine Zrun ?_
    exact retQ_ret [_, _] h1 ⟨rfl, rfl, trivial⟩ hs (by rw [hb]; exact ⟨_, rfl, IntsAt.nil _⟩)
  have hin : indexSpec l a = (idxOf l a, true) := by
    unfold indexSpec; rw [if_pos ⟨(goodS_iff l).2 hg, by omega, by omega⟩]
  obtain ⟨hpos, hprod⟩ := idx_pos l a ((goodS_iff l).2 hg) ⟨by omega, by omega⟩
  have hgs := (goodS_spec l).1 ((goodS_iff l).2 hg)
  have ha1 : a < 1048576 := by omega
  have ha0 : 0 ≤ a := by omega
  clear bad h2 h3
  refine Zrun ?_
  (refine RW.make T hs rfl rfl rfl rfl rfl ?_ ?_ ?_ ?_ ?_; omega; omega; (dsimp only; omega); omega; intro b2 w2 hs)
  refine Zrun ?_
  refine CW.loop (fun k : Nat => [(0, .slice ad l.length cp), (1, .int .i64 (a / prn (l.drop k))), (8, .slice (some ⟨b2, 0, none⟩) l.length l.length), (9, .int .i64 ((k : Int) - 1))]) (fun k w' => k ≤ l.length ∧ Sees w h h1 [⟨some ⟨b2, 0, none⟩, l.length, l.length, 3, 1, (List.replicate k 0 ++ (idxOf l a).drop k).map (Value.int .i64)⟩] w') (fun k => k) l.length ⟨rfl, seti (by simp [prn]), rfl, rfl, trivial⟩ ⟨by omega, hs.cast (by
    simp only [Int.toNat_natCast]
    rw [List.drop_of_length_le (by rw [length_idxOf]; omega), List.append_nil, List.map_replicate]
    exact congrArg (fun z => [Row.mk (some ⟨b2, 0, none⟩) l.length l.length 3 1 z]) (made_one _ _))⟩ ?_
  rintro k w' ⟨hk, hs⟩
  rcases k with _ | k
  · refine Zrun ?_
    obtain ⟨h3, hle3, hs3, hS3⟩ := hs.freeze
    simp only [List.replicate_zero, List.nil_append, List.drop_zero] at hS3
    exact retQ_ret [_, _] h3 ⟨rfl, rfl, trivial⟩ hs3 (by rw [hin]; exact ⟨_, rfl, IntsAt.of_sl hS3⟩)
  · have e1 : ((k + 1 : Nat) : Int) - 1 = (k : Int) := by omega
    rw [e1]
    have hd := hpos (l.getD k 0) (by simp [List.getD_eq_getElem?_getD, show k < l.length by omega])
    have hpd := prn_pos (l.drop (k + 1)) (fun x hx => hpos x (List.mem_of_mem_drop hx))
    have hq0 : 0 ≤ a / prn (l.drop (k + 1)) := Int.ediv_nonneg ha0 (by omega)
    have hq1 : a / prn (l.drop (k + 1)) ≤ a := Int.ediv_le_self _ ha0
    refine Zrun ?_
    refine RW.val (Y.idxRN T hs 0 rfl rfl rfl rfl rfl rfl ?_) rfl ?_
    · omega
    refine RW.st1 T hs 0 rfl rfl rfl rfl rfl rfl rfl (by omega) ?_
    intro w2 hs
    refine Zrun ?_
    refine loopQ_round k ⟨rfl, seti (by rw [prn_drop l k (by omega), Int.mul_comm, Int.ediv_ediv_of_nonneg (by omega)]), rfl, rfl, trivial⟩ ⟨by omega, hs.cast ?_⟩ (by omega)
    rw [map_set_int]
    refine congrArg (fun (z : List Int) => [Row.mk (some ⟨b2, 0, none⟩) l.length l.length 3 1 (z.map (Value.int .i64))]) ?_
    rw [List.replicate_succ', List.append_assoc, List.set_append_right _ _ (by simp)]
    simp only [List.length_replicate, Nat.sub_self]
    rw [drop_pred (idxOf l a) k (by rw [length_idxOf]; omega), getD_idxOf l a k (by omega)]
    simp
end Go.Proofs.Ythbfkhklihejiaa

/-
  Contracts of functions of package shape and of its reference, fifth part. No statement is proved here.
-/
namespace Go.Proofs.Ythbfkhklihejiaa
open Go Go.RowKit
set_option linter.unusedVariables false
set_option linter.unusedSimpArgs false
set_option maxHeartbeats 4000000
attribute [local irreducible] CW RW QW SW HW ConM retM heldQ calmQ elemP thenQ blockQ loopQ joinQ retQ Yields Con Sl

theorem strides_con (s : Value) (l : List Int) (w : World) (h : GHeap) (hl : IntsAt h s l) (hm : l.length ≤ 9223372036854775807) : Con Try.prog 30 [s] w h
    (fun h' v => IntsAt h' v (if goodS l = true then stridesOf l else [])) := by
  have hl' := hl
  obtain ⟨ad, cp, rfl, hS⟩ := hl
  refine Con.of_body Try.func30 rfl Try.ntmps30 rfl rfl ?_
  intro hs
  refine Zrun ?_
  (refine RW.call T hs rfl rfl rfl (good_con _ l _ _ hl' hm) ?_; intro v h1 w1 hle1 hp1 hs)
  subst hp1
  have hS := hS.mono hle1
  refine Zrun ?_
  refine CW.condD rfl (fun hg => ?_) (fun hg => ?_)
  · refine Zrun ?_
    exact retQ_ret [_] h1 ⟨rfl, trivial⟩ hs (by rw [if_neg (fun e => hg ((goodS_iff l).1 e))]; exact IntsAt.nil _)
  have hg := Decidable.of_not_not hg
  have hgs := (goodS_spec l).1 ((goodS_iff l).2 hg)
  refine Zrun ?_
  (refine RW.make T hs rfl rfl rfl rfl rfl ?_ ?_ ?_ ?_ ?_; omega; omega; (dsimp only; omega); omega; intro b2 w2 hs)
  refine Zrun ?_
  refine CW.loop (fun k : Nat => [(0, .slice ad l.length cp), (3, .slice (some ⟨b2, 0, none⟩) l.length l.length), (4, .int .i64 (pr (l.drop k))), (5, .int .i64 ((k : Int) - 1))]) (fun k w' => k ≤ l.length ∧ Sees w h h1 [⟨some ⟨b2, 0, none⟩, l.length, l.length, 3, 1, (List.replicate k 0 ++ (stridesOf l).drop k).map (Value.int .i64)⟩] w') (fun k => k) l.length ⟨rfl, rfl, seti (by simp [pr]), rfl, trivial⟩ ⟨by omega, hs.cast (by
    simp only [Int.toNat_natCast]
    rw [List.drop_of_length_le (by rw [length_stridesOf]; omega), List.append_nil, List.map_replicate]
    exact congrArg (fun z => [Row.mk (some ⟨b2, 0, none⟩) l.length l.length 3 1 z]) (made_one _ _))⟩ ?_
  rintro k w' ⟨hk, hs⟩
  rcases k with _ | k
  · refine Zrun ?_
    obtain ⟨h3, hle3, hs3, hS3⟩ := hs.freeze
    simp only [List.replicate_zero, List.nil_append, List.drop_zero] at hS3
    exact retQ_ret [_] h3 ⟨rfl, trivial⟩ hs3 (by rw [if_pos ((goodS_iff l).2 hg)]; exact IntsAt.of_sl hS3)
  · have e1 : ((k + 1 : Nat) : Int) - 1 = (k : Int) := by omega
    rw [e1]
    have hgd := good_getD l hg k (by omega)
    have hpd := pr_pos (l.drop (k + 1))
    have hple := pr_drop_le l (k + 1)
    have hmb := mul_bound (a := pr (l.drop (k + 1))) (b := max 1 (l.getD k 0)) (by omega) (by omega)
    refine Zrun ?_
    refine RW.val (Y.idxRN T hs 0 rfl rfl rfl rfl rfl rfl ?_) rfl ?_
    · omega
    refine RW.st1 T hs 0 rfl rfl rfl rfl rfl rfl rfl (by omega) ?_
    intro w2 hs
    refine Zrun ?_
    refine RW.val (Y.mul rfl rfl ⟨by omega, by omega⟩) rfl ?_
    refine Zrun ?_
    refine loopQ_round k ⟨rfl, rfl, seti (by rw [pr_drop l k (by omega), Int.mul_comm]), rfl, trivial⟩ ⟨by omega, hs.cast ?_⟩ (by omega)
    rw [map_set_int]
    refine congrArg (fun (z : List Int) => [Row.mk (some ⟨b2, 0, none⟩) l.length l.length 3 1 (z.map (Value.int .i64))]) ?_
    rw [List.replicate_succ', List.append_assoc, List.set_append_right _ _ (by simp)]
    simp only [List.length_replicate, Nat.sub_self]
    rw [drop_pred (stridesOf l) k (by rw [length_stridesOf]; omega), getD_stridesOf l k (by omega)]
    simp

theorem next_con (s t : Value) (l m : List Int) (w : World) (h : GHeap) (hl : IntsAt h s l) (ht : IntsAt h t m) (hm : l.length ≤ 9223372036854775807) : Con Try.prog 32 [s, t] w h
    (fun h' v => ∃ u, v = .tuple #[u, .bool (if (atSpec l m).2 = true then (indexSpec l ((atSpec l m).1 + 1)).2 else false)] ∧ IntsAt h' u (if (atSpec l m).2 = true then (indexSpec l ((atSpec l m).1 + 1)).1 else [])) := by
  refine Con.of_body Try.func32 rfl Try.ntmps32 rfl rfl ?_
  intro hs
  refine Zrun ?_
  (refine RW.call T hs rfl rfl rfl (at_con s t l m _ _ hl ht hm) ?_; intro v h1 w1 hle1 hp1 hs)
  subst hp1
  have hl := hl.mono hle1
  have hb : 0 ≤ (atSpec l m).1 ∧ (atSpec l m).1 < 1048576 := by
    unfold atSpec
    split
    · rename_i hc
      have h1 := off_bound l m hc.2
      have h2 := prn_eq_pr l (inR_pos _ _ hc.2)
      have h3 := ((goodS_spec l).1 hc.1).2.2
      simp only; omega
    · simp
  generalize atSpec l m = r at hb ⊢
  refine Zrun ?_
  refine CW.cond rfl (fun h2 => ?_) (fun h2 => ?_)
  · have h2 : r.2 = false := by simpa using h2
    refine Zrun ?_
    exact retQ_ret [_, _] h1 ⟨rfl, rfl, trivial⟩ hs ⟨.slice none 0 0, by simp [packv, h2], by rw [if_neg (by rw [h2]; simp)]; exact IntsAt.nil _⟩
  · have h2 : r.2 = true := by simpa using h2
    refine Zrun ?_
    (refine RW.call T hs rfl rfl rfl (index_con s l _ _ _ hl hm) ?_; intro v h3 w3 hle3 hp3 hs)
    obtain ⟨u, rfl, hu⟩ := hp3
    refine Zrun ?_
    exact retQ_ret [_, _] h3 ⟨rfl, rfl, trivial⟩ hs ⟨u, by simp [packv, h2], by rw [if_pos h2]; exact hu⟩

theorem split_con (s : Value) (l : List Int) (axis : Int) (w : World) (h : GHeap) (hl : IntsAt h s l) (hm : l.length ≤ 9223372036854775807) : Con Try.prog 34 [s, .int .i64 axis] w h
    (fun _ v => v = .tuple #[.int .i64 (splitSpec l axis).1, .int .i64 (splitSpec l axis).2.1, .int .i64 (splitSpec l axis).2.2.1, .bool (splitSpec l axis).2.2.2]) := by
  have hl' := hl
  obtain ⟨ad, cp, rfl, hS⟩ := hl
  have bad : ¬ splitOk l axis → splitSpec l axis = (0, 0, 0, false) := fun hn => by unfold splitSpec; rw [if_neg hn]
  refine Con.of_body Try.func34 rfl Try.ntmps34 rfl rfl ?_
  intro hs
  refine Zrun ?_
  (refine RW.call T hs rfl rfl rfl (good_con _ l _ _ hl' hm) ?_; intro v h1 w1 hle1 hp1 hs)
  subst hp1
  have hS := hS.mono hle1
  refine Zrun ?_
  refine RW.gd rfl rfl (fun hg => ?_) (fun hg => ?_)
  · have hb := bad (fun e => hg ((goodS_iff l).1 e.1))
    refine Zrun ?_
    exact retQ_ret [_, _, _, _] h1 ⟨rfl, rfl, rfl, rfl, trivial⟩ hs (by rw [hb]; rfl)
  have hg := Decidable.of_not_not hg
  refine Zrun ?_
  refine RW.gd rfl rfl (fun h2 => ?_) (fun h2 => ?_)
  · have hb := bad (fun e => by have := e.2.1; omega)
    refine Zrun ?_
    exact retQ_ret [_, _, _, _] h1 ⟨rfl, rfl, rfl, rfl, trivial⟩ hs (by rw [hb]; rfl)
  refine Zrun ?_
  refine CW.condD rfl (fun h3 => ?_) (fun h3 => ?_)
  · have hb := bad (fun e => by have := e.2.2.1; omega)
    refine Zrun ?_
    exact retQ_ret [_, _, _, _] h1 ⟨rfl, rfl, rfl, rfl, trivial⟩ hs (by rw [hb]; rfl)
  obtain ⟨q, rfl⟩ := Int.eq_ofNat_of_zero_le (show 0 ≤ axis by omega)
  have hq : q < l.length := by omega
  have hcaps := hS.caps
  refine Zrun ?_
  refine RW.val (Y.sliceHi T rfl rfl rfl rfl ?_) rfl ?_
  · omega
  have hlt : (l.take q).length = q := by simp; omega
  have hT1 : IntsAt h1 (.slice ad q cp) (l.take q) := by
    have := hS.take q (by omega)
    rw [Nat.mul_one, ← List.map_take] at this
    exact IntsAt.of_sl this
  (refine RW.call T hs rfl rfl rfl (product_con _ (l.take q) 1048576 _ _ hT1 (by omega)) ?_; intro v h2 w2 hle2 hp2 hs)
  subst hp2
  have hS := hS.mono hle2
  refine Zrun ?_
  refine RW.val (Y.sliceLo T rfl rfl rfl rfl ?_ ?_) rfl ?_
  · omega
  · omega
  have hT2 : IntsAt h2 (.slice (subAd ad (q + 1) cp 1) (l.length - (q + 1)) (cp - (q + 1))) (l.drop (q + 1)) := by
    have := hS.from (q + 1) (by omega)
    rw [Nat.mul_one, ← List.map_drop] at this
    exact IntsAt.of_sl this
  (refine RW.call T hs rfl rfl rfl (product_con _ (l.drop (q + 1)) 1048576 _ _ hT2 (by simp; omega)) ?_; intro v h4 w4 hle4 hp4 hs)
  subst hp4
  have hS := hS.mono hle4
  refine Zrun ?_
  have hsp : splitSpec l (q : Int) = if (product (l.take q) 1048576).2 = 0 ∧ (product (l.drop (q + 1)) 1048576).2 = 0 then ((product (l.take q) 1048576).1, l.getD q 0, (product (l.drop (q + 1)) 1048576).1, true) else (0, 0, 0, false) := by
    unfold splitSpec splitOk
    simp only [Int.toNat_natCast]
    have e1 : goodS l = true := (goodS_iff l).2 hg
    have e2 : (0 : Int) ≤ (q : Int) := by omega
    have e3 : (q : Int) < (l.length : Int) := by omega
    simp only [e1, e2, e3, true_and]
  refine RW.gd rfl rfl (fun h5 => ?_) (fun h5 => ?_)
  · refine Zrun ?_
    exact retQ_ret [_, _, _, _] h4 ⟨rfl, rfl, rfl, rfl, trivial⟩ hs (by rw [hsp, if_neg (fun e => h5 e.1)]; rfl)
  have h5 := Decidable.of_not_not h5
  refine Zrun ?_
  refine CW.condD rfl (fun h6 => ?_) (fun h6 => ?_)
  · refine Zrun ?_
    exact retQ_ret [_, _, _, _] h4 ⟨rfl, rfl, rfl, rfl, trivial⟩ hs (by rw [hsp, if_neg (fun e => h6 e.2)]; rfl)
  have h6 := Decidable.of_not_not h6
  refine Zrun ?_
  refine CW.regionQ T hs (Zqrun ?_) (by kernel_rfl)
  intro w hs
  refine Zrun ?_
  exact retQ_ret [_, _, _, _] h4 ⟨rfl, rfl, rfl, rfl, trivial⟩ hs (by rw [hsp, if_pos ⟨h5, h6⟩]; rfl)

theorem with_con (s : Value) (l : List Int) (axis n : Int) (w : World) (h : GHeap) (hl : IntsAt h s l) (hm : l.length ≤ 17592186044416) : Con Try.prog 35 [s, .int .i64 axis, .int .i64 n] w h
    (fun h' v => ∃ u, v = .tuple #[u, .bool (withSpec l axis n).2] ∧ IntsAt h' u (withSpec l axis n).1) := by
  have hl' := hl
  obtain ⟨ad, cp, rfl, hS⟩ := hl
  have bad : ¬ (0 ≤ axis ∧ axis < l.length ∧ goodS (l.set axis.toNat n) = true) → withSpec l axis n = ([], false) := fun hn => by unfold withSpec; rw [if_neg hn]
  refine Con.of_body Try.func35 rfl Try.ntmps35 rfl rfl ?_
  intro hs
  refine Zrun ?_
  refine RW.gd rfl rfl (fun h2 => ?_) (fun h2 => ?_)
  · have hb := bad (fun e => by have := e.1; omega)
    refine Zrun ?_
    exact retQ_ret [_, _] h ⟨rfl, rfl, trivial⟩ hs (by rw [hb]; exact ⟨_, rfl, IntsAt.nil _⟩)
  refine Zrun ?_
  refine CW.condD rfl (fun h3 => ?_) (fun h3 => ?_)
  · have hb := bad (fun e => by have := e.2.1; omega)
    refine Zrun ?_
    exact retQ_ret [_, _] h ⟨rfl, rfl, trivial⟩ hs (by rw [hb]; exact ⟨_, rfl, IntsAt.nil _⟩)
  obtain ⟨q, rfl⟩ := Int.eq_ofNat_of_zero_le (show 0 ≤ axis by omega)
  have hq : q < l.length := by omega
  refine Zrun ?_
  (refine RW.callM T hs rfl rfl rfl (cloneInt_conM ad cp l _ _ _ _ _ hS hm) ?_; intro v h1 O1 w1 hle1 hp1 hs)
  obtain ⟨rfl, ad', cp', rfl, rfl⟩ := hp1
  refine Zrun ?_
  refine RW.val (Y.idxRN T hs 0 rfl rfl rfl rfl rfl rfl ?_) rfl ?_
  · omega
  refine RW.st1 T hs 0 rfl rfl rfl rfl rfl rfl rfl (by omega) ?_
  intro w2 hs
  obtain ⟨h3, hle3, hs, hS3⟩ := hs.freeze
  simp only [map_set_int] at hS3
  have hI3 : IntsAt h3 (.slice ad' l.length cp') (l.set q n) := IntsAt.of_sl hS3
  refine Zrun ?_
  (refine RW.call T hs rfl rfl rfl (good_con _ _ _ _ hI3 (by simp; omega)) ?_; intro v h4 w4 hle4 hp4 hs)
  subst hp4
  refine Zrun ?_
  refine CW.condD rfl (fun h5 => ?_) (fun h5 => ?_)
  · have hb := bad (fun e => h5 ((goodS_iff _).1 e.2.2))
    refine Zrun ?_
    exact retQ_ret [_, _] h4 ⟨rfl, rfl, trivial⟩ hs (by rw [hb]; exact ⟨_, rfl, IntsAt.nil _⟩)
  · have h5 := Decidable.of_not_not h5
    refine Zrun ?_
    refine retQ_ret [_, _] h4 ⟨rfl, rfl, trivial⟩ hs ?_
    have hw : withSpec l (q : Int) n = (l.set q n, true) := by
      unfold withSpec
      rw [if_pos ⟨by omega, by omega, (goodS_iff _).2 h5⟩]
      simp
    rw [hw]
    exact ⟨_, rfl, hI3.mono hle4⟩
end Go.Proofs.Ythbfkhklihejiaa

/-
  Contracts of functions of package shape and of its reference, sixth part. No statement is proved here.
-/
namespace Go.Proofs.Ythbfkhklihejiaa
open Go Go.RowKit
set_option linter.unusedVariables false
set_option linter.unusedSimpArgs false
set_option maxHeartbeats 4000000
attribute [local irreducible] CW RW QW SW HW ConM retM heldQ calmQ elemP thenQ blockQ loopQ joinQ retQ Yields Con Sl

/-- an element of a row of the caller's own is taken out, in place -/
theorem deleteInt_conM (ad : Option Addr) (cp i : Nat) (l : List Int) (w0 w : World) (h0 h : GHeap) (O : List Row) (hi : i < l.length) (hm : l.length ≤ 17592186044416) :
    ConM Try.prog 113 [.slice ad l.length cp, .int .i64 i, .int .i64 ((i : Int) + 1)] w0 h0 h (⟨ad, l.length, cp, 3, 1, l.map (Value.int .i64)⟩ :: O) w (fun h' O' v => h' = h ∧ v = .slice ad (l.length - 1) cp ∧ O' = ⟨ad, l.length - 1, cp, 3, 1, (l.eraseIdx i).map (Value.int .i64)⟩ :: O) := by
  refine ConM.of_body Try.func113 rfl Try.ntmps113 rfl rfl ?_
  intro hs
  obtain ⟨b, rfl⟩ := hs.rowAt (k := 0) rfl (by omega)
  have hcap := (hs.rowCap (k := 0) rfl)
  simp only [maxLen] at hcap
  refine Zrun ?_
  refine RW.val (Y.slice3 T rfl rfl rfl rfl rfl rfl ?_) rfl ?_
  · omega
  refine Zrun ?_
  refine CW.regionT T 6 hs ?_ (by kernel_rfl)
  intro w hs
  simp only [List.take_succ_cons, List.take_zero, List.drop_succ_cons, List.drop_zero]
  repeat
    first | with_reducible refine SW.nil ?_ | refine SW.val (Y.move rfl) rfl ?_ | refine SW.val (Y.assign rfl) rfl ?_ | (refine SW.val (Y.add rfl rfl ?_) rfl ?_; omega) | (refine SW.val (Y.sub rfl rfl ?_) rfl ?_; omega) | refine SW.val (Y.len T rfl rfl) rfl ?_ | (refine SW.val (Y.idxSN T rfl rfl (by assumption) rfl rfl rfl ?_) rfl ?_; omega) | (refine SW.val (Y.idxS T rfl rfl (by assumption) rfl rfl rfl ?_) rfl ?_; omega) | (refine SW.val (Y.ldInt T hs rfl (by assumption) rfl rfl ?_) rfl ?_; omega)
  refine SW.val (Y.sliceHi T rfl rfl rfl rfl ?_) rfl ?_
  · omega
  repeat
    first | with_reducible refine SW.nil ?_ | refine SW.val (Y.move rfl) rfl ?_ | refine SW.val (Y.assign rfl) rfl ?_ | (refine SW.val (Y.add rfl rfl ?_) rfl ?_; omega) | (refine SW.val (Y.sub rfl rfl ?_) rfl ?_; omega) | refine SW.val (Y.len T rfl rfl) rfl ?_ | (refine SW.val (Y.idxSN T rfl rfl (by assumption) rfl rfl rfl ?_) rfl ?_; omega) | (refine SW.val (Y.idxS T rfl rfl (by assumption) rfl rfl rfl ?_) rfl ?_; omega) | (refine SW.val (Y.ldInt T hs rfl (by assumption) rfl rfl ?_) rfl ?_; omega)
  refine SW.val (Y.sliceLo T rfl rfl rfl rfl ?_ ?_) rfl ?_
  · omega
  · omega
  repeat
    first | with_reducible refine SW.nil ?_ | refine SW.val (Y.move rfl) rfl ?_ | refine SW.val (Y.assign rfl) rfl ?_ | (refine SW.val (Y.add rfl rfl ?_) rfl ?_; omega) | (refine SW.val (Y.sub rfl rfl ?_) rfl ?_; omega) | refine SW.val (Y.len T rfl rfl) rfl ?_ | (refine SW.val (Y.idxSN T rfl rfl (by assumption) rfl rfl rfl ?_) rfl ?_; omega) | (refine SW.val (Y.idxS T rfl rfl (by assumption) rfl rfl rfl ?_) rfl ?_; omega) | (refine SW.val (Y.ldInt T hs rfl (by assumption) rfl rfl ?_) rfl ?_; omega)
  have e1 : ((i : Int) + 1).toNat = i + 1 := by omega
  refine RW.appendSelf T hs 0 (p := i) (q := i + 1) (m := l.length) rfl rfl rfl rfl rfl rfl ?_ ?_ ?_ ?_ rfl ?_
  · simp only [e1]
  · omega
  · omega
  · exact one_ints _ _
  intro w2 hs
  refine Zrun ?_
  refine RW.val (Y.sliceLH T rfl rfl rfl rfl rfl ?_) rfl ?_
  · omega
  refine RW.clear T hs 0 (q := l.length - 1) rfl rfl rfl rfl rfl ?_ rfl rfl ?_ ?_ ?_ ?_ ?_
  · intro u hu; simp [Value.cells] at hu; subst hu; rfl
  · have : ((↑(i + (l.length - (i + 1))) : Int)).toNat = l.length - 1 := by omega
    rw [this]
  · omega
  · omega
  · omega
  intro w3 hs
  refine Zrun ?_
  refine retM_ret [_] h _ ⟨rfl, trivial⟩ (GLe.refl _) hs ⟨rfl, ?_, ?_⟩
  · simp only [packv]
    congr 1; omega
  · have e2 : i + (l.length - (i + 1)) = l.length - 1 := by omega
    simp only [List.set_cons_zero, e2, Nat.mul_one, ← List.map_take, ← List.map_drop, ← List.map_append, eraseIdx_eq]

theorem without_con (s : Value) (l : List Int) (axis : Int) (w : World) (h : GHeap) (hl : IntsAt h s l) (hm : l.length ≤ 17592186044416) : Con Try.prog 36 [s, .int .i64 axis] w h
    (fun h' v => ∃ u, v = .tuple #[u, .bool (withoutSpec l axis).2] ∧ IntsAt h' u (withoutSpec l axis).1) := by
  obtain ⟨ad, cp, rfl, hS⟩ := hl
  have bad : ¬ (0 ≤ axis ∧ axis < l.length) → withoutSpec l axis = ([], false) := fun hn => by unfold withoutSpec; rw [if_neg hn]
  refine Con.of_body Try.func36 rfl Try.ntmps36 rfl rfl ?_
  intro hs
  refine Zrun ?_
  refine RW.gd rfl rfl (fun h2 => ?_) (fun h2 => ?_)
  · have hb := bad (fun e => by have := e.1; omega)
    refine Zrun ?_
    exact retQ_ret [_, _] h ⟨rfl, rfl, trivial⟩ hs (by rw [hb]; exact ⟨_, rfl, IntsAt.nil _⟩)
  refine Zrun ?_
  refine CW.condD rfl (fun h3 => ?_) (fun h3 => ?_)
  · have hb := bad (fun e => by have := e.2; omega)
    refine Zrun ?_
    exact retQ_ret [_, _] h ⟨rfl, rfl, trivial⟩ hs (by rw [hb]; exact ⟨_, rfl, IntsAt.nil _⟩)
  obtain ⟨q, rfl⟩ := Int.eq_ofNat_of_zero_le (show 0 ≤ axis by omega)
  have hq : q < l.length := by omega
  have hw : withoutSpec l (q : Int) = (l.eraseIdx q, true) := by
    unfold withoutSpec
    rw [if_pos ⟨by omega, by omega⟩]
    simp
  refine Zrun ?_
  (refine RW.callM T hs rfl rfl rfl (cloneInt_conM ad cp l _ _ _ _ _ hS hm) ?_; intro v h1 O1 w1 hle1 hp1 hs)
  obtain ⟨rfl, ad', cp', rfl, rfl⟩ := hp1
  refine Zrun ?_
  (refine RW.callM T hs rfl rfl rfl (deleteInt_conM ad' cp' q l _ _ _ _ _ hq hm) ?_; intro v h2 O2 w2 hle2 hp2 hs)
  obtain ⟨rfl, rfl, rfl⟩ := hp2
  obtain ⟨h3, hle3, hs, hS3⟩ := hs.freeze
  refine Zrun ?_
  exact retQ_ret [_, _] h3 ⟨rfl, rfl, trivial⟩ hs (by rw [hw]; exact ⟨_, rfl, IntsAt.of_sl hS3⟩)

theorem refWith_con (s : Value) (l : List Int) (axis : Nat) (n : Int) (w : World) (h : GHeap) (hl : IntsAt h s l) (hm : l.length ≤ 17592186044416) (ha : axis < l.length) : Con Try.prog 38 [s, .int .i64 axis, .int .i64 n] w h
    (fun h' v => IntsAt h' v (l.set axis n)) := by
  obtain ⟨ad, cp, rfl, hS⟩ := hl
  refine Con.of_body Try.func38 rfl Try.ntmps38 rfl rfl ?_
  intro hs
  refine Zrun ?_
  (refine RW.lit T hs (vs := []) rfl rfl rfl rfl (by simp [Value.cells]) rfl rfl rfl rfl rfl ?_; intro b1 w1 hs)
  refine Zrun ?_
  refine RW.append T hs 0 rfl rfl (m := l.length) (news := l.map (Value.int .i64)) rfl rfl rfl rfl rfl rfl (hS.src hs.agree (one_ints _ _)) (fun e => by subst e; exact hS.nil0.2) (by dsimp only; omega) (by omega) ?_
  intro ad' cp' w2 hs
  refine Zrun ?_
  refine RW.val (Y.idxRN T hs 0 rfl rfl rfl rfl rfl rfl ?_) rfl ?_
  · omega
  refine RW.st1 T hs 0 rfl rfl rfl rfl rfl rfl rfl (by omega) ?_
  intro w3 hs
  obtain ⟨h3, hle3, hs, hS3⟩ := hs.freeze
  refine Zrun ?_
  refine retQ_ret [_] h3 ⟨rfl, trivial⟩ hs ?_
  simp only [List.flatMap_nil, List.nil_append, map_set_int] at hS3
  exact IntsAt.of_sl hS3

theorem refWithout_con (s : Value) (l : List Int) (axis : Int) (w : World) (h : GHeap) (hl : IntsAt h s l) (hm : l.length ≤ 17592186044416) (ha : 0 ≤ axis) : Con Try.prog 39 [s, .int .i64 axis] w h
    (fun h' v => IntsAt h' v (l.eraseIdx axis.toNat)) := by
  obtain ⟨ad, cp, rfl, hS⟩ := hl
  obtain ⟨q, rfl⟩ := Int.eq_ofNat_of_zero_le ha
  refine Con.of_body Try.func39 rfl Try.ntmps39 rfl rfl ?_
  intro hs
  refine Zrun ?_
  have hs := hs.nilRow 3 1
  have et : ∀ k, k < l.length → ((l.take (k + 1)).eraseIdx q) = (l.take k).eraseIdx q ++ (if k = q then [] else [l.getD k 0]) := by
    intro k hk
    have hlk : (l.take k).length = k := by rw [List.length_take]; omega
    rw [take_snoc l k 0 hk, List.eraseIdx_append, hlk]
    by_cases hq : q < k
    · rw [if_pos hq, if_neg (by omega)]
    · rw [if_neg hq, List.eraseIdx_of_length_le (l := l.take k) (by omega)]
      by_cases e : k = q
      · subst e; simp
      · rw [if_neg e, List.eraseIdx_of_length_le (by simp; omega)]
  refine CW.loop (fun p : Nat × Option Addr × Nat => [(0, .slice ad l.length cp), (1, .int .i64 q), (5, .slice p.2.1 ((l.take p.1).eraseIdx q).length p.2.2), (6, .int .i64 p.1)]) (fun p w' => p.1 ≤ l.length ∧ Sees w h h [⟨p.2.1, ((l.take p.1).eraseIdx q).length, p.2.2, 3, 1, ((l.take p.1).eraseIdx q).map (Value.int .i64)⟩] w') (fun p => l.length - p.1) (0, none, 0) ⟨rfl, rfl, rfl, rfl, trivial⟩ ⟨by omega, hs⟩ ?_
  rintro ⟨k, ra, rc⟩ w' ⟨hk, hs⟩
  dsimp only at hk hs ⊢
  have hll : ((l.take k).eraseIdx q).length ≤ k := Nat.le_trans (List.length_eraseIdx_le ..) (by rw [List.length_take]; omega)
  by_cases hlt : k < l.length
  · have e1 := et k hlt
    by_cases hkq : k = q
    · have hkq' : ¬ ((k : Int) ≠ (q : Int)) := by omega
      rw [if_pos hkq, List.append_nil] at e1
      refine Zrun ?_
      exact loopQ_round (k + 1, ra, rc) ⟨rfl, rfl, by dsimp only; rw [e1]; rfl, rfl, trivial⟩ ⟨by dsimp only; omega, by dsimp only; rw [e1]; exact hs⟩ (by dsimp only; omega)
    · have hkq' : ((k : Int) ≠ (q : Int)) := by omega
      rw [if_neg hkq] at e1
      refine Zrun ?_
      (refine RW.lit T hs (vs := [.int .i64 (l.getD k 0)]) rfl rfl rfl rfl (by simp [Value.cells]) rfl rfl rfl rfl rfl ?_; intro b1 w1 hs)
      have hs := hs.swap
      refine RW.append T hs 0 rfl rfl (m := 1) (news := [.int .i64 (l.getD k 0)]) rfl rfl rfl rfl rfl rfl ⟨rfl, by simp [Value.oneCell'], by simp, fun p hp j u hj => ?_⟩ (by simp) (by dsimp only; omega) (by omega) ?_
      · cases hp
        rw [Addr.add_lit]
        exact hs.rowCell (k := 1) rfl (by simpa [Value.cells] using hj)
      intro ad' cp' w2 hs
      have hs := hs.swap.drop
      refine Zrun ?_
      have e2 : ((l.take (k + 1)).eraseIdx q).length = ((l.take k).eraseIdx q).length + 1 := by rw [e1]; simp
      refine loopQ_round (k + 1, ad', cp') ⟨rfl, rfl, by dsimp only; rw [e2]; rfl, rfl, trivial⟩ ⟨by dsimp only; omega, ?_⟩ (by dsimp only; omega)
      dsimp only
      rw [e2, e1, List.map_append]
      exact hs
  · obtain rfl : k = l.length := by omega
    refine Zrun ?_
    obtain ⟨h3, hle3, hs, hS3⟩ := hs.freeze
    refine retQ_ret [_] h3 ⟨rfl, trivial⟩ hs ?_
    dsimp only at hS3 ⊢
    rw [List.take_of_length_le (Nat.le_refl _)] at hS3
    simp only [packv, Int.toNat_natCast]
    rw [List.take_of_length_le (Nat.le_refl _)]
    exact IntsAt.of_sl hS3
end Go.Proofs.Ythbfkhklihejiaa

/-
  Contracts of functions of package turn: arrays along an axis, turned backwards. No statement is proved here.
-/
namespace Go.Proofs.Ythbfkhklihejiaa
open Go Go.RowKit
set_option linter.unusedVariables false
set_option linter.unusedSimpArgs false
set_option maxHeartbeats 4000000
attribute [local irreducible] CW RW QW SW HW ConM retM heldQ calmQ elemP thenQ blockQ loopQ joinQ retQ Yields Con Sl zF magR unitF truncF fwF wholeF tidySpec elemQ rankF leastN tidyW
set_option maxHeartbeats 4000000

section
variable {α : Type} {R : GHeap → List Value → α → Prop}
def axK (s : List Int) (first : Bool) : Nat := if first then 0 else s.length - 1
theorem turnAxis_con (cs : List Value) (a : ArrD α) (first : Bool) (w : World) (h : GHeap) (ha : ArrR R h cs a) : Con Try.prog 165 [.agg cs.toArray, .bool first] w h (fun _ u => u = .tuple #[.int .i64 (if a.shape.length = 0 then 0 else axK a.shape first : Nat), .bool (decide (a.shape.length ≠ 0))]) := by
  obtain ⟨s, vc, rfl, hI, hv⟩ := ha
  have hI' := hI
  have hv' := hv
  obtain ⟨ad, cp, rfl, hS⟩ := hI
  obtain ⟨wv, nv, sm, il, fl, ch, bx, ⟨rfl, hoc⟩, _⟩ := hv
  have hcap := hS.caps
  refine Con.of_body Try.func165 rfl Try.ntmps165 rfl rfl ?_
  intro hs
  refine Zrun ?_
  (refine RW.boxN hs rfl rfl ?_; intro b1 w1 hs)
  refine Zerun ?_
  by_cases c : a.shape.length = 0
  · rw [if_pos c, decide_eq_false (by simpa using c)]
    refine Zerun ?_
    exact retQ_ret [_, _] h ⟨rfl, rfl, trivial⟩ hs.dropAll rfl
  rw [if_neg c, decide_eq_true c]
  cases first with
  | true =>
    refine Zerun ?_
    exact retQ_ret [_, _] h ⟨rfl, rfl, trivial⟩ hs.dropAll rfl
  | false =>
    refine Zerun ?_
    refine retQ_ret [_, _] h ⟨rfl, rfl, trivial⟩ hs.dropAll ?_
    show Value.tuple #[.int .i64 ((a.shape.length : Int) - 1), .bool true] = .tuple #[.int .i64 ((a.shape.length - 1 : Nat) : Int), .bool true]
    rw [show (a.shape.length : Int) - 1 = ((a.shape.length - 1 : Nat) : Int) by omega]
theorem turnAlong_con (hR : Mono R) (h1 : One R) (h9 : Siz 9 R) (nb : α) (hbl : ∀ w h, Con Try.prog 68 [] w h (fun h' u => ∃ cs', u = .agg cs'.toArray ∧ R h' cs' nb)) (cs : List Value) (a : ArrD α) (v1 : Value) (k o d i : Nat) (at_ : List Int) (w : World) (h : GHeap) (ha : ArrR R h cs a) (hat : IntsAt h v1 at_) (hp : product a.shape 1048576 = ((a.vec.len : Int), 0)) (hl : 0 < a.vec.len) (hsp : splitSpec a.shape (k : Int) = ((o : Int), (d : Int), (i : Int), true)) (hod : o * d * i = a.vec.len) (hod0 : 0 < o ∧ 0 < d ∧ 0 < i) (hal : at_.length = d) (hvm : a.vec.len ≤ 1048576) (hk0 : a.vec.kind ≠ 0) :
    Con Try.prog 166 [.agg cs.toArray, .int .i64 k, v1] w h (fun h' u => ∃ cs', u = .agg cs'.toArray ∧ ArrR R h' cs' ⟨a.shape, a.vec.pick (alongL o d i at_) nb⟩) := by
  obtain ⟨s, vc, rfl, hI, hv⟩ := ha
  have hI' := hI
  have hv' := hv
  obtain ⟨ad, cp, rfl, hS⟩ := hI
  obtain ⟨wv, nv, sm, il, fl, ch, bx, ⟨rfl, hoc⟩, _⟩ := hv
  have hcap := hS.caps
  have hrank := (product_le hp).1
  have ha' := hat
  obtain ⟨adt, cpt, rfl, _⟩ := hat
  have hoB : o ≤ 1048576 := by
    have h3 : o * 1 ≤ o * (d * i) := Nat.mul_le_mul_left o (Nat.mul_pos hod0.2.1 hod0.2.2)
    rw [← Nat.mul_assoc] at h3
    omega
  have hdB : d ≤ 1048576 := by
    have h3 : d ≤ o * d := Nat.le_mul_of_pos_left d hod0.1
    have h4 : o * d ≤ o * d * i := Nat.le_mul_of_pos_right _ hod0.2.2
    omega
  have hm1 : o * (at_.length * i) ≤ 1048576 := by rw [hal, ← Nat.mul_assoc]; omega
  have hB : o * d * i ≤ 1099511627776 := by omega
  have hBn : o * d ≤ 1099511627776 := by
    have h4 : o * d ≤ o * d * i := Nat.le_mul_of_pos_right _ hod0.2.2
    omega
  refine Con.of_body Try.func166 rfl Try.ntmps166 rfl rfl ?_
  intro hs
  refine Zrun ?_
  (refine RW.boxN hs rfl rfl ?_; intro b1 w1 hs)
  (refine RW.allocN T hs rfl rfl rfl rfl ?_; intro b2 w2 hs)
  refine Zerun ?_
  (refine RW.call T hs rfl rfl rfl (split_con _ _ _ _ _ hI' (by omega)) ?_; intro v h3 w3 hle3 hp3 hs)
  subst hp3
  rw [hsp]
  have hv' := hv'.mono hR hle3
  have hI' := hI'.mono hle3
  have ha' := ha'.mono hle3
  refine Zerun ?_
  (refine RW.call T hs rfl rfl rfl (vecLen_con _ a.vec _ _ hv') ?_; intro v h4 w4 hle4 hp4 hs)
  subst hp4
  have hv' := hv'.mono hR hle4
  have hI' := hI'.mono hle4
  have ha' := ha'.mono hle4
  refine Zerun ?_
  refine CW.regionR T 1 1 hs rfl rfl ?_
  intro w5 hs
  refine HW.takeR (fuel := 11) 0 rfl (fun _ _ ka kb _ hs hka hkb => Y.fieldAddr T rfl rfl rfl rfl rfl) ⟨_, _, 1, 1, hs, rfl, rfl⟩ rfl (by kernel_rfl) (by kernel_rfl) (by kernel_rfl) ?_
  refine HW.takeR (fuel := 10) 1 rfl (fun _ _ ka kb _ hs hka hkb => Y.loadRow1 T hs ka hka rfl rfl rfl rfl) ⟨_, _, 1, 1, hs, rfl, rfl⟩ rfl (by kernel_rfl) (by kernel_rfl) (by kernel_rfl) ?_
  refine HW.takeR (fuel := 9) 3 rfl (fun _ _ ka kb _ hs hka hkb => Y.fieldAddr T rfl rfl rfl rfl rfl) ⟨_, _, 1, 1, hs, rfl, rfl⟩ rfl (by kernel_rfl) (by kernel_rfl) (by kernel_rfl) ?_
  refine HW.takeR (fuel := 8) 4 rfl (fun _ _ ka kb _ hs hka hkb => Y.loadRowN T hs ka hka rfl rfl rfl rfl rfl rfl) ⟨_, _, 1, 1, hs, rfl, rfl⟩ rfl (by kernel_rfl) (by kernel_rfl) (by kernel_rfl) ?_
  refine HW.takeR (fuel := 7) 5 rfl (fun _ _ ka kb _ hs hka hkb => Y.move rfl) ⟨_, _, 1, 1, hs, rfl, rfl⟩ rfl (by kernel_rfl) (by kernel_rfl) (by kernel_rfl) ?_
  refine HW.takeR (fuel := 6) 6 rfl (fun _ _ ka kb _ hs hka hkb => Y.move rfl) ⟨_, _, 1, 1, hs, rfl, rfl⟩ rfl (by kernel_rfl) (by kernel_rfl) (by kernel_rfl) ?_
  refine HW.takeR (fuel := 5) 7 rfl (fun _ _ ka kb _ hs hka hkb => Y.move rfl) ⟨_, _, 1, 1, hs, rfl, rfl⟩ rfl (by kernel_rfl) (by kernel_rfl) (by kernel_rfl) ?_
  refine HW.takeR (fuel := 4) 8 rfl (fun _ _ ka kb _ hs hka hkb => Y.move rfl) ⟨_, _, 1, 1, hs, rfl, rfl⟩ rfl (by kernel_rfl) (by kernel_rfl) (by kernel_rfl) ?_
  refine HW.one (fuel := 3) 2 rfl (by kernel_rfl) ?_
  (refine RW.call T hs rfl rfl rfl (cloneInts_con _ a.shape _ _ hI' (by omega)) ?_; intro v h31 w31 hle31 hp31 hs)
  obtain ⟨ad31, cp31, rfl, _⟩ := id hp31
  have hv' := hv'.mono hR hle31
  have ha' := ha'.mono hle31
  have hI' := hI'.mono hle31
  refine RW.nil ?_
  refine heldQ_normal ⟨_, _, 1, 1, hs, rfl, rfl⟩ ?_
  refine HW.one (fuel := 2) 9 rfl (by kernel_rfl) ?_
  (refine RW.call T hs rfl rfl rfl (pickAlong_con hR h1 h9 nb hbl _ a.vec _ o d i at_ _ _ hv' ha' (by omega) hoB hm1 hB hBn hvm hk0) ?_; intro v h38 w38 hle38 hp38 hs)
  obtain ⟨cs38, rfl, hv38⟩ := hp38
  obtain ⟨wv6, nv6, sm6, il6, fl6, ch6, bx6, ⟨rfl, hoc6⟩, _⟩ := id hv38
  have ha' := ha'.mono hle38
  have hI' := hI'.mono hle38
  have hp31 := hp31.mono hle38
  refine RW.nil ?_
  refine heldQ_normal ⟨_, _, 1, 1, hs, rfl, rfl⟩ ?_
  refine HW.takeR (fuel := 1) 10 rfl (fun _ _ ka kb _ hs hka hkb => Y.build T rfl rfl rfl rfl rfl rfl rfl) ⟨_, _, 1, 1, hs, rfl, rfl⟩ rfl (by kernel_rfl) (by kernel_rfl) (by kernel_rfl) ?_
  refine HW.one (fuel := 0) 11 rfl (by kernel_rfl) ?_
  refine RW.storeAll T hs 0 rfl rfl rfl rfl rfl rfl (show (Value.oneCell' (.slice ad31 a.shape.length cp31) && (vecCells (a.vec.pick (alongL o d i at_) nb).kind wv6 nv6 sm6 il6 fl6 ch6 bx6).all Value.oneCell') = true by rw [hoc6]; rfl) rfl ?_
  intro w39 hs
  refine RW.nil ?_
  refine heldQ_normal ⟨_, _, 1, 1, hs, rfl, rfl⟩ ?_
  refine HW.done (by kernel_rfl) ?_
  refine calmQ_normal ?_
  refine Zerun ?_
  exact retQ_ret [_] h38 ⟨resN T hs 0 rfl rfl rfl rfl rfl rfl, trivial⟩ hs.dropAll ⟨_, rfl, _, _, rfl, hp31, hv38⟩
/-- what comes of a turn along an axis: nothing turns where there is no axis or no element -/
def TurnPost (R : GHeap → List Value → α → Prop) (a : ArrD α) (k : Nat) (f : Nat → List Int) (nb : α) (h' : GHeap) (cs' : List Value) : Prop :=
  ((a.shape.length = 0 ∨ a.vec.len = 0) → ArrR R h' cs' a) ∧ (a.shape.length ≠ 0 → 0 < a.vec.len → ∀ o d i : Nat, splitSpec a.shape (k : Int) = ((o : Int), (d : Int), (i : Int), true) → ArrR R h' cs' ⟨a.shape, a.vec.pick (alongL o d i (f d)) nb⟩)
theorem split_axis {a : ArrD α} {k : Nat} (hp : product a.shape 1048576 = ((a.vec.len : Int), 0)) (hl : 0 < a.vec.len) (hk : k < a.shape.length) : ∃ o d i : Nat, splitSpec a.shape (k : Int) = ((o : Int), (d : Int), (i : Int), true) ∧ a.shape.getD k 0 = (d : Int) ∧ o * d * i = a.vec.len ∧ 0 < o ∧ 0 < d ∧ 0 < i := split_of hp hl hk
theorem split_inj {l : List Int} {k : Nat} {o d i o' d' i' : Nat} (h : splitSpec l (k : Int) = ((o : Int), (d : Int), (i : Int), true)) (h' : splitSpec l (k : Int) = ((o' : Int), (d' : Int), (i' : Int), true)) : o = o' ∧ d = d' ∧ i = i' := by
  rw [h] at h'
  simp only [Prod.mk.injEq] at h'
  omega
theorem turnReverse_con (hR : Mono R) (h1 : One R) (h9 : Siz 9 R) (nb : α) (hbl : ∀ w h, Con Try.prog 68 [] w h (fun h' u => ∃ cs', u = .agg cs'.toArray ∧ R h' cs' nb)) (cs : List Value) (a : ArrD α) (first : Bool) (w : World) (h : GHeap) (ha : ArrR R h cs a) (hp : product a.shape 1048576 = ((a.vec.len : Int), 0)) (hvm : a.vec.len ≤ 1048576) (hk0 : a.vec.kind ≠ 0) :
    Con Try.prog 164 [.agg cs.toArray, .bool first] w h (fun h' u => ∃ cs', u = .agg cs'.toArray ∧ TurnPost R a (axK a.shape first) turnL nb h' cs') := by
  have haR := ha
  obtain ⟨s, vc, rfl, hI, hv⟩ := ha
  have hI' := hI
  have hv' := hv
  obtain ⟨ad, cp, rfl, hS⟩ := hI
  obtain ⟨wv, nv, sm, il, fl, ch, bx, ⟨rfl, hoc⟩, _⟩ := hv
  have hcap := hS.caps
  have hall : (Value.oneCell' (.slice ad a.shape.length cp) && (vecCells a.vec.kind wv nv sm il fl ch bx).all Value.oneCell') = true := by rw [hoc]; rfl
  refine Con.of_body Try.func164 rfl Try.ntmps164 rfl rfl ?_
  intro hs
  refine Zrun ?_
  (refine RW.boxN hs rfl rfl ?_; intro b1 w1 hs)
  (refine RW.allocN T hs rfl rfl rfl rfl ?_; intro b2 w2 hs)
  refine Zerun ?_
  (refine RW.call T hs rfl rfl rfl (turnAxis_con _ a first _ _ haR) ?_; intro v h3 w3 hle3 hp3 hs)
  subst hp3
  have haR := (show ArrR R h3 _ a from ⟨_, _, rfl, hI'.mono hle3, hv'.mono hR hle3⟩)
  have hv' := hv'.mono hR hle3
  have hI' := hI'.mono hle3
  have hS := hS.mono hle3
  by_cases c : a.shape.length = 0
  · rw [if_pos c, decide_eq_false (by simpa using c)]
    refine Zerun ?_
    refine RW.storeAll T hs 0 rfl rfl rfl rfl rfl rfl hall rfl ?_
    intro w4 hs
    refine Zerun ?_
    exact retQ_ret [_] h3 ⟨resN T hs 0 rfl rfl rfl rfl rfl rfl, trivial⟩ hs.dropAll ⟨_, rfl, fun _ => haR, fun e => absurd c e⟩
  rw [if_neg c, decide_eq_true c]
  have hkl : axK a.shape first < a.shape.length := by unfold axK; split <;> omega
  obtain ⟨kx, hkx⟩ : ∃ kx, axK a.shape first = kx := ⟨_, rfl⟩
  rw [hkx] at hkl ⊢
  refine Zerun ?_
  (refine RW.call T hs rfl rfl rfl (vecLen_con _ a.vec _ _ hv') ?_; intro v h4 w4 hle4 hp4 hs)
  subst hp4
  have haR := (show ArrR R h4 _ a from ⟨_, _, rfl, hI'.mono hle4, hv'.mono hR hle4⟩)
  by_cases c2 : a.vec.len = 0
  · refine Zerun ?_
    refine RW.storeAll T hs 0 rfl rfl rfl rfl rfl rfl hall rfl ?_
    intro w5 hs
    refine Zerun ?_
    exact retQ_ret [_] h4 ⟨resN T hs 0 rfl rfl rfl rfl rfl rfl, trivial⟩ hs.dropAll ⟨_, rfl, fun _ => haR, fun _ e => by omega⟩
  obtain ⟨o, d, i, hsp, hd, hod, hod0⟩ := split_axis hp (by omega) hkl
  have hdB : d ≤ 1048576 := by
    have h3 : d ≤ o * d := Nat.le_mul_of_pos_left d hod0.1
    have h4 : o * d ≤ o * d * i := Nat.le_mul_of_pos_right _ hod0.2.2
    omega
  rw [hd]
  refine Zerun ?_
  (refine RW.make1 T hs rfl rfl rfl rfl rfl rfl rfl (by dsimp only; omega) (by omega) ?_; intro b5 w5 hs)
  refine Zerun ?_
  refine CW.loop (fun j : Nat => [(2, .pointer (some ⟨b1, 0, none⟩)), (4, .pointer (some ⟨b2, 0, none⟩)), (5, .int .i64 kx), (7, .int .i64 d), (8, .slice (some ⟨b5, 0, none⟩) d d), (32, .int .i64 d), (33, .int .i64 j)]) (fun j w' => j ≤ d ∧ Sees w h h4 [⟨some ⟨b5, 0, none⟩, d, d, 3, 1, ((List.range j).map fun y => ((d - 1 - y : Nat) : Int)).map (Value.int .i64) ++ List.replicate (d - j) (.int .i64 0)⟩, ⟨some ⟨b2, 0, none⟩, 1, 1, 63, 9, .slice none 0 0 :: vecCells 0 (.slice none 0 0) 0 (.slice none 0 0) (.slice none 0 0) (.slice none 0 0) (.slice none 0 0) (.slice none 0 0)⟩, ⟨some ⟨b1, 0, none⟩, 1, 1, 63, 9, .slice ad a.shape.length cp :: vecCells a.vec.kind wv nv sm il fl ch bx⟩] w') (fun j => d - j) 0 ⟨rfl, rfl, rfl, rfl, rfl, rfl, rfl, trivial⟩ ⟨by omega, hs⟩ ?_
  rintro j w6 ⟨hj, hs⟩
  by_cases hlt : j < d
  · have hvb : (d : Int) - 1 - j = ((d - 1 - j : Nat) : Int) := by omega
    refine Zerun ?_
    refine RW.val (Y.idxRN T hs 0 rfl rfl rfl rfl rfl rfl hlt) rfl ?_
    rw [hvb]
    refine RW.st1 T hs 0 rfl rfl rfl rfl rfl rfl rfl hlt ?_
    intro w7 hs
    replace hs := hs.re (fill_snoc (fun y => ((d - 1 - y : Nat) : Int)) j d hlt _)
    refine Zerun ?_
    exact loopQ_round (j + 1) ⟨rfl, rfl, rfl, rfl, rfl, rfl, rfl, trivial⟩ ⟨by omega, hs⟩ (by omega)
  obtain rfl : j = d := by omega
  rw [Nat.sub_self, List.replicate_zero, List.append_nil] at hs
  obtain ⟨h6, hle6, hs, hS6⟩ := hs.freeze
  have hI6 : IntsAt h6 (.slice (some ⟨b5, 0, none⟩) j j) (turnL j) := IntsAt.of_sl hS6
  have haR := (show ArrR R h6 _ a from ⟨_, _, rfl, hI'.mono (hle4.trans hle6), hv'.mono hR (hle4.trans hle6)⟩)
  refine Zerun ?_
  (refine RW.call T hs rfl rfl rfl (turnAlong_con hR h1 h9 nb hbl _ a _ kx o j i (turnL j) _ _ haR hI6 hp (by omega) hsp hod hod0 (turnL_length j) hvm hk0) ?_; intro v h8 w8 hle8 hp8 hs)
  obtain ⟨cs8, rfl, ha8⟩ := hp8
  have ha8' := ha8
  obtain ⟨s8, vc8, rfl, ⟨ad8, cp8, rfl, _⟩, hv8⟩ := ha8
  obtain ⟨wv6, nv6, sm6, il6, fl6, ch6, bx6, ⟨rfl, hoc6⟩, _⟩ := hv8
  refine RW.storeAll T hs 0 rfl rfl rfl rfl rfl rfl (show (Value.oneCell' (.slice ad8 a.shape.length cp8) && (vecCells (a.vec.pick (alongL o j i (turnL j)) nb).kind wv6 nv6 sm6 il6 fl6 ch6 bx6).all Value.oneCell') = true by rw [hoc6]; rfl) rfl ?_
  intro w9 hs
  refine Zerun ?_
  refine retQ_ret [_] h8 ⟨resN T hs 0 rfl rfl rfl rfl rfl rfl, trivial⟩ hs.dropAll ⟨_, rfl, fun e => absurd e (by omega), fun _ _ o' d' i' hsp' => ?_⟩
  obtain ⟨rfl, rfl, rfl⟩ := split_inj hsp hsp'
  exact ha8'
end
end Go.Proofs.Ythbfkhklihejiaa
