/-
  Own texts of the claim, merged: PlainS, Sa, LibX, Pa, Sb, Sc, Sd, Il, Im, On, Se, Sg, Kb, Kc, Kd, Ke, Kf, Kg, Kh, Kj, Sh. Lemmas of the proof; no statement is proved here.
-/
import Derived.Test.YtmfealaaacmohaaDoorMb
import Derived.Lib.TrailingZeros
/-
  Plain laws of the places of bits that are true. No statement is proved here.
-/
namespace Go.Proofs.YtmfealaaacmohaaDoor
open Go Go.RowKit
set_option linter.unusedVariables false
set_option linter.unusedSimpArgs false

/-- the places below a bound that are true -/
def onesTo (bs : List Bool) (m : Nat) : List Int := ((List.range m).filter fun i => bs.getD i false).map fun i : Nat => (i : Int)
def onesL (bs : List Bool) : List Int := onesTo bs bs.length
theorem onesTo_none {bs : List Bool} {t : Nat} : ∀ {m : Nat}, t ≤ m → (∀ j, t ≤ j → j < m → bs.getD j false = false) → onesTo bs m = onesTo bs t
  | 0, h, _ => by rw [show t = 0 by omega]
  | m + 1, h, hb => by
    by_cases c : t = m + 1
    · rw [c]
    · have ih := onesTo_none (m := m) (by omega) (fun j h1 h2 => hb j h1 (by omega))
      rw [← ih]
      unfold onesTo
      rw [List.range_succ, List.filter_append, List.filter_cons_of_neg (by rw [hb m (by omega) (by omega)]; decide)]
      simp
theorem onesTo_next {bs : List Bool} {t k : Nat} (h : t ≤ k) (hb : ∀ j, t ≤ j → j < k → bs.getD j false = false) (hk : bs.getD k false = true) : onesTo bs (k + 1) = onesTo bs t ++ [(k : Int)] := by
  rw [← onesTo_none h hb]
  unfold onesTo
  rw [List.range_succ, List.filter_append, List.filter_cons_of_pos (by exact hk)]
  simp
theorem onesTo_ge {bs : List Bool} {m : Nat} (h : bs.length ≤ m) : onesTo bs m = onesL bs :=
  onesTo_none h fun j h1 _ => by rw [List.getD_eq_getElem?_getD, List.getElem?_eq_none h1]; rfl
theorem onesTo_len (bs : List Bool) (m : Nat) : (onesTo bs m).length ≤ m := by
  unfold onesTo
  rw [List.length_map]
  exact Nat.le_trans (List.length_filter_le _ _) (by rw [List.length_range]; exact Nat.le_refl _)
/-- the lowest bit of a word, and the word without it -/
theorem low_bit {x : Nat} (h0 : x ≠ 0) (h : x < 18446744073709551616) : Lib.ctz 64 x < 64 ∧ (∀ j, j < Lib.ctz 64 x → x.testBit j = false) ∧ x.testBit (Lib.ctz 64 x) = true ∧ ∀ j, (x &&& (x - 1)).testBit j = (x.testBit j && decide (j ≠ Lib.ctz 64 x)) := by
  obtain ⟨m, hm, hc⟩ := Lib.ctzFrom_spec 64 x (by omega) (by omega)
  have e : Lib.ctz 64 x = Lib.ctzFrom 64 x := by simp [Lib.ctz, h0]
  rw [e]
  generalize Lib.ctzFrom 64 x = c at *
  have hp : 0 < 2 ^ c := Nat.two_pow_pos c
  have e1 : x = 2 ^ c * (2 * m + 1) + 0 := by omega
  have e2 : x - 1 = 2 ^ c * (2 * m) + (2 ^ c - 1) := by
    rw [hm, Nat.mul_add]; omega
  have b1 : ∀ j, x.testBit j = if j < c then false else (2 * m + 1).testBit (j - c) := by
    intro j
    rw [e1, Nat.testBit_two_pow_mul_add _ hp]
    split
    · exact Nat.zero_testBit j
    · rfl
  have b2 : ∀ j, (x - 1).testBit j = if j < c then true else (2 * m).testBit (j - c) := by
    intro j
    rw [e2, Nat.testBit_two_pow_mul_add _ (by omega)]
    split
    · rename_i hj
      rw [Nat.testBit_two_pow_sub_one]
      exact decide_eq_true hj
    · rfl
  have o1 : (2 * m + 1).testBit 0 = true := by rw [Nat.testBit_zero]; exact decide_eq_true (by omega)
  have o2 : (2 * m).testBit 0 = false := by rw [Nat.testBit_zero]; exact decide_eq_false (by omega)
  refine ⟨hc, fun j hj => by rw [b1, if_pos hj], by rw [b1, if_neg (by omega), Nat.sub_self, o1], fun j => ?_⟩
  rw [Nat.testBit_and, b1, b2]
  by_cases c1 : j < c
  · rw [if_pos c1]; simp
  · rw [if_neg c1, if_neg c1]
    by_cases c2 : j = c
    · subst c2; rw [Nat.sub_self, o1, o2]; simp
    · obtain ⟨q, hq⟩ : ∃ q, j - c = q + 1 := ⟨j - c - 1, by omega⟩
      rw [hq, Nat.testBit_succ, Nat.testBit_succ, show (2 * m + 1) / 2 = m by omega, show 2 * m / 2 = m by omega, decide_eq_true c2]
      simp
end Go.Proofs.YtmfealaaacmohaaDoor

/-
  Contracts of package math/bits and of bitvec's places that are true: the table of one variable is read. No statement is proved here.
-/
namespace Go.Proofs.YtmfealaaacmohaaDoor
open Go Go.RowKit
set_option linter.unusedVariables false
set_option linter.unusedSimpArgs false
set_option maxHeartbeats 4000000
attribute [local irreducible] CW RW QW SW HW ConM retM heldQ calmQ elemP thenQ blockQ loopQ joinQ retQ Yields Con Sl elemQ
set_option maxHeartbeats 2000000

section
variable {P : Program} {T : Tab P} {n : Nat} {L : Env} {w : World} {ty : TypeId} {x y : Operand} {t : TypeId}
theorem Y.idxArr (T : Tab P) {e len : TypeId} {i : Inf} {b o : Nat} {k : IntKind} {u : Int} (hT : T.ty t = some (.array len e)) (hI : T.inf e = some i) (hx : opv L x = some (.pointer (some ⟨b, o, none⟩))) (hy : opv L y = some (.int k u)) (h0 : 0 ≤ u ∧ u < len) :
    Yields P n L w (.indexAddr t x y) ty (.pointer (some ⟨b, o + u.toNat * i.size, none⟩)) := by
  unfold Yields
  intro a ha d pos aft g
  have h1 : P.underlying t = some (.array len e) := T.ty_ok _ _ hT
  have hadd : (⟨b, o, none⟩ : Addr).add (u.toNat * i.size) = ⟨b, o + u.toNat * i.size, none⟩ := Addr.add_lit _ _ _
  simp [execOp, Instr.indexAt, Instr.sureAddr, asIntOf, ha.eval hx, ha.eval hy, run_underlying h1, h0, T.sizeOf hI, hadd]
end
/-- the table that the lowest bit is looked up in -/
def TzTab (h : GHeap) : Prop := ∃ cs, h 0 = some cs ∧ ∀ i, i < 64 → cs[i]? = some (.int .u8 ((Lib.deBruijn64tab.getD i 0 : Nat) : Int))
theorem TzTab.mono {h h' : GHeap} (hl : GLe h h') (ht : TzTab h) : TzTab h' := let ⟨cs, e, f⟩ := ht; ⟨cs, hl _ _ e, f⟩
theorem tz_con (x : Nat) (w : World) (h : GHeap) (hx : x < 18446744073709551616) (hT : TzTab h) : Con Tryd.prog 102 [.int .u64 (x : Int)] w h (fun _ u => u = .int .i64 (Lib.ctz 64 x : Nat)) := by
  refine Con.of_body Tryd.func102 rfl Tryd.ntmps102 rfl rfl ?_
  intro hs
  refine Zrun ?_
  by_cases c : x = 0
  · subst c
    refine Zerun ?_
    exact retQ_ret [_] h ⟨rfl, trivial⟩ hs.dropAll rfl
  obtain ⟨hlow, hc64⟩ := Lib.lowest_bit 64 x c hx
  have hlow : x &&& (18446744073709551616 - x) = 2 ^ Lib.ctz 64 x := hlow
  obtain ⟨hk, htab⟩ := Lib.deBruijn64_at _ hc64
  generalize Lib.ctz 64 x = k at *
  obtain ⟨cs, hcs, hcell⟩ := hT
  refine Zerun ?_
  have hp : 2 ^ k < 18446744073709551616 := Nat.lt_of_lt_of_le (Nat.pow_lt_pow_right (by omega) hc64) (by decide)
  refine RW.val (Y.neg' rfl) rfl ?_
  refine RW.respell (t := 7) (v := .int .u64 ((18446744073709551616 - x : Nat) : Int)) rfl (by
    have e : IntKind.u64.wrap (0 - (x : Int)) = ((18446744073709551616 - x : Nat) : Int) := by
      simp [IntKind.wrap, IntKind.signed, IntKind.bits]
      omega
    rw [e]) ?_
  refine RW.val (Y.andU rfl rfl (by omega) (by omega)) rfl ?_
  rw [hlow]
  refine RW.val (Y.mul' rfl rfl) rfl ?_
  refine RW.respell (t := 9) (v := .int .u64 ((2 ^ k * 285870213051353865 % 18446744073709551616 : Nat) : Int)) rfl (by
    have e : ((2 ^ k : Nat) : Int) * 285870213051353865 = ((2 ^ k * 285870213051353865 : Nat) : Int) := by rw [Int.natCast_mul]; rfl
    have e2 : ∀ z : Nat, IntKind.u64.wrap (z : Int) = ((z % 18446744073709551616 : Nat) : Int) := by
      intro z
      simp [IntKind.wrap, IntKind.signed, IntKind.bits]
    rw [e, e2]) ?_
  refine RW.val (Y.shrU (v := 58) rfl rfl (by omega)) rfl ?_
  rw [Nat.shiftRight_eq_div_pow, show (2 : Nat) ^ 58 = 288230376151711744 by decide]
  generalize 2 ^ k * 285870213051353865 % 18446744073709551616 / 288230376151711744 = q at *
  refine RW.val (Y.idxArr T rfl rfl rfl rfl ⟨by omega, by omega⟩) rfl ?_
  refine RW.val (Y.load1 T (r := .int .u8 (k : Int)) rfl rfl rfl ?_) rfl ?_
  · have := hs.cell hcs (hcell q hk)
    rw [htab] at this
    rw [Int.toNat_natCast]
    simpa using this
  refine RW.val (Y.conv64 T rfl rfl rfl ⟨by omega, by omega⟩) rfl ?_
  refine Zerun ?_
  exact retQ_ret [_] h ⟨rfl, trivial⟩ hs.dropAll rfl
/-- how many bits of a word are true: at most 127, more isn't asked here -/
theorem onesCount_con (x : Int) (w : World) (h : GHeap) : Con Tryd.prog 125 [.int .u64 x] w h (fun _ u => ∃ n : Nat, n ≤ 127 ∧ u = .int .i64 n) := by
  have key : ∀ z : Int, ∃ n : Nat, n ≤ 127 ∧ IntKind.i64.wrap (((BitVec.ofInt IntKind.i64.bits z &&& BitVec.ofInt IntKind.i64.bits 127).toNat : Nat) : Int) = n := by
    intro z
    refine ⟨(BitVec.ofInt IntKind.i64.bits z &&& BitVec.ofInt IntKind.i64.bits 127).toNat, ?_, ?_⟩
    · rw [BitVec.toNat_and]
      exact Nat.and_le_right
    · have h1 : (BitVec.ofInt IntKind.i64.bits z &&& BitVec.ofInt IntKind.i64.bits 127).toNat ≤ 127 := by
        rw [BitVec.toNat_and]
        exact Nat.and_le_right
      exact wrap64 ⟨by omega, by omega⟩
  refine Con.of_body Tryd.func125 rfl Tryd.ntmps125 rfl rfl ?_
  intro hs
  refine Zrun ?_
  refine RW.val (Y.shr' rfl rfl (by decide)) rfl ?_
  refine RW.val (Y.and' rfl rfl) rfl ?_
  refine Zerun ?_
  refine RW.val (Y.and' rfl rfl) rfl ?_
  refine RW.val (Y.add' rfl rfl) rfl ?_
  refine Zerun ?_
  refine RW.val (Y.shr' rfl rfl (by decide)) rfl ?_
  refine RW.val (Y.and' rfl rfl) rfl ?_
  refine Zerun ?_
  refine RW.val (Y.and' rfl rfl) rfl ?_
  refine RW.val (Y.add' rfl rfl) rfl ?_
  refine Zerun ?_
  refine RW.val (Y.shr' rfl rfl (by decide)) rfl ?_
  refine Zerun ?_
  refine RW.val (Y.add' rfl rfl) rfl ?_
  refine RW.val (Y.and' rfl rfl) rfl ?_
  refine Zerun ?_
  refine RW.val (Y.shr' rfl rfl (by decide)) rfl ?_
  refine RW.val (Y.add' rfl rfl) rfl ?_
  refine Zerun ?_
  refine RW.val (Y.shr' rfl rfl (by decide)) rfl ?_
  refine RW.val (Y.add' rfl rfl) rfl ?_
  refine Zerun ?_
  refine RW.val (Y.shr' rfl rfl (by decide)) rfl ?_
  refine RW.val (Y.add' rfl rfl) rfl ?_
  refine Zerun ?_
  refine RW.val (Y.convII T rfl rfl rfl) rfl ?_
  refine RW.val (Y.and' rfl rfl) rfl ?_
  refine Zerun ?_
  exact retQ_ret [_] h ⟨rfl, trivial⟩ hs.dropAll (by
    obtain ⟨n, hn, e⟩ := key _
    exact ⟨n, hn, by simp only [packv]; rw [e]⟩)
theorem bitsCount_con (wv : Value) (bs : List Bool) (w : World) (h : GHeap) (hb : BitsAt h wv bs) : Con Tryd.prog 101 [.agg [wv, .int .i64 bs.length].toArray] w h (fun _ u => ∃ n : Nat, n ≤ 2080895 ∧ u = .int .i64 n) := by
  obtain ⟨hlen, ws, ⟨ad, cp, rfl, hS⟩, hw, hr, _⟩ := hb
  have hwl : ws.length ≤ 16385 := by omega
  refine Con.of_body Tryd.func101 rfl Tryd.ntmps101 rfl rfl ?_
  intro hs
  refine Zrun ?_
  (refine RW.boxN hs rfl rfl ?_; intro b1 w1 hs)
  refine Zerun ?_
  refine CW.loop (fun r : Nat × Nat => [(1, .pointer (some ⟨b1, 0, none⟩)), (3, .int .i64 r.2), (7, .slice ad ws.length cp), (8, .int .i64 (ws.length : Int)), (9, .int .i64 r.1)]) (fun r w' => r.1 ≤ ws.length ∧ r.2 ≤ 127 * r.1 ∧ ∃ h', GLe h h' ∧ Sees w h h' [⟨some ⟨b1, 0, none⟩, 1, 1, 28, 2, [.slice ad ws.length cp, .int .i64 bs.length]⟩] w') (fun r => ws.length - r.1) (0, 0) ⟨rfl, rfl, rfl, rfl, rfl, trivial⟩ ⟨by omega, by omega, h, GLe.refl _, hs⟩ ?_
  rintro ⟨i, m⟩ w2 ⟨hi, hm, h2, hg, hs⟩
  dsimp only at hi hm hs ⊢
  have hS2 := hS.mono hg
  by_cases hlt : i < ws.length
  · refine Zerun ?_
    (refine RW.call T hs rfl rfl rfl (onesCount_con _ _ _) ?_; intro v h3 w3 hle3 hp3 hs)
    obtain ⟨c, hc, rfl⟩ := hp3
    refine Zerun ?_
    exact loopQ_round (i + 1, m + c) ⟨rfl, seti (by dsimp only; omega), rfl, rfl, rfl, trivial⟩ ⟨by dsimp only; omega, by dsimp only; omega, h3, hg.trans hle3, hs⟩ (by dsimp only; omega)
  · refine Zerun ?_
    exact retQ_ret [_] h2 ⟨rfl, trivial⟩ hs.dropAll ⟨m, by omega, rfl⟩
theorem bitsOnes_con (wv : Value) (bs : List Bool) (w : World) (h : GHeap) (hT : TzTab h) (hb : BitsAt h wv bs) : Con Tryd.prog 65 [.agg [wv, .int .i64 bs.length].toArray] w h (fun h' u => IntsAt h' u (onesL bs)) := by
  have hb' := hb
  obtain ⟨hlen, ws, ⟨ad, cp, rfl, hS⟩, hw, hr, hbit⟩ := hb
  have hwl : ws.length ≤ 16385 := by omega
  have hword : ∀ i j : Nat, j < 64 → (ws.getD i 0).toNat.testBit j = bs.getD (64 * i + j) false := by
    intro i j hj
    rw [← hbit (64 * i + j), show (64 * i + j) / 64 = i by omega, show (64 * i + j) % 64 = j by omega]
  refine Con.of_body Tryd.func65 rfl Tryd.ntmps65 rfl rfl ?_
  intro hs
  refine Zrun ?_
  (refine RW.boxN hs rfl rfl ?_; intro b1 w1 hs)
  refine Zerun ?_
  (refine RW.call T hs rfl rfl rfl (bitsCount_con _ bs _ _ hb') ?_; intro v h2 w2 hle2 hp2 hs)
  obtain ⟨n, hn, rfl⟩ := hp2
  have hT := hT.mono hle2
  have hS2 := hS.mono hle2
  refine RW.make T hs rfl rfl rfl rfl rfl (by omega) (by omega) (by dsimp only; omega) (by omega) ?_
  intro b3 w3 hs
  have hs := hs.re (ys := []) (made_one (.int .i64 0) 0)
  rw [Int.toNat_natCast]
  refine Zerun ?_
  refine CW.loop (fun r : Nat × Nat × Option Addr × Nat × GHeap => [(1, .pointer (some ⟨b1, 0, none⟩)), (3, .slice r.2.2.1 r.2.1 r.2.2.2.1), (10, .slice ad ws.length cp), (11, .int .i64 (ws.length : Int)), (12, .int .i64 r.1)]) (fun r w' => r.1 ≤ ws.length ∧ (onesTo bs (64 * r.1)).length = r.2.1 ∧ GLe h2 r.2.2.2.2 ∧ Sees w h r.2.2.2.2 [⟨r.2.2.1, r.2.1, r.2.2.2.1, 3, 1, (onesTo bs (64 * r.1)).map (Value.int .i64)⟩, ⟨some ⟨b1, 0, none⟩, 1, 1, 28, 2, [.slice ad ws.length cp, .int .i64 bs.length]⟩] w') (fun r => ws.length - r.1) (0, 0, some ⟨b3, 0, none⟩, n, h2) ⟨rfl, rfl, rfl, rfl, rfl, trivial⟩ ⟨by omega, rfl, GLe.refl _, hs⟩ ?_
  rintro ⟨i, m, ra, rc, hh⟩ w4 ⟨hi, hm, hg, hs⟩
  dsimp only at hi hm hg hs ⊢
  have hS4 := hS2.mono hg
  by_cases hlt : i < ws.length
  · have hwi := hr _ (mem_getD ws i 0 hlt)
    refine Zerun ?_
    refine CW.loop (fun r : Nat × Nat × Nat × Option Addr × Nat × GHeap => [(1, .pointer (some ⟨b1, 0, none⟩)), (3, .slice r.2.2.2.1 r.2.2.1 r.2.2.2.2.1), (4, .int .i64 (i : Int)), (5, .int .u64 (r.1 : Int)), (10, .slice ad ws.length cp), (11, .int .i64 (ws.length : Int)), (12, .int .i64 (i : Int))]) (fun r w' => r.1 < 18446744073709551616 ∧ r.2.1 ≤ 64 ∧ (∀ j, j < 64 → r.1.testBit j = (decide (r.2.1 ≤ j) && bs.getD (64 * i + j) false)) ∧ (onesTo bs (64 * i + r.2.1)).length = r.2.2.1 ∧ GLe h2 r.2.2.2.2.2 ∧ Sees w h r.2.2.2.2.2 [⟨r.2.2.2.1, r.2.2.1, r.2.2.2.2.1, 3, 1, (onesTo bs (64 * i + r.2.1)).map (Value.int .i64)⟩, ⟨some ⟨b1, 0, none⟩, 1, 1, 28, 2, [.slice ad ws.length cp, .int .i64 bs.length]⟩] w') (fun r => 64 - r.2.1) ((ws.getD i 0).toNat, 0, m, ra, rc, hh) ⟨rfl, rfl, rfl, by dsimp only; rw [Int.toNat_of_nonneg hwi.1]; rfl, rfl, rfl, rfl, trivial⟩ ⟨by dsimp only; omega, by dsimp only; omega, fun j hj => by rw [hword i j hj]; simp, hm, hg, hs⟩ ?_
    rintro ⟨x, t, m2, rb, rd, h5⟩ w5 ⟨hx, ht, hxb, hm2, hg5, hs⟩
    dsimp only at hx ht hxb hm2 hg5 hs ⊢
    by_cases c : x = 0
    · subst c
      have hz : ∀ j, 64 * i + t ≤ j → j < 64 * (i + 1) → bs.getD j false = false := by
        intro j h1 h2
        have := hxb (j - 64 * i) (by omega)
        rw [Nat.zero_testBit, decide_eq_true (by omega), Bool.true_and, show 64 * i + (j - 64 * i) = j by omega] at this
        exact this.symm
      have e : onesTo bs (64 * (i + 1)) = onesTo bs (64 * i + t) := onesTo_none (by omega) hz
      refine Zerun ?_
      exact loopQ_round (i + 1, m2, rb, rd, h5) ⟨rfl, rfl, rfl, rfl, rfl, trivial⟩ ⟨by dsimp only; omega, by dsimp only; rw [e]; exact hm2, hg5, by dsimp only; rw [e]; exact hs⟩ (by dsimp only; omega)
    obtain ⟨hk, hbel, hat, hnx⟩ := low_bit c hx
    have hT5 := hT.mono hg5
    have hm3 := onesTo_len bs (64 * i + t)
    have htz := tz_con x
    generalize Lib.ctz 64 x = k at hk hbel hat hnx htz
    have hkb := hxb k hk
    rw [hat] at hkb
    have htk : t ≤ k := by
      by_cases c2 : t ≤ k
      · exact c2
      · rw [decide_eq_false c2] at hkb; cases hkb
    have hkt : bs.getD (64 * i + k) false = true := by rw [decide_eq_true htk, Bool.true_and] at hkb; exact hkb.symm
    have hone : onesTo bs (64 * i + k + 1) = onesTo bs (64 * i + t) ++ [((64 * i + k : Nat) : Int)] := onesTo_next (by omega) (fun j h1 h2 => by
      have := hxb (j - 64 * i) (by omega)
      rw [hbel _ (by omega), decide_eq_true (by omega), Bool.true_and, show 64 * i + (j - 64 * i) = j by omega] at this
      exact this.symm) hkt
    refine Zerun ?_
    refine RW.val (Y.shl' rfl rfl (by decide)) rfl ?_
    refine RW.respell (t := 21) (v := .int .i64 ((64 * i : Nat) : Int)) rfl (by
      have : IntKind.i64.wrap ((i : Int) * 2 ^ min (6 : Int).toNat IntKind.i64.bits) = ((64 * i : Nat) : Int) := by
        rw [show (2 : Int) ^ min (6 : Int).toNat IntKind.i64.bits = 64 by decide, wrap64 ⟨by omega, by omega⟩]
        omega
      rw [this]) ?_
    refine Zerun ?_
    (refine RW.call T hs rfl rfl rfl (htz _ _ hx hT5) ?_; intro v h6 w6 hle6 hp6 hs)
    subst hp6
    refine Zerun ?_
    (refine RW.lit T hs (vs := [.int .i64 ((64 * i : Nat) + (k : Nat) : Int)]) (cs := [.int .i64 ((64 * i : Nat) + (k : Nat) : Int)]) rfl rfl rfl rfl (by simp [Value.cells]) rfl rfl rfl rfl rfl ?_; intro b7 w7 hs)
    (refine RW.append T hs 1 rfl rfl (m := 1) (news := [.int .i64 ((64 * i : Nat) + (k : Nat) : Int)]) rfl rfl rfl rfl rfl rfl (hs.src0 rfl (by simp [Value.oneCell'])) (by simp) (by dsimp only; omega) (by omega) ?_; intro ad8 cp8 w8 hs; replace hs := hs.drop)
    refine Zerun ?_
    refine RW.val (Y.sub' rfl rfl) rfl ?_
    refine RW.respell (t := 29) (v := .int .u64 ((x - 1 : Nat) : Int)) rfl (by
      rw [show (x : Int) - 1 = ((x - 1 : Nat) : Int) by omega, wrapU _ (by omega)]) ?_
    refine RW.val (Y.andU rfl rfl hx (by omega)) rfl ?_
    refine Zerun ?_
    have hlen1 : (onesTo bs (64 * i + (k + 1))).length = m2 + 1 := by rw [show 64 * i + (k + 1) = 64 * i + k + 1 by omega, hone, List.length_append, hm2]; rfl
    refine loopQ_round (x &&& (x - 1), k + 1, m2 + 1, ad8, cp8, h6) ⟨rfl, rfl, rfl, rfl, rfl, rfl, rfl, trivial⟩ ⟨by dsimp only; have := Nat.and_le_left (n := x) (m := x - 1); omega, by dsimp only; omega, fun j hj => ?_, hlen1, hg5.trans hle6, hs.re ?_⟩ (by dsimp only; omega)
    · dsimp only
      rw [hnx, hxb j hj]
      by_cases c2 : j = k
      · subst c2; rw [decide_eq_false (show ¬ j + 1 ≤ j by omega)]; simp
      · by_cases c3 : k + 1 ≤ j
        · rw [decide_eq_true (show t ≤ j by omega), decide_eq_true c3, decide_eq_true c2]; simp
        · rw [decide_eq_false c3]
          have := hxb j hj
          rw [hbel j (by omega)] at this
          rw [← this]; simp
    · rw [show 64 * i + (k + 1) = 64 * i + k + 1 by omega, hone, List.map_append, Int.natCast_add]
      rfl
  · obtain rfl : i = ws.length := by omega
    have e : onesTo bs (64 * ws.length) = onesL bs := onesTo_ge (by omega)
    rw [e] at hm hs
    obtain ⟨h6, hle6, hs, hS6⟩ := hs.freeze
    refine Zerun ?_
    exact retQ_ret [_] h6 ⟨rfl, trivial⟩ hs.dropAll (by
      have := hS6
      dsimp only at this
      rw [← hm] at this ⊢
      exact IntsAt.of_sl this)
end Go.Proofs.YtmfealaaacmohaaDoor

/-
  The program logic, eighteenth part: regions that draw their order and change memory, two of the call's own rows fixed. No statement is proved here.
-/
namespace Go.Proofs.YtmfealaaacmohaaDoor
open Go Go.RowKit
set_option linter.unusedVariables false
set_option linter.unusedSimpArgs false
set_option linter.unusedVariables false
section
variable {P : Program} {n : Nat} {Q : Post} {L : Env} {w0 w : World} {h0 h : GHeap} {O : List Row} {ops rest : List Oper} {x y : Operand} {t : TypeId} {ra rb : Row}
variable {d : Option Tmp} {ty yt : TypeId} {pos : String} {aft : Array Edge} {fuel : Nat} {listed : Array Bool}
def SR (w0 : World) (h0 : GHeap) (ra rb : Row) (w : World) : Prop := ∃ (h' : GHeap) (O : List Row) (k j : Nat), Sees w0 h0 h' O w ∧ O[k]? = some ra ∧ O[j]? = some rb
theorem CW.regionR (T' : Tab P) (k j : Nat) (hs : Sees w0 h0 h O w) (ha : O[k]? = some ra) (hb : O[j]? = some rb) {id : Nat} {l : List Oper} (K : ∀ w', Sees w0 h0 h O w' → HW P n l (calmQ Q) (SR w0 h0 ra rb) l.length (Array.replicate l.length false) L w') : CW P n Q (.region id l.toArray true) L w :=
  CW.regionH T' (SR w0 h0 ra rb) (fun w' e => by subst e; exact K _ hs.drew)
theorem HW.takeR (i : Nat) {op : Op} {v : Value} (hi : ops.toArray[i]? = some ⟨d, op, ty, pos, aft, none⟩) (hy : ∀ (h' : GHeap) (O : List Row) (ka kb : Nat) (w' : World), Sees w0 h0 h' O w' → O[ka]? = some ra → O[kb]? = some rb → Yields P n L w' op ty v) (hS : SR w0 h0 ra rb w) (hd : dstOk n d = true)
    (hs : Region.noSelect ops.toArray = true) (hf : Region.free .any ops.toArray listed i = true) (hr : (Region.ready .any ops.toArray listed).contains i = true)
    (hh : HW P n ops (calmQ Q) (SR w0 h0 ra rb) fuel (listed.setIfInBounds i true) (updo d v L) w) : HW P n ops (calmQ Q) (SR w0 h0 ra rb) (fuel + 1) listed L w :=
  HW.take i hi (fun w' ⟨h', O, k, j, s, a, b⟩ => hy h' O k j w' s a b) hS hd hs hf hr hh
end
end Go.Proofs.YtmfealaaacmohaaDoor

/-
  Contracts of functions of package pick: places along an axis, turned on. No statement is proved here.
-/
namespace Go.Proofs.YtmfealaaacmohaaDoor
open Go Go.RowKit
set_option linter.unusedVariables false
set_option linter.unusedSimpArgs false
set_option maxHeartbeats 4000000
attribute [local irreducible] CW RW QW SW HW ConM retM heldQ calmQ elemP thenQ blockQ loopQ joinQ retQ Yields Con Sl zF magR unitF truncF fwF wholeF tidySpec elemQ rankF leastN tidyW
set_option maxHeartbeats 4000000

theorem tmod_emod (a : Int) (n : Nat) (hn : 0 < n) : -(n : Int) < a.tmod n ∧ a.tmod n < n ∧ (if a.tmod n < 0 then a.tmod n + n else a.tmod n) = a % n := by
  have h1 : a.tmod n < n := Int.tmod_lt_of_pos a (by omega)
  have h2 : -(n : Int) < a.tmod n := by
    rcases Int.le_total 0 a with h | h
    · have := Int.tmod_nonneg (n : Int) h
      omega
    · have h5 := Int.tmod_lt_of_pos (-a) (show (0 : Int) < n by omega)
      rw [Int.neg_tmod] at h5
      omega
  have h3 : a = (n : Int) * a.tdiv n + a.tmod n := (Int.mul_tdiv_add_tmod a n).symm
  have h4 : a % n = a.tmod n % n := by
    conv => lhs; rw [h3]
    rw [Int.add_comm, Int.add_mul_emod_self_left]
  refine ⟨h2, h1, ?_⟩
  rw [h4]
  split
  · rw [← Int.add_emod_right, Int.emod_eq_of_lt (by omega) (by omega)]
  · rw [Int.emod_eq_of_lt (by omega) (by omega)]
theorem fillA' {δ : Type} {A : List δ} {i n : Nat} (hA : A.length = i) (h : i < n) (b z : δ) : (A ++ List.replicate (n - i) b).set i z = (A ++ [z]) ++ List.replicate (n - (i + 1)) b := by
  obtain ⟨r, hr⟩ : ∃ r, n - i = r + 1 := ⟨n - i - 1, by omega⟩
  have e : n - (i + 1) = r := by omega
  rw [hr, e, List.replicate_succ, List.set_append_right _ _ (by omega), ← hA]
  simp
theorem setA' {δ : Type} {A Rr : List δ} {i : Nat} (hA : A.length = i) (z y : δ) : ((A ++ [z]) ++ Rr).set i y = (A ++ [y]) ++ Rr := by
  subst hA
  simp
theorem pickRolled_con (n : Nat) (by_ : Int) (w : World) (h : GHeap) (hn : n ≤ 1048576) : Con Tryd.prog 26 [.int .i64 n, .int .i64 by_] w h (fun h' u => IntsAt h' u (rolledL n by_)) := by
  refine Con.of_body Tryd.func26 rfl Tryd.ntmps26 rfl rfl ?_
  intro hs
  refine Zerun ?_
  (refine RW.make1 T hs rfl rfl rfl rfl rfl rfl rfl (by dsimp only; omega) (by omega) ?_; intro b1 w1 hs)
  by_cases c0 : n = 0
  · subst c0
    refine Zerun ?_
    obtain ⟨h2, hle2, hs, hS2⟩ := hs.freeze
    exact retQ_ret [_] h2 ⟨rfl, trivial⟩ hs.dropAll (IntsAt.of_sl (l := []) hS2)
  obtain ⟨ht1, ht2, ht3⟩ := tmod_emod by_ n (by omega)
  have hfr : 0 ≤ by_ % (n : Int) ∧ by_ % (n : Int) < n := ⟨Int.emod_nonneg _ (by omega), Int.emod_lt_of_pos _ (by omega)⟩
  refine Zerun ?_
  refine RW.val (Y.rem' rfl rfl (by omega)) rfl ?_
  by_cases c : by_.tmod n < 0
  · rw [if_pos c] at ht3
    refine Zerun ?_
    rw [ht3]
    obtain ⟨fr, hfe⟩ : ∃ fr, by_ % (n : Int) = fr := ⟨_, rfl⟩
    rw [hfe] at hfr ⊢
    refine CW.loop (fun i : Nat => [(0, .int .i64 n), (5, .slice (some ⟨b1, 0, none⟩) n n), (6, .int .i64 fr), (22, .int .i64 n), (23, .int .i64 i)]) (fun i w' => i ≤ n ∧ Sees w h h [⟨some ⟨b1, 0, none⟩, n, n, 3, 1, ((List.range i).map fun y => ((rolledN n by_ y : Nat) : Int)).map (Value.int .i64) ++ List.replicate (n - i) (.int .i64 0)⟩] w') (fun i => n - i) 0 ⟨rfl, rfl, rfl, rfl, rfl, trivial⟩ ⟨by omega, hs⟩ ?_
    rintro i w5 ⟨hi, hs⟩
    by_cases hlt : i < n
    · have hv : ((i : Int) + fr) % n = ((rolledN n by_ i : Nat) : Int) := by
        unfold rolledN
        rw [hfe, Int.toNat_of_nonneg (Int.emod_nonneg _ (by omega))]
      refine Zerun ?_
      rw [hv]
      refine RW.val (Y.idxRN T hs 0 rfl rfl rfl rfl rfl rfl hlt) rfl ?_
      refine RW.st1 T hs 0 rfl rfl rfl rfl rfl rfl rfl hlt ?_
      intro w7 hs
      replace hs := hs.re (fill_snoc (fun y => ((rolledN n by_ y : Nat) : Int)) i n hlt _)
      refine Zerun ?_
      exact loopQ_round (i + 1) ⟨rfl, rfl, rfl, rfl, rfl, trivial⟩ ⟨by omega, hs⟩ (by omega)
    obtain rfl : i = n := by omega
    rw [Nat.sub_self, List.replicate_zero, List.append_nil] at hs
    obtain ⟨h8, hle8, hs, hS8⟩ := hs.freeze
    refine Zerun ?_
    exact retQ_ret [_] h8 ⟨rfl, trivial⟩ hs.dropAll (IntsAt.of_sl (l := rolledL i by_) hS8)
  · rw [if_neg c] at ht3
    rw [ht3] at c ⊢
    refine Zerun ?_
    obtain ⟨fr, hfe⟩ : ∃ fr, by_ % (n : Int) = fr := ⟨_, rfl⟩
    rw [hfe] at hfr ⊢
    refine CW.loop (fun i : Nat => [(0, .int .i64 n), (5, .slice (some ⟨b1, 0, none⟩) n n), (6, .int .i64 fr), (22, .int .i64 n), (23, .int .i64 i)]) (fun i w' => i ≤ n ∧ Sees w h h [⟨some ⟨b1, 0, none⟩, n, n, 3, 1, ((List.range i).map fun y => ((rolledN n by_ y : Nat) : Int)).map (Value.int .i64) ++ List.replicate (n - i) (.int .i64 0)⟩] w') (fun i => n - i) 0 ⟨rfl, rfl, rfl, rfl, rfl, trivial⟩ ⟨by omega, hs⟩ ?_
    rintro i w5 ⟨hi, hs⟩
    by_cases hlt : i < n
    · have hv : ((i : Int) + fr) % n = ((rolledN n by_ i : Nat) : Int) := by
        unfold rolledN
        rw [hfe, Int.toNat_of_nonneg (Int.emod_nonneg _ (by omega))]
      refine Zerun ?_
      rw [hv]
      refine RW.val (Y.idxRN T hs 0 rfl rfl rfl rfl rfl rfl hlt) rfl ?_
      refine RW.st1 T hs 0 rfl rfl rfl rfl rfl rfl rfl hlt ?_
      intro w7 hs
      replace hs := hs.re (fill_snoc (fun y => ((rolledN n by_ y : Nat) : Int)) i n hlt _)
      refine Zerun ?_
      exact loopQ_round (i + 1) ⟨rfl, rfl, rfl, rfl, rfl, trivial⟩ ⟨by omega, hs⟩ (by omega)
    obtain rfl : i = n := by omega
    rw [Nat.sub_self, List.replicate_zero, List.append_nil] at hs
    obtain ⟨h8, hle8, hs, hS8⟩ := hs.freeze
    refine Zerun ?_
    exact retQ_ret [_] h8 ⟨rfl, trivial⟩ hs.dropAll (IntsAt.of_sl (l := rolledL i by_) hS8)
/-- a place that isn't there -/
def noneI (n : Nat) (i : Int) : Int := if i < 0 ∨ (n : Int) ≤ i then -1 else i
theorem pickNone_con (v1 : Value) (at_ : List Int) (n : Nat) (w : World) (h : GHeap) (ha : IntsAt h v1 at_) (hm : at_.length ≤ 1048576) : Con Tryd.prog 84 [v1, .int .i64 n] w h (fun h' u => IntsAt h' u (at_.map (noneI n))) := by
  obtain ⟨ad, cp, rfl, hS⟩ := ha
  refine Con.of_body Tryd.func84 rfl Tryd.ntmps84 rfl rfl ?_
  intro hs
  refine Zerun ?_
  (refine RW.make1 T hs rfl rfl rfl rfl rfl rfl rfl (by dsimp only; omega) (by omega) ?_; intro b1 w1 hs)
  refine Zerun ?_
  refine CW.loop (fun i : Nat => [(1, .int .i64 n), (5, .slice (some ⟨b1, 0, none⟩) at_.length at_.length), (11, .slice ad at_.length cp), (12, .int .i64 at_.length), (13, .int .i64 i)]) (fun i w' => i ≤ at_.length ∧ Sees w h h [⟨some ⟨b1, 0, none⟩, at_.length, at_.length, 3, 1, (((at_.take i).map (noneI n)) ++ List.replicate (at_.length - i) 0).map (Value.int .i64)⟩] w') (fun i => at_.length - i) 0 ⟨rfl, rfl, rfl, rfl, rfl, trivial⟩ ⟨by omega, by simp only [List.take_zero, List.map_nil, List.nil_append, Nat.sub_zero, List.map_replicate]; exact hs⟩ ?_
  rintro i w2 ⟨hi, hs⟩
  by_cases hlt : i < at_.length
  · have hAl : ((at_.take i).map (noneI n)).length = i := by rw [List.length_map, List.length_take]; omega
    have htm : (at_.take (i + 1)).map (noneI n) = (at_.take i).map (noneI n) ++ [noneI n (at_.getD i 0)] := by
      rw [take_succ_getD at_ i 0 hlt, List.map_append]; rfl
    refine Zerun ?_
    refine RW.val (Y.idxRN T hs 0 rfl rfl rfl rfl rfl rfl hlt) rfl ?_
    refine RW.st1 T hs 0 rfl rfl rfl rfl rfl rfl rfl hlt ?_
    intro w3 hs
    dsimp only [List.set_cons_zero, List.set_cons_succ] at hs
    rw [map_set_int, fillA' hAl hlt] at hs
    by_cases c1 : at_.getD i 0 < 0
    · have hv : noneI n (at_.getD i 0) = -1 := by unfold noneI; rw [if_pos (.inl c1)]
      refine Zerun ?_
      refine RW.val (Y.idxRN T hs 0 rfl rfl rfl rfl rfl rfl hlt) rfl ?_
      refine RW.st1 T hs 0 rfl rfl rfl rfl rfl rfl rfl hlt ?_
      intro w3 hs
      dsimp only [List.set_cons_zero, List.set_cons_succ] at hs
      rw [map_set_int, setA' hAl, ← hv, ← htm] at hs
      refine Zerun ?_
      exact loopQ_round (i + 1) ⟨rfl, rfl, rfl, rfl, rfl, trivial⟩ ⟨by omega, hs⟩ (by omega)
    by_cases c2 : (n : Int) ≤ at_.getD i 0
    · have hv : noneI n (at_.getD i 0) = -1 := by unfold noneI; rw [if_pos (.inr c2)]
      refine Zerun ?_
      refine RW.val (Y.idxRN T hs 0 rfl rfl rfl rfl rfl rfl hlt) rfl ?_
      refine RW.st1 T hs 0 rfl rfl rfl rfl rfl rfl rfl hlt ?_
      intro w3 hs
      dsimp only [List.set_cons_zero, List.set_cons_succ] at hs
      rw [map_set_int, setA' hAl, ← hv, ← htm] at hs
      refine Zerun ?_
      exact loopQ_round (i + 1) ⟨rfl, rfl, rfl, rfl, rfl, trivial⟩ ⟨by omega, hs⟩ (by omega)
    have hv : noneI n (at_.getD i 0) = at_.getD i 0 := by unfold noneI; rw [if_neg (by omega)]
    rw [hv] at htm
    rw [← htm] at hs
    refine Zerun ?_
    exact loopQ_round (i + 1) ⟨rfl, rfl, rfl, rfl, rfl, trivial⟩ ⟨by omega, hs⟩ (by omega)
  obtain rfl : i = at_.length := by omega
  rw [List.take_length, Nat.sub_self, List.replicate_zero, List.append_nil] at hs
  refine Zerun ?_
  obtain ⟨h6, hle6, hs, hS6⟩ := hs.freeze
  refine retQ_ret [_] h6 ⟨rfl, trivial⟩ hs.dropAll ?_
  have := IntsAt.of_sl hS6
  exact this
theorem flat_single {γ δ : Type} (f : γ → δ) : ∀ l : List γ, (l.flatMap fun x => [f x]) = l.map f
  | [] => rfl
  | a :: l => by rw [List.flatMap_cons, flat_single f l]; rfl
theorem alongL_one (n : Nat) (at_ : List Int) : alongL 1 n 1 at_ = at_.map (noneI n) := by
  show (List.range 1).flatMap _ = _
  rw [show List.range 1 = [0] from rfl, List.flatMap_cons, List.flatMap_nil, List.append_nil]
  rw [← flat_single (noneI n) at_]
  apply flatMap_eqN
  intro i _
  show [alongI n 1 0 i 0] = [noneI n i]
  congr 1
  unfold alongI noneI
  by_cases c : 0 ≤ i ∧ i < n
  · rw [if_pos c, if_neg (by omega)]
    omega
  · rw [if_neg c, if_pos (by omega)]
section
variable {α : Type} {R : GHeap → List Value → α → Prop}
theorem pickAlong_con (hR : Mono R) (h1 : One R) (h9 : Siz 9 R) (nb : α) (hbl : ∀ w h, Con Tryd.prog 114 [] w h (fun h' u => ∃ cs', u = .agg cs'.toArray ∧ R h' cs' nb)) (cs : List Value) (v : VecD α) (v1 : Value) (outer n inner : Nat) (at_ : List Int) (w : World) (h : GHeap) (hv : VecAt R h cs v) (ha : IntsAt h v1 at_) (hal : at_.length ≤ 1048576) (hou : outer ≤ 1048576) (hm : outer * (at_.length * inner) ≤ 1048576) (hB : outer * n * inner ≤ 1099511627776) (hBn : outer * n ≤ 1099511627776) (hvm : v.len ≤ 1048576) (hk0 : v.kind ≠ 0) :
    Con Tryd.prog 47 [.agg cs.toArray, .int .i64 outer, .int .i64 n, .int .i64 inner, v1] w h (fun h' u => ∃ cs', u = .agg cs'.toArray ∧ VecAt R h' cs' (v.pick (alongL outer n inner at_) nb)) := by
  have hv' := hv
  have ha' := ha
  obtain ⟨ad, cp, rfl, hS⟩ := ha
  obtain ⟨wv, nv, sm, il, fl, ch, bx, ⟨rfl, hoc⟩, _⟩ := hv
  refine Con.of_body Tryd.func47 rfl Tryd.ntmps47 rfl rfl ?_
  intro hs
  refine Zrun ?_
  (refine RW.boxN hs rfl rfl ?_; intro b1 w1 hs)
  (refine RW.allocN T hs rfl rfl rfl rfl ?_; intro b2 w2 hs)
  by_cases c : outer = 1 ∧ inner = 1
  · obtain ⟨rfl, rfl⟩ := c
    refine Zerun ?_
    refine CW.regionR T 1 1 hs rfl rfl ?_
    intro w4 hs
    refine HW.takeR (fuel := 5) 0 rfl (fun _ _ ka kb _ hs hka hkb => Y.loadRowN T hs ka hka rfl rfl rfl rfl rfl rfl) ⟨_, _, 1, 1, hs, rfl, rfl⟩ rfl (by kernel_rfl) (by kernel_rfl) (by kernel_rfl) ?_
    refine HW.takeR (fuel := 4) 1 rfl (fun _ _ ka kb _ hs hka hkb => Y.move rfl) ⟨_, _, 1, 1, hs, rfl, rfl⟩ rfl (by kernel_rfl) (by kernel_rfl) (by kernel_rfl) ?_
    refine HW.takeR (fuel := 3) 2 rfl (fun _ _ ka kb _ hs hka hkb => Y.move rfl) ⟨_, _, 1, 1, hs, rfl, rfl⟩ rfl (by kernel_rfl) (by kernel_rfl) (by kernel_rfl) ?_
    refine HW.one (fuel := 2) 3 rfl (by kernel_rfl) ?_
    (refine RW.call T hs rfl rfl rfl (pickNone_con _ _ n _ _ ha' (by omega)) ?_; intro v h25 w25 hle25 hp25 hs)
    have hv' := hv'.mono hR hle25
    have ha' := ha'.mono hle25
    refine RW.nil ?_
    refine heldQ_normal ⟨_, _, 1, 1, hs, rfl, rfl⟩ ?_
    refine HW.one (fuel := 1) 4 rfl (by kernel_rfl) ?_
    (refine RW.call T hs rfl rfl rfl (flatPick_con hR h1 h9 nb hbl _ _ _ (at_.map (noneI n)) _ _ hv' hp25 (by rw [List.length_map]; omega) hvm hk0) ?_; intro v h26 w26 hle26 hp26 hs)
    obtain ⟨cs26, rfl, hv26⟩ := hp26
    obtain ⟨wv6, nv6, sm6, il6, fl6, ch6, bx6, ⟨rfl, hoc6⟩, _⟩ := id hv26
    have hv' := hv'.mono hR hle26
    have ha' := ha'.mono hle26
    refine RW.nil ?_
    refine heldQ_normal ⟨_, _, 1, 1, hs, rfl, rfl⟩ ?_
    refine HW.one (fuel := 0) 5 rfl (by kernel_rfl) ?_
    (refine RW.storeAll T hs 0 rfl rfl rfl rfl rfl rfl hoc6 rfl ?_; intro w27 hs)
    refine RW.nil ?_
    refine heldQ_normal ⟨_, _, 1, 1, hs, rfl, rfl⟩ ?_
    refine HW.done (by kernel_rfl) ?_
    refine calmQ_normal ?_
    refine Zerun ?_
    exact retQ_ret [_] h26 ⟨resN T hs 0 rfl rfl rfl rfl rfl rfl, trivial⟩ hs.dropAll ⟨_, rfl, by rw [alongL_one]; exact hv26⟩
  have hlm : ∀ a b : Nat, ((a : Int) * (b : Int)) = ((a * b : Nat) : Int) := fun a b => (Int.natCast_mul a b).symm
  have hoa : outer * at_.length ≤ 1099511627776 := Nat.le_trans (Nat.mul_le_mul hou hal) (by omega)
  have hoai : outer * at_.length * inner ≤ 1048576 := by rw [Nat.mul_assoc]; exact hm
  first | (refine A0 ?_; first | refine R1 rfl rfl ?_ | refine R2 rfl rfl ?_ | (refine A1 ?_; first | refine D3 rfl rfl ?_ | refine D4 rfl rfl rfl rfl ?_ | refine D5 rfl rfl rfl ?_ | refine E6 ?_ rfl rfl | refine E7 ?_ rfl rfl) | refine Zb ?_ rfl | (refine A3 ?_; first | refine R34 T hs 0 rfl rfl rfl rfl rfl rfl ?_ | refine R34 T hs 1 rfl rfl rfl rfl rfl rfl ?_ | refine Zl ?_ rfl) | refine Zi ?_ rfl | refine Zo ?_ rfl | refine A8 ?_) | (refine B0 ?_; first | refine B1 ?_ | refine B2 ?_ | refine B3 ?_ | refine B4 ?_ | refine B5 ?_ | refine B6 ?_ | refine B7 rfl ?_ | refine B8 rfl ?_ | refine E8 ?_ rfl | refine E9 ?_ rfl) | refine C1 ?_ | refine C2 ?_ | refine C3 ?_ | refine C4 ?_ | refine C5 ?_ | refine C6 ?_ | refine C7 ?_ | refine C8 ?_ | refine C9 ?_ | refine D1 rfl ?_ | refine D2 rfl ?_
  first | (refine A0 ?_; first | refine R1 rfl rfl ?_ | refine R2 rfl rfl ?_ | (refine A1 ?_; first | refine D3 rfl rfl ?_ | refine D4 rfl rfl rfl rfl ?_ | refine D5 rfl rfl rfl ?_ | refine E6 ?_ rfl rfl | refine E7 ?_ rfl rfl) | refine Zb ?_ rfl | (refine A3 ?_; first | refine R34 T hs 0 rfl rfl rfl rfl rfl rfl ?_ | refine R34 T hs 1 rfl rfl rfl rfl rfl rfl ?_ | refine Zl ?_ rfl) | refine Zi ?_ rfl | refine Zo ?_ rfl | refine A8 ?_) | (refine B0 ?_; first | refine B1 ?_ | refine B2 ?_ | refine B3 ?_ | refine B4 ?_ | refine B5 ?_ | refine B6 ?_ | refine B7 rfl ?_ | refine B8 rfl ?_ | refine E8 ?_ rfl | refine E9 ?_ rfl) | refine C1 ?_ | refine C2 ?_ | refine C3 ?_ | refine C4 ?_ | refine C5 ?_ | refine C6 ?_ | refine C7 ?_ | refine C8 ?_ | refine C9 ?_ | refine D1 rfl ?_ | refine D2 rfl ?_
  first | (refine A0 ?_; first | refine R1 rfl rfl ?_ | refine R2 rfl rfl ?_ | (refine A1 ?_; first | refine D3 rfl rfl ?_ | refine D4 rfl rfl rfl rfl ?_ | refine D5 rfl rfl rfl ?_ | refine E6 ?_ rfl rfl | refine E7 ?_ rfl rfl) | refine Zb ?_ rfl | (refine A3 ?_; first | refine R34 T hs 0 rfl rfl rfl rfl rfl rfl ?_ | refine R34 T hs 1 rfl rfl rfl rfl rfl rfl ?_ | refine Zl ?_ rfl) | refine Zi ?_ rfl | refine Zo ?_ rfl | refine A8 ?_) | (refine B0 ?_; first | refine B1 ?_ | refine B2 ?_ | refine B3 ?_ | refine B4 ?_ | refine B5 ?_ | refine B6 ?_ | refine B7 rfl ?_ | refine B8 rfl ?_ | refine E8 ?_ rfl | refine E9 ?_ rfl) | refine C1 ?_ | refine C2 ?_ | refine C3 ?_ | refine C4 ?_ | refine C5 ?_ | refine C6 ?_ | refine C7 ?_ | refine C8 ?_ | refine C9 ?_ | refine D1 rfl ?_ | refine D2 rfl ?_
  refine CW.meet (fun _ : Unit => [(1, .int .i64 outer), (2, .int .i64 n), (3, .int .i64 inner), (4, .slice ad at_.length cp), (5, .pointer (some ⟨b1, 0, none⟩)), (10, .pointer (some ⟨b2, 0, none⟩)), (21, .bool false)]) (fun _ w' => Sees w h h [⟨some ⟨b2, 0, none⟩, 1, 1, 34, 8, vecCells 0 (.slice none 0 0) 0 (.slice none 0 0) (.slice none 0 0) (.slice none 0 0) (.slice none 0 0) (.slice none 0 0)⟩, ⟨some ⟨b1, 0, none⟩, 1, 1, 34, 8, vecCells v.kind wv nv sm il fl ch bx⟩] w') ?_ ?_
  · by_cases c1 : outer = 1
    · have c2 : ¬ inner = 1 := fun e => c ⟨c1, e⟩
      refine Zerun ?_
      exact joinQ_meet () ⟨rfl, rfl, rfl, rfl, rfl, rfl, setb (decide_eq_false (by omega)), trivial⟩ hs
    · refine Zerun ?_
      exact joinQ_meet () ⟨rfl, rfl, rfl, rfl, rfl, rfl, rfl, trivial⟩ hs
  rintro _ w3 hs
  refine Zerun ?_
  refine RW.val (Y.mul rfl rfl ?_) rfl ?_
  · rw [hlm]; omega
  rw [hlm]
  refine Zerun ?_
  refine RW.val (Y.mul rfl rfl ?_) rfl ?_
  · rw [hlm]; omega
  rw [hlm]
  obtain ⟨N, hN⟩ : ∃ N, outer * at_.length * inner = N := ⟨_, rfl⟩
  rw [hN] at hoai ⊢
  (refine RW.make T hs rfl rfl rfl rfl rfl ?_ ?_ ?_ ?_ ?_; omega; omega; (dsimp only; omega); omega; intro b4 w4 hs)
  have hs : Sees w h h [⟨some ⟨b4, 0, none⟩, 0, N, 3, 1, []⟩, ⟨some ⟨b2, 0, none⟩, 1, 1, 34, 8, vecCells 0 (.slice none 0 0) 0 (.slice none 0 0) (.slice none 0 0) (.slice none 0 0) (.slice none 0 0) (.slice none 0 0)⟩, ⟨some ⟨b1, 0, none⟩, 1, 1, 34, 8, vecCells v.kind wv nv sm il fl ch bx⟩] w4 := by
    have e : ((N : Int)).toNat = N := Int.toNat_natCast _
    rw [e] at hs
    exact hs.re (made_one _ _)
  have e : ((N : Int)).toNat = N := Int.toNat_natCast _
  rw [e]
  refine Zerun ?_
  refine CW.loop (fun u : Nat × Nat × (Option Addr × Nat) => [(1, .int .i64 outer), (2, .int .i64 n), (3, .int .i64 inner), (4, .slice ad at_.length cp), (5, .pointer (some ⟨b1, 0, none⟩)), (10, .pointer (some ⟨b2, 0, none⟩)), (11, .slice u.2.2.1 u.2.1 u.2.2.2), (34, .int .i64 outer), (35, .int .i64 u.1)]) (fun u w' => u.1 ≤ outer ∧ u.2.1 = (alongL u.1 n inner at_).length ∧ Sees w h h [⟨u.2.2.1, u.2.1, u.2.2.2, 3, 1, (alongL u.1 n inner at_).map (Value.int .i64)⟩, ⟨some ⟨b2, 0, none⟩, 1, 1, 34, 8, vecCells 0 (.slice none 0 0) 0 (.slice none 0 0) (.slice none 0 0) (.slice none 0 0) (.slice none 0 0) (.slice none 0 0)⟩, ⟨some ⟨b1, 0, none⟩, 1, 1, 34, 8, vecCells v.kind wv nv sm il fl ch bx⟩] w') (fun u => outer - u.1) (0, 0, (some ⟨b4, 0, none⟩, N)) ⟨rfl, rfl, rfl, rfl, rfl, rfl, rfl, rfl, rfl, trivial⟩ ⟨by omega, rfl, hs⟩ ?_
  rintro ⟨o, nn, ⟨ab, cb⟩⟩ w5 ⟨ho, hnn, hs⟩
  dsimp only at ho hnn hs ⊢
  have hal2 := alongL_len o n inner at_
  by_cases hlt : o < outer
  · have hon : o * n ≤ outer * n := Nat.mul_le_mul_right n (by omega)
    have hob : o * (at_.length * inner) ≤ outer * (at_.length * inner) := Nat.mul_le_mul_right _ (by omega)
    have hob1 : o * (at_.length * inner) + at_.length * inner ≤ outer * (at_.length * inner) := by
      have := Nat.mul_le_mul_right (at_.length * inner) (show o + 1 ≤ outer by omega)
      rw [Nat.add_mul, Nat.one_mul] at this
      exact this
    refine Zerun ?_
    refine CW.loop (fun u : Nat × Nat × (Option Addr × Nat) => [(1, .int .i64 outer), (2, .int .i64 n), (3, .int .i64 inner), (4, .slice ad at_.length cp), (5, .pointer (some ⟨b1, 0, none⟩)), (10, .pointer (some ⟨b2, 0, none⟩)), (11, .slice u.2.2.1 u.2.1 u.2.2.2), (12, .int .i64 o), (34, .int .i64 outer), (35, .int .i64 o), (38, .slice ad at_.length cp), (39, .int .i64 at_.length), (40, .int .i64 u.1)]) (fun u w' => u.1 ≤ at_.length ∧ u.2.1 = o * (at_.length * inner) + u.1 * inner ∧ Sees w h h [⟨u.2.2.1, u.2.1, u.2.2.2, 3, 1, (alongL o n inner at_ ++ (at_.take u.1).flatMap (fun i => (List.range inner).map fun k => alongI n inner o i k)).map (Value.int .i64)⟩, ⟨some ⟨b2, 0, none⟩, 1, 1, 34, 8, vecCells 0 (.slice none 0 0) 0 (.slice none 0 0) (.slice none 0 0) (.slice none 0 0) (.slice none 0 0) (.slice none 0 0)⟩, ⟨some ⟨b1, 0, none⟩, 1, 1, 34, 8, vecCells v.kind wv nv sm il fl ch bx⟩] w') (fun u => at_.length - u.1) (0, nn, (ab, cb)) ⟨rfl, rfl, rfl, rfl, rfl, rfl, rfl, rfl, rfl, rfl, rfl, rfl, rfl, trivial⟩ ⟨by omega, by dsimp only; omega, by simp only [List.take_zero, List.flatMap_nil, List.append_nil]; exact hs⟩ ?_
    rintro ⟨j, nj, ⟨aj, cj⟩⟩ w6 ⟨hj, hnj, hs⟩
    dsimp only at hj hnj hs ⊢
    by_cases hlj : j < at_.length
    · have hji : j * inner + inner ≤ at_.length * inner := by
        have := Nat.mul_le_mul_right inner (show j + 1 ≤ at_.length by omega)
        rw [Nat.add_mul, Nat.one_mul] at this
        exact this
      have htk : (at_.take (j + 1)).flatMap (fun i => (List.range inner).map fun k => alongI n inner o i k) = (at_.take j).flatMap (fun i => (List.range inner).map fun k => alongI n inner o i k) ++ (List.range inner).map fun k => alongI n inner o (at_.getD j 0) k := by
        rw [take_succ_getD at_ j 0 hlj, List.flatMap_append]
        simp
      refine Zerun ?_
      obtain ⟨x, hxe⟩ : ∃ x, at_.getD j 0 = x := ⟨_, rfl⟩
      rw [hxe] at htk ⊢
      refine CW.loop (fun u : Nat × Nat × (Option Addr × Nat) => [(1, .int .i64 outer), (2, .int .i64 n), (3, .int .i64 inner), (4, .slice ad at_.length cp), (5, .pointer (some ⟨b1, 0, none⟩)), (10, .pointer (some ⟨b2, 0, none⟩)), (11, .slice u.2.2.1 u.2.1 u.2.2.2), (12, .int .i64 o), (14, .int .i64 x), (34, .int .i64 outer), (35, .int .i64 o), (38, .slice ad at_.length cp), (39, .int .i64 at_.length), (40, .int .i64 j), (44, .int .i64 inner), (45, .int .i64 u.1)]) (fun u w' => u.1 ≤ inner ∧ u.2.1 = o * (at_.length * inner) + j * inner + u.1 ∧ Sees w h h [⟨u.2.2.1, u.2.1, u.2.2.2, 3, 1, (alongL o n inner at_ ++ (at_.take j).flatMap (fun i => (List.range inner).map fun k => alongI n inner o i k) ++ (List.range u.1).map (fun k => alongI n inner o x k)).map (Value.int .i64)⟩, ⟨some ⟨b2, 0, none⟩, 1, 1, 34, 8, vecCells 0 (.slice none 0 0) 0 (.slice none 0 0) (.slice none 0 0) (.slice none 0 0) (.slice none 0 0) (.slice none 0 0)⟩, ⟨some ⟨b1, 0, none⟩, 1, 1, 34, 8, vecCells v.kind wv nv sm il fl ch bx⟩] w') (fun u => inner - u.1) (0, nj, (aj, cj)) ⟨rfl, rfl, rfl, rfl, rfl, rfl, rfl, rfl, rfl, rfl, rfl, rfl, rfl, rfl, rfl, rfl, trivial⟩ ⟨by omega, hnj, by simp only [List.range_zero, List.map_nil, List.append_nil]; exact hs⟩ ?_
      rintro ⟨m, nm, ⟨am, cm⟩⟩ w7 ⟨hmm, hnm, hs⟩
      dsimp only at hmm hnm hs ⊢
      by_cases hlm2 : m < inner
      · have hrs : (List.range (m + 1)).map (fun k => alongI n inner o x k) = (List.range m).map (fun k => alongI n inner o x k) ++ [alongI n inner o x m] := by
          rw [List.range_succ, List.map_append]; rfl
        by_cases c1 : x < 0 ∨ (n : Int) ≤ x
        · have hv : alongI n inner o x m = -1 := by unfold alongI; rw [if_neg (by omega)]
          by_cases c2 : x < 0
          · refine Zerun ?_
            (refine RW.lit T hs (vs := [.int .i64 (-1)]) (cs := [.int .i64 (-1)]) rfl rfl rfl rfl (by simp [Value.cells]) rfl rfl rfl rfl rfl ?_; intro b8 w8 hs)
            (refine RW.append T hs 1 rfl rfl (m := 1) (news := [.int .i64 (-1)]) rfl rfl rfl rfl rfl rfl (hs.src0 rfl (by simp [Value.oneCell'])) (by simp) (by dsimp only; omega) (by omega) ?_; intro ad9 cp9 w9 hs; replace hs := hs.drop)
            refine Zerun ?_
            refine loopQ_round (m + 1, nm + 1, (ad9, cp9)) ⟨rfl, rfl, rfl, rfl, rfl, rfl, rfl, rfl, rfl, rfl, rfl, rfl, rfl, rfl, rfl, rfl, trivial⟩ ⟨by dsimp only; omega, by dsimp only; omega, ?_⟩ (by dsimp only; omega)
            dsimp only
            rw [hrs, hv, ← List.append_assoc, List.map_append]
            exact hs
          · have c3 : (n : Int) ≤ x := by omega
            refine Zerun ?_
            (refine RW.lit T hs (vs := [.int .i64 (-1)]) (cs := [.int .i64 (-1)]) rfl rfl rfl rfl (by simp [Value.cells]) rfl rfl rfl rfl rfl ?_; intro b8 w8 hs)
            (refine RW.append T hs 1 rfl rfl (m := 1) (news := [.int .i64 (-1)]) rfl rfl rfl rfl rfl rfl (hs.src0 rfl (by simp [Value.oneCell'])) (by simp) (by dsimp only; omega) (by omega) ?_; intro ad9 cp9 w9 hs; replace hs := hs.drop)
            refine Zerun ?_
            refine loopQ_round (m + 1, nm + 1, (ad9, cp9)) ⟨rfl, rfl, rfl, rfl, rfl, rfl, rfl, rfl, rfl, rfl, rfl, rfl, rfl, rfl, rfl, rfl, trivial⟩ ⟨by dsimp only; omega, by dsimp only; omega, ?_⟩ (by dsimp only; omega)
            dsimp only
            rw [hrs, hv, ← List.append_assoc, List.map_append]
            exact hs
        · have hx0 : 0 ≤ x ∧ x < n := by omega
          have hv : alongI n inner o x m = (((o * n + x.toNat) * inner + m : Nat) : Int) := by unfold alongI; rw [if_pos hx0]
          have hox : o * n + x.toNat < outer * n := by
            have := Nat.mul_le_mul_right n (show o + 1 ≤ outer by omega)
            rw [Nat.add_mul, Nat.one_mul] at this
            omega
          have hoxi : (o * n + x.toNat) * inner + m < outer * n * inner := by
            have := Nat.mul_le_mul_right inner (show o * n + x.toNat + 1 ≤ outer * n by omega)
            rw [Nat.add_mul, Nat.one_mul] at this
            omega
          refine Zerun ?_
          refine RW.val (Y.mul rfl rfl ?_) rfl ?_
          · rw [hlm]; omega
          rw [hlm]
          refine Zerun ?_
          rw [show ((o * n : Nat) : Int) + x = ((o * n + x.toNat : Nat) : Int) by omega]
          refine RW.val (Y.mul rfl rfl ?_) rfl ?_
          · rw [hlm]; omega
          rw [hlm]
          refine Zerun ?_
          (refine RW.lit T hs (vs := [.int .i64 ((((o * n + x.toNat) * inner : Nat) : Int) + m)]) (cs := [.int .i64 ((((o * n + x.toNat) * inner : Nat) : Int) + m)]) rfl rfl rfl rfl (by simp [Value.cells]) rfl rfl rfl rfl rfl ?_; intro b8 w8 hs)
          (refine RW.append T hs 1 rfl rfl (m := 1) (news := [.int .i64 ((((o * n + x.toNat) * inner : Nat) : Int) + m)]) rfl rfl rfl rfl rfl rfl (hs.src0 rfl (by simp [Value.oneCell'])) (by simp) (by dsimp only; omega) (by omega) ?_; intro ad9 cp9 w9 hs; replace hs := hs.drop)
          refine Zerun ?_
          refine loopQ_round (m + 1, nm + 1, (ad9, cp9)) ⟨rfl, rfl, rfl, rfl, rfl, rfl, rfl, rfl, rfl, rfl, rfl, rfl, rfl, rfl, rfl, rfl, trivial⟩ ⟨by dsimp only; omega, by dsimp only; omega, ?_⟩ (by dsimp only; omega)
          dsimp only
          rw [hrs, hv, ← List.append_assoc, List.map_append]
          exact hs
      obtain rfl : m = inner := by omega
      rw [List.append_assoc, ← htk] at hs
      refine Zerun ?_
      refine loopQ_round (j + 1, nm, (am, cm)) ⟨rfl, rfl, rfl, rfl, rfl, rfl, rfl, rfl, rfl, rfl, rfl, rfl, rfl, trivial⟩ ⟨by dsimp only; omega, ?_, hs⟩ (by dsimp only; omega)
      dsimp only
      rw [Nat.add_mul, Nat.one_mul]
      omega
    obtain rfl : j = at_.length := by omega
    have hsn : alongL (o + 1) n inner at_ = alongL o n inner at_ ++ at_.flatMap (fun i => (List.range inner).map fun k => alongI n inner o i k) := by
      unfold alongL
      rw [List.range_succ, List.flatMap_append]
      simp
    rw [List.take_length, ← hsn] at hs
    refine Zerun ?_
    refine loopQ_round (o + 1, nj, (aj, cj)) ⟨rfl, rfl, rfl, rfl, rfl, rfl, rfl, rfl, rfl, trivial⟩ ⟨by dsimp only; omega, ?_, hs⟩ (by dsimp only; omega)
    dsimp only
    rw [alongL_len, Nat.add_mul, Nat.one_mul]
    omega
  obtain rfl : o = outer := by omega
  obtain ⟨h6, hle6, hs, hS6⟩ := hs.freeze
  have hI6 : IntsAt h6 (.slice ab nn cb) (alongL o n inner at_) := IntsAt.of_sl hS6
  have hv' := hv'.mono hR hle6
  refine Zerun ?_
  (refine RW.call T hs rfl rfl rfl (flatPick_con hR h1 h9 nb hbl _ _ _ (alongL o n inner at_) _ _ hv' hI6 (by omega) hvm hk0) ?_; intro v h11 w11 hle11 hp11 hs)
  obtain ⟨cs11, rfl, hv11⟩ := hp11
  obtain ⟨wv6, nv6, sm6, il6, fl6, ch6, bx6, ⟨rfl, hoc6⟩, _⟩ := id hv11
  (refine RW.storeAll T hs 0 rfl rfl rfl rfl rfl rfl hoc6 rfl ?_; intro w12 hs)
  refine Zerun ?_
  exact retQ_ret [_] h11 ⟨resN T hs 0 rfl rfl rfl rfl rfl rfl, trivial⟩ hs.dropAll ⟨_, rfl, hv11⟩
end
end Go.Proofs.YtmfealaaacmohaaDoor

/-
  Contracts of package pick: places taken, dropped, and taken so often as counts say. No statement is proved here.
-/
namespace Go.Proofs.YtmfealaaacmohaaDoor
open Go Go.RowKit
set_option linter.unusedVariables false
set_option linter.unusedSimpArgs false
set_option maxHeartbeats 4000000
attribute [local irreducible] CW RW QW SW HW ConM retM heldQ calmQ elemP thenQ blockQ loopQ joinQ retQ Yields Con Sl zF magR unitF truncF fwF wholeF tidySpec elemQ rankF leastN tidyW
set_option maxHeartbeats 4000000

theorem taken_conM (n : Nat) (many most : Int) (w0 w : World) (h0 h : GHeap) (O : List Row) (hn : n ≤ 1048576) (hmany : -9223372036854775808 ≤ many ∧ many < 9223372036854775808) (hmost : 0 ≤ most ∧ most ≤ 1048576) : ConM Tryd.prog 25 [.int .i64 (n : Int), .int .i64 many, .int .i64 most] w0 h0 h O w
    (fun h' O' v => h = h' ∧ if (many.natAbs : Int) ≤ most then ∃ b, v = .tuple #[.slice (some ⟨b, 0, none⟩) many.natAbs many.natAbs, .bool true] ∧ O' = ⟨some ⟨b, 0, none⟩, many.natAbs, many.natAbs, 3, 1, (takenL n many).map (Value.int .i64)⟩ :: O else v = .tuple #[.slice none 0 0, .bool false] ∧ O' = O) := by
  refine ConM.of_body Tryd.func25 rfl Tryd.ntmps25 rfl rfl ?_
  intro hs
  refine Zrun ?_
  by_cases c0 : many = -9223372036854775808
  · subst c0
    refine RW.val (Y.neg' rfl) rfl ?_
    refine RW.respell (t := 13) (v := .int .i64 (-9223372036854775808)) rfl (by
      have : IntKind.i64.wrap (0 - (-9223372036854775808)) = -9223372036854775808 := by decide
      rw [this]) ?_
    refine Zerun ?_
    exact retM_ret [_, _] h O ⟨rfl, rfl, trivial⟩ (GLe.refl _) hs ⟨rfl, by rw [if_neg (by omega)]; exact ⟨rfl, rfl⟩⟩
  have hmx : max many (-many) = ((many.natAbs : Nat) : Int) := by omega
  refine RW.val (Y.neg rfl ⟨by omega, by omega⟩) rfl ?_
  by_cases c1 : (many.natAbs : Int) ≤ most
  rotate_left
  · refine Zerun ?_
    exact retM_ret [_, _] h O ⟨rfl, rfl, trivial⟩ (GLe.refl _) hs ⟨rfl, by rw [if_neg c1]; exact ⟨rfl, rfl⟩⟩
  refine Zerun ?_
  rw [hmx]
  (refine RW.make1 T hs rfl rfl rfl rfl rfl rfl rfl (by dsimp only; omega) (by omega) ?_; intro b4 w4 hs)
  refine Zerun ?_
  refine CW.loop (fun i : Nat => [(0, .int .i64 (n : Int)), (1, .int .i64 many), (8, .int .i64 (many.natAbs : Int)), (9, .slice (some ⟨b4, 0, none⟩) many.natAbs many.natAbs), (25, .int .i64 (many.natAbs : Int)), (26, .int .i64 i)]) (fun i w' => i ≤ many.natAbs ∧ Sees w0 h0 h (⟨some ⟨b4, 0, none⟩, many.natAbs, many.natAbs, 3, 1, ((takenL n many).take i).map (Value.int .i64) ++ List.replicate (many.natAbs - i) (.int .i64 0)⟩ :: O) w') (fun i => many.natAbs - i) 0 ⟨rfl, rfl, rfl, rfl, rfl, rfl, trivial⟩ ⟨by omega, hs.re (by simp)⟩ ?_
  rintro i w5 ⟨hi, hs⟩
  have hA : (((takenL n many).take i).map (Value.int .i64)).length = i := by rw [List.length_map, List.length_take, taken_len]; omega
  by_cases hlt : i < many.natAbs
  · have htk : (takenL n many).take (i + 1) = (takenL n many).take i ++ [takenI n many i] := by
      rw [take_succ_getD _ _ 0 (by rw [taken_len]; exact hlt)]
      unfold takenL
      rw [getD_map' _ _ _ _ (by rw [List.length_range]; exact hlt), List.getElem_range]
    refine Zerun ?_
    refine RW.val (Y.idxRN T hs 0 rfl rfl rfl rfl rfl rfl (by omega)) rfl ?_
    refine RW.st1 T hs 0 rfl rfl rfl rfl rfl rfl rfl (by omega) ?_
    intro w6 hs
    have hs := hs.re (fillA' hA hlt _ _)
    by_cases c2 : many < 0
    · have hI : takenI n many i = (n : Int) - many.natAbs + i := by unfold takenI; rw [if_pos c2]; omega
      refine Zerun ?_
      refine RW.val (Y.idxRN T hs 0 rfl rfl rfl rfl rfl rfl (by omega)) rfl ?_
      refine RW.st1 T hs 0 rfl rfl rfl rfl rfl rfl rfl (by omega) ?_
      intro w7 hs
      have hs := hs.re (setA' hA _ _)
      have hv : ∀ z : Int, ((((takenL n many).take i).map (Value.int .i64) ++ [.int .i64 z]) ++ List.replicate (many.natAbs - (i + 1)) (.int .i64 0))[i]? = some (.int .i64 z) := by
        intro z
        rw [List.append_assoc, List.getElem?_append_right (by omega), hA, Nat.sub_self]
        rfl
      refine Zerun ?_
      refine RW.val (Y.idxRN T hs 0 rfl rfl rfl rfl rfl rfl (by omega)) rfl ?_
      refine RW.val (Y.ldR T hs 0 rfl rfl rfl rfl (by omega) (hv _)) rfl ?_
      refine Zerun ?_
      exact loopQ_round (i + 1) ⟨rfl, rfl, rfl, rfl, rfl, rfl, trivial⟩ ⟨by omega, hs.re (by rw [htk, hI, List.map_append]; rfl)⟩ (by omega)
    · have hv : ∀ z : Int, ((((takenL n many).take i).map (Value.int .i64) ++ [.int .i64 z]) ++ List.replicate (many.natAbs - (i + 1)) (.int .i64 0))[i]? = some (.int .i64 z) := by
        intro z
        rw [List.append_assoc, List.getElem?_append_right (by omega), hA, Nat.sub_self]
        rfl
      refine Zerun ?_
      refine RW.val (Y.idxRN T hs 0 rfl rfl rfl rfl rfl rfl (by omega)) rfl ?_
      refine RW.val (Y.ldR T hs 0 rfl rfl rfl rfl (by omega) (hv _)) rfl ?_
      by_cases c3 : (i : Int) < n
      · have hI : takenI n many i = (i : Int) := by unfold takenI; rw [if_neg c2, if_pos c3]
        refine Zerun ?_
        exact loopQ_round (i + 1) ⟨rfl, rfl, rfl, rfl, rfl, rfl, trivial⟩ ⟨by omega, hs.re (by rw [htk, hI, List.map_append]; rfl)⟩ (by omega)
      · have hI : takenI n many i = -1 := by unfold takenI; rw [if_neg c2, if_neg c3]
        refine Zerun ?_
        refine RW.val (Y.idxRN T hs 0 rfl rfl rfl rfl rfl rfl (by omega)) rfl ?_
        refine RW.st1 T hs 0 rfl rfl rfl rfl rfl rfl rfl (by omega) ?_
        intro w7 hs
        have hs := hs.re (setA' hA _ _)
        refine Zerun ?_
        exact loopQ_round (i + 1) ⟨rfl, rfl, rfl, rfl, rfl, rfl, trivial⟩ ⟨by omega, hs.re (by rw [htk, hI, List.map_append]; rfl)⟩ (by omega)
  obtain rfl : i = many.natAbs := by omega
  refine Zerun ?_
  refine retM_ret [_, _] h _ ⟨rfl, rfl, trivial⟩ (GLe.refl _) hs ⟨rfl, ?_⟩
  rw [if_pos c1]
  refine ⟨b4, rfl, ?_⟩
  rw [List.take_of_length_le (by rw [taken_len]; exact Nat.le_refl _), Nat.sub_self, List.replicate_zero, List.append_nil]
end Go.Proofs.YtmfealaaacmohaaDoor

/-
  Contracts of the document's answer of layer 15: places turned, taken and dropped. No statement is proved here.
-/
namespace Go.Proofs.YtmfealaaacmohaaDoor
open Go Go.RowKit
set_option linter.unusedVariables false
set_option linter.unusedSimpArgs false
set_option maxHeartbeats 4000000
attribute [local irreducible] CW RW QW SW HW ConM retM heldQ calmQ elemP thenQ blockQ loopQ joinQ retQ Yields Con Sl zF magR unitF truncF fwF wholeF tidySpec elemQ rankF leastN tidyW
set_option maxHeartbeats 4000000

theorem freezeI {w0 w : World} {h0 h : GHeap} {ad : Option Addr} {m cp : Nat} {l : List Int} {O : List Row} (hs : Sees w0 h0 h (⟨ad, m, cp, 3, 1, l.map (Value.int .i64)⟩ :: O) w) (hl : l.length = m) : ∃ h', GLe h h' ∧ Sees w0 h0 h' O w ∧ IntsAt h' (.slice ad m cp) l := by
  obtain ⟨h', hle, hs', hS⟩ := hs.freeze
  refine ⟨h', hle, hs', ?_⟩
  dsimp only at hS
  subst hl
  exact IntsAt.of_sl hS
end Go.Proofs.YtmfealaaacmohaaDoor

/-
  Contract of package pick: places taken so often as counts say. No statement is proved here.
-/
namespace Go.Proofs.YtmfealaaacmohaaDoor
open Go Go.RowKit
set_option linter.unusedVariables false
set_option linter.unusedSimpArgs false
set_option maxHeartbeats 4000000
attribute [local irreducible] CW RW QW SW HW ConM retM heldQ calmQ elemP thenQ blockQ loopQ joinQ retQ Yields Con Sl zF magR unitF truncF fwF wholeF tidySpec elemQ rankF leastN tidyW
set_option maxHeartbeats 4000000

/-- the count for a place, and what it brings -/
def cAt (ks : List Int) (i : Nat) : Int := ks.getD (i % ks.length) 0
def segC (c : Int) (i : Nat) : List Int := List.replicate c.natAbs (if c < 0 then -1 else (i : Int))
def copiesTo (ks : List Int) (m : Nat) : List Int := (List.range m).flatMap fun i => segC (cAt ks i) i
def copiesRes (ks : List Int) (n : Nat) (most : Int) : List Int × Int := if ks.length ≠ n ∧ ks.length ≠ 1 then ([], 23) else if ((copiesTo ks n).length : Int) ≤ most then (copiesTo ks n, 0) else ([], 26)
theorem copiesTo_succ (ks : List Int) (m : Nat) : copiesTo ks (m + 1) = copiesTo ks m ++ segC (cAt ks m) m := by
  unfold copiesTo
  rw [List.range_succ, List.flatMap_append]
  simp
theorem copiesTo_len_succ (ks : List Int) (m : Nat) : (copiesTo ks (m + 1)).length = (copiesTo ks m).length + (cAt ks m).natAbs := by
  rw [copiesTo_succ, List.length_append]
  unfold segC
  rw [List.length_replicate]
theorem copiesTo_mono (ks : List Int) : ∀ {a b : Nat}, a ≤ b → (copiesTo ks a).length ≤ (copiesTo ks b).length
  | a, 0, h => by rw [show a = 0 by omega]; exact Nat.le_refl _
  | a, b + 1, h => by
    by_cases c : a = b + 1
    · rw [c]; exact Nat.le_refl _
    · have := copiesTo_mono ks (a := a) (b := b) (by omega)
      rw [copiesTo_len_succ]
      omega
theorem onesTo_succ (bs : List Bool) (m : Nat) : onesTo bs (m + 1) = if bs.getD m false = true then onesTo bs m ++ [(m : Int)] else onesTo bs m := by
  unfold onesTo
  rw [List.range_succ, List.filter_append]
  by_cases c : bs.getD m false = true
  · rw [if_pos c, List.filter_cons_of_pos (p := fun i => bs.getD i false) c]; simp
  · rw [if_neg c, List.filter_cons_of_neg (p := fun i => bs.getD i false) c]; simp
theorem copies_bits (bs : List Bool) : ∀ m, m ≤ bs.length → copiesTo (bs.map fun b => if b then 1 else 0) m = onesTo bs m
  | 0, _ => rfl
  | m + 1, h => by
    have ih := copies_bits bs m (by omega)
    have hc : cAt (bs.map fun b => if b then (1 : Int) else 0) m = if bs.getD m false = true then 1 else 0 := by
      unfold cAt
      rw [List.length_map, Nat.mod_eq_of_lt (by omega), getD_map' _ _ _ _ (by omega), getElem_getD _ _ false (by omega)]
    rw [copiesTo_succ, ih, hc, onesTo_succ]
    by_cases c : bs.getD m false = true
    · rw [if_pos c, if_pos c]; rfl
    · rw [if_neg c, if_neg c]; simp [segC]
section
variable {α : Type} {R : GHeap → List Value → α → Prop}
theorem pickWholes_con (hR : Mono R) (cs : List Value) (v : VecD α) (w : World) (h : GHeap) (hv : VecAt R h cs v) (hm : v.len ≤ 1099511627776) (hk : v.kind = 1 ∨ v.kind = 2 ∨ v.kind = 3 ∨ v.kind = 4) : Con Tryd.prog 61 [.agg cs.toArray] w h
    (fun h' u => ∃ s, u = .tuple #[s, .bool (decide (v.kind ≠ 4 ∨ v.len = 0))] ∧ KAt .i64 h' s (if v.kind = 4 then [] else v.nums.map (fun x => (wholeF x).1))) := by
  have hv' := hv
  obtain ⟨wv, nv, sm, il, fl, ch, bx, ⟨rfl, hoc⟩, _⟩ := hv
  have hcls : v.cls = 0 := by unfold VecD.cls; rw [if_neg (by omega), if_neg (by omega)]
  have hk0 : ¬ v.kind = 0 := by omega
  refine Con.of_body Tryd.func61 rfl Tryd.ntmps61 rfl rfl ?_
  intro hs
  refine Zrun ?_
  (refine RW.boxN hs rfl rfl ?_; intro b1 w1 hs)
  refine Zerun ?_
  (refine RW.call T hs rfl rfl rfl (vecClass_con _ v _ _ hv') ?_; intro v h2 w2 hle2 hp2 hs)
  subst hp2
  rw [hcls]
  have hv' := hv'.mono hR hle2
  refine Zerun ?_
  (refine RW.call T hs rfl rfl rfl (vecKind_con _ v _ _ hv') ?_; intro v h3 w3 hle3 hp3 hs)
  subst hp3
  have hv' := hv'.mono hR hle3
  refine Zerun ?_
  (refine RW.call T hs rfl rfl rfl (vecWholes_con hR _ v _ _ hv' hm) ?_; intro v h4 w4 hle4 hp4 hs)
  obtain ⟨s, rfl, hs4⟩ := hp4
  have hv' := hv'.mono hR hle4
  by_cases c : v.kind = 4
  · rw [decide_eq_false (show ¬ (v.kind = 1 ∨ v.kind = 2 ∨ v.kind = 3) by omega)]
    refine Zerun ?_
    (refine RW.call T hs rfl rfl rfl (vecLen_con _ v _ _ hv') ?_; intro v h5 w5 hle5 hp5 hs)
    subst hp5
    refine Zerun ?_
    refine retQ_ret [_, _] h5 ⟨rfl, rfl, trivial⟩ hs.dropAll ⟨.slice none 0 0, ?_, by rw [if_pos c]; exact RowAt.nil _⟩
    have e : decide ((v.len : Int) = 0) = decide (v.kind ≠ 4 ∨ v.len = 0) := by rw [decide_eq_decide]; omega
    simp only [packv]
    rw [e]
  · rw [decide_eq_true (show v.kind = 1 ∨ v.kind = 2 ∨ v.kind = 3 by omega)]
    rw [if_pos (show v.kind = 1 ∨ v.kind = 2 ∨ v.kind = 3 by omega)] at hs4
    refine Zerun ?_
    exact retQ_ret [_, _] h4 ⟨rfl, rfl, trivial⟩ hs.dropAll ⟨s, by rw [decide_eq_true (show v.kind ≠ 4 ∨ v.len = 0 from .inl c)]; rfl, by rw [if_neg c]; exact hs4⟩
theorem pickLimited_con (s : Value) (l : List Int) (most : Int) (w : World) (h : GHeap) (hl : IntsAt h s l) : Con Tryd.prog 64 [s, .int .i64 most] w h (fun h' u => ∃ s', u = .tuple #[s', .int .i64 (if (l.length : Int) ≤ most then 0 else 26)] ∧ IntsAt h' s' (if (l.length : Int) ≤ most then l else [])) := by
  have hl' := hl
  obtain ⟨ad, cp, rfl, hS⟩ := hl
  refine Con.of_body Tryd.func64 rfl Tryd.ntmps64 rfl rfl ?_
  intro hs
  by_cases c : (l.length : Int) ≤ most
  · rw [if_pos c, if_pos c]
    refine Zrun ?_
    exact retQ_ret [_, _] h ⟨rfl, rfl, trivial⟩ hs.dropAll ⟨_, rfl, hl'⟩
  · rw [if_neg c, if_neg c]
    refine Zrun ?_
    exact retQ_ret [_, _] h ⟨rfl, rfl, trivial⟩ hs.dropAll ⟨_, rfl, IntsAt.nil _⟩
theorem pickCopies_con (hR : Mono R) (cs : List Value) (v : VecD α) (n : Nat) (most : Int) (ks : List Int) (w : World) (h : GHeap) (hT : TzTab h) (hv : VecAt R h cs v) (hm : v.len ≤ 1048576) (hk : v.kind = 1 ∨ v.kind = 2 ∨ v.kind = 3) (hks : ks = v.nums.map (fun x => (wholeF x).1)) (hkb : ∀ c ∈ ks, -9007199254740992 ≤ c ∧ c ≤ 9007199254740992) (hn : n ≤ 1048576) (hmost : 0 ≤ most ∧ most ≤ 1048576) :
    Con Tryd.prog 15 [.agg cs.toArray, .int .i64 (n : Int), .int .i64 most] w h (fun h' u => ∃ s, u = .tuple #[s, .int .i64 (copiesRes ks n most).2] ∧ IntsAt h' s (copiesRes ks n most).1) := by
  have hv' := hv
  obtain ⟨wv, nv, sm, il, fl, ch, bx, ⟨rfl, hoc⟩, _⟩ := hv
  refine Con.of_body Tryd.func15 rfl Tryd.ntmps15 rfl rfl ?_
  intro hs
  refine Zrun ?_
  (refine RW.boxN hs rfl rfl ?_; intro b1 w1 hs)
  refine Zerun ?_
  (refine RW.call T hs rfl rfl rfl (pickWholes_con hR _ v _ _ hv' (by omega) (by omega)) ?_; intro v h2 w2 hle2 hp2 hs)
  obtain ⟨s2, rfl, hs2⟩ := hp2
  rw [decide_eq_true (show v.kind ≠ 4 ∨ v.len = 0 by omega)]
  rw [if_neg (show ¬ v.kind = 4 by omega), ← hks] at hs2
  obtain ⟨ad2, cp2, rfl, hS2⟩ := hs2
  have hv' := hv'.mono hR hle2
  have hT := hT.mono hle2
  have hcap := hS2.caps
  have hcap := hS2.caps
  first | (refine A0 ?_; first | refine R1 rfl rfl ?_ | refine R2 rfl rfl ?_ | (refine A1 ?_; first | refine D3 rfl rfl ?_ | refine D4 rfl rfl rfl rfl ?_ | refine D5 rfl rfl rfl ?_ | refine E6 ?_ rfl rfl | refine E7 ?_ rfl rfl) | refine Zb ?_ rfl | (refine A3 ?_; first | refine R34 T hs 0 rfl rfl rfl rfl rfl rfl ?_ | refine R34 T hs 1 rfl rfl rfl rfl rfl rfl ?_ | refine Zl ?_ rfl) | refine Zi ?_ rfl | refine Zo ?_ rfl | refine A8 ?_) | (refine B0 ?_; first | refine B1 ?_ | refine B2 ?_ | refine B3 ?_ | refine B4 ?_ | refine B5 ?_ | refine B6 ?_ | refine B7 rfl ?_ | refine B8 rfl ?_ | refine E8 ?_ rfl | refine E9 ?_ rfl) | refine C1 ?_ | refine C2 ?_ | refine C3 ?_ | refine C4 ?_ | refine C5 ?_ | refine C6 ?_ | refine C7 ?_ | refine C8 ?_ | refine C9 ?_ | refine D1 rfl ?_ | refine D2 rfl ?_
  first | (refine A0 ?_; first | refine R1 rfl rfl ?_ | refine R2 rfl rfl ?_ | (refine A1 ?_; first | refine D3 rfl rfl ?_ | refine D4 rfl rfl rfl rfl ?_ | refine D5 rfl rfl rfl ?_ | refine E6 ?_ rfl rfl | refine E7 ?_ rfl rfl) | refine Zb ?_ rfl | (refine A3 ?_; first | refine R34 T hs 0 rfl rfl rfl rfl rfl rfl ?_ | refine R34 T hs 1 rfl rfl rfl rfl rfl rfl ?_ | refine Zl ?_ rfl) | refine Zi ?_ rfl | refine Zo ?_ rfl | refine A8 ?_) | (refine B0 ?_; first | refine B1 ?_ | refine B2 ?_ | refine B3 ?_ | refine B4 ?_ | refine B5 ?_ | refine B6 ?_ | refine B7 rfl ?_ | refine B8 rfl ?_ | refine E8 ?_ rfl | refine E9 ?_ rfl) | refine C1 ?_ | refine C2 ?_ | refine C3 ?_ | refine C4 ?_ | refine C5 ?_ | refine C6 ?_ | refine C7 ?_ | refine C8 ?_ | refine C9 ?_ | refine D1 rfl ?_ | refine D2 rfl ?_
  first | (refine A0 ?_; first | refine R1 rfl rfl ?_ | refine R2 rfl rfl ?_ | (refine A1 ?_; first | refine D3 rfl rfl ?_ | refine D4 rfl rfl rfl rfl ?_ | refine D5 rfl rfl rfl ?_ | refine E6 ?_ rfl rfl | refine E7 ?_ rfl rfl) | refine Zb ?_ rfl | (refine A3 ?_; first | refine R34 T hs 0 rfl rfl rfl rfl rfl rfl ?_ | refine R34 T hs 1 rfl rfl rfl rfl rfl rfl ?_ | refine Zl ?_ rfl) | refine Zi ?_ rfl | refine Zo ?_ rfl | refine A8 ?_) | (refine B0 ?_; first | refine B1 ?_ | refine B2 ?_ | refine B3 ?_ | refine B4 ?_ | refine B5 ?_ | refine B6 ?_ | refine B7 rfl ?_ | refine B8 rfl ?_ | refine E8 ?_ rfl | refine E9 ?_ rfl) | refine C1 ?_ | refine C2 ?_ | refine C3 ?_ | refine C4 ?_ | refine C5 ?_ | refine C6 ?_ | refine C7 ?_ | refine C8 ?_ | refine C9 ?_ | refine D1 rfl ?_ | refine D2 rfl ?_
  first | (refine A0 ?_; first | refine R1 rfl rfl ?_ | refine R2 rfl rfl ?_ | (refine A1 ?_; first | refine D3 rfl rfl ?_ | refine D4 rfl rfl rfl rfl ?_ | refine D5 rfl rfl rfl ?_ | refine E6 ?_ rfl rfl | refine E7 ?_ rfl rfl) | refine Zb ?_ rfl | (refine A3 ?_; first | refine R34 T hs 0 rfl rfl rfl rfl rfl rfl ?_ | refine R34 T hs 1 rfl rfl rfl rfl rfl rfl ?_ | refine Zl ?_ rfl) | refine Zi ?_ rfl | refine Zo ?_ rfl | refine A8 ?_) | (refine B0 ?_; first | refine B1 ?_ | refine B2 ?_ | refine B3 ?_ | refine B4 ?_ | refine B5 ?_ | refine B6 ?_ | refine B7 rfl ?_ | refine B8 rfl ?_ | refine E8 ?_ rfl | refine E9 ?_ rfl) | refine C1 ?_ | refine C2 ?_ | refine C3 ?_ | refine C4 ?_ | refine C5 ?_ | refine C6 ?_ | refine C7 ?_ | refine C8 ?_ | refine C9 ?_ | refine D1 rfl ?_ | refine D2 rfl ?_
  first | (refine A0 ?_; first | refine R1 rfl rfl ?_ | refine R2 rfl rfl ?_ | (refine A1 ?_; first | refine D3 rfl rfl ?_ | refine D4 rfl rfl rfl rfl ?_ | refine D5 rfl rfl rfl ?_ | refine E6 ?_ rfl rfl | refine E7 ?_ rfl rfl) | refine Zb ?_ rfl | (refine A3 ?_; first | refine R34 T hs 0 rfl rfl rfl rfl rfl rfl ?_ | refine R34 T hs 1 rfl rfl rfl rfl rfl rfl ?_ | refine Zl ?_ rfl) | refine Zi ?_ rfl | refine Zo ?_ rfl | refine A8 ?_) | (refine B0 ?_; first | refine B1 ?_ | refine B2 ?_ | refine B3 ?_ | refine B4 ?_ | refine B5 ?_ | refine B6 ?_ | refine B7 rfl ?_ | refine B8 rfl ?_ | refine E8 ?_ rfl | refine E9 ?_ rfl) | refine C1 ?_ | refine C2 ?_ | refine C3 ?_ | refine C4 ?_ | refine C5 ?_ | refine C6 ?_ | refine C7 ?_ | refine C8 ?_ | refine C9 ?_ | refine D1 rfl ?_ | refine D2 rfl ?_
  first | (refine A0 ?_; first | refine R1 rfl rfl ?_ | refine R2 rfl rfl ?_ | (refine A1 ?_; first | refine D3 rfl rfl ?_ | refine D4 rfl rfl rfl rfl ?_ | refine D5 rfl rfl rfl ?_ | refine E6 ?_ rfl rfl | refine E7 ?_ rfl rfl) | refine Zb ?_ rfl | (refine A3 ?_; first | refine R34 T hs 0 rfl rfl rfl rfl rfl rfl ?_ | refine R34 T hs 1 rfl rfl rfl rfl rfl rfl ?_ | refine Zl ?_ rfl) | refine Zi ?_ rfl | refine Zo ?_ rfl | refine A8 ?_) | (refine B0 ?_; first | refine B1 ?_ | refine B2 ?_ | refine B3 ?_ | refine B4 ?_ | refine B5 ?_ | refine B6 ?_ | refine B7 rfl ?_ | refine B8 rfl ?_ | refine E8 ?_ rfl | refine E9 ?_ rfl) | refine C1 ?_ | refine C2 ?_ | refine C3 ?_ | refine C4 ?_ | refine C5 ?_ | refine C6 ?_ | refine C7 ?_ | refine C8 ?_ | refine C9 ?_ | refine D1 rfl ?_ | refine D2 rfl ?_
  first | (refine A0 ?_; first | refine R1 rfl rfl ?_ | refine R2 rfl rfl ?_ | (refine A1 ?_; first | refine D3 rfl rfl ?_ | refine D4 rfl rfl rfl rfl ?_ | refine D5 rfl rfl rfl ?_ | refine E6 ?_ rfl rfl | refine E7 ?_ rfl rfl) | refine Zb ?_ rfl | (refine A3 ?_; first | refine R34 T hs 0 rfl rfl rfl rfl rfl rfl ?_ | refine R34 T hs 1 rfl rfl rfl rfl rfl rfl ?_ | refine Zl ?_ rfl) | refine Zi ?_ rfl | refine Zo ?_ rfl | refine A8 ?_) | (refine B0 ?_; first | refine B1 ?_ | refine B2 ?_ | refine B3 ?_ | refine B4 ?_ | refine B5 ?_ | refine B6 ?_ | refine B7 rfl ?_ | refine B8 rfl ?_ | refine E8 ?_ rfl | refine E9 ?_ rfl) | refine C1 ?_ | refine C2 ?_ | refine C3 ?_ | refine C4 ?_ | refine C5 ?_ | refine C6 ?_ | refine C7 ?_ | refine C8 ?_ | refine C9 ?_ | refine D1 rfl ?_ | refine D2 rfl ?_
  first | (refine A0 ?_; first | refine R1 rfl rfl ?_ | refine R2 rfl rfl ?_ | (refine A1 ?_; first | refine D3 rfl rfl ?_ | refine D4 rfl rfl rfl rfl ?_ | refine D5 rfl rfl rfl ?_ | refine E6 ?_ rfl rfl | refine E7 ?_ rfl rfl) | refine Zb ?_ rfl | (refine A3 ?_; first | refine R34 T hs 0 rfl rfl rfl rfl rfl rfl ?_ | refine R34 T hs 1 rfl rfl rfl rfl rfl rfl ?_ | refine Zl ?_ rfl) | refine Zi ?_ rfl | refine Zo ?_ rfl | refine A8 ?_) | (refine B0 ?_; first | refine B1 ?_ | refine B2 ?_ | refine B3 ?_ | refine B4 ?_ | refine B5 ?_ | refine B6 ?_ | refine B7 rfl ?_ | refine B8 rfl ?_ | refine E8 ?_ rfl | refine E9 ?_ rfl) | refine C1 ?_ | refine C2 ?_ | refine C3 ?_ | refine C4 ?_ | refine C5 ?_ | refine C6 ?_ | refine C7 ?_ | refine C8 ?_ | refine C9 ?_ | refine D1 rfl ?_ | refine D2 rfl ?_
  refine CW.meet (fun _ : Unit => [(1, .int .i64 (n : Int)), (2, .int .i64 most), (3, .pointer (some ⟨b1, 0, none⟩)), (8, .slice ad2 ks.length cp2)]) (fun _ w' => (ks.length = n ∨ ks.length = 1) ∧ Sees w h h2 [⟨some ⟨b1, 0, none⟩, 1, 1, 34, 8, vecCells v.kind wv nv sm il fl ch bx⟩] w') ?_ ?_
  · by_cases c1 : ks.length = n
    · refine Zerun ?_
      exact joinQ_meet () ⟨rfl, rfl, rfl, rfl, trivial⟩ ⟨.inl c1, hs⟩
    by_cases c2 : ks.length = 1
    · refine Zerun ?_
      exact joinQ_meet () ⟨rfl, rfl, rfl, rfl, trivial⟩ ⟨.inr c2, hs⟩
    have he : copiesRes ks n most = ([], 23) := by unfold copiesRes; rw [if_pos ⟨c1, c2⟩]
    refine Zerun ?_
    exact retQ_ret [_, _] h2 ⟨rfl, rfl, trivial⟩ hs.dropAll ⟨_, by rw [he]; rfl, by rw [he]; exact IntsAt.nil _⟩
  rintro _ w3 ⟨clen, hs⟩
  have hres : copiesRes ks n most = if ((copiesTo ks n).length : Int) ≤ most then (copiesTo ks n, 0) else ([], 26) := by unfold copiesRes; rw [if_neg (by omega)]
  refine Zerun ?_
  (refine RW.call T hs rfl rfl rfl (vecPacked_con _ v _ _ hv') ?_; intro v h4 w4 hle4 hp4 hs)
  obtain ⟨wb, bs, rfl, hb4, hb1, hb2⟩ := hp4
  have hT := hT.mono hle4
  have hS2 := hS2.mono hle4
  have hwo : wb.oneCell' = true := by obtain ⟨_, ws, ⟨_, _, rfl, _⟩, _⟩ := hb4; rfl
  by_cases ck : v.kind = 1 ∧ bs.length = n
  · obtain ⟨ck1, ck2⟩ := ck
    have hv1 := hb1 ck1
    have hkbs : ks = bs.map fun b => if b then 1 else 0 := by
      rw [hks, hv1, List.map_map]
      apply List.map_congr_left
      intro b _
      simp only [Function.comp]
      cases b with
      | true => show (wholeF 4607182418800017408).1 = 1; rw [← fw1, wholeF_fw 1 (by omega)]
      | false => show (wholeF 0).1 = 0; rw [← fw0, wholeF_fw 0 (by omega)]
    have hones : copiesTo ks n = onesL bs := by rw [hkbs, ← ck2]; exact copies_bits bs bs.length (Nat.le_refl _)
    rw [decide_eq_true ck1]
    refine Zerun ?_
    (refine RW.allocN T hs rfl rfl rfl rfl ?_; intro b5 w5 hs)
    refine RW.storeAll T hs 0 rfl rfl rfl rfl rfl rfl (by show (wb.oneCell' && (true && true)) = true; rw [hwo]; rfl) rfl ?_
    intro w6 hs
    refine Zerun ?_
    (refine RW.call T hs rfl rfl rfl (bitsLen_con wb _ _ _) ?_; intro v h7 w7 hle7 hp7 hs)
    subst hp7
    have hT := hT.mono hle7
    have hb4 := hb4.mono hle7
    refine Zerun ?_
    (refine RW.call T hs rfl rfl rfl (bitsOnes_con wb bs _ _ hT hb4) ?_; intro v h8 w8 hle8 hp8 hs)
    refine Zerun ?_
    (refine RW.call T hs rfl rfl rfl (pickLimited_con _ (onesL bs) most _ _ hp8) ?_; intro v h9 w9 hle9 hp9 hs)
    obtain ⟨s9, rfl, hI9⟩ := hp9
    refine Zerun ?_
    refine retQ_ret [_, _] h9 ⟨rfl, rfl, trivial⟩ hs.dropAll ⟨s9, ?_, ?_⟩
    · rw [hres, hones]
      by_cases c : ((onesL bs).length : Int) ≤ most
      · rw [if_pos c, if_pos c]; rfl
      · rw [if_neg c, if_neg c]; rfl
    · rw [hres, hones]
      by_cases c : ((onesL bs).length : Int) ≤ most
      · rw [if_pos c] at hI9 ⊢; exact hI9
      · rw [if_neg c] at hI9 ⊢; exact hI9
  refine RW.meet (fun b : Nat => [(1, .int .i64 (n : Int)), (2, .int .i64 most), (3, .pointer (some ⟨b1, 0, none⟩)), (8, .slice ad2 ks.length cp2), (10, .pointer (some ⟨b, 0, none⟩)), (11, .bool (decide (v.kind = 1)))]) (fun b w' => Sees w h h4 [⟨some ⟨b, 0, none⟩, 1, 1, 28, 2, [wb, .int .i64 bs.length]⟩, ⟨some ⟨b1, 0, none⟩, 1, 1, 34, 8, vecCells v.kind wv nv sm il fl ch bx⟩] w') ?_ ?_
  · refine Zerun ?_
    (refine RW.allocN T hs rfl rfl rfl rfl ?_; intro b5 w5 hs)
    refine RW.storeAll T hs 0 rfl rfl rfl rfl rfl rfl (by show (wb.oneCell' && (true && true)) = true; rw [hwo]; rfl) rfl ?_
    intro w6 hs
    refine Zerun ?_
    exact joinQ_meet b5 ⟨rfl, rfl, rfl, rfl, rfl, rfl, trivial⟩ hs
  rintro b5 w5 hs
  refine CW.meet (fun _ : GHeap => [(1, .int .i64 (n : Int)), (2, .int .i64 most), (8, .slice ad2 ks.length cp2)]) (fun r w' => GLe h4 r ∧ Sees w h r [⟨some ⟨b5, 0, none⟩, 1, 1, 28, 2, [wb, .int .i64 bs.length]⟩, ⟨some ⟨b1, 0, none⟩, 1, 1, 34, 8, vecCells v.kind wv nv sm il fl ch bx⟩] w') ?_ ?_
  · by_cases c1 : v.kind = 1
    · have c2 : ¬ bs.length = n := fun e => ck ⟨c1, e⟩
      rw [decide_eq_true c1]
      refine Zerun ?_
      (refine RW.call T hs rfl rfl rfl (bitsLen_con wb _ _ _) ?_; intro v h7 w7 hle7 hp7 hs)
      subst hp7
      refine Zerun ?_
      exact joinQ_meet h7 ⟨rfl, rfl, rfl, trivial⟩ ⟨hle7, hs⟩
    · rw [decide_eq_false c1]
      refine Zerun ?_
      exact joinQ_meet h4 ⟨rfl, rfl, rfl, trivial⟩ ⟨GLe.refl _, hs⟩
  rintro hh w6 ⟨hg, hs⟩
  have hS := hS2.mono hg
  refine Zerun ?_
  have hcm : ∀ i, i < n → i % ks.length < ks.length ∧ -9007199254740992 ≤ cAt ks i ∧ cAt ks i ≤ 9007199254740992 := by
    intro i hi
    have hl : 0 < ks.length := by omega
    have hq := Nat.mod_lt i hl
    exact ⟨hq, hkb _ (mem_getD ks _ 0 hq)⟩
  refine CW.loop (fun i : Nat => [(1, .int .i64 (n : Int)), (2, .int .i64 most), (8, .slice ad2 ks.length cp2), (12, .int .i64 ((copiesTo ks i).length : Int)), (55, .int .i64 (n : Int)), (56, .int .i64 i)]) (fun i w' => i ≤ n ∧ ((copiesTo ks i).length : Int) ≤ most ∧ Sees w h hh [⟨some ⟨b5, 0, none⟩, 1, 1, 28, 2, [wb, .int .i64 bs.length]⟩, ⟨some ⟨b1, 0, none⟩, 1, 1, 34, 8, vecCells v.kind wv nv sm il fl ch bx⟩] w') (fun i => n - i) 0 ⟨rfl, rfl, rfl, rfl, rfl, rfl, trivial⟩ ⟨by omega, hmost.1, hs⟩ ?_
  rintro i w7 ⟨hi, hsum, hs⟩
  by_cases hlt : i < n
  · obtain ⟨hq, hc1, hc2⟩ := hcm i hlt
    have hcg : ks.getD ((i : Int) % (ks.length : Int)).toNat 0 = cAt ks i := by rw [← Int.natCast_emod, Int.toNat_natCast]; rfl
    have hls := copiesTo_len_succ ks i
    generalize cAt ks i = c at hc1 hc2 hcg hls
    have hmx : max c (-c) = ((c.natAbs : Nat) : Int) := by omega
    refine Zerun ?_
    rw [hcg]
    refine RW.val (Y.neg rfl ⟨by omega, by omega⟩) rfl ?_
    refine Zerun ?_
    by_cases c3 : ((copiesTo ks (i + 1)).length : Int) ≤ most
    · refine Zerun ?_
      exact loopQ_round (i + 1) ⟨rfl, rfl, rfl, seti (by rw [hls, hmx]; omega), rfl, rfl, trivial⟩ ⟨by omega, c3, hs⟩ (by omega)
    · have hnot : ¬ ((copiesTo ks n).length : Int) ≤ most := by
        have := copiesTo_mono ks (a := i + 1) (b := n) (by omega)
        omega
      refine Zerun ?_
      exact retQ_ret [_, _] hh ⟨rfl, rfl, trivial⟩ hs.dropAll ⟨_, by rw [hres, if_neg hnot]; rfl, by rw [hres, if_neg hnot]; exact IntsAt.nil _⟩
  obtain rfl : i = n := by omega
  have hs := hs.sub (List.nil_sublist _)
  refine Zerun ?_
  refine RW.make T hs rfl rfl rfl rfl rfl (by omega) (by omega) (by dsimp only; omega) (by omega) ?_
  intro b3 w8 hs
  have hs := hs.re (ys := []) (made_one (.int .i64 0) 0)
  rw [Int.toNat_natCast] at hs ⊢
  have hs : Sees w h hh [⟨some ⟨b3, 0, none⟩, 0, (copiesTo ks i).length, 3, 1, []⟩] w8 := hs
  rw [show (0 : Int).toNat = 0 from rfl]
  refine Zerun ?_
  refine CW.loop (fun u : Nat × Nat × Option Addr × Nat => [(1, .int .i64 (i : Int)), (8, .slice ad2 ks.length cp2), (15, .slice u.2.2.1 u.2.1 u.2.2.2), (81, .int .i64 (i : Int)), (82, .int .i64 u.1)]) (fun u w' => u.1 ≤ i ∧ (copiesTo ks u.1).length = u.2.1 ∧ Sees w h hh [⟨u.2.2.1, u.2.1, u.2.2.2, 3, 1, (copiesTo ks u.1).map (Value.int .i64)⟩] w') (fun u => i - u.1) (0, 0, some ⟨b3, 0, none⟩, (copiesTo ks i).length) ⟨rfl, rfl, rfl, rfl, rfl, trivial⟩ ⟨by omega, rfl, hs⟩ ?_
  rintro ⟨j, m, ra, rc⟩ w9 ⟨hj, hm9, hs⟩
  dsimp only at hj hm9 hs ⊢
  by_cases hlt2 : j < i
  · obtain ⟨hq, hc1, hc2⟩ := hcm j hlt2
    have hcg : ks.getD ((j : Int) % (ks.length : Int)).toNat 0 = cAt ks j := by rw [← Int.natCast_emod, Int.toNat_natCast]; rfl
    have hmono := copiesTo_mono ks (a := j + 1) (b := i) (by omega)
    have hls := copiesTo_len_succ ks j
    have hsu := copiesTo_succ ks j
    generalize cAt ks j = c at hc1 hc2 hcg hls hsu
    obtain ⟨at_, hat⟩ : ∃ z : Int, (if c < 0 then -1 else (j : Int)) = z := ⟨_, rfl⟩
    have hseg : segC c j = List.replicate c.natAbs at_ := by unfold segC; rw [hat]
    refine Zerun ?_
    rw [hcg]
    refine Zerun ?_
    refine CW.meet (fun _ : Unit => [(1, .int .i64 (i : Int)), (8, .slice ad2 ks.length cp2), (15, .slice ra m rc), (17, .int .i64 (c.natAbs : Int)), (18, .int .i64 at_), (81, .int .i64 (i : Int)), (82, .int .i64 j)]) (fun _ w' => Sees w h hh [⟨ra, m, rc, 3, 1, (copiesTo ks j).map (Value.int .i64)⟩] w') ?_ ?_
    · by_cases c4 : c < 0
      · rw [if_pos c4] at hat
        refine Zerun ?_
        refine RW.val (Y.neg rfl ⟨by omega, by omega⟩) rfl ?_
        refine Zerun ?_
        exact joinQ_meet () ⟨rfl, rfl, rfl, seti (by omega), seti hat, rfl, rfl, trivial⟩ hs
      · rw [if_neg c4] at hat
        refine Zerun ?_
        exact joinQ_meet () ⟨rfl, rfl, rfl, seti (by omega), seti hat, rfl, rfl, trivial⟩ hs
    rintro _ w10 hs
    refine Zerun ?_
    refine CW.loop (fun u : Nat × Option Addr × Nat => [(1, .int .i64 (i : Int)), (8, .slice ad2 ks.length cp2), (15, .slice u.2.1 (m + u.1) u.2.2), (18, .int .i64 at_), (81, .int .i64 (i : Int)), (82, .int .i64 j), (97, .int .i64 (c.natAbs : Int)), (98, .int .i64 u.1)]) (fun u w' => u.1 ≤ c.natAbs ∧ Sees w h hh [⟨u.2.1, m + u.1, u.2.2, 3, 1, (copiesTo ks j ++ List.replicate u.1 at_).map (Value.int .i64)⟩] w') (fun u => c.natAbs - u.1) (0, ra, rc) ⟨rfl, rfl, rfl, rfl, rfl, rfl, rfl, rfl, trivial⟩ ⟨by omega, hs.re (by simp)⟩ ?_
    rintro ⟨q, rb, rd⟩ w11 ⟨hq9, hs⟩
    dsimp only at hq9 hs ⊢
    by_cases hq8 : q < c.natAbs
    · refine Zerun ?_
      (refine RW.lit T hs (vs := [.int .i64 at_]) (cs := [.int .i64 at_]) rfl rfl rfl rfl (by simp [Value.cells]) rfl rfl rfl rfl rfl ?_; intro b6 w6 hs)
      (refine RW.append T hs 1 rfl rfl (m := 1) (news := [.int .i64 at_]) rfl rfl rfl rfl rfl rfl (hs.src0 rfl (by simp [Value.oneCell'])) (by simp) (by dsimp only; omega) (by omega) ?_; intro ad7 cp7 w7 hs; replace hs := hs.drop)
      refine Zerun ?_
      exact loopQ_round (q + 1, ad7, cp7) ⟨rfl, rfl, rfl, rfl, rfl, rfl, rfl, rfl, trivial⟩ ⟨by dsimp only; omega, hs.re (by dsimp only; rw [List.replicate_succ', ← List.append_assoc, List.map_append (l₁ := copiesTo ks j ++ List.replicate q at_)]; rfl)⟩ (by dsimp only; omega)
    · obtain rfl : q = c.natAbs := by omega
      refine Zerun ?_
      exact loopQ_round (j + 1, m + c.natAbs, rb, rd) ⟨rfl, rfl, rfl, rfl, rfl, trivial⟩ ⟨by dsimp only; omega, by dsimp only; omega, hs.re (by dsimp only; rw [hsu, hseg])⟩ (by dsimp only; omega)
  have hs9 := hs
  obtain rfl : j = i := by omega
  obtain ⟨h12, hle12, hs, hI12⟩ := freezeI hs9 hm9
  refine Zerun ?_
  exact retQ_ret [_, _] h12 ⟨rfl, rfl, trivial⟩ hs.dropAll ⟨_, by rw [hres, if_pos hsum]; rfl, by rw [hres, if_pos hsum]; exact hI12⟩
end
end Go.Proofs.YtmfealaaacmohaaDoor

/-
  Contracts of functions of package value: arrays made of elements, a number, a character, a box alone. No statement is proved here.
-/
namespace Go.Proofs.YtmfealaaacmohaaDoor
open Go Go.RowKit
set_option linter.unusedVariables false
set_option linter.unusedSimpArgs false
set_option maxHeartbeats 4000000
attribute [local irreducible] CW RW QW SW HW ConM retM heldQ calmQ elemP thenQ blockQ loopQ joinQ retQ Yields Con Sl zF magR unitF truncF fwF wholeF tidySpec elemQ rankF leastN tidyW

section
variable {α : Type} {R : GHeap → List Value → α → Prop}
end
end Go.Proofs.YtmfealaaacmohaaDoor

/-
  Contracts of the law's own functions of layer 7: which shapes elements can have. No statement is proved here.
-/
namespace Go.Proofs.YtmfealaaacmohaaDoor
open Go Go.RowKit
set_option linter.unusedVariables false
set_option linter.unusedSimpArgs false
set_option maxHeartbeats 4000000
attribute [local irreducible] CW RW QW SW HW ConM retM heldQ calmQ elemP thenQ blockQ loopQ joinQ retQ Yields Con Sl zF magR unitF truncF fwF wholeF tidySpec elemQ rankF leastN tidyW

end Go.Proofs.YtmfealaaacmohaaDoor

/-
  Plain Lean on arrays of numbers, and of one number: good ones, told plainly. No statement is proved here.
-/
namespace Go.Proofs.YtmfealaaacmohaaDoor
open Go Go.RowKit
set_option linter.unusedVariables false
set_option linter.unusedSimpArgs false
set_option maxHeartbeats 4000000
attribute [local irreducible] CW RW QW SW HW ConM retM heldQ calmQ elemP thenQ blockQ loopQ joinQ retQ Yields Con Sl zF magR unitF truncF fwF wholeF tidySpec elemQ rankF leastN tidyW

theorem product_len1 (n : Nat) (h : n ≤ 1048576) : product [(n : Int)] 1048576 = ((n : Int), 0) := by
  have hg : goodS [(n : Int)] = true := (goodS_spec _).2 ⟨by simp, by intro d hd; rw [List.mem_singleton.1 hd]; omega, by simp [pr]; omega⟩
  rw [product_good _ hg]
  by_cases c : n = 0
  · subst c; simp
  · rw [if_neg (by simp; omega)]
    simp [pr]; omega
/-- small whole numbers, as words -/
theorem fw_rank (l : List Int) (h : ∀ n ∈ l, -9007199254740992 ≤ n ∧ n ≤ 9007199254740992) : leastN (l.map fwF) ≤ 3 := by
  unfold leastN
  refine fold_le _ _ _ (by omega) (fun x hx => ?_)
  obtain ⟨n, hn, rfl⟩ := List.mem_map.1 hx
  rw [rank_int, wholeF_fw n (h n hn)]
theorem fw_tidyW (l : List Int) (h : ∀ n ∈ l, -9007199254740992 ≤ n ∧ n ≤ 9007199254740992) : (l.map fwF).map tidyW = l.map fwF := by
  rw [List.map_map]
  apply List.map_congr_left
  intro n hn
  show tidyW (fwF n) = fwF n
  unfold tidyW
  rw [tidySpec_of _ (fwF_spec n (h n hn)).1]
end Go.Proofs.YtmfealaaacmohaaDoor

/-
  Contract of the example of layer 15. No statement is proved here.
-/
namespace Go.Proofs.YtmfealaaacmohaaDoor
open Go Go.RowKit
set_option linter.unusedVariables false
set_option linter.unusedSimpArgs false
set_option maxHeartbeats 4000000
attribute [local irreducible] CW RW QW SW HW ConM retM heldQ calmQ elemP thenQ blockQ loopQ joinQ retQ Yields Con Sl zF magR unitF truncF fwF wholeF tidySpec elemQ rankF leastN tidyW
set_option maxHeartbeats 4000000

def l20m : List Nat := [4611686018427387904, 0, 13830554455654793216]
theorem l20m_eq : l20m = [2, 0, -1].map fwF := by show [_, _, _] = [fwF 2, fwF 0, fwF (-1)]; unfold fwF; decide
theorem in20m : ∀ n ∈ ([2, 0, -1] : List Int), -9007199254740992 ≤ n ∧ n ≤ 9007199254740992 := by
  intro n hn
  simp only [List.mem_cons, List.not_mem_nil, or_false] at hn
  omega
theorem tidy20m : l20m.map tidyW = l20m := by
  rw [l20m_eq]
  exact fw_tidyW _ in20m
theorem fin20m : ∀ u ∈ l20m, finF u := by
  intro u hu
  rw [l20m_eq] at hu
  obtain ⟨n, hn, rfl⟩ := List.mem_map.1 hu
  exact (fwF_spec n (in20m n hn)).1.2.1
theorem lt20m : ∀ u ∈ l20m, u < 18446744073709551616 := by
  intro u hu
  rw [l20m_eq] at hu
  obtain ⟨n, hn, rfl⟩ := List.mem_map.1 hu
  exact (fwF_spec n (in20m n hn)).1.1
theorem whole20m : l20m.map (fun x => (wholeF x).1) = [2, 0, -1] := by
  rw [l20m_eq, List.map_map]
  show [(wholeF (fwF 2)).1, (wholeF (fwF 0)).1, (wholeF (fwF (-1))).1] = _
  rw [wholeF_fw 2 (by omega), wholeF_fw 0 (by omega), wholeF_fw (-1) (by omega)]
theorem awake15_con (w : World) (h : GHeap) (hT : TzTab h) : Con Tryd.prog 12 [] w h (fun _ u => u = .bool true) := by
  refine Con.of_body Tryd.func12 rfl Tryd.ntmps12 rfl rfl ?_
  intro hs
  refine Zrun ?_
  (refine RW.lit T hs (vs := [.float .f64 4611686018427387904, .float .f64 0, .float .f64 13830554455654793216]) rfl rfl rfl rfl (by simp [Value.cells]) rfl rfl rfl rfl rfl ?_; intro b1 w1 hs)
  obtain ⟨h1, hle1, hs, hS1⟩ := hs.freeze
  have hF1 : FAt h1 (.slice (some ⟨b1, 0, none⟩) 3 3) l20m := RowAt.of_sl (l := l20m) hS1
  have hT := hT.mono hle1
  (refine RW.call T hs rfl rfl rfl (sqNumbers_con (α := AD 0) (R := ArrAt 0) (ArrAt.mono 0) _ l20m _ _ hF1 lt20m (by decide)) ?_; intro v h2 w2 hle2 hp2 hs)
  obtain ⟨cs2, ok, rfl, hok, hv2⟩ := hp2
  rw [decide_eq_true fin20m] at hok
  subst hok
  rw [if_pos rfl, tidy20m] at hv2
  have hT := hT.mono hle2
  have hv2' := hv2
  obtain ⟨wv, nv, sm, il, fl, ch, bx, ⟨rfl, hoc⟩, _⟩ := hv2
  have hlb := leastN_bounds l20m
  have hl3 : leastN l20m ≤ 3 := by rw [l20m_eq]; exact fw_rank _ in20m
  refine Zerun ?_
  (refine RW.allocN T hs rfl rfl rfl rfl ?_; intro b3 w3 hs)
  refine RW.storeAll T hs 0 rfl rfl rfl rfl rfl rfl (by show (vecCells (leastN l20m) wv nv sm il fl ch bx).all Value.oneCell' = true; rw [hoc]) rfl ?_
  intro w4 hs
  refine Zerun ?_
  (refine RW.call T hs rfl rfl rfl (pickCopies_con (ArrAt.mono 0) _ (⟨leastN l20m, l20m, [], []⟩ : VecD (AD 0)) 3 9 [2, 0, -1] _ _ hT hv2' (by show 3 ≤ 1048576; decide) (by show leastN l20m = 1 ∨ leastN l20m = 2 ∨ leastN l20m = 3; omega) whole20m.symm in20m (by omega) ⟨by decide, by decide⟩) ?_; intro v h5 w5 hle5 hp5 hs)
  obtain ⟨s5, he5, hI5⟩ := hp5
  rw [show copiesRes [2, 0, -1] 3 9 = ([0, 0, -1], 0) by decide] at hI5 he5
  have he5 : v = .tuple #[s5, .int .i64 0] := he5
  subst he5
  have hI5 : IntsAt h5 s5 [0, 0, -1] := hI5
  refine Zerun ?_
  (refine RW.callM T hs rfl rfl rfl (taken_conM 2 3 9 _ _ _ _ _ (by omega) ⟨by decide, by decide⟩ ⟨by decide, by decide⟩) ?_; intro v h6 O6 w6 hle6 hp6 hs)
  obtain ⟨rfl, hp6⟩ := hp6
  rw [if_pos (by decide)] at hp6
  obtain ⟨b6, rfl, rfl⟩ := hp6
  have hs := hs.re (ys := [0, 1, -1].map (Value.int .i64)) (congrArg (List.map _) (show takenL 2 3 = [0, 1, -1] by decide))
  obtain ⟨h7, hle7, hs, hI7⟩ := freezeI (l := [0, 1, -1]) hs rfl
  have hI5 := hI5.mono hle7
  refine Zerun ?_
  (refine RW.lit T hs (vs := [.int .i64 0, .int .i64 0, .int .i64 (-1)]) rfl rfl rfl rfl (by simp [Value.cells]) rfl rfl rfl rfl rfl ?_; intro b8 w8 hs)
  obtain ⟨h8, hle8, hs, hI8⟩ := freezeI (l := [0, 0, -1]) hs rfl
  refine Zerun ?_
  (refine RW.call T hs rfl rfl rfl (ints_con _ _ [0, 0, -1] [0, 0, -1] _ _ (hI5.mono hle8) hI8 (by decide)) ?_; intro v h9 w9 hle9 hp9 hs)
  rw [decide_eq_true rfl] at hp9
  subst hp9
  have hI7 := (hI7.mono hle8).mono hle9
  refine Zerun ?_
  (refine RW.lit T hs (vs := [.int .i64 0, .int .i64 1, .int .i64 (-1)]) rfl rfl rfl rfl (by simp [Value.cells]) rfl rfl rfl rfl rfl ?_; intro b10 w10 hs)
  obtain ⟨h10, hle10, hs, hI10⟩ := freezeI (l := [0, 1, -1]) hs rfl
  refine Zerun ?_
  (refine RW.call T hs rfl rfl rfl (ints_con _ _ [0, 1, -1] [0, 1, -1] _ _ (hI7.mono hle10) hI10 (by decide)) ?_; intro v h11 w11 hle11 hp11 hs)
  rw [decide_eq_true rfl] at hp11
  subst hp11
  refine Zerun ?_
  (refine RW.call T hs rfl rfl rfl (pickRolled_con 3 (-1) _ _ (by omega)) ?_; intro v h12 w12 hle12 hp12 hs)
  rw [show rolledL 3 (-1) = [2, 0, 1] by decide] at hp12
  refine Zerun ?_
  (refine RW.lit T hs (vs := [.int .i64 2, .int .i64 0, .int .i64 1]) rfl rfl rfl rfl (by simp [Value.cells]) rfl rfl rfl rfl rfl ?_; intro b13 w13 hs)
  obtain ⟨h13, hle13, hs, hI13⟩ := freezeI (l := [2, 0, 1]) hs rfl
  refine Zerun ?_
  (refine RW.call T hs rfl rfl rfl (ints_con _ _ [2, 0, 1] [2, 0, 1] _ _ (hp12.mono hle13) hI13 (by decide)) ?_; intro v h14 w14 hle14 hp14 hs)
  rw [decide_eq_true rfl] at hp14
  subst hp14
  refine Zerun ?_
  exact retQ_ret [_] h14 ⟨rfl, trivial⟩ hs.dropAll rfl
end Go.Proofs.YtmfealaaacmohaaDoor

/-
  Contract of the document's answer of layer 15: items picked along an axis. No statement is proved here.
-/
namespace Go.Proofs.YtmfealaaacmohaaDoor
open Go Go.RowKit
set_option linter.unusedVariables false
set_option linter.unusedSimpArgs false
set_option maxHeartbeats 4000000
attribute [local irreducible] CW RW QW SW HW ConM retM heldQ calmQ elemP thenQ blockQ loopQ joinQ retQ Yields Con Sl zF magR unitF truncF fwF wholeF tidySpec elemQ rankF leastN tidyW
set_option maxHeartbeats 4000000

/-- the places picked so far: so many times over, so many of the places, so many elements -/
def alO (n inner o : Nat) (at_ : List Int) (j k : Nat) : List Int := alongL o n inner at_ ++ ((at_.take j).flatMap fun i => (List.range inner).map fun k => alongI n inner o i k) ++ (List.range k).map fun k => alongI n inner o (at_.getD j 0) k
theorem alO_k (n inner o : Nat) (at_ : List Int) (j k : Nat) : alO n inner o at_ j (k + 1) = alO n inner o at_ j k ++ [alongI n inner o (at_.getD j 0) k] := by
  unfold alO
  rw [List.range_succ, List.map_append, ← List.append_assoc]
  rfl
theorem alO_j (n inner o : Nat) (at_ : List Int) (j : Nat) (h : j < at_.length) : alO n inner o at_ (j + 1) 0 = alO n inner o at_ j inner := by
  unfold alO
  rw [take_succ_getD at_ j 0 h, List.flatMap_append, List.append_assoc, List.append_assoc]
  simp
theorem alO_o (n inner o : Nat) (at_ : List Int) : alO n inner (o + 1) at_ 0 0 = alO n inner o at_ at_.length 0 := by
  unfold alO alongL
  rw [List.take_length, List.range_succ, List.flatMap_append]
  simp
theorem along_ix {outer n inner o q k : Nat} (ho : o < outer) (hq : q < n) (hk : k < inner) : (o * n + q) * inner + k < outer * n * inner := by
  have h1 : o * n + q + 1 ≤ outer * n := by
    have : (o + 1) * n ≤ outer * n := Nat.mul_le_mul_right n ho
    rw [Nat.add_mul, Nat.one_mul] at this
    omega
  have h2 : (o * n + q + 1) * inner ≤ outer * n * inner := Nat.mul_le_mul_right inner h1
  rw [Nat.add_mul, Nat.one_mul] at h2
  omega
section
variable {β : Type} {R : GHeap → List Value → β → Prop}
theorem refAlong_con (hR : Mono R) (v v1 : Value) (l : List (ItemD (PlainD β))) (c : Int) (outer n inner : Nat) (at_ : List Int) (w : World) (h : GHeap) (hl : RowsAt 4 (ItemAt (PlainR R) h) h v l) (ha : IntsAt h v1 at_) (hlen : l.length = outer * n * inner) (hlm : l.length ≤ 1048576) (hm : outer * (at_.length * inner) ≤ 1048576) (hi1 : 1 ≤ inner) (hoi : outer ≤ 60 ∧ inner ≤ 60 ∧ n ≤ 1048576) (hal : at_.length ≤ 60) : Con Tryd.prog 48 [v, .int .i64 c, .int .i64 (outer : Int), .int .i64 (n : Int), .int .i64 (inner : Int), v1] w h (fun h' u => RowsAt 4 (ItemAt (PlainR R) h') h' u ((alongL outer n inner at_).map fun i => atD l i (blankI c))) := by
  have hRI := ItemAt.mono (PlainR.mono hR)
  obtain ⟨ad, cp, xs, rfl, hS, hA⟩ := hl
  obtain ⟨ad1, cp1, rfl, hS1⟩ := ha
  have hwb : ∀ o j k, o ≤ 60 → j ≤ at_.length → k ≤ inner → (alO n inner o at_ j k).length ≤ 1000000 := by
    intro o j k h1 h2 h3
    unfold alO
    rw [List.length_append, List.length_append, alongL_len, List.length_map, List.length_range, List.length_flatMap]
    have e1 : ((at_.take j).map fun i => ((List.range inner).map fun k => alongI n inner o i k).length) = (at_.take j).map fun _ => inner := by
      apply List.map_congr_left
      intro i _
      rw [List.length_map, List.length_range]
    rw [e1, sum_const, List.length_take]
    have e2 : at_.length * inner ≤ 60 * 60 := Nat.mul_le_mul hal hoi.2.1
    have e3 : o * (at_.length * inner) ≤ 60 * (60 * 60) := Nat.mul_le_mul h1 e2
    have e4 : min j at_.length * inner ≤ 60 * 60 := Nat.mul_le_mul (by omega) hoi.2.1
    omega
  refine Con.of_body Tryd.func48 rfl Tryd.ntmps48 rfl rfl ?_
  intro hs
  refine Zerun ?_
  have hs := hs.nilRow 119 4
  refine CW.loop (fun u : Nat × Nat × Option Addr × Nat × List Value × GHeap => [(0, .slice ad l.length cp), (1, .int .i64 c), (2, .int .i64 (outer : Int)), (3, .int .i64 (n : Int)), (4, .int .i64 (inner : Int)), (5, .slice ad1 at_.length cp1), (13, .slice u.2.2.1 u.2.1 u.2.2.2.1), (14, .int .i64 u.1)]) (fun u w' => u.1 ≤ outer ∧ (alO n inner u.1 at_ 0 0).length = u.2.1 ∧ GLe h u.2.2.2.2.2 ∧ AllN 4 (ItemAt (PlainR R) u.2.2.2.2.2) u.2.2.2.2.1 ((alO n inner u.1 at_ 0 0).map fun i => atD l i (blankI c)) ∧ Sees w h u.2.2.2.2.2 [⟨u.2.2.1, u.2.1, u.2.2.2.1, 119, 4, u.2.2.2.2.1⟩] w') (fun u => outer - u.1) (0, 0, none, 0, [], h) ⟨rfl, rfl, rfl, rfl, rfl, rfl, rfl, rfl, trivial⟩ ⟨by omega, rfl, GLe.refl _, rfl, hs⟩ ?_
  rintro ⟨o, m, ra, rc, vs, hh⟩ w5 ⟨ho, hml, hg, hAv, hs⟩
  dsimp only at ho hml hg hAv hs ⊢
  by_cases ho1 : o < outer
  · refine Zerun ?_
    refine CW.loop (fun u : Nat × Nat × Option Addr × Nat × List Value × GHeap => [(0, .slice ad l.length cp), (1, .int .i64 c), (2, .int .i64 (outer : Int)), (3, .int .i64 (n : Int)), (4, .int .i64 (inner : Int)), (5, .slice ad1 at_.length cp1), (13, .slice u.2.2.1 u.2.1 u.2.2.2.1), (14, .int .i64 (o : Int)), (15, .int .i64 u.1)]) (fun u w' => u.1 ≤ at_.length ∧ (alO n inner o at_ u.1 0).length = u.2.1 ∧ GLe h u.2.2.2.2.2 ∧ AllN 4 (ItemAt (PlainR R) u.2.2.2.2.2) u.2.2.2.2.1 ((alO n inner o at_ u.1 0).map fun i => atD l i (blankI c)) ∧ Sees w h u.2.2.2.2.2 [⟨u.2.2.1, u.2.1, u.2.2.2.1, 119, 4, u.2.2.2.2.1⟩] w') (fun u => at_.length - u.1) (0, m, ra, rc, vs, hh) ⟨rfl, rfl, rfl, rfl, rfl, rfl, rfl, rfl, rfl, trivial⟩ ⟨by dsimp only; omega, hml, hg, hAv, hs⟩ ?_
    rintro ⟨j, m2, rb, rd, vs2, h2⟩ w6 ⟨hj, hml2, hg2, hAv2, hs⟩
    dsimp only at hj hml2 hg2 hAv2 hs ⊢
    by_cases hj1 : j < at_.length
    · refine Zerun ?_
      refine CW.loop (fun u : Nat × Nat × Option Addr × Nat × List Value × GHeap => [(0, .slice ad l.length cp), (1, .int .i64 c), (2, .int .i64 (outer : Int)), (3, .int .i64 (n : Int)), (4, .int .i64 (inner : Int)), (5, .slice ad1 at_.length cp1), (13, .slice u.2.2.1 u.2.1 u.2.2.2.1), (14, .int .i64 (o : Int)), (15, .int .i64 (j : Int)), (16, .int .i64 u.1)]) (fun u w' => u.1 ≤ inner ∧ (alO n inner o at_ j u.1).length = u.2.1 ∧ GLe h u.2.2.2.2.2 ∧ AllN 4 (ItemAt (PlainR R) u.2.2.2.2.2) u.2.2.2.2.1 ((alO n inner o at_ j u.1).map fun i => atD l i (blankI c)) ∧ Sees w h u.2.2.2.2.2 [⟨u.2.2.1, u.2.1, u.2.2.2.1, 119, 4, u.2.2.2.2.1⟩] w') (fun u => inner - u.1) (0, m2, rb, rd, vs2, h2) ⟨rfl, rfl, rfl, rfl, rfl, rfl, rfl, rfl, rfl, rfl, trivial⟩ ⟨by dsimp only; omega, hml2, hg2, hAv2, hs⟩ ?_
      rintro ⟨k, m3, re, rf, vs3, h3⟩ w7 ⟨hk, hml3, hg3, hAv3, hs⟩
      dsimp only at hk hml3 hg3 hAv3 hs ⊢
      have hSh := hS.mono hg3
      have hS1h := hS1.mono hg3
      by_cases hk1 : k < inner
      · have hwk := hwb o j k (by omega) (by omega) (by omega)
        have hsuc := alO_k n inner o at_ j k
        have hsl : (alO n inner o at_ j (k + 1)).length = m3 + 1 := by rw [hsuc, List.length_append, hml3]; rfl
        have done : ∀ (h6 : GHeap) (cs6 : List Value) (x : ItemD (PlainD β)), GLe h3 h6 → cs6.length = 4 → ItemAt (PlainR R) h6 cs6 x → x = atD l (alongI n inner o (at_.getD j 0) k) (blankI c) → AllN 4 (ItemAt (PlainR R) h6) (vs3 ++ cs6) ((alO n inner o at_ j (k + 1)).map fun i => atD l i (blankI c)) := by
          intro h6 cs6 x hle6 hl6 hi6 hx
          rw [hsuc, List.map_append]
          show AllN 4 _ (vs3 ++ cs6) (_ ++ [atD l (alongI n inner o (at_.getD j 0) k) (blankI c)])
          rw [← hx]
          exact (hAv3.mono (fun u a => hRI _ _ u a hle6)).append (AllN.one hl6 hi6)
        by_cases c1 : at_.getD j 0 < 0
        · have hI : alongI n inner o (at_.getD j 0) k = -1 := by unfold alongI; rw [if_neg (by omega)]
          refine Zerun ?_
          (refine RW.call T hs rfl rfl rfl (refBlank08_con hR c _ _) ?_; intro v h6 w6 hle6 hp6 hs)
          obtain ⟨cs6, rfl, hi6⟩ := hp6
          have hl6 : cs6.length = 4 := by obtain ⟨_, rfl, _⟩ := hi6; rfl
          have ho6 := ItemAt.one _ _ _ hi6
          (refine RW.lit T hs (vs := [.agg cs6.toArray]) (cs := cs6) rfl rfl rfl rfl (by simp [Value.cells, hl6]) rfl (by simp [Value.cells]) rfl rfl rfl ?_; intro b7 w7 hs)
          (refine RW.append T hs 1 rfl rfl (m := 1) (news := cs6) rfl rfl rfl rfl rfl rfl (hs.src0 (by simpa using hl6) ho6) (by simp) (by dsimp only; omega) (by omega) ?_; intro ad8 cp8 w8 hs; replace hs := hs.drop)
          refine Zerun ?_
          exact loopQ_round (k + 1, m3 + 1, ad8, cp8, vs3 ++ cs6, h6) ⟨rfl, rfl, rfl, rfl, rfl, rfl, rfl, rfl, rfl, rfl, trivial⟩ ⟨by dsimp only; omega, hsl, hg3.trans hle6, done h6 cs6 _ hle6 hl6 hi6 (by rw [hI]; exact (atD_out (by omega)).symm), hs⟩ (by dsimp only; omega)
        by_cases c2 : (n : Int) ≤ at_.getD j 0
        · have hI : alongI n inner o (at_.getD j 0) k = -1 := by unfold alongI; rw [if_neg (by omega)]
          refine Zerun ?_
          (refine RW.call T hs rfl rfl rfl (refBlank08_con hR c _ _) ?_; intro v h6 w6 hle6 hp6 hs)
          obtain ⟨cs6, rfl, hi6⟩ := hp6
          have hl6 : cs6.length = 4 := by obtain ⟨_, rfl, _⟩ := hi6; rfl
          have ho6 := ItemAt.one _ _ _ hi6
          (refine RW.lit T hs (vs := [.agg cs6.toArray]) (cs := cs6) rfl rfl rfl rfl (by simp [Value.cells, hl6]) rfl (by simp [Value.cells]) rfl rfl rfl ?_; intro b7 w7 hs)
          (refine RW.append T hs 1 rfl rfl (m := 1) (news := cs6) rfl rfl rfl rfl rfl rfl (hs.src0 (by simpa using hl6) ho6) (by simp) (by dsimp only; omega) (by omega) ?_; intro ad8 cp8 w8 hs; replace hs := hs.drop)
          refine Zerun ?_
          exact loopQ_round (k + 1, m3 + 1, ad8, cp8, vs3 ++ cs6, h6) ⟨rfl, rfl, rfl, rfl, rfl, rfl, rfl, rfl, rfl, rfl, trivial⟩ ⟨by dsimp only; omega, hsl, hg3.trans hle6, done h6 cs6 _ hle6 hl6 hi6 (by rw [hI]; exact (atD_out (by omega)).symm), hs⟩ (by dsimp only; omega)
        obtain ⟨q, hq⟩ : ∃ q : Nat, at_.getD j 0 = (q : Int) := ⟨(at_.getD j 0).toNat, by omega⟩
        have hqn : q < n := by omega
        have hI : alongI n inner o (at_.getD j 0) k = (((o * n + q) * inner + k : Nat) : Int) := by unfold alongI; rw [if_pos (by omega), hq, Int.toNat_natCast]
        have hix : (o * n + q) * inner + k < l.length := by rw [hlen]; exact along_ix ho1 hqn hk1
        obtain ⟨y, hy, hyl, hRy⟩ := hA.elem _ hix
        have hoy := ItemAt.one _ _ _ hRy
        have hRy := hRI _ _ _ _ hg3 hRy
        have hb1 : o * n + q ≤ (o * n + q) * inner := Nat.le_mul_of_pos_right _ (by omega)
        refine Zerun ?_
        refine RW.val (Y.mul rfl rfl (by rw [← Int.natCast_mul]; omega)) rfl ?_
        refine RW.respell (t := 55) (v := .int .i64 ((o * n : Nat) : Int)) rfl (by rw [Int.natCast_mul]) ?_
        refine Zerun ?_
        refine RW.respell (t := 60) (v := .int .i64 ((o * n + q : Nat) : Int)) rfl (by rw [hq, Int.natCast_add]) ?_
        refine RW.val (Y.mul rfl rfl (by rw [← Int.natCast_mul]; omega)) rfl ?_
        refine RW.respell (t := 62) (v := .int .i64 (((o * n + q) * inner : Nat) : Int)) rfl (by rw [Int.natCast_mul]) ?_
        first | (refine A0 ?_; first | refine R1 rfl rfl ?_ | refine R2 rfl rfl ?_ | (refine A1 ?_; first | refine D3 rfl rfl ?_ | refine D4 rfl rfl rfl rfl ?_ | refine D5 rfl rfl rfl ?_ | refine E6 ?_ rfl rfl | refine E7 ?_ rfl rfl) | refine Zb ?_ rfl | (refine A3 ?_; first | refine R34 T hs 0 rfl rfl rfl rfl rfl rfl ?_ | refine R34 T hs 1 rfl rfl rfl rfl rfl rfl ?_ | refine Zl ?_ rfl) | refine Zi ?_ rfl | refine Zo ?_ rfl | refine A8 ?_) | (refine B0 ?_; first | refine B1 ?_ | refine B2 ?_ | refine B3 ?_ | refine B4 ?_ | refine B5 ?_ | refine B6 ?_ | refine B7 rfl ?_ | refine B8 rfl ?_ | refine E8 ?_ rfl | refine E9 ?_ rfl) | refine C1 ?_ | refine C2 ?_ | refine C3 ?_ | refine C4 ?_ | refine C5 ?_ | refine C6 ?_ | refine C7 ?_ | refine C8 ?_ | refine C9 ?_ | refine D1 rfl ?_ | refine D2 rfl ?_
        first | (refine A0 ?_; first | refine R1 rfl rfl ?_ | refine R2 rfl rfl ?_ | (refine A1 ?_; first | refine D3 rfl rfl ?_ | refine D4 rfl rfl rfl rfl ?_ | refine D5 rfl rfl rfl ?_ | refine E6 ?_ rfl rfl | refine E7 ?_ rfl rfl) | refine Zb ?_ rfl | (refine A3 ?_; first | refine R34 T hs 0 rfl rfl rfl rfl rfl rfl ?_ | refine R34 T hs 1 rfl rfl rfl rfl rfl rfl ?_ | refine Zl ?_ rfl) | refine Zi ?_ rfl | refine Zo ?_ rfl | refine A8 ?_) | (refine B0 ?_; first | refine B1 ?_ | refine B2 ?_ | refine B3 ?_ | refine B4 ?_ | refine B5 ?_ | refine B6 ?_ | refine B7 rfl ?_ | refine B8 rfl ?_ | refine E8 ?_ rfl | refine E9 ?_ rfl) | refine C1 ?_ | refine C2 ?_ | refine C3 ?_ | refine C4 ?_ | refine C5 ?_ | refine C6 ?_ | refine C7 ?_ | refine C8 ?_ | refine C9 ?_ | refine D1 rfl ?_ | refine D2 rfl ?_
        refine RW.respell (t := 64) (v := .int .i64 (((o * n + q) * inner + k : Nat) : Int)) rfl (by rw [Int.natCast_add]) ?_
        refine Zerun ?_
        (refine RW.lit T hs (vs := [.agg y.toArray]) (cs := y) rfl rfl rfl rfl (by simp [Value.cells, hyl]) rfl (by simp [Value.cells]) rfl rfl rfl ?_; intro b7 w7 hs)
        (refine RW.append T hs 1 rfl rfl (m := 1) (news := y) rfl rfl rfl rfl rfl rfl (hs.src0 (by simpa using hyl) hoy) (by simp) (by dsimp only; omega) (by omega) ?_; intro ad8 cp8 w8 hs; replace hs := hs.drop)
        refine Zerun ?_
        exact loopQ_round (k + 1, m3 + 1, ad8, cp8, vs3 ++ y, h3) ⟨rfl, rfl, rfl, rfl, rfl, rfl, rfl, rfl, rfl, rfl, trivial⟩ ⟨by dsimp only; omega, hsl, hg3, done h3 y _ (GLe.refl _) hyl hRy (by rw [hI, atD_in ⟨by omega, by omega⟩, Int.toNat_natCast]; exact getElem_getD l _ _ hix), hs⟩ (by dsimp only; omega)
      · obtain rfl : k = inner := by omega
        rw [← alO_j n k o at_ j hj1] at hml3 hAv3
        refine Zerun ?_
        exact loopQ_round (j + 1, m3, re, rf, vs3, h3) ⟨rfl, rfl, rfl, rfl, rfl, rfl, rfl, rfl, rfl, trivial⟩ ⟨by dsimp only; omega, hml3, hg3, hAv3, hs⟩ (by dsimp only; omega)
    · obtain rfl : j = at_.length := by omega
      rw [← alO_o n inner o at_] at hml2 hAv2
      refine Zerun ?_
      exact loopQ_round (o + 1, m2, rb, rd, vs2, h2) ⟨rfl, rfl, rfl, rfl, rfl, rfl, rfl, rfl, trivial⟩ ⟨by dsimp only; omega, hml2, hg2, hAv2, hs⟩ (by dsimp only; omega)
  · have hs9 := hs
    obtain rfl : o = outer := by omega
    have e : alO n inner o at_ 0 0 = alongL o n inner at_ := by unfold alO; simp
    rw [e] at hml hAv
    obtain ⟨h6, hle6, hs, hS6⟩ := hs9.freeze
    refine Zerun ?_
    exact retQ_ret [_] h6 ⟨rfl, trivial⟩ hs.dropAll ⟨ra, rc, vs, by rw [List.length_map, hml]; rfl, by rw [List.length_map, hml]; exact hS6, hAv.mono (fun u a => hRI _ _ u a hle6)⟩
end
end Go.Proofs.YtmfealaaacmohaaDoor

/-
  Contracts of functions of package bitvec: bits behind the last one away, and truths cut. No statement is proved here.
-/
namespace Go.Proofs.YtmfealaaacmohaaDoor
open Go Go.RowKit
set_option linter.unusedVariables false
set_option linter.unusedSimpArgs false
set_option maxHeartbeats 4000000
attribute [local irreducible] CW RW QW SW HW ConM retM heldQ calmQ elemP thenQ blockQ loopQ joinQ retQ Yields Con Sl zF magR unitF truncF fwF wholeF tidySpec elemQ rankF leastN tidyW
set_option maxHeartbeats 4000000

section
variable {P : Program} {n : Nat} {L : Env} {w : World} {ty : TypeId} {x y : Operand} {t yt : TypeId}
end
section
variable {P : Program} {L : Env} {w0 w : World} {h0 h : GHeap}
end
/-! ## Plain facts -/
def BitsUp (m : Nat) (ws : List Int) (g : Nat → Bool) : Prop := ws.length = m ∧ (∀ u ∈ ws, 0 ≤ u ∧ u < 18446744073709551616) ∧ ∀ i, i < m * 64 → (ws.getD (i / 64) 0).toNat.testBit (i % 64) = g i
def cutW (ws : List Int) (f i : Nat) : Nat := ((ws.getD ((f + i * 64) / 64) 0).toNat >>> ((f + i * 64) % 64)) ||| (if 0 < (f + i * 64) % 64 ∧ (f + i * 64) / 64 + 1 < ws.length then (ws.getD ((f + i * 64) / 64 + 1) 0).toNat <<< (64 - (f + i * 64) % 64) % 18446744073709551616 else 0)
theorem word_lt {ws : List Int} (h : ∀ u ∈ ws, 0 ≤ u ∧ u < 18446744073709551616) (i : Nat) : (ws.getD i 0).toNat < 18446744073709551616 := by
  by_cases c : i < ws.length
  · have := h _ (mem_getD ws i 0 c); omega
  · simp [List.getD_eq_getElem?_getD, c]
theorem shl_lt (u v : Nat) : u <<< v % 18446744073709551616 < 18446744073709551616 := Nat.mod_lt _ (by decide)
theorem cutW_lt {ws : List Int} (h : ∀ u ∈ ws, 0 ≤ u ∧ u < 18446744073709551616) (f i : Nat) : cutW ws f i < 18446744073709551616 := by
  unfold cutW
  refine Nat.or_lt_two_pow (n := 64) (Nat.lt_of_le_of_lt (Nat.shiftRight_le _ _) (word_lt h _)) ?_
  split
  · exact shl_lt _ _
  · decide
theorem cutW_bit {ws : List Int} {bs : List Bool} (hb : BitsOf ws bs) (f i j : Nat) (hj : j < 64) : (cutW ws f i).testBit j = bs.getD (f + i * 64 + j) false := by
  obtain ⟨hl, hr, hb⟩ := hb
  have h1 := hb (f + i * 64 + j)
  rw [← h1]
  unfold cutW
  rw [Nat.testBit_or, Nat.testBit_shiftRight]
  generalize hk : (f + i * 64) / 64 = k
  generalize hrr : (f + i * 64) % 64 = r
  have hat : f + i * 64 = k * 64 + r := by omega
  have hr64 : r < 64 := by omega
  by_cases c : r + j < 64
  · have e1 : (f + i * 64 + j) / 64 = k := by omega
    have e2 : (f + i * 64 + j) % 64 = r + j := by omega
    rw [e1, e2]
    have : (if 0 < r ∧ k + 1 < ws.length then (ws.getD (k + 1) 0).toNat <<< (64 - r) % 18446744073709551616 else 0).testBit j = false := by
      split
      · rw [show (18446744073709551616 : Nat) = 2 ^ 64 from rfl, Nat.testBit_mod_two_pow, Nat.testBit_shiftLeft]
        simp [show ¬ (j ≥ 64 - r) by omega]
      · simp
    rw [this, Bool.or_false]
  · have e1 : (f + i * 64 + j) / 64 = k + 1 := by omega
    have e2 : (f + i * 64 + j) % 64 = r + j - 64 := by omega
    rw [e1, e2]
    have h2 : (ws.getD k 0).toNat.testBit (r + j) = false := by
      apply Nat.testBit_lt_two_pow
      exact Nat.lt_of_lt_of_le (word_lt hr k) (Nat.pow_le_pow_right (n := 2) (by omega) (show 64 ≤ r + j by omega))
    rw [h2, Bool.false_or]
    by_cases c2 : k + 1 < ws.length
    · rw [if_pos ⟨by omega, c2⟩, show (18446744073709551616 : Nat) = 2 ^ 64 from rfl, Nat.testBit_mod_two_pow, Nat.testBit_shiftLeft]
      simp [hj, show j ≥ 64 - r by omega, show j - (64 - r) = r + j - 64 by omega]
    · rw [if_neg (by omega)]
      simp [List.getD_eq_getElem?_getD, c2]
theorem BitsUp.put {m : Nat} {ws : List Int} {bs : List Bool} {f i : Nat} {out : List Int} (hb : BitsOf ws bs) (ho : BitsUp m out (fun j => if j < i * 64 then bs.getD (f + j) false else false)) (hi : i < m) : BitsUp m (out.set i (cutW ws f i : Int)) (fun j => if j < (i + 1) * 64 then bs.getD (f + j) false else false) := by
  obtain ⟨hl, hr, hbo⟩ := ho
  refine ⟨by rw [List.length_set]; exact hl, fun u hu => ?_, fun j hj => ?_⟩
  · rcases List.mem_or_eq_of_mem_set hu with hu | hu
    · exact hr u hu
    · subst hu
      have := cutW_lt hb.2.1 f i
      omega
  · rw [getD_set _ _ _ _ _ (by omega)]
    by_cases e : j / 64 = i
    · rw [if_pos e, Int.toNat_natCast, cutW_bit hb f i _ (Nat.mod_lt _ (by omega))]
      dsimp only
      rw [if_pos (by omega)]
      congr 1
      omega
    · rw [if_neg e, hbo j hj]
      dsimp only
      by_cases c : j < i * 64
      · rw [if_pos c, if_pos (by omega)]
      · rw [if_neg c, if_neg (by omega)]
theorem BitsUp.zero (m : Nat) (g : Nat → Bool) : BitsUp m (List.replicate m 0) (fun j => if j < 0 * 64 then g j else false) := by
  refine ⟨by simp, fun u hu => ?_, fun j hj => ?_⟩
  · rw [List.eq_of_mem_replicate hu]; omega
  · dsimp only
    rw [if_neg (by omega)]
    have : (List.replicate m (0 : Int)).getD (j / 64) 0 = 0 := by
      rw [List.getD_eq_getElem?_getD, List.getElem?_replicate]
      split <;> rfl
    rw [this]; simp
end Go.Proofs.YtmfealaaacmohaaDoor

/-
  Contracts of functions of packages flat and bitvec: elements cut, truths one by one. No statement is proved here.
-/
namespace Go.Proofs.YtmfealaaacmohaaDoor
open Go Go.RowKit
set_option linter.unusedVariables false
set_option linter.unusedSimpArgs false
set_option maxHeartbeats 4000000
attribute [local irreducible] CW RW QW SW HW ConM retM heldQ calmQ elemP thenQ blockQ loopQ joinQ retQ Yields Con Sl zF magR unitF truncF fwF wholeF tidySpec elemQ rankF leastN tidyW
set_option maxHeartbeats 4000000

section
variable {α : Type} {R : GHeap → List Value → α → Prop}
end
end Go.Proofs.YtmfealaaacmohaaDoor

/-
  Contracts of functions of package flat: lists of a class behind each other. No statement is proved here.
-/
namespace Go.Proofs.YtmfealaaacmohaaDoor
open Go Go.RowKit
set_option linter.unusedVariables false
set_option linter.unusedSimpArgs false
set_option maxHeartbeats 4000000
attribute [local irreducible] CW RW QW SW HW ConM retM heldQ calmQ elemP thenQ blockQ loopQ joinQ retQ Yields Con Sl zF magR unitF truncF fwF wholeF tidySpec elemQ rankF leastN tidyW
set_option maxHeartbeats 4000000

section
variable {α : Type} {R : GHeap → List Value → α → Prop}
theorem AllN.ones {δ : Type} {sz : Nat} {S : List Value → δ → Prop} (hc : ∀ cs a, S cs a → ∀ u ∈ cs, u.oneCell' = true) : ∀ {l : List δ} {xs : List Value}, AllN sz S xs l → ∀ u ∈ xs, u.oneCell' = true
  | [], xs, hx, u, hu => by have : xs = [] := hx; rw [this] at hu; cases hu
  | a :: l, xs, hx, u, hu => by
    rw [← List.take_append_drop sz xs, List.mem_append] at hu
    rcases hu with hu | hu
    · exact hc _ a hx.2.1 u hu
    · exact AllN.ones hc hx.2.2 u hu
end
end Go.Proofs.YtmfealaaacmohaaDoor

/-
  Contracts of functions of package flat: lists behind each other. No statement is proved here.
-/
namespace Go.Proofs.YtmfealaaacmohaaDoor
open Go Go.RowKit
set_option linter.unusedVariables false
set_option linter.unusedSimpArgs false
set_option maxHeartbeats 4000000
attribute [local irreducible] CW RW QW SW HW ConM retM heldQ calmQ elemP thenQ blockQ loopQ joinQ retQ Yields Con Sl zF magR unitF truncF fwF wholeF tidySpec elemQ rankF leastN tidyW
set_option maxHeartbeats 4000000

section
variable {α : Type} {R : GHeap → List Value → α → Prop}
structure JF (c kd : Int) (m : List (VecD α)) : Prop where
  rng : c = -1 ∨ c = 0 ∨ c = 1 ∨ c = 2
  kd1 : 1 ≤ kd ∧ kd ≤ 6
  all : ∀ v ∈ m, v.len ≠ 0 → v.cls = c ∧ v.kind ≤ kd
theorem JF.skip {c kd : Int} {m : List (VecD α)} {v : VecD α} (hF : JF c kd m) (h0 : v.len = 0) : JF c kd (m ++ [v]) := by
  refine ⟨hF.rng, hF.kd1, fun u hu hn => ?_⟩
  rcases List.mem_append.1 hu with hu | hu
  · exact hF.all u hu hn
  · rw [List.mem_singleton.1 hu] at hn; exact absurd h0 hn
theorem JF.step {c kd : Int} {m : List (VecD α)} {v : VecD α} (hF : JF c kd m) (_h0 : ¬ v.len = 0) (hc : c = v.cls ∨ ∀ u ∈ m, u.len = 0) (hcl : v.cls = 0 ∨ v.cls = 1 ∨ v.cls = 2) (hkr : 0 ≤ v.kind ∧ v.kind ≤ 6) : JF v.cls (max kd v.kind) (m ++ [v]) := by
  refine ⟨by omega, by have := hF.kd1; omega, fun u hu hn => ?_⟩
  rcases List.mem_append.1 hu with hu | hu
  · rcases hc with e | e
    · have := hF.all u hu hn; exact ⟨by omega, by omega⟩
    · exact absurd (e u hu) hn
  · rw [List.mem_singleton.1 hu]; exact ⟨rfl, by omega⟩
end
end Go.Proofs.YtmfealaaacmohaaDoor

/-
  Contracts of the document's answer of layer 8: items again and again, turned, behind each other; a number brought between two. No statement is proved here.
-/
namespace Go.Proofs.YtmfealaaacmohaaDoor
open Go Go.RowKit
set_option linter.unusedVariables false
set_option linter.unusedSimpArgs false
set_option maxHeartbeats 4000000
attribute [local irreducible] CW RW QW SW HW ConM retM heldQ calmQ elemP thenQ blockQ loopQ joinQ retQ Yields Con Sl zF magR unitF truncF fwF wholeF tidySpec elemQ rankF leastN tidyW
set_option maxHeartbeats 4000000

section
variable {γ : Type} {RC : GHeap → List Value → γ → Prop}
end
section
variable {β : Type} {R : GHeap → List Value → β → Prop}
end
section
variable {γ : Type} {RC : GHeap → List Value → γ → Prop}
end
end Go.Proofs.YtmfealaaacmohaaDoor

/-
  Contracts of the document's answer and of the laws: how many items a good plain array has. No statement is proved here.
-/
namespace Go.Proofs.YtmfealaaacmohaaDoor
open Go Go.RowKit
set_option linter.unusedVariables false
set_option linter.unusedSimpArgs false
set_option maxHeartbeats 4000000
attribute [local irreducible] CW RW QW SW HW ConM retM heldQ calmQ elemP thenQ blockQ loopQ joinQ retQ Yields Con Sl zF magR unitF truncF fwF wholeF tidySpec elemQ rankF leastN tidyW
set_option maxHeartbeats 4000000

section
variable {α : Type} {R : GHeap → List Value → α → Prop}
theorem refCountB_step (hR : Mono R) (most : Int) (ih : ∀ cs a w h, R h cs a → Con Tryd.prog 36 [.agg cs.toArray, .int .i64 most] w h (fun _ u => ∃ r, u = .int .i64 r))
    (cs : List Value) (p : PlainD α) (w : World) (h : GHeap) (hp : PlainR R h cs p) : Con Tryd.prog 36 [.agg cs.toArray, .int .i64 most] w h (fun _ u => ∃ r, u = .int .i64 r ∧ (p.shape.length ≤ 8 → p.items.length ≤ 1048576 → r ≤ most → (p.items.length : Int) + p.shape.length + 1 ≤ most)) := by
  obtain ⟨s, it, rfl, ⟨ad, cp, rfl, hS⟩, ⟨ad2, cp2, xs, rfl, hS2, hA⟩⟩ := hp
  have hlen : p.items.length ≤ 9223372036854775807 := by have := hS2.caps; omega
  refine Con.of_body Tryd.func36 rfl Tryd.ntmps36 rfl rfl ?_
  intro hs
  refine Zrun ?_
  (refine RW.boxN hs rfl rfl ?_; intro b1 w1 hs)
  refine Zerun ?_
  refine RW.val (Y.add' rfl rfl) rfl ?_
  refine RW.val (Y.add' rfl rfl) rfl ?_
  have hr0' : p.shape.length ≤ 8 → p.items.length ≤ 1048576 → IntKind.i64.wrap (IntKind.i64.wrap ((p.items.length : Int) + p.shape.length) + 1) = (p.items.length : Int) + p.shape.length + 1 := by
    intro h1 h2
    have e1 : IntKind.i64.wrap ((p.items.length : Int) + p.shape.length) = (p.items.length : Int) + p.shape.length := wrap64 (by omega)
    rw [e1, wrap64 (by omega)]
  generalize IntKind.i64.wrap (IntKind.i64.wrap _ + 1) = r0 at hr0' ⊢
  refine Zerun ?_
  refine CW.loop (fun q : Nat × Int × GHeap => [(1, .int .i64 most), (2, .pointer (some ⟨b1, 0, none⟩)), (5, .int .i64 q.2.1), (6, .int .i64 q.1)]) (fun q w' => q.1 ≤ p.items.length ∧ GLe h q.2.2 ∧ (most < r0 → q.2.1 = r0) ∧ Sees w h q.2.2 [⟨some ⟨b1, 0, none⟩, 1, 1, 68, 3, [.slice ad p.shape.length cp, .slice ad2 p.items.length cp2, .int .i64 p.fill]⟩] w') (fun q => p.items.length - q.1) (0, r0, h) ⟨rfl, rfl, rfl, rfl, trivial⟩ ⟨by omega, GLe.refl _, fun _ => rfl, hs⟩ ?_
  rintro ⟨i, r, hh⟩ w2 ⟨hi, hg, hr, hs⟩
  dsimp only at hi hg hr hs ⊢
  have hS2 := hS2.mono hg
  by_cases hlt : i < p.items.length
  · obtain ⟨bx, hx4, hx1, ⟨ad3, cp3, ys, rfl, hS3, hA3⟩, hx2, hq0, hq1, hq2, hq3⟩ := ItemAt.cells hA i hlt
    have hS3 := hS3.mono hg
    generalize p.items.getD i noItem = x at *
    by_cases hle : r ≤ most
    · refine Zerun ?_
      refine CW.loop (fun q : Nat × Int × GHeap => [(1, .int .i64 most), (2, .pointer (some ⟨b1, 0, none⟩)), (5, .int .i64 q.2.1), (6, .int .i64 i), (7, .int .i64 q.1)]) (fun q w' => q.1 ≤ x.box.length ∧ GLe hh q.2.2 ∧ Sees w h q.2.2 [⟨some ⟨b1, 0, none⟩, 1, 1, 68, 3, [.slice ad p.shape.length cp, .slice ad2 p.items.length cp2, .int .i64 p.fill]⟩] w') (fun q => x.box.length - q.1) (0, r, hh) ⟨rfl, rfl, rfl, rfl, rfl, trivial⟩ ⟨by omega, GLe.refl _, hs⟩ ?_
      rintro ⟨j, r2, h3⟩ w3 ⟨hj, hg3, hs⟩
      dsimp only at hj hg3 hs ⊢
      have hS2 := hS2.mono hg3
      have hS3 := hS3.mono hg3
      have hbl : x.box.length ≤ 9223372036854775807 := by have := hS3.caps; omega
      by_cases hlt3 : j < x.box.length
      · by_cases hle3 : r2 ≤ most
        · obtain ⟨y, hy, hR3, hR3l⟩ : ∃ y, (ys.drop (j * 3)).take 3 = y ∧ (∃ a, R h y a) ∧ y.length = 3 := by
            obtain ⟨h1, h2⟩ := hA3.get (x.box[j]) j hlt3
            exact ⟨_, rfl, ⟨_, h1⟩, h2⟩
          obtain ⟨a, hRa⟩ := hR3
          have hRa := hR _ _ _ _ (hg.trans hg3) hRa
          refine Zerun ?_
          (refine RW.call T hs rfl rfl rfl (ih _ a _ _ hRa) ?_; intro v h4 w4 hle4 hp4 hs)
          obtain ⟨r4, rfl⟩ := hp4
          refine RW.val (Y.add' rfl rfl) rfl ?_
          generalize IntKind.i64.wrap (r2 + r4) = r5
          refine Zerun ?_
          exact loopQ_round (j + 1, r5, h4) ⟨rfl, rfl, rfl, rfl, rfl, trivial⟩ ⟨by dsimp only; omega, hg3.trans hle4, hs⟩ (by dsimp only; omega)
        · refine Zerun ?_
          exact loopQ_round (i + 1, r2, h3) ⟨rfl, rfl, rfl, rfl, trivial⟩ ⟨by dsimp only; omega, hg.trans hg3, fun e => by have := hr e; omega, hs⟩ (by dsimp only; omega)
      · refine Zerun ?_
        exact loopQ_round (i + 1, r2, h3) ⟨rfl, rfl, rfl, rfl, trivial⟩ ⟨by dsimp only; omega, hg.trans hg3, fun e => by have := hr e; omega, hs⟩ (by dsimp only; omega)
    · refine Zerun ?_
      exact retQ_ret [_] hh ⟨rfl, trivial⟩ hs.dropAll ⟨_, rfl, fun h1 h2 h3 => by have e := hr0' h1 h2; by_cases c : most < r0; have := hr c; omega; omega⟩
  · refine Zerun ?_
    exact retQ_ret [_] hh ⟨rfl, trivial⟩ hs.dropAll ⟨_, rfl, fun h1 h2 h3 => by have e := hr0' h1 h2; by_cases c : most < r0; have := hr c; omega; omega⟩
end
theorem refCountB_con (most : Int) (k : Nat) (cs : List Value) (p : PD (k + 1)) (w : World) (h : GHeap) (hp : PlainAt (k + 1) h cs p) : Con Tryd.prog 36 [.agg cs.toArray, .int .i64 most] w h (fun _ u => ∃ r, u = .int .i64 r ∧ (chk (k + 1) 40 p = 0 → r ≤ most → (PlainD.items (α := PD k) p).length ≤ most)) := by
  have := refCountB_step (PlainAt.mono k) most (refCount_con most k) cs p w h hp
  refine this.mono ?_
  rintro h' u _ ⟨r, rfl, hr⟩
  refine ⟨r, rfl, fun hc hle => ?_⟩
  obtain ⟨_, _, _, hpr, hok⟩ := (chkP_ok (α := PD k) _ _ _).1 hc
  have h1 : (PlainD.shape (α := PD k) p).length ≤ 8 := by
    by_cases c : 8 < (PlainD.shape (α := PD k) p).length
    · unfold product at hpr
      rw [if_pos c] at hpr
      exact absurd (congrArg Prod.snd hpr) (show (26 : Int) ≠ 0 by decide)
    · omega
  have h2 := (good_sml (k + 1) 40 _ (good_arr (k + 1) 40 p hc)).2.1
  have h3 : (ArrD.vec (α := AD k) (arr (k + 1) p)).len = (PlainD.items (α := PD k) p).length := len_arrV (arr k) _ _ _ hok
  have := hr h1 (by omega) hle
  omega
end Go.Proofs.YtmfealaaacmohaaDoor

/-
  Plain facts on lists of elements picked, cut, turned and put behind each other, and what they show. No statement is proved here.
-/
namespace Go.Proofs.YtmfealaaacmohaaDoor
open Go Go.RowKit
set_option linter.unusedVariables false
set_option linter.unusedSimpArgs false
set_option maxHeartbeats 4000000
attribute [local irreducible] CW RW QW SW HW ConM retM heldQ calmQ elemP thenQ blockQ loopQ joinQ retQ Yields Con Sl zF magR unitF truncF fwF wholeF tidySpec elemQ rankF leastN tidyW
set_option maxHeartbeats 4000000

structure Shown (k : Nat) (v : VecD (AD k)) (l : List (ItemD (PD k))) (c : Int) : Prop where
  hc : v.cls = c
  k0 : v.kind ≠ 0
  kl : v.kind = v.least
  vm : v.len ≤ 1048576
  sm : ∀ b ∈ v.boxes, sml k b
  he : itemsV (plain k) v = l
  td : ∀ x ∈ l, tdyIt (tdy k) x
theorem shown_of (k : Nat) (p : PD (k + 2)) (h : GHeap) (cs : List Value) (hp : PlainAt (k + 2) h cs p) (hc : chk (k + 2) 40 p = 0) : Shown (k + 1) (ArrD.vec (α := AD (k + 1)) (arr (k + 2) p)) (PlainD.items (α := PD (k + 1)) (tidy (k + 2) p)) (PlainD.fill (α := PD (k + 1)) p) := by
  have hgood := good_arr (k + 2) 40 p hc
  have hsml := good_sml (k + 2) 40 _ hgood
  refine ⟨?_, hgood.2.1, hgood.2.2.1, hsml.2.1, hsml.2.2, congrArg (PlainD.items (α := PD (k + 1))) (plain_arr (k + 2) 40 p hc), tidy_tdy (k + 2) 40 p _ _ hp hc⟩
  obtain ⟨_, h2, h3, _, _⟩ := (chkP_ok (α := PD (k + 1)) _ _ _).1 hc
  exact cls_arrV (arr (k + 1)) _ _ h2 h3
theorem Shown.pick {k : Nat} {v : VecD (AD (k + 1))} {L : List (ItemD (PD (k + 1)))} {c : Int} (H : Shown (k + 1) v L c) (at_ : List Int) (hm : at_.length ≤ 1048576) : Shown (k + 1) (v.pick at_ (blankA k)) (at_.map fun i => atD L i (blankI c : ItemD (PlainD (PD k)))) c := by
  have hpf := pick_facts v at_ (blankA k)
  refine ⟨by rw [pick_cls, H.hc], hpf.1, hpf.2.1, by rw [hpf.2.2.1]; exact hm, ?_, pick_items' (β := PD k) (plain (k + 1)) _ at_ (blankA k) _ _ H.he H.hc rfl, ?_⟩
  · intro b hb
    rcases hpf.2.2.2 b hb with e | e
    · exact H.sm b e
    · rw [e]; exact blankA_sml k
  · intro x hx
    obtain ⟨i, _, rfl⟩ := List.mem_map.1 hx
    rcases atD_mem L i (blankI c : ItemD (PlainD (PD k))) with e | e
    · exact H.td _ e
    · rw [e]; exact blankI_tdy k _
section
variable {α β : Type}
theorem len0 {v : VecD α} (h : v.len = 0) : v.nums = [] ∧ v.chars = [] ∧ v.boxes = [] := by
  unfold VecD.len at h
  exact ⟨List.eq_nil_of_length_eq_zero (by omega), List.eq_nil_of_length_eq_zero (by omega), List.eq_nil_of_length_eq_zero (by omega)⟩
end
end Go.Proofs.YtmfealaaacmohaaDoor

/-
  Contracts of the law's own functions of layer 8: elements cut, repeated and turned. No statement is proved here.
-/
namespace Go.Proofs.YtmfealaaacmohaaDoor
open Go Go.RowKit
set_option linter.unusedVariables false
set_option linter.unusedSimpArgs false
set_option maxHeartbeats 4000000
attribute [local irreducible] CW RW QW SW HW ConM retM heldQ calmQ elemP thenQ blockQ loopQ joinQ retQ Yields Con Sl zF magR unitF truncF fwF wholeF tidySpec elemQ rankF leastN tidyW
set_option maxHeartbeats 8000000

theorem AllN.drop {α : Type} {sz : Nat} {R : List Value → α → Prop} : ∀ (j : Nat) {xs : List Value} {l : List α}, AllN sz R xs l → AllN sz R (xs.drop (j * sz)) (l.drop j)
  | 0, xs, l, h => by simpa using h
  | j + 1, xs, [], h => by have : xs = [] := h; rw [this]; simp; rfl
  | j + 1, xs, a :: l, h => by
    have := AllN.drop j h.2.2
    rw [List.drop_drop] at this
    rw [List.drop_succ_cons, Nat.add_mul, Nat.one_mul, Nat.add_comm]
    exact this
theorem AllN.take {α : Type} {sz : Nat} {R : List Value → α → Prop} : ∀ (j : Nat) {xs : List Value} {l : List α}, AllN sz R xs l → AllN sz R (xs.take (j * sz)) (l.take j)
  | 0, xs, l, h => by simp; rfl
  | j + 1, xs, [], h => by have : xs = [] := h; rw [this]; simp; rfl
  | j + 1, xs, a :: l, h => by
    have h2 := AllN.take j h.2.2
    have h1 := h.1
    have e : (xs.take ((j + 1) * sz)).take sz = xs.take sz := by rw [List.take_take, Nat.add_mul, Nat.one_mul, Nat.min_eq_left (by omega)]
    refine ⟨by rw [e]; exact h1, by rw [e]; exact h.2.1, ?_⟩
    rw [List.drop_take, Nat.add_mul, Nat.one_mul, Nat.add_sub_cancel]
    exact h2
theorem RowsAt.sub {α : Type} {sz : Nat} {R : List Value → α → Prop} {h : GHeap} {ad : Option Addr} {n cp x y : Nat} {l : List α} (hl : RowsAt sz R h (.slice ad n cp) l) (hx : x ≤ y) (hy : y ≤ l.length) : RowsAt sz R h (.slice (subAd ad x cp sz) (y - x) (cp - x)) ((l.drop x).take (y - x)) := by
  obtain ⟨ad', cp', xs, e, hS, hA⟩ := hl
  cases e
  have h1 := (hS.from x (by omega)).take (y - x) (by omega)
  have hlen : ((l.drop x).take (y - x)).length = y - x := by simp; omega
  refine ⟨_, _, _, by rw [hlen], by rw [hlen]; exact h1, ?_⟩
  exact (hA.drop x).take (y - x)
end Go.Proofs.YtmfealaaacmohaaDoor

/-
  Contract of the law's own function of layer 15: elements picked along an axis. No statement is proved here.
-/
namespace Go.Proofs.YtmfealaaacmohaaDoor
open Go Go.RowKit
set_option linter.unusedVariables false
set_option linter.unusedSimpArgs false
set_option maxHeartbeats 4000000
attribute [local irreducible] CW RW QW SW HW ConM retM heldQ calmQ elemP thenQ blockQ loopQ joinQ retQ Yields Con Sl zF magR unitF truncF fwF wholeF tidySpec elemQ rankF leastN tidyW
set_option maxHeartbeats 4000000

section
variable {P : Program} {n : Nat} {L : Env} {w : World} {ty : TypeId} {x y : Operand} {t yt : TypeId}
theorem Y.gtT {k : IntKind} {u v : Int} (hx : opv L x = some (.int k u)) (hy : opv L y = some (.int k v)) (hh : v < u) : Yields P n L w (.binOp .gtr t x y yt) ty (.bool true) := by
  have := Y.gtr (P := P) (n := n) (w := w) (ty := ty) (t := t) (yt := yt) hx hy
  rwa [decide_eq_true hh] at this
theorem Y.mulN {a b : Nat} (hx : opv L x = some (.int .i64 (a : Int))) (hy : opv L y = some (.int .i64 (b : Int))) {z : Nat} (hz : a * b = z) (hh : a * b ≤ 1048576) : Yields P n L w (.binOp .mul t x y yt) ty (.int .i64 (z : Int)) := by
  subst hz
  have e : (a : Int) * (b : Int) = ((a * b : Nat) : Int) := (Int.natCast_mul a b).symm
  have := Y.mul (P := P) (n := n) (w := w) (ty := ty) (t := t) (yt := yt) hx hy (by rw [e]; omega)
  rwa [e] at this
theorem Y.sliceHiN (T : Tab P) {e : TypeId} {i : Inf} {ad : Option Addr} {m cp u : Nat} {hi : Operand} (hT : T.ty t = some (.slice e)) (hI : T.inf e = some i) (hx : opv L x = some (.slice ad m cp)) (hh : opv L hi = some (.int .i64 (u : Int))) (h0' : u ≤ cp) :
    Yields P n L w (.slice t x none (some hi) none) ty (.slice ad u cp) := by
  have := Y.sliceHi T (P := P) (n := n) (w := w) (ty := ty) hT hI hx hh ⟨by omega, by omega⟩
  exact this
end
theorem pickAlongLaw_con (k : Nat) (cp0 : List Value) (p : PD (k + 2)) (outer inner : Int) (v3 : Value) (at_ : List Int) (w : World) (h : GHeap) (hT : TzTab h) (hp : PlainAt (k + 2) h cp0 p) (ha : IntsAt h v3 at_) : Con Tryd.prog 9 [.agg cp0.toArray, .int .i64 outer, .int .i64 inner, v3] w h (fun _ u => u = .bool true) := by
  have hp' := hp
  have hp0 := hp
  obtain ⟨s, it, rfl, ⟨ad, cp, rfl, _⟩, ⟨ad2, cp2, xs, rfl, hS2, hA2⟩⟩ := hp
  obtain ⟨ad3, cp3, rfl, hS3⟩ := id ha
  have hcap2 := hS2.caps
  have hcap3 := hS3.caps
  refine Con.of_body Tryd.func9 rfl Tryd.ntmps9 rfl rfl ?_
  intro hs
  refine Zrun ?_
  (refine RW.boxN hs rfl rfl ?_; intro b1 w1 hs)
  refine Zerun ?_
  (refine RW.call T hs rfl rfl rfl (refCountB_con 3000 (k + 1) _ p _ _ hp') ?_; intro v h2 w2 hle2 hp2 hs)
  obtain ⟨r, rfl, hr⟩ := hp2
  have hT := hT.mono hle2
  have hp' := PlainAt.mono (k + 2) _ _ _ _ hle2 hp'
  by_cases g1 : 1000 < r
  · refine Zerun ?_
    (refine RW.call T hs rfl rfl rfl (awake15_con _ _ hT) ?_; intro v h4 w4 hle4 hp4 hs)
    subst hp4
    refine Zerun ?_
    exact retQ_ret [_] h4 ⟨rfl, trivial⟩ hs.dropAll rfl
  refine Zerun ?_
  (refine RW.call T hs rfl rfl rfl (refCheck_con (k + 2) _ p _ _ hp') ?_; intro v h3 w3 hle3 hp3 hs)
  subst hp3
  have hT := hT.mono hle3
  have hp' := PlainAt.mono (k + 2) _ _ _ _ hle3 hp'
  by_cases hcp : chk (k + 2) 40 p = 0
  rotate_left
  · refine Zerun ?_
    (refine RW.call T hs rfl rfl rfl (awake15_con _ _ hT) ?_; intro v h4 w4 hle4 hp4 hs)
    subst hp4
    refine Zerun ?_
    exact retQ_ret [_] h4 ⟨rfl, trivial⟩ hs.dropAll rfl
  have hcn := hr hcp (by omega)
  by_cases g2 : 60 < at_.length
  · refine Zerun ?_
    (refine RW.call T hs rfl rfl rfl (awake15_con _ _ hT) ?_; intro v h4 w4 hle4 hp4 hs)
    subst hp4
    refine Zerun ?_
    exact retQ_ret [_] h4 ⟨rfl, trivial⟩ hs.dropAll rfl
  by_cases g3 : outer < 1
  · refine Zerun ?_
    (refine RW.call T hs rfl rfl rfl (awake15_con _ _ hT) ?_; intro v h4 w4 hle4 hp4 hs)
    subst hp4
    refine Zerun ?_
    exact retQ_ret [_] h4 ⟨rfl, trivial⟩ hs.dropAll rfl
  by_cases g4 : inner < 1
  · refine Zerun ?_
    (refine RW.call T hs rfl rfl rfl (awake15_con _ _ hT) ?_; intro v h4 w4 hle4 hp4 hs)
    subst hp4
    refine Zerun ?_
    exact retQ_ret [_] h4 ⟨rfl, trivial⟩ hs.dropAll rfl
  by_cases g5 : 60 < outer
  · refine Zerun ?_
    (refine RW.call T hs rfl rfl rfl (awake15_con _ _ hT) ?_; intro v h4 w4 hle4 hp4 hs)
    subst hp4
    refine Zerun ?_
    exact retQ_ret [_] h4 ⟨rfl, trivial⟩ hs.dropAll rfl
  by_cases g6 : 60 < inner
  · refine Zerun ?_
    (refine RW.call T hs rfl rfl rfl (awake15_con _ _ hT) ?_; intro v h4 w4 hle4 hp4 hs)
    subst hp4
    refine Zerun ?_
    exact retQ_ret [_] h4 ⟨rfl, trivial⟩ hs.dropAll rfl
  obtain ⟨outer, rfl⟩ : ∃ z : Nat, outer = (z : Int) := ⟨outer.toNat, by omega⟩
  obtain ⟨inner, rfl⟩ : ∃ z : Nat, inner = (z : Int) := ⟨inner.toNat, by omega⟩
  have hg5 : GLe h h3 := hle2.trans hle3
  obtain ⟨hd, h0, h2c, hpr, hit⟩ := (chkP_ok (α := PD (k + 1)) _ _ _).1 hcp
  refine Zerun ?_
  obtain ⟨len, hlen⟩ : ∃ z, (PlainD.items (α := PD (k + 1)) p).length = z := ⟨_, rfl⟩
  obtain ⟨lo, hlo'⟩ : ∃ z, len / outer = z := ⟨_, rfl⟩
  obtain ⟨nn, hnn⟩ : ∃ z, lo / inner = z := ⟨_, rfl⟩
  have hm2' : nn * outer * inner ≤ len := by
    have a1 : nn * inner ≤ lo := by rw [← hnn]; exact Nat.div_mul_le_self _ _
    have a2 : lo * outer ≤ len := by rw [← hlo']; exact Nat.div_mul_le_self _ _
    have a3 : nn * inner * outer ≤ lo * outer := Nat.mul_le_mul_right outer a1
    rw [Nat.mul_assoc, Nat.mul_comm outer inner, ← Nat.mul_assoc]
    omega
  have hm2 : nn * outer * inner ≤ 1048576 := by omega
  have hm1' : nn * outer ≤ nn * outer * inner := Nat.le_mul_of_pos_right _ (by omega)
  have hm1 : nn * outer ≤ 1048576 := by omega
  have hn1 : nn ≤ nn * outer := Nat.le_mul_of_pos_right _ (by omega)
  have hlm2 : outer * (at_.length * inner) ≤ 1048576 := by
    have e1 : at_.length * inner ≤ 60 * 60 := Nat.mul_le_mul (by omega) (by omega)
    have e2 : outer * (at_.length * inner) ≤ 60 * (60 * 60) := Nat.mul_le_mul (by omega) e1
    omega
  have hmm : nn * outer * inner = outer * nn * inner := by rw [Nat.mul_comm nn outer]
  obtain ⟨m, hme⟩ : ∃ z, nn * outer * inner = z := ⟨_, rfl⟩
  have hmc : m ≤ cp2 := by omega
  rw [hlen]
  refine RW.respell (t := 47) (v := .int .i64 (lo : Int)) rfl (by rw [← hlo', Int.natCast_ediv]) ?_
  have hlo : lo ≤ len := by rw [← hlo']; exact Nat.div_le_self _ _
  refine RW.val (Y.quo rfl rfl (by omega) ⟨by omega, by omega⟩) rfl ?_
  refine RW.respell (t := 49) (v := .int .i64 (nn : Int)) rfl (by rw [← Int.natCast_ediv, hnn]) ?_
  refine Zerun ?_
  rw [← hlen] at hm2'
  refine CW.meet (fun r : Nat × Nat × GHeap => [(1, .int .i64 (outer : Int)), (2, .int .i64 (inner : Int)), (3, .slice ad3 at_.length cp3), (4, .pointer (some ⟨b1, 0, none⟩)), (9, .int .i64 (nn : Int)), (10, .pointer (some ⟨r.1, 0, none⟩))]) (fun r w' => GLe h3 r.2.2 ∧ IntsAt r.2.2 (.slice (some ⟨r.2.1, 0, none⟩) 1 1) [(m : Int)] ∧ Sees w h r.2.2 [⟨some ⟨r.1, 0, none⟩, 1, 1, 68, 3, [.slice (some ⟨r.2.1, 0, none⟩) 1 1, .slice ad2 m cp2, .int .i64 (PlainD.fill (α := PD (k + 1)) p)]⟩, ⟨some ⟨b1, 0, none⟩, 1, 1, 68, 3, [.slice ad (PlainD.shape (α := PD (k + 1)) p).length cp, .slice ad2 (PlainD.items (α := PD (k + 1)) p).length cp2, .int .i64 (PlainD.fill (α := PD (k + 1)) p)]⟩] w') ?_ ?_
  · refine CW.regionR T 0 0 hs rfl rfl ?_
    intro w4 hs
    refine HW.takeR (fuel := 18) 0 rfl (fun _ _ ka kb _ hs hka hkb => Y.move rfl) ⟨_, _, 0, 0, hs, rfl, rfl⟩ rfl (by kernel_rfl) (by kernel_rfl) (by kernel_rfl) ?_
    refine HW.takeR (fuel := 17) 1 rfl (fun _ _ ka kb _ hs hka hkb => Y.move rfl) ⟨_, _, 0, 0, hs, rfl, rfl⟩ rfl (by kernel_rfl) (by kernel_rfl) (by kernel_rfl) ?_
    refine HW.takeR (fuel := 16) 2 rfl (fun _ _ ka kb _ hs hka hkb => Y.mulN rfl rfl rfl hm1) ⟨_, _, 0, 0, hs, rfl, rfl⟩ rfl (by kernel_rfl) (by kernel_rfl) (by kernel_rfl) ?_
    refine HW.takeR (fuel := 15) 3 rfl (fun _ _ ka kb _ hs hka hkb => Y.move rfl) ⟨_, _, 0, 0, hs, rfl, rfl⟩ rfl (by kernel_rfl) (by kernel_rfl) (by kernel_rfl) ?_
    refine HW.takeR (fuel := 14) 4 rfl (fun _ _ ka kb _ hs hka hkb => Y.mulN rfl rfl hme hm2) ⟨_, _, 0, 0, hs, rfl, rfl⟩ rfl (by kernel_rfl) (by kernel_rfl) (by kernel_rfl) ?_
    refine HW.takeR (fuel := 13) 6 rfl (fun _ _ ka kb _ hs hka hkb => Y.fieldAddr T rfl rfl rfl rfl rfl) ⟨_, _, 0, 0, hs, rfl, rfl⟩ rfl (by kernel_rfl) (by kernel_rfl) (by kernel_rfl) ?_
    refine HW.takeR (fuel := 12) 7 rfl (fun _ _ ka kb _ hs hka hkb => Y.loadRow1 T hs ka hka rfl rfl rfl rfl) ⟨_, _, 0, 0, hs, rfl, rfl⟩ rfl (by kernel_rfl) (by kernel_rfl) (by kernel_rfl) ?_
    refine HW.takeR (fuel := 11) 8 rfl (fun _ _ ka kb _ hs hka hkb => Y.move rfl) ⟨_, _, 0, 0, hs, rfl, rfl⟩ rfl (by kernel_rfl) (by kernel_rfl) (by kernel_rfl) ?_
    refine HW.takeR (fuel := 10) 9 rfl (fun _ _ ka kb _ hs hka hkb => Y.move rfl) ⟨_, _, 0, 0, hs, rfl, rfl⟩ rfl (by kernel_rfl) (by kernel_rfl) (by kernel_rfl) ?_
    refine HW.takeR (fuel := 9) 10 rfl (fun _ _ ka kb _ hs hka hkb => Y.mulN rfl rfl rfl hm1) ⟨_, _, 0, 0, hs, rfl, rfl⟩ rfl (by kernel_rfl) (by kernel_rfl) (by kernel_rfl) ?_
    refine HW.takeR (fuel := 8) 11 rfl (fun _ _ ka kb _ hs hka hkb => Y.move rfl) ⟨_, _, 0, 0, hs, rfl, rfl⟩ rfl (by kernel_rfl) (by kernel_rfl) (by kernel_rfl) ?_
    refine HW.takeR (fuel := 7) 12 rfl (fun _ _ ka kb _ hs hka hkb => Y.mulN rfl rfl hme hm2) ⟨_, _, 0, 0, hs, rfl, rfl⟩ rfl (by kernel_rfl) (by kernel_rfl) (by kernel_rfl) ?_
    refine HW.takeR (fuel := 6) 13 rfl (fun _ _ ka kb _ hs hka hkb => Y.sliceHiN T rfl rfl rfl rfl hmc) ⟨_, _, 0, 0, hs, rfl, rfl⟩ rfl (by kernel_rfl) (by kernel_rfl) (by kernel_rfl) ?_
    refine HW.takeR (fuel := 5) 14 rfl (fun _ _ ka kb _ hs hka hkb => Y.fieldAddr T rfl rfl rfl rfl rfl) ⟨_, _, 0, 0, hs, rfl, rfl⟩ rfl (by kernel_rfl) (by kernel_rfl) (by kernel_rfl) ?_
    refine HW.takeR (fuel := 4) 15 rfl (fun _ _ ka kb _ hs hka hkb => Y.loadRow1 T hs ka hka rfl rfl rfl rfl) ⟨_, _, 0, 0, hs, rfl, rfl⟩ rfl (by kernel_rfl) (by kernel_rfl) (by kernel_rfl) ?_
    refine HW.two (fuel := 3) 5 17 rfl rfl (by kernel_rfl) ?_ ?_
    · (refine RW.lit T hs (vs := [.int .i64 (m : Int)]) (cs := [.int .i64 (m : Int)]) rfl rfl rfl rfl (by simp [Value.cells]) rfl rfl rfl rfl rfl ?_; intro b55 w55 hs)
      obtain ⟨h55, hle55, hs, hS55⟩ := hs.freeze
      refine RW.nil ?_
      refine heldQ_normal ⟨_, _, 0, 0, hs, rfl, rfl⟩ ?_
      refine HW.takeR (fuel := 2) 16 rfl (fun _ _ ka kb _ hs hka hkb => Y.build T rfl rfl rfl rfl rfl rfl rfl) ⟨_, _, 0, 0, hs, rfl, rfl⟩ rfl (by kernel_rfl) (by kernel_rfl) (by kernel_rfl) ?_
      refine HW.one (fuel := 1) 17 rfl (by kernel_rfl) ?_
      (refine RW.allocN T hs rfl rfl rfl rfl ?_; intro b10 w10 hs)
      refine RW.nil ?_
      refine heldQ_normal ⟨_, _, 1, 1, hs, rfl, rfl⟩ ?_
      refine HW.one (fuel := 0) 18 rfl (by kernel_rfl) ?_
      (refine RW.storeAll T hs 0 rfl rfl rfl rfl rfl rfl rfl rfl ?_; intro w11 hs)
      refine RW.nil ?_
      refine heldQ_normal ⟨_, _, 1, 1, hs, rfl, rfl⟩ ?_
      refine HW.done (by kernel_rfl) ?_
      refine calmQ_normal ?_
      exact joinQ_meet (b10, b55, h55) ⟨rfl, rfl, rfl, rfl, rfl, rfl, trivial⟩ ⟨hle55, IntsAt.of_sl (l := [(m : Int)]) hS55, hs⟩
    · (refine RW.allocN T hs rfl rfl rfl rfl ?_; intro b10 w10 hs)
      refine RW.nil ?_
      refine heldQ_normal ⟨_, _, 1, 1, hs, rfl, rfl⟩ ?_
      refine HW.one (fuel := 2) 5 rfl (by kernel_rfl) ?_
      (refine RW.lit T hs (vs := [.int .i64 (m : Int)]) (cs := [.int .i64 (m : Int)]) rfl rfl rfl rfl (by simp [Value.cells]) rfl rfl rfl rfl rfl ?_; intro b55 w55 hs)
      obtain ⟨h55, hle55, hs, hS55⟩ := hs.freeze
      refine RW.nil ?_
      refine heldQ_normal ⟨_, _, 1, 1, hs, rfl, rfl⟩ ?_
      refine HW.takeR (fuel := 1) 16 rfl (fun _ _ ka kb _ hs hka hkb => Y.build T rfl rfl rfl rfl rfl rfl rfl) ⟨_, _, 1, 1, hs, rfl, rfl⟩ rfl (by kernel_rfl) (by kernel_rfl) (by kernel_rfl) ?_
      refine HW.one (fuel := 0) 18 rfl (by kernel_rfl) ?_
      (refine RW.storeAll T hs 0 rfl rfl rfl rfl rfl rfl rfl rfl ?_; intro w11 hs)
      refine RW.nil ?_
      refine heldQ_normal ⟨_, _, 1, 1, hs, rfl, rfl⟩ ?_
      refine HW.done (by kernel_rfl) ?_
      refine calmQ_normal ?_
      exact joinQ_meet (b10, b55, h55) ⟨rfl, rfl, rfl, rfl, rfl, rfl, trivial⟩ ⟨hle55, IntsAt.of_sl (l := [(m : Int)]) hS55, hs⟩
  rintro ⟨b10, b55, hh⟩ w5 ⟨hg3, hI55, hs⟩
  dsimp only at hg3 hI55 hs ⊢
  have hml : m ≤ (PlainD.items (α := PD (k + 1)) p).length := by omega
  have hq : PlainAt (k + 2) hh [.slice (some ⟨b55, 0, none⟩) 1 1, .slice ad2 m cp2, .int .i64 (PlainD.fill (α := PD (k + 1)) p)] (⟨[(m : Int)], (PlainD.items (α := PD (k + 1)) p).take m, PlainD.fill (α := PD (k + 1)) p⟩ : PlainD (PD (k + 1))) := by
    refine ⟨_, _, rfl, hI55, ad2, cp2, xs.take (m * 4), ?_, ?_, ?_⟩
    · show _ = Value.slice ad2 ((PlainD.items (α := PD (k + 1)) p).take m).length cp2
      rw [List.length_take, Nat.min_eq_left hml]
    · show Sl hh 4 ad2 ((PlainD.items (α := PD (k + 1)) p).take m).length cp2 _
      rw [List.length_take, Nat.min_eq_left hml]
      exact (hS2.mono hs.le).take m hml
    · exact (hA2.take m).mono (fun u a => ItemAt.mono (PlainAt.mono (k + 1)) _ _ u a hs.le)
  have hcq : chk (k + 2) 40 (⟨[(m : Int)], (PlainD.items (α := PD (k + 1)) p).take m, PlainD.fill (α := PD (k + 1)) p⟩ : PlainD (PD (k + 1))) = 0 := by
    refine (chkP_ok (α := PD (k + 1)) _ _ _).2 ⟨hd, h0, h2c, ?_, fun x hx => hit x (List.mem_of_mem_take hx)⟩
    show product [(m : Int)] 1048576 = ((((PlainD.items (α := PD (k + 1)) p).take m).length : Int), 0)
    rw [List.length_take, Nat.min_eq_left hml]
    exact product_len1 m (by omega)
  have lt76 : (PlainD.items (α := PD (k + 1)) (tidy (k + 2) (⟨[(m : Int)], (PlainD.items (α := PD (k + 1)) p).take m, PlainD.fill (α := PD (k + 1)) p⟩ : PlainD (PD (k + 1))))).length = m := by
    have : (PlainD.items (α := PD (k + 1)) (tidy (k + 2) (⟨[(m : Int)], (PlainD.items (α := PD (k + 1)) p).take m, PlainD.fill (α := PD (k + 1)) p⟩ : PlainD (PD (k + 1))))).length = ((PlainD.items (α := PD (k + 1)) p).take m).length := List.length_map _
    rw [this, List.length_take, Nat.min_eq_left hml]
  have hT := hT.mono hg3
  have H := shown_of k (⟨[(m : Int)], (PlainD.items (α := PD (k + 1)) p).take m, PlainD.fill (α := PD (k + 1)) p⟩ : PlainD (PD (k + 1))) hh _ hq hcq
  have ha := ha.mono hs.le
  refine Zerun ?_
  (refine RW.call T hs rfl rfl rfl (of07_con (k + 2) _ (⟨[(m : Int)], (PlainD.items (α := PD (k + 1)) p).take m, PlainD.fill (α := PD (k + 1)) p⟩ : PlainD (PD (k + 1))) _ _ hq hcq) ?_; intro v h68 w68 hle68 hp68 hs)
  obtain ⟨cs68, rfl, _, _, ha68⟩ := hp68
  obtain ⟨s68, vc68, rfl, _, hv68⟩ := ha68
  have hvs68 := hv68.size
  have hT := hT.mono hle68
  have ha := ha.mono hle68
  have hq := PlainAt.mono (k + 2) _ _ _ _ hle68 hq
  obtain ⟨V, hV⟩ : ∃ V, ArrD.vec (α := AD (k + 1)) (arr (k + 2) (⟨[(m : Int)], (PlainD.items (α := PD (k + 1)) p).take m, PlainD.fill (α := PD (k + 1)) p⟩ : PlainD (PD (k + 1)))) = V := ⟨_, rfl⟩
  rw [hV] at H
  have hv68 : VecAt (ArrAt (k + 1)) h68 vc68 V := hV ▸ hv68
  have hall1 : (alongL outer nn inner at_).length ≤ 1048576 := by rw [alongL_len]; exact hlm2
  have H1 := H.pick (alongL outer nn inner at_) hall1
  refine RW.val (Y.fieldVec T rfl rfl rfl rfl rfl rfl hvs68) rfl ?_
  refine Zerun ?_
  (refine RW.call T hs rfl rfl rfl (pickAlong_con (ArrAt.mono ((k) + 1)) (ArrAt.one ((k) + 1)) (ArrAt.siz ((k) + 1)) (blankA (k)) (fun w h => flatBlank_con (ArrAt.mono (k)) (ArrAt.one (k)) w h) _ V _ outer nn inner at_ _ _ hv68 ha (by omega) (by omega) hlm2 (by omega) (by rw [Nat.mul_comm]; omega) H.vm H.k0) ?_; intro v h74 w74 hle74 hp74 hs)
  obtain ⟨cs74, rfl, hv⟩ := hp74
  obtain ⟨wv, nv, sm, il, fl, ch, bx, ⟨rfl, hoc⟩, hkk⟩ := id hv
  have hkpos : 0 < (V.pick (alongL outer nn inner at_) (blankA k)).kind := by
    have := H1.k0
    rcases hkk with ⟨e, _⟩ | ⟨e, _⟩ | ⟨e, _⟩ | ⟨e, _⟩ | ⟨e, _⟩ | ⟨e, _⟩ | ⟨e, _⟩ <;> omega
  clear hkk
  have hT := hT.mono hle74
  have ha := ha.mono hle74
  have hq := PlainAt.mono (k + 2) _ _ _ _ hle74 hq
  have hlv : ((alongL outer nn inner at_).map fun i => atD (PlainD.items (α := PD (k + 1)) (tidy (k + 2) (⟨[(m : Int)], (PlainD.items (α := PD (k + 1)) p).take m, PlainD.fill (α := PD (k + 1)) p⟩ : PlainD (PD (k + 1))))) i (blankI (PlainD.fill (α := PD (k + 1)) p) : ItemD (PlainD (PD k)))).length = (V.pick (alongL outer nn inner at_) (blankA k)).len := by
    rw [List.length_map, (pick_facts V (alongL outer nn inner at_) (blankA k)).2.2.1]
  have hpe : plain (k + 2) (⟨[((V.pick (alongL outer nn inner at_) (blankA k)).len : Int)], V.pick (alongL outer nn inner at_) (blankA k)⟩ : ArrD (AD (k + 1))) = (⟨[((((alongL outer nn inner at_).map fun i => atD (PlainD.items (α := PD (k + 1)) (tidy (k + 2) (⟨[(m : Int)], (PlainD.items (α := PD (k + 1)) p).take m, PlainD.fill (α := PD (k + 1)) p⟩ : PlainD (PD (k + 1))))) i (blankI (PlainD.fill (α := PD (k + 1)) p) : ItemD (PlainD (PD k)))).length : Nat) : Int)], (alongL outer nn inner at_).map fun i => atD (PlainD.items (α := PD (k + 1)) (tidy (k + 2) (⟨[(m : Int)], (PlainD.items (α := PD (k + 1)) p).take m, PlainD.fill (α := PD (k + 1)) p⟩ : PlainD (PD (k + 1))))) i (blankI (PlainD.fill (α := PD (k + 1)) p) : ItemD (PlainD (PD k))), PlainD.fill (α := PD (k + 1)) p⟩ : PlainD (PD (k + 1))) := by
    rw [hlv]
    show (⟨[((V.pick (alongL outer nn inner at_) (blankA k)).len : Int)], itemsV (plain (k + 1)) (V.pick (alongL outer nn inner at_) (blankA k)), (V.pick (alongL outer nn inner at_) (blankA k)).cls⟩ : PlainD (PD (k + 1))) = _
    rw [H1.he, H1.hc]
  have htd1 : tdy (k + 2) (plain (k + 2) (⟨[((V.pick (alongL outer nn inner at_) (blankA k)).len : Int)], V.pick (alongL outer nn inner at_) (blankA k)⟩ : ArrD (AD (k + 1)))) := by rw [hpe]; exact fun x hx => H1.td x hx
  have htd2 := htd1
  rw [hpe] at htd2
  have hall74 : (vecCells (V.pick (alongL outer nn inner at_) (blankA k)).kind wv nv sm il fl ch bx).all Value.oneCell' = true := by rw [hoc]
  refine Zerun ?_
  (refine RW.allocN T hs rfl rfl rfl rfl ?_; intro b11 w11 hs)
  refine RW.storeAll T hs 0 rfl rfl rfl rfl rfl rfl hall74 rfl ?_
  intro w11 hs
  refine Zerun ?_
  refine CW.regionO T hs ?_
  intro w12 hs
  refine HW.takeS (fuel := 10) 0 rfl (fun _ _ hs => Y.loadRowN T hs 1 rfl rfl rfl rfl rfl rfl rfl) hs rfl (by kernel_rfl) (by kernel_rfl) (by kernel_rfl) ?_
  refine HW.takeS (fuel := 9) 3 rfl (fun _ _ hs => Y.fieldAddr T rfl rfl rfl rfl rfl) hs rfl (by kernel_rfl) (by kernel_rfl) (by kernel_rfl) ?_
  refine HW.takeS (fuel := 8) 4 rfl (fun _ _ hs => Y.loadRow1 T hs 2 rfl rfl rfl rfl rfl) hs rfl (by kernel_rfl) (by kernel_rfl) (by kernel_rfl) ?_
  refine HW.takeS (fuel := 7) 5 rfl (fun _ _ hs => Y.move rfl) hs rfl (by kernel_rfl) (by kernel_rfl) (by kernel_rfl) ?_
  refine HW.takeS (fuel := 6) 6 rfl (fun _ _ hs => Y.move rfl) hs rfl (by kernel_rfl) (by kernel_rfl) (by kernel_rfl) ?_
  refine HW.takeS (fuel := 5) 7 rfl (fun _ _ hs => Y.move rfl) hs rfl (by kernel_rfl) (by kernel_rfl) (by kernel_rfl) ?_
  refine HW.takeS (fuel := 4) 8 rfl (fun _ _ hs => Y.move rfl) hs rfl (by kernel_rfl) (by kernel_rfl) (by kernel_rfl) ?_
  refine HW.one (fuel := 3) 1 rfl (by kernel_rfl) ?_
  (refine RW.call T hs rfl rfl rfl (refTidyP_con (k + 2) 40 _ (⟨[(m : Int)], (PlainD.items (α := PD (k + 1)) p).take m, PlainD.fill (α := PD (k + 1)) p⟩ : PlainD (PD (k + 1))) _ _ hq hcq) ?_; intro v h76 w76 hle76 hp76 hs)
  obtain ⟨cs76, rfl, s76, it76, rfl, ⟨ad76, cp76, rfl, _⟩, hit76⟩ := hp76
  obtain ⟨adI76, cpI76, xsI76, rfl, _, _⟩ := id hit76
  have hT := hT.mono hle76
  have hq := PlainAt.mono (k + 2) _ _ _ _ hle76 hq
  have ha := ha.mono hle76
  have hv := hv.mono (ArrAt.mono (k + 1)) hle76
  refine RW.nil ?_
  refine heldQ_normal ⟨_, hs⟩ ?_
  refine HW.takeS (fuel := 2) 2 rfl (fun _ _ hs => Y.field1 T rfl rfl rfl rfl rfl rfl) hs rfl (by kernel_rfl) (by kernel_rfl) (by kernel_rfl) ?_
  refine HW.one (fuel := 1) 9 rfl (by kernel_rfl) ?_
  (refine RW.call T hs rfl rfl rfl (refAlong_con (PlainAt.mono k) _ _ _ (PlainD.fill (α := PD (k + 1)) p) outer nn inner at_ _ _ hit76 ha (lt76.trans (hme.symm.trans hmm)) (le_of_eq_of_le lt76 (by omega)) hlm2 (by omega) ⟨by omega, by omega, by omega⟩ (by omega)) ?_; intro v h84 w84 hle84 hp84 hs)
  obtain ⟨ad84, cp84, xs84, rfl, _, _⟩ := id hp84
  have hT := hT.mono hle84
  have hq := PlainAt.mono (k + 2) _ _ _ _ hle84 hq
  have ha := ha.mono hle84
  have hv := hv.mono (ArrAt.mono (k + 1)) hle84
  refine RW.nil ?_
  refine heldQ_normal ⟨_, hs⟩ ?_
  refine HW.takeS (fuel := 0) 10 rfl (fun _ _ hs => Y.assign rfl) hs rfl (by kernel_rfl) (by kernel_rfl) (by kernel_rfl) ?_
  refine HW.done (by kernel_rfl) ?_
  refine calmQ_normal ?_
  refine Zerun ?_
  refine CW.regionO T hs ?_
  intro w13 hs
  refine HW.takeS (fuel := 23) 0 rfl (fun _ _ hs => Y.loadRowN T hs 0 rfl rfl rfl rfl rfl rfl rfl) hs rfl (by kernel_rfl) (by kernel_rfl) (by kernel_rfl) ?_
  refine HW.one (fuel := 22) 1 rfl (by kernel_rfl) ?_
  (refine RW.call T hs rfl rfl rfl (vecKind_con _ (V.pick (alongL outer nn inner at_) (blankA k)) _ _ hv) ?_; intro v h86 w86 hle86 hp86 hs)
  subst hp86
  have hv := hv.mono (ArrAt.mono (k + 1)) hle86
  have hp84 := hp84.mono hle86 (fun u a => ItemAt.mono (PlainAt.mono (k + 1)) _ _ u a hle86)
  have hT := hT.mono hle86
  refine RW.nil ?_
  refine heldQ_normal ⟨_, hs⟩ ?_
  refine HW.takeS (fuel := 21) 2 rfl (fun _ _ hs => Y.gtT rfl rfl hkpos) hs rfl (by kernel_rfl) (by kernel_rfl) (by kernel_rfl) ?_
  refine HW.takeS (fuel := 20) 3 rfl (fun _ _ hs => Y.move rfl) hs rfl (by kernel_rfl) (by kernel_rfl) (by kernel_rfl) ?_
  refine HW.takeSY (fuel := 19) 4 rfl rfl rfl (fun _ _ hs => Y.loadRowN T hs 0 rfl rfl rfl rfl rfl rfl rfl) hs rfl (by kernel_rfl) (by kernel_rfl) (by kernel_rfl) ?_
  refine HW.one (fuel := 18) 5 rfl (by kernel_rfl) ?_
  refine RW.guardYes rfl rfl ?_
  (refine RW.call T hs rfl rfl rfl (sqTight_con (ArrAt.mono (k + 1)) _ (V.pick (alongL outer nn inner at_) (blankA k)) _ _ hv H1.vm) ?_; intro v h90 w90 hle90 hp90 hs)
  subst hp90
  rw [decide_eq_true H1.kl]
  have hv := hv.mono (ArrAt.mono (k + 1)) hle90
  have hp84 := hp84.mono hle90 (fun u a => ItemAt.mono (PlainAt.mono (k + 1)) _ _ u a hle90)
  have hT := hT.mono hle90
  refine RW.nil ?_
  refine heldQ_normal ⟨_, hs⟩ ?_
  refine HW.takeS (fuel := 17) 6 rfl (fun _ _ hs => Y.pickT rfl rfl) hs rfl (by kernel_rfl) (by kernel_rfl) (by kernel_rfl) ?_
  refine HW.takeS (fuel := 16) 7 rfl (fun _ _ hs => Y.move rfl) hs rfl (by kernel_rfl) (by kernel_rfl) (by kernel_rfl) ?_
  refine HW.takeSY (fuel := 15) 8 rfl rfl rfl (fun _ _ hs => Y.loadRowN T hs 0 rfl rfl rfl rfl rfl rfl rfl) hs rfl (by kernel_rfl) (by kernel_rfl) (by kernel_rfl) ?_
  refine HW.takeSY (fuel := 14) 11 rfl rfl rfl (fun _ _ hs => Y.loadRowN T hs 0 rfl rfl rfl rfl rfl rfl rfl) hs rfl (by kernel_rfl) (by kernel_rfl) (by kernel_rfl) ?_
  refine HW.takeSY (fuel := 13) 14 rfl rfl rfl (fun _ _ hs => Y.move rfl) hs rfl (by kernel_rfl) (by kernel_rfl) (by kernel_rfl) ?_
  refine HW.takeSY (fuel := 12) 15 rfl rfl rfl (fun _ _ hs => Y.fieldAddr T rfl rfl rfl rfl rfl) hs rfl (by kernel_rfl) (by kernel_rfl) (by kernel_rfl) ?_
  refine HW.takeSY (fuel := 11) 16 rfl rfl rfl (fun _ _ hs => Y.loadRow1 T hs 2 rfl rfl rfl rfl rfl) hs rfl (by kernel_rfl) (by kernel_rfl) (by kernel_rfl) ?_
  refine HW.one (fuel := 10) 9 rfl (by kernel_rfl) ?_
  refine RW.guardYes rfl rfl ?_
  (refine RW.call T hs rfl rfl rfl (vecLen_con _ (V.pick (alongL outer nn inner at_) (blankA k)) _ _ hv) ?_; intro v h94 w94 hle94 hp94 hs)
  subst hp94
  have hv := hv.mono (ArrAt.mono (k + 1)) hle94
  have hp84 := hp84.mono hle94 (fun u a => ItemAt.mono (PlainAt.mono (k + 1)) _ _ u a hle94)
  have hT := hT.mono hle94
  refine RW.nil ?_
  refine heldQ_normal ⟨_, hs⟩ ?_
  refine HW.one (fuel := 9) 10 rfl (by kernel_rfl) ?_
  refine RW.guardYes rfl rfl ?_
  (refine RW.lit T hs (vs := [.int .i64 (V.pick (alongL outer nn inner at_) (blankA k)).len]) (cs := [.int .i64 (V.pick (alongL outer nn inner at_) (blankA k)).len]) rfl rfl rfl rfl (by simp [Value.cells]) rfl rfl rfl rfl rfl ?_; intro b95 w95 hs)
  obtain ⟨h95, hle95, hs, hS95⟩ := hs.freeze
  have ha95 : ArrAt (k + 2) h95 (.slice (some ⟨b95, 0, none⟩) 1 1 :: (vecCells (V.pick (alongL outer nn inner at_) (blankA k)).kind wv nv sm il fl ch bx)) (⟨[((V.pick (alongL outer nn inner at_) (blankA k)).len : Int)], (V.pick (alongL outer nn inner at_) (blankA k))⟩ : ArrD (AD (k + 1))) := ⟨_, _, rfl, IntsAt.of_sl hS95, hv.mono (ArrAt.mono (k + 1)) hle95⟩
  have hp84 := hp84.mono hle95 (fun u a => ItemAt.mono (PlainAt.mono (k + 1)) _ _ u a hle95)
  have hT := hT.mono hle95
  refine RW.nil ?_
  refine heldQ_normal ⟨_, hs⟩ ?_
  refine HW.takeSY (fuel := 8) 12 rfl rfl rfl (fun _ _ hs => Y.build T rfl rfl rfl rfl rfl rfl rfl) hs rfl (by kernel_rfl) (by kernel_rfl) (by kernel_rfl) ?_
  refine HW.one (fuel := 7) 13 rfl (by kernel_rfl) ?_
  refine RW.guardYes rfl rfl ?_
  (refine RW.call T hs rfl rfl rfl (plainV_con (k + 2) _ _ _ _ ha95 ⟨(by show 1 ≤ 8; omega), H1.vm, H1.sm⟩) ?_; intro v h98 w98 hle98 hp98 hs)
  obtain ⟨cs98, rfl, hq98⟩ := hp98
  have hp84 := hp84.mono hle98 (fun u a => ItemAt.mono (PlainAt.mono (k + 1)) _ _ u a hle98)
  have hT := hT.mono hle98
  refine RW.nil ?_
  refine heldQ_normal ⟨_, hs⟩ ?_
  refine HW.one (fuel := 6) 17 rfl (by kernel_rfl) ?_
  refine RW.guardYes rfl rfl ?_
  (refine RW.call T hs rfl rfl rfl (refList08_con (PlainAt.mono (k + 1)) _ _ (PlainD.fill (α := PD (k + 1)) p) _ _ hp84) ?_; intro v h102 w102 hle102 hp102 hs)
  obtain ⟨cs102, rfl, hq102⟩ := hp102
  have hT := hT.mono hle102
  have hq98 := PlainAt.mono (k + 2) _ _ _ _ hle102 hq98
  refine RW.nil ?_
  refine heldQ_normal ⟨_, hs⟩ ?_
  refine HW.one (fuel := 5) 18 rfl (by kernel_rfl) ?_
  refine RW.guardYes rfl rfl ?_
  (refine RW.call T hs rfl rfl rfl (refSame_con (k + 2) _ _ _ _ _ _ hq98 hq102 htd1 htd2) ?_; intro v h103 w103 hle103 hp103 hs)
  replace hp103 := hp103.trans (congrArg Value.bool (eqB_of hpe))
  subst hp103
  have hT := hT.mono hle103
  refine RW.nil ?_
  refine heldQ_normal ⟨_, hs⟩ ?_
  refine HW.takeS (fuel := 4) 19 rfl (fun _ _ hs => Y.pickT rfl rfl) hs rfl (by kernel_rfl) (by kernel_rfl) (by kernel_rfl) ?_
  refine HW.takeS (fuel := 3) 20 rfl (fun _ _ hs => Y.move rfl) hs rfl (by kernel_rfl) (by kernel_rfl) (by kernel_rfl) ?_
  refine HW.one (fuel := 2) 21 rfl (by kernel_rfl) ?_
  refine RW.guardYes rfl rfl ?_
  (refine RW.call T hs rfl rfl rfl (awake15_con _ _ hT) ?_; intro v h106 w106 hle106 hp106 hs)
  subst hp106
  have hT := hT.mono hle106
  refine RW.nil ?_
  refine heldQ_normal ⟨_, hs⟩ ?_
  refine HW.takeS (fuel := 1) 22 rfl (fun _ _ hs => Y.pickT rfl rfl) hs rfl (by kernel_rfl) (by kernel_rfl) (by kernel_rfl) ?_
  refine HW.takeS (fuel := 0) 23 rfl (fun _ _ hs => Y.assign rfl) hs rfl (by kernel_rfl) (by kernel_rfl) (by kernel_rfl) ?_
  refine HW.done (by kernel_rfl) ?_
  refine calmQ_normal ?_
  refine Zerun ?_
  exact retQ_ret [_] h106 ⟨rfl, trivial⟩ hs.dropAll rfl
end Go.Proofs.YtmfealaaacmohaaDoor
