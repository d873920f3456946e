/-
  The program logic, fourth part: operations that make or write memory, calls, regions that draw their order. No statement is proved here.
-/
import Derived.Test.YtdpkioffihebnaaLibC
namespace Go.Proofs.Ytdpkioffihebnaa
open Go Go.RowKit

theorem apart_iff (O : List Row) : (O.map Row.v).Pairwise Apart ↔ ∀ (i j : Nat) (r s : Row), i < j → O[i]? = some r → O[j]? = some s → Apart r.v s.v := by
  rw [List.pairwise_iff_getElem]
  constructor
  · intro h i j r s hij hi hj
    obtain ⟨h1, h1'⟩ := List.getElem?_eq_some_iff.1 hi
    obtain ⟨h2, h2'⟩ := List.getElem?_eq_some_iff.1 hj
    have := h i j (by simpa using h1) (by simpa using h2) hij
    simpa [h1', h2'] using this
  · intro h i j h1 h2 hij
    have e1 : i < O.length := by simpa using h1
    have e2 : j < O.length := by simpa using h2
    have := h i j O[i] O[j] hij (List.getElem?_eq_getElem e1) (List.getElem?_eq_getElem e2)
    simpa using this

section
variable {w0 w w' : World} {h0 h h' : GHeap} {O : List Row} {k : Nat} {r r' : Row}
theorem Sees.apartAt (hs : Sees w0 h0 h O w) {i j : Nat} {r s : Row} (hij : i ≠ j) (hi : O[i]? = some r) (hj : O[j]? = some s) : Apart r.v s.v := by
  have := (apart_iff O).1 hs.apart
  rcases Nat.lt_or_gt_of_ne hij with h | h
  · exact this i j r s h hi hj
  · exact (this j i s r h hj hi).symm
theorem Sees.replace (hs : Sees w0 h0 h O w) (hO : O[k]? = some r) (hg : w.grownBy w' r.v.ownBlock) (hr' : r'.ok w0.heap.size w') (hb : ∀ b, r'.v.ownBlock = some b → r.v.ownBlock = some b ∨ w.heap.size ≤ b) :
    Sees w0 h0 h (O.set k r') w' := by
  have hmem : r ∈ O := List.mem_of_getElem? hO
  obtain ⟨hrok, hrn⟩ := hs.own r hmem
  have hklt : k < O.length := (List.getElem?_eq_some_iff.1 hO).1
  refine ⟨hs.below.grown hg hs.base (fun b e => (hrok.lt b e).1), ?_, hs.le, hs.old, ?_, ?_⟩
  · intro b cs hbc
    obtain ⟨e, fr, he⟩ := hs.agree b cs hbc
    refine ⟨e, fr, ?_⟩
    rw [hg.block b (hs.hlt hbc) (fun e' => by rw [hrn b e'.symm] at hbc; cases hbc)]
    exact he
  · intro x hx
    obtain ⟨j, hj⟩ := List.mem_iff_getElem?.1 hx
    rw [List.getElem?_set] at hj
    by_cases e : k = j
    · subst e
      simp [hklt] at hj
      subst hj
      refine ⟨hr', fun b hbb => ?_⟩
      rcases hb b hbb with e | e
      · exact hrn b e
      · cases hh : h b with
        | none => rfl
        | some cs => exact absurd (hs.hlt hh) (by omega)
    · simp [e] at hj
      obtain ⟨h1, h2⟩ := hs.own x (List.mem_of_getElem? hj)
      exact ⟨h1.kept hg (hs.apartAt (fun e' => e e'.symm) hj hO), h2⟩
  · rw [apart_iff]
    intro i j x y hij hi hj
    rw [List.getElem?_set] at hi hj
    have key : ∀ j y, k ≠ j → O[j]? = some y → Apart r'.v y.v := by
      intro j y hkj hy
      cases hv : r'.v.ownBlock with
      | none => exact .inl hv
      | some b =>
        right
        rw [hv]
        intro e
        rcases hb b hv with e' | e'
        · rcases hs.apartAt hkj hO hy with a | a
          · rw [a] at e'; cases e'
          · exact a (e'.trans e)
        · have := ((hs.own y (List.mem_of_getElem? hy)).1.lt b e.symm).2
          omega
    by_cases e1 : k = i
    · subst e1
      simp [hklt] at hi
      subst hi
      have : k ≠ j := by omega
      simp [this] at hj
      exact key j y this hj
    · simp [e1] at hi
      by_cases e2 : k = j
      · subst e2
        simp [hklt] at hj
        subst hj
        exact (key i x e1 hi).symm
      · simp [e2] at hj
        exact hs.apartAt (by omega) hi hj
theorem Sees.setCell {b n cp : Nat} {e : TypeId} {sz : Nat} {xs : List Value} (hs : Sees w0 h0 h O w) (hO : O[k]? = some ⟨some ⟨b, 0, none⟩, n, cp, e, sz, xs⟩) (j : Nat) (u : Value) :
    Sees w0 h0 h (O.set k ⟨some ⟨b, 0, none⟩, n, cp, e, sz, xs.set j u⟩) (w.setCell ⟨b, j, none⟩ u) := by
  have hok := (hs.own _ (List.mem_of_getElem? hO)).1
  have := World.ownsRow.stored hok j u
  exact hs.replace hO this.2 this.1 (fun c hc => .inl hc)
theorem Sees.rowCell {b n cp : Nat} {e : TypeId} {sz : Nat} {xs : List Value} (hs : Sees w0 h0 h O w) (hO : O[k]? = some ⟨some ⟨b, 0, none⟩, n, cp, e, sz, xs⟩) {j : Nat} {u : Value} (hj : xs[j]? = some u) : w.cell? ⟨b, j, none⟩ = some u := by
  have hok := (hs.own _ (List.mem_of_getElem? hO)).1
  have hl : j < n * sz := by rw [← hok.1]; exact (List.getElem?_eq_some_iff.1 hj).1
  rw [World.ownsRow.cellAt hok j hl, hj]
theorem Sees.rowLen (hs : Sees w0 h0 h O w) (hO : O[k]? = some r) : r.xs.length = r.n * r.sz := (hs.own r (List.mem_of_getElem? hO)).1.1
/-- a row with elements lies at the head of a block -/
theorem Sees.rowAt {ad : Option Addr} {n cp : Nat} {e : TypeId} {sz : Nat} {xs : List Value} (hs : Sees w0 h0 h O w) (hO : O[k]? = some ⟨ad, n, cp, e, sz, xs⟩) (hn : 0 < n) : ∃ b, ad = some ⟨b, 0, none⟩ := by
  have hok := (hs.own _ (List.mem_of_getElem? hO)).1
  rcases hok.2 with ⟨hv, h0⟩ | ⟨g, cap, cur, hv, _⟩
  · exact absurd h0 (by simp; omega)
  · simp [Row.v] at hv; exact ⟨g, hv.1⟩
theorem Sees.rowCap {ad : Option Addr} {n cp : Nat} {e : TypeId} {sz : Nat} {xs : List Value} (hs : Sees w0 h0 h O w) (hO : O[k]? = some ⟨ad, n, cp, e, sz, xs⟩) : n ≤ cp ∧ cp ≤ maxLen := by
  have hok := (hs.own _ (List.mem_of_getElem? hO)).1
  rcases hok.2 with ⟨hv, h0⟩ | ⟨g, cap, cur, hv, _, _, h1, h2, _⟩
  · simp [Row.v] at hv; simp [hv]
  · simp [Row.v] at hv; obtain ⟨_, rfl⟩ := hv; exact ⟨h1, h2⟩
end

/-- cells that an append or a copy takes -/
def Src (w : World) (ad : Option Addr) (m : Nat) (sz : Nat) (news : List Value) : Prop :=
  news.length = m * sz ∧ (∀ u ∈ news, u.oneCell' = true) ∧ (ad = none → m = 0) ∧ ∀ p, ad = some p → ∀ j u, news[j]? = some u → w.cell? (p.add j) = some u
theorem Sl.src {h : GHeap} {w : World} {ad : Option Addr} {n cp sz : Nat} {xs : List Value} (hS : Sl h sz ad n cp xs) (ha : Agree h w) (h1 : ∀ u ∈ xs, u.oneCell' = true) : Src w ad n sz xs := by
  refine ⟨hS.1, h1, fun e => ?_, ?_⟩
  · have := hS.2.2.2.1 e; have := hS.2.1; omega
  · intro p hp j u hj
    obtain ⟨hsp, hc⟩ := hS.2.2.2.2 p hp
    have hl : j < n * sz := by rw [← hS.1]; exact (List.getElem?_eq_some_iff.1 hj).1
    obtain ⟨cs, hb, hv⟩ := hc j hl
    have hsp : p.spot = none := by
      rcases hsp with e | e
      · rw [e, Nat.zero_mul] at hl; omega
      · exact e
    have : p.add j = ⟨p.block, p.off + j, none⟩ := by
      cases p with | mk b o s => simp at hsp; subst hsp; exact Addr.add_lit _ _ _
    rw [this]
    exact ha.cell hb (by rw [hv, hj])
theorem Sl.take {h : GHeap} {ad : Option Addr} {n cp sz : Nat} {xs : List Value} (hS : Sl h sz ad n cp xs) (m : Nat) (hm : m ≤ n) : Sl h sz ad m cp (xs.take (m * sz)) := by
  have hle : m * sz ≤ n * sz := Nat.mul_le_mul_right _ hm
  refine ⟨by rw [List.length_take, hS.1]; omega, by have := hS.2.1; omega, hS.2.2.1, hS.2.2.2.1, ?_⟩
  intro p hp
  obtain ⟨a, b⟩ := hS.2.2.2.2 p hp
  refine ⟨a.imp (fun e => by omega) id, fun j hj => ?_⟩
  obtain ⟨cs, c, d⟩ := b j (by omega)
  exact ⟨cs, c, by rw [d, List.getElem?_take, if_pos hj]⟩

section
variable {P : Program} (T : Tab P) {n : Nat} {Q : Post} {L : Env} {w0 w : World} {h0 h : GHeap} {O : List Row} {ops rest : List Oper} {x y : Operand} {t : TypeId}
variable {d : Option Tmp} {ty : TypeId} {pos : String} {aft : Array Edge}

theorem run_append_sees (hs : Sees w0 h0 h O w) {k : Nat} {r : Row} (hO : O[k]? = some r) {i : Inf} (hT : T.ty t = some (.slice r.e)) (hI : T.inf r.e = some i) (hz : i.zero.cells.size = i.size) (hsz : i.size = r.sz)
    {ad : Option Addr} {m c : Nat} {news : List Value} (hsrc : Src w ad m r.sz news) (hm : (r.n + m) * i.bytes ≤ 140737488355328) (h63 : r.n + m ≤ maxLen) (hc : ad = none → c = 0) :
    ∃ ad' cp' w', (Builtin.append_ #[t, t] ty #[r.v, .slice ad m c]).run P w = .ok (.slice ad' (r.n + m) cp') w' ∧ Sees w0 h0 h (O.set k ⟨ad', r.n + m, cp', r.e, r.sz, r.xs ++ news⟩) w' := by
  have ht : P.underlying t = some (.slice r.e) := T.ty_ok _ _ hT
  obtain ⟨z, hi, hi1, hi2, hi3⟩ := T.inf_ok _ _ hI
  obtain ⟨rad, rn, rcp, re, rsz, rxs⟩ := r
  simp only at hT hI hsz hsrc hm h63 ht hi ⊢
  have hok := (hs.own _ (List.mem_of_getElem? hO)).1
  have hzsz : z.size = rsz := by rw [hi1, hsz]
  have hrl : rxs.length = rn * rsz := hok.1
  have hklt : k < O.length := (List.getElem?_eq_some_iff.1 hO).1
  have hsmall : rn + m ≤ 9223372036854775807 := by simp only [maxLen] at h63; omega
  cases ad with
  | none =>
    have hm0 := hsrc.2.2.1 rfl
    subst hm0
    have hn : news = [] := List.eq_nil_of_length_eq_zero (by simpa using hsrc.1)
    subst hn
    refine ⟨rad, rcp, w, ?_, ?_⟩
    · have := run_append_owned_none (P := P) w w0.heap.size t ty re z rsz ht hi _ _ _ hok
      have hc0 := hc rfl
      subst hc0
      simpa [Row.v] using this
    · refine hs.cast ?_
      apply List.ext_getElem?
      intro j
      rw [List.getElem?_set]
      by_cases e : k = j
      · subst e; simp [hklt]; rw [List.getElem?_eq_getElem hklt] at hO; exact Option.some.inj hO
      · simp [e]
  | some a =>
    have hnews := hsrc.2.2.2 a rfl
    have fresh : ∀ (old : Nat) (olds : List Value), olds = rxs → old < rn + m →
        (∃ row, w.grownBy (w.drew.alloc (.cells (olds.toArray ++ news.toArray ++ Builtin.zeroCells i.zero.cells (grownCap w (rn + m) old re - (rn + m))) re)) row) ∧
        Sees w0 h0 h (O.set k ⟨some ⟨w.heap.size, 0, none⟩, rn + m, grownCap w (rn + m) old re, re, rsz, rxs ++ news⟩) (w.drew.alloc (.cells (olds.toArray ++ news.toArray ++ Builtin.zeroCells i.zero.cells (grownCap w (rn + m) old re - (rn + m))) re)) := by
      intro old olds ho hlt
      subst ho
      have hge := grownCap_ge w (rn + m) old re
      have hcm : grownCap w (rn + m) old re ≤ maxLen := grownCap_le_maxLen w (rn + m) old re h63
      have hgr : ∀ row, w.grownBy (w.drew.alloc (.cells (olds.toArray ++ news.toArray ++ Builtin.zeroCells i.zero.cells (grownCap w (rn + m) old re - (rn + m))) re)) row :=
        fun row => ⟨rfl, rfl, rfl, by simp, fun q hq _ => Below.heap_alloc w.drew _ q hq⟩
      refine ⟨⟨none, hgr none⟩, ?_⟩
      refine hs.replace hO (hgr _) ?_ ?_
      · refine ⟨by rw [List.length_append, hrl, hsrc.1, Nat.add_mul], .inr ⟨w.heap.size, _, _, rfl, hs.base, heap_alloc_new w.drew _, hge, hcm, ?_, ?_⟩⟩
        · simp only [Array.size_append, List.size_toArray, size_zeroCells, hz, hsz, hrl, hsrc.1, ← Nat.add_mul]
          congr 1
          omega
        · have hlen : (olds ++ news).length = (rn + m) * rsz := by rw [List.length_append, hrl, hsrc.1, Nat.add_mul]
          simp only [Array.toList_append, List.append_assoc]
          rw [← List.append_assoc]
          show List.take ((rn + m) * rsz) _ = _
          rw [← hlen]
          exact List.take_left
      · intro b hb
        simp [Row.v, Value.ownBlock] at hb
        exact .inr (by omega)
    rcases hok.2 with ⟨hv, hn0⟩ | ⟨g, cap, cur, hv, hbg, hg, hnc, hcm, hcs, htake⟩
    · simp only [Row.v, Value.slice.injEq] at hv
      obtain ⟨rfl, rfl, rfl⟩ := hv
      have hx : rxs = [] := List.eq_nil_of_length_eq_zero (by simpa using hrl)
      by_cases hm0 : m = 0
      · subst hm0
        have hn : news = [] := List.eq_nil_of_length_eq_zero (by simpa using hsrc.1)
        subst hn
        refine ⟨none, 0, w, by simp [Row.v, Builtin.append_, run_underlying ht, Go.sizeOf, typeInfo, hi, Builtin.lenOf, Builtin.firstCells, loadCells, loadCellsFrom], ?_⟩
        refine hs.cast ?_
        apply List.ext_getElem?
        intro j
        rw [List.getElem?_set]
        by_cases e : k = j
        · subst e; simp [hklt]; rw [List.getElem?_eq_getElem hklt] at hO; exact Option.some.inj hO
        · simp [e]
      · have hr := run_append_nil (P := P) w t ty re z i.zero ht hi hi3 a m c news (by rw [hzsz]; exact hsrc.1) hnews (by omega) (by omega) (by rw [hi2]; simp only [Nat.zero_add] at hm; omega)
        have hf := (fresh 0 [] hx.symm (by omega)).2
        simp only [Nat.zero_add, Array.empty_append] at hf ⊢
        exact ⟨_, _, _, hr, hf⟩
    · simp only [Row.v, Value.slice.injEq, true_and] at hv
      obtain ⟨rfl, rfl⟩ := hv
      by_cases hroom : rn + m ≤ rcp
      · obtain ⟨w', h1, h2, h3⟩ := run_append_fits (P := P) w w0.heap.size t ty re z rsz ht hi hzsz g rn rcp rxs hok a m c news hsrc.1 hnews hsrc.2.1 hroom
        exact ⟨_, _, w', h1, hs.replace hO (by simpa [Row.v, Value.ownBlock] using h3) h2 (fun b hb => .inl (by simpa [Row.v, Value.ownBlock] using hb))⟩
      · have holds : ∀ j u, rxs[j]? = some u → w.cell? ((⟨g, 0, none⟩ : Addr).add j) = some u := World.ownsRow.cells hok (g := g) (by simp [Row.v, Value.ownBlock])
        have hr := run_append_grow (P := P) w t ty re z i.zero ht hi hi3 ⟨g, 0, none⟩ rn rcp rxs (by rw [hzsz]; exact hrl) holds a m c news (by rw [hzsz]; exact hsrc.1) hnews (by omega) (by omega) (growslice_fits (by omega) (by rw [hi2]; exact hm))
        exact ⟨_, _, _, hr, (fresh rcp rxs rfl (by omega)).2⟩

theorem RW.append (hs : Sees w0 h0 h O w) (k : Nat) {ra : Option Addr} {rn rc : Nat} {e : TypeId} {sz : Nat} {xs : List Value} (hO : O[k]? = some ⟨ra, rn, rc, e, sz, xs⟩) (hx : opv L x = some (.slice ra rn rc)) {ad : Option Addr} {m c : Nat} (hy : opv L y = some (.slice ad m c)) (hd : dstOk n d = true)
    {i : Inf} (hT : T.ty t = some (.slice e)) (hI : T.inf e = some i) (hz : i.zero.cells.size = i.size) (hsz : i.size = sz) {news : List Value} (hsrc : Src w ad m sz news) (hc : ad = none → c = 0) (hm : (rn + m) * i.bytes ≤ 140737488355328) (h63 : rn + m ≤ 9223372036854775807)
    (K : ∀ ad' cp' w', Sees w0 h0 h (O.set k ⟨ad', rn + m, cp', e, sz, xs ++ news⟩) w' → RW P n ops Q (updo d (.slice ad' (rn + m) cp') L) w' rest) :
    RW P n ops Q L w (⟨d, .call ⟨.builtin .append, #[x, y], #[t, t]⟩, ty, pos, aft, none⟩ :: rest) := by
  obtain ⟨ad', cp', w', hr, hs'⟩ := run_append_sees (ty := ty) T hs hO hT hI hz hsz hsrc hm (by simpa [maxLen] using h63) hc
  refine RW.step (v := .slice ad' (rn + m) cp') (w' := w') ?_ hd (K ad' cp' w' hs')
  intro a ha
  simp only [Row.v] at hr
  simp [execOp, resolve, invoke, builtin, ha.eval hx, ha.eval hy, hr]

/-- one value, into a row of the call's own -/
theorem RW.store1 (hs : Sees w0 h0 h O w) (k : Nat) {b o m cp : Nat} {e : TypeId} {sz : Nat} {xs : List Value} (hO : O[k]? = some ⟨some ⟨b, 0, none⟩, m, cp, e, sz, xs⟩) {u old : Value} (hx : opv L x = some (.pointer (some ⟨b, o, none⟩))) (hy : opv L y = some u) (hd : dstOk n d = true)
    {i : Inf} (hI : T.inf t = some i) (hi : i.size = 1) (hu : u.oneCell' = true) (hold : xs[o]? = some old)
    (K : ∀ w', Sees w0 h0 h (O.set k ⟨some ⟨b, 0, none⟩, m, cp, e, sz, xs.set o u⟩) w' → RW P n ops Q (updo d undef L) w' rest) :
    RW P n ops Q L w (⟨d, .store t x y, ty, pos, aft, none⟩ :: rest) := by
  refine RW.stepSkip (w' := w.setCell ⟨b, o, none⟩ u) ?_ hd (K _ (hs.setCell hO o u))
  intro a ha
  have hok := (hs.own _ (List.mem_of_getElem? hO)).1
  have hfz : w.frozen? ⟨b, o, none⟩ = false := World.ownsRow.frozenAt hok o
  have hcell := hs.rowCell hO hold
  have hcells : u.cells = #[u] := by cases u <;> first | rfl | (simp [Value.oneCell'] at hu)
  have hst := run_store P w ⟨b, o, none⟩ u .plain hu
  simp [hcell, hfz] at hst
  have hadd : (⟨b, o, none⟩ : Addr).add 0 = ⟨b, o, none⟩ := Addr.add_lit _ _ _
  simp [execOp, Instr.storeAt, Instr.sureAddr, ha.eval hx, ha.eval hy, storeVar, hcells, T.sizeOf hI, hi, storeCells, hadd, hst]

def putCells : List Value → Nat → List Value → List Value
  | xs, _, [] => xs
  | xs, o, c :: r => putCells (xs.set o c) (o + 1) r
theorem length_putCells : ∀ (cs xs : List Value) (o : Nat), (putCells xs o cs).length = xs.length
  | [], _, _ => rfl
  | c :: r, xs, o => by simp [putCells, length_putCells r]
theorem set_self {α : Type} {l : List α} {k : Nat} {r : α} (h : l[k]? = some r) : l.set k r = l := by
  apply List.ext_getElem?
  intro j
  rw [List.getElem?_set]
  by_cases e : k = j
  · subst e
    obtain ⟨h1, h2⟩ := List.getElem?_eq_some_iff.1 h
    simp [h1, h2]
  · simp [e]
theorem run_storeCells_own {k b m cp : Nat} {e : TypeId} {sz : Nat} : ∀ (cs : List Value) (o i : Nat) (xs : List Value) (O : List Row) (w : World), Sees w0 h0 h O w → O[k]? = some ⟨some ⟨b, 0, none⟩, m, cp, e, sz, xs⟩ → o + i + cs.length ≤ xs.length → (∀ u ∈ cs, u.oneCell' = true) →
    ∃ w', (storeCells ⟨b, o, none⟩ cs i).run P w = .ok () w' ∧ Sees w0 h0 h (O.set k ⟨some ⟨b, 0, none⟩, m, cp, e, sz, putCells xs (o + i) cs⟩) w'
  | [], o, i, xs, O, w, hs, hO, _, _ => ⟨w, rfl, by rw [putCells, set_self hO]; exact hs⟩
  | c :: r, o, i, xs, O, w, hs, hO, hl, h1 => by
    simp only [List.length_cons] at hl
    have hlt : o + i < xs.length := by omega
    have hok := (hs.own _ (List.mem_of_getElem? hO)).1
    have hfz : w.frozen? ⟨b, o + i, none⟩ = false := World.ownsRow.frozenAt hok (o + i)
    have hcell := hs.rowCell hO (List.getElem?_eq_getElem hlt)
    have hst := run_store P w ⟨b, o + i, none⟩ c .plain (h1 c List.mem_cons_self)
    simp [hcell, hfz] at hst
    have hs1 := hs.setCell hO (o + i) c
    have hklt : k < O.length := (List.getElem?_eq_some_iff.1 hO).1
    obtain ⟨w', hr, hs'⟩ := run_storeCells_own (k := k) (b := b) (m := m) (cp := cp) (e := e) (sz := sz) r o (i + 1) (xs.set (o + i) c) _ _ hs1 (by simp [hklt]) (by simp; omega) (fun u hu => h1 u (List.mem_cons_of_mem _ hu))
    refine ⟨w', ?_, ?_⟩
    · simp only [storeCells, Sem.run_bind, Addr.add_lit, hst, Result.andThen_ok]
      exact hr
    · simpa [putCells, List.set_set, Nat.add_assoc] using hs'
/-- a struct or an array, into a row of the call's own -/
theorem RW.storeN (hs : Sees w0 h0 h O w) (k : Nat) {b o m cp : Nat} {e : TypeId} {sz : Nat} {xs : List Value} (hO : O[k]? = some ⟨some ⟨b, 0, none⟩, m, cp, e, sz, xs⟩) {cs : Array Value} (hx : opv L x = some (.pointer (some ⟨b, o, none⟩))) (hy : opv L y = some (.agg cs)) (hd : dstOk n d = true)
    {i : Inf} (hI : T.inf t = some i) (hi : cs.size = i.size) (hu : ∀ u ∈ cs.toList, u.oneCell' = true) (hl : o + cs.size ≤ xs.length)
    (K : ∀ w', Sees w0 h0 h (O.set k ⟨some ⟨b, 0, none⟩, m, cp, e, sz, putCells xs o cs.toList⟩) w' → RW P n ops Q (updo d undef L) w' rest) :
    RW P n ops Q L w (⟨d, .store t x y, ty, pos, aft, none⟩ :: rest) := by
  obtain ⟨w', hr, hs'⟩ := run_storeCells_own (P := P) cs.toList o 0 xs O w hs hO (by simpa using hl) hu
  refine RW.stepSkip (w' := w') ?_ hd (K _ (by simpa using hs'))
  intro a ha
  simp [execOp, Instr.storeAt, Instr.sureAddr, ha.eval hx, ha.eval hy, storeVar, Value.cells, T.sizeOf hI, hi, hr]

/-- a variable in a block of its own -/
theorem RW.box (hs : Sees w0 h0 h O w) {e : TypeId} {v : Value} (hx : opv L x = some v) (hd : dstOk n d = true)
    (K : ∀ b w', Sees w0 h0 h (⟨some ⟨b, 0, none⟩, 1, 1, e, v.cells.size, v.cells.toList⟩ :: O) w' → RW P n ops Q (updo d (.pointer (some ⟨b, 0, none⟩)) L) w' rest) :
    RW P n ops Q L w (⟨d, .box e x, ty, pos, aft, none⟩ :: rest) := by
  refine RW.step (w' := w.alloc (.cells v.cells e)) ?_ hd (K w.heap.size _ ?_)
  · intro a ha
    simp [execOp, Instr.box, newVar, newRow, ha.eval hx]
  · have := hs.alloc (cs := v.cells.toList) (e := e) (sz := v.cells.size) (n := 1) (cap := 1) (xs := v.cells.toList) (Nat.le_refl _) (by simp [maxLen]) (by simp) (List.take_of_length_le (by simp))
    simpa using this
theorem RW.alloc (hs : Sees w0 h0 h O w) {e : TypeId} {i : Inf} (hI : T.inf e = some i) (hd : dstOk n d = true)
    (K : ∀ b w', Sees w0 h0 h (⟨some ⟨b, 0, none⟩, 1, 1, e, i.zero.cells.size, i.zero.cells.toList⟩ :: O) w' → RW P n ops Q (updo d (.pointer (some ⟨b, 0, none⟩)) L) w' rest) :
    RW P n ops Q L w (⟨d, .alloc e, ty, pos, aft, none⟩ :: rest) := by
  refine RW.step (w' := w.alloc (.cells i.zero.cells e)) ?_ hd (K w.heap.size _ ?_)
  · intro a ha
    simp [execOp, Instr.alloc, newVar, newRow, T.zeroValue hI]
  · have := hs.alloc (cs := i.zero.cells.toList) (e := e) (sz := i.zero.cells.size) (n := 1) (cap := 1) (xs := i.zero.cells.toList) (Nat.le_refl _) (by simp [maxLen]) (by simp) (List.take_of_length_le (by simp))
    simpa using this
theorem RW.make (hs : Sees w0 h0 h O w) {e : TypeId} {i : Inf} {kl kc : IntKind} {l c : Int} (hT : T.ty t = some (.slice e)) (hI : T.inf e = some i) (hx : opv L x = some (.int kl l)) (hy : opv L y = some (.int kc c)) (hd : dstOk n d = true)
    (h0' : 0 ≤ l) (hlc : l ≤ c) (hb : (i.bytes : Int) * c ≤ 281474976710656) (hc : c ≤ 9223372036854775807)
    (K : ∀ b w', Sees w0 h0 h (⟨some ⟨b, 0, none⟩, l.toNat, c.toNat, e, i.size, (madeCells i.zero.cells (l.toNat * i.size)).toList⟩ :: O) w' → RW P n ops Q (updo d (.slice (some ⟨b, 0, none⟩) l.toNat c.toNat) L) w' rest) :
    RW P n ops Q L w (⟨d, .makeSlice t x y, ty, pos, aft, none⟩ :: rest) := by
  have ht : P.underlying t = some (.slice e) := T.ty_ok _ _ hT
  obtain ⟨z, hi, hi1, hi2, hi3⟩ := T.inf_ok _ _ hI
  have hr := run_make (P := P) w t e z i.zero ht hi hi3 kl kc l c h0' hlc (by rw [hi2]; exact hb) hc
  refine RW.step (w' := w.alloc (.cells (madeCells i.zero.cells (c.toNat * z.size)) e)) ?_ hd (K w.heap.size _ ?_)
  · intro a ha
    simp [execOp, ha.eval hx, ha.eval hy, hr]
  · rw [hi1]
    have := hs.alloc (cs := (madeCells i.zero.cells (c.toNat * i.size)).toList) (e := e) (sz := i.size) (n := l.toNat) (cap := c.toNat) (xs := (madeCells i.zero.cells (l.toNat * i.size)).toList) (by omega) (by simp [maxLen]; omega) (by simp [size_madeCells]) ?_
    · simpa using this
    · have hle : l.toNat * i.size ≤ c.toNat * i.size := Nat.mul_le_mul_right _ (by omega)
      apply List.ext_getElem?
      intro j
      rw [List.getElem?_take]
      by_cases hj : j < l.toNat * i.size
      · have hj2 : j < c.toNat * i.size := by omega
        simp [madeCells, hj, hj2]
      · simp [madeCells, hj]

/-! ## Calls -/
theorem RW.callV (hs : Sees w0 h0 h O w) {f : FuncId} {l : List Operand} {vs fi ca : List Value} {cl : Operand} (hcl : opv L cl = some (.func (.func f) fi.toArray ca.toArray)) (hargs : opvs L l = some vs) (hf : T.call f = true) (hd : dstOk n d = true) {ats : Array TypeId} {post : GHeap → Value → Prop} (hc : Con P f (fi ++ vs ++ ca) w h post)
    (K : ∀ v h' w', GLe h h' → post h' v → Sees w0 h0 h' O w' → RW P n ops Q (updo d v L) w' rest) :
    RW P n ops Q L w (⟨d, .call ⟨.value cl, l.toArray, ats⟩, ty, pos, aft, none⟩ :: rest) := by
  intro a ha
  unfold wpList
  rw [if_pos (by simp [Region.wanted])]
  refine .inl ?_
  obtain ⟨fn, hfn, hname, hbody⟩ := T.call_ok f hf
  unfold Oper.wp
  have hrun : (execOp a.eval ⟨d, .call ⟨.value cl, l.toArray, ats⟩, ty, pos, aft, none⟩).run P w = .ok (.enter f (fi ++ vs ++ ca).toArray) w := by
    have hargs' : l.map a.eval = vs := ha.evals hargs
    have hname' : ¬ fn.name = "runtime.NumGoroutine" := by simpa using hname
    have hbody' : ¬ fn.body = none := fun e => by rw [e] at hbody; simp at hbody
    simp [execOp, resolve, Deferred.ofValue, ha.eval hcl, invoke, callFunc, hfn, hname', hbody', ← hargs']
  rw [hrun]
  refine (hc hs.agree).mono ?_
  rintro e w' ⟨v, h', rfl, hs', hp⟩
  exact K v h' w' hs'.le hp (hs.call hs') _ (ha.put v hd)
theorem RW.call (hs : Sees w0 h0 h O w) {f : FuncId} {l : List Operand} {vs : List Value} (hargs : opvs L l = some vs) (hf : T.call f = true) (hd : dstOk n d = true) {ats : Array TypeId} {post : GHeap → Value → Prop} (hc : Con P f vs w h post)
    (K : ∀ v h' w', GLe h h' → post h' v → Sees w0 h0 h' O w' → RW P n ops Q (updo d v L) w' rest) :
    RW P n ops Q L w (⟨d, .call ⟨.value (.func f), l.toArray, ats⟩, ty, pos, aft, none⟩ :: rest) :=
  RW.callV (fi := []) (ca := []) (vs := vs) T hs rfl hargs hf hd (by simpa using hc) K
end
end Go.Proofs.Ytdpkioffihebnaa
