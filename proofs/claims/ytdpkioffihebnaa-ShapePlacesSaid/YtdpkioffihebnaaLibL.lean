/-
  From a contract of a law to its row: the arguments read out of memory into the ghost heap. No statement is proved here.
-/
import Derived.Test.YtdpkioffihebnaaLibI
import Derived.ProofKit
import Derived.OpenShut
import Derived.ChangeOld
namespace Go.Proofs.Ytdpkioffihebnaa
open Go Go.RowKit Go.ChangeShapes Go.WideShapes Go.ChangeAt

theorem Con.walk {P : Program} {f : FuncId} {vs : List Value} {w : World} {v : Value} (hc : Con P f vs w (ghost w) (fun _ u => u = v)) : Calls P f vs.toArray w fun e w' => e = .returned v ∧ Below w.heap.size w w' := by
  refine (hc (ghost_agree w)).mono ?_
  rintro e w' ⟨u, h', rfl, hs, rfl⟩
  exact ⟨rfl, hs.below⟩
theorem ghost_cell {w : World} {b o : Nat} {v : Value} (h : w.cell? ⟨b, o, none⟩ = some v) : ∃ cs, ghost w b = some cs ∧ cs[o]? = some v := by
  unfold World.cell? at h
  unfold ghost
  split at h
  · rename_i c e fr hb
    simp only at hb
    rw [hb]
    exact ⟨c.toList, rfl, by simpa using h⟩
  · cases h
theorem cell_spot {w : World} {p : Addr} {v : Value} (h : w.cell? p = some v) : p.spot = none := by
  unfold World.cell? at h
  split at h
  · cases hs : p.spot with
    | none => rfl
    | some x => simp [hs] at h
  · cases h
/-- cells that are known one by one, as a slice of the ghost heap -/
theorem sl_of_cells {w : World} {a : Addr} {n cp sz : Nat} {xs : List Value} (hl : xs.length = n * sz) (hn : n ≤ cp) (hm : cp ≤ maxLen) (hz : 0 < sz) (hc : ∀ j u, xs[j]? = some u → w.cell? (a.add j) = some u) : Sl (ghost w) sz (some a) n cp xs := by
  refine ⟨hl, hn, hm, by simp, fun p hp => ?_⟩
  cases hp
  have hsp : n = 0 ∨ a.spot = none := by
    rcases Nat.eq_zero_or_pos n with h | h
    · exact .inl h
    · right
      have hpos : 0 < xs.length := by rw [hl]; exact Nat.mul_pos h hz
      have := hc 0 xs[0] (List.getElem?_eq_getElem hpos)
      rw [Addr.add_zero'] at this
      exact cell_spot this
  refine ⟨hsp, fun j hj => ?_⟩
  have hj' : j < xs.length := by rw [hl]; exact hj
  have h1 := hc j xs[j] (List.getElem?_eq_getElem hj')
  have hsp' : a.spot = none := hsp.resolve_left (fun e => by rw [e, Nat.zero_mul] at hj; omega)
  have hadd : a.add j = ⟨a.block, a.off + j, none⟩ := by
    cases a with | mk b o s => simp at hsp'; subst hsp'; exact Addr.add_lit _ _ _
  rw [hadd] at h1
  obtain ⟨cs, h2, h3⟩ := ghost_cell h1
  exact ⟨cs, h2, by rw [h3, List.getElem?_eq_getElem hj']⟩
theorem sl_nil (h : GHeap) (sz : Nat) : Sl h sz none 0 0 [] := ⟨by simp, Nat.le_refl _, by simp [maxLen], fun _ => rfl, fun p hp => by cases hp⟩
/-- a slice of integers that came in -/
theorem open_intsG {H : Type} {enc : TypeId × Value → H} {P : Program} {w : World} {held : Bool} {t e : TypeId} {k : IntKind} {r : Reach} {b0 : Nat} {v : Value} {d : DataW H} {ps : List MemPlace}
    (ht : P.underlying t = some (.slice e)) (he : P.underlying e = some (.int k)) (hc : P.cellsOf e = 1) (hv : Value.okWide P w r b0 t v) (hd : DataW.Trod enc P w 0 (fun _ => true) held t v d ps) :
    ∃ (ad : Option Addr) (cp : Nat) (l : List Int), v = .slice ad l.length cp ∧ Sl (ghost w) 1 ad l.length cp (l.map (Value.int k)) ∧ (∀ x ∈ l, (Lit.int k x).wf = true) ∧ cp ≤ 9223372036854775807 := by
  obtain ⟨a0, len0, cap0, rfl⟩ := okWide_slice ht hv
  obtain ⟨fuel, hf⟩ := hd
  rcases open_ints ht he hc hf with ⟨hcs, _⟩ | ⟨x, l, c, zs, hcs, _, hl, hm, hz, _, hcell, hwz⟩
  · simp [Value.cells] at hcs
    obtain ⟨rfl, rfl, rfl⟩ := hcs
    exact ⟨none, 0, [], rfl, sl_nil _ 1, by simp, by omega⟩
  · simp [Value.cells] at hcs
    obtain ⟨rfl, rfl, rfl⟩ := hcs
    have hzl : zs.length = cap0 := by simpa using hz
    have hlen : (zs.take len0).length = len0 := by rw [List.length_take]; omega
    refine ⟨some x, cap0, zs.take len0, by rw [hlen], ?_, fun y hy => hwz y (List.mem_of_mem_take hy), by simpa [maxLen] using hm⟩
    rw [hlen]
    refine sl_of_cells (by simp; omega) hl hm (by omega) ?_
    intro j u hj
    rw [List.getElem?_map] at hj
    have hj2 : j < len0 := by
      rcases Nat.lt_or_ge j len0 with h | h
      · exact h
      · rw [List.getElem?_eq_none (by omega)] at hj; simp at hj
    rw [hcell j (by omega)]
    rw [List.getElem?_take, if_pos hj2, List.getElem?_eq_getElem (by omega)] at hj
    simp at hj
    rw [← hj, List.getD_eq_getElem?_getD, List.getElem?_eq_getElem (by omega)]
    rfl
theorem open_IntsAt {H : Type} {enc : TypeId × Value → H} {P : Program} {w : World} {held : Bool} {t e : TypeId} {r : Reach} {b0 : Nat} {v : Value} {d : DataW H} {ps : List MemPlace}
    (ht : P.underlying t = some (.slice e)) (he : P.underlying e = some (.int .i64)) (hc : P.cellsOf e = 1) (hv : Value.okWide P w r b0 t v) (hd : DataW.Trod enc P w 0 (fun _ => true) held t v d ps) :
    ∃ l, IntsAt (ghost w) v l ∧ (∀ x ∈ l, -9223372036854775808 ≤ x ∧ x ≤ 9223372036854775807) ∧ l.length ≤ 9223372036854775807 := by
  obtain ⟨ad, cp, l, rfl, hS, hw, hcp⟩ := open_intsG ht he hc hv hd
  refine ⟨l, ⟨ad, cp, rfl, hS⟩, fun x hx => ?_, by have := hS.caps; omega⟩
  have := hw x hx
  simp [Lit.wf, IntKind.min, IntKind.max, IntKind.signed, IntKind.bits] at this
  omega
end Go.Proofs.Ytdpkioffihebnaa
