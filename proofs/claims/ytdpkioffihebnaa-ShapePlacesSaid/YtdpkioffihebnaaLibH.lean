/-
  The program logic, eighth part: elements of rows of the call's own, slices of integers. No statement is proved here.
-/
import Derived.Test.YtdpkioffihebnaaLibG
namespace Go.Proofs.Ytdpkioffihebnaa
open Go Go.RowKit

/-- a slice of int in the ghost heap -/
def IntsAt (h : GHeap) (v : Value) (l : List Int) : Prop := ∃ ad cp, v = .slice ad l.length cp ∧ Sl h 1 ad l.length cp (l.map (Value.int .i64))
theorem IntsAt.mono {h h' : GHeap} {v : Value} {l : List Int} (hl : GLe h h') (hi : IntsAt h v l) : IntsAt h' v l := let ⟨a, c, e, s⟩ := hi; ⟨a, c, e, s.mono hl⟩
theorem IntsAt.nil (h : GHeap) : IntsAt h (.slice none 0 0) [] := ⟨none, 0, rfl, rfl, Nat.le_refl _, by simp [maxLen], fun _ => rfl, fun p hp => by cases hp⟩
theorem IntsAt.of_sl {h : GHeap} {ad : Option Addr} {n cp : Nat} {l : List Int} (hS : Sl h 1 ad n cp (l.map (Value.int .i64))) : IntsAt h (.slice ad n cp) l := by
  have : n = l.length := by have := hS.1; simp at this; omega
  subst this
  exact ⟨ad, cp, rfl, hS⟩
theorem one_ints (k : IntKind) (l : List Int) : ∀ u ∈ l.map (Value.int k), u.oneCell' = true := by
  intro u hu; obtain ⟨x, _, rfl⟩ := List.mem_map.1 hu; rfl
theorem made_one (v : Value) (n : Nat) : (madeCells #[v] (n * 1)).toList = List.replicate n v := by rw [Nat.mul_one]; exact toList_madeCells_one v n
theorem map_set_int (k : IntKind) (l : List Int) (j : Nat) (v : Int) : (l.map (Value.int k)).set j (.int k v) = (l.set j v).map (Value.int k) := by
  apply List.ext_getElem?
  intro i
  simp only [List.getElem?_set, List.getElem?_map, List.length_map]
  by_cases e : j = i
  · subst e; by_cases h : j < l.length <;> simp [h]
  · simp [e]
theorem seti {k : IntKind} {a b : Int} (h : a = b) : some (Value.int k a) = some (Value.int k b) := by rw [h]
theorem setb {a b : Bool} (h : a = b) : some (Value.bool a) = some (Value.bool b) := by rw [h]
theorem Sl.nil0 {h : GHeap} {sz n cp : Nat} {xs : List Value} (hS : Sl h sz none n cp xs) : n = 0 ∧ cp = 0 := by
  have h1 := hS.2.2.2.1 rfl
  have h2 := hS.2.1
  exact ⟨by omega, h1⟩
theorem Sl.length {h : GHeap} {ad : Option Addr} {sz n cp : Nat} {xs : List Value} (hS : Sl h sz ad n cp xs) : xs.length = n * sz := hS.1
theorem Sl.caps {h : GHeap} {ad : Option Addr} {sz n cp : Nat} {xs : List Value} (hS : Sl h sz ad n cp xs) : n ≤ cp ∧ cp ≤ 9223372036854775807 := ⟨hS.2.1, by have := hS.2.2.1; simp only [maxLen] at this; omega⟩
end Go.Proofs.Ytdpkioffihebnaa
