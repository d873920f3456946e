/-
  Own texts of the claim, merged: Wa, Wb, LibZ, PlainW, Ta, Tb, PlainX, Tc, PlainY, PlainZ, Td, Te, Tf, Ua, PlAa, PlAb, PlainV, PlAc, PlAd, Ud, Ue, Ip, Uf, Uh, Ui, Uj, Uk, Ul, Um, Wg, Wd, Wi, We, Wj. Lemmas of the proof; no statement is proved here.
-/
import Derived.Test.YtmojpbfkpggjhaaGreatDoorMc
/-
  Contracts of base.ints, of the document's ints, of the origin, and of errors shown. No statement is proved here.
-/
namespace Go.Proofs.YtmojpbfkpggjhaaGreatDoor
open Go Go.RowKit
set_option linter.unusedVariables false
set_option linter.unusedSimpArgs false
set_option maxHeartbeats 4000000
attribute [local irreducible] CW RW QW SW HW ConM retM heldQ calmQ elemP thenQ blockQ loopQ joinQ retQ Yields Con Sl zF magR unitF truncF fwF wholeF tidySpec elemQ rankF leastN tidyW
set_option maxHeartbeats 4000000
attribute [local irreducible] mixN wrN wr32 keyIt keyP

def plusL (l : List Int) (o : Int) : List Int := l.map fun n => n + o
theorem plusL_len (l : List Int) (o : Int) : (plusL l o).length = l.length := List.length_map ..
def orgN (b : Bool) : Int := if b = true then 1 else 0
theorem orgN_rng (b : Bool) : 0 ≤ orgN b ∧ orgN b ≤ 1 := by cases b <;> decide
theorem origin27_con (b : Bool) (w : World) (h : GHeap) : Con Tryz.prog 18 [.bool b] w h (fun _ u => u = .int .i64 (orgN b)) := by
  cases b
  · refine Con.of_body Tryz.func18 rfl Tryz.ntmps18 rfl rfl ?_
    intro hs
    refine Zerun ?_
    exact retQ_ret [_] h ⟨rfl, trivial⟩ hs.dropAll rfl
  · refine Con.of_body Tryz.func18 rfl Tryz.ntmps18 rfl rfl ?_
    intro hs
    refine Zerun ?_
    exact retQ_ret [_] h ⟨rfl, trivial⟩ hs.dropAll rfl
theorem memD (l : List Int) (i : Nat) (h : i < l.length) : l.getD i 0 ∈ l := by
  rw [List.getD_eq_getElem?_getD, List.getElem?_eq_getElem h]; exact List.getElem_mem h
theorem plusL_tidy (l : List Int) (o : Int) (hr : ∀ n ∈ l, -4503599627370496 ≤ n + o ∧ n + o ≤ 4503599627370496) : ∀ u ∈ (plusL l o).map fwF, tidyF u := by
  intro u hu
  obtain ⟨c, hc, rfl⟩ := List.mem_map.1 hu
  obtain ⟨n, hn, rfl⟩ := List.mem_map.1 hc
  have := hr n hn
  exact (fwF_spec _ (by omega)).1
theorem baseInts_con (k : Nat) (s : Value) (l : List Int) (o : Int) (w : World) (h : GHeap) (hl : IntsAt h s l) (hr : ∀ n ∈ l, -4503599627370496 ≤ n + o ∧ n + o ≤ 4503599627370496) (hm : l.length ≤ 1048576) : Con Tryz.prog 63 [s, .int .i64 o] w h (fun h' u => ∃ cs', u = .agg cs'.toArray ∧ ArrAt (k + 1) h' cs' (numsA k ((plusL l o).map fwF))) := by
  obtain ⟨ad, cp, rfl, hS⟩ := hl
  refine Con.of_body Tryz.func63 rfl Tryz.ntmps63 rfl rfl ?_
  intro hs
  refine Zrun ?_
  (refine RW.allocN T hs rfl rfl rfl rfl ?_; intro b1 w1 hs)
  refine Zerun ?_
  (refine RW.make1 T hs rfl rfl rfl rfl rfl rfl rfl (by dsimp only; omega) (by omega) ?_; intro b2 w2 hs)
  have hs := hs.re (ys := (((l.take 0).map fun n => n + o) ++ List.replicate (l.length - 0) 0).map (Value.int .i64)) (by rw [List.map_append, List.map_replicate]; rfl)
  refine Zerun ?_
  refine CW.loop (fun i : Nat => [(1, .int .i64 o), (4, .pointer (some ⟨b1, 0, none⟩)), (5, .slice (some ⟨b2, 0, none⟩) l.length l.length), (13, .slice ad l.length cp), (14, .int .i64 l.length), (15, .int .i64 i)]) (fun i w' => i ≤ l.length ∧ Sees w h h [⟨some ⟨b2, 0, none⟩, l.length, l.length, 2, 1, (((l.take i).map fun n => n + o) ++ List.replicate (l.length - i) 0).map (Value.int .i64)⟩, ⟨some ⟨b1, 0, none⟩, 1, 1, 40, 9, .slice none 0 0 :: vecCells 0 (.slice none 0 0) 0 (.slice none 0 0) (.slice none 0 0) (.slice none 0 0) (.slice none 0 0) (.slice none 0 0)⟩] w') (fun i => l.length - i) 0 ⟨rfl, rfl, rfl, rfl, rfl, rfl, trivial⟩ ⟨by omega, hs⟩ ?_
  rintro i w3 ⟨hi, hs⟩
  by_cases hlt : i < l.length
  · have gi := map_get (Value.int .i64) l i 0 hlt
    have hri := hr _ (memD l i hlt)
    have htm := takeMap (fun n => n + o) l hlt 0
    have hAl : ((l.take i).map fun n => n + o).length = i := by rw [List.length_map, List.length_take]; omega
    refine Zerun ?_
    refine RW.val (Y.idxRN T hs 0 rfl rfl rfl rfl rfl rfl hlt) rfl ?_
    refine RW.st1 T hs 0 rfl rfl rfl rfl rfl rfl rfl hlt ?_
    intro w4 hs
    dsimp only [List.set_cons_zero, List.set_cons_succ] at hs
    rw [map_set_int, fillA hAl hlt, ← htm] at hs
    refine Zerun ?_
    exact loopQ_round (i + 1) ⟨rfl, rfl, rfl, rfl, rfl, seti (by omega), trivial⟩ ⟨by omega, hs⟩ (by omega)
  obtain rfl : i = l.length := by omega
  rw [List.take_length, Nat.sub_self, List.replicate_zero, List.append_nil] at hs
  obtain ⟨h4, hle4, hs, hS4⟩ := hs.freeze
  have hDl := plusL_len l o
  dsimp only at hS4
  rw [← hDl] at hS4 ⊢
  have hK4 : KAt .i64 h4 (.slice (some ⟨b2, 0, none⟩) (plusL l o).length (plusL l o).length) (plusL l o) := RowAt.of_sl hS4
  refine Zerun ?_
  (refine RW.call T hs rfl rfl rfl (vecInts_con (α := AD k) (R := ArrAt k) _ (plusL l o) _ _ hK4 (by omega)) ?_; intro v h5 w5 hle5 hp5 hs)
  obtain ⟨cs5, ok, rfl, hok, hv5⟩ := hp5
  rw [decide_eq_true (fun u hu => by obtain ⟨n, hn, rfl⟩ := List.mem_map.1 hu; have := hr n hn; omega)] at hok
  subst hok
  rw [if_pos rfl] at hv5
  have hv5' := hv5
  obtain ⟨wv, nv, sm, il, fl, ch, bx, ⟨rfl, hoc⟩, -⟩ := hv5
  refine Zerun ?_
  (refine RW.allocN T hs rfl rfl rfl rfl ?_; intro b6 w6 hs)
  (refine RW.storeAll T hs 0 rfl rfl rfl rfl rfl rfl hoc rfl ?_; intro w7 hs)
  refine Zerun ?_
  (refine RW.call T hs rfl rfl rfl (valueList_con (ArrAt.mono k) _ _ _ _ hv5' (by show ((plusL l o).map fwF).length + 0 + 0 ≤ 1048576; rw [List.length_map]; omega)) ?_; intro v h8 w8 hle8 hp8 hs)
  obtain ⟨cs8, rfl, ha8⟩ := hp8
  rw [sq_nums3] at ha8
  have ha8' : ArrAt (k + 1) h8 cs8 (numsA k ((plusL l o).map fwF)) := ha8
  obtain ⟨_, vc8, rfl, ⟨ad8, cp8, rfl, _⟩, hv8⟩ := ha8
  obtain ⟨wv8, nv8, sm8, il8, fl8, ch8, bx8, ⟨rfl, hoc8⟩, -⟩ := hv8
  refine Zerun ?_
  (refine RW.storeAll T hs 1 rfl rfl rfl rfl rfl rfl (by show (Value.oneCell' (.slice ad8 _ cp8) && (vecCells _ wv8 nv8 sm8 il8 fl8 ch8 bx8).all Value.oneCell') = true; rw [hoc8]; rfl) rfl ?_; intro w9 hs)
  refine Zerun ?_
  exact retQ_ret [_] h8 ⟨resN T hs 1 rfl rfl rfl rfl rfl rfl, trivial⟩ hs.dropAll ⟨_, rfl, ha8'⟩
theorem ref27Ints_con {α : Type} {R : GHeap → List Value → α → Prop} (hR : Mono R) (s : Value) (l : List Int) (o : Int) (w : World) (h : GHeap) (hl : IntsAt h s l) (hr : ∀ n ∈ l, -4503599627370496 ≤ n + o ∧ n + o ≤ 4503599627370496) (hm : l.length ≤ 1048576) : Con Tryz.prog 65 [s, .int .i64 o] w h (fun h' u => ∃ cs', u = .agg cs'.toArray ∧ PlainR R h' cs' (numsP ((plusL l o).map fwF))) := by
  obtain ⟨ad, cp, rfl, hS⟩ := hl
  refine Con.of_body Tryz.func65 rfl Tryz.ntmps65 rfl rfl ?_
  intro hs
  refine Zrun ?_
  (refine RW.allocN T hs rfl rfl rfl rfl ?_; intro b1 w1 hs)
  have hs := hs.nilRow 67 1
  refine Zerun ?_
  refine CW.loop (fun u : Nat × (Option Addr × Nat) => [(0, .slice ad l.length cp), (1, .int .i64 o), (4, .pointer (some ⟨b1, 0, none⟩)), (5, .slice u.2.1 u.1 u.2.2), (6, .int .i64 u.1)]) (fun u w' => u.1 ≤ l.length ∧ Sees w h h [⟨u.2.1, u.1, u.2.2, 67, 1, (((l.take u.1).map fun n => n + o).map fwF).map (Value.float .f64)⟩, ⟨some ⟨b1, 0, none⟩, 1, 1, 25, 3, [.slice none 0 0, .slice none 0 0, .int .i64 0]⟩] w') (fun u => l.length - u.1) (0, (none, 0)) ⟨rfl, rfl, rfl, rfl, rfl, trivial⟩ ⟨by omega, hs⟩ ?_
  rintro ⟨i, ⟨ai, ci⟩⟩ w5 ⟨hi, hs⟩
  dsimp only at hi hs ⊢
  by_cases hlt : i < l.length
  · have gi := map_get (Value.int .i64) l i 0 hlt
    have hri := hr _ (memD l i hlt)
    have htm := takeMap (fun n => n + o) l hlt 0
    obtain ⟨e, he⟩ : ∃ e, l.getD i 0 = e := ⟨_, rfl⟩
    rw [he] at gi hri htm
    refine Zerun ?_
    rw [he]
    refine RW.val (Y.convIF T rfl rfl rfl) rfl ?_
    (refine RW.lit T hs (vs := [.float .f64 (fwF (e + o))]) (cs := [.float .f64 (fwF (e + o))]) rfl rfl rfl rfl (by simp [Value.cells]) rfl rfl rfl rfl rfl ?_; intro b33 w33 hs)
    (refine RW.append T hs 1 rfl rfl (m := 1) (news := [.float .f64 (fwF (e + o))]) rfl rfl rfl rfl rfl rfl (hs.src0 rfl (by simp [Value.oneCell'])) (by simp) (by dsimp only; omega) (by omega) ?_; intro ad34 cp34 w34 hs; replace hs := hs.drop)
    refine Zerun ?_
    refine loopQ_round (i + 1, (ad34, cp34)) ⟨rfl, rfl, rfl, rfl, seti (by dsimp only; omega), trivial⟩ ⟨by dsimp only; omega, ?_⟩ (by dsimp only; omega)
    dsimp only
    rw [htm, List.map_append, List.map_append]
    exact hs
  obtain rfl : i = l.length := by omega
  rw [List.take_length] at hs
  obtain ⟨h8, hle8, hs, hS8⟩ := hs.freeze
  have hln : ((plusL l o).map fwF).length = l.length := by rw [List.length_map, plusL_len]
  dsimp only at hS8
  rw [← hln] at hS8 ⊢
  have hF : FAt h8 (.slice ai ((plusL l o).map fwF).length ci) ((plusL l o).map fwF) := RowAt.of_sl hS8
  have htd := plusL_tidy l o hr
  refine Zerun ?_
  (refine RW.call T hs rfl rfl rfl (refNums_con hR _ _ _ _ hF (fun u hu => (htd u hu).1) (by omega)) ?_; intro v h9 w9 hle9 hp9 hs)
  obtain ⟨cs9, rfl, hq9⟩ := hp9
  have hq9' := hq9
  obtain ⟨s9, it9, rfl, ⟨ad9, cp9, rfl, _⟩, ⟨adI9, cpI9, xsI9, rfl, _, _⟩⟩ := hq9
  refine Zerun ?_
  (refine RW.storeAll T hs 0 rfl rfl rfl rfl rfl rfl rfl rfl ?_; intro w10 hs)
  refine Zerun ?_
  exact retQ_ret [_] h9 ⟨resN T hs 0 rfl rfl rfl rfl rfl rfl, trivial⟩ hs.dropAll ⟨_, rfl, hq9'⟩
theorem shows27E_con {α β : Type} {R : GHeap → List Value → α → Prop} {Rq : GHeap → List Value → β → Prop} (cs cp : List Value) (p : PlainD β) (e : Int) (w : World) (h : GHeap) (he : e = 22 ∨ e = 23 ∨ e = 24 ∨ e = 26) (ha : ArrR R h cs ⟨[], VecD.none⟩) (hp : PlainR Rq h cp p) : Con Tryz.prog 16 [.agg cs.toArray, .int .i64 e, .agg cp.toArray, .int .i64 e] w h (fun _ u => u = .bool true) := by
  obtain ⟨_, vc, rfl, ⟨ad, cap, rfl, _⟩, hv⟩ := ha
  have hv' := hv
  obtain ⟨wv, nv, sm, il, fl, ch, bx, ⟨rfl, hoc⟩, _⟩ := hv
  obtain ⟨s2, it2, rfl, ⟨ad2, cp2, rfl, _⟩, ⟨ad3, cp3, xs3, rfl, _, _⟩⟩ := hp
  rcases he with rfl | rfl | rfl | rfl
  all_goals
    refine Con.of_body Tryz.func16 rfl Tryz.ntmps16 rfl rfl ?_
    intro hs
    refine Zrun ?_
    (refine RW.boxN hs rfl rfl ?_; intro b1 w1 hs)
    refine Zrun ?_
    (refine RW.boxN hs rfl rfl ?_; intro b2 w2 hs)
    refine Zerun ?_
    (refine RW.call T hs rfl rfl rfl (vecKind_con _ VecD.none _ _ hv') ?_; intro v h3 w3 hle3 hp3 hs)
    subst hp3
    refine Zerun ?_
    exact retQ_ret [_] h3 ⟨rfl, trivial⟩ hs.dropAll rfl
end Go.Proofs.YtmojpbfkpggjhaaGreatDoor

/-
  Contracts of base.IndexOf, base.Member and of the document's answers to them. No statement is proved here.
-/
namespace Go.Proofs.YtmojpbfkpggjhaaGreatDoor
open Go Go.RowKit
set_option linter.unusedVariables false
set_option linter.unusedSimpArgs false
set_option maxHeartbeats 4000000
attribute [local irreducible] CW RW QW SW HW ConM retM heldQ calmQ elemP thenQ blockQ loopQ joinQ retQ Yields Con Sl zF magR unitF truncF fwF wholeF tidySpec elemQ rankF leastN tidyW
set_option maxHeartbeats 4000000
attribute [local irreducible] mixN wrN wr32 keyIt keyP

def zeroP {α : Type} : PlainD α := ⟨[], [], 0⟩
section
variable {k : Nat}
end
end Go.Proofs.YtmojpbfkpggjhaaGreatDoor

/-
  The program logic, further parts: elements of a reslice of an own row, copies into an own row, slices of truths that came in. No statement is proved here.
-/
namespace Go.Proofs.YtmojpbfkpggjhaaGreatDoor
open Go Go.RowKit
set_option linter.unusedVariables false
set_option linter.unusedSimpArgs false

section
open Go.ChangeShapes Go.WideShapes Go.ChangeAt
variable {H : Type} {enc : TypeId × Value → H} {P : Program} {w : World} {base : Nat} {spare : Nat → Bool} {held : Bool} {fuel n : Nat} {t e : TypeId} {cs : List Value} {x : DataW H × List MemPlace}
theorem open_bools (ht : P.underlying t = some (.slice e)) (he : P.underlying e = some .bool) (hc : P.cellsOf e = 1) (h : DataW.trod enc P w base spare held fuel t cs = some x) :
    ∃ v l, cs = [v] ∧ TAt (ghost w) v l ∧ l.length ≤ 9223372036854775807 := by
  obtain ⟨v, l, h1, h2, h3⟩ := open_rows (R := fun cs (a : Bool) => cs = [.bool a]) ht hc (by omega) (fun n _ cs x h => by
    obtain ⟨b, hb, _⟩ := DataW.trod_bool he h
    exact ⟨b, hb⟩) h
  exact ⟨v, l, h1, RowsAt.row h2, h3⟩
end
section
variable {P : Program} (T : Tab P) {n : Nat} {Q : Post} {L : Env} {w0 w : World} {h0 h : GHeap} {O : List Row} {ops rest : List Oper} {x y : Operand} {t t2 : TypeId}
variable {d : Option Tmp} {ty : TypeId} {pos : String} {aft : Array Edge}
theorem Sl.cap0 {ad : Option Addr} {m cp sz : Nat} {xs : List Value} (hS : Sl h sz ad m cp xs) : ad = none → cp = 0 := hS.2.2.2.1
/-- cells of a part of an own row, as a copy takes them -/
theorem Sees.part (hs : Sees w0 h0 h O w) (k : Nat) {b o m cp : Nat} {e : TypeId} {xs news : List Value} (hO : O[k]? = some ⟨some ⟨b, 0, none⟩, m, cp, e, 1, xs⟩) (hn : ∀ j v, news[j]? = some v → xs[o + j]? = some v) : ∀ j v, news[j]? = some v → w.cell? ((⟨b, o, none⟩ : Addr).add j) = some v := by
  intro j v hj
  rw [Addr.add_lit]
  exact hs.rowCell hO (hn j v hj)
end
end Go.Proofs.YtmojpbfkpggjhaaGreatDoor

/-
  Plain facts on keys that have the order of whole numbers and characters, and on the bits in which keys differ. No program is in sight, and no statement is proved here.
-/
namespace Go.Proofs.YtmojpbfkpggjhaaGreatDoor

end Go.Proofs.YtmojpbfkpggjhaaGreatDoor

/-
  Contracts of package radix: keys, and the bits in which they differ. No statement is proved here.
-/
namespace Go.Proofs.YtmojpbfkpggjhaaGreatDoor
open Go Go.RowKit
set_option linter.unusedVariables false
set_option linter.unusedSimpArgs false
set_option maxHeartbeats 4000000
attribute [local irreducible] CW RW QW SW HW ConM retM heldQ calmQ elemP thenQ blockQ loopQ joinQ retQ Yields Con Sl zF magR unitF truncF fwF wholeF tidySpec
set_option maxHeartbeats 4000000
attribute [local irreducible] rankF leastN

section
variable {P : Program} {n : Nat} {L : Env} {w : World} {ty : TypeId} {x y : Operand} {t yt : TypeId} {u v : Nat}
end
section
variable {α : Type} {R : GHeap → List Value → α → Prop}
end
end Go.Proofs.YtmojpbfkpggjhaaGreatDoor

/-
  Contract of a pass of package radix: the array of counts, and the place in a digit. No statement is proved here.
-/
namespace Go.Proofs.YtmojpbfkpggjhaaGreatDoor
open Go Go.RowKit
set_option linter.unusedVariables false
set_option linter.unusedSimpArgs false
set_option maxHeartbeats 4000000
attribute [local irreducible] CW RW QW SW HW ConM retM heldQ calmQ elemP thenQ blockQ loopQ joinQ retQ Yields Con Sl zF magR unitF truncF fwF wholeF tidySpec
set_option maxHeartbeats 4000000

section
variable {P : Program} {n : Nat} {Q : Post} {L : Env} {w0 w : World} {h0 h : GHeap} {O : List Row} {ops rest : List Oper}
variable {d : Option Tmp} {ty : TypeId} {pos : String} {aft : Array Edge}
end
end Go.Proofs.YtmojpbfkpggjhaaGreatDoor

/-
  Plain facts on ranks: how many are below, and how many alike stand ahead. No program is in sight, and no statement is proved here.
-/
namespace Go.Proofs.YtmojpbfkpggjhaaGreatDoor

def below (dl : List Nat) (p : Nat) : Nat := dl.countP fun x => decide (x < p)
def alike (dl : List Nat) (m p : Nat) : Nat := (dl.take m).countP fun x => decide (x = p)
/-- the rank of an element: those below it and those alike ahead of it -/
def rankP (dl : List Nat) (j : Nat) : Nat := below dl (dl.getD j 0) + alike dl j (dl.getD j 0)
theorem below_succ (dl : List Nat) (p : Nat) : below dl (p + 1) = below dl p + alike dl dl.length p := by
  unfold below alike
  rw [List.take_length]
  induction dl with
  | nil => rfl
  | cons x l ih =>
    simp only [List.countP_cons, ih]
    by_cases h1 : x < p
    · rw [if_pos (by simp; omega), if_pos (by simp; omega), if_neg (by simp; omega)]; omega
    · by_cases h2 : x = p
      · rw [if_pos (by simp; omega), if_neg (by simp; omega), if_pos (by simp; omega)]; omega
      · rw [if_neg (by simp; omega), if_neg (by simp; omega), if_neg (by simp; omega)]; omega
theorem below_mono (dl : List Nat) {p q : Nat} (h : p ≤ q) : below dl p ≤ below dl q := by
  induction q with
  | zero => obtain rfl : p = 0 := by omega
            exact Nat.le_refl _
  | succ q ih =>
    by_cases e : p = q + 1
    · rw [e]; exact Nat.le_refl _
    · have := ih (by omega)
      rw [below_succ]; omega
theorem below_le (dl : List Nat) (p : Nat) : below dl p ≤ dl.length := List.countP_le_length
theorem alike_succ (dl : List Nat) (m p : Nat) (h : m < dl.length) : alike dl (m + 1) p = alike dl m p + if dl.getD m 0 = p then 1 else 0 := by
  unfold alike
  rw [take_snoc dl m 0 h, List.countP_append, List.countP_singleton]
  by_cases e : dl.getD m 0 = p
  · rw [if_pos (by simpa using e), if_pos e]
  · rw [if_neg (by simpa using e), if_neg e]
theorem alike_mono (dl : List Nat) (p : Nat) {m k : Nat} (h : m ≤ k) (hk : k ≤ dl.length) : alike dl m p ≤ alike dl k p := by
  induction k with
  | zero => obtain rfl : m = 0 := by omega
            exact Nat.le_refl _
  | succ k ih =>
    by_cases e : m = k + 1
    · rw [e]; exact Nat.le_refl _
    · have := ih (by omega) (by omega)
      rw [alike_succ _ _ _ (by omega)]; omega
theorem alike_lt (dl : List Nat) {j : Nat} (h : j < dl.length) : alike dl j (dl.getD j 0) < alike dl dl.length (dl.getD j 0) := by
  have h1 := alike_mono dl (dl.getD j 0) (show j + 1 ≤ dl.length by omega) (Nat.le_refl _)
  rw [alike_succ _ _ _ h, if_pos rfl] at h1
  omega
theorem rank_below (dl : List Nat) {j : Nat} (h : j < dl.length) : below dl (dl.getD j 0) ≤ rankP dl j ∧ rankP dl j < below dl (dl.getD j 0 + 1) := by
  have := alike_lt dl h
  rw [below_succ]
  unfold rankP
  omega
theorem rank_lt (dl : List Nat) {j : Nat} (h : j < dl.length) : rankP dl j < dl.length := by
  have h1 := (rank_below dl h).2
  have h2 := below_le dl (dl.getD j 0 + 1)
  omega
theorem rank_less (dl : List Nat) {i j : Nat} (hi : i < dl.length) (hj : j < dl.length) (h : dl.getD i 0 < dl.getD j 0 ∨ (dl.getD i 0 = dl.getD j 0 ∧ i < j)) : rankP dl i < rankP dl j := by
  rcases h with h | ⟨h, hij⟩
  · have h1 := (rank_below dl hi).2
    have h2 := (rank_below dl hj).1
    have h3 := below_mono dl (show dl.getD i 0 + 1 ≤ dl.getD j 0 by omega)
    omega
  · unfold rankP
    rw [h]
    have h1 := alike_mono dl (dl.getD j 0) (show i + 1 ≤ j by omega) (by omega)
    rw [alike_succ _ _ _ hi, if_pos h] at h1
    omega
theorem rank_inj (dl : List Nat) {i j : Nat} (hi : i < dl.length) (hj : j < dl.length) (h : rankP dl i = rankP dl j) : i = j := by
  apply Classical.byContradiction
  intro hne
  have key : rankP dl i < rankP dl j ∨ rankP dl j < rankP dl i := by
    rcases Nat.lt_trichotomy (dl.getD i 0) (dl.getD j 0) with c | c | c
    · exact .inl (rank_less dl hi hj (.inl c))
    · by_cases e : i < j
      · exact .inl (rank_less dl hi hj (.inr ⟨c, e⟩))
      · exact .inr (rank_less dl hj hi (.inr ⟨c.symm, by omega⟩))
    · exact .inr (rank_less dl hj hi (.inl c))
  omega
/-- lists whose elements stand at their ranks -/
def Placed (dl : List Nat) (at_ out : List Nat) : Prop := out.length = at_.length ∧ ∀ j, j < at_.length → out.getD (rankP dl j) 0 = at_.getD j 0
def natsI (l : List Nat) : List Int := l.map fun i : Nat => (i : Int)
theorem natsI_len (l : List Nat) : (natsI l).length = l.length := List.length_map _
end Go.Proofs.YtmojpbfkpggjhaaGreatDoor

/-
  Contract of a pass of package radix: places put where their ranks tell. No statement is proved here.
-/
namespace Go.Proofs.YtmojpbfkpggjhaaGreatDoor
open Go Go.RowKit
set_option linter.unusedVariables false
set_option linter.unusedSimpArgs false
set_option maxHeartbeats 4000000
attribute [local irreducible] CW RW QW SW HW ConM retM heldQ calmQ elemP thenQ blockQ loopQ joinQ retQ Yields Con Sl zF magR unitF truncF fwF wholeF tidySpec
set_option maxHeartbeats 4000000
set_option maxRecDepth 100000

section
variable {P : Program} (T : Tab P) {n : Nat} {L : Env} {w : World} {ty : TypeId} {x y : Operand} {t : TypeId}
end
theorem Cell0.mono {h h' : GHeap} (hl : GLe h h') {b : Nat} {v : Value} (q : ∃ cs, h b = some cs ∧ cs[0]? = some v) : ∃ cs, h' b = some cs ∧ cs[0]? = some v := let ⟨cs, e, f⟩ := q; ⟨cs, hl _ _ e, f⟩
end Go.Proofs.YtmojpbfkpggjhaaGreatDoor

/-
  Plain facts on places in order: a pass by digits keeps them so, and there is one such list. No program is in sight, and no statement is proved here.
-/
namespace Go.Proofs.YtmojpbfkpggjhaaGreatDoor

theorem inj_surj : ∀ (n : Nat) (f : Nat → Nat), (∀ j, j < n → f j < n) → (∀ i j, i < n → j < n → f i = f j → i = j) → ∀ a, a < n → ∃ j, j < n ∧ f j = a
  | 0, _, _, _, a, h => absurd h (Nat.not_lt_zero _)
  | n + 1, f, hf, hi, a, ha => by
    have hg := inj_surj n (fun j => if f j = n then f n else f j) (fun j hj => by
      have h1 := hf j (by omega)
      by_cases e : f j = n
      · rw [if_pos e]
        have h2 := hf n (by omega)
        have : f n ≠ n := fun e2 => by have := hi j n (by omega) (by omega) (by rw [e, e2]); omega
        omega
      · rw [if_neg e]; omega) (fun i j hi' hj' e => by

      by_cases e1 : f i = n
      · by_cases e2 : f j = n
        · exact hi i j (by omega) (by omega) (by rw [e1, e2])
        · rw [if_pos e1, if_neg e2] at e
          have := hi n j (by omega) (by omega) e; omega
      · by_cases e2 : f j = n
        · rw [if_neg e1, if_pos e2] at e
          have := hi i n (by omega) (by omega) e; omega
        · rw [if_neg e1, if_neg e2] at e
          exact hi i j (by omega) (by omega) e)
    by_cases hb : f n = a
    · exact ⟨n, by omega, hb⟩
    · by_cases hn : a < n
      · obtain ⟨j, hj, e⟩ := hg a hn
  
        by_cases e1 : f j = n
        · rw [if_pos e1] at e; exact absurd e hb
        · rw [if_neg e1] at e; exact ⟨j, by omega, e⟩
      · obtain rfl : a = n := by omega
        have hfn := hf a (by omega)
        obtain ⟨j, hj, e⟩ := hg (f a) (by omega)
  
        by_cases e1 : f j = a
        · exact ⟨j, by omega, e1⟩
        · rw [if_neg e1] at e
          have := hi j a (by omega) (by omega) e; omega
/-- places from 0 on, each once, in an order -/
structure InOrder (lt : Nat → Nat → Prop) (n : Nat) (l : List Nat) : Prop where
  len : l.length = n
  lt_n : ∀ j, j < n → l.getD j 0 < n
  all : ∀ i, i < n → ∃ j, j < n ∧ l.getD j 0 = i
  ord : ∀ a b, a < b → b < n → lt (l.getD a 0) (l.getD b 0)
theorem InOrder.eq {lt : Nat → Nat → Prop} {n : Nat} {l m : List Nat} (h1 : InOrder lt n l) (h2 : InOrder lt n m) (asym : ∀ i j, lt i j → ¬ lt j i) : l = m := by
  have irr : ∀ i, ¬ lt i i := fun i h => asym i i h h
  have inj1 : ∀ a b, a < n → b < n → l.getD a 0 = l.getD b 0 → a = b := by
    intro a b ha hb e
    rcases Nat.lt_trichotomy a b with c | c | c
    · have := h1.ord a b c hb; rw [e] at this; exact absurd this (irr _)
    · exact c
    · have := h1.ord b a c ha; rw [e] at this; exact absurd this (irr _)
  have inj2 : ∀ a b, a < n → b < n → m.getD a 0 = m.getD b 0 → a = b := by
    intro a b ha hb e
    rcases Nat.lt_trichotomy a b with c | c | c
    · have := h2.ord a b c hb; rw [e] at this; exact absurd this (irr _)
    · exact c
    · have := h2.ord b a c ha; rw [e] at this; exact absurd this (irr _)
  have key : ∀ a, a < n → l.getD a 0 = m.getD a 0 := by
    intro a
    induction a using Nat.strongRecOn with
    | _ a ih =>
      intro ha
      apply Classical.byContradiction
      intro hne
      obtain ⟨b, hb, eb⟩ := h2.all (l.getD a 0) (h1.lt_n a ha)
      obtain ⟨c, hc, ec⟩ := h1.all (m.getD a 0) (h2.lt_n a ha)
      have hab : a < b := by
        rcases Nat.lt_trichotomy a b with x | x | x
        · exact x
        · subst x; exact absurd eb.symm hne
        · have := ih b x hb
          rw [eb] at this
          have := inj1 b a hb ha this
          omega
      have hac : a < c := by
        rcases Nat.lt_trichotomy a c with x | x | x
        · exact x
        · subst x; exact absurd ec hne
        · have := ih c x hc
          rw [ec] at this
          have := inj2 a c ha hc this
          omega
      have o1 := h2.ord a b hab hb
      have o2 := h1.ord a c hac hc
      rw [eb] at o1
      rw [ec] at o2
      exact asym _ _ o1 o2
  apply List.ext_getElem
  · rw [h1.len, h2.len]
  · intro a ha hb
    have := key a (by rw [← h1.len]; exact ha)
    rw [List.getD_eq_getElem?_getD, List.getD_eq_getElem?_getD, List.getElem?_eq_getElem ha, List.getElem?_eq_getElem hb] at this
    exact this
/-- a pass: by digits first, then as it stood -/
theorem InOrder.pass {lt : Nat → Nat → Prop} {n : Nat} {l out : List Nat} (h : InOrder lt n l) (dg : Nat → Nat) (hp : Placed (l.map dg) l out) : InOrder (fun i j => dg i < dg j ∨ (dg i = dg j ∧ lt i j)) n out := by
  obtain ⟨hl, hp⟩ := hp
  have hln := h.len
  obtain ⟨dl, hdl⟩ : ∃ dl, l.map dg = dl := ⟨_, rfl⟩
  have hdn : dl.length = n := by rw [← hdl, List.length_map, hln]
  have hget : ∀ j, j < n → dl.getD j 0 = dg (l.getD j 0) := by
    intro j hj
    rw [← hdl, List.getD_eq_getElem?_getD, List.getD_eq_getElem?_getD, List.getElem?_map, List.getElem?_eq_getElem (by omega)]
    rfl
  rw [hdl] at hp
  rw [hln] at hl hp
  have hlt : ∀ j, j < n → rankP dl j < n := fun j hj => by have := rank_lt dl (j := j) (by omega); omega
  have hsur := inj_surj n (rankP dl) hlt (fun i j hi hj e => rank_inj dl (by omega) (by omega) e)
  refine ⟨hl, ?_, ?_, ?_⟩
  · intro a ha
    obtain ⟨j, hj, rfl⟩ := hsur a ha
    rw [hp j hj]; exact h.lt_n j hj
  · intro i hi
    obtain ⟨j, hj, e⟩ := h.all i hi
    exact ⟨rankP dl j, hlt j hj, by rw [hp j hj, e]⟩
  · intro a b hab hb
    obtain ⟨i, hi, rfl⟩ := hsur a (by omega)
    obtain ⟨j, hj, rfl⟩ := hsur b hb
    rw [hp i hi, hp j hj, ← hget i hi, ← hget j hj]
    rcases Nat.lt_trichotomy (dl.getD i 0) (dl.getD j 0) with c | c | c
    · exact .inl c
    · refine .inr ⟨c, ?_⟩
      rcases Nat.lt_trichotomy i j with x | x | x
      · exact h.ord i j x hj
      · subst x; omega
      · have := rank_less dl (i := j) (j := i) (by omega) (by omega) (.inr ⟨c.symm, x⟩); omega
    · have := rank_less dl (i := j) (j := i) (by omega) (by omega) (.inl c); omega
theorem InOrder.imp {lt lt' : Nat → Nat → Prop} {n : Nat} {l : List Nat} (h : InOrder lt n l) (hh : ∀ i j, i < n → j < n → lt i j → lt' i j) : InOrder lt' n l :=
  ⟨h.len, h.lt_n, h.all, fun a b hab hb => hh _ _ (h.lt_n a (by omega)) (h.lt_n b hb) (h.ord a b hab hb)⟩
theorem InOrder.range (n : Nat) : InOrder (fun i j => i < j) n (List.range n) := by
  have hg : ∀ j, j < n → (List.range n).getD j 0 = j := fun j hj => by rw [List.getD_eq_getElem?_getD, List.getElem?_range hj]; rfl
  exact ⟨List.length_range, fun j hj => by rw [hg j hj]; exact hj, fun i hi => ⟨i, hi, hg i hi⟩, fun a b hab hb => by rw [hg a (by omega), hg b hb]; exact hab⟩
end Go.Proofs.YtmojpbfkpggjhaaGreatDoor

/-
  Plain facts on keys in order by their digits. No program is in sight, and no statement is proved here.
-/
namespace Go.Proofs.YtmojpbfkpggjhaaGreatDoor

end Go.Proofs.YtmojpbfkpggjhaaGreatDoor

/-
  Contract of radix.Grade, of whole numbers and characters. No statement is proved here.
-/
namespace Go.Proofs.YtmojpbfkpggjhaaGreatDoor
open Go Go.RowKit
set_option linter.unusedVariables false
set_option linter.unusedSimpArgs false
set_option maxHeartbeats 4000000
attribute [local irreducible] CW RW QW SW HW ConM retM heldQ calmQ elemP thenQ blockQ loopQ joinQ retQ Yields Con Sl zF magR unitF truncF fwF wholeF tidySpec
set_option maxHeartbeats 4000000
set_option maxRecDepth 4000
attribute [local irreducible] rankF leastN

section
variable {α : Type} {R : GHeap → List Value → α → Prop}
end
end Go.Proofs.YtmojpbfkpggjhaaGreatDoor

/-
  Contract of the example of layer 17. No statement is proved here.
-/
namespace Go.Proofs.YtmojpbfkpggjhaaGreatDoor
open Go Go.RowKit
set_option linter.unusedVariables false
set_option linter.unusedSimpArgs false
set_option maxHeartbeats 4000000
attribute [local irreducible] CW RW QW SW HW ConM retM heldQ calmQ elemP thenQ blockQ loopQ joinQ retQ Yields Con Sl zF magR unitF truncF fwF wholeF tidySpec
set_option maxHeartbeats 4000000

end Go.Proofs.YtmojpbfkpggjhaaGreatDoor

/-
  Contract of the document's answer of layer 17: the bits in which keys differ. No statement is proved here.
-/
namespace Go.Proofs.YtmojpbfkpggjhaaGreatDoor
open Go Go.RowKit
set_option linter.unusedVariables false
set_option linter.unusedSimpArgs false
set_option maxHeartbeats 4000000
attribute [local irreducible] CW RW QW SW HW ConM retM heldQ calmQ elemP thenQ blockQ loopQ joinQ retQ Yields Con Sl zF magR unitF truncF fwF wholeF tidySpec
set_option maxHeartbeats 4000000

section
variable {P : Program} (T : Tab P) {n : Nat} {L : Env} {w : World} {ty : TypeId} {x y : Operand} {t yt : TypeId} {u v : Nat}
end
end Go.Proofs.YtmojpbfkpggjhaaGreatDoor

/-
  Contracts: packed truths turned, the places that are true as an own row, and truths graded by radix.Bits. No statement is proved here.
-/
namespace Go.Proofs.YtmojpbfkpggjhaaGreatDoor
open Go Go.RowKit
set_option linter.unusedVariables false
set_option linter.unusedSimpArgs false
set_option maxHeartbeats 4000000
attribute [local irreducible] CW RW QW SW HW ConM retM heldQ calmQ elemP thenQ blockQ loopQ joinQ retQ Yields Con Sl zF magR unitF truncF fwF wholeF tidySpec elemQ rankF leastN tidyW
set_option maxHeartbeats 4000000

/-! ## Plain facts -/
/-! ## Walks -/
end Go.Proofs.YtmojpbfkpggjhaaGreatDoor

/-
  Plain facts: one put in behind all that aren't above it keeps places at their ranks. No program is in sight, and no statement is proved here.
-/
namespace Go.Proofs.YtmojpbfkpggjhaaGreatDoor

/-- how many of the first ones aren't above the next one -/
def putN (dl : List Nat) (i : Nat) : Nat := below (dl.take i) (dl.getD i 0 + 1)
theorem putN_le (dl : List Nat) (i : Nat) : putN dl i ≤ i := Nat.le_trans (below_le _ _) (by rw [List.length_take]; omega)
theorem take_getD (dl : List Nat) (i j : Nat) (h : j < i) : (dl.take i).getD j 0 = dl.getD j 0 := by
  rw [List.getD_eq_getElem?_getD, List.getElem?_take, if_pos h, ← List.getD_eq_getElem?_getD]
theorem rank_put_lt (dl : List Nat) (i j : Nat) (hi : i < dl.length) (hj : j < i) : rankP (dl.take i) j < putN dl i ↔ dl.getD j 0 ≤ dl.getD i 0 := by
  have hl : j < (dl.take i).length := by rw [List.length_take]; omega
  have hb := rank_below (dl.take i) hl
  rw [take_getD dl i j hj] at hb
  unfold putN
  constructor
  · intro h
    apply Classical.byContradiction
    intro hn
    have := below_mono (dl.take i) (show dl.getD i 0 + 1 ≤ dl.getD j 0 by omega)
    omega
  · intro h
    have := below_mono (dl.take i) (show dl.getD j 0 + 1 ≤ dl.getD i 0 + 1 by omega)
    omega
theorem below_take_succ (dl : List Nat) (i p : Nat) (hi : i < dl.length) : below (dl.take (i + 1)) p = below (dl.take i) p + if dl.getD i 0 < p then 1 else 0 := by
  unfold below
  rw [take_snoc dl i 0 hi, List.countP_append, List.countP_singleton]
  by_cases e : dl.getD i 0 < p
  · rw [if_pos (by simpa using e), if_pos e]
  · rw [if_neg (by simpa using e), if_neg e]
theorem alike_take (dl : List Nat) (i j p : Nat) (h : j ≤ i) : alike (dl.take i) j p = alike dl j p := by
  unfold alike
  rw [List.take_take, Nat.min_eq_left h]
theorem rank_new (dl : List Nat) (i : Nat) (hi : i < dl.length) : rankP (dl.take (i + 1)) i = putN dl i := by
  unfold rankP putN
  rw [take_getD dl (i + 1) i (by omega), below_take_succ dl i _ hi, if_neg (by omega), alike_take dl (i + 1) i _ (by omega), below_succ]
  rw [alike_take dl i (dl.take i).length _ (by rw [List.length_take]; omega), List.length_take, Nat.min_eq_left (by omega)]
  omega
theorem rank_old (dl : List Nat) (i j : Nat) (hi : i < dl.length) (hj : j < i) : rankP (dl.take (i + 1)) j = rankP (dl.take i) j + if dl.getD i 0 < dl.getD j 0 then 1 else 0 := by
  unfold rankP
  rw [take_getD dl (i + 1) j (by omega), take_getD dl i j hj, below_take_succ dl i _ hi, alike_take dl (i + 1) j _ (by omega), alike_take dl i j _ (by omega)]
  omega
/-- the next one, put in -/
def putIn (out : List Nat) (p x : Nat) : List Nat := out.take p ++ x :: out.drop p
theorem putIn_len (out : List Nat) (p x : Nat) : (putIn out p x).length = out.length + 1 := by
  unfold putIn; rw [List.length_append, List.length_cons, List.length_take, List.length_drop]; omega
theorem putIn_at (out : List Nat) (p x : Nat) (h : p ≤ out.length) : (putIn out p x).getD p 0 = x := by
  unfold putIn
  rw [List.getD_eq_getElem?_getD, List.getElem?_append_right (by rw [List.length_take]; omega), List.length_take, Nat.min_eq_left h, Nat.sub_self]; rfl
theorem putIn_low (out : List Nat) (p x q : Nat) (h : p ≤ out.length) (hq : q < p) : (putIn out p x).getD q 0 = out.getD q 0 := by
  unfold putIn
  rw [List.getD_eq_getElem?_getD, List.getElem?_append_left (by rw [List.length_take]; omega), List.getElem?_take, if_pos hq, ← List.getD_eq_getElem?_getD]
theorem putIn_high (out : List Nat) (p x q : Nat) (h : p ≤ out.length) (hq : p ≤ q) : (putIn out p x).getD (q + 1) 0 = out.getD q 0 := by
  unfold putIn
  rw [List.getD_eq_getElem?_getD, List.getElem?_append_right (by rw [List.length_take]; omega), List.length_take, Nat.min_eq_left h, show q + 1 - p = (q - p) + 1 by omega, List.getElem?_cons_succ, List.getElem?_drop, show p + (q - p) = q by omega, ← List.getD_eq_getElem?_getD]
theorem Placed.nil (dl at_ : List Nat) : Placed (dl.take 0) (at_.take 0) [] := ⟨rfl, fun j hj => absurd hj (by simp)⟩
theorem Placed.put {dl at_ out : List Nat} {i : Nat} (h : Placed (dl.take i) (at_.take i) out) (hi : i < at_.length) (hl : dl.length = at_.length) : Placed (dl.take (i + 1)) (at_.take (i + 1)) (putIn out (putN dl i) (at_.getD i 0)) := by
  obtain ⟨h1, h2⟩ := h
  rw [List.length_take, Nat.min_eq_left (by omega)] at h1 h2
  have hp := putN_le dl i
  refine ⟨by rw [putIn_len, h1, List.length_take]; omega, fun j hj => ?_⟩
  rw [List.length_take, Nat.min_eq_left (by omega)] at hj
  rw [take_getD at_ (i + 1) j hj]
  by_cases e : j = i
  · subst e
    rw [rank_new dl j (by omega), putIn_at _ _ _ (by omega)]
  · have hlt := rank_put_lt dl i j (by omega) (by omega)
    have h3 := h2 j (by omega)
    rw [take_getD at_ i j (by omega)] at h3
    rw [rank_old dl i j (by omega) (by omega)]
    by_cases c : dl.getD i 0 < dl.getD j 0
    · rw [if_pos c, putIn_high _ _ _ _ (by omega) (by omega)]
      exact h3
    · rw [if_neg c, Nat.add_zero, putIn_low _ _ _ _ (by omega) (hlt.2 (by omega))]
      exact h3
theorem Placed.eq {dl at_ o1 o2 : List Nat} (h1 : Placed dl at_ o1) (h2 : Placed dl at_ o2) (hl : dl.length = at_.length) : o1 = o2 := by
  obtain ⟨a1, b1⟩ := h1
  obtain ⟨a2, b2⟩ := h2
  have hsur := inj_surj dl.length (rankP dl) (fun j hj => rank_lt dl hj) (fun i j hi hj e => rank_inj dl hi hj e)
  apply List.ext_getElem?
  intro q
  by_cases hq : q < dl.length
  · obtain ⟨j, hj, rfl⟩ := hsur q hq
    have e1 := b1 j (by omega)
    have e2 := b2 j (by omega)
    have r := rank_lt dl hj
    rw [List.getD_eq_getElem?_getD] at e1 e2
    rw [List.getElem?_eq_getElem (by omega)] at e1 e2 ⊢
    rw [List.getElem?_eq_getElem (by omega)]
    simp only [Option.getD_some] at e1 e2
    rw [e1, e2]
  · rw [List.getElem?_eq_none (by omega), List.getElem?_eq_none (by omega)]
/-- the place that stands at one of the first ranks, and what its digit tells -/
theorem Placed.turn {dl at_ out : List Nat} {i n : Nat} (h : Placed (dl.take i) (at_.take i) out) (hi : i < at_.length) (hl : dl.length = at_.length) (hn : n < i) : ∃ j, j < i ∧ out.getD n 0 = at_.getD j 0 ∧ (dl.getD j 0 ≤ dl.getD i 0 ↔ n < putN dl i) := by
  obtain ⟨h1, h2⟩ := h
  rw [List.length_take, Nat.min_eq_left (by omega)] at h1 h2
  have hl2 : (dl.take i).length = i := by rw [List.length_take]; omega
  have hsur := inj_surj i (rankP (dl.take i)) (fun j hj => by have := rank_lt (dl.take i) (j := j) (by omega); omega) (fun a b ha hb e => rank_inj (dl.take i) (by omega) (by omega) e)
  obtain ⟨j, hj, rfl⟩ := hsur n hn
  refine ⟨j, hj, ?_, ?_⟩
  · have := h2 j hj
    rwa [take_getD at_ i j hj] at this
  · exact (rank_put_lt dl i j (by omega) hj).symm
end Go.Proofs.YtmojpbfkpggjhaaGreatDoor

/-
  Plain facts on putting places in order by comparing: put in one by one, and merged. No program is in sight, and no statement is proved here.
-/
namespace Go.Proofs.YtmojpbfkpggjhaaGreatDoor

/-- what a comparison has to be: an order of classes of alike ones -/
structure WeakOrd (ah : Nat → Nat → Bool) : Prop where
  asym : ∀ i j, ah i j = true → ah j i = false
  ntr : ∀ i j k, ah i j = false → ah j k = false → ah i k = false
/-- ahead of it, or alike and earlier -/
def ltS (ah : Nat → Nat → Bool) (i j : Nat) : Prop := ah i j = true ∨ (ah j i = false ∧ i < j)
theorem ltS_trans {ah : Nat → Nat → Bool} (hw : WeakOrd ah) (i j k : Nat) (h1 : ltS ah i j) (h2 : ltS ah j k) : ltS ah i k := by
  have n1 : ah j i = false := by
    rcases h1 with h | ⟨h, _⟩
    · exact hw.asym _ _ h
    · exact h
  have n2 : ah k j = false := by
    rcases h2 with h | ⟨h, _⟩
    · exact hw.asym _ _ h
    · exact h
  have n3 : ah k i = false := hw.ntr _ _ _ n2 n1
  by_cases c : ah i k = true
  · exact .inl c
  · have c : ah i k = false := by simpa using c
    refine .inr ⟨n3, ?_⟩
    have m1 : ¬ ah i j = true := by
      intro e
      have : ah i j = false := hw.ntr i k j c n2
      rw [e] at this; cases this
    have m2 : ¬ ah j k = true := by
      intro e
      have : ah j k = false := hw.ntr j i k n1 c
      rw [e] at this; cases this
    rcases h1 with h | ⟨_, h1⟩
    · exact absurd h m1
    · rcases h2 with h | ⟨_, h2⟩
      · exact absurd h m2
      · omega
/-- the numbers from a to b, each once, in order -/
structure InSeg (ah : Nat → Nat → Bool) (a b : Nat) (s : List Nat) : Prop where
  len : s.length = b - a
  mem : ∀ i, i ∈ s ↔ a ≤ i ∧ i < b
  ord : s.Pairwise (ltS ah)
theorem InSeg.one (ah : Nat → Nat → Bool) (a : Nat) : InSeg ah a (a + 1) [a] := ⟨by simp, fun i => by simp; omega, List.pairwise_singleton _ _⟩
theorem InSeg.none (ah : Nat → Nat → Bool) (a b : Nat) (h : b ≤ a) : InSeg ah a b [] := ⟨by simp; omega, fun i => by simp; omega, .nil⟩
/-- a merge under way: what is out, and what is left of two runs -/
structure Merging (ah : Nat → Nat → Bool) (s1 s2 : List Nat) (i k : Nat) (o : List Nat) : Prop where
  len : o.length = i + k
  perm : o.Perm (s1.take i ++ s2.take k)
  o1 : (o ++ s1.drop i).Pairwise (ltS ah)
  o2 : (o ++ s2.drop k).Pairwise (ltS ah)
theorem Merging.start {ah : Nat → Nat → Bool} {a m b : Nat} {s1 s2 : List Nat} (h1 : InSeg ah a m s1) (h2 : InSeg ah m b s2) : Merging ah s1 s2 0 0 [] := ⟨rfl, .refl _, h1.ord, h2.ord⟩
theorem drop_cons' (s : List Nat) (i : Nat) (h : i < s.length) : s.drop i = s.getD i 0 :: s.drop (i + 1) := by
  rw [List.drop_eq_getElem_cons h, List.getD_eq_getElem?_getD, List.getElem?_eq_getElem h]; rfl
theorem pair_mid {R : Nat → Nat → Prop} {o d : List Nat} {x : Nat} (h : (o ++ d).Pairwise R) (h1 : ∀ y ∈ o, R y x) (h2 : ∀ y ∈ d, R x y) : (o ++ [x] ++ d).Pairwise R := by
  rw [List.pairwise_append] at h ⊢
  refine ⟨?_, h.2.1, ?_⟩
  · rw [List.pairwise_append]
    exact ⟨h.1, List.pairwise_singleton _ _, fun y hy z hz => by rw [List.mem_singleton] at hz; rw [hz]; exact h1 y hy⟩
  · intro y hy z hz
    rw [List.mem_append, List.mem_singleton] at hy
    rcases hy with hy | rfl
    · exact h.2.2 y hy z hz
    · exact h2 z hz
theorem Merging.left {ah : Nat → Nat → Bool} (hw : WeakOrd ah) {s1 s2 : List Nat} {i k : Nat} {o : List Nat} (h : Merging ah s1 s2 i k o) (hi : i < s1.length) (hx : k < s2.length → ltS ah (s1.getD i 0) (s2.getD k 0)) : Merging ah s1 s2 (i + 1) k (o ++ [s1.getD i 0]) := by
  have ho1 := h.o1
  rw [drop_cons' s1 i hi] at ho1
  have ho2 := h.o2
  refine ⟨by rw [List.length_append, h.len]; simp; omega, ?_, ?_, ?_⟩
  · rw [take_snoc s1 i 0 hi]
    have := h.perm.append_right [s1.getD i 0]
    refine this.trans ?_
    rw [List.append_assoc, List.append_assoc]
    exact List.Perm.append_left _ List.perm_append_comm
  · rw [List.append_assoc]; exact ho1
  · refine pair_mid ho2 ?_ ?_
    · rw [List.pairwise_append] at ho1
      exact fun y hy => ho1.2.2 y hy _ (List.mem_cons_self ..)
    · intro y hy
      by_cases hk : k < s2.length
      · rw [drop_cons' s2 k hk] at hy ho2
        rw [List.pairwise_append, List.pairwise_cons] at ho2
        rcases List.mem_cons.1 hy with rfl | hy
        · exact hx hk
        · exact ltS_trans hw _ _ _ (hx hk) (ho2.2.1.1 y hy)
      · rw [List.drop_eq_nil_of_le (by omega)] at hy; cases hy
theorem Merging.right {ah : Nat → Nat → Bool} (hw : WeakOrd ah) {s1 s2 : List Nat} {i k : Nat} {o : List Nat} (h : Merging ah s1 s2 i k o) (hk : k < s2.length) (hx : i < s1.length → ltS ah (s2.getD k 0) (s1.getD i 0)) : Merging ah s1 s2 i (k + 1) (o ++ [s2.getD k 0]) := by
  have ho1 := h.o1
  have ho2 := h.o2
  rw [drop_cons' s2 k hk] at ho2
  refine ⟨by rw [List.length_append, h.len]; simp; omega, ?_, ?_, ?_⟩
  · rw [take_snoc s2 k 0 hk, ← List.append_assoc]
    exact h.perm.append_right _
  · refine pair_mid ho1 ?_ ?_
    · rw [List.pairwise_append] at ho2
      exact fun y hy => ho2.2.2 y hy _ (List.mem_cons_self ..)
    · intro y hy
      by_cases hi : i < s1.length
      · rw [drop_cons' s1 i hi] at hy ho1
        rw [List.pairwise_append, List.pairwise_cons] at ho1
        rcases List.mem_cons.1 hy with rfl | hy
        · exact hx hi
        · exact ltS_trans hw _ _ _ (hx hi) (ho1.2.1.1 y hy)
      · rw [List.drop_eq_nil_of_le (by omega)] at hy; cases hy
  · rw [List.append_assoc]; exact ho2
theorem Merging.done {ah : Nat → Nat → Bool} {a m b : Nat} {s1 s2 o : List Nat} (h1 : InSeg ah a m s1) (h2 : InSeg ah m b s2) (ham : a ≤ m) (hmb : m ≤ b) (h : Merging ah s1 s2 s1.length s2.length o) : InSeg ah a b o := by
  have hp := h.perm
  rw [List.take_length, List.take_length] at hp
  have ho := h.o1
  rw [List.drop_length, List.append_nil] at ho
  refine ⟨by rw [h.len, h1.len, h2.len]; omega, fun i => ?_, ho⟩
  rw [hp.mem_iff, List.mem_append, h1.mem, h2.mem]
  omega
/-- runs of one length in order, up to a place -/
def Runs (ah : Nat → Nat → Bool) (r n upto : Nat) (l : List Nat) : Prop := ∀ q, q * r < upto → InSeg ah (q * r) (min (q * r + r) n) ((l.drop (q * r)).take r)
theorem Runs.none (ah : Nat → Nat → Bool) (r n : Nat) (l : List Nat) : Runs ah r n 0 l := fun _ hq => absurd hq (Nat.not_lt_zero _)
theorem Runs.all {ah : Nat → Nat → Bool} {r n : Nat} {l : List Nat} (h : Runs ah r n n l) (hl : l.length = n) (hr : n ≤ r) : InSeg ah 0 n l := by
  by_cases c : n = 0
  · subst c
    rw [List.eq_nil_of_length_eq_zero hl]
    exact InSeg.none _ _ _ (Nat.le_refl _)
  · have := h 0 (by omega)
    rw [Nat.zero_mul, List.drop_zero, Nat.zero_add, List.take_of_length_le (by omega), Nat.min_eq_right hr] at this
    exact this
end Go.Proofs.YtmojpbfkpggjhaaGreatDoor

/-
  Plain facts: places put where the count of those ahead of them tells stand in order. No program is in sight, and no statement is proved here.
-/
namespace Go.Proofs.YtmojpbfkpggjhaaGreatDoor

end Go.Proofs.YtmojpbfkpggjhaaGreatDoor

/-
  Plain facts on cells compared element by element, and on truths in order. No program is in sight, and no statement is proved here.
-/
namespace Go.Proofs.YtmojpbfkpggjhaaGreatDoor

/-! ## Truths in order -/
end Go.Proofs.YtmojpbfkpggjhaaGreatDoor

/-
  Plain facts: comparing on from a place, and counting those ahead. No program is in sight, and no statement is proved here.
-/
namespace Go.Proofs.YtmojpbfkpggjhaaGreatDoor

end Go.Proofs.YtmojpbfkpggjhaaGreatDoor

/-
  Contracts of the document's answer of layer 16: items and cells compared, and places in order. No statement is proved here.
-/
namespace Go.Proofs.YtmojpbfkpggjhaaGreatDoor
open Go Go.RowKit
set_option linter.unusedVariables false
set_option linter.unusedSimpArgs false
set_option maxHeartbeats 4000000
attribute [local irreducible] CW RW QW SW HW ConM retM heldQ calmQ elemP thenQ blockQ loopQ joinQ retQ Yields Con Sl zF magR unitF truncF fwF wholeF tidySpec elemQ rankF leastN tidyW
set_option maxHeartbeats 4000000

section
variable {α : Type} {R : GHeap → List Value → α → Prop}
end
end Go.Proofs.YtmojpbfkpggjhaaGreatDoor

/-
  Contract of the document's answer of layer 16: the one list of places in order. No statement is proved here.
-/
namespace Go.Proofs.YtmojpbfkpggjhaaGreatDoor
open Go Go.RowKit
set_option linter.unusedVariables false
set_option linter.unusedSimpArgs false
set_option maxHeartbeats 4000000
attribute [local irreducible] CW RW QW SW HW ConM retM heldQ calmQ elemP thenQ blockQ loopQ joinQ retQ Yields Con Sl zF magR unitF truncF fwF wholeF tidySpec elemQ rankF leastN tidyW
set_option maxHeartbeats 4000000

section
variable {α : Type} {R : GHeap → List Value → α → Prop}
end
end Go.Proofs.YtmojpbfkpggjhaaGreatDoor

/-
  Contracts of the law's own functions of layer 7: which arrays are alike. No statement is proved here.
-/
namespace Go.Proofs.YtmojpbfkpggjhaaGreatDoor
open Go Go.RowKit
set_option linter.unusedVariables false
set_option linter.unusedSimpArgs false
set_option maxHeartbeats 4000000
attribute [local irreducible] CW RW QW SW HW ConM retM heldQ calmQ elemP thenQ blockQ loopQ joinQ retQ Yields Con Sl zF magR unitF truncF fwF wholeF tidySpec elemQ rankF leastN tidyW
set_option maxHeartbeats 4000000

end Go.Proofs.YtmojpbfkpggjhaaGreatDoor

/-
  Contract of radix.Grade for every store: places in the order of their elements. No statement is proved here.
-/
namespace Go.Proofs.YtmojpbfkpggjhaaGreatDoor
open Go Go.RowKit
set_option linter.unusedVariables false
set_option linter.unusedSimpArgs false
set_option maxHeartbeats 4000000
attribute [local irreducible] CW RW QW SW HW ConM retM heldQ calmQ elemP thenQ blockQ loopQ joinQ retQ Yields Con Sl zF magR unitF truncF fwF wholeF tidySpec elemQ rankF leastN tidyW
set_option maxHeartbeats 4000000

section
variable {α : Type} {R : GHeap → List Value → α → Prop}
end
end Go.Proofs.YtmojpbfkpggjhaaGreatDoor

/-
  Contracts of package merge: a run put in order one by one. No statement is proved here.
-/
namespace Go.Proofs.YtmojpbfkpggjhaaGreatDoor
open Go Go.RowKit
set_option linter.unusedVariables false
set_option linter.unusedSimpArgs false
set_option maxHeartbeats 4000000
attribute [local irreducible] CW RW QW SW HW ConM retM heldQ calmQ elemP thenQ blockQ loopQ joinQ retQ Yields Con Sl zF magR unitF truncF fwF wholeF tidySpec elemQ rankF leastN tidyW
set_option maxHeartbeats 4000000

section
variable {P : Program} (T : Tab P) {n : Nat} {L : Env} {w0 w : World} {h0 h : GHeap} {O : List Row} {ops rest : List Oper} {K : Env → Prop}
variable {d : Option Tmp} {ty : TypeId} {pos : String} {aft : Array Edge}
attribute [local semireducible] QW Con
/-- a call of a function's value whose answer hangs on nothing that the order may turn -/
theorem QW.callV (_hs : Sees w0 h0 h O w) {f : FuncId} {l : List Operand} {vs fi ca : List Value} {cl : Operand} (hcl : opv L cl = some (.func (.func f) fi.toArray ca.toArray)) (hargs : opvs L l = some vs) (hf : T.call f = true) (hd : dstOk n d = true) {ats : Array TypeId} {v : Value} (hc : ∀ w, Con P f (fi ++ vs ++ ca) w h (fun _ u => u = v))
    (hk : QW P n ops (Sees w0 h0 h O) K (updo d v L) rest) :
    QW P n ops (Sees w0 h0 h O) K L (⟨d, .call ⟨.value cl, l.toArray, ats⟩, ty, pos, aft, none⟩ :: rest) := by
  intro a ha
  unfold wpQuiet
  rw [if_pos (by simp [Region.wanted])]
  refine ⟨v, fun w1 hs => ?_, hk _ (ha.put v hd)⟩
  obtain ⟨fn, hfn, hname, hbody⟩ := T.call_ok f hf
  have hrun : (execOp a.eval ⟨d, .call ⟨.value cl, l.toArray, ats⟩, ty, pos, aft, none⟩).run P w1 = .ok (.enter f (fi ++ vs ++ ca).toArray) w1 := by
    have hargs' : l.map a.eval = vs := ha.evals hargs
    have hname' : ¬ fn.name = "runtime.NumGoroutine" := by simpa using hname
    have hbody' : ¬ fn.body = none := fun e => by rw [e] at hbody; simp at hbody
    simp [execOp, resolve, Deferred.ofValue, ha.eval hcl, invoke, callFunc, hfn, hname', hbody', ← hargs']
  unfold Oper.quietAt
  rw [hrun]
  refine ⟨rfl, (hc w1 hs.agree).mono ?_⟩
  rintro e w' ⟨u, h', rfl, hs', rfl⟩
  exact ⟨rfl, hs.weaken (hs.call hs') hs'.le⟩
end
/-- what a comparison, handed over as a function, has to be -/
def AheadOk (P : Program) (F : FuncId) (ca : List Value) (ah : Nat → Nat → Bool) (N : Nat) (h : GHeap) : Prop := ∀ (i k : Nat) (w : World) (h' : GHeap), GLe h h' → i < N → k < N → Con P F ([] ++ [.int .i64 (i : Int), .int .i64 (k : Int)] ++ ca) w h' (fun _ u => u = .bool (ah i k))
theorem AheadOk.mono {P : Program} {F : FuncId} {ca : List Value} {ah : Nat → Nat → Bool} {N : Nat} {h h' : GHeap} (hl : GLe h h') (ho : AheadOk P F ca ah N h) : AheadOk P F ca ah N h' := fun i k w h2 hl2 hi hk => ho i k w h2 (hl.trans hl2) hi hk
end Go.Proofs.YtmojpbfkpggjhaaGreatDoor

/-
  Contracts of package merge: two runs in order merged into one. No statement is proved here.
-/
namespace Go.Proofs.YtmojpbfkpggjhaaGreatDoor
open Go Go.RowKit
set_option linter.unusedVariables false
set_option linter.unusedSimpArgs false
set_option maxHeartbeats 4000000
attribute [local irreducible] CW RW QW SW HW ConM retM heldQ calmQ elemP thenQ blockQ loopQ joinQ retQ Yields Con Sl zF magR unitF truncF fwF wholeF tidySpec elemQ rankF leastN tidyW
set_option maxHeartbeats 4000000

end Go.Proofs.YtmojpbfkpggjhaaGreatDoor

/-
  Contract of merge.Sort: places in the order of a comparison. No statement is proved here.
-/
namespace Go.Proofs.YtmojpbfkpggjhaaGreatDoor
open Go Go.RowKit
set_option linter.unusedVariables false
set_option linter.unusedSimpArgs false
set_option maxHeartbeats 4000000
attribute [local irreducible] CW RW QW SW HW ConM retM heldQ calmQ elemP thenQ blockQ loopQ joinQ retQ Yields Con Sl zF magR unitF truncF fwF wholeF tidySpec elemQ rankF leastN tidyW
set_option maxHeartbeats 4000000

theorem Runs.cut {ah : Nat → Nat → Bool} {r n u v : Nat} {l : List Nat} (h : Runs ah r n u l) (hv : v ≤ u) : Runs ah r n v l := fun q hq => h q (by omega)
end Go.Proofs.YtmojpbfkpggjhaaGreatDoor

/-
  Contracts of package order and of merge.Cells: elements and cells compared, cells in order. No statement is proved here.
-/
namespace Go.Proofs.YtmojpbfkpggjhaaGreatDoor
open Go Go.RowKit
set_option linter.unusedVariables false
set_option linter.unusedSimpArgs false
set_option maxHeartbeats 4000000
attribute [local irreducible] CW RW QW SW HW ConM retM heldQ calmQ elemP thenQ blockQ loopQ joinQ retQ Yields Con Sl zF magR unitF truncF fwF wholeF tidySpec elemQ rankF leastN tidyW
set_option maxHeartbeats 4000000

section
variable {α : Type} {R : GHeap → List Value → α → Prop}
end
end Go.Proofs.YtmojpbfkpggjhaaGreatDoor

/-
  Contracts of package merge: cells graded by comparing, and by digits. No statement is proved here.
-/
namespace Go.Proofs.YtmojpbfkpggjhaaGreatDoor
open Go Go.RowKit
set_option linter.unusedVariables false
set_option linter.unusedSimpArgs false
set_option maxHeartbeats 4000000
attribute [local irreducible] CW RW QW SW HW ConM retM heldQ calmQ elemP thenQ blockQ loopQ joinQ retQ Yields Con Sl zF magR unitF truncF fwF wholeF tidySpec elemQ rankF leastN tidyW
set_option maxHeartbeats 4000000

section
variable {α : Type} {R : GHeap → List Value → α → Prop}
end
end Go.Proofs.YtmojpbfkpggjhaaGreatDoor

/-
  Contracts of package merge: cells graded, lists in order; the example of layer 18. No statement is proved here.
-/
namespace Go.Proofs.YtmojpbfkpggjhaaGreatDoor
open Go Go.RowKit
set_option linter.unusedVariables false
set_option linter.unusedSimpArgs false
set_option maxHeartbeats 4000000
attribute [local irreducible] CW RW QW SW HW ConM retM heldQ calmQ elemP thenQ blockQ loopQ joinQ retQ Yields Con Sl zF magR unitF truncF fwF wholeF tidySpec elemQ rankF leastN tidyW
set_option maxHeartbeats 4000000

section
variable {α : Type} {R : GHeap → List Value → α → Prop}
end
end Go.Proofs.YtmojpbfkpggjhaaGreatDoor

/-
  Contracts of base.Grade and of the document's answer to it. No statement is proved here.
-/
namespace Go.Proofs.YtmojpbfkpggjhaaGreatDoor
open Go Go.RowKit
set_option linter.unusedVariables false
set_option linter.unusedSimpArgs false
set_option maxHeartbeats 4000000
attribute [local irreducible] CW RW QW SW HW ConM retM heldQ calmQ elemP thenQ blockQ loopQ joinQ retQ Yields Con Sl zF magR unitF truncF fwF wholeF tidySpec elemQ rankF leastN tidyW
set_option maxHeartbeats 4000000
attribute [local irreducible] mixN wrN wr32 keyIt keyP

theorem natsI_range (i : Nat) : natsI (List.range i) ++ [(i : Int)] = natsI (List.range (i + 1)) := by unfold natsI; rw [List.range_succ, List.map_append]; rfl
end Go.Proofs.YtmojpbfkpggjhaaGreatDoor

/-
  Contracts of base.Unique, base.Without, base.Union and of the document's answers to them. No statement is proved here.
-/
namespace Go.Proofs.YtmojpbfkpggjhaaGreatDoor
open Go Go.RowKit
set_option linter.unusedVariables false
set_option linter.unusedSimpArgs false
set_option maxHeartbeats 4000000
attribute [local irreducible] CW RW QW SW HW ConM retM heldQ calmQ elemP thenQ blockQ loopQ joinQ retQ Yields Con Sl zF magR unitF truncF fwF wholeF tidySpec elemQ rankF leastN tidyW
set_option maxHeartbeats 4000000
attribute [local irreducible] mixN wrN wr32 keyIt keyP

theorem ref27List_con {α : Type} {R : GHeap → List Value → α → Prop} (cs : List Value) (p : PlainD α) (w : World) (h : GHeap) (hp : PlainR R h cs p) : Con Tryz.prog 48 [.agg cs.toArray] w h (fun _ u => u = .bool (decide ((p.shape.length : Int) ≤ 1))) := by
  obtain ⟨s, it, rfl, ⟨ad, cp, rfl, _⟩, ⟨ad2, cp2, xs, rfl, _, _⟩⟩ := hp
  refine Con.of_body Tryz.func48 rfl Tryz.ntmps48 rfl rfl ?_
  intro hs
  refine Zrun ?_
  (refine RW.boxN hs rfl rfl ?_; intro b1 w1 hs)
  refine Zerun ?_
  exact retQ_ret [_] h ⟨rfl, trivial⟩ hs.dropAll rfl
end Go.Proofs.YtmojpbfkpggjhaaGreatDoor

/-
  Contracts of base.Iota and base.Where, and of the document's answers to them. No statement is proved here.
-/
namespace Go.Proofs.YtmojpbfkpggjhaaGreatDoor
open Go Go.RowKit
set_option linter.unusedVariables false
set_option linter.unusedSimpArgs false
set_option maxHeartbeats 4000000
attribute [local irreducible] CW RW QW SW HW ConM retM heldQ calmQ elemP thenQ blockQ loopQ joinQ retQ Yields Con Sl zF magR unitF truncF fwF wholeF tidySpec elemQ rankF leastN tidyW
set_option maxHeartbeats 4000000
set_option maxRecDepth 4000
attribute [local irreducible] mixN wrN wr32 keyIt keyP

theorem yields_eq2 {P n L w op ty} {u1 u2 : Value} (h : Yields P n L w op ty u1) (e : u1 = u2) : Yields P n L w op ty u2 := e ▸ h
/-! ## Plain facts -/
def truthsB (l : List Nat) : Bool := l.all fun u => decide (u = 0 ∨ u = 4607182418800017408)
def bsOf (l : List Nat) : List Bool := l.map fun u => decide (u = 4607182418800017408)
theorem bsOf_len (l : List Nat) : (bsOf l).length = l.length := List.length_map ..
theorem truthsB_mem {l : List Nat} (h : truthsB l = true) : ∀ u ∈ l, u = 0 ∨ u = 4607182418800017408 := fun u hu => of_decide_eq_true (List.all_eq_true.1 h u hu)
theorem truthsB_of {l : List Nat} (h : ∀ u ∈ l, u = 0 ∨ u = 4607182418800017408) : truthsB l = true := List.all_eq_true.2 fun u hu => decide_eq_true (h u hu)
theorem truths_bits (bs : List Bool) : truthsB (bs.map bitF) = true := truthsB_of fun u hu => by
  obtain ⟨b, _, rfl⟩ := List.mem_map.1 hu
  cases b
  · exact .inl rfl
  · exact .inr rfl
theorem bits_bsOf (bs : List Bool) : bs = bsOf (bs.map bitF) := by
  unfold bsOf
  rw [List.map_map]
  conv => lhs; rw [← List.map_id bs]
  apply List.map_congr_left
  intro b _
  cases b <;> rfl
theorem truths_rank {l : List Nat} (h : ∀ u ∈ l, tidyF u) : truthsB l = true ↔ ∀ x ∈ l, rankF x ≤ 1 := by
  constructor
  · intro e x hx
    rw [rank_bit x (h x hx), fw0, fw1]
    exact truthsB_mem e x hx
  · intro e
    refine truthsB_of fun x hx => ?_
    have := (rank_bit x (h x hx)).1 (e x hx)
    rw [fw0, fw1] at this
    exact this
theorem ones_mem {bs : List Bool} {z : Int} (h : z ∈ onesL bs) : 0 ≤ z ∧ z < bs.length := by
  unfold onesL onesTo at h
  obtain ⟨i, hi, rfl⟩ := List.mem_map.1 h
  have := List.mem_range.1 (List.mem_filter.1 hi).1
  omega
theorem range_mem (m : Nat) : ∀ z ∈ natsI (List.range m), 0 ≤ z ∧ z < m := fun z hz => by
  obtain ⟨u, hu, rfl⟩ := List.mem_map.1 hz
  have := List.mem_range.1 hu
  omega
def numsOf {α : Type} (p : PlainD α) : List Nat := p.items.map (·.num)
theorem numsOf_len {α : Type} (p : PlainD α) : (numsOf p).length = p.items.length := List.length_map ..
theorem items_num {α : Type} {R : GHeap → List Value → α → Prop} {h : GHeap} {p : PlainD α} {xs : List Value} (hA : AllN 4 (ItemAt R h) xs p.items) (i : Nat) (hi : i < p.items.length) : xs[i * 4 + 1]? = some (.float .f64 ((numsOf p).getD i 0)) := by
  obtain ⟨y, hy, hyl, hRy⟩ := hA.elem i hi
  have e : (numsOf p).getD i 0 = (p.items[i]).num := by
    unfold numsOf
    rw [List.getD_eq_getElem?_getD, List.getElem?_map, List.getElem?_eq_getElem hi]; rfl
  obtain ⟨bx, rfl, _⟩ := hRy
  have := congrArg (fun z : List Value => z[1]?) hy
  try dsimp only at this
  rw [List.getElem?_take_of_lt (by omega), List.getElem?_drop] at this
  rw [this, e]
  rfl
/-- the whole number that an element is -/
noncomputable def wholeV {α : Type} (v : VecD α) : Int × Bool := if v.cls = 0 ∧ (wholeF (v.nums.getD 0 0)).2 = true then wholeF (v.nums.getD 0 0) else (0, false)
noncomputable def wholeP {α : Type} (p : PlainD α) : Int × Bool := if p.fill = 0 ∧ (wholeF ((numsOf p).getD 0 0)).2 = true then wholeF ((numsOf p).getD 0 0) else (0, false)
/-- an error's number, or numbers -/
noncomputable def iotaS (r len : Nat) (x : Int × Bool) (most o : Int) : Int × List Nat := if 1 < r ∨ len ≠ 1 then (22, []) else if ¬ (x.2 = true ∧ 0 ≤ x.1) then (24, []) else if most < x.1 then (26, []) else (0, (plusL (natsI (List.range x.1.toNat)) o).map fwF)
theorem iotaS_22 {r len : Nat} {x : Int × Bool} {most o : Int} (c : 1 < r ∨ len ≠ 1) : iotaS r len x most o = (22, []) := if_pos c
theorem iotaS_24 {r len : Nat} {x : Int × Bool} {most o : Int} (c : ¬ (1 < r ∨ len ≠ 1)) (d : ¬ (x.2 = true ∧ 0 ≤ x.1)) : iotaS r len x most o = (24, []) := by unfold iotaS; rw [if_neg c, if_pos d]
theorem iotaS_26 {r len m : Nat} {most o : Int} (c : ¬ (1 < r ∨ len ≠ 1)) (e : most < (m : Int)) : iotaS r len ((m : Int), true) most o = (26, []) := by unfold iotaS; rw [if_neg c, if_neg (fun h => h ⟨rfl, by dsimp only; omega⟩), if_pos e]
theorem iotaS_0 {r len m : Nat} {most o : Int} (c : ¬ (1 < r ∨ len ≠ 1)) (e : ¬ most < (m : Int)) : iotaS r len ((m : Int), true) most o = (0, (plusL (natsI (List.range m)) o).map fwF) := by unfold iotaS; rw [if_neg c, if_neg (fun h => h ⟨rfl, by dsimp only; omega⟩), if_neg e]; rfl
noncomputable def whereS (r : Nat) (c : Int) (l : List Nat) (o : Int) : Int × List Nat := if r ≠ 1 then (22, []) else if c = 0 ∧ truthsB l = true then (0, (plusL (onesL (bsOf l)) o).map fwF) else (24, [])
theorem whereS_22 {r : Nat} {c : Int} {l : List Nat} {o : Int} (h : ¬ r = 1) : whereS r c l o = (22, []) := if_pos h
theorem whereS_24 {r : Nat} {c : Int} {l : List Nat} {o : Int} (h : r = 1) (d : ¬ (c = 0 ∧ truthsB l = true)) : whereS r c l o = (24, []) := by unfold whereS; rw [if_neg (fun e => e h), if_neg d]
theorem whereS_0 {r : Nat} {c : Int} {l : List Nat} {o : Int} (h : r = 1) (d : c = 0 ∧ truthsB l = true) : whereS r c l o = (0, (plusL (onesL (bsOf l)) o).map fwF) := by unfold whereS; rw [if_neg (fun e => e h), if_pos d]
def numE (k : Nat) (z : Int × List Nat) : ArrD (AD k) := if z.1 = 0 then (numsA k z.2 : ArrD (AD k)) else ⟨[], VecD.none⟩
def numF {α : Type} (z : Int × List Nat) : PlainD α := if z.1 = 0 then numsP z.2 else zeroP
/-! ## Walks -/
section
variable {α : Type} {R : GHeap → List Value → α → Prop}
theorem logicTruths_con (hR : Mono R) (cs : List Value) (v : VecD α) (w : World) (h : GHeap) (hv : VecAt R h cs v) (hm : v.len ≤ 1048576) (hk0 : v.kind ≠ 0) : Con Tryz.prog 121 [.agg cs.toArray] w h (fun h' u => ∃ wv bs, u = .tuple #[.agg [wv, .int .i64 ((bs : List Bool).length)].toArray, .bool (decide (v.cls = 0 ∧ truthsB v.nums = true))] ∧ BitsAt h' wv bs ∧ (v.cls = 0 ∧ truthsB v.nums = true → bs = bsOf v.nums)) := by
  have hv' := hv
  have htd := hv.tidy
  have hcl : v.cls ≠ 0 → v.kind ≠ 1 := fun h e => h (by unfold VecD.cls; rw [e]; rfl)
  have hb1 : v.kind = 1 → v.cls = 0 ∧ truthsB v.nums = true := fun e => by
    obtain ⟨_, _, _, _, _, _, _, _, hk⟩ := hv
    have h1 : ∃ bs : List Bool, v = ⟨1, bs.map bitF, [], []⟩ := by
      rcases hk with ⟨e, _⟩ | ⟨e, bs, _, _, h⟩ | ⟨e, _⟩ | ⟨e, _⟩ | ⟨e, _⟩ | ⟨e, _⟩ | ⟨e, _⟩
      all_goals first | exact ⟨_, h⟩ | omega
    obtain ⟨bs, rfl⟩ := h1
    exact ⟨rfl, truths_bits bs⟩
  have hi2 : (v.into 1).2 = decide (v.cls = 0 ∧ truthsB v.nums = true) ∧ ((v.into 1).2 = true → (v.into 1).1 = ⟨1, v.nums, [], []⟩) := by
    unfold VecD.into
    by_cases c : v.kind = 1
    · rw [if_pos c]
      refine ⟨(decide_eq_true (hb1 c)).symm, fun _ => ?_⟩
      obtain ⟨_, _, _, _, _, _, _, _, hk⟩ := hv
      rcases hk with ⟨e, _⟩ | ⟨e, bs, _, _, h⟩ | ⟨e, _⟩ | ⟨e, _⟩ | ⟨e, _⟩ | ⟨e, _⟩ | ⟨e, _⟩
      all_goals first | (rw [h]; done) | omega
    · rw [if_neg c]
      by_cases c2 : v.cls ≠ 0 ∨ v.kind = 0
      · rw [if_pos c2, decide_eq_false (fun e => by omega)]; exact ⟨rfl, fun e => by cases e⟩
      · rw [if_neg c2]
        by_cases c3 : 1 ≤ (1 : Int) ∧ (1 : Int) ≤ 4 ∧ ∀ x ∈ v.nums, rankF x ≤ 1
        · rw [if_pos c3, decide_eq_true ⟨by omega, (truths_rank htd).2 c3.2.2⟩]; exact ⟨rfl, fun _ => rfl⟩
        · rw [if_neg c3, decide_eq_false (fun e => c3 ⟨by omega, by omega, (truths_rank htd).1 e.2⟩)]; exact ⟨rfl, fun e => by cases e⟩
  obtain ⟨wv, nv, sm, il, fl, ch, bx, ⟨rfl, hoc⟩, _⟩ := hv
  refine Con.of_body Tryz.func121 rfl Tryz.ntmps121 rfl rfl ?_
  intro hs
  refine Zrun ?_
  (refine RW.boxN hs rfl rfl ?_; intro b1 w1 hs)
  (refine RW.allocN T hs rfl rfl rfl rfl ?_; intro b2 w2 hs)
  refine Zerun ?_
  (refine RW.call T hs rfl rfl rfl (sqInto_con hR _ v 1 _ _ hv' hm) ?_; intro v h3 w3 hle3 hp3 hs)
  obtain ⟨cs3, rfl, hv3⟩ := hp3
  have hv' := hv'.mono hR hle3
  obtain ⟨V3, hV3⟩ : ∃ V3, (v.into 1).1 = V3 := ⟨_, rfl⟩
  obtain ⟨ok, hok⟩ : ∃ ok, (v.into 1).2 = ok := ⟨_, rfl⟩
  rw [hV3, hok] at hi2
  rw [hV3] at hv3
  rw [hok]
  have hv3' := hv3
  obtain ⟨wv3, nv3, sm3, il3, fl3, ch3, bx3, ⟨rfl, hoc3⟩, _⟩ := hv3
  refine Zerun ?_
  (refine RW.allocN T hs rfl rfl rfl rfl ?_; intro b4 w4 hs)
  (refine RW.storeAll T hs 0 rfl rfl rfl rfl rfl rfl hoc3 rfl ?_; intro w5 hs)
  refine Zerun ?_
  cases ok with
  | false =>
    rw [← hi2.1]
    refine Zerun ?_
    refine RW.val (Y.build T rfl rfl rfl rfl rfl rfl rfl) rfl ?_
    (refine RW.storeAll T hs 1 rfl rfl rfl rfl rfl rfl rfl rfl ?_; intro w6 hs)
    refine Zerun ?_
    exact retQ_ret [_, _] h3 ⟨resN T hs 1 rfl rfl rfl rfl rfl rfl, rfl, trivial⟩ hs.dropAll ⟨.slice none 0 0, [], rfl, ⟨Nat.zero_le _, [], RowAt.nil _, rfl, (fun u hu => nomatch hu), fun i => by simp⟩, fun e => absurd (hi2.1.trans (decide_eq_true e)) (by decide)⟩
  | true =>
    have hd := of_decide_eq_true hi2.1.symm
    rw [← hi2.1]
    obtain rfl := hi2.2 rfl
    refine Zerun ?_
    (refine RW.call T hs rfl rfl rfl (vecClass_con _ v _ _ hv') ?_; intro v h7 w7 hle7 hp7 hs)
    subst hp7
    rw [hd.1]
    have hv3' := hv3'.mono hR hle7
    refine Zerun ?_
    (refine RW.call T hs rfl rfl rfl (vecPacked_con _ _ _ _ hv3') ?_; intro v h8 w8 hle8 hp8 hs)
    obtain ⟨wb, bs, rfl, hb, hb8, _⟩ := hp8
    have hb8 := hb8 rfl
    rw [decide_eq_true (show (1 : Int) = 1 from rfl)]
    have hob : wb.oneCell' = true := by obtain ⟨_, ws, ⟨_, _, rfl, _⟩, _⟩ := id hb; rfl
    refine Zerun ?_
    (refine RW.storeAll T hs 1 rfl rfl rfl rfl rfl rfl (by show (wb.oneCell' && true) = true; rw [hob]; rfl) rfl ?_; intro w9 hs)
    refine Zerun ?_
    exact retQ_ret [_, _] h8 ⟨resN T hs 1 rfl rfl rfl rfl rfl rfl, rfl, trivial⟩ hs.dropAll ⟨wb, bs, rfl, hb, fun _ => by have e : v.nums = bs.map bitF := congrArg VecD.nums hb8; rw [e]; exact bits_bsOf bs⟩
theorem pickWhere_con (hR : Mono R) (cs : List Value) (v : VecD α) (w : World) (h : GHeap) (hT : TzTab h) (hv : VecAt R h cs v) (hm : v.len ≤ 1048576) (hk0 : v.kind ≠ 0) : Con Tryz.prog 66 [.agg cs.toArray] w h (fun h' u => ∃ s, u = .tuple #[s, .bool (decide (v.cls = 0 ∧ truthsB v.nums = true))] ∧ IntsAt h' s (if v.cls = 0 ∧ truthsB v.nums = true then onesL (bsOf v.nums) else [])) := by
  have hv' := hv
  obtain ⟨wv, nv, sm, il, fl, ch, bx, ⟨rfl, hoc⟩, _⟩ := hv
  refine Con.of_body Tryz.func66 rfl Tryz.ntmps66 rfl rfl ?_
  intro hs
  refine Zrun ?_
  (refine RW.boxN hs rfl rfl ?_; intro b1 w1 hs)
  refine Zerun ?_
  (refine RW.call T hs rfl rfl rfl (logicTruths_con hR _ v _ _ hv' hm hk0) ?_; intro v h2 w2 hle2 hp2 hs)
  obtain ⟨wb, bs, rfl, hb, hbs⟩ := hp2
  have hT := hT.mono hle2
  have hob : wb.oneCell' = true := by obtain ⟨_, ws, ⟨_, _, rfl, _⟩, _⟩ := id hb; rfl
  refine Zerun ?_
  (refine RW.allocN T hs rfl rfl rfl rfl ?_; intro b3 w3 hs)
  (refine RW.storeAll T hs 0 rfl rfl rfl rfl rfl rfl (by show (wb.oneCell' && true) = true; rw [hob]; rfl) rfl ?_; intro w4 hs)
  by_cases c : v.cls = 0 ∧ truthsB v.nums = true
  · rw [decide_eq_true c, if_pos c]
    obtain rfl := hbs c
    refine Zerun ?_
    (refine RW.call T hs rfl rfl rfl (bitsOnes_con _ _ _ _ hT hb) ?_; intro v h5 w5 hle5 hp5 hs)
    refine Zerun ?_
    exact retQ_ret [_, _] h5 ⟨rfl, rfl, trivial⟩ hs.dropAll ⟨_, rfl, hp5⟩
  · rw [decide_eq_false c, if_neg c]
    refine Zerun ?_
    exact retQ_ret [_, _] h2 ⟨rfl, rfl, trivial⟩ hs.dropAll ⟨_, rfl, IntsAt.nil _⟩
end
theorem baseIota_con (k : Nat) (ca : List Value) (a : ArrD (AD k)) (o most : Int) (w : World) (h : GHeap) (ha : ArrAt (k + 1) h ca a) (hw : a.vec.len = 1 → a.vec.whole 0 = wholeV a.vec) (ho : 0 ≤ o ∧ o ≤ 1) (hmost : 0 ≤ most ∧ most ≤ 3000) : Con Tryz.prog 17 [.agg ca.toArray, .int .i64 o, .int .i64 most] w h (fun h' u => ∃ cs', u = .tuple #[.agg cs'.toArray, .int .i64 (iotaS a.shape.length a.vec.len (wholeV a.vec) most o).1] ∧ ArrAt (k + 1) h' cs' (numE k (iotaS a.shape.length a.vec.len (wholeV a.vec) most o))) := by
  have ha' := ha
  obtain ⟨_, vca, rfl, ⟨ad1, cp1, rfl, hS1⟩, hva⟩ := ha
  have hva' := hva
  obtain ⟨wv1, nv1, sm1, il1, fl1, ch1, bx1, ⟨rfl, hoc1⟩, -⟩ := hva
  refine Con.of_body Tryz.func17 rfl Tryz.ntmps17 rfl rfl ?_
  intro hs
  refine Zrun ?_
  (refine RW.boxN hs rfl rfl ?_; intro b1 w1 hs)
  (refine RW.allocN T hs rfl rfl rfl rfl ?_; intro b2 w2 hs)
  refine Zerun ?_
  (refine RW.call T hs rfl rfl rfl (valueSingle_con (R := ArrAt k) _ a _ _ ha') ?_; intro v h3 w3 hle3 hp3 hs)
  subst hp3
  have ha' := ArrAt.mono (k + 1) _ _ _ _ hle3 ha'
  have hva' := hva'.mono (ArrAt.mono k) hle3
  by_cases c1 : a.vec.len = 1
  rotate_left
  · rw [decide_eq_false c1, iotaS_22 (.inr c1)]
    refine Zerun ?_
    refine RW.val (Y.build T rfl rfl rfl rfl rfl rfl rfl) rfl ?_
    (refine RW.storeAll T hs 0 rfl rfl rfl rfl rfl rfl rfl rfl ?_; intro w5 hs)
    refine Zerun ?_
    exact retQ_ret [_, _] h3 ⟨resN T hs 0 rfl rfl rfl rfl rfl rfl, rfl, trivial⟩ hs.dropAll ⟨_, rfl, _, _, rfl, IntsAt.nil _, vecNone _⟩
  rw [decide_eq_true c1]
  refine Zerun ?_
  (refine RW.call T hs rfl rfl rfl (valueRank_con (R := ArrAt k) _ a _ _ ha') ?_; intro v h4 w4 hle4 hp4 hs)
  subst hp4
  have hva' := hva'.mono (ArrAt.mono k) hle4
  by_cases c2 : 1 < a.shape.length
  · rw [iotaS_22 (.inl c2)]
    refine Zerun ?_
    refine RW.val (Y.build T rfl rfl rfl rfl rfl rfl rfl) rfl ?_
    (refine RW.storeAll T hs 0 rfl rfl rfl rfl rfl rfl rfl rfl ?_; intro w5 hs)
    refine Zerun ?_
    exact retQ_ret [_, _] h4 ⟨resN T hs 0 rfl rfl rfl rfl rfl rfl, rfl, trivial⟩ hs.dropAll ⟨_, rfl, _, _, rfl, IntsAt.nil _, vecNone _⟩
  refine Zerun ?_
  (refine RW.call T hs rfl rfl rfl (vecWhole_con _ a.vec 0 _ _ hva') ?_; intro v h6 w6 hle6 hp6 hs)
  subst hp6
  rw [hw c1]
  obtain ⟨⟨n, ok⟩, hno⟩ : ∃ z, wholeV a.vec = z := ⟨_, rfl⟩
  rw [hno]
  dsimp only
  by_cases c3 : ok = true ∧ 0 ≤ n
  rotate_left
  · rw [iotaS_24 (by omega) c3]
    cases ok with
    | false =>
      refine Zerun ?_
      refine RW.val (Y.build T rfl rfl rfl rfl rfl rfl rfl) rfl ?_
      (refine RW.storeAll T hs 0 rfl rfl rfl rfl rfl rfl rfl rfl ?_; intro w7 hs)
      refine Zerun ?_
      exact retQ_ret [_, _] h6 ⟨resN T hs 0 rfl rfl rfl rfl rfl rfl, rfl, trivial⟩ hs.dropAll ⟨_, rfl, _, _, rfl, IntsAt.nil _, vecNone _⟩
    | true =>
      have c4 : n < 0 := Int.not_le.1 (fun e => c3 ⟨rfl, e⟩)
      refine Zerun ?_
      refine RW.val (Y.build T rfl rfl rfl rfl rfl rfl rfl) rfl ?_
      (refine RW.storeAll T hs 0 rfl rfl rfl rfl rfl rfl rfl rfl ?_; intro w7 hs)
      refine Zerun ?_
      exact retQ_ret [_, _] h6 ⟨resN T hs 0 rfl rfl rfl rfl rfl rfl, rfl, trivial⟩ hs.dropAll ⟨_, rfl, _, _, rfl, IntsAt.nil _, vecNone _⟩
  obtain ⟨rfl, c4⟩ := c3
  obtain ⟨m, rfl⟩ := Int.eq_ofNat_of_zero_le c4
  by_cases c5 : most < (m : Int)
  · rw [iotaS_26 (by omega) c5]
    refine Zerun ?_
    refine RW.val (Y.build T rfl rfl rfl rfl rfl rfl rfl) rfl ?_
    (refine RW.storeAll T hs 0 rfl rfl rfl rfl rfl rfl rfl rfl ?_; intro w8 hs)
    refine Zerun ?_
    exact retQ_ret [_, _] h6 ⟨resN T hs 0 rfl rfl rfl rfl rfl rfl, rfl, trivial⟩ hs.dropAll ⟨_, rfl, _, _, rfl, IntsAt.nil _, vecNone _⟩
  rw [iotaS_0 (by omega) c5]
  refine Zerun ?_
  (refine RW.make1 T hs rfl rfl rfl rfl rfl rfl rfl (by dsimp only; omega) (by omega) ?_; intro b8 w8 hs)
  have hs := hs.re (ys := (natsI (List.range 0) ++ List.replicate (m - 0) 0).map (Value.int .i64)) (by rw [List.map_append, List.map_replicate]; rfl)
  refine Zerun ?_
  refine CW.loop (fun i : Nat => [(1, .int .i64 o), (6, .pointer (some ⟨b2, 0, none⟩)), (10, .slice (some ⟨b8, 0, none⟩) m m), (43, .int .i64 m), (44, .int .i64 i)]) (fun i w' => i ≤ m ∧ Sees w h h6 [⟨some ⟨b8, 0, none⟩, m, m, 3, 1, (natsI (List.range i) ++ List.replicate (m - i) 0).map (Value.int .i64)⟩, ⟨some ⟨b2, 0, none⟩, 1, 1, 40, 9, .slice none 0 0 :: vecCells 0 (.slice none 0 0) 0 (.slice none 0 0) (.slice none 0 0) (.slice none 0 0) (.slice none 0 0) (.slice none 0 0)⟩, ⟨some ⟨b1, 0, none⟩, 1, 1, 40, 9, .slice ad1 a.shape.length cp1 :: vecCells a.vec.kind wv1 nv1 sm1 il1 fl1 ch1 bx1⟩] w') (fun i => m - i) 0 ⟨rfl, rfl, rfl, rfl, rfl, trivial⟩ ⟨by omega, hs⟩ ?_
  rintro i w9 ⟨hi, hs⟩
  by_cases hlt : i < m
  · have hAl : (natsI (List.range i)).length = i := by rw [natsI_len, List.length_range]
    refine Zerun ?_
    refine RW.val (Y.idxRN T hs 0 rfl rfl rfl rfl rfl rfl hlt) rfl ?_
    refine RW.st1 T hs 0 rfl rfl rfl rfl rfl rfl rfl hlt ?_
    intro w10 hs
    dsimp only [List.set_cons_zero, List.set_cons_succ] at hs
    rw [map_set_int, fillA hAl hlt, natsI_range] at hs
    refine Zerun ?_
    exact loopQ_round (i + 1) ⟨rfl, rfl, rfl, rfl, seti (by omega), trivial⟩ ⟨by omega, hs⟩ (by omega)
  obtain rfl : i = m := by omega
  rw [Nat.sub_self, List.replicate_zero, List.append_nil] at hs
  obtain ⟨h11, hle11, hs, hS11⟩ := hs.freeze
  have hI11 : IntsAt h11 (.slice (some ⟨b8, 0, none⟩) i i) (natsI (List.range i)) := IntsAt.of_sl hS11
  have hrg := range_mem i
  refine Zerun ?_
  (refine RW.call T hs rfl rfl rfl (baseInts_con k _ _ o _ _ hI11 (fun z hz => by have := hrg z hz; omega) (by rw [natsI_len, List.length_range]; omega)) ?_; intro v h12 w12 hle12 hp12 hs)
  obtain ⟨cs12, rfl, ha12⟩ := hp12
  have hr12 := ha12
  obtain ⟨_, vc12, rfl, ⟨ad12, cp12, rfl, _⟩, hv12⟩ := ha12
  obtain ⟨wv12, nv12, sm12, il12, fl12, ch12, bx12, ⟨rfl, hoc12⟩, -⟩ := hv12
  refine Zerun ?_
  (refine RW.storeAll T hs 0 rfl rfl rfl rfl rfl rfl (by show (Value.oneCell' (.slice ad12 _ cp12) && (vecCells _ wv12 nv12 sm12 il12 fl12 ch12 bx12).all Value.oneCell') = true; rw [hoc12]; rfl) rfl ?_; intro w912 hs)
  refine Zerun ?_
  exact retQ_ret [_, _] h12 ⟨resN T hs 0 rfl rfl rfl rfl rfl rfl, rfl, trivial⟩ hs.dropAll ⟨_, rfl, hr12⟩
theorem baseWhere_con (k : Nat) (ca : List Value) (a : ArrD (AD k)) (o : Int) (w : World) (h : GHeap) (hT : TzTab h) (ha : ArrAt (k + 1) h ca a) (hm : a.vec.len ≤ 1048576) (hk0 : a.vec.kind ≠ 0) (ho : 0 ≤ o ∧ o ≤ 1) : Con Tryz.prog 20 [.agg ca.toArray, .int .i64 o] w h (fun h' u => ∃ cs', u = .tuple #[.agg cs'.toArray, .int .i64 (whereS a.shape.length a.vec.cls a.vec.nums o).1] ∧ ArrAt (k + 1) h' cs' (numE k (whereS a.shape.length a.vec.cls a.vec.nums o))) := by
  have ha' := ha
  obtain ⟨_, vca, rfl, ⟨ad1, cp1, rfl, hS1⟩, hva⟩ := ha
  have hva' := hva
  obtain ⟨wv1, nv1, sm1, il1, fl1, ch1, bx1, ⟨rfl, hoc1⟩, -⟩ := hva
  have hbl := bsOf_len a.vec.nums
  have hnl : a.vec.nums.length ≤ 1048576 := by
    have : a.vec.nums.length ≤ a.vec.len := by unfold VecD.len; omega
    omega
  refine Con.of_body Tryz.func20 rfl Tryz.ntmps20 rfl rfl ?_
  intro hs
  refine Zrun ?_
  (refine RW.boxN hs rfl rfl ?_; intro b1 w1 hs)
  (refine RW.allocN T hs rfl rfl rfl rfl ?_; intro b2 w2 hs)
  refine Zerun ?_
  (refine RW.call T hs rfl rfl rfl (valueRank_con (R := ArrAt k) _ a _ _ ha') ?_; intro v h4 w4 hle4 hp4 hs)
  subst hp4
  have hva' := hva'.mono (ArrAt.mono k) hle4
  have hT := hT.mono hle4
  by_cases c1 : a.shape.length = 1
  rotate_left
  · rw [whereS_22 c1]
    have c1' : ¬ (a.shape.length : Int) = 1 := by omega
    refine Zerun ?_
    refine RW.val (Y.build T rfl rfl rfl rfl rfl rfl rfl) rfl ?_
    (refine RW.storeAll T hs 0 rfl rfl rfl rfl rfl rfl rfl rfl ?_; intro w5 hs)
    refine Zerun ?_
    exact retQ_ret [_, _] h4 ⟨resN T hs 0 rfl rfl rfl rfl rfl rfl, rfl, trivial⟩ hs.dropAll ⟨_, rfl, _, _, rfl, IntsAt.nil _, vecNone _⟩
  have c1' : (a.shape.length : Int) = 1 := by omega
  refine Zerun ?_
  (refine RW.call T hs rfl rfl rfl (pickWhere_con (ArrAt.mono k) _ a.vec _ _ hT hva' hm hk0) ?_; intro v h6 w6 hle6 hp6 hs)
  obtain ⟨s6, rfl, hI6⟩ := hp6
  by_cases c2 : a.vec.cls = 0 ∧ truthsB a.vec.nums = true
  rotate_left
  · rw [whereS_24 c1 c2, decide_eq_false c2]
    rw [if_neg c2] at hI6
    obtain ⟨ad6, cp6, rfl, _⟩ := hI6
    refine Zerun ?_
    refine RW.val (Y.build T rfl rfl rfl rfl rfl rfl rfl) rfl ?_
    (refine RW.storeAll T hs 0 rfl rfl rfl rfl rfl rfl rfl rfl ?_; intro w7 hs)
    refine Zerun ?_
    exact retQ_ret [_, _] h6 ⟨resN T hs 0 rfl rfl rfl rfl rfl rfl, rfl, trivial⟩ hs.dropAll ⟨_, rfl, _, _, rfl, IntsAt.nil _, vecNone _⟩
  rw [whereS_0 c1 c2, decide_eq_true c2]
  rw [if_pos c2] at hI6
  have hI6' := hI6
  obtain ⟨ad6, cp6, rfl, _⟩ := hI6
  refine Zerun ?_
  (refine RW.call T hs rfl rfl rfl (baseInts_con k _ _ o _ _ hI6' (fun z hz => by have := ones_mem hz; omega) (by have := onesTo_len (bsOf a.vec.nums) (bsOf a.vec.nums).length; unfold onesL; rw [bsOf_len] at this ⊢; omega)) ?_; intro v h12 w12 hle12 hp12 hs)
  obtain ⟨cs12, rfl, ha12⟩ := hp12
  have hr12 := ha12
  obtain ⟨_, vc12, rfl, ⟨ad12, cp12, rfl, _⟩, hv12⟩ := ha12
  obtain ⟨wv12, nv12, sm12, il12, fl12, ch12, bx12, ⟨rfl, hoc12⟩, -⟩ := hv12
  refine Zerun ?_
  (refine RW.storeAll T hs 0 rfl rfl rfl rfl rfl rfl (by show (Value.oneCell' (.slice ad12 _ cp12) && (vecCells _ wv12 nv12 sm12 il12 fl12 ch12 bx12).all Value.oneCell') = true; rw [hoc12]; rfl) rfl ?_; intro w912 hs)
  refine Zerun ?_
  exact retQ_ret [_, _] h12 ⟨resN T hs 0 rfl rfl rfl rfl rfl rfl, rfl, trivial⟩ hs.dropAll ⟨_, rfl, hr12⟩
theorem refTruths_con (s : Value) (l : List Nat) (w : World) (h : GHeap) (hl : FAt h s l) (hx : ∀ u ∈ l, tidyF u) (hm : l.length ≤ 1048576) : Con Tryz.prog 55 [s] w h (fun h' u => ∃ s', u = .tuple #[s', .bool (truthsB l)] ∧ TAt h' s' (if truthsB l = true then bsOf l else [])) := by
  obtain ⟨ad, cp, rfl, hS⟩ := hl
  have hcap := hS.caps
  refine Con.of_body Tryz.func55 rfl Tryz.ntmps55 rfl rfl ?_
  intro hs
  refine Zrun ?_
  have hs := hs.nilRow 4 1
  refine CW.loop (fun u : Nat × Option Addr × Nat => [(0, .slice ad l.length cp), (4, .slice u.2.1 u.1 u.2.2), (5, .int .i64 u.1)]) (fun u w' => u.1 ≤ l.length ∧ (∀ x ∈ l.take u.1, x = 0 ∨ x = 4607182418800017408) ∧ Sees w h h [⟨u.2.1, u.1, u.2.2, 4, 1, (bsOf (l.take u.1)).map Value.bool⟩] w') (fun u => l.length - u.1) (0, none, 0) ⟨rfl, rfl, rfl, trivial⟩ ⟨by omega, (fun x hx => nomatch hx), hs⟩ ?_
  rintro ⟨i, ra, rc⟩ w5 ⟨hi, hok, hs⟩
  dsimp only at hi hok hs ⊢
  by_cases hlt : i < l.length
  · have gi := map_get (Value.float .f64) l i 0 hlt
    have hxi := hx _ (mem_getD l i 0 hlt)
    have hnx := take_succ_getD l i 0 hlt
    obtain ⟨x, hxe⟩ : ∃ x, l.getD i 0 = x := ⟨_, rfl⟩
    have hmx : x ∈ l := hxe ▸ mem_getD l i 0 hlt
    have hok2 : (x = 0 ∨ x = 4607182418800017408) → ∀ y ∈ l.take (i + 1), y = 0 ∨ y = 4607182418800017408 := fun e y hy => by
      rw [hnx, List.mem_append, List.mem_singleton, hxe] at hy
      rcases hy with hy | rfl
      · exact hok y hy
      · exact e
    rw [hxe] at gi hxi hnx
    refine Zerun ?_
    refine RW.val (Y.fNeq hxi.2.1 fin0 rfl rfl) rfl ?_
    by_cases c0 : x = 0
    · subst c0
      rw [decide_eq_false (show ¬ (zF 0 ≠ zF 0) from fun e => e rfl)]
      refine Zerun ?_
      refine RW.val (Y.fEql fin0 fin1 rfl rfl) rfl ?_
      rw [decide_eq_false (show ¬ (zF 0 = zF 4607182418800017408) from fun e => absurd (zF_inj tidy0 tidy1 e) (by decide))]
      refine Zerun ?_
      (refine RW.lit T hs (vs := [.bool false]) (cs := [.bool false]) rfl rfl rfl rfl (by simp [Value.cells]) rfl rfl rfl rfl rfl ?_; intro b6 w6 hs)
      (refine RW.append T hs 1 rfl rfl (m := 1) (news := [.bool false]) rfl rfl rfl rfl rfl rfl (hs.src0 rfl (by simp [Value.oneCell'])) (by simp) (by dsimp only; omega) (by omega) ?_; intro ad7 cp7 w7 hs; replace hs := hs.drop)
      refine Zerun ?_
      exact loopQ_round (i + 1, ad7, cp7) ⟨rfl, rfl, rfl, trivial⟩ ⟨by dsimp only; omega, hok2 (.inl rfl), hs.re (by rw [hnx]; simp [bsOf])⟩ (by dsimp only; omega)
    rw [decide_eq_true (show zF x ≠ zF 0 from fun e => c0 (zF_inj hxi tidy0 e))]
    refine Zerun ?_
    refine RW.val (Y.fNeq hxi.2.1 fin1 rfl rfl) rfl ?_
    by_cases c1 : x = 4607182418800017408
    · subst c1
      rw [decide_eq_false (show ¬ (zF 4607182418800017408 ≠ zF 4607182418800017408) from fun e => e rfl)]
      refine Zerun ?_
      refine RW.val (Y.fEql fin1 fin1 rfl rfl) rfl ?_
      rw [decide_eq_true rfl]
      refine Zerun ?_
      (refine RW.lit T hs (vs := [.bool true]) (cs := [.bool true]) rfl rfl rfl rfl (by simp [Value.cells]) rfl rfl rfl rfl rfl ?_; intro b6 w6 hs)
      (refine RW.append T hs 1 rfl rfl (m := 1) (news := [.bool true]) rfl rfl rfl rfl rfl rfl (hs.src0 rfl (by simp [Value.oneCell'])) (by simp) (by dsimp only; omega) (by omega) ?_; intro ad7 cp7 w7 hs; replace hs := hs.drop)
      refine Zerun ?_
      exact loopQ_round (i + 1, ad7, cp7) ⟨rfl, rfl, rfl, trivial⟩ ⟨by dsimp only; omega, hok2 (.inr rfl), hs.re (by rw [hnx]; simp [bsOf])⟩ (by dsimp only; omega)
    rw [decide_eq_true (show zF x ≠ zF 4607182418800017408 from fun e => c1 (zF_inj hxi tidy1 e))]
    have hno : ¬ truthsB l = true := fun e => by
      rcases truthsB_mem e x hmx with e | e
      · exact c0 e
      · exact c1 e
    rw [if_neg hno, Bool.eq_false_iff.2 hno]
    refine Zerun ?_
    exact retQ_ret [_, _] h ⟨rfl, rfl, trivial⟩ hs.dropAll ⟨_, rfl, RowAt.nil _⟩
  obtain rfl : i = l.length := by omega
  rw [List.take_length] at hs hok
  have hyes : truthsB l = true := truthsB_of hok
  obtain ⟨h6, hle6, hs, hS6⟩ := hs.freeze
  rw [hyes, if_pos rfl]
  refine Zerun ?_
  refine retQ_ret [_, _] h6 ⟨rfl, rfl, trivial⟩ hs.dropAll ⟨_, rfl, ?_⟩
  have hl := bsOf_len l
  dsimp only at hS6
  rw [← hl] at hS6 ⊢
  exact RowAt.of_sl hS6
theorem ref27Numbers_con {α : Type} {R : GHeap → List Value → α → Prop} (cp0 : List Value) (p : PlainD α) (w : World) (h : GHeap) (hp : PlainR R h cp0 p) (hm : p.items.length ≤ 1048576) : Con Tryz.prog 51 [.agg cp0.toArray] w h (fun h' u => FAt h' u (numsOf p)) := by
  obtain ⟨s, it, rfl, ⟨ad1, cp1, rfl, hS1⟩, hit⟩ := hp
  obtain ⟨ad2, cp2, xs, rfl, hS2, hA2⟩ := hit
  have hcap := hS2.caps
  refine Con.of_body Tryz.func51 rfl Tryz.ntmps51 rfl rfl ?_
  intro hs
  refine Zrun ?_
  (refine RW.boxN hs rfl rfl ?_; intro b1 w1 hs)
  refine Zerun ?_
  have hs := hs.nilRow 67 1
  refine CW.loop (fun u : Nat × Option Addr × Nat => [(1, .pointer (some ⟨b1, 0, none⟩)), (3, .slice u.2.1 u.1 u.2.2), (4, .int .i64 u.1)]) (fun u w' => u.1 ≤ p.items.length ∧ Sees w h h [⟨u.2.1, u.1, u.2.2, 67, 1, ((numsOf p).take u.1).map (Value.float .f64)⟩, ⟨some ⟨b1, 0, none⟩, 1, 1, 25, 3, [.slice ad1 p.shape.length cp1, .slice ad2 p.items.length cp2, .int .i64 p.fill]⟩] w') (fun u => p.items.length - u.1) (0, none, 0) ⟨rfl, rfl, rfl, trivial⟩ ⟨by omega, hs⟩ ?_
  rintro ⟨i, ra, rc⟩ w5 ⟨hi, hs⟩
  dsimp only at hi hs ⊢
  by_cases hlt : i < p.items.length
  · have hxi := items_num hA2 i hlt
    have hnx := take_succ_getD (numsOf p) i 0 (by rw [numsOf_len]; exact hlt)
    obtain ⟨x, hxe⟩ : ∃ x, (numsOf p).getD i 0 = x := ⟨_, rfl⟩
    rw [hxe] at hxi hnx
    refine Zerun ?_
    (refine RW.lit T hs (vs := [.float .f64 x]) (cs := [.float .f64 x]) rfl rfl rfl rfl (by simp [Value.cells]) rfl rfl rfl rfl rfl ?_; intro b6 w6 hs)
    (refine RW.append T hs 1 rfl rfl (m := 1) (news := [.float .f64 x]) rfl rfl rfl rfl rfl rfl (hs.src0 rfl (by simp [Value.oneCell'])) (by simp) (by dsimp only; omega) (by omega) ?_; intro ad7 cp7 w7 hs; replace hs := hs.drop)
    refine Zerun ?_
    exact loopQ_round (i + 1, ad7, cp7) ⟨rfl, rfl, rfl, trivial⟩ ⟨by dsimp only; omega, hs.re (by rw [hnx, List.map_append]; rfl)⟩ (by dsimp only; omega)
  obtain rfl : i = p.items.length := by omega
  rw [List.take_of_length_le (by rw [numsOf_len]; exact Nat.le_refl _)] at hs
  obtain ⟨h6, hle6, hs, hS6⟩ := hs.freeze
  refine Zerun ?_
  refine retQ_ret [_] h6 ⟨rfl, trivial⟩ hs.dropAll ?_
  have hl := numsOf_len p
  dsimp only at hS6
  rw [← hl] at hS6 ⊢
  exact RowAt.of_sl hS6
theorem ref27Iota_con (k : Nat) (cp0 : List Value) (p : PlainD (PD k)) (o most : Int) (w : World) (h : GHeap) (hp : PlainR (PlainAt k) h cp0 p) (hx : ∀ x ∈ p.items, finF x.num) (ho : 0 ≤ o ∧ o ≤ 1) (hmost : 0 ≤ most ∧ most ≤ 3000) : Con Tryz.prog 19 [.agg cp0.toArray, .int .i64 o, .int .i64 most] w h (fun h' u => ∃ cs', u = .tuple #[.agg cs'.toArray, .int .i64 (iotaS p.shape.length p.items.length (wholeP p) most o).1] ∧ PlainR (PlainAt k) h' cs' (numF (iotaS p.shape.length p.items.length (wholeP p) most o))) := by
  have hp' := hp
  obtain ⟨s, it, rfl, ⟨ad1, cp1, rfl, hS1⟩, hit⟩ := hp
  obtain ⟨ad2, cp2, xs, rfl, hS2, hA2⟩ := hit
  have hcap := hS1.caps
  refine Con.of_body Tryz.func19 rfl Tryz.ntmps19 rfl rfl ?_
  intro hs
  refine Zrun ?_
  (refine RW.boxN hs rfl rfl ?_; intro b1 w1 hs)
  (refine RW.allocN T hs rfl rfl rfl rfl ?_; intro b2 w2 hs)
  refine Zerun ?_
  (refine RW.call T hs rfl rfl rfl (ref27List_con _ p _ _ hp') ?_; intro v h3 w3 hle3 hp3 hs)
  subst hp3
  by_cases c2 : 1 < p.shape.length
  · rw [iotaS_22 (.inl c2), decide_eq_false (by omega)]
    refine Zerun ?_
    refine RW.val (Y.build T rfl rfl rfl rfl rfl rfl rfl) rfl ?_
    (refine RW.storeAll T hs 0 rfl rfl rfl rfl rfl rfl rfl rfl ?_; intro w5 hs)
    refine Zerun ?_
    exact retQ_ret [_, _] h3 ⟨resN T hs 0 rfl rfl rfl rfl rfl rfl, rfl, trivial⟩ hs.dropAll ⟨_, rfl, _, _, rfl, IntsAt.nil _, RowsAt.nil _⟩
  rw [decide_eq_true (by omega)]
  have hS2 := hS2.mono hle3
  by_cases c1 : p.items.length = 1
  rotate_left
  · rw [iotaS_22 (.inr c1)]
    have c1' : ¬ (p.items.length : Int) = 1 := by omega
    refine Zerun ?_
    refine RW.val (Y.build T rfl rfl rfl rfl rfl rfl rfl) rfl ?_
    (refine RW.storeAll T hs 0 rfl rfl rfl rfl rfl rfl rfl rfl ?_; intro w5 hs)
    refine Zerun ?_
    exact retQ_ret [_, _] h3 ⟨resN T hs 0 rfl rfl rfl rfl rfl rfl, rfl, trivial⟩ hs.dropAll ⟨_, rfl, _, _, rfl, IntsAt.nil _, RowsAt.nil _⟩
  have c1' : (p.items.length : Int) = 1 := by omega
  obtain ⟨x, hx1⟩ := List.length_eq_one_iff.1 c1
  have hfx : finF x.num := hx x (by rw [hx1]; exact List.mem_singleton_self _)
  have hxi : xs[0 * 4 + 1]? = some (.float .f64 x.num) := by
    have := items_num hA2 0 (by omega)
    rw [this]
    unfold numsOf
    rw [hx1]
    rfl
  have hwp : wholeP p = if p.fill = 0 ∧ (wholeF x.num).2 = true then wholeF x.num else (0, false) := by unfold wholeP numsOf; rw [hx1]; rfl
  have h0lt : 0 < p.items.length := by omega
  have h0i : (0 : Int) < (p.items.length : Int) := by omega
  refine Zerun ?_
  refine Zerun ?_
  by_cases c6 : p.fill = 0
  rotate_left
  · rw [iotaS_24 (by omega) (by rw [hwp, if_neg (fun e => c6 e.1)]; exact fun e => by cases e.1)]
    refine Zerun ?_
    refine RW.val (Y.build T rfl rfl rfl rfl rfl rfl rfl) rfl ?_
    (refine RW.storeAll T hs 0 rfl rfl rfl rfl rfl rfl rfl rfl ?_; intro w7 hs)
    refine Zerun ?_
    exact retQ_ret [_, _] h3 ⟨resN T hs 0 rfl rfl rfl rfl rfl rfl, rfl, trivial⟩ hs.dropAll ⟨_, rfl, _, _, rfl, IntsAt.nil _, RowsAt.nil _⟩
  refine Zerun ?_
  (refine RW.call T hs rfl rfl rfl (refWhole_con x.num _ _ hfx) ?_; intro v h31 w31 hle31 hp31 hs)
  subst hp31
  obtain ⟨⟨n, ok⟩, hno⟩ : ∃ z, wholeF x.num = z := ⟨_, rfl⟩
  rw [hno] at hwp ⊢
  dsimp only
  cases ok with
  | false =>
    rw [hwp, if_neg (fun e => by cases e.2), iotaS_24 (by omega) (fun e => by cases e.1)]
    refine Zerun ?_
    refine RW.val (Y.build T rfl rfl rfl rfl rfl rfl rfl) rfl ?_
    (refine RW.storeAll T hs 0 rfl rfl rfl rfl rfl rfl rfl rfl ?_; intro w7 hs)
    refine Zerun ?_
    exact retQ_ret [_, _] h31 ⟨resN T hs 0 rfl rfl rfl rfl rfl rfl, rfl, trivial⟩ hs.dropAll ⟨_, rfl, _, _, rfl, IntsAt.nil _, RowsAt.nil _⟩
  | true =>
    rw [hwp, if_pos ⟨c6, rfl⟩]
    obtain ⟨hz, hnb⟩ := (wholeF_iff _ _).1 hno
    have hup := unitF_pos
    refine Zerun ?_
    refine RW.val (Y.fLss hfx fin0 rfl rfl) rfl ?_
    rw [zF0, hz]
    by_cases c4 : 0 ≤ n
    rotate_left
    · rw [iotaS_24 (by omega) (fun e => c4 e.2), decide_eq_true (Int.mul_neg_of_neg_of_pos (by omega) (by omega))]
      refine Zerun ?_
      refine RW.val (Y.build T rfl rfl rfl rfl rfl rfl rfl) rfl ?_
      (refine RW.storeAll T hs 0 rfl rfl rfl rfl rfl rfl rfl rfl ?_; intro w7 hs)
      refine Zerun ?_
      exact retQ_ret [_, _] h31 ⟨resN T hs 0 rfl rfl rfl rfl rfl rfl, rfl, trivial⟩ hs.dropAll ⟨_, rfl, _, _, rfl, IntsAt.nil _, RowsAt.nil _⟩
    rw [decide_eq_false (by have := Int.mul_nonneg c4 (show 0 ≤ (unitF : Int) by omega); omega)]
    obtain ⟨m, rfl⟩ := Int.eq_ofNat_of_zero_le c4
    have hfm := fwF_spec most (by omega)
    refine Zerun ?_
    refine RW.val (Y.convIF T rfl rfl rfl) rfl ?_
    refine RW.val (Y.fGtr hfx hfm.1.2.1 rfl rfl) rfl ?_
    rw [hz, hfm.2, show decide (most * (unitF : Int) < (m : Int) * unitF) = decide (most < (m : Int)) by rw [decide_eq_decide]; exact Int.mul_lt_mul_right (by omega)]
    by_cases c5 : most < (m : Int)
    · rw [iotaS_26 (by omega) c5, decide_eq_true c5]
      refine Zerun ?_
      refine RW.val (Y.build T rfl rfl rfl rfl rfl rfl rfl) rfl ?_
      (refine RW.storeAll T hs 0 rfl rfl rfl rfl rfl rfl rfl rfl ?_; intro w8 hs)
      refine Zerun ?_
      exact retQ_ret [_, _] h31 ⟨resN T hs 0 rfl rfl rfl rfl rfl rfl, rfl, trivial⟩ hs.dropAll ⟨_, rfl, _, _, rfl, IntsAt.nil _, RowsAt.nil _⟩
    rw [iotaS_0 (by omega) c5, decide_eq_false c5]
    have ftr := trunc_exact _ _ hz
    have hbt : -9223372036854775808 ≤ truncF x.num ∧ truncF x.num ≤ 9223372036854775807 := by rw [ftr]; omega
    refine Zerun ?_
    have hs := hs.nilRow 3 1
    refine CW.loop (fun u : Nat × (Option Addr × Nat) => [(1, .int .i64 o), (6, .pointer (some ⟨b2, 0, none⟩)), (8, .float .f64 x.num), (9, .slice u.2.1 u.1 u.2.2), (10, .int .i64 u.1)]) (fun u w' => u.1 ≤ m ∧ Sees w h h31 [⟨u.2.1, u.1, u.2.2, 3, 1, (natsI (List.range u.1)).map (Value.int .i64)⟩, ⟨some ⟨b2, 0, none⟩, 1, 1, 25, 3, [.slice none 0 0, .slice none 0 0, .int .i64 0]⟩, ⟨some ⟨b1, 0, none⟩, 1, 1, 25, 3, [.slice ad1 p.shape.length cp1, .slice ad2 p.items.length cp2, .int .i64 p.fill]⟩] w') (fun u => m - u.1) (0, (none, 0)) ⟨rfl, rfl, rfl, rfl, rfl, trivial⟩ ⟨by omega, hs⟩ ?_
    rintro ⟨i, ⟨ai, ci⟩⟩ w9 ⟨hi, hs⟩
    dsimp only at hi hs ⊢
    refine Zerun ?_
    refine RW.val (yields_eq2 (Y.convFI T rfl rfl rfl hfx hbt) (congrArg (Value.int .i64) ftr)) rfl ?_
    by_cases hlt : i < m
    · refine Zerun ?_
      (refine RW.lit T hs (vs := [.int .i64 (i : Int)]) (cs := [.int .i64 (i : Int)]) rfl rfl rfl rfl (by simp [Value.cells]) rfl rfl rfl rfl rfl ?_; intro b33 w33 hs)
      (refine RW.append T hs 1 rfl rfl (m := 1) (news := [.int .i64 (i : Int)]) rfl rfl rfl rfl rfl rfl (hs.src0 rfl (by simp [Value.oneCell'])) (by simp) (by dsimp only; omega) (by omega) ?_; intro ad34 cp34 w34 hs; replace hs := hs.drop)
      refine Zerun ?_
      refine loopQ_round (i + 1, (ad34, cp34)) ⟨rfl, rfl, rfl, rfl, seti (by dsimp only; omega), trivial⟩ ⟨by dsimp only; omega, ?_⟩ (by dsimp only; omega)
      dsimp only
      rw [← natsI_range, List.map_append]
      exact hs
    obtain rfl : i = m := by omega
    obtain ⟨h11, hle11, hs, hS11⟩ := hs.freeze
    have hI11 : IntsAt h11 (.slice ai i ci) (natsI (List.range i)) := IntsAt.of_sl hS11
    have hrg := range_mem i
    refine Zerun ?_
    (refine RW.call T hs rfl rfl rfl (ref27Ints_con (PlainAt.mono k) _ _ o _ _ hI11 (fun z hz => by have := hrg z hz; omega) (by rw [natsI_len, List.length_range]; omega)) ?_; intro v h12 w12 hle12 hp12 hs)
    obtain ⟨cs12, rfl, hq12⟩ := hp12
    have hr12 := hq12
    obtain ⟨s12, it12, rfl, ⟨adS12, cpS12, rfl, _⟩, ⟨adI12, cpI12, xsI12, rfl, _, _⟩⟩ := hq12
    refine Zerun ?_
    (refine RW.storeAll T hs 0 rfl rfl rfl rfl rfl rfl rfl rfl ?_; intro w912 hs)
    refine Zerun ?_
    exact retQ_ret [_, _] h12 ⟨resN T hs 0 rfl rfl rfl rfl rfl rfl, rfl, trivial⟩ hs.dropAll ⟨_, rfl, hr12⟩
theorem ref27Where_con (k : Nat) (cp0 : List Value) (p : PlainD (PD k)) (o : Int) (w : World) (h : GHeap) (hp : PlainR (PlainAt k) h cp0 p) (hx : ∀ x ∈ p.items, tidyF x.num) (hm : p.items.length ≤ 1048576) (ho : 0 ≤ o ∧ o ≤ 1) : Con Tryz.prog 21 [.agg cp0.toArray, .int .i64 o] w h (fun h' u => ∃ cs', u = .tuple #[.agg cs'.toArray, .int .i64 (whereS p.shape.length p.fill (numsOf p) o).1] ∧ PlainR (PlainAt k) h' cs' (numF (whereS p.shape.length p.fill (numsOf p) o))) := by
  have hp' := hp
  obtain ⟨s, it, rfl, ⟨ad1, cp1, rfl, hS1⟩, hit⟩ := hp
  obtain ⟨ad2, cp2, xs, rfl, hS2, hA2⟩ := hit
  have hcap := hS1.caps
  have hnl := numsOf_len p
  have hnt : ∀ u ∈ numsOf p, tidyF u := fun u hu => by obtain ⟨x, hx1, rfl⟩ := List.mem_map.1 hu; exact hx x hx1
  refine Con.of_body Tryz.func21 rfl Tryz.ntmps21 rfl rfl ?_
  intro hs
  refine Zrun ?_
  (refine RW.boxN hs rfl rfl ?_; intro b1 w1 hs)
  (refine RW.allocN T hs rfl rfl rfl rfl ?_; intro b2 w2 hs)
  by_cases c1 : p.shape.length = 1
  rotate_left
  · rw [whereS_22 c1]
    have c1' : ¬ (p.shape.length : Int) = 1 := by omega
    refine Zerun ?_
    refine RW.val (Y.build T rfl rfl rfl rfl rfl rfl rfl) rfl ?_
    (refine RW.storeAll T hs 0 rfl rfl rfl rfl rfl rfl rfl rfl ?_; intro w5 hs)
    refine Zerun ?_
    exact retQ_ret [_, _] h ⟨resN T hs 0 rfl rfl rfl rfl rfl rfl, rfl, trivial⟩ hs.dropAll ⟨_, rfl, _, _, rfl, IntsAt.nil _, RowsAt.nil _⟩
  have c1' : (p.shape.length : Int) = 1 := by omega
  refine Zerun ?_
  (refine RW.call T hs rfl rfl rfl (ref27Numbers_con (R := PlainAt k) _ p _ _ hp' hm) ?_; intro v h17 w17 hle17 hp17 hs)
  have hF17' := hp17
  obtain ⟨ad17, cp17, rfl, _⟩ := hp17
  refine Zerun ?_
  (refine RW.call T hs rfl rfl rfl (refTruths_con _ _ _ _ hF17' hnt (by rw [hnl]; exact hm)) ?_; intro v h18 w18 hle18 hp18 hs)
  obtain ⟨s18, rfl, hT18⟩ := hp18
  cases ht : truthsB (numsOf p) with
  | false =>
    rw [whereS_24 c1 (fun e => by rw [ht] at e; cases e.2)]
    rw [ht] at hT18
    obtain ⟨ad18, cp18, rfl, _⟩ := hT18
    refine Zerun ?_
    refine RW.val (Y.build T rfl rfl rfl rfl rfl rfl rfl) rfl ?_
    (refine RW.storeAll T hs 0 rfl rfl rfl rfl rfl rfl rfl rfl ?_; intro w7 hs)
    refine Zerun ?_
    exact retQ_ret [_, _] h18 ⟨resN T hs 0 rfl rfl rfl rfl rfl rfl, rfl, trivial⟩ hs.dropAll ⟨_, rfl, _, _, rfl, IntsAt.nil _, RowsAt.nil _⟩
  | true =>
    rw [ht, if_pos rfl] at hT18
    obtain ⟨ad18, cp18, rfl, hS18⟩ := hT18
    by_cases c6 : p.fill = 0
    rotate_left
    · rw [whereS_24 c1 (fun e => c6 e.1)]
      refine Zerun ?_
      refine RW.val (Y.build T rfl rfl rfl rfl rfl rfl rfl) rfl ?_
      (refine RW.storeAll T hs 0 rfl rfl rfl rfl rfl rfl rfl rfl ?_; intro w7 hs)
      refine Zerun ?_
      exact retQ_ret [_, _] h18 ⟨resN T hs 0 rfl rfl rfl rfl rfl rfl, rfl, trivial⟩ hs.dropAll ⟨_, rfl, _, _, rfl, IntsAt.nil _, RowsAt.nil _⟩
    rw [whereS_0 c1 ⟨c6, ht⟩]
    obtain ⟨bs, hbs⟩ : ∃ bs, bsOf (numsOf p) = bs := ⟨_, rfl⟩
    have hbl : bs.length = p.items.length := by rw [← hbs, bsOf_len, hnl]
    rw [hbs] at hS18 ⊢
    have hcap8 := hS18.caps
    have hbm : bs.length ≤ 1048576 := by omega
    refine Zerun ?_
    have hs := hs.nilRow 3 1
    refine CW.loop (fun u : Nat × Nat × Option Addr × Nat => [(1, .int .i64 o), (4, .pointer (some ⟨b2, 0, none⟩)), (6, .slice ad18 bs.length cp18), (8, .slice u.2.2.1 u.2.1 u.2.2.2), (9, .int .i64 u.1)]) (fun u w' => u.1 ≤ bs.length ∧ (onesTo bs u.1).length = u.2.1 ∧ Sees w h h18 [⟨u.2.2.1, u.2.1, u.2.2.2, 3, 1, (onesTo bs u.1).map (Value.int .i64)⟩, ⟨some ⟨b2, 0, none⟩, 1, 1, 25, 3, [.slice none 0 0, .slice none 0 0, .int .i64 0]⟩, ⟨some ⟨b1, 0, none⟩, 1, 1, 25, 3, [.slice ad1 p.shape.length cp1, .slice ad2 p.items.length cp2, .int .i64 p.fill]⟩] w') (fun u => bs.length - u.1) (0, 0, none, 0) ⟨rfl, rfl, rfl, rfl, rfl, trivial⟩ ⟨by omega, rfl, hs⟩ ?_
    rintro ⟨i, m, ra, rc⟩ w9 ⟨hi, hml, hs⟩
    dsimp only at hi hml hs ⊢
    by_cases hlt : i < bs.length
    · have gi := map_get Value.bool bs i false hlt
      have hol := onesTo_len bs i
      have hsu := onesTo_succ bs i
      obtain ⟨b, hb⟩ : ∃ b, bs.getD i false = b := ⟨_, rfl⟩
      rw [hb] at gi hsu
      refine Zerun ?_
      cases b with
      | true =>
        rw [if_pos rfl] at hsu
        refine Zerun ?_
        (refine RW.lit T hs (vs := [.int .i64 (i : Int)]) (cs := [.int .i64 (i : Int)]) rfl rfl rfl rfl (by simp [Value.cells]) rfl rfl rfl rfl rfl ?_; intro b33 w33 hs)
        (refine RW.append T hs 1 rfl rfl (m := 1) (news := [.int .i64 (i : Int)]) rfl rfl rfl rfl rfl rfl (hs.src0 rfl (by simp [Value.oneCell'])) (by simp) (by dsimp only; omega) (by omega) ?_; intro ad34 cp34 w34 hs; replace hs := hs.drop)
        refine Zerun ?_
        exact loopQ_round (i + 1, m + 1, ad34, cp34) ⟨rfl, rfl, rfl, rfl, rfl, trivial⟩ ⟨by dsimp only; omega, by dsimp only; rw [hsu, List.length_append, hml]; rfl, hs.re (by rw [hsu, List.map_append]; rfl)⟩ (by dsimp only; omega)
      | false =>
        rw [if_neg (by decide)] at hsu
        refine Zerun ?_
        exact loopQ_round (i + 1, m, ra, rc) ⟨rfl, rfl, rfl, rfl, rfl, trivial⟩ ⟨by dsimp only; omega, by dsimp only; rw [hsu]; exact hml, by dsimp only; rw [hsu]; exact hs⟩ (by dsimp only; omega)
    obtain rfl : i = bs.length := by omega
    have hol : m ≤ bs.length := by have := onesTo_len bs bs.length; omega
    obtain ⟨h11, hle11, hs, hS11⟩ := hs.freeze
    have hI11 : IntsAt h11 (.slice ra m rc) (onesL bs) := IntsAt.of_sl hS11
    refine Zerun ?_
    (refine RW.call T hs rfl rfl rfl (ref27Ints_con (PlainAt.mono k) _ _ o _ _ hI11 (fun z hz => by have := ones_mem hz; omega) (by have : (onesL bs).length = m := hml; omega)) ?_; intro v h12 w12 hle12 hp12 hs)
    obtain ⟨cs12, rfl, hq12⟩ := hp12
    have hr12 := hq12
    obtain ⟨s12, it12, rfl, ⟨adS12, cpS12, rfl, _⟩, ⟨adI12, cpI12, xsI12, rfl, _, _⟩⟩ := hq12
    refine Zerun ?_
    (refine RW.storeAll T hs 0 rfl rfl rfl rfl rfl rfl rfl rfl ?_; intro w912 hs)
    refine Zerun ?_
    exact retQ_ret [_, _] h12 ⟨resN T hs 0 rfl rfl rfl rfl rfl rfl, rfl, trivial⟩ hs.dropAll ⟨_, rfl, hr12⟩
end Go.Proofs.YtmojpbfkpggjhaaGreatDoor

/-
  What sets tell, and why not: the code's answers and the document's. No statement is proved here.
-/
namespace Go.Proofs.YtmojpbfkpggjhaaGreatDoor
open Go Go.RowKit
set_option linter.unusedVariables false
set_option linter.unusedSimpArgs false
set_option maxHeartbeats 4000000
attribute [local irreducible] CW RW QW SW HW ConM retM heldQ calmQ elemP thenQ blockQ loopQ joinQ retQ Yields Con Sl zF magR unitF truncF fwF wholeF tidySpec elemQ rankF leastN tidyW
set_option maxHeartbeats 4000000
attribute [local irreducible] mixN wrN wr32 keyIt keyP

/-- what is told of an array, and of a plain one; or an error's number -/
def ResA (k : Nat) (e : Int) (a : AD (k + 1)) (p : PD (k + 1)) : Prop := (e = 0 ∧ good (k + 1) 40 a ∧ plain (k + 1) a = p ∧ tdy (k + 1) p) ∨ ((e = 22 ∨ e = 23 ∨ e = 24 ∨ e = 26) ∧ a = (⟨[], VecD.none⟩ : ArrD (AD k)))
theorem shows27R_con (k : Nat) (cs cp : List Value) (e : Int) (a : AD (k + 1)) (p : PD (k + 1)) (w : World) (h : GHeap) (ha : ArrAt (k + 1) h cs a) (hp : PlainAt (k + 1) h cp p) (hr : ResA k e a p) : Con Tryz.prog 16 [.agg cs.toArray, .int .i64 e, .agg cp.toArray, .int .i64 e] w h (fun _ u => u = .bool true) := by
  rcases hr with ⟨rfl, h1, h2, h3⟩ | ⟨he, rfl⟩
  · exact shows27_con k cs cp a p w h ha hp h1 h2 h3
  · exact shows27E_con (α := AD k) (R := ArrAt k) (Rq := PlainAt k) cs cp p e w h he ha hp
end Go.Proofs.YtmojpbfkpggjhaaGreatDoor

/-
  Contracts of the law's own functions of layer 27: numbers counted, places that are true. No statement is proved here.
-/
namespace Go.Proofs.YtmojpbfkpggjhaaGreatDoor
open Go Go.RowKit
set_option linter.unusedVariables false
set_option linter.unusedSimpArgs false
set_option maxHeartbeats 4000000
attribute [local irreducible] CW RW QW SW HW ConM retM heldQ calmQ elemP thenQ blockQ loopQ joinQ retQ Yields Con Sl zF magR unitF truncF fwF wholeF tidySpec elemQ rankF leastN tidyW
set_option maxHeartbeats 4000000
attribute [local irreducible] mixN wrN wr32 keyIt keyP

theorem count_shown (k : Nat) (p : PD (k + 2)) (h : GHeap) (cs : List Value) (hp : PlainAt (k + 2) h cs p) (hc : chk (k + 2) 40 p = 0) : Shown (k + 1) (ArrD.vec (α := AD (k + 1)) (arr (k + 2) p)) (PlainD.items (α := PD (k + 1)) (tidy (k + 2) p)) (PlainD.fill (α := PD (k + 1)) (tidy (k + 2) p)) ∧ (PlainD.items (α := PD (k + 1)) (tidy (k + 2) p)).length = (ArrD.vec (α := AD (k + 1)) (arr (k + 2) p)).len := by
  obtain ⟨_, _, _, h4, _⟩ := (chkP_ok (α := PD (k + 1)) _ _ _).1 hc
  have hl : (PlainD.items (α := PD (k + 1)) (tidy (k + 2) p)).length = (PlainD.items (α := PD (k + 1)) p).length := List.length_map ..
  have hg2 : product (PlainD.shape (α := PD (k + 1)) p) 1048576 = (((ArrD.vec (α := AD (k + 1)) (arr (k + 2) p)).len : Int), 0) := (good_arr (k + 2) 40 p hc).1
  rw [h4] at hg2
  have := congrArg Prod.fst hg2
  dsimp only at this
  exact ⟨shown_of k p h cs hp hc, by omega⟩
theorem iota_whole {k : Nat} (p : PD (k + 2)) (hc : chk (k + 2) 40 p = 0) (h1 : (ArrD.vec (α := AD (k + 1)) (arr (k + 2) p)).len = 1) : (ArrD.vec (α := AD (k + 1)) (arr (k + 2) p)).whole 0 = wholeV (ArrD.vec (α := AD (k + 1)) (arr (k + 2) p)) := by
  have hk := (good_arr (k + 2) 40 p hc).2.2.1
  have hk : (ArrD.vec (α := AD (k + 1)) (arr (k + 2) p)).kind = (ArrD.vec (α := AD (k + 1)) (arr (k + 2) p)).least := hk
  have hk0 := (good_arr (k + 2) 40 p hc).2.1
  have hk0 : (ArrD.vec (α := AD (k + 1)) (arr (k + 2) p)).kind ≠ 0 := hk0
  have hform : (ArrD.vec (α := AD (k + 1)) (arr (k + 2) p)).cls = 0 → (ArrD.vec (α := AD (k + 1)) (arr (k + 2) p)).chars = [] ∧ (ArrD.vec (α := AD (k + 1)) (arr (k + 2) p)).boxes = [] := by
    show (arrV (arr (k + 1)) (PlainD.fill (α := PD (k + 1)) p) (PlainD.items (α := PD (k + 1)) p)).cls = 0 → _
    intro e
    have e2 : (ArrD.vec (α := AD (k + 1)) (arr (k + 2) p)) = arrV (arr (k + 1)) (PlainD.fill (α := PD (k + 1)) p) (PlainD.items (α := PD (k + 1)) p) := rfl
    rw [e2]
    unfold arrV at e ⊢
    split at e
    · exact absurd e (by show ¬ (1 : Int) = 0; decide)
    · split at e
      · exact absurd e (by show ¬ (2 : Int) = 0; decide)
      · rename_i c1 c2
        rw [if_neg c1, if_neg c2]
        exact ⟨rfl, rfl⟩
  generalize ArrD.vec (α := AD (k + 1)) (arr (k + 2) p) = v at *
  unfold VecD.whole wholeV
  by_cases c : v.cls = 0
  · obtain ⟨f1, f2⟩ := hform c
    have hn : v.nums.length = 1 := by
      unfold VecD.len at h1
      rw [f1, f2] at h1
      simpa using h1
    obtain ⟨x, hx⟩ := List.length_eq_one_iff.1 hn
    have hl : v.kind = leastN v.nums := by rw [hk]; unfold VecD.least; rw [if_pos ⟨c, hk0⟩]
    rw [hx] at hl ⊢
    have hr := rankF_bounds x
    have hlx : leastN [x] = rankF x := by
      unfold leastN
      show max 1 (rankF x) = _
      omega
    rw [hlx] at hl
    have hi := rank_int x
    show (if (v.kind = 1 ∨ v.kind = 2 ∨ v.kind = 3) ∧ (0 : Int) ≤ 0 ∧ (0 : Int) < v.len then ((wholeF x).1, true) else (0, false)) = (if v.cls = 0 ∧ (wholeF x).2 = true then wholeF x else (0, false))
    by_cases d : (wholeF x).2 = true
    · have := hi.2 d
      rw [if_pos ⟨by omega, by omega, by omega⟩, if_pos ⟨c, d⟩, ← d]
    · have : ¬ rankF x ≤ 3 := fun e => d (hi.1 e)
      rw [if_neg (by omega), if_neg (fun e => d e.2)]
  · have hk3 : ¬ (v.kind = 1 ∨ v.kind = 2 ∨ v.kind = 3) := fun e => c (by unfold VecD.cls; rw [if_neg (by omega), if_neg (by omega)])
    rw [if_neg (fun e => hk3 e.1), if_neg (fun e => c e.1)]
theorem nums_same {k : Nat} {v : VecD (AD (k + 1))} {L : List (ItemD (PD (k + 1)))} {c : Int} (H : Shown (k + 1) v L c) (h0 : c = 0) : L.map (·.num) = v.nums := by
  rw [← H.he, itemsV_c0 _ (H.hc.trans h0), List.map_map]
  conv => rhs; rw [← List.map_id v.nums]
  rfl
theorem iota_same {k : Nat} {a : ArrD (AD (k + 1))} {p : PlainD (PD (k + 1))} (H : Shown (k + 1) a.vec p.items p.fill) (hl : p.items.length = a.vec.len) (hs : a.shape.length = p.shape.length) (most o : Int) : iotaS a.shape.length a.vec.len (wholeV a.vec) most o = iotaS p.shape.length p.items.length (wholeP p) most o := by
  rw [hs, hl]
  congr 1
  unfold wholeV wholeP numsOf
  rw [H.hc]
  by_cases c : p.fill = 0
  · rw [nums_same H c]
  · rw [if_neg (fun e => c e.1), if_neg (fun e => c e.1)]
theorem where_same {k : Nat} {a : ArrD (AD (k + 1))} {p : PlainD (PD (k + 1))} (H : Shown (k + 1) a.vec p.items p.fill) (hs : a.shape.length = p.shape.length) (o : Int) : whereS a.shape.length a.vec.cls a.vec.nums o = whereS p.shape.length p.fill (numsOf p) o := by
  rw [hs, H.hc]
  by_cases c : p.fill = 0
  · unfold numsOf; rw [nums_same H c]
  · unfold whereS
    split
    · rfl
    · rw [if_neg (fun e => c e.1), if_neg (fun e => c e.1)]
/-- numbers told, or an error -/
def NumOk (z : Int × List Nat) : Prop := (z.1 = 0 ∨ z.1 = 22 ∨ z.1 = 24 ∨ z.1 = 26) ∧ (∀ u ∈ z.2, tidyF u) ∧ z.2.length ≤ 1048576
theorem num_res {k : Nat} {z : Int × List Nat} (h : NumOk z) : ResA k z.1 (numE k z) (numF z : PlainD (PD k)) := by
  obtain ⟨h1, h2, h3⟩ := h
  by_cases c : z.1 = 0
  · have e1 : (numE k z : AD (k + 1)) = numsA k z.2 := if_pos c
    have e2 : (numF z : PlainD (PD k)) = numsP z.2 := if_pos c
    rw [e1, e2]
    exact .inl ⟨c, numsA_good k _ 40 (by omega) h3, numsA_plain k _, numsP_tdy k _ h2⟩
  · have e1 : (numE k z : AD (k + 1)) = (⟨[], VecD.none⟩ : ArrD (AD k)) := if_neg c
    rw [e1]
    exact .inr ⟨by omega, rfl⟩
theorem iota_ok (r len : Nat) (x : Int × Bool) (most o : Int) (hm : 0 ≤ most ∧ most ≤ 3000) (ho : 0 ≤ o ∧ o ≤ 1) : NumOk (iotaS r len x most o) := by
  have nil : ∀ e : Int, (e = 0 ∨ e = 22 ∨ e = 24 ∨ e = 26) → NumOk (e, []) := fun e he => ⟨he, (fun u hu => nomatch hu), Nat.zero_le _⟩
  unfold iotaS
  split
  · exact nil _ (.inr (.inl rfl))
  · split
    · exact nil _ (.inr (.inr (.inl rfl)))
    · split
      · exact nil _ (.inr (.inr (.inr rfl)))
      · have hr := range_mem x.1.toNat
        refine ⟨.inl rfl, plusL_tidy _ o (fun n hn => by have := hr n hn; omega), ?_⟩
        rw [List.length_map, plusL_len, natsI_len, List.length_range]
        omega
theorem where_ok (r : Nat) (c : Int) (l : List Nat) (o : Int) (ho : 0 ≤ o ∧ o ≤ 1) (hl : l.length ≤ 1048576) : NumOk (whereS r c l o) := by
  have nil : ∀ e : Int, (e = 0 ∨ e = 22 ∨ e = 24 ∨ e = 26) → NumOk (e, []) := fun e he => ⟨he, (fun u hu => nomatch hu), Nat.zero_le _⟩
  have hb := bsOf_len l
  unfold whereS
  split
  · exact nil _ (.inr (.inl rfl))
  · split
    · refine ⟨.inl rfl, plusL_tidy _ o (fun n hn => by have := ones_mem hn; omega), ?_⟩
      have := onesTo_len (bsOf l) (bsOf l).length
      rw [List.length_map, plusL_len]
      unfold onesL
      omega
    · exact nil _ (.inr (.inr (.inl rfl)))
theorem baseCountsLaw_con (k : Nat) (cp0 cq0 : List Value) (p q : PD (k + 2)) (one : Bool) (x : Int) (w : World) (h : GHeap) (hT : TzTab h) (hp : PlainAt (k + 2) h cp0 p) (hq : PlainAt (k + 2) h cq0 q) (hx : 0 ≤ x ∧ x ≤ 65535) : Con Tryz.prog 4 [.agg cp0.toArray, .agg cq0.toArray, .bool one, .int .u16 x] w h (fun _ u => u = .bool true) := by
  have hp' := hp
  have hq' := hq
  have hp0 := hp
  have hq0 := hq
  obtain ⟨s, it, rfl, ⟨ad, cp, rfl, _⟩, ⟨ad2, cp2, xs, rfl, _, _⟩⟩ := hp
  obtain ⟨s2, it2, rfl, ⟨ad3, cp3, rfl, _⟩, ⟨ad4, cp4, xs4, rfl, _, _⟩⟩ := hq
  refine Con.of_body Tryz.func4 rfl Tryz.ntmps4 rfl rfl ?_
  intro hs
  refine Zrun ?_
  (refine RW.boxN hs rfl rfl ?_; intro b1 w1 hs)
  refine Zrun ?_
  (refine RW.boxN hs rfl rfl ?_; intro b2 w2 hs)
  refine Zerun ?_
  (refine RW.call T hs rfl rfl rfl (fine27_con (k + 1) _ p _ _ hp') ?_; intro v h3 w3 hle3 hp3 hs)
  obtain ⟨b, rfl, hbp⟩ := hp3
  have hp' := PlainAt.mono (k + 2) _ _ _ _ hle3 hp'
  have hq' := PlainAt.mono (k + 2) _ _ _ _ hle3 hq'
  have hT := hT.mono hle3
  cases b with
  | false =>
    refine Zerun ?_
    (refine RW.call T hs rfl rfl rfl (awake27_con _ _ hT) ?_; intro v h13 w13 hle13 hp13 hs)
    subst hp13
    refine Zerun ?_
    exact retQ_ret [_] h13 ⟨rfl, trivial⟩ hs.dropAll rfl
  | true =>
  obtain ⟨hcp, h8p, _⟩ := hbp rfl
  refine Zerun ?_
  (refine RW.call T hs rfl rfl rfl (fine27_con (k + 1) _ q _ _ hq') ?_; intro v h4 w4 hle4 hp4 hs)
  obtain ⟨b, rfl, hbq⟩ := hp4
  have hp' := PlainAt.mono (k + 2) _ _ _ _ hle4 hp'
  have hq' := PlainAt.mono (k + 2) _ _ _ _ hle4 hq'
  have hT := hT.mono hle4
  cases b with
  | false =>
    refine Zerun ?_
    (refine RW.call T hs rfl rfl rfl (awake27_con _ _ hT) ?_; intro v h14 w14 hle14 hp14 hs)
    subst hp14
    refine Zerun ?_
    exact retQ_ret [_] h14 ⟨rfl, trivial⟩ hs.dropAll rfl
  | true =>
  obtain ⟨hcq, h8q, _⟩ := hbq rfl
  have hgp := good_arr (k + 2) 40 p hcp
  have hgq := good_arr (k + 2) 40 q hcq
  have hsq := good_sml (k + 2) 40 _ hgq
  obtain ⟨hShp, hlp⟩ := count_shown k p _ _ hp0 hcp
  obtain ⟨hShq, hlq⟩ := count_shown k q _ _ hq0 hcq
  obtain ⟨most, hmost⟩ : ∃ most : Int, x % 3000 = most := ⟨_, rfl⟩
  have hmb : 0 ≤ most ∧ most ≤ 3000 := by omega
  have hso := orgN_rng one
  refine Zerun ?_
  rw [hmost]
  refine RW.val (Y.conv64 (u := most) T rfl rfl rfl (by omega)) rfl ?_
  refine Zerun ?_
  have hwh := iota_whole (k := k) p hcp
  have eI := iota_same hShp hlp rfl most (orgN one)
  have eW := where_same hShq rfl (orgN one)
  obtain ⟨zI, hzI⟩ : ∃ z, iotaS (PlainD.shape (α := PD (k + 1)) (tidy (k + 2) p)).length (PlainD.items (α := PD (k + 1)) (tidy (k + 2) p)).length (wholeP (α := PD (k + 1)) (tidy (k + 2) p)) most (orgN one) = z := ⟨_, rfl⟩
  obtain ⟨zW, hzW⟩ : ∃ z, whereS (PlainD.shape (α := PD (k + 1)) (tidy (k + 2) q)).length (PlainD.fill (α := PD (k + 1)) (tidy (k + 2) q)) (numsOf (α := PD (k + 1)) (tidy (k + 2) q)) (orgN one) = z := ⟨_, rfl⟩
  rw [hzI] at eI
  rw [hzW] at eW
  have rI := num_res (k := k + 1) (hzI ▸ iota_ok _ _ _ most (orgN one) hmb hso)
  have rW := num_res (k := k + 1) (hzW ▸ where_ok _ _ _ (orgN one) hso (Nat.le_trans (Nat.le_of_eq ((numsOf_len (α := PD (k + 1)) _).trans hlq)) hsq.2.1))
  (refine RW.call T hs rfl rfl rfl (of07_con (k + 2) _ p _ _ hp' hcp) ?_; intro v h32 w32 hle32 hp32 hs)
  obtain ⟨cs32, rfl, _, _, hn32⟩ := hp32
  have hp' := PlainAt.mono (k + 2) _ _ _ _ hle32 hp'
  have hq' := PlainAt.mono (k + 2) _ _ _ _ hle32 hq'
  have hT := hT.mono hle32
  refine Zerun ?_
  (refine RW.call T hs rfl rfl rfl (origin27_con one _ _) ?_; intro v h34 w34 hle34 hp34 hs)
  subst hp34
  have hp' := PlainAt.mono (k + 2) _ _ _ _ hle34 hp'
  have hq' := PlainAt.mono (k + 2) _ _ _ _ hle34 hq'
  have hT := hT.mono hle34
  have hn32 := ArrAt.mono (k + 2) _ _ _ _ hle34 hn32
  refine Zerun ?_
  (refine RW.call T hs rfl rfl rfl (baseIota_con (k + 1) _ (arr (k + 2) p) (orgN one) most _ _ hn32 hwh hso hmb) ?_; intro v h36 w36 hle36 hp36 hs)
  have hp36 : ∃ cs', v = .tuple #[.agg cs'.toArray, .int .i64 zI.1] ∧ ArrAt (k + 2) h36 cs' (numE (k + 1) zI) := eI ▸ hp36
  obtain ⟨cs36, rfl, ha36⟩ := hp36
  have hp' := PlainAt.mono (k + 2) _ _ _ _ hle36 hp'
  have hq' := PlainAt.mono (k + 2) _ _ _ _ hle36 hq'
  have hT := hT.mono hle36
  have haI := ha36
  obtain ⟨_, vc36, rfl, ⟨ad36, cap36, rfl, _⟩, hv36⟩ := ha36
  obtain ⟨wv36, nv36, sm36, il36, fl36, ch36, bx36, ⟨rfl, hoc36⟩, -⟩ := hv36
  refine Zerun ?_
  (refine RW.allocN T hs rfl rfl rfl rfl ?_; intro b10 w10 hs)
  refine RW.storeAll T hs 0 rfl rfl rfl rfl rfl rfl (by show (Value.oneCell' (.slice ad36 _ cap36) && (vecCells _ wv36 nv36 sm36 il36 fl36 ch36 bx36).all Value.oneCell') = true; rw [hoc36]; rfl) rfl ?_
  intro w936 hs
  refine Zerun ?_
  (refine RW.call T hs rfl rfl rfl (refTidyP_con (k + 2) 40 _ p _ _ hp' hcp) ?_; intro v h41 w41 hle41 hp41 hs)
  obtain ⟨cs41, rfl, hq41⟩ := hp41
  have hp' := PlainAt.mono (k + 2) _ _ _ _ hle41 hp'
  have hq' := PlainAt.mono (k + 2) _ _ _ _ hle41 hq'
  have hT := hT.mono hle41
  have haI := ArrAt.mono (k + 2) _ _ _ _ hle41 haI
  refine Zerun ?_
  (refine RW.call T hs rfl rfl rfl (origin27_con one _ _) ?_; intro v h43 w43 hle43 hp43 hs)
  subst hp43
  have hp' := PlainAt.mono (k + 2) _ _ _ _ hle43 hp'
  have hq' := PlainAt.mono (k + 2) _ _ _ _ hle43 hq'
  have hT := hT.mono hle43
  have haI := ArrAt.mono (k + 2) _ _ _ _ hle43 haI
  have hq41 := PlainAt.mono (k + 2) _ _ _ _ hle43 hq41
  refine Zerun ?_
  (refine RW.call T hs rfl rfl rfl (ref27Iota_con (k + 1) _ (tidy (k + 2) p) (orgN one) most _ _ hq41 (fun x hx => (hShp.td x hx).1.2.1) hso hmb) ?_; intro v h45 w45 hle45 hp45 hs)
  have hp45 : ∃ cs', v = .tuple #[.agg cs'.toArray, .int .i64 zI.1] ∧ PlainAt (k + 2) h45 cs' (numF zI : PlainD (PD (k + 1))) := hzI ▸ hp45
  obtain ⟨cs45, rfl, hq45⟩ := hp45
  have hp' := PlainAt.mono (k + 2) _ _ _ _ hle45 hp'
  have hq' := PlainAt.mono (k + 2) _ _ _ _ hle45 hq'
  have hT := hT.mono hle45
  have haI := ArrAt.mono (k + 2) _ _ _ _ hle45 haI
  have hpI := hq45
  obtain ⟨s45, it45, rfl, ⟨adS45, cpS45, rfl, _⟩, ⟨adI45, cpI45, xsI45, rfl, _, _⟩⟩ := hq45
  refine Zerun ?_
  (refine RW.allocN T hs rfl rfl rfl rfl ?_; intro b12 w12 hs)
  refine RW.storeAll T hs 0 rfl rfl rfl rfl rfl rfl rfl rfl ?_
  intro w945 hs
  refine Zerun ?_
  (refine RW.call T hs rfl rfl rfl (of07_con (k + 2) _ q _ _ hq' hcq) ?_; intro v h50 w50 hle50 hp50 hs)
  obtain ⟨cs50, rfl, _, _, hn50⟩ := hp50
  have hp' := PlainAt.mono (k + 2) _ _ _ _ hle50 hp'
  have hq' := PlainAt.mono (k + 2) _ _ _ _ hle50 hq'
  have hT := hT.mono hle50
  have haI := ArrAt.mono (k + 2) _ _ _ _ hle50 haI
  have hpI := PlainAt.mono (k + 2) _ _ _ _ hle50 hpI
  refine Zerun ?_
  (refine RW.call T hs rfl rfl rfl (origin27_con one _ _) ?_; intro v h52 w52 hle52 hp52 hs)
  subst hp52
  have hp' := PlainAt.mono (k + 2) _ _ _ _ hle52 hp'
  have hq' := PlainAt.mono (k + 2) _ _ _ _ hle52 hq'
  have hT := hT.mono hle52
  have haI := ArrAt.mono (k + 2) _ _ _ _ hle52 haI
  have hpI := PlainAt.mono (k + 2) _ _ _ _ hle52 hpI
  have hn50 := ArrAt.mono (k + 2) _ _ _ _ hle52 hn50
  refine Zerun ?_
  (refine RW.call T hs rfl rfl rfl (baseWhere_con (k + 1) _ (arr (k + 2) q) (orgN one) _ _ hT hn50 hsq.2.1 hgq.2.1 hso) ?_; intro v h53 w53 hle53 hp53 hs)
  have hp53 : ∃ cs', v = .tuple #[.agg cs'.toArray, .int .i64 zW.1] ∧ ArrAt (k + 2) h53 cs' (numE (k + 1) zW) := eW ▸ hp53
  obtain ⟨cs53, rfl, ha53⟩ := hp53
  have hp' := PlainAt.mono (k + 2) _ _ _ _ hle53 hp'
  have hq' := PlainAt.mono (k + 2) _ _ _ _ hle53 hq'
  have hT := hT.mono hle53
  have haI := ArrAt.mono (k + 2) _ _ _ _ hle53 haI
  have hpI := PlainAt.mono (k + 2) _ _ _ _ hle53 hpI
  have haW := ha53
  obtain ⟨_, vc53, rfl, ⟨ad53, cap53, rfl, _⟩, hv53⟩ := ha53
  obtain ⟨wv53, nv53, sm53, il53, fl53, ch53, bx53, ⟨rfl, hoc53⟩, -⟩ := hv53
  refine Zerun ?_
  (refine RW.allocN T hs rfl rfl rfl rfl ?_; intro b14 w14 hs)
  refine RW.storeAll T hs 0 rfl rfl rfl rfl rfl rfl (by show (Value.oneCell' (.slice ad53 _ cap53) && (vecCells _ wv53 nv53 sm53 il53 fl53 ch53 bx53).all Value.oneCell') = true; rw [hoc53]; rfl) rfl ?_
  intro w953 hs
  refine Zerun ?_
  (refine RW.call T hs rfl rfl rfl (refTidyP_con (k + 2) 40 _ q _ _ hq' hcq) ?_; intro v h58 w58 hle58 hp58 hs)
  obtain ⟨cs58, rfl, hq58⟩ := hp58
  have hp' := PlainAt.mono (k + 2) _ _ _ _ hle58 hp'
  have hq' := PlainAt.mono (k + 2) _ _ _ _ hle58 hq'
  have hT := hT.mono hle58
  have haI := ArrAt.mono (k + 2) _ _ _ _ hle58 haI
  have hpI := PlainAt.mono (k + 2) _ _ _ _ hle58 hpI
  have haW := ArrAt.mono (k + 2) _ _ _ _ hle58 haW
  refine Zerun ?_
  (refine RW.call T hs rfl rfl rfl (origin27_con one _ _) ?_; intro v h60 w60 hle60 hp60 hs)
  subst hp60
  have hp' := PlainAt.mono (k + 2) _ _ _ _ hle60 hp'
  have hq' := PlainAt.mono (k + 2) _ _ _ _ hle60 hq'
  have hT := hT.mono hle60
  have haI := ArrAt.mono (k + 2) _ _ _ _ hle60 haI
  have hpI := PlainAt.mono (k + 2) _ _ _ _ hle60 hpI
  have haW := ArrAt.mono (k + 2) _ _ _ _ hle60 haW
  have hq58 := PlainAt.mono (k + 2) _ _ _ _ hle60 hq58
  refine Zerun ?_
  (refine RW.call T hs rfl rfl rfl (ref27Where_con (k + 1) _ (tidy (k + 2) q) (orgN one) _ _ hq58 (fun x hx => (hShq.td x hx).1) (by rw [hlq]; exact hsq.2.1) hso) ?_; intro v h61 w61 hle61 hp61 hs)
  have hp61 : ∃ cs', v = .tuple #[.agg cs'.toArray, .int .i64 zW.1] ∧ PlainAt (k + 2) h61 cs' (numF zW : PlainD (PD (k + 1))) := hzW ▸ hp61
  obtain ⟨cs61, rfl, hq61⟩ := hp61
  have hp' := PlainAt.mono (k + 2) _ _ _ _ hle61 hp'
  have hq' := PlainAt.mono (k + 2) _ _ _ _ hle61 hq'
  have hT := hT.mono hle61
  have haI := ArrAt.mono (k + 2) _ _ _ _ hle61 haI
  have hpI := PlainAt.mono (k + 2) _ _ _ _ hle61 hpI
  have haW := ArrAt.mono (k + 2) _ _ _ _ hle61 haW
  have hpW := hq61
  obtain ⟨s61, it61, rfl, ⟨adS61, cpS61, rfl, _⟩, ⟨adI61, cpI61, xsI61, rfl, _, _⟩⟩ := hq61
  refine Zerun ?_
  (refine RW.allocN T hs rfl rfl rfl rfl ?_; intro b16 w16 hs)
  refine RW.storeAll T hs 0 rfl rfl rfl rfl rfl rfl rfl rfl ?_
  intro w961 hs
  refine Zerun ?_
  (refine RW.call T hs rfl rfl rfl (shows27R_con (k + 1) _ _ _ (numE (k + 1) zI) (numF zI : PlainD (PD (k + 1))) _ _ haI hpI rI) ?_; intro v h68 w68 hle68 hp68 hs)
  subst hp68
  have hT := hT.mono hle68
  have haW := ArrAt.mono (k + 2) _ _ _ _ hle68 haW
  have hpW := PlainAt.mono (k + 2) _ _ _ _ hle68 hpW
  refine Zerun ?_
  (refine RW.call T hs rfl rfl rfl (shows27R_con (k + 1) _ _ _ (numE (k + 1) zW) (numF zW : PlainD (PD (k + 1))) _ _ haW hpW rW) ?_; intro v h74 w74 hle74 hp74 hs)
  subst hp74
  have hT := hT.mono hle74
  refine Zerun ?_
  (refine RW.call T hs rfl rfl rfl (awake27_con _ _ hT) ?_; intro v h77 w77 hle77 hp77 hs)
  subst hp77
  refine Zerun ?_
  exact retQ_ret [_] h77 ⟨rfl, trivial⟩ hs.dropAll rfl
end Go.Proofs.YtmojpbfkpggjhaaGreatDoor
