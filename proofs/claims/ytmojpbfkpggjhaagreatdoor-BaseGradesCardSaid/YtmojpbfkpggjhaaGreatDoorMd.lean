/-
  Own texts of the claim, merged: Nf, Ng, Wa, Wb, LibZ, PlainW, Ta, Tb, PlainX, Tc, PlainY, PlainZ, Td, Te, Tf, Ua, PlAa, PlAb, PlainV, PlAc, PlAd, Ud, Ue, Ip, Uf, Uh, Ui, Uj, Uk, Ul, Um, Wg, Ug, Uo, Up. Lemmas of the proof; no statement is proved here.
-/
import Derived.Test.YtmojpbfkpggjhaaGreatDoorMc
/-
  Contracts of functions of package hash: the first ones of a list, those that are in another list, or not. No statement is proved here.
-/
namespace Go.Proofs.YtmojpbfkpggjhaaGreatDoor
open Go Go.RowKit
set_option linter.unusedVariables false
set_option linter.unusedSimpArgs false
set_option maxHeartbeats 4000000
attribute [local irreducible] CW RW QW SW HW ConM retM heldQ calmQ elemP thenQ blockQ loopQ joinQ retQ Yields Con Sl zF magR unitF truncF fwF wholeF tidySpec elemQ rankF leastN tidyW
set_option maxHeartbeats 1000000
attribute [local irreducible] mixN wrN wr32 keyIt keyP

end Go.Proofs.YtmojpbfkpggjhaaGreatDoor

/-
  Contracts of the document's answer of layer 19 and of the law's own functions: where items are first, lists shown. No statement is proved here.
-/
namespace Go.Proofs.YtmojpbfkpggjhaaGreatDoor
open Go Go.RowKit
set_option linter.unusedVariables false
set_option linter.unusedSimpArgs false
set_option maxHeartbeats 4000000
attribute [local irreducible] CW RW QW SW HW ConM retM heldQ calmQ elemP thenQ blockQ loopQ joinQ retQ Yields Con Sl zF magR unitF truncF fwF wholeF tidySpec elemQ rankF leastN tidyW
set_option maxHeartbeats 2000000
attribute [local irreducible] mixN wrN wr32 keyIt keyP

theorem Yields.to {P : Program} {n : Nat} {L : Env} {w : World} {op : Op} {ty : TypeId} {v u : Value} (h : Yields P n L w op ty v) (e : v = u) : Yields P n L w op ty u := e ▸ h
end Go.Proofs.YtmojpbfkpggjhaaGreatDoor

/-
  Contracts of base.ints, of the document's ints, of the origin, and of errors shown. No statement is proved here.
-/
namespace Go.Proofs.YtmojpbfkpggjhaaGreatDoor
open Go Go.RowKit
set_option linter.unusedVariables false
set_option linter.unusedSimpArgs false
set_option maxHeartbeats 4000000
attribute [local irreducible] CW RW QW SW HW ConM retM heldQ calmQ elemP thenQ blockQ loopQ joinQ retQ Yields Con Sl zF magR unitF truncF fwF wholeF tidySpec elemQ rankF leastN tidyW
set_option maxHeartbeats 4000000
attribute [local irreducible] mixN wrN wr32 keyIt keyP

def plusL (l : List Int) (o : Int) : List Int := l.map fun n => n + o
theorem plusL_len (l : List Int) (o : Int) : (plusL l o).length = l.length := List.length_map ..
def orgN (b : Bool) : Int := if b = true then 1 else 0
theorem orgN_rng (b : Bool) : 0 ≤ orgN b ∧ orgN b ≤ 1 := by cases b <;> decide
theorem origin27_con (b : Bool) (w : World) (h : GHeap) : Con Tryz.prog 18 [.bool b] w h (fun _ u => u = .int .i64 (orgN b)) := by
  cases b
  · refine Con.of_body Tryz.func18 rfl Tryz.ntmps18 rfl rfl ?_
    intro hs
    refine Zerun ?_
    exact retQ_ret [_] h ⟨rfl, trivial⟩ hs.dropAll rfl
  · refine Con.of_body Tryz.func18 rfl Tryz.ntmps18 rfl rfl ?_
    intro hs
    refine Zerun ?_
    exact retQ_ret [_] h ⟨rfl, trivial⟩ hs.dropAll rfl
theorem memD (l : List Int) (i : Nat) (h : i < l.length) : l.getD i 0 ∈ l := by
  rw [List.getD_eq_getElem?_getD, List.getElem?_eq_getElem h]; exact List.getElem_mem h
theorem plusL_tidy (l : List Int) (o : Int) (hr : ∀ n ∈ l, -4503599627370496 ≤ n + o ∧ n + o ≤ 4503599627370496) : ∀ u ∈ (plusL l o).map fwF, tidyF u := by
  intro u hu
  obtain ⟨c, hc, rfl⟩ := List.mem_map.1 hu
  obtain ⟨n, hn, rfl⟩ := List.mem_map.1 hc
  have := hr n hn
  exact (fwF_spec _ (by omega)).1
theorem baseInts_con (k : Nat) (s : Value) (l : List Int) (o : Int) (w : World) (h : GHeap) (hl : IntsAt h s l) (hr : ∀ n ∈ l, -4503599627370496 ≤ n + o ∧ n + o ≤ 4503599627370496) (hm : l.length ≤ 1048576) : Con Tryz.prog 63 [s, .int .i64 o] w h (fun h' u => ∃ cs', u = .agg cs'.toArray ∧ ArrAt (k + 1) h' cs' (numsA k ((plusL l o).map fwF))) := by
  obtain ⟨ad, cp, rfl, hS⟩ := hl
  refine Con.of_body Tryz.func63 rfl Tryz.ntmps63 rfl rfl ?_
  intro hs
  refine Zrun ?_
  (refine RW.allocN T hs rfl rfl rfl rfl ?_; intro b1 w1 hs)
  refine Zerun ?_
  (refine RW.make1 T hs rfl rfl rfl rfl rfl rfl rfl (by dsimp only; omega) (by omega) ?_; intro b2 w2 hs)
  have hs := hs.re (ys := (((l.take 0).map fun n => n + o) ++ List.replicate (l.length - 0) 0).map (Value.int .i64)) (by rw [List.map_append, List.map_replicate]; rfl)
  refine Zerun ?_
  refine CW.loop (fun i : Nat => [(1, .int .i64 o), (4, .pointer (some ⟨b1, 0, none⟩)), (5, .slice (some ⟨b2, 0, none⟩) l.length l.length), (13, .slice ad l.length cp), (14, .int .i64 l.length), (15, .int .i64 i)]) (fun i w' => i ≤ l.length ∧ Sees w h h [⟨some ⟨b2, 0, none⟩, l.length, l.length, 2, 1, (((l.take i).map fun n => n + o) ++ List.replicate (l.length - i) 0).map (Value.int .i64)⟩, ⟨some ⟨b1, 0, none⟩, 1, 1, 40, 9, .slice none 0 0 :: vecCells 0 (.slice none 0 0) 0 (.slice none 0 0) (.slice none 0 0) (.slice none 0 0) (.slice none 0 0) (.slice none 0 0)⟩] w') (fun i => l.length - i) 0 ⟨rfl, rfl, rfl, rfl, rfl, rfl, trivial⟩ ⟨by omega, hs⟩ ?_
  rintro i w3 ⟨hi, hs⟩
  by_cases hlt : i < l.length
  · have gi := map_get (Value.int .i64) l i 0 hlt
    have hri := hr _ (memD l i hlt)
    have htm := takeMap (fun n => n + o) l hlt 0
    have hAl : ((l.take i).map fun n => n + o).length = i := by rw [List.length_map, List.length_take]; omega
    refine Zerun ?_
    refine RW.val (Y.idxRN T hs 0 rfl rfl rfl rfl rfl rfl hlt) rfl ?_
    refine RW.st1 T hs 0 rfl rfl rfl rfl rfl rfl rfl hlt ?_
    intro w4 hs
    dsimp only [List.set_cons_zero, List.set_cons_succ] at hs
    rw [map_set_int, fillA hAl hlt, ← htm] at hs
    refine Zerun ?_
    exact loopQ_round (i + 1) ⟨rfl, rfl, rfl, rfl, rfl, seti (by omega), trivial⟩ ⟨by omega, hs⟩ (by omega)
  obtain rfl : i = l.length := by omega
  rw [List.take_length, Nat.sub_self, List.replicate_zero, List.append_nil] at hs
  obtain ⟨h4, hle4, hs, hS4⟩ := hs.freeze
  have hDl := plusL_len l o
  dsimp only at hS4
  rw [← hDl] at hS4 ⊢
  have hK4 : KAt .i64 h4 (.slice (some ⟨b2, 0, none⟩) (plusL l o).length (plusL l o).length) (plusL l o) := RowAt.of_sl hS4
  refine Zerun ?_
  (refine RW.call T hs rfl rfl rfl (vecInts_con (α := AD k) (R := ArrAt k) _ (plusL l o) _ _ hK4 (by omega)) ?_; intro v h5 w5 hle5 hp5 hs)
  obtain ⟨cs5, ok, rfl, hok, hv5⟩ := hp5
  rw [decide_eq_true (fun u hu => by obtain ⟨n, hn, rfl⟩ := List.mem_map.1 hu; have := hr n hn; omega)] at hok
  subst hok
  rw [if_pos rfl] at hv5
  have hv5' := hv5
  obtain ⟨wv, nv, sm, il, fl, ch, bx, ⟨rfl, hoc⟩, -⟩ := hv5
  refine Zerun ?_
  (refine RW.allocN T hs rfl rfl rfl rfl ?_; intro b6 w6 hs)
  (refine RW.storeAll T hs 0 rfl rfl rfl rfl rfl rfl hoc rfl ?_; intro w7 hs)
  refine Zerun ?_
  (refine RW.call T hs rfl rfl rfl (valueList_con (ArrAt.mono k) _ _ _ _ hv5' (by show ((plusL l o).map fwF).length + 0 + 0 ≤ 1048576; rw [List.length_map]; omega)) ?_; intro v h8 w8 hle8 hp8 hs)
  obtain ⟨cs8, rfl, ha8⟩ := hp8
  rw [sq_nums3] at ha8
  have ha8' : ArrAt (k + 1) h8 cs8 (numsA k ((plusL l o).map fwF)) := ha8
  obtain ⟨_, vc8, rfl, ⟨ad8, cp8, rfl, _⟩, hv8⟩ := ha8
  obtain ⟨wv8, nv8, sm8, il8, fl8, ch8, bx8, ⟨rfl, hoc8⟩, -⟩ := hv8
  refine Zerun ?_
  (refine RW.storeAll T hs 1 rfl rfl rfl rfl rfl rfl (by show (Value.oneCell' (.slice ad8 _ cp8) && (vecCells _ wv8 nv8 sm8 il8 fl8 ch8 bx8).all Value.oneCell') = true; rw [hoc8]; rfl) rfl ?_; intro w9 hs)
  refine Zerun ?_
  exact retQ_ret [_] h8 ⟨resN T hs 1 rfl rfl rfl rfl rfl rfl, trivial⟩ hs.dropAll ⟨_, rfl, ha8'⟩
theorem ref27Ints_con {α : Type} {R : GHeap → List Value → α → Prop} (hR : Mono R) (s : Value) (l : List Int) (o : Int) (w : World) (h : GHeap) (hl : IntsAt h s l) (hr : ∀ n ∈ l, -4503599627370496 ≤ n + o ∧ n + o ≤ 4503599627370496) (hm : l.length ≤ 1048576) : Con Tryz.prog 65 [s, .int .i64 o] w h (fun h' u => ∃ cs', u = .agg cs'.toArray ∧ PlainR R h' cs' (numsP ((plusL l o).map fwF))) := by
  obtain ⟨ad, cp, rfl, hS⟩ := hl
  refine Con.of_body Tryz.func65 rfl Tryz.ntmps65 rfl rfl ?_
  intro hs
  refine Zrun ?_
  (refine RW.allocN T hs rfl rfl rfl rfl ?_; intro b1 w1 hs)
  have hs := hs.nilRow 67 1
  refine Zerun ?_
  refine CW.loop (fun u : Nat × (Option Addr × Nat) => [(0, .slice ad l.length cp), (1, .int .i64 o), (4, .pointer (some ⟨b1, 0, none⟩)), (5, .slice u.2.1 u.1 u.2.2), (6, .int .i64 u.1)]) (fun u w' => u.1 ≤ l.length ∧ Sees w h h [⟨u.2.1, u.1, u.2.2, 67, 1, (((l.take u.1).map fun n => n + o).map fwF).map (Value.float .f64)⟩, ⟨some ⟨b1, 0, none⟩, 1, 1, 25, 3, [.slice none 0 0, .slice none 0 0, .int .i64 0]⟩] w') (fun u => l.length - u.1) (0, (none, 0)) ⟨rfl, rfl, rfl, rfl, rfl, trivial⟩ ⟨by omega, hs⟩ ?_
  rintro ⟨i, ⟨ai, ci⟩⟩ w5 ⟨hi, hs⟩
  dsimp only at hi hs ⊢
  by_cases hlt : i < l.length
  · have gi := map_get (Value.int .i64) l i 0 hlt
    have hri := hr _ (memD l i hlt)
    have htm := takeMap (fun n => n + o) l hlt 0
    obtain ⟨e, he⟩ : ∃ e, l.getD i 0 = e := ⟨_, rfl⟩
    rw [he] at gi hri htm
    refine Zerun ?_
    rw [he]
    refine RW.val (Y.convIF T rfl rfl rfl) rfl ?_
    (refine RW.lit T hs (vs := [.float .f64 (fwF (e + o))]) (cs := [.float .f64 (fwF (e + o))]) rfl rfl rfl rfl (by simp [Value.cells]) rfl rfl rfl rfl rfl ?_; intro b33 w33 hs)
    (refine RW.append T hs 1 rfl rfl (m := 1) (news := [.float .f64 (fwF (e + o))]) rfl rfl rfl rfl rfl rfl (hs.src0 rfl (by simp [Value.oneCell'])) (by simp) (by dsimp only; omega) (by omega) ?_; intro ad34 cp34 w34 hs; replace hs := hs.drop)
    refine Zerun ?_
    refine loopQ_round (i + 1, (ad34, cp34)) ⟨rfl, rfl, rfl, rfl, seti (by dsimp only; omega), trivial⟩ ⟨by dsimp only; omega, ?_⟩ (by dsimp only; omega)
    dsimp only
    rw [htm, List.map_append, List.map_append]
    exact hs
  obtain rfl : i = l.length := by omega
  rw [List.take_length] at hs
  obtain ⟨h8, hle8, hs, hS8⟩ := hs.freeze
  have hln : ((plusL l o).map fwF).length = l.length := by rw [List.length_map, plusL_len]
  dsimp only at hS8
  rw [← hln] at hS8 ⊢
  have hF : FAt h8 (.slice ai ((plusL l o).map fwF).length ci) ((plusL l o).map fwF) := RowAt.of_sl hS8
  have htd := plusL_tidy l o hr
  refine Zerun ?_
  (refine RW.call T hs rfl rfl rfl (refNums_con hR _ _ _ _ hF (fun u hu => (htd u hu).1) (by omega)) ?_; intro v h9 w9 hle9 hp9 hs)
  obtain ⟨cs9, rfl, hq9⟩ := hp9
  have hq9' := hq9
  obtain ⟨s9, it9, rfl, ⟨ad9, cp9, rfl, _⟩, ⟨adI9, cpI9, xsI9, rfl, _, _⟩⟩ := hq9
  refine Zerun ?_
  (refine RW.storeAll T hs 0 rfl rfl rfl rfl rfl rfl rfl rfl ?_; intro w10 hs)
  refine Zerun ?_
  exact retQ_ret [_] h9 ⟨resN T hs 0 rfl rfl rfl rfl rfl rfl, trivial⟩ hs.dropAll ⟨_, rfl, hq9'⟩
theorem shows27E_con {α β : Type} {R : GHeap → List Value → α → Prop} {Rq : GHeap → List Value → β → Prop} (cs cp : List Value) (p : PlainD β) (e : Int) (w : World) (h : GHeap) (he : e = 22 ∨ e = 23 ∨ e = 24 ∨ e = 26) (ha : ArrR R h cs ⟨[], VecD.none⟩) (hp : PlainR Rq h cp p) : Con Tryz.prog 16 [.agg cs.toArray, .int .i64 e, .agg cp.toArray, .int .i64 e] w h (fun _ u => u = .bool true) := by
  obtain ⟨_, vc, rfl, ⟨ad, cap, rfl, _⟩, hv⟩ := ha
  have hv' := hv
  obtain ⟨wv, nv, sm, il, fl, ch, bx, ⟨rfl, hoc⟩, _⟩ := hv
  obtain ⟨s2, it2, rfl, ⟨ad2, cp2, rfl, _⟩, ⟨ad3, cp3, xs3, rfl, _, _⟩⟩ := hp
  rcases he with rfl | rfl | rfl | rfl
  all_goals
    refine Con.of_body Tryz.func16 rfl Tryz.ntmps16 rfl rfl ?_
    intro hs
    refine Zrun ?_
    (refine RW.boxN hs rfl rfl ?_; intro b1 w1 hs)
    refine Zrun ?_
    (refine RW.boxN hs rfl rfl ?_; intro b2 w2 hs)
    refine Zerun ?_
    (refine RW.call T hs rfl rfl rfl (vecKind_con _ VecD.none _ _ hv') ?_; intro v h3 w3 hle3 hp3 hs)
    subst hp3
    refine Zerun ?_
    exact retQ_ret [_] h3 ⟨rfl, trivial⟩ hs.dropAll rfl
end Go.Proofs.YtmojpbfkpggjhaaGreatDoor

/-
  Contracts of base.IndexOf, base.Member and of the document's answers to them. No statement is proved here.
-/
namespace Go.Proofs.YtmojpbfkpggjhaaGreatDoor
open Go Go.RowKit
set_option linter.unusedVariables false
set_option linter.unusedSimpArgs false
set_option maxHeartbeats 4000000
attribute [local irreducible] CW RW QW SW HW ConM retM heldQ calmQ elemP thenQ blockQ loopQ joinQ retQ Yields Con Sl zF magR unitF truncF fwF wholeF tidySpec elemQ rankF leastN tidyW
set_option maxHeartbeats 4000000
attribute [local irreducible] mixN wrN wr32 keyIt keyP

def zeroP {α : Type} : PlainD α := ⟨[], [], 0⟩
section
variable {k : Nat}
end
end Go.Proofs.YtmojpbfkpggjhaaGreatDoor

/-
  The program logic, further parts: elements of a reslice of an own row, copies into an own row, slices of truths that came in. No statement is proved here.
-/
namespace Go.Proofs.YtmojpbfkpggjhaaGreatDoor
open Go Go.RowKit
set_option linter.unusedVariables false
set_option linter.unusedSimpArgs false

section
open Go.ChangeShapes Go.WideShapes Go.ChangeAt
variable {H : Type} {enc : TypeId × Value → H} {P : Program} {w : World} {base : Nat} {spare : Nat → Bool} {held : Bool} {fuel n : Nat} {t e : TypeId} {cs : List Value} {x : DataW H × List MemPlace}
theorem open_bools (ht : P.underlying t = some (.slice e)) (he : P.underlying e = some .bool) (hc : P.cellsOf e = 1) (h : DataW.trod enc P w base spare held fuel t cs = some x) :
    ∃ v l, cs = [v] ∧ TAt (ghost w) v l ∧ l.length ≤ 9223372036854775807 := by
  obtain ⟨v, l, h1, h2, h3⟩ := open_rows (R := fun cs (a : Bool) => cs = [.bool a]) ht hc (by omega) (fun n _ cs x h => by
    obtain ⟨b, hb, _⟩ := DataW.trod_bool he h
    exact ⟨b, hb⟩) h
  exact ⟨v, l, h1, RowsAt.row h2, h3⟩
end
section
variable {P : Program} (T : Tab P) {n : Nat} {Q : Post} {L : Env} {w0 w : World} {h0 h : GHeap} {O : List Row} {ops rest : List Oper} {x y : Operand} {t t2 : TypeId}
variable {d : Option Tmp} {ty : TypeId} {pos : String} {aft : Array Edge}
/-- an element's address in a reslice of an own row -/
theorem Y.idxSub {e : TypeId} {i : Inf} {b o m cp : Nat} {kk : IntKind} {u : Nat} (hx : opv L x = some (.slice (some ⟨b, o, none⟩) m cp)) (hy : opv L y = some (.int kk (u : Int))) (hT : T.ty t = some (.slice e)) (hI : T.inf e = some i) (hi : i.size = 1) (h0' : u < m) :
    Yields P n L w (.indexAddr t x y) ty (elemP (some ⟨b, 0, none⟩) (o + u) 1) := by
  have := Y.indexAddr (P := P) (n := n) (w := w) (ty := ty) T hT hI hx hy rfl (by omega : (0 : Int) ≤ u ∧ (u : Int) < m)
  rw [elemP_some, Nat.mul_one, Nat.zero_add]
  rwa [hi, Nat.mul_one, Int.toNat_natCast] at this
theorem Sl.cap0 {ad : Option Addr} {m cp sz : Nat} {xs : List Value} (hS : Sl h sz ad m cp xs) : ad = none → cp = 0 := hS.2.2.2.1
/-- where a reslice of a part of a block begins -/
theorem subAd_some (b o l c : Nat) : ∃ q, subAd (some ⟨b, o, none⟩) l c 1 = some ⟨b, q, none⟩ ∧ (c ≠ l → q = o + l) ∧ (c = l → q = o) := by
  unfold subAd
  by_cases e : c = l
  · exact ⟨o, by rw [if_pos e], fun h => absurd e h, fun _ => rfl⟩
  · refine ⟨o + l, ?_, fun _ => rfl, fun h => absurd h e⟩
    rw [if_neg e, Nat.mul_one]
    simp [Addr.add_lit]
theorem take_copy {α : Type} (C N : List α) (o m : Nat) (h : o + N.length ≤ m) (hm : m ≤ C.length) : (C.take o ++ N ++ C.drop (o + N.length)).take m = (C.take m).take o ++ N ++ (C.take m).drop (o + N.length) := by
  have hl : (C.take o ++ N).length = o + N.length := by rw [List.length_append, List.length_take]; omega
  rw [List.take_append, hl, List.take_of_length_le (by omega), List.take_take, Nat.min_eq_left (by omega), List.drop_take]
/-- a copy of one-cell elements into an own row, or a part of it -/
theorem RW.copyRow (hs : Sees w0 h0 h O w) (k : Nat) {b o m cp dLen dCap sLen sCap : Nat} {e e' : TypeId} {i : Inf} {a : Addr} {xs news : List Value} (hO : O[k]? = some ⟨some ⟨b, 0, none⟩, m, cp, e, 1, xs⟩) (hx : opv L x = some (.slice (some ⟨b, o, none⟩) dLen dCap)) (hy : opv L y = some (.slice (some a) sLen sCap)) (hd : dstOk n d = true)
    (hT : T.ty t = some (.slice e')) (hI : T.inf e' = some i) (hi : i.size = 1) (hn : news.length = Nat.min sLen dLen) (hsrc : ∀ j v, news[j]? = some v → w.cell? (a.add j) = some v) (h1 : ∀ v ∈ news, v.oneCell' = true) (hfit : o + news.length ≤ m)
    (K : ∀ w', Sees w0 h0 h (O.set k ⟨some ⟨b, 0, none⟩, m, cp, e, 1, xs.take o ++ news ++ xs.drop (o + news.length)⟩) w' → RW P n ops Q (updo d (.int .i64 news.length) L) w' rest) :
    RW P n ops Q L w (⟨d, .call ⟨.builtin .copy, #[x, y], #[t, t2]⟩, ty, pos, aft, none⟩ :: rest) := by
  have ht : P.underlying t = some (.slice e') := T.ty_ok _ _ hT
  obtain ⟨z, hz, hz1, _⟩ := T.inf_ok _ _ hI
  have hok := (hs.own _ (List.mem_of_getElem? hO)).1
  have hlen := hs.rowLen hO
  simp only [Nat.mul_one] at hlen
  rcases hok.2 with ⟨hv, _⟩ | ⟨g, cap, cur, hv, hb, hg, hnc, hm, hc, hxs⟩
  · simp [Row.v] at hv
  · simp only [Row.v, Value.slice.injEq, Option.some.injEq, Addr.mk.injEq, true_and, and_true] at hv
    obtain ⟨rfl, rfl⟩ := hv
    dsimp only at hc hnc hg hxs
    have hr := run_copy_row P w t t2 ty e' b o dLen dCap a sLen sCap cur e news ht (by rw [hz]; simp [hz1, hi]) hg hn hsrc (by omega) h1
    obtain ⟨w', hw'⟩ : ∃ w', w.setRow b (cur.toList.take o ++ news ++ cur.toList.drop (o + news.length)).toArray = w' := ⟨_, rfl⟩
    rw [hw'] at hr
    refine RW.step (v := .int .i64 news.length) (w' := w') ?_ hd (K w' ?_)
    · intro a' ha
      simp only [execOp, resolve, invoke, builtin, ha.eval hx, ha.eval hy, Sem.run_bind, Result.andThen_ok, List.map_toArray, List.map_cons, List.map_nil, Sem.run_pure, hr]
      rfl
    · subst hw'
      refine hs.replace (w' := w.setRow b (cur.toList.take o ++ news ++ cur.toList.drop (o + news.length)).toArray) hO (r' := ⟨some ⟨b, 0, none⟩, m, cp, e, 1, _⟩) ⟨rfl, rfl, rfl, by simp, fun r _ hr => setRow_other w b r _ (fun e => hr (by simp [Row.v, Value.ownBlock, e]))⟩ ?_ (fun c hc => .inl hc)
      refine ⟨?_, .inr ⟨b, cp, _, rfl, hb, setRow_heap w b cur _ e _ hg, hnc, hm, ?_, ?_⟩⟩
      · simp only [List.length_append, List.length_take, List.length_drop, hlen]; omega
      · simp only [List.size_toArray, List.length_append, List.length_take, List.length_drop, Array.length_toList, hc]
        omega
      · show List.take (m * 1) (cur.toList.take o ++ news ++ cur.toList.drop (o + news.length)) = _
        subst hxs
        simp only [Nat.mul_one]
        exact take_copy _ _ _ _ hfit (by rw [Array.length_toList]; omega)
/-- cells of a part of an own row, as a copy takes them -/
theorem Sees.part (hs : Sees w0 h0 h O w) (k : Nat) {b o m cp : Nat} {e : TypeId} {xs news : List Value} (hO : O[k]? = some ⟨some ⟨b, 0, none⟩, m, cp, e, 1, xs⟩) (hn : ∀ j v, news[j]? = some v → xs[o + j]? = some v) : ∀ j v, news[j]? = some v → w.cell? ((⟨b, o, none⟩ : Addr).add j) = some v := by
  intro j v hj
  rw [Addr.add_lit]
  exact hs.rowCell hO (hn j v hj)
end
end Go.Proofs.YtmojpbfkpggjhaaGreatDoor

/-
  Plain facts on keys that have the order of whole numbers and characters, and on the bits in which keys differ. No program is in sight, and no statement is proved here.
-/
namespace Go.Proofs.YtmojpbfkpggjhaaGreatDoor

theorem xor_top (e m : Nat) (h : m < 2 ^ e) : m ^^^ 2 ^ e = m + 2 ^ e := by
  apply Nat.eq_of_testBit_eq
  intro i
  rw [Nat.testBit_xor, Nat.testBit_two_pow, Nat.add_comm]
  rcases Nat.lt_trichotomy i e with c | c | c
  · rw [Nat.testBit_two_pow_add_gt c, decide_eq_false (by omega), Bool.xor_false]
  · subst c
    rw [Nat.testBit_two_pow_add_eq, decide_eq_true rfl, Bool.xor_true]
  · have h1 : m < 2 ^ i := Nat.lt_of_lt_of_le h (Nat.pow_le_pow_right (by omega) (by omega))
    have h2 : 2 ^ e + m < 2 ^ i := by
      have e1 : 2 ^ (e + 1) ≤ 2 ^ i := Nat.pow_le_pow_right (by omega) (by omega)
      rw [Nat.pow_succ] at e1
      omega
    rw [Nat.testBit_lt_two_pow h1, Nat.testBit_lt_two_pow h2, decide_eq_false (by omega), Bool.xor_false]
theorem xor_untop (e m : Nat) (h : m < 2 ^ e) : (m + 2 ^ e) ^^^ 2 ^ e = m := by
  rw [← xor_top e m h, Nat.xor_assoc, Nat.xor_self, Nat.xor_zero]
/-- the key of a whole number -/
def keyI (z : Int) : Nat := (z + 9223372036854775808).toNat
/-- the key of a character -/
def keyC (c : Int) : Nat := (c + 2147483648).toNat
theorem keyI_xor (z : Int) (h : -9223372036854775808 ≤ z ∧ z < 9223372036854775808) : (z % 18446744073709551616).toNat ^^^ 9223372036854775808 = keyI z := by
  have e : (9223372036854775808 : Nat) = 2 ^ 63 := by decide
  unfold keyI
  by_cases c : 0 ≤ z
  · have := xor_top 63 z.toNat (by rw [← e]; omega)
    rw [← e] at this
    rw [show (z % 18446744073709551616).toNat = z.toNat by omega, this]; omega
  · have := xor_untop 63 (z + 9223372036854775808).toNat (by rw [← e]; omega)
    rw [← e] at this
    rw [show (z % 18446744073709551616).toNat = (z + 9223372036854775808).toNat + 9223372036854775808 by omega, this]
theorem keyC_xor (z : Int) (h : -2147483648 ≤ z ∧ z < 2147483648) : (z % 4294967296).toNat ^^^ 2147483648 = keyC z := by
  have e : (2147483648 : Nat) = 2 ^ 31 := by decide
  unfold keyC
  by_cases c : 0 ≤ z
  · have := xor_top 31 z.toNat (by rw [← e]; omega)
    rw [← e] at this
    rw [show (z % 4294967296).toNat = z.toNat by omega, this]; omega
  · have := xor_untop 31 (z + 2147483648).toNat (by rw [← e]; omega)
    rw [← e] at this
    rw [show (z % 4294967296).toNat = (z + 2147483648).toNat + 2147483648 by omega, this]
theorem keyI_lt (z : Int) (h : -9223372036854775808 ≤ z ∧ z < 9223372036854775808) : keyI z < 18446744073709551616 := by unfold keyI; omega
theorem keyC_lt (z : Int) (h : -2147483648 ≤ z ∧ z < 2147483648) : keyC z < 18446744073709551616 := by unfold keyC; omega
/-- the bits in which keys differ from the first one -/
def spreadN (l : List Nat) : Nat := l.foldl (fun x k => x ||| (k ^^^ l.getD 0 0)) 0
def spreadTo (l : List Nat) (m : Nat) : Nat := (l.take m).foldl (fun x k => x ||| (k ^^^ l.getD 0 0)) 0
theorem spreadTo_zero (l : List Nat) : spreadTo l 0 = 0 := rfl
theorem spreadTo_all (l : List Nat) : spreadTo l l.length = spreadN l := by unfold spreadTo spreadN; rw [List.take_length]
theorem spreadTo_succ (l : List Nat) (m : Nat) (h : m < l.length) : spreadTo l (m + 1) = spreadTo l m ||| (l.getD m 0 ^^^ l.getD 0 0) := by
  unfold spreadTo
  rw [take_snoc l m 0 h, List.foldl_append]
  rfl
theorem xor_lt (a b : Nat) (ha : a < 18446744073709551616) (hb : b < 18446744073709551616) : a ^^^ b < 18446744073709551616 := by
  have e : (18446744073709551616 : Nat) = 2 ^ 64 := by decide
  rw [e] at *; exact Nat.xor_lt_two_pow ha hb
theorem or_lt (a b : Nat) (ha : a < 18446744073709551616) (hb : b < 18446744073709551616) : a ||| b < 18446744073709551616 := by
  have e : (18446744073709551616 : Nat) = 2 ^ 64 := by decide
  rw [e] at *; exact Nat.or_lt_two_pow ha hb
theorem spreadTo_lt (l : List Nat) (hl : ∀ u ∈ l, u < 18446744073709551616) : ∀ m, m ≤ l.length → spreadTo l m < 18446744073709551616
  | 0, _ => by rw [spreadTo_zero]; decide
  | m + 1, h => by
    rw [spreadTo_succ l m (by omega)]
    have hm : l.getD m 0 ∈ l := by simp [List.getD_eq_getElem?_getD, show m < l.length by omega]
    have h0 : l.getD 0 0 ∈ l := by simp [List.getD_eq_getElem?_getD, show 0 < l.length by omega]
    exact or_lt _ _ (spreadTo_lt l hl m (by omega)) (xor_lt _ _ (hl _ hm) (hl _ h0))
end Go.Proofs.YtmojpbfkpggjhaaGreatDoor

/-
  Contracts of package radix: keys, and the bits in which they differ. No statement is proved here.
-/
namespace Go.Proofs.YtmojpbfkpggjhaaGreatDoor
open Go Go.RowKit
set_option linter.unusedVariables false
set_option linter.unusedSimpArgs false
set_option maxHeartbeats 4000000
attribute [local irreducible] CW RW QW SW HW ConM retM heldQ calmQ elemP thenQ blockQ loopQ joinQ retQ Yields Con Sl zF magR unitF truncF fwF wholeF tidySpec
set_option maxHeartbeats 4000000
attribute [local irreducible] rankF leastN

/-- a value of 64 bits without a sign -/
def u64V (n : Nat) : Value := .int .u64 (n : Int)
abbrev UAt := RowAt u64V
theorem wrapU64 (z : Int) : IntKind.u64.wrap z = (((z % 18446744073709551616).toNat : Nat) : Int) := by
  rw [Int.toNat_of_nonneg (by omega)]
  rfl
theorem wrapU32 (z : Int) : IntKind.u32.wrap z = (((z % 4294967296).toNat : Nat) : Int) := by
  rw [Int.toNat_of_nonneg (by omega)]
  rfl
section
variable {P : Program} {n : Nat} {L : Env} {w : World} {ty : TypeId} {x y : Operand} {t yt : TypeId} {u v : Nat}
theorem Y.xorU32 (hx : opv L x = some (.int .u32 (u : Int))) (hy : opv L y = some (.int .u32 (v : Int))) (hu : u < 4294967296) (hv : v < 4294967296) : Yields P n L w (.binOp .xor t x y yt) ty (.int .u32 ((u ^^^ v : Nat) : Int)) := by
  have := Y.xor' (P := P) (n := n) (w := w) (ty := ty) (t := t) (yt := yt) hx hy
  have e : (BitVec.ofInt IntKind.u32.bits (u : Int) ^^^ BitVec.ofInt IntKind.u32.bits (v : Int)).toNat = u ^^^ v := by
    show (BitVec.ofInt 32 (u : Int) ^^^ BitVec.ofInt 32 (v : Int)).toNat = _
    rw [BitVec.toNat_xor, BitVec.toNat_ofInt, BitVec.toNat_ofInt]
    have e1 : ((u : Int) % ((2 ^ 32 : Nat) : Int)).toNat = u := by rw [show ((2 ^ 32 : Nat) : Int) = 4294967296 by decide]; omega
    have e2 : ((v : Int) % ((2 ^ 32 : Nat) : Int)).toNat = v := by rw [show ((2 ^ 32 : Nat) : Int) = 4294967296 by decide]; omega
    rw [e1, e2]
  have hlt : u ^^^ v < 4294967296 := by
    have e : (4294967296 : Nat) = 2 ^ 32 := by decide
    rw [e] at *; exact Nat.xor_lt_two_pow hu hv
  rw [e, wrapU32, show (((u ^^^ v : Nat) : Int) % 4294967296).toNat = u ^^^ v by omega] at this
  exact this
end
theorem radixSpread_con (s : Value) (l : List Nat) (w : World) (h : GHeap) (hl : UAt h s l) (hx : ∀ u ∈ l, u < 18446744073709551616) (hm : l.length ≤ 1048576) : Con Tryz.prog 172 [s] w h (fun _ u => u = .int .u64 (spreadN l)) := by
  obtain ⟨ad, cp, rfl, hS⟩ := hl
  refine Con.of_body Tryz.func172 rfl Tryz.ntmps172 rfl rfl ?_
  intro hs
  refine Zrun ?_
  refine CW.loop (fun k : Nat => [(0, .slice ad l.length cp), (3, .int .u64 (spreadTo l k)), (6, .slice ad l.length cp), (7, .int .i64 l.length), (8, .int .i64 k)]) (fun k w' => k ≤ l.length ∧ Sees w h h [] w') (fun k => l.length - k) 0 ⟨rfl, rfl, rfl, rfl, rfl, trivial⟩ ⟨by omega, hs⟩ ?_
  rintro k w5 ⟨hk, hs⟩
  by_cases hlt : k < l.length
  · have hg := map_get u64V l k 0 hlt
    have hg0 := map_get u64V l 0 0 (by omega)
    have hmk : l.getD k 0 ∈ l := by simp [List.getD_eq_getElem?_getD, hlt]
    have hm0 : l.getD 0 0 ∈ l := by simp [List.getD_eq_getElem?_getD, show 0 < l.length by omega]
    unfold u64V at hg hg0
    refine Zerun ?_
    refine RW.val (Y.xorU rfl rfl (hx _ hmk) (hx _ hm0)) rfl ?_
    refine Zerun ?_
    refine RW.val (Y.orU rfl rfl (spreadTo_lt l hx k hk) (xor_lt _ _ (hx _ hmk) (hx _ hm0))) rfl ?_
    rw [← spreadTo_succ l k hlt]
    refine Zerun ?_
    exact loopQ_round (k + 1) ⟨rfl, rfl, rfl, rfl, rfl, trivial⟩ ⟨by omega, hs⟩ (by omega)
  · obtain rfl : k = l.length := by omega
    refine Zerun ?_
    exact retQ_ret [_] h ⟨rfl, trivial⟩ hs.dropAll (by rw [spreadTo_all]; rfl)
section
variable {α : Type} {R : GHeap → List Value → α → Prop}
def keysV (v : VecD α) : List Nat := if v.kind = 1 ∨ v.kind = 2 ∨ v.kind = 3 then v.nums.map (fun x => keyI (wholeF x).1) else if v.kind = 5 then v.chars.map keyC else []
theorem radixKeys_con (hR : Mono R) (cs : List Value) (v : VecD α) (w : World) (h : GHeap) (hv : VecAt R h cs v) (hm : v.len ≤ 1048576) (hc : ∀ c ∈ v.chars, -2147483648 ≤ c ∧ c < 2147483648) : Con Tryz.prog 171 [.agg cs.toArray] w h
    (fun h' u => ∃ s, u = .tuple #[s, .bool (decide (v.kind = 1 ∨ v.kind = 2 ∨ v.kind = 3 ∨ v.kind = 5))] ∧ UAt h' s (keysV v)) := by
  have hv' := hv
  obtain ⟨wv, nv, sm, il, fl, ch, bx, ⟨rfl, hoc⟩, _⟩ := hv
  refine Con.of_body Tryz.func171 rfl Tryz.ntmps171 rfl rfl ?_
  intro hs
  refine Zrun ?_
  (refine RW.boxN hs rfl rfl ?_; intro b1 w1 hs)
  refine Zerun ?_
  (refine RW.call T hs rfl rfl rfl (vecKind_con _ v _ _ hv') ?_; intro v h2 w2 hle2 hp2 hs)
  subst hp2
  have hv' := hv'.mono hR hle2
  by_cases c3 : v.kind = 1 ∨ v.kind = 2 ∨ v.kind = 3
  · have hkv : keysV v = v.nums.map (fun x => keyI (wholeF x).1) := if_pos c3
    have hkd : decide (v.kind = 1 ∨ v.kind = 2 ∨ v.kind = 3 ∨ v.kind = 5) = true := decide_eq_true (by omega)
    rw [hkd, hkv]
    rcases c3 with e | e | e
    all_goals
      refine Zerun ?_
      (refine RW.call T hs rfl rfl rfl (vecWholes_con hR _ v _ _ hv' (by omega)) ?_; intro v h3 w3 hle3 hp3 hs)
      obtain ⟨s3, rfl, hs3⟩ := hp3
      rw [if_pos (show v.kind = 1 ∨ v.kind = 2 ∨ v.kind = 3 by omega)] at hs3
      obtain ⟨nz, hnz⟩ : ∃ nz, (v.nums.map fun x => (wholeF x).1) = nz := ⟨_, rfl⟩
      have hnb : ∀ j, j < nz.length → -9223372036854775808 ≤ nz.getD j 0 ∧ nz.getD j 0 < 9223372036854775808 := by
        intro j hj
        rw [← hnz] at hj ⊢
        rw [List.length_map] at hj
        rw [getD_map' _ _ _ _ hj]
        have := wholeF_bounds v.nums[j]
        omega
      have hkeys : v.nums.map (fun x => keyI (wholeF x).1) = nz.map keyI := by rw [← hnz, List.map_map]; rfl
      rw [hkeys]
      have hnl : nz.length ≤ 1048576 := by
        rw [← hnz, List.length_map]
        have := hv'.nums_len (by unfold VecD.cls; rw [if_neg (by omega), if_neg (by omega)])
        omega
      rw [hnz] at hs3
      obtain ⟨ad, cp, rfl, hS⟩ := hs3
      refine Zerun ?_
      (refine RW.make1 T hs rfl rfl rfl rfl rfl rfl rfl (by dsimp only; omega) (by omega) ?_; intro b4 w4 hs)
      refine Zerun ?_
      refine CW.loop (fun k : Nat => [(6, .slice (some ⟨b4, 0, none⟩) nz.length nz.length), (26, .slice ad nz.length cp), (27, .int .i64 nz.length), (28, .int .i64 k)]) (fun k w' => k ≤ nz.length ∧ Sees w h h3 [⟨some ⟨b4, 0, none⟩, nz.length, nz.length, 197, 1, ((nz.take k).map keyI).map u64V ++ List.replicate (nz.length - k) (.int .u64 0)⟩, ⟨some ⟨b1, 0, none⟩, 1, 1, 38, 8, vecCells v.kind wv nv sm il fl ch bx⟩] w') (fun k => nz.length - k) 0 ⟨rfl, rfl, rfl, rfl, trivial⟩ ⟨by omega, by simp only [List.take_zero, List.map_nil, List.nil_append, Nat.sub_zero]; exact hs⟩ ?_
      rintro k w5 ⟨hk, hs⟩
      by_cases hlt : k < nz.length
      · have hg := map_get (Value.int .i64) nz k 0 hlt
        refine Zerun ?_
        refine RW.val (Y.convII T rfl rfl rfl) rfl ?_
        rw [wrapU64]
        refine Zerun ?_
        refine RW.val (Y.xorU rfl rfl (by omega) (by decide)) rfl ?_
        rw [keyI_xor _ (hnb k hlt)]
        refine Zerun ?_
        refine RW.val (Y.idxRN T hs 0 rfl rfl rfl rfl rfl rfl ?_) rfl ?_
        · omega
        refine RW.st1 T hs 0 rfl rfl rfl rfl rfl rfl rfl (by omega) ?_
        intro w7 hs
        refine Zerun ?_
        refine loopQ_round (k + 1) ⟨rfl, rfl, rfl, rfl, trivial⟩ ⟨by omega, ?_⟩ (by omega)
        have e := set_snoc (((nz.take k).map keyI).map u64V) (nz.length - k) (Value.int .u64 0) (u64V (keyI (nz.getD k 0))) (by omega)
        simp only [List.length_map, List.length_take, Nat.min_eq_left hk] at e
        rw [take_snoc nz k 0 hlt, List.map_append, List.map_append, show nz.length - (k + 1) = nz.length - k - 1 by omega]
        exact hs.re e
      · obtain rfl : k = nz.length := by omega
        refine Zerun ?_
        obtain ⟨h8, hle8, hs8, hS8⟩ := hs.freeze
        refine retQ_ret [_, _] h8 ⟨rfl, rfl, trivial⟩ hs8.dropAll ⟨_, rfl, RowAt.of_sl (n := nz.length) (by dsimp only at hS8; simpa using hS8)⟩
  by_cases c5 : v.kind = 5
  · have hkd : decide (v.kind = 1 ∨ v.kind = 2 ∨ v.kind = 3 ∨ v.kind = 5) = true := decide_eq_true (by omega)
    have hkv : keysV v = v.chars.map keyC := by unfold keysV; rw [if_neg c3, if_pos c5]
    rw [hkd, hkv]
    refine Zerun ?_
    (refine RW.call T hs rfl rfl rfl (vecLen_con _ v _ _ hv') ?_; intro v h3 w3 hle3 hp3 hs)
    subst hp3
    have hv' := hv'.mono hR hle3
    have hcl : v.cls = 1 := by unfold VecD.cls; rw [if_pos c5]
    have hvl : v.len = v.chars.length := by rcases hv'.sorts with ⟨a, b⟩ | ⟨a, b⟩ | ⟨a, b⟩ <;> omega
    rw [hvl] at hm ⊢
    obtain ⟨nz, hnz⟩ : ∃ nz, v.chars = nz := ⟨_, rfl⟩
    rw [hnz] at hm hc ⊢
    refine Zerun ?_
    (refine RW.make1 T hs rfl rfl rfl rfl rfl rfl rfl (by dsimp only; omega) (by omega) ?_; intro b4 w4 hs)
    refine Zerun ?_
    (refine RW.call T hs rfl rfl rfl (vecText_con _ v _ _ hv' (by rw [hvl, hnz]; omega)) ?_; intro v h5 w5 hle5 hp5 hs)
    rw [hnz] at hp5
    obtain ⟨ad, cp, rfl, hS⟩ := hp5
    have hnb : ∀ j, j < nz.length → -2147483648 ≤ nz.getD j 0 ∧ nz.getD j 0 < 2147483648 := fun j hj => hc _ (by simp [List.getD_eq_getElem?_getD, hj])
    refine Zerun ?_
    refine CW.loop (fun k : Nat => [(9, .slice (some ⟨b4, 0, none⟩) nz.length nz.length), (47, .slice ad nz.length cp), (48, .int .i64 nz.length), (49, .int .i64 k)]) (fun k w' => k ≤ nz.length ∧ Sees w h h5 [⟨some ⟨b4, 0, none⟩, nz.length, nz.length, 197, 1, ((nz.take k).map keyC).map u64V ++ List.replicate (nz.length - k) (.int .u64 0)⟩, ⟨some ⟨b1, 0, none⟩, 1, 1, 38, 8, vecCells v.kind wv nv sm il fl ch bx⟩] w') (fun k => nz.length - k) 0 ⟨rfl, rfl, rfl, rfl, trivial⟩ ⟨by omega, by simp only [List.take_zero, List.map_nil, List.nil_append, Nat.sub_zero]; exact hs⟩ ?_
    rintro k w5 ⟨hk, hs⟩
    by_cases hlt : k < nz.length
    · have hg := map_get (Value.int .i32) nz k 0 hlt
      refine Zerun ?_
      refine RW.val (Y.convII T rfl rfl rfl) rfl ?_
      rw [wrapU32]
      refine Zerun ?_
      refine RW.val (Y.xorU32 rfl rfl (by omega) (by decide)) rfl ?_
      rw [keyC_xor _ (hnb k hlt)]
      refine Zerun ?_
      refine RW.val (Y.convII T rfl rfl rfl) rfl ?_
      have hkl := keyC_lt _ (hnb k hlt)
      rw [wrapU64, show (((keyC (nz.getD k 0) : Nat) : Int) % 18446744073709551616).toNat = keyC (nz.getD k 0) by omega]
      refine Zerun ?_
      refine RW.val (Y.idxRN T hs 0 rfl rfl rfl rfl rfl rfl ?_) rfl ?_
      · omega
      refine RW.st1 T hs 0 rfl rfl rfl rfl rfl rfl rfl (by omega) ?_
      intro w7 hs
      refine Zerun ?_
      refine loopQ_round (k + 1) ⟨rfl, rfl, rfl, rfl, trivial⟩ ⟨by omega, ?_⟩ (by omega)
      have e := set_snoc (((nz.take k).map keyC).map u64V) (nz.length - k) (Value.int .u64 0) (u64V (keyC (nz.getD k 0))) (by omega)
      simp only [List.length_map, List.length_take, Nat.min_eq_left hk] at e
      rw [take_snoc nz k 0 hlt, List.map_append, List.map_append, show nz.length - (k + 1) = nz.length - k - 1 by omega]
      exact hs.re e
    · obtain rfl : k = nz.length := by omega
      refine Zerun ?_
      obtain ⟨h8, hle8, hs8, hS8⟩ := hs.freeze
      refine retQ_ret [_, _] h8 ⟨rfl, rfl, trivial⟩ hs8.dropAll ⟨_, rfl, RowAt.of_sl (n := nz.length) (by dsimp only at hS8; simpa using hS8)⟩
  · have hkd : decide (v.kind = 1 ∨ v.kind = 2 ∨ v.kind = 3 ∨ v.kind = 5) = false := decide_eq_false (by omega)
    have hkv : keysV v = [] := by unfold keysV; rw [if_neg c3, if_neg c5]
    rw [hkd, hkv]
    refine Zerun ?_
    exact retQ_ret [_, _] h2 ⟨rfl, rfl, trivial⟩ hs.dropAll ⟨_, rfl, RowAt.nil _⟩
end
end Go.Proofs.YtmojpbfkpggjhaaGreatDoor

/-
  Contract of a pass of package radix: the array of counts, and the place in a digit. No statement is proved here.
-/
namespace Go.Proofs.YtmojpbfkpggjhaaGreatDoor
open Go Go.RowKit
set_option linter.unusedVariables false
set_option linter.unusedSimpArgs false
set_option maxHeartbeats 4000000
attribute [local irreducible] CW RW QW SW HW ConM retM heldQ calmQ elemP thenQ blockQ loopQ joinQ retQ Yields Con Sl zF magR unitF truncF fwF wholeF tidySpec
set_option maxHeartbeats 4000000

set_option maxRecDepth 100000 in
theorem infArr : Inf.is Tryz.prog 229 ⟨2049, 16392, .agg (Array.replicate 2049 (.int .i64 0))⟩ := ⟨(Tryz.prog.info? 229).getD default, by kernel_rfl, by kernel_rfl, by kernel_rfl, by kernel_rfl⟩
section
variable {P : Program} {n : Nat} {Q : Post} {L : Env} {w0 w : World} {h0 h : GHeap} {O : List Row} {ops rest : List Oper}
variable {d : Option Tmp} {ty : TypeId} {pos : String} {aft : Array Edge}
/-- a variable of a type whose nought is told ahead -/
theorem RW.allocI (hs : Sees w0 h0 h O w) {e : TypeId} {i : Inf} {cs : List Value} {sz : Nat} (hI : Inf.is P e i) (hd : dstOk n d = true) (hc : i.zero.cells.toList = cs) (hz : i.zero.cells.size = sz)
    (K : ∀ b w', Sees w0 h0 h (⟨some ⟨b, 0, none⟩, 1, 1, e, sz, cs⟩ :: O) w' → RW P n ops Q (updo d (.pointer (some ⟨b, 0, none⟩)) L) w' rest) :
    RW P n ops Q L w (⟨d, .alloc e, ty, pos, aft, none⟩ :: rest) := by
  subst hc hz
  refine RW.step (w' := w.alloc (.cells i.zero.cells e)) ?_ hd (K w.heap.size _ ?_)
  · intro a ha
    have hz0 : (Go.zeroValue e).run P w = .ok i.zero w := by
      obtain ⟨x, h1, h2, h3, h4⟩ := hI
      simp [Go.zeroValue, typeInfo, h1, h4]
    simp [execOp, Instr.alloc, newVar, newRow, hz0]
  · have := hs.alloc (cs := i.zero.cells.toList) (e := e) (sz := i.zero.cells.size) (n := 1) (cap := 1) (xs := i.zero.cells.toList) (Nat.le_refl _) (by simp [maxLen]) (by simp) (List.take_of_length_le (by simp))
    simpa using this
end
/-- a key's digit, downwards counted from the top -/
def dgN (keys : List Nat) (s : Nat) (down : Bool) (i : Nat) : Nat := if down = true then 2047 - (keys.getD i 0 >>> s &&& 2047) else keys.getD i 0 >>> s &&& 2047
theorem dgN_lt (keys : List Nat) (s : Nat) (down : Bool) (i : Nat) : dgN keys s down i < 2048 := by
  unfold dgN
  have : keys.getD i 0 >>> s &&& 2047 ≤ 2047 := Nat.and_le_right
  split <;> omega
theorem pass1_con (keys : List Nat) (s : Nat) (down : Bool) (i : Nat) (ad : Option Addr) (cp b1 b2 b3 b4 : Nat) (w : World) (h : GHeap) (hx : ∀ u ∈ keys, u < 18446744073709551616) (hs64 : s < 64) (hi : i < keys.length) (_hm : keys.length ≤ 1048576)
    (hS : Sl h 1 ad keys.length cp (keys.map u64V)) (h1 : ∃ cs, h b1 = some cs ∧ cs[0]? = some (.slice ad keys.length cp)) (h2 : ∃ cs, h b2 = some cs ∧ cs[0]? = some (.int .u64 (s : Int))) (h3 : ∃ cs, h b3 = some cs ∧ cs[0]? = some (.int .u64 2047)) (h4 : ∃ cs, h b4 = some cs ∧ cs[0]? = some (.bool down)) :
    Con Tryz.prog 189 [.int .i64 (i : Int), .pointer (some ⟨b1, 0, none⟩), .pointer (some ⟨b2, 0, none⟩), .pointer (some ⟨b3, 0, none⟩), .pointer (some ⟨b4, 0, none⟩)] w h (fun _ u => u = .int .i64 (dgN keys s down i : Nat)) := by
  have hmi : keys.getD i 0 ∈ keys := by simp [List.getD_eq_getElem?_getD, hi]
  have hki := hx _ hmi
  have hg := map_get u64V keys i 0 hi
  unfold u64V at hg
  obtain ⟨q, hq⟩ : ∃ q, keys.getD i 0 >>> s &&& 2047 = q := ⟨_, rfl⟩
  have hql : q ≤ 2047 := by rw [← hq]; exact Nat.and_le_right
  have hsl : keys.getD i 0 >>> s < 18446744073709551616 := Nat.lt_of_le_of_lt (Nat.shiftRight_le _ _) hki
  refine Con.of_body Tryz.func189 rfl Tryz.ntmps189 rfl rfl ?_
  intro hs
  refine Zrun ?_
  refine CW.regionQ T hs ?_ (by kernel_rfl)
  refine QW.val (fun _ hs => Y.ldG T hs rfl h1 rfl rfl) rfl ?_
  refine Zeqrun ?_
  refine QW.val (fun _ hs => Y.ldG T hs rfl h2 rfl rfl) rfl ?_
  refine QW.val (fun _ _ => Y.shrU rfl rfl (by omega)) rfl ?_
  refine QW.val (fun _ hs => Y.ldG T hs rfl h3 rfl rfl) rfl ?_
  refine QW.val (fun _ _ => Y.andU rfl rfl hsl (by decide)) rfl ?_
  rw [hq]
  refine QW.val (fun _ _ => Y.conv64 T rfl rfl rfl ⟨by omega, by omega⟩) rfl ?_
  refine Zeqrun ?_
  intro w2 hs
  refine Zerun ?_
  refine RW.val (Y.ldG T hs rfl h4 rfl rfl) rfl ?_
  cases down with
  | true =>
    refine Zerun ?_
    refine RW.val (Y.ldG T hs rfl h3 rfl rfl) rfl ?_
    refine Zerun ?_
    refine RW.val (Y.conv64 T rfl rfl rfl ⟨by omega, by omega⟩) rfl ?_
    refine Zerun ?_
    refine retQ_ret [_] h ⟨rfl, trivial⟩ hs.dropAll ?_
    unfold dgN
    rw [hq, if_pos rfl]
    simp only [packv]
    congr 1
    omega
  | false =>
    refine Zerun ?_
    refine retQ_ret [_] h ⟨rfl, trivial⟩ hs.dropAll ?_
    unfold dgN
    rw [hq, if_neg (by decide)]
    rfl
end Go.Proofs.YtmojpbfkpggjhaaGreatDoor

/-
  Plain facts on ranks: how many are below, and how many alike stand ahead. No program is in sight, and no statement is proved here.
-/
namespace Go.Proofs.YtmojpbfkpggjhaaGreatDoor

def below (dl : List Nat) (p : Nat) : Nat := dl.countP fun x => decide (x < p)
def alike (dl : List Nat) (m p : Nat) : Nat := (dl.take m).countP fun x => decide (x = p)
/-- the rank of an element: those below it and those alike ahead of it -/
def rankP (dl : List Nat) (j : Nat) : Nat := below dl (dl.getD j 0) + alike dl j (dl.getD j 0)
theorem below_zero (dl : List Nat) : below dl 0 = 0 := by
  unfold below
  rw [List.countP_eq_zero]
  intro x _; simp
theorem below_succ (dl : List Nat) (p : Nat) : below dl (p + 1) = below dl p + alike dl dl.length p := by
  unfold below alike
  rw [List.take_length]
  induction dl with
  | nil => rfl
  | cons x l ih =>
    simp only [List.countP_cons, ih]
    by_cases h1 : x < p
    · rw [if_pos (by simp; omega), if_pos (by simp; omega), if_neg (by simp; omega)]; omega
    · by_cases h2 : x = p
      · rw [if_pos (by simp; omega), if_neg (by simp; omega), if_pos (by simp; omega)]; omega
      · rw [if_neg (by simp; omega), if_neg (by simp; omega), if_neg (by simp; omega)]; omega
theorem below_mono (dl : List Nat) {p q : Nat} (h : p ≤ q) : below dl p ≤ below dl q := by
  induction q with
  | zero => obtain rfl : p = 0 := by omega
            exact Nat.le_refl _
  | succ q ih =>
    by_cases e : p = q + 1
    · rw [e]; exact Nat.le_refl _
    · have := ih (by omega)
      rw [below_succ]; omega
theorem below_le (dl : List Nat) (p : Nat) : below dl p ≤ dl.length := List.countP_le_length
theorem alike_zero (dl : List Nat) (p : Nat) : alike dl 0 p = 0 := rfl
theorem alike_succ (dl : List Nat) (m p : Nat) (h : m < dl.length) : alike dl (m + 1) p = alike dl m p + if dl.getD m 0 = p then 1 else 0 := by
  unfold alike
  rw [take_snoc dl m 0 h, List.countP_append, List.countP_singleton]
  by_cases e : dl.getD m 0 = p
  · rw [if_pos (by simpa using e), if_pos e]
  · rw [if_neg (by simpa using e), if_neg e]
theorem alike_mono (dl : List Nat) (p : Nat) {m k : Nat} (h : m ≤ k) (hk : k ≤ dl.length) : alike dl m p ≤ alike dl k p := by
  induction k with
  | zero => obtain rfl : m = 0 := by omega
            exact Nat.le_refl _
  | succ k ih =>
    by_cases e : m = k + 1
    · rw [e]; exact Nat.le_refl _
    · have := ih (by omega) (by omega)
      rw [alike_succ _ _ _ (by omega)]; omega
theorem alike_le (dl : List Nat) (m p : Nat) : alike dl m p ≤ dl.length := by
  unfold alike
  exact Nat.le_trans List.countP_le_length (by rw [List.length_take]; omega)
theorem alike_lt (dl : List Nat) {j : Nat} (h : j < dl.length) : alike dl j (dl.getD j 0) < alike dl dl.length (dl.getD j 0) := by
  have h1 := alike_mono dl (dl.getD j 0) (show j + 1 ≤ dl.length by omega) (Nat.le_refl _)
  rw [alike_succ _ _ _ h, if_pos rfl] at h1
  omega
theorem rank_below (dl : List Nat) {j : Nat} (h : j < dl.length) : below dl (dl.getD j 0) ≤ rankP dl j ∧ rankP dl j < below dl (dl.getD j 0 + 1) := by
  have := alike_lt dl h
  rw [below_succ]
  unfold rankP
  omega
theorem rank_lt (dl : List Nat) {j : Nat} (h : j < dl.length) : rankP dl j < dl.length := by
  have h1 := (rank_below dl h).2
  have h2 := below_le dl (dl.getD j 0 + 1)
  omega
theorem rank_less (dl : List Nat) {i j : Nat} (hi : i < dl.length) (hj : j < dl.length) (h : dl.getD i 0 < dl.getD j 0 ∨ (dl.getD i 0 = dl.getD j 0 ∧ i < j)) : rankP dl i < rankP dl j := by
  rcases h with h | ⟨h, hij⟩
  · have h1 := (rank_below dl hi).2
    have h2 := (rank_below dl hj).1
    have h3 := below_mono dl (show dl.getD i 0 + 1 ≤ dl.getD j 0 by omega)
    omega
  · unfold rankP
    rw [h]
    have h1 := alike_mono dl (dl.getD j 0) (show i + 1 ≤ j by omega) (by omega)
    rw [alike_succ _ _ _ hi, if_pos h] at h1
    omega
theorem rank_inj (dl : List Nat) {i j : Nat} (hi : i < dl.length) (hj : j < dl.length) (h : rankP dl i = rankP dl j) : i = j := by
  apply Classical.byContradiction
  intro hne
  have key : rankP dl i < rankP dl j ∨ rankP dl j < rankP dl i := by
    rcases Nat.lt_trichotomy (dl.getD i 0) (dl.getD j 0) with c | c | c
    · exact .inl (rank_less dl hi hj (.inl c))
    · by_cases e : i < j
      · exact .inl (rank_less dl hi hj (.inr ⟨c, e⟩))
      · exact .inr (rank_less dl hj hi (.inr ⟨c.symm, by omega⟩))
    · exact .inr (rank_less dl hj hi (.inl c))
  omega
/-- lists whose elements stand at their ranks -/
def Placed (dl : List Nat) (at_ out : List Nat) : Prop := out.length = at_.length ∧ ∀ j, j < at_.length → out.getD (rankP dl j) 0 = at_.getD j 0
/-- a row of numbers told by a function -/
def rowF (N : Nat) (f : Nat → Nat) : List Int := (List.range N).map fun p => ((f p : Nat) : Int)
theorem rowF_len (N : Nat) (f : Nat → Nat) : (rowF N f).length = N := by simp [rowF]
theorem rowF_get (N : Nat) (f : Nat → Nat) (p : Nat) (h : p < N) : (rowF N f).getD p 0 = (f p : Nat) := by
  unfold rowF
  rw [List.getD_eq_getElem?_getD, List.getElem?_map, List.getElem?_range h]
  rfl
theorem rowF_congr (N : Nat) (f g : Nat → Nat) (h : ∀ p, p < N → f p = g p) : rowF N f = rowF N g := by
  unfold rowF
  apply List.map_congr_left
  intro p hp
  rw [h p (List.mem_range.1 hp)]
theorem rowF_set (N : Nat) (f g : Nat → Nat) (i : Nat) (h : ∀ p, p < N → p ≠ i → g p = f p) : (rowF N f).set i (g i : Nat) = rowF N g := by
  apply List.ext_getElem
  · rw [List.length_set, rowF_len, rowF_len]
  · intro p h1 h2
    have hp : p < N := by rw [rowF_len] at h2; exact h2
    have key : ∀ (f : Nat → Nat) (hh : p < (rowF N f).length), (rowF N f)[p] = ((f p : Nat) : Int) := by
      intro f hh
      have := rowF_get N f p hp
      rw [List.getD_eq_getElem?_getD, List.getElem?_eq_getElem hh] at this
      exact this
    rw [List.getElem_set, key g]
    by_cases e : i = p
    · subst e; rw [if_pos rfl]
    · rw [if_neg e, key f, h p hp (fun e2 => e e2.symm)]
def natsI (l : List Nat) : List Int := l.map fun i : Nat => (i : Int)
theorem natsI_len (l : List Nat) : (natsI l).length = l.length := List.length_map _
theorem natsI_get (l : List Nat) (j : Nat) : (natsI l).getD j 0 = (l.getD j 0 : Nat) := by
  unfold natsI
  by_cases h : j < l.length
  · rw [List.getD_eq_getElem?_getD, List.getD_eq_getElem?_getD, List.getElem?_map, List.getElem?_eq_getElem h]; rfl
  · rw [List.getD_eq_getElem?_getD, List.getD_eq_getElem?_getD, List.getElem?_map, List.getElem?_eq_none (by omega)]; rfl
theorem natsI_set (l : List Nat) (j v : Nat) : (natsI l).set j (v : Int) = natsI (l.set j v) := by unfold natsI; rw [List.map_set]
end Go.Proofs.YtmojpbfkpggjhaaGreatDoor

/-
  Contract of a pass of package radix: places put where their ranks tell. No statement is proved here.
-/
namespace Go.Proofs.YtmojpbfkpggjhaaGreatDoor
open Go Go.RowKit
set_option linter.unusedVariables false
set_option linter.unusedSimpArgs false
set_option maxHeartbeats 4000000
attribute [local irreducible] CW RW QW SW HW ConM retM heldQ calmQ elemP thenQ blockQ loopQ joinQ retQ Yields Con Sl zF magR unitF truncF fwF wholeF tidySpec
set_option maxHeartbeats 4000000
set_option maxRecDepth 100000

section
variable {P : Program} (T : Tab P) {n : Nat} {L : Env} {w : World} {ty : TypeId} {x y : Operand} {t : TypeId}
theorem Y.idxArr1 {e len : TypeId} {i : Inf} {b : Nat} {k : IntKind} {u : Nat} (hT : T.ty t = some (.array len e)) (hI : T.inf e = some i) (hi1 : i.size = 1) (hx : opv L x = some (.pointer (some ⟨b, 0, none⟩))) (hy : opv L y = some (.int k (u : Int))) (h0 : u < len) :
    Yields P n L w (.indexAddr t x y) ty (.pointer (some ⟨b, u, none⟩)) := by
  have := Y.idxArr (P := P) (n := n) (w := w) (ty := ty) T hT hI hx hy ⟨by omega, by omega⟩
  rwa [hi1, Int.toNat_natCast, Nat.mul_one, Nat.zero_add] at this
end
theorem rowF_zero (N : Nat) : (rowF N fun _ => 0).map (Value.int .i64) = List.replicate N (.int .i64 0) := by
  rw [List.eq_replicate_iff]
  constructor
  · rw [List.length_map, rowF_len]
  · intro v hv
    obtain ⟨z, hz, rfl⟩ := List.mem_map.1 hv
    unfold rowF at hz
    obtain ⟨p, _, rfl⟩ := List.mem_map.1 hz
    rfl
theorem rowF_cell (N : Nat) (f : Nat → Nat) (p : Nat) (h : p < N) : ((rowF N f).map (Value.int .i64))[p]? = some (.int .i64 (f p : Nat)) := by
  have := map_get (Value.int .i64) (rowF N f) p 0 (by rw [rowF_len]; exact h)
  rwa [rowF_get N f p h] at this
theorem rowF_put (N : Nat) (f g : Nat → Nat) (i : Nat) (h : ∀ p, p < N → p ≠ i → g p = f p) : ((rowF N f).map (Value.int .i64)).set i (.int .i64 (g i : Nat)) = (rowF N g).map (Value.int .i64) := by
  rw [← rowF_set N f g i h, List.map_set]
theorem Cell0.mono {h h' : GHeap} (hl : GLe h h') {b : Nat} {v : Value} (q : ∃ cs, h b = some cs ∧ cs[0]? = some v) : ∃ cs, h' b = some cs ∧ cs[0]? = some v := let ⟨cs, e, f⟩ := q; ⟨cs, hl _ _ e, f⟩
def cnt1 (dl : List Nat) (m p : Nat) : Nat := if p = 0 then 0 else alike dl m (p - 1)
def cnt2 (dl : List Nat) (d p : Nat) : Nat := if p < d then below dl p else cnt1 dl dl.length p
def cnt3 (dl : List Nat) (m p : Nat) : Nat := below dl p + alike dl m p
theorem cnt1_zero (dl : List Nat) : cnt1 dl 0 = fun _ => 0 := by
  funext p; unfold cnt1; split
  · rfl
  · rfl
theorem cnt1_succ (dl : List Nat) (m : Nat) (h : m < dl.length) : cnt1 dl (m + 1) (dl.getD m 0 + 1) = cnt1 dl m (dl.getD m 0 + 1) + 1 ∧ ∀ p, p ≠ dl.getD m 0 + 1 → cnt1 dl (m + 1) p = cnt1 dl m p := by
  constructor
  · unfold cnt1
    rw [if_neg (by omega), if_neg (by omega), Nat.add_sub_cancel, alike_succ _ _ _ h, if_pos rfl]
  · intro p hp
    unfold cnt1
    by_cases e : p = 0
    · rw [if_pos e, if_pos e]
    · rw [if_neg e, if_neg e, alike_succ _ _ _ h, if_neg (by omega)]; omega
theorem cnt1_le (dl : List Nat) (m p : Nat) : cnt1 dl m p ≤ dl.length := by
  unfold cnt1; split
  · omega
  · exact alike_le _ _ _
theorem cnt2_one (dl : List Nat) : cnt2 dl 1 = cnt1 dl dl.length := by
  funext p; unfold cnt2
  by_cases e : p < 1
  · obtain rfl : p = 0 := by omega
    rw [if_pos e, below_zero]; rfl
  · rw [if_neg e]
theorem cnt2_succ (dl : List Nat) (d : Nat) (h : 1 ≤ d) : cnt2 dl (d + 1) d = cnt2 dl d d + cnt2 dl d (d - 1) ∧ ∀ p, p ≠ d → cnt2 dl (d + 1) p = cnt2 dl d p := by
  constructor
  · unfold cnt2
    rw [if_pos (by omega), if_neg (by omega), if_pos (by omega)]
    unfold cnt1
    rw [if_neg (by omega)]
    have := below_succ dl (d - 1)
    rw [show d - 1 + 1 = d by omega] at this
    omega
  · intro p hp
    unfold cnt2
    by_cases e : p < d
    · rw [if_pos (by omega), if_pos e]
    · rw [if_neg (by omega), if_neg e]
theorem cnt2_le (dl : List Nat) (d p : Nat) : cnt2 dl d p ≤ dl.length := by
  unfold cnt2; split
  · exact below_le _ _
  · exact cnt1_le _ _ _
theorem cnt2_all (dl : List Nat) (p : Nat) (h : p < 2049) : cnt2 dl 2049 p = cnt3 dl 0 p := by
  unfold cnt2 cnt3; rw [if_pos h, alike_zero]; rfl
theorem cnt3_succ (dl : List Nat) (m : Nat) (h : m < dl.length) : cnt3 dl (m + 1) (dl.getD m 0) = cnt3 dl m (dl.getD m 0) + 1 ∧ ∀ p, p ≠ dl.getD m 0 → cnt3 dl (m + 1) p = cnt3 dl m p := by
  constructor
  · unfold cnt3
    rw [alike_succ _ _ _ h, if_pos rfl]; omega
  · intro p hp
    unfold cnt3
    rw [alike_succ _ _ _ h, if_neg (fun e => hp e.symm)]; omega
theorem pass_con (s0 s1 : Value) (keys at_ : List Nat) (s : Nat) (down : Bool) (w : World) (h : GHeap) (hl0 : UAt h s0 keys) (hl1 : IntsAt h s1 (natsI at_)) (hx : ∀ u ∈ keys, u < 18446744073709551616) (hs64 : s < 64) (hm : keys.length ≤ 1048576) (hn : at_.length ≤ 1048576) (hin : ∀ i ∈ at_, i < keys.length) :
    Con Tryz.prog 173 [s0, s1, .int .u64 (s : Int), .bool down] w h (fun h' u => ∃ out, IntsAt h' u (natsI out) ∧ Placed (at_.map (dgN keys s down)) at_ out) := by
  obtain ⟨ad, cp, rfl, hS⟩ := hl0
  obtain ⟨ad1, cp1, rfl, hS1⟩ := hl1
  rw [natsI_len] at hS1 ⊢
  obtain ⟨dl, hdl⟩ : ∃ dl, at_.map (dgN keys s down) = dl := ⟨_, rfl⟩
  have hdn : dl.length = at_.length := by rw [← hdl, List.length_map]
  have hdg : ∀ j, j < at_.length → dl.getD j 0 = dgN keys s down (at_.getD j 0) := by
    intro j hj
    rw [← hdl, getD_map' _ _ _ _ hj, List.getD_eq_getElem?_getD, List.getElem?_eq_getElem hj]; rfl
  have hdlt : ∀ j, j < at_.length → dl.getD j 0 < 2048 := fun j hj => by rw [hdg j hj]; exact dgN_lt _ _ _ _
  have hat : ∀ j, j < at_.length → at_.getD j 0 < keys.length := fun j hj => hin _ (by simp [List.getD_eq_getElem?_getD, hj])
  rw [hdl]
  refine Con.of_body Tryz.func173 rfl Tryz.ntmps173 rfl rfl ?_
  intro hs
  refine Zrun ?_
  refine RW.box hs rfl rfl ?_
  intro k1 v1 hs
  obtain ⟨g1, le1, hs, hB1⟩ := hs.freeze
  have q1 := Sl.cell0 hB1
  refine Zrun ?_
  refine RW.box hs rfl rfl ?_
  intro k2 v2 hs
  obtain ⟨g2, le2, hs, hB2⟩ := hs.freeze
  have q2 := Sl.cell0 hB2
  refine Zrun ?_
  refine RW.box hs rfl rfl ?_
  intro k4 v4 hs
  obtain ⟨g4, le4, hs, hB4⟩ := hs.freeze
  have q4 := Sl.cell0 hB4
  refine Zrun ?_
  refine RW.allocI hs infArr rfl (cs := List.replicate 2049 (.int .i64 0)) (sz := 2049) ?_ ?_ ?_
  · simp [Value.cells]
  · simp [Value.cells]
  intro ba va hs
  refine Zrun ?_
  (refine RW.allocN T hs rfl rfl rfl rfl ?_; intro b3 w3 hs)
  refine Zrun ?_
  refine RW.store1 T hs 0 rfl rfl rfl rfl rfl rfl rfl rfl ?_
  intro v3 hs
  obtain ⟨g3, le3, hs, hB3⟩ := hs.freeze
  have q3 := Sl.cell0 hB3
  have hs := hs.re (ys := (rowF 2049 (cnt1 dl 0)).map (Value.int .i64)) (by rw [cnt1_zero, rowF_zero])
  have p1 := Cell0.mono (le2.trans (le4.trans le3)) q1
  have p2 := Cell0.mono (le4.trans le3) q2
  have p4 := Cell0.mono le3 q4
  have hle := le1.trans (le2.trans (le4.trans le3))
  have hS := hS.mono hle
  have hS1 := hS1.mono hle
  clear q1 q2 q4 hB1 hB2 hB3 hB4
  refine Zrun ?_
  refine RW.val (Y.makeFunc (fi := []) (ca := [_, _, _, _]) rfl rfl) rfl ?_
  refine Zerun ?_
  refine CW.loop (fun u : Nat × GHeap => [(1, .slice ad1 at_.length cp1), (9, .pointer (some ⟨ba, 0, none⟩)), (11, .func (.func 189) #[] #[.pointer (some ⟨k1, 0, none⟩), .pointer (some ⟨k2, 0, none⟩), .pointer (some ⟨b3, 0, none⟩), .pointer (some ⟨k4, 0, none⟩)]), (20, .slice ad1 at_.length cp1), (21, .int .i64 at_.length), (22, .int .i64 u.1)]) (fun u w' => u.1 ≤ at_.length ∧ GLe g3 u.2 ∧ Sees w h u.2 [⟨some ⟨ba, 0, none⟩, 1, 1, 229, 2049, (rowF 2049 (cnt1 dl u.1)).map (Value.int .i64)⟩] w') (fun u => at_.length - u.1) (0, g3) ⟨rfl, rfl, rfl, rfl, rfl, rfl, trivial⟩ ⟨by omega, GLe.refl _, hs⟩ ?_
  · rintro ⟨k, hh⟩ w5 ⟨hk, hgl, hs⟩
    dsimp only at hk hgl hs ⊢
    have hS := hS.mono hgl
    have hS1 := hS1.mono hgl
    by_cases hlt : k < at_.length
    · have hg := map_get (Value.int .i64) (natsI at_) k 0 (by rw [natsI_len]; exact hlt)
      rw [natsI_get] at hg
      have hc := hdlt k hlt
      have hle1 := cnt1_le dl k (dl.getD k 0 + 1)
      obtain ⟨e1, e2⟩ := cnt1_succ dl k (by omega)
      have hcell := rowF_cell 2049 (cnt1 dl k) (dl.getD k 0 + 1) (by omega)
      have hput := rowF_put 2049 (cnt1 dl k) (cnt1 dl (k + 1)) (dl.getD k 0 + 1) (fun p _ hp => e2 p hp)
      rw [e1] at hput
      refine Zerun ?_
      rw [natsI_get]
      refine RW.callV T hs (f := 189) (fi := []) (ca := [_, _, _, _]) rfl rfl rfl rfl (pass1_con keys s down (at_.getD k 0) ad cp k1 k2 b3 k4 _ _ hx hs64 (hat k hlt) hm hS (Cell0.mono hgl p1) (Cell0.mono hgl p2) (Cell0.mono hgl q3) (Cell0.mono hgl p4)) ?_
      intro v h6 w6 hle6 hp6 hs
      subst hp6
      rw [← hdg k hlt]
      refine Zerun ?_
      refine RW.val (Y.idxArr1 T (u := dl.getD k 0 + 1) rfl rfl rfl rfl rfl (by omega)) rfl ?_
      refine RW.val (Y.loadRow1 T hs 0 rfl rfl rfl rfl hcell) rfl ?_
      refine Zerun ?_
      refine RW.val (Y.idxArr1 T (u := dl.getD k 0 + 1) rfl rfl rfl rfl rfl (by omega)) rfl ?_
      refine RW.store1 T hs 0 rfl rfl rfl rfl rfl rfl rfl hcell ?_
      intro w7 hs
      have hs := hs.re hput
      refine Zerun ?_
      exact loopQ_round (k + 1, h6) ⟨rfl, rfl, rfl, rfl, rfl, rfl, trivial⟩ ⟨by dsimp only; omega, hgl.trans hle6, hs⟩ (by dsimp only; omega)
    · obtain rfl : k = at_.length := by omega
      have hs := hs.re (ys := (rowF 2049 (cnt2 dl 1)).map (Value.int .i64)) (by rw [cnt2_one, hdn])
      have p1 := Cell0.mono hgl p1
      have p2 := Cell0.mono hgl p2
      have p3 := Cell0.mono hgl q3
      have p4 := Cell0.mono hgl p4
      refine Zerun ?_
      refine CW.loop (fun d : Nat => [(1, .slice ad1 at_.length cp1), (9, .pointer (some ⟨ba, 0, none⟩)), (11, .func (.func 189) #[] #[.pointer (some ⟨k1, 0, none⟩), .pointer (some ⟨k2, 0, none⟩), .pointer (some ⟨b3, 0, none⟩), .pointer (some ⟨k4, 0, none⟩)]), (14, .int .i64 d)]) (fun d w' => 1 ≤ d ∧ d ≤ 2049 ∧ Sees w h hh [⟨some ⟨ba, 0, none⟩, 1, 1, 229, 2049, (rowF 2049 (cnt2 dl d)).map (Value.int .i64)⟩] w') (fun d => 2049 - d) 1 ⟨rfl, rfl, rfl, rfl, trivial⟩ ⟨by omega, by omega, hs⟩ ?_
      rintro d w8 ⟨hd1, hd2, hs⟩
      by_cases hlt2 : d < 2049
      · have hc1 := rowF_cell 2049 (cnt2 dl d) d hlt2
        have hc2 := rowF_cell 2049 (cnt2 dl d) (d - 1) (by omega)
        have hb1 := cnt2_le dl d d
        have hb2 := cnt2_le dl d (d - 1)
        obtain ⟨e1, e2⟩ := cnt2_succ dl d hd1
        have hput := rowF_put 2049 (cnt2 dl d) (cnt2 dl (d + 1)) d (fun p _ hp => e2 p hp)
        rw [e1] at hput
        refine Zerun ?_
        refine CW.regionT T 9 hs ?_ (by kernel_rfl)
        intro w9 hs
        simp only [List.take_succ_cons, List.take_zero, List.drop_succ_cons, List.drop_zero]
        refine SW.val (Y.move rfl) rfl ?_
        refine SW.val (Y.idxArr1 T (u := d) rfl rfl rfl rfl rfl hlt2) rfl ?_
        refine SW.val (Y.loadRow1 T hs 0 rfl rfl rfl rfl hc1) rfl ?_
        refine SW.val (Y.move rfl) rfl ?_
        refine SW.val (Y.sub rfl rfl (by omega)) rfl ?_
        refine SW.val (Y.idxArr1 T (u := d - 1) rfl rfl rfl rfl (seti (by omega)) (by omega)) rfl ?_
        refine SW.val (Y.loadRow1 T hs 0 rfl rfl rfl rfl hc2) rfl ?_
        refine SW.val (Y.add rfl rfl (by omega)) rfl ?_
        refine SW.val (Y.idxArr1 T (u := d) rfl rfl rfl rfl rfl hlt2) rfl ?_
        refine SW.nil ?_
        refine RW.store1 T hs 0 rfl rfl rfl rfl rfl rfl rfl hc1 ?_
        intro w10 hs
        have hs := hs.re hput
        refine Zerun ?_
        exact loopQ_round (d + 1) ⟨rfl, rfl, rfl, rfl, trivial⟩ ⟨by omega, by omega, hs⟩ (by omega)
      · obtain rfl : d = 2049 := by omega
        have hs := hs.re (ys := (rowF 2049 (cnt3 dl 0)).map (Value.int .i64)) (by rw [rowF_congr 2049 _ _ (fun p hp => cnt2_all dl p hp)])
        refine Zerun ?_
        (refine RW.make1 T hs rfl rfl rfl rfl rfl rfl rfl (by dsimp only; omega) (by omega) ?_; intro b8 w8 hs)
        refine Zerun ?_
        have hs := hs.re (ys := (natsI (List.replicate at_.length 0)).map (Value.int .i64)) (by unfold natsI; rw [List.map_replicate, List.map_replicate]; rfl)
        refine CW.loop (fun u : Nat × List Nat × GHeap => [(9, .pointer (some ⟨ba, 0, none⟩)), (11, .func (.func 189) #[] #[.pointer (some ⟨k1, 0, none⟩), .pointer (some ⟨k2, 0, none⟩), .pointer (some ⟨b3, 0, none⟩), .pointer (some ⟨k4, 0, none⟩)]), (15, .slice (some ⟨b8, 0, none⟩) at_.length at_.length), (51, .slice ad1 at_.length cp1), (52, .int .i64 at_.length), (53, .int .i64 u.1)]) (fun u w' => u.1 ≤ at_.length ∧ u.2.1.length = at_.length ∧ (∀ j, j < u.1 → u.2.1.getD (rankP dl j) 0 = at_.getD j 0) ∧ GLe hh u.2.2 ∧ Sees w h u.2.2 [⟨some ⟨b8, 0, none⟩, at_.length, at_.length, 3, 1, (natsI u.2.1).map (Value.int .i64)⟩, ⟨some ⟨ba, 0, none⟩, 1, 1, 229, 2049, (rowF 2049 (cnt3 dl u.1)).map (Value.int .i64)⟩] w') (fun u => at_.length - u.1) (0, List.replicate at_.length 0, hh) ⟨rfl, rfl, rfl, rfl, rfl, rfl, trivial⟩ ⟨by omega, List.length_replicate, fun j hj => by exfalso; exact Nat.not_lt_zero _ hj, GLe.refl _, hs⟩ ?_
        rintro ⟨k, out, hk0⟩ w11 ⟨hk, hol, hpl, hgl2, hs⟩
        dsimp only at hk hol hpl hgl2 hs ⊢
        have hS := hS.mono hgl2
        have hS1 := hS1.mono hgl2
        by_cases hlt3 : k < at_.length
        · have hg := map_get (Value.int .i64) (natsI at_) k 0 (by rw [natsI_len]; exact hlt3)
          have hc := hdlt k hlt3
          have hrk := rank_lt dl (j := k) (by omega)
          obtain ⟨e1, e2⟩ := cnt3_succ dl k (by omega)
          have hcell := rowF_cell 2049 (cnt3 dl k) (dl.getD k 0) (by omega)
          have hr : cnt3 dl k (dl.getD k 0) = rankP dl k := rfl
          have hput := rowF_put 2049 (cnt3 dl k) (cnt3 dl (k + 1)) (dl.getD k 0) (fun p _ hp => e2 p hp)
          rw [e1] at hput
          rw [hr] at hput hcell
          refine Zerun ?_
          rw [natsI_get]
          refine RW.callV T hs (f := 189) (fi := []) (ca := [_, _, _, _]) rfl rfl rfl rfl (pass1_con keys s down (at_.getD k 0) ad cp k1 k2 b3 k4 _ _ hx hs64 (hat k hlt3) hm hS (Cell0.mono hgl2 p1) (Cell0.mono hgl2 p2) (Cell0.mono hgl2 p3) (Cell0.mono hgl2 p4)) ?_
          intro v h6 w6 hle6 hp6 hs
          subst hp6
          rw [← hdg k hlt3]
          refine Zerun ?_
          refine RW.val (Y.idxArr1 T (u := dl.getD k 0) rfl rfl rfl rfl rfl (by omega)) rfl ?_
          refine RW.val (Y.loadRow1 T hs 1 rfl rfl rfl rfl hcell) rfl ?_
          refine Zerun ?_
          refine RW.val (Y.idxRN T hs 0 rfl rfl rfl rfl rfl rfl ?_) rfl ?_
          · omega
          refine RW.st1 T hs 0 rfl rfl rfl rfl rfl rfl rfl (by omega) ?_
          intro w7 hs
          have hs := hs.re (ys := (natsI (out.set (rankP dl k) (at_.getD k 0))).map (Value.int .i64)) (by rw [← natsI_set, List.map_set])
          refine Zerun ?_
          refine RW.val (Y.idxArr1 T (u := dl.getD k 0) rfl rfl rfl rfl rfl (by omega)) rfl ?_
          refine RW.val (Y.loadRow1 T hs 1 rfl rfl rfl rfl hcell) rfl ?_
          refine Zerun ?_
          refine RW.val (Y.idxArr1 T (u := dl.getD k 0) rfl rfl rfl rfl rfl (by omega)) rfl ?_
          refine RW.store1 T hs 1 rfl rfl rfl rfl rfl rfl rfl hcell ?_
          intro w12 hs
          dsimp only [List.set] at hs
          rw [show (Value.int IntKind.i64 ((rankP dl k : Nat) + 1 : Int)) = Value.int .i64 ((rankP dl k + 1 : Nat) : Int) from rfl, hput] at hs
          refine Zerun ?_
          refine loopQ_round (k + 1, out.set (rankP dl k) (at_.getD k 0), h6) ⟨rfl, rfl, rfl, rfl, rfl, rfl, trivial⟩ ⟨by dsimp only; omega, by dsimp only; rw [List.length_set]; exact hol, fun j hj => ?_, hgl2.trans hle6, hs⟩ (by dsimp only; omega)
          dsimp only at hj ⊢
          by_cases e : j = k
          · subst e
            rw [List.getD_eq_getElem?_getD, List.getElem?_set_self (by omega)]; rfl
          · have hne : rankP dl k ≠ rankP dl j := fun e2 => e (rank_inj dl (by omega) (by omega) e2).symm
            rw [List.getD_eq_getElem?_getD, List.getElem?_set_ne hne, ← List.getD_eq_getElem?_getD]
            exact hpl j (by omega)
        · obtain rfl : k = at_.length := by omega
          obtain ⟨h9, hle9, hs, hI9⟩ := freezeI (l := natsI out) hs (by rw [natsI_len, hol])
          refine Zerun ?_
          exact retQ_ret [_] h9 ⟨rfl, trivial⟩ hs.dropAll ⟨out, hI9, hol, hpl⟩
end Go.Proofs.YtmojpbfkpggjhaaGreatDoor

/-
  Plain facts on places in order: a pass by digits keeps them so, and there is one such list. No program is in sight, and no statement is proved here.
-/
namespace Go.Proofs.YtmojpbfkpggjhaaGreatDoor

theorem inj_surj : ∀ (n : Nat) (f : Nat → Nat), (∀ j, j < n → f j < n) → (∀ i j, i < n → j < n → f i = f j → i = j) → ∀ a, a < n → ∃ j, j < n ∧ f j = a
  | 0, _, _, _, a, h => absurd h (Nat.not_lt_zero _)
  | n + 1, f, hf, hi, a, ha => by
    have hg := inj_surj n (fun j => if f j = n then f n else f j) (fun j hj => by
      have h1 := hf j (by omega)
      by_cases e : f j = n
      · rw [if_pos e]
        have h2 := hf n (by omega)
        have : f n ≠ n := fun e2 => by have := hi j n (by omega) (by omega) (by rw [e, e2]); omega
        omega
      · rw [if_neg e]; omega) (fun i j hi' hj' e => by

      by_cases e1 : f i = n
      · by_cases e2 : f j = n
        · exact hi i j (by omega) (by omega) (by rw [e1, e2])
        · rw [if_pos e1, if_neg e2] at e
          have := hi n j (by omega) (by omega) e; omega
      · by_cases e2 : f j = n
        · rw [if_neg e1, if_pos e2] at e
          have := hi i n (by omega) (by omega) e; omega
        · rw [if_neg e1, if_neg e2] at e
          exact hi i j (by omega) (by omega) e)
    by_cases hb : f n = a
    · exact ⟨n, by omega, hb⟩
    · by_cases hn : a < n
      · obtain ⟨j, hj, e⟩ := hg a hn
  
        by_cases e1 : f j = n
        · rw [if_pos e1] at e; exact absurd e hb
        · rw [if_neg e1] at e; exact ⟨j, by omega, e⟩
      · obtain rfl : a = n := by omega
        have hfn := hf a (by omega)
        obtain ⟨j, hj, e⟩ := hg (f a) (by omega)
  
        by_cases e1 : f j = a
        · exact ⟨j, by omega, e1⟩
        · rw [if_neg e1] at e
          have := hi j a (by omega) (by omega) e; omega
/-- places from 0 on, each once, in an order -/
structure InOrder (lt : Nat → Nat → Prop) (n : Nat) (l : List Nat) : Prop where
  len : l.length = n
  lt_n : ∀ j, j < n → l.getD j 0 < n
  all : ∀ i, i < n → ∃ j, j < n ∧ l.getD j 0 = i
  ord : ∀ a b, a < b → b < n → lt (l.getD a 0) (l.getD b 0)
theorem InOrder.eq {lt : Nat → Nat → Prop} {n : Nat} {l m : List Nat} (h1 : InOrder lt n l) (h2 : InOrder lt n m) (asym : ∀ i j, lt i j → ¬ lt j i) : l = m := by
  have irr : ∀ i, ¬ lt i i := fun i h => asym i i h h
  have inj1 : ∀ a b, a < n → b < n → l.getD a 0 = l.getD b 0 → a = b := by
    intro a b ha hb e
    rcases Nat.lt_trichotomy a b with c | c | c
    · have := h1.ord a b c hb; rw [e] at this; exact absurd this (irr _)
    · exact c
    · have := h1.ord b a c ha; rw [e] at this; exact absurd this (irr _)
  have inj2 : ∀ a b, a < n → b < n → m.getD a 0 = m.getD b 0 → a = b := by
    intro a b ha hb e
    rcases Nat.lt_trichotomy a b with c | c | c
    · have := h2.ord a b c hb; rw [e] at this; exact absurd this (irr _)
    · exact c
    · have := h2.ord b a c ha; rw [e] at this; exact absurd this (irr _)
  have key : ∀ a, a < n → l.getD a 0 = m.getD a 0 := by
    intro a
    induction a using Nat.strongRecOn with
    | _ a ih =>
      intro ha
      apply Classical.byContradiction
      intro hne
      obtain ⟨b, hb, eb⟩ := h2.all (l.getD a 0) (h1.lt_n a ha)
      obtain ⟨c, hc, ec⟩ := h1.all (m.getD a 0) (h2.lt_n a ha)
      have hab : a < b := by
        rcases Nat.lt_trichotomy a b with x | x | x
        · exact x
        · subst x; exact absurd eb.symm hne
        · have := ih b x hb
          rw [eb] at this
          have := inj1 b a hb ha this
          omega
      have hac : a < c := by
        rcases Nat.lt_trichotomy a c with x | x | x
        · exact x
        · subst x; exact absurd ec hne
        · have := ih c x hc
          rw [ec] at this
          have := inj2 a c ha hc this
          omega
      have o1 := h2.ord a b hab hb
      have o2 := h1.ord a c hac hc
      rw [eb] at o1
      rw [ec] at o2
      exact asym _ _ o1 o2
  apply List.ext_getElem
  · rw [h1.len, h2.len]
  · intro a ha hb
    have := key a (by rw [← h1.len]; exact ha)
    rw [List.getD_eq_getElem?_getD, List.getD_eq_getElem?_getD, List.getElem?_eq_getElem ha, List.getElem?_eq_getElem hb] at this
    exact this
/-- a pass: by digits first, then as it stood -/
theorem InOrder.pass {lt : Nat → Nat → Prop} {n : Nat} {l out : List Nat} (h : InOrder lt n l) (dg : Nat → Nat) (hp : Placed (l.map dg) l out) : InOrder (fun i j => dg i < dg j ∨ (dg i = dg j ∧ lt i j)) n out := by
  obtain ⟨hl, hp⟩ := hp
  have hln := h.len
  obtain ⟨dl, hdl⟩ : ∃ dl, l.map dg = dl := ⟨_, rfl⟩
  have hdn : dl.length = n := by rw [← hdl, List.length_map, hln]
  have hget : ∀ j, j < n → dl.getD j 0 = dg (l.getD j 0) := by
    intro j hj
    rw [← hdl, List.getD_eq_getElem?_getD, List.getD_eq_getElem?_getD, List.getElem?_map, List.getElem?_eq_getElem (by omega)]
    rfl
  rw [hdl] at hp
  rw [hln] at hl hp
  have hlt : ∀ j, j < n → rankP dl j < n := fun j hj => by have := rank_lt dl (j := j) (by omega); omega
  have hsur := inj_surj n (rankP dl) hlt (fun i j hi hj e => rank_inj dl (by omega) (by omega) e)
  refine ⟨hl, ?_, ?_, ?_⟩
  · intro a ha
    obtain ⟨j, hj, rfl⟩ := hsur a ha
    rw [hp j hj]; exact h.lt_n j hj
  · intro i hi
    obtain ⟨j, hj, e⟩ := h.all i hi
    exact ⟨rankP dl j, hlt j hj, by rw [hp j hj, e]⟩
  · intro a b hab hb
    obtain ⟨i, hi, rfl⟩ := hsur a (by omega)
    obtain ⟨j, hj, rfl⟩ := hsur b hb
    rw [hp i hi, hp j hj, ← hget i hi, ← hget j hj]
    rcases Nat.lt_trichotomy (dl.getD i 0) (dl.getD j 0) with c | c | c
    · exact .inl c
    · refine .inr ⟨c, ?_⟩
      rcases Nat.lt_trichotomy i j with x | x | x
      · exact h.ord i j x hj
      · subst x; omega
      · have := rank_less dl (i := j) (j := i) (by omega) (by omega) (.inr ⟨c.symm, x⟩); omega
    · have := rank_less dl (i := j) (j := i) (by omega) (by omega) (.inl c); omega
theorem InOrder.imp {lt lt' : Nat → Nat → Prop} {n : Nat} {l : List Nat} (h : InOrder lt n l) (hh : ∀ i j, i < n → j < n → lt i j → lt' i j) : InOrder lt' n l :=
  ⟨h.len, h.lt_n, h.all, fun a b hab hb => hh _ _ (h.lt_n a (by omega)) (h.lt_n b hb) (h.ord a b hab hb)⟩
theorem InOrder.range (n : Nat) : InOrder (fun i j => i < j) n (List.range n) := by
  have hg : ∀ j, j < n → (List.range n).getD j 0 = j := fun j hj => by rw [List.getD_eq_getElem?_getD, List.getElem?_range hj]; rfl
  exact ⟨List.length_range, fun j hj => by rw [hg j hj]; exact hj, fun i hi => ⟨i, hi, hg i hi⟩, fun a b hab hb => by rw [hg a (by omega), hg b hb]; exact hab⟩
end Go.Proofs.YtmojpbfkpggjhaaGreatDoor

/-
  Plain facts on keys in order by their digits. No program is in sight, and no statement is proved here.
-/
namespace Go.Proofs.YtmojpbfkpggjhaaGreatDoor

/-- the digit of eleven bits -/
def digN (k s : Nat) : Nat := k >>> s &&& 2047
theorem digN_eq (k s : Nat) : digN k s = k / 2 ^ s % 2048 := by
  unfold digN
  rw [Nat.shiftRight_eq_div_pow]
  have := Nat.and_two_pow_sub_one_eq_mod (k / 2 ^ s) 11
  exact this
theorem digN_lt (k s : Nat) : digN k s < 2048 := by rw [digN_eq]; exact Nat.mod_lt _ (by omega)
theorem part_step (k s : Nat) : k % 2 ^ (s + 11) = k % 2 ^ s + 2 ^ s * digN k s := by
  rw [digN_eq, Nat.pow_add, show (2 : Nat) ^ 11 = 2048 by decide, Nat.mod_mul]
theorem part_lt (a b s : Nat) : (a % 2 ^ (s + 11) < b % 2 ^ (s + 11)) ↔ (digN a s < digN b s ∨ (digN a s = digN b s ∧ a % 2 ^ s < b % 2 ^ s)) := by
  rw [part_step, part_step]
  have hp : 0 < 2 ^ s := Nat.pow_pos (by omega)
  have ha := Nat.mod_lt a hp
  have hb := Nat.mod_lt b hp
  generalize 2 ^ s = M at *
  generalize digN a s = p at *
  generalize digN b s = q at *
  rcases Nat.lt_trichotomy p q with c | c | c
  · have := Nat.mul_le_mul_left M (show p + 1 ≤ q by omega)
    rw [Nat.mul_add, Nat.mul_one] at this
    constructor
    · intro _; exact .inl c
    · intro _; omega
  · subst c
    constructor
    · intro h; exact .inr ⟨rfl, by omega⟩
    · intro h; omega
  · have := Nat.mul_le_mul_left M (show q + 1 ≤ p by omega)
    rw [Nat.mul_add, Nat.mul_one] at this
    constructor
    · intro h; omega
    · intro h; omega
theorem part_eq (a b s : Nat) : (a % 2 ^ (s + 11) = b % 2 ^ (s + 11)) ↔ (digN a s = digN b s ∧ a % 2 ^ s = b % 2 ^ s) := by
  have h1 := part_lt a b s
  have h2 := part_lt b a s
  constructor
  · intro e
    have n1 : ¬ _ := fun x => absurd (h1.2 x) (by omega)
    have n2 : ¬ _ := fun x => absurd (h2.2 x) (by omega)
    omega
  · intro ⟨e1, e2⟩
    rw [part_step, part_step, e1, e2]
/-- the order of places by the lowest bits of their keys -/
def ltP (f : Nat → Nat) (down : Bool) (i j : Nat) : Prop := (if down = true then f j < f i else f i < f j) ∨ (f i = f j ∧ i < j)
def partK (keys : List Nat) (s : Nat) (i : Nat) : Nat := keys.getD i 0 % 2 ^ s
def dgK (keys : List Nat) (s : Nat) (down : Bool) (i : Nat) : Nat := if down = true then 2047 - digN (keys.getD i 0) s else digN (keys.getD i 0) s
theorem ltP_step (keys : List Nat) (s : Nat) (down : Bool) (i j : Nat) (h : dgK keys s down i < dgK keys s down j ∨ (dgK keys s down i = dgK keys s down j ∧ ltP (partK keys s) down i j)) : ltP (partK keys (s + 11)) down i j := by
  have h1 := part_lt (keys.getD i 0) (keys.getD j 0) s
  have h2 := part_lt (keys.getD j 0) (keys.getD i 0) s
  have h3 := part_eq (keys.getD i 0) (keys.getD j 0) s
  have d1 := digN_lt (keys.getD i 0) s
  have d2 := digN_lt (keys.getD j 0) s
  unfold ltP dgK partK at *
  cases down
  · simp only [Bool.false_eq_true, if_false] at *; omega
  · simp only [if_true] at *; omega
theorem ltP_skip (keys : List Nat) (s : Nat) (down : Bool) (i j : Nat) (he : digN (keys.getD i 0) s = digN (keys.getD j 0) s) (h : ltP (partK keys s) down i j) : ltP (partK keys (s + 11)) down i j := by
  refine ltP_step keys s down i j (.inr ⟨?_, h⟩)
  unfold dgK; rw [he]
/-- the order of places by their keys -/
def ltKey (keys : List Nat) (down : Bool) : Nat → Nat → Prop := ltP (fun i => keys.getD i 0) down
theorem ltP_start (keys : List Nat) (down : Bool) (i j : Nat) (h : i < j) : ltP (partK keys 0) down i j := by
  unfold ltP partK
  refine .inr ⟨?_, h⟩
  rw [Nat.pow_zero, Nat.mod_one, Nat.mod_one]
theorem ltP_end (keys : List Nat) (down : Bool) (hx : ∀ u ∈ keys, u < 18446744073709551616) (i j : Nat) (hi : i < keys.length) (hj : j < keys.length) (h : ltP (partK keys 66) down i j) : ltKey keys down i j := by
  have e : ∀ i, i < keys.length → partK keys 66 i = keys.getD i 0 := by
    intro i hi
    have hm := hx (keys.getD i 0) (by simp [List.getD_eq_getElem?_getD, hi])
    unfold partK
    refine Nat.mod_eq_of_lt (Nat.lt_trans hm ?_)
    rw [show (18446744073709551616 : Nat) = 2 ^ 64 by decide]
    exact Nat.pow_lt_pow_right (by omega) (by omega)
  unfold ltKey ltP at *
  rw [e i hi, e j hj] at h
  exact h
theorem xor_none (a b : Nat) (h : a ^^^ b = 0) : a = b := by
  have e : a ^^^ b ^^^ b = 0 ^^^ b := by rw [h]
  rwa [Nat.xor_assoc, Nat.xor_self, Nat.xor_zero, Nat.zero_xor] at e
theorem spread_digit (keys : List Nat) (s : Nat) (h : digN (spreadN keys) s = 0) : ∀ j, j < keys.length → digN (keys.getD j 0) s = digN (keys.getD 0 0) s := by
  have key : ∀ m, m ≤ keys.length → digN (spreadTo keys m) s = 0 → ∀ j, j < m → digN (keys.getD j 0) s = digN (keys.getD 0 0) s := by
    intro m
    induction m with
    | zero => intro _ _ j hj; exact absurd hj (Nat.not_lt_zero _)
    | succ m ih =>
      intro hm h0 j hj
      rw [spreadTo_succ keys m (by omega)] at h0
      unfold digN at h0
      rw [Nat.shiftRight_or_distrib, Nat.and_or_distrib_right] at h0
      obtain ⟨h1, h2⟩ := Nat.or_eq_zero_iff.1 h0
      by_cases e : j < m
      · exact ih (by omega) h1 j e
      · obtain rfl : j = m := by omega
        rw [Nat.shiftRight_xor_distrib, Nat.and_xor_distrib_right] at h2
        exact xor_none _ _ h2
  rw [← spreadTo_all] at h
  exact key keys.length (Nat.le_refl _) h
end Go.Proofs.YtmojpbfkpggjhaaGreatDoor

/-
  Contract of radix.Grade, of whole numbers and characters. No statement is proved here.
-/
namespace Go.Proofs.YtmojpbfkpggjhaaGreatDoor
open Go Go.RowKit
set_option linter.unusedVariables false
set_option linter.unusedSimpArgs false
set_option maxHeartbeats 4000000
attribute [local irreducible] CW RW QW SW HW ConM retM heldQ calmQ elemP thenQ blockQ loopQ joinQ retQ Yields Con Sl zF magR unitF truncF fwF wholeF tidySpec
set_option maxHeartbeats 4000000
set_option maxRecDepth 4000
attribute [local irreducible] rankF leastN

theorem Y.addW64 {P : Program} {n : Nat} {L : Env} {w : World} {ty : TypeId} {x y : Operand} {t yt : TypeId} {u v : Nat} (hx : opv L x = some (.int .u64 (u : Int))) (hy : opv L y = some (.int .u64 (v : Int))) (hh : u + v < 18446744073709551616) : Yields P n L w (.binOp .add t x y yt) ty (.int .u64 ((u + v : Nat) : Int)) := by
  have := Y.add' (P := P) (n := n) (w := w) (ty := ty) (t := t) (yt := yt) hx hy
  rwa [wrapU64, show (((u : Int) + (v : Int)) % 18446744073709551616).toNat = u + v by omega] at this
theorem dgN_dgK (keys : List Nat) (s : Nat) (down : Bool) : dgN keys s down = dgK keys s down := by
  funext i; rfl
section
variable {α : Type} {R : GHeap → List Value → α → Prop}
theorem radixGradeK_con (hR : Mono R) (cs : List Value) (v : VecD α) (down : Bool) (w : World) (h : GHeap) (hv : VecAt R h cs v) (hm : v.len ≤ 1048576) (hc : ∀ c ∈ v.chars, -2147483648 ≤ c ∧ c < 2147483648) (hk : v.kind = 2 ∨ v.kind = 3 ∨ v.kind = 5) :
    Con Tryz.prog 141 [.agg cs.toArray, .bool down] w h (fun h' u => ∃ s out, u = .tuple #[s, .bool true] ∧ IntsAt h' s (natsI out) ∧ InOrder (ltKey (keysV v) down) (keysV v).length out) := by
  have hv' := hv
  have hkx : ∀ u ∈ keysV v, u < 18446744073709551616 := by
    intro u hu
    unfold keysV at hu
    split at hu
    · obtain ⟨x, _, rfl⟩ := List.mem_map.1 hu
      have := wholeF_bounds x
      exact keyI_lt _ (by omega)
    · split at hu
      · obtain ⟨x, hx, rfl⟩ := List.mem_map.1 hu
        exact keyC_lt _ (hc x hx)
      · cases hu
  have hkl : (keysV v).length ≤ 1048576 := by
    have hsh := hv.shorts
    unfold keysV
    split
    · rw [List.length_map]; omega
    · split
      · rw [List.length_map]; omega
      · show 0 ≤ _; omega
  obtain ⟨wv, nv, sm, il, fl, ch, bx, ⟨rfl, hoc⟩, -⟩ := hv
  refine Con.of_body Tryz.func141 rfl Tryz.ntmps141 rfl rfl ?_
  intro hs
  refine Zrun ?_
  (refine RW.boxN hs rfl rfl ?_; intro b1 w1 hs)
  refine Zerun ?_
  (refine RW.call T hs rfl rfl rfl (vecPacked_con _ v _ _ hv') ?_; intro v h2 w2 hle2 hp2 hs)
  obtain ⟨wb, bs, rfl, hb2, _, _⟩ := hp2
  have hwo : wb.oneCell' = true := by obtain ⟨_, ws, ⟨_, _, rfl, _⟩, _⟩ := hb2; rfl
  have hv' := hv'.mono hR hle2
  rw [decide_eq_false (show ¬ v.kind = 1 by omega)]
  refine Zerun ?_
  (refine RW.allocN T hs rfl rfl rfl rfl ?_; intro b3 w3 hs)
  refine RW.storeAll T hs 0 rfl rfl rfl rfl rfl rfl (by show (wb.oneCell' && (true && true)) = true; rw [hwo]; rfl) rfl ?_
  intro w4 hs
  refine Zerun ?_
  (refine RW.call T hs rfl rfl rfl (radixKeys_con hR _ v _ _ hv' hm hc) ?_; intro v h5 w5 hle5 hp5 hs)
  obtain ⟨s5, rfl, hU5⟩ := hp5
  rw [decide_eq_true (show v.kind = 1 ∨ v.kind = 2 ∨ v.kind = 3 ∨ v.kind = 5 by omega)]
  obtain ⟨keys, hkeys⟩ : ∃ keys, keysV v = keys := ⟨_, rfl⟩
  rw [hkeys] at hU5 hkx hkl ⊢
  have hU5' := hU5
  obtain ⟨ad, cp, rfl, hS5⟩ := hU5
  refine Zerun ?_
  (refine RW.make1 T hs rfl rfl rfl rfl rfl rfl rfl (by dsimp only; omega) (by omega) ?_; intro b6 w6 hs)
  refine Zerun ?_
  have hs := hs.re (ys := (natsI (List.range 0) ++ List.replicate keys.length 0).map (Value.int .i64)) (by rw [List.map_append, List.map_replicate]; rfl)
  refine CW.loop (fun k : Nat => [(1, .bool down), (8, .slice ad keys.length cp), (10, .slice (some ⟨b6, 0, none⟩) keys.length keys.length), (34, .int .i64 keys.length), (35, .int .i64 k)]) (fun k w' => k ≤ keys.length ∧ Sees w h h5 [⟨some ⟨b6, 0, none⟩, keys.length, keys.length, 3, 1, (natsI (List.range k) ++ List.replicate (keys.length - k) 0).map (Value.int .i64)⟩, ⟨some ⟨b3, 0, none⟩, 1, 1, 31, 2, [wb, .int .i64 bs.length]⟩, ⟨some ⟨b1, 0, none⟩, 1, 1, 38, 8, vecCells v.kind wv nv sm il fl ch bx⟩] w') (fun k => keys.length - k) 0 ⟨rfl, rfl, rfl, rfl, rfl, trivial⟩ ⟨by omega, hs⟩ ?_
  rintro k w7 ⟨hk7, hs⟩
  by_cases hlt : k < keys.length
  · refine Zerun ?_
    refine RW.val (Y.idxRN T hs 0 rfl rfl rfl rfl rfl rfl ?_) rfl ?_
    · omega
    refine RW.st1 T hs 0 rfl rfl rfl rfl rfl rfl rfl (by omega) ?_
    intro w8 hs
    refine Zerun ?_
    refine loopQ_round (k + 1) ⟨rfl, rfl, rfl, rfl, rfl, trivial⟩ ⟨by omega, ?_⟩ (by omega)
    have e := set_snoc (natsI (List.range k)) (keys.length - k) 0 (k : Int) (by omega)
    rw [natsI_len, List.length_range] at e
    have e2 : natsI (List.range k) ++ [(k : Int)] = natsI (List.range (k + 1)) := by rw [List.range_succ]; unfold natsI; rw [List.map_append]; rfl
    rw [e2, show keys.length - k - 1 = keys.length - (k + 1) by omega] at e
    exact hs.re (by rw [← e, List.map_set])
  obtain rfl : k = keys.length := by omega
  have hs := hs.re (ys := (natsI (List.range keys.length)).map (Value.int .i64)) (by rw [Nat.sub_self, List.replicate_zero, List.append_nil])
  obtain ⟨h8, hle8, hs, hI8⟩ := freezeI (l := natsI (List.range keys.length)) hs (by rw [natsI_len, List.length_range])
  have hU5' := hU5'.mono hle8
  refine Zerun ?_
  (refine RW.call T hs rfl rfl rfl (radixSpread_con _ keys _ _ hU5' hkx hkl) ?_; intro v h9 w9 hle9 hp9 hs)
  subst hp9
  have hU5' := hU5'.mono hle9
  have hI8 := hI8.mono hle9
  have hrl : (natsI (List.range keys.length)).length = keys.length := by rw [natsI_len, List.length_range]
  refine Zerun ?_
  have hstart : InOrder (ltP (partK keys 0) down) keys.length (List.range keys.length) := (InOrder.range keys.length).imp (fun i j _ _ hij => ltP_start keys down i j hij)
  have hsp : spreadN keys < 18446744073709551616 := by rw [← spreadTo_all]; exact spreadTo_lt keys hkx _ (Nat.le_refl _)
  refine CW.loop (fun u : Nat × Option Addr × Nat × List Nat × GHeap => [(1, .bool down), (8, .slice ad keys.length cp), (10, .slice u.2.1 keys.length u.2.2.1), (12, .int .u64 (spreadN keys)), (13, .int .u64 ((11 * u.1 : Nat) : Int))]) (fun u w' => u.1 ≤ 6 ∧ GLe h9 u.2.2.2.2 ∧ IntsAt u.2.2.2.2 (.slice u.2.1 keys.length u.2.2.1) (natsI u.2.2.2.1) ∧ InOrder (ltP (partK keys (11 * u.1)) down) keys.length u.2.2.2.1 ∧ Sees w h u.2.2.2.2 [⟨some ⟨b3, 0, none⟩, 1, 1, 31, 2, [wb, .int .i64 bs.length]⟩, ⟨some ⟨b1, 0, none⟩, 1, 1, 38, 8, vecCells v.kind wv nv sm il fl ch bx⟩] w') (fun u => 6 - u.1) (0, some ⟨b6, 0, none⟩, keys.length, List.range keys.length, h9) ⟨rfl, rfl, rfl, rfl, rfl, trivial⟩ ⟨by omega, GLe.refl _, hI8, hstart, hs⟩ ?_
  rintro ⟨c, ra, rc, at_, hh⟩ w10 ⟨hc6, hgl, hI, hord, hs⟩
  dsimp only at hc6 hgl hI hord hs ⊢
  by_cases hlt : c < 6
  · have hU := hU5'.mono hgl
    obtain ⟨sd, hsd⟩ : ∃ sd, spreadN keys >>> (11 * c) &&& 2047 = sd := ⟨_, rfl⟩
    have hsdl : sd < 2048 := by have := digN_lt (spreadN keys) (11 * c); unfold digN at this; omega
    have hshl : spreadN keys >>> (11 * c) < 18446744073709551616 := Nat.lt_of_le_of_lt (Nat.shiftRight_le _ _) hsp
    refine Zerun ?_
    refine RW.val (Y.shrU (v := 11 * c) rfl rfl (by omega)) rfl ?_
    refine RW.val (Y.andU rfl rfl hshl (by decide)) rfl ?_
    rw [hsd]
    refine Zerun ?_
    refine CW.meetB (fun u : Option Addr × Nat × List Nat × GHeap => [(1, .bool down), (8, .slice ad keys.length cp), (10, .slice u.1 keys.length u.2.1), (12, .int .u64 (spreadN keys)), (13, .int .u64 ((11 * c : Nat) : Int))]) (fun u w' => GLe hh u.2.2.2 ∧ IntsAt u.2.2.2 (.slice u.1 keys.length u.2.1) (natsI u.2.2.1) ∧ InOrder (ltP (partK keys (11 * c + 11)) down) keys.length u.2.2.1 ∧ Sees w h u.2.2.2 [⟨some ⟨b3, 0, none⟩, 1, 1, 31, 2, [wb, .int .i64 bs.length]⟩, ⟨some ⟨b1, 0, none⟩, 1, 1, 38, 8, vecCells v.kind wv nv sm il fl ch bx⟩] w') ?_ ?_
    · by_cases e0 : sd = 0
      · have hsk := spread_digit keys (11 * c) (by unfold digN; rw [hsd, e0])
        refine Zerun ?_
        exact joinQ_meet (ra, rc, at_, hh) ⟨rfl, rfl, rfl, rfl, rfl, trivial⟩ ⟨GLe.refl _, hI, hord.imp (fun i j hi hj hij => ltP_skip keys (11 * c) down i j (by rw [hsk i hi, hsk j hj]) hij), hs⟩
      · have hat : ∀ i ∈ at_, i < keys.length := by
          intro i hi
          obtain ⟨j, hj, e⟩ := List.getElem_of_mem hi
          have := hord.lt_n j (by rw [← hord.len]; exact hj)
          rw [List.getD_eq_getElem?_getD, List.getElem?_eq_getElem hj] at this
          rw [← e]; exact this
        refine Zerun ?_
        (refine RW.call T hs rfl rfl rfl (pass_con _ _ keys at_ (11 * c) down _ _ hU hI hkx (by omega) hkl (by rw [hord.len]; exact hkl) hat) ?_; intro v h11 w11 hle11 hp11 hs)
        obtain ⟨out, hI11, hpl⟩ := hp11
        have hlen : (natsI out).length = keys.length := by rw [natsI_len, hpl.1, hord.len]
        obtain ⟨ad11, cp11, rfl, hS11⟩ := hI11
        rw [dgN_dgK] at hpl
        have hord2 := (hord.pass _ hpl).imp (fun i j _ _ hij => ltP_step keys (11 * c) down i j hij)
        rw [hlen] at hS11 ⊢
        refine Zerun ?_
        exact joinQ_meet (ad11, cp11, out, h11) ⟨rfl, rfl, rfl, rfl, rfl, trivial⟩ ⟨hle11, ⟨ad11, cp11, by rw [hlen], by rw [hlen]; exact hS11⟩, hord2, hs⟩
    · rintro ⟨ra2, rc2, at2, h12⟩ w12 ⟨hl12, hI2, hord2, hs⟩
      dsimp only at hl12 hI2 hord2 hs ⊢
      refine Zerun ?_
      refine RW.val (Y.addW64 (u := 11 * c) (v := 11) rfl rfl (by omega)) rfl ?_
      refine Zerun ?_
      exact loopQ_round (c + 1, ra2, rc2, at2, h12) ⟨rfl, rfl, rfl, rfl, seti (by dsimp only; omega), trivial⟩ ⟨by dsimp only; omega, hgl.trans hl12, hI2, by dsimp only; rw [show 11 * (c + 1) = 11 * c + 11 by omega]; exact hord2, hs⟩ (by dsimp only; omega)
  · obtain rfl : c = 6 := by omega
    refine Zerun ?_
    exact retQ_ret [_, _] hh ⟨rfl, rfl, trivial⟩ hs.dropAll ⟨_, at_, rfl, hI, hord.imp (fun i j hi hj hij => ltP_end keys down hkx i j hi hj hij)⟩
end
end Go.Proofs.YtmojpbfkpggjhaaGreatDoor

/-
  Contract of the example of layer 17. No statement is proved here.
-/
namespace Go.Proofs.YtmojpbfkpggjhaaGreatDoor
open Go Go.RowKit
set_option linter.unusedVariables false
set_option linter.unusedSimpArgs false
set_option maxHeartbeats 4000000
attribute [local irreducible] CW RW QW SW HW ConM retM heldQ calmQ elemP thenQ blockQ loopQ joinQ retQ Yields Con Sl zF magR unitF truncF fwF wholeF tidySpec
set_option maxHeartbeats 4000000

end Go.Proofs.YtmojpbfkpggjhaaGreatDoor

/-
  Contract of the document's answer of layer 17: the bits in which keys differ. No statement is proved here.
-/
namespace Go.Proofs.YtmojpbfkpggjhaaGreatDoor
open Go Go.RowKit
set_option linter.unusedVariables false
set_option linter.unusedSimpArgs false
set_option maxHeartbeats 4000000
attribute [local irreducible] CW RW QW SW HW ConM retM heldQ calmQ elemP thenQ blockQ loopQ joinQ retQ Yields Con Sl zF magR unitF truncF fwF wholeF tidySpec
set_option maxHeartbeats 4000000

section
variable {P : Program} (T : Tab P) {n : Nat} {L : Env} {w : World} {ty : TypeId} {x y : Operand} {t yt : TypeId} {u v : Nat}
end
end Go.Proofs.YtmojpbfkpggjhaaGreatDoor

/-
  Contracts: packed truths turned, the places that are true as an own row, and truths graded by radix.Bits. No statement is proved here.
-/
namespace Go.Proofs.YtmojpbfkpggjhaaGreatDoor
open Go Go.RowKit
set_option linter.unusedVariables false
set_option linter.unusedSimpArgs false
set_option maxHeartbeats 4000000
attribute [local irreducible] CW RW QW SW HW ConM retM heldQ calmQ elemP thenQ blockQ loopQ joinQ retQ Yields Con Sl zF magR unitF truncF fwF wholeF tidySpec elemQ rankF leastN tidyW
set_option maxHeartbeats 4000000

theorem Y.notU {P : Program} {n : Nat} {L : Env} {w : World} {ty : TypeId} {x : Operand} {t : TypeId} {u : Nat} (hx : opv L x = some (.int .u64 (u : Int))) (hu : u < 18446744073709551616) : Yields P n L w (.unOp .xor t x) ty (.int .u64 ((18446744073709551615 - u : Nat) : Int)) := by
  have := Y.xorU' (P := P) (n := n) (w := w) (ty := ty) (t := t) hx
  have e2 : (BitVec.ofInt IntKind.u64.bits (if IntKind.u64.signed then -1 else IntKind.u64.max) ^^^ BitVec.ofInt IntKind.u64.bits (u : Int)).toNat = 18446744073709551615 - u := by
    have h3 : (BitVec.ofInt 64 (u : Int)).toNat = u := by
      rw [BitVec.toNat_ofInt]
      omega
    have h4 : (BitVec.allOnes 64 ^^^ BitVec.ofInt 64 (u : Int)).toNat = 18446744073709551615 - u := by
      rw [BitVec.allOnes_xor, BitVec.toNat_not, h3]
    exact h4
  rw [e2, wrapU _ (by omega)] at this
  exact this
/-! ## Plain facts -/
def notW (u : Int) : Int := ((18446744073709551615 - u.toNat : Nat) : Int)
theorem notW_bit (u : Int) (hu : 0 ≤ u ∧ u < 18446744073709551616) (j : Nat) (hj : j < 64) : (notW u).toNat.testBit j = !u.toNat.testBit j := by
  unfold notW
  rw [Int.toNat_natCast, show 18446744073709551615 - u.toNat = 2 ^ 64 - (u.toNat + 1) by omega, Nat.testBit_two_pow_sub_succ (by omega), decide_eq_true hj, Bool.true_and]
theorem notW_lt (u : Int) : 0 ≤ notW u ∧ notW u < 18446744073709551616 := by unfold notW; omega
theorem trim_not {ws : List Int} {bs : List Bool} (h : BitsOf ws bs) : BitsOf (trimW bs.length (ws.map notW)) (bs.map not) := by
  obtain ⟨h1, h2, h3⟩ := h
  have hl : (trimW bs.length (ws.map notW)).length = ws.length := by
    unfold trimW; split
    · rw [List.length_map]
    · rw [List.length_set, List.length_map]
  have hget : ∀ k, k < ws.length → (ws.map notW).getD k 0 = notW (ws.getD k 0) := by
    intro k hk
    rw [List.getD_eq_getElem?_getD, List.getD_eq_getElem?_getD, List.getElem?_map, List.getElem?_eq_getElem hk]; rfl
  have hmem : ∀ k, k < ws.length → 0 ≤ ws.getD k 0 ∧ ws.getD k 0 < 18446744073709551616 := fun k hk => h2 _ (mem_getD ws k 0 hk)
  refine ⟨by rw [hl, h1, List.length_map], ?_, ?_⟩
  · intro u hu
    have hnot : ∀ u ∈ ws.map notW, 0 ≤ u ∧ u < 18446744073709551616 := by
      intro u hu
      obtain ⟨x, _, rfl⟩ := List.mem_map.1 hu
      exact notW_lt x
    unfold trimW at hu
    split at hu
    · exact hnot u hu
    · rcases List.mem_or_eq_of_mem_set hu with h | h
      · exact hnot u h
      · rw [h]
        by_cases c : (ws.map notW).length - 1 < (ws.map notW).length
        · have := hnot _ (mem_getD (ws.map notW) _ 0 c)
          have h4 := @Nat.and_le_left ((ws.map notW).getD ((ws.map notW).length - 1) 0).toNat (2 ^ (bs.length % 64) - 1)
          omega
        · rw [List.getD_eq_getElem?_getD, List.getElem?_eq_none (by omega)]
          simp
  · intro i
    have hb : (bs.map not).getD i false = (decide (i < bs.length) && !bs.getD i false) := by
      rw [List.getD_eq_getElem?_getD, List.getD_eq_getElem?_getD, List.getElem?_map]
      by_cases c : i < bs.length
      · rw [List.getElem?_eq_getElem c, decide_eq_true c]; rfl
      · rw [List.getElem?_eq_none (by omega), decide_eq_false c]; rfl
    have hj : i % 64 < 64 := Nat.mod_lt _ (by omega)
    rw [hb, ← h3 i]
    by_cases hk : i / 64 < ws.length
    · have hn := notW_bit _ (hmem _ hk) (i % 64) hj
      unfold trimW
      by_cases r0 : bs.length % 64 = 0
      · rw [if_pos r0, hget _ hk, hn, decide_eq_true (by omega), Bool.true_and]
      · rw [if_neg r0, List.length_map, hget _ (by omega)]
        by_cases hlast : i / 64 = ws.length - 1
        · rw [List.getD_eq_getElem?_getD, hlast, List.getElem?_set_self (by rw [List.length_map]; omega)]
          rw [← hlast]
          show (((_ : Nat) : Int)).toNat.testBit _ = _
          rw [Int.toNat_natCast, Nat.testBit_and, hn, Nat.testBit_two_pow_sub_one]
          by_cases c : i < bs.length
          · rw [decide_eq_true c, decide_eq_true (show i % 64 < bs.length % 64 by omega)]; simp
          · rw [decide_eq_false c, decide_eq_false (show ¬ i % 64 < bs.length % 64 by omega)]; simp
        · rw [List.getD_eq_getElem?_getD, List.getElem?_set_ne (fun e => hlast e.symm), ← List.getD_eq_getElem?_getD, hget _ hk, hn, decide_eq_true (by omega), Bool.true_and]
    · rw [decide_eq_false (by omega), Bool.false_and, List.getD_eq_getElem?_getD, List.getElem?_eq_none (by omega)]
      exact Nat.zero_testBit _
/-! ## Walks -/
theorem bitsNot_con (wv : Value) (bs : List Bool) (w : World) (h : GHeap) (hb : BitsAt h wv bs) : Con Tryz.prog 188 [.agg [wv, .int .i64 bs.length].toArray] w h (fun h' u => ∃ wv', u = .agg [wv', .int .i64 ((bs.map not).length : Nat)].toArray ∧ BitsAt h' wv' (bs.map not)) := by
  obtain ⟨hlen, ws, ⟨ad, cp, rfl, hS⟩, hB⟩ := hb
  have hB' := hB
  obtain ⟨hw, hr, _⟩ := hB
  have hwl : ws.length ≤ 16385 := by omega
  rw [List.length_map]
  refine Con.of_body Tryz.func188 rfl Tryz.ntmps188 rfl rfl ?_
  intro hs
  refine Zrun ?_
  (refine RW.boxN hs rfl rfl ?_; intro b1 w1 hs)
  refine Zrun ?_
  (refine RW.allocN T hs rfl rfl rfl rfl ?_; intro b2 w2 hs)
  refine Zerun ?_
  refine CW.meet (fun u : Nat × Nat => [(1, .pointer (some ⟨b1, 0, none⟩)), (2, .pointer (some ⟨b2, 0, none⟩)), (3, .pointer (some ⟨u.1, 0, none⟩))]) (fun u w' => Sees w h h [⟨some ⟨u.1, 0, none⟩, 1, 1, 31, 2, [.slice (some ⟨u.2, 0, none⟩) ws.length ws.length, .int .i64 bs.length]⟩, ⟨some ⟨u.2, 0, none⟩, ws.length, ws.length, 197, 1, List.replicate ws.length (.int .u64 0)⟩, ⟨some ⟨b2, 0, none⟩, 1, 1, 31, 2, [.slice none 0 0, .int .i64 0]⟩, ⟨some ⟨b1, 0, none⟩, 1, 1, 31, 2, [.slice ad ws.length cp, .int .i64 bs.length]⟩] w') ?_ ?_
  · refine CW.regionR T 1 1 hs rfl rfl ?_
    intro w3 hs
    refine HW.takeR (fuel := 8) 0 rfl (fun _ _ ka kb _ hs hka hkb => Y.fieldAddr T rfl rfl rfl rfl rfl) ⟨_, _, 1, 1, hs, rfl, rfl⟩ rfl (by kernel_rfl) (by kernel_rfl) (by kernel_rfl) ?_
    refine HW.takeR (fuel := 7) 1 rfl (fun _ _ ka kb _ hs hka hkb => Y.loadRow1 T hs ka hka rfl rfl rfl rfl) ⟨_, _, 1, 1, hs, rfl, rfl⟩ rfl (by kernel_rfl) (by kernel_rfl) (by kernel_rfl) ?_
    refine HW.takeR (fuel := 6) 2 rfl (fun _ _ ka kb _ hs hka hkb => Y.len T rfl rfl) ⟨_, _, 1, 1, hs, rfl, rfl⟩ rfl (by kernel_rfl) (by kernel_rfl) (by kernel_rfl) ?_
    refine HW.takeR (fuel := 5) 4 rfl (fun _ _ ka kb _ hs hka hkb => Y.fieldAddr T rfl rfl rfl rfl rfl) ⟨_, _, 1, 1, hs, rfl, rfl⟩ rfl (by kernel_rfl) (by kernel_rfl) (by kernel_rfl) ?_
    refine HW.takeR (fuel := 4) 5 rfl (fun _ _ ka kb _ hs hka hkb => Y.loadRow1 T hs ka hka rfl rfl rfl rfl) ⟨_, _, 1, 1, hs, rfl, rfl⟩ rfl (by kernel_rfl) (by kernel_rfl) (by kernel_rfl) ?_
    refine HW.two (fuel := 3) 3 7 rfl rfl (by kernel_rfl) ?_ ?_
    · (refine RW.make1 T hs rfl rfl rfl rfl rfl rfl rfl (by dsimp only; omega) (by omega) ?_; intro b3 w3 hs)
      refine RW.nil ?_
      refine heldQ_normal ⟨_, _, 2, 2, hs, rfl, rfl⟩ ?_
      refine HW.takeR (fuel := 2) 6 rfl (fun _ _ ka kb _ hs hka hkb => Y.build T rfl rfl rfl rfl rfl rfl rfl) ⟨_, _, 2, 2, hs, rfl, rfl⟩ rfl (by kernel_rfl) (by kernel_rfl) (by kernel_rfl) ?_
      refine HW.one (fuel := 1) 7 rfl (by kernel_rfl) ?_
      (refine RW.allocN T hs rfl rfl rfl rfl ?_; intro b4 w4 hs)
      refine RW.nil ?_
      refine heldQ_normal ⟨_, _, 3, 3, hs, rfl, rfl⟩ ?_
      refine HW.one (fuel := 0) 8 rfl (by kernel_rfl) ?_
      (refine RW.storeAll T hs 0 rfl rfl rfl rfl rfl rfl rfl rfl ?_; intro w5 hs)
      refine RW.nil ?_
      refine heldQ_normal ⟨_, _, 3, 3, hs, rfl, rfl⟩ ?_
      refine HW.done (by kernel_rfl) ?_
      refine calmQ_normal ?_
      exact joinQ_meet (b4, b3) ⟨rfl, rfl, rfl, trivial⟩ hs
    · (refine RW.allocN T hs rfl rfl rfl rfl ?_; intro b4 w4 hs)
      refine RW.nil ?_
      refine heldQ_normal ⟨_, _, 2, 2, hs, rfl, rfl⟩ ?_
      refine HW.one (fuel := 2) 3 rfl (by kernel_rfl) ?_
      (refine RW.make1 T hs rfl rfl rfl rfl rfl rfl rfl (by dsimp only; omega) (by omega) ?_; intro b3 w3 hs)
      refine RW.nil ?_
      refine heldQ_normal ⟨_, _, 3, 3, hs, rfl, rfl⟩ ?_
      refine HW.takeR (fuel := 1) 6 rfl (fun _ _ ka kb _ hs hka hkb => Y.build T rfl rfl rfl rfl rfl rfl rfl) ⟨_, _, 3, 3, hs, rfl, rfl⟩ rfl (by kernel_rfl) (by kernel_rfl) (by kernel_rfl) ?_
      refine HW.one (fuel := 0) 8 rfl (by kernel_rfl) ?_
      (refine RW.storeAll T hs 1 rfl rfl rfl rfl rfl rfl rfl rfl ?_; intro w5 hs)
      refine RW.nil ?_
      refine heldQ_normal ⟨_, _, 3, 3, hs, rfl, rfl⟩ ?_
      refine HW.done (by kernel_rfl) ?_
      refine calmQ_normal ?_
      exact joinQ_meet (b4, b3) ⟨rfl, rfl, rfl, trivial⟩ hs.swap
  rintro ⟨b4, b3⟩ w6 hs
  dsimp only at hs ⊢
  have hs := hs.swap.re (ys := ((ws.take 0).map notW).map (Value.int .u64) ++ List.replicate (ws.length - 0) (.int .u64 0)) (by simp)
  replace hs := hs.swap
  refine Zerun ?_
  refine CW.loop (fun i : Nat => [(1, .pointer (some ⟨b1, 0, none⟩)), (2, .pointer (some ⟨b2, 0, none⟩)), (3, .pointer (some ⟨b4, 0, none⟩)), (14, .slice ad ws.length cp), (15, .int .i64 (ws.length : Int)), (16, .int .i64 i)]) (fun i w' => i ≤ ws.length ∧ Sees w h h [⟨some ⟨b4, 0, none⟩, 1, 1, 31, 2, [.slice (some ⟨b3, 0, none⟩) ws.length ws.length, .int .i64 bs.length]⟩, ⟨some ⟨b3, 0, none⟩, ws.length, ws.length, 197, 1, ((ws.take i).map notW).map (Value.int .u64) ++ List.replicate (ws.length - i) (.int .u64 0)⟩, ⟨some ⟨b2, 0, none⟩, 1, 1, 31, 2, [.slice none 0 0, .int .i64 0]⟩, ⟨some ⟨b1, 0, none⟩, 1, 1, 31, 2, [.slice ad ws.length cp, .int .i64 bs.length]⟩] w') (fun i => ws.length - i) 0 ⟨rfl, rfl, rfl, rfl, rfl, rfl, trivial⟩ ⟨by omega, hs⟩ ?_
  rintro i w7 ⟨hi, hs⟩
  by_cases hlt : i < ws.length
  · have hri := hr _ (mem_getD ws i 0 hlt)
    obtain ⟨u, hu⟩ := Int.eq_ofNat_of_zero_le hri.1
    have hu2 : u < 18446744073709551616 := by omega
    have hA : (((ws.take i).map notW).map (Value.int .u64)).length = i := by rw [List.length_map, List.length_map, List.length_take]; omega
    have hnx : ((ws.take (i + 1)).map notW).map (Value.int .u64) = ((ws.take i).map notW).map (Value.int .u64) ++ [.int .u64 ((18446744073709551615 - u : Nat) : Int)] := by
      rw [take_succ_getD ws i 0 hlt, List.map_append, List.map_append, hu]
      rfl
    refine Zerun ?_
    rw [hu]
    refine RW.val (Y.notU rfl hu2) rfl ?_
    refine RW.val (Y.idxRN T hs 1 rfl rfl rfl rfl rfl rfl hlt) rfl ?_
    refine RW.st1 T hs 1 rfl rfl rfl rfl rfl rfl rfl hlt ?_
    intro w8 hs
    dsimp only [List.set] at hs
    rw [fillA' hA hlt, ← hnx] at hs
    refine Zerun ?_
    exact loopQ_round (i + 1) ⟨rfl, rfl, rfl, rfl, rfl, rfl, trivial⟩ ⟨by omega, hs⟩ (by omega)
  · obtain rfl : i = ws.length := by omega
    rw [List.take_length, Nat.sub_self, List.replicate_zero, List.append_nil] at hs
    refine Zerun ?_
    obtain ⟨wz, hwz⟩ : ∃ z, ws.map notW = z := ⟨_, rfl⟩
    have hzl : wz.length = ws.length := by rw [← hwz, List.length_map]
    have htr := trim_not hB'
    rw [hwz] at hs htr
    rw [← hzl] at hs ⊢
    (refine RW.callM T hs rfl rfl rfl (bitsTrim_conM bs.length b3 wz _ _ _ _ _ _ (by omega) (fun u hu => by rw [← hwz] at hu; obtain ⟨x, _, rfl⟩ := List.mem_map.1 hu; exact notW_lt x) hlen) ?_; intro v h9 O9 w9 hle9 hp9 hs)
    obtain ⟨rfl, rfl⟩ := hp9
    refine Zerun ?_
    (refine RW.storeAll T hs 2 rfl rfl rfl rfl rfl rfl rfl rfl ?_; intro w10 hs)
    dsimp only [List.set] at hs
    refine Zerun ?_
    have hl : (trimW bs.length wz).length = wz.length := by have := htr.1; rw [List.length_map] at this; omega
    obtain ⟨h9, hle9, hs9, hS9⟩ := hs.drop.freeze
    refine retQ_ret [_] h9 ⟨resN T hs 2 rfl rfl rfl rfl rfl rfl, trivial⟩ hs9.dropAll ⟨_, rfl, by rw [List.length_map]; exact hlen, trimW bs.length wz, ?_, htr⟩
    dsimp only at hS9
    exact RowAt.of_sl hS9
theorem bitsOnes_conM (wv : Value) (bs : List Bool) (w0 w : World) (h0 h : GHeap) (O : List Row) (hT : TzTab h) (hb : BitsAt h wv bs) : ConM Tryz.prog 111 [.agg [wv, .int .i64 bs.length].toArray] w0 h0 h O w (fun _ O' u => ∃ ad cp, u = .slice ad (onesL bs).length cp ∧ O' = ⟨ad, (onesL bs).length, cp, 3, 1, (onesL bs).map (Value.int .i64)⟩ :: O) := by
  have hb' := hb
  obtain ⟨hlen, ws, ⟨ad, cp, rfl, hS⟩, hw, hr, hbit⟩ := hb
  have hwl : ws.length ≤ 16385 := by omega
  have hword : ∀ i j : Nat, j < 64 → (ws.getD i 0).toNat.testBit j = bs.getD (64 * i + j) false := by
    intro i j hj
    rw [← hbit (64 * i + j), show (64 * i + j) / 64 = i by omega, show (64 * i + j) % 64 = j by omega]
  refine ConM.of_body Tryz.func111 rfl Tryz.ntmps111 rfl rfl ?_
  intro hs
  refine Zrun ?_
  (refine RW.boxN hs rfl rfl ?_; intro b1 w1 hs)
  refine Zerun ?_
  (refine RW.call T hs rfl rfl rfl (bitsCount_con _ bs _ _ hb') ?_; intro v h2 w2 hle2 hp2 hs)
  obtain ⟨n, hn, rfl⟩ := hp2
  have hT := hT.mono hle2
  have hS2 := hS.mono hle2
  refine RW.make T hs rfl rfl rfl rfl rfl (by omega) (by omega) (by dsimp only; omega) (by omega) ?_
  intro b3 w3 hs
  have hs := hs.re (ys := []) (made_one (.int .i64 0) 0)
  rw [Int.toNat_natCast]
  refine Zerun ?_
  refine CW.loop (fun r : Nat × Nat × Option Addr × Nat × GHeap => [(1, .pointer (some ⟨b1, 0, none⟩)), (3, .slice r.2.2.1 r.2.1 r.2.2.2.1), (10, .slice ad ws.length cp), (11, .int .i64 (ws.length : Int)), (12, .int .i64 r.1)]) (fun r w' => r.1 ≤ ws.length ∧ (onesTo bs (64 * r.1)).length = r.2.1 ∧ GLe h2 r.2.2.2.2 ∧ Sees w0 h0 r.2.2.2.2 (⟨r.2.2.1, r.2.1, r.2.2.2.1, 3, 1, (onesTo bs (64 * r.1)).map (Value.int .i64)⟩ :: ⟨some ⟨b1, 0, none⟩, 1, 1, 31, 2, [.slice ad ws.length cp, .int .i64 bs.length]⟩ :: O) w') (fun r => ws.length - r.1) (0, 0, some ⟨b3, 0, none⟩, n, h2) ⟨rfl, rfl, rfl, rfl, rfl, trivial⟩ ⟨by omega, rfl, GLe.refl _, hs⟩ ?_
  rintro ⟨i, m, ra, rc, hh⟩ w4 ⟨hi, hm, hg, hs⟩
  dsimp only at hi hm hg hs ⊢
  have hS4 := hS2.mono hg
  by_cases hlt : i < ws.length
  · have hwi := hr _ (mem_getD ws i 0 hlt)
    refine Zerun ?_
    refine CW.loop (fun r : Nat × Nat × Nat × Option Addr × Nat × GHeap => [(1, .pointer (some ⟨b1, 0, none⟩)), (3, .slice r.2.2.2.1 r.2.2.1 r.2.2.2.2.1), (4, .int .i64 (i : Int)), (5, .int .u64 (r.1 : Int)), (10, .slice ad ws.length cp), (11, .int .i64 (ws.length : Int)), (12, .int .i64 (i : Int))]) (fun r w' => r.1 < 18446744073709551616 ∧ r.2.1 ≤ 64 ∧ (∀ j, j < 64 → r.1.testBit j = (decide (r.2.1 ≤ j) && bs.getD (64 * i + j) false)) ∧ (onesTo bs (64 * i + r.2.1)).length = r.2.2.1 ∧ GLe h2 r.2.2.2.2.2 ∧ Sees w0 h0 r.2.2.2.2.2 (⟨r.2.2.2.1, r.2.2.1, r.2.2.2.2.1, 3, 1, (onesTo bs (64 * i + r.2.1)).map (Value.int .i64)⟩ :: ⟨some ⟨b1, 0, none⟩, 1, 1, 31, 2, [.slice ad ws.length cp, .int .i64 bs.length]⟩ :: O) w') (fun r => 64 - r.2.1) ((ws.getD i 0).toNat, 0, m, ra, rc, hh) ⟨rfl, rfl, rfl, by dsimp only; rw [Int.toNat_of_nonneg hwi.1]; rfl, rfl, rfl, rfl, trivial⟩ ⟨by dsimp only; omega, by dsimp only; omega, fun j hj => by rw [hword i j hj]; simp, hm, hg, hs⟩ ?_
    rintro ⟨x, t, m2, rb, rd, h5⟩ w5 ⟨hx, ht, hxb, hm2, hg5, hs⟩
    dsimp only at hx ht hxb hm2 hg5 hs ⊢
    by_cases c : x = 0
    · subst c
      have hz : ∀ j, 64 * i + t ≤ j → j < 64 * (i + 1) → bs.getD j false = false := by
        intro j h1 h2
        have := hxb (j - 64 * i) (by omega)
        rw [Nat.zero_testBit, decide_eq_true (by omega), Bool.true_and, show 64 * i + (j - 64 * i) = j by omega] at this
        exact this.symm
      have e : onesTo bs (64 * (i + 1)) = onesTo bs (64 * i + t) := onesTo_none (by omega) hz
      refine Zerun ?_
      exact loopQ_round (i + 1, m2, rb, rd, h5) ⟨rfl, rfl, rfl, rfl, rfl, trivial⟩ ⟨by dsimp only; omega, by dsimp only; rw [e]; exact hm2, hg5, by dsimp only; rw [e]; exact hs⟩ (by dsimp only; omega)
    obtain ⟨hk, hbel, hat, hnx⟩ := low_bit c hx
    have hT5 := hT.mono hg5
    have hm3 := onesTo_len bs (64 * i + t)
    have htz := tz_con x
    generalize Lib.ctz 64 x = k at hk hbel hat hnx htz
    have hkb := hxb k hk
    rw [hat] at hkb
    have htk : t ≤ k := by
      by_cases c2 : t ≤ k
      · exact c2
      · rw [decide_eq_false c2] at hkb; cases hkb
    have hkt : bs.getD (64 * i + k) false = true := by rw [decide_eq_true htk, Bool.true_and] at hkb; exact hkb.symm
    have hone : onesTo bs (64 * i + k + 1) = onesTo bs (64 * i + t) ++ [((64 * i + k : Nat) : Int)] := onesTo_next (by omega) (fun j h1 h2 => by
      have := hxb (j - 64 * i) (by omega)
      rw [hbel _ (by omega), decide_eq_true (by omega), Bool.true_and, show 64 * i + (j - 64 * i) = j by omega] at this
      exact this.symm) hkt
    refine Zerun ?_
    refine RW.val (Y.shl' rfl rfl (by decide)) rfl ?_
    refine RW.respell (t := 21) (v := .int .i64 ((64 * i : Nat) : Int)) rfl (by
      have : IntKind.i64.wrap ((i : Int) * 2 ^ min (6 : Int).toNat IntKind.i64.bits) = ((64 * i : Nat) : Int) := by
        rw [show (2 : Int) ^ min (6 : Int).toNat IntKind.i64.bits = 64 by decide, wrap64 ⟨by omega, by omega⟩]
        omega
      rw [this]) ?_
    refine Zerun ?_
    (refine RW.call T hs rfl rfl rfl (htz _ _ hx hT5) ?_; intro v h6 w6 hle6 hp6 hs)
    subst hp6
    refine Zerun ?_
    (refine RW.lit T hs (vs := [.int .i64 ((64 * i : Nat) + (k : Nat) : Int)]) (cs := [.int .i64 ((64 * i : Nat) + (k : Nat) : Int)]) rfl rfl rfl rfl (by simp [Value.cells]) rfl rfl rfl rfl rfl ?_; intro b7 w7 hs)
    (refine RW.append T hs 1 rfl rfl (m := 1) (news := [.int .i64 ((64 * i : Nat) + (k : Nat) : Int)]) rfl rfl rfl rfl rfl rfl (hs.src0 rfl (by simp [Value.oneCell'])) (by simp) (by dsimp only; omega) (by omega) ?_; intro ad8 cp8 w8 hs; replace hs := hs.drop)
    refine Zerun ?_
    refine RW.val (Y.sub' rfl rfl) rfl ?_
    refine RW.respell (t := 29) (v := .int .u64 ((x - 1 : Nat) : Int)) rfl (by
      rw [show (x : Int) - 1 = ((x - 1 : Nat) : Int) by omega, wrapU _ (by omega)]) ?_
    refine RW.val (Y.andU rfl rfl hx (by omega)) rfl ?_
    refine Zerun ?_
    have hlen1 : (onesTo bs (64 * i + (k + 1))).length = m2 + 1 := by rw [show 64 * i + (k + 1) = 64 * i + k + 1 by omega, hone, List.length_append, hm2]; rfl
    refine loopQ_round (x &&& (x - 1), k + 1, m2 + 1, ad8, cp8, h6) ⟨rfl, rfl, rfl, rfl, rfl, rfl, rfl, trivial⟩ ⟨by dsimp only; have := Nat.and_le_left (n := x) (m := x - 1); omega, by dsimp only; omega, fun j hj => ?_, hlen1, hg5.trans hle6, hs.re ?_⟩ (by dsimp only; omega)
    · dsimp only
      rw [hnx, hxb j hj]
      by_cases c2 : j = k
      · subst c2; rw [decide_eq_false (show ¬ j + 1 ≤ j by omega)]; simp
      · by_cases c3 : k + 1 ≤ j
        · rw [decide_eq_true (show t ≤ j by omega), decide_eq_true c3, decide_eq_true c2]; simp
        · rw [decide_eq_false c3]
          have := hxb j hj
          rw [hbel j (by omega)] at this
          rw [← this]; simp
    · rw [show 64 * i + (k + 1) = 64 * i + k + 1 by omega, hone, List.map_append, Int.natCast_add]
      rfl
  · obtain rfl : i = ws.length := by omega
    have e : onesTo bs (64 * ws.length) = onesL bs := onesTo_ge (by omega)
    rw [e] at hm hs
    refine Zerun ?_
    rw [← hm] at hs ⊢
    exact retM_ret [_] hh _ ⟨rfl, trivial⟩ (hle2.trans hg) hs.swap.drop ⟨ra, rc, rfl, rfl⟩
theorem onesTo_filter (bs : List Bool) : onesL bs = natsI ((List.range bs.length).filter fun i => bs.getD i false) := rfl
theorem onesL_not (bs : List Bool) : onesL (bs.map not) = natsI ((List.range bs.length).filter fun i => !bs.getD i false) := by
  unfold onesL onesTo natsI
  rw [List.length_map]
  congr 1
  apply List.filter_congr
  intro i hi
  rw [List.mem_range] at hi
  rw [List.getD_eq_getElem?_getD, List.getD_eq_getElem?_getD, List.getElem?_map, List.getElem?_eq_getElem hi]
  rfl
/-- truths graded: the places of one kind, and behind them those of the other -/
def bitsG (bs : List Bool) (down : Bool) : List Int := if down = true then onesL bs ++ onesL (bs.map not) else onesL (bs.map not) ++ onesL bs
theorem radixBits_con (wv : Value) (bs : List Bool) (down : Bool) (w : World) (h : GHeap) (hT : TzTab h) (hb : BitsAt h wv bs) : Con Tryz.prog 170 [.agg [wv, .int .i64 bs.length].toArray, .bool down] w h (fun h' u => IntsAt h' u (bitsG bs down)) := by
  have hb' := hb
  have hlen := hb.1
  have hl1 : (onesL bs).length ≤ bs.length := onesTo_len bs bs.length
  have hl2 : (onesL (bs.map not)).length ≤ bs.length := by have := onesTo_len (bs.map not) (bs.map not).length; rw [List.length_map] at this; unfold onesL; rw [List.length_map]; exact this
  obtain ⟨_, ws, ⟨ad, cp, rfl, hS⟩, hB⟩ := hb
  refine Con.of_body Tryz.func170 rfl Tryz.ntmps170 rfl rfl ?_
  intro hs
  refine Zrun ?_
  (refine RW.boxN hs rfl rfl ?_; intro b1 w1 hs)
  refine Zerun ?_
  refine CW.meet (fun u : (Option Addr × Nat) × (Option Addr × Nat) × GHeap => [(1, .bool down), (5, .slice u.1.1 (onesL (bs.map not)).length u.1.2), (6, .slice u.2.1.1 (onesL bs).length u.2.1.2)]) (fun u w' => Sees w h u.2.2 [⟨u.2.1.1, (onesL bs).length, u.2.1.2, 3, 1, (onesL bs).map (Value.int .i64)⟩, ⟨u.1.1, (onesL (bs.map not)).length, u.1.2, 3, 1, (onesL (bs.map not)).map (Value.int .i64)⟩] w') ?_ ?_
  · refine CW.regionR T 0 0 hs rfl rfl ?_
    intro w3 hs
    refine HW.takeR (fuel := 6) 0 rfl (fun _ _ ka kb _ hs hka hkb => Y.loadRowN T hs ka hka rfl rfl rfl rfl rfl rfl) ⟨_, _, 0, 0, hs, rfl, rfl⟩ rfl (by kernel_rfl) (by kernel_rfl) (by kernel_rfl) ?_
    refine HW.takeR (fuel := 5) 3 rfl (fun _ _ ka kb _ hs hka hkb => Y.loadRowN T hs ka hka rfl rfl rfl rfl rfl rfl) ⟨_, _, 0, 0, hs, rfl, rfl⟩ rfl (by kernel_rfl) (by kernel_rfl) (by kernel_rfl) ?_
    refine HW.one (fuel := 4) 1 rfl (by kernel_rfl) ?_
    (refine RW.call T hs rfl rfl rfl (bitsNot_con _ bs _ _ hb') ?_; intro v h2 w2 hle2 hp2 hs)
    obtain ⟨wv2, rfl, hb2⟩ := hp2
    have hb' := hb'.mono hle2
    have hT := hT.mono hle2
    refine RW.nil ?_
    refine heldQ_normal ⟨_, _, 0, 0, hs, rfl, rfl⟩ ?_
    refine HW.one (fuel := 3) 2 rfl (by kernel_rfl) ?_
    (refine RW.callM T hs rfl rfl rfl (bitsOnes_conM _ (bs.map not) _ _ _ _ _ hT hb2) ?_; intro v h3 O3 w3 hle3 hp3 hs)
    obtain ⟨ad3, cp3, rfl, rfl⟩ := hp3
    have hb' := hb'.mono hle3
    have hT := hT.mono hle3
    refine RW.nil ?_
    refine heldQ_normal ⟨_, _, 1, 1, hs, rfl, rfl⟩ ?_
    refine HW.one (fuel := 2) 4 rfl (by kernel_rfl) ?_
    (refine RW.callM T hs rfl rfl rfl (bitsOnes_conM _ bs _ _ _ _ _ hT hb') ?_; intro v h4 O4 w4 hle4 hp4 hs)
    obtain ⟨ad4, cp4, rfl, rfl⟩ := hp4
    refine RW.nil ?_
    refine heldQ_normal ⟨_, _, 2, 2, hs, rfl, rfl⟩ ?_
    refine HW.takeR (fuel := 1) 5 rfl (fun _ _ ka kb _ hs hka hkb => Y.assign rfl) ⟨_, _, 2, 2, hs, rfl, rfl⟩ rfl (by kernel_rfl) (by kernel_rfl) (by kernel_rfl) ?_
    refine HW.takeR (fuel := 0) 6 rfl (fun _ _ ka kb _ hs hka hkb => Y.assign rfl) ⟨_, _, 2, 2, hs, rfl, rfl⟩ rfl (by kernel_rfl) (by kernel_rfl) (by kernel_rfl) ?_
    refine HW.done (by kernel_rfl) ?_
    refine calmQ_normal ?_
    exact joinQ_meet ((ad3, cp3), (ad4, cp4), h4) ⟨rfl, rfl, rfl, trivial⟩ (hs.sub (.cons_cons _ (.cons_cons _ (.cons _ .slnil))))
  rintro ⟨⟨ad3, cp3⟩, ⟨ad4, cp4⟩, h5⟩ w5 hs
  dsimp only at hs ⊢
  have h1c : ∀ l : List Int, ∀ u ∈ l.map (Value.int .i64), u.oneCell' = true := by
    intro l u hu
    obtain ⟨x, _, rfl⟩ := List.mem_map.1 hu
    rfl
  unfold bitsG
  cases down with
  | false =>
    obtain ⟨h6, hle6, hs, hS6⟩ := hs.freeze
    dsimp only at hS6
    refine Zerun ?_
    refine RW.append T hs 0 rfl rfl (m := (onesL bs).length) (news := (onesL bs).map (Value.int .i64)) rfl rfl rfl rfl rfl rfl (hS6.src hs.agree (h1c _)) hS6.cap0 (by dsimp only; omega) (by omega) ?_
    intro ad7 cp7 w7 hs
    have hs : Sees w h h6 [⟨ad7, (onesL (bs.map not)).length + (onesL bs).length, cp7, 3, 1, (onesL (bs.map not) ++ onesL bs).map (Value.int .i64)⟩] w7 := hs.re (by rw [List.map_append])
    obtain ⟨h8, hle8, hs, hI⟩ := freezeI hs (List.length_append ..)
    refine Zerun ?_
    exact retQ_ret [_] h8 ⟨rfl, trivial⟩ hs.dropAll hI
  | true =>
    obtain ⟨h6, hle6, hs, hS6⟩ := hs.swap.freeze
    dsimp only at hS6
    refine Zerun ?_
    refine RW.append T hs 0 rfl rfl (m := (onesL (bs.map not)).length) (news := (onesL (bs.map not)).map (Value.int .i64)) rfl rfl rfl rfl rfl rfl (hS6.src hs.agree (h1c _)) hS6.cap0 (by dsimp only; omega) (by omega) ?_
    intro ad7 cp7 w7 hs
    have hs : Sees w h h6 [⟨ad7, (onesL bs).length + (onesL (bs.map not)).length, cp7, 3, 1, (onesL bs ++ onesL (bs.map not)).map (Value.int .i64)⟩] w7 := hs.re (by rw [List.map_append])
    obtain ⟨h8, hle8, hs, hI⟩ := freezeI hs (List.length_append ..)
    refine Zerun ?_
    exact retQ_ret [_] h8 ⟨rfl, trivial⟩ hs.dropAll hI
end Go.Proofs.YtmojpbfkpggjhaaGreatDoor

/-
  Plain facts: one put in behind all that aren't above it keeps places at their ranks. No program is in sight, and no statement is proved here.
-/
namespace Go.Proofs.YtmojpbfkpggjhaaGreatDoor

/-- how many of the first ones aren't above the next one -/
def putN (dl : List Nat) (i : Nat) : Nat := below (dl.take i) (dl.getD i 0 + 1)
theorem putN_le (dl : List Nat) (i : Nat) : putN dl i ≤ i := Nat.le_trans (below_le _ _) (by rw [List.length_take]; omega)
theorem take_getD (dl : List Nat) (i j : Nat) (h : j < i) : (dl.take i).getD j 0 = dl.getD j 0 := by
  rw [List.getD_eq_getElem?_getD, List.getElem?_take, if_pos h, ← List.getD_eq_getElem?_getD]
theorem rank_put_lt (dl : List Nat) (i j : Nat) (hi : i < dl.length) (hj : j < i) : rankP (dl.take i) j < putN dl i ↔ dl.getD j 0 ≤ dl.getD i 0 := by
  have hl : j < (dl.take i).length := by rw [List.length_take]; omega
  have hb := rank_below (dl.take i) hl
  rw [take_getD dl i j hj] at hb
  unfold putN
  constructor
  · intro h
    apply Classical.byContradiction
    intro hn
    have := below_mono (dl.take i) (show dl.getD i 0 + 1 ≤ dl.getD j 0 by omega)
    omega
  · intro h
    have := below_mono (dl.take i) (show dl.getD j 0 + 1 ≤ dl.getD i 0 + 1 by omega)
    omega
theorem below_take_succ (dl : List Nat) (i p : Nat) (hi : i < dl.length) : below (dl.take (i + 1)) p = below (dl.take i) p + if dl.getD i 0 < p then 1 else 0 := by
  unfold below
  rw [take_snoc dl i 0 hi, List.countP_append, List.countP_singleton]
  by_cases e : dl.getD i 0 < p
  · rw [if_pos (by simpa using e), if_pos e]
  · rw [if_neg (by simpa using e), if_neg e]
theorem alike_take (dl : List Nat) (i j p : Nat) (h : j ≤ i) : alike (dl.take i) j p = alike dl j p := by
  unfold alike
  rw [List.take_take, Nat.min_eq_left h]
theorem rank_new (dl : List Nat) (i : Nat) (hi : i < dl.length) : rankP (dl.take (i + 1)) i = putN dl i := by
  unfold rankP putN
  rw [take_getD dl (i + 1) i (by omega), below_take_succ dl i _ hi, if_neg (by omega), alike_take dl (i + 1) i _ (by omega), below_succ]
  rw [alike_take dl i (dl.take i).length _ (by rw [List.length_take]; omega), List.length_take, Nat.min_eq_left (by omega)]
  omega
theorem rank_old (dl : List Nat) (i j : Nat) (hi : i < dl.length) (hj : j < i) : rankP (dl.take (i + 1)) j = rankP (dl.take i) j + if dl.getD i 0 < dl.getD j 0 then 1 else 0 := by
  unfold rankP
  rw [take_getD dl (i + 1) j (by omega), take_getD dl i j hj, below_take_succ dl i _ hi, alike_take dl (i + 1) j _ (by omega), alike_take dl i j _ (by omega)]
  omega
/-- the next one, put in -/
def putIn (out : List Nat) (p x : Nat) : List Nat := out.take p ++ x :: out.drop p
theorem putIn_len (out : List Nat) (p x : Nat) : (putIn out p x).length = out.length + 1 := by
  unfold putIn; rw [List.length_append, List.length_cons, List.length_take, List.length_drop]; omega
theorem putIn_at (out : List Nat) (p x : Nat) (h : p ≤ out.length) : (putIn out p x).getD p 0 = x := by
  unfold putIn
  rw [List.getD_eq_getElem?_getD, List.getElem?_append_right (by rw [List.length_take]; omega), List.length_take, Nat.min_eq_left h, Nat.sub_self]; rfl
theorem putIn_low (out : List Nat) (p x q : Nat) (h : p ≤ out.length) (hq : q < p) : (putIn out p x).getD q 0 = out.getD q 0 := by
  unfold putIn
  rw [List.getD_eq_getElem?_getD, List.getElem?_append_left (by rw [List.length_take]; omega), List.getElem?_take, if_pos hq, ← List.getD_eq_getElem?_getD]
theorem putIn_high (out : List Nat) (p x q : Nat) (h : p ≤ out.length) (hq : p ≤ q) : (putIn out p x).getD (q + 1) 0 = out.getD q 0 := by
  unfold putIn
  rw [List.getD_eq_getElem?_getD, List.getElem?_append_right (by rw [List.length_take]; omega), List.length_take, Nat.min_eq_left h, show q + 1 - p = (q - p) + 1 by omega, List.getElem?_cons_succ, List.getElem?_drop, show p + (q - p) = q by omega, ← List.getD_eq_getElem?_getD]
theorem Placed.nil (dl at_ : List Nat) : Placed (dl.take 0) (at_.take 0) [] := ⟨rfl, fun j hj => absurd hj (by simp)⟩
theorem Placed.put {dl at_ out : List Nat} {i : Nat} (h : Placed (dl.take i) (at_.take i) out) (hi : i < at_.length) (hl : dl.length = at_.length) : Placed (dl.take (i + 1)) (at_.take (i + 1)) (putIn out (putN dl i) (at_.getD i 0)) := by
  obtain ⟨h1, h2⟩ := h
  rw [List.length_take, Nat.min_eq_left (by omega)] at h1 h2
  have hp := putN_le dl i
  refine ⟨by rw [putIn_len, h1, List.length_take]; omega, fun j hj => ?_⟩
  rw [List.length_take, Nat.min_eq_left (by omega)] at hj
  rw [take_getD at_ (i + 1) j hj]
  by_cases e : j = i
  · subst e
    rw [rank_new dl j (by omega), putIn_at _ _ _ (by omega)]
  · have hlt := rank_put_lt dl i j (by omega) (by omega)
    have h3 := h2 j (by omega)
    rw [take_getD at_ i j (by omega)] at h3
    rw [rank_old dl i j (by omega) (by omega)]
    by_cases c : dl.getD i 0 < dl.getD j 0
    · rw [if_pos c, putIn_high _ _ _ _ (by omega) (by omega)]
      exact h3
    · rw [if_neg c, Nat.add_zero, putIn_low _ _ _ _ (by omega) (hlt.2 (by omega))]
      exact h3
theorem Placed.eq {dl at_ o1 o2 : List Nat} (h1 : Placed dl at_ o1) (h2 : Placed dl at_ o2) (hl : dl.length = at_.length) : o1 = o2 := by
  obtain ⟨a1, b1⟩ := h1
  obtain ⟨a2, b2⟩ := h2
  have hsur := inj_surj dl.length (rankP dl) (fun j hj => rank_lt dl hj) (fun i j hi hj e => rank_inj dl hi hj e)
  apply List.ext_getElem?
  intro q
  by_cases hq : q < dl.length
  · obtain ⟨j, hj, rfl⟩ := hsur q hq
    have e1 := b1 j (by omega)
    have e2 := b2 j (by omega)
    have r := rank_lt dl hj
    rw [List.getD_eq_getElem?_getD] at e1 e2
    rw [List.getElem?_eq_getElem (by omega)] at e1 e2 ⊢
    rw [List.getElem?_eq_getElem (by omega)]
    simp only [Option.getD_some] at e1 e2
    rw [e1, e2]
  · rw [List.getElem?_eq_none (by omega), List.getElem?_eq_none (by omega)]
/-- the place that stands at one of the first ranks, and what its digit tells -/
theorem Placed.turn {dl at_ out : List Nat} {i n : Nat} (h : Placed (dl.take i) (at_.take i) out) (hi : i < at_.length) (hl : dl.length = at_.length) (hn : n < i) : ∃ j, j < i ∧ out.getD n 0 = at_.getD j 0 ∧ (dl.getD j 0 ≤ dl.getD i 0 ↔ n < putN dl i) := by
  obtain ⟨h1, h2⟩ := h
  rw [List.length_take, Nat.min_eq_left (by omega)] at h1 h2
  have hl2 : (dl.take i).length = i := by rw [List.length_take]; omega
  have hsur := inj_surj i (rankP (dl.take i)) (fun j hj => by have := rank_lt (dl.take i) (j := j) (by omega); omega) (fun a b ha hb e => rank_inj (dl.take i) (by omega) (by omega) e)
  obtain ⟨j, hj, rfl⟩ := hsur n hn
  refine ⟨j, hj, ?_, ?_⟩
  · have := h2 j hj
    rwa [take_getD at_ i j hj] at this
  · exact (rank_put_lt dl i j (by omega) hj).symm
end Go.Proofs.YtmojpbfkpggjhaaGreatDoor

/-
  Plain facts on putting places in order by comparing: put in one by one, and merged. No program is in sight, and no statement is proved here.
-/
namespace Go.Proofs.YtmojpbfkpggjhaaGreatDoor

/-- what a comparison has to be: an order of classes of alike ones -/
structure WeakOrd (ah : Nat → Nat → Bool) : Prop where
  asym : ∀ i j, ah i j = true → ah j i = false
  ntr : ∀ i j k, ah i j = false → ah j k = false → ah i k = false
/-- ahead of it, or alike and earlier -/
def ltS (ah : Nat → Nat → Bool) (i j : Nat) : Prop := ah i j = true ∨ (ah j i = false ∧ i < j)
theorem ltS_asym {ah : Nat → Nat → Bool} (hw : WeakOrd ah) (i j : Nat) (h : ltS ah i j) : ¬ ltS ah j i := by
  rintro (h2 | ⟨h2, h3⟩)
  · rcases h with h | ⟨h, h4⟩
    · have := hw.asym _ _ h; rw [h2] at this; cases this
    · rw [h] at h2; cases h2
  · rcases h with h | ⟨h, h4⟩
    · rw [h] at h2; cases h2
    · omega
theorem ltS_trans {ah : Nat → Nat → Bool} (hw : WeakOrd ah) (i j k : Nat) (h1 : ltS ah i j) (h2 : ltS ah j k) : ltS ah i k := by
  have n1 : ah j i = false := by
    rcases h1 with h | ⟨h, _⟩
    · exact hw.asym _ _ h
    · exact h
  have n2 : ah k j = false := by
    rcases h2 with h | ⟨h, _⟩
    · exact hw.asym _ _ h
    · exact h
  have n3 : ah k i = false := hw.ntr _ _ _ n2 n1
  by_cases c : ah i k = true
  · exact .inl c
  · have c : ah i k = false := by simpa using c
    refine .inr ⟨n3, ?_⟩
    have m1 : ¬ ah i j = true := by
      intro e
      have : ah i j = false := hw.ntr i k j c n2
      rw [e] at this; cases this
    have m2 : ¬ ah j k = true := by
      intro e
      have : ah j k = false := hw.ntr j i k n1 c
      rw [e] at this; cases this
    rcases h1 with h | ⟨_, h1⟩
    · exact absurd h m1
    · rcases h2 with h | ⟨_, h2⟩
      · exact absurd h m2
      · omega
theorem ltS_yes {ah : Nat → Nat → Bool} {i j : Nat} (h : ah i j = true) : ltS ah i j := .inl h
theorem ltS_no {ah : Nat → Nat → Bool} {i j : Nat} (h : ah j i = false) (hl : i < j) : ltS ah i j := .inr ⟨h, hl⟩
/-- the numbers from a to b, each once, in order -/
structure InSeg (ah : Nat → Nat → Bool) (a b : Nat) (s : List Nat) : Prop where
  len : s.length = b - a
  mem : ∀ i, i ∈ s ↔ a ≤ i ∧ i < b
  ord : s.Pairwise (ltS ah)
theorem InSeg.one (ah : Nat → Nat → Bool) (a : Nat) : InSeg ah a (a + 1) [a] := ⟨by simp, fun i => by simp; omega, List.pairwise_singleton _ _⟩
theorem InSeg.none (ah : Nat → Nat → Bool) (a b : Nat) (h : b ≤ a) : InSeg ah a b [] := ⟨by simp; omega, fun i => by simp; omega, .nil⟩
theorem mem_of_getD {s : List Nat} {j : Nat} (h : j < s.length) : s.getD j 0 ∈ s := by simp [List.getD_eq_getElem?_getD, h]
theorem pair_get {R : Nat → Nat → Prop} {s : List Nat} (h : s.Pairwise R) {i j : Nat} (hij : i < j) (hj : j < s.length) : R (s.getD i 0) (s.getD j 0) := by
  have := List.pairwise_iff_getElem.1 h i j (by omega) hj hij
  rw [List.getD_eq_getElem?_getD, List.getD_eq_getElem?_getD, List.getElem?_eq_getElem (show i < s.length by omega), List.getElem?_eq_getElem hj]
  exact this
theorem pair_of_get {R : Nat → Nat → Prop} {s : List Nat} (h : ∀ i j, i < j → j < s.length → R (s.getD i 0) (s.getD j 0)) : s.Pairwise R := by
  rw [List.pairwise_iff_getElem]
  intro i j hi hj hij
  have := h i j hij hj
  rwa [List.getD_eq_getElem?_getD, List.getD_eq_getElem?_getD, List.getElem?_eq_getElem hi, List.getElem?_eq_getElem hj] at this
/-- the next number put in at the place where the search stopped -/
theorem InSeg.insert {ah : Nat → Nat → Bool} (hw : WeakOrd ah) {a b k : Nat} {s : List Nat} (h : InSeg ah a b s) (hab : a ≤ b) (hk : k ≤ s.length) (hi : ∀ q, k ≤ q → q < s.length → ah b (s.getD q 0) = true) (lo : 0 < k → ah b (s.getD (k - 1) 0) = false) : InSeg ah a (b + 1) (putIn s k b) := by
  have hlt : ∀ q, q < s.length → s.getD q 0 < b := fun q hq => ((h.mem _).1 (mem_of_getD hq)).2
  have lo2 : ∀ q, q < k → ltS ah (s.getD q 0) b := by
    intro q hq
    have h1 : ltS ah (s.getD (k - 1) 0) b := ltS_no (lo (by omega)) (hlt _ (by omega))
    by_cases e : q = k - 1
    · rw [e]; exact h1
    · exact ltS_trans hw _ _ _ (pair_get h.ord (show q < k - 1 by omega) (by omega)) h1
  refine ⟨by rw [putIn_len, h.len]; omega, fun i => ?_, ?_⟩
  · have hm := h.mem i
    unfold putIn
    rw [List.mem_append, List.mem_cons]
    have hs : i ∈ s ↔ i ∈ s.take k ∨ i ∈ s.drop k := by rw [← List.mem_append, List.take_append_drop]
    rw [hs] at hm
    constructor
    · rintro (x | x | x)
      · have := hm.1 (.inl x); omega
      · omega
      · have := hm.1 (.inr x); omega
    · intro x
      by_cases e : i = b
      · exact .inr (.inl e)
      · rcases hm.2 (by omega) with y | y
        · exact .inl y
        · exact .inr (.inr y)
  · apply pair_of_get
    intro i j hij hj
    rw [putIn_len] at hj
    by_cases c1 : j < k
    · rw [putIn_low _ _ _ _ hk (by omega), putIn_low _ _ _ _ hk c1]
      exact pair_get h.ord hij (by omega)
    · by_cases c2 : j = k
      · subst c2
        rw [putIn_low _ _ _ _ hk (by omega), putIn_at _ _ _ hk]
        exact lo2 i hij
      · obtain ⟨q, rfl⟩ : ∃ q, j = q + 1 := ⟨j - 1, by omega⟩
        rw [putIn_high _ _ _ q hk (by omega)]
        by_cases c3 : i < k
        · rw [putIn_low _ _ _ _ hk c3]
          exact pair_get h.ord (by omega) (by omega)
        · by_cases c4 : i = k
          · subst c4
            rw [putIn_at _ _ _ hk]
            exact ltS_yes (hi q (by omega) (by omega))
          · obtain ⟨p, rfl⟩ : ∃ p, i = p + 1 := ⟨i - 1, by omega⟩
            rw [putIn_high _ _ _ p hk (by omega)]
            exact pair_get h.ord (by omega) (by omega)
/-- a merge under way: what is out, and what is left of two runs -/
structure Merging (ah : Nat → Nat → Bool) (s1 s2 : List Nat) (i k : Nat) (o : List Nat) : Prop where
  len : o.length = i + k
  perm : o.Perm (s1.take i ++ s2.take k)
  o1 : (o ++ s1.drop i).Pairwise (ltS ah)
  o2 : (o ++ s2.drop k).Pairwise (ltS ah)
theorem Merging.start {ah : Nat → Nat → Bool} {a m b : Nat} {s1 s2 : List Nat} (h1 : InSeg ah a m s1) (h2 : InSeg ah m b s2) : Merging ah s1 s2 0 0 [] := ⟨rfl, .refl _, h1.ord, h2.ord⟩
theorem drop_cons' (s : List Nat) (i : Nat) (h : i < s.length) : s.drop i = s.getD i 0 :: s.drop (i + 1) := by
  rw [List.drop_eq_getElem_cons h, List.getD_eq_getElem?_getD, List.getElem?_eq_getElem h]; rfl
theorem pair_mid {R : Nat → Nat → Prop} {o d : List Nat} {x : Nat} (h : (o ++ d).Pairwise R) (h1 : ∀ y ∈ o, R y x) (h2 : ∀ y ∈ d, R x y) : (o ++ [x] ++ d).Pairwise R := by
  rw [List.pairwise_append] at h ⊢
  refine ⟨?_, h.2.1, ?_⟩
  · rw [List.pairwise_append]
    exact ⟨h.1, List.pairwise_singleton _ _, fun y hy z hz => by rw [List.mem_singleton] at hz; rw [hz]; exact h1 y hy⟩
  · intro y hy z hz
    rw [List.mem_append, List.mem_singleton] at hy
    rcases hy with hy | rfl
    · exact h.2.2 y hy z hz
    · exact h2 z hz
theorem Merging.left {ah : Nat → Nat → Bool} (hw : WeakOrd ah) {s1 s2 : List Nat} {i k : Nat} {o : List Nat} (h : Merging ah s1 s2 i k o) (hi : i < s1.length) (hx : k < s2.length → ltS ah (s1.getD i 0) (s2.getD k 0)) : Merging ah s1 s2 (i + 1) k (o ++ [s1.getD i 0]) := by
  have ho1 := h.o1
  rw [drop_cons' s1 i hi] at ho1
  have ho2 := h.o2
  refine ⟨by rw [List.length_append, h.len]; simp; omega, ?_, ?_, ?_⟩
  · rw [take_snoc s1 i 0 hi]
    have := h.perm.append_right [s1.getD i 0]
    refine this.trans ?_
    rw [List.append_assoc, List.append_assoc]
    exact List.Perm.append_left _ List.perm_append_comm
  · rw [List.append_assoc]; exact ho1
  · refine pair_mid ho2 ?_ ?_
    · rw [List.pairwise_append] at ho1
      exact fun y hy => ho1.2.2 y hy _ (List.mem_cons_self ..)
    · intro y hy
      by_cases hk : k < s2.length
      · rw [drop_cons' s2 k hk] at hy ho2
        rw [List.pairwise_append, List.pairwise_cons] at ho2
        rcases List.mem_cons.1 hy with rfl | hy
        · exact hx hk
        · exact ltS_trans hw _ _ _ (hx hk) (ho2.2.1.1 y hy)
      · rw [List.drop_eq_nil_of_le (by omega)] at hy; cases hy
theorem Merging.right {ah : Nat → Nat → Bool} (hw : WeakOrd ah) {s1 s2 : List Nat} {i k : Nat} {o : List Nat} (h : Merging ah s1 s2 i k o) (hk : k < s2.length) (hx : i < s1.length → ltS ah (s2.getD k 0) (s1.getD i 0)) : Merging ah s1 s2 i (k + 1) (o ++ [s2.getD k 0]) := by
  have ho1 := h.o1
  have ho2 := h.o2
  rw [drop_cons' s2 k hk] at ho2
  refine ⟨by rw [List.length_append, h.len]; simp; omega, ?_, ?_, ?_⟩
  · rw [take_snoc s2 k 0 hk, ← List.append_assoc]
    exact h.perm.append_right _
  · refine pair_mid ho1 ?_ ?_
    · rw [List.pairwise_append] at ho2
      exact fun y hy => ho2.2.2 y hy _ (List.mem_cons_self ..)
    · intro y hy
      by_cases hi : i < s1.length
      · rw [drop_cons' s1 i hi] at hy ho1
        rw [List.pairwise_append, List.pairwise_cons] at ho1
        rcases List.mem_cons.1 hy with rfl | hy
        · exact hx hi
        · exact ltS_trans hw _ _ _ (hx hi) (ho1.2.1.1 y hy)
      · rw [List.drop_eq_nil_of_le (by omega)] at hy; cases hy
  · rw [List.append_assoc]; exact ho2
theorem Merging.done {ah : Nat → Nat → Bool} {a m b : Nat} {s1 s2 o : List Nat} (h1 : InSeg ah a m s1) (h2 : InSeg ah m b s2) (ham : a ≤ m) (hmb : m ≤ b) (h : Merging ah s1 s2 s1.length s2.length o) : InSeg ah a b o := by
  have hp := h.perm
  rw [List.take_length, List.take_length] at hp
  have ho := h.o1
  rw [List.drop_length, List.append_nil] at ho
  refine ⟨by rw [h.len, h1.len, h2.len]; omega, fun i => ?_, ho⟩
  rw [hp.mem_iff, List.mem_append, h1.mem, h2.mem]
  omega
/-- all in order -/
theorem InSeg.inOrder {ah : Nat → Nat → Bool} {n : Nat} {s : List Nat} (h : InSeg ah 0 n s) : InOrder (ltS ah) n s := by
  have hl : s.length = n := by rw [h.len]; omega
  refine ⟨hl, fun j hj => ((h.mem _).1 (mem_of_getD (by omega))).2, fun i hi => ?_, fun a b hab hb => pair_get h.ord hab (by omega)⟩
  obtain ⟨j, hj, e⟩ := List.getElem_of_mem ((h.mem i).2 ⟨by omega, hi⟩)
  exact ⟨j, by omega, by rw [List.getD_eq_getElem?_getD, List.getElem?_eq_getElem hj, e]; rfl⟩
/-- runs of one length in order, up to a place -/
def Runs (ah : Nat → Nat → Bool) (r n upto : Nat) (l : List Nat) : Prop := ∀ q, q * r < upto → InSeg ah (q * r) (min (q * r + r) n) ((l.drop (q * r)).take r)
theorem Runs.none (ah : Nat → Nat → Bool) (r n : Nat) (l : List Nat) : Runs ah r n 0 l := fun _ hq => absurd hq (Nat.not_lt_zero _)
theorem Runs.all {ah : Nat → Nat → Bool} {r n : Nat} {l : List Nat} (h : Runs ah r n n l) (hl : l.length = n) (hr : n ≤ r) : InSeg ah 0 n l := by
  by_cases c : n = 0
  · subst c
    rw [List.eq_nil_of_length_eq_zero hl]
    exact InSeg.none _ _ _ (Nat.le_refl _)
  · have := h 0 (by omega)
    rw [Nat.zero_mul, List.drop_zero, Nat.zero_add, List.take_of_length_le (by omega), Nat.min_eq_right hr] at this
    exact this
end Go.Proofs.YtmojpbfkpggjhaaGreatDoor

/-
  Plain facts: places put where the count of those ahead of them tells stand in order. No program is in sight, and no statement is proved here.
-/
namespace Go.Proofs.YtmojpbfkpggjhaaGreatDoor

theorem countP_less {α : Type} (p q : α → Bool) : ∀ (l : List α), (∀ x ∈ l, p x = true → q x = true) → (∃ x ∈ l, q x = true ∧ p x = false) → l.countP p < l.countP q
  | [], _, ⟨_, h, _⟩ => nomatch h
  | a :: l, hpq, ⟨x, hx, hq, hp⟩ => by
    have hle : l.countP p ≤ l.countP q := List.countP_mono_left (fun y hy => hpq y (List.mem_cons_of_mem _ hy))
    rw [List.countP_cons, List.countP_cons]
    rcases List.mem_cons.1 hx with rfl | hx
    · rw [hq, hp]; simp; omega
    · have ih := countP_less p q l (fun y hy => hpq y (List.mem_cons_of_mem _ hy)) ⟨x, hx, hq, hp⟩
      have ha := hpq a List.mem_cons_self
      cases e : p a with
      | true => rw [ha e]; simp; omega
      | false => cases q a <;> simp <;> omega
/-- how many come ahead of a place -/
def aheadN (b : Nat → Nat → Bool) (n i : Nat) : Nat := (List.range n).countP fun k => b k i
theorem aheadN_lt (b : Nat → Nat → Bool) (irr : ∀ i, b i i = false) (n i : Nat) (hi : i < n) : aheadN b n i < n := by
  have := countP_less (fun k => b k i) (fun _ => true) (List.range n) (fun _ _ _ => rfl) ⟨i, List.mem_range.2 hi, rfl, irr i⟩
  rw [List.countP_true, List.length_range] at this
  exact this
theorem InOrder.of_counts (lt : Nat → Nat → Prop) (b : Nat → Nat → Bool) (n : Nat) (out : List Nat) (hb : ∀ i j, i < n → j < n → (b i j = true ↔ lt i j)) (irr : ∀ i, b i i = false) (_asym : ∀ i j, lt i j → ¬ lt j i) (tr : ∀ i j k, lt i j → lt j k → lt i k) (tot : ∀ i j, i < n → j < n → i ≠ j → lt i j ∨ lt j i)
    (hl : out.length = n) (ho : ∀ i, i < n → out.getD (aheadN b n i) 0 = i) : InOrder lt n out := by
  have mono : ∀ i j, i < n → j < n → lt i j → aheadN b n i < aheadN b n j := by
    intro i j hi hj h
    refine countP_less _ _ _ (fun k hk e => ?_) ⟨i, List.mem_range.2 hi, (hb i j hi hj).2 h, irr i⟩
    have hk := List.mem_range.1 hk
    exact (hb k j hk hj).2 (tr _ _ _ ((hb k i hk hi).1 e) h)
  have inj : ∀ i j, i < n → j < n → aheadN b n i = aheadN b n j → i = j := by
    intro i j hi hj e
    apply Classical.byContradiction
    intro hne
    rcases tot i j hi hj hne with h | h
    · have := mono i j hi hj h; omega
    · have := mono j i hj hi h; omega
  have hsur := inj_surj n (aheadN b n) (fun j hj => aheadN_lt b irr n j hj) inj
  refine ⟨hl, ?_, ?_, ?_⟩
  · intro a ha
    obtain ⟨i, hi, rfl⟩ := hsur a ha
    rw [ho i hi]; exact hi
  · intro i hi
    exact ⟨aheadN b n i, aheadN_lt b irr n i hi, ho i hi⟩
  · intro a c hac hc
    obtain ⟨i, hi, rfl⟩ := hsur a (by omega)
    obtain ⟨j, hj, rfl⟩ := hsur c hc
    rw [ho i hi, ho j hj]
    have hne : i ≠ j := by rintro rfl; omega
    rcases tot i j hi hj hne with h | h
    · exact h
    · have := mono j i hj hi h; omega
end Go.Proofs.YtmojpbfkpggjhaaGreatDoor

/-
  Plain facts on cells compared element by element, and on truths in order. No program is in sight, and no statement is proved here.
-/
namespace Go.Proofs.YtmojpbfkpggjhaaGreatDoor

/-- as a comparison of two numbers tells -/
def cmpZ (a b : Int) : Int := if a < b then -1 else if b < a then 1 else 0
theorem cmpZ_anti (a b : Int) : cmpZ a b = -cmpZ b a := by unfold cmpZ; split <;> split <;> omega
theorem cmpZ_neg (a b : Int) : cmpZ a b < 0 ↔ a < b := by unfold cmpZ; split <;> (try split) <;> omega
theorem cmpZ_zero (a b : Int) : cmpZ a b = 0 ↔ a = b := by unfold cmpZ; split <;> (try split) <;> omega
theorem cmpZ_pos (a b : Int) : 0 < cmpZ a b ↔ b < a := by unfold cmpZ; split <;> (try split) <;> omega
/-- the first elements of two cells that differ, out of so many -/
def lexC (g : Nat → Int) (size i k : Nat) : Nat → Int
  | 0 => 0
  | m + 1 => if lexC g size i k m ≠ 0 then lexC g size i k m else cmpZ (g (i * size + m)) (g (k * size + m))
theorem lexC_anti (g : Nat → Int) (size i k : Nat) : ∀ m, lexC g size i k m = -lexC g size k i m
  | 0 => by unfold lexC; omega
  | m + 1 => by
    have ih := lexC_anti g size i k m
    have := cmpZ_anti (g (i * size + m)) (g (k * size + m))
    unfold lexC
    split <;> split <;> omega
theorem lexC_trans (g : Nat → Int) (size i j k : Nat) : ∀ m, (lexC g size i j m ≤ 0 → lexC g size j k m ≤ 0 → lexC g size i k m ≤ 0) ∧ (lexC g size i j m = 0 → lexC g size j k m = 0 → lexC g size i k m = 0) ∧ (lexC g size i j m < 0 → lexC g size j k m ≤ 0 → lexC g size i k m < 0) ∧ (lexC g size i j m ≤ 0 → lexC g size j k m < 0 → lexC g size i k m < 0)
  | 0 => by unfold lexC; omega
  | m + 1 => by
    obtain ⟨h1, h2, h3, h4⟩ := lexC_trans g size i j k m
    have a1 := cmpZ_neg (g (i * size + m)) (g (j * size + m))
    have a2 := cmpZ_zero (g (i * size + m)) (g (j * size + m))
    have b1 := cmpZ_neg (g (j * size + m)) (g (k * size + m))
    have b2 := cmpZ_zero (g (j * size + m)) (g (k * size + m))
    have c1 := cmpZ_neg (g (i * size + m)) (g (k * size + m))
    have c2 := cmpZ_zero (g (i * size + m)) (g (k * size + m))
    unfold lexC
    generalize lexC g size i j m = x at *
    generalize lexC g size j k m = y at *
    generalize lexC g size i k m = z at *
    generalize cmpZ (g (i * size + m)) (g (j * size + m)) = p at *
    generalize cmpZ (g (j * size + m)) (g (k * size + m)) = q at *
    generalize cmpZ (g (i * size + m)) (g (k * size + m)) = r at *
    generalize g (i * size + m) = u at *
    generalize g (j * size + m) = v at *
    generalize g (k * size + m) = t at *
    by_cases hx : x = 0
    · by_cases hy : y = 0
      · have hz := h2 hx hy
        rw [if_neg (by omega), if_neg (by omega), if_neg (by omega)]
        omega
      · rw [if_neg (by omega), if_pos hy]
        by_cases hz : z = 0
        · rw [if_neg (by omega)]; omega
        · rw [if_pos hz]; omega
    · by_cases hy : y = 0
      · rw [if_pos hx, if_neg (by omega)]
        by_cases hz : z = 0
        · rw [if_neg (by omega)]; omega
        · rw [if_pos hz]; omega
      · rw [if_pos hx, if_pos hy]
        by_cases hz : z = 0
        · rw [if_neg (by omega)]; omega
        · rw [if_pos hz]; omega
theorem lexC_congr (f g : Nat → Int) (size i k : Nat) : ∀ m, m ≤ size → (∀ j, j < m → f (i * size + j) = g (i * size + j) ∧ f (k * size + j) = g (k * size + j)) → lexC f size i k m = lexC g size i k m
  | 0, _, _ => rfl
  | m + 1, hm, h => by
    have ih := lexC_congr f g size i k m (by omega) (fun j hj => h j (by omega))
    unfold lexC
    rw [ih, (h m (by omega)).1, (h m (by omega)).2]
/-- does a cell come ahead of another one? -/
def ahL (g : Nat → Int) (size : Nat) (down : Bool) (i k : Nat) : Bool := if down = true then decide (0 < lexC g size i k size) else decide (lexC g size i k size < 0)
theorem ahL_weak (g : Nat → Int) (size : Nat) (down : Bool) : WeakOrd (ahL g size down) := by
  constructor
  · intro i j h
    have := lexC_anti g size i j size
    unfold ahL at h ⊢
    cases down with
    | true => rw [if_pos rfl] at h ⊢; have := of_decide_eq_true h; exact decide_eq_false (by omega)
    | false => rw [if_neg (by decide)] at h ⊢; have := of_decide_eq_true h; exact decide_eq_false (by omega)
  · intro i j k h1 h2
    have e1 := lexC_anti g size i j size
    have e2 := lexC_anti g size j k size
    have e3 := lexC_anti g size i k size
    unfold ahL at h1 h2 ⊢
    cases down with
    | true =>
      rw [if_pos rfl] at h1 h2 ⊢
      have h1 := of_decide_eq_false h1
      have h2 := of_decide_eq_false h2
      have := (lexC_trans g size i j k size).1 (by omega) (by omega)
      exact decide_eq_false (by omega)
    | false =>
      rw [if_neg (by decide)] at h1 h2 ⊢
      have h1 := of_decide_eq_false h1
      have h2 := of_decide_eq_false h2
      have := (lexC_trans g size k j i size).1 (by omega) (by omega)
      exact decide_eq_false (by omega)
theorem ltS_tot {ah : Nat → Nat → Bool} (i j : Nat) (h : i ≠ j) : ltS ah i j ∨ ltS ah j i := by
  by_cases c : ah i j = true
  · exact .inl (.inl c)
  · by_cases c2 : ah j i = true
    · exact .inr (.inl c2)
    · have c : ah i j = false := by simpa using c
      have c2 : ah j i = false := by simpa using c2
      by_cases e : i < j
      · exact .inl (.inr ⟨c2, e⟩)
      · exact .inr (.inr ⟨c, by omega⟩)
/-- the document's word for it: c and the places decide -/
theorem ltS_ahL (g : Nat → Int) (size : Nat) (down : Bool) (i k : Nat) : ltS (ahL g size down) i k ↔ ((if down = true then 0 - lexC g size i k size else lexC g size i k size) < 0 ∨ ((if down = true then 0 - lexC g size i k size else lexC g size i k size) = 0 ∧ i < k)) := by
  have e := lexC_anti g size i k size
  unfold ltS ahL
  cases down with
  | true => simp only [if_pos, decide_eq_true_eq, decide_eq_false_iff_not]; omega
  | false => simp only [Bool.false_eq_true, if_false, decide_eq_true_eq, decide_eq_false_iff_not]; omega
/-- single elements in the order of their keys -/
theorem ltP_ltS (f : Nat → Nat) (g : Nat → Int) (down : Bool) (i j : Nat) (h1 : f i < f j ↔ g i < g j) (h2 : f j < f i ↔ g j < g i) (h : ltP f down i j) : ltS (ahL g 1 down) i j := by
  rw [ltS_ahL]
  have hl : lexC g 1 i j 1 = cmpZ (g i) (g j) := by unfold lexC; unfold lexC; simp
  rw [hl]
  have a1 := cmpZ_neg (g i) (g j)
  have a2 := cmpZ_zero (g i) (g j)
  have a3 := cmpZ_pos (g i) (g j)
  unfold ltP at h
  cases down with
  | true => simp only [if_pos] at h ⊢; omega
  | false => simp only [Bool.false_eq_true, if_false] at h ⊢; omega
/-! ## Truths in order -/
theorem filter_len2 (p : Nat → Bool) : ∀ l : List Nat, (l.filter fun i => !p i).length + (l.filter p).length = l.length
  | [] => rfl
  | x :: l => by
    have ih := filter_len2 p l
    rw [List.filter_cons, List.filter_cons]
    cases p x <;> simp <;> omega
theorem bits_order (p : Nat → Bool) (n : Nat) (lt : Nat → Nat → Prop) (hlt : ∀ i j, i < n → j < n → (p i = false ∧ p j = true) ∨ (p i = p j ∧ i < j) → lt i j) : InOrder lt n (((List.range n).filter fun i => !p i) ++ (List.range n).filter p) := by
  have hpw : (List.range n).Pairwise (· < ·) := List.pairwise_lt_range
  have hl : (((List.range n).filter fun i => !p i) ++ (List.range n).filter p).length = n := by
    rw [List.length_append, filter_len2, List.length_range]
  have hm : ∀ i, i ∈ (((List.range n).filter fun i => !p i) ++ (List.range n).filter p) ↔ i < n := by
    intro i
    rw [List.mem_append, List.mem_filter, List.mem_filter, List.mem_range]
    cases p i <;> simp
  have ho : (((List.range n).filter fun i => !p i) ++ (List.range n).filter p).Pairwise lt := by
    rw [List.pairwise_append]
    refine ⟨?_, ?_, ?_⟩
    · rw [List.pairwise_filter]
      refine List.Pairwise.imp_of_mem ?_ hpw
      intro a b ha hb hab h1 h2
      rw [List.mem_range] at ha hb
      refine hlt a b ha hb (.inr ⟨?_, hab⟩)
      cases h3 : p a <;> cases h4 : p b <;> simp_all
    · rw [List.pairwise_filter]
      refine List.Pairwise.imp_of_mem ?_ hpw
      intro a b ha hb hab h1 h2
      rw [List.mem_range] at ha hb
      exact hlt a b ha hb (.inr ⟨by rw [h1, h2], hab⟩)
    · intro a ha b hb
      rw [List.mem_filter, List.mem_range] at ha hb
      exact hlt a b ha.1 hb.1 (.inl ⟨by simpa using ha.2, hb.2⟩)
  generalize (((List.range n).filter fun i => !p i) ++ (List.range n).filter p) = s at *
  exact ⟨hl, fun j hj => (hm _).1 (mem_of_getD (by omega)), fun i hi => by
    obtain ⟨j, hj, e⟩ := List.getElem_of_mem ((hm i).2 hi)
    exact ⟨j, by omega, by rw [List.getD_eq_getElem?_getD, List.getElem?_eq_getElem hj, e]; rfl⟩, fun a b hab hb => pair_get ho hab (by omega)⟩
end Go.Proofs.YtmojpbfkpggjhaaGreatDoor

/-
  Plain facts: comparing on from a place, and counting those ahead. No program is in sight, and no statement is proved here.
-/
namespace Go.Proofs.YtmojpbfkpggjhaaGreatDoor

theorem lexC_rng (g : Nat → Int) (size i k : Nat) : ∀ m, -1 ≤ lexC g size i k m ∧ lexC g size i k m ≤ 1
  | 0 => by unfold lexC; omega
  | m + 1 => by
    have ih := lexC_rng g size i k m
    have : ∀ a b, -1 ≤ cmpZ a b ∧ cmpZ a b ≤ 1 := by intro a b; unfold cmpZ; split <;> (try split) <;> omega
    have := this (g (i * size + m)) (g (k * size + m))
    unfold lexC
    split <;> omega
theorem lexC_stay (g : Nat → Int) (size i k m : Nat) (h : lexC g size i k m ≠ 0) : ∀ s, m ≤ s → lexC g size i k s = lexC g size i k m
  | 0, hs => by obtain rfl : m = 0 := by omega
                rfl
  | s + 1, hs => by
    by_cases e : m = s + 1
    · rw [e]
    · have ih := lexC_stay g size i k m h s (by omega)
      rw [lexC, if_pos (by rw [ih]; exact h), ih]
theorem lexC_step (g : Nat → Int) (size i k m : Nat) (h : lexC g size i k m = 0) : lexC g size i k (m + 1) = cmpZ (g (i * size + m)) (g (k * size + m)) := by rw [lexC, if_neg (by omega)]
theorem lexC_less (g : Nat → Int) (size i k m : Nat) (h : lexC g size i k m = 0) (hm : m < size) (hl : g (i * size + m) < g (k * size + m)) : lexC g size i k size = -1 := by
  have h1 := lexC_step g size i k m h
  have h2 : lexC g size i k (m + 1) = -1 := by rw [h1]; unfold cmpZ; rw [if_pos hl]
  rw [lexC_stay g size i k (m + 1) (by omega) size (by omega), h2]
theorem lexC_more (g : Nat → Int) (size i k m : Nat) (h : lexC g size i k m = 0) (hm : m < size) (hl : g (k * size + m) < g (i * size + m)) : lexC g size i k size = 1 := by
  have h1 := lexC_step g size i k m h
  have h2 : lexC g size i k (m + 1) = 1 := by rw [h1]; unfold cmpZ; rw [if_neg (by omega), if_pos hl]
  rw [lexC_stay g size i k (m + 1) (by omega) size (by omega), h2]
theorem lexC_same (g : Nat → Int) (size i k m : Nat) (h : lexC g size i k m = 0) (h1 : ¬ g (i * size + m) < g (k * size + m)) (h2 : ¬ g (k * size + m) < g (i * size + m)) : lexC g size i k (m + 1) = 0 := by
  rw [lexC_step g size i k m h]; unfold cmpZ; rw [if_neg h1, if_neg h2]
/-- the document's word for: this cell comes ahead -/
def turnC (down : Bool) (c : Int) : Int := if down = true then 0 - c else c
def lessB (g : Nat → Int) (size : Nat) (down : Bool) (i k : Nat) : Bool := decide (turnC down (lexC g size i k size) < 0 ∨ (turnC down (lexC g size i k size) = 0 ∧ i < k))
theorem lessB_iff (g : Nat → Int) (size : Nat) (down : Bool) (i k : Nat) : lessB g size down i k = true ↔ ltS (ahL g size down) i k := by
  rw [ltS_ahL]
  unfold lessB turnC
  rw [decide_eq_true_eq]
theorem lexC_self (g : Nat → Int) (size i : Nat) (m : Nat) : lexC g size i i m = 0 := by have := lexC_anti g size i i m; omega
theorem lessB_irr (g : Nat → Int) (size : Nat) (down : Bool) (i : Nat) : lessB g size down i i = false := by
  unfold lessB turnC
  rw [lexC_self]
  apply decide_eq_false
  cases down <;> simp
theorem aheadN_succ (b : Nat → Nat → Bool) (n i : Nat) : aheadN b (n + 1) i = aheadN b n i + if b n i = true then 1 else 0 := by
  unfold aheadN
  rw [List.range_succ, List.countP_append, List.countP_singleton]
theorem aheadN_inj (lt : Nat → Nat → Prop) (b : Nat → Nat → Bool) (n : Nat) (hb : ∀ i j, b i j = true ↔ lt i j) (irr : ∀ i, b i i = false) (tr : ∀ i j k, lt i j → lt j k → lt i k) (tot : ∀ i j, i ≠ j → lt i j ∨ lt j i) (i j : Nat) (hi : i < n) (hj : j < n) (e : aheadN b n i = aheadN b n j) : i = j := by
  have mono : ∀ i j, i < n → j < n → lt i j → aheadN b n i < aheadN b n j := by
    intro i j hi hj h
    refine countP_less _ _ _ (fun k hk e => ?_) ⟨i, List.mem_range.2 hi, (hb i j).2 h, irr i⟩
    exact (hb k j).2 (tr _ _ _ ((hb k i).1 e) h)
  apply Classical.byContradiction
  intro hne
  rcases tot i j hne with h | h
  · have := mono i j hi hj h; omega
  · have := mono j i hj hi h; omega
theorem less_inj (g : Nat → Int) (size : Nat) (down : Bool) (n i j : Nat) (hi : i < n) (hj : j < n) (e : aheadN (lessB g size down) n i = aheadN (lessB g size down) n j) : i = j :=
  aheadN_inj (ltS (ahL g size down)) _ n (lessB_iff g size down) (lessB_irr g size down) (ltS_trans (ahL_weak g size down)) (fun i j h => ltS_tot i j h) i j hi hj e
theorem less_order (g : Nat → Int) (size : Nat) (down : Bool) (n : Nat) (out : List Nat) (hl : out.length = n) (ho : ∀ i, i < n → out.getD (aheadN (lessB g size down) n i) 0 = i) : InOrder (ltS (ahL g size down)) n out :=
  InOrder.of_counts _ _ n out (fun i j _ _ => lessB_iff g size down i j) (lessB_irr g size down) (ltS_asym (ahL_weak g size down)) (ltS_trans (ahL_weak g size down)) (fun i j _ _ h => ltS_tot i j h) hl ho
end Go.Proofs.YtmojpbfkpggjhaaGreatDoor

/-
  Contracts of the document's answer of layer 16: items and cells compared, and places in order. No statement is proved here.
-/
namespace Go.Proofs.YtmojpbfkpggjhaaGreatDoor
open Go Go.RowKit
set_option linter.unusedVariables false
set_option linter.unusedSimpArgs false
set_option maxHeartbeats 4000000
attribute [local irreducible] CW RW QW SW HW ConM retM heldQ calmQ elemP thenQ blockQ loopQ joinQ retQ Yields Con Sl zF magR unitF truncF fwF wholeF tidySpec elemQ rankF leastN tidyW
set_option maxHeartbeats 4000000

/-- what an item is put in order by -/
def gI {β : Type} (x : ItemD β) : Int := if x.kind = 0 then zF x.num else x.char
def d0I {β : Type} : ItemD β := ⟨0, 0, 0, []⟩
section
variable {α : Type} {R : GHeap → List Value → α → Prop}
theorem ref16Below_con (c1 c2 : List Value) (x y : ItemD α) (w : World) (h : GHeap) (h1 : ItemAt R h c1 x) (h2 : ItemAt R h c2 y) (hk : x.kind = y.kind) (hf : x.kind = 0 → finF x.num ∧ finF y.num) : Con Tryz.prog 192 [.agg c1.toArray, .agg c2.toArray] w h (fun _ u => u = .bool (decide (gI x < gI y))) := by
  have o1 := ItemAt.one _ _ _ h1
  have o2 := ItemAt.one _ _ _ h2
  obtain ⟨b1, rfl, _, _⟩ := h1
  obtain ⟨b2, rfl, _, _⟩ := h2
  refine Con.of_body Tryz.func192 rfl Tryz.ntmps192 rfl rfl ?_
  intro hs
  refine Zrun ?_
  refine RW.boxN hs rfl rfl ?_
  intro k1 w1 hs
  refine Zrun ?_
  refine RW.boxN hs rfl rfl ?_
  intro k2 w2 hs
  by_cases c : x.kind = 0
  · obtain ⟨f1, f2⟩ := hf c
    have e1 : gI x = zF x.num := by unfold gI; rw [if_pos c]
    have e2 : gI y = zF y.num := by unfold gI; rw [if_pos (hk ▸ c)]
    refine Zerun ?_
    refine RW.val (Y.fLss f1 f2 rfl rfl) rfl ?_
    refine Zerun ?_
    exact retQ_ret [_] h ⟨rfl, trivial⟩ hs.dropAll (by rw [e1, e2]; rfl)
  · have e1 : gI x = x.char := by unfold gI; rw [if_neg c]
    have e2 : gI y = y.char := by unfold gI; rw [if_neg (hk ▸ c)]
    refine Zerun ?_
    exact retQ_ret [_] h ⟨rfl, trivial⟩ hs.dropAll (by rw [e1, e2]; rfl)
theorem ref16Cells_con (sv : Value) (l : List (ItemD α)) (c : Int) (size i k : Nat) (w : World) (h : GHeap) (hl : RowsAt 4 (ItemAt R h) h sv l) (hu : ∀ x ∈ l, x.kind = c ∧ (c = 0 → finF x.num)) (hm : l.length ≤ 1048576) (hi : i * size + size ≤ l.length) (hk : k * size + size ≤ l.length) (hi2 : i ≤ 1048576) (hk2 : k ≤ 1048576) :
    Con Tryz.prog 177 [sv, .int .i64 (size : Int), .int .i64 (i : Int), .int .i64 (k : Int)] w h (fun _ u => u = .int .i64 (lexC (fun j => gI (l.getD j d0I)) size i k size)) := by
  obtain ⟨ad, cp, xs, rfl, hS, hA⟩ := hl
  obtain ⟨a, ha⟩ : ∃ a : Nat, i * size = a := ⟨_, rfl⟩
  obtain ⟨b, hb⟩ : ∃ b : Nat, k * size = b := ⟨_, rfl⟩
  have hza : (i : Int) * (size : Int) = (a : Int) := by rw [← ha]; exact (Int.natCast_mul _ _).symm
  have hzb : (k : Int) * (size : Int) = (b : Int) := by rw [← hb]; exact (Int.natCast_mul _ _).symm
  rw [ha] at hi
  rw [hb] at hk
  obtain ⟨g, hg⟩ : ∃ g : Nat → Int, (fun j => gI (l.getD j d0I)) = g := ⟨_, rfl⟩
  have hgj : ∀ j, gI (l.getD j d0I) = g j := fun j => by rw [← hg]
  rw [hg]
  refine Con.of_body Tryz.func177 rfl Tryz.ntmps177 rfl rfl ?_
  intro hs
  refine Zrun ?_
  refine CW.loop (fun m : Nat => [(0, .slice ad l.length cp), (1, .int .i64 (size : Int)), (2, .int .i64 (i : Int)), (3, .int .i64 (k : Int)), (9, .int .i64 m)]) (fun m w' => m ≤ size ∧ lexC g size i k m = 0 ∧ Sees w h h [] w') (fun m => size - m) 0 ⟨rfl, rfl, rfl, rfl, rfl, trivial⟩ ⟨by omega, rfl, hs⟩ ?_
  rintro m w2 ⟨hm2, hz, hs⟩
  by_cases hlt : m < size
  · have j1 : a + m < l.length := by omega
    have j2 : b + m < l.length := by omega
    obtain ⟨hy, hyl⟩ := hA.get d0I (a + m) j1
    obtain ⟨hz2, hzl⟩ := hA.get d0I (b + m) j2
    obtain ⟨y, hyE⟩ : ∃ y, (xs.drop ((a + m) * 4)).take 4 = y := ⟨_, rfl⟩
    obtain ⟨z, hzE⟩ : ∃ z, (xs.drop ((b + m) * 4)).take 4 = z := ⟨_, rfl⟩
    rw [hyE] at hy hyl
    rw [hzE] at hz2 hzl
    have u1 := hu _ (mem_getD l _ d0I j1)
    have u2 := hu _ (mem_getD l _ d0I j2)
    have q1 : g (i * size + m) = gI (l.getD (a + m) d0I) := by rw [ha, hgj]
    have q2 : g (k * size + m) = gI (l.getD (b + m) d0I) := by rw [hb, hgj]
    generalize l.getD (a + m) d0I = X1 at *
    generalize l.getD (b + m) d0I = X2 at *
    have hkk : X1.kind = X2.kind := by rw [u1.1, u2.1]
    have hff : X1.kind = 0 → finF X1.num ∧ finF X2.num := fun e => ⟨u1.2 (by rw [← u1.1]; exact e), u2.2 (by rw [← u1.1]; exact e)⟩
    refine Zerun ?_
    refine CW.regionQ T hs ?_ (by kernel_rfl)
    refine Zeqrun ?_
    refine QW.val (fun _ _ => Y.mul rfl rfl ⟨by rw [hza]; omega, by rw [hza]; omega⟩) rfl ?_
    rw [hza]
    refine Zeqrun ?_
    refine Zeqrun ?_
    refine QW.val (fun _ _ => Y.mul rfl rfl ⟨by rw [hzb]; omega, by rw [hzb]; omega⟩) rfl ?_
    rw [hzb]
    refine Zeqrun ?_
    refine QW.call T hs rfl rfl rfl (fun w => ref16Below_con y z X1 X2 w h hy hz2 hkk hff) ?_
    refine Zeqrun ?_
    intro w3 hs
    by_cases c1 : gI X1 < gI X2
    · rw [decide_eq_true c1]
      refine Zerun ?_
      exact retQ_ret [_] h ⟨rfl, trivial⟩ hs.dropAll (by rw [lexC_less g size i k m hz hlt (by rw [q1, q2]; exact c1)]; rfl)
    · rw [decide_eq_false c1]
      refine Zerun ?_
      refine CW.regionQ T hs ?_ (by kernel_rfl)
      refine Zeqrun ?_
      refine QW.val (fun _ _ => Y.mul rfl rfl ⟨by rw [hzb]; omega, by rw [hzb]; omega⟩) rfl ?_
      rw [hzb]
      refine Zeqrun ?_
      refine Zeqrun ?_
      refine QW.val (fun _ _ => Y.mul rfl rfl ⟨by rw [hza]; omega, by rw [hza]; omega⟩) rfl ?_
      rw [hza]
      refine Zeqrun ?_
      refine QW.call T hs rfl rfl rfl (fun w => ref16Below_con z y X2 X1 w h hz2 hy hkk.symm (fun e => ⟨(hff (hkk.trans e)).2, (hff (hkk.trans e)).1⟩)) ?_
      refine Zeqrun ?_
      intro w4 hs
      by_cases c2 : gI X2 < gI X1
      · rw [decide_eq_true c2]
        refine Zerun ?_
        exact retQ_ret [_] h ⟨rfl, trivial⟩ hs.dropAll (by rw [lexC_more g size i k m hz hlt (by rw [q1, q2]; exact c2)]; rfl)
      · rw [decide_eq_false c2]
        refine Zerun ?_
        exact loopQ_round (m + 1) ⟨rfl, rfl, rfl, rfl, rfl, trivial⟩ ⟨by omega, lexC_same g size i k m hz (by rw [q1, q2]; exact c1) (by rw [q1, q2]; exact c2), hs⟩ (by omega)
  · obtain rfl : m = size := by omega
    refine Zerun ?_
    exact retQ_ret [_] h ⟨rfl, trivial⟩ hs.dropAll (by rw [hz]; rfl)
theorem ref16Less_con (sv : Value) (l : List (ItemD α)) (c : Int) (size i k : Nat) (down : Bool) (w : World) (h : GHeap) (hl : RowsAt 4 (ItemAt R h) h sv l) (hu : ∀ x ∈ l, x.kind = c ∧ (c = 0 → finF x.num)) (hm : l.length ≤ 1048576) (hi : i * size + size ≤ l.length) (hk : k * size + size ≤ l.length) (hi2 : i ≤ 1048576) (hk2 : k ≤ 1048576) :
    Con Tryz.prog 143 [sv, .int .i64 (size : Int), .int .i64 (i : Int), .int .i64 (k : Int), .bool down] w h (fun _ u => u = .bool (lessB (fun j => gI (l.getD j d0I)) size down i k)) := by
  have hl' := hl
  obtain ⟨ad, cp, xs, rfl, hS, hA⟩ := hl
  obtain ⟨z, hz⟩ : ∃ z, lexC (fun j => gI (l.getD j d0I)) size i k size = z := ⟨_, rfl⟩
  have hzr := lexC_rng (fun j => gI (l.getD j d0I)) size i k size
  rw [hz] at hzr
  unfold lessB turnC
  rw [hz]
  refine Con.of_body Tryz.func143 rfl Tryz.ntmps143 rfl rfl ?_
  intro hs
  refine Zrun ?_
  (refine RW.call T hs rfl rfl rfl (ref16Cells_con _ l c size i k _ _ hl' hu hm hi hk hi2 hk2) ?_; intro v h1 w1 hle1 hp1 hs)
  rw [hz] at hp1
  subst hp1
  cases down with
  | true =>
    rw [if_pos rfl]
    by_cases c1 : 0 - z < 0
    · refine Zerun ?_
      exact retQ_ret [_] h1 ⟨rfl, trivial⟩ hs.dropAll (by simp only [packv]; first | exact congrArg _ (decide_eq_decide.2 (by omega)) | exact congrArg _ (decide_eq_true (by omega)).symm | exact congrArg _ (decide_eq_false (by omega)).symm)
    · by_cases c2 : 0 - z = 0
      · by_cases c3 : (i : Int) < k
        · refine Zerun ?_
          exact retQ_ret [_] h1 ⟨rfl, trivial⟩ hs.dropAll (by simp only [packv]; first | exact congrArg _ (decide_eq_decide.2 (by omega)) | exact congrArg _ (decide_eq_true (by omega)).symm | exact congrArg _ (decide_eq_false (by omega)).symm)
        · refine Zerun ?_
          exact retQ_ret [_] h1 ⟨rfl, trivial⟩ hs.dropAll (by simp only [packv]; first | exact congrArg _ (decide_eq_decide.2 (by omega)) | exact congrArg _ (decide_eq_true (by omega)).symm | exact congrArg _ (decide_eq_false (by omega)).symm)
      · refine Zerun ?_
        exact retQ_ret [_] h1 ⟨rfl, trivial⟩ hs.dropAll (by simp only [packv]; first | exact congrArg _ (decide_eq_decide.2 (by omega)) | exact congrArg _ (decide_eq_true (by omega)).symm | exact congrArg _ (decide_eq_false (by omega)).symm)
  | false =>
    rw [if_neg (by decide)]
    by_cases c1 : z < 0
    · refine Zerun ?_
      exact retQ_ret [_] h1 ⟨rfl, trivial⟩ hs.dropAll (by simp only [packv]; first | exact congrArg _ (decide_eq_decide.2 (by omega)) | exact congrArg _ (decide_eq_true (by omega)).symm | exact congrArg _ (decide_eq_false (by omega)).symm)
    · by_cases c2 : z = 0
      · by_cases c3 : (i : Int) < k
        · refine Zerun ?_
          exact retQ_ret [_] h1 ⟨rfl, trivial⟩ hs.dropAll (by simp only [packv]; first | exact congrArg _ (decide_eq_decide.2 (by omega)) | exact congrArg _ (decide_eq_true (by omega)).symm | exact congrArg _ (decide_eq_false (by omega)).symm)
        · refine Zerun ?_
          exact retQ_ret [_] h1 ⟨rfl, trivial⟩ hs.dropAll (by simp only [packv]; first | exact congrArg _ (decide_eq_decide.2 (by omega)) | exact congrArg _ (decide_eq_true (by omega)).symm | exact congrArg _ (decide_eq_false (by omega)).symm)
      · refine Zerun ?_
        exact retQ_ret [_] h1 ⟨rfl, trivial⟩ hs.dropAll (by simp only [packv]; first | exact congrArg _ (decide_eq_decide.2 (by omega)) | exact congrArg _ (decide_eq_true (by omega)).symm | exact congrArg _ (decide_eq_false (by omega)).symm)
end
end Go.Proofs.YtmojpbfkpggjhaaGreatDoor

/-
  Contract of the document's answer of layer 16: the one list of places in order. No statement is proved here.
-/
namespace Go.Proofs.YtmojpbfkpggjhaaGreatDoor
open Go Go.RowKit
set_option linter.unusedVariables false
set_option linter.unusedSimpArgs false
set_option maxHeartbeats 4000000
attribute [local irreducible] CW RW QW SW HW ConM retM heldQ calmQ elemP thenQ blockQ loopQ joinQ retQ Yields Con Sl zF magR unitF truncF fwF wholeF tidySpec elemQ rankF leastN tidyW
set_option maxHeartbeats 4000000

section
variable {α : Type} {R : GHeap → List Value → α → Prop}
theorem RowsAt.grow {γ : Type} {sz : Nat} {S : GHeap → List Value → γ → Prop} (hR : Mono S) {h h' : GHeap} {v : Value} {l : List γ} (hl : GLe h h') (hr : RowsAt sz (S h) h v l) : RowsAt sz (S h') h' v l := hr.mono hl (fun u a => hR _ _ u a hl)
theorem ref16Grade_con (hR : Mono R) (sv : Value) (l : List (ItemD α)) (c : Int) (size : Nat) (down : Bool) (w : World) (h : GHeap) (hl : RowsAt 4 (ItemAt R h) h sv l) (hu : ∀ x ∈ l, x.kind = c ∧ (c = 0 → finF x.num)) (hm : l.length ≤ 1048576) (hs1 : 1 ≤ size) (hs2 : size ≤ 1048576) :
    Con Tryz.prog 87 [sv, .int .i64 (size : Int), .bool down] w h (fun h' u => ∃ out, IntsAt h' u (natsI out) ∧ InOrder (ltS (ahL (fun j => gI (l.getD j d0I)) size down)) (l.length / size) out) := by
  have hl' := hl
  obtain ⟨ad, cp, xs, rfl, hS, hA⟩ := hl
  obtain ⟨n, hn⟩ : ∃ n, l.length / size = n := ⟨_, rfl⟩
  have hq : (l.length : Int) / (size : Int) = (n : Int) := by rw [← hn]; rfl
  have hn1 : n ≤ l.length := by rw [← hn]; exact Nat.div_le_self _ _
  have hfit : ∀ i, i < n → i * size + size ≤ l.length := by
    intro i hi
    have h1 : (i + 1) * size ≤ n * size := Nat.mul_le_mul_right _ hi
    have h2 : n * size ≤ l.length := by rw [← hn]; exact Nat.div_mul_le_self _ _
    rw [Nat.add_mul] at h1
    omega
  obtain ⟨b, hb⟩ : ∃ b, lessB (fun j => gI (l.getD j d0I)) size down = b := ⟨_, rfl⟩
  have inj : ∀ i j, i < n → j < n → aheadN b n i = aheadN b n j → i = j := by
    intro i j hi hj e
    rw [← hb] at e
    exact less_inj _ size down n i j hi hj e
  have irr : ∀ i, b i i = false := by intro i; rw [← hb]; exact lessB_irr _ _ _ i
  rw [hn]
  refine Con.of_body Tryz.func87 rfl Tryz.ntmps87 rfl rfl ?_
  intro hs
  refine Zrun ?_
  rw [hq]
  refine Zerun ?_
  (refine RW.make1 T hs rfl rfl rfl rfl rfl rfl rfl (by dsimp only; omega) (by omega) ?_; intro b3 w3 hs)
  have hs := hs.re (ys := (natsI (List.replicate n 0)).map (Value.int .i64)) (by unfold natsI; rw [List.map_replicate, List.map_replicate]; rfl)
  refine Zerun ?_
  refine CW.loop (fun u : Nat × List Nat × GHeap => [(0, .slice ad l.length cp), (1, .int .i64 (size : Int)), (2, .bool down), (7, .int .i64 n), (8, .slice (some ⟨b3, 0, none⟩) n n), (9, .int .i64 u.1)]) (fun u w' => u.1 ≤ n ∧ u.2.1.length = n ∧ (∀ i, i < u.1 → u.2.1.getD (aheadN b n i) 0 = i) ∧ GLe h u.2.2 ∧ Sees w h u.2.2 [⟨some ⟨b3, 0, none⟩, n, n, 3, 1, (natsI u.2.1).map (Value.int .i64)⟩] w') (fun u => n - u.1) (0, List.replicate n 0, h) ⟨rfl, rfl, rfl, rfl, rfl, rfl, trivial⟩ ⟨by omega, List.length_replicate, fun i hi => absurd hi (Nat.not_lt_zero _), GLe.refl _, hs⟩ ?_
  rintro ⟨i, out, hh⟩ w4 ⟨hi, hol, hpl, hg, hs⟩
  dsimp only at hi hol hpl hg hs ⊢
  by_cases hlt : i < n
  · have hat := aheadN_lt b irr n i hlt
    refine Zerun ?_
    refine CW.meetB (fun h' : GHeap => [(0, .slice ad l.length cp), (1, .int .i64 (size : Int)), (2, .bool down), (7, .int .i64 n), (8, .slice (some ⟨b3, 0, none⟩) n n), (9, .int .i64 i), (10, .int .i64 (aheadN b n i : Nat))]) (fun h' w' => GLe h h' ∧ Sees w h h' [⟨some ⟨b3, 0, none⟩, n, n, 3, 1, (natsI out).map (Value.int .i64)⟩] w') ?_ ?_
    · refine CW.loop (fun u : Nat × GHeap => [(0, .slice ad l.length cp), (1, .int .i64 (size : Int)), (2, .bool down), (7, .int .i64 n), (8, .slice (some ⟨b3, 0, none⟩) n n), (9, .int .i64 i), (10, .int .i64 (aheadN b u.1 i : Nat)), (11, .int .i64 u.1)]) (fun u w' => u.1 ≤ n ∧ GLe h u.2 ∧ Sees w h u.2 [⟨some ⟨b3, 0, none⟩, n, n, 3, 1, (natsI out).map (Value.int .i64)⟩] w') (fun u => n - u.1) (0, hh) ⟨rfl, rfl, rfl, rfl, rfl, rfl, rfl, rfl, trivial⟩ ⟨by omega, hg, hs⟩ ?_
      rintro ⟨k, h5⟩ w5 ⟨hk, hg5, hs⟩
      dsimp only at hk hg5 hs ⊢
      have hsu := aheadN_succ b k i
      have hcb : aheadN b k i ≤ k := Nat.le_trans List.countP_le_length (by rw [List.length_range]; exact Nat.le_refl _)
      generalize hax : aheadN b k i = ax at *
      by_cases hlt2 : k < n
      · by_cases e : k = i
        · subst e
          rw [irr k, if_neg (by decide)] at hsu
          refine Zerun ?_
          exact loopQ_round (k + 1, h5) ⟨rfl, rfl, rfl, rfl, rfl, rfl, seti (by dsimp only; omega), rfl, trivial⟩ ⟨by dsimp only; omega, hg5, hs⟩ (by dsimp only; omega)
        · refine Zerun ?_
          (refine RW.call T hs rfl rfl rfl (ref16Less_con _ l c size k i down _ _ (hl'.grow (ItemAt.mono hR) hg5) hu hm (hfit k hlt2) (hfit i hlt) (by omega) (by omega)) ?_; intro v h6 w6 hle6 hp6 hs)
          rw [hb] at hp6
          subst hp6
          cases hbb : b k i with
          | true =>
            rw [hbb, if_pos rfl] at hsu
            refine Zerun ?_
            exact loopQ_round (k + 1, h6) ⟨rfl, rfl, rfl, rfl, rfl, rfl, seti (by dsimp only; omega), rfl, trivial⟩ ⟨by dsimp only; omega, hg5.trans hle6, hs⟩ (by dsimp only; omega)
          | false =>
            rw [hbb, if_neg (by decide)] at hsu
            refine Zerun ?_
            exact loopQ_round (k + 1, h6) ⟨rfl, rfl, rfl, rfl, rfl, rfl, seti (by dsimp only; omega), rfl, trivial⟩ ⟨by dsimp only; omega, hg5.trans hle6, hs⟩ (by dsimp only; omega)
      · obtain rfl : k = n := by omega
        refine Zerun ?_
        exact joinQ_meet h5 ⟨rfl, rfl, rfl, rfl, rfl, rfl, seti (by omega), trivial⟩ ⟨hg5, hs⟩
    rintro h7 w7 ⟨hg7, hs⟩
    generalize hax : aheadN b n i = ax at *
    refine Zerun ?_
    refine RW.val (Y.idxRN T hs 0 rfl rfl rfl rfl rfl rfl hat) rfl ?_
    refine RW.st1 T hs 0 rfl rfl rfl rfl rfl rfl rfl hat ?_
    intro w8 hs
    have hs := hs.re (ys := (natsI (out.set ax i)).map (Value.int .i64)) (by rw [← natsI_set, List.map_set])
    refine Zerun ?_
    refine loopQ_round (i + 1, out.set ax i, h7) ⟨rfl, rfl, rfl, rfl, rfl, rfl, trivial⟩ ⟨by dsimp only; omega, by dsimp only; rw [List.length_set]; exact hol, fun j hj => ?_, hg7, hs⟩ (by dsimp only; omega)
    dsimp only at hj ⊢
    by_cases e : j = i
    · subst e
      rw [hax, List.getD_eq_getElem?_getD, List.getElem?_set_self (by omega)]; rfl
    · have hne : ax ≠ aheadN b n j := fun e2 => e (inj j i (by omega) hlt (by rw [hax]; exact e2.symm))
      rw [List.getD_eq_getElem?_getD, List.getElem?_set_ne hne, ← List.getD_eq_getElem?_getD]
      exact hpl j (by omega)
  · obtain rfl : i = n := by omega
    obtain ⟨h9, hle9, hs, hI9⟩ := freezeI (l := natsI out) hs (by rw [natsI_len, hol])
    refine Zerun ?_
    refine retQ_ret [_] h9 ⟨rfl, trivial⟩ hs.dropAll ⟨out, hI9, ?_⟩
    refine less_order _ size down i out hol ?_
    rw [hb]
    exact hpl
end
end Go.Proofs.YtmojpbfkpggjhaaGreatDoor

/-
  Contracts of the law's own functions of layer 7: which arrays are alike. No statement is proved here.
-/
namespace Go.Proofs.YtmojpbfkpggjhaaGreatDoor
open Go Go.RowKit
set_option linter.unusedVariables false
set_option linter.unusedSimpArgs false
set_option maxHeartbeats 4000000
attribute [local irreducible] CW RW QW SW HW ConM retM heldQ calmQ elemP thenQ blockQ loopQ joinQ retQ Yields Con Sl zF magR unitF truncF fwF wholeF tidySpec elemQ rankF leastN tidyW
set_option maxHeartbeats 4000000

theorem arr_items (k : Nat) (d : Int) (p : PD (k + 1)) (h : chk (k + 1) d p = 0) : itemsV (plain k) (ArrD.vec (α := AD k) (arr (k + 1) p)) = PlainD.items (α := PD k) (tidy (k + 1) p) :=
  congrArg (PlainD.items (α := PD k)) (plain_arr (k + 1) d p h)
end Go.Proofs.YtmojpbfkpggjhaaGreatDoor

/-
  Contract of radix.Grade for every store: places in the order of their elements. No statement is proved here.
-/
namespace Go.Proofs.YtmojpbfkpggjhaaGreatDoor
open Go Go.RowKit
set_option linter.unusedVariables false
set_option linter.unusedSimpArgs false
set_option maxHeartbeats 4000000
attribute [local irreducible] CW RW QW SW HW ConM retM heldQ calmQ elemP thenQ blockQ loopQ joinQ retQ Yields Con Sl zF magR unitF truncF fwF wholeF tidySpec elemQ rankF leastN tidyW
set_option maxHeartbeats 4000000

/-- what an element is put in order by -/
def gV {α : Type} (v : VecD α) (i : Nat) : Int := if v.kind = 5 then v.chars.getD i 0 else zF (v.nums.getD i 0)
theorem zF_bitF (b : Bool) : zF (bitF b) = if b then (unitF : Int) else 0 := by
  cases b
  · exact zF0
  · exact zF1
theorem zF_lt_whole (x y : Nat) (a b : Int) (hx : wholeF x = (a, true)) (hy : wholeF y = (b, true)) : (a < b ↔ zF x < zF y) ∧ -9007199254740992 ≤ a ∧ -9007199254740992 ≤ b := by
  obtain ⟨e1, r1, _⟩ := (wholeF_iff x a).1 hx
  obtain ⟨e2, r2, _⟩ := (wholeF_iff y b).1 hy
  have hu : (0 : Int) < (unitF : Int) := by have := unitF_pos; omega
  refine ⟨?_, r1, r2⟩
  rw [e1, e2]
  constructor
  · intro h
    exact Int.mul_lt_mul_of_pos_right h hu
  · intro h
    exact Int.lt_of_mul_lt_mul_right h (Int.le_of_lt hu)
section
variable {α : Type} {R : GHeap → List Value → α → Prop}
theorem keys_gV {h : GHeap} {cs : List Value} {v : VecD α} (hv : VecAt R h cs v) (hk : v.kind = 1 ∨ v.kind = 2 ∨ v.kind = 3 ∨ v.kind = 5) (hc : ∀ c ∈ v.chars, -2147483648 ≤ c ∧ c < 2147483648) :
    (keysV v).length = v.len ∧ ∀ i j, i < v.len → j < v.len → ((keysV v).getD i 0 < (keysV v).getD j 0 ↔ gV v i < gV v j) := by
  have hs := hv.sorts
  unfold VecD.cls at hs
  by_cases k5 : v.kind = 5
  · have hl : v.len = v.chars.length := by
      rcases hs with ⟨e, _⟩ | ⟨_, e⟩ | ⟨e, _⟩
      · rw [if_pos k5] at e; omega
      · exact e
      · rw [if_pos k5] at e; omega
    have e : keysV v = v.chars.map keyC := by unfold keysV; rw [if_neg (by omega), if_pos k5]
    refine ⟨by rw [e, List.length_map, hl], fun i j hi hj => ?_⟩
    unfold gV
    rw [e, if_pos k5, if_pos k5]
    have g : ∀ i, i < v.len → (v.chars.map keyC).getD i 0 = keyC (v.chars.getD i 0) := by
      intro i hi
      rw [List.getD_eq_getElem?_getD, List.getD_eq_getElem?_getD, List.getElem?_map, List.getElem?_eq_getElem (by omega)]; rfl
    rw [g i hi, g j hj]
    have r1 := hc _ (mem_getD v.chars i 0 (by omega))
    have r2 := hc _ (mem_getD v.chars j 0 (by omega))
    unfold keyC
    omega
  · have hw := hv.wholes (by omega)
    have hl : v.len = v.nums.length := by
      rcases hs with ⟨_, e⟩ | ⟨e, _⟩ | ⟨e, _⟩
      · exact e
      · rw [if_neg k5, if_neg (by omega)] at e; omega
      · rw [if_neg k5, if_neg (by omega)] at e; omega
    have e : keysV v = v.nums.map (fun x => keyI (wholeF x).1) := by unfold keysV; rw [if_pos (by omega)]
    refine ⟨by rw [e, List.length_map, hl], fun i j hi hj => ?_⟩
    unfold gV
    rw [e, if_neg k5, if_neg k5]
    have g : ∀ i, i < v.len → (v.nums.map (fun x => keyI (wholeF x).1)).getD i 0 = keyI (wholeF (v.nums.getD i 0)).1 := by
      intro i hi
      rw [List.getD_eq_getElem?_getD, List.getD_eq_getElem?_getD, List.getElem?_map, List.getElem?_eq_getElem (by omega)]; rfl
    rw [g i hi, g j hj]
    have w1 := hw _ (mem_getD v.nums i 0 (by omega))
    have w2 := hw _ (mem_getD v.nums j 0 (by omega))
    generalize v.nums.getD i 0 = X1 at *
    generalize v.nums.getD j 0 = X2 at *
    obtain ⟨hz, r1, r2⟩ := zF_lt_whole X1 X2 (wholeF X1).1 (wholeF X2).1 (by rw [← w1]) (by rw [← w2])
    rw [← hz]
    unfold keyI
    omega
theorem bitsG_order (bs : List Bool) (down : Bool) (g : Nat → Int) (hg : ∀ i, i < bs.length → g i = zF (bitF (bs.getD i false))) : ∃ out, bitsG bs down = natsI out ∧ InOrder (ltS (ahL g 1 down)) bs.length out := by
  have hu : (0 : Int) < (unitF : Int) := by have := unitF_pos; omega
  have hl : ∀ i j, lexC g 1 i j 1 = cmpZ (g i) (g j) := by intro i j; unfold lexC; unfold lexC; simp
  unfold bitsG
  rw [onesTo_filter, onesL_not]
  cases down with
  | false =>
    refine ⟨((List.range bs.length).filter fun i => !bs.getD i false) ++ (List.range bs.length).filter fun i => bs.getD i false, ?_, ?_⟩
    · rw [if_neg (by decide)]; unfold natsI; rw [List.map_append]
    · refine bits_order (fun i => bs.getD i false) bs.length _ (fun i j hi hj hh => ?_)
      rw [ltS_ahL, hl, if_neg (by decide), hg i hi, hg j hj, zF_bitF, zF_bitF]
      rcases hh with ⟨a, b⟩ | ⟨a, b⟩
      · rw [a, b]; left; rw [cmpZ_neg]; exact hu
      · rw [a]; right; exact ⟨(cmpZ_zero _ _).2 rfl, b⟩
  | true =>
    refine ⟨((List.range bs.length).filter fun i => bs.getD i false) ++ (List.range bs.length).filter fun i => !bs.getD i false, ?_, ?_⟩
    · rw [if_pos rfl]; unfold natsI; rw [List.map_append]
    · have := bits_order (fun i => !bs.getD i false) bs.length (ltS (ahL g 1 true)) (fun i j hi hj hh => by
        rw [ltS_ahL, hl, if_pos rfl, hg i hi, hg j hj, zF_bitF, zF_bitF]
        rcases hh with ⟨a, b⟩ | ⟨a, b⟩
        · have a : bs.getD i false = true := by simpa using a
          have b : bs.getD j false = false := by simpa using b
          rw [a, b]; left; have := (cmpZ_pos (unitF : Int) 0).2 hu; simp only [if_true, Bool.false_eq_true, if_false]; omega
        · have a : bs.getD i false = bs.getD j false := by simpa using a
          rw [a]; right; exact ⟨by rw [(cmpZ_zero _ _).2 rfl]; rfl, b⟩)
      simp only [Bool.not_not] at this
      exact this
theorem radixGrade_con (hR : Mono R) (cs : List Value) (v : VecD α) (down : Bool) (w : World) (h : GHeap) (hT : TzTab h) (hv : VecAt R h cs v) (hm : v.len ≤ 1048576) (hc : ∀ c ∈ v.chars, -2147483648 ≤ c ∧ c < 2147483648) (hk0 : v.kind ≠ 0) :
    Con Tryz.prog 141 [.agg cs.toArray, .bool down] w h (fun h' u => ((v.kind ≠ 4 ∧ v.kind ≠ 6) ∧ ∃ s out, u = .tuple #[s, .bool true] ∧ IntsAt h' s (natsI out) ∧ InOrder (ltS (ahL (gV v) 1 down)) v.len out) ∨ ((v.kind = 4 ∨ v.kind = 6) ∧ u = .tuple #[.slice none 0 0, .bool false])) := by
  have hkr : 0 ≤ v.kind ∧ v.kind ≤ 6 := by
    obtain ⟨_, _, _, _, _, _, _, _, hh⟩ := hv
    rcases hh with ⟨e, _⟩ | ⟨e, _⟩ | ⟨e, _⟩ | ⟨e, _⟩ | ⟨e, _⟩ | ⟨e, _⟩ | ⟨e, _⟩ <;> omega
  by_cases c1 : v.kind = 2 ∨ v.kind = 3 ∨ v.kind = 5
  · obtain ⟨hkl, hkg⟩ := keys_gV hv (by omega) hc
    refine (radixGradeK_con hR cs v down w h hv hm hc c1).mono (fun h' u _ hp => .inl ⟨by omega, ?_⟩)
    obtain ⟨s, out, rfl, hI, hord⟩ := hp
    rw [hkl] at hord
    exact ⟨s, out, rfl, hI, hord.imp (fun i j hi hj hij => ltP_ltS _ _ down i j (hkg i j hi hj) (hkg j i hj hi) hij)⟩
  have hv' := hv
  obtain ⟨wv, nv, sm, il, fl, ch, bx, ⟨rfl, hoc⟩, -⟩ := hv
  refine Con.of_body Tryz.func141 rfl Tryz.ntmps141 rfl rfl ?_
  intro hs
  refine Zrun ?_
  (refine RW.boxN hs rfl rfl ?_; intro b1 w1 hs)
  refine Zerun ?_
  (refine RW.call T hs rfl rfl rfl (vecPacked_con _ v _ _ hv') ?_; intro v h2 w2 hle2 hp2 hs)
  obtain ⟨wb, bs, rfl, hb2, hb3, _⟩ := hp2
  have hwo : wb.oneCell' = true := by obtain ⟨_, ws, ⟨_, _, rfl, _⟩, _⟩ := hb2; rfl
  have hv' := hv'.mono hR hle2
  have hT := hT.mono hle2
  by_cases k1 : v.kind = 1
  · rw [decide_eq_true k1]
    refine Zerun ?_
    (refine RW.allocN T hs rfl rfl rfl rfl ?_; intro b3 w3 hs)
    refine RW.storeAll T hs 0 rfl rfl rfl rfl rfl rfl (by show (wb.oneCell' && (true && true)) = true; rw [hwo]; rfl) rfl ?_
    intro w4 hs
    refine Zerun ?_
    have hve := hb3 k1
    have hgv : ∀ i, i < bs.length → gV v i = zF (bitF (bs.getD i false)) := by
      intro i hi
      unfold gV
      rw [if_neg (by omega), hve]
      show zF ((bs.map bitF).getD i 0) = _
      rw [List.getD_eq_getElem?_getD, List.getD_eq_getElem?_getD, List.getElem?_map, List.getElem?_eq_getElem hi]; rfl
    obtain ⟨out, ho1, ho2⟩ := bitsG_order bs down (gV v) hgv
    have hlen : v.len = bs.length := by rw [hve]; show (bs.map bitF).length + 0 + 0 = _; rw [List.length_map]; omega
    (refine RW.call T hs rfl rfl rfl (radixBits_con _ bs down _ _ hT hb2) ?_; intro v h5 w5 hle5 hp5 hs)
    rw [ho1] at hp5
    have hI5 := hp5
    obtain ⟨ad5, cp5, rfl, _⟩ := hp5
    refine Zerun ?_
    exact retQ_ret [_, _] h5 ⟨rfl, rfl, trivial⟩ hs.dropAll (.inl ⟨by omega, _, out, rfl, hI5, by rw [hlen]; exact ho2⟩)
  · rw [decide_eq_false k1]
    refine Zerun ?_
    (refine RW.allocN T hs rfl rfl rfl rfl ?_; intro b3 w3 hs)
    refine RW.storeAll T hs 0 rfl rfl rfl rfl rfl rfl (by show (wb.oneCell' && (true && true)) = true; rw [hwo]; rfl) rfl ?_
    intro w4 hs
    refine Zerun ?_
    (refine RW.call T hs rfl rfl rfl (radixKeys_con hR _ v _ _ hv' hm hc) ?_; intro v h5 w5 hle5 hp5 hs)
    obtain ⟨s5, rfl, hU5⟩ := hp5
    rw [decide_eq_false (show ¬ (v.kind = 1 ∨ v.kind = 2 ∨ v.kind = 3 ∨ v.kind = 5) by omega)]
    obtain ⟨ad, cp, rfl, hS5⟩ := hU5
    refine Zerun ?_
    exact retQ_ret [_, _] h5 ⟨rfl, rfl, trivial⟩ hs.dropAll (.inr ⟨by omega, rfl⟩)
/-- elements and items are put in order by the same -/
theorem gI_gV {β : Type} (f : α → β) (v : VecD α) (hc : v.cls = 0 ∨ v.cls = 1) (i : Nat) (hi : i < (itemsV f v).length) : gI ((itemsV f v).getD i d0I) = gV v i := by
  unfold gV
  rcases hc with hc | hc
  · have k5 : ¬ v.kind = 5 := by unfold VecD.cls at hc; intro e; rw [if_pos e] at hc; omega
    rw [itemsV_c0 f hc, List.length_map] at hi
    rw [if_neg k5, itemsV_c0 f hc, List.getD_eq_getElem?_getD, List.getD_eq_getElem?_getD, List.getElem?_map, List.getElem?_eq_getElem hi]
    rfl
  · have k5 : v.kind = 5 := by unfold VecD.cls at hc; apply Classical.byContradiction; intro e; rw [if_neg e] at hc; split at hc <;> omega
    rw [itemsV_c1 f hc, List.length_map] at hi
    rw [if_pos k5, itemsV_c1 f hc, List.getD_eq_getElem?_getD, List.getD_eq_getElem?_getD, List.getElem?_map, List.getElem?_eq_getElem hi]
    rfl
theorem itemsV_even {h : GHeap} {cs : List Value} {β : Type} (f : α → β) {v : VecD α} (hv : VecAt R h cs v) : ∀ x ∈ itemsV f v, x.kind = v.cls ∧ (v.cls = 0 → finF x.num) := by
  have ht := hv.tidy
  intro x hx
  by_cases c1 : v.cls = 1
  · rw [itemsV_c1 f c1] at hx
    obtain ⟨y, _, rfl⟩ := List.mem_map.1 hx
    exact ⟨c1.symm, fun e => by omega⟩
  · by_cases c2 : v.cls = 2
    · rw [itemsV_c2 f c2] at hx
      obtain ⟨y, _, rfl⟩ := List.mem_map.1 hx
      exact ⟨c2.symm, fun e => by omega⟩
    · have c0 : v.cls = 0 := by unfold VecD.cls at *; split <;> simp_all
      rw [itemsV_c0 f c0] at hx
      obtain ⟨y, hy, rfl⟩ := List.mem_map.1 hx
      exact ⟨c0.symm, fun _ => (ht y hy).2.1⟩
end
/-- orders by keys that are the same on the places at hand -/
theorem ltS_congr {f g : Nat → Int} {size : Nat} {down : Bool} {i j : Nat} (h : ∀ m, m < size → f (i * size + m) = g (i * size + m) ∧ f (j * size + m) = g (j * size + m)) (hl : ltS (ahL f size down) i j) : ltS (ahL g size down) i j := by
  rw [ltS_ahL] at hl ⊢
  rwa [lexC_congr f g size i j size (Nat.le_refl _) h] at hl
end Go.Proofs.YtmojpbfkpggjhaaGreatDoor

/-
  Contracts of package merge: a run put in order one by one. No statement is proved here.
-/
namespace Go.Proofs.YtmojpbfkpggjhaaGreatDoor
open Go Go.RowKit
set_option linter.unusedVariables false
set_option linter.unusedSimpArgs false
set_option maxHeartbeats 4000000
attribute [local irreducible] CW RW QW SW HW ConM retM heldQ calmQ elemP thenQ blockQ loopQ joinQ retQ Yields Con Sl zF magR unitF truncF fwF wholeF tidySpec elemQ rankF leastN tidyW
set_option maxHeartbeats 4000000

section
variable {P : Program} (T : Tab P) {n : Nat} {L : Env} {w0 w : World} {h0 h : GHeap} {O : List Row} {ops rest : List Oper} {K : Env → Prop}
variable {d : Option Tmp} {ty : TypeId} {pos : String} {aft : Array Edge}
attribute [local semireducible] QW Con
/-- a call of a function's value whose answer hangs on nothing that the order may turn -/
theorem QW.callV (_hs : Sees w0 h0 h O w) {f : FuncId} {l : List Operand} {vs fi ca : List Value} {cl : Operand} (hcl : opv L cl = some (.func (.func f) fi.toArray ca.toArray)) (hargs : opvs L l = some vs) (hf : T.call f = true) (hd : dstOk n d = true) {ats : Array TypeId} {v : Value} (hc : ∀ w, Con P f (fi ++ vs ++ ca) w h (fun _ u => u = v))
    (hk : QW P n ops (Sees w0 h0 h O) K (updo d v L) rest) :
    QW P n ops (Sees w0 h0 h O) K L (⟨d, .call ⟨.value cl, l.toArray, ats⟩, ty, pos, aft, none⟩ :: rest) := by
  intro a ha
  unfold wpQuiet
  rw [if_pos (by simp [Region.wanted])]
  refine ⟨v, fun w1 hs => ?_, hk _ (ha.put v hd)⟩
  obtain ⟨fn, hfn, hname, hbody⟩ := T.call_ok f hf
  have hrun : (execOp a.eval ⟨d, .call ⟨.value cl, l.toArray, ats⟩, ty, pos, aft, none⟩).run P w1 = .ok (.enter f (fi ++ vs ++ ca).toArray) w1 := by
    have hargs' : l.map a.eval = vs := ha.evals hargs
    have hname' : ¬ fn.name = "runtime.NumGoroutine" := by simpa using hname
    have hbody' : ¬ fn.body = none := fun e => by rw [e] at hbody; simp at hbody
    simp [execOp, resolve, Deferred.ofValue, ha.eval hcl, invoke, callFunc, hfn, hname', hbody', ← hargs']
  unfold Oper.quietAt
  rw [hrun]
  refine ⟨rfl, (hc w1 hs.agree).mono ?_⟩
  rintro e w' ⟨u, h', rfl, hs', rfl⟩
  exact ⟨rfl, hs.weaken (hs.call hs') hs'.le⟩
end
/-- what a comparison, handed over as a function, has to be -/
def AheadOk (P : Program) (F : FuncId) (ca : List Value) (ah : Nat → Nat → Bool) (N : Nat) (h : GHeap) : Prop := ∀ (i k : Nat) (w : World) (h' : GHeap), GLe h h' → i < N → k < N → Con P F ([] ++ [.int .i64 (i : Int), .int .i64 (k : Int)] ++ ca) w h' (fun _ u => u = .bool (ah i k))
theorem AheadOk.mono {P : Program} {F : FuncId} {ca : List Value} {ah : Nat → Nat → Bool} {N : Nat} {h h' : GHeap} (hl : GLe h h') (ho : AheadOk P F ca ah N h) : AheadOk P F ca ah N h' := fun i k w h2 hl2 hi hk => ho i k w h2 (hl.trans hl2) hi hk
/-- the cells of a row of places -/
def rowN (l : List Nat) : List Value := (natsI l).map (Value.int .i64)
theorem rowN_len (l : List Nat) : (rowN l).length = l.length := by unfold rowN natsI; rw [List.length_map, List.length_map]
theorem rowN_get (l : List Nat) (j v : Nat) (h : l[j]? = some v) : (rowN l)[j]? = some (.int .i64 (v : Int)) := by
  unfold rowN natsI; rw [List.getElem?_map, List.getElem?_map, h]; rfl
theorem rowN_set (l : List Nat) (j v : Nat) : (rowN l).set j (.int .i64 (v : Int)) = rowN (l.set j v) := by unfold rowN; rw [← natsI_set, List.map_set]
theorem rowN_take (l : List Nat) (j : Nat) : (rowN l).take j = rowN (l.take j) := by unfold rowN natsI; rw [List.map_take, List.map_take]
theorem rowN_drop (l : List Nat) (j : Nat) : (rowN l).drop j = rowN (l.drop j) := by unfold rowN natsI; rw [List.map_drop, List.map_drop]
theorem rowN_app (l m : List Nat) : rowN l ++ rowN m = rowN (l ++ m) := by unfold rowN natsI; rw [List.map_append, List.map_append]
theorem rowN_one (l : List Nat) : ∀ u ∈ rowN l, u.oneCell' = true := by
  intro u hu
  obtain ⟨x, _, rfl⟩ := List.mem_map.1 hu
  rfl
/-- a part moved on by one, and a place put at its head -/
theorem copy_put (A P1 P2 R : List Nat) (x o : Nat) (ho : o = A.length + P1.length + 1 ∨ P2 = []) : (((A ++ P1 ++ P2 ++ x :: R).take o ++ P2 ++ (A ++ P1 ++ P2 ++ x :: R).drop (o + P2.length)).set (A.length + P1.length) x) = A ++ putIn (P1 ++ P2) P1.length x ++ R := by
  have hp : putIn (P1 ++ P2) P1.length x = P1 ++ x :: P2 := by unfold putIn; rw [List.take_left, List.drop_left]
  rw [hp]
  cases P2 with
  | nil =>
    rw [List.append_nil, List.length_nil, Nat.add_zero, List.append_nil, List.take_append_drop]
    rw [show A.length + P1.length = (A ++ P1).length by rw [List.length_append]]
    simp
  | cons y Q =>
    have ho : o = A.length + P1.length + 1 := by
      rcases ho with h | h
      · exact h
      · cases h
    subst ho
    have e1 : (A ++ P1 ++ (y :: Q) ++ x :: R).take (A.length + P1.length + 1) = A ++ P1 ++ [y] := by
      rw [show A ++ P1 ++ (y :: Q) ++ x :: R = (A ++ P1 ++ [y]) ++ (Q ++ x :: R) by simp]
      exact List.take_left' (by simp; omega)
    have e2 : (A ++ P1 ++ (y :: Q) ++ x :: R).drop (A.length + P1.length + 1 + (y :: Q).length) = R := by
      rw [show A ++ P1 ++ (y :: Q) ++ x :: R = (A ++ P1 ++ (y :: Q) ++ [x]) ++ R by simp]
      exact List.drop_left' (by simp; omega)
    rw [e1, e2, show A.length + P1.length = (A ++ P1).length by rw [List.length_append]]
    simp
theorem mergeInsert_conM (F : FuncId) (ca : List Value) (ah : Nat → Nat → Bool) (hw : WeakOrd ah) (N b frm m cp n : Nat) (A B : List Nat) (w0 w : World) (h0 h : GHeap) (hF : T.call F = true) (hc : AheadOk Tryz.prog F ca ah N h) (hA : A.length = frm) (hB : B.length + frm + m = n) (hm : 1 ≤ m) (hcp : m ≤ cp) (hcn : frm + cp ≤ n) (hN : frm + m ≤ N) (hn : n ≤ 1048576) :
    ConM Tryz.prog 190 [.slice (some ⟨b, frm, none⟩) m cp, .func (.func F) #[] ca.toArray] w0 h0 h [⟨some ⟨b, 0, none⟩, n, n, 3, 1, rowN (A ++ List.range' frm m ++ B)⟩] w
      (fun _ O' _ => ∃ S, O' = [⟨some ⟨b, 0, none⟩, n, n, 3, 1, rowN (A ++ S ++ B)⟩] ∧ InSeg ah frm (frm + m) S) := by
  refine ConM.of_body Tryz.func190 rfl Tryz.ntmps190 rfl rfl ?_
  intro hs
  have hs := hs.re (ys := rowN (A ++ [frm] ++ List.range' (frm + 1) (m - 1) ++ B)) (by
    obtain ⟨q, rfl⟩ : ∃ q, m = q + 1 := ⟨m - 1, by omega⟩
    rw [List.range'_succ, Nat.add_sub_cancel]
    simp)
  refine Zrun ?_
  refine CW.loop (fun u : Nat × List Nat × GHeap => [(0, .slice (some ⟨b, frm, none⟩) m cp), (1, .func (.func F) #[] ca.toArray), (4, .int .i64 u.1)]) (fun u w' => 1 ≤ u.1 ∧ u.1 ≤ m ∧ InSeg ah frm (frm + u.1) u.2.1 ∧ GLe h u.2.2 ∧ Sees w0 h0 u.2.2 [⟨some ⟨b, 0, none⟩, n, n, 3, 1, rowN (A ++ u.2.1 ++ List.range' (frm + u.1) (m - u.1) ++ B)⟩] w') (fun u => m - u.1) (1, [frm], h) ⟨rfl, rfl, rfl, trivial⟩ ⟨by dsimp only; omega, hm, InSeg.one ah frm, GLe.refl _, hs⟩ ?_
  rintro ⟨j, S, hh⟩ w2 ⟨hj1, hjm, hS, hg, hs⟩
  dsimp only at hj1 hjm hS hg hs ⊢
  have hSl : S.length = j := by rw [hS.len]; omega
  by_cases hlt : j < m
  · obtain ⟨R, hR⟩ : ∃ R, List.range' (frm + j) (m - j) ++ B = (frm + j) :: R := by
      obtain ⟨q, hq⟩ : ∃ q, m - j = q + 1 := ⟨m - j - 1, by omega⟩
      rw [hq, List.range'_succ]
      exact ⟨_, rfl⟩
    have hR2 : R = List.range' (frm + (j + 1)) (m - (j + 1)) ++ B := by
      obtain ⟨q, hq⟩ : ∃ q, m - j = q + 1 := ⟨m - j - 1, by omega⟩
      rw [hq, List.range'_succ, List.cons_append, List.cons.injEq] at hR
      rw [show m - (j + 1) = q by omega]
      exact hR.2.symm
    have hs := hs.re (ys := rowN (A ++ S ++ (frm + j) :: R)) (by rw [List.append_assoc, hR])
    have gx : (rowN (A ++ S ++ (frm + j) :: R))[frm + j]? = some (.int .i64 ((frm + j : Nat) : Int)) := rowN_get _ _ _ (by
      rw [List.getElem?_append_right (by rw [List.length_append]; omega), List.length_append, show frm + j - (A.length + S.length) = 0 by omega]; rfl)
    refine Zerun ?_
    refine RW.val (Y.idxSub T (u := j) rfl rfl rfl rfl rfl hlt) rfl ?_
    refine RW.val (Y.ldR T hs 0 rfl rfl rfl rfl (by omega) gx) rfl ?_
    refine Zerun ?_
    refine CW.meetB (fun u : Nat × GHeap => [(0, .slice (some ⟨b, frm, none⟩) m cp), (1, .func (.func F) #[] ca.toArray), (4, .int .i64 j), (5, .int .i64 ((frm + j : Nat) : Int)), (6, .int .i64 u.1)]) (fun u w' => u.1 ≤ j ∧ (∀ q, u.1 ≤ q → q < S.length → ah (frm + j) (S.getD q 0) = true) ∧ (0 < u.1 → ah (frm + j) (S.getD (u.1 - 1) 0) = false) ∧ GLe h u.2 ∧ Sees w0 h0 u.2 [⟨some ⟨b, 0, none⟩, n, n, 3, 1, rowN (A ++ S ++ (frm + j) :: R)⟩] w') ?_ ?_
    · refine CW.loop (fun u : Nat × GHeap => [(0, .slice (some ⟨b, frm, none⟩) m cp), (1, .func (.func F) #[] ca.toArray), (4, .int .i64 j), (5, .int .i64 ((frm + j : Nat) : Int)), (6, .int .i64 u.1)]) (fun u w' => u.1 ≤ j ∧ (∀ q, u.1 ≤ q → q < S.length → ah (frm + j) (S.getD q 0) = true) ∧ GLe h u.2 ∧ Sees w0 h0 u.2 [⟨some ⟨b, 0, none⟩, n, n, 3, 1, rowN (A ++ S ++ (frm + j) :: R)⟩] w') (fun u => u.1) (j, hh) ⟨rfl, rfl, rfl, rfl, rfl, trivial⟩ ⟨Nat.le_refl _, fun q h1 h2 => by omega, hg, hs⟩ ?_
      rintro ⟨k, h3⟩ w3 ⟨hk, hall, hg3, hs⟩
      dsimp only at hk hall hg3 hs ⊢
      by_cases c0 : 0 < k
      · have gk : (rowN (A ++ S ++ (frm + j) :: R))[frm + (k - 1)]? = some (.int .i64 ((S.getD (k - 1) 0 : Nat) : Int)) := rowN_get _ _ _ (by
          rw [List.getElem?_append_left (by rw [List.length_append]; omega), List.getElem?_append_right (by omega), show frm + (k - 1) - A.length = k - 1 by omega, List.getD_eq_getElem?_getD, List.getElem?_eq_getElem (by omega)]; rfl)
        have hmem := ((hS.mem _).1 (mem_of_getD (s := S) (j := k - 1) (by omega))).2
        refine Zerun ?_
        rw [show (k : Int) - 1 = ((k - 1 : Nat) : Int) by omega]
        refine RW.val (Y.idxSub T (u := k - 1) rfl rfl rfl rfl rfl (by omega)) rfl ?_
        refine RW.guardYes rfl rfl ?_
        refine RW.val (Y.ldR T hs 0 rfl rfl rfl rfl (by omega) gk) rfl ?_
        refine RW.guardYes rfl rfl ?_
        refine RW.callV T hs (fi := []) (ca := ca) rfl rfl hF rfl (hc (frm + j) (S.getD (k - 1) 0) _ _ hg3 (by omega) (by omega)) ?_
        intro v h5 w5 hle5 hp5 hs
        subst hp5
        cases hb : ah (frm + j) (S.getD (k - 1) 0) with
        | true =>
          refine Zerun ?_
          refine loopQ_round (k - 1, h5) ⟨rfl, rfl, rfl, rfl, seti (by dsimp only; omega), trivial⟩ ⟨by dsimp only; omega, fun q h1 h2 => ?_, hg3.trans hle5, hs⟩ (by dsimp only; omega)
          dsimp only at h1
          by_cases e : q = k - 1
          · rw [e]; exact hb
          · exact hall q (by omega) h2
        | false =>
          refine Zerun ?_
          exact joinQ_meet (k, h5) ⟨rfl, rfl, rfl, rfl, rfl, trivial⟩ ⟨hk, hall, fun _ => hb, hg3.trans hle5, hs⟩
      · obtain rfl : k = 0 := by omega
        refine Zerun ?_
        exact joinQ_meet (0, h3) ⟨rfl, rfl, rfl, rfl, rfl, trivial⟩ ⟨hk, hall, fun e => absurd e (Nat.lt_irrefl 0), hg3, hs⟩
    rintro ⟨k, h6⟩ w6 ⟨hk, hall, hlo, hg6, hs⟩
    dsimp only at hk hall hlo hg6 hs ⊢
    obtain ⟨q1, hq1, hq1a, hq1b⟩ := subAd_some b frm (k + 1) cp
    obtain ⟨q2, hq2, hq2a, _⟩ := subAd_some b frm k cp
    have hins := hS.insert hw (by omega) (by omega) hall hlo
    obtain ⟨P1, hP1⟩ : ∃ P1, S.take k = P1 := ⟨_, rfl⟩
    obtain ⟨P2, hP2⟩ : ∃ P2, S.drop k = P2 := ⟨_, rfl⟩
    have hS12 : S = P1 ++ P2 := by rw [← hP1, ← hP2, List.take_append_drop]
    have hl1 : P1.length = k := by rw [← hP1, List.length_take]; omega
    have hl2 : P2.length = j - k := by rw [← hP2, List.length_drop]; omega
    have hq2e : q2 = frm + k := hq2a (by omega)
    have hput := copy_put A P1 P2 R (frm + j) q1 (by
      by_cases e : cp = k + 1
      · right; exact List.eq_nil_of_length_eq_zero (by omega)
      · left; have := hq1a e; omega)
    rw [hl1, hA] at hput
    have hs := hs.re (ys := rowN (A ++ P1 ++ P2 ++ (frm + j) :: R)) (by rw [hS12]; simp only [List.append_assoc])
    have hsrc : ∀ (i : Nat) (v : Value), (rowN P2)[i]? = some v → (rowN (A ++ P1 ++ P2 ++ (frm + j) :: R))[q2 + i]? = some v := by
      intro i v hi
      have hil : i < P2.length := by rw [← rowN_len]; exact (List.getElem?_eq_some_iff.1 hi).1
      rw [← rowN_app, ← rowN_app, List.getElem?_append_left (by rw [List.length_append, rowN_len, rowN_len, List.length_append]; omega), List.getElem?_append_right (by rw [rowN_len, List.length_append]; omega), rowN_len, List.length_append, show q2 + i - (A.length + P1.length) = i by omega]
      exact hi
    have hlen : (A ++ P1 ++ P2 ++ (frm + j) :: R).length = n := by have := hs.rowLen (k := 0) rfl; dsimp only at this; rw [rowN_len] at this; omega
    refine Zerun ?_
    refine CW.regionT T 10 hs ?_ (by kernel_rfl)
    intro w7 hs
    simp only [List.take_succ_cons, List.take_zero, List.drop_succ_cons, List.drop_zero]
    refine SW.val (Y.move rfl) rfl ?_
    refine SW.val (Y.move rfl) rfl ?_
    refine SW.val (Y.add rfl rfl ⟨by omega, by omega⟩) rfl ?_
    refine SW.val (Y.move rfl) rfl ?_
    refine SW.val (Y.add rfl rfl ⟨by omega, by omega⟩) rfl ?_
    refine SW.val (Y.sliceLH T rfl rfl rfl rfl rfl ⟨by omega, by omega, by omega⟩) rfl ?_
    refine SW.val (Y.move rfl) rfl ?_
    refine SW.val (Y.move rfl) rfl ?_
    refine SW.val (Y.move rfl) rfl ?_
    refine SW.val (Y.sliceLH T rfl rfl rfl rfl rfl ⟨by omega, by omega, by omega⟩) rfl ?_
    refine SW.nil ?_
    rw [show ((k : Int) + 1).toNat = k + 1 by omega, show ((j : Int) + 1).toNat = j + 1 by omega, Int.toNat_natCast, Int.toNat_natCast]
    refine RW.copyRow (news := rowN P2) (dLen := j + 1 - (k + 1)) (dCap := cp - (k + 1)) (sLen := j - k) (sCap := cp - k) T hs 0 rfl (by rw [← hq1]; rfl) (by rw [← hq2]; rfl) rfl rfl rfl rfl (by rw [rowN_len, hl2]; exact (Nat.min_eq_left (by omega)).symm) (hs.part 0 rfl hsrc) (rowN_one _) (by
      rw [rowN_len]
      by_cases e : cp = k + 1
      · have := hq1b e; omega
      · have := hq1a e; omega) ?_
    intro w8 hs
    have hs := hs.re (ys := rowN ((A ++ P1 ++ P2 ++ (frm + j) :: R).take q1 ++ P2 ++ (A ++ P1 ++ P2 ++ (frm + j) :: R).drop (q1 + P2.length))) (by rw [rowN_take, rowN_drop, rowN_len, rowN_app, rowN_app])
    refine Zerun ?_
    refine RW.val (Y.idxSub T (u := k) rfl rfl rfl rfl rfl (by omega)) rfl ?_
    refine RW.st1 T hs 0 rfl rfl rfl rfl rfl rfl rfl (by omega) ?_
    intro w9 hs
    have hs := hs.re (ys := rowN (A ++ putIn S k (frm + j) ++ List.range' (frm + (j + 1)) (m - (j + 1)) ++ B)) (by rw [rowN_set, hput, hS12, hR2, ← List.append_assoc])
    refine Zerun ?_
    exact loopQ_round (j + 1, putIn S k (frm + j), h6) ⟨rfl, rfl, rfl, trivial⟩ ⟨by dsimp only; omega, by dsimp only; omega, hins, hg6, hs⟩ (by dsimp only; omega)
  · obtain rfl : j = m := by omega
    refine Zerun ?_
    refine retM_end [] hh _ trivial hg hs ⟨S, ?_, hS⟩
    rw [Nat.sub_self, List.range'_zero, List.append_nil]
end Go.Proofs.YtmojpbfkpggjhaaGreatDoor

/-
  Contracts of package merge: two runs in order merged into one. No statement is proved here.
-/
namespace Go.Proofs.YtmojpbfkpggjhaaGreatDoor
open Go Go.RowKit
set_option linter.unusedVariables false
set_option linter.unusedSimpArgs false
set_option maxHeartbeats 4000000
attribute [local irreducible] CW RW QW SW HW ConM retM heldQ calmQ elemP thenQ blockQ loopQ joinQ retQ Yields Con Sl zF magR unitF truncF fwF wholeF tidySpec elemQ rankF leastN tidyW
set_option maxHeartbeats 4000000

theorem row_put (pX o pY pZ : List Nat) (x j : Nat) (hj : o.length = j) (hY : j < pY.length) : (pX ++ o ++ pY.drop j ++ pZ).set (pX.length + j) x = pX ++ (o ++ [x]) ++ pY.drop (j + 1) ++ pZ := by
  rw [drop_cons' pY j hY, show pX.length + j = (pX ++ o).length by rw [List.length_append, hj]]
  simp
theorem mergeJoin_conM (F : FuncId) (ca : List Value) (ah : Nat → Nat → Bool) (hw : WeakOrd ah) (N bs ba frm ma mb cs ca2 cb n : Nat) (adb : Option Addr) (pX pY pZ l s1 s2 : List Nat) (w0 w : World) (h0 h : GHeap) (hF : T.call F = true) (hc : AheadOk Tryz.prog F ca ah N h)
    (hX : pX.length = frm) (hY : pY.length = ma + mb) (hZ : pZ.length + (frm + ma + mb) = n) (hadb : 0 < mb → adb = some ⟨ba, frm + ma, none⟩) (h1 : InSeg ah frm (frm + ma) s1) (h2 : InSeg ah (frm + ma) (frm + ma + mb) s2) (g1 : ∀ j, j < ma → l[frm + j]? = some (s1.getD j 0)) (g2 : ∀ j, j < mb → l[frm + ma + j]? = some (s2.getD j 0)) (hN : frm + ma + mb ≤ N) (hn : n ≤ 1048576) :
    ConM Tryz.prog 191 [.slice (some ⟨bs, frm, none⟩) (ma + mb) cs, .slice (some ⟨ba, frm, none⟩) ma ca2, .slice adb mb cb, .func (.func F) #[] ca.toArray] w0 h0 h [⟨some ⟨bs, 0, none⟩, n, n, 3, 1, rowN (pX ++ pY ++ pZ)⟩, ⟨some ⟨ba, 0, none⟩, n, n, 3, 1, rowN l⟩] w
      (fun _ O' _ => ∃ o, O' = [⟨some ⟨bs, 0, none⟩, n, n, 3, 1, rowN (pX ++ o ++ pZ)⟩, ⟨some ⟨ba, 0, none⟩, n, n, 3, 1, rowN l⟩] ∧ InSeg ah frm (frm + ma + mb) o) := by
  have l1 : s1.length = ma := by rw [h1.len]; omega
  have l2 : s2.length = mb := by rw [h2.len]; omega
  refine ConM.of_body Tryz.func191 rfl Tryz.ntmps191 rfl rfl ?_
  intro hs
  have hs := hs.re (ys := rowN (pX ++ [] ++ pY.drop 0 ++ pZ)) (by rw [List.append_nil, List.drop_zero])
  refine Zrun ?_
  refine CW.loop (fun u : Nat × Nat × List Nat × GHeap => [(0, .slice (some ⟨bs, frm, none⟩) (ma + mb) cs), (1, .slice (some ⟨ba, frm, none⟩) ma ca2), (2, .slice adb mb cb), (3, .func (.func F) #[] ca.toArray), (8, .int .i64 u.1), (9, .int .i64 u.2.1), (12, .int .i64 ((ma + mb : Nat) : Int)), (13, .int .i64 ((u.1 + u.2.1 : Nat) : Int))]) (fun u w' => u.1 ≤ ma ∧ u.2.1 ≤ mb ∧ Merging ah s1 s2 u.1 u.2.1 u.2.2.1 ∧ GLe h u.2.2.2 ∧ Sees w0 h0 u.2.2.2 [⟨some ⟨bs, 0, none⟩, n, n, 3, 1, rowN (pX ++ u.2.2.1 ++ pY.drop (u.1 + u.2.1) ++ pZ)⟩, ⟨some ⟨ba, 0, none⟩, n, n, 3, 1, rowN l⟩] w') (fun u => ma + mb - (u.1 + u.2.1)) (0, 0, [], h) ⟨rfl, rfl, rfl, rfl, rfl, rfl, rfl, rfl, trivial⟩ ⟨by dsimp only; omega, by dsimp only; omega, Merging.start h1 h2, GLe.refl _, hs⟩ ?_
  rintro ⟨i, k, o, hh⟩ w2 ⟨hi, hk, hM, hg, hs⟩
  dsimp only at hi hk hM hg hs ⊢
  have hol : o.length = i + k := hM.len
  by_cases hlt : i + k < ma + mb
  · have takeLeft : ∀ hh', GLe h hh' → i < ma → (k < mb → ltS ah (s1.getD i 0) (s2.getD k 0)) → i + 1 ≤ ma ∧ k ≤ mb ∧ Merging ah s1 s2 (i + 1) k (o ++ [s1.getD i 0]) := fun hh' _ h3 h4 => ⟨h3, hk, hM.left hw (by omega) (by rw [l2]; exact h4)⟩
    have ga : i < ma → (rowN l)[frm + i]? = some (.int .i64 ((s1.getD i 0 : Nat) : Int)) := fun e => rowN_get _ _ _ (g1 i e)
    have gb : k < mb → (rowN l)[frm + ma + k]? = some (.int .i64 ((s2.getD k 0 : Nat) : Int)) := fun e => rowN_get _ _ _ (g2 k e)
    have m1 : i < ma → s1.getD i 0 < frm + ma := fun e => ((h1.mem _).1 (mem_of_getD (by omega))).2
    have m2 : k < mb → frm + ma ≤ s2.getD k 0 ∧ s2.getD k 0 < frm + ma + mb := fun e => (h2.mem _).1 (mem_of_getD (by omega))
    have hput : ∀ x, (pX ++ o ++ pY.drop (i + k) ++ pZ).set (frm + (i + k)) x = pX ++ (o ++ [x]) ++ pY.drop (i + k + 1) ++ pZ := fun x => by rw [← hX]; exact row_put pX o pY pZ x (i + k) hol (by omega)
    by_cases c1 : k = mb
    · have hia : i < ma := by omega
      have hM2 := hM.left hw (i := i) (by omega) (fun e => by omega)
      refine Zerun ?_
      refine CW.regionQ T hs ?_ (by kernel_rfl)
      refine Zeqrun ?_
      intro w3 hs
      refine Zerun ?_
      refine RW.val (Y.idxSub T (u := i) rfl rfl rfl rfl rfl hia) rfl ?_
      refine RW.val (Y.ldR T hs 1 rfl rfl rfl rfl (by omega) (ga hia)) rfl ?_
      refine RW.val (Y.idxSub T (u := i + k) rfl rfl rfl rfl rfl hlt) rfl ?_
      refine RW.st1 T hs 0 rfl rfl rfl rfl rfl rfl rfl (by omega) ?_
      intro w4 hs
      have hs := hs.re (ys := rowN (pX ++ (o ++ [s1.getD i 0]) ++ pY.drop (i + 1 + k) ++ pZ)) (by rw [rowN_set, hput, show i + 1 + k = i + k + 1 by omega])
      refine Zerun ?_
      exact loopQ_round (i + 1, k, o ++ [s1.getD i 0], hh) ⟨rfl, rfl, rfl, rfl, rfl, rfl, rfl, seti (by dsimp only; omega), trivial⟩ ⟨by dsimp only; omega, hk, hM2, hg, hs⟩ (by dsimp only; omega)
    · have hkb : k < mb := by omega
      obtain rfl := hadb (by omega)
      have hm2 := m2 hkb
      by_cases c2 : i < ma
      · have hm1 := m1 c2
        cases hb : ah (s2.getD k 0) (s1.getD i 0) with
        | true =>
          have hM2 := hM.right hw (k := k) (by omega) (fun _ => ltS_yes hb)
          refine Zerun ?_
          refine CW.regionQ T hs ?_ (by kernel_rfl)
          refine Zeqrun ?_
          refine QW.val (fun _ _ => Y.idxSub T (u := k) rfl rfl rfl rfl rfl hkb) rfl ?_
          refine Zeqrun ?_
          refine QW.val (fun _ hs => Y.ldR T hs 1 rfl rfl rfl rfl (by omega) (gb hkb)) rfl ?_
          refine Zeqrun ?_
          refine QW.val (fun _ _ => Y.idxSub T (u := i) rfl rfl rfl rfl rfl c2) rfl ?_
          refine Zeqrun ?_
          refine QW.val (fun _ hs => Y.ldR T hs 1 rfl rfl rfl rfl (by omega) (ga c2)) rfl ?_
          refine Zeqrun ?_
          refine QW.callV T hs (fi := []) (ca := ca) rfl rfl hF rfl (fun w => hc (s2.getD k 0) (s1.getD i 0) w _ hg (by omega) (by omega)) ?_
          rw [hb]
          refine Zeqrun ?_
          intro w3 hs
          refine Zerun ?_
          refine RW.val (Y.idxSub T (u := k) rfl rfl rfl rfl rfl hkb) rfl ?_
          refine RW.val (Y.ldR T hs 1 rfl rfl rfl rfl (by omega) (gb hkb)) rfl ?_
          refine RW.val (Y.idxSub T (u := i + k) rfl rfl rfl rfl rfl hlt) rfl ?_
          refine RW.st1 T hs 0 rfl rfl rfl rfl rfl rfl rfl (by omega) ?_
          intro w4 hs
          have hs := hs.re (ys := rowN (pX ++ (o ++ [s2.getD k 0]) ++ pY.drop (i + (k + 1)) ++ pZ)) (by rw [rowN_set, hput, show i + (k + 1) = i + k + 1 by omega])
          refine Zerun ?_
          exact loopQ_round (i, k + 1, o ++ [s2.getD k 0], hh) ⟨rfl, rfl, rfl, rfl, rfl, rfl, rfl, seti (by dsimp only; omega), trivial⟩ ⟨hi, by dsimp only; omega, hM2, hg, hs⟩ (by dsimp only; omega)
        | false =>
          have hM2 := hM.left hw (i := i) (by omega) (fun _ => ltS_no hb (by omega))
          refine Zerun ?_
          refine CW.regionQ T hs ?_ (by kernel_rfl)
          refine Zeqrun ?_
          refine QW.val (fun _ _ => Y.idxSub T (u := k) rfl rfl rfl rfl rfl hkb) rfl ?_
          refine Zeqrun ?_
          refine QW.val (fun _ hs => Y.ldR T hs 1 rfl rfl rfl rfl (by omega) (gb hkb)) rfl ?_
          refine Zeqrun ?_
          refine QW.val (fun _ _ => Y.idxSub T (u := i) rfl rfl rfl rfl rfl c2) rfl ?_
          refine Zeqrun ?_
          refine QW.val (fun _ hs => Y.ldR T hs 1 rfl rfl rfl rfl (by omega) (ga c2)) rfl ?_
          refine Zeqrun ?_
          refine QW.callV T hs (fi := []) (ca := ca) rfl rfl hF rfl (fun w => hc (s2.getD k 0) (s1.getD i 0) w _ hg (by omega) (by omega)) ?_
          rw [hb]
          refine Zeqrun ?_
          intro w3 hs
          refine Zerun ?_
          refine RW.val (Y.idxSub T (u := i) rfl rfl rfl rfl rfl c2) rfl ?_
          refine RW.val (Y.ldR T hs 1 rfl rfl rfl rfl (by omega) (ga c2)) rfl ?_
          refine RW.val (Y.idxSub T (u := i + k) rfl rfl rfl rfl rfl hlt) rfl ?_
          refine RW.st1 T hs 0 rfl rfl rfl rfl rfl rfl rfl (by omega) ?_
          intro w4 hs
          have hs := hs.re (ys := rowN (pX ++ (o ++ [s1.getD i 0]) ++ pY.drop (i + 1 + k) ++ pZ)) (by rw [rowN_set, hput, show i + 1 + k = i + k + 1 by omega])
          refine Zerun ?_
          exact loopQ_round (i + 1, k, o ++ [s1.getD i 0], hh) ⟨rfl, rfl, rfl, rfl, rfl, rfl, rfl, seti (by dsimp only; omega), trivial⟩ ⟨by dsimp only; omega, hk, hM2, hg, hs⟩ (by dsimp only; omega)
      · have hM2 := hM.right hw (k := k) (by omega) (fun e => by omega)
        refine Zerun ?_
        refine CW.regionQ T hs ?_ (by kernel_rfl)
        refine Zeqrun ?_
        intro w3 hs
        refine Zerun ?_
        refine RW.val (Y.idxSub T (u := k) rfl rfl rfl rfl rfl hkb) rfl ?_
        refine RW.val (Y.ldR T hs 1 rfl rfl rfl rfl (by omega) (gb hkb)) rfl ?_
        refine RW.val (Y.idxSub T (u := i + k) rfl rfl rfl rfl rfl hlt) rfl ?_
        refine RW.st1 T hs 0 rfl rfl rfl rfl rfl rfl rfl (by omega) ?_
        intro w4 hs
        have hs := hs.re (ys := rowN (pX ++ (o ++ [s2.getD k 0]) ++ pY.drop (i + (k + 1)) ++ pZ)) (by rw [rowN_set, hput, show i + (k + 1) = i + k + 1 by omega])
        refine Zerun ?_
        exact loopQ_round (i, k + 1, o ++ [s2.getD k 0], hh) ⟨rfl, rfl, rfl, rfl, rfl, rfl, rfl, seti (by dsimp only; omega), trivial⟩ ⟨hi, by dsimp only; omega, hM2, hg, hs⟩ (by dsimp only; omega)
  · obtain rfl : i = ma := by omega
    obtain rfl : k = mb := by omega
    refine Zerun ?_
    refine retM_end [] hh _ trivial hg hs ⟨o, ?_, ?_⟩
    · rw [List.drop_of_length_le (by omega), List.append_nil]
    · refine Merging.done h1 h2 (by omega) (by omega) ?_
      rw [l1, l2]
      exact hM
end Go.Proofs.YtmojpbfkpggjhaaGreatDoor

/-
  Contract of merge.Sort: places in the order of a comparison. No statement is proved here.
-/
namespace Go.Proofs.YtmojpbfkpggjhaaGreatDoor
open Go Go.RowKit
set_option linter.unusedVariables false
set_option linter.unusedSimpArgs false
set_option maxHeartbeats 4000000
attribute [local irreducible] CW RW QW SW HW ConM retM heldQ calmQ elemP thenQ blockQ loopQ joinQ retQ Yields Con Sl zF magR unitF truncF fwF wholeF tidySpec elemQ rankF leastN tidyW
set_option maxHeartbeats 4000000

theorem Runs.snoc {ah : Nat → Nat → Bool} {r n c : Nat} {A S : List Nat} (h : Runs ah r n (c * r) A) (hA : A.length = c * r) (hS : InSeg ah (c * r) (min (c * r + r) n) S) : Runs ah r n ((c + 1) * r) (A ++ S) := by
  intro q hq
  by_cases e : q = c
  · subst e
    have hl : S.length ≤ r := by rw [hS.len]; omega
    rw [show q * r = A.length by omega, List.drop_left, List.take_of_length_le hl, hA]
    exact hS
  · have hlt : q < c := by
      apply Classical.byContradiction
      intro hn
      have h1 : c + 1 ≤ q := by omega
      have := Nat.mul_le_mul_right r h1
      omega
    have h2 : (q + 1) * r ≤ c * r := Nat.mul_le_mul_right r hlt
    rw [Nat.add_mul, Nat.one_mul] at h2
    have h3 : 0 < r := by
      apply Classical.byContradiction
      intro hn
      have : r = 0 := by omega
      subst this
      omega
    have := h q (by omega)
    rw [List.drop_append_of_le_length (by omega), List.take_append_of_le_length (by rw [List.length_drop]; omega)]
    exact this
theorem Runs.cut {ah : Nat → Nat → Bool} {r n u v : Nat} {l : List Nat} (h : Runs ah r n u l) (hv : v ≤ u) : Runs ah r n v l := fun q hq => h q (by omega)
theorem mergeSort_con (F : FuncId) (ca : List Value) (ah : Nat → Nat → Bool) (hw : WeakOrd ah) (n : Nat) (w : World) (h : GHeap) (hF : T.call F = true) (hc : AheadOk Tryz.prog F ca ah n h) (hn : n ≤ 1048576) :
    Con Tryz.prog 175 [.int .i64 (n : Int), .func (.func F) #[] ca.toArray] w h (fun h' u => ∃ out, IntsAt h' u (natsI out) ∧ InOrder (ltS ah) n out) := by
  refine Con.of_body Tryz.func175 rfl Tryz.ntmps175 rfl rfl ?_
  intro hs
  refine Zrun ?_
  have e1 : max 0 (min (n : Int) 1048576) = (n : Int) := by omega
  rw [e1]
  (refine RW.make1 T hs rfl rfl rfl rfl rfl rfl rfl (by dsimp only; omega) (by omega) ?_; intro b3 w3 hs)
  have hs := hs.re (ys := rowN (List.range 0 ++ List.replicate (n - 0) 0)) (by unfold rowN natsI; rw [List.range_zero, List.nil_append, List.map_replicate, List.map_replicate]; rfl)
  refine Zerun ?_
  refine CW.meetB (fun _ : Unit => [(1, .func (.func F) #[] ca.toArray), (5, .slice (some ⟨b3, 0, none⟩) n n)]) (fun _ w' => Sees w h h [⟨some ⟨b3, 0, none⟩, n, n, 3, 1, rowN (List.range n)⟩] w') ?_ ?_
  · refine CW.loop (fun i : Nat => [(1, .func (.func F) #[] ca.toArray), (5, .slice (some ⟨b3, 0, none⟩) n n), (18, .int .i64 n), (19, .int .i64 i)]) (fun i w' => i ≤ n ∧ Sees w h h [⟨some ⟨b3, 0, none⟩, n, n, 3, 1, rowN (List.range i ++ List.replicate (n - i) 0)⟩] w') (fun i => n - i) 0 ⟨rfl, rfl, rfl, rfl, trivial⟩ ⟨by omega, hs⟩ ?_
    rintro i w4 ⟨hi, hs⟩
    by_cases hlt : i < n
    · refine Zerun ?_
      refine RW.val (Y.idxRN T hs 0 rfl rfl rfl rfl rfl rfl hlt) rfl ?_
      refine RW.st1 T hs 0 rfl rfl rfl rfl rfl rfl rfl hlt ?_
      intro w5 hs
      have hs := hs.re (ys := rowN (List.range (i + 1) ++ List.replicate (n - (i + 1)) 0)) (by rw [rowN_set, fillA' List.length_range hlt, List.range_succ])
      refine Zerun ?_
      exact loopQ_round (i + 1) ⟨rfl, rfl, rfl, rfl, trivial⟩ ⟨by omega, hs⟩ (by omega)
    · obtain rfl : i = n := by omega
      rw [Nat.sub_self, List.replicate_zero, List.append_nil] at hs
      refine Zerun ?_
      exact joinQ_meet () ⟨rfl, rfl, trivial⟩ hs
  rintro _ w6 hs
  have hs := hs.re (ys := rowN ([] ++ List.range' 0 (n - 0))) (by rw [List.range_eq_range', List.nil_append, Nat.sub_zero])
  refine Zerun ?_
  refine CW.meetB (fun u : List Nat × GHeap => [(1, .func (.func F) #[] ca.toArray), (5, .slice (some ⟨b3, 0, none⟩) n n)]) (fun u w' => u.1.length = n ∧ Runs ah 8 n n u.1 ∧ GLe h u.2 ∧ Sees w h u.2 [⟨some ⟨b3, 0, none⟩, n, n, 3, 1, rowN u.1⟩] w') ?_ ?_
  · refine CW.loop (fun u : Nat × List Nat × GHeap => [(1, .func (.func F) #[] ca.toArray), (5, .slice (some ⟨b3, 0, none⟩) n n), (7, .int .i64 ((u.1 * 8 : Nat) : Int))]) (fun u w' => u.1 * 8 < n + 8 ∧ u.2.1.length = min (u.1 * 8) n ∧ Runs ah 8 n (u.1 * 8) u.2.1 ∧ GLe h u.2.2 ∧ Sees w h u.2.2 [⟨some ⟨b3, 0, none⟩, n, n, 3, 1, rowN (u.2.1 ++ List.range' (u.2.1.length) (n - u.2.1.length))⟩] w') (fun u => n + 8 - u.1 * 8) (0, [], h) ⟨rfl, rfl, rfl, trivial⟩ ⟨by dsimp only; omega, by dsimp only; rw [Nat.zero_mul, Nat.zero_min]; rfl, Runs.none _ _ _ _, GLe.refl _, hs⟩ ?_
    rintro ⟨c, A, hh⟩ w7 ⟨hc8, hAl, hR, hg, hs⟩
    dsimp only at hc8 hAl hR hg hs ⊢
    by_cases hlt : c * 8 < n
    · have hA : A.length = c * 8 := by omega
      obtain ⟨m, hm⟩ : ∃ m, min (c * 8 + 8) n - c * 8 = m := ⟨_, rfl⟩
      have hmin : min (c * 8 + 8) n = c * 8 + m := by omega
      have hs := hs.re (ys := rowN (A ++ List.range' (c * 8) m ++ List.range' (c * 8 + m) (n - (c * 8 + m)))) (by rw [List.append_assoc, List.range'_append_1, hA, show m + (n - (c * 8 + m)) = n - c * 8 by omega])
      obtain ⟨q, hq, hqa, _⟩ := subAd_some b3 0 (c * 8) n
      have hqe : q = c * 8 := by have := hqa (by omega); omega
      rw [hqe] at hq
      refine Zerun ?_
      rw [show min (((c * 8 : Nat) : Int) + 8) (n : Int) = ((c * 8 + m : Nat) : Int) by omega]
      refine RW.val (Y.sliceLH T rfl rfl rfl rfl rfl ⟨by omega, by omega, by omega⟩) rfl ?_
      rw [Int.toNat_natCast, Int.toNat_natCast, show c * 8 + m - c * 8 = m by omega]
      refine RW.respell (v := .slice (some ⟨b3, c * 8, none⟩) m (n - c * 8)) (t := 40) rfl (by rw [← hq]) ?_
      refine Zerun ?_
      (refine RW.callM T hs rfl rfl rfl (mergeInsert_conM F ca ah hw n b3 (c * 8) m (n - c * 8) n A (List.range' (c * 8 + m) (n - (c * 8 + m))) _ _ _ _ hF (hc.mono hg) hA (by rw [List.length_range']; omega) (by omega) (by omega) (by omega) (by omega) hn) ?_; intro v h8 O8 w8 hle8 hp8 hs)
      obtain ⟨S, rfl, hS⟩ := hp8
      have hSl : S.length = m := by rw [hS.len]; omega
      have hR2 := hR.snoc hA (by rw [hmin]; exact hS)
      have hs := hs.re (ys := rowN ((A ++ S) ++ List.range' (A ++ S).length (n - (A ++ S).length))) (by rw [List.length_append, hA, hSl])
      refine Zerun ?_
      refine loopQ_round (c + 1, A ++ S, h8) ⟨rfl, rfl, seti (by dsimp only; omega), trivial⟩ ⟨by dsimp only; omega, by dsimp only; rw [List.length_append]; omega, hR2, hg.trans hle8, hs⟩ (by dsimp only; omega)
    · have hA : A.length = n := by omega
      have hs := hs.re (ys := rowN A) (by rw [hA, Nat.sub_self, List.range'_zero, List.append_nil])
      refine Zerun ?_
      exact joinQ_meet (A, hh) ⟨rfl, rfl, trivial⟩ ⟨hA, hR.cut (by omega), hg, hs⟩
  rintro ⟨l1, h9⟩ w9 ⟨hl1, hR1, hg9, hs⟩
  dsimp only at hl1 hR1 hg9 hs ⊢
  refine Zerun ?_
  (refine RW.make1 T hs rfl rfl rfl rfl rfl rfl rfl (by dsimp only; omega) (by omega) ?_; intro b10 w10 hs)
  have hs := hs.re (ys := rowN (List.replicate n 0)) (by unfold rowN natsI; rw [List.map_replicate, List.map_replicate]; rfl)
  refine Zerun ?_
  refine CW.loop (fun u : Nat × (List Nat × List Nat) × (Nat × Nat) × GHeap => [(1, .func (.func F) #[] ca.toArray), (5, .slice (some ⟨u.2.2.1.1, 0, none⟩) n n), (8, .slice (some ⟨u.2.2.1.2, 0, none⟩) n n), (9, .int .i64 u.1)]) (fun u w' => 8 ≤ u.1 ∧ u.1 ≤ 2097152 ∧ u.2.1.1.length = n ∧ u.2.1.2.length = n ∧ Runs ah u.1 n n u.2.1.1 ∧ GLe h u.2.2.2 ∧ Sees w h u.2.2.2 [⟨some ⟨u.2.2.1.2, 0, none⟩, n, n, 3, 1, rowN u.2.1.2⟩, ⟨some ⟨u.2.2.1.1, 0, none⟩, n, n, 3, 1, rowN u.2.1.1⟩] w') (fun u => n - u.1) (8, (l1, List.replicate n 0), (b3, b10), h9) ⟨rfl, rfl, rfl, rfl, trivial⟩ ⟨by dsimp only; omega, by dsimp only; omega, hl1, List.length_replicate, hR1, hg9, hs⟩ ?_
  rintro ⟨r, ⟨l, ls⟩, ⟨ba, bs⟩, h11⟩ w11 ⟨hr8, hrm, hl, hls, hR, hg, hs⟩
  dsimp only at hr8 hrm hl hls hR hg hs ⊢
  by_cases hrn : r < n
  · refine Zerun ?_
    have hs := hs.re (ys := rowN ([] ++ ls.drop ([] : List Nat).length)) (by simp)
    refine CW.meetB (fun u : List Nat × GHeap => [(1, .func (.func F) #[] ca.toArray), (5, .slice (some ⟨ba, 0, none⟩) n n), (8, .slice (some ⟨bs, 0, none⟩) n n), (9, .int .i64 r)]) (fun u w' => u.1.length = n ∧ Runs ah (2 * r) n n u.1 ∧ GLe h u.2 ∧ Sees w h u.2 [⟨some ⟨bs, 0, none⟩, n, n, 3, 1, rowN u.1⟩, ⟨some ⟨ba, 0, none⟩, n, n, 3, 1, rowN l⟩] w') ?_ ?_
    · refine CW.loop (fun u : Nat × List Nat × GHeap => [(1, .func (.func F) #[] ca.toArray), (5, .slice (some ⟨ba, 0, none⟩) n n), (8, .slice (some ⟨bs, 0, none⟩) n n), (9, .int .i64 r), (10, .int .i64 ((u.1 * (2 * r) : Nat) : Int))]) (fun u w' => u.1 * (2 * r) < n + 2 * r ∧ u.2.1.length = min (u.1 * (2 * r)) n ∧ Runs ah (2 * r) n (u.1 * (2 * r)) u.2.1 ∧ GLe h u.2.2 ∧ Sees w h u.2.2 [⟨some ⟨bs, 0, none⟩, n, n, 3, 1, rowN (u.2.1 ++ ls.drop u.2.1.length)⟩, ⟨some ⟨ba, 0, none⟩, n, n, 3, 1, rowN l⟩] w') (fun u => n + 2 * r - u.1 * (2 * r)) (0, [], h11) ⟨rfl, rfl, rfl, rfl, seti (by simp), trivial⟩ ⟨by dsimp only; omega, by dsimp only; rw [Nat.zero_mul, Nat.zero_min]; rfl, by dsimp only; rw [Nat.zero_mul]; exact Runs.none _ _ _ _, hg, hs⟩ ?_
      rintro ⟨c, M, h12⟩ w12 ⟨hcb, hMl, hRM, hg12, hs⟩
      dsimp only at hcb hMl hRM hg12 hs ⊢
      obtain ⟨frm, hfrm⟩ : ∃ frm, c * (2 * r) = frm := ⟨_, rfl⟩
      have hnext : (c + 1) * (2 * r) = frm + 2 * r := by rw [Nat.add_mul, hfrm, Nat.one_mul]
      have hR1 := hR (2 * c)
      have hR2 := hR (2 * c + 1)
      rw [show (2 * c + 1) * r = frm + r by rw [← hfrm, Nat.add_mul, Nat.one_mul, Nat.mul_comm 2 c, Nat.mul_assoc]] at hR2
      rw [show 2 * c * r = frm by rw [← hfrm, Nat.mul_comm 2 c, Nat.mul_assoc]] at hR1
      have hsn := fun S => Runs.snoc (S := S) hRM
      rw [hnext, hfrm] at hsn
      rw [hfrm] at hcb hMl hRM ⊢
      by_cases hlt : frm < n
      · have hM : M.length = frm := by omega
        obtain ⟨ma, hma⟩ : ∃ ma, min (frm + r) n - frm = ma := ⟨_, rfl⟩
        obtain ⟨mb, hmb⟩ : ∃ mb, min (frm + 2 * r) n - (frm + ma) = mb := ⟨_, rfl⟩
        have e1 : min (frm + r) n = frm + ma := by omega
        have e2 : min (frm + 2 * r) n = frm + ma + mb := by omega
        have i1 := hR1 hlt
        rw [e1] at i1
        obtain ⟨s1, hs1⟩ : ∃ s1, (l.drop frm).take r = s1 := ⟨_, rfl⟩
        obtain ⟨s2, hs2⟩ : ∃ s2, (l.drop (frm + ma)).take mb = s2 := ⟨_, rfl⟩
        rw [hs1] at i1
        have i2 : InSeg ah (frm + ma) (frm + ma + mb) s2 := by
          by_cases e : frm + r < n
          · have i2 := hR2 e
            have hmr : ma = r := by omega
            rw [hmr] at hs2 e2 ⊢
            rw [show min (frm + r + r) n = frm + r + mb by omega] at i2
            have hbr : mb ≤ r := by omega
            have : (l.drop (frm + r)).take r = s2 := by
              rw [← hs2]
              by_cases e3 : mb = r
              · rw [e3]
              · rw [List.take_of_length_le (by rw [List.length_drop]; omega), List.take_of_length_le (by rw [List.length_drop]; omega)]
            rw [this] at i2
            exact i2
          · have : mb = 0 := by omega
            rw [this, List.take_zero] at hs2
            rw [← hs2]
            exact InSeg.none _ _ _ (by omega)
        have g1 : ∀ j, j < ma → l[frm + j]? = some (s1.getD j 0) := by
          intro j hj
          rw [← hs1, List.getD_eq_getElem?_getD, List.getElem?_take, if_pos (by omega), List.getElem?_drop, List.getElem?_eq_getElem (by omega)]; rfl
        have g2 : ∀ j, j < mb → l[frm + ma + j]? = some (s2.getD j 0) := by
          intro j hj
          rw [← hs2, List.getD_eq_getElem?_getD, List.getElem?_take, if_pos (by omega), List.getElem?_drop, List.getElem?_eq_getElem (by omega)]; rfl
        obtain ⟨q1, hq1, hq1a, _⟩ := subAd_some bs 0 frm n
        obtain ⟨q2, hq2, hq2a, _⟩ := subAd_some ba 0 frm n
        obtain ⟨q3, hq3, hq3a, _⟩ := subAd_some ba 0 (frm + ma) n
        have hq1e : q1 = frm := by have := hq1a (by omega); omega
        have hq2e : q2 = frm := by have := hq2a (by omega); omega
        rw [hq1e] at hq1
        rw [hq2e] at hq2
        have hs := hs.re (ys := rowN (M ++ (ls.drop frm).take (ma + mb) ++ ls.drop (frm + ma + mb))) (by
          rw [hM, List.append_assoc, show frm + ma + mb = frm + (ma + mb) by omega, ← List.drop_drop, List.take_append_drop])
        refine Zerun ?_
        rw [show min ((frm : Int) + (r : Int)) (n : Int) = ((frm + ma : Nat) : Int) by omega]
        refine Zerun ?_
        refine RW.val (Y.mul rfl rfl ⟨by omega, by omega⟩) rfl ?_
        refine Zerun ?_
        rw [show min ((frm : Int) + 2 * (r : Int)) (n : Int) = ((frm + ma + mb : Nat) : Int) by omega]
        refine Zerun ?_
        refine CW.regionT T 13 hs ?_ (by kernel_rfl)
        intro w14 hs
        simp only [List.take_succ_cons, List.take_zero, List.drop_succ_cons, List.drop_zero]
        refine SW.val (Y.move rfl) rfl ?_
        refine SW.val (Y.move rfl) rfl ?_
        refine SW.val (Y.move rfl) rfl ?_
        refine SW.val (Y.sliceLH T rfl rfl rfl rfl rfl ⟨by omega, by omega, by omega⟩) rfl ?_
        refine SW.val (Y.move rfl) rfl ?_
        refine SW.val (Y.move rfl) rfl ?_
        refine SW.val (Y.move rfl) rfl ?_
        refine SW.val (Y.sliceLH T rfl rfl rfl rfl rfl ⟨by omega, by omega, by omega⟩) rfl ?_
        refine SW.val (Y.move rfl) rfl ?_
        refine SW.val (Y.move rfl) rfl ?_
        refine SW.val (Y.move rfl) rfl ?_
        refine SW.val (Y.sliceLH T rfl rfl rfl rfl rfl ⟨by omega, by omega, by omega⟩) rfl ?_
        refine SW.val (Y.move rfl) rfl ?_
        refine SW.nil ?_
        simp only [Int.toNat_natCast]
        rw [show frm + ma + mb - frm = ma + mb by omega, show frm + ma - frm = ma by omega, show frm + ma + mb - (frm + ma) = mb by omega]
        refine RW.respell (v := .slice (some ⟨bs, frm, none⟩) (ma + mb) (n - frm)) (t := 76) rfl (by rw [← hq1]) ?_
        refine RW.respell (v := .slice (some ⟨ba, frm, none⟩) ma (n - frm)) (t := 80) rfl (by rw [← hq2]) ?_
        refine RW.respell (v := .slice (some ⟨ba, q3, none⟩) mb (n - (frm + ma))) (t := 84) rfl (by rw [← hq3]) ?_
        (refine RW.callM T hs rfl rfl rfl (mergeJoin_conM F ca ah hw n bs ba frm ma mb (n - frm) (n - frm) (n - (frm + ma)) n (some ⟨ba, q3, none⟩) M ((ls.drop frm).take (ma + mb)) (ls.drop (frm + ma + mb)) l s1 s2 _ _ _ _ hF (hc.mono hg12) hM (by rw [List.length_take, List.length_drop]; omega) (by rw [List.length_drop]; omega) (fun e => by rw [show q3 = frm + ma by have := hq3a (by omega); omega]) i1 i2 g1 g2 (by omega) hn) ?_; intro v h15 O15 w15 hle15 hp15 hs)
        obtain ⟨o, rfl, ho⟩ := hp15
        have hol : o.length = ma + mb := by rw [ho.len]; omega
        have hR3 := hsn o hM (by rw [e2]; exact ho)
        have hs := hs.re (ys := rowN ((M ++ o) ++ ls.drop (M ++ o).length)) (by rw [List.length_append, hM, hol, show frm + (ma + mb) = frm + ma + mb by omega])
        refine Zerun ?_
        refine RW.val (Y.mul rfl rfl ⟨by omega, by omega⟩) rfl ?_
        refine Zerun ?_
        refine loopQ_round (c + 1, M ++ o, h15) ⟨rfl, rfl, rfl, rfl, seti (by dsimp only; rw [hnext]; omega), trivial⟩ ⟨by dsimp only; rw [hnext]; omega, by dsimp only; rw [List.length_append, hnext]; omega, by dsimp only; rw [hnext]; exact hR3, hg12.trans hle15, hs⟩ (by dsimp only; rw [hnext, hfrm]; omega)
      · have hM : M.length = n := by omega
        have hs := hs.re (ys := rowN M) (by rw [hM, List.drop_of_length_le (by omega), List.append_nil])
        refine Zerun ?_
        exact joinQ_meet (M, h12) ⟨rfl, rfl, rfl, rfl, trivial⟩ ⟨hM, hRM.cut (by omega), hg12, hs⟩
    rintro ⟨M, h13⟩ w13 ⟨hM, hRM, hg13, hs⟩
    dsimp only at hM hRM hg13 hs ⊢
    refine Zerun ?_
    refine RW.val (Y.mul rfl rfl ⟨by omega, by omega⟩) rfl ?_
    refine Zerun ?_
    refine loopQ_round (2 * r, (M, l), (bs, ba), h13) ⟨rfl, rfl, rfl, seti (by dsimp only; omega), trivial⟩ ⟨by dsimp only; omega, by dsimp only; omega, hM, hl, hRM, hg13, hs.swap⟩ (by dsimp only; omega)
  · obtain ⟨h14, hle14, hs, hI⟩ := freezeI (l := natsI l) hs.drop (by rw [natsI_len, hl])
    refine Zerun ?_
    exact retQ_ret [_] h14 ⟨rfl, trivial⟩ hs.dropAll ⟨l, hI, (hR.all hl (by omega)).inOrder⟩
end Go.Proofs.YtmojpbfkpggjhaaGreatDoor

/-
  Contracts of package order and of merge.Cells: elements and cells compared, cells in order. No statement is proved here.
-/
namespace Go.Proofs.YtmojpbfkpggjhaaGreatDoor
open Go Go.RowKit
set_option linter.unusedVariables false
set_option linter.unusedSimpArgs false
set_option maxHeartbeats 4000000
attribute [local irreducible] CW RW QW SW HW ConM retM heldQ calmQ elemP thenQ blockQ loopQ joinQ retQ Yields Con Sl zF magR unitF truncF fwF wholeF tidySpec elemQ rankF leastN tidyW
set_option maxHeartbeats 4000000

theorem nanF_con (x : Nat) (w : World) (h : GHeap) (hx : finF x) : Con Tryz.prog 184 [.float .f64 x] w h (fun _ u => u = .bool false) := by
  refine Con.of_body Tryz.func184 rfl Tryz.ntmps184 rfl rfl ?_
  intro hs
  refine Zrun ?_
  refine RW.val (Y.fNeq hx hx rfl rfl) rfl ?_
  rw [decide_eq_false (fun e => e rfl)]
  refine Zerun ?_
  exact retQ_ret [_] h ⟨rfl, trivial⟩ hs.dropAll rfl
theorem nanR_con (x : Int) (w : World) (h : GHeap) : Con Tryz.prog 185 [.int .i32 x] w h (fun _ u => u = .bool false) := by
  refine Con.of_body Tryz.func185 rfl Tryz.ntmps185 rfl rfl ?_
  intro hs
  refine Zerun ?_
  exact retQ_ret [_] h ⟨rfl, trivial⟩ hs.dropAll (by simp [packv])
theorem cmpF_con (x y : Nat) (w : World) (h : GHeap) (hx : finF x) (hy : finF y) : Con Tryz.prog 151 [.float .f64 x, .float .f64 y] w h (fun _ u => u = .int .i64 (cmpZ (zF x) (zF y))) := by
  unfold cmpZ
  refine Con.of_body Tryz.func151 rfl Tryz.ntmps151 rfl rfl ?_
  intro hs
  refine Zrun ?_
  (refine RW.call T hs rfl rfl rfl (nanF_con x _ _ hx) ?_; intro v h1 w1 hle1 hp1 hs)
  subst hp1
  refine Zerun ?_
  (refine RW.call T hs rfl rfl rfl (nanF_con y _ _ hy) ?_; intro v h2 w2 hle2 hp2 hs)
  subst hp2
  refine Zerun ?_
  refine RW.val (Y.fLss hx hy rfl rfl) rfl ?_
  by_cases c1 : zF x < zF y
  · rw [decide_eq_true c1, if_pos c1]
    refine Zerun ?_
    exact retQ_ret [_] h2 ⟨rfl, trivial⟩ hs.dropAll rfl
  · rw [decide_eq_false c1, if_neg c1]
    refine Zerun ?_
    refine RW.val (Y.fGtr hx hy rfl rfl) rfl ?_
    by_cases c2 : zF y < zF x
    · rw [decide_eq_true c2, if_pos c2]
      refine Zerun ?_
      exact retQ_ret [_] h2 ⟨rfl, trivial⟩ hs.dropAll rfl
    · rw [decide_eq_false c2, if_neg c2]
      refine Zerun ?_
      exact retQ_ret [_] h2 ⟨rfl, trivial⟩ hs.dropAll rfl
theorem cmpR_con (x y : Int) (w : World) (h : GHeap) : Con Tryz.prog 152 [.int .i32 x, .int .i32 y] w h (fun _ u => u = .int .i64 (cmpZ x y)) := by
  unfold cmpZ
  refine Con.of_body Tryz.func152 rfl Tryz.ntmps152 rfl rfl ?_
  intro hs
  refine Zrun ?_
  (refine RW.call T hs rfl rfl rfl (nanR_con x _ _) ?_; intro v h1 w1 hle1 hp1 hs)
  subst hp1
  refine Zerun ?_
  (refine RW.call T hs rfl rfl rfl (nanR_con y _ _) ?_; intro v h2 w2 hle2 hp2 hs)
  subst hp2
  by_cases c1 : x < y
  · rw [if_pos c1]
    refine Zerun ?_
    exact retQ_ret [_] h2 ⟨rfl, trivial⟩ hs.dropAll rfl
  · rw [if_neg c1]
    by_cases c2 : y < x
    · rw [if_pos c2]
      refine Zerun ?_
      exact retQ_ret [_] h2 ⟨rfl, trivial⟩ hs.dropAll rfl
    · rw [if_neg c2]
      refine Zerun ?_
      exact retQ_ret [_] h2 ⟨rfl, trivial⟩ hs.dropAll rfl
section
variable {α : Type} {R : GHeap → List Value → α → Prop}
theorem VecAt.finAt {h : GHeap} {cs : List Value} {v : VecD α} (hv : VecAt R h cs v) (i : Nat) : finF (v.nums.getD i 0) := by
  by_cases c : i < v.nums.length
  · exact (hv.tidy _ (mem_getD v.nums i 0 c)).2.1
  · rw [List.getD_eq_getElem?_getD, List.getElem?_eq_none (by omega)]; exact fin0
theorem orderCompare_con (hR : Mono R) (cs : List Value) (vd : VecD α) (i k : Nat) (w : World) (h : GHeap) (hv : VecAt R h cs vd) (hc : vd.cls = 0 ∨ vd.cls = 1) :
    Con Tryz.prog 100 [.agg cs.toArray, .int .i64 (i : Int), .agg cs.toArray, .int .i64 (k : Int)] w h (fun _ u => u = .tuple #[.int .i64 (cmpZ (gV vd i) (gV vd k)), .bool true]) := by
  have hv' := hv
  have n0 : ∀ j : Nat, vd.num (j : Int) = vd.nums.getD j 0 := fun j => by unfold VecD.num; rw [if_pos (by omega), Int.toNat_natCast]
  have r0 : ∀ j : Nat, vd.chr (j : Int) = vd.chars.getD j 0 := fun j => by unfold VecD.chr; rw [if_pos (by omega), Int.toNat_natCast]
  have hfi := hv.finAt i
  have hfk := hv.finAt k
  obtain ⟨wv, nv, sm, il, fl, ch, bx, ⟨rfl, hoc⟩, -⟩ := hv
  unfold gV
  refine Con.of_body Tryz.func100 rfl Tryz.ntmps100 rfl rfl ?_
  intro hs
  refine Zrun ?_
  (refine RW.boxN hs rfl rfl ?_; intro b1 w1 hs)
  refine Zrun ?_
  (refine RW.boxN hs rfl rfl ?_; intro b2 w2 hs)
  refine Zerun ?_
  refine CW.regionQ T hs ?_ (by kernel_rfl)
  refine QW.val (fun _ hs => Y.loadRowN T hs 1 rfl rfl rfl rfl rfl rfl rfl) rfl ?_
  refine QW.call T hs rfl rfl rfl (fun w => vecClass_con _ vd w _ hv') ?_
  refine QW.val (fun _ hs => Y.loadRowN T hs 0 rfl rfl rfl rfl rfl rfl rfl) rfl ?_
  refine QW.call T hs rfl rfl rfl (fun w => vecClass_con _ vd w _ hv') ?_
  refine Zeqrun ?_
  intro w3 hs
  rw [decide_eq_false (fun e => e rfl)]
  refine Zerun ?_
  (refine RW.call T hs rfl rfl rfl (vecClass_con _ vd _ _ hv') ?_; intro v h4 w4 hle4 hp4 hs)
  subst hp4
  have hv' := hv'.mono hR hle4
  rcases hc with hc | hc
  · have k5 : ¬ vd.kind = 5 := by unfold VecD.cls at hc; intro e; rw [if_pos e] at hc; omega
    rw [if_neg k5, if_neg k5]
    refine Zerun ?_
    refine CW.regionQ T hs ?_ (by kernel_rfl)
    refine QW.val (fun _ hs => Y.loadRowN T hs 1 rfl rfl rfl rfl rfl rfl rfl) rfl ?_
    refine Zeqrun ?_
    refine QW.call T hs rfl rfl rfl (fun w => vecNum_con _ vd i w _ hv') ?_
    refine QW.val (fun _ hs => Y.loadRowN T hs 0 rfl rfl rfl rfl rfl rfl rfl) rfl ?_
    refine Zeqrun ?_
    refine QW.call T hs rfl rfl rfl (fun w => vecNum_con _ vd k w _ hv') ?_
    rw [n0, n0]
    refine QW.call T hs rfl rfl rfl (fun w => cmpF_con _ _ w _ hfi hfk) ?_
    refine Zeqrun ?_
    intro w5 hs
    refine Zerun ?_
    exact retQ_ret [_, _] h4 ⟨rfl, rfl, trivial⟩ hs.dropAll rfl
  · have k5 : vd.kind = 5 := by unfold VecD.cls at hc; apply Classical.byContradiction; intro e; rw [if_neg e] at hc; split at hc <;> omega
    rw [if_pos k5, if_pos k5]
    refine Zerun ?_
    refine CW.regionQ T hs ?_ (by kernel_rfl)
    refine QW.val (fun _ hs => Y.loadRowN T hs 1 rfl rfl rfl rfl rfl rfl rfl) rfl ?_
    refine Zeqrun ?_
    refine QW.call T hs rfl rfl rfl (fun w => vecChar_con _ vd i w _ hv') ?_
    refine QW.val (fun _ hs => Y.loadRowN T hs 0 rfl rfl rfl rfl rfl rfl rfl) rfl ?_
    refine Zeqrun ?_
    refine QW.call T hs rfl rfl rfl (fun w => vecChar_con _ vd k w _ hv') ?_
    rw [r0, r0]
    refine QW.call T hs rfl rfl rfl (fun w => cmpR_con _ _ w _) ?_
    refine Zeqrun ?_
    intro w5 hs
    refine Zerun ?_
    exact retQ_ret [_, _] h4 ⟨rfl, rfl, trivial⟩ hs.dropAll rfl
theorem orderCells_con (hR : Mono R) (cs : List Value) (vd : VecD α) (size i k : Nat) (w : World) (h : GHeap) (hv : VecAt R h cs vd) (hc : vd.cls = 0 ∨ vd.cls = 1) (hi : i ≤ 1048576) (hk : k ≤ 1048576) (hz : size ≤ 1048576) :
    Con Tryz.prog 36 [.agg cs.toArray, .int .i64 (size : Int), .int .i64 (i : Int), .int .i64 (k : Int)] w h (fun _ u => u = .int .i64 (lexC (gV vd) size i k size)) := by
  have hv' := hv
  obtain ⟨a, ha⟩ : ∃ a : Nat, i * size = a := ⟨_, rfl⟩
  obtain ⟨b, hb⟩ : ∃ b : Nat, k * size = b := ⟨_, rfl⟩
  have hza : (i : Int) * (size : Int) = (a : Int) := by rw [← ha]; exact (Int.natCast_mul _ _).symm
  have hzb : (k : Int) * (size : Int) = (b : Int) := by rw [← hb]; exact (Int.natCast_mul _ _).symm
  have la : a ≤ 1048576 * 1048576 := by rw [← ha]; exact Nat.mul_le_mul hi hz
  have lb : b ≤ 1048576 * 1048576 := by rw [← hb]; exact Nat.mul_le_mul hk hz
  obtain ⟨wv, nv, sm, il, fl, ch, bx, ⟨rfl, hoc⟩, -⟩ := hv
  refine Con.of_body Tryz.func36 rfl Tryz.ntmps36 rfl rfl ?_
  intro hs
  refine Zrun ?_
  (refine RW.boxN hs rfl rfl ?_; intro b1 w1 hs)
  refine Zerun ?_
  refine CW.loop (fun u : Nat × GHeap => [(1, .int .i64 (size : Int)), (2, .int .i64 (i : Int)), (3, .int .i64 (k : Int)), (4, .pointer (some ⟨b1, 0, none⟩)), (12, .int .i64 (size : Int)), (13, .int .i64 u.1)]) (fun u w' => u.1 ≤ size ∧ lexC (gV vd) size i k u.1 = 0 ∧ GLe h u.2 ∧ Sees w h u.2 [⟨some ⟨b1, 0, none⟩, 1, 1, 38, 8, vecCells vd.kind wv nv sm il fl ch bx⟩] w') (fun u => size - u.1) (0, h) ⟨rfl, rfl, rfl, rfl, rfl, rfl, trivial⟩ ⟨by dsimp only; omega, rfl, GLe.refl _, hs⟩ ?_
  rintro ⟨m, hh⟩ w2 ⟨hm, hl0, hg, hs⟩
  dsimp only at hm hl0 hg hs ⊢
  by_cases hlt : m < size
  · have q1 : gV vd (i * size + m) = gV vd (a + m) := by rw [ha]
    have q2 : gV vd (k * size + m) = gV vd (b + m) := by rw [hb]
    refine Zerun ?_
    refine RW.val (Y.mul rfl rfl ⟨by rw [hza]; omega, by rw [hza]; omega⟩) rfl ?_
    rw [hza]
    refine Zerun ?_
    refine RW.val (Y.mul rfl rfl ⟨by rw [hzb]; omega, by rw [hzb]; omega⟩) rfl ?_
    rw [hzb]
    refine Zerun ?_
    (refine RW.call T hs rfl rfl rfl (orderCompare_con hR _ vd (a + m) (b + m) _ _ (hv'.mono hR hg) hc) ?_; intro v h3 w3 hle3 hp3 hs)
    subst hp3
    by_cases c1 : gV vd (a + m) < gV vd (b + m)
    · have hx := lexC_less (gV vd) size i k m hl0 hlt (by rw [q1, q2]; exact c1)
      rw [show cmpZ (gV vd (a + m)) (gV vd (b + m)) = -1 by unfold cmpZ; rw [if_pos c1]]
      refine Zerun ?_
      exact retQ_ret [_] h3 ⟨rfl, trivial⟩ hs.dropAll (by rw [hx]; rfl)
    · by_cases c2 : gV vd (b + m) < gV vd (a + m)
      · have hx := lexC_more (gV vd) size i k m hl0 hlt (by rw [q1, q2]; exact c2)
        rw [show cmpZ (gV vd (a + m)) (gV vd (b + m)) = 1 by unfold cmpZ; rw [if_neg c1, if_pos c2]]
        refine Zerun ?_
        exact retQ_ret [_] h3 ⟨rfl, trivial⟩ hs.dropAll (by rw [hx]; rfl)
      · have hx := lexC_same (gV vd) size i k m hl0 (by rw [q1, q2]; exact c1) (by rw [q1, q2]; exact c2)
        rw [show cmpZ (gV vd (a + m)) (gV vd (b + m)) = 0 by unfold cmpZ; rw [if_neg c1, if_neg c2]]
        refine Zerun ?_
        exact loopQ_round (m + 1, h3) ⟨rfl, rfl, rfl, rfl, rfl, rfl, trivial⟩ ⟨by dsimp only; omega, hx, hg.trans hle3, hs⟩ (by dsimp only; omega)
  · obtain rfl : m = size := by omega
    refine Zerun ?_
    exact retQ_ret [_] hh ⟨rfl, trivial⟩ hs.dropAll (by rw [hl0]; rfl)
end
end Go.Proofs.YtmojpbfkpggjhaaGreatDoor

/-
  Contracts of package merge: cells graded by comparing, and by digits. No statement is proved here.
-/
namespace Go.Proofs.YtmojpbfkpggjhaaGreatDoor
open Go Go.RowKit
set_option linter.unusedVariables false
set_option linter.unusedSimpArgs false
set_option maxHeartbeats 4000000
attribute [local irreducible] CW RW QW SW HW ConM retM heldQ calmQ elemP thenQ blockQ loopQ joinQ retQ Yields Con Sl zF magR unitF truncF fwF wholeF tidySpec elemQ rankF leastN tidyW
set_option maxHeartbeats 4000000

section
variable {α : Type} {R : GHeap → List Value → α → Prop}
theorem mergeCells1_con (hR : Mono R) (vd : VecD α) (size i k : Nat) (down : Bool) (b1 b2 b3 : Nat) (cs : List Value) (w : World) (h : GHeap) (hv : VecAt R h cs vd) (hc : vd.cls = 0 ∨ vd.cls = 1) (hi : i ≤ 1048576) (hk : k ≤ 1048576) (hz : size ≤ 1048576)
    (h1 : Sl h 8 (some ⟨b1, 0, none⟩) 1 1 cs) (h2 : ∃ cs, h b2 = some cs ∧ cs[0]? = some (.int .i64 (size : Int))) (h3 : ∃ cs, h b3 = some cs ∧ cs[0]? = some (.bool down)) :
    Con Tryz.prog 176 [.int .i64 (i : Int), .int .i64 (k : Int), .pointer (some ⟨b1, 0, none⟩), .pointer (some ⟨b2, 0, none⟩), .pointer (some ⟨b3, 0, none⟩)] w h (fun _ u => u = .bool (ahL (gV vd) size down i k)) := by
  have hv' := hv
  have hl := hv.size
  obtain ⟨z, hz'⟩ : ∃ z, lexC (gV vd) size i k size = z := ⟨_, rfl⟩
  unfold ahL
  rw [hz']
  refine Con.of_body Tryz.func176 rfl Tryz.ntmps176 rfl rfl ?_
  intro hs
  refine Zrun ?_
  refine RW.val (Y.ldFN T hs (cs := cs) h1 rfl rfl rfl rfl (by decide) (by rw [List.drop_zero]; exact List.take_of_length_le (Nat.le_of_eq hl)) hl) rfl ?_
  refine RW.val (Y.ldG T hs rfl h2 rfl rfl) rfl ?_
  refine Zerun ?_
  (refine RW.call T hs rfl rfl rfl (orderCells_con hR _ vd size i k _ _ hv' hc hi hk hz) ?_; intro v h4 w4 hle4 hp4 hs)
  rw [hz'] at hp4
  subst hp4
  have h3 : ∃ cs, h4 b3 = some cs ∧ cs[0]? = some (.bool down) := Cell0.mono hle4 h3
  cases down with
  | true =>
    rw [if_pos rfl]
    by_cases c1 : z < 0
    · refine Zerun ?_
      refine RW.val (Y.ldG T hs rfl h3 rfl rfl) rfl ?_
      refine Zerun ?_
      exact retQ_ret [_] h4 ⟨rfl, trivial⟩ hs.dropAll (by simp only [packv]; first | exact congrArg _ (decide_eq_decide.2 (by omega)) | exact congrArg _ (decide_eq_true (by omega)).symm | exact congrArg _ (decide_eq_false (by omega)).symm)
    · by_cases c2 : 0 < z
      · refine Zerun ?_
        refine RW.val (Y.ldG T hs rfl h3 rfl rfl) rfl ?_
        refine Zerun ?_
        exact retQ_ret [_] h4 ⟨rfl, trivial⟩ hs.dropAll (by simp only [packv]; first | exact congrArg _ (decide_eq_decide.2 (by omega)) | exact congrArg _ (decide_eq_true (by omega)).symm | exact congrArg _ (decide_eq_false (by omega)).symm)
      · refine Zerun ?_
        exact retQ_ret [_] h4 ⟨rfl, trivial⟩ hs.dropAll (by simp only [packv]; first | exact congrArg _ (decide_eq_decide.2 (by omega)) | exact congrArg _ (decide_eq_true (by omega)).symm | exact congrArg _ (decide_eq_false (by omega)).symm)
  | false =>
    rw [if_neg (by decide)]
    by_cases c1 : z < 0
    · refine Zerun ?_
      refine RW.val (Y.ldG T hs rfl h3 rfl rfl) rfl ?_
      refine Zerun ?_
      exact retQ_ret [_] h4 ⟨rfl, trivial⟩ hs.dropAll (by simp only [packv]; first | exact congrArg _ (decide_eq_decide.2 (by omega)) | exact congrArg _ (decide_eq_true (by omega)).symm | exact congrArg _ (decide_eq_false (by omega)).symm)
    · by_cases c2 : 0 < z
      · refine Zerun ?_
        refine RW.val (Y.ldG T hs rfl h3 rfl rfl) rfl ?_
        refine Zerun ?_
        exact retQ_ret [_] h4 ⟨rfl, trivial⟩ hs.dropAll (by simp only [packv]; first | exact congrArg _ (decide_eq_decide.2 (by omega)) | exact congrArg _ (decide_eq_true (by omega)).symm | exact congrArg _ (decide_eq_false (by omega)).symm)
      · refine Zerun ?_
        exact retQ_ret [_] h4 ⟨rfl, trivial⟩ hs.dropAll (by simp only [packv]; first | exact congrArg _ (decide_eq_decide.2 (by omega)) | exact congrArg _ (decide_eq_true (by omega)).symm | exact congrArg _ (decide_eq_false (by omega)).symm)
theorem orderHas_con (c : Int) (w : World) (h : GHeap) : Con Tryz.prog 174 [.int .i64 c] w h (fun _ u => u = .bool (decide (c = 0 ∨ c = 1))) := by
  by_cases c0 : c = 0
  · rw [decide_eq_true (.inl c0)]
    refine Con.of_body Tryz.func174 rfl Tryz.ntmps174 rfl rfl ?_
    intro hs
    refine Zerun ?_
    exact retQ_ret [_] h ⟨rfl, trivial⟩ hs.dropAll rfl
  · by_cases c1 : c = 1
    · rw [decide_eq_true (.inr c1)]
      refine Con.of_body Tryz.func174 rfl Tryz.ntmps174 rfl rfl ?_
      intro hs
      refine Zerun ?_
      exact retQ_ret [_] h ⟨rfl, trivial⟩ hs.dropAll (by simp only [packv]; rw [decide_eq_true c1])
    · rw [decide_eq_false (by omega)]
      refine Con.of_body Tryz.func174 rfl Tryz.ntmps174 rfl rfl ?_
      intro hs
      refine Zerun ?_
      exact retQ_ret [_] h ⟨rfl, trivial⟩ hs.dropAll (by simp only [packv]; rw [decide_eq_false c1])
/-- cells, of classes that have an order, graded by comparing; size 0 and below, or no order: none -/
theorem mergeCells_con (hR : Mono R) (cs : List Value) (vd : VecD α) (size : Int) (down : Bool) (w : World) (h : GHeap) (hv : VecAt R h cs vd) (hm : vd.len ≤ 1048576) (hz : size ≤ 1048576) (hz2 : -9223372036854775808 ≤ size) :
    Con Tryz.prog 142 [.agg cs.toArray, .int .i64 size, .bool down] w h (fun h' u => ((vd.cls = 0 ∨ vd.cls = 1) ∧ 1 ≤ size ∧ ∃ s out, u = .tuple #[s, .bool true] ∧ IntsAt h' s (natsI out) ∧ InOrder (ltS (ahL (gV vd) size.toNat down)) (vd.len / size.toNat) out) ∨ (¬ ((vd.cls = 0 ∨ vd.cls = 1) ∧ 1 ≤ size) ∧ u = .tuple #[.slice none 0 0, .bool false])) := by
  have hv' := hv
  have hvl := hv.size
  obtain ⟨wv, nv, sm, il, fl, ch, bx, ⟨rfl, hoc⟩, -⟩ := hv
  refine Con.of_body Tryz.func142 rfl Tryz.ntmps142 rfl rfl ?_
  intro hs
  refine Zrun ?_
  (refine RW.boxN hs rfl rfl ?_; intro b1 w1 hs)
  refine Zrun ?_
  refine RW.box hs rfl rfl ?_
  intro b2 w2 hs
  refine Zrun ?_
  refine RW.box hs rfl rfl ?_
  intro b3 w3 hs
  refine Zerun ?_
  (refine RW.call T hs rfl rfl rfl (vecClass_con _ vd _ _ hv') ?_; intro v h4 w4 hle4 hp4 hs)
  subst hp4
  have hv' := hv'.mono hR hle4
  refine Zerun ?_
  (refine RW.call T hs rfl rfl rfl (orderHas_con vd.cls _ _) ?_; intro v h5 w5 hle5 hp5 hs)
  subst hp5
  have hv' := hv'.mono hR hle5
  by_cases c0 : vd.cls = 0 ∨ vd.cls = 1
  rotate_left
  · rw [decide_eq_false c0]
    refine Zerun ?_
    exact retQ_ret [_, _] h5 ⟨rfl, rfl, trivial⟩ hs.dropAll (.inr ⟨fun e => c0 e.1, rfl⟩)
  rw [decide_eq_true c0]
  by_cases c1 : size < 1
  · refine Zerun ?_
    exact retQ_ret [_, _] h5 ⟨rfl, rfl, trivial⟩ hs.dropAll (.inr ⟨fun e => by omega, rfl⟩)
  obtain ⟨sz, rfl⟩ := Int.eq_ofNat_of_zero_le (show 0 ≤ size by omega)
  refine Zerun ?_
  rw [Int.toNat_natCast]
  have hs9 := hs
  obtain ⟨g3, le3, hs, hB3⟩ := hs.freeze
  obtain ⟨g2, le2, hs, hB2⟩ := hs.freeze
  obtain ⟨g1, le1, hs, hB1⟩ := hs.freeze
  have q3 : ∃ cs, g1 b3 = some cs ∧ cs[0]? = some (.bool down) := Cell0.mono (le2.trans le1) (Sl.cell0 hB3)
  have q2 : ∃ cs, g1 b2 = some cs ∧ cs[0]? = some (.int .i64 (sz : Int)) := Cell0.mono le1 (Sl.cell0 hB2)
  have hv' := hv'.mono hR (le3.trans (le2.trans le1))
  dsimp only at hB1
  obtain ⟨n, hn⟩ : ∃ n, vd.len / sz = n := ⟨_, rfl⟩
  have hq : (vd.len : Int) / (sz : Int) = (n : Int) := by rw [← hn]; rfl
  have hn1 : n ≤ vd.len := by rw [← hn]; exact Nat.div_le_self _ _
  rw [hn]
  have hs := hs.nilRow 3 1
  refine CW.regionG T 0 0 hs rfl rfl ?_
  intro w6 hs
  refine HW.takeG (fuel := 7) 0 rfl (fun _ _ ka kb _ hg hs hka hkb => Y.ldFN T hs (cs := vecCells vd.kind wv nv sm il fl ch bx) (hB1.mono hg) rfl rfl rfl rfl rfl rfl rfl) ⟨_, _, 0, 0, GLe.refl _, hs, rfl, rfl⟩ rfl (by kernel_rfl) (by kernel_rfl) (by kernel_rfl) ?_
  refine HW.takeG (fuel := 6) 2 rfl (fun _ _ ka kb _ hg hs hka hkb => Y.ldG T hs rfl (Cell0.mono hg q2) rfl rfl) ⟨_, _, 0, 0, GLe.refl _, hs, rfl, rfl⟩ rfl (by kernel_rfl) (by kernel_rfl) (by kernel_rfl) ?_
  refine HW.takeG (fuel := 5) 4 rfl (fun _ _ ka kb _ hg hs hka hkb => Y.makeFunc (fi := []) (ca := [_, _, _]) rfl rfl) ⟨_, _, 0, 0, GLe.refl _, hs, rfl, rfl⟩ rfl (by kernel_rfl) (by kernel_rfl) (by kernel_rfl) ?_
  refine HW.one (fuel := 4) 1 rfl (by kernel_rfl) ?_
  (refine RW.call T hs rfl rfl rfl (vecLen_con _ vd _ _ hv') ?_; intro v h7 w7 hle7 hp7 hs)
  subst hp7
  refine RW.nil ?_
  refine heldQ_normal ⟨_, _, 0, 0, hle7, hs, rfl, rfl⟩ ?_
  refine HW.takeG (fuel := 3) 3 rfl (fun _ _ ka kb _ hg hs hka hkb => Y.quo rfl rfl (by omega) ⟨by omega, by omega⟩) ⟨_, _, 0, 0, hle7, hs, rfl, rfl⟩ rfl (by kernel_rfl) (by kernel_rfl) (by kernel_rfl) ?_
  rw [hq]
  refine HW.one (fuel := 2) 5 rfl (by kernel_rfl) ?_
  (refine RW.call T hs rfl rfl rfl (mergeSort_con 176 [.pointer (some ⟨b1, 0, none⟩), .pointer (some ⟨b2, 0, none⟩), .pointer (some ⟨b3, 0, none⟩)] (ahL (gV vd) sz down) (ahL_weak _ _ _) n _ _ rfl (fun i k w h' hl hi hk => mergeCells1_con hR vd sz i k down b1 b2 b3 _ w h' (hv'.mono hR (hle7.trans hl)) c0 (by omega) (by omega) (by omega) (hB1.mono (hle7.trans hl)) (Cell0.mono (hle7.trans hl) q2) (Cell0.mono (hle7.trans hl) q3)) (by omega)) ?_; intro v h8 w8 hle8 hp8 hs)
  obtain ⟨out, hI, hord⟩ := hp8
  have hI' := hI
  obtain ⟨ad8, cp8, rfl, _⟩ := hI
  refine RW.nil ?_
  refine heldQ_normal ⟨_, _, 0, 0, hle7.trans hle8, hs, rfl, rfl⟩ ?_
  refine HW.takeG (fuel := 1) 6 rfl (fun _ _ ka kb _ hg hs hka hkb => Y.assign rfl) ⟨_, _, 0, 0, hle7.trans hle8, hs, rfl, rfl⟩ rfl (by kernel_rfl) (by kernel_rfl) (by kernel_rfl) ?_
  refine HW.takeG (fuel := 0) 7 rfl (fun _ _ ka kb _ hg hs hka hkb => Y.assign rfl) ⟨_, _, 0, 0, hle7.trans hle8, hs, rfl, rfl⟩ rfl (by kernel_rfl) (by kernel_rfl) (by kernel_rfl) ?_
  refine HW.done (by kernel_rfl) ?_
  refine calmQ_normal ?_
  refine Zerun ?_
  exact retQ_ret [_, _] h8 ⟨rfl, rfl, trivial⟩ hs.dropAll (.inl ⟨c0, by omega, _, out, rfl, hI', hord⟩)
end
end Go.Proofs.YtmojpbfkpggjhaaGreatDoor

/-
  Contracts of package merge: cells graded, lists in order; the example of layer 18. No statement is proved here.
-/
namespace Go.Proofs.YtmojpbfkpggjhaaGreatDoor
open Go Go.RowKit
set_option linter.unusedVariables false
set_option linter.unusedSimpArgs false
set_option maxHeartbeats 4000000
attribute [local irreducible] CW RW QW SW HW ConM retM heldQ calmQ elemP thenQ blockQ loopQ joinQ retQ Yields Con Sl zF magR unitF truncF fwF wholeF tidySpec elemQ rankF leastN tidyW
set_option maxHeartbeats 4000000

section
variable {α : Type} {R : GHeap → List Value → α → Prop}
theorem mergeGrade_con (hR : Mono R) (cs : List Value) (vd : VecD α) (size : Int) (down : Bool) (w : World) (h : GHeap) (hT : TzTab h) (hv : VecAt R h cs vd) (hm : vd.len ≤ 1048576) (hcr : ∀ c ∈ vd.chars, -2147483648 ≤ c ∧ c < 2147483648) (hk0 : vd.kind ≠ 0) (hz : size ≤ 1048576) (hz2 : -9223372036854775808 ≤ size) :
    Con Tryz.prog 85 [.agg cs.toArray, .int .i64 size, .bool down] w h (fun h' u => ((vd.cls = 0 ∨ vd.cls = 1) ∧ 1 ≤ size ∧ ∃ s out, u = .tuple #[s, .bool true] ∧ IntsAt h' s (natsI out) ∧ InOrder (ltS (ahL (gV vd) size.toNat down)) (vd.len / size.toNat) out) ∨ (¬ ((vd.cls = 0 ∨ vd.cls = 1) ∧ 1 ≤ size) ∧ u = .tuple #[.slice none 0 0, .bool false])) := by
  have hv' := hv
  have hvl := hv.size
  have hkr : 0 ≤ vd.kind ∧ vd.kind ≤ 6 := by
    obtain ⟨_, _, _, _, _, _, _, _, hh⟩ := hv
    rcases hh with ⟨e, _⟩ | ⟨e, _⟩ | ⟨e, _⟩ | ⟨e, _⟩ | ⟨e, _⟩ | ⟨e, _⟩ | ⟨e, _⟩ <;> omega
  obtain ⟨wv, nv, sm, il, fl, ch, bx, ⟨rfl, hoc⟩, -⟩ := hv
  refine Con.of_body Tryz.func85 rfl Tryz.ntmps85 rfl rfl ?_
  intro hs
  refine Zrun ?_
  (refine RW.boxN hs rfl rfl ?_; intro b1 w1 hs)
  by_cases c1 : size = 1
  · subst c1
    refine Zerun ?_
    (refine RW.call T hs rfl rfl rfl (radixGrade_con hR _ vd down _ _ hT hv' hm hcr hk0) ?_; intro v h2 w2 hle2 hp2 hs)
    have hv' := hv'.mono hR hle2
    rcases hp2 with ⟨hkk, s2, out, rfl, hI, hord⟩ | ⟨hkk, rfl⟩
    · have hcl : vd.cls = 0 ∨ vd.cls = 1 := by unfold VecD.cls; by_cases e : vd.kind = 5 <;> simp [e]; omega
      have hI' := hI
      obtain ⟨ad2, cp2, rfl, _⟩ := hI
      refine Zerun ?_
      exact retQ_ret [_, _] h2 ⟨rfl, rfl, trivial⟩ hs.dropAll (.inl ⟨hcl, Int.le_refl 1, _, out, rfl, hI', by rw [show (1 : Int).toNat = 1 from rfl, Nat.div_one]; exact hord⟩)
    · refine Zerun ?_
      (refine RW.call T hs rfl rfl rfl (mergeCells_con hR _ vd 1 down _ _ hv' hm (by omega) (by omega)) ?_; intro v h3 w3 hle3 hp3 hs)
      rcases hp3 with ⟨a1, a2, s3, out, rfl, hI, hord⟩ | ⟨hn, rfl⟩
      · have hI' := hI
        obtain ⟨ad3, cp3, rfl, _⟩ := hI
        refine Zerun ?_
        exact retQ_ret [_, _] h3 ⟨rfl, rfl, trivial⟩ hs.dropAll (.inl ⟨a1, a2, _, out, rfl, hI', hord⟩)
      · refine Zerun ?_
        exact retQ_ret [_, _] h3 ⟨rfl, rfl, trivial⟩ hs.dropAll (.inr ⟨hn, rfl⟩)
  · refine Zerun ?_
    (refine RW.call T hs rfl rfl rfl (mergeCells_con hR _ vd size down _ _ hv' hm hz hz2) ?_; intro v h3 w3 hle3 hp3 hs)
    rcases hp3 with ⟨a1, a2, s3, out, rfl, hI, hord⟩ | ⟨hn, rfl⟩
    · have hI' := hI
      obtain ⟨ad3, cp3, rfl, _⟩ := hI
      refine Zerun ?_
      exact retQ_ret [_, _] h3 ⟨rfl, rfl, trivial⟩ hs.dropAll (.inl ⟨a1, a2, _, out, rfl, hI', hord⟩)
    · refine Zerun ?_
      exact retQ_ret [_, _] h3 ⟨rfl, rfl, trivial⟩ hs.dropAll (.inr ⟨hn, rfl⟩)
end
theorem lex1 (g : Nat → Int) (i j : Nat) : lexC g 1 i j 1 = cmpZ (g i) (g j) := by unfold lexC; unfold lexC; simp
end Go.Proofs.YtmojpbfkpggjhaaGreatDoor

/-
  Contracts of base.Grade and of the document's answer to it. No statement is proved here.
-/
namespace Go.Proofs.YtmojpbfkpggjhaaGreatDoor
open Go Go.RowKit
set_option linter.unusedVariables false
set_option linter.unusedSimpArgs false
set_option maxHeartbeats 4000000
attribute [local irreducible] CW RW QW SW HW ConM retM heldQ calmQ elemP thenQ blockQ loopQ joinQ retQ Yields Con Sl zF magR unitF truncF fwF wholeF tidySpec elemQ rankF leastN tidyW
set_option maxHeartbeats 4000000
attribute [local irreducible] mixN wrN wr32 keyIt keyP

def cellN (s : List Int) : Int := (product (s.drop 1) 1048576).1
theorem cellN_rng (s : List Int) : 0 ≤ cellN s ∧ cellN s ≤ 1048576 := by
  unfold cellN product
  split
  · exact ⟨Int.le_refl _, by decide⟩
  · split
    · exact ⟨Int.le_refl _, by decide⟩
    · rename_i hn
      split
      · exact ⟨Int.le_refl _, by decide⟩
      · have := pr_pos (s.drop 1)
        by_cases hz : (0 : Int) ∈ s.drop 1
        · simp only [if_pos hz]
          split <;> exact ⟨Int.le_refl _, by decide⟩
        · simp only [if_neg hz]
          split
          · exact ⟨Int.le_refl _, by decide⟩
          · dsimp only; omega
/-- the order that is told: where cells are empty, as they stand -/
def GradeO (g : Nat → Int) (s : List Int) (down : Bool) (n : Nat) (out : List Nat) : Prop := (cellN s = 0 ∧ out = List.range (s.getD 0 0).toNat) ∨ (1 ≤ cellN s ∧ InOrder (ltS (ahL g (cellN s).toNat down)) (n / (cellN s).toNat) out)
def GradeA (k : Nat) (a : ArrD (AD k)) (down : Bool) (o e : Int) (r : ArrD (AD k)) : Prop :=
  (a.shape.length = 0 ∧ e = 22 ∧ r = ⟨[], VecD.none⟩) ∨ (a.shape.length ≠ 0 ∧ a.vec.cls = 2 ∧ e = 24 ∧ r = ⟨[], VecD.none⟩) ∨ (a.shape.length ≠ 0 ∧ a.vec.cls ≠ 2 ∧ e = 0 ∧ ∃ out : List Nat, r = (numsA k ((plusL (natsI out) o).map fwF) : ArrD (AD k)) ∧ GradeO (gV a.vec) a.shape down a.vec.len out)
def GradeP {α : Type} (p : PlainD α) (down : Bool) (o e : Int) (r : PlainD α) : Prop :=
  (p.shape.length = 0 ∧ e = 22 ∧ r = zeroP) ∨ (p.shape.length ≠ 0 ∧ p.fill = 2 ∧ e = 24 ∧ r = zeroP) ∨ (p.shape.length ≠ 0 ∧ p.fill ≠ 2 ∧ e = 0 ∧ ∃ out : List Nat, r = numsP ((plusL (natsI out) o).map fwF) ∧ GradeO (fun j => gI (p.items.getD j d0I)) p.shape down p.items.length out)
theorem natsI_range (i : Nat) : natsI (List.range i) ++ [(i : Int)] = natsI (List.range (i + 1)) := by unfold natsI; rw [List.range_succ, List.map_append]; rfl
theorem natsI_mem {l : List Nat} {n : Nat} (h : ∀ j, j < l.length → l.getD j 0 < n) : ∀ z ∈ natsI l, 0 ≤ z ∧ z < n := by
  intro z hz
  obtain ⟨u, hu, rfl⟩ := List.mem_map.1 hz
  obtain ⟨j, hj, rfl⟩ := List.mem_iff_getElem.1 hu
  have := h j hj
  rw [List.getD_eq_getElem?_getD, List.getElem?_eq_getElem hj] at this
  have : l[j] < n := this
  omega
theorem baseGrade_con (k : Nat) (ca : List Value) (a : ArrD (AD k)) (down : Bool) (o : Int) (w : World) (h : GHeap) (hT : TzTab h) (ha : ArrAt (k + 1) h ca a) (hsh : a.shape.length ≤ 8) (hd : ∀ d ∈ a.shape, 0 ≤ d ∧ d ≤ 1048576) (hm : a.vec.len ≤ 1048576) (hcr : ∀ c ∈ a.vec.chars, -2147483648 ≤ c ∧ c < 2147483648) (hk0 : a.vec.kind ≠ 0) (ho : 0 ≤ o ∧ o ≤ 1) :
    Con Tryz.prog 32 [.agg ca.toArray, .bool down, .int .i64 o] w h (fun h' u => ∃ cs' e r, u = .tuple #[.agg cs'.toArray, .int .i64 e] ∧ ArrAt (k + 1) h' cs' r ∧ GradeA k a down o e r) := by
  have ha' := ha
  obtain ⟨_, vca, rfl, ⟨ad1, cp1, rfl, hS1⟩, hva⟩ := ha
  have hva' := hva
  have hcap := hS1.caps
  obtain ⟨wv1, nv1, sm1, il1, fl1, ch1, bx1, ⟨rfl, hoc1⟩, -⟩ := hva
  have hcn := cellN_rng a.shape
  refine Con.of_body Tryz.func32 rfl Tryz.ntmps32 rfl rfl ?_
  intro hs
  refine Zrun ?_
  (refine RW.boxN hs rfl rfl ?_; intro b1 w1 hs)
  (refine RW.allocN T hs rfl rfl rfl rfl ?_; intro b3 w3 hs)
  refine Zerun ?_
  (refine RW.call T hs rfl rfl rfl (valueRank_con (R := ArrAt k) _ a _ _ ha') ?_; intro v h4 w4 hle4 hp4 hs)
  subst hp4
  have hva' := hva'.mono (ArrAt.mono k) hle4
  have hS1 := hS1.mono hle4
  have hT := hT.mono hle4
  by_cases c0 : a.shape.length = 0
  · rw [c0]
    refine Zerun ?_
    refine RW.val (Y.build T rfl rfl rfl rfl rfl rfl rfl) rfl ?_
    (refine RW.storeAll T hs 0 rfl rfl rfl rfl rfl rfl rfl rfl ?_; intro w5 hs)
    refine Zerun ?_
    exact retQ_ret [_, _] h4 ⟨resN T hs 0 rfl rfl rfl rfl rfl rfl, rfl, trivial⟩ hs.dropAll ⟨_, _, _, rfl, ⟨_, _, rfl, IntsAt.nil _, vecNone _⟩, .inl ⟨c0, rfl, rfl⟩⟩
  have hc0 : ¬ (a.shape.length : Int) = 0 := by omega
  refine Zerun ?_
  refine RW.val (Y.sliceLo T rfl rfl rfl rfl ?_ ?_) rfl ?_
  · omega
  · omega
  have hT2 : IntsAt h4 (.slice (subAd ad1 1 cp1 1) (a.shape.length - 1) (cp1 - 1)) (a.shape.drop 1) := by
    have := hS1.from 1 (by omega)
    rw [Nat.mul_one, ← List.map_drop] at this
    exact IntsAt.of_sl this
  (refine RW.call T hs rfl rfl rfl (product_con _ (a.shape.drop 1) 1048576 _ _ hT2 (by simp; omega)) ?_; intro v h5 w5 hle5 hp5 hs)
  subst hp5
  have hva' := hva'.mono (ArrAt.mono k) hle5
  have hS1 := hS1.mono hle5
  have hT := hT.mono hle5
  refine Zerun ?_
  (refine RW.call T hs rfl rfl rfl (vecClass_con _ a.vec _ _ hva') ?_; intro v h6 w6 hle6 hp6 hs)
  subst hp6
  have hva' := hva'.mono (ArrAt.mono k) hle6
  have hS1 := hS1.mono hle6
  have hT := hT.mono hle6
  by_cases c2 : a.vec.cls = 2
  · rw [c2]
    refine Zerun ?_
    refine RW.val (Y.build T rfl rfl rfl rfl rfl rfl rfl) rfl ?_
    (refine RW.storeAll T hs 0 rfl rfl rfl rfl rfl rfl rfl rfl ?_; intro w7 hs)
    refine Zerun ?_
    exact retQ_ret [_, _] h6 ⟨resN T hs 0 rfl rfl rfl rfl rfl rfl, rfl, trivial⟩ hs.dropAll ⟨_, _, _, rfl, ⟨_, _, rfl, IntsAt.nil _, vecNone _⟩, .inr (.inl ⟨c0, c2, rfl, rfl⟩)⟩
  obtain ⟨size, hsz⟩ : ∃ size, cellN a.shape = size := ⟨_, rfl⟩
  rw [hsz] at hcn
  rw [show (product (a.shape.drop 1) 1048576).1 = size from hsz]
  by_cases cz : size = 0
  · have hd0 := hd _ (memD a.shape 0 (by omega))
    obtain ⟨n, hn⟩ := Int.eq_ofNat_of_zero_le hd0.1
    have g0 := map_get (Value.int .i64) a.shape 0 0 (by omega)
    rw [hn] at g0 hd0
    subst cz
    refine Zerun ?_
    rw [show a.shape.getD (Int.toNat 0) 0 = (n : Int) from hn]
    (refine RW.make1 T hs rfl rfl rfl rfl rfl rfl rfl (by dsimp only; omega) (by omega) ?_; intro b8 w8 hs)
    have hs := hs.re (ys := (natsI (List.range 0) ++ List.replicate (n - 0) 0).map (Value.int .i64)) (by rw [List.map_append, List.map_replicate]; rfl)
    refine Zerun ?_
    refine CW.loop (fun i : Nat => [(2, .int .i64 o), (6, .pointer (some ⟨b3, 0, none⟩)), (10, .slice (some ⟨b8, 0, none⟩) n n), (38, .int .i64 n), (39, .int .i64 i)]) (fun i w' => i ≤ n ∧ Sees w h h6 [⟨some ⟨b8, 0, none⟩, n, n, 3, 1, (natsI (List.range i) ++ List.replicate (n - i) 0).map (Value.int .i64)⟩, ⟨some ⟨b3, 0, none⟩, 1, 1, 40, 9, .slice none 0 0 :: vecCells 0 (.slice none 0 0) 0 (.slice none 0 0) (.slice none 0 0) (.slice none 0 0) (.slice none 0 0) (.slice none 0 0)⟩, ⟨some ⟨b1, 0, none⟩, 1, 1, 40, 9, .slice ad1 a.shape.length cp1 :: vecCells a.vec.kind wv1 nv1 sm1 il1 fl1 ch1 bx1⟩] w') (fun i => n - i) 0 ⟨rfl, rfl, rfl, rfl, rfl, trivial⟩ ⟨by omega, hs⟩ ?_
    rintro i w9 ⟨hi, hs⟩
    by_cases hlt : i < n
    · have hAl : (natsI (List.range i)).length = i := by rw [natsI_len, List.length_range]
      refine Zerun ?_
      refine RW.val (Y.idxRN T hs 0 rfl rfl rfl rfl rfl rfl hlt) rfl ?_
      refine RW.st1 T hs 0 rfl rfl rfl rfl rfl rfl rfl hlt ?_
      intro w10 hs
      dsimp only [List.set_cons_zero, List.set_cons_succ] at hs
      rw [map_set_int, fillA hAl hlt, natsI_range] at hs
      refine Zerun ?_
      exact loopQ_round (i + 1) ⟨rfl, rfl, rfl, rfl, seti (by omega), trivial⟩ ⟨by omega, hs⟩ (by omega)
    obtain rfl : i = n := by omega
    rw [Nat.sub_self, List.replicate_zero, List.append_nil] at hs
    obtain ⟨h11, hle11, hs, hS11⟩ := hs.freeze
    have hI11 : IntsAt h11 (.slice (some ⟨b8, 0, none⟩) i i) (natsI (List.range i)) := IntsAt.of_sl hS11
    refine Zerun ?_
    (refine RW.call T hs rfl rfl rfl (baseInts_con k _ _ o _ _ hI11 (fun z hz => by have := natsI_mem (n := i) (fun j hj => by rw [List.length_range] at hj; rw [List.getD_eq_getElem?_getD, List.getElem?_range hj]; exact hj) z hz; omega) (by rw [natsI_len, List.length_range]; omega)) ?_; intro v h12 w12 hle12 hp12 hs)
    obtain ⟨cs12, rfl, ha12⟩ := hp12
    have hr12 := ha12
    obtain ⟨_, vc12, rfl, ⟨ad12, cp12, rfl, _⟩, hv12⟩ := ha12
    obtain ⟨wv12, nv12, sm12, il12, fl12, ch12, bx12, ⟨rfl, hoc12⟩, -⟩ := hv12
    refine Zerun ?_
    (refine RW.storeAll T hs 0 rfl rfl rfl rfl rfl rfl (by show (Value.oneCell' (.slice ad12 _ cp12) && (vecCells _ wv12 nv12 sm12 il12 fl12 ch12 bx12).all Value.oneCell') = true; rw [hoc12]; rfl) rfl ?_; intro w13 hs)
    refine Zerun ?_
    exact retQ_ret [_, _] h12 ⟨resN T hs 0 rfl rfl rfl rfl rfl rfl, rfl, trivial⟩ hs.dropAll ⟨_, _, _, rfl, hr12, .inr (.inr ⟨c0, c2, rfl, _, rfl, .inl ⟨hsz, by rw [hn]; rfl⟩⟩)⟩
  have hcl : a.vec.cls = 0 ∨ a.vec.cls = 1 := by unfold VecD.cls at c2 ⊢; split; omega; split; (rename_i e5 e6; rw [if_neg e5, if_pos e6] at c2; omega); omega
  refine Zerun ?_
  (refine RW.call T hs rfl rfl rfl (mergeGrade_con (ArrAt.mono k) _ a.vec size down _ _ hT hva' hm hcr hk0 (by omega) (by omega)) ?_; intro v h8 w8 hle8 hp8 hs)
  rcases hp8 with ⟨_, hs1, s8, out, rfl, hI8, hord8⟩ | ⟨hno, _⟩
  rotate_left
  · exact absurd ⟨hcl, by omega⟩ hno
  have hI8' := hI8
  obtain ⟨ad8, cp8, rfl, _⟩ := hI8
  have hdl : a.vec.len / size.toNat ≤ a.vec.len := Nat.div_le_self _ _
  have hol := hord8.len
  refine Zerun ?_
  (refine RW.call T hs rfl rfl rfl (baseInts_con k _ _ o _ _ hI8' (fun z hz => by have := natsI_mem (n := a.vec.len / size.toNat) (fun j hj => hord8.lt_n j (by omega)) z hz; omega) (by rw [natsI_len]; omega)) ?_; intro v h12 w12 hle12 hp12 hs)
  obtain ⟨cs12, rfl, ha12⟩ := hp12
  have hr12 := ha12
  obtain ⟨_, vc12, rfl, ⟨ad12, cp12, rfl, _⟩, hv12⟩ := ha12
  obtain ⟨wv12, nv12, sm12, il12, fl12, ch12, bx12, ⟨rfl, hoc12⟩, -⟩ := hv12
  refine Zerun ?_
  (refine RW.storeAll T hs 0 rfl rfl rfl rfl rfl rfl (by show (Value.oneCell' (.slice ad12 _ cp12) && (vecCells _ wv12 nv12 sm12 il12 fl12 ch12 bx12).all Value.oneCell') = true; rw [hoc12]; rfl) rfl ?_; intro w13 hs)
  refine Zerun ?_
  exact retQ_ret [_, _] h12 ⟨resN T hs 0 rfl rfl rfl rfl rfl rfl, rfl, trivial⟩ hs.dropAll ⟨_, _, _, rfl, hr12, .inr (.inr ⟨c0, c2, rfl, _, rfl, .inr ⟨by rw [hsz]; omega, by rw [hsz]; exact hord8⟩⟩)⟩
theorem ref27Grade_con (k : Nat) (cp0 : List Value) (p : PlainD (PD k)) (down : Bool) (o : Int) (w : World) (h : GHeap) (hp : PlainR (PlainAt k) h cp0 p) (hsh : p.shape.length ≤ 8) (hd : ∀ d ∈ p.shape, 0 ≤ d ∧ d ≤ 1048576) (hm : p.items.length ≤ 1048576) (hu : ∀ x ∈ p.items, x.kind = p.fill ∧ (p.fill = 0 → finF x.num)) (ho : 0 ≤ o ∧ o ≤ 1) :
    Con Tryz.prog 33 [.agg cp0.toArray, .bool down, .int .i64 o] w h (fun h' u => ∃ cs' e r, u = .tuple #[.agg cs'.toArray, .int .i64 e] ∧ PlainR (PlainAt k) h' cs' r ∧ GradeP p down o e r) := by
  obtain ⟨s, it, rfl, ⟨ad1, cp1, rfl, hS1⟩, hit⟩ := hp
  have hit' := hit
  obtain ⟨ad2, cp2, xs, rfl, hS2, hA2⟩ := hit
  have hcap := hS1.caps
  have hcn := cellN_rng p.shape
  refine Con.of_body Tryz.func33 rfl Tryz.ntmps33 rfl rfl ?_
  intro hs
  refine Zrun ?_
  (refine RW.boxN hs rfl rfl ?_; intro b1 w1 hs)
  (refine RW.allocN T hs rfl rfl rfl rfl ?_; intro b3 w3 hs)
  by_cases c0 : p.shape.length = 0
  · have hc0 : (p.shape.length : Int) = 0 := by omega
    refine Zerun ?_
    refine RW.val (Y.build T rfl rfl rfl rfl rfl rfl rfl) rfl ?_
    (refine RW.storeAll T hs 0 rfl rfl rfl rfl rfl rfl rfl rfl ?_; intro w5 hs)
    refine Zerun ?_
    exact retQ_ret [_, _] h ⟨resN T hs 0 rfl rfl rfl rfl rfl rfl, rfl, trivial⟩ hs.dropAll ⟨_, _, _, rfl, ⟨_, _, rfl, IntsAt.nil _, RowsAt.nil _⟩, .inl ⟨c0, rfl, rfl⟩⟩
  have hc0 : ¬ (p.shape.length : Int) = 0 := by omega
  by_cases c2 : p.fill = 2
  · refine Zerun ?_
    refine RW.val (Y.build T rfl rfl rfl rfl rfl rfl rfl) rfl ?_
    (refine RW.storeAll T hs 0 rfl rfl rfl rfl rfl rfl rfl rfl ?_; intro w7 hs)
    refine Zerun ?_
    exact retQ_ret [_, _] h ⟨resN T hs 0 rfl rfl rfl rfl rfl rfl, rfl, trivial⟩ hs.dropAll ⟨_, _, _, rfl, ⟨_, _, rfl, IntsAt.nil _, RowsAt.nil _⟩, .inr (.inl ⟨c0, c2, rfl, rfl⟩)⟩
  refine Zerun ?_
  refine RW.val (Y.sliceLo T rfl rfl rfl rfl ?_ ?_) rfl ?_
  · omega
  · omega
  have hT2 : IntsAt h (.slice (subAd ad1 1 cp1 1) (p.shape.length - 1) (cp1 - 1)) (p.shape.drop 1) := by
    have := hS1.from 1 (by omega)
    rw [Nat.mul_one, ← List.map_drop] at this
    exact IntsAt.of_sl this
  (refine RW.call T hs rfl rfl rfl (refProduct_con _ (p.shape.drop 1) 1048576 _ _ hT2 (by simp; omega)) ?_; intro v h5 w5 hle5 hp5 hs)
  subst hp5
  have hS1 := hS1.mono hle5
  have hit' := hit'.mono hle5 (fun u a => ItemAt.mono (PlainAt.mono k) _ _ u a hle5)
  obtain ⟨size, hsz⟩ : ∃ size, cellN p.shape = size := ⟨_, rfl⟩
  rw [hsz] at hcn
  rw [show (product (p.shape.drop 1) 1048576).1 = size from hsz]
  by_cases cz : 0 < size
  · obtain ⟨sz, rfl⟩ := Int.eq_ofNat_of_zero_le (show 0 ≤ size by omega)
    refine Zerun ?_
    (refine RW.call T hs rfl rfl rfl (ref16Grade_con (PlainAt.mono k) _ _ p.fill sz down _ _ hit' hu hm (by omega) (by omega)) ?_; intro v h8 w8 hle8 hp8 hs)
    obtain ⟨out, hI8, hord8⟩ := hp8
    have hI8' := hI8
    obtain ⟨ad8, cp8, rfl, _⟩ := hI8
    have hdl : p.items.length / sz ≤ p.items.length := Nat.div_le_self _ _
    have hol := hord8.len
    refine Zerun ?_
    (refine RW.call T hs rfl rfl rfl (ref27Ints_con (PlainAt.mono k) _ _ o _ _ hI8' (fun z hz => by have := natsI_mem (n := p.items.length / sz) (fun j hj => hord8.lt_n j (by omega)) z hz; omega) (by rw [natsI_len]; omega)) ?_; intro v h12 w12 hle12 hp12 hs)
    obtain ⟨cs12, rfl, hq12⟩ := hp12
    have hr12 := hq12
    obtain ⟨s12, it12, rfl, ⟨adS12, cpS12, rfl, _⟩, ⟨adI12, cpI12, xsI12, rfl, _, _⟩⟩ := hq12
    refine Zerun ?_
    (refine RW.storeAll T hs 0 rfl rfl rfl rfl rfl rfl rfl rfl ?_; intro w13 hs)
    refine Zerun ?_
    exact retQ_ret [_, _] h12 ⟨resN T hs 0 rfl rfl rfl rfl rfl rfl, rfl, trivial⟩ hs.dropAll ⟨_, _, _, rfl, hr12, .inr (.inr ⟨c0, c2, rfl, _, rfl, .inr ⟨by rw [hsz]; omega, by rw [hsz, Int.toNat_natCast]; exact hord8⟩⟩)⟩
  obtain rfl : size = 0 := by omega
  have hd0 := hd _ (memD p.shape 0 (by omega))
  obtain ⟨n, hn⟩ := Int.eq_ofNat_of_zero_le hd0.1
  have g0 := map_get (Value.int .i64) p.shape 0 0 (by omega)
  rw [hn] at g0 hd0
  have hn2 : p.shape.getD (Int.toNat 0) 0 = (n : Int) := hn
  refine Zerun ?_
  have hs := hs.nilRow 3 1
  refine CW.loop (fun u : Nat × (Option Addr × Nat) => [(2, .int .i64 o), (3, .pointer (some ⟨b1, 0, none⟩)), (6, .pointer (some ⟨b3, 0, none⟩)), (10, .slice u.2.1 u.1 u.2.2), (11, .int .i64 u.1)]) (fun u w' => u.1 ≤ n ∧ Sees w h h5 [⟨u.2.1, u.1, u.2.2, 3, 1, (natsI (List.range u.1)).map (Value.int .i64)⟩, ⟨some ⟨b3, 0, none⟩, 1, 1, 25, 3, [.slice none 0 0, .slice none 0 0, .int .i64 0]⟩, ⟨some ⟨b1, 0, none⟩, 1, 1, 25, 3, [.slice ad1 p.shape.length cp1, .slice ad2 p.items.length cp2, .int .i64 p.fill]⟩] w') (fun u => n - u.1) (0, (none, 0)) ⟨rfl, rfl, rfl, rfl, rfl, trivial⟩ ⟨by omega, hs⟩ ?_
  rintro ⟨i, ⟨ai, ci⟩⟩ w9 ⟨hi, hs⟩
  dsimp only at hi hs ⊢
  by_cases hlt : i < n
  · refine Zerun ?_
    (refine RW.lit T hs (vs := [.int .i64 (i : Int)]) (cs := [.int .i64 (i : Int)]) rfl rfl rfl rfl (by simp [Value.cells]) rfl rfl rfl rfl rfl ?_; intro b33 w33 hs)
    (refine RW.append T hs 1 rfl rfl (m := 1) (news := [.int .i64 (i : Int)]) rfl rfl rfl rfl rfl rfl (hs.src0 rfl (by simp [Value.oneCell'])) (by simp) (by dsimp only; omega) (by omega) ?_; intro ad34 cp34 w34 hs; replace hs := hs.drop)
    refine Zerun ?_
    refine loopQ_round (i + 1, (ad34, cp34)) ⟨rfl, rfl, rfl, rfl, seti (by dsimp only; omega), trivial⟩ ⟨by dsimp only; omega, ?_⟩ (by dsimp only; omega)
    dsimp only
    rw [← natsI_range, List.map_append]
    exact hs
  obtain rfl : i = n := by omega
  obtain ⟨h11, hle11, hs, hS11⟩ := hs.freeze
  have hS1 := hS1.mono hle11
  have hI11 : IntsAt h11 (.slice ai i ci) (natsI (List.range i)) := IntsAt.of_sl hS11
  refine Zerun ?_
  (refine RW.call T hs rfl rfl rfl (ref27Ints_con (PlainAt.mono k) _ _ o _ _ hI11 (fun z hz => by have := natsI_mem (n := i) (fun j hj => by rw [List.length_range] at hj; rw [List.getD_eq_getElem?_getD, List.getElem?_range hj]; exact hj) z hz; omega) (by rw [natsI_len, List.length_range]; omega)) ?_; intro v h12 w12 hle12 hp12 hs)
  obtain ⟨cs12, rfl, hq12⟩ := hp12
  have hr12 := hq12
  obtain ⟨s12, it12, rfl, ⟨adS12, cpS12, rfl, _⟩, ⟨adI12, cpI12, xsI12, rfl, _, _⟩⟩ := hq12
  refine Zerun ?_
  (refine RW.storeAll T hs 0 rfl rfl rfl rfl rfl rfl rfl rfl ?_; intro w13 hs)
  refine Zerun ?_
  exact retQ_ret [_, _] h12 ⟨resN T hs 0 rfl rfl rfl rfl rfl rfl, rfl, trivial⟩ hs.dropAll ⟨_, _, _, rfl, hr12, .inr (.inr ⟨c0, c2, rfl, _, rfl, .inl ⟨hsz, by rw [hn]; rfl⟩⟩)⟩
end Go.Proofs.YtmojpbfkpggjhaaGreatDoor

/-
  Contract of the law's own function of layer 17: places of elements in order. No statement is proved here.
-/
namespace Go.Proofs.YtmojpbfkpggjhaaGreatDoor
open Go Go.RowKit
set_option linter.unusedVariables false
set_option linter.unusedSimpArgs false
set_option maxHeartbeats 4000000
attribute [local irreducible] CW RW QW SW HW ConM retM heldQ calmQ elemP thenQ blockQ loopQ joinQ retQ Yields Con Sl zF magR unitF truncF fwF wholeF tidySpec elemQ rankF leastN tidyW
set_option maxHeartbeats 4000000

theorem arr_chars (k : Nat) (p : PD (k + 1)) (hch : ∀ x ∈ PlainD.items (α := PD k) p, -2147483648 ≤ x.char ∧ x.char < 2147483648) : ∀ c ∈ (ArrD.vec (α := AD k) (arr (k + 1) p)).chars, -2147483648 ≤ c ∧ c < 2147483648 := by
  intro c hc
  change c ∈ (arrV (arr k) (PlainD.fill (α := PD k) p) (PlainD.items (α := PD k) p)).chars at hc
  unfold arrV at hc
  split at hc
  · obtain ⟨x, hx, rfl⟩ := List.mem_map.1 hc
    exact hch x hx
  · split at hc <;> cases hc
end Go.Proofs.YtmojpbfkpggjhaaGreatDoor

/-
  Contract of the law's own function of layer 18: places of cells in order. No statement is proved here.
-/
namespace Go.Proofs.YtmojpbfkpggjhaaGreatDoor
open Go Go.RowKit
set_option linter.unusedVariables false
set_option linter.unusedSimpArgs false
set_option maxHeartbeats 4000000
attribute [local irreducible] CW RW QW SW HW ConM retM heldQ calmQ elemP thenQ blockQ loopQ joinQ retQ Yields Con Sl zF magR unitF truncF fwF wholeF tidySpec elemQ rankF leastN tidyW
set_option maxHeartbeats 4000000

theorem cell_in {n size len i m : Nat} (hn : n * size ≤ len) (hi : i < n) (hm : m < size) : i * size + m < len := by
  have h1 : (i + 1) * size ≤ n * size := Nat.mul_le_mul_right _ hi
  rw [Nat.add_mul, Nat.one_mul] at h1
  omega
end Go.Proofs.YtmojpbfkpggjhaaGreatDoor

/-
  Contract of the law's own function of layer 18: what is in order stays, downwards is upwards backwards. No statement is proved here.
-/
namespace Go.Proofs.YtmojpbfkpggjhaaGreatDoor
open Go Go.RowKit
set_option linter.unusedVariables false
set_option linter.unusedSimpArgs false
set_option maxHeartbeats 4000000
attribute [local irreducible] CW RW QW SW HW ConM retM heldQ calmQ elemP thenQ blockQ loopQ joinQ retQ Yields Con Sl zF magR unitF truncF fwF wholeF tidySpec elemQ rankF leastN tidyW
set_option maxHeartbeats 4000000

section
variable {α : Type} {R : GHeap → List Value → α → Prop}
theorem gV_pick (v : VecD α) (o : List Nat) (nb : α) (j : Nat) (hc : v.cls = 0 ∨ v.cls = 1) (hj : j < o.length) (hl : v.kind = 5 → o.getD j 0 < v.chars.length) : gV (v.pick (natsI o) nb) j = gV v (o.getD j 0) := by
  have ho : (natsI o).getD j 0 = ((o.getD j 0 : Nat) : Int) := natsI_get o j
  have hnl : j < (natsI o).length := by rw [natsI_len]; exact hj
  by_cases k5 : v.kind = 5
  · have e : v.pick (natsI o) nb = ⟨5, [], (natsI o).map (fun i => atD v.chars i 32), []⟩ := by unfold VecD.pick; rw [if_pos k5]
    unfold gV
    rw [e, if_pos rfl, if_pos k5]
    show ((natsI o).map (fun i => atD v.chars i 32)).getD j 0 = _
    rw [List.getD_eq_getElem?_getD, List.getElem?_map, List.getElem?_eq_getElem hnl]
    rw [List.getD_eq_getElem?_getD, List.getElem?_eq_getElem hnl] at ho
    simp only [Option.getD_some] at ho
    simp only [Option.map_some, Option.getD_some]
    rw [ho]
    have := hl k5
    generalize o.getD j 0 = q at *
    unfold atD
    rw [if_pos (by omega), Int.toNat_natCast, List.getD_eq_getElem?_getD, List.getD_eq_getElem?_getD, List.getElem?_eq_getElem this]
    rfl
  · have k6 : ¬ v.kind = 6 := by unfold VecD.cls at hc; intro e; rw [if_neg k5, if_pos e] at hc; omega
    have e : (v.pick (natsI o) nb).nums = (natsI o).map v.num := by unfold VecD.pick; rw [if_neg k5, if_neg k6]
    have k : ¬ (v.pick (natsI o) nb).kind = 5 := by
      have := leastN_bounds ((natsI o).map v.num)
      unfold VecD.pick
      rw [if_neg k5, if_neg k6]
      dsimp only
      omega
    unfold gV
    rw [if_neg k, if_neg k5, e, List.getD_eq_getElem?_getD, List.getElem?_map, List.getElem?_eq_getElem hnl]
    rw [List.getD_eq_getElem?_getD, List.getElem?_eq_getElem hnl] at ho
    simp only [Option.getD_some] at ho
    simp only [Option.map_some, Option.getD_some]
    rw [ho]
    unfold VecD.num
    rw [if_pos (by omega), Int.toNat_natCast]
end
end Go.Proofs.YtmojpbfkpggjhaaGreatDoor
