/-
  Own texts of the claim, merged: LibY, Na, PlainL, Nb, Nc, Nd, PlainM, Ne, Nf, Ng, Wa, Wb, Wc. Lemmas of the proof; no statement is proved here.
-/
import Derived.Test.YtmojpbfkpggjhaaGreatDoorMc
import Derived.Laws.Externs
/-
  The program logic, nineteenth part: frozen rows of whole structs, products of words, functions that the model stands in for. No statement is proved here.
-/
namespace Go.Proofs.YtmojpbfkpggjhaaGreatDoor
open Go Go.RowKit
set_option linter.unusedVariables false
set_option linter.unusedSimpArgs false
set_option linter.unusedVariables false
section
variable {P : Program} (T : Tab P) {n : Nat} {Q : Post} {L : Env} {w0 w : World} {h0 h : GHeap} {O : List Row} {ops rest : List Oper} {x y : Operand} {t : TypeId}
variable {d : Option Tmp} {ty yt : TypeId} {pos : String} {aft : Array Edge}
/-- a cell of a frozen row -/
theorem Sl.cellAt (hs : Sees w0 h0 h O w) {b sz m cp o : Nat} {xs : List Value} {v : Value} (hS : Sl h sz (some ⟨b, 0, none⟩) m cp xs) (ho : o < m * sz) (hv : xs[o]? = some v) : w.cell? ⟨b, o, none⟩ = some v := by
  obtain ⟨cs, h1, h2⟩ := (hS.2.2.2.2 _ rfl).2 o ho
  refine hs.cell h1 ?_
  rw [Nat.zero_add] at h2
  rw [h2, hv]
theorem Y.ldF1 (hs : Sees w0 h0 h O w) {dd : Ty} {b sz m cp o : Nat} {xs : List Value} {v : Value} (hS : Sl h sz (some ⟨b, 0, none⟩) m cp xs) (hx : opv L x = some (.pointer (some ⟨b, o, none⟩))) (hT : T.ty t = some dd) (hd : dd.agg = false) (ho : Nat.blt o (m * sz) = true) (hv : xs[o]? = some v) : Yields P n L w (.load t x) ty v :=
  Y.load1 T hT hd hx (Sl.cellAt hs hS (Nat.le_of_ble_eq_true ho) hv)
theorem Y.ldFN (hs : Sees w0 h0 h O w) {dd : Ty} {i : Inf} {b sz m cp o : Nat} {xs cs : List Value} (hS : Sl h sz (some ⟨b, 0, none⟩) m cp xs) (hx : opv L x = some (.pointer (some ⟨b, o, none⟩))) (hT : T.ty t = some dd) (hd : dd.agg = true) (hI : T.inf t = some i) (ho : Nat.ble (o + i.size) (m * sz) = true) (hc : (xs.drop o).take i.size = cs) (hl : cs.length = i.size) : Yields P n L w (.load t x) ty (.agg cs.toArray) := by
  have ho := Nat.le_of_ble_eq_true ho
  refine Y.loadN T hT hd hI hl hx ?_
  intro j r hj
  have hjl := (List.getElem?_eq_some_iff.1 hj).1
  refine Sl.cellAt hs hS (by omega) ?_
  rw [← hc, List.getElem?_take, if_pos (by omega), List.getElem?_drop] at hj
  exact hj
/-- a whole number, as a word -/
def wrN (z : Int) : Nat := (z % 18446744073709551616).toNat
theorem wrN_lt (z : Int) : wrN z < 18446744073709551616 := by unfold wrN; omega
theorem wrap_wrN (z : Int) : IntKind.u64.wrap z = (wrN z : Int) := by
  unfold wrN
  have e : IntKind.u64.wrap z = z % 18446744073709551616 := by
    simp [IntKind.wrap, IntKind.signed, IntKind.bits]
  rw [e]; omega
def wr32 (z : Int) : Nat := (z % 4294967296).toNat
theorem wr32_lt (z : Int) : wr32 z < 4294967296 := by unfold wr32; omega
theorem wrap_wr32 (z : Int) : IntKind.u32.wrap z = (wr32 z : Int) := by
  unfold wr32
  have e : IntKind.u32.wrap z = z % 4294967296 := by
    simp [IntKind.wrap, IntKind.signed, IntKind.bits]
  rw [e]; omega
theorem Y.mulU {u v : Nat} (hx : opv L x = some (.int .u64 (u : Int))) (hy : opv L y = some (.int .u64 (v : Int))) : Yields P n L w (.binOp .mul t x y yt) ty (.int .u64 ((u * v % 18446744073709551616 : Nat) : Int)) := by
  have := Y.mul' (P := P) (n := n) (w := w) (ty := ty) (t := t) (yt := yt) hx hy
  have e : IntKind.u64.wrap ((u : Int) * (v : Int)) = ((u * v % 18446744073709551616 : Nat) : Int) := by
    rw [wrap_wrN]; unfold wrN
    rw [← Int.natCast_mul]
    omega
  rwa [e] at this
theorem Y.addU {u v : Nat} (hx : opv L x = some (.int .u64 (u : Int))) (hy : opv L y = some (.int .u64 (v : Int))) (hb : u + v < 18446744073709551616) : Yields P n L w (.binOp .add t x y yt) ty (.int .u64 ((u + v : Nat) : Int)) := by
  have := Y.add' (P := P) (n := n) (w := w) (ty := ty) (t := t) (yt := yt) hx hy
  have e : IntKind.u64.wrap ((u : Int) + (v : Int)) = ((u + v : Nat) : Int) := by
    rw [wrap_wrN]; unfold wrN; omega
  rwa [e] at this
/-- a call of a function that the model stands in for -/
theorem Y.stood {f : FuncId} {fn : Func} {e : Array Value → Sem Value} (hf : P.funcs[f]? = some fn) (hname : (fn.name == "runtime.NumGoroutine") = false) (hb : fn.body.isNone = true) (hn : Extern.findNext fn = none) (he : Extern.find fn = some e)
    {u v : Value} (hx : opv L x = some u) (hr : (e #[u]).run P w = .ok v w) {ats : Array TypeId} : Yields P n L w (.call ⟨.value (.func f), #[x], ats⟩) ty v := by
  intro a ha d pos aft g
  have h1 := run_callFunc_extern hf hname hb hn he #[u] w
  rw [hr] at h1
  have h2 : #[x].map a.eval = #[u] := by simp [ha.eval hx]
  have hcl : a.eval (.func f) = .func (.func f) #[] #[] := rfl
  simp [execOp, resolve, Deferred.ofValue, hcl, invoke, ha.eval hx, h1]
end
/-! ## Regions that draw their order and change memory: two of the call's own rows fixed, and what lies frozen -/
section
variable {P : Program} {n : Nat} {Q : Post} {L : Env} {w0 w : World} {h0 h hb : GHeap} {O : List Row} {ops rest : List Oper} {ra rb : Row}
variable {d : Option Tmp} {ty : TypeId} {pos : String} {aft : Array Edge} {fuel : Nat} {listed : Array Bool}
def SG (w0 : World) (h0 hb : GHeap) (ra rb : Row) (w : World) : Prop := ∃ (h' : GHeap) (O : List Row) (k j : Nat), GLe hb h' ∧ Sees w0 h0 h' O w ∧ O[k]? = some ra ∧ O[j]? = some rb
theorem CW.regionG (T' : Tab P) (k j : Nat) (hs : Sees w0 h0 h O w) (ha : O[k]? = some ra) (hb' : O[j]? = some rb) {id : Nat} {l : List Oper} (K : ∀ w', Sees w0 h0 h O w' → HW P n l (calmQ Q) (SG w0 h0 h ra rb) l.length (Array.replicate l.length false) L w') : CW P n Q (.region id l.toArray true) L w :=
  CW.regionH T' (SG w0 h0 h ra rb) (fun w' e => by subst e; exact K _ hs.drew)
theorem HW.takeG (i : Nat) {op : Op} {v : Value} (hi : ops.toArray[i]? = some ⟨d, op, ty, pos, aft, none⟩) (hy : ∀ (h' : GHeap) (O : List Row) (ka kb : Nat) (w' : World), GLe hb h' → Sees w0 h0 h' O w' → O[ka]? = some ra → O[kb]? = some rb → Yields P n L w' op ty v) (hS : SG w0 h0 hb ra rb w) (hd : dstOk n d = true)
    (hs : Region.noSelect ops.toArray = true) (hf : Region.free .any ops.toArray listed i = true) (hr : (Region.ready .any ops.toArray listed).contains i = true)
    (hh : HW P n ops (calmQ Q) (SG w0 h0 hb ra rb) fuel (listed.setIfInBounds i true) (updo d v L) w) : HW P n ops (calmQ Q) (SG w0 h0 hb ra rb) (fuel + 1) listed L w :=
  HW.take i hi (fun w' ⟨h', O, k, j, g, s, a, b⟩ => hy h' O k j w' g s a b) hS hd hs hf hr hh
end
end Go.Proofs.YtmojpbfkpggjhaaGreatDoor

/-
  Contracts of functions of package hash: the keys of elements and of whole arrays. No statement is proved here.
-/
namespace Go.Proofs.YtmojpbfkpggjhaaGreatDoor
open Go Go.RowKit
set_option linter.unusedVariables false
set_option linter.unusedSimpArgs false
set_option maxHeartbeats 4000000
attribute [local irreducible] CW RW QW SW HW ConM retM heldQ calmQ elemP thenQ blockQ loopQ joinQ retQ Yields Con Sl zF magR unitF truncF fwF wholeF tidySpec elemQ rankF leastN tidyW
set_option maxHeartbeats 1000000

def mixN (a b : Nat) : Nat := ((a ^^^ b) * 11400714819323198485 % 18446744073709551616) ^^^ (((a ^^^ b) * 11400714819323198485 % 18446744073709551616) >>> 29)
theorem xor_lt64 {a b : Nat} (ha : a < 18446744073709551616) (hb : b < 18446744073709551616) : a ^^^ b < 18446744073709551616 := Nat.xor_lt_two_pow (n := 64) ha hb
theorem mixN_lt (a b : Nat) : mixN a b < 18446744073709551616 := by
  unfold mixN
  refine xor_lt64 (Nat.mod_lt _ (by decide)) ?_
  exact Nat.lt_of_le_of_lt (Nat.shiftRight_le _ _) (Nat.mod_lt _ (by decide))
theorem mix_con (a b : Nat) (w : World) (h : GHeap) (ha : a < 18446744073709551616) (hb : b < 18446744073709551616) : Con Tryz.prog 197 [.int .u64 a, .int .u64 b] w h (fun _ u => u = .int .u64 (mixN a b)) := by
  refine Con.of_body Tryz.func197 rfl Tryz.ntmps197 rfl rfl ?_
  intro hs
  refine Zrun ?_
  refine RW.val (Y.xorU rfl rfl ha hb) rfl ?_
  refine Zrun ?_
  refine RW.val (Y.mulU (v := 11400714819323198485) rfl rfl) rfl ?_
  refine Zrun ?_
  refine RW.val (Y.shrU (v := 29) rfl rfl (by omega)) rfl ?_
  refine RW.val (Y.xorU rfl rfl (Nat.mod_lt _ (by decide)) (Nat.lt_of_le_of_lt (Nat.shiftRight_le _ _) (Nat.mod_lt _ (by decide)))) rfl ?_
  refine Zrun ?_
  exact retQ_ret [_] h ⟨rfl, trivial⟩ hs rfl
theorem Y.f64bits {n : Nat} {L : Env} {w : World} {ty : TypeId} {x : Operand} {u : Nat} {ats : Array TypeId} (hx : opv L x = some (.float .f64 u)) : Yields Tryz.prog n L w (.call ⟨.value (.func 199), #[x], ats⟩) ty (.int .u64 (u : Int)) :=
  Y.stood (e := Extern.MathFloatBits.float64bits) Tryz.func199 (by kernel_rfl) (by kernel_rfl) (by kernel_rfl) (by kernel_rfl) hx rfl

/-- the key of an item, of a plain array -/
def keyIt {β : Type} (G : β → Nat) (x : ItemD β) : Nat := if x.kind = 1 then mixN 1 (wr32 x.char) else if x.kind = 2 then (x.box.map G).headD 0 else mixN 2 x.num
def keyPl {β : Type} (G : β → Nat) (p : PlainD β) : Nat := p.items.foldl (fun k x => mixN k (keyIt G x)) (p.shape.foldl (fun k d => mixN k (wrN d)) (mixN 3 (wrN p.fill)))
def keyP : (k : Nat) → PD k → Nat
  | 0 => fun _ => 0
  | k + 1 => fun p => keyPl (β := PD k) (keyP k) p
theorem fold_lt {δ : Type} (f : δ → Nat) : ∀ (l : List δ) (a : Nat), a < 18446744073709551616 → l.foldl (fun k x => mixN k (f x)) a < 18446744073709551616
  | [], _, h => h
  | x :: l, a, _ => fold_lt f l _ (mixN_lt _ _)
theorem keyPl_lt {β : Type} (G : β → Nat) (p : PlainD β) : keyPl G p < 18446744073709551616 := fold_lt _ _ _ (fold_lt _ _ _ (mixN_lt _ _))
theorem keyP_lt : ∀ (k : Nat) (p : PD k), keyP k p < 18446744073709551616
  | 0, _ => by show 0 < _; omega
  | k + 1, p => keyPl_lt (β := PD k) _ p
theorem keyIt_lt {β : Type} (G : β → Nat) (hG : ∀ b, G b < 18446744073709551616) (x : ItemD β) : keyIt G x < 18446744073709551616 := by
  unfold keyIt
  split
  · exact mixN_lt _ _
  · split
    · cases x.box with
      | nil => show 0 < _; omega
      | cons b r => exact hG b
    · exact mixN_lt _ _
theorem keyIt_num {β : Type} (G : β → Nat) (n : Nat) : keyIt G ⟨0, n, 0, []⟩ = mixN 2 n := by
  unfold keyIt
  rw [if_neg (show ¬ (0 : Int) = 1 by omega), if_neg (show ¬ (0 : Int) = 2 by omega)]
theorem keyIt_chr {β : Type} (G : β → Nat) (c : Int) : keyIt G ⟨1, 0, c, []⟩ = mixN 1 (wr32 c) := by
  unfold keyIt
  rw [if_pos (show (1 : Int) = 1 by omega)]
theorem keyIt_box {β : Type} (G : β → Nat) (b : β) : keyIt G ⟨2, 0, 0, [b]⟩ = G b := by
  unfold keyIt
  rw [if_neg (show ¬ (2 : Int) = 1 by omega), if_pos (show (2 : Int) = 2 by omega)]
  rfl
attribute [local irreducible] mixN wrN wr32 keyIt

section
variable {α β : Type} {R : GHeap → List Value → α → Prop}
theorem key_step (hR : Mono R) (h1 : One R) (f : α → β) (G : β → Nat) (q : α → Prop) (ih : ∀ cs a w h, R h cs a → q a → Con Tryz.prog 198 [.agg cs.toArray] w h (fun _ u => u = .int .u64 (G (f a) : Nat)))
    (cs : List Value) (v : VecD α) (i : Nat) (w : World) (h : GHeap) (hv : VecAt R h cs v) (hi : i < v.len) (qb : ∀ x ∈ v.boxes, q x) :
    Con Tryz.prog 186 [.agg cs.toArray, .int .i64 i] w h (fun _ u => u = .int .u64 (keyIt G ((itemsV f v).getD i noItem) : Nat)) := by
  have hv' := hv
  obtain ⟨wv, nv, sm, il, fl, ch, bx, ⟨rfl, hoc⟩, hk⟩ := hv
  clear hk
  refine Con.of_body Tryz.func186 rfl Tryz.ntmps186 rfl rfl ?_
  intro hs
  refine Zrun ?_
  (refine RW.boxN hs rfl rfl ?_; intro b1 w1 hs)
  refine Zerun ?_
  (refine RW.call T hs rfl rfl rfl (vecClass_con _ v _ _ hv') ?_; intro v h2 w2 hle2 hp2 hs)
  subst hp2
  have hv' := hv'.mono hR hle2
  refine Zerun ?_
  rcases hv'.sorts with ⟨hc, hn⟩ | ⟨hc, hn⟩ | ⟨hc, hn⟩
  · rw [itemsV_num f hc (by omega), keyIt_num]
    have tv : v.num i < 18446744073709551616 := by
      unfold VecD.num; rw [if_pos (by omega), Int.toNat_natCast]; exact (hv'.tidy _ (mem_getD _ _ _ (by omega))).1
    refine Zerun ?_
    (refine RW.call T hs rfl rfl rfl (vecNum_con _ v i _ _ hv') ?_; intro v h3 w3 hle3 hp3 hs)
    subst hp3
    refine RW.val (Y.f64bits rfl) rfl ?_
    (refine RW.call T hs rfl rfl rfl (mix_con 2 _ _ _ (by omega) tv) ?_; intro v h4 w4 hle4 hp4 hs)
    subst hp4
    refine Zerun ?_
    exact retQ_ret [_] h4 ⟨rfl, trivial⟩ hs.dropAll rfl
  · rw [itemsV_chr f hc (by omega), keyIt_chr]
    refine Zerun ?_
    (refine RW.call T hs rfl rfl rfl (vecChar_con _ v i _ _ hv') ?_; intro v h3 w3 hle3 hp3 hs)
    subst hp3
    refine RW.val (Y.convII T rfl rfl rfl) rfl ?_
    refine RW.val (Y.convII T rfl rfl rfl) rfl ?_
    rw [wrap_wr32, wrapU _ (Nat.lt_trans (wr32_lt _) (by decide))]
    (refine RW.call T hs rfl rfl rfl (mix_con 1 _ _ _ (by omega) (Nat.lt_trans (wr32_lt _) (by decide))) ?_; intro v h4 w4 hle4 hp4 hs)
    subst hp4
    refine Zerun ?_
    exact retQ_ret [_] h4 ⟨rfl, trivial⟩ hs.dropAll rfl
  · have hia : i < v.boxes.length := by omega
    rw [itemsV_box f hc hia, keyIt_box]
    refine Zerun ?_
    (refine RW.call T hs rfl rfl rfl (vecBox_con hR h1 _ v i v.boxes[i] _ _ hv' hia) ?_; intro v h3 w3 hle3 hp3 hs)
    obtain ⟨cs3, rfl, _, hR3⟩ := hp3
    rw [List.getD_eq_getElem?_getD, List.getElem?_eq_getElem hia] at hR3
    (refine RW.call T hs rfl rfl rfl (ih _ _ _ _ hR3 (qb _ (List.getElem_mem hia))) ?_; intro v h4 w4 hle4 hp4 hs)
    subst hp4
    refine Zerun ?_
    exact retQ_ret [_] h4 ⟨rfl, trivial⟩ hs.dropAll rfl
theorem fold_take {δ : Type} (f : Nat → δ → Nat) (l : List δ) (a : Nat) (i : Nat) (d : δ) (hi : i < l.length) : (l.take (i + 1)).foldl f a = f ((l.take i).foldl f a) (l.getD i d) := by
  rw [List.take_add_one, List.getElem?_eq_getElem hi, Option.toList_some, List.foldl_append]
  simp [List.getD_eq_getElem?_getD, hi]
theorem whole_step (hR : Mono R) (f : α → β) (G : β → Nat) (hG : ∀ b, G b < 18446744073709551616) (q : α → Prop) (ih : ∀ cs v i w h, VecAt R h cs v → i < v.len → (∀ x ∈ v.boxes, q x) → Con Tryz.prog 186 [.agg cs.toArray, .int .i64 (i : Nat)] w h (fun _ u => u = .int .u64 (keyIt G ((itemsV f v).getD i noItem) : Nat)))
    (cs : List Value) (a : ArrD α) (w : World) (h : GHeap) (ha : ArrR R h cs a) (qa : smlA q a) :
    Con Tryz.prog 198 [.agg cs.toArray] w h (fun _ u => u = .int .u64 (keyPl G (plainA f a) : Nat)) := by
  obtain ⟨s, vc, rfl, hs', hv⟩ := ha
  have hv' := hv
  obtain ⟨ad, cp, rfl, hS⟩ := hs'
  obtain ⟨wv, nv, sm, il, fl, ch, bx, ⟨rfl, hoc⟩, hk⟩ := hv
  clear hk
  obtain ⟨q1, q2, q3⟩ := qa
  have hlen := itemsV_len f hv'
  have hac : keyPl G (plainA f a) = (itemsV f a.vec).foldl (fun k x => mixN k (keyIt G x)) (a.shape.foldl (fun k d => mixN k (wrN d)) (mixN 3 (wrN a.vec.cls))) := rfl
  rw [hac]
  have hm3 := mixN_lt 3 (wrN a.vec.cls)
  refine Con.of_body Tryz.func198 rfl Tryz.ntmps198 rfl rfl ?_
  intro hs
  refine Zrun ?_
  (refine RW.boxN hs rfl rfl ?_; intro b1 w1 hs)
  refine Zerun ?_
  (refine RW.call T hs rfl rfl rfl (vecClass_con _ a.vec _ _ hv') ?_; intro v h2 w2 hle2 hp2 hs)
  subst hp2
  have hv' := hv'.mono hR hle2
  have hS := hS.mono hle2
  refine RW.val (Y.convII T rfl rfl rfl) rfl ?_
  rw [wrap_wrN]
  (refine RW.call T hs rfl rfl rfl (mix_con 3 _ _ _ (by omega) (wrN_lt _)) ?_; intro v h3 w3 hle3 hp3 hs)
  subst hp3
  have hv' := hv'.mono hR hle3
  have hS := hS.mono hle3
  obtain ⟨m3, e3⟩ : ∃ m3, mixN 3 (wrN a.vec.cls) = m3 := ⟨_, rfl⟩
  rw [e3] at hm3 ⊢
  refine Zerun ?_
  refine CW.loop (fun u : Nat × Nat × GHeap => [(1, .pointer (some ⟨b1, 0, none⟩)), (3, .int .u64 (u.2.1 : Int)), (13, .slice ad a.shape.length cp), (14, .int .i64 a.shape.length), (15, .int .i64 u.1)]) (fun u w' => u.1 ≤ a.shape.length ∧ u.2.1 = (a.shape.take u.1).foldl (fun k d => mixN k (wrN d)) m3 ∧ GLe h3 u.2.2 ∧ Sees w h u.2.2 [⟨some ⟨b1, 0, none⟩, 1, 1, 40, 9, .slice ad a.shape.length cp :: vecCells a.vec.kind wv nv sm il fl ch bx⟩] w') (fun u => a.shape.length - u.1) (0, m3, h3) ⟨rfl, rfl, rfl, rfl, rfl, trivial⟩ ⟨by omega, by simp, GLe.refl _, hs⟩ ?_
  rintro ⟨i, acc, hh⟩ w4 ⟨hi, hac, hg, hs⟩
  dsimp only at hi hac hg hs ⊢
  have hS := hS.mono hg
  by_cases hlt : i < a.shape.length
  · have hfl := fold_lt wrN (a.shape.take i) _ hm3
    have hft := fold_take (fun k d => mixN k (wrN d)) a.shape m3 i 0 hlt
    rw [← hac] at hfl hft
    refine Zerun ?_
    refine RW.val (Y.convII T rfl rfl rfl) rfl ?_
    rw [wrap_wrN]
    (refine RW.call T hs rfl rfl rfl (mix_con _ _ _ _ hfl (wrN_lt _)) ?_; intro v h5 w5 hle5 hp5 hs)
    subst hp5
    refine Zerun ?_
    exact loopQ_round (i + 1, _, h5) ⟨rfl, rfl, rfl, rfl, rfl, trivial⟩ ⟨by dsimp only; omega, hft.symm, hg.trans hle5, hs⟩ (by dsimp only; omega)
  have e : i = a.shape.length := by omega
  subst e
  rw [List.take_length] at hac
  have hal := fold_lt wrN a.shape _ hm3
  rw [← hac] at hal ⊢
  clear hac
  have hv' := hv'.mono hR hg
  refine Zerun ?_
  (refine RW.call T hs rfl rfl rfl (vecLen_con _ a.vec _ _ hv') ?_; intro v h6 w6 hle6 hp6 hs)
  subst hp6
  have hv' := hv'.mono hR hle6
  refine Zerun ?_
  refine CW.loop (fun u : Nat × Nat × GHeap => [(1, .pointer (some ⟨b1, 0, none⟩)), (3, .int .u64 (u.2.1 : Int)), (26, .int .i64 a.vec.len), (27, .int .i64 u.1)]) (fun u w' => u.1 ≤ a.vec.len ∧ u.2.1 = ((itemsV f a.vec).take u.1).foldl (fun k x => mixN k (keyIt G x)) acc ∧ GLe h6 u.2.2 ∧ Sees w h u.2.2 [⟨some ⟨b1, 0, none⟩, 1, 1, 40, 9, .slice ad a.shape.length cp :: vecCells a.vec.kind wv nv sm il fl ch bx⟩] w') (fun u => a.vec.len - u.1) (0, acc, h6) ⟨rfl, rfl, rfl, rfl, trivial⟩ ⟨by omega, by simp, GLe.refl _, hs⟩ ?_
  rintro ⟨i, acc2, hh⟩ w4 ⟨hi, hac2, hg, hs⟩
  dsimp only at hi hac2 hg hs ⊢
  have hv' := hv'.mono hR hg
  by_cases hlt : i < a.vec.len
  · have hfl := fold_lt (keyIt G) ((itemsV f a.vec).take i) _ hal
    have hft := fold_take (fun k x => mixN k (keyIt G x)) (itemsV f a.vec) acc i noItem (by omega)
    rw [← hac2] at hfl hft
    refine Zerun ?_
    (refine RW.call T hs rfl rfl rfl (ih _ a.vec i _ _ hv' hlt q3) ?_; intro v h7 w7 hle7 hp7 hs)
    subst hp7
    (refine RW.call T hs rfl rfl rfl (mix_con _ _ _ _ hfl (keyIt_lt G hG _)) ?_; intro v h8 w8 hle8 hp8 hs)
    subst hp8
    refine Zerun ?_
    exact loopQ_round (i + 1, _, h8) ⟨rfl, rfl, rfl, rfl, trivial⟩ ⟨by dsimp only; omega, hft.symm, (hg.trans hle7).trans hle8, hs⟩ (by dsimp only; omega)
  have e : i = (itemsV f a.vec).length := by omega
  subst e
  rw [List.take_length] at hac2
  refine Zerun ?_
  exact retQ_ret [_] hh ⟨rfl, trivial⟩ hs.dropAll (by rw [hac2]; rfl)
end
theorem whole_con : ∀ (k : Nat) (cs : List Value) (a : AD k) (w : World) (h : GHeap), ArrAt k h cs a → sml k a → Con Tryz.prog 198 [.agg cs.toArray] w h (fun _ u => u = .int .u64 (keyP k (plain k a) : Nat))
  | 0 => fun _ _ _ _ h => h.elim
  | k + 1 => fun cs a w h ha qa => whole_step (α := AD k) (β := PD k) (ArrAt.mono k) (plain k) (keyP k) (keyP_lt k) (sml k) (fun cs v i w h hv hi qb => key_step (ArrAt.mono k) (ArrAt.one k) (plain k) (keyP k) (sml k) (whole_con k) cs v i w h hv hi qb) cs a w h ha qa
theorem key_con (k : Nat) (cs : List Value) (v : VecD (AD k)) (i : Nat) (w : World) (h : GHeap) (hv : VecAt (ArrAt k) h cs v) (hi : i < v.len) (qb : ∀ x ∈ v.boxes, sml k x) : Con Tryz.prog 186 [.agg cs.toArray, .int .i64 i] w h (fun _ u => u = .int .u64 (keyIt (keyP k) ((itemsV (plain k) v).getD i noItem) : Nat)) :=
  key_step (ArrAt.mono k) (ArrAt.one k) (plain k) (keyP k) (sml k) (whole_con k) cs v i w h hv hi qb
end Go.Proofs.YtmojpbfkpggjhaaGreatDoor

/-
  Plain Lean on hash tables: where an element is first in a list, and slots that are looked through in turn. No statement is proved here.
-/
namespace Go.Proofs.YtmojpbfkpggjhaaGreatDoor
open Go Go.RowKit
set_option linter.unusedVariables false
set_option linter.unusedSimpArgs false

section
variable {γ : Type}
/-- where an element is first in a list; the list's length, if it isn't there -/
noncomputable def ixOf (l : List γ) (x : γ) : Nat := l.findIdx (fun y => eqB y x)
theorem ixOf_le (l : List γ) (x : γ) : ixOf l x ≤ l.length := List.findIdx_le_length
theorem ixOf_get {l : List γ} {x : γ} (h : ixOf l x < l.length) : l[ixOf l x] = x := (eqB_true _ _).1 (List.findIdx_getElem (p := fun y => eqB y x) (w := h))
theorem ixOf_min {l : List γ} {x : γ} {j : Nat} (h : j < ixOf l x) (hj : j < l.length) : l[j] ≠ x := by
  intro e
  have := List.not_of_lt_findIdx (p := fun y => eqB y x) h
  rw [eqB_of e] at this
  cases this
theorem ixOf_of {l : List γ} {x : γ} {i : Nat} (hi : i < l.length) (he : l[i] = x) (hm : ∀ j (hj : j < i), l[j] ≠ x) : ixOf l x = i := by
  rcases Nat.lt_trichotomy (ixOf l x) i with h | h | h
  · exact absurd (ixOf_get (by omega)) (hm _ h)
  · exact h
  · exact absurd he (ixOf_min h hi)
theorem ixOf_not {l : List γ} {x : γ} (hm : ∀ j (hj : j < l.length), l[j] ≠ x) : ixOf l x = l.length := by
  rcases Nat.lt_or_ge (ixOf l x) l.length with h | h
  · exact absurd (ixOf_get h) (hm _ h)
  · exact Nat.le_antisymm (ixOf_le l x) h

/-- slots: below 0 they are free, the others hold numbers of elements; those of S are in it, each once -/
structure TabOk (key : γ → Nat) (el : Nat → γ) (S : Nat → Prop) (c : Nat) (sl : List Int) : Prop where
  rng : ∀ p, p < sl.length → sl.getD p 0 = -1 ∨ ∃ i : Nat, S i ∧ sl.getD p 0 = (i : Int)
  at_ : ∀ i, S i → ∃ d, sl.getD ((key (el i) + d) % sl.length) 0 = (i : Int) ∧ ∀ e, e < d → 0 ≤ sl.getD ((key (el i) + e) % sl.length) 0
  one : ∀ i j, S i → S j → el i = el j → i = j
  cnt : sl.countP (fun z => decide (0 ≤ z)) ≤ c
/-- so many slots were looked at, and none has the element -/
def Probed (key : γ → Nat) (el : Nat → γ) (sl : List Int) (x : γ) (d : Nat) : Prop := ∀ e, e < d → ∃ i : Nat, sl.getD ((key x + e) % sl.length) 0 = (i : Int) ∧ el i ≠ x
variable {key : γ → Nat} {el : Nat → γ} {S : Nat → Prop} {c : Nat} {sl : List Int} {x : γ} {d : Nat}
theorem countP_all {l : List Int} (h : ∀ p, p < l.length → 0 ≤ l.getD p 0) : l.countP (fun z => decide (0 ≤ z)) = l.length := by
  rw [List.countP_eq_length]
  intro a ha
  obtain ⟨i, hi, rfl⟩ := List.getElem_of_mem ha
  have := h i hi
  rw [List.getD_eq_getElem?_getD, List.getElem?_eq_getElem hi] at this
  simpa using this
theorem TabOk.room (ok : TabOk key el S c sl) (hc : c < sl.length) (hp : Probed key el sl x d) : d < sl.length := by
  rcases Nat.lt_or_ge d sl.length with h | h
  · exact h
  · exfalso
    have := countP_all (l := sl) (fun p hpl => by
      have hm := Nat.mod_lt (key x) (show 0 < sl.length by omega)
      obtain ⟨i, hi, _⟩ := hp ((p + (sl.length - key x % sl.length)) % sl.length) (Nat.lt_of_lt_of_le (Nat.mod_lt _ (by omega)) h)
      have e : (key x + (p + (sl.length - key x % sl.length)) % sl.length) % sl.length = p := by
        rw [Nat.add_mod, Nat.mod_mod, ← Nat.add_mod]
        have e2 : key x + (p + (sl.length - key x % sl.length)) = p + sl.length * (key x / sl.length + 1) := by
          have := Nat.div_add_mod (key x) sl.length
          rw [Nat.mul_add, Nat.mul_one]
          omega
        rw [e2, Nat.add_mul_mod_self_left]
        exact Nat.mod_eq_of_lt hpl
      rw [e] at hi
      omega)
    have := ok.cnt
    omega
theorem TabOk.miss (ok : TabOk key el S c sl) (hp : Probed key el sl x d) (hs : sl.getD ((key x + d) % sl.length) 0 < 0) : ∀ j, S j → el j ≠ x := by
  intro j hj e
  obtain ⟨dj, h1, h2⟩ := ok.at_ j hj
  rw [e] at h1 h2
  rcases Nat.lt_trichotomy d dj with h | h | h
  · have := h2 d h; omega
  · rw [h] at hs; omega
  · obtain ⟨i, h3, h4⟩ := hp dj h
    rw [h1] at h3
    have : j = i := by omega
    exact h4 (this ▸ e)
theorem countP_set_neg : ∀ (l : List Int) (p : Nat) (v : Int), p < l.length → l.getD p 0 < 0 → 0 ≤ v → (l.set p v).countP (fun z => decide (0 ≤ z)) = l.countP (fun z => decide (0 ≤ z)) + 1
  | [], _, _, h, _, _ => absurd h (Nat.not_lt_zero _)
  | a :: l, 0, v, _, hn, hv => by
    have hn : a < 0 := by simpa using hn
    simp only [List.set_cons_zero, List.countP_cons]
    rw [decide_eq_true hv, decide_eq_false (show ¬ 0 ≤ a by omega)]
    simp
  | a :: l, p + 1, v, h, hn, hv => by
    have := countP_set_neg l p v (by simpa using h) (by simpa using hn) hv
    simp only [List.set_cons_succ, List.countP_cons, this]
    omega
theorem getD_setI (l : List Int) (k j : Nat) (v d : Int) (h : k < l.length) : (l.set k v).getD j d = if j = k then v else l.getD j d := by
  simp only [List.getD_eq_getElem?_getD, List.getElem?_set]
  by_cases e : k = j
  · subst e; simp [h]
  · simp [e, Ne.symm e]
theorem TabOk.put (ok : TabOk key el S c sl) {k : Nat} (hp : Probed key el sl (el k) d) (hs : sl.getD ((key (el k) + d) % sl.length) 0 < 0) (hl : 0 < sl.length) :
    TabOk key el (fun i => S i ∨ i = k) (c + 1) (sl.set ((key (el k) + d) % sl.length) (k : Int)) := by
  have hpl := Nat.mod_lt (key (el k) + d) hl
  have hmiss := ok.miss hp hs
  refine ⟨?_, ?_, ?_, ?_⟩
  · intro p hpp
    rw [List.length_set] at hpp
    rw [getD_setI _ _ _ _ _ hpl]
    split
    · exact .inr ⟨k, .inr rfl, rfl⟩
    · rcases ok.rng p hpp with h | ⟨i, h1, h2⟩
      · exact .inl h
      · exact .inr ⟨i, .inl h1, h2⟩
  · intro i hi
    simp only [List.length_set]
    by_cases hik : i = k
    · subst hik
      refine ⟨d, ?_, ?_⟩
      · rw [getD_setI _ _ _ _ _ hpl, if_pos rfl]
      · intro e he
        rw [getD_setI _ _ _ _ _ hpl]
        split
        · omega
        · obtain ⟨i, h1, _⟩ := hp e he; omega
    · have hi' : S i := hi.resolve_right hik
      obtain ⟨di, h1, h2⟩ := ok.at_ i hi'
      refine ⟨di, ?_, ?_⟩
      · rw [getD_setI _ _ _ _ _ hpl, if_neg]
        · exact h1
        · intro e; rw [e] at h1; omega
      · intro e he
        rw [getD_setI _ _ _ _ _ hpl]
        split
        · omega
        · exact h2 e he
  · intro i j hi hj e
    rcases hi with hi | rfl <;> rcases hj with hj | rfl
    · exact ok.one i j hi hj e
    · exact absurd e (hmiss i hi)
    · exact absurd e.symm (hmiss j hj)
    · rfl
  · rw [countP_set_neg _ _ _ hpl hs (by omega)]
    have := ok.cnt
    omega
theorem TabOk.keep (ok : TabOk key el S c sl) {S' : Nat → Prop} (hS : ∀ i, S' i ↔ S i) {c' : Nat} (hc : c ≤ c') : TabOk key el S' c' sl :=
  ⟨fun p hp => (ok.rng p hp).imp id fun ⟨i, a, b⟩ => ⟨i, (hS i).2 a, b⟩, fun i hi => ok.at_ i ((hS i).1 hi), fun i j hi hj => ok.one i j ((hS i).1 hi) ((hS j).1 hj), Nat.le_trans ok.cnt hc⟩
theorem TabOk.empty (key : γ → Nat) (el : Nat → γ) (m : Nat) : TabOk key el (fun _ => False) 0 (List.replicate m (-1)) := by
  refine ⟨fun p hp => .inl ?_, fun i h => h.elim, fun i j h => h.elim, ?_⟩
  · rw [List.length_replicate] at hp
    simp [List.getD_eq_getElem?_getD, hp]
  · rw [List.countP_replicate]; simp
/-- the elements, of the first ones, that aren't like one ahead of them -/
def Firsts (l : List γ) (k : Nat) (i : Nat) : Prop := i < k ∧ ∃ h : i < l.length, ixOf l l[i] = i
theorem firsts_old {l : List γ} {k : Nat} (hk : k < l.length) (h : ixOf l l[k] ≠ k) (i : Nat) : Firsts l (k + 1) i ↔ Firsts l k i := by
  constructor
  · rintro ⟨h1, h2, h3⟩
    refine ⟨?_, h2, h3⟩
    rcases Nat.lt_or_ge i k with h4 | h4
    · exact h4
    · have : i = k := by omega
      subst this; exact absurd h3 h
  · rintro ⟨h1, h2⟩; exact ⟨by omega, h2⟩
theorem firsts_new {l : List γ} {k : Nat} (hk : k < l.length) (h : ixOf l l[k] = k) (i : Nat) : Firsts l (k + 1) i ↔ (Firsts l k i ∨ i = k) := by
  constructor
  · rintro ⟨h1, h2⟩
    rcases Nat.lt_or_ge i k with h4 | h4
    · exact .inl ⟨h4, h2⟩
    · exact .inr (by omega)
  · rintro (⟨h1, h2⟩ | rfl)
    · exact ⟨by omega, h2⟩
    · exact ⟨by omega, hk, h⟩
/-- what a look through the table comes to -/
theorem look_hit {l : List γ} {n : Nat} (d0 : γ) (ok : TabOk key (fun i => l.getD i d0) (Firsts l n) c sl) {d : Nat} {i : Nat} (hs : sl.getD ((key x + d) % sl.length) 0 = (i : Int)) (hl : 0 < sl.length) (hx : l.getD i d0 = x) : i < n ∧ ixOf l x = i := by
  rcases ok.rng _ (Nat.mod_lt (key x + d) hl) with h | ⟨j, ⟨h1, h2, h3⟩, h4⟩
  · omega
  · have : i = j := by omega
    subst this
    rw [List.getD_eq_getElem?_getD, List.getElem?_eq_getElem h2] at hx
    simp only [Option.getD_some] at hx
    rw [hx] at h3
    exact ⟨h1, h3⟩
theorem look_miss {l : List γ} {n : Nat} (d0 : γ) (ok : TabOk key (fun i => l.getD i d0) (Firsts l n) c sl) {d : Nat} (hp : Probed key (fun i => l.getD i d0) sl x d) (hs : sl.getD ((key x + d) % sl.length) 0 < 0) : ∀ j (hj : j < l.length), j < n → l[j] ≠ x := by
  intro j hj hjn e
  have hm := ok.miss hp hs
  have h1 : ixOf l x ≤ j := by
    rcases Nat.lt_or_ge j (ixOf l x) with h | h
    · exact absurd e (ixOf_min h hj)
    · exact h
  have h2 : ixOf l x < l.length := by omega
  have h3 := ixOf_get h2
  refine hm (ixOf l x) ⟨by omega, h2, ?_⟩ ?_
  · rw [h3]
  · show l.getD (ixOf l x) d0 = x
    rw [List.getD_eq_getElem?_getD, List.getElem?_eq_getElem h2]
    exact h3
theorem and_mask (k e : Nat) : k &&& (2 ^ e - 1) = k % 2 ^ e := Nat.and_two_pow_sub_one_eq_mod k e
theorem probe_next (a d m : Nat) : ((a + d) % m + 1) % m = (a + (d + 1)) % m := by
  rw [Nat.add_mod, Nat.mod_mod, ← Nat.add_mod, Nat.add_assoc]
end
end Go.Proofs.YtmojpbfkpggjhaaGreatDoor

/-
  Contracts of functions of package hash: a new table. No statement is proved here.
-/
namespace Go.Proofs.YtmojpbfkpggjhaaGreatDoor
open Go Go.RowKit
set_option linter.unusedVariables false
set_option linter.unusedSimpArgs false
set_option maxHeartbeats 4000000
attribute [local irreducible] CW RW QW SW HW ConM retM heldQ calmQ elemP thenQ blockQ loopQ joinQ retQ Yields Con Sl zF magR unitF truncF fwF wholeF tidySpec elemQ rankF leastN tidyW
set_option maxHeartbeats 1000000

/-- the cells of a table: the elements, the slots, the mask -/
def tblCells (vc : List Value) (bs m : Nat) : List Value := vc ++ [.slice (some ⟨bs, 0, none⟩) m m, .int .u64 ((m - 1 : Nat) : Int)]
def TblAt (h : GHeap) (bt : Nat) (vc : List Value) (bs m : Nat) : Prop := Sl h 10 (some ⟨bt, 0, none⟩) 1 1 (tblCells vc bs m)
def slotRow (bs m : Nat) (sl : List Int) : Row := ⟨some ⟨bs, 0, none⟩, m, m, 3, 1, sl.map (Value.int .i64)⟩
theorem set_fill {δ : Type} (a b : δ) (i m : Nat) (h : i < m) : (List.replicate i a ++ List.replicate (m - i) b).set i a = List.replicate (i + 1) a ++ List.replicate (m - (i + 1)) b := by
  obtain ⟨r, hr⟩ : ∃ r, m - i = r + 1 := ⟨m - i - 1, by omega⟩
  have e : m - (i + 1) = r := by omega
  rw [hr, e, List.replicate_succ, List.replicate_succ', List.append_assoc]
  rw [List.set_append_right _ _ (by simp)]
  simp
section
variable {α : Type} {R : GHeap → List Value → α → Prop}
theorem hashNew_conM (hR : Mono R) (cs : List Value) (v : VecD α) (n : Nat) (w0 w : World) (h0 h : GHeap) (O : List Row) (hv : VecAt R h cs v) (hn : n ≤ 1048576) : ConM Tryz.prog 162 [.agg cs.toArray, .int .i64 n] w0 h0 h O w
    (fun h' O' u => ∃ bt bs m, u = .pointer (some ⟨bt, 0, none⟩) ∧ TblAt h' bt cs bs m ∧ O' = slotRow bs m (List.replicate m (-1)) :: O ∧ (∃ e, m = 2 ^ e) ∧ 2 * n ≤ m ∧ 8 ≤ m ∧ m ≤ 4194304) := by
  obtain ⟨wv, nv, sm, il, fl, ch, bx, ⟨rfl, hoc⟩, _⟩ := hv
  refine ConM.of_body Tryz.func162 rfl Tryz.ntmps162 rfl rfl ?_
  intro hs
  refine Zrun ?_
  (refine RW.boxN hs rfl rfl ?_; intro b1 w1 hs)
  refine Zrun ?_
  refine CW.loop (fun s : Nat => [(1, .int .i64 n), (2, .pointer (some ⟨b1, 0, none⟩)), (5, .int .i64 s)]) (fun s w' => (∃ e, s = 2 ^ e) ∧ 8 ≤ s ∧ s ≤ 4194304 ∧ Sees w0 h0 h (⟨some ⟨b1, 0, none⟩, 1, 1, 38, 8, vecCells v.kind wv nv sm il fl ch bx⟩ :: O) w') (fun s => 4194304 - s) 8 ⟨rfl, rfl, rfl, trivial⟩ ⟨⟨3, by decide⟩, by omega, by omega, hs⟩ ?_
  rintro s w2 ⟨hpow, hs1, hs2, hs⟩
  refine Zrun ?_
  refine RW.val (Y.mul rfl rfl ?_) rfl ?_
  · omega
  by_cases hlt : s < 2 * n
  · first | (refine A0 ?_; first | refine R1 rfl rfl ?_ | refine R2 rfl rfl ?_ | (refine A1 ?_; first | refine D3 rfl rfl ?_ | refine D4 rfl rfl rfl rfl ?_ | refine D5 rfl rfl rfl ?_ | refine E6 ?_ rfl rfl | refine E7 ?_ rfl rfl) | refine Zb ?_ rfl | (refine A3 ?_; first | refine R34 T hs 0 rfl rfl rfl rfl rfl rfl ?_ | refine R34 T hs 1 rfl rfl rfl rfl rfl rfl ?_ | refine Zl ?_ rfl) | refine Zi ?_ rfl | refine Zo ?_ rfl | refine A8 ?_) | (refine B0 ?_; first | refine B1 ?_ | refine B2 ?_ | refine B3 ?_ | refine B4 ?_ | refine B5 ?_ | refine B6 ?_ | refine B7 rfl ?_ | refine B8 rfl ?_ | refine E8 ?_ rfl | refine E9 ?_ rfl) | refine C1 ?_ | refine C2 ?_ | refine C3 ?_ | refine C4 ?_ | refine C5 ?_ | refine C6 ?_ | refine C7 ?_ | refine C8 ?_ | refine C9 ?_ | refine D1 rfl ?_ | refine D2 rfl ?_
    first | (refine A0 ?_; first | refine R1 rfl rfl ?_ | refine R2 rfl rfl ?_ | (refine A1 ?_; first | refine D3 rfl rfl ?_ | refine D4 rfl rfl rfl rfl ?_ | refine D5 rfl rfl rfl ?_ | refine E6 ?_ rfl rfl | refine E7 ?_ rfl rfl) | refine Zb ?_ rfl | (refine A3 ?_; first | refine R34 T hs 0 rfl rfl rfl rfl rfl rfl ?_ | refine R34 T hs 1 rfl rfl rfl rfl rfl rfl ?_ | refine Zl ?_ rfl) | refine Zi ?_ rfl | refine Zo ?_ rfl | refine A8 ?_) | (refine B0 ?_; first | refine B1 ?_ | refine B2 ?_ | refine B3 ?_ | refine B4 ?_ | refine B5 ?_ | refine B6 ?_ | refine B7 rfl ?_ | refine B8 rfl ?_ | refine E8 ?_ rfl | refine E9 ?_ rfl) | refine C1 ?_ | refine C2 ?_ | refine C3 ?_ | refine C4 ?_ | refine C5 ?_ | refine C6 ?_ | refine C7 ?_ | refine C8 ?_ | refine C9 ?_ | refine D1 rfl ?_ | refine D2 rfl ?_
    first | (refine A0 ?_; first | refine R1 rfl rfl ?_ | refine R2 rfl rfl ?_ | (refine A1 ?_; first | refine D3 rfl rfl ?_ | refine D4 rfl rfl rfl rfl ?_ | refine D5 rfl rfl rfl ?_ | refine E6 ?_ rfl rfl | refine E7 ?_ rfl rfl) | refine Zb ?_ rfl | (refine A3 ?_; first | refine R34 T hs 0 rfl rfl rfl rfl rfl rfl ?_ | refine R34 T hs 1 rfl rfl rfl rfl rfl rfl ?_ | refine Zl ?_ rfl) | refine Zi ?_ rfl | refine Zo ?_ rfl | refine A8 ?_) | (refine B0 ?_; first | refine B1 ?_ | refine B2 ?_ | refine B3 ?_ | refine B4 ?_ | refine B5 ?_ | refine B6 ?_ | refine B7 rfl ?_ | refine B8 rfl ?_ | refine E8 ?_ rfl | refine E9 ?_ rfl) | refine C1 ?_ | refine C2 ?_ | refine C3 ?_ | refine C4 ?_ | refine C5 ?_ | refine C6 ?_ | refine C7 ?_ | refine C8 ?_ | refine C9 ?_ | refine D1 rfl ?_ | refine D2 rfl ?_
    first | (refine A0 ?_; first | refine R1 rfl rfl ?_ | refine R2 rfl rfl ?_ | (refine A1 ?_; first | refine D3 rfl rfl ?_ | refine D4 rfl rfl rfl rfl ?_ | refine D5 rfl rfl rfl ?_ | refine E6 ?_ rfl rfl | refine E7 ?_ rfl rfl) | refine Zb ?_ rfl | (refine A3 ?_; first | refine R34 T hs 0 rfl rfl rfl rfl rfl rfl ?_ | refine R34 T hs 1 rfl rfl rfl rfl rfl rfl ?_ | refine Zl ?_ rfl) | refine Zi ?_ rfl | refine Zo ?_ rfl | refine A8 ?_) | (refine B0 ?_; first | refine B1 ?_ | refine B2 ?_ | refine B3 ?_ | refine B4 ?_ | refine B5 ?_ | refine B6 ?_ | refine B7 rfl ?_ | refine B8 rfl ?_ | refine E8 ?_ rfl | refine E9 ?_ rfl) | refine C1 ?_ | refine C2 ?_ | refine C3 ?_ | refine C4 ?_ | refine C5 ?_ | refine C6 ?_ | refine C7 ?_ | refine C8 ?_ | refine C9 ?_ | refine D1 rfl ?_ | refine D2 rfl ?_
    first | (refine A0 ?_; first | refine R1 rfl rfl ?_ | refine R2 rfl rfl ?_ | (refine A1 ?_; first | refine D3 rfl rfl ?_ | refine D4 rfl rfl rfl rfl ?_ | refine D5 rfl rfl rfl ?_ | refine E6 ?_ rfl rfl | refine E7 ?_ rfl rfl) | refine Zb ?_ rfl | (refine A3 ?_; first | refine R34 T hs 0 rfl rfl rfl rfl rfl rfl ?_ | refine R34 T hs 1 rfl rfl rfl rfl rfl rfl ?_ | refine Zl ?_ rfl) | refine Zi ?_ rfl | refine Zo ?_ rfl | refine A8 ?_) | (refine B0 ?_; first | refine B1 ?_ | refine B2 ?_ | refine B3 ?_ | refine B4 ?_ | refine B5 ?_ | refine B6 ?_ | refine B7 rfl ?_ | refine B8 rfl ?_ | refine E8 ?_ rfl | refine E9 ?_ rfl) | refine C1 ?_ | refine C2 ?_ | refine C3 ?_ | refine C4 ?_ | refine C5 ?_ | refine C6 ?_ | refine C7 ?_ | refine C8 ?_ | refine C9 ?_ | refine D1 rfl ?_ | refine D2 rfl ?_
    first | (refine A0 ?_; first | refine R1 rfl rfl ?_ | refine R2 rfl rfl ?_ | (refine A1 ?_; first | refine D3 rfl rfl ?_ | refine D4 rfl rfl rfl rfl ?_ | refine D5 rfl rfl rfl ?_ | refine E6 ?_ rfl rfl | refine E7 ?_ rfl rfl) | refine Zb ?_ rfl | (refine A3 ?_; first | refine R34 T hs 0 rfl rfl rfl rfl rfl rfl ?_ | refine R34 T hs 1 rfl rfl rfl rfl rfl rfl ?_ | refine Zl ?_ rfl) | refine Zi ?_ rfl | refine Zo ?_ rfl | refine A8 ?_) | (refine B0 ?_; first | refine B1 ?_ | refine B2 ?_ | refine B3 ?_ | refine B4 ?_ | refine B5 ?_ | refine B6 ?_ | refine B7 rfl ?_ | refine B8 rfl ?_ | refine E8 ?_ rfl | refine E9 ?_ rfl) | refine C1 ?_ | refine C2 ?_ | refine C3 ?_ | refine C4 ?_ | refine C5 ?_ | refine C6 ?_ | refine C7 ?_ | refine C8 ?_ | refine C9 ?_ | refine D1 rfl ?_ | refine D2 rfl ?_
    first | (refine A0 ?_; first | refine R1 rfl rfl ?_ | refine R2 rfl rfl ?_ | (refine A1 ?_; first | refine D3 rfl rfl ?_ | refine D4 rfl rfl rfl rfl ?_ | refine D5 rfl rfl rfl ?_ | refine E6 ?_ rfl rfl | refine E7 ?_ rfl rfl) | refine Zb ?_ rfl | (refine A3 ?_; first | refine R34 T hs 0 rfl rfl rfl rfl rfl rfl ?_ | refine R34 T hs 1 rfl rfl rfl rfl rfl rfl ?_ | refine Zl ?_ rfl) | refine Zi ?_ rfl | refine Zo ?_ rfl | refine A8 ?_) | (refine B0 ?_; first | refine B1 ?_ | refine B2 ?_ | refine B3 ?_ | refine B4 ?_ | refine B5 ?_ | refine B6 ?_ | refine B7 rfl ?_ | refine B8 rfl ?_ | refine E8 ?_ rfl | refine E9 ?_ rfl) | refine C1 ?_ | refine C2 ?_ | refine C3 ?_ | refine C4 ?_ | refine C5 ?_ | refine C6 ?_ | refine C7 ?_ | refine C8 ?_ | refine C9 ?_ | refine D1 rfl ?_ | refine D2 rfl ?_
    first | (refine A0 ?_; first | refine R1 rfl rfl ?_ | refine R2 rfl rfl ?_ | (refine A1 ?_; first | refine D3 rfl rfl ?_ | refine D4 rfl rfl rfl rfl ?_ | refine D5 rfl rfl rfl ?_ | refine E6 ?_ rfl rfl | refine E7 ?_ rfl rfl) | refine Zb ?_ rfl | (refine A3 ?_; first | refine R34 T hs 0 rfl rfl rfl rfl rfl rfl ?_ | refine R34 T hs 1 rfl rfl rfl rfl rfl rfl ?_ | refine Zl ?_ rfl) | refine Zi ?_ rfl | refine Zo ?_ rfl | refine A8 ?_) | (refine B0 ?_; first | refine B1 ?_ | refine B2 ?_ | refine B3 ?_ | refine B4 ?_ | refine B5 ?_ | refine B6 ?_ | refine B7 rfl ?_ | refine B8 rfl ?_ | refine E8 ?_ rfl | refine E9 ?_ rfl) | refine C1 ?_ | refine C2 ?_ | refine C3 ?_ | refine C4 ?_ | refine C5 ?_ | refine C6 ?_ | refine C7 ?_ | refine C8 ?_ | refine C9 ?_ | refine D1 rfl ?_ | refine D2 rfl ?_
    refine RW.respell (t := 15) rfl (congrArg Value.bool (decide_eq_true (show (s : Int) < 4194304 by omega))) ?_
    refine Zrun ?_
    refine RW.val (Y.mul rfl rfl ?_) rfl ?_
    · omega
    refine Zrun ?_
    refine loopQ_round (2 * s) ⟨rfl, rfl, seti (by omega), trivial⟩ ⟨?_, by omega, by omega, hs⟩ (by omega)
    obtain ⟨e, he⟩ := hpow
    exact ⟨e + 1, by rw [he, Nat.pow_succ, Nat.mul_comm]⟩
  refine Zrun ?_
  refine CW.meet (fun q : Nat × Nat => [(6, .pointer (some ⟨q.2, 0, none⟩))]) (fun q w' => Sees w0 h0 h (⟨some ⟨q.2, 0, none⟩, 1, 1, 206, 10, tblCells (vecCells v.kind wv nv sm il fl ch bx) q.1 s⟩ :: ⟨some ⟨q.1, 0, none⟩, s, s, 3, 1, List.replicate s (.int .i64 0)⟩ :: ⟨some ⟨b1, 0, none⟩, 1, 1, 38, 8, vecCells v.kind wv nv sm il fl ch bx⟩ :: O) w') ?_ ?_
  · have hwr : IntKind.u64.wrap ((s : Int) - 1) = ((s - 1 : Nat) : Int) := by
      rw [wrap_wrN]; unfold wrN; omega
    refine CW.regionR T 0 0 hs rfl rfl ?_
    intro w4 hs
    refine HW.takeR (fuel := 8) 0 rfl (fun _ _ ka kb _ hs hka hkb => Y.loadRowN T hs ka hka rfl rfl rfl rfl rfl rfl) ⟨_, _, 0, 0, hs, rfl, rfl⟩ rfl (by kernel_rfl) (by kernel_rfl) (by kernel_rfl) ?_
    refine HW.takeR (fuel := 7) 1 rfl (fun _ _ ka kb _ hs hka hkb => Y.move rfl) ⟨_, _, 0, 0, hs, rfl, rfl⟩ rfl (by kernel_rfl) (by kernel_rfl) (by kernel_rfl) ?_
    refine HW.takeR (fuel := 6) 3 rfl (fun _ _ ka kb _ hs hka hkb => Y.move rfl) ⟨_, _, 0, 0, hs, rfl, rfl⟩ rfl (by kernel_rfl) (by kernel_rfl) (by kernel_rfl) ?_
    refine HW.takeR (fuel := 5) 4 rfl (fun _ _ ka kb _ hs hka hkb => Y.sub rfl rfl (by omega)) ⟨_, _, 0, 0, hs, rfl, rfl⟩ rfl (by kernel_rfl) (by kernel_rfl) (by kernel_rfl) ?_
    refine HW.takeR (fuel := 4) 5 rfl (fun _ _ ka kb _ hs hka hkb => Y.convII T rfl rfl rfl) ⟨_, _, 0, 0, hs, rfl, rfl⟩ rfl (by kernel_rfl) (by kernel_rfl) (by kernel_rfl) ?_
    refine HW.one (fuel := 3) 2 rfl (by kernel_rfl) ?_
    (refine RW.make1 T hs rfl rfl rfl rfl rfl rfl rfl (by dsimp only; omega) (by omega) ?_; intro b20 w20 hs)
    refine RW.nil ?_
    refine heldQ_normal ⟨_, _, 1, 1, hs, rfl, rfl⟩ ?_
    refine HW.takeR (fuel := 2) 6 rfl (fun _ _ ka kb _ hs hka hkb => Y.build T rfl rfl rfl rfl rfl rfl rfl) ⟨_, _, 1, 1, hs, rfl, rfl⟩ rfl (by kernel_rfl) (by kernel_rfl) (by kernel_rfl) ?_
    refine HW.one (fuel := 1) 7 rfl (by kernel_rfl) ?_
    (refine RW.boxN hs rfl rfl ?_; intro b25 w25 hs)
    refine RW.nil ?_
    refine heldQ_normal ⟨_, _, 2, 2, hs, rfl, rfl⟩ ?_
    refine HW.takeR (fuel := 0) 8 rfl (fun _ _ ka kb _ hs hka hkb => Y.assign rfl) ⟨_, _, 2, 2, hs, rfl, rfl⟩ rfl (by kernel_rfl) (by kernel_rfl) (by kernel_rfl) ?_
    refine HW.done (by kernel_rfl) ?_
    refine calmQ_normal ?_
    rw [hwr] at hs
    exact joinQ_meet (b20, b25) ⟨rfl, trivial⟩ hs
  rintro ⟨bs, bt⟩ w5 hs
  dsimp only at hs ⊢
  obtain ⟨h3, hle3, hs, hT⟩ := hs.freeze
  have hs := hs.swap.drop
  refine Zrun ?_
  refine RW.val (Y.nilCheck rfl) rfl ?_
  refine Zrun ?_
  refine RW.val (Y.ldF1 T hs hT rfl rfl rfl rfl rfl) rfl ?_
  refine Zrun ?_
  refine CW.loop (fun i : Nat => [(6, .pointer (some ⟨bt, 0, none⟩)), (30, .int .i64 s), (31, .int .i64 i)]) (fun i w' => i ≤ s ∧ Sees w0 h0 h3 (slotRow bs s (List.replicate i (-1) ++ List.replicate (s - i) 0) :: O) w') (fun i => s - i) 0 ⟨rfl, rfl, rfl, trivial⟩ ⟨by omega, by simpa [slotRow] using hs⟩ ?_
  rintro i w6 ⟨hi, hs⟩
  by_cases hlt2 : i < s
  · refine Zrun ?_
    refine RW.val (Y.nilCheck rfl) rfl ?_
    refine Zrun ?_
    refine RW.val (Y.ldF1 T hs hT rfl rfl rfl rfl rfl) rfl ?_
    refine Zrun ?_
    refine RW.val (Y.idxRN T hs 0 rfl rfl rfl rfl rfl rfl hlt2) rfl ?_
    refine RW.st1 T hs 0 rfl rfl rfl rfl rfl rfl rfl hlt2 ?_
    intro w7 hs
    dsimp only [slotRow, List.set_cons_zero] at hs
    rw [map_set_int, set_fill _ _ _ _ hlt2] at hs
    refine Zrun ?_
    exact loopQ_round (i + 1) ⟨rfl, rfl, rfl, trivial⟩ ⟨by omega, hs⟩ (by omega)
  have e2 : i = s := by omega
  subst e2
  refine Zrun ?_
  refine retM_ret [_] h3 _ ⟨rfl, trivial⟩ hle3 hs ⟨bt, bs, i, rfl, hT, ?_, hpow, by omega, hs1, hs2⟩
  rw [Nat.sub_self, List.replicate_zero, List.append_nil]
end
end Go.Proofs.YtmojpbfkpggjhaaGreatDoor

/-
  Contracts of methods of hash.Table: the slot of an element. No statement is proved here.
-/
namespace Go.Proofs.YtmojpbfkpggjhaaGreatDoor
open Go Go.RowKit
set_option linter.unusedVariables false
set_option linter.unusedSimpArgs false
set_option maxHeartbeats 4000000
attribute [local irreducible] CW RW QW SW HW ConM retM heldQ calmQ elemP thenQ blockQ loopQ joinQ retQ Yields Con Sl zF magR unitF truncF fwF wholeF tidySpec elemQ rankF leastN tidyW
set_option maxHeartbeats 1000000
attribute [local irreducible] mixN wrN wr32 keyIt keyP

theorem mask_of {m a : Nat} (hp : ∃ e, m = 2 ^ e) : a &&& (m - 1) = a % m := by
  obtain ⟨e, rfl⟩ := hp
  exact and_mask a e
section
variable {P : Program} {n : Nat} {ops rest : List Oper} {C : World → Prop} {K : Env → Prop} {L : Env} {d : Option Tmp} {ty : TypeId} {pos : String} {aft : Array Edge} {g : Option (Nat × Bool)}
/-- the elements of a list, by number -/
def elsOf {γ : Type} (l : List (ItemD γ)) (i : Nat) : ItemD γ := l.getD i noItem
end
theorem hashFind_conM (k : Nat) (bt bs m q : Nat) (cs cs' : List Value) (v u : VecD (AD k)) (j : Nat) (S : Nat → Prop) (c : Nat) (sl : List Int) (w0 w : World) (h0 h : GHeap) (O : List Row)
    (hT : TblAt h bt cs bs m) (hv : VecAt (ArrAt k) h cs v) (hu : VecAt (ArrAt k) h cs' u) (hj : j < u.len) (qv : ∀ x ∈ v.boxes, sml k x) (qu : ∀ x ∈ u.boxes, sml k x)
    (hm : ∃ e, m = 2 ^ e) (hml : sl.length = m) (hm2 : m ≤ 4194304) (ok : TabOk (keyIt (keyP k)) (elsOf (itemsV (plain k) v)) S c sl) (hS : ∀ i, S i → i < v.len) (hc : c < m) (hO : O[q]? = some (slotRow bs m sl)) :
    ConM Tryz.prog 164 [.pointer (some ⟨bt, 0, none⟩), .agg cs'.toArray, .int .i64 j] w0 h0 h O w
      (fun h' O' r => O' = O ∧ h = h' ∧ ∃ d, Probed (keyIt (keyP k)) (elsOf (itemsV (plain k) v)) sl ((itemsV (plain k) u).getD j noItem) d ∧ r = .int .i64 (((keyIt (keyP k) ((itemsV (plain k) u).getD j noItem) + d) % m : Nat) : Int)
        ∧ (sl.getD ((keyIt (keyP k) ((itemsV (plain k) u).getD j noItem) + d) % m) 0 < 0 ∨ ∃ i, S i ∧ sl.getD ((keyIt (keyP k) ((itemsV (plain k) u).getD j noItem) + d) % m) 0 = (i : Int) ∧ elsOf (itemsV (plain k) v) i = (itemsV (plain k) u).getD j noItem)) := by
  have hv' := hv
  have hu' := hu
  obtain ⟨wv, nv, sm, il, fl, ch, bx, ⟨rfl, hoc⟩, _⟩ := hv
  obtain ⟨wv2, nv2, sm2, il2, fl2, ch2, bx2, ⟨rfl, hoc2⟩, _⟩ := hu
  obtain ⟨x, hx⟩ : ∃ x, (itemsV (plain k) u).getD j noItem = x := ⟨_, rfl⟩
  have hm0 : 0 < m := by obtain ⟨e, rfl⟩ := hm; exact Nat.pow_pos (by omega)
  have hkx : keyIt (keyP k) x < 18446744073709551616 := keyIt_lt _ (keyP_lt k) x
  have hkey : ∀ w, Con Tryz.prog 186 [.agg (vecCells u.kind wv2 nv2 sm2 il2 fl2 ch2 bx2).toArray, .int .i64 j] w h (fun _ r => r = .int .u64 (keyIt (keyP k) x : Nat)) := fun w => by
    rw [← hx]; exact key_con k _ u j w h hu' hj qu
  rw [hx]
  obtain ⟨kx, hkxe⟩ : ∃ kx, keyIt (keyP k) x = kx := ⟨_, rfl⟩
  have hprb : ∀ d, Probed (keyIt (keyP k)) (elsOf (itemsV (plain k) v)) sl x d ↔ ∀ e, e < d → ∃ i : Nat, sl.getD ((kx + e) % m) 0 = (i : Int) ∧ elsOf (itemsV (plain k) v) i ≠ x := fun d => by
    unfold Probed; rw [hkxe, hml]
  rw [hkxe] at hkx hkey ⊢
  refine ConM.of_body Tryz.func164 rfl Tryz.ntmps164 rfl rfl ?_
  intro hs
  refine Zrun ?_
  (refine RW.boxN hs rfl rfl ?_; intro b1 w1 hs)
  have hO1 : (⟨some ⟨b1, 0, none⟩, 1, 1, 38, 8, vecCells u.kind wv2 nv2 sm2 il2 fl2 ch2 bx2⟩ :: O : List Row)[q + 1]? = some (slotRow bs m sl) := hO
  refine Zrun ?_
  refine CW.regionQ T hs (Zeqrun ?_) (by kernel_rfl)
  refine QW.call T hs rfl rfl rfl hkey ?_
  refine Zeqrun ?_
  refine QW.val (fun _ _ => Y.nilCheck rfl) rfl ?_
  refine Zeqrun ?_
  refine QW.val (fun _ hs => Y.ldF1 T hs hT rfl rfl rfl rfl rfl) rfl ?_
  refine QW.val (fun _ _ => Y.andU rfl rfl hkx (by omega)) rfl ?_
  rw [mask_of hm]
  refine Zeqrun ?_
  intro w2 hs
  refine Zerun ?_
  refine CW.loop (fun d : Nat => [(0, .pointer (some ⟨bt, 0, none⟩)), (2, .int .i64 j), (4, .pointer (some ⟨b1, 0, none⟩)), (7, .int .u64 (((kx + d) % m : Nat) : Int))]) (fun d w' => Probed (keyIt (keyP k)) (elsOf (itemsV (plain k) v)) sl x d ∧ Sees w0 h0 h (⟨some ⟨b1, 0, none⟩, 1, 1, 38, 8, vecCells u.kind wv2 nv2 sm2 il2 fl2 ch2 bx2⟩ :: O) w') (fun d => m - d) 0 ⟨rfl, rfl, rfl, rfl, trivial⟩ ⟨fun e he => absurd he (Nat.not_lt_zero _), hs⟩ ?_
  rintro d w3 ⟨hp, hs⟩
  have hpm := Nat.mod_lt (kx + d) hm0
  obtain ⟨p, hpe⟩ : ∃ p, (kx + d) % m = p := ⟨_, rfl⟩
  rw [hpe] at hpm ⊢
  have hd : d < m := hml ▸ ok.room (by omega) hp
  refine Zerun ?_
  refine CW.regionQ T hs (Zeqrun ?_) (by kernel_rfl)
  refine QW.val (fun _ _ => Y.nilCheck rfl) rfl ?_
  refine Zeqrun ?_
  refine QW.val (fun _ hs => Y.ldF1 T hs hT rfl rfl rfl rfl rfl) rfl ?_
  refine Zeqrun ?_
  refine QW.val (fun _ hs => Y.idxRN T hs (q + 1) rfl rfl hO1 rfl rfl rfl hpm) rfl ?_
  refine QW.val (fun _ hs => Y.ldRInt T hs (q + 1) rfl hO1 rfl rfl hpm) rfl ?_
  rcases ok.rng p (by omega) with hneg | ⟨i, hSi, hsi⟩
  · rw [hneg]
    refine Zeqrun ?_
    intro w4 hs
    refine Zerun ?_
    refine RW.val (Y.conv64 T rfl rfl rfl ?_) rfl ?_
    · omega
    refine Zerun ?_
    exact retM_ret [_] h _ ⟨rfl, trivial⟩ (GLe.refl _) hs.drop ⟨rfl, rfl, d, hp, by rw [hpe]; rfl, .inl (by rw [hpe, hneg]; omega)⟩
  · rw [hsi]
    refine Zeqrun ?_
    refine QW.val (fun _ _ => Y.nilCheck rfl) rfl ?_
    refine Zeqrun ?_
    refine QW.val (fun _ hs => Y.ldFN T hs hT rfl rfl rfl rfl rfl rfl rfl) rfl ?_
    refine Zeqrun ?_
    refine QW.val (fun _ _ => Y.nilCheck rfl) rfl ?_
    refine Zeqrun ?_
    refine QW.val (fun _ hs => Y.ldF1 T hs hT rfl rfl rfl rfl rfl) rfl ?_
    refine Zeqrun ?_
    refine QW.val (fun _ hs => Y.idxRN T hs (q + 1) rfl rfl hO1 rfl rfl rfl hpm) rfl ?_
    refine Zeqrun ?_
    refine QW.val (fun _ hs => Y.ldRInt T hs (q + 1) rfl hO1 rfl rfl hpm) rfl ?_
    rw [hsi]
    refine Zeqrun ?_
    refine QW.call T hs rfl rfl rfl (fun w => alikeV_con k _ _ v u i j w h hv' hu' (hS i hSi) hj qv qu) ?_
    rw [hx]
    by_cases e : (itemsV (plain k) v).getD i noItem = x
    · rw [eqB_of e]
      refine Zeqrun ?_
      intro w4 hs
      refine Zerun ?_
      refine RW.val (Y.conv64 T rfl rfl rfl ?_) rfl ?_
      · omega
      refine Zerun ?_
      exact retM_ret [_] h _ ⟨rfl, trivial⟩ (GLe.refl _) hs.drop ⟨rfl, rfl, d, hp, by rw [hpe]; rfl, .inr ⟨i, hSi, by rw [hpe, hsi], e⟩⟩
    · rw [eqB_not e]
      refine Zeqrun ?_
      intro w4 hs
      have hp' : Probed (keyIt (keyP k)) (elsOf (itemsV (plain k) v)) sl x (d + 1) := (hprb _).2 fun e2 he2 => by
        rcases Nat.lt_or_ge e2 d with h3 | h3
        · exact (hprb d).1 hp e2 h3
        · have h4 : e2 = d := by omega
          subst h4
          exact ⟨i, by rw [hpe, hsi], e⟩
      have hd' : d + 1 < m := hml ▸ ok.room (by omega) hp'
      refine Zerun ?_
      refine RW.val (Y.addU (v := 1) rfl rfl (by omega)) rfl ?_
      refine Zerun ?_
      refine RW.val (Y.nilCheck rfl) rfl ?_
      refine Zerun ?_
      refine RW.val (Y.ldF1 T hs hT rfl rfl rfl rfl rfl) rfl ?_
      refine RW.val (Y.andU rfl rfl (by omega) (by omega)) rfl ?_
      rw [mask_of hm, ← hpe, probe_next]
      refine Zerun ?_
      exact loopQ_round (d + 1) ⟨rfl, rfl, rfl, rfl, trivial⟩ ⟨hp', hs⟩ (by omega)
end Go.Proofs.YtmojpbfkpggjhaaGreatDoor

/-
  Contracts of functions of package hash: whether, and where, an element is in a table; the table of a list. No statement is proved here.
-/
namespace Go.Proofs.YtmojpbfkpggjhaaGreatDoor
open Go Go.RowKit
set_option linter.unusedVariables false
set_option linter.unusedSimpArgs false
set_option maxHeartbeats 4000000
attribute [local irreducible] CW RW QW SW HW ConM retM heldQ calmQ elemP thenQ blockQ loopQ joinQ retQ Yields Con Sl zF magR unitF truncF fwF wholeF tidySpec elemQ rankF leastN tidyW
set_option maxHeartbeats 1000000
attribute [local irreducible] mixN wrN wr32 keyIt keyP

theorem hashGet_conM (k : Nat) (bt bs m n : Nat) (cs cs' : List Value) (v u : VecD (AD k)) (j : Nat) (c : Nat) (sl : List Int) (w0 w : World) (h0 h : GHeap) (O : List Row)
    (hT : TblAt h bt cs bs m) (hv : VecAt (ArrAt k) h cs v) (hu : VecAt (ArrAt k) h cs' u) (hj : j < u.len) (qv : ∀ x ∈ v.boxes, sml k x) (qu : ∀ x ∈ u.boxes, sml k x)
    (hm : ∃ e, m = 2 ^ e) (hml : sl.length = m) (hm2 : m ≤ 4194304) (hn : n = v.len) (ok : TabOk (keyIt (keyP k)) (elsOf (itemsV (plain k) v)) (Firsts (itemsV (plain k) v) n) c sl) (hc : c < m) :
    ConM Tryz.prog 131 [.pointer (some ⟨bt, 0, none⟩), .agg cs'.toArray, .int .i64 j] w0 h0 h (slotRow bs m sl :: O) w
      (fun h' O' r => O' = slotRow bs m sl :: O ∧ h = h' ∧ r = .int .i64 (if ixOf (itemsV (plain k) v) ((itemsV (plain k) u).getD j noItem) < v.len then (ixOf (itemsV (plain k) v) ((itemsV (plain k) u).getD j noItem) : Int) else -1)) := by
  have hv' := hv
  have hu' := hu
  obtain ⟨wv2, nv2, sm2, il2, fl2, ch2, bx2, ⟨rfl, hoc2⟩, _⟩ := hu
  have hlen := itemsV_len (plain k) hv
  obtain ⟨wv, nv, sm, il, fl, ch, bx, ⟨rfl, hoc⟩, _⟩ := hv
  have hm0 : 0 < m := by obtain ⟨e, rfl⟩ := hm; exact Nat.pow_pos (by omega)
  refine ConM.of_body Tryz.func131 rfl Tryz.ntmps131 rfl rfl ?_
  intro hs
  refine Zrun ?_
  (refine RW.boxN hs rfl rfl ?_; intro b1 w1 hs)
  refine Zrun ?_
  refine CW.regionG T 0 1 hs rfl rfl ?_
  intro w4 hs
  have hgl := GLe.refl h
  refine HW.takeG (fuel := 10) 0 rfl (fun _ _ ka kb _ hg hs hka hkb => Y.move rfl) ⟨_, _, 0, 1, hgl, hs, rfl, rfl⟩ rfl (by kernel_rfl) (by kernel_rfl) (by kernel_rfl) ?_
  refine HW.takeG (fuel := 9) 1 rfl (fun _ _ ka kb _ hg hs hka hkb => Y.nilCheck rfl) ⟨_, _, 0, 1, hgl, hs, rfl, rfl⟩ rfl (by kernel_rfl) (by kernel_rfl) (by kernel_rfl) ?_
  refine HW.takeG (fuel := 8) 2 rfl (fun _ _ ka kb _ hg hs hka hkb => Y.fieldAddr T rfl rfl rfl rfl rfl) ⟨_, _, 0, 1, hgl, hs, rfl, rfl⟩ rfl (by kernel_rfl) (by kernel_rfl) (by kernel_rfl) ?_
  refine HW.takeG (fuel := 7) 3 rfl (fun _ _ ka kb _ hg hs hka hkb => Y.ldF1 T hs (hT.mono hg) rfl rfl rfl rfl rfl) ⟨_, _, 0, 1, hgl, hs, rfl, rfl⟩ rfl (by kernel_rfl) (by kernel_rfl) (by kernel_rfl) ?_
  refine HW.takeG (fuel := 6) 4 rfl (fun _ _ ka kb _ hg hs hka hkb => Y.move rfl) ⟨_, _, 0, 1, hgl, hs, rfl, rfl⟩ rfl (by kernel_rfl) (by kernel_rfl) (by kernel_rfl) ?_
  refine HW.takeG (fuel := 5) 5 rfl (fun _ _ ka kb _ hg hs hka hkb => Y.loadRowN T hs ka hka rfl rfl rfl rfl rfl rfl) ⟨_, _, 0, 1, hgl, hs, rfl, rfl⟩ rfl (by kernel_rfl) (by kernel_rfl) (by kernel_rfl) ?_
  refine HW.takeG (fuel := 4) 6 rfl (fun _ _ ka kb _ hg hs hka hkb => Y.move rfl) ⟨_, _, 0, 1, hgl, hs, rfl, rfl⟩ rfl (by kernel_rfl) (by kernel_rfl) (by kernel_rfl) ?_
  refine HW.one (fuel := 3) 7 rfl (by kernel_rfl) ?_
  (refine RW.callM T hs rfl rfl rfl (hashFind_conM k bt bs m 1 _ _ v u j _ _ sl _ _ _ _ _ hT hv' hu' hj qv qu hm hml hm2 ok (fun i hi => by rw [← hlen]; exact hi.2.1) hc rfl) ?_; intro v h14 O14 w14 hle14 hp14 hs)
  obtain ⟨rfl, rfl, d, hp, rfl, hfd⟩ := hp14
  have hgl := hgl.trans hle14
  refine RW.nil ?_
  refine heldQ_normal ⟨_, _, 0, 1, hgl, hs, rfl, rfl⟩ ?_
  refine HW.takeG (fuel := 2) 8 rfl (fun _ _ ka kb _ hg hs hka hkb => Y.idxRN T hs kb rfl rfl hkb rfl rfl rfl (Nat.mod_lt _ hm0)) ⟨_, _, 0, 1, hgl, hs, rfl, rfl⟩ rfl (by kernel_rfl) (by kernel_rfl) (by kernel_rfl) ?_
  refine HW.takeG (fuel := 1) 9 rfl (fun _ _ ka kb _ hg hs hka hkb => Y.ldRInt T hs kb rfl hkb rfl rfl (Nat.mod_lt _ hm0)) ⟨_, _, 0, 1, hgl, hs, rfl, rfl⟩ rfl (by kernel_rfl) (by kernel_rfl) (by kernel_rfl) ?_
  refine HW.takeG (fuel := 0) 10 rfl (fun _ _ ka kb _ hg hs hka hkb => Y.assign rfl) ⟨_, _, 0, 1, hgl, hs, rfl, rfl⟩ rfl (by kernel_rfl) (by kernel_rfl) (by kernel_rfl) ?_
  refine HW.done (by kernel_rfl) ?_
  refine calmQ_normal ?_
  refine Zerun ?_
  refine retM_ret [_] _ _ ⟨rfl, trivial⟩ (GLe.refl _) hs.drop ⟨rfl, rfl, ?_⟩
  show Value.int _ _ = Value.int _ _
  congr 1
  rcases hfd with hneg | ⟨i, hSi, hsi, hel⟩
  · have hmiss := look_miss noItem ok hp (by rw [hml]; exact hneg)
    have hno : ixOf (itemsV (plain k) v) ((itemsV (plain k) u).getD j noItem) = (itemsV (plain k) v).length := ixOf_not (fun j' hj' => hmiss j' hj' (by omega))
    rw [hno, if_neg (by omega)]
    rcases ok.rng ((keyIt (keyP k) ((itemsV (plain k) u).getD j noItem) + d) % m) (by rw [hml]; exact Nat.mod_lt _ hm0) with e | ⟨i, _, e⟩
    · exact e
    · omega
  · obtain ⟨h1, h2⟩ := look_hit (x := (itemsV (plain k) u).getD j noItem) noItem ok (d := d) (by rw [hml]; exact hsi) (by omega) hel
    rw [h2, if_pos (by omega)]
    exact hsi
theorem hashPut_conM (k : Nat) (bt bs m i : Nat) (cs : List Value) (v : VecD (AD k)) (sl : List Int) (w0 w : World) (h0 h : GHeap) (O : List Row)
    (hT : TblAt h bt cs bs m) (hv : VecAt (ArrAt k) h cs v) (hi : i < v.len) (qv : ∀ x ∈ v.boxes, sml k x)
    (hm : ∃ e, m = 2 ^ e) (hml : sl.length = m) (hm2 : m ≤ 4194304) (ok : TabOk (keyIt (keyP k)) (elsOf (itemsV (plain k) v)) (Firsts (itemsV (plain k) v) i) i sl) (hc : i < m) :
    ConM Tryz.prog 163 [.pointer (some ⟨bt, 0, none⟩), .int .i64 i] w0 h0 h (slotRow bs m sl :: O) w
      (fun h' O' r => h = h' ∧ ∃ sl', O' = slotRow bs m sl' :: O ∧ sl'.length = m ∧ TabOk (keyIt (keyP k)) (elsOf (itemsV (plain k) v)) (Firsts (itemsV (plain k) v) (i + 1)) (i + 1) sl' ∧ r = .int .i64 (ixOf (itemsV (plain k) v) ((itemsV (plain k) v).getD i noItem) : Nat)) := by
  have hv' := hv
  obtain ⟨wv, nv, sm, il, fl, ch, bx, ⟨rfl, hoc⟩, _⟩ := hv
  have hlen := itemsV_len (plain k) hv'
  have hm0 : 0 < m := by omega
  have hiL : i < (itemsV (plain k) v).length := by omega
  have hgi : (itemsV (plain k) v).getD i noItem = (itemsV (plain k) v)[i] := by rw [List.getD_eq_getElem?_getD, List.getElem?_eq_getElem hiL]; rfl
  refine ConM.of_body Tryz.func163 rfl Tryz.ntmps163 rfl rfl ?_
  intro hs
  refine Zrun ?_
  refine RW.val (Y.nilCheck rfl) rfl ?_
  refine Zrun ?_
  refine RW.val (Y.ldFN T hs hT rfl rfl rfl rfl rfl rfl rfl) rfl ?_
  refine Zrun ?_
  (refine RW.callM T hs rfl rfl rfl (hashFind_conM k bt bs m 0 _ _ v v i _ _ sl _ _ _ _ _ hT hv' hv' hi qv qv hm hml hm2 ok (fun i hi => by rw [← hlen]; exact hi.2.1) hc rfl) ?_; intro v h2 O2 w2 hle2 hp2 hs)
  obtain ⟨rfl, rfl, d, hp, rfl, hfd⟩ := hp2
  obtain ⟨p, hpe⟩ : ∃ p, (keyIt (keyP k) ((itemsV (plain k) v).getD i noItem) + d) % m = p := ⟨_, rfl⟩
  have hpm : p < m := hpe ▸ Nat.mod_lt _ hm0
  rw [hpe] at hfd ⊢
  have hpe' : (keyIt (keyP k) (elsOf (itemsV (plain k) v) i) + d) % sl.length = p := by rw [hml]; exact hpe
  refine Zerun ?_
  refine RW.val (Y.nilCheck rfl) rfl ?_
  refine Zerun ?_
  refine RW.val (Y.ldF1 T hs hT rfl rfl rfl rfl rfl) rfl ?_
  refine Zerun ?_
  refine RW.val (Y.idxRN T hs 0 rfl rfl rfl rfl rfl rfl hpm) rfl ?_
  refine RW.val (Y.ldRInt T hs 0 rfl rfl rfl rfl hpm) rfl ?_
  rcases hfd with hneg | ⟨i', hSi, hsi, hel⟩
  · have hnew := ok.put (k := i) hp (by rw [hpe']; exact hneg) (by omega)
    have hmiss := look_miss (x := (itemsV (plain k) v).getD i noItem) noItem ok hp (by rw [hml, hpe]; exact hneg)
    have hix : ixOf (itemsV (plain k) v) ((itemsV (plain k) v).getD i noItem) = i := by
      refine ixOf_of hiL hgi.symm (fun j' hj' => ?_)
      exact hmiss j' (by omega) hj'
    rw [hpe'] at hnew
    refine Zerun ?_
    refine RW.val (Y.nilCheck rfl) rfl ?_
    refine Zerun ?_
    refine RW.val (Y.ldF1 T hs hT rfl rfl rfl rfl rfl) rfl ?_
    refine Zerun ?_
    refine RW.val (Y.idxRN T hs 0 rfl rfl rfl rfl rfl rfl hpm) rfl ?_
    refine RW.st1 T hs 0 rfl rfl rfl rfl rfl rfl rfl hpm ?_
    intro w7 hs
    dsimp only [slotRow, List.set_cons_zero] at hs
    rw [map_set_int] at hs
    refine Zerun ?_
    refine RW.val (Y.nilCheck rfl) rfl ?_
    refine Zerun ?_
    refine RW.val (Y.ldF1 T hs hT rfl rfl rfl rfl rfl) rfl ?_
    refine Zerun ?_
    refine RW.val (Y.idxRN T hs 0 rfl rfl rfl rfl rfl rfl hpm) rfl ?_
    refine RW.val (Y.ldRInt T hs 0 rfl rfl rfl rfl hpm) rfl ?_
    rw [getD_setI _ _ _ _ _ (by omega), if_pos rfl]
    refine Zerun ?_
    refine retM_ret [_] _ _ ⟨rfl, trivial⟩ (GLe.refl _) hs ⟨rfl, sl.set p (i : Int), rfl, by rw [List.length_set]; exact hml, hnew.keep (fun z => firsts_new hiL (by rw [← hgi]; exact hix) z) (Nat.le_refl _), ?_⟩
    rw [hix]; rfl
  · obtain ⟨h1, h2⟩ := look_hit (x := (itemsV (plain k) v).getD i noItem) noItem ok (d := d) (by rw [hml, hpe]; exact hsi) (by omega) hel
    rw [hsi]
    refine Zerun ?_
    refine RW.val (Y.nilCheck rfl) rfl ?_
    refine Zerun ?_
    refine RW.val (Y.ldF1 T hs hT rfl rfl rfl rfl rfl) rfl ?_
    refine Zerun ?_
    refine RW.val (Y.idxRN T hs 0 rfl rfl rfl rfl rfl rfl hpm) rfl ?_
    refine RW.val (Y.ldRInt T hs 0 rfl rfl rfl rfl hpm) rfl ?_
    rw [hsi]
    refine Zerun ?_
    refine retM_ret [_] _ _ ⟨rfl, trivial⟩ (GLe.refl _) hs ⟨rfl, sl, rfl, hml, ok.keep (fun z => firsts_old hiL (by rw [← hgi]; omega) z) (by omega), ?_⟩
    rw [h2]; rfl
theorem hashTable_conM (k : Nat) (cs : List Value) (v : VecD (AD k)) (w0 w : World) (h0 h : GHeap) (O : List Row) (hv : VecAt (ArrAt k) h cs v) (qv : ∀ x ∈ v.boxes, sml k x) (hm : v.len ≤ 1048576) :
    ConM Tryz.prog 130 [.agg cs.toArray] w0 h0 h O w
      (fun h' O' r => ∃ bt bs m sl, r = .pointer (some ⟨bt, 0, none⟩) ∧ TblAt h' bt cs bs m ∧ O' = slotRow bs m sl :: O ∧ (∃ e, m = 2 ^ e) ∧ sl.length = m ∧ m ≤ 4194304 ∧ v.len < m ∧ TabOk (keyIt (keyP k)) (elsOf (itemsV (plain k) v)) (Firsts (itemsV (plain k) v) v.len) v.len sl) := by
  have hR := ArrAt.mono k
  have hv' := hv
  obtain ⟨wv, nv, sm, il, fl, ch, bx, ⟨rfl, hoc⟩, _⟩ := hv
  refine ConM.of_body Tryz.func130 rfl Tryz.ntmps130 rfl rfl ?_
  intro hs
  refine Zrun ?_
  (refine RW.boxN hs rfl rfl ?_; intro b1 w1 hs)
  refine Zrun ?_
  refine CW.meet (fun q : Nat × Nat × Nat × GHeap => [(1, .pointer (some ⟨b1, 0, none⟩)), (3, .pointer (some ⟨q.1, 0, none⟩))]) (fun q w' => TblAt q.2.2.2 q.1 (vecCells v.kind wv nv sm il fl ch bx) q.2.1 q.2.2.1 ∧ (∃ e, q.2.2.1 = 2 ^ e) ∧ 2 * v.len ≤ q.2.2.1 ∧ 8 ≤ q.2.2.1 ∧ q.2.2.1 ≤ 4194304 ∧ GLe h q.2.2.2 ∧ Sees w0 h0 q.2.2.2 (slotRow q.2.1 q.2.2.1 (List.replicate q.2.2.1 (-1)) :: ⟨some ⟨b1, 0, none⟩, 1, 1, 38, 8, vecCells v.kind wv nv sm il fl ch bx⟩ :: O) w') ?_ ?_
  · refine CW.regionR T 0 0 hs rfl rfl ?_
    intro w4 hs
    refine HW.takeR (fuel := 4) 0 rfl (fun _ _ ka kb _ hs hka hkb => Y.loadRowN T hs ka hka rfl rfl rfl rfl rfl rfl) ⟨_, _, 0, 0, hs, rfl, rfl⟩ rfl (by kernel_rfl) (by kernel_rfl) (by kernel_rfl) ?_
    refine HW.takeR (fuel := 3) 1 rfl (fun _ _ ka kb _ hs hka hkb => Y.loadRowN T hs ka hka rfl rfl rfl rfl rfl rfl) ⟨_, _, 0, 0, hs, rfl, rfl⟩ rfl (by kernel_rfl) (by kernel_rfl) (by kernel_rfl) ?_
    refine HW.one (fuel := 2) 2 rfl (by kernel_rfl) ?_
    (refine RW.call T hs rfl rfl rfl (vecLen_con _ v _ _ hv') ?_; intro v h7 w7 hle7 hp7 hs)
    subst hp7
    have hv' := hv'.mono hR hle7
    refine RW.nil ?_
    refine heldQ_normal ⟨_, _, 0, 0, hs, rfl, rfl⟩ ?_
    refine HW.one (fuel := 1) 3 rfl (by kernel_rfl) ?_
    (refine RW.callM T hs rfl rfl rfl (hashNew_conM hR _ v v.len _ _ _ _ _ hv' hm) ?_; intro v h8 O8 w8 hle8 hp8 hs)
    obtain ⟨bt, bs, m, rfl, hT, rfl, hpow, hm1, hm2, hm3⟩ := hp8
    skip
    refine RW.nil ?_
    refine heldQ_normal ⟨_, _, 1, 1, hs, rfl, rfl⟩ ?_
    refine HW.takeR (fuel := 0) 4 rfl (fun _ _ ka kb _ hs hka hkb => Y.assign rfl) ⟨_, _, 1, 1, hs, rfl, rfl⟩ rfl (by kernel_rfl) (by kernel_rfl) (by kernel_rfl) ?_
    refine HW.done (by kernel_rfl) ?_
    refine calmQ_normal ?_
    exact joinQ_meet (bt, bs, m, h8) ⟨rfl, rfl, trivial⟩ ⟨hT, hpow, hm1, hm2, hm3, hle7.trans hle8, hs⟩
  rintro ⟨bt, bs, m, h2⟩ w5 ⟨hT, hpow, hm1, hm2, hm3, hg, hs⟩
  dsimp only at hT hpow hm1 hm2 hm3 hg hs ⊢
  have hv' := hv'.mono hR hg
  refine Zerun ?_
  (refine RW.call T hs rfl rfl rfl (vecLen_con _ v _ _ hv') ?_; intro v h6 w6 hle6 hp6 hs)
  subst hp6
  have hv' := hv'.mono hR hle6
  have hT : TblAt h6 bt _ bs m := Sl.mono hle6 hT
  have ok0 : TabOk (keyIt (keyP k)) (elsOf (itemsV (plain k) v)) (Firsts (itemsV (plain k) v) 0) 0 (List.replicate m (-1)) := (TabOk.empty _ _ m).keep (fun z => ⟨fun h => absurd h.1 (Nat.not_lt_zero _), fun h => h.elim⟩) (Nat.le_refl _)
  refine Zerun ?_
  refine CW.loop (fun q : Nat × List Int => [(3, .pointer (some ⟨bt, 0, none⟩)), (10, .int .i64 v.len), (11, .int .i64 q.1)]) (fun q w' => q.1 ≤ v.len ∧ q.2.length = m ∧ TabOk (keyIt (keyP k)) (elsOf (itemsV (plain k) v)) (Firsts (itemsV (plain k) v) q.1) q.1 q.2 ∧ Sees w0 h0 h6 (slotRow bs m q.2 :: ⟨some ⟨b1, 0, none⟩, 1, 1, 38, 8, vecCells v.kind wv nv sm il fl ch bx⟩ :: O) w') (fun q => v.len - q.1) (0, List.replicate m (-1)) ⟨rfl, rfl, rfl, trivial⟩ ⟨by omega, List.length_replicate .., ok0, hs⟩ ?_
  rintro ⟨i, sl⟩ w7 ⟨hi, hml, ok, hs⟩
  dsimp only at hi hml ok hs ⊢
  by_cases hlt : i < v.len
  · refine Zerun ?_
    (refine RW.callM T hs rfl rfl rfl (hashPut_conM k bt bs m i _ v sl _ _ _ _ _ hT hv' hlt qv hpow hml hm3 ok (by omega)) ?_; intro v h8 O8 w8 hle8 hp8 hs)
    obtain ⟨rfl, sl', rfl, hml', ok', rfl⟩ := hp8
    refine Zerun ?_
    exact loopQ_round (i + 1, sl') ⟨rfl, rfl, rfl, trivial⟩ ⟨by dsimp only; omega, hml', ok', hs⟩ (by dsimp only; omega)
  have e : i = v.len := by omega
  subst e
  refine Zerun ?_
  exact retM_ret [_] _ _ ⟨rfl, trivial⟩ (hg.trans hle6) hs.swap.drop ⟨bt, bs, m, sl, rfl, hT, rfl, hpow, hml, hm3, by omega, ok⟩
end Go.Proofs.YtmojpbfkpggjhaaGreatDoor

/-
  Plain Lean on lists: places of elements that something holds of, and of the first ones. No statement is proved here.
-/
namespace Go.Proofs.YtmojpbfkpggjhaaGreatDoor
open Go Go.RowKit
set_option linter.unusedVariables false
set_option linter.unusedSimpArgs false

section
variable {γ : Type}
theorem getD_elem {l : List γ} {i : Nat} (h : i < l.length) (d : γ) : l.getD i d = l[i] := by rw [List.getD_eq_getElem?_getD, List.getElem?_eq_getElem h]; rfl
end
end Go.Proofs.YtmojpbfkpggjhaaGreatDoor

/-
  Contracts of functions of package hash: where elements are in a list first, whether they are there. No statement is proved here.
-/
namespace Go.Proofs.YtmojpbfkpggjhaaGreatDoor
open Go Go.RowKit
set_option linter.unusedVariables false
set_option linter.unusedSimpArgs false
set_option maxHeartbeats 4000000
attribute [local irreducible] CW RW QW SW HW ConM retM heldQ calmQ elemP thenQ blockQ loopQ joinQ retQ Yields Con Sl zF magR unitF truncF fwF wholeF tidySpec elemQ rankF leastN tidyW
set_option maxHeartbeats 1000000
attribute [local irreducible] mixN wrN wr32 keyIt keyP

theorem fillA {δ : Type} {A : List δ} {i n : Nat} (hA : A.length = i) (h : i < n) (b z : δ) : (A ++ List.replicate (n - i) b).set i z = (A ++ [z]) ++ List.replicate (n - (i + 1)) b := by
  obtain ⟨r, hr⟩ : ∃ r, n - i = r + 1 := ⟨n - i - 1, by omega⟩
  have e : n - (i + 1) = r := by omega
  rw [hr, e, List.replicate_succ, List.set_append_right _ _ (by omega), ← hA]
  simp
theorem getA {δ : Type} {A Rr : List δ} {i : Nat} (hA : A.length = i) (z d : δ) : ((A ++ [z]) ++ Rr).getD i d = z := by
  subst hA
  simp [List.getD_eq_getElem?_getD]
theorem setA {δ : Type} {A Rr : List δ} {i : Nat} (hA : A.length = i) (z y : δ) : ((A ++ [z]) ++ Rr).set i y = (A ++ [y]) ++ Rr := by
  subst hA
  simp
theorem takeMap {δ ε : Type} (F : δ → ε) (M : List δ) {i : Nat} (h : i < M.length) (d : δ) : (M.take (i + 1)).map F = (M.take i).map F ++ [F (M.getD i d)] := by
  rw [take_succ_getD M i d h, List.map_append]
  rfl
theorem hashFind_con (k : Nat) (cs cs' : List Value) (v u : VecD (AD k)) (w : World) (h : GHeap) (hv : VecAt (ArrAt k) h cs v) (hu : VecAt (ArrAt k) h cs' u) (qv : ∀ x ∈ v.boxes, sml k x) (qu : ∀ x ∈ u.boxes, sml k x) (hm : v.len ≤ 1048576) (hm2 : u.len ≤ 1048576) :
    Con Tryz.prog 67 [.agg cs.toArray, .agg cs'.toArray] w h (fun h' r => IntsAt h' r ((itemsV (plain k) u).map fun x => ((ixOf (itemsV (plain k) v) x : Nat) : Int))) := by
  have hv' := hv
  have hu' := hu
  obtain ⟨wv, nv, sm, il, fl, ch, bx, ⟨rfl, hoc⟩, _⟩ := hv
  obtain ⟨wv2, nv2, sm2, il2, fl2, ch2, bx2, ⟨rfl, hoc2⟩, _⟩ := hu
  have hR := ArrAt.mono k
  have hML := itemsV_len (plain k) hu'
  have hLL := itemsV_len (plain k) hv'
  refine Con.of_body Tryz.func67 rfl Tryz.ntmps67 rfl rfl ?_
  intro hs
  refine Zrun ?_
  (refine RW.boxN hs rfl rfl ?_; intro b1 w1 hs)
  refine Zrun ?_
  (refine RW.boxN hs rfl rfl ?_; intro b2 w2 hs)
  refine Zerun ?_
  (refine RW.call T hs rfl rfl rfl (vecLen_con _ u _ _ hu') ?_; intro v h3 w3 hle3 hp3 hs)
  subst hp3
  have hv' := hv'.mono hR hle3
  have hu' := hu'.mono hR hle3
  refine Zerun ?_
  (refine RW.make1 T hs rfl rfl rfl rfl rfl rfl rfl (by dsimp only; omega) (by omega) ?_; intro b4 w4 hs)
  refine Zerun ?_
  (refine RW.callM T hs rfl rfl rfl (hashTable_conM k _ v _ _ _ _ _ hv' qv hm) ?_; intro v h5 O5 w5 hle5 hp5 hs)
  obtain ⟨bt, bs, m, sl, rfl, hT, rfl, hpow, hml, hm3, hvm, ok⟩ := hp5
  have hv' := hv'.mono hR hle5
  have hu' := hu'.mono hR hle5
  refine Zerun ?_
  refine CW.loop (fun q : Nat × GHeap => [(2, .pointer (some ⟨b1, 0, none⟩)), (3, .pointer (some ⟨b2, 0, none⟩)), (5, .slice (some ⟨b4, 0, none⟩) u.len u.len), (6, .pointer (some ⟨bt, 0, none⟩)), (14, .int .i64 u.len), (15, .int .i64 q.1)]) (fun q w' => q.1 ≤ u.len ∧ GLe h5 q.2 ∧ Sees w h q.2 (slotRow bs m sl :: ⟨some ⟨b4, 0, none⟩, u.len, u.len, 3, 1, ((((itemsV (plain k) u).take q.1).map fun x => ((ixOf (itemsV (plain k) v) x : Nat) : Int)) ++ List.replicate (u.len - q.1) 0).map (Value.int .i64)⟩ :: ⟨some ⟨b2, 0, none⟩, 1, 1, 38, 8, vecCells u.kind wv2 nv2 sm2 il2 fl2 ch2 bx2⟩ :: [⟨some ⟨b1, 0, none⟩, 1, 1, 38, 8, vecCells v.kind wv nv sm il fl ch bx⟩]) w') (fun q => u.len - q.1) (0, h5) ⟨rfl, rfl, rfl, rfl, rfl, rfl, trivial⟩ ⟨by omega, GLe.refl _, by simp only [List.take_zero, List.map_nil, List.nil_append, Nat.sub_zero, List.map_replicate]; exact hs⟩ ?_
  rintro ⟨i, hh⟩ w6 ⟨hi, hg, hs⟩
  dsimp only at hi hg hs ⊢
  have hv' := hv'.mono hR hg
  have hu' := hu'.mono hR hg
  have hT : TblAt hh bt _ bs m := Sl.mono hg hT
  by_cases hlt : i < u.len
  · have htm := takeMap (fun x => ((ixOf (itemsV (plain k) v) x : Nat) : Int)) (itemsV (plain k) u) (show i < (itemsV (plain k) u).length by omega) noItem
    have hAl : (((itemsV (plain k) u).take i).map fun x => ((ixOf (itemsV (plain k) v) x : Nat) : Int)).length = i := by rw [List.length_map, List.length_take]; omega
    refine Zerun ?_
    refine Zerun ?_
    (refine RW.callM T hs rfl rfl rfl (hashGet_conM k bt bs m v.len _ _ v u i v.len sl _ _ _ _ _ hT hv' hu' hlt qv qu hpow hml hm3 rfl ok hvm) ?_; intro v h6 O6 w6 hle6 hp6 hs)
    obtain ⟨rfl, rfl, rfl⟩ := hp6
    refine Zerun ?_
    refine RW.val (Y.idxRN T hs 1 rfl rfl rfl rfl rfl rfl hlt) rfl ?_
    refine RW.st1 T hs 1 rfl rfl rfl rfl rfl rfl rfl hlt ?_
    intro w7 hs
    dsimp only [List.set_cons_zero, List.set_cons_succ] at hs
    rw [map_set_int, fillA hAl hlt] at hs
    refine Zerun ?_
    refine RW.val (Y.idxRN T hs 1 rfl rfl rfl rfl rfl rfl hlt) rfl ?_
    refine RW.val (Y.ldRInt T hs 1 rfl rfl rfl rfl hlt) rfl ?_
    rw [getA hAl]
    by_cases c : ixOf (itemsV (plain k) v) ((itemsV (plain k) u).getD i noItem) < v.len
    · rw [if_pos c] at hs ⊢
      rw [← htm] at hs
      refine Zerun ?_
      exact loopQ_round (i + 1, hh) ⟨rfl, rfl, rfl, rfl, rfl, rfl, trivial⟩ ⟨by dsimp only; omega, hg, hs⟩ (by dsimp only; omega)
    · rw [if_neg c] at hs ⊢
      have hno : ixOf (itemsV (plain k) v) ((itemsV (plain k) u).getD i noItem) = v.len := by
        have := ixOf_le (itemsV (plain k) v) ((itemsV (plain k) u).getD i noItem)
        omega
      refine Zerun ?_
      (refine RW.call T hs rfl rfl rfl (vecLen_con _ v _ _ hv') ?_; intro v h8 w8 hle8 hp8 hs)
      subst hp8
      refine Zerun ?_
      refine RW.val (Y.idxRN T hs 1 rfl rfl rfl rfl rfl rfl hlt) rfl ?_
      refine RW.st1 T hs 1 rfl rfl rfl rfl rfl rfl rfl hlt ?_
      intro w9 hs
      dsimp only [List.set_cons_zero, List.set_cons_succ] at hs
      rw [map_set_int, setA hAl] at hs
      rw [hno] at htm
      rw [← htm] at hs
      refine Zerun ?_
      exact loopQ_round (i + 1, h8) ⟨rfl, rfl, rfl, rfl, rfl, rfl, trivial⟩ ⟨by dsimp only; omega, hg.trans hle8, hs⟩ (by dsimp only; omega)
  have e : i = (itemsV (plain k) u).length := by omega
  subst e
  rw [List.take_length, show u.len - (itemsV (plain k) u).length = 0 by omega, List.replicate_zero, List.append_nil] at hs
  refine Zerun ?_
  obtain ⟨h6, hle6, hs, hS6⟩ := hs.drop.freeze
  refine retQ_ret [_] h6 ⟨rfl, trivial⟩ hs.dropAll ?_
  exact IntsAt.of_sl hS6
theorem hashHas_con (k : Nat) (cs cs' : List Value) (v u : VecD (AD k)) (w : World) (h : GHeap) (hv : VecAt (ArrAt k) h cs v) (hu : VecAt (ArrAt k) h cs' u) (qv : ∀ x ∈ v.boxes, sml k x) (qu : ∀ x ∈ u.boxes, sml k x) (hm : v.len ≤ 1048576) (hm2 : u.len ≤ 1048576) :
    Con Tryz.prog 70 [.agg cs.toArray, .agg cs'.toArray] w h (fun h' r => TAt h' r ((itemsV (plain k) u).map fun x => decide (ixOf (itemsV (plain k) v) x < v.len))) := by
  have hv' := hv
  have hu' := hu
  obtain ⟨wv, nv, sm, il, fl, ch, bx, ⟨rfl, hoc⟩, _⟩ := hv
  obtain ⟨wv2, nv2, sm2, il2, fl2, ch2, bx2, ⟨rfl, hoc2⟩, _⟩ := hu
  have hR := ArrAt.mono k
  have hML := itemsV_len (plain k) hu'
  have hLL := itemsV_len (plain k) hv'
  refine Con.of_body Tryz.func70 rfl Tryz.ntmps70 rfl rfl ?_
  intro hs
  refine Zrun ?_
  (refine RW.boxN hs rfl rfl ?_; intro b1 w1 hs)
  refine Zrun ?_
  (refine RW.boxN hs rfl rfl ?_; intro b2 w2 hs)
  refine Zerun ?_
  (refine RW.call T hs rfl rfl rfl (vecLen_con _ u _ _ hu') ?_; intro v h3 w3 hle3 hp3 hs)
  subst hp3
  have hv' := hv'.mono hR hle3
  have hu' := hu'.mono hR hle3
  refine Zerun ?_
  (refine RW.make1 T hs rfl rfl rfl rfl rfl rfl rfl (by dsimp only; omega) (by omega) ?_; intro b4 w4 hs)
  refine Zerun ?_
  (refine RW.callM T hs rfl rfl rfl (hashTable_conM k _ v _ _ _ _ _ hv' qv hm) ?_; intro v h5 O5 w5 hle5 hp5 hs)
  obtain ⟨bt, bs, m, sl, rfl, hT, rfl, hpow, hml, hm3, hvm, ok⟩ := hp5
  have hv' := hv'.mono hR hle5
  have hu' := hu'.mono hR hle5
  refine Zerun ?_
  refine CW.loop (fun q : Nat => [(3, .pointer (some ⟨b2, 0, none⟩)), (5, .slice (some ⟨b4, 0, none⟩) u.len u.len), (6, .pointer (some ⟨bt, 0, none⟩)), (14, .int .i64 u.len), (15, .int .i64 q)]) (fun q w' => q ≤ u.len ∧ Sees w h h5 (slotRow bs m sl :: ⟨some ⟨b4, 0, none⟩, u.len, u.len, 4, 1, ((((itemsV (plain k) u).take q).map fun x => decide (ixOf (itemsV (plain k) v) x < v.len)) ++ List.replicate (u.len - q) false).map Value.bool⟩ :: ⟨some ⟨b2, 0, none⟩, 1, 1, 38, 8, vecCells u.kind wv2 nv2 sm2 il2 fl2 ch2 bx2⟩ :: [⟨some ⟨b1, 0, none⟩, 1, 1, 38, 8, vecCells v.kind wv nv sm il fl ch bx⟩]) w') (fun q => u.len - q) 0 ⟨rfl, rfl, rfl, rfl, rfl, trivial⟩ ⟨by omega, by simp only [List.take_zero, List.map_nil, List.nil_append, Nat.sub_zero, List.map_replicate]; exact hs⟩ ?_
  rintro i w6 ⟨hi, hs⟩
  by_cases hlt : i < u.len
  · have htm := takeMap (fun x => decide (ixOf (itemsV (plain k) v) x < v.len)) (itemsV (plain k) u) (show i < (itemsV (plain k) u).length by omega) noItem
    have hAl : (((itemsV (plain k) u).take i).map fun x => decide (ixOf (itemsV (plain k) v) x < v.len)).length = i := by rw [List.length_map, List.length_take]; omega
    refine Zerun ?_
    refine Zerun ?_
    (refine RW.callM T hs rfl rfl rfl (hashGet_conM k bt bs m v.len _ _ v u i v.len sl _ _ _ _ _ hT hv' hu' hlt qv qu hpow hml hm3 rfl ok hvm) ?_; intro v h6 O6 w6 hle6 hp6 hs)
    obtain ⟨rfl, e6, rfl⟩ := hp6
    rw [← e6] at hs
    refine Zerun ?_
    refine RW.val (Y.idxRN T hs 1 rfl rfl rfl rfl rfl rfl hlt) rfl ?_
    refine RW.st1 T hs 1 rfl rfl rfl rfl rfl rfl rfl hlt ?_
    intro w7 hs
    dsimp only [List.set_cons_zero, List.set_cons_succ] at hs
    have hdec : decide ((0 : Int) ≤ if ixOf (itemsV (plain k) v) ((itemsV (plain k) u).getD i noItem) < v.len then ((ixOf (itemsV (plain k) v) ((itemsV (plain k) u).getD i noItem) : Nat) : Int) else -1) = decide (ixOf (itemsV (plain k) v) ((itemsV (plain k) u).getD i noItem) < v.len) := by
      by_cases c : ixOf (itemsV (plain k) v) ((itemsV (plain k) u).getD i noItem) < v.len
      · rw [if_pos c, decide_eq_true c, decide_eq_true (by omega)]
      · rw [if_neg c, decide_eq_false c, decide_eq_false (by omega)]
    rw [hdec, ← List.map_set, fillA hAl hlt, ← htm] at hs
    refine Zerun ?_
    exact loopQ_round (i + 1) ⟨rfl, rfl, rfl, rfl, rfl, trivial⟩ ⟨by omega, hs⟩ (by omega)
  have e : i = (itemsV (plain k) u).length := by omega
  subst e
  rw [List.take_length, show u.len - (itemsV (plain k) u).length = 0 by omega, List.replicate_zero, List.append_nil] at hs
  refine Zerun ?_
  obtain ⟨h6, hle6, hs, hS6⟩ := hs.drop.freeze
  refine retQ_ret [_] h6 ⟨rfl, trivial⟩ hs.dropAll ?_
  exact RowAt.of_sl hS6
end Go.Proofs.YtmojpbfkpggjhaaGreatDoor

/-
  Contracts of functions of package hash: the first ones of a list, those that are in another list, or not. No statement is proved here.
-/
namespace Go.Proofs.YtmojpbfkpggjhaaGreatDoor
open Go Go.RowKit
set_option linter.unusedVariables false
set_option linter.unusedSimpArgs false
set_option maxHeartbeats 4000000
attribute [local irreducible] CW RW QW SW HW ConM retM heldQ calmQ elemP thenQ blockQ loopQ joinQ retQ Yields Con Sl zF magR unitF truncF fwF wholeF tidySpec elemQ rankF leastN tidyW
set_option maxHeartbeats 1000000
attribute [local irreducible] mixN wrN wr32 keyIt keyP

end Go.Proofs.YtmojpbfkpggjhaaGreatDoor

/-
  Contracts of the document's answer of layer 19 and of the law's own functions: where items are first, lists shown. No statement is proved here.
-/
namespace Go.Proofs.YtmojpbfkpggjhaaGreatDoor
open Go Go.RowKit
set_option linter.unusedVariables false
set_option linter.unusedSimpArgs false
set_option maxHeartbeats 4000000
attribute [local irreducible] CW RW QW SW HW ConM retM heldQ calmQ elemP thenQ blockQ loopQ joinQ retQ Yields Con Sl zF magR unitF truncF fwF wholeF tidySpec elemQ rankF leastN tidyW
set_option maxHeartbeats 2000000
attribute [local irreducible] mixN wrN wr32 keyIt keyP

theorem Yields.to {P : Program} {n : Nat} {L : Env} {w : World} {op : Op} {ty : TypeId} {v u : Value} (h : Yields P n L w op ty v) (e : v = u) : Yields P n L w op ty u := e ▸ h
theorem ref19Find_con (k : Nat) (s : Value) (l : List (ItemD (PD k))) (cs : List Value) (x : ItemD (PD k)) (w : World) (h : GHeap) (hl : RowsAt 4 (ItemAt (PlainAt k) h) h s l) (hx : ItemAt (PlainAt k) h cs x) (ql : ∀ y ∈ l, tdyIt (tdy k) y) (qx : tdyIt (tdy k) x) :
    Con Tryz.prog 69 [s, .agg cs.toArray] w h (fun _ u => u = .int .i64 (ixOf l x : Nat)) := by
  have hx' := hx
  obtain ⟨ad, cp, xs, rfl, hS, hA⟩ := hl
  obtain ⟨bx, rfl, _, _⟩ := hx
  have hlen : l.length ≤ 9223372036854775807 := by have := hS.caps; omega
  refine Con.of_body Tryz.func69 rfl Tryz.ntmps69 rfl rfl ?_
  intro hs
  refine Zrun ?_
  (refine RW.boxN hs rfl rfl ?_; intro b1 w1 hs)
  refine Zerun ?_
  refine CW.loop (fun i : Nat => [(0, .slice ad l.length cp), (3, .pointer (some ⟨b1, 0, none⟩)), (5, .int .i64 i)]) (fun i w' => i ≤ l.length ∧ (∀ j (hj : j < l.length), j < i → l[j] ≠ x) ∧ Sees w h h [⟨some ⟨b1, 0, none⟩, 1, 1, 70, 4, [.int .i64 x.kind, .float .f64 x.num, .int .i32 x.char, bx]⟩] w') (fun i => l.length - i) 0 ⟨rfl, rfl, rfl, trivial⟩ ⟨by omega, fun j _ hj => absurd hj (Nat.not_lt_zero _), hs⟩ ?_
  rintro i w4 ⟨hi, hno, hs⟩
  by_cases hlt : i < l.length
  · obtain ⟨y, hy, hyl, hRy⟩ := hA.elem i hlt
    have qy := ql _ (List.getElem_mem hlt)
    refine Zerun ?_
    refine CW.regionQ T hs (Zeqrun ?_) (by kernel_rfl)
    refine QW.call T hs rfl rfl rfl (fun w => refItem_con k _ _ _ _ w _ hRy hx' qy qx) ?_
    by_cases e : l[i] = x
    · rw [eqB_of e]
      refine Zeqrun ?_
      intro w5 hs
      refine Zerun ?_
      refine retQ_ret [_] h ⟨rfl, trivial⟩ hs.dropAll ?_
      rw [ixOf_of hlt e (fun j hj => hno j (by omega) hj)]
      rfl
    · rw [eqB_not e]
      refine Zeqrun ?_
      intro w5 hs
      refine Zerun ?_
      refine loopQ_round (i + 1) ⟨rfl, rfl, rfl, trivial⟩ ⟨by omega, ?_, hs⟩ (by omega)
      intro j hj hji
      rcases Nat.lt_or_ge j i with h3 | h3
      · exact hno j hj h3
      · have h4 : j = i := by omega
        subst h4
        exact e
  · obtain rfl : i = l.length := by omega
    refine Zerun ?_
    refine retQ_ret [_] h ⟨rfl, trivial⟩ hs.dropAll ?_
    rw [ixOf_not (fun j hj => hno j hj hj)]
    rfl
end Go.Proofs.YtmojpbfkpggjhaaGreatDoor

/-
  Contracts of base.ints, of the document's ints, of the origin, and of errors shown. No statement is proved here.
-/
namespace Go.Proofs.YtmojpbfkpggjhaaGreatDoor
open Go Go.RowKit
set_option linter.unusedVariables false
set_option linter.unusedSimpArgs false
set_option maxHeartbeats 4000000
attribute [local irreducible] CW RW QW SW HW ConM retM heldQ calmQ elemP thenQ blockQ loopQ joinQ retQ Yields Con Sl zF magR unitF truncF fwF wholeF tidySpec elemQ rankF leastN tidyW
set_option maxHeartbeats 4000000
attribute [local irreducible] mixN wrN wr32 keyIt keyP

def plusL (l : List Int) (o : Int) : List Int := l.map fun n => n + o
theorem plusL_len (l : List Int) (o : Int) : (plusL l o).length = l.length := List.length_map ..
def orgN (b : Bool) : Int := if b = true then 1 else 0
theorem orgN_rng (b : Bool) : 0 ≤ orgN b ∧ orgN b ≤ 1 := by cases b <;> decide
theorem origin27_con (b : Bool) (w : World) (h : GHeap) : Con Tryz.prog 18 [.bool b] w h (fun _ u => u = .int .i64 (orgN b)) := by
  cases b
  · refine Con.of_body Tryz.func18 rfl Tryz.ntmps18 rfl rfl ?_
    intro hs
    refine Zerun ?_
    exact retQ_ret [_] h ⟨rfl, trivial⟩ hs.dropAll rfl
  · refine Con.of_body Tryz.func18 rfl Tryz.ntmps18 rfl rfl ?_
    intro hs
    refine Zerun ?_
    exact retQ_ret [_] h ⟨rfl, trivial⟩ hs.dropAll rfl
theorem memD (l : List Int) (i : Nat) (h : i < l.length) : l.getD i 0 ∈ l := by
  rw [List.getD_eq_getElem?_getD, List.getElem?_eq_getElem h]; exact List.getElem_mem h
theorem plusL_tidy (l : List Int) (o : Int) (hr : ∀ n ∈ l, -4503599627370496 ≤ n + o ∧ n + o ≤ 4503599627370496) : ∀ u ∈ (plusL l o).map fwF, tidyF u := by
  intro u hu
  obtain ⟨c, hc, rfl⟩ := List.mem_map.1 hu
  obtain ⟨n, hn, rfl⟩ := List.mem_map.1 hc
  have := hr n hn
  exact (fwF_spec _ (by omega)).1
theorem baseInts_con (k : Nat) (s : Value) (l : List Int) (o : Int) (w : World) (h : GHeap) (hl : IntsAt h s l) (hr : ∀ n ∈ l, -4503599627370496 ≤ n + o ∧ n + o ≤ 4503599627370496) (hm : l.length ≤ 1048576) : Con Tryz.prog 63 [s, .int .i64 o] w h (fun h' u => ∃ cs', u = .agg cs'.toArray ∧ ArrAt (k + 1) h' cs' (numsA k ((plusL l o).map fwF))) := by
  obtain ⟨ad, cp, rfl, hS⟩ := hl
  refine Con.of_body Tryz.func63 rfl Tryz.ntmps63 rfl rfl ?_
  intro hs
  refine Zrun ?_
  (refine RW.allocN T hs rfl rfl rfl rfl ?_; intro b1 w1 hs)
  refine Zerun ?_
  (refine RW.make1 T hs rfl rfl rfl rfl rfl rfl rfl (by dsimp only; omega) (by omega) ?_; intro b2 w2 hs)
  have hs := hs.re (ys := (((l.take 0).map fun n => n + o) ++ List.replicate (l.length - 0) 0).map (Value.int .i64)) (by rw [List.map_append, List.map_replicate]; rfl)
  refine Zerun ?_
  refine CW.loop (fun i : Nat => [(1, .int .i64 o), (4, .pointer (some ⟨b1, 0, none⟩)), (5, .slice (some ⟨b2, 0, none⟩) l.length l.length), (13, .slice ad l.length cp), (14, .int .i64 l.length), (15, .int .i64 i)]) (fun i w' => i ≤ l.length ∧ Sees w h h [⟨some ⟨b2, 0, none⟩, l.length, l.length, 2, 1, (((l.take i).map fun n => n + o) ++ List.replicate (l.length - i) 0).map (Value.int .i64)⟩, ⟨some ⟨b1, 0, none⟩, 1, 1, 40, 9, .slice none 0 0 :: vecCells 0 (.slice none 0 0) 0 (.slice none 0 0) (.slice none 0 0) (.slice none 0 0) (.slice none 0 0) (.slice none 0 0)⟩] w') (fun i => l.length - i) 0 ⟨rfl, rfl, rfl, rfl, rfl, rfl, trivial⟩ ⟨by omega, hs⟩ ?_
  rintro i w3 ⟨hi, hs⟩
  by_cases hlt : i < l.length
  · have gi := map_get (Value.int .i64) l i 0 hlt
    have hri := hr _ (memD l i hlt)
    have htm := takeMap (fun n => n + o) l hlt 0
    have hAl : ((l.take i).map fun n => n + o).length = i := by rw [List.length_map, List.length_take]; omega
    refine Zerun ?_
    refine RW.val (Y.idxRN T hs 0 rfl rfl rfl rfl rfl rfl hlt) rfl ?_
    refine RW.st1 T hs 0 rfl rfl rfl rfl rfl rfl rfl hlt ?_
    intro w4 hs
    dsimp only [List.set_cons_zero, List.set_cons_succ] at hs
    rw [map_set_int, fillA hAl hlt, ← htm] at hs
    refine Zerun ?_
    exact loopQ_round (i + 1) ⟨rfl, rfl, rfl, rfl, rfl, seti (by omega), trivial⟩ ⟨by omega, hs⟩ (by omega)
  obtain rfl : i = l.length := by omega
  rw [List.take_length, Nat.sub_self, List.replicate_zero, List.append_nil] at hs
  obtain ⟨h4, hle4, hs, hS4⟩ := hs.freeze
  have hDl := plusL_len l o
  dsimp only at hS4
  rw [← hDl] at hS4 ⊢
  have hK4 : KAt .i64 h4 (.slice (some ⟨b2, 0, none⟩) (plusL l o).length (plusL l o).length) (plusL l o) := RowAt.of_sl hS4
  refine Zerun ?_
  (refine RW.call T hs rfl rfl rfl (vecInts_con (α := AD k) (R := ArrAt k) _ (plusL l o) _ _ hK4 (by omega)) ?_; intro v h5 w5 hle5 hp5 hs)
  obtain ⟨cs5, ok, rfl, hok, hv5⟩ := hp5
  rw [decide_eq_true (fun u hu => by obtain ⟨n, hn, rfl⟩ := List.mem_map.1 hu; have := hr n hn; omega)] at hok
  subst hok
  rw [if_pos rfl] at hv5
  have hv5' := hv5
  obtain ⟨wv, nv, sm, il, fl, ch, bx, ⟨rfl, hoc⟩, -⟩ := hv5
  refine Zerun ?_
  (refine RW.allocN T hs rfl rfl rfl rfl ?_; intro b6 w6 hs)
  (refine RW.storeAll T hs 0 rfl rfl rfl rfl rfl rfl hoc rfl ?_; intro w7 hs)
  refine Zerun ?_
  (refine RW.call T hs rfl rfl rfl (valueList_con (ArrAt.mono k) _ _ _ _ hv5' (by show ((plusL l o).map fwF).length + 0 + 0 ≤ 1048576; rw [List.length_map]; omega)) ?_; intro v h8 w8 hle8 hp8 hs)
  obtain ⟨cs8, rfl, ha8⟩ := hp8
  rw [sq_nums3] at ha8
  have ha8' : ArrAt (k + 1) h8 cs8 (numsA k ((plusL l o).map fwF)) := ha8
  obtain ⟨_, vc8, rfl, ⟨ad8, cp8, rfl, _⟩, hv8⟩ := ha8
  obtain ⟨wv8, nv8, sm8, il8, fl8, ch8, bx8, ⟨rfl, hoc8⟩, -⟩ := hv8
  refine Zerun ?_
  (refine RW.storeAll T hs 1 rfl rfl rfl rfl rfl rfl (by show (Value.oneCell' (.slice ad8 _ cp8) && (vecCells _ wv8 nv8 sm8 il8 fl8 ch8 bx8).all Value.oneCell') = true; rw [hoc8]; rfl) rfl ?_; intro w9 hs)
  refine Zerun ?_
  exact retQ_ret [_] h8 ⟨resN T hs 1 rfl rfl rfl rfl rfl rfl, trivial⟩ hs.dropAll ⟨_, rfl, ha8'⟩
theorem ref27Ints_con {α : Type} {R : GHeap → List Value → α → Prop} (hR : Mono R) (s : Value) (l : List Int) (o : Int) (w : World) (h : GHeap) (hl : IntsAt h s l) (hr : ∀ n ∈ l, -4503599627370496 ≤ n + o ∧ n + o ≤ 4503599627370496) (hm : l.length ≤ 1048576) : Con Tryz.prog 65 [s, .int .i64 o] w h (fun h' u => ∃ cs', u = .agg cs'.toArray ∧ PlainR R h' cs' (numsP ((plusL l o).map fwF))) := by
  obtain ⟨ad, cp, rfl, hS⟩ := hl
  refine Con.of_body Tryz.func65 rfl Tryz.ntmps65 rfl rfl ?_
  intro hs
  refine Zrun ?_
  (refine RW.allocN T hs rfl rfl rfl rfl ?_; intro b1 w1 hs)
  have hs := hs.nilRow 67 1
  refine Zerun ?_
  refine CW.loop (fun u : Nat × (Option Addr × Nat) => [(0, .slice ad l.length cp), (1, .int .i64 o), (4, .pointer (some ⟨b1, 0, none⟩)), (5, .slice u.2.1 u.1 u.2.2), (6, .int .i64 u.1)]) (fun u w' => u.1 ≤ l.length ∧ Sees w h h [⟨u.2.1, u.1, u.2.2, 67, 1, (((l.take u.1).map fun n => n + o).map fwF).map (Value.float .f64)⟩, ⟨some ⟨b1, 0, none⟩, 1, 1, 25, 3, [.slice none 0 0, .slice none 0 0, .int .i64 0]⟩] w') (fun u => l.length - u.1) (0, (none, 0)) ⟨rfl, rfl, rfl, rfl, rfl, trivial⟩ ⟨by omega, hs⟩ ?_
  rintro ⟨i, ⟨ai, ci⟩⟩ w5 ⟨hi, hs⟩
  dsimp only at hi hs ⊢
  by_cases hlt : i < l.length
  · have gi := map_get (Value.int .i64) l i 0 hlt
    have hri := hr _ (memD l i hlt)
    have htm := takeMap (fun n => n + o) l hlt 0
    obtain ⟨e, he⟩ : ∃ e, l.getD i 0 = e := ⟨_, rfl⟩
    rw [he] at gi hri htm
    refine Zerun ?_
    rw [he]
    refine RW.val (Y.convIF T rfl rfl rfl) rfl ?_
    (refine RW.lit T hs (vs := [.float .f64 (fwF (e + o))]) (cs := [.float .f64 (fwF (e + o))]) rfl rfl rfl rfl (by simp [Value.cells]) rfl rfl rfl rfl rfl ?_; intro b33 w33 hs)
    (refine RW.append T hs 1 rfl rfl (m := 1) (news := [.float .f64 (fwF (e + o))]) rfl rfl rfl rfl rfl rfl (hs.src0 rfl (by simp [Value.oneCell'])) (by simp) (by dsimp only; omega) (by omega) ?_; intro ad34 cp34 w34 hs; replace hs := hs.drop)
    refine Zerun ?_
    refine loopQ_round (i + 1, (ad34, cp34)) ⟨rfl, rfl, rfl, rfl, seti (by dsimp only; omega), trivial⟩ ⟨by dsimp only; omega, ?_⟩ (by dsimp only; omega)
    dsimp only
    rw [htm, List.map_append, List.map_append]
    exact hs
  obtain rfl : i = l.length := by omega
  rw [List.take_length] at hs
  obtain ⟨h8, hle8, hs, hS8⟩ := hs.freeze
  have hln : ((plusL l o).map fwF).length = l.length := by rw [List.length_map, plusL_len]
  dsimp only at hS8
  rw [← hln] at hS8 ⊢
  have hF : FAt h8 (.slice ai ((plusL l o).map fwF).length ci) ((plusL l o).map fwF) := RowAt.of_sl hS8
  have htd := plusL_tidy l o hr
  refine Zerun ?_
  (refine RW.call T hs rfl rfl rfl (refNums_con hR _ _ _ _ hF (fun u hu => (htd u hu).1) (by omega)) ?_; intro v h9 w9 hle9 hp9 hs)
  obtain ⟨cs9, rfl, hq9⟩ := hp9
  have hq9' := hq9
  obtain ⟨s9, it9, rfl, ⟨ad9, cp9, rfl, _⟩, ⟨adI9, cpI9, xsI9, rfl, _, _⟩⟩ := hq9
  refine Zerun ?_
  (refine RW.storeAll T hs 0 rfl rfl rfl rfl rfl rfl rfl rfl ?_; intro w10 hs)
  refine Zerun ?_
  exact retQ_ret [_] h9 ⟨resN T hs 0 rfl rfl rfl rfl rfl rfl, trivial⟩ hs.dropAll ⟨_, rfl, hq9'⟩
theorem shows27E_con {α β : Type} {R : GHeap → List Value → α → Prop} {Rq : GHeap → List Value → β → Prop} (cs cp : List Value) (p : PlainD β) (e : Int) (w : World) (h : GHeap) (he : e = 22 ∨ e = 23 ∨ e = 24 ∨ e = 26) (ha : ArrR R h cs ⟨[], VecD.none⟩) (hp : PlainR Rq h cp p) : Con Tryz.prog 16 [.agg cs.toArray, .int .i64 e, .agg cp.toArray, .int .i64 e] w h (fun _ u => u = .bool true) := by
  obtain ⟨_, vc, rfl, ⟨ad, cap, rfl, _⟩, hv⟩ := ha
  have hv' := hv
  obtain ⟨wv, nv, sm, il, fl, ch, bx, ⟨rfl, hoc⟩, _⟩ := hv
  obtain ⟨s2, it2, rfl, ⟨ad2, cp2, rfl, _⟩, ⟨ad3, cp3, xs3, rfl, _, _⟩⟩ := hp
  rcases he with rfl | rfl | rfl | rfl
  all_goals
    refine Con.of_body Tryz.func16 rfl Tryz.ntmps16 rfl rfl ?_
    intro hs
    refine Zrun ?_
    (refine RW.boxN hs rfl rfl ?_; intro b1 w1 hs)
    refine Zrun ?_
    (refine RW.boxN hs rfl rfl ?_; intro b2 w2 hs)
    refine Zerun ?_
    (refine RW.call T hs rfl rfl rfl (vecKind_con _ VecD.none _ _ hv') ?_; intro v h3 w3 hle3 hp3 hs)
    subst hp3
    refine Zerun ?_
    exact retQ_ret [_] h3 ⟨rfl, trivial⟩ hs.dropAll rfl
end Go.Proofs.YtmojpbfkpggjhaaGreatDoor

/-
  Contracts of base.IndexOf, base.Member and of the document's answers to them. No statement is proved here.
-/
namespace Go.Proofs.YtmojpbfkpggjhaaGreatDoor
open Go Go.RowKit
set_option linter.unusedVariables false
set_option linter.unusedSimpArgs false
set_option maxHeartbeats 4000000
attribute [local irreducible] CW RW QW SW HW ConM retM heldQ calmQ elemP thenQ blockQ loopQ joinQ retQ Yields Con Sl zF magR unitF truncF fwF wholeF tidySpec elemQ rankF leastN tidyW
set_option maxHeartbeats 4000000
attribute [local irreducible] mixN wrN wr32 keyIt keyP

def nmSP {α : Type} (s : List Int) (N : List Nat) : PlainD α := ⟨s, N.map fun x => ⟨0, x, 0, []⟩, 0⟩
def nmSA {α : Type} (s : List Int) (N : List Nat) : ArrD α := ⟨s, ⟨leastN N, N, [], []⟩⟩
def zeroP {α : Type} : PlainD α := ⟨[], [], 0⟩
theorem nmS_good (k : Nat) (s : List Int) (N : List Nat) (d : Int) (hd : d ≠ 0) (hp : product s 1048576 = ((N.length : Int), 0)) : good (k + 1) d (nmSA s N : ArrD (AD k)) := by
  have hb := leastN_bounds N
  refine ⟨hp, (by show leastN N ≠ 0; omega), ?_, hd, fun b hb => nomatch hb⟩
  show leastN N = VecD.least (⟨leastN N, N, [], []⟩ : VecD (AD k))
  unfold VecD.least
  rw [if_pos ⟨numV_cls _, by dsimp only; omega⟩]
theorem nmS_plain (k : Nat) (s : List Int) (N : List Nat) : plain (k + 1) (nmSA s N : ArrD (AD k)) = (nmSP s N : PlainD (PD k)) := by
  show (⟨s, itemsV (plain k) (⟨leastN N, N, [], []⟩ : VecD (AD k)), VecD.cls (⟨leastN N, N, [], []⟩ : VecD (AD k))⟩ : PlainD (PD k)) = _
  rw [itemsV_c0 (plain k) (numV_cls _), numV_cls]
  rfl
theorem nmS_tdy (k : Nat) (s : List Int) (N : List Nat) (h : ∀ x ∈ N, tidyF x) : tdy (k + 1) (nmSP s N : PlainD (PD k)) := by
  intro y hy
  obtain ⟨x, hx, rfl⟩ := List.mem_map.1 hy
  exact ⟨h x hx, fun b hb => nomatch hb⟩
section
variable {k : Nat}
theorem ref27IndexOf_con (k : Nat) (cp0 cq0 : List Value) (p q : PlainD (PD k)) (o : Int) (w : World) (h : GHeap) (hp : PlainR (PlainAt k) h cp0 p) (hq : PlainR (PlainAt k) h cq0 q) (tp : ∀ y ∈ p.items, tdyIt (tdy k) y) (tq : ∀ y ∈ q.items, tdyIt (tdy k) y) (ho : 0 ≤ o ∧ o ≤ 1) (hm : p.items.length ≤ 1048576) (hm2 : q.items.length ≤ 1048576) (h1 : p.shape.length = 1) :
    Con Tryz.prog 23 [.agg cp0.toArray, .agg cq0.toArray, .int .i64 o] w h (fun h' u => ∃ cs', u = .tuple #[.agg cs'.toArray, .int .i64 0] ∧ PlainR (PlainAt k) h' cs' (nmSP q.shape ((plusL (q.items.map fun x => ((ixOf p.items x : Nat) : Int)) o).map fwF))) := by
  obtain ⟨s, it, rfl, ⟨ad, cp, rfl, hSs⟩, ⟨ad2, cp2, xs, rfl, hS2, hA2⟩⟩ := hp
  obtain ⟨s2, it2, rfl, ⟨ad3, cp3, rfl, hS3⟩, ⟨ad4, cp4, xs4, rfl, hS4, hA4⟩⟩ := hq
  refine Con.of_body Tryz.func23 rfl Tryz.ntmps23 rfl rfl ?_
  intro hs
  refine Zrun ?_
  (refine RW.boxN hs rfl rfl ?_; intro b1 w1 hs)
  refine Zrun ?_
  (refine RW.boxN hs rfl rfl ?_; intro b2 w2 hs)
  (refine RW.allocN T hs rfl rfl rfl rfl ?_; intro b3 w3 hs)
  refine Zerun ?_
  have hs := hs.nilRow 3 1
  refine CW.loop (fun u : Nat × (Option Addr × Nat) × GHeap => [(2, .int .i64 o), (3, .pointer (some ⟨b1, 0, none⟩)), (4, .pointer (some ⟨b2, 0, none⟩)), (6, .pointer (some ⟨b3, 0, none⟩)), (8, .slice u.2.1.1 u.1 u.2.1.2), (9, .int .i64 u.1)]) (fun u w' => u.1 ≤ q.items.length ∧ GLe h u.2.2 ∧ Sees w h u.2.2 [⟨u.2.1.1, u.1, u.2.1.2, 3, 1, ((q.items.take u.1).map fun x => ((ixOf p.items x : Nat) : Int)).map (Value.int .i64)⟩, ⟨some ⟨b3, 0, none⟩, 1, 1, 25, 3, [.slice none 0 0, .slice none 0 0, .int .i64 0]⟩, ⟨some ⟨b2, 0, none⟩, 1, 1, 25, 3, [.slice ad3 q.shape.length cp3, .slice ad4 q.items.length cp4, .int .i64 q.fill]⟩, ⟨some ⟨b1, 0, none⟩, 1, 1, 25, 3, [.slice ad p.shape.length cp, .slice ad2 p.items.length cp2, .int .i64 p.fill]⟩] w') (fun u => q.items.length - u.1) (0, (none, 0), h) ⟨rfl, rfl, rfl, rfl, rfl, rfl, trivial⟩ ⟨by omega, GLe.refl _, hs⟩ ?_
  rintro ⟨i, ⟨ai, ci⟩, hh⟩ w5 ⟨hi, hg, hs⟩
  dsimp only at hi hg hs ⊢
  have hSL := hS2.mono hg
  have hAL := hA2.mono (fun u a hv => ItemAt.mono (PlainAt.mono k) _ _ u a hg hv)
  by_cases hlt : i < q.items.length
  · obtain ⟨y, hy, hyl, hRy⟩ := hA4.elem i hlt
    have hRy := ItemAt.mono (PlainAt.mono k) _ _ _ _ hg hRy
    have htm := takeMap (fun x => ((ixOf p.items x : Nat) : Int)) q.items hlt noItem
    rw [getD_elem hlt] at htm
    refine Zerun ?_
    refine CW.regionR T 3 2 hs rfl rfl ?_
    intro w6 hs
    refine HW.takeR (fuel := 11) 0 rfl (fun _ _ ka kb _ hs hka hkb => Y.move rfl) ⟨_, _, 3, 2, hs, rfl, rfl⟩ rfl (by kernel_rfl) (by kernel_rfl) (by kernel_rfl) ?_
    refine HW.takeR (fuel := 10) 1 rfl (fun _ _ ka kb _ hs hka hkb => Y.fieldAddr T rfl rfl rfl rfl rfl) ⟨_, _, 3, 2, hs, rfl, rfl⟩ rfl (by kernel_rfl) (by kernel_rfl) (by kernel_rfl) ?_
    refine HW.takeR (fuel := 9) 2 rfl (fun _ _ ka kb _ hs hka hkb => Y.loadRow1 T hs ka hka rfl rfl rfl rfl) ⟨_, _, 3, 2, hs, rfl, rfl⟩ rfl (by kernel_rfl) (by kernel_rfl) (by kernel_rfl) ?_
    refine HW.takeR (fuel := 8) 3 rfl (fun _ _ ka kb _ hs hka hkb => Y.fieldAddr T rfl rfl rfl rfl rfl) ⟨_, _, 3, 2, hs, rfl, rfl⟩ rfl (by kernel_rfl) (by kernel_rfl) (by kernel_rfl) ?_
    refine HW.takeR (fuel := 7) 4 rfl (fun _ _ ka kb _ hs hka hkb => Y.loadRow1 T hs kb hkb rfl rfl rfl rfl) ⟨_, _, 3, 2, hs, rfl, rfl⟩ rfl (by kernel_rfl) (by kernel_rfl) (by kernel_rfl) ?_
    refine HW.takeR (fuel := 6) 5 rfl (fun _ _ ka kb _ hs hka hkb => Y.move rfl) ⟨_, _, 3, 2, hs, rfl, rfl⟩ rfl (by kernel_rfl) (by kernel_rfl) (by kernel_rfl) ?_
    refine HW.takeR (fuel := 5) 6 rfl (fun _ _ ka kb _ hs hka hkb => Y.idxSN T rfl rfl (hS4.mono hs.le) rfl rfl rfl hlt) ⟨_, _, 3, 2, hs, rfl, rfl⟩ rfl (by kernel_rfl) (by kernel_rfl) (by kernel_rfl) ?_
    refine HW.takeR (fuel := 4) 7 rfl (fun _ _ ka kb _ hs hka hkb => Y.ldSN T hs rfl (hS4.mono hs.le) rfl rfl rfl rfl hlt hy hyl) ⟨_, _, 3, 2, hs, rfl, rfl⟩ rfl (by kernel_rfl) (by kernel_rfl) (by kernel_rfl) ?_
    refine HW.one (fuel := 3) 8 rfl (by kernel_rfl) ?_
    (refine RW.call T hs rfl rfl rfl (ref19Find_con k _ p.items _ _ _ _ ⟨_, _, _, rfl, hSL, hAL⟩ hRy tp (tq _ (List.getElem_mem hlt))) ?_; intro v h31 w31 hle31 hp31 hs)
    subst hp31
    refine RW.nil ?_
    refine heldQ_normal ⟨_, _, 3, 2, hs, rfl, rfl⟩ ?_
    refine HW.one (fuel := 2) 9 rfl (by kernel_rfl) ?_
    (refine RW.lit T hs (vs := [.int .i64 ((ixOf p.items q.items[i] : Nat) : Int)]) (cs := [.int .i64 ((ixOf p.items q.items[i] : Nat) : Int)]) rfl rfl rfl rfl (by simp [Value.cells]) rfl rfl rfl rfl rfl ?_; intro b32 w32 hs)
    refine RW.nil ?_
    refine heldQ_normal ⟨_, _, 4, 3, hs, rfl, rfl⟩ ?_
    refine HW.one (fuel := 1) 10 rfl (by kernel_rfl) ?_
    (refine RW.append T hs 1 rfl rfl (m := 1) (news := [.int .i64 ((ixOf p.items q.items[i] : Nat) : Int)]) rfl rfl rfl rfl rfl rfl (hs.src0 rfl (by simp [Value.oneCell'])) (by simp) (by dsimp only; omega) (by omega) ?_; intro ad33 cp33 w33 hs; replace hs := hs.drop)
    refine RW.nil ?_
    refine heldQ_normal ⟨_, _, 3, 2, hs, rfl, rfl⟩ ?_
    refine HW.takeR (fuel := 0) 11 rfl (fun _ _ ka kb _ hs hka hkb => Y.assign rfl) ⟨_, _, 3, 2, hs, rfl, rfl⟩ rfl (by kernel_rfl) (by kernel_rfl) (by kernel_rfl) ?_
    refine HW.done (by kernel_rfl) ?_
    refine calmQ_normal ?_
    refine Zerun ?_
    refine loopQ_round (i + 1, (ad33, cp33), h31) ⟨rfl, rfl, rfl, rfl, rfl, rfl, trivial⟩ ⟨by dsimp only; omega, hg.trans hle31, ?_⟩ (by dsimp only; omega)
    dsimp only
    rw [htm, List.map_append]
    exact hs
  obtain rfl : i = q.items.length := by omega
  rw [List.take_length] at hs
  obtain ⟨h8, hle8, hs, hS8⟩ := hs.freeze
  have hI8 : IntsAt h8 (.slice ai q.items.length ci) (q.items.map fun x => ((ixOf p.items x : Nat) : Int)) := IntsAt.of_sl hS8
  refine Zerun ?_
  (refine RW.call T hs rfl rfl rfl (ref27Ints_con (PlainAt.mono k) _ _ o _ _ hI8 (fun n hn => by obtain ⟨x, _, rfl⟩ := List.mem_map.1 hn; have := ixOf_le p.items x; omega) (by rw [List.length_map]; omega)) ?_; intro v h9 w9 hle9 hp9 hs)
  obtain ⟨cs9, rfl, s9, it9, rfl, ⟨ad9, cp9, rfl, _⟩, hit9⟩ := hp9
  have hit9' := hit9
  obtain ⟨adI9, cpI9, xsI9, rfl, _, _⟩ := hit9
  have g9 := (hg.trans hle8).trans hle9
  have hIq : IntsAt h9 (.slice ad3 q.shape.length cp3) q.shape := ⟨ad3, cp3, rfl, hS3.mono g9⟩
  refine Zerun ?_
  (refine RW.allocN T hs rfl rfl rfl rfl ?_; intro b10 w10 hs)
  (refine RW.storeAll T hs 0 rfl rfl rfl rfl rfl rfl rfl rfl ?_; intro w11 hs)
  refine Zerun ?_
  (refine RW.store1 T hs 0 rfl rfl rfl rfl rfl rfl rfl rfl ?_; intro w12 hs)
  dsimp only [List.set_cons_zero, List.set_cons_succ] at hs
  refine Zerun ?_
  (refine RW.storeAll T hs 1 rfl rfl rfl rfl rfl rfl rfl rfl ?_; intro w13 hs)
  refine Zerun ?_
  exact retQ_ret [_, _] h9 ⟨resN T hs 1 rfl rfl rfl rfl rfl rfl, rfl, trivial⟩ hs.dropAll ⟨_, rfl, _, _, rfl, hIq, hit9'⟩
theorem ref27IndexOfE_con (k : Nat) (cp0 cq0 : List Value) (p q : PlainD (PD k)) (o : Int) (w : World) (h : GHeap) (hp : PlainR (PlainAt k) h cp0 p) (hq : PlainR (PlainAt k) h cq0 q) (h1 : p.shape.length ≠ 1) :
    Con Tryz.prog 23 [.agg cp0.toArray, .agg cq0.toArray, .int .i64 o] w h (fun h' u => ∃ cs', u = .tuple #[.agg cs'.toArray, .int .i64 22] ∧ PlainR (PlainAt k) h' cs' zeroP) := by
  obtain ⟨s, it, rfl, ⟨ad, cp, rfl, hSs⟩, ⟨ad2, cp2, xs, rfl, hS2, hA2⟩⟩ := hp
  obtain ⟨s2, it2, rfl, ⟨ad3, cp3, rfl, hS3⟩, ⟨ad4, cp4, xs4, rfl, hS4, hA4⟩⟩ := hq
  refine Con.of_body Tryz.func23 rfl Tryz.ntmps23 rfl rfl ?_
  intro hs
  refine Zrun ?_
  (refine RW.boxN hs rfl rfl ?_; intro b1 w1 hs)
  refine Zrun ?_
  (refine RW.boxN hs rfl rfl ?_; intro b2 w2 hs)
  (refine RW.allocN T hs rfl rfl rfl rfl ?_; intro b3 w3 hs)
  refine Zerun ?_
  refine RW.val (Y.build T rfl rfl rfl rfl rfl rfl rfl) rfl ?_
  (refine RW.storeAll T hs 0 rfl rfl rfl rfl rfl rfl rfl rfl ?_; intro w4 hs)
  refine Zerun ?_
  exact retQ_ret [_, _] h ⟨resN T hs 0 rfl rfl rfl rfl rfl rfl, rfl, trivial⟩ hs.dropAll ⟨_, rfl, _, _, rfl, IntsAt.nil _, RowsAt.nil _⟩
theorem ref27Member_con (k : Nat) (cq0 cp0 : List Value) (q p : PlainD (PD k)) (w : World) (h : GHeap) (hq : PlainR (PlainAt k) h cq0 q) (hp : PlainR (PlainAt k) h cp0 p) (tp : ∀ y ∈ p.items, tdyIt (tdy k) y) (tq : ∀ y ∈ q.items, tdyIt (tdy k) y) (hm : p.items.length ≤ 1048576) (hm2 : q.items.length ≤ 1048576) :
    Con Tryz.prog 25 [.agg cq0.toArray, .agg cp0.toArray] w h (fun h' u => ∃ cs', u = .agg cs'.toArray ∧ PlainR (PlainAt k) h' cs' (nmSP q.shape (q.items.map fun x => bitF (decide (ixOf p.items x < p.items.length))))) := by
  obtain ⟨s, it, rfl, ⟨ad, cp, rfl, hSs⟩, ⟨ad2, cp2, xs, rfl, hS2, hA2⟩⟩ := hp
  obtain ⟨s2, it2, rfl, ⟨ad3, cp3, rfl, hS3⟩, ⟨ad4, cp4, xs4, rfl, hS4, hA4⟩⟩ := hq
  refine Con.of_body Tryz.func25 rfl Tryz.ntmps25 rfl rfl ?_
  intro hs
  refine Zrun ?_
  (refine RW.boxN hs rfl rfl ?_; intro b1 w1 hs)
  refine Zrun ?_
  (refine RW.boxN hs rfl rfl ?_; intro b2 w2 hs)
  (refine RW.allocN T hs rfl rfl rfl rfl ?_; intro b3 w3 hs)
  refine Zerun ?_
  refine RW.val (Y.build T rfl rfl rfl rfl rfl rfl rfl) rfl ?_
  (refine RW.allocN T hs rfl rfl rfl rfl ?_; intro b4 w4 hs)
  (refine RW.storeAll T hs 0 rfl rfl rfl rfl rfl rfl rfl rfl ?_; intro w5 hs)
  refine Zerun ?_
  have hs := hs.nilRow 70 4
  refine CW.loop (fun u : Nat × (Option Addr × Nat × List Value) × GHeap => [(2, .pointer (some ⟨b1, 0, none⟩)), (3, .pointer (some ⟨b2, 0, none⟩)), (4, .pointer (some ⟨b3, 0, none⟩)), (5, .pointer (some ⟨b4, 0, none⟩)), (6, .int .i64 u.1)]) (fun u w' => u.1 ≤ q.items.length ∧ GLe h u.2.2 ∧ AllN 4 (ItemAt (PlainAt k) u.2.2) u.2.1.2.2 ((q.items.take u.1).map fun x => ⟨0, bitF (decide (ixOf p.items x < p.items.length)), 0, []⟩) ∧ Sees w h u.2.2 [⟨u.2.1.1, u.1, u.2.1.2.1, 70, 4, u.2.1.2.2⟩, ⟨some ⟨b4, 0, none⟩, 1, 1, 25, 3, [.slice ad3 q.shape.length cp3, .slice u.2.1.1 u.1 u.2.1.2.1, .int .i64 0]⟩, ⟨some ⟨b3, 0, none⟩, 1, 1, 25, 3, [.slice none 0 0, .slice none 0 0, .int .i64 0]⟩, ⟨some ⟨b2, 0, none⟩, 1, 1, 25, 3, [.slice ad p.shape.length cp, .slice ad2 p.items.length cp2, .int .i64 p.fill]⟩, ⟨some ⟨b1, 0, none⟩, 1, 1, 25, 3, [.slice ad3 q.shape.length cp3, .slice ad4 q.items.length cp4, .int .i64 q.fill]⟩] w') (fun u => q.items.length - u.1) (0, (none, 0, []), h) ⟨rfl, rfl, rfl, rfl, rfl, trivial⟩ ⟨by omega, GLe.refl _, rfl, hs⟩ ?_
  rintro ⟨i, ⟨ra, rc, vs⟩, hh⟩ w5 ⟨hi, hg, hAv, hs⟩
  dsimp only at hi hg hAv hs ⊢
  have hSL := hS2.mono hg
  have hAL := hA2.mono (fun u a hv => ItemAt.mono (PlainAt.mono k) _ _ u a hg hv)
  by_cases hlt : i < q.items.length
  · obtain ⟨y, hy, hyl, hRy⟩ := hA4.elem i hlt
    have hRy := ItemAt.mono (PlainAt.mono k) _ _ _ _ hg hRy
    have htm := takeMap (fun x => (⟨0, bitF (decide (ixOf p.items x < p.items.length)), 0, []⟩ : ItemD (PD k))) q.items hlt noItem
    rw [getD_elem hlt] at htm
    have nx : ∀ {h6 : GHeap}, GLe hh h6 → AllN 4 (ItemAt (PlainAt k) h6) (vs ++ [.int .i64 0, .float .f64 (bitF (decide (ixOf p.items q.items[i] < p.items.length))), .int .i32 0, .slice none 0 0]) ((q.items.take (i + 1)).map fun x => ⟨0, bitF (decide (ixOf p.items x < p.items.length)), 0, []⟩) := by
      intro h6 hl6
      rw [htm]
      exact (hAv.mono (fun u a hv => ItemAt.mono (PlainAt.mono k) _ _ u a hl6 hv)).append (AllN.one rfl (ItemAt.mk' (x := ⟨0, (bitF (decide (ixOf p.items q.items[i] < p.items.length))), 0, []⟩) (RowsAt.nil _) (bitF_lt _)))
    refine Zerun ?_
    refine RW.val (Y.build T rfl rfl rfl rfl rfl rfl rfl) rfl ?_
    (refine RW.allocN T hs rfl rfl rfl rfl ?_; intro b6 w6 hs)
    (refine RW.storeAll T hs 0 rfl rfl rfl rfl rfl rfl rfl rfl ?_; intro w7 hs)
    refine Zerun ?_
    by_cases c : ixOf p.items q.items[i] < p.items.length
    · rw [decide_eq_true c] at nx
      refine CW.regionR T 5 4 hs rfl rfl ?_
      intro w8 hs
      refine HW.takeR (fuel := 11) 0 rfl (fun _ _ ka kb _ hs hka hkb => Y.fieldAddr T rfl rfl rfl rfl rfl) ⟨_, _, 5, 4, hs, rfl, rfl⟩ rfl (by kernel_rfl) (by kernel_rfl) (by kernel_rfl) ?_
      refine HW.takeR (fuel := 10) 1 rfl (fun _ _ ka kb _ hs hka hkb => Y.loadRow1 T hs kb hkb rfl rfl rfl rfl) ⟨_, _, 5, 4, hs, rfl, rfl⟩ rfl (by kernel_rfl) (by kernel_rfl) (by kernel_rfl) ?_
      refine HW.takeR (fuel := 9) 2 rfl (fun _ _ ka kb _ hs hka hkb => Y.fieldAddr T rfl rfl rfl rfl rfl) ⟨_, _, 5, 4, hs, rfl, rfl⟩ rfl (by kernel_rfl) (by kernel_rfl) (by kernel_rfl) ?_
      refine HW.takeR (fuel := 8) 3 rfl (fun _ _ ka kb _ hs hka hkb => Y.loadRow1 T hs ka hka rfl rfl rfl rfl) ⟨_, _, 5, 4, hs, rfl, rfl⟩ rfl (by kernel_rfl) (by kernel_rfl) (by kernel_rfl) ?_
      refine HW.takeR (fuel := 7) 4 rfl (fun _ _ ka kb _ hs hka hkb => Y.move rfl) ⟨_, _, 5, 4, hs, rfl, rfl⟩ rfl (by kernel_rfl) (by kernel_rfl) (by kernel_rfl) ?_
      refine HW.takeR (fuel := 6) 5 rfl (fun _ _ ka kb _ hs hka hkb => Y.idxSN T rfl rfl (hS4.mono hs.le) rfl rfl rfl hlt) ⟨_, _, 5, 4, hs, rfl, rfl⟩ rfl (by kernel_rfl) (by kernel_rfl) (by kernel_rfl) ?_
      refine HW.takeR (fuel := 5) 6 rfl (fun _ _ ka kb _ hs hka hkb => Y.ldSN T hs rfl (hS4.mono hs.le) rfl rfl rfl rfl hlt hy hyl) ⟨_, _, 5, 4, hs, rfl, rfl⟩ rfl (by kernel_rfl) (by kernel_rfl) (by kernel_rfl) ?_
      refine HW.takeR (fuel := 4) 8 rfl (fun _ _ ka kb _ hs hka hkb => Y.fieldAddr T rfl rfl rfl rfl rfl) ⟨_, _, 5, 4, hs, rfl, rfl⟩ rfl (by kernel_rfl) (by kernel_rfl) (by kernel_rfl) ?_
      refine HW.takeR (fuel := 3) 9 rfl (fun _ _ ka kb _ hs hka hkb => Y.loadRow1 T hs kb hkb rfl rfl rfl rfl) ⟨_, _, 5, 4, hs, rfl, rfl⟩ rfl (by kernel_rfl) (by kernel_rfl) (by kernel_rfl) ?_
      refine HW.takeR (fuel := 2) 10 rfl (fun _ _ ka kb _ hs hka hkb => Y.len T rfl rfl) ⟨_, _, 5, 4, hs, rfl, rfl⟩ rfl (by kernel_rfl) (by kernel_rfl) (by kernel_rfl) ?_
      refine HW.one (fuel := 1) 7 rfl (by kernel_rfl) ?_
      (refine RW.call T hs rfl rfl rfl (ref19Find_con k _ p.items _ _ _ _ ⟨_, _, _, rfl, hSL, hAL⟩ hRy tp (tq _ (List.getElem_mem hlt))) ?_; intro v h26 w26 hle26 hp26 hs)
      subst hp26
      refine RW.nil ?_
      refine heldQ_normal ⟨_, _, 5, 4, hs, rfl, rfl⟩ ?_
      refine HW.takeR (fuel := 0) 11 rfl (fun _ _ ka kb _ hs hka hkb => Y.lss rfl rfl) ⟨_, _, 5, 4, hs, rfl, rfl⟩ rfl (by kernel_rfl) (by kernel_rfl) (by kernel_rfl) ?_
      refine HW.done (by kernel_rfl) ?_
      refine calmQ_normal ?_
      refine Zerun ?_
      (refine RW.store1 T hs 0 rfl rfl rfl rfl rfl rfl rfl rfl ?_; intro w9 hs)
      dsimp only [List.set_cons_zero, List.set_cons_succ] at hs
      refine Zerun ?_
      (refine RW.lit T hs (vs := [.agg [.int .i64 0, .float .f64 (bitF true), .int .i32 0, .slice none 0 0].toArray]) (cs := [.int .i64 0, .float .f64 (bitF true), .int .i32 0, .slice none 0 0]) rfl rfl rfl rfl (by simp [Value.cells]) rfl rfl rfl rfl rfl ?_; intro b10 w10 hs)
      (refine RW.append T hs 2 rfl rfl (m := 1) (news := [.int .i64 0, .float .f64 (bitF true), .int .i32 0, .slice none 0 0]) rfl rfl rfl rfl rfl rfl (hs.src0 rfl (by simp [Value.oneCell'])) (by simp) (by dsimp only; omega) (by omega) ?_; intro ad11 cp11 w11 hs; replace hs := hs.drop)
      refine Zerun ?_
      (refine RW.store1 T hs 2 rfl rfl rfl rfl rfl rfl rfl rfl ?_; intro w12 hs)
      dsimp only [List.set_cons_zero, List.set_cons_succ] at hs
      have hs := hs.drop
      refine Zerun ?_
      exact loopQ_round (i + 1, (ad11, cp11, _), h26) ⟨rfl, rfl, rfl, rfl, rfl, trivial⟩ ⟨by dsimp only; omega, hg.trans hle26, nx hle26, hs⟩ (by dsimp only; omega)
    · rw [decide_eq_false c] at nx
      refine CW.regionR T 5 4 hs rfl rfl ?_
      intro w8 hs
      refine HW.takeR (fuel := 11) 0 rfl (fun _ _ ka kb _ hs hka hkb => Y.fieldAddr T rfl rfl rfl rfl rfl) ⟨_, _, 5, 4, hs, rfl, rfl⟩ rfl (by kernel_rfl) (by kernel_rfl) (by kernel_rfl) ?_
      refine HW.takeR (fuel := 10) 1 rfl (fun _ _ ka kb _ hs hka hkb => Y.loadRow1 T hs kb hkb rfl rfl rfl rfl) ⟨_, _, 5, 4, hs, rfl, rfl⟩ rfl (by kernel_rfl) (by kernel_rfl) (by kernel_rfl) ?_
      refine HW.takeR (fuel := 9) 2 rfl (fun _ _ ka kb _ hs hka hkb => Y.fieldAddr T rfl rfl rfl rfl rfl) ⟨_, _, 5, 4, hs, rfl, rfl⟩ rfl (by kernel_rfl) (by kernel_rfl) (by kernel_rfl) ?_
      refine HW.takeR (fuel := 8) 3 rfl (fun _ _ ka kb _ hs hka hkb => Y.loadRow1 T hs ka hka rfl rfl rfl rfl) ⟨_, _, 5, 4, hs, rfl, rfl⟩ rfl (by kernel_rfl) (by kernel_rfl) (by kernel_rfl) ?_
      refine HW.takeR (fuel := 7) 4 rfl (fun _ _ ka kb _ hs hka hkb => Y.move rfl) ⟨_, _, 5, 4, hs, rfl, rfl⟩ rfl (by kernel_rfl) (by kernel_rfl) (by kernel_rfl) ?_
      refine HW.takeR (fuel := 6) 5 rfl (fun _ _ ka kb _ hs hka hkb => Y.idxSN T rfl rfl (hS4.mono hs.le) rfl rfl rfl hlt) ⟨_, _, 5, 4, hs, rfl, rfl⟩ rfl (by kernel_rfl) (by kernel_rfl) (by kernel_rfl) ?_
      refine HW.takeR (fuel := 5) 6 rfl (fun _ _ ka kb _ hs hka hkb => Y.ldSN T hs rfl (hS4.mono hs.le) rfl rfl rfl rfl hlt hy hyl) ⟨_, _, 5, 4, hs, rfl, rfl⟩ rfl (by kernel_rfl) (by kernel_rfl) (by kernel_rfl) ?_
      refine HW.takeR (fuel := 4) 8 rfl (fun _ _ ka kb _ hs hka hkb => Y.fieldAddr T rfl rfl rfl rfl rfl) ⟨_, _, 5, 4, hs, rfl, rfl⟩ rfl (by kernel_rfl) (by kernel_rfl) (by kernel_rfl) ?_
      refine HW.takeR (fuel := 3) 9 rfl (fun _ _ ka kb _ hs hka hkb => Y.loadRow1 T hs kb hkb rfl rfl rfl rfl) ⟨_, _, 5, 4, hs, rfl, rfl⟩ rfl (by kernel_rfl) (by kernel_rfl) (by kernel_rfl) ?_
      refine HW.takeR (fuel := 2) 10 rfl (fun _ _ ka kb _ hs hka hkb => Y.len T rfl rfl) ⟨_, _, 5, 4, hs, rfl, rfl⟩ rfl (by kernel_rfl) (by kernel_rfl) (by kernel_rfl) ?_
      refine HW.one (fuel := 1) 7 rfl (by kernel_rfl) ?_
      (refine RW.call T hs rfl rfl rfl (ref19Find_con k _ p.items _ _ _ _ ⟨_, _, _, rfl, hSL, hAL⟩ hRy tp (tq _ (List.getElem_mem hlt))) ?_; intro v h26 w26 hle26 hp26 hs)
      subst hp26
      refine RW.nil ?_
      refine heldQ_normal ⟨_, _, 5, 4, hs, rfl, rfl⟩ ?_
      refine HW.takeR (fuel := 0) 11 rfl (fun _ _ ka kb _ hs hka hkb => Y.lss rfl rfl) ⟨_, _, 5, 4, hs, rfl, rfl⟩ rfl (by kernel_rfl) (by kernel_rfl) (by kernel_rfl) ?_
      refine HW.done (by kernel_rfl) ?_
      refine calmQ_normal ?_
      refine Zerun ?_
      (refine RW.lit T hs (vs := [.agg [.int .i64 0, .float .f64 (bitF false), .int .i32 0, .slice none 0 0].toArray]) (cs := [.int .i64 0, .float .f64 (bitF false), .int .i32 0, .slice none 0 0]) rfl rfl rfl rfl (by simp [Value.cells]) rfl rfl rfl rfl rfl ?_; intro b10 w10 hs)
      (refine RW.append T hs 2 rfl rfl (m := 1) (news := [.int .i64 0, .float .f64 (bitF false), .int .i32 0, .slice none 0 0]) rfl rfl rfl rfl rfl rfl (hs.src0 rfl (by simp [Value.oneCell'])) (by simp) (by dsimp only; omega) (by omega) ?_; intro ad11 cp11 w11 hs; replace hs := hs.drop)
      refine Zerun ?_
      (refine RW.store1 T hs 2 rfl rfl rfl rfl rfl rfl rfl rfl ?_; intro w12 hs)
      dsimp only [List.set_cons_zero, List.set_cons_succ] at hs
      have hs := hs.drop
      refine Zerun ?_
      exact loopQ_round (i + 1, (ad11, cp11, _), h26) ⟨rfl, rfl, rfl, rfl, rfl, trivial⟩ ⟨by dsimp only; omega, hg.trans hle26, nx hle26, hs⟩ (by dsimp only; omega)
  obtain rfl : i = q.items.length := by omega
  rw [List.take_length] at hAv
  refine Zerun ?_
  obtain ⟨h9, hle9, hs, hS9⟩ := hs.freeze
  have hlv := hAv.length
  have hIq : IntsAt h9 (.slice ad3 q.shape.length cp3) q.shape := ⟨ad3, cp3, rfl, hS3.mono (hg.trans hle9)⟩
  have hit : RowsAt 4 (ItemAt (PlainAt k) h9) h9 (.slice ra q.items.length rc) ((q.items.map fun x => bitF (decide (ixOf p.items x < p.items.length))).map fun x => (⟨0, x, 0, []⟩ : ItemD (PD k))) := by
    rw [List.map_map]
    have := hAv.mono (fun u a hv => ItemAt.mono (PlainAt.mono k) _ _ u a hle9 hv)
    exact ⟨ra, rc, vs, by rw [List.length_map], by rw [List.length_map]; exact hS9, this⟩
  refine Zerun ?_
  (refine RW.storeAll T hs 1 rfl rfl rfl rfl rfl rfl rfl rfl ?_; intro w10 hs)
  refine Zerun ?_
  exact retQ_ret [_] h9 ⟨resN T hs 1 rfl rfl rfl rfl rfl rfl, trivial⟩ hs.dropAll ⟨_, rfl, _, _, rfl, hIq, hit⟩
theorem baseIndexOf_con (k : Nat) (ca cc : List Value) (a c : ArrD (AD k)) (o : Int) (w : World) (h : GHeap) (ha : ArrAt (k + 1) h ca a) (hc : ArrAt (k + 1) h cc c) (qa : sml (k + 1) a) (qc : sml (k + 1) c) (ho : 0 ≤ o ∧ o ≤ 1) (h1 : a.shape.length = 1) :
    Con Tryz.prog 22 [.agg ca.toArray, .agg cc.toArray, .int .i64 o] w h (fun h' u => ∃ cs', u = .tuple #[.agg cs'.toArray, .int .i64 0] ∧ ArrAt (k + 1) h' cs' (nmSA c.shape ((plusL ((itemsV (plain k) c.vec).map fun x => ((ixOf (itemsV (plain k) a.vec) x : Nat) : Int)) o).map fwF) : ArrD (AD k))) := by
  have ha' := ha
  obtain ⟨_, vca, rfl, ⟨ad1, cp1, rfl, hS1⟩, hva⟩ := ha
  obtain ⟨_, vcc, rfl, ⟨ad2, cp2, rfl, hS2⟩, hvc⟩ := hc
  have hva' := hva
  have hvc' := hvc
  have hLa := itemsV_len (plain k) hva'
  have hLc := itemsV_len (plain k) hvc'
  obtain ⟨qa1, qa2, qa3⟩ := qa
  obtain ⟨qc1, qc2, qc3⟩ := qc
  obtain ⟨wv1, nv1, sm1, il1, fl1, ch1, bx1, ⟨rfl, hoc1⟩, -⟩ := hva
  obtain ⟨wv2, nv2, sm2, il2, fl2, ch2, bx2, ⟨rfl, hoc2⟩, -⟩ := hvc
  refine Con.of_body Tryz.func22 rfl Tryz.ntmps22 rfl rfl ?_
  intro hs
  refine Zrun ?_
  (refine RW.boxN hs rfl rfl ?_; intro b1 w1 hs)
  refine Zrun ?_
  (refine RW.boxN hs rfl rfl ?_; intro b2 w2 hs)
  (refine RW.allocN T hs rfl rfl rfl rfl ?_; intro b3 w3 hs)
  refine Zerun ?_
  (refine RW.call T hs rfl rfl rfl (valueRank_con (R := ArrAt k) _ a _ _ ha') ?_; intro v h4 w4 hle4 hp4 hs)
  subst hp4
  have hva' := hva'.mono (ArrAt.mono k) hle4
  have hvc' := hvc'.mono (ArrAt.mono k) hle4
  rw [h1]
  refine Zerun ?_
  (refine RW.call T hs rfl rfl rfl (hashFind_con k _ _ a.vec c.vec _ _ hva' hvc' qa3 qc3 qa2 qc2) ?_; intro v h5 w5 hle5 hp5 hs)
  have hI5 := hp5
  obtain ⟨ad5, cp5, rfl, _⟩ := hp5
  refine Zerun ?_
  (refine RW.call T hs rfl rfl rfl (baseInts_con k _ _ o _ _ hI5 (fun n hn => by obtain ⟨x, _, rfl⟩ := List.mem_map.1 hn; have := ixOf_le (itemsV (plain k) a.vec) x; omega) (by rw [List.length_map]; omega)) ?_; intro v h6 w6 hle6 hp6 hs)
  obtain ⟨cs6, rfl, ha6⟩ := hp6
  obtain ⟨_, vc6, rfl, ⟨ad6, cp6, rfl, _⟩, hv8'⟩ := ha6
  have hv8 := hv8'
  obtain ⟨wv8, nv8, sm8, il8, fl8, ch8, bx8, ⟨rfl, hoc8⟩, -⟩ := hv8
  have g6 := (hle4.trans hle5).trans hle6
  have hIc : IntsAt h6 (.slice ad2 c.shape.length cp2) c.shape := ⟨ad2, cp2, rfl, hS2.mono g6⟩
  refine Zerun ?_
  (refine RW.allocN T hs rfl rfl rfl rfl ?_; intro b7 w7 hs)
  (refine RW.storeAll T hs 0 rfl rfl rfl rfl rfl rfl (by show (Value.oneCell' (.slice ad6 _ cp6) && (vecCells _ wv8 nv8 sm8 il8 fl8 ch8 bx8).all Value.oneCell') = true; rw [hoc8]; rfl) rfl ?_; intro w8 hs)
  refine Zerun ?_
  refine CW.regionR T 2 0 hs rfl rfl ?_
  intro w9 hs
  refine HW.takeR (fuel := 7) 0 rfl (fun _ _ ka kb _ hs hka hkb => Y.fieldAddr T rfl rfl rfl rfl rfl) ⟨_, _, 2, 0, hs, rfl, rfl⟩ rfl (by kernel_rfl) (by kernel_rfl) (by kernel_rfl) ?_
  refine HW.takeR (fuel := 6) 1 rfl (fun _ _ ka kb _ hs hka hkb => Y.loadRow1 T hs ka hka rfl rfl rfl rfl) ⟨_, _, 2, 0, hs, rfl, rfl⟩ rfl (by kernel_rfl) (by kernel_rfl) (by kernel_rfl) ?_
  refine HW.takeR (fuel := 5) 3 rfl (fun _ _ ka kb _ hs hka hkb => Y.fieldAddr T rfl rfl rfl rfl rfl) ⟨_, _, 2, 0, hs, rfl, rfl⟩ rfl (by kernel_rfl) (by kernel_rfl) (by kernel_rfl) ?_
  refine HW.takeR (fuel := 4) 4 rfl (fun _ _ ka kb _ hs hka hkb => Y.loadRowN T hs kb hkb rfl rfl rfl rfl rfl rfl) ⟨_, _, 2, 0, hs, rfl, rfl⟩ rfl (by kernel_rfl) (by kernel_rfl) (by kernel_rfl) ?_
  refine HW.one (fuel := 3) 2 rfl (by kernel_rfl) ?_
  (refine RW.call T hs rfl rfl rfl (cloneInts_con _ c.shape _ _ hIc (by omega)) ?_; intro v h22 w22 hle22 hp22 hs)
  have hI22 := hp22
  obtain ⟨ad22, cp22, rfl, _⟩ := hp22
  have hv8' := hv8'.mono (ArrAt.mono k) hle22
  refine RW.nil ?_
  refine heldQ_normal ⟨_, _, 2, 0, hs, rfl, rfl⟩ ?_
  refine HW.takeR (fuel := 2) 5 rfl (fun _ _ ka kb _ hs hka hkb => Y.build T rfl rfl rfl rfl rfl rfl rfl) ⟨_, _, 2, 0, hs, rfl, rfl⟩ rfl (by kernel_rfl) (by kernel_rfl) (by kernel_rfl) ?_
  refine HW.one (fuel := 1) 6 rfl (by kernel_rfl) ?_
  (refine RW.storeAll T hs 1 rfl rfl rfl rfl rfl rfl (by show (Value.oneCell' (.slice ad22 c.shape.length cp22) && (vecCells _ wv8 nv8 sm8 il8 fl8 ch8 bx8).all Value.oneCell') = true; rw [hoc8]; rfl) rfl ?_; intro w955 hs)
  refine RW.nil ?_
  refine heldQ_normal ⟨_, _, 2, 0, hs, rfl, rfl⟩ ?_
  refine HW.takeR (fuel := 0) 7 rfl (fun _ _ ka kb _ hs hka hkb => Y.assign rfl) ⟨_, _, 2, 0, hs, rfl, rfl⟩ rfl (by kernel_rfl) (by kernel_rfl) (by kernel_rfl) ?_
  refine HW.done (by kernel_rfl) ?_
  refine calmQ_normal ?_
  refine Zerun ?_
  exact retQ_ret [_, _] h22 ⟨resN T hs 1 rfl rfl rfl rfl rfl rfl, rfl, trivial⟩ hs.dropAll ⟨_, rfl, _, _, rfl, hI22, hv8'⟩
theorem baseIndexOfE_con (k : Nat) (ca cc : List Value) (a c : ArrD (AD k)) (o : Int) (w : World) (h : GHeap) (ha : ArrAt (k + 1) h ca a) (hc : ArrAt (k + 1) h cc c) (hm : a.shape.length ≤ 8) (h1 : a.shape.length ≠ 1) :
    Con Tryz.prog 22 [.agg ca.toArray, .agg cc.toArray, .int .i64 o] w h (fun h' u => ∃ cs', u = .tuple #[.agg cs'.toArray, .int .i64 22] ∧ ArrR (ArrAt k) h' cs' ⟨[], VecD.none⟩) := by
  have ha' := ha
  obtain ⟨_, vca, rfl, ⟨ad1, cp1, rfl, hS1⟩, hva⟩ := ha
  obtain ⟨_, vcc, rfl, ⟨ad2, cp2, rfl, hS2⟩, hvc⟩ := hc
  obtain ⟨wv1, nv1, sm1, il1, fl1, ch1, bx1, ⟨rfl, hoc1⟩, -⟩ := hva
  obtain ⟨wv2, nv2, sm2, il2, fl2, ch2, bx2, ⟨rfl, hoc2⟩, -⟩ := hvc
  refine Con.of_body Tryz.func22 rfl Tryz.ntmps22 rfl rfl ?_
  intro hs
  refine Zrun ?_
  (refine RW.boxN hs rfl rfl ?_; intro b1 w1 hs)
  refine Zrun ?_
  (refine RW.boxN hs rfl rfl ?_; intro b2 w2 hs)
  (refine RW.allocN T hs rfl rfl rfl rfl ?_; intro b3 w3 hs)
  refine Zerun ?_
  (refine RW.call T hs rfl rfl rfl (valueRank_con (R := ArrAt k) _ a _ _ ha') ?_; intro v h4 w4 hle4 hp4 hs)
  subst hp4
  refine Zerun ?_
  refine RW.val (Y.build T rfl rfl rfl rfl rfl rfl rfl) rfl ?_
  (refine RW.storeAll T hs 0 rfl rfl rfl rfl rfl rfl rfl rfl ?_; intro w5 hs)
  refine Zerun ?_
  exact retQ_ret [_, _] h4 ⟨resN T hs 0 rfl rfl rfl rfl rfl rfl, rfl, trivial⟩ hs.dropAll ⟨_, rfl, _, _, rfl, IntsAt.nil _, vecNone _⟩
theorem baseMember_con (k : Nat) (ca cc : List Value) (a c : ArrD (AD k)) (w : World) (h : GHeap) (ha : ArrAt (k + 1) h ca a) (hc : ArrAt (k + 1) h cc c) (qa : sml (k + 1) a) (qc : sml (k + 1) c) :
    Con Tryz.prog 24 [.agg ca.toArray, .agg cc.toArray] w h (fun h' u => ∃ cs', u = .agg cs'.toArray ∧ ArrAt (k + 1) h' cs' (nmSA a.shape ((itemsV (plain k) a.vec).map fun x => bitF (decide (ixOf (itemsV (plain k) c.vec) x < c.vec.len))) : ArrD (AD k))) := by
  obtain ⟨_, vca, rfl, ⟨ad1, cp1, rfl, hS1⟩, hva⟩ := ha
  obtain ⟨_, vcc, rfl, ⟨ad2, cp2, rfl, hS2⟩, hvc⟩ := hc
  have hva' := hva
  have hvc' := hvc
  have hLa := itemsV_len (plain k) hva'
  obtain ⟨qa1, qa2, qa3⟩ := qa
  obtain ⟨qc1, qc2, qc3⟩ := qc
  obtain ⟨wv1, nv1, sm1, il1, fl1, ch1, bx1, ⟨rfl, hoc1⟩, -⟩ := hva
  obtain ⟨wv2, nv2, sm2, il2, fl2, ch2, bx2, ⟨rfl, hoc2⟩, -⟩ := hvc
  refine Con.of_body Tryz.func24 rfl Tryz.ntmps24 rfl rfl ?_
  intro hs
  refine Zrun ?_
  (refine RW.boxN hs rfl rfl ?_; intro b1 w1 hs)
  refine Zrun ?_
  (refine RW.boxN hs rfl rfl ?_; intro b2 w2 hs)
  (refine RW.allocN T hs rfl rfl rfl rfl ?_; intro b3 w3 hs)
  refine Zerun ?_
  (refine RW.call T hs rfl rfl rfl (hashHas_con k _ _ c.vec a.vec _ _ hvc' hva' qc3 qa3 qc2 qa2) ?_; intro v h4 w4 hle4 hp4 hs)
  obtain ⟨bs, hbs⟩ : ∃ bs, ((itemsV (plain k) a.vec).map fun x => decide (ixOf (itemsV (plain k) c.vec) x < c.vec.len)) = bs := ⟨_, rfl⟩
  have hbl : bs.length ≤ 1048576 := by rw [← hbs, List.length_map]; omega
  have hpost : ((itemsV (plain k) a.vec).map fun x => bitF (decide (ixOf (itemsV (plain k) c.vec) x < c.vec.len))) = bs.map bitF := by rw [← hbs, List.map_map]; rfl
  rw [hbs] at hp4
  rw [hpost]
  clear hbs hpost
  obtain ⟨ad4, cp4, rfl, hS4⟩ := hp4
  refine Zerun ?_
  (refine RW.make1 T hs rfl rfl rfl rfl rfl rfl rfl (by dsimp only; omega) (by omega) ?_; intro b5 w5 hs)
  have hs := hs.re (ys := (((bs.take 0).map bitF) ++ List.replicate (bs.length - 0) 0).map (Value.float .f64)) (by rw [List.map_append, List.map_replicate]; rfl)
  refine Zerun ?_
  refine CW.loop (fun u : Nat × GHeap => [(2, .pointer (some ⟨b1, 0, none⟩)), (3, .pointer (some ⟨b2, 0, none⟩)), (4, .pointer (some ⟨b3, 0, none⟩)), (6, .slice (some ⟨b5, 0, none⟩) bs.length bs.length), (19, .slice ad4 bs.length cp4), (20, .int .i64 bs.length), (21, .int .i64 u.1)]) (fun u w' => u.1 ≤ bs.length ∧ GLe h4 u.2 ∧ Sees w h u.2 [⟨some ⟨b5, 0, none⟩, bs.length, bs.length, 67, 1, (((bs.take u.1).map bitF) ++ List.replicate (bs.length - u.1) 0).map (Value.float .f64)⟩, ⟨some ⟨b3, 0, none⟩, 1, 1, 40, 9, .slice none 0 0 :: vecCells 0 (.slice none 0 0) 0 (.slice none 0 0) (.slice none 0 0) (.slice none 0 0) (.slice none 0 0) (.slice none 0 0)⟩, ⟨some ⟨b2, 0, none⟩, 1, 1, 40, 9, .slice ad2 c.shape.length cp2 :: vecCells c.vec.kind wv2 nv2 sm2 il2 fl2 ch2 bx2⟩, ⟨some ⟨b1, 0, none⟩, 1, 1, 40, 9, .slice ad1 a.shape.length cp1 :: vecCells a.vec.kind wv1 nv1 sm1 il1 fl1 ch1 bx1⟩] w') (fun u => bs.length - u.1) (0, h4) ⟨rfl, rfl, rfl, rfl, rfl, rfl, rfl, trivial⟩ ⟨by omega, GLe.refl _, hs⟩ ?_
  rintro ⟨i, hh⟩ w6 ⟨hi, hg, hs⟩
  dsimp only at hi hg hs ⊢
  have hS4' := hS4.mono hg
  by_cases hlt : i < bs.length
  · have gi := map_get Value.bool bs i false hlt
    have htm := takeMap bitF bs hlt false
    have hAl : ((bs.take i).map bitF).length = i := by rw [List.length_map, List.length_take]; omega
    refine Zerun ?_
    (refine RW.call T hs rfl rfl rfl (numFlag_con (bs.getD i false) _ _) ?_; intro v h7 w7 hle7 hp7 hs)
    subst hp7
    refine Zerun ?_
    refine RW.val (Y.idxRN T hs 0 rfl rfl rfl rfl rfl rfl hlt) rfl ?_
    refine RW.st1 T hs 0 rfl rfl rfl rfl rfl rfl rfl hlt ?_
    intro w8 hs
    dsimp only [List.set_cons_zero, List.set_cons_succ] at hs
    rw [← List.map_set, fillA hAl hlt, ← htm] at hs
    refine Zerun ?_
    exact loopQ_round (i + 1, h7) ⟨rfl, rfl, rfl, rfl, rfl, rfl, seti (by dsimp only; omega), trivial⟩ ⟨by dsimp only; omega, hg.trans hle7, hs⟩ (by dsimp only; omega)
  obtain rfl : i = bs.length := by omega
  rw [List.take_length, Nat.sub_self, List.replicate_zero, List.append_nil] at hs
  obtain ⟨h9, hle9, hs, hS9⟩ := hs.freeze
  have hNl : (bs.map bitF).length = bs.length := List.length_map ..
  dsimp only at hS9
  rw [← hNl] at hS9 ⊢
  have hF9 : FAt h9 (.slice (some ⟨b5, 0, none⟩) (bs.map bitF).length (bs.map bitF).length) (bs.map bitF) := RowAt.of_sl hS9
  have htd : ∀ u ∈ bs.map bitF, tidyF u := by
    intro u hu
    obtain ⟨b, _, rfl⟩ := List.mem_map.1 hu
    exact bitF_tidy b
  refine Zerun ?_
  (refine RW.call T hs rfl rfl rfl (sqNumbers_con (ArrAt.mono k) _ _ _ _ hF9 (fun u hu => (htd u hu).1) (by omega)) ?_; intro v h10 w10 hle10 hp10 hs)
  obtain ⟨cs10, ok, rfl, hok, hv10⟩ := hp10
  rw [decide_eq_true (fun u hu => (htd u hu).2.1)] at hok
  subst hok
  rw [if_pos rfl, tidyL htd] at hv10
  have hv8' := hv10
  obtain ⟨wv8, nv8, sm8, il8, fl8, ch8, bx8, ⟨rfl, hoc8⟩, -⟩ := hv10
  have g10 := ((hle4.trans hg).trans hle9).trans hle10
  have hIa : IntsAt h10 (.slice ad1 a.shape.length cp1) a.shape := ⟨ad1, cp1, rfl, hS1.mono g10⟩
  refine Zerun ?_
  (refine RW.allocN T hs rfl rfl rfl rfl ?_; intro b11 w11 hs)
  (refine RW.storeAll T hs 0 rfl rfl rfl rfl rfl rfl hoc8 rfl ?_; intro w12 hs)
  refine Zerun ?_
  refine CW.regionR T 3 0 hs rfl rfl ?_
  intro w13 hs
  refine HW.takeR (fuel := 5) 0 rfl (fun _ _ ka kb _ hs hka hkb => Y.fieldAddr T rfl rfl rfl rfl rfl) ⟨_, _, 3, 0, hs, rfl, rfl⟩ rfl (by kernel_rfl) (by kernel_rfl) (by kernel_rfl) ?_
  refine HW.takeR (fuel := 4) 1 rfl (fun _ _ ka kb _ hs hka hkb => Y.loadRow1 T hs ka hka rfl rfl rfl rfl) ⟨_, _, 3, 0, hs, rfl, rfl⟩ rfl (by kernel_rfl) (by kernel_rfl) (by kernel_rfl) ?_
  refine HW.takeR (fuel := 3) 3 rfl (fun _ _ ka kb _ hs hka hkb => Y.loadRowN T hs kb hkb rfl rfl rfl rfl rfl rfl) ⟨_, _, 3, 0, hs, rfl, rfl⟩ rfl (by kernel_rfl) (by kernel_rfl) (by kernel_rfl) ?_
  refine HW.one (fuel := 2) 2 rfl (by kernel_rfl) ?_
  (refine RW.call T hs rfl rfl rfl (cloneInts_con _ a.shape _ _ hIa (by omega)) ?_; intro v h39 w39 hle39 hp39 hs)
  have hI39 := hp39
  obtain ⟨ad39, cp39, rfl, _⟩ := hp39
  have hv8' := hv8'.mono (ArrAt.mono k) hle39
  refine RW.nil ?_
  refine heldQ_normal ⟨_, _, 3, 0, hs, rfl, rfl⟩ ?_
  refine HW.takeR (fuel := 1) 4 rfl (fun _ _ ka kb _ hs hka hkb => Y.build T rfl rfl rfl rfl rfl rfl rfl) ⟨_, _, 3, 0, hs, rfl, rfl⟩ rfl (by kernel_rfl) (by kernel_rfl) (by kernel_rfl) ?_
  refine HW.one (fuel := 0) 5 rfl (by kernel_rfl) ?_
  (refine RW.storeAll T hs 1 rfl rfl rfl rfl rfl rfl (by show (Value.oneCell' (.slice ad39 a.shape.length cp39) && (vecCells _ wv8 nv8 sm8 il8 fl8 ch8 bx8).all Value.oneCell') = true; rw [hoc8]; rfl) rfl ?_; intro w955 hs)
  refine RW.nil ?_
  refine heldQ_normal ⟨_, _, 3, 0, hs, rfl, rfl⟩ ?_
  refine HW.done (by kernel_rfl) ?_
  refine calmQ_normal ?_
  refine Zerun ?_
  exact retQ_ret [_] h39 ⟨resN T hs 1 rfl rfl rfl rfl rfl rfl, trivial⟩ hs.dropAll ⟨_, rfl, _, _, rfl, hI39, hv8'⟩
end
end Go.Proofs.YtmojpbfkpggjhaaGreatDoor

/-
  Contracts of the law's own functions of layer 27: where elements are in a list, and whether they are there. No statement is proved here.
-/
namespace Go.Proofs.YtmojpbfkpggjhaaGreatDoor
open Go Go.RowKit
set_option linter.unusedVariables false
set_option linter.unusedSimpArgs false
set_option maxHeartbeats 4000000
attribute [local irreducible] CW RW QW SW HW ConM retM heldQ calmQ elemP thenQ blockQ loopQ joinQ retQ Yields Con Sl zF magR unitF truncF fwF wholeF tidySpec elemQ rankF leastN tidyW
set_option maxHeartbeats 4000000
attribute [local irreducible] mixN wrN wr32 keyIt keyP

theorem finds_facts (k : Nat) (p : PD (k + 2)) (hc : chk (k + 2) 40 p = 0) : (ArrD.vec (α := AD (k + 1)) (arr (k + 2) p)).len = (PlainD.items (α := PD (k + 1)) (tidy (k + 2) p)).length ∧ product (PlainD.shape (α := PD (k + 1)) p) 1048576 = (((PlainD.items (α := PD (k + 1)) (tidy (k + 2) p)).length : Int), 0) := by
  obtain ⟨_, _, _, h4, _⟩ := (chkP_ok (α := PD (k + 1)) _ _ _).1 hc
  have hl : (PlainD.items (α := PD (k + 1)) (tidy (k + 2) p)).length = (PlainD.items (α := PD (k + 1)) p).length := List.length_map ..
  have hg := (good_arr (k + 2) 40 p hc).1
  have hg2 : product (PlainD.shape (α := PD (k + 1)) p) 1048576 = (((ArrD.vec (α := AD (k + 1)) (arr (k + 2) p)).len : Int), 0) := hg
  rw [h4] at hg2
  have := congrArg Prod.fst hg2
  dsimp only at this
  refine ⟨by omega, ?_⟩
  rw [h4, hl]
theorem baseFindsLaw_con (k : Nat) (cp0 cq0 : List Value) (p q : PD (k + 2)) (one : Bool) (w : World) (h : GHeap) (hT : TzTab h) (hp : PlainAt (k + 2) h cp0 p) (hq : PlainAt (k + 2) h cq0 q) : Con Tryz.prog 5 [.agg cp0.toArray, .agg cq0.toArray, .bool one] w h (fun _ u => u = .bool true) := by
  have hp' := hp
  have hq' := hq
  have hp0 := hp
  have hq0 := hq
  obtain ⟨s, it, rfl, ⟨ad, cp, rfl, _⟩, ⟨ad2, cp2, xs, rfl, _, _⟩⟩ := hp
  obtain ⟨s2, it2, rfl, ⟨ad3, cp3, rfl, _⟩, ⟨ad4, cp4, xs4, rfl, _, _⟩⟩ := hq
  refine Con.of_body Tryz.func5 rfl Tryz.ntmps5 rfl rfl ?_
  intro hs
  refine Zrun ?_
  (refine RW.boxN hs rfl rfl ?_; intro b1 w1 hs)
  refine Zrun ?_
  (refine RW.boxN hs rfl rfl ?_; intro b2 w2 hs)
  refine Zerun ?_
  (refine RW.call T hs rfl rfl rfl (fine27_con (k + 1) _ p _ _ hp') ?_; intro v h3 w3 hle3 hp3 hs)
  obtain ⟨b, rfl, hbp⟩ := hp3
  have hp' := PlainAt.mono (k + 2) _ _ _ _ hle3 hp'
  have hq' := PlainAt.mono (k + 2) _ _ _ _ hle3 hq'
  have hT := hT.mono hle3
  cases b with
  | false =>
    refine Zerun ?_
    (refine RW.call T hs rfl rfl rfl (awake27_con _ _ hT) ?_; intro v h13 w13 hle13 hp13 hs)
    subst hp13
    refine Zerun ?_
    exact retQ_ret [_] h13 ⟨rfl, trivial⟩ hs.dropAll rfl
  | true =>
  obtain ⟨hcp, h8p, _⟩ := hbp rfl
  refine Zerun ?_
  (refine RW.call T hs rfl rfl rfl (fine27_con (k + 1) _ q _ _ hq') ?_; intro v h4 w4 hle4 hp4 hs)
  obtain ⟨b, rfl, hbq⟩ := hp4
  have hp' := PlainAt.mono (k + 2) _ _ _ _ hle4 hp'
  have hq' := PlainAt.mono (k + 2) _ _ _ _ hle4 hq'
  have hT := hT.mono hle4
  cases b with
  | false =>
    refine Zerun ?_
    (refine RW.call T hs rfl rfl rfl (awake27_con _ _ hT) ?_; intro v h14 w14 hle14 hp14 hs)
    subst hp14
    refine Zerun ?_
    exact retQ_ret [_] h14 ⟨rfl, trivial⟩ hs.dropAll rfl
  | true =>
  obtain ⟨hcq, h8q, _⟩ := hbq rfl
  by_cases c1 : 200 < (PlainD.items (α := PD (k + 1)) p).length
  · refine Zerun ?_
    (refine RW.call T hs rfl rfl rfl (awake27_con _ _ hT) ?_; intro v h5 w5 hle5 hp5 hs)
    subst hp5
    refine Zerun ?_
    exact retQ_ret [_] h5 ⟨rfl, trivial⟩ hs.dropAll rfl
  by_cases c2 : 200 < (PlainD.items (α := PD (k + 1)) q).length
  · refine Zerun ?_
    (refine RW.call T hs rfl rfl rfl (awake27_con _ _ hT) ?_; intro v h5 w5 hle5 hp5 hs)
    subst hp5
    refine Zerun ?_
    exact retQ_ret [_] h5 ⟨rfl, trivial⟩ hs.dropAll rfl
  have hshp := shown_of k p _ _ hp0 hcp
  have hshq := shown_of k q _ _ hq0 hcq
  have hfp := finds_facts k p hcp
  have hfq := finds_facts k q hcq
  have hsmp := good_sml (k + 2) 40 _ (good_arr (k + 2) 40 p hcp)
  have hsmq := good_sml (k + 2) 40 _ (good_arr (k + 2) 40 q hcq)
  have hlp : (PlainD.items (α := PD (k + 1)) (tidy (k + 2) p)).length ≤ 1048576 := by rw [← hfp.1]; exact hsmp.2.1
  have hlq : (PlainD.items (α := PD (k + 1)) (tidy (k + 2) q)).length ≤ 1048576 := by rw [← hfq.1]; exact hsmq.2.1
  have tp := hshp.td
  have tq := hshq.td
  have hso := orgN_rng one
  obtain ⟨Nn, hNn⟩ : ∃ Nn, (plusL ((PlainD.items (α := PD (k + 1)) (tidy (k + 2) q)).map fun x => ((ixOf (PlainD.items (α := PD (k + 1)) (tidy (k + 2) p)) x : Nat) : Int)) (orgN one)).map fwF = Nn := ⟨_, rfl⟩
  obtain ⟨Mn, hMn⟩ : ∃ Mn, ((PlainD.items (α := PD (k + 1)) (tidy (k + 2) p)).map fun x => bitF (decide (ixOf (PlainD.items (α := PD (k + 1)) (tidy (k + 2) q)) x < (PlainD.items (α := PD (k + 1)) (tidy (k + 2) q)).length))) = Mn := ⟨_, rfl⟩
  have hpN : product (PlainD.shape (α := PD (k + 1)) q) 1048576 = ((Nn.length : Int), 0) := by rw [hfq.2, ← hNn, List.length_map, plusL_len, List.length_map]
  have hpM : product (PlainD.shape (α := PD (k + 1)) p) 1048576 = ((Mn.length : Int), 0) := by rw [hfp.2, ← hMn, List.length_map]
  have htN : ∀ u ∈ Nn, tidyF u := by
    rw [← hNn]
    refine plusL_tidy _ _ (fun n hn => ?_)
    obtain ⟨x, _, rfl⟩ := List.mem_map.1 hn
    have := ixOf_le (PlainD.items (α := PD (k + 1)) (tidy (k + 2) p)) x
    omega
  have htM : ∀ u ∈ Mn, tidyF u := by
    rw [← hMn]
    intro u hu
    obtain ⟨x, _, rfl⟩ := List.mem_map.1 hu
    exact bitF_tidy _
  refine Zerun ?_
  by_cases h1 : (PlainD.shape (α := PD (k + 1)) p).length = 1
  · refine CW.meet (fun r : Nat × List Value × GHeap => [(2, .bool one), (3, .pointer (some ⟨b1, 0, none⟩)), (4, .pointer (some ⟨b2, 0, none⟩)), (7, .pointer (some ⟨r.1, 0, none⟩)), (8, .int .i64 0)]) (fun r w' => ArrAt (k + 2) r.2.2 r.2.1 (nmSA (PlainD.shape (α := PD (k + 1)) q) Nn : ArrD (AD (k + 1))) ∧ PlainAt (k + 2) r.2.2 [.slice ad (PlainD.shape (α := PD (k + 1)) p).length cp, .slice ad2 (PlainD.items (α := PD (k + 1)) p).length cp2, .int .i64 (PlainD.fill (α := PD (k + 1)) p)] p ∧ PlainAt (k + 2) r.2.2 [.slice ad3 (PlainD.shape (α := PD (k + 1)) q).length cp3, .slice ad4 (PlainD.items (α := PD (k + 1)) q).length cp4, .int .i64 (PlainD.fill (α := PD (k + 1)) q)] q ∧ TzTab r.2.2 ∧ Sees w h r.2.2 [⟨some ⟨r.1, 0, none⟩, 1, 1, 40, 9, r.2.1⟩, ⟨some ⟨b2, 0, none⟩, 1, 1, 25, 3, [.slice ad3 (PlainD.shape (α := PD (k + 1)) q).length cp3, .slice ad4 (PlainD.items (α := PD (k + 1)) q).length cp4, .int .i64 (PlainD.fill (α := PD (k + 1)) q)]⟩, ⟨some ⟨b1, 0, none⟩, 1, 1, 25, 3, [.slice ad (PlainD.shape (α := PD (k + 1)) p).length cp, .slice ad2 (PlainD.items (α := PD (k + 1)) p).length cp2, .int .i64 (PlainD.fill (α := PD (k + 1)) p)]⟩] w') ?_ ?_
    · refine CW.regionR T 1 0 hs rfl rfl ?_
      intro w30 hs
      refine HW.takeR (fuel := 12) 0 rfl (fun _ _ ka kb _ hs hka hkb => Y.loadRowN T hs ka hka rfl rfl rfl rfl rfl rfl) ⟨_, _, 1, 0, hs, rfl, rfl⟩ rfl (by kernel_rfl) (by kernel_rfl) (by kernel_rfl) ?_
      refine HW.takeR (fuel := 11) 2 rfl (fun _ _ ka kb _ hs hka hkb => Y.loadRowN T hs kb hkb rfl rfl rfl rfl rfl rfl) ⟨_, _, 1, 0, hs, rfl, rfl⟩ rfl (by kernel_rfl) (by kernel_rfl) (by kernel_rfl) ?_
      refine HW.takeR (fuel := 10) 4 rfl (fun _ _ ka kb _ hs hka hkb => Y.move rfl) ⟨_, _, 1, 0, hs, rfl, rfl⟩ rfl (by kernel_rfl) (by kernel_rfl) (by kernel_rfl) ?_
      refine HW.two (fuel := 9) 1 10 rfl rfl (by kernel_rfl) ?_ ?_
      · (refine RW.call T hs rfl rfl rfl (of07_con (k + 2) _ p _ _ hp' hcp) ?_; intro v h34 w34 hle34 hp34 hs)
        obtain ⟨cs34, rfl, _, _, hn34⟩ := hp34
        have hp' := PlainAt.mono (k + 2) _ _ _ _ hle34 hp'
        have hq' := PlainAt.mono (k + 2) _ _ _ _ hle34 hq'
        have hT := hT.mono hle34
        refine RW.nil ?_
        refine heldQ_normal ⟨_, _, 1, 0, hs, rfl, rfl⟩ ?_
        refine HW.two (fuel := 8) 3 10 rfl rfl (by kernel_rfl) ?_ ?_
        · (refine RW.call T hs rfl rfl rfl (of07_con (k + 2) _ q _ _ hq' hcq) ?_; intro v h36 w36 hle36 hp36 hs)
          obtain ⟨cs36, rfl, _, _, hn36⟩ := hp36
          have hp' := PlainAt.mono (k + 2) _ _ _ _ hle36 hp'
          have hq' := PlainAt.mono (k + 2) _ _ _ _ hle36 hq'
          have hT := hT.mono hle36
          have hn34 := ArrAt.mono (k + 2) _ _ _ _ hle36 hn34
          refine RW.nil ?_
          refine heldQ_normal ⟨_, _, 1, 0, hs, rfl, rfl⟩ ?_
          refine HW.two (fuel := 7) 5 10 rfl rfl (by kernel_rfl) ?_ ?_
          · (refine RW.call T hs rfl rfl rfl (origin27_con one _ _) ?_; intro v h38 w38 hle38 hp38 hs)
            subst hp38
            have hp' := PlainAt.mono (k + 2) _ _ _ _ hle38 hp'
            have hq' := PlainAt.mono (k + 2) _ _ _ _ hle38 hq'
            have hT := hT.mono hle38
            have hn34 := ArrAt.mono (k + 2) _ _ _ _ hle38 hn34
            have hn36 := ArrAt.mono (k + 2) _ _ _ _ hle38 hn36
            refine RW.nil ?_
            refine heldQ_normal ⟨_, _, 1, 0, hs, rfl, rfl⟩ ?_
            refine HW.two (fuel := 6) 6 10 rfl rfl (by kernel_rfl) ?_ ?_
            · (refine RW.call T hs rfl rfl rfl (baseIndexOf_con (k + 1) _ _ (arr (k + 2) p) (arr (k + 2) q) (orgN one) _ _ hn34 hn36 hsmp hsmq (orgN_rng one) h1) ?_; intro v h39 w39 hle39 hp39 hs)
              obtain ⟨cs39, rfl, ha39⟩ := hp39
              rw [hshp.he, hshq.he, hNn] at ha39
              have ha39 : ArrAt (k + 2) h39 cs39 (nmSA (PlainD.shape (α := PD (k + 1)) q) Nn : ArrD (AD (k + 1))) := ha39
              obtain ⟨_, vc39, rfl, ⟨ad39, cap39, rfl, _⟩, hv39⟩ := id ha39
              obtain ⟨wv39, nv39, sm39, il39, fl39, ch39, bx39, ⟨rfl, hoc39⟩, -⟩ := hv39
              have hall39 : (Value.oneCell' (.slice ad39 (ArrD.shape (nmSA (PlainD.shape (α := PD (k + 1)) q) Nn : ArrD (AD (k + 1)))).length cap39) && (vecCells (ArrD.vec (nmSA (PlainD.shape (α := PD (k + 1)) q) Nn : ArrD (AD (k + 1)))).kind wv39 nv39 sm39 il39 fl39 ch39 bx39).all Value.oneCell') = true := by rw [hoc39]; rfl
              have hp' := PlainAt.mono (k + 2) _ _ _ _ hle39 hp'
              have hq' := PlainAt.mono (k + 2) _ _ _ _ hle39 hq'
              have hT := hT.mono hle39
              refine RW.nil ?_
              refine heldQ_normal ⟨_, _, 1, 0, hs, rfl, rfl⟩ ?_
              refine HW.takeR (fuel := 5) 7 rfl (fun _ _ ka kb _ hs hka hkb => Y.move rfl) ⟨_, _, 1, 0, hs, rfl, rfl⟩ rfl (by kernel_rfl) (by kernel_rfl) (by kernel_rfl) ?_
              refine HW.takeR (fuel := 4) 8 rfl (fun _ _ ka kb _ hs hka hkb => Y.extract rfl rfl) ⟨_, _, 1, 0, hs, rfl, rfl⟩ rfl (by kernel_rfl) (by kernel_rfl) (by kernel_rfl) ?_
              refine HW.takeR (fuel := 3) 9 rfl (fun _ _ ka kb _ hs hka hkb => Y.extract rfl rfl) ⟨_, _, 1, 0, hs, rfl, rfl⟩ rfl (by kernel_rfl) (by kernel_rfl) (by kernel_rfl) ?_
              refine HW.one (fuel := 2) 10 rfl (by kernel_rfl) ?_
              (refine RW.allocN T hs rfl rfl rfl rfl ?_; intro b7 w7 hs)
              refine RW.nil ?_
              refine heldQ_normal ⟨_, _, 2, 1, hs, rfl, rfl⟩ ?_
              refine HW.one (fuel := 1) 11 rfl (by kernel_rfl) ?_
              refine RW.storeAll T hs 0 rfl rfl rfl rfl rfl rfl hall39 rfl ?_
              intro w911 hs
              refine RW.nil ?_
              refine heldQ_normal ⟨_, _, 2, 1, hs, rfl, rfl⟩ ?_
              refine HW.takeR (fuel := 0) 12 rfl (fun _ _ ka kb _ hs hka hkb => Y.assign rfl) ⟨_, _, 2, 1, hs, rfl, rfl⟩ rfl (by kernel_rfl) (by kernel_rfl) (by kernel_rfl) ?_
              refine HW.done (by kernel_rfl) ?_
              refine calmQ_normal ?_
              exact joinQ_meet (b7, _, h39) ⟨rfl, rfl, rfl, rfl, rfl, trivial⟩ ⟨ha39, hp', hq', hT, hs⟩
            · (refine RW.allocN T hs rfl rfl rfl rfl ?_; intro b7 w7 hs)
              refine RW.nil ?_
              refine heldQ_normal ⟨_, _, 2, 1, hs, rfl, rfl⟩ ?_
              refine HW.one (fuel := 5) 6 rfl (by kernel_rfl) ?_
              (refine RW.call T hs rfl rfl rfl (baseIndexOf_con (k + 1) _ _ (arr (k + 2) p) (arr (k + 2) q) (orgN one) _ _ hn34 hn36 hsmp hsmq (orgN_rng one) h1) ?_; intro v h39 w39 hle39 hp39 hs)
              obtain ⟨cs39, rfl, ha39⟩ := hp39
              rw [hshp.he, hshq.he, hNn] at ha39
              have ha39 : ArrAt (k + 2) h39 cs39 (nmSA (PlainD.shape (α := PD (k + 1)) q) Nn : ArrD (AD (k + 1))) := ha39
              obtain ⟨_, vc39, rfl, ⟨ad39, cap39, rfl, _⟩, hv39⟩ := id ha39
              obtain ⟨wv39, nv39, sm39, il39, fl39, ch39, bx39, ⟨rfl, hoc39⟩, -⟩ := hv39
              have hall39 : (Value.oneCell' (.slice ad39 (ArrD.shape (nmSA (PlainD.shape (α := PD (k + 1)) q) Nn : ArrD (AD (k + 1)))).length cap39) && (vecCells (ArrD.vec (nmSA (PlainD.shape (α := PD (k + 1)) q) Nn : ArrD (AD (k + 1)))).kind wv39 nv39 sm39 il39 fl39 ch39 bx39).all Value.oneCell') = true := by rw [hoc39]; rfl
              have hp' := PlainAt.mono (k + 2) _ _ _ _ hle39 hp'
              have hq' := PlainAt.mono (k + 2) _ _ _ _ hle39 hq'
              have hT := hT.mono hle39
              refine RW.nil ?_
              refine heldQ_normal ⟨_, _, 2, 1, hs, rfl, rfl⟩ ?_
              refine HW.takeR (fuel := 4) 7 rfl (fun _ _ ka kb _ hs hka hkb => Y.move rfl) ⟨_, _, 2, 1, hs, rfl, rfl⟩ rfl (by kernel_rfl) (by kernel_rfl) (by kernel_rfl) ?_
              refine HW.takeR (fuel := 3) 8 rfl (fun _ _ ka kb _ hs hka hkb => Y.extract rfl rfl) ⟨_, _, 2, 1, hs, rfl, rfl⟩ rfl (by kernel_rfl) (by kernel_rfl) (by kernel_rfl) ?_
              refine HW.takeR (fuel := 2) 9 rfl (fun _ _ ka kb _ hs hka hkb => Y.extract rfl rfl) ⟨_, _, 2, 1, hs, rfl, rfl⟩ rfl (by kernel_rfl) (by kernel_rfl) (by kernel_rfl) ?_
              refine HW.one (fuel := 1) 11 rfl (by kernel_rfl) ?_
              refine RW.storeAll T hs 0 rfl rfl rfl rfl rfl rfl hall39 rfl ?_
              intro w911 hs
              refine RW.nil ?_
              refine heldQ_normal ⟨_, _, 2, 1, hs, rfl, rfl⟩ ?_
              refine HW.takeR (fuel := 0) 12 rfl (fun _ _ ka kb _ hs hka hkb => Y.assign rfl) ⟨_, _, 2, 1, hs, rfl, rfl⟩ rfl (by kernel_rfl) (by kernel_rfl) (by kernel_rfl) ?_
              refine HW.done (by kernel_rfl) ?_
              refine calmQ_normal ?_
              exact joinQ_meet (b7, _, h39) ⟨rfl, rfl, rfl, rfl, rfl, trivial⟩ ⟨ha39, hp', hq', hT, hs⟩
          · (refine RW.allocN T hs rfl rfl rfl rfl ?_; intro b7 w7 hs)
            refine RW.nil ?_
            refine heldQ_normal ⟨_, _, 2, 1, hs, rfl, rfl⟩ ?_
            refine HW.one (fuel := 6) 5 rfl (by kernel_rfl) ?_
            (refine RW.call T hs rfl rfl rfl (origin27_con one _ _) ?_; intro v h38 w38 hle38 hp38 hs)
            subst hp38
            have hp' := PlainAt.mono (k + 2) _ _ _ _ hle38 hp'
            have hq' := PlainAt.mono (k + 2) _ _ _ _ hle38 hq'
            have hT := hT.mono hle38
            have hn34 := ArrAt.mono (k + 2) _ _ _ _ hle38 hn34
            have hn36 := ArrAt.mono (k + 2) _ _ _ _ hle38 hn36
            refine RW.nil ?_
            refine heldQ_normal ⟨_, _, 2, 1, hs, rfl, rfl⟩ ?_
            refine HW.one (fuel := 5) 6 rfl (by kernel_rfl) ?_
            (refine RW.call T hs rfl rfl rfl (baseIndexOf_con (k + 1) _ _ (arr (k + 2) p) (arr (k + 2) q) (orgN one) _ _ hn34 hn36 hsmp hsmq (orgN_rng one) h1) ?_; intro v h39 w39 hle39 hp39 hs)
            obtain ⟨cs39, rfl, ha39⟩ := hp39
            rw [hshp.he, hshq.he, hNn] at ha39
            have ha39 : ArrAt (k + 2) h39 cs39 (nmSA (PlainD.shape (α := PD (k + 1)) q) Nn : ArrD (AD (k + 1))) := ha39
            obtain ⟨_, vc39, rfl, ⟨ad39, cap39, rfl, _⟩, hv39⟩ := id ha39
            obtain ⟨wv39, nv39, sm39, il39, fl39, ch39, bx39, ⟨rfl, hoc39⟩, -⟩ := hv39
            have hall39 : (Value.oneCell' (.slice ad39 (ArrD.shape (nmSA (PlainD.shape (α := PD (k + 1)) q) Nn : ArrD (AD (k + 1)))).length cap39) && (vecCells (ArrD.vec (nmSA (PlainD.shape (α := PD (k + 1)) q) Nn : ArrD (AD (k + 1)))).kind wv39 nv39 sm39 il39 fl39 ch39 bx39).all Value.oneCell') = true := by rw [hoc39]; rfl
            have hp' := PlainAt.mono (k + 2) _ _ _ _ hle39 hp'
            have hq' := PlainAt.mono (k + 2) _ _ _ _ hle39 hq'
            have hT := hT.mono hle39
            refine RW.nil ?_
            refine heldQ_normal ⟨_, _, 2, 1, hs, rfl, rfl⟩ ?_
            refine HW.takeR (fuel := 4) 7 rfl (fun _ _ ka kb _ hs hka hkb => Y.move rfl) ⟨_, _, 2, 1, hs, rfl, rfl⟩ rfl (by kernel_rfl) (by kernel_rfl) (by kernel_rfl) ?_
            refine HW.takeR (fuel := 3) 8 rfl (fun _ _ ka kb _ hs hka hkb => Y.extract rfl rfl) ⟨_, _, 2, 1, hs, rfl, rfl⟩ rfl (by kernel_rfl) (by kernel_rfl) (by kernel_rfl) ?_
            refine HW.takeR (fuel := 2) 9 rfl (fun _ _ ka kb _ hs hka hkb => Y.extract rfl rfl) ⟨_, _, 2, 1, hs, rfl, rfl⟩ rfl (by kernel_rfl) (by kernel_rfl) (by kernel_rfl) ?_
            refine HW.one (fuel := 1) 11 rfl (by kernel_rfl) ?_
            refine RW.storeAll T hs 0 rfl rfl rfl rfl rfl rfl hall39 rfl ?_
            intro w911 hs
            refine RW.nil ?_
            refine heldQ_normal ⟨_, _, 2, 1, hs, rfl, rfl⟩ ?_
            refine HW.takeR (fuel := 0) 12 rfl (fun _ _ ka kb _ hs hka hkb => Y.assign rfl) ⟨_, _, 2, 1, hs, rfl, rfl⟩ rfl (by kernel_rfl) (by kernel_rfl) (by kernel_rfl) ?_
            refine HW.done (by kernel_rfl) ?_
            refine calmQ_normal ?_
            exact joinQ_meet (b7, _, h39) ⟨rfl, rfl, rfl, rfl, rfl, trivial⟩ ⟨ha39, hp', hq', hT, hs⟩
        · (refine RW.allocN T hs rfl rfl rfl rfl ?_; intro b7 w7 hs)
          refine RW.nil ?_
          refine heldQ_normal ⟨_, _, 2, 1, hs, rfl, rfl⟩ ?_
          refine HW.one (fuel := 7) 3 rfl (by kernel_rfl) ?_
          (refine RW.call T hs rfl rfl rfl (of07_con (k + 2) _ q _ _ hq' hcq) ?_; intro v h36 w36 hle36 hp36 hs)
          obtain ⟨cs36, rfl, _, _, hn36⟩ := hp36
          have hp' := PlainAt.mono (k + 2) _ _ _ _ hle36 hp'
          have hq' := PlainAt.mono (k + 2) _ _ _ _ hle36 hq'
          have hT := hT.mono hle36
          have hn34 := ArrAt.mono (k + 2) _ _ _ _ hle36 hn34
          refine RW.nil ?_
          refine heldQ_normal ⟨_, _, 2, 1, hs, rfl, rfl⟩ ?_
          refine HW.one (fuel := 6) 5 rfl (by kernel_rfl) ?_
          (refine RW.call T hs rfl rfl rfl (origin27_con one _ _) ?_; intro v h38 w38 hle38 hp38 hs)
          subst hp38
          have hp' := PlainAt.mono (k + 2) _ _ _ _ hle38 hp'
          have hq' := PlainAt.mono (k + 2) _ _ _ _ hle38 hq'
          have hT := hT.mono hle38
          have hn34 := ArrAt.mono (k + 2) _ _ _ _ hle38 hn34
          have hn36 := ArrAt.mono (k + 2) _ _ _ _ hle38 hn36
          refine RW.nil ?_
          refine heldQ_normal ⟨_, _, 2, 1, hs, rfl, rfl⟩ ?_
          refine HW.one (fuel := 5) 6 rfl (by kernel_rfl) ?_
          (refine RW.call T hs rfl rfl rfl (baseIndexOf_con (k + 1) _ _ (arr (k + 2) p) (arr (k + 2) q) (orgN one) _ _ hn34 hn36 hsmp hsmq (orgN_rng one) h1) ?_; intro v h39 w39 hle39 hp39 hs)
          obtain ⟨cs39, rfl, ha39⟩ := hp39
          rw [hshp.he, hshq.he, hNn] at ha39
          have ha39 : ArrAt (k + 2) h39 cs39 (nmSA (PlainD.shape (α := PD (k + 1)) q) Nn : ArrD (AD (k + 1))) := ha39
          obtain ⟨_, vc39, rfl, ⟨ad39, cap39, rfl, _⟩, hv39⟩ := id ha39
          obtain ⟨wv39, nv39, sm39, il39, fl39, ch39, bx39, ⟨rfl, hoc39⟩, -⟩ := hv39
          have hall39 : (Value.oneCell' (.slice ad39 (ArrD.shape (nmSA (PlainD.shape (α := PD (k + 1)) q) Nn : ArrD (AD (k + 1)))).length cap39) && (vecCells (ArrD.vec (nmSA (PlainD.shape (α := PD (k + 1)) q) Nn : ArrD (AD (k + 1)))).kind wv39 nv39 sm39 il39 fl39 ch39 bx39).all Value.oneCell') = true := by rw [hoc39]; rfl
          have hp' := PlainAt.mono (k + 2) _ _ _ _ hle39 hp'
          have hq' := PlainAt.mono (k + 2) _ _ _ _ hle39 hq'
          have hT := hT.mono hle39
          refine RW.nil ?_
          refine heldQ_normal ⟨_, _, 2, 1, hs, rfl, rfl⟩ ?_
          refine HW.takeR (fuel := 4) 7 rfl (fun _ _ ka kb _ hs hka hkb => Y.move rfl) ⟨_, _, 2, 1, hs, rfl, rfl⟩ rfl (by kernel_rfl) (by kernel_rfl) (by kernel_rfl) ?_
          refine HW.takeR (fuel := 3) 8 rfl (fun _ _ ka kb _ hs hka hkb => Y.extract rfl rfl) ⟨_, _, 2, 1, hs, rfl, rfl⟩ rfl (by kernel_rfl) (by kernel_rfl) (by kernel_rfl) ?_
          refine HW.takeR (fuel := 2) 9 rfl (fun _ _ ka kb _ hs hka hkb => Y.extract rfl rfl) ⟨_, _, 2, 1, hs, rfl, rfl⟩ rfl (by kernel_rfl) (by kernel_rfl) (by kernel_rfl) ?_
          refine HW.one (fuel := 1) 11 rfl (by kernel_rfl) ?_
          refine RW.storeAll T hs 0 rfl rfl rfl rfl rfl rfl hall39 rfl ?_
          intro w911 hs
          refine RW.nil ?_
          refine heldQ_normal ⟨_, _, 2, 1, hs, rfl, rfl⟩ ?_
          refine HW.takeR (fuel := 0) 12 rfl (fun _ _ ka kb _ hs hka hkb => Y.assign rfl) ⟨_, _, 2, 1, hs, rfl, rfl⟩ rfl (by kernel_rfl) (by kernel_rfl) (by kernel_rfl) ?_
          refine HW.done (by kernel_rfl) ?_
          refine calmQ_normal ?_
          exact joinQ_meet (b7, _, h39) ⟨rfl, rfl, rfl, rfl, rfl, trivial⟩ ⟨ha39, hp', hq', hT, hs⟩
      · (refine RW.allocN T hs rfl rfl rfl rfl ?_; intro b7 w7 hs)
        refine RW.nil ?_
        refine heldQ_normal ⟨_, _, 2, 1, hs, rfl, rfl⟩ ?_
        refine HW.one (fuel := 8) 1 rfl (by kernel_rfl) ?_
        (refine RW.call T hs rfl rfl rfl (of07_con (k + 2) _ p _ _ hp' hcp) ?_; intro v h34 w34 hle34 hp34 hs)
        obtain ⟨cs34, rfl, _, _, hn34⟩ := hp34
        have hp' := PlainAt.mono (k + 2) _ _ _ _ hle34 hp'
        have hq' := PlainAt.mono (k + 2) _ _ _ _ hle34 hq'
        have hT := hT.mono hle34
        refine RW.nil ?_
        refine heldQ_normal ⟨_, _, 2, 1, hs, rfl, rfl⟩ ?_
        refine HW.one (fuel := 7) 3 rfl (by kernel_rfl) ?_
        (refine RW.call T hs rfl rfl rfl (of07_con (k + 2) _ q _ _ hq' hcq) ?_; intro v h36 w36 hle36 hp36 hs)
        obtain ⟨cs36, rfl, _, _, hn36⟩ := hp36
        have hp' := PlainAt.mono (k + 2) _ _ _ _ hle36 hp'
        have hq' := PlainAt.mono (k + 2) _ _ _ _ hle36 hq'
        have hT := hT.mono hle36
        have hn34 := ArrAt.mono (k + 2) _ _ _ _ hle36 hn34
        refine RW.nil ?_
        refine heldQ_normal ⟨_, _, 2, 1, hs, rfl, rfl⟩ ?_
        refine HW.one (fuel := 6) 5 rfl (by kernel_rfl) ?_
        (refine RW.call T hs rfl rfl rfl (origin27_con one _ _) ?_; intro v h38 w38 hle38 hp38 hs)
        subst hp38
        have hp' := PlainAt.mono (k + 2) _ _ _ _ hle38 hp'
        have hq' := PlainAt.mono (k + 2) _ _ _ _ hle38 hq'
        have hT := hT.mono hle38
        have hn34 := ArrAt.mono (k + 2) _ _ _ _ hle38 hn34
        have hn36 := ArrAt.mono (k + 2) _ _ _ _ hle38 hn36
        refine RW.nil ?_
        refine heldQ_normal ⟨_, _, 2, 1, hs, rfl, rfl⟩ ?_
        refine HW.one (fuel := 5) 6 rfl (by kernel_rfl) ?_
        (refine RW.call T hs rfl rfl rfl (baseIndexOf_con (k + 1) _ _ (arr (k + 2) p) (arr (k + 2) q) (orgN one) _ _ hn34 hn36 hsmp hsmq (orgN_rng one) h1) ?_; intro v h39 w39 hle39 hp39 hs)
        obtain ⟨cs39, rfl, ha39⟩ := hp39
        rw [hshp.he, hshq.he, hNn] at ha39
        have ha39 : ArrAt (k + 2) h39 cs39 (nmSA (PlainD.shape (α := PD (k + 1)) q) Nn : ArrD (AD (k + 1))) := ha39
        obtain ⟨_, vc39, rfl, ⟨ad39, cap39, rfl, _⟩, hv39⟩ := id ha39
        obtain ⟨wv39, nv39, sm39, il39, fl39, ch39, bx39, ⟨rfl, hoc39⟩, -⟩ := hv39
        have hall39 : (Value.oneCell' (.slice ad39 (ArrD.shape (nmSA (PlainD.shape (α := PD (k + 1)) q) Nn : ArrD (AD (k + 1)))).length cap39) && (vecCells (ArrD.vec (nmSA (PlainD.shape (α := PD (k + 1)) q) Nn : ArrD (AD (k + 1)))).kind wv39 nv39 sm39 il39 fl39 ch39 bx39).all Value.oneCell') = true := by rw [hoc39]; rfl
        have hp' := PlainAt.mono (k + 2) _ _ _ _ hle39 hp'
        have hq' := PlainAt.mono (k + 2) _ _ _ _ hle39 hq'
        have hT := hT.mono hle39
        refine RW.nil ?_
        refine heldQ_normal ⟨_, _, 2, 1, hs, rfl, rfl⟩ ?_
        refine HW.takeR (fuel := 4) 7 rfl (fun _ _ ka kb _ hs hka hkb => Y.move rfl) ⟨_, _, 2, 1, hs, rfl, rfl⟩ rfl (by kernel_rfl) (by kernel_rfl) (by kernel_rfl) ?_
        refine HW.takeR (fuel := 3) 8 rfl (fun _ _ ka kb _ hs hka hkb => Y.extract rfl rfl) ⟨_, _, 2, 1, hs, rfl, rfl⟩ rfl (by kernel_rfl) (by kernel_rfl) (by kernel_rfl) ?_
        refine HW.takeR (fuel := 2) 9 rfl (fun _ _ ka kb _ hs hka hkb => Y.extract rfl rfl) ⟨_, _, 2, 1, hs, rfl, rfl⟩ rfl (by kernel_rfl) (by kernel_rfl) (by kernel_rfl) ?_
        refine HW.one (fuel := 1) 11 rfl (by kernel_rfl) ?_
        refine RW.storeAll T hs 0 rfl rfl rfl rfl rfl rfl hall39 rfl ?_
        intro w911 hs
        refine RW.nil ?_
        refine heldQ_normal ⟨_, _, 2, 1, hs, rfl, rfl⟩ ?_
        refine HW.takeR (fuel := 0) 12 rfl (fun _ _ ka kb _ hs hka hkb => Y.assign rfl) ⟨_, _, 2, 1, hs, rfl, rfl⟩ rfl (by kernel_rfl) (by kernel_rfl) (by kernel_rfl) ?_
        refine HW.done (by kernel_rfl) ?_
        refine calmQ_normal ?_
        exact joinQ_meet (b7, _, h39) ⟨rfl, rfl, rfl, rfl, rfl, trivial⟩ ⟨ha39, hp', hq', hT, hs⟩
    rintro ⟨b7, cs39, h39⟩ w39 ⟨hA, hp', hq', hT, hs⟩
    dsimp only at hA hp' hq' hT hs ⊢
    obtain ⟨_, vc39, rfl, ⟨ad39, cap39, rfl, _⟩, hv39⟩ := id hA
    obtain ⟨wv39, nv39, sm39, il39, fl39, ch39, bx39, ⟨rfl, hoc39⟩, -⟩ := hv39
    refine Zerun ?_
    refine CW.meet (fun r : Nat × List Value × GHeap => [(2, .bool one), (3, .pointer (some ⟨b1, 0, none⟩)), (4, .pointer (some ⟨b2, 0, none⟩)), (7, .pointer (some ⟨b7, 0, none⟩)), (8, .int .i64 0), (9, .pointer (some ⟨r.1, 0, none⟩)), (10, .int .i64 0)]) (fun r w' => ArrAt (k + 2) r.2.2 (.slice ad39 (ArrD.shape (nmSA (PlainD.shape (α := PD (k + 1)) q) Nn : ArrD (AD (k + 1)))).length cap39 :: vecCells (ArrD.vec (nmSA (PlainD.shape (α := PD (k + 1)) q) Nn : ArrD (AD (k + 1)))).kind wv39 nv39 sm39 il39 fl39 ch39 bx39) (nmSA (PlainD.shape (α := PD (k + 1)) q) Nn : ArrD (AD (k + 1))) ∧ PlainAt (k + 2) r.2.2 r.2.1 (nmSP (PlainD.shape (α := PD (k + 1)) q) Nn : PlainD (PD (k + 1))) ∧ PlainAt (k + 2) r.2.2 [.slice ad (PlainD.shape (α := PD (k + 1)) p).length cp, .slice ad2 (PlainD.items (α := PD (k + 1)) p).length cp2, .int .i64 (PlainD.fill (α := PD (k + 1)) p)] p ∧ PlainAt (k + 2) r.2.2 [.slice ad3 (PlainD.shape (α := PD (k + 1)) q).length cp3, .slice ad4 (PlainD.items (α := PD (k + 1)) q).length cp4, .int .i64 (PlainD.fill (α := PD (k + 1)) q)] q ∧ TzTab r.2.2 ∧ Sees w h r.2.2 [⟨some ⟨r.1, 0, none⟩, 1, 1, 25, 3, r.2.1⟩, ⟨some ⟨b7, 0, none⟩, 1, 1, 40, 9, (.slice ad39 (ArrD.shape (nmSA (PlainD.shape (α := PD (k + 1)) q) Nn : ArrD (AD (k + 1)))).length cap39 :: vecCells (ArrD.vec (nmSA (PlainD.shape (α := PD (k + 1)) q) Nn : ArrD (AD (k + 1)))).kind wv39 nv39 sm39 il39 fl39 ch39 bx39)⟩, ⟨some ⟨b2, 0, none⟩, 1, 1, 25, 3, [.slice ad3 (PlainD.shape (α := PD (k + 1)) q).length cp3, .slice ad4 (PlainD.items (α := PD (k + 1)) q).length cp4, .int .i64 (PlainD.fill (α := PD (k + 1)) q)]⟩, ⟨some ⟨b1, 0, none⟩, 1, 1, 25, 3, [.slice ad (PlainD.shape (α := PD (k + 1)) p).length cp, .slice ad2 (PlainD.items (α := PD (k + 1)) p).length cp2, .int .i64 (PlainD.fill (α := PD (k + 1)) p)]⟩] w') ?_ ?_
    · refine CW.regionR T 2 1 hs rfl rfl ?_
      intro w40 hs
      refine HW.takeR (fuel := 12) 0 rfl (fun _ _ ka kb _ hs hka hkb => Y.loadRowN T hs ka hka rfl rfl rfl rfl rfl rfl) ⟨_, _, 2, 1, hs, rfl, rfl⟩ rfl (by kernel_rfl) (by kernel_rfl) (by kernel_rfl) ?_
      refine HW.takeR (fuel := 11) 2 rfl (fun _ _ ka kb _ hs hka hkb => Y.loadRowN T hs kb hkb rfl rfl rfl rfl rfl rfl) ⟨_, _, 2, 1, hs, rfl, rfl⟩ rfl (by kernel_rfl) (by kernel_rfl) (by kernel_rfl) ?_
      refine HW.takeR (fuel := 10) 4 rfl (fun _ _ ka kb _ hs hka hkb => Y.move rfl) ⟨_, _, 2, 1, hs, rfl, rfl⟩ rfl (by kernel_rfl) (by kernel_rfl) (by kernel_rfl) ?_
      refine HW.two (fuel := 9) 1 10 rfl rfl (by kernel_rfl) ?_ ?_
      · (refine RW.call T hs rfl rfl rfl (refTidyP_con (k + 2) 40 _ p _ _ hp' hcp) ?_; intro v h44 w44 hle44 hp44 hs)
        obtain ⟨cs44, rfl, hq44⟩ := hp44
        have hp' := PlainAt.mono (k + 2) _ _ _ _ hle44 hp'
        have hq' := PlainAt.mono (k + 2) _ _ _ _ hle44 hq'
        have hT := hT.mono hle44
        have hA := ArrAt.mono (k + 2) _ _ _ _ hle44 hA
        refine RW.nil ?_
        refine heldQ_normal ⟨_, _, 2, 1, hs, rfl, rfl⟩ ?_
        refine HW.two (fuel := 8) 3 10 rfl rfl (by kernel_rfl) ?_ ?_
        · (refine RW.call T hs rfl rfl rfl (refTidyP_con (k + 2) 40 _ q _ _ hq' hcq) ?_; intro v h46 w46 hle46 hp46 hs)
          obtain ⟨cs46, rfl, hq46⟩ := hp46
          have hp' := PlainAt.mono (k + 2) _ _ _ _ hle46 hp'
          have hq' := PlainAt.mono (k + 2) _ _ _ _ hle46 hq'
          have hT := hT.mono hle46
          have hA := ArrAt.mono (k + 2) _ _ _ _ hle46 hA
          have hq44 := PlainAt.mono (k + 2) _ _ _ _ hle46 hq44
          refine RW.nil ?_
          refine heldQ_normal ⟨_, _, 2, 1, hs, rfl, rfl⟩ ?_
          refine HW.two (fuel := 7) 5 10 rfl rfl (by kernel_rfl) ?_ ?_
          · (refine RW.call T hs rfl rfl rfl (origin27_con one _ _) ?_; intro v h48 w48 hle48 hp48 hs)
            subst hp48
            have hp' := PlainAt.mono (k + 2) _ _ _ _ hle48 hp'
            have hq' := PlainAt.mono (k + 2) _ _ _ _ hle48 hq'
            have hT := hT.mono hle48
            have hA := ArrAt.mono (k + 2) _ _ _ _ hle48 hA
            have hq44 := PlainAt.mono (k + 2) _ _ _ _ hle48 hq44
            have hq46 := PlainAt.mono (k + 2) _ _ _ _ hle48 hq46
            refine RW.nil ?_
            refine heldQ_normal ⟨_, _, 2, 1, hs, rfl, rfl⟩ ?_
            refine HW.two (fuel := 6) 6 10 rfl rfl (by kernel_rfl) ?_ ?_
            · (refine RW.call T hs rfl rfl rfl (ref27IndexOf_con (k + 1) _ _ (tidy (k + 2) p) (tidy (k + 2) q) (orgN one) _ _ hq44 hq46 tp tq (orgN_rng one) hlp hlq h1) ?_; intro v h49 w49 hle49 hp49 hs)
              obtain ⟨cs49, rfl, hq49⟩ := hp49
              rw [hNn] at hq49
              have hq49 : PlainAt (k + 2) h49 cs49 (nmSP (PlainD.shape (α := PD (k + 1)) q) Nn : PlainD (PD (k + 1))) := hq49
              obtain ⟨s49, it49, rfl, ⟨adS49, cpS49, rfl, _⟩, ⟨adI49, cpI49, xsI49, rfl, _, _⟩⟩ := id hq49
              have hp' := PlainAt.mono (k + 2) _ _ _ _ hle49 hp'
              have hq' := PlainAt.mono (k + 2) _ _ _ _ hle49 hq'
              have hT := hT.mono hle49
              have hA := ArrAt.mono (k + 2) _ _ _ _ hle49 hA
              refine RW.nil ?_
              refine heldQ_normal ⟨_, _, 2, 1, hs, rfl, rfl⟩ ?_
              refine HW.takeR (fuel := 5) 7 rfl (fun _ _ ka kb _ hs hka hkb => Y.move rfl) ⟨_, _, 2, 1, hs, rfl, rfl⟩ rfl (by kernel_rfl) (by kernel_rfl) (by kernel_rfl) ?_
              refine HW.takeR (fuel := 4) 8 rfl (fun _ _ ka kb _ hs hka hkb => Y.extract rfl rfl) ⟨_, _, 2, 1, hs, rfl, rfl⟩ rfl (by kernel_rfl) (by kernel_rfl) (by kernel_rfl) ?_
              refine HW.takeR (fuel := 3) 9 rfl (fun _ _ ka kb _ hs hka hkb => Y.extract rfl rfl) ⟨_, _, 2, 1, hs, rfl, rfl⟩ rfl (by kernel_rfl) (by kernel_rfl) (by kernel_rfl) ?_
              refine HW.one (fuel := 2) 10 rfl (by kernel_rfl) ?_
              (refine RW.allocN T hs rfl rfl rfl rfl ?_; intro b9 w9 hs)
              refine RW.nil ?_
              refine heldQ_normal ⟨_, _, 3, 2, hs, rfl, rfl⟩ ?_
              refine HW.one (fuel := 1) 11 rfl (by kernel_rfl) ?_
              refine RW.storeAll T hs 0 rfl rfl rfl rfl rfl rfl rfl rfl ?_
              intro w912 hs
              refine RW.nil ?_
              refine heldQ_normal ⟨_, _, 3, 2, hs, rfl, rfl⟩ ?_
              refine HW.takeR (fuel := 0) 12 rfl (fun _ _ ka kb _ hs hka hkb => Y.assign rfl) ⟨_, _, 3, 2, hs, rfl, rfl⟩ rfl (by kernel_rfl) (by kernel_rfl) (by kernel_rfl) ?_
              refine HW.done (by kernel_rfl) ?_
              refine calmQ_normal ?_
              exact joinQ_meet (b9, _, h49) ⟨rfl, rfl, rfl, rfl, rfl, rfl, rfl, trivial⟩ ⟨hA, hq49, hp', hq', hT, hs⟩
            · (refine RW.allocN T hs rfl rfl rfl rfl ?_; intro b9 w9 hs)
              refine RW.nil ?_
              refine heldQ_normal ⟨_, _, 3, 2, hs, rfl, rfl⟩ ?_
              refine HW.one (fuel := 5) 6 rfl (by kernel_rfl) ?_
              (refine RW.call T hs rfl rfl rfl (ref27IndexOf_con (k + 1) _ _ (tidy (k + 2) p) (tidy (k + 2) q) (orgN one) _ _ hq44 hq46 tp tq (orgN_rng one) hlp hlq h1) ?_; intro v h49 w49 hle49 hp49 hs)
              obtain ⟨cs49, rfl, hq49⟩ := hp49
              rw [hNn] at hq49
              have hq49 : PlainAt (k + 2) h49 cs49 (nmSP (PlainD.shape (α := PD (k + 1)) q) Nn : PlainD (PD (k + 1))) := hq49
              obtain ⟨s49, it49, rfl, ⟨adS49, cpS49, rfl, _⟩, ⟨adI49, cpI49, xsI49, rfl, _, _⟩⟩ := id hq49
              have hp' := PlainAt.mono (k + 2) _ _ _ _ hle49 hp'
              have hq' := PlainAt.mono (k + 2) _ _ _ _ hle49 hq'
              have hT := hT.mono hle49
              have hA := ArrAt.mono (k + 2) _ _ _ _ hle49 hA
              refine RW.nil ?_
              refine heldQ_normal ⟨_, _, 3, 2, hs, rfl, rfl⟩ ?_
              refine HW.takeR (fuel := 4) 7 rfl (fun _ _ ka kb _ hs hka hkb => Y.move rfl) ⟨_, _, 3, 2, hs, rfl, rfl⟩ rfl (by kernel_rfl) (by kernel_rfl) (by kernel_rfl) ?_
              refine HW.takeR (fuel := 3) 8 rfl (fun _ _ ka kb _ hs hka hkb => Y.extract rfl rfl) ⟨_, _, 3, 2, hs, rfl, rfl⟩ rfl (by kernel_rfl) (by kernel_rfl) (by kernel_rfl) ?_
              refine HW.takeR (fuel := 2) 9 rfl (fun _ _ ka kb _ hs hka hkb => Y.extract rfl rfl) ⟨_, _, 3, 2, hs, rfl, rfl⟩ rfl (by kernel_rfl) (by kernel_rfl) (by kernel_rfl) ?_
              refine HW.one (fuel := 1) 11 rfl (by kernel_rfl) ?_
              refine RW.storeAll T hs 0 rfl rfl rfl rfl rfl rfl rfl rfl ?_
              intro w912 hs
              refine RW.nil ?_
              refine heldQ_normal ⟨_, _, 3, 2, hs, rfl, rfl⟩ ?_
              refine HW.takeR (fuel := 0) 12 rfl (fun _ _ ka kb _ hs hka hkb => Y.assign rfl) ⟨_, _, 3, 2, hs, rfl, rfl⟩ rfl (by kernel_rfl) (by kernel_rfl) (by kernel_rfl) ?_
              refine HW.done (by kernel_rfl) ?_
              refine calmQ_normal ?_
              exact joinQ_meet (b9, _, h49) ⟨rfl, rfl, rfl, rfl, rfl, rfl, rfl, trivial⟩ ⟨hA, hq49, hp', hq', hT, hs⟩
          · (refine RW.allocN T hs rfl rfl rfl rfl ?_; intro b9 w9 hs)
            refine RW.nil ?_
            refine heldQ_normal ⟨_, _, 3, 2, hs, rfl, rfl⟩ ?_
            refine HW.one (fuel := 6) 5 rfl (by kernel_rfl) ?_
            (refine RW.call T hs rfl rfl rfl (origin27_con one _ _) ?_; intro v h48 w48 hle48 hp48 hs)
            subst hp48
            have hp' := PlainAt.mono (k + 2) _ _ _ _ hle48 hp'
            have hq' := PlainAt.mono (k + 2) _ _ _ _ hle48 hq'
            have hT := hT.mono hle48
            have hA := ArrAt.mono (k + 2) _ _ _ _ hle48 hA
            have hq44 := PlainAt.mono (k + 2) _ _ _ _ hle48 hq44
            have hq46 := PlainAt.mono (k + 2) _ _ _ _ hle48 hq46
            refine RW.nil ?_
            refine heldQ_normal ⟨_, _, 3, 2, hs, rfl, rfl⟩ ?_
            refine HW.one (fuel := 5) 6 rfl (by kernel_rfl) ?_
            (refine RW.call T hs rfl rfl rfl (ref27IndexOf_con (k + 1) _ _ (tidy (k + 2) p) (tidy (k + 2) q) (orgN one) _ _ hq44 hq46 tp tq (orgN_rng one) hlp hlq h1) ?_; intro v h49 w49 hle49 hp49 hs)
            obtain ⟨cs49, rfl, hq49⟩ := hp49
            rw [hNn] at hq49
            have hq49 : PlainAt (k + 2) h49 cs49 (nmSP (PlainD.shape (α := PD (k + 1)) q) Nn : PlainD (PD (k + 1))) := hq49
            obtain ⟨s49, it49, rfl, ⟨adS49, cpS49, rfl, _⟩, ⟨adI49, cpI49, xsI49, rfl, _, _⟩⟩ := id hq49
            have hp' := PlainAt.mono (k + 2) _ _ _ _ hle49 hp'
            have hq' := PlainAt.mono (k + 2) _ _ _ _ hle49 hq'
            have hT := hT.mono hle49
            have hA := ArrAt.mono (k + 2) _ _ _ _ hle49 hA
            refine RW.nil ?_
            refine heldQ_normal ⟨_, _, 3, 2, hs, rfl, rfl⟩ ?_
            refine HW.takeR (fuel := 4) 7 rfl (fun _ _ ka kb _ hs hka hkb => Y.move rfl) ⟨_, _, 3, 2, hs, rfl, rfl⟩ rfl (by kernel_rfl) (by kernel_rfl) (by kernel_rfl) ?_
            refine HW.takeR (fuel := 3) 8 rfl (fun _ _ ka kb _ hs hka hkb => Y.extract rfl rfl) ⟨_, _, 3, 2, hs, rfl, rfl⟩ rfl (by kernel_rfl) (by kernel_rfl) (by kernel_rfl) ?_
            refine HW.takeR (fuel := 2) 9 rfl (fun _ _ ka kb _ hs hka hkb => Y.extract rfl rfl) ⟨_, _, 3, 2, hs, rfl, rfl⟩ rfl (by kernel_rfl) (by kernel_rfl) (by kernel_rfl) ?_
            refine HW.one (fuel := 1) 11 rfl (by kernel_rfl) ?_
            refine RW.storeAll T hs 0 rfl rfl rfl rfl rfl rfl rfl rfl ?_
            intro w912 hs
            refine RW.nil ?_
            refine heldQ_normal ⟨_, _, 3, 2, hs, rfl, rfl⟩ ?_
            refine HW.takeR (fuel := 0) 12 rfl (fun _ _ ka kb _ hs hka hkb => Y.assign rfl) ⟨_, _, 3, 2, hs, rfl, rfl⟩ rfl (by kernel_rfl) (by kernel_rfl) (by kernel_rfl) ?_
            refine HW.done (by kernel_rfl) ?_
            refine calmQ_normal ?_
            exact joinQ_meet (b9, _, h49) ⟨rfl, rfl, rfl, rfl, rfl, rfl, rfl, trivial⟩ ⟨hA, hq49, hp', hq', hT, hs⟩
        · (refine RW.allocN T hs rfl rfl rfl rfl ?_; intro b9 w9 hs)
          refine RW.nil ?_
          refine heldQ_normal ⟨_, _, 3, 2, hs, rfl, rfl⟩ ?_
          refine HW.one (fuel := 7) 3 rfl (by kernel_rfl) ?_
          (refine RW.call T hs rfl rfl rfl (refTidyP_con (k + 2) 40 _ q _ _ hq' hcq) ?_; intro v h46 w46 hle46 hp46 hs)
          obtain ⟨cs46, rfl, hq46⟩ := hp46
          have hp' := PlainAt.mono (k + 2) _ _ _ _ hle46 hp'
          have hq' := PlainAt.mono (k + 2) _ _ _ _ hle46 hq'
          have hT := hT.mono hle46
          have hA := ArrAt.mono (k + 2) _ _ _ _ hle46 hA
          have hq44 := PlainAt.mono (k + 2) _ _ _ _ hle46 hq44
          refine RW.nil ?_
          refine heldQ_normal ⟨_, _, 3, 2, hs, rfl, rfl⟩ ?_
          refine HW.one (fuel := 6) 5 rfl (by kernel_rfl) ?_
          (refine RW.call T hs rfl rfl rfl (origin27_con one _ _) ?_; intro v h48 w48 hle48 hp48 hs)
          subst hp48
          have hp' := PlainAt.mono (k + 2) _ _ _ _ hle48 hp'
          have hq' := PlainAt.mono (k + 2) _ _ _ _ hle48 hq'
          have hT := hT.mono hle48
          have hA := ArrAt.mono (k + 2) _ _ _ _ hle48 hA
          have hq44 := PlainAt.mono (k + 2) _ _ _ _ hle48 hq44
          have hq46 := PlainAt.mono (k + 2) _ _ _ _ hle48 hq46
          refine RW.nil ?_
          refine heldQ_normal ⟨_, _, 3, 2, hs, rfl, rfl⟩ ?_
          refine HW.one (fuel := 5) 6 rfl (by kernel_rfl) ?_
          (refine RW.call T hs rfl rfl rfl (ref27IndexOf_con (k + 1) _ _ (tidy (k + 2) p) (tidy (k + 2) q) (orgN one) _ _ hq44 hq46 tp tq (orgN_rng one) hlp hlq h1) ?_; intro v h49 w49 hle49 hp49 hs)
          obtain ⟨cs49, rfl, hq49⟩ := hp49
          rw [hNn] at hq49
          have hq49 : PlainAt (k + 2) h49 cs49 (nmSP (PlainD.shape (α := PD (k + 1)) q) Nn : PlainD (PD (k + 1))) := hq49
          obtain ⟨s49, it49, rfl, ⟨adS49, cpS49, rfl, _⟩, ⟨adI49, cpI49, xsI49, rfl, _, _⟩⟩ := id hq49
          have hp' := PlainAt.mono (k + 2) _ _ _ _ hle49 hp'
          have hq' := PlainAt.mono (k + 2) _ _ _ _ hle49 hq'
          have hT := hT.mono hle49
          have hA := ArrAt.mono (k + 2) _ _ _ _ hle49 hA
          refine RW.nil ?_
          refine heldQ_normal ⟨_, _, 3, 2, hs, rfl, rfl⟩ ?_
          refine HW.takeR (fuel := 4) 7 rfl (fun _ _ ka kb _ hs hka hkb => Y.move rfl) ⟨_, _, 3, 2, hs, rfl, rfl⟩ rfl (by kernel_rfl) (by kernel_rfl) (by kernel_rfl) ?_
          refine HW.takeR (fuel := 3) 8 rfl (fun _ _ ka kb _ hs hka hkb => Y.extract rfl rfl) ⟨_, _, 3, 2, hs, rfl, rfl⟩ rfl (by kernel_rfl) (by kernel_rfl) (by kernel_rfl) ?_
          refine HW.takeR (fuel := 2) 9 rfl (fun _ _ ka kb _ hs hka hkb => Y.extract rfl rfl) ⟨_, _, 3, 2, hs, rfl, rfl⟩ rfl (by kernel_rfl) (by kernel_rfl) (by kernel_rfl) ?_
          refine HW.one (fuel := 1) 11 rfl (by kernel_rfl) ?_
          refine RW.storeAll T hs 0 rfl rfl rfl rfl rfl rfl rfl rfl ?_
          intro w912 hs
          refine RW.nil ?_
          refine heldQ_normal ⟨_, _, 3, 2, hs, rfl, rfl⟩ ?_
          refine HW.takeR (fuel := 0) 12 rfl (fun _ _ ka kb _ hs hka hkb => Y.assign rfl) ⟨_, _, 3, 2, hs, rfl, rfl⟩ rfl (by kernel_rfl) (by kernel_rfl) (by kernel_rfl) ?_
          refine HW.done (by kernel_rfl) ?_
          refine calmQ_normal ?_
          exact joinQ_meet (b9, _, h49) ⟨rfl, rfl, rfl, rfl, rfl, rfl, rfl, trivial⟩ ⟨hA, hq49, hp', hq', hT, hs⟩
      · (refine RW.allocN T hs rfl rfl rfl rfl ?_; intro b9 w9 hs)
        refine RW.nil ?_
        refine heldQ_normal ⟨_, _, 3, 2, hs, rfl, rfl⟩ ?_
        refine HW.one (fuel := 8) 1 rfl (by kernel_rfl) ?_
        (refine RW.call T hs rfl rfl rfl (refTidyP_con (k + 2) 40 _ p _ _ hp' hcp) ?_; intro v h44 w44 hle44 hp44 hs)
        obtain ⟨cs44, rfl, hq44⟩ := hp44
        have hp' := PlainAt.mono (k + 2) _ _ _ _ hle44 hp'
        have hq' := PlainAt.mono (k + 2) _ _ _ _ hle44 hq'
        have hT := hT.mono hle44
        have hA := ArrAt.mono (k + 2) _ _ _ _ hle44 hA
        refine RW.nil ?_
        refine heldQ_normal ⟨_, _, 3, 2, hs, rfl, rfl⟩ ?_
        refine HW.one (fuel := 7) 3 rfl (by kernel_rfl) ?_
        (refine RW.call T hs rfl rfl rfl (refTidyP_con (k + 2) 40 _ q _ _ hq' hcq) ?_; intro v h46 w46 hle46 hp46 hs)
        obtain ⟨cs46, rfl, hq46⟩ := hp46
        have hp' := PlainAt.mono (k + 2) _ _ _ _ hle46 hp'
        have hq' := PlainAt.mono (k + 2) _ _ _ _ hle46 hq'
        have hT := hT.mono hle46
        have hA := ArrAt.mono (k + 2) _ _ _ _ hle46 hA
        have hq44 := PlainAt.mono (k + 2) _ _ _ _ hle46 hq44
        refine RW.nil ?_
        refine heldQ_normal ⟨_, _, 3, 2, hs, rfl, rfl⟩ ?_
        refine HW.one (fuel := 6) 5 rfl (by kernel_rfl) ?_
        (refine RW.call T hs rfl rfl rfl (origin27_con one _ _) ?_; intro v h48 w48 hle48 hp48 hs)
        subst hp48
        have hp' := PlainAt.mono (k + 2) _ _ _ _ hle48 hp'
        have hq' := PlainAt.mono (k + 2) _ _ _ _ hle48 hq'
        have hT := hT.mono hle48
        have hA := ArrAt.mono (k + 2) _ _ _ _ hle48 hA
        have hq44 := PlainAt.mono (k + 2) _ _ _ _ hle48 hq44
        have hq46 := PlainAt.mono (k + 2) _ _ _ _ hle48 hq46
        refine RW.nil ?_
        refine heldQ_normal ⟨_, _, 3, 2, hs, rfl, rfl⟩ ?_
        refine HW.one (fuel := 5) 6 rfl (by kernel_rfl) ?_
        (refine RW.call T hs rfl rfl rfl (ref27IndexOf_con (k + 1) _ _ (tidy (k + 2) p) (tidy (k + 2) q) (orgN one) _ _ hq44 hq46 tp tq (orgN_rng one) hlp hlq h1) ?_; intro v h49 w49 hle49 hp49 hs)
        obtain ⟨cs49, rfl, hq49⟩ := hp49
        rw [hNn] at hq49
        have hq49 : PlainAt (k + 2) h49 cs49 (nmSP (PlainD.shape (α := PD (k + 1)) q) Nn : PlainD (PD (k + 1))) := hq49
        obtain ⟨s49, it49, rfl, ⟨adS49, cpS49, rfl, _⟩, ⟨adI49, cpI49, xsI49, rfl, _, _⟩⟩ := id hq49
        have hp' := PlainAt.mono (k + 2) _ _ _ _ hle49 hp'
        have hq' := PlainAt.mono (k + 2) _ _ _ _ hle49 hq'
        have hT := hT.mono hle49
        have hA := ArrAt.mono (k + 2) _ _ _ _ hle49 hA
        refine RW.nil ?_
        refine heldQ_normal ⟨_, _, 3, 2, hs, rfl, rfl⟩ ?_
        refine HW.takeR (fuel := 4) 7 rfl (fun _ _ ka kb _ hs hka hkb => Y.move rfl) ⟨_, _, 3, 2, hs, rfl, rfl⟩ rfl (by kernel_rfl) (by kernel_rfl) (by kernel_rfl) ?_
        refine HW.takeR (fuel := 3) 8 rfl (fun _ _ ka kb _ hs hka hkb => Y.extract rfl rfl) ⟨_, _, 3, 2, hs, rfl, rfl⟩ rfl (by kernel_rfl) (by kernel_rfl) (by kernel_rfl) ?_
        refine HW.takeR (fuel := 2) 9 rfl (fun _ _ ka kb _ hs hka hkb => Y.extract rfl rfl) ⟨_, _, 3, 2, hs, rfl, rfl⟩ rfl (by kernel_rfl) (by kernel_rfl) (by kernel_rfl) ?_
        refine HW.one (fuel := 1) 11 rfl (by kernel_rfl) ?_
        refine RW.storeAll T hs 0 rfl rfl rfl rfl rfl rfl rfl rfl ?_
        intro w912 hs
        refine RW.nil ?_
        refine heldQ_normal ⟨_, _, 3, 2, hs, rfl, rfl⟩ ?_
        refine HW.takeR (fuel := 0) 12 rfl (fun _ _ ka kb _ hs hka hkb => Y.assign rfl) ⟨_, _, 3, 2, hs, rfl, rfl⟩ rfl (by kernel_rfl) (by kernel_rfl) (by kernel_rfl) ?_
        refine HW.done (by kernel_rfl) ?_
        refine calmQ_normal ?_
        exact joinQ_meet (b9, _, h49) ⟨rfl, rfl, rfl, rfl, rfl, rfl, rfl, trivial⟩ ⟨hA, hq49, hp', hq', hT, hs⟩
    rintro ⟨b9, cs49, h49⟩ w49 ⟨hA, hP, hp', hq', hT, hs⟩
    dsimp only at hA hP hp' hq' hT hs ⊢
    obtain ⟨s49, it49, rfl, ⟨adS49, cpS49, rfl, _⟩, ⟨adI49, cpI49, xsI49, rfl, _, _⟩⟩ := id hP
    refine Zerun ?_
    refine CW.regionO T hs ?_
    intro w50 hs
    refine HW.takeS (fuel := 21) 0 rfl (fun _ _ hs => Y.loadRowN T hs 1 rfl rfl rfl rfl rfl rfl rfl) hs rfl (by kernel_rfl) (by kernel_rfl) (by kernel_rfl) ?_
    refine HW.takeS (fuel := 20) 1 rfl (fun _ _ hs => Y.move rfl) hs rfl (by kernel_rfl) (by kernel_rfl) (by kernel_rfl) ?_
    refine HW.takeS (fuel := 19) 2 rfl (fun _ _ hs => Y.loadRowN T hs 0 rfl rfl rfl rfl rfl rfl rfl) hs rfl (by kernel_rfl) (by kernel_rfl) (by kernel_rfl) ?_
    refine HW.takeS (fuel := 18) 3 rfl (fun _ _ hs => Y.move rfl) hs rfl (by kernel_rfl) (by kernel_rfl) (by kernel_rfl) ?_
    refine HW.one (fuel := 17) 4 rfl (by kernel_rfl) ?_
    (refine RW.call T hs rfl rfl rfl (shows27_con (k + 1) _ _ (nmSA (PlainD.shape (α := PD (k + 1)) q) Nn : ArrD (AD (k + 1))) (nmSP (PlainD.shape (α := PD (k + 1)) q) Nn : PlainD (PD (k + 1))) _ _ hA hP (nmS_good (k + 1) (PlainD.shape (α := PD (k + 1)) q) Nn 40 (by omega) hpN) (nmS_plain (k + 1) (PlainD.shape (α := PD (k + 1)) q) Nn) (nmS_tdy (k + 1) (PlainD.shape (α := PD (k + 1)) q) Nn htN)) ?_; intro v h56 w56 hle56 hp56 hs)
    subst hp56
    have hp' := PlainAt.mono (k + 2) _ _ _ _ hle56 hp'
    have hq' := PlainAt.mono (k + 2) _ _ _ _ hle56 hq'
    have hT := hT.mono hle56
    refine RW.nil ?_
    refine heldQ_normal ⟨_, hs⟩ ?_
    refine HW.takeS (fuel := 16) 5 rfl (fun _ _ hs => Y.move rfl) hs rfl (by kernel_rfl) (by kernel_rfl) (by kernel_rfl) ?_
    refine HW.takeSY (fuel := 15) 6 rfl rfl rfl (fun _ _ hs => Y.loadRowN T hs 3 rfl rfl rfl rfl rfl rfl rfl) hs rfl (by kernel_rfl) (by kernel_rfl) (by kernel_rfl) ?_
    refine HW.takeSY (fuel := 14) 8 rfl rfl rfl (fun _ _ hs => Y.loadRowN T hs 2 rfl rfl rfl rfl rfl rfl rfl) hs rfl (by kernel_rfl) (by kernel_rfl) (by kernel_rfl) ?_
    refine HW.takeSY (fuel := 13) 11 rfl rfl rfl (fun _ _ hs => Y.loadRowN T hs 3 rfl rfl rfl rfl rfl rfl rfl) hs rfl (by kernel_rfl) (by kernel_rfl) (by kernel_rfl) ?_
    refine HW.takeSY (fuel := 12) 13 rfl rfl rfl (fun _ _ hs => Y.loadRowN T hs 2 rfl rfl rfl rfl rfl rfl rfl) hs rfl (by kernel_rfl) (by kernel_rfl) (by kernel_rfl) ?_
    refine HW.one (fuel := 11) 7 rfl (by kernel_rfl) ?_
    refine RW.guardYes rfl rfl ?_
    (refine RW.call T hs rfl rfl rfl (of07_con (k + 2) _ p _ _ hp' hcp) ?_; intro v h59 w59 hle59 hp59 hs)
    obtain ⟨cs59, rfl, _, _, hn59⟩ := hp59
    have hp' := PlainAt.mono (k + 2) _ _ _ _ hle59 hp'
    have hq' := PlainAt.mono (k + 2) _ _ _ _ hle59 hq'
    have hT := hT.mono hle59
    refine RW.nil ?_
    refine heldQ_normal ⟨_, hs⟩ ?_
    refine HW.one (fuel := 10) 9 rfl (by kernel_rfl) ?_
    refine RW.guardYes rfl rfl ?_
    (refine RW.call T hs rfl rfl rfl (of07_con (k + 2) _ q _ _ hq' hcq) ?_; intro v h61 w61 hle61 hp61 hs)
    obtain ⟨cs61, rfl, _, _, hn61⟩ := hp61
    have hp' := PlainAt.mono (k + 2) _ _ _ _ hle61 hp'
    have hq' := PlainAt.mono (k + 2) _ _ _ _ hle61 hq'
    have hT := hT.mono hle61
    have hn59 := ArrAt.mono (k + 2) _ _ _ _ hle61 hn59
    refine RW.nil ?_
    refine heldQ_normal ⟨_, hs⟩ ?_
    refine HW.one (fuel := 9) 10 rfl (by kernel_rfl) ?_
    refine RW.guardYes rfl rfl ?_
    (refine RW.call T hs rfl rfl rfl (baseMember_con (k + 1) _ _ (arr (k + 2) p) (arr (k + 2) q) _ _ hn59 hn61 hsmp hsmq) ?_; intro v h62 w62 hle62 hp62 hs)
    obtain ⟨cs62, rfl, ha62⟩ := hp62
    rw [hshp.he, hshq.he, hfq.1, hMn] at ha62
    have ha62 : ArrAt (k + 2) h62 cs62 (nmSA (PlainD.shape (α := PD (k + 1)) p) Mn : ArrD (AD (k + 1))) := ha62
    have hp' := PlainAt.mono (k + 2) _ _ _ _ hle62 hp'
    have hq' := PlainAt.mono (k + 2) _ _ _ _ hle62 hq'
    have hT := hT.mono hle62
    refine RW.nil ?_
    refine heldQ_normal ⟨_, hs⟩ ?_
    refine HW.one (fuel := 8) 12 rfl (by kernel_rfl) ?_
    refine RW.guardYes rfl rfl ?_
    (refine RW.call T hs rfl rfl rfl (refTidyP_con (k + 2) 40 _ p _ _ hp' hcp) ?_; intro v h64 w64 hle64 hp64 hs)
    obtain ⟨cs64, rfl, hq64⟩ := hp64
    have hp' := PlainAt.mono (k + 2) _ _ _ _ hle64 hp'
    have hq' := PlainAt.mono (k + 2) _ _ _ _ hle64 hq'
    have hT := hT.mono hle64
    have ha62 := ArrAt.mono (k + 2) _ _ _ _ hle64 ha62
    refine RW.nil ?_
    refine heldQ_normal ⟨_, hs⟩ ?_
    refine HW.one (fuel := 7) 14 rfl (by kernel_rfl) ?_
    refine RW.guardYes rfl rfl ?_
    (refine RW.call T hs rfl rfl rfl (refTidyP_con (k + 2) 40 _ q _ _ hq' hcq) ?_; intro v h66 w66 hle66 hp66 hs)
    obtain ⟨cs66, rfl, hq66⟩ := hp66
    have hp' := PlainAt.mono (k + 2) _ _ _ _ hle66 hp'
    have hq' := PlainAt.mono (k + 2) _ _ _ _ hle66 hq'
    have hT := hT.mono hle66
    have ha62 := ArrAt.mono (k + 2) _ _ _ _ hle66 ha62
    have hq64 := PlainAt.mono (k + 2) _ _ _ _ hle66 hq64
    refine RW.nil ?_
    refine heldQ_normal ⟨_, hs⟩ ?_
    refine HW.one (fuel := 6) 15 rfl (by kernel_rfl) ?_
    refine RW.guardYes rfl rfl ?_
    (refine RW.call T hs rfl rfl rfl (ref27Member_con (k + 1) _ _ (tidy (k + 2) p) (tidy (k + 2) q) _ _ hq64 hq66 tq tp hlq hlp) ?_; intro v h67 w67 hle67 hp67 hs)
    obtain ⟨cs67, rfl, hq67⟩ := hp67
    rw [hMn] at hq67
    have hq67 : PlainAt (k + 2) h67 cs67 (nmSP (PlainD.shape (α := PD (k + 1)) p) Mn : PlainD (PD (k + 1))) := hq67
    have hp' := PlainAt.mono (k + 2) _ _ _ _ hle67 hp'
    have hq' := PlainAt.mono (k + 2) _ _ _ _ hle67 hq'
    have hT := hT.mono hle67
    have ha62 := ArrAt.mono (k + 2) _ _ _ _ hle67 ha62
    refine RW.nil ?_
    refine heldQ_normal ⟨_, hs⟩ ?_
    refine HW.one (fuel := 5) 16 rfl (by kernel_rfl) ?_
    refine RW.guardYes rfl rfl ?_
    (refine RW.call T hs rfl rfl rfl (shows27_con (k + 1) _ _ (nmSA (PlainD.shape (α := PD (k + 1)) p) Mn : ArrD (AD (k + 1))) (nmSP (PlainD.shape (α := PD (k + 1)) p) Mn : PlainD (PD (k + 1))) _ _ ha62 hq67 (nmS_good (k + 1) (PlainD.shape (α := PD (k + 1)) p) Mn 40 (by omega) hpM) (nmS_plain (k + 1) (PlainD.shape (α := PD (k + 1)) p) Mn) (nmS_tdy (k + 1) (PlainD.shape (α := PD (k + 1)) p) Mn htM)) ?_; intro v h68 w68 hle68 hp68 hs)
    subst hp68
    have hp' := PlainAt.mono (k + 2) _ _ _ _ hle68 hp'
    have hq' := PlainAt.mono (k + 2) _ _ _ _ hle68 hq'
    have hT := hT.mono hle68
    refine RW.nil ?_
    refine heldQ_normal ⟨_, hs⟩ ?_
    refine HW.takeS (fuel := 4) 17 rfl (fun _ _ hs => Y.pickT rfl rfl) hs rfl (by kernel_rfl) (by kernel_rfl) (by kernel_rfl) ?_
    refine HW.takeS (fuel := 3) 18 rfl (fun _ _ hs => Y.move rfl) hs rfl (by kernel_rfl) (by kernel_rfl) (by kernel_rfl) ?_
    refine HW.one (fuel := 2) 19 rfl (by kernel_rfl) ?_
    refine RW.guardYes rfl rfl ?_
    (refine RW.call T hs rfl rfl rfl (awake27_con _ _ hT) ?_; intro v h71 w71 hle71 hp71 hs)
    subst hp71
    have hp' := PlainAt.mono (k + 2) _ _ _ _ hle71 hp'
    have hq' := PlainAt.mono (k + 2) _ _ _ _ hle71 hq'
    refine RW.nil ?_
    refine heldQ_normal ⟨_, hs⟩ ?_
    refine HW.takeS (fuel := 1) 20 rfl (fun _ _ hs => Y.pickT rfl rfl) hs rfl (by kernel_rfl) (by kernel_rfl) (by kernel_rfl) ?_
    refine HW.takeS (fuel := 0) 21 rfl (fun _ _ hs => Y.assign rfl) hs rfl (by kernel_rfl) (by kernel_rfl) (by kernel_rfl) ?_
    refine HW.done (by kernel_rfl) ?_
    refine calmQ_normal ?_
    refine Zerun ?_
    exact retQ_ret [_] h71 ⟨rfl, trivial⟩ hs.dropAll rfl
  · refine CW.meet (fun r : Nat × List Value × GHeap => [(2, .bool one), (3, .pointer (some ⟨b1, 0, none⟩)), (4, .pointer (some ⟨b2, 0, none⟩)), (7, .pointer (some ⟨r.1, 0, none⟩)), (8, .int .i64 22)]) (fun r w' => ArrAt (k + 2) r.2.2 r.2.1 (⟨[], VecD.none⟩ : ArrD (AD (k + 1))) ∧ PlainAt (k + 2) r.2.2 [.slice ad (PlainD.shape (α := PD (k + 1)) p).length cp, .slice ad2 (PlainD.items (α := PD (k + 1)) p).length cp2, .int .i64 (PlainD.fill (α := PD (k + 1)) p)] p ∧ PlainAt (k + 2) r.2.2 [.slice ad3 (PlainD.shape (α := PD (k + 1)) q).length cp3, .slice ad4 (PlainD.items (α := PD (k + 1)) q).length cp4, .int .i64 (PlainD.fill (α := PD (k + 1)) q)] q ∧ TzTab r.2.2 ∧ Sees w h r.2.2 [⟨some ⟨r.1, 0, none⟩, 1, 1, 40, 9, r.2.1⟩, ⟨some ⟨b2, 0, none⟩, 1, 1, 25, 3, [.slice ad3 (PlainD.shape (α := PD (k + 1)) q).length cp3, .slice ad4 (PlainD.items (α := PD (k + 1)) q).length cp4, .int .i64 (PlainD.fill (α := PD (k + 1)) q)]⟩, ⟨some ⟨b1, 0, none⟩, 1, 1, 25, 3, [.slice ad (PlainD.shape (α := PD (k + 1)) p).length cp, .slice ad2 (PlainD.items (α := PD (k + 1)) p).length cp2, .int .i64 (PlainD.fill (α := PD (k + 1)) p)]⟩] w') ?_ ?_
    · refine CW.regionR T 1 0 hs rfl rfl ?_
      intro w30 hs
      refine HW.takeR (fuel := 12) 0 rfl (fun _ _ ka kb _ hs hka hkb => Y.loadRowN T hs ka hka rfl rfl rfl rfl rfl rfl) ⟨_, _, 1, 0, hs, rfl, rfl⟩ rfl (by kernel_rfl) (by kernel_rfl) (by kernel_rfl) ?_
      refine HW.takeR (fuel := 11) 2 rfl (fun _ _ ka kb _ hs hka hkb => Y.loadRowN T hs kb hkb rfl rfl rfl rfl rfl rfl) ⟨_, _, 1, 0, hs, rfl, rfl⟩ rfl (by kernel_rfl) (by kernel_rfl) (by kernel_rfl) ?_
      refine HW.takeR (fuel := 10) 4 rfl (fun _ _ ka kb _ hs hka hkb => Y.move rfl) ⟨_, _, 1, 0, hs, rfl, rfl⟩ rfl (by kernel_rfl) (by kernel_rfl) (by kernel_rfl) ?_
      refine HW.two (fuel := 9) 1 10 rfl rfl (by kernel_rfl) ?_ ?_
      · (refine RW.call T hs rfl rfl rfl (of07_con (k + 2) _ p _ _ hp' hcp) ?_; intro v h34 w34 hle34 hp34 hs)
        obtain ⟨cs34, rfl, _, _, hn34⟩ := hp34
        have hp' := PlainAt.mono (k + 2) _ _ _ _ hle34 hp'
        have hq' := PlainAt.mono (k + 2) _ _ _ _ hle34 hq'
        have hT := hT.mono hle34
        refine RW.nil ?_
        refine heldQ_normal ⟨_, _, 1, 0, hs, rfl, rfl⟩ ?_
        refine HW.two (fuel := 8) 3 10 rfl rfl (by kernel_rfl) ?_ ?_
        · (refine RW.call T hs rfl rfl rfl (of07_con (k + 2) _ q _ _ hq' hcq) ?_; intro v h36 w36 hle36 hp36 hs)
          obtain ⟨cs36, rfl, _, _, hn36⟩ := hp36
          have hp' := PlainAt.mono (k + 2) _ _ _ _ hle36 hp'
          have hq' := PlainAt.mono (k + 2) _ _ _ _ hle36 hq'
          have hT := hT.mono hle36
          have hn34 := ArrAt.mono (k + 2) _ _ _ _ hle36 hn34
          refine RW.nil ?_
          refine heldQ_normal ⟨_, _, 1, 0, hs, rfl, rfl⟩ ?_
          refine HW.two (fuel := 7) 5 10 rfl rfl (by kernel_rfl) ?_ ?_
          · (refine RW.call T hs rfl rfl rfl (origin27_con one _ _) ?_; intro v h38 w38 hle38 hp38 hs)
            subst hp38
            have hp' := PlainAt.mono (k + 2) _ _ _ _ hle38 hp'
            have hq' := PlainAt.mono (k + 2) _ _ _ _ hle38 hq'
            have hT := hT.mono hle38
            have hn34 := ArrAt.mono (k + 2) _ _ _ _ hle38 hn34
            have hn36 := ArrAt.mono (k + 2) _ _ _ _ hle38 hn36
            refine RW.nil ?_
            refine heldQ_normal ⟨_, _, 1, 0, hs, rfl, rfl⟩ ?_
            refine HW.two (fuel := 6) 6 10 rfl rfl (by kernel_rfl) ?_ ?_
            · (refine RW.call T hs rfl rfl rfl (baseIndexOfE_con (k + 1) _ _ (arr (k + 2) p) (arr (k + 2) q) (orgN one) _ _ hn34 hn36 hsmp.1 h1) ?_; intro v h39 w39 hle39 hp39 hs)
              obtain ⟨cs39, rfl, ha39⟩ := hp39
              have ha39 : ArrAt (k + 2) h39 cs39 (⟨[], VecD.none⟩ : ArrD (AD (k + 1))) := ha39
              obtain ⟨_, vc39, rfl, ⟨ad39, cap39, rfl, _⟩, hv39⟩ := id ha39
              obtain ⟨wv39, nv39, sm39, il39, fl39, ch39, bx39, ⟨rfl, hoc39⟩, -⟩ := hv39
              have hall39 : (Value.oneCell' (.slice ad39 (ArrD.shape (⟨[], VecD.none⟩ : ArrD (AD (k + 1)))).length cap39) && (vecCells (ArrD.vec (⟨[], VecD.none⟩ : ArrD (AD (k + 1)))).kind wv39 nv39 sm39 il39 fl39 ch39 bx39).all Value.oneCell') = true := by rw [hoc39]; rfl
              have hp' := PlainAt.mono (k + 2) _ _ _ _ hle39 hp'
              have hq' := PlainAt.mono (k + 2) _ _ _ _ hle39 hq'
              have hT := hT.mono hle39
              refine RW.nil ?_
              refine heldQ_normal ⟨_, _, 1, 0, hs, rfl, rfl⟩ ?_
              refine HW.takeR (fuel := 5) 7 rfl (fun _ _ ka kb _ hs hka hkb => Y.move rfl) ⟨_, _, 1, 0, hs, rfl, rfl⟩ rfl (by kernel_rfl) (by kernel_rfl) (by kernel_rfl) ?_
              refine HW.takeR (fuel := 4) 8 rfl (fun _ _ ka kb _ hs hka hkb => Y.extract rfl rfl) ⟨_, _, 1, 0, hs, rfl, rfl⟩ rfl (by kernel_rfl) (by kernel_rfl) (by kernel_rfl) ?_
              refine HW.takeR (fuel := 3) 9 rfl (fun _ _ ka kb _ hs hka hkb => Y.extract rfl rfl) ⟨_, _, 1, 0, hs, rfl, rfl⟩ rfl (by kernel_rfl) (by kernel_rfl) (by kernel_rfl) ?_
              refine HW.one (fuel := 2) 10 rfl (by kernel_rfl) ?_
              (refine RW.allocN T hs rfl rfl rfl rfl ?_; intro b7 w7 hs)
              refine RW.nil ?_
              refine heldQ_normal ⟨_, _, 2, 1, hs, rfl, rfl⟩ ?_
              refine HW.one (fuel := 1) 11 rfl (by kernel_rfl) ?_
              refine RW.storeAll T hs 0 rfl rfl rfl rfl rfl rfl hall39 rfl ?_
              intro w911 hs
              refine RW.nil ?_
              refine heldQ_normal ⟨_, _, 2, 1, hs, rfl, rfl⟩ ?_
              refine HW.takeR (fuel := 0) 12 rfl (fun _ _ ka kb _ hs hka hkb => Y.assign rfl) ⟨_, _, 2, 1, hs, rfl, rfl⟩ rfl (by kernel_rfl) (by kernel_rfl) (by kernel_rfl) ?_
              refine HW.done (by kernel_rfl) ?_
              refine calmQ_normal ?_
              exact joinQ_meet (b7, _, h39) ⟨rfl, rfl, rfl, rfl, rfl, trivial⟩ ⟨ha39, hp', hq', hT, hs⟩
            · (refine RW.allocN T hs rfl rfl rfl rfl ?_; intro b7 w7 hs)
              refine RW.nil ?_
              refine heldQ_normal ⟨_, _, 2, 1, hs, rfl, rfl⟩ ?_
              refine HW.one (fuel := 5) 6 rfl (by kernel_rfl) ?_
              (refine RW.call T hs rfl rfl rfl (baseIndexOfE_con (k + 1) _ _ (arr (k + 2) p) (arr (k + 2) q) (orgN one) _ _ hn34 hn36 hsmp.1 h1) ?_; intro v h39 w39 hle39 hp39 hs)
              obtain ⟨cs39, rfl, ha39⟩ := hp39
              have ha39 : ArrAt (k + 2) h39 cs39 (⟨[], VecD.none⟩ : ArrD (AD (k + 1))) := ha39
              obtain ⟨_, vc39, rfl, ⟨ad39, cap39, rfl, _⟩, hv39⟩ := id ha39
              obtain ⟨wv39, nv39, sm39, il39, fl39, ch39, bx39, ⟨rfl, hoc39⟩, -⟩ := hv39
              have hall39 : (Value.oneCell' (.slice ad39 (ArrD.shape (⟨[], VecD.none⟩ : ArrD (AD (k + 1)))).length cap39) && (vecCells (ArrD.vec (⟨[], VecD.none⟩ : ArrD (AD (k + 1)))).kind wv39 nv39 sm39 il39 fl39 ch39 bx39).all Value.oneCell') = true := by rw [hoc39]; rfl
              have hp' := PlainAt.mono (k + 2) _ _ _ _ hle39 hp'
              have hq' := PlainAt.mono (k + 2) _ _ _ _ hle39 hq'
              have hT := hT.mono hle39
              refine RW.nil ?_
              refine heldQ_normal ⟨_, _, 2, 1, hs, rfl, rfl⟩ ?_
              refine HW.takeR (fuel := 4) 7 rfl (fun _ _ ka kb _ hs hka hkb => Y.move rfl) ⟨_, _, 2, 1, hs, rfl, rfl⟩ rfl (by kernel_rfl) (by kernel_rfl) (by kernel_rfl) ?_
              refine HW.takeR (fuel := 3) 8 rfl (fun _ _ ka kb _ hs hka hkb => Y.extract rfl rfl) ⟨_, _, 2, 1, hs, rfl, rfl⟩ rfl (by kernel_rfl) (by kernel_rfl) (by kernel_rfl) ?_
              refine HW.takeR (fuel := 2) 9 rfl (fun _ _ ka kb _ hs hka hkb => Y.extract rfl rfl) ⟨_, _, 2, 1, hs, rfl, rfl⟩ rfl (by kernel_rfl) (by kernel_rfl) (by kernel_rfl) ?_
              refine HW.one (fuel := 1) 11 rfl (by kernel_rfl) ?_
              refine RW.storeAll T hs 0 rfl rfl rfl rfl rfl rfl hall39 rfl ?_
              intro w911 hs
              refine RW.nil ?_
              refine heldQ_normal ⟨_, _, 2, 1, hs, rfl, rfl⟩ ?_
              refine HW.takeR (fuel := 0) 12 rfl (fun _ _ ka kb _ hs hka hkb => Y.assign rfl) ⟨_, _, 2, 1, hs, rfl, rfl⟩ rfl (by kernel_rfl) (by kernel_rfl) (by kernel_rfl) ?_
              refine HW.done (by kernel_rfl) ?_
              refine calmQ_normal ?_
              exact joinQ_meet (b7, _, h39) ⟨rfl, rfl, rfl, rfl, rfl, trivial⟩ ⟨ha39, hp', hq', hT, hs⟩
          · (refine RW.allocN T hs rfl rfl rfl rfl ?_; intro b7 w7 hs)
            refine RW.nil ?_
            refine heldQ_normal ⟨_, _, 2, 1, hs, rfl, rfl⟩ ?_
            refine HW.one (fuel := 6) 5 rfl (by kernel_rfl) ?_
            (refine RW.call T hs rfl rfl rfl (origin27_con one _ _) ?_; intro v h38 w38 hle38 hp38 hs)
            subst hp38
            have hp' := PlainAt.mono (k + 2) _ _ _ _ hle38 hp'
            have hq' := PlainAt.mono (k + 2) _ _ _ _ hle38 hq'
            have hT := hT.mono hle38
            have hn34 := ArrAt.mono (k + 2) _ _ _ _ hle38 hn34
            have hn36 := ArrAt.mono (k + 2) _ _ _ _ hle38 hn36
            refine RW.nil ?_
            refine heldQ_normal ⟨_, _, 2, 1, hs, rfl, rfl⟩ ?_
            refine HW.one (fuel := 5) 6 rfl (by kernel_rfl) ?_
            (refine RW.call T hs rfl rfl rfl (baseIndexOfE_con (k + 1) _ _ (arr (k + 2) p) (arr (k + 2) q) (orgN one) _ _ hn34 hn36 hsmp.1 h1) ?_; intro v h39 w39 hle39 hp39 hs)
            obtain ⟨cs39, rfl, ha39⟩ := hp39
            have ha39 : ArrAt (k + 2) h39 cs39 (⟨[], VecD.none⟩ : ArrD (AD (k + 1))) := ha39
            obtain ⟨_, vc39, rfl, ⟨ad39, cap39, rfl, _⟩, hv39⟩ := id ha39
            obtain ⟨wv39, nv39, sm39, il39, fl39, ch39, bx39, ⟨rfl, hoc39⟩, -⟩ := hv39
            have hall39 : (Value.oneCell' (.slice ad39 (ArrD.shape (⟨[], VecD.none⟩ : ArrD (AD (k + 1)))).length cap39) && (vecCells (ArrD.vec (⟨[], VecD.none⟩ : ArrD (AD (k + 1)))).kind wv39 nv39 sm39 il39 fl39 ch39 bx39).all Value.oneCell') = true := by rw [hoc39]; rfl
            have hp' := PlainAt.mono (k + 2) _ _ _ _ hle39 hp'
            have hq' := PlainAt.mono (k + 2) _ _ _ _ hle39 hq'
            have hT := hT.mono hle39
            refine RW.nil ?_
            refine heldQ_normal ⟨_, _, 2, 1, hs, rfl, rfl⟩ ?_
            refine HW.takeR (fuel := 4) 7 rfl (fun _ _ ka kb _ hs hka hkb => Y.move rfl) ⟨_, _, 2, 1, hs, rfl, rfl⟩ rfl (by kernel_rfl) (by kernel_rfl) (by kernel_rfl) ?_
            refine HW.takeR (fuel := 3) 8 rfl (fun _ _ ka kb _ hs hka hkb => Y.extract rfl rfl) ⟨_, _, 2, 1, hs, rfl, rfl⟩ rfl (by kernel_rfl) (by kernel_rfl) (by kernel_rfl) ?_
            refine HW.takeR (fuel := 2) 9 rfl (fun _ _ ka kb _ hs hka hkb => Y.extract rfl rfl) ⟨_, _, 2, 1, hs, rfl, rfl⟩ rfl (by kernel_rfl) (by kernel_rfl) (by kernel_rfl) ?_
            refine HW.one (fuel := 1) 11 rfl (by kernel_rfl) ?_
            refine RW.storeAll T hs 0 rfl rfl rfl rfl rfl rfl hall39 rfl ?_
            intro w911 hs
            refine RW.nil ?_
            refine heldQ_normal ⟨_, _, 2, 1, hs, rfl, rfl⟩ ?_
            refine HW.takeR (fuel := 0) 12 rfl (fun _ _ ka kb _ hs hka hkb => Y.assign rfl) ⟨_, _, 2, 1, hs, rfl, rfl⟩ rfl (by kernel_rfl) (by kernel_rfl) (by kernel_rfl) ?_
            refine HW.done (by kernel_rfl) ?_
            refine calmQ_normal ?_
            exact joinQ_meet (b7, _, h39) ⟨rfl, rfl, rfl, rfl, rfl, trivial⟩ ⟨ha39, hp', hq', hT, hs⟩
        · (refine RW.allocN T hs rfl rfl rfl rfl ?_; intro b7 w7 hs)
          refine RW.nil ?_
          refine heldQ_normal ⟨_, _, 2, 1, hs, rfl, rfl⟩ ?_
          refine HW.one (fuel := 7) 3 rfl (by kernel_rfl) ?_
          (refine RW.call T hs rfl rfl rfl (of07_con (k + 2) _ q _ _ hq' hcq) ?_; intro v h36 w36 hle36 hp36 hs)
          obtain ⟨cs36, rfl, _, _, hn36⟩ := hp36
          have hp' := PlainAt.mono (k + 2) _ _ _ _ hle36 hp'
          have hq' := PlainAt.mono (k + 2) _ _ _ _ hle36 hq'
          have hT := hT.mono hle36
          have hn34 := ArrAt.mono (k + 2) _ _ _ _ hle36 hn34
          refine RW.nil ?_
          refine heldQ_normal ⟨_, _, 2, 1, hs, rfl, rfl⟩ ?_
          refine HW.one (fuel := 6) 5 rfl (by kernel_rfl) ?_
          (refine RW.call T hs rfl rfl rfl (origin27_con one _ _) ?_; intro v h38 w38 hle38 hp38 hs)
          subst hp38
          have hp' := PlainAt.mono (k + 2) _ _ _ _ hle38 hp'
          have hq' := PlainAt.mono (k + 2) _ _ _ _ hle38 hq'
          have hT := hT.mono hle38
          have hn34 := ArrAt.mono (k + 2) _ _ _ _ hle38 hn34
          have hn36 := ArrAt.mono (k + 2) _ _ _ _ hle38 hn36
          refine RW.nil ?_
          refine heldQ_normal ⟨_, _, 2, 1, hs, rfl, rfl⟩ ?_
          refine HW.one (fuel := 5) 6 rfl (by kernel_rfl) ?_
          (refine RW.call T hs rfl rfl rfl (baseIndexOfE_con (k + 1) _ _ (arr (k + 2) p) (arr (k + 2) q) (orgN one) _ _ hn34 hn36 hsmp.1 h1) ?_; intro v h39 w39 hle39 hp39 hs)
          obtain ⟨cs39, rfl, ha39⟩ := hp39
          have ha39 : ArrAt (k + 2) h39 cs39 (⟨[], VecD.none⟩ : ArrD (AD (k + 1))) := ha39
          obtain ⟨_, vc39, rfl, ⟨ad39, cap39, rfl, _⟩, hv39⟩ := id ha39
          obtain ⟨wv39, nv39, sm39, il39, fl39, ch39, bx39, ⟨rfl, hoc39⟩, -⟩ := hv39
          have hall39 : (Value.oneCell' (.slice ad39 (ArrD.shape (⟨[], VecD.none⟩ : ArrD (AD (k + 1)))).length cap39) && (vecCells (ArrD.vec (⟨[], VecD.none⟩ : ArrD (AD (k + 1)))).kind wv39 nv39 sm39 il39 fl39 ch39 bx39).all Value.oneCell') = true := by rw [hoc39]; rfl
          have hp' := PlainAt.mono (k + 2) _ _ _ _ hle39 hp'
          have hq' := PlainAt.mono (k + 2) _ _ _ _ hle39 hq'
          have hT := hT.mono hle39
          refine RW.nil ?_
          refine heldQ_normal ⟨_, _, 2, 1, hs, rfl, rfl⟩ ?_
          refine HW.takeR (fuel := 4) 7 rfl (fun _ _ ka kb _ hs hka hkb => Y.move rfl) ⟨_, _, 2, 1, hs, rfl, rfl⟩ rfl (by kernel_rfl) (by kernel_rfl) (by kernel_rfl) ?_
          refine HW.takeR (fuel := 3) 8 rfl (fun _ _ ka kb _ hs hka hkb => Y.extract rfl rfl) ⟨_, _, 2, 1, hs, rfl, rfl⟩ rfl (by kernel_rfl) (by kernel_rfl) (by kernel_rfl) ?_
          refine HW.takeR (fuel := 2) 9 rfl (fun _ _ ka kb _ hs hka hkb => Y.extract rfl rfl) ⟨_, _, 2, 1, hs, rfl, rfl⟩ rfl (by kernel_rfl) (by kernel_rfl) (by kernel_rfl) ?_
          refine HW.one (fuel := 1) 11 rfl (by kernel_rfl) ?_
          refine RW.storeAll T hs 0 rfl rfl rfl rfl rfl rfl hall39 rfl ?_
          intro w911 hs
          refine RW.nil ?_
          refine heldQ_normal ⟨_, _, 2, 1, hs, rfl, rfl⟩ ?_
          refine HW.takeR (fuel := 0) 12 rfl (fun _ _ ka kb _ hs hka hkb => Y.assign rfl) ⟨_, _, 2, 1, hs, rfl, rfl⟩ rfl (by kernel_rfl) (by kernel_rfl) (by kernel_rfl) ?_
          refine HW.done (by kernel_rfl) ?_
          refine calmQ_normal ?_
          exact joinQ_meet (b7, _, h39) ⟨rfl, rfl, rfl, rfl, rfl, trivial⟩ ⟨ha39, hp', hq', hT, hs⟩
      · (refine RW.allocN T hs rfl rfl rfl rfl ?_; intro b7 w7 hs)
        refine RW.nil ?_
        refine heldQ_normal ⟨_, _, 2, 1, hs, rfl, rfl⟩ ?_
        refine HW.one (fuel := 8) 1 rfl (by kernel_rfl) ?_
        (refine RW.call T hs rfl rfl rfl (of07_con (k + 2) _ p _ _ hp' hcp) ?_; intro v h34 w34 hle34 hp34 hs)
        obtain ⟨cs34, rfl, _, _, hn34⟩ := hp34
        have hp' := PlainAt.mono (k + 2) _ _ _ _ hle34 hp'
        have hq' := PlainAt.mono (k + 2) _ _ _ _ hle34 hq'
        have hT := hT.mono hle34
        refine RW.nil ?_
        refine heldQ_normal ⟨_, _, 2, 1, hs, rfl, rfl⟩ ?_
        refine HW.one (fuel := 7) 3 rfl (by kernel_rfl) ?_
        (refine RW.call T hs rfl rfl rfl (of07_con (k + 2) _ q _ _ hq' hcq) ?_; intro v h36 w36 hle36 hp36 hs)
        obtain ⟨cs36, rfl, _, _, hn36⟩ := hp36
        have hp' := PlainAt.mono (k + 2) _ _ _ _ hle36 hp'
        have hq' := PlainAt.mono (k + 2) _ _ _ _ hle36 hq'
        have hT := hT.mono hle36
        have hn34 := ArrAt.mono (k + 2) _ _ _ _ hle36 hn34
        refine RW.nil ?_
        refine heldQ_normal ⟨_, _, 2, 1, hs, rfl, rfl⟩ ?_
        refine HW.one (fuel := 6) 5 rfl (by kernel_rfl) ?_
        (refine RW.call T hs rfl rfl rfl (origin27_con one _ _) ?_; intro v h38 w38 hle38 hp38 hs)
        subst hp38
        have hp' := PlainAt.mono (k + 2) _ _ _ _ hle38 hp'
        have hq' := PlainAt.mono (k + 2) _ _ _ _ hle38 hq'
        have hT := hT.mono hle38
        have hn34 := ArrAt.mono (k + 2) _ _ _ _ hle38 hn34
        have hn36 := ArrAt.mono (k + 2) _ _ _ _ hle38 hn36
        refine RW.nil ?_
        refine heldQ_normal ⟨_, _, 2, 1, hs, rfl, rfl⟩ ?_
        refine HW.one (fuel := 5) 6 rfl (by kernel_rfl) ?_
        (refine RW.call T hs rfl rfl rfl (baseIndexOfE_con (k + 1) _ _ (arr (k + 2) p) (arr (k + 2) q) (orgN one) _ _ hn34 hn36 hsmp.1 h1) ?_; intro v h39 w39 hle39 hp39 hs)
        obtain ⟨cs39, rfl, ha39⟩ := hp39
        have ha39 : ArrAt (k + 2) h39 cs39 (⟨[], VecD.none⟩ : ArrD (AD (k + 1))) := ha39
        obtain ⟨_, vc39, rfl, ⟨ad39, cap39, rfl, _⟩, hv39⟩ := id ha39
        obtain ⟨wv39, nv39, sm39, il39, fl39, ch39, bx39, ⟨rfl, hoc39⟩, -⟩ := hv39
        have hall39 : (Value.oneCell' (.slice ad39 (ArrD.shape (⟨[], VecD.none⟩ : ArrD (AD (k + 1)))).length cap39) && (vecCells (ArrD.vec (⟨[], VecD.none⟩ : ArrD (AD (k + 1)))).kind wv39 nv39 sm39 il39 fl39 ch39 bx39).all Value.oneCell') = true := by rw [hoc39]; rfl
        have hp' := PlainAt.mono (k + 2) _ _ _ _ hle39 hp'
        have hq' := PlainAt.mono (k + 2) _ _ _ _ hle39 hq'
        have hT := hT.mono hle39
        refine RW.nil ?_
        refine heldQ_normal ⟨_, _, 2, 1, hs, rfl, rfl⟩ ?_
        refine HW.takeR (fuel := 4) 7 rfl (fun _ _ ka kb _ hs hka hkb => Y.move rfl) ⟨_, _, 2, 1, hs, rfl, rfl⟩ rfl (by kernel_rfl) (by kernel_rfl) (by kernel_rfl) ?_
        refine HW.takeR (fuel := 3) 8 rfl (fun _ _ ka kb _ hs hka hkb => Y.extract rfl rfl) ⟨_, _, 2, 1, hs, rfl, rfl⟩ rfl (by kernel_rfl) (by kernel_rfl) (by kernel_rfl) ?_
        refine HW.takeR (fuel := 2) 9 rfl (fun _ _ ka kb _ hs hka hkb => Y.extract rfl rfl) ⟨_, _, 2, 1, hs, rfl, rfl⟩ rfl (by kernel_rfl) (by kernel_rfl) (by kernel_rfl) ?_
        refine HW.one (fuel := 1) 11 rfl (by kernel_rfl) ?_
        refine RW.storeAll T hs 0 rfl rfl rfl rfl rfl rfl hall39 rfl ?_
        intro w911 hs
        refine RW.nil ?_
        refine heldQ_normal ⟨_, _, 2, 1, hs, rfl, rfl⟩ ?_
        refine HW.takeR (fuel := 0) 12 rfl (fun _ _ ka kb _ hs hka hkb => Y.assign rfl) ⟨_, _, 2, 1, hs, rfl, rfl⟩ rfl (by kernel_rfl) (by kernel_rfl) (by kernel_rfl) ?_
        refine HW.done (by kernel_rfl) ?_
        refine calmQ_normal ?_
        exact joinQ_meet (b7, _, h39) ⟨rfl, rfl, rfl, rfl, rfl, trivial⟩ ⟨ha39, hp', hq', hT, hs⟩
    rintro ⟨b7, cs39, h39⟩ w39 ⟨hA, hp', hq', hT, hs⟩
    dsimp only at hA hp' hq' hT hs ⊢
    obtain ⟨_, vc39, rfl, ⟨ad39, cap39, rfl, _⟩, hv39⟩ := id hA
    obtain ⟨wv39, nv39, sm39, il39, fl39, ch39, bx39, ⟨rfl, hoc39⟩, -⟩ := hv39
    refine Zerun ?_
    refine CW.meet (fun r : Nat × List Value × GHeap => [(2, .bool one), (3, .pointer (some ⟨b1, 0, none⟩)), (4, .pointer (some ⟨b2, 0, none⟩)), (7, .pointer (some ⟨b7, 0, none⟩)), (8, .int .i64 22), (9, .pointer (some ⟨r.1, 0, none⟩)), (10, .int .i64 22)]) (fun r w' => ArrAt (k + 2) r.2.2 (.slice ad39 (ArrD.shape (⟨[], VecD.none⟩ : ArrD (AD (k + 1)))).length cap39 :: vecCells (ArrD.vec (⟨[], VecD.none⟩ : ArrD (AD (k + 1)))).kind wv39 nv39 sm39 il39 fl39 ch39 bx39) (⟨[], VecD.none⟩ : ArrD (AD (k + 1))) ∧ PlainAt (k + 2) r.2.2 r.2.1 (zeroP : PlainD (PD (k + 1))) ∧ PlainAt (k + 2) r.2.2 [.slice ad (PlainD.shape (α := PD (k + 1)) p).length cp, .slice ad2 (PlainD.items (α := PD (k + 1)) p).length cp2, .int .i64 (PlainD.fill (α := PD (k + 1)) p)] p ∧ PlainAt (k + 2) r.2.2 [.slice ad3 (PlainD.shape (α := PD (k + 1)) q).length cp3, .slice ad4 (PlainD.items (α := PD (k + 1)) q).length cp4, .int .i64 (PlainD.fill (α := PD (k + 1)) q)] q ∧ TzTab r.2.2 ∧ Sees w h r.2.2 [⟨some ⟨r.1, 0, none⟩, 1, 1, 25, 3, r.2.1⟩, ⟨some ⟨b7, 0, none⟩, 1, 1, 40, 9, (.slice ad39 (ArrD.shape (⟨[], VecD.none⟩ : ArrD (AD (k + 1)))).length cap39 :: vecCells (ArrD.vec (⟨[], VecD.none⟩ : ArrD (AD (k + 1)))).kind wv39 nv39 sm39 il39 fl39 ch39 bx39)⟩, ⟨some ⟨b2, 0, none⟩, 1, 1, 25, 3, [.slice ad3 (PlainD.shape (α := PD (k + 1)) q).length cp3, .slice ad4 (PlainD.items (α := PD (k + 1)) q).length cp4, .int .i64 (PlainD.fill (α := PD (k + 1)) q)]⟩, ⟨some ⟨b1, 0, none⟩, 1, 1, 25, 3, [.slice ad (PlainD.shape (α := PD (k + 1)) p).length cp, .slice ad2 (PlainD.items (α := PD (k + 1)) p).length cp2, .int .i64 (PlainD.fill (α := PD (k + 1)) p)]⟩] w') ?_ ?_
    · refine CW.regionR T 2 1 hs rfl rfl ?_
      intro w40 hs
      refine HW.takeR (fuel := 12) 0 rfl (fun _ _ ka kb _ hs hka hkb => Y.loadRowN T hs ka hka rfl rfl rfl rfl rfl rfl) ⟨_, _, 2, 1, hs, rfl, rfl⟩ rfl (by kernel_rfl) (by kernel_rfl) (by kernel_rfl) ?_
      refine HW.takeR (fuel := 11) 2 rfl (fun _ _ ka kb _ hs hka hkb => Y.loadRowN T hs kb hkb rfl rfl rfl rfl rfl rfl) ⟨_, _, 2, 1, hs, rfl, rfl⟩ rfl (by kernel_rfl) (by kernel_rfl) (by kernel_rfl) ?_
      refine HW.takeR (fuel := 10) 4 rfl (fun _ _ ka kb _ hs hka hkb => Y.move rfl) ⟨_, _, 2, 1, hs, rfl, rfl⟩ rfl (by kernel_rfl) (by kernel_rfl) (by kernel_rfl) ?_
      refine HW.two (fuel := 9) 1 10 rfl rfl (by kernel_rfl) ?_ ?_
      · (refine RW.call T hs rfl rfl rfl (refTidyP_con (k + 2) 40 _ p _ _ hp' hcp) ?_; intro v h44 w44 hle44 hp44 hs)
        obtain ⟨cs44, rfl, hq44⟩ := hp44
        have hp' := PlainAt.mono (k + 2) _ _ _ _ hle44 hp'
        have hq' := PlainAt.mono (k + 2) _ _ _ _ hle44 hq'
        have hT := hT.mono hle44
        have hA := ArrAt.mono (k + 2) _ _ _ _ hle44 hA
        refine RW.nil ?_
        refine heldQ_normal ⟨_, _, 2, 1, hs, rfl, rfl⟩ ?_
        refine HW.two (fuel := 8) 3 10 rfl rfl (by kernel_rfl) ?_ ?_
        · (refine RW.call T hs rfl rfl rfl (refTidyP_con (k + 2) 40 _ q _ _ hq' hcq) ?_; intro v h46 w46 hle46 hp46 hs)
          obtain ⟨cs46, rfl, hq46⟩ := hp46
          have hp' := PlainAt.mono (k + 2) _ _ _ _ hle46 hp'
          have hq' := PlainAt.mono (k + 2) _ _ _ _ hle46 hq'
          have hT := hT.mono hle46
          have hA := ArrAt.mono (k + 2) _ _ _ _ hle46 hA
          have hq44 := PlainAt.mono (k + 2) _ _ _ _ hle46 hq44
          refine RW.nil ?_
          refine heldQ_normal ⟨_, _, 2, 1, hs, rfl, rfl⟩ ?_
          refine HW.two (fuel := 7) 5 10 rfl rfl (by kernel_rfl) ?_ ?_
          · (refine RW.call T hs rfl rfl rfl (origin27_con one _ _) ?_; intro v h48 w48 hle48 hp48 hs)
            subst hp48
            have hp' := PlainAt.mono (k + 2) _ _ _ _ hle48 hp'
            have hq' := PlainAt.mono (k + 2) _ _ _ _ hle48 hq'
            have hT := hT.mono hle48
            have hA := ArrAt.mono (k + 2) _ _ _ _ hle48 hA
            have hq44 := PlainAt.mono (k + 2) _ _ _ _ hle48 hq44
            have hq46 := PlainAt.mono (k + 2) _ _ _ _ hle48 hq46
            refine RW.nil ?_
            refine heldQ_normal ⟨_, _, 2, 1, hs, rfl, rfl⟩ ?_
            refine HW.two (fuel := 6) 6 10 rfl rfl (by kernel_rfl) ?_ ?_
            · (refine RW.call T hs rfl rfl rfl (ref27IndexOfE_con (k + 1) _ _ (tidy (k + 2) p) (tidy (k + 2) q) (orgN one) _ _ hq44 hq46 h1) ?_; intro v h49 w49 hle49 hp49 hs)
              obtain ⟨cs49, rfl, hq49⟩ := hp49
              have hq49 : PlainAt (k + 2) h49 cs49 (zeroP : PlainD (PD (k + 1))) := hq49
              obtain ⟨s49, it49, rfl, ⟨adS49, cpS49, rfl, _⟩, ⟨adI49, cpI49, xsI49, rfl, _, _⟩⟩ := id hq49
              have hp' := PlainAt.mono (k + 2) _ _ _ _ hle49 hp'
              have hq' := PlainAt.mono (k + 2) _ _ _ _ hle49 hq'
              have hT := hT.mono hle49
              have hA := ArrAt.mono (k + 2) _ _ _ _ hle49 hA
              refine RW.nil ?_
              refine heldQ_normal ⟨_, _, 2, 1, hs, rfl, rfl⟩ ?_
              refine HW.takeR (fuel := 5) 7 rfl (fun _ _ ka kb _ hs hka hkb => Y.move rfl) ⟨_, _, 2, 1, hs, rfl, rfl⟩ rfl (by kernel_rfl) (by kernel_rfl) (by kernel_rfl) ?_
              refine HW.takeR (fuel := 4) 8 rfl (fun _ _ ka kb _ hs hka hkb => Y.extract rfl rfl) ⟨_, _, 2, 1, hs, rfl, rfl⟩ rfl (by kernel_rfl) (by kernel_rfl) (by kernel_rfl) ?_
              refine HW.takeR (fuel := 3) 9 rfl (fun _ _ ka kb _ hs hka hkb => Y.extract rfl rfl) ⟨_, _, 2, 1, hs, rfl, rfl⟩ rfl (by kernel_rfl) (by kernel_rfl) (by kernel_rfl) ?_
              refine HW.one (fuel := 2) 10 rfl (by kernel_rfl) ?_
              (refine RW.allocN T hs rfl rfl rfl rfl ?_; intro b9 w9 hs)
              refine RW.nil ?_
              refine heldQ_normal ⟨_, _, 3, 2, hs, rfl, rfl⟩ ?_
              refine HW.one (fuel := 1) 11 rfl (by kernel_rfl) ?_
              refine RW.storeAll T hs 0 rfl rfl rfl rfl rfl rfl rfl rfl ?_
              intro w912 hs
              refine RW.nil ?_
              refine heldQ_normal ⟨_, _, 3, 2, hs, rfl, rfl⟩ ?_
              refine HW.takeR (fuel := 0) 12 rfl (fun _ _ ka kb _ hs hka hkb => Y.assign rfl) ⟨_, _, 3, 2, hs, rfl, rfl⟩ rfl (by kernel_rfl) (by kernel_rfl) (by kernel_rfl) ?_
              refine HW.done (by kernel_rfl) ?_
              refine calmQ_normal ?_
              exact joinQ_meet (b9, _, h49) ⟨rfl, rfl, rfl, rfl, rfl, rfl, rfl, trivial⟩ ⟨hA, hq49, hp', hq', hT, hs⟩
            · (refine RW.allocN T hs rfl rfl rfl rfl ?_; intro b9 w9 hs)
              refine RW.nil ?_
              refine heldQ_normal ⟨_, _, 3, 2, hs, rfl, rfl⟩ ?_
              refine HW.one (fuel := 5) 6 rfl (by kernel_rfl) ?_
              (refine RW.call T hs rfl rfl rfl (ref27IndexOfE_con (k + 1) _ _ (tidy (k + 2) p) (tidy (k + 2) q) (orgN one) _ _ hq44 hq46 h1) ?_; intro v h49 w49 hle49 hp49 hs)
              obtain ⟨cs49, rfl, hq49⟩ := hp49
              have hq49 : PlainAt (k + 2) h49 cs49 (zeroP : PlainD (PD (k + 1))) := hq49
              obtain ⟨s49, it49, rfl, ⟨adS49, cpS49, rfl, _⟩, ⟨adI49, cpI49, xsI49, rfl, _, _⟩⟩ := id hq49
              have hp' := PlainAt.mono (k + 2) _ _ _ _ hle49 hp'
              have hq' := PlainAt.mono (k + 2) _ _ _ _ hle49 hq'
              have hT := hT.mono hle49
              have hA := ArrAt.mono (k + 2) _ _ _ _ hle49 hA
              refine RW.nil ?_
              refine heldQ_normal ⟨_, _, 3, 2, hs, rfl, rfl⟩ ?_
              refine HW.takeR (fuel := 4) 7 rfl (fun _ _ ka kb _ hs hka hkb => Y.move rfl) ⟨_, _, 3, 2, hs, rfl, rfl⟩ rfl (by kernel_rfl) (by kernel_rfl) (by kernel_rfl) ?_
              refine HW.takeR (fuel := 3) 8 rfl (fun _ _ ka kb _ hs hka hkb => Y.extract rfl rfl) ⟨_, _, 3, 2, hs, rfl, rfl⟩ rfl (by kernel_rfl) (by kernel_rfl) (by kernel_rfl) ?_
              refine HW.takeR (fuel := 2) 9 rfl (fun _ _ ka kb _ hs hka hkb => Y.extract rfl rfl) ⟨_, _, 3, 2, hs, rfl, rfl⟩ rfl (by kernel_rfl) (by kernel_rfl) (by kernel_rfl) ?_
              refine HW.one (fuel := 1) 11 rfl (by kernel_rfl) ?_
              refine RW.storeAll T hs 0 rfl rfl rfl rfl rfl rfl rfl rfl ?_
              intro w912 hs
              refine RW.nil ?_
              refine heldQ_normal ⟨_, _, 3, 2, hs, rfl, rfl⟩ ?_
              refine HW.takeR (fuel := 0) 12 rfl (fun _ _ ka kb _ hs hka hkb => Y.assign rfl) ⟨_, _, 3, 2, hs, rfl, rfl⟩ rfl (by kernel_rfl) (by kernel_rfl) (by kernel_rfl) ?_
              refine HW.done (by kernel_rfl) ?_
              refine calmQ_normal ?_
              exact joinQ_meet (b9, _, h49) ⟨rfl, rfl, rfl, rfl, rfl, rfl, rfl, trivial⟩ ⟨hA, hq49, hp', hq', hT, hs⟩
          · (refine RW.allocN T hs rfl rfl rfl rfl ?_; intro b9 w9 hs)
            refine RW.nil ?_
            refine heldQ_normal ⟨_, _, 3, 2, hs, rfl, rfl⟩ ?_
            refine HW.one (fuel := 6) 5 rfl (by kernel_rfl) ?_
            (refine RW.call T hs rfl rfl rfl (origin27_con one _ _) ?_; intro v h48 w48 hle48 hp48 hs)
            subst hp48
            have hp' := PlainAt.mono (k + 2) _ _ _ _ hle48 hp'
            have hq' := PlainAt.mono (k + 2) _ _ _ _ hle48 hq'
            have hT := hT.mono hle48
            have hA := ArrAt.mono (k + 2) _ _ _ _ hle48 hA
            have hq44 := PlainAt.mono (k + 2) _ _ _ _ hle48 hq44
            have hq46 := PlainAt.mono (k + 2) _ _ _ _ hle48 hq46
            refine RW.nil ?_
            refine heldQ_normal ⟨_, _, 3, 2, hs, rfl, rfl⟩ ?_
            refine HW.one (fuel := 5) 6 rfl (by kernel_rfl) ?_
            (refine RW.call T hs rfl rfl rfl (ref27IndexOfE_con (k + 1) _ _ (tidy (k + 2) p) (tidy (k + 2) q) (orgN one) _ _ hq44 hq46 h1) ?_; intro v h49 w49 hle49 hp49 hs)
            obtain ⟨cs49, rfl, hq49⟩ := hp49
            have hq49 : PlainAt (k + 2) h49 cs49 (zeroP : PlainD (PD (k + 1))) := hq49
            obtain ⟨s49, it49, rfl, ⟨adS49, cpS49, rfl, _⟩, ⟨adI49, cpI49, xsI49, rfl, _, _⟩⟩ := id hq49
            have hp' := PlainAt.mono (k + 2) _ _ _ _ hle49 hp'
            have hq' := PlainAt.mono (k + 2) _ _ _ _ hle49 hq'
            have hT := hT.mono hle49
            have hA := ArrAt.mono (k + 2) _ _ _ _ hle49 hA
            refine RW.nil ?_
            refine heldQ_normal ⟨_, _, 3, 2, hs, rfl, rfl⟩ ?_
            refine HW.takeR (fuel := 4) 7 rfl (fun _ _ ka kb _ hs hka hkb => Y.move rfl) ⟨_, _, 3, 2, hs, rfl, rfl⟩ rfl (by kernel_rfl) (by kernel_rfl) (by kernel_rfl) ?_
            refine HW.takeR (fuel := 3) 8 rfl (fun _ _ ka kb _ hs hka hkb => Y.extract rfl rfl) ⟨_, _, 3, 2, hs, rfl, rfl⟩ rfl (by kernel_rfl) (by kernel_rfl) (by kernel_rfl) ?_
            refine HW.takeR (fuel := 2) 9 rfl (fun _ _ ka kb _ hs hka hkb => Y.extract rfl rfl) ⟨_, _, 3, 2, hs, rfl, rfl⟩ rfl (by kernel_rfl) (by kernel_rfl) (by kernel_rfl) ?_
            refine HW.one (fuel := 1) 11 rfl (by kernel_rfl) ?_
            refine RW.storeAll T hs 0 rfl rfl rfl rfl rfl rfl rfl rfl ?_
            intro w912 hs
            refine RW.nil ?_
            refine heldQ_normal ⟨_, _, 3, 2, hs, rfl, rfl⟩ ?_
            refine HW.takeR (fuel := 0) 12 rfl (fun _ _ ka kb _ hs hka hkb => Y.assign rfl) ⟨_, _, 3, 2, hs, rfl, rfl⟩ rfl (by kernel_rfl) (by kernel_rfl) (by kernel_rfl) ?_
            refine HW.done (by kernel_rfl) ?_
            refine calmQ_normal ?_
            exact joinQ_meet (b9, _, h49) ⟨rfl, rfl, rfl, rfl, rfl, rfl, rfl, trivial⟩ ⟨hA, hq49, hp', hq', hT, hs⟩
        · (refine RW.allocN T hs rfl rfl rfl rfl ?_; intro b9 w9 hs)
          refine RW.nil ?_
          refine heldQ_normal ⟨_, _, 3, 2, hs, rfl, rfl⟩ ?_
          refine HW.one (fuel := 7) 3 rfl (by kernel_rfl) ?_
          (refine RW.call T hs rfl rfl rfl (refTidyP_con (k + 2) 40 _ q _ _ hq' hcq) ?_; intro v h46 w46 hle46 hp46 hs)
          obtain ⟨cs46, rfl, hq46⟩ := hp46
          have hp' := PlainAt.mono (k + 2) _ _ _ _ hle46 hp'
          have hq' := PlainAt.mono (k + 2) _ _ _ _ hle46 hq'
          have hT := hT.mono hle46
          have hA := ArrAt.mono (k + 2) _ _ _ _ hle46 hA
          have hq44 := PlainAt.mono (k + 2) _ _ _ _ hle46 hq44
          refine RW.nil ?_
          refine heldQ_normal ⟨_, _, 3, 2, hs, rfl, rfl⟩ ?_
          refine HW.one (fuel := 6) 5 rfl (by kernel_rfl) ?_
          (refine RW.call T hs rfl rfl rfl (origin27_con one _ _) ?_; intro v h48 w48 hle48 hp48 hs)
          subst hp48
          have hp' := PlainAt.mono (k + 2) _ _ _ _ hle48 hp'
          have hq' := PlainAt.mono (k + 2) _ _ _ _ hle48 hq'
          have hT := hT.mono hle48
          have hA := ArrAt.mono (k + 2) _ _ _ _ hle48 hA
          have hq44 := PlainAt.mono (k + 2) _ _ _ _ hle48 hq44
          have hq46 := PlainAt.mono (k + 2) _ _ _ _ hle48 hq46
          refine RW.nil ?_
          refine heldQ_normal ⟨_, _, 3, 2, hs, rfl, rfl⟩ ?_
          refine HW.one (fuel := 5) 6 rfl (by kernel_rfl) ?_
          (refine RW.call T hs rfl rfl rfl (ref27IndexOfE_con (k + 1) _ _ (tidy (k + 2) p) (tidy (k + 2) q) (orgN one) _ _ hq44 hq46 h1) ?_; intro v h49 w49 hle49 hp49 hs)
          obtain ⟨cs49, rfl, hq49⟩ := hp49
          have hq49 : PlainAt (k + 2) h49 cs49 (zeroP : PlainD (PD (k + 1))) := hq49
          obtain ⟨s49, it49, rfl, ⟨adS49, cpS49, rfl, _⟩, ⟨adI49, cpI49, xsI49, rfl, _, _⟩⟩ := id hq49
          have hp' := PlainAt.mono (k + 2) _ _ _ _ hle49 hp'
          have hq' := PlainAt.mono (k + 2) _ _ _ _ hle49 hq'
          have hT := hT.mono hle49
          have hA := ArrAt.mono (k + 2) _ _ _ _ hle49 hA
          refine RW.nil ?_
          refine heldQ_normal ⟨_, _, 3, 2, hs, rfl, rfl⟩ ?_
          refine HW.takeR (fuel := 4) 7 rfl (fun _ _ ka kb _ hs hka hkb => Y.move rfl) ⟨_, _, 3, 2, hs, rfl, rfl⟩ rfl (by kernel_rfl) (by kernel_rfl) (by kernel_rfl) ?_
          refine HW.takeR (fuel := 3) 8 rfl (fun _ _ ka kb _ hs hka hkb => Y.extract rfl rfl) ⟨_, _, 3, 2, hs, rfl, rfl⟩ rfl (by kernel_rfl) (by kernel_rfl) (by kernel_rfl) ?_
          refine HW.takeR (fuel := 2) 9 rfl (fun _ _ ka kb _ hs hka hkb => Y.extract rfl rfl) ⟨_, _, 3, 2, hs, rfl, rfl⟩ rfl (by kernel_rfl) (by kernel_rfl) (by kernel_rfl) ?_
          refine HW.one (fuel := 1) 11 rfl (by kernel_rfl) ?_
          refine RW.storeAll T hs 0 rfl rfl rfl rfl rfl rfl rfl rfl ?_
          intro w912 hs
          refine RW.nil ?_
          refine heldQ_normal ⟨_, _, 3, 2, hs, rfl, rfl⟩ ?_
          refine HW.takeR (fuel := 0) 12 rfl (fun _ _ ka kb _ hs hka hkb => Y.assign rfl) ⟨_, _, 3, 2, hs, rfl, rfl⟩ rfl (by kernel_rfl) (by kernel_rfl) (by kernel_rfl) ?_
          refine HW.done (by kernel_rfl) ?_
          refine calmQ_normal ?_
          exact joinQ_meet (b9, _, h49) ⟨rfl, rfl, rfl, rfl, rfl, rfl, rfl, trivial⟩ ⟨hA, hq49, hp', hq', hT, hs⟩
      · (refine RW.allocN T hs rfl rfl rfl rfl ?_; intro b9 w9 hs)
        refine RW.nil ?_
        refine heldQ_normal ⟨_, _, 3, 2, hs, rfl, rfl⟩ ?_
        refine HW.one (fuel := 8) 1 rfl (by kernel_rfl) ?_
        (refine RW.call T hs rfl rfl rfl (refTidyP_con (k + 2) 40 _ p _ _ hp' hcp) ?_; intro v h44 w44 hle44 hp44 hs)
        obtain ⟨cs44, rfl, hq44⟩ := hp44
        have hp' := PlainAt.mono (k + 2) _ _ _ _ hle44 hp'
        have hq' := PlainAt.mono (k + 2) _ _ _ _ hle44 hq'
        have hT := hT.mono hle44
        have hA := ArrAt.mono (k + 2) _ _ _ _ hle44 hA
        refine RW.nil ?_
        refine heldQ_normal ⟨_, _, 3, 2, hs, rfl, rfl⟩ ?_
        refine HW.one (fuel := 7) 3 rfl (by kernel_rfl) ?_
        (refine RW.call T hs rfl rfl rfl (refTidyP_con (k + 2) 40 _ q _ _ hq' hcq) ?_; intro v h46 w46 hle46 hp46 hs)
        obtain ⟨cs46, rfl, hq46⟩ := hp46
        have hp' := PlainAt.mono (k + 2) _ _ _ _ hle46 hp'
        have hq' := PlainAt.mono (k + 2) _ _ _ _ hle46 hq'
        have hT := hT.mono hle46
        have hA := ArrAt.mono (k + 2) _ _ _ _ hle46 hA
        have hq44 := PlainAt.mono (k + 2) _ _ _ _ hle46 hq44
        refine RW.nil ?_
        refine heldQ_normal ⟨_, _, 3, 2, hs, rfl, rfl⟩ ?_
        refine HW.one (fuel := 6) 5 rfl (by kernel_rfl) ?_
        (refine RW.call T hs rfl rfl rfl (origin27_con one _ _) ?_; intro v h48 w48 hle48 hp48 hs)
        subst hp48
        have hp' := PlainAt.mono (k + 2) _ _ _ _ hle48 hp'
        have hq' := PlainAt.mono (k + 2) _ _ _ _ hle48 hq'
        have hT := hT.mono hle48
        have hA := ArrAt.mono (k + 2) _ _ _ _ hle48 hA
        have hq44 := PlainAt.mono (k + 2) _ _ _ _ hle48 hq44
        have hq46 := PlainAt.mono (k + 2) _ _ _ _ hle48 hq46
        refine RW.nil ?_
        refine heldQ_normal ⟨_, _, 3, 2, hs, rfl, rfl⟩ ?_
        refine HW.one (fuel := 5) 6 rfl (by kernel_rfl) ?_
        (refine RW.call T hs rfl rfl rfl (ref27IndexOfE_con (k + 1) _ _ (tidy (k + 2) p) (tidy (k + 2) q) (orgN one) _ _ hq44 hq46 h1) ?_; intro v h49 w49 hle49 hp49 hs)
        obtain ⟨cs49, rfl, hq49⟩ := hp49
        have hq49 : PlainAt (k + 2) h49 cs49 (zeroP : PlainD (PD (k + 1))) := hq49
        obtain ⟨s49, it49, rfl, ⟨adS49, cpS49, rfl, _⟩, ⟨adI49, cpI49, xsI49, rfl, _, _⟩⟩ := id hq49
        have hp' := PlainAt.mono (k + 2) _ _ _ _ hle49 hp'
        have hq' := PlainAt.mono (k + 2) _ _ _ _ hle49 hq'
        have hT := hT.mono hle49
        have hA := ArrAt.mono (k + 2) _ _ _ _ hle49 hA
        refine RW.nil ?_
        refine heldQ_normal ⟨_, _, 3, 2, hs, rfl, rfl⟩ ?_
        refine HW.takeR (fuel := 4) 7 rfl (fun _ _ ka kb _ hs hka hkb => Y.move rfl) ⟨_, _, 3, 2, hs, rfl, rfl⟩ rfl (by kernel_rfl) (by kernel_rfl) (by kernel_rfl) ?_
        refine HW.takeR (fuel := 3) 8 rfl (fun _ _ ka kb _ hs hka hkb => Y.extract rfl rfl) ⟨_, _, 3, 2, hs, rfl, rfl⟩ rfl (by kernel_rfl) (by kernel_rfl) (by kernel_rfl) ?_
        refine HW.takeR (fuel := 2) 9 rfl (fun _ _ ka kb _ hs hka hkb => Y.extract rfl rfl) ⟨_, _, 3, 2, hs, rfl, rfl⟩ rfl (by kernel_rfl) (by kernel_rfl) (by kernel_rfl) ?_
        refine HW.one (fuel := 1) 11 rfl (by kernel_rfl) ?_
        refine RW.storeAll T hs 0 rfl rfl rfl rfl rfl rfl rfl rfl ?_
        intro w912 hs
        refine RW.nil ?_
        refine heldQ_normal ⟨_, _, 3, 2, hs, rfl, rfl⟩ ?_
        refine HW.takeR (fuel := 0) 12 rfl (fun _ _ ka kb _ hs hka hkb => Y.assign rfl) ⟨_, _, 3, 2, hs, rfl, rfl⟩ rfl (by kernel_rfl) (by kernel_rfl) (by kernel_rfl) ?_
        refine HW.done (by kernel_rfl) ?_
        refine calmQ_normal ?_
        exact joinQ_meet (b9, _, h49) ⟨rfl, rfl, rfl, rfl, rfl, rfl, rfl, trivial⟩ ⟨hA, hq49, hp', hq', hT, hs⟩
    rintro ⟨b9, cs49, h49⟩ w49 ⟨hA, hP, hp', hq', hT, hs⟩
    dsimp only at hA hP hp' hq' hT hs ⊢
    obtain ⟨s49, it49, rfl, ⟨adS49, cpS49, rfl, _⟩, ⟨adI49, cpI49, xsI49, rfl, _, _⟩⟩ := id hP
    refine Zerun ?_
    refine CW.regionO T hs ?_
    intro w50 hs
    refine HW.takeS (fuel := 21) 0 rfl (fun _ _ hs => Y.loadRowN T hs 1 rfl rfl rfl rfl rfl rfl rfl) hs rfl (by kernel_rfl) (by kernel_rfl) (by kernel_rfl) ?_
    refine HW.takeS (fuel := 20) 1 rfl (fun _ _ hs => Y.move rfl) hs rfl (by kernel_rfl) (by kernel_rfl) (by kernel_rfl) ?_
    refine HW.takeS (fuel := 19) 2 rfl (fun _ _ hs => Y.loadRowN T hs 0 rfl rfl rfl rfl rfl rfl rfl) hs rfl (by kernel_rfl) (by kernel_rfl) (by kernel_rfl) ?_
    refine HW.takeS (fuel := 18) 3 rfl (fun _ _ hs => Y.move rfl) hs rfl (by kernel_rfl) (by kernel_rfl) (by kernel_rfl) ?_
    refine HW.one (fuel := 17) 4 rfl (by kernel_rfl) ?_
    (refine RW.call T hs rfl rfl rfl (shows27E_con (α := AD (k + 1)) (R := ArrAt (k + 1)) (Rq := PlainAt (k + 1)) _ _ zeroP 22 _ _ (.inl rfl) hA hP) ?_; intro v h56 w56 hle56 hp56 hs)
    subst hp56
    have hp' := PlainAt.mono (k + 2) _ _ _ _ hle56 hp'
    have hq' := PlainAt.mono (k + 2) _ _ _ _ hle56 hq'
    have hT := hT.mono hle56
    refine RW.nil ?_
    refine heldQ_normal ⟨_, hs⟩ ?_
    refine HW.takeS (fuel := 16) 5 rfl (fun _ _ hs => Y.move rfl) hs rfl (by kernel_rfl) (by kernel_rfl) (by kernel_rfl) ?_
    refine HW.takeSY (fuel := 15) 6 rfl rfl rfl (fun _ _ hs => Y.loadRowN T hs 3 rfl rfl rfl rfl rfl rfl rfl) hs rfl (by kernel_rfl) (by kernel_rfl) (by kernel_rfl) ?_
    refine HW.takeSY (fuel := 14) 8 rfl rfl rfl (fun _ _ hs => Y.loadRowN T hs 2 rfl rfl rfl rfl rfl rfl rfl) hs rfl (by kernel_rfl) (by kernel_rfl) (by kernel_rfl) ?_
    refine HW.takeSY (fuel := 13) 11 rfl rfl rfl (fun _ _ hs => Y.loadRowN T hs 3 rfl rfl rfl rfl rfl rfl rfl) hs rfl (by kernel_rfl) (by kernel_rfl) (by kernel_rfl) ?_
    refine HW.takeSY (fuel := 12) 13 rfl rfl rfl (fun _ _ hs => Y.loadRowN T hs 2 rfl rfl rfl rfl rfl rfl rfl) hs rfl (by kernel_rfl) (by kernel_rfl) (by kernel_rfl) ?_
    refine HW.one (fuel := 11) 7 rfl (by kernel_rfl) ?_
    refine RW.guardYes rfl rfl ?_
    (refine RW.call T hs rfl rfl rfl (of07_con (k + 2) _ p _ _ hp' hcp) ?_; intro v h59 w59 hle59 hp59 hs)
    obtain ⟨cs59, rfl, _, _, hn59⟩ := hp59
    have hp' := PlainAt.mono (k + 2) _ _ _ _ hle59 hp'
    have hq' := PlainAt.mono (k + 2) _ _ _ _ hle59 hq'
    have hT := hT.mono hle59
    refine RW.nil ?_
    refine heldQ_normal ⟨_, hs⟩ ?_
    refine HW.one (fuel := 10) 9 rfl (by kernel_rfl) ?_
    refine RW.guardYes rfl rfl ?_
    (refine RW.call T hs rfl rfl rfl (of07_con (k + 2) _ q _ _ hq' hcq) ?_; intro v h61 w61 hle61 hp61 hs)
    obtain ⟨cs61, rfl, _, _, hn61⟩ := hp61
    have hp' := PlainAt.mono (k + 2) _ _ _ _ hle61 hp'
    have hq' := PlainAt.mono (k + 2) _ _ _ _ hle61 hq'
    have hT := hT.mono hle61
    have hn59 := ArrAt.mono (k + 2) _ _ _ _ hle61 hn59
    refine RW.nil ?_
    refine heldQ_normal ⟨_, hs⟩ ?_
    refine HW.one (fuel := 9) 10 rfl (by kernel_rfl) ?_
    refine RW.guardYes rfl rfl ?_
    (refine RW.call T hs rfl rfl rfl (baseMember_con (k + 1) _ _ (arr (k + 2) p) (arr (k + 2) q) _ _ hn59 hn61 hsmp hsmq) ?_; intro v h62 w62 hle62 hp62 hs)
    obtain ⟨cs62, rfl, ha62⟩ := hp62
    rw [hshp.he, hshq.he, hfq.1, hMn] at ha62
    have ha62 : ArrAt (k + 2) h62 cs62 (nmSA (PlainD.shape (α := PD (k + 1)) p) Mn : ArrD (AD (k + 1))) := ha62
    have hp' := PlainAt.mono (k + 2) _ _ _ _ hle62 hp'
    have hq' := PlainAt.mono (k + 2) _ _ _ _ hle62 hq'
    have hT := hT.mono hle62
    refine RW.nil ?_
    refine heldQ_normal ⟨_, hs⟩ ?_
    refine HW.one (fuel := 8) 12 rfl (by kernel_rfl) ?_
    refine RW.guardYes rfl rfl ?_
    (refine RW.call T hs rfl rfl rfl (refTidyP_con (k + 2) 40 _ p _ _ hp' hcp) ?_; intro v h64 w64 hle64 hp64 hs)
    obtain ⟨cs64, rfl, hq64⟩ := hp64
    have hp' := PlainAt.mono (k + 2) _ _ _ _ hle64 hp'
    have hq' := PlainAt.mono (k + 2) _ _ _ _ hle64 hq'
    have hT := hT.mono hle64
    have ha62 := ArrAt.mono (k + 2) _ _ _ _ hle64 ha62
    refine RW.nil ?_
    refine heldQ_normal ⟨_, hs⟩ ?_
    refine HW.one (fuel := 7) 14 rfl (by kernel_rfl) ?_
    refine RW.guardYes rfl rfl ?_
    (refine RW.call T hs rfl rfl rfl (refTidyP_con (k + 2) 40 _ q _ _ hq' hcq) ?_; intro v h66 w66 hle66 hp66 hs)
    obtain ⟨cs66, rfl, hq66⟩ := hp66
    have hp' := PlainAt.mono (k + 2) _ _ _ _ hle66 hp'
    have hq' := PlainAt.mono (k + 2) _ _ _ _ hle66 hq'
    have hT := hT.mono hle66
    have ha62 := ArrAt.mono (k + 2) _ _ _ _ hle66 ha62
    have hq64 := PlainAt.mono (k + 2) _ _ _ _ hle66 hq64
    refine RW.nil ?_
    refine heldQ_normal ⟨_, hs⟩ ?_
    refine HW.one (fuel := 6) 15 rfl (by kernel_rfl) ?_
    refine RW.guardYes rfl rfl ?_
    (refine RW.call T hs rfl rfl rfl (ref27Member_con (k + 1) _ _ (tidy (k + 2) p) (tidy (k + 2) q) _ _ hq64 hq66 tq tp hlq hlp) ?_; intro v h67 w67 hle67 hp67 hs)
    obtain ⟨cs67, rfl, hq67⟩ := hp67
    rw [hMn] at hq67
    have hq67 : PlainAt (k + 2) h67 cs67 (nmSP (PlainD.shape (α := PD (k + 1)) p) Mn : PlainD (PD (k + 1))) := hq67
    have hp' := PlainAt.mono (k + 2) _ _ _ _ hle67 hp'
    have hq' := PlainAt.mono (k + 2) _ _ _ _ hle67 hq'
    have hT := hT.mono hle67
    have ha62 := ArrAt.mono (k + 2) _ _ _ _ hle67 ha62
    refine RW.nil ?_
    refine heldQ_normal ⟨_, hs⟩ ?_
    refine HW.one (fuel := 5) 16 rfl (by kernel_rfl) ?_
    refine RW.guardYes rfl rfl ?_
    (refine RW.call T hs rfl rfl rfl (shows27_con (k + 1) _ _ (nmSA (PlainD.shape (α := PD (k + 1)) p) Mn : ArrD (AD (k + 1))) (nmSP (PlainD.shape (α := PD (k + 1)) p) Mn : PlainD (PD (k + 1))) _ _ ha62 hq67 (nmS_good (k + 1) (PlainD.shape (α := PD (k + 1)) p) Mn 40 (by omega) hpM) (nmS_plain (k + 1) (PlainD.shape (α := PD (k + 1)) p) Mn) (nmS_tdy (k + 1) (PlainD.shape (α := PD (k + 1)) p) Mn htM)) ?_; intro v h68 w68 hle68 hp68 hs)
    subst hp68
    have hp' := PlainAt.mono (k + 2) _ _ _ _ hle68 hp'
    have hq' := PlainAt.mono (k + 2) _ _ _ _ hle68 hq'
    have hT := hT.mono hle68
    refine RW.nil ?_
    refine heldQ_normal ⟨_, hs⟩ ?_
    refine HW.takeS (fuel := 4) 17 rfl (fun _ _ hs => Y.pickT rfl rfl) hs rfl (by kernel_rfl) (by kernel_rfl) (by kernel_rfl) ?_
    refine HW.takeS (fuel := 3) 18 rfl (fun _ _ hs => Y.move rfl) hs rfl (by kernel_rfl) (by kernel_rfl) (by kernel_rfl) ?_
    refine HW.one (fuel := 2) 19 rfl (by kernel_rfl) ?_
    refine RW.guardYes rfl rfl ?_
    (refine RW.call T hs rfl rfl rfl (awake27_con _ _ hT) ?_; intro v h71 w71 hle71 hp71 hs)
    subst hp71
    have hp' := PlainAt.mono (k + 2) _ _ _ _ hle71 hp'
    have hq' := PlainAt.mono (k + 2) _ _ _ _ hle71 hq'
    refine RW.nil ?_
    refine heldQ_normal ⟨_, hs⟩ ?_
    refine HW.takeS (fuel := 1) 20 rfl (fun _ _ hs => Y.pickT rfl rfl) hs rfl (by kernel_rfl) (by kernel_rfl) (by kernel_rfl) ?_
    refine HW.takeS (fuel := 0) 21 rfl (fun _ _ hs => Y.assign rfl) hs rfl (by kernel_rfl) (by kernel_rfl) (by kernel_rfl) ?_
    refine HW.done (by kernel_rfl) ?_
    refine calmQ_normal ?_
    refine Zerun ?_
    exact retQ_ret [_] h71 ⟨rfl, trivial⟩ hs.dropAll rfl
end Go.Proofs.YtmojpbfkpggjhaaGreatDoor
