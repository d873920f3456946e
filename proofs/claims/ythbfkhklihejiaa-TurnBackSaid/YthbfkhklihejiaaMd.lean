/-
  Own texts of the claim, merged: LibY, Pc, Il, Im, On, Kb, Kc, Kd, Ke, Kf, Kg, Kh, PlainO, Pd, Pe. Lemmas of the proof; no statement is proved here.
-/
import Derived.Test.YthbfkhklihejiaaMc
import Derived.Laws.Externs
/-
  The program logic, nineteenth part: frozen rows of whole structs, products of words, functions that the model stands in for. No statement is proved here.
-/
namespace Go.Proofs.Ythbfkhklihejiaa
open Go Go.RowKit
set_option linter.unusedVariables false
set_option linter.unusedSimpArgs false
set_option linter.unusedVariables false
section
variable {P : Program} (T : Tab P) {n : Nat} {Q : Post} {L : Env} {w0 w : World} {h0 h : GHeap} {O : List Row} {ops rest : List Oper} {x y : Operand} {t : TypeId}
variable {d : Option Tmp} {ty yt : TypeId} {pos : String} {aft : Array Edge}
/-- a cell of a frozen row -/
theorem Sl.cellAt (hs : Sees w0 h0 h O w) {b sz m cp o : Nat} {xs : List Value} {v : Value} (hS : Sl h sz (some ⟨b, 0, none⟩) m cp xs) (ho : o < m * sz) (hv : xs[o]? = some v) : w.cell? ⟨b, o, none⟩ = some v := by
  obtain ⟨cs, h1, h2⟩ := (hS.2.2.2.2 _ rfl).2 o ho
  refine hs.cell h1 ?_
  rw [Nat.zero_add] at h2
  rw [h2, hv]
theorem Y.ldF1 (hs : Sees w0 h0 h O w) {dd : Ty} {b sz m cp o : Nat} {xs : List Value} {v : Value} (hS : Sl h sz (some ⟨b, 0, none⟩) m cp xs) (hx : opv L x = some (.pointer (some ⟨b, o, none⟩))) (hT : T.ty t = some dd) (hd : dd.agg = false) (ho : Nat.blt o (m * sz) = true) (hv : xs[o]? = some v) : Yields P n L w (.load t x) ty v :=
  Y.load1 T hT hd hx (Sl.cellAt hs hS (Nat.le_of_ble_eq_true ho) hv)
theorem Y.ldFN (hs : Sees w0 h0 h O w) {dd : Ty} {i : Inf} {b sz m cp o : Nat} {xs cs : List Value} (hS : Sl h sz (some ⟨b, 0, none⟩) m cp xs) (hx : opv L x = some (.pointer (some ⟨b, o, none⟩))) (hT : T.ty t = some dd) (hd : dd.agg = true) (hI : T.inf t = some i) (ho : Nat.ble (o + i.size) (m * sz) = true) (hc : (xs.drop o).take i.size = cs) (hl : cs.length = i.size) : Yields P n L w (.load t x) ty (.agg cs.toArray) := by
  have ho := Nat.le_of_ble_eq_true ho
  refine Y.loadN T hT hd hI hl hx ?_
  intro j r hj
  have hjl := (List.getElem?_eq_some_iff.1 hj).1
  refine Sl.cellAt hs hS (by omega) ?_
  rw [← hc, List.getElem?_take, if_pos (by omega), List.getElem?_drop] at hj
  exact hj
/-- a whole number, as a word -/
def wrN (z : Int) : Nat := (z % 18446744073709551616).toNat
theorem wrN_lt (z : Int) : wrN z < 18446744073709551616 := by unfold wrN; omega
theorem wrap_wrN (z : Int) : IntKind.u64.wrap z = (wrN z : Int) := by
  unfold wrN
  have e : IntKind.u64.wrap z = z % 18446744073709551616 := by
    simp [IntKind.wrap, IntKind.signed, IntKind.bits]
  rw [e]; omega
def wr32 (z : Int) : Nat := (z % 4294967296).toNat
theorem wr32_lt (z : Int) : wr32 z < 4294967296 := by unfold wr32; omega
theorem wrap_wr32 (z : Int) : IntKind.u32.wrap z = (wr32 z : Int) := by
  unfold wr32
  have e : IntKind.u32.wrap z = z % 4294967296 := by
    simp [IntKind.wrap, IntKind.signed, IntKind.bits]
  rw [e]; omega
theorem Y.mulU {u v : Nat} (hx : opv L x = some (.int .u64 (u : Int))) (hy : opv L y = some (.int .u64 (v : Int))) : Yields P n L w (.binOp .mul t x y yt) ty (.int .u64 ((u * v % 18446744073709551616 : Nat) : Int)) := by
  have := Y.mul' (P := P) (n := n) (w := w) (ty := ty) (t := t) (yt := yt) hx hy
  have e : IntKind.u64.wrap ((u : Int) * (v : Int)) = ((u * v % 18446744073709551616 : Nat) : Int) := by
    rw [wrap_wrN]; unfold wrN
    rw [← Int.natCast_mul]
    omega
  rwa [e] at this
theorem Y.addU {u v : Nat} (hx : opv L x = some (.int .u64 (u : Int))) (hy : opv L y = some (.int .u64 (v : Int))) (hb : u + v < 18446744073709551616) : Yields P n L w (.binOp .add t x y yt) ty (.int .u64 ((u + v : Nat) : Int)) := by
  have := Y.add' (P := P) (n := n) (w := w) (ty := ty) (t := t) (yt := yt) hx hy
  have e : IntKind.u64.wrap ((u : Int) + (v : Int)) = ((u + v : Nat) : Int) := by
    rw [wrap_wrN]; unfold wrN; omega
  rwa [e] at this
/-- a call of a function that the model stands in for -/
theorem Y.stood {f : FuncId} {fn : Func} {e : Array Value → Sem Value} (hf : P.funcs[f]? = some fn) (hname : (fn.name == "runtime.NumGoroutine") = false) (hb : fn.body.isNone = true) (hn : Extern.findNext fn = none) (he : Extern.find fn = some e)
    {u v : Value} (hx : opv L x = some u) (hr : (e #[u]).run P w = .ok v w) {ats : Array TypeId} : Yields P n L w (.call ⟨.value (.func f), #[x], ats⟩) ty v := by
  intro a ha d pos aft g
  have h1 := run_callFunc_extern hf hname hb hn he #[u] w
  rw [hr] at h1
  have h2 : #[x].map a.eval = #[u] := by simp [ha.eval hx]
  have hcl : a.eval (.func f) = .func (.func f) #[] #[] := rfl
  simp [execOp, resolve, Deferred.ofValue, hcl, invoke, ha.eval hx, h1]
end
/-! ## Regions that draw their order and change memory: two of the call's own rows fixed, and what lies frozen -/
section
variable {P : Program} {n : Nat} {Q : Post} {L : Env} {w0 w : World} {h0 h hb : GHeap} {O : List Row} {ops rest : List Oper} {ra rb : Row}
variable {d : Option Tmp} {ty : TypeId} {pos : String} {aft : Array Edge} {fuel : Nat} {listed : Array Bool}
def SG (w0 : World) (h0 hb : GHeap) (ra rb : Row) (w : World) : Prop := ∃ (h' : GHeap) (O : List Row) (k j : Nat), GLe hb h' ∧ Sees w0 h0 h' O w ∧ O[k]? = some ra ∧ O[j]? = some rb
theorem CW.regionG (T' : Tab P) (k j : Nat) (hs : Sees w0 h0 h O w) (ha : O[k]? = some ra) (hb' : O[j]? = some rb) {id : Nat} {l : List Oper} (K : ∀ w', Sees w0 h0 h O w' → HW P n l (calmQ Q) (SG w0 h0 h ra rb) l.length (Array.replicate l.length false) L w') : CW P n Q (.region id l.toArray true) L w :=
  CW.regionH T' (SG w0 h0 h ra rb) (fun w' e => by subst e; exact K _ hs.drew)
theorem HW.takeG (i : Nat) {op : Op} {v : Value} (hi : ops.toArray[i]? = some ⟨d, op, ty, pos, aft, none⟩) (hy : ∀ (h' : GHeap) (O : List Row) (ka kb : Nat) (w' : World), GLe hb h' → Sees w0 h0 h' O w' → O[ka]? = some ra → O[kb]? = some rb → Yields P n L w' op ty v) (hS : SG w0 h0 hb ra rb w) (hd : dstOk n d = true)
    (hs : Region.noSelect ops.toArray = true) (hf : Region.free .any ops.toArray listed i = true) (hr : (Region.ready .any ops.toArray listed).contains i = true)
    (hh : HW P n ops (calmQ Q) (SG w0 h0 hb ra rb) fuel (listed.setIfInBounds i true) (updo d v L) w) : HW P n ops (calmQ Q) (SG w0 h0 hb ra rb) (fuel + 1) listed L w :=
  HW.take i hi (fun w' ⟨h', O, k, j, g, s, a, b⟩ => hy h' O k j w' g s a b) hS hd hs hf hr hh
theorem HW.takeGY (i : Nat) {op : Op} {v : Value} {j : Nat} {want : Bool} {t : Tmp} (hi : ops.toArray[i]? = some ⟨d, op, ty, pos, aft, some (j, want)⟩) (hj : gdst ops j = some t) (ht : get L t = some (.bool want)) (hy : ∀ (h' : GHeap) (O : List Row) (ka kb : Nat) (w' : World), GLe hb h' → Sees w0 h0 h' O w' → O[ka]? = some ra → O[kb]? = some rb → Yields P n L w' op ty v) (hS : SG w0 h0 hb ra rb w) (hd : dstOk n d = true)
    (hs : Region.noSelect ops.toArray = true) (hf : Region.free .any ops.toArray listed i = true) (hr : (Region.ready .any ops.toArray listed).contains i = true)
    (hh : HW P n ops (calmQ Q) (SG w0 h0 hb ra rb) fuel (listed.setIfInBounds i true) (updo d v L) w) : HW P n ops (calmQ Q) (SG w0 h0 hb ra rb) (fuel + 1) listed L w :=
  HW.takeYes i hi hj ht (fun w' ⟨h', O, k, j, g, s, a, b⟩ => hy h' O k j w' g s a b) hS hd hs hf hr hh
theorem HW.takeGN (i : Nat) {op : Op} {j : Nat} {want b : Bool} {t : Tmp} (hi : ops.toArray[i]? = some ⟨d, op, ty, pos, aft, some (j, want)⟩) (hj : gdst ops j = some t) (ht : get L t = some (.bool b)) (hb' : (b == want) = false) (hS : SG w0 h0 hb ra rb w) (hd : dstOk n d = true)
    (hs : Region.noSelect ops.toArray = true) (hf : Region.free .any ops.toArray listed i = true) (hr : (Region.ready .any ops.toArray listed).contains i = true)
    (hh : HW P n ops (calmQ Q) (SG w0 h0 hb ra rb) fuel (listed.setIfInBounds i true) (updo d undef L) w) : HW P n ops (calmQ Q) (SG w0 h0 hb ra rb) (fuel + 1) listed L w :=
  HW.takeNo i hi hj ht hb' hS hd hs hf hr hh
end
end Go.Proofs.Ythbfkhklihejiaa

/-
  Contracts of functions of package turn: arrays turned on along an axis, by one number. No statement is proved here.
-/
namespace Go.Proofs.Ythbfkhklihejiaa
open Go Go.RowKit
set_option linter.unusedVariables false
set_option linter.unusedSimpArgs false
set_option maxHeartbeats 4000000
attribute [local irreducible] CW RW QW SW HW ConM retM heldQ calmQ elemP thenQ blockQ loopQ joinQ retQ Yields Con Sl zF magR unitF truncF fwF wholeF tidySpec elemQ rankF leastN tidyW
set_option maxHeartbeats 4000000

theorem ArrR.mono' {α : Type} {R : GHeap → List Value → α → Prop} (hR : Mono R) {h h' : GHeap} {cs : List Value} {a : ArrD α} (hl : GLe h h') (ha : ArrR R h cs a) : ArrR R h' cs a := let ⟨s, vc, e, i, v⟩ := ha; ⟨s, vc, e, i.mono hl, v.mono hR hl⟩
theorem rolledL_len (n : Nat) (by_ : Int) : (rolledL n by_).length = n := by simp [rolledL]
section
variable {α : Type} {R : GHeap → List Value → α → Prop}
theorem turnRotate_con (hR : Mono R) (h1 : One R) (h9 : Siz 9 R) (nb : α) (hbl : ∀ w h, Con Try.prog 68 [] w h (fun h' u => ∃ cs', u = .agg cs'.toArray ∧ R h' cs' nb)) (cb cs : List Value) (vb : VecD α) (x : Nat) (by_ : Int) (a : ArrD α) (first : Bool) (w : World) (h : GHeap) (hb : ArrR R h cb ⟨[], vb⟩) (hnums : vb.nums = [x]) (hvl : vb.len = 1) (hkb : vb.kind = 1 ∨ vb.kind = 2 ∨ vb.kind = 3) (hw : (wholeF x).1 = by_) (ha : ArrR R h cs a) (hp : product a.shape 1048576 = ((a.vec.len : Int), 0)) (hvm : a.vec.len ≤ 1048576) (hk0 : a.vec.kind ≠ 0) :
    Con Try.prog 103 [.agg cb.toArray, .agg cs.toArray, .bool first] w h (fun h' u => ∃ cs', u = .tuple #[.agg cs'.toArray, .int .i64 0] ∧ TurnPost R a (axK a.shape first) (fun d => rolledL d by_) nb h' cs') := by
  have haR := ha
  have hbR := hb
  have hrank := (product_le hp).1
  obtain ⟨sb, vcb, rfl, ⟨adb, cpb, rfl, _⟩, hvb⟩ := hb
  have hvb' := hvb
  obtain ⟨wv2, nv2, sm2, il2, fl2, ch2, bx2, ⟨rfl, hoc2⟩, _⟩ := hvb
  obtain ⟨s, vc, rfl, hI, hv⟩ := ha
  have hI' := hI
  have hv' := hv
  obtain ⟨ad, cp, rfl, hS⟩ := hI
  obtain ⟨wv, nv, sm, il, fl, ch, bx, ⟨rfl, hoc⟩, _⟩ := hv
  have hcap := hS.caps
  have hall : (Value.oneCell' (.slice ad a.shape.length cp) && (vecCells a.vec.kind wv nv sm il fl ch bx).all Value.oneCell') = true := by rw [hoc]; rfl
  refine Con.of_body Try.func103 rfl Try.ntmps103 rfl rfl ?_
  intro hs
  refine Zrun ?_
  (refine RW.boxN hs rfl rfl ?_; intro b1 w1 hs)
  refine Zrun ?_
  (refine RW.boxN hs rfl rfl ?_; intro b2 w2 hs)
  (refine RW.allocN T hs rfl rfl rfl rfl ?_; intro b3 w3 hs)
  refine Zerun ?_
  (refine RW.call T hs rfl rfl rfl (turnAxis_con _ a first _ _ haR) ?_; intro v h4 w4 hle4 hp4 hs)
  subst hp4
  have haR := ArrR.mono' hR hle4 haR
  have hbR := ArrR.mono' hR hle4 hbR
  have hvb' := hvb'.mono hR hle4
  have hv' := hv'.mono hR hle4
  have hI' := hI'.mono hle4
  by_cases c : a.shape.length = 0
  · rw [if_pos c, decide_eq_false (by simpa using c)]
    refine Zerun ?_
    (refine RW.lit T hs (vs := []) rfl rfl rfl rfl (by simp [Value.cells]) rfl rfl rfl rfl rfl ?_; intro b5 w5 hs)
    obtain ⟨h6, hle6, hs, hS6⟩ := hs.freeze
    have haR := ArrR.mono' hR hle6 haR
    have hbR := ArrR.mono' hR hle6 hbR
    have hvb' := hvb'.mono hR hle6
    refine Zerun ?_
    (refine RW.call T hs rfl rfl rfl (valueSingle_con _ _ _ _ hbR) ?_; intro v h10 w10 hle10 hp10 hs)
    subst hp10
    rw [decide_eq_true hvl]
    have hbR := ArrR.mono' hR hle10 hbR
    refine Zerun ?_
    (refine RW.call T hs rfl rfl rfl (valueRank_con _ _ _ _ hbR) ?_; intro v h11 w11 hle11 hp11 hs)
    subst hp11
    rw [show ((([] : List Int).length : Nat) : Int) = 0 from rfl]
    have hvb' := hvb'.mono hR (hle10.trans hle11)
    refine Zerun ?_
    (refine RW.call T hs rfl rfl rfl (vecWholes_con hR _ vb _ _ hvb' (by omega)) ?_; intro v h12 w12 hle12 hp12 hs)
    obtain ⟨sl, rfl, hK⟩ := hp12
    rw [if_pos hkb, hnums] at hK
    rw [decide_eq_true hkb]
    have hK : KAt .i64 h12 sl [by_] := by rw [← hw]; exact hK
    obtain ⟨adl, cpl, rfl, hSl⟩ := hK
    have haR := ArrR.mono' hR ((hle10.trans hle11).trans hle12) haR
    refine Zerun ?_
    refine RW.storeAll T hs 0 rfl rfl rfl rfl rfl rfl hall rfl ?_
    intro w20 hs
    refine Zerun ?_
    exact retQ_ret [_, _] h12 ⟨resN T hs 0 rfl rfl rfl rfl rfl rfl, rfl, trivial⟩ hs.dropAll ⟨_, rfl, fun _ => haR, fun e => absurd c e⟩
  rw [if_neg c, decide_eq_true c]
  have hkl : axK a.shape first < a.shape.length := by unfold axK; split <;> omega
  obtain ⟨kx, hkx⟩ : ∃ kx, axK a.shape first = kx := ⟨_, rfl⟩
  rw [hkx] at hkl ⊢
  refine Zerun ?_
  (refine RW.lit T hs (vs := []) rfl rfl rfl rfl (by simp [Value.cells]) rfl rfl rfl rfl rfl ?_; intro b5 w5 hs)
  obtain ⟨h6, hle6, hs, hS6⟩ := hs.freeze
  have haR := ArrR.mono' hR hle6 haR
  have hbR := ArrR.mono' hR hle6 hbR
  have hvb' := hvb'.mono hR hle6
  have hI' := hI'.mono hle6
  refine Zerun ?_
  (refine RW.call T hs rfl rfl rfl (without_con _ _ _ _ _ hI' (by omega)) ?_; intro v h7 w7 hle7 hp7 hs)
  obtain ⟨ur, rfl, ⟨adr, cpr, hur, _⟩⟩ := hp7
  subst hur
  have haR := ArrR.mono' hR hle7 haR
  have hbR := ArrR.mono' hR hle7 hbR
  have hvb' := hvb'.mono hR hle7
  refine Zerun ?_
  (refine RW.call T hs rfl rfl rfl (valueSingle_con _ _ _ _ hbR) ?_; intro v h10 w10 hle10 hp10 hs)
  subst hp10
  rw [decide_eq_true hvl]
  have hbR := ArrR.mono' hR hle10 hbR
  refine Zerun ?_
  (refine RW.call T hs rfl rfl rfl (valueRank_con _ _ _ _ hbR) ?_; intro v h11 w11 hle11 hp11 hs)
  subst hp11
  rw [show ((([] : List Int).length : Nat) : Int) = 0 from rfl]
  have hvb' := hvb'.mono hR (hle10.trans hle11)
  refine Zerun ?_
  (refine RW.call T hs rfl rfl rfl (vecWholes_con hR _ vb _ _ hvb' (by omega)) ?_; intro v h12 w12 hle12 hp12 hs)
  obtain ⟨sl, rfl, hK⟩ := hp12
  rw [if_pos hkb, hnums] at hK
  rw [decide_eq_true hkb]
  have hK : KAt .i64 h12 sl [by_] := by rw [← hw]; exact hK
  obtain ⟨adl, cpl, rfl, hSl⟩ := hK
  have haR := ArrR.mono' hR ((hle10.trans hle11).trans hle12) haR
  refine Zerun ?_
  have hv' := (show VecAt R h12 _ a.vec from by obtain ⟨_, _, e, _, v⟩ := haR; cases e; exact v)
  (refine RW.call T hs rfl rfl rfl (vecLen_con _ a.vec _ _ hv') ?_; intro v h13 w13 hle13 hp13 hs)
  subst hp13
  have haR := ArrR.mono' hR hle13 haR
  have hSl := hSl.mono hle13
  by_cases c2 : a.vec.len = 0
  · refine Zerun ?_
    refine RW.storeAll T hs 0 rfl rfl rfl rfl rfl rfl hall rfl ?_
    intro w20 hs
    refine Zerun ?_
    exact retQ_ret [_, _] h13 ⟨resN T hs 0 rfl rfl rfl rfl rfl rfl, rfl, trivial⟩ hs.dropAll ⟨_, rfl, fun _ => haR, fun _ e => by omega⟩
  obtain ⟨o, d, i, hsp, hd, hod, hod0⟩ := split_axis hp (by omega) hkl
  have hdB : d ≤ 1048576 := by
    have h3 : d ≤ o * d := Nat.le_mul_of_pos_left d hod0.1
    have h4 : o * d ≤ o * d * i := Nat.le_mul_of_pos_right _ hod0.2.2
    omega
  have hI13 : IntsAt h13 (.slice ad a.shape.length cp) a.shape := by obtain ⟨_, _, e, i, _⟩ := haR; cases e; exact i
  refine Zerun ?_
  (refine RW.call T hs rfl rfl rfl (split_con _ _ _ _ _ hI13 (by omega)) ?_; intro v h14 w14 hle14 hp14 hs)
  subst hp14
  rw [hsp]
  have haR := ArrR.mono' hR hle14 haR
  have hSl := hSl.mono hle14
  refine Zerun ?_
  refine CW.regionG T 1 1 hs rfl rfl ?_
  intro w15 hs
  have hgl := GLe.refl h14
  refine HW.takeG (fuel := 9) 0 rfl (fun _ _ ka kb _ hg hs hka hkb => Y.loadRowN T hs ka hka rfl rfl rfl rfl rfl rfl) ⟨_, _, 1, 1, hgl, hs, rfl, rfl⟩ rfl (by kernel_rfl) (by kernel_rfl) (by kernel_rfl) ?_
  refine HW.takeG (fuel := 8) 1 rfl (fun _ _ ka kb _ hg hs hka hkb => Y.move rfl) ⟨_, _, 1, 1, hgl, hs, rfl, rfl⟩ rfl (by kernel_rfl) (by kernel_rfl) (by kernel_rfl) ?_
  refine HW.takeG (fuel := 7) 2 rfl (fun _ _ ka kb _ hg hs hka hkb => Y.move rfl) ⟨_, _, 1, 1, hgl, hs, rfl, rfl⟩ rfl (by kernel_rfl) (by kernel_rfl) (by kernel_rfl) ?_
  refine HW.takeG (fuel := 6) 3 rfl (fun _ _ ka kb _ hg hs hka hkb => Y.move rfl) ⟨_, _, 1, 1, hgl, hs, rfl, rfl⟩ rfl (by kernel_rfl) (by kernel_rfl) (by kernel_rfl) ?_
  refine HW.takeG (fuel := 5) 4 rfl (fun _ _ ka kb _ hg hs hka hkb => Y.idxSN (u := 0) T rfl rfl (hSl.mono hg) rfl rfl rfl (show 0 < 1 from Nat.one_pos)) ⟨_, _, 1, 1, hgl, hs, rfl, rfl⟩ rfl (by kernel_rfl) (by kernel_rfl) (by kernel_rfl) ?_
  refine HW.takeG (fuel := 4) 5 rfl (fun _ _ ka kb _ hg hs hka hkb => Y.ldInt (l := [by_]) T hs rfl (hSl.mono hg) rfl rfl (show 0 < 1 from Nat.one_pos)) ⟨_, _, 1, 1, hgl, hs, rfl, rfl⟩ rfl (by kernel_rfl) (by kernel_rfl) (by kernel_rfl) ?_
  refine HW.one (fuel := 3) 6 rfl (by kernel_rfl) ?_
  (refine RW.call T hs rfl rfl rfl (pickRolled_con d by_ _ _ hdB) ?_; intro v h114 w114 hle114 hp114 hs)
  obtain ⟨ad114, cp114, rfl, _⟩ := id hp114
  have haR := ArrR.mono' hR hle114 haR
  have hgl := hgl.trans hle114
  refine RW.nil ?_
  refine heldQ_normal ⟨_, _, 1, 1, hgl, hs, rfl, rfl⟩ ?_
  refine HW.one (fuel := 2) 7 rfl (by kernel_rfl) ?_
  (refine RW.call T hs rfl rfl rfl (turnAlong_con hR h1 h9 nb hbl _ a _ kx o d i (rolledL d by_) _ _ haR hp114 hp (by omega) hsp hod hod0 (rolledL_len d by_) hvm hk0) ?_; intro v h115 w115 hle115 hp115 hs)
  obtain ⟨cs115, rfl, ha115⟩ := hp115
  have ha115' := ha115
  obtain ⟨s8, vc8, rfl, ⟨ad8, cp8, rfl, _⟩, hv8⟩ := ha115
  obtain ⟨wv6, nv6, sm6, il6, fl6, ch6, bx6, ⟨rfl, hoc6⟩, _⟩ := hv8
  have hgl := hgl.trans hle115
  refine RW.nil ?_
  refine heldQ_normal ⟨_, _, 1, 1, hgl, hs, rfl, rfl⟩ ?_
  refine HW.one (fuel := 1) 8 rfl (by kernel_rfl) ?_
  refine RW.storeAll T hs 0 rfl rfl rfl rfl rfl rfl (show (Value.oneCell' (.slice ad8 a.shape.length cp8) && (vecCells (a.vec.pick (alongL o d i (rolledL d by_)) nb).kind wv6 nv6 sm6 il6 fl6 ch6 bx6).all Value.oneCell') = true by rw [hoc6]; rfl) rfl ?_
  intro w116 hs
  refine RW.nil ?_
  refine heldQ_normal ⟨_, _, 1, 1, hgl, hs, rfl, rfl⟩ ?_
  refine HW.takeG (fuel := 0) 9 rfl (fun _ _ ka kb _ hg hs hka hkb => Y.assign rfl) ⟨_, _, 1, 1, hgl, hs, rfl, rfl⟩ rfl (by kernel_rfl) (by kernel_rfl) (by kernel_rfl) ?_
  refine HW.done (by kernel_rfl) ?_
  refine calmQ_normal ?_
  refine Zerun ?_
  refine retQ_ret [_, _] h115 ⟨resN T hs 0 rfl rfl rfl rfl rfl rfl, rfl, trivial⟩ hs.dropAll ⟨_, rfl, fun e => absurd e (by omega), fun _ _ o' d' i' hsp' => ?_⟩
  obtain ⟨rfl, rfl, rfl⟩ := split_inj hsp hsp'
  exact ha115'
end
end Go.Proofs.Ythbfkhklihejiaa

/-
  Contracts of functions of package value: arrays made of elements, a number, a character, a box alone. No statement is proved here.
-/
namespace Go.Proofs.Ythbfkhklihejiaa
open Go Go.RowKit
set_option linter.unusedVariables false
set_option linter.unusedSimpArgs false
set_option maxHeartbeats 4000000
attribute [local irreducible] CW RW QW SW HW ConM retM heldQ calmQ elemP thenQ blockQ loopQ joinQ retQ Yields Con Sl zF magR unitF truncF fwF wholeF tidySpec elemQ rankF leastN tidyW

section
variable {α : Type} {R : GHeap → List Value → α → Prop}
/-- what is wrong with elements of a shape -/
def newE (l : List Int) (v : VecD α) : Int := if (product l 1048576).2 ≠ 0 then (product l 1048576).2 else if v.kind = 0 then 1 else if (product l 1048576).1 ≠ v.len then 23 else 0
theorem valueNew_con (hR : Mono R) (s : Value) (l : List Int) (cs : List Value) (v : VecD α) (w : World) (h : GHeap) (hl : IntsAt h s l) (hv : VecAt R h cs v) : Con Try.prog 62 [s, .agg cs.toArray] w h (OfPost (ArrR R) (newE l v) ⟨l, v.sq⟩) := by
  have hl' := hl
  obtain ⟨ad, cp, rfl, hS⟩ := hl
  have hsl : l.length ≤ 9223372036854775807 := by have := hS.caps; omega
  have hv' := hv
  obtain ⟨wv, nv, sm, il, fl, ch, bx, ⟨rfl, hoc⟩, hk⟩ := hv
  clear hk
  unfold newE
  refine Con.of_body Try.func62 rfl Try.ntmps62 rfl rfl ?_
  intro hs
  refine Zrun ?_
  (refine RW.boxN hs rfl rfl ?_; intro b1 w1 hs)
  (refine RW.allocN T hs rfl rfl rfl rfl ?_; intro b2 w2 hs)
  refine Zerun ?_
  (refine RW.call T hs rfl rfl rfl (product_con _ l 1048576 _ _ hl' hsl) ?_; intro v h3 w3 hle3 hp3 hs)
  subst hp3
  have hl' := hl'.mono hle3
  have hv' := hv'.mono hR hle3
  generalize hpr : product l 1048576 = r
  obtain ⟨n, e⟩ := r
  dsimp only
  by_cases c1 : e ≠ 0
  · rw [if_pos c1]
    refine Zerun ?_
    refine RW.val (Y.build T rfl rfl rfl rfl rfl rfl rfl) rfl ?_
    refine Zerun ?_
    (refine RW.storeAll T hs 0 rfl rfl rfl rfl rfl rfl rfl rfl ?_; intro w4 hs)
    refine Zerun ?_
    exact retQ_ret [_, _] h3 ⟨resN T hs 0 rfl rfl rfl rfl rfl rfl, rfl, trivial⟩ hs.dropAll (OfPost.bad c1)
  rw [if_neg c1]
  refine Zerun ?_
  (refine RW.call T hs rfl rfl rfl (vecKind_con _ v _ _ hv') ?_; intro v h4 w4 hle4 hp4 hs)
  subst hp4
  have hl' := hl'.mono hle4
  have hv' := hv'.mono hR hle4
  by_cases c2 : v.kind = 0
  · rw [if_pos c2]
    refine Zerun ?_
    refine RW.val (Y.build T rfl rfl rfl rfl rfl rfl rfl) rfl ?_
    (refine RW.storeAll T hs 0 rfl rfl rfl rfl rfl rfl rfl rfl ?_; intro w5 hs)
    refine Zerun ?_
    exact retQ_ret [_, _] h4 ⟨resN T hs 0 rfl rfl rfl rfl rfl rfl, rfl, trivial⟩ hs.dropAll (OfPost.bad (by omega))
  rw [if_neg c2]
  refine Zerun ?_
  (refine RW.call T hs rfl rfl rfl (vecLen_con _ v _ _ hv') ?_; intro v h5 w5 hle5 hp5 hs)
  subst hp5
  have hl' := hl'.mono hle5
  have hv' := hv'.mono hR hle5
  by_cases c3 : n ≠ v.len
  · rw [if_pos c3]
    refine Zerun ?_
    refine RW.val (Y.build T rfl rfl rfl rfl rfl rfl rfl) rfl ?_
    (refine RW.storeAll T hs 0 rfl rfl rfl rfl rfl rfl rfl rfl ?_; intro w6 hs)
    refine Zerun ?_
    exact retQ_ret [_, _] h5 ⟨resN T hs 0 rfl rfl rfl rfl rfl rfl, rfl, trivial⟩ hs.dropAll (OfPost.bad (by omega))
  rw [if_neg c3]
  have hpr2 : product l 1048576 = ((v.len : Int), 0) := by rw [hpr, Decidable.of_not_not c1, Decidable.of_not_not c3]
  have hln := product_le hpr2
  have hlen := hln.2
  refine Zerun ?_
  refine CW.regionH T (fun w' : World => ∃ (h' : GHeap) (O : List Row) (k : Nat), Sees w h h' O w' ∧ O[k]? = some (Row.mk (some ⟨b1, 0, none⟩) 1 1 61 8 (vecCells v.kind wv nv sm il fl ch bx))) ?_
  rintro w4 rfl
  have hs := hs.drew
  refine HW.take (fuel := 6) 0 rfl (v := .slice ad l.length cp) ?_ ?_ rfl (by kernel_rfl) (by kernel_rfl) (by kernel_rfl) ?_
  · intro w' _; exact Y.move rfl
  · exact ⟨_, _, 1, hs, rfl⟩
  refine HW.take (fuel := 5) 2 rfl (v := .agg (vecCells v.kind wv nv sm il fl ch bx).toArray) ?_ ?_ rfl (by kernel_rfl) (by kernel_rfl) (by kernel_rfl) ?_
  · rintro w' ⟨h', O, k, hs', e0⟩; exact Y.loadRowN T hs' k e0 rfl rfl rfl rfl rfl rfl
  · exact ⟨_, _, 1, hs, rfl⟩
  refine HW.one (fuel := 4) 1 rfl (by kernel_rfl) ?_
  (refine RW.call T hs rfl rfl rfl (cloneInts_con _ l _ _ hl' (by omega)) ?_; intro v h5 w5 hle5 hp5 hs)
  have hl5 := hp5
  obtain ⟨ad5, cp5, rfl, _⟩ := hp5
  have hv' := hv'.mono hR hle5
  refine RW.nil ?_
  refine heldQ_normal ⟨_, _, 1, hs, rfl⟩ ?_
  refine HW.one (fuel := 3) 3 rfl (by kernel_rfl) ?_
  (refine RW.call T hs rfl rfl rfl (sqSqueeze_con hR _ v _ _ hv' hlen) ?_; intro v h6 w6 hle6 hp6 hs)
  obtain ⟨cs6, rfl, hv6⟩ := hp6
  have hl5 := hl5.mono hle6
  have hv6' := hv6
  obtain ⟨wv', nv', sm', il', fl', ch', bx', ⟨rfl, hoc6⟩, _⟩ := hv6
  generalize v.sq.kind = vk at *
  refine RW.nil ?_
  refine heldQ_normal ⟨_, _, 1, hs, rfl⟩ ?_
  refine HW.take (fuel := 2) 4 rfl (v := .agg (.slice ad5 l.length cp5 :: vecCells vk wv' nv' sm' il' fl' ch' bx').toArray) ?_ ?_ rfl (by kernel_rfl) (by kernel_rfl) (by kernel_rfl) ?_
  · intro w' _; exact Y.build T rfl rfl rfl rfl rfl rfl rfl
  · exact ⟨_, _, 1, hs, rfl⟩
  refine HW.one (fuel := 1) 5 rfl (by kernel_rfl) ?_
  (refine RW.storeAll T hs 0 rfl rfl rfl rfl rfl rfl hoc6 rfl ?_; intro w7 hs)
  refine RW.nil ?_
  refine heldQ_normal ⟨_, _, 1, hs, rfl⟩ ?_
  refine HW.one (fuel := 0) 6 rfl (by kernel_rfl) ?_
  refine RW.val (Y.assign rfl) rfl ?_
  refine RW.nil ?_
  refine heldQ_normal ⟨_, _, 1, hs, rfl⟩ ?_
  refine HW.done (by kernel_rfl) ?_
  refine calmQ_normal ?_
  refine Zerun ?_
  refine retQ_ret [_, _] h6 ⟨resN T hs 0 rfl rfl rfl rfl rfl rfl, rfl, trivial⟩ hs.dropAll ⟨_, rfl, rfl, ?_, fun _ => ⟨_, _, rfl, hl5, hv6'⟩, fun e => absurd rfl e⟩
  intro u hu
  rcases List.mem_cons.1 hu with rfl | hu
  · rfl
  · exact List.all_eq_true.1 hoc6 u hu
theorem valueList_con (hR : Mono R) (cs : List Value) (v : VecD α) (w : World) (h : GHeap) (hv : VecAt R h cs v) (hm : v.len ≤ 1048576) : Con Try.prog 59 [.agg cs.toArray] w h (fun h' u => ∃ cs', u = .agg cs'.toArray ∧ ArrR R h' cs' ⟨[(v.len : Int)], v.sq⟩) := by
  have hv' := hv
  obtain ⟨wv, nv, sm, il, fl, ch, bx, ⟨rfl, hoc⟩, hk⟩ := hv
  clear hk
  refine Con.of_body Try.func59 rfl Try.ntmps59 rfl rfl ?_
  intro hs
  refine Zrun ?_
  (refine RW.boxN hs rfl rfl ?_; intro b1 w1 hs)
  (refine RW.allocN T hs rfl rfl rfl rfl ?_; intro b2 w2 hs)
  refine Zerun ?_
  refine CW.regionH T (fun w' : World => ∃ (h' : GHeap) (O : List Row) (k : Nat), Sees w h h' O w' ∧ O[k]? = some (Row.mk (some ⟨b1, 0, none⟩) 1 1 61 8 (vecCells v.kind wv nv sm il fl ch bx))) ?_
  rintro w4 rfl
  have hs := hs.drew
  refine HW.take (fuel := 6) 0 rfl (v := .agg (vecCells v.kind wv nv sm il fl ch bx).toArray) ?_ ?_ rfl (by kernel_rfl) (by kernel_rfl) (by kernel_rfl) ?_
  · rintro w' ⟨h', O, k, hs', e0⟩; exact Y.loadRowN T hs' k e0 rfl rfl rfl rfl rfl rfl
  · exact ⟨_, _, 1, hs, rfl⟩
  refine HW.take (fuel := 5) 3 rfl (v := .agg (vecCells v.kind wv nv sm il fl ch bx).toArray) ?_ ?_ rfl (by kernel_rfl) (by kernel_rfl) (by kernel_rfl) ?_
  · rintro w' ⟨h', O, k, hs', e0⟩; exact Y.loadRowN T hs' k e0 rfl rfl rfl rfl rfl rfl
  · exact ⟨_, _, 1, hs, rfl⟩
  refine HW.one (fuel := 4) 1 rfl (by kernel_rfl) ?_
  (refine RW.call T hs rfl rfl rfl (vecLen_con _ v _ _ hv') ?_; intro v h5 w5 hle5 hp5 hs)
  subst hp5
  have hv' := hv'.mono hR hle5
  refine RW.nil ?_
  refine heldQ_normal ⟨_, _, 1, hs, rfl⟩ ?_
  refine HW.two (fuel := 3) 2 4 rfl rfl (by kernel_rfl) ?_ ?_
  · (refine RW.lit T hs (vs := [.int .i64 v.len]) (cs := [.int .i64 v.len]) rfl rfl rfl rfl (by simp [Value.cells]) rfl rfl rfl rfl rfl ?_; intro b7 w7 hs)
    refine RW.nil ?_
    refine heldQ_normal ⟨_, _, 2, hs, rfl⟩ ?_
    refine HW.one (fuel := 2) 4 rfl (by kernel_rfl) ?_
    (refine RW.call T hs rfl rfl rfl (sqSqueeze_con hR _ v _ _ hv' hm) ?_; intro v h6 w6 hle6 hp6 hs)
    obtain ⟨cs6, rfl, hv6⟩ := hp6
    have hv6' := hv6
    obtain ⟨wv', nv', sm', il', fl', ch', bx', ⟨rfl, hoc6⟩, _⟩ := hv6
    generalize v.sq.kind = vk at *
    refine RW.nil ?_
    refine heldQ_normal ⟨_, _, 2, hs, rfl⟩ ?_
    refine HW.take (fuel := 1) 5 rfl (v := .agg (.slice (some ⟨b7, 0, none⟩) 1 1 :: vecCells vk wv' nv' sm' il' fl' ch' bx').toArray) ?_ ?_ rfl (by kernel_rfl) (by kernel_rfl) (by kernel_rfl) ?_
    · intro w' _; exact Y.build T rfl rfl rfl rfl rfl rfl rfl
    · exact ⟨_, _, 2, hs, rfl⟩
    refine HW.one (fuel := 0) 6 rfl (by kernel_rfl) ?_
    (refine RW.storeAll T hs 1 rfl rfl rfl rfl rfl rfl hoc6 rfl ?_; intro w8 hs)
    refine RW.nil ?_
    refine heldQ_normal ⟨_, _, 2, hs, rfl⟩ ?_
    refine HW.done (by kernel_rfl) ?_
    refine calmQ_normal ?_
    refine Zerun ?_
    obtain ⟨h9, hle9, hs, hS9⟩ := hs.freeze
    exact retQ_ret [_] h9 ⟨resN T hs 0 rfl rfl rfl rfl rfl rfl, trivial⟩ hs.dropAll ⟨_, rfl, _, _, rfl, IntsAt.of_sl hS9, hv6'.mono hR hle9⟩
  · (refine RW.call T hs rfl rfl rfl (sqSqueeze_con hR _ v _ _ hv' hm) ?_; intro v h6 w6 hle6 hp6 hs)
    obtain ⟨cs6, rfl, hv6⟩ := hp6
    have hv6' := hv6
    obtain ⟨wv', nv', sm', il', fl', ch', bx', ⟨rfl, hoc6⟩, _⟩ := hv6
    generalize v.sq.kind = vk at *
    refine RW.nil ?_
    refine heldQ_normal ⟨_, _, 1, hs, rfl⟩ ?_
    refine HW.one (fuel := 2) 2 rfl (by kernel_rfl) ?_
    (refine RW.lit T hs (vs := [.int .i64 v.len]) (cs := [.int .i64 v.len]) rfl rfl rfl rfl (by simp [Value.cells]) rfl rfl rfl rfl rfl ?_; intro b7 w7 hs)
    refine RW.nil ?_
    refine heldQ_normal ⟨_, _, 2, hs, rfl⟩ ?_
    refine HW.take (fuel := 1) 5 rfl (v := .agg (.slice (some ⟨b7, 0, none⟩) 1 1 :: vecCells vk wv' nv' sm' il' fl' ch' bx').toArray) ?_ ?_ rfl (by kernel_rfl) (by kernel_rfl) (by kernel_rfl) ?_
    · intro w' _; exact Y.build T rfl rfl rfl rfl rfl rfl rfl
    · exact ⟨_, _, 2, hs, rfl⟩
    refine HW.one (fuel := 0) 6 rfl (by kernel_rfl) ?_
    (refine RW.storeAll T hs 1 rfl rfl rfl rfl rfl rfl hoc6 rfl ?_; intro w8 hs)
    refine RW.nil ?_
    refine heldQ_normal ⟨_, _, 2, hs, rfl⟩ ?_
    refine HW.done (by kernel_rfl) ?_
    refine calmQ_normal ?_
    refine Zerun ?_
    obtain ⟨h9, hle9, hs, hS9⟩ := hs.freeze
    exact retQ_ret [_] h9 ⟨resN T hs 0 rfl rfl rfl rfl rfl rfl, trivial⟩ hs.dropAll ⟨_, rfl, _, _, rfl, IntsAt.of_sl hS9, hv6'.mono hR hle9⟩
theorem valueNum_con (hR : Mono R) (x : Nat) (w : World) (h : GHeap) (hx : x < 18446744073709551616) : Con Try.prog 53 [.float .f64 x] w h (fun h' u => ∃ cs', u = .tuple #[.agg cs'.toArray, .bool (decide (finF x))] ∧ ArrR R h' cs' ⟨[], if finF x then ⟨leastN [tidyW x], [tidyW x], [], []⟩ else VecD.none⟩) := by
  refine Con.of_body Try.func53 rfl Try.ntmps53 rfl rfl ?_
  intro hs
  refine Zrun ?_
  (refine RW.allocN T hs rfl rfl rfl rfl ?_; intro b1 w1 hs)
  refine Zerun ?_
  (refine RW.lit T hs (vs := [.float .f64 x]) (cs := [.float .f64 x]) rfl rfl rfl rfl (by simp [Value.cells]) rfl rfl rfl rfl rfl ?_; intro b2 w2 hs)
  obtain ⟨h3, hle3, hs, hS3⟩ := hs.freeze
  have hF3 : FAt h3 (.slice (some ⟨b2, 0, none⟩) 1 1) [x] := RowAt.of_sl hS3
  (refine RW.call T hs rfl rfl rfl (sqNumbers_con (R := R) hR _ [x] _ _ hF3 (by intro u hu; rw [List.mem_singleton.1 hu]; exact hx) (by simp)) ?_; intro v h4 w4 hle4 hp4 hs)
  obtain ⟨cs4, ok, rfl, hok, hv4⟩ := hp4
  have hok : ok = decide (finF x) := by rw [hok]; exact decide_eq_decide.2 ⟨fun e => e x (by simp), fun e u hu => by rw [List.mem_singleton.1 hu]; exact e⟩
  have hv4' := hv4
  obtain ⟨wv, nv, sm, il, fl, ch, bx, ⟨hcs4, hoc4⟩, _⟩ := hv4
  generalize hvk : (if ok = true then (⟨leastN ([x].map tidyW), [x].map tidyW, [], []⟩ : VecD α) else VecD.none).kind = vk at hcs4
  subst hcs4
  refine Zerun ?_
  (refine RW.allocN T hs rfl rfl rfl rfl ?_; intro b5 w5 hs)
  (refine RW.storeAll T hs 0 rfl rfl rfl rfl rfl rfl hoc4 rfl ?_; intro w6 hs)
  refine Zerun ?_
  by_cases hf : finF x
  · rw [decide_eq_true hf] at hok ⊢
    subst hok
    refine Zerun ?_
    refine RW.val (Y.build T rfl rfl rfl rfl rfl rfl rfl) rfl ?_
    (refine RW.storeAll T hs 1 rfl rfl rfl rfl rfl rfl hoc4 rfl ?_; intro w7 hs)
    refine Zerun ?_
    refine retQ_ret [_, _] h4 ⟨resN T hs 1 rfl rfl rfl rfl rfl rfl, rfl, trivial⟩ hs.dropAll ⟨_, rfl, _, _, rfl, RowAt.nil _, ?_⟩
    rw [if_pos hf]
    exact hv4'
  · rw [decide_eq_false hf] at hok ⊢
    subst hok
    refine Zerun ?_
    refine RW.val (Y.build T rfl rfl rfl rfl rfl rfl rfl) rfl ?_
    (refine RW.storeAll T hs 1 rfl rfl rfl rfl rfl rfl rfl rfl ?_; intro w7 hs)
    refine Zerun ?_
    refine retQ_ret [_, _] h4 ⟨resN T hs 1 rfl rfl rfl rfl rfl rfl, rfl, trivial⟩ hs.dropAll ⟨_, rfl, _, _, rfl, RowAt.nil _, ?_⟩
    rw [if_neg hf]
    exact vecNone h4
theorem valueChar_con (c : Int) (w : World) (h : GHeap) : Con Try.prog 54 [.int .i32 c] w h (fun h' u => ∃ cs', u = .agg cs'.toArray ∧ ArrR R h' cs' ⟨[], ⟨5, [], [c], []⟩⟩) := by
  refine Con.of_body Try.func54 rfl Try.ntmps54 rfl rfl ?_
  intro hs
  refine Zrun ?_
  (refine RW.allocN T hs rfl rfl rfl rfl ?_; intro b1 w1 hs)
  refine Zerun ?_
  (refine RW.lit T hs (vs := [.int .i32 c]) (cs := [.int .i32 c]) rfl rfl rfl rfl (by simp [Value.cells]) rfl rfl rfl rfl rfl ?_; intro b2 w2 hs)
  obtain ⟨h3, hle3, hs, hS3⟩ := hs.freeze
  have hC3 : KAt .i32 h3 (.slice (some ⟨b2, 0, none⟩) 1 1) [c] := RowAt.of_sl hS3
  (refine RW.call T hs rfl rfl rfl (vecChars_con (R := R) _ [c] _ _ hC3 (by simp)) ?_; intro v h4 w4 hle4 hp4 hs)
  obtain ⟨cs4, rfl, hv4⟩ := hp4
  have hv4' := hv4
  obtain ⟨wv, nv, sm, il, fl, ch, bx, ⟨rfl, hoc4⟩, _⟩ := hv4
  refine RW.val (Y.build T rfl rfl rfl rfl rfl rfl rfl) rfl ?_
  (refine RW.storeAll T hs 0 rfl rfl rfl rfl rfl rfl hoc4 rfl ?_; intro w5 hs)
  refine Zerun ?_
  exact retQ_ret [_] h4 ⟨resN T hs 0 rfl rfl rfl rfl rfl rfl, trivial⟩ hs.dropAll ⟨_, rfl, _, _, rfl, RowAt.nil _, hv4'⟩
theorem valueBox_con (hR : Mono R) (h1 : One R) (h9 : Siz 9 R) (cs : List Value) (a : α) (w : World) (h : GHeap) (ha : R h cs a) : Con Try.prog 55 [.agg cs.toArray] w h (fun h' u => ∃ cs', u = .agg cs'.toArray ∧ ArrR R h' cs' ⟨[], ⟨6, [], [], [a]⟩⟩) := by
  have hl9 := h9 _ _ _ ha
  refine Con.of_body Try.func55 rfl Try.ntmps55 rfl rfl ?_
  intro hs
  refine Zrun ?_
  (refine RW.boxN hs rfl rfl ?_; intro b1 w1 hs)
  (refine RW.allocN T hs rfl rfl rfl rfl ?_; intro b2 w2 hs)
  refine Zerun ?_
  refine RW.val (Y.loadRowN (cs := cs) T hs 1 rfl rfl rfl rfl rfl (List.take_of_length_le (by rw [List.drop_zero]; exact Nat.le_of_eq hl9)) hl9) rfl ?_
  (refine RW.lit T hs (vs := [.agg cs.toArray]) (cs := cs) rfl rfl rfl rfl (by simp [Value.cells, hl9]) rfl (by simp [Value.cells]) rfl rfl rfl ?_; intro b3 w3 hs)
  obtain ⟨h4, hle4, hs, hS4⟩ := hs.freeze
  have hB4 : RowsAt 9 (R h4) h4 (.slice (some ⟨b3, 0, none⟩) 1 1) [a] := RowsAt.single hS4 (hR _ _ _ _ hle4 ha)
  (refine RW.call T hs rfl rfl rfl (vecBoxes_con (R := R) hR h1 _ [a] _ _ hB4 (by simp)) ?_; intro v h5 w5 hle5 hp5 hs)
  obtain ⟨cs5, rfl, hv5⟩ := hp5
  have hv5' := hv5
  obtain ⟨wv, nv, sm, il, fl, ch, bx, ⟨rfl, hoc5⟩, _⟩ := hv5
  refine RW.val (Y.build T rfl rfl rfl rfl rfl rfl rfl) rfl ?_
  (refine RW.storeAll T hs 0 rfl rfl rfl rfl rfl rfl hoc5 rfl ?_; intro w6 hs)
  refine Zerun ?_
  exact retQ_ret [_] h5 ⟨resN T hs 0 rfl rfl rfl rfl rfl rfl, trivial⟩ hs.dropAll ⟨_, rfl, _, _, rfl, RowAt.nil _, hv5'⟩
end
end Go.Proofs.Ythbfkhklihejiaa

/-
  Contracts of the law's own functions of layer 7: which shapes elements can have. No statement is proved here.
-/
namespace Go.Proofs.Ythbfkhklihejiaa
open Go Go.RowKit
set_option linter.unusedVariables false
set_option linter.unusedSimpArgs false
set_option maxHeartbeats 4000000
attribute [local irreducible] CW RW QW SW HW ConM retM heldQ calmQ elemP thenQ blockQ loopQ joinQ retQ Yields Con Sl zF magR unitF truncF fwF wholeF tidySpec elemQ rankF leastN tidyW

/-- the plain array of numbers -/
def numsP {α : Type} (l : List Nat) : PlainD α := ⟨[(l.length : Int)], l.map fun x => ⟨0, x, 0, []⟩, 0⟩
theorem refNums_con {α : Type} {R : GHeap → List Value → α → Prop} (hR : Mono R) (s : Value) (l : List Nat) (w : World) (h : GHeap) (hl : FAt h s l) (hx : ∀ u ∈ l, u < 18446744073709551616) (hm : l.length ≤ 1048576) : Con Try.prog 60 [s] w h (fun h' u => ∃ cs', u = .agg cs'.toArray ∧ PlainR R h' cs' (numsP l)) := by
  obtain ⟨ad, cp, rfl, hS⟩ := hl
  refine Con.of_body Try.func60 rfl Try.ntmps60 rfl rfl ?_
  intro hs
  refine Zrun ?_
  (refine RW.allocN T hs rfl rfl rfl rfl ?_; intro b1 w1 hs)
  refine Zerun ?_
  (refine RW.lit T hs (vs := [.int .i64 l.length]) (cs := [.int .i64 l.length]) rfl rfl rfl rfl (by simp [Value.cells]) rfl rfl rfl rfl rfl ?_; intro b2 w2 hs)
  obtain ⟨h3, hle3, hs, hS3⟩ := hs.freeze
  have hI3 : IntsAt h3 (.slice (some ⟨b2, 0, none⟩) 1 1) [(l.length : Int)] := IntsAt.of_sl hS3
  refine RW.val (Y.build T rfl rfl rfl rfl rfl rfl rfl) rfl ?_
  (refine RW.allocN T hs rfl rfl rfl rfl ?_; intro b3 w3 hs)
  (refine RW.storeAll T hs 0 rfl rfl rfl rfl rfl rfl rfl rfl ?_; intro w4 hs)
  refine Zerun ?_
  have hs := hs.nilRow 83 4
  refine CW.loop (fun u : Nat × Option Addr × Nat × List Value => [(0, .slice ad l.length cp), (2, .pointer (some ⟨b1, 0, none⟩)), (3, .pointer (some ⟨b3, 0, none⟩)), (4, .int .i64 u.1)]) (fun u w' => u.1 ≤ l.length ∧ AllN 4 (ItemAt R h3) u.2.2.2 ((l.take u.1).map fun x => ⟨0, x, 0, []⟩) ∧ Sees w h h3 [⟨u.2.1, u.1, u.2.2.1, 83, 4, u.2.2.2⟩, ⟨some ⟨b3, 0, none⟩, 1, 1, 50, 3, [.slice (some ⟨b2, 0, none⟩) 1 1, .slice u.2.1 u.1 u.2.2.1, .int .i64 0]⟩, ⟨some ⟨b1, 0, none⟩, 1, 1, 50, 3, [.slice none 0 0, .slice none 0 0, .int .i64 0]⟩] w') (fun u => l.length - u.1) (0, none, 0, []) ⟨rfl, rfl, rfl, rfl, trivial⟩ ⟨by omega, rfl, hs⟩ ?_
  rintro ⟨i, ra, rc, vs⟩ w5 ⟨hi, hAv, hs⟩
  dsimp only at hi hAv hs ⊢
  by_cases hlt : i < l.length
  · have htk := take_succ_getD l i 0 hlt
    refine Zerun ?_
    refine CW.regionH T (fun w' : World => ∃ (h' : GHeap) (O : List Row), Sees w h h' O w') ?_
    rintro w7 rfl
    have hs := hs.drew
    refine HW.take (fuel := 10) 0 rfl (v := .pointer (some ⟨b3, 0 + 1, none⟩)) ?_ ?_ rfl (by kernel_rfl) (by kernel_rfl) (by kernel_rfl) ?_
    · intro w' _; exact Y.fieldAddr T rfl rfl rfl rfl rfl
    · exact ⟨_, _, hs⟩
    refine HW.take (fuel := 9) 2 rfl (v := .slice ad l.length cp) ?_ ?_ rfl (by kernel_rfl) (by kernel_rfl) (by kernel_rfl) ?_
    · intro w' _; exact Y.move rfl
    · exact ⟨_, _, hs⟩
    refine HW.take (fuel := 8) 3 rfl (v := .int .i64 i) ?_ ?_ rfl (by kernel_rfl) (by kernel_rfl) (by kernel_rfl) ?_
    · intro w' _; exact Y.move rfl
    · exact ⟨_, _, hs⟩
    refine HW.take (fuel := 7) 4 rfl (v := elemP ad i 1) ?_ ?_ rfl (by kernel_rfl) (by kernel_rfl) (by kernel_rfl) ?_
    · rintro w' ⟨h', O, hs'⟩; exact Y.idxSN T rfl rfl (hS.mono hs'.le) rfl rfl rfl hlt
    · exact ⟨_, _, hs⟩
    refine HW.take (fuel := 6) 5 rfl (v := .float .f64 (l.getD i 0)) ?_ ?_ rfl (by kernel_rfl) (by kernel_rfl) (by kernel_rfl) ?_
    · rintro w' ⟨h', O, hs'⟩; exact Y.ldS T hs' rfl (hS.mono hs'.le) rfl rfl hlt (map_get _ _ _ _ hlt)
    · exact ⟨_, _, hs⟩
    refine HW.take (fuel := 5) 6 rfl (v := .agg [.int .i64 0, .float .f64 (l.getD i 0), .int .i32 0, .slice none 0 0].toArray) ?_ ?_ rfl (by kernel_rfl) (by kernel_rfl) (by kernel_rfl) ?_
    · intro w' _; exact Y.build T rfl rfl rfl rfl rfl rfl rfl
    · exact ⟨_, _, hs⟩
    refine HW.two (fuel := 4) 1 7 rfl rfl (by kernel_rfl) ?_ ?_
    · refine RW.val (Y.loadRow1 T hs 1 rfl rfl rfl rfl rfl) rfl ?_
      refine RW.nil ?_
      refine heldQ_normal ⟨_, _, hs⟩ ?_
      refine HW.one (fuel := 3) 7 rfl (by kernel_rfl) ?_
      (refine RW.lit T hs (vs := [.agg [.int .i64 0, .float .f64 (l.getD i 0), .int .i32 0, .slice none 0 0].toArray]) (cs := [.int .i64 0, .float .f64 (l.getD i 0), .int .i32 0, .slice none 0 0]) rfl rfl rfl rfl (by simp [Value.cells]) rfl rfl rfl rfl rfl ?_; intro b8 w8 hs)
      refine RW.nil ?_
      refine heldQ_normal ⟨_, _, hs⟩ ?_
      refine HW.one (fuel := 2) 8 rfl (by kernel_rfl) ?_
      (refine RW.append T hs 1 rfl rfl (m := 1) (news := [.int .i64 0, .float .f64 (l.getD i 0), .int .i32 0, .slice none 0 0]) rfl rfl rfl rfl rfl rfl (hs.src0 rfl (by simp [Value.oneCell'])) (by simp) (by dsimp only; omega) (by omega) ?_; intro ad9 cp9 w9 hs; replace hs := hs.drop)
      refine RW.nil ?_
      refine heldQ_normal ⟨_, _, hs⟩ ?_
      refine HW.take (fuel := 1) 9 rfl (v := .pointer (some ⟨b3, 0 + 1, none⟩)) ?_ ?_ rfl (by kernel_rfl) (by kernel_rfl) (by kernel_rfl) ?_
      · intro w' _; exact Y.fieldAddr T rfl rfl rfl rfl rfl
      · exact ⟨_, _, hs⟩
      refine HW.one (fuel := 0) 10 rfl (by kernel_rfl) ?_
      (refine RW.store1 T hs 1 rfl rfl rfl rfl rfl rfl rfl rfl ?_; intro w10 hs)
      refine RW.nil ?_
      refine heldQ_normal ⟨_, _, hs⟩ ?_
      refine HW.done (by kernel_rfl) ?_
      refine calmQ_normal ?_
      refine Zerun ?_
      refine loopQ_round (i + 1, ad9, cp9, _) ⟨rfl, rfl, rfl, rfl, trivial⟩ ⟨by dsimp only; omega, ?_, hs⟩ (by dsimp only; omega)
      dsimp only
      rw [htk, List.map_append]
      exact hAv.append (AllN.one rfl (ItemAt.mk' (x := ⟨0, l.getD i 0, 0, []⟩) (RowsAt.nil _) (hx _ (mem_getD _ _ _ hlt))))
    · (refine RW.lit T hs (vs := [.agg [.int .i64 0, .float .f64 (l.getD i 0), .int .i32 0, .slice none 0 0].toArray]) (cs := [.int .i64 0, .float .f64 (l.getD i 0), .int .i32 0, .slice none 0 0]) rfl rfl rfl rfl (by simp [Value.cells]) rfl rfl rfl rfl rfl ?_; intro b8 w8 hs)
      refine RW.nil ?_
      refine heldQ_normal ⟨_, _, hs⟩ ?_
      refine HW.one (fuel := 3) 1 rfl (by kernel_rfl) ?_
      refine RW.val (Y.loadRow1 T hs 2 rfl rfl rfl rfl rfl) rfl ?_
      refine RW.nil ?_
      refine heldQ_normal ⟨_, _, hs⟩ ?_
      refine HW.one (fuel := 2) 8 rfl (by kernel_rfl) ?_
      (refine RW.append T hs 1 rfl rfl (m := 1) (news := [.int .i64 0, .float .f64 (l.getD i 0), .int .i32 0, .slice none 0 0]) rfl rfl rfl rfl rfl rfl (hs.src0 rfl (by simp [Value.oneCell'])) (by simp) (by dsimp only; omega) (by omega) ?_; intro ad9 cp9 w9 hs; replace hs := hs.drop)
      refine RW.nil ?_
      refine heldQ_normal ⟨_, _, hs⟩ ?_
      refine HW.take (fuel := 1) 9 rfl (v := .pointer (some ⟨b3, 0 + 1, none⟩)) ?_ ?_ rfl (by kernel_rfl) (by kernel_rfl) (by kernel_rfl) ?_
      · intro w' _; exact Y.fieldAddr T rfl rfl rfl rfl rfl
      · exact ⟨_, _, hs⟩
      refine HW.one (fuel := 0) 10 rfl (by kernel_rfl) ?_
      (refine RW.store1 T hs 1 rfl rfl rfl rfl rfl rfl rfl rfl ?_; intro w10 hs)
      refine RW.nil ?_
      refine heldQ_normal ⟨_, _, hs⟩ ?_
      refine HW.done (by kernel_rfl) ?_
      refine calmQ_normal ?_
      refine Zerun ?_
      refine loopQ_round (i + 1, ad9, cp9, _) ⟨rfl, rfl, rfl, rfl, trivial⟩ ⟨by dsimp only; omega, ?_, hs⟩ (by dsimp only; omega)
      dsimp only
      rw [htk, List.map_append]
      exact hAv.append (AllN.one rfl (ItemAt.mk' (x := ⟨0, l.getD i 0, 0, []⟩) (RowsAt.nil _) (hx _ (mem_getD _ _ _ hlt))))
  · obtain rfl : i = l.length := by omega
    rw [List.take_length] at hAv
    obtain ⟨h6, hle6, hs, hS6⟩ := hs.freeze
    refine Zerun ?_
    (refine RW.storeAll T hs 1 rfl rfl rfl rfl rfl rfl rfl rfl ?_; intro w7 hs)
    refine Zerun ?_
    refine retQ_ret [_] h6 ⟨resN T hs 1 rfl rfl rfl rfl rfl rfl, trivial⟩ hs.dropAll ⟨_, rfl, _, _, rfl, hI3.mono hle6, ra, rc, vs, by simp [numsP], ?_, hAv.mono (fun u a => ItemAt.mono hR _ _ u a hle6)⟩
    simpa [numsP] using hS6
/-- numbers of a shape -/
def numsS (s : List Int) (l : List Nat) : PD 1 := (⟨s, l.map fun x => ⟨0, x, 0, []⟩, 0⟩ : PlainD Unit)
theorem numsS_chk (s : List Int) (l : List Nat) (hf : ∀ x ∈ l, finF x) : chk 1 40 (numsS s l) = if (product s 1048576).2 ≠ 0 then (product s 1048576).2 else if (product s 1048576).1 ≠ l.length then 23 else 0 := by
  show chkP (chk 0 39) 40 (⟨s, l.map fun x => ⟨0, x, 0, []⟩, 0⟩ : PlainD (PD 0)) = _
  unfold chkP
  rw [if_neg (by
    rintro (e | e | e)
    · exact absurd e (by decide)
    · exact absurd (show (0 : Int) < 0 from e) (by decide)
    · exact absurd (show (2 : Int) < 0 from e) (by decide))]
  dsimp only
  rw [List.length_map]
  have e : chkIt (chk 0 39) 0 (l.map fun x => (⟨0, x, 0, []⟩ : ItemD (PD 0))) true = 0 := by
    rw [chkIt_ok]
    refine ⟨rfl, fun x hx => ?_⟩
    obtain ⟨y, hy, rfl⟩ := List.mem_map.1 hx
    exact ⟨rfl, fun e => absurd (show (0 : Int) = 2 from e) (by decide), fun _ => hf y hy⟩
  rw [e]
theorem numsS_arr (s : List Int) (l : List Nat) : arr 1 (numsS s l) = (⟨s, ⟨leastN (l.map tidyW), l.map tidyW, [], []⟩⟩ : ArrD (AD 0)) := by
  show (⟨s, arrV (arr 0) 0 (l.map fun x => (⟨0, x, 0, []⟩ : ItemD (PD 0)))⟩ : ArrD (AD 0)) = _
  unfold arrV
  rw [if_neg (by omega), if_neg (by omega), List.map_map]
  rfl
theorem into_kinds {α : Type} (N : List Nat) (k : Int) (h : (VecD.into (⟨4, N, [], []⟩ : VecD α) k).2 = true) : ∃ vk, 1 ≤ vk ∧ vk ≤ 4 ∧ (VecD.into (⟨4, N, [], []⟩ : VecD α) k).1 = ⟨vk, N, [], []⟩ := by
  unfold VecD.into at h ⊢
  by_cases c1 : (⟨4, N, [], []⟩ : VecD α).kind = k
  · rw [if_pos c1]; exact ⟨4, by omega, by omega, rfl⟩
  · rw [if_neg c1] at h ⊢
    have c2 : ¬ ((⟨4, N, [], []⟩ : VecD α).cls ≠ 0 ∨ (⟨4, N, [], []⟩ : VecD α).kind = 0) := by
      intro e
      rcases e with e | e
      · exact e (by simp [VecD.cls])
      · exact absurd (show (4 : Int) = 0 from e) (by decide)
    rw [if_neg c2] at h ⊢
    by_cases c3 : 1 ≤ k ∧ k ≤ 4 ∧ ∀ x ∈ (⟨4, N, [], []⟩ : VecD α).nums, rankF x ≤ k
    · rw [if_pos c3]; exact ⟨k, c3.1, c3.2.1, rfl⟩
    · rw [if_neg c3] at h; cases h
theorem sq_nums {α : Type} (vk : Int) (N : List Nat) (h1 : 1 ≤ vk) (h4 : vk ≤ 4) : (⟨vk, N, [], []⟩ : VecD α).sq = ⟨leastN N, N, [], []⟩ := by
  unfold VecD.sq VecD.cls
  have e5 : ¬ vk = 5 := by omega
  have e6 : ¬ vk = 6 := by omega
  simp only [if_neg e5, if_neg e6]
  rw [if_pos ⟨trivial, by omega⟩]
theorem newE_nums {α : Type} (s : List Int) (vk : Int) (l : List Nat) (h1 : 1 ≤ vk) (hf : ∀ x ∈ l, finF x) : newE s (⟨vk, l.map tidyW, [], []⟩ : VecD α) = chk 1 40 (numsS s l) := by
  rw [numsS_chk s l hf]
  unfold newE VecD.len
  dsimp only
  rw [if_neg (show ¬ vk = 0 by omega)]
  simp
theorem valueNewLaw_con (v0 v1 : Value) (s : List Int) (l : List Nat) (kind : Int) (w : World) (h : GHeap) (hl : IntsAt h v0 s) (hn : FAt h v1 l) (hx : ∀ u ∈ l, u < 18446744073709551616) : Con Try.prog 9 [v0, v1, .int .i64 kind] w h (fun _ u => u = .bool true) := by
  have hl' := hl
  have hn' := hn
  obtain ⟨ad, cp, rfl, hS⟩ := hl
  obtain ⟨ad1, cp1, rfl, hS1⟩ := hn
  refine Con.of_body Try.func9 rfl Try.ntmps9 rfl rfl ?_
  intro hs
  refine Zerun ?_
  by_cases c1 : 60 < s.length
  · refine Zerun ?_
    (refine RW.call T hs rfl rfl rfl (awake07_con _ _) ?_; intro v h3 w3 hle3 hp3 hs)
    subst hp3
    refine Zerun ?_
    exact retQ_ret [_] h3 ⟨rfl, trivial⟩ hs.dropAll rfl
  by_cases c2 : 500 < l.length
  · refine Zerun ?_
    (refine RW.call T hs rfl rfl rfl (awake07_con _ _) ?_; intro v h3 w3 hle3 hp3 hs)
    subst hp3
    refine Zerun ?_
    exact retQ_ret [_] h3 ⟨rfl, trivial⟩ hs.dropAll rfl
  refine Zerun ?_
  (refine RW.call T hs rfl rfl rfl (vecFloats_con (R := ArrAt 0) _ l _ _ hn' hx (by omega)) ?_; intro v h2 w2 hle2 hp2 hs)
  obtain ⟨cs2, ok, rfl, hok, hv2⟩ := hp2
  have hl' := hl'.mono hle2
  have hn' := hn'.mono hle2
  have hv2' := hv2
  obtain ⟨wv, nv, sm, il, fl, ch, bx, ⟨hcs2, hoc2⟩, _⟩ := hv2
  generalize hvk : (if ok = true then (⟨4, l.map tidyW, [], []⟩ : VecD (AD 0)) else VecD.none).kind = vk at hcs2
  subst hcs2
  refine Zerun ?_
  (refine RW.allocN T hs rfl rfl rfl rfl ?_; intro b3 w3 hs)
  (refine RW.storeAll T hs 0 rfl rfl rfl rfl rfl rfl hoc2 rfl ?_; intro w4 hs)
  refine Zerun ?_
  cases ok with
  | false =>
    refine Zerun ?_
    (refine RW.call T hs rfl rfl rfl (awake07_con _ _) ?_; intro v h5 w5 hle5 hp5 hs)
    subst hp5
    refine Zerun ?_
    exact retQ_ret [_] h5 ⟨rfl, trivial⟩ hs.dropAll rfl
  | true =>
    have hf : ∀ x ∈ l, finF x := of_decide_eq_true hok.symm
    rw [if_pos rfl] at hv2'
    refine Zerun ?_
    (refine RW.call T hs rfl rfl rfl (sqInto_con (ArrAt.mono 0) _ _ kind _ _ hv2' (by simp [VecD.len]; omega)) ?_; intro v h5 w5 hle5 hp5 hs)
    obtain ⟨cs5, rfl, hv5⟩ := hp5
    have hl' := hl'.mono hle5
    have hn' := hn'.mono hle5
    have hv2' := hv2'.mono (ArrAt.mono 0) hle5
    have hik := into_kinds (α := AD 0) (l.map tidyW) kind
    generalize VecD.into (⟨4, l.map tidyW, [], []⟩ : VecD (AD 0)) kind = iv at hv5 hik ⊢
    obtain ⟨iv, is⟩ := iv
    dsimp only at hv5 hik ⊢
    have hv5' := hv5
    obtain ⟨wv5, nv5, sm5, il5, fl5, ch5, bx5, ⟨rfl, hoc5⟩, _⟩ := hv5
    refine Zerun ?_
    (refine RW.allocN T hs rfl rfl rfl rfl ?_; intro b6 w6 hs)
    (refine RW.storeAll T hs 0 rfl rfl rfl rfl rfl rfl hoc5 rfl ?_; intro w7 hs)
    refine Zerun ?_
    refine CW.meet (fun u : List Value × Int => [(0, .slice ad s.length cp), (1, .slice ad1 l.length cp1), (7, .pointer (some ⟨b3, 0, none⟩))]) (fun u w' => (1 ≤ u.2 ∧ u.2 ≤ 4) ∧ VecAt (ArrAt 0) h5 u.1 ⟨u.2, l.map tidyW, [], []⟩ ∧ Sees w h h5 [⟨some ⟨b3, 0, none⟩, 1, 1, 61, 8, u.1⟩] w') ?_ ?_
    · cases is with
      | true =>
        obtain ⟨ik, i1, i4, rfl⟩ := hik rfl
        refine Zerun ?_
        (refine RW.storeAll T hs 1 rfl rfl rfl rfl rfl rfl hoc5 rfl ?_; intro w8 hs)
        refine Zerun ?_
        exact joinQ_meet (_, ik) ⟨rfl, rfl, rfl, trivial⟩ ⟨⟨i1, i4⟩, hv5', hs.drop⟩
      | false =>
        refine Zerun ?_
        exact joinQ_meet (_, 4) ⟨rfl, rfl, rfl, trivial⟩ ⟨⟨by omega, by omega⟩, hv2', hs.drop⟩
    rintro ⟨cs8, vk8⟩ w8 ⟨⟨hk1, hk4⟩, hv8, hs⟩
    dsimp only at hk1 hk4 hv8 hs ⊢
    have hsq := sq_nums (α := AD 0) vk8 (l.map tidyW) hk1 hk4
    have hne := newE_nums (α := AD 0) s vk8 l hk1 hf
    have harr := numsS_arr s l
    have hv8' := hv8
    obtain ⟨wv8, nv8, sm8, il8, fl8, ch8, bx8, ⟨rfl, hoc8⟩, _⟩ := hv8
    refine Zerun ?_
    (refine RW.call T hs rfl rfl rfl (refNums_con (PlainAt.mono 0) _ l _ _ hn' hx (by omega)) ?_; intro v h9 w9 hle9 hp9 hs)
    obtain ⟨cs9, rfl, s9, it9, rfl, ⟨ad9, cp9, rfl, _⟩, hit9⟩ := hp9
    have hit9' := hit9
    obtain ⟨ad10, cp10, xs10, rfl, _, _⟩ := hit9
    have hl' := hl'.mono hle9
    have hv8' := hv8'.mono (ArrAt.mono 0) hle9
    refine Zerun ?_
    (refine RW.allocN T hs rfl rfl rfl rfl ?_; intro b10 w10 hs)
    (refine RW.storeAll T hs 0 rfl rfl rfl rfl rfl rfl rfl rfl ?_; intro w11 hs)
    refine Zerun ?_
    (refine RW.store1 T hs 0 rfl rfl rfl rfl rfl rfl rfl rfl ?_; intro w12 hs)
    have hp' : PlainAt 1 h9 [.slice ad s.length cp, .slice ad10 (numsP (α := PD 0) l).items.length cp10, .int .i64 0] (numsS s l) := ⟨_, _, rfl, hl', hit9'⟩
    have hs : Sees w h h9 [⟨some ⟨b10, 0, none⟩, 1, 1, 50, 3, [.slice ad s.length cp, .slice ad10 (numsP (α := PD 0) l).items.length cp10, .int .i64 0]⟩, ⟨some ⟨b3, 0, none⟩, 1, 1, 61, 8, vecCells vk8 wv8 nv8 sm8 il8 fl8 ch8 bx8⟩] w12 := hs
    refine Zerun ?_
    (refine RW.call T hs rfl rfl rfl (valueNew_con (ArrAt.mono 0) _ s _ _ _ _ hl' hv8') ?_; intro v h13 w13 hle13 hp13 hs)
    rw [hne, hsq] at hp13
    obtain ⟨cs13, rfl, hl13, ho13, hz13, hn13⟩ := hp13
    have hl' := hl'.mono hle13
    have hp' := PlainAt.mono 1 _ _ _ _ hle13 hp'
    refine Zerun ?_
    (refine RW.allocN T hs rfl rfl rfl rfl ?_; intro b14 w14 hs)
    refine RW.storeAll T hs 0 rfl rfl rfl rfl rfl hl13 (List.all_eq_true.2 ho13) hl13 ?_
    intro w15 hs
    refine Zerun ?_
    refine RW.val (Y.build T rfl rfl rfl rfl rfl rfl rfl) rfl ?_
    (refine RW.call T hs rfl rfl rfl (valueNew_con (ArrAt.mono 0) _ s _ _ _ _ hl' (vecNone _)) ?_; intro v h16 w16 hle16 hp16 hs)
    obtain ⟨cs16, rfl, hl16, ho16, _, _⟩ := hp16
    have hp' := PlainAt.mono 1 _ _ _ _ hle16 hp'
    refine Zerun ?_
    (refine RW.allocN T hs rfl rfl rfl rfl ?_; intro b17 w17 hs)
    refine RW.storeAll T hs 0 rfl rfl rfl rfl rfl hl16 (List.all_eq_true.2 ho16) hl16 ?_
    intro w18 hs
    replace hs := hs.drop
    refine Zerun ?_
    (refine RW.call T hs rfl rfl rfl (refCheck_con 1 _ (numsS s l) _ _ hp') ?_; intro v h19 w19 hle19 hp19 hs)
    subst hp19
    have hp' := PlainAt.mono 1 _ _ _ _ hle19 hp'
    by_cases hc : chk 1 40 (numsS s l) = 0
    · have ha13 := hz13 hc
      rw [← harr] at ha13
      have ha' := ArrAt.mono 1 _ _ _ _ (hle16.trans hle19) (show ArrAt 1 h13 cs13 (arr 1 (numsS s l)) from ha13)
      have hgood := good_arr 1 40 (numsS s l) hc
      have hsml := good_sml 1 40 _ hgood
      have htdy := tidy_tdy 1 40 (numsS s l) _ _ hp' hc
      have hnone : newE s (VecD.none : VecD (AD 0)) = 1 := by
        rw [numsS_chk s l hf] at hc
        unfold newE
        by_cases e1 : (product s 1048576).2 ≠ 0
        · rw [if_pos e1] at hc; exact absurd hc e1
        · rw [if_neg e1, if_pos (show (VecD.none : VecD (AD 0)).kind = 0 from rfl)]
      have ha13 := ha'
      obtain ⟨s5, vc5, rfl, hl5, hv5⟩ := ha13
      obtain ⟨ad5, cp5, rfl, _⟩ := hl5
      obtain ⟨wv, nv, sm, il, fl, ch, bx, ⟨rfl, _⟩, _⟩ := hv5
      refine Zerun ?_
      refine CW.regionO T hs ?_
      intro w20 hs
      refine HW.takeS (fuel := 20) 0 rfl (fun _ _ hs => Y.move rfl) hs rfl (by kernel_rfl) (by kernel_rfl) (by kernel_rfl) ?_
      refine HW.takeS (fuel := 19) 1 rfl (fun _ _ hs => Y.eqT rfl rfl hc) hs rfl (by kernel_rfl) (by kernel_rfl) (by kernel_rfl) ?_
      refine HW.takeS (fuel := 18) 2 rfl (fun _ _ hs => Y.move rfl) hs rfl (by kernel_rfl) (by kernel_rfl) (by kernel_rfl) ?_
      refine HW.takeSY (fuel := 17) 3 rfl rfl rfl (fun _ _ hs => Y.move rfl) hs rfl (by kernel_rfl) (by kernel_rfl) (by kernel_rfl) ?_
      refine HW.takeSY (fuel := 16) 4 rfl rfl rfl (fun _ _ hs => Y.eqT rfl rfl hnone) hs rfl (by kernel_rfl) (by kernel_rfl) (by kernel_rfl) ?_
      refine HW.takeS (fuel := 15) 5 rfl (fun _ _ hs => Y.pickT rfl rfl) hs rfl (by kernel_rfl) (by kernel_rfl) (by kernel_rfl) ?_
      refine HW.takeS (fuel := 14) 6 rfl (fun _ _ hs => Y.move rfl) hs rfl (by kernel_rfl) (by kernel_rfl) (by kernel_rfl) ?_
      refine HW.takeSY (fuel := 13) 7 rfl rfl rfl (fun _ _ hs => Y.loadRowN T hs 0 rfl rfl rfl rfl rfl rfl rfl) hs rfl (by kernel_rfl) (by kernel_rfl) (by kernel_rfl) ?_
      refine HW.one (fuel := 12) 8 rfl (by kernel_rfl) ?_
      refine RW.guardYes rfl rfl ?_
      (refine RW.call T hs rfl rfl rfl (valueGood_con 1 _ (arr 1 (numsS s l)) _ _ ha') ?_; intro v h87 w87 hle87 hp87 hs)
      subst hp87
      rw [decB_of hgood]
      have ha' := ArrAt.mono 1 _ _ _ _ hle87 ha'
      have hp' := PlainAt.mono 1 _ _ _ _ hle87 hp'
      refine RW.nil ?_
      refine heldQ_normal ⟨_, hs⟩ ?_
      refine HW.takeS (fuel := 11) 9 rfl (fun _ _ hs => Y.pickT rfl rfl) hs rfl (by kernel_rfl) (by kernel_rfl) (by kernel_rfl) ?_
      refine HW.takeS (fuel := 10) 10 rfl (fun _ _ hs => Y.move rfl) hs rfl (by kernel_rfl) (by kernel_rfl) (by kernel_rfl) ?_
      refine HW.takeSY (fuel := 9) 11 rfl rfl rfl (fun _ _ hs => Y.loadRowN T hs 0 rfl rfl rfl rfl rfl rfl rfl) hs rfl (by kernel_rfl) (by kernel_rfl) (by kernel_rfl) ?_
      refine HW.takeSY (fuel := 8) 13 rfl rfl rfl (fun _ _ hs => Y.loadRowN T hs 1 rfl rfl rfl rfl rfl rfl rfl) hs rfl (by kernel_rfl) (by kernel_rfl) (by kernel_rfl) ?_
      refine HW.one (fuel := 7) 12 rfl (by kernel_rfl) ?_
      refine RW.guardYes rfl rfl ?_
      (refine RW.call T hs rfl rfl rfl (plainV_con 1 _ (arr 1 (numsS s l)) _ _ ha' hsml) ?_; intro v h91 w91 hle91 hp91 hs)
      obtain ⟨cs91, rfl, hq91⟩ := hp91
      rw [plain_arr 1 40 (numsS s l) hc] at hq91
      have ha' := ArrAt.mono 1 _ _ _ _ hle91 ha'
      have hp' := PlainAt.mono 1 _ _ _ _ hle91 hp'
      refine RW.nil ?_
      refine heldQ_normal ⟨_, hs⟩ ?_
      refine HW.one (fuel := 6) 14 rfl (by kernel_rfl) ?_
      refine RW.guardYes rfl rfl ?_
      (refine RW.call T hs rfl rfl rfl (refTidyP_con 1 40 _ (numsS s l) _ _ hp' hc) ?_; intro v h93 w93 hle93 hp93 hs)
      obtain ⟨cs93, rfl, hq93⟩ := hp93
      have ha' := ArrAt.mono 1 _ _ _ _ hle93 ha'
      have hp' := PlainAt.mono 1 _ _ _ _ hle93 hp'
      have hq91 := PlainAt.mono 1 _ _ _ _ hle93 hq91
      refine RW.nil ?_
      refine heldQ_normal ⟨_, hs⟩ ?_
      refine HW.one (fuel := 5) 15 rfl (by kernel_rfl) ?_
      refine RW.guardYes rfl rfl ?_
      (refine RW.call T hs rfl rfl rfl (refSame_con 1 _ _ (tidy 1 (numsS s l)) (tidy 1 (numsS s l)) _ _ hq91 hq93 htdy htdy) ?_; intro v h94 w94 hle94 hp94 hs)
      subst hp94
      rw [eqB_of (show tidy 1 (numsS s l) = tidy 1 (numsS s l) from rfl)]
      have ha' := ArrAt.mono 1 _ _ _ _ hle94 ha'
      have hp' := PlainAt.mono 1 _ _ _ _ hle94 hp'
      refine RW.nil ?_
      refine heldQ_normal ⟨_, hs⟩ ?_
      refine HW.takeS (fuel := 4) 16 rfl (fun _ _ hs => Y.pickT rfl rfl) hs rfl (by kernel_rfl) (by kernel_rfl) (by kernel_rfl) ?_
      refine HW.takeS (fuel := 3) 17 rfl (fun _ _ hs => Y.move rfl) hs rfl (by kernel_rfl) (by kernel_rfl) (by kernel_rfl) ?_
      refine HW.one (fuel := 2) 18 rfl (by kernel_rfl) ?_
      refine RW.guardYes rfl rfl ?_
      (refine RW.call T hs rfl rfl rfl (awake07_con _ _) ?_; intro v h97 w97 hle97 hp97 hs)
      subst hp97
      refine RW.nil ?_
      refine heldQ_normal ⟨_, hs⟩ ?_
      refine HW.takeS (fuel := 1) 19 rfl (fun _ _ hs => Y.pickT rfl rfl) hs rfl (by kernel_rfl) (by kernel_rfl) (by kernel_rfl) ?_
      refine HW.takeS (fuel := 0) 20 rfl (fun _ _ hs => Y.assign rfl) hs rfl (by kernel_rfl) (by kernel_rfl) (by kernel_rfl) ?_
      refine HW.done (by kernel_rfl) ?_
      refine calmQ_normal ?_
      refine Zerun ?_
      exact retQ_ret [_] h97 ⟨rfl, trivial⟩ hs.dropAll rfl
    · obtain rfl := hn13 hc
      refine Zerun ?_
      (refine RW.call T hs rfl rfl rfl (refCheck_con 1 _ (numsS s l) _ _ hp') ?_; intro v h20 w20 hle20 hp20 hs)
      subst hp20
      refine Zerun ?_
      (refine RW.call T hs rfl rfl rfl (vecKind_con (R := ArrAt 0) _ VecD.none _ _ (vecNone _)) ?_; intro v h21 w21 hle21 hp21 hs)
      subst hp21
      refine Zerun ?_
      (refine RW.call T hs rfl rfl rfl (awake07_con _ _) ?_; intro v h22 w22 hle22 hp22 hs)
      subst hp22
      refine Zerun ?_
      exact retQ_ret [_] h22 ⟨rfl, trivial⟩ hs.dropAll rfl
end Go.Proofs.Ythbfkhklihejiaa

/-
  Plain Lean on arrays of numbers, and of one number: good ones, told plainly. No statement is proved here.
-/
namespace Go.Proofs.Ythbfkhklihejiaa
open Go Go.RowKit
set_option linter.unusedVariables false
set_option linter.unusedSimpArgs false
set_option maxHeartbeats 4000000
attribute [local irreducible] CW RW QW SW HW ConM retM heldQ calmQ elemP thenQ blockQ loopQ joinQ retQ Yields Con Sl zF magR unitF truncF fwF wholeF tidySpec elemQ rankF leastN tidyW

theorem product_len1 (n : Nat) (h : n ≤ 1048576) : product [(n : Int)] 1048576 = ((n : Int), 0) := by
  have hg : goodS [(n : Int)] = true := (goodS_spec _).2 ⟨by simp, by intro d hd; rw [List.mem_singleton.1 hd]; omega, by simp [pr]; omega⟩
  rw [product_good _ hg]
  by_cases c : n = 0
  · subst c; simp
  · rw [if_neg (by simp; omega)]
    simp [pr]; omega
theorem product_0 : product [] 1048576 = (1, 0) := by decide
def numsA (k : Nat) (N : List Nat) : AD (k + 1) := (⟨[(N.length : Int)], ⟨leastN N, N, [], []⟩⟩ : ArrD (AD k))
theorem numsP_chk (k : Nat) (l : List Nat) (hf : ∀ x ∈ l, finF x) (hm : l.length ≤ 1048576) : chk (k + 1) 40 (numsP l : PlainD (PD k)) = 0 := by
  refine (chkP_ok (α := PD k) _ _ _).2 ⟨by omega, Int.le_refl _, (by show (0 : Int) ≤ 2; omega), ?_, fun x hx => ?_⟩
  · show product [(l.length : Int)] 1048576 = (((l.map fun x => (⟨0, x, 0, []⟩ : ItemD (PD k))).length : Int), 0)
    rw [product_len1 _ hm, List.length_map]
  · obtain ⟨y, hy, rfl⟩ := List.mem_map.1 hx
    exact ⟨rfl, fun e => absurd (show (0 : Int) = 2 from e) (by decide), fun _ => hf y hy⟩
theorem numsP_arr (k : Nat) (l : List Nat) : arr (k + 1) (numsP l : PlainD (PD k)) = numsA k (l.map tidyW) := by
  show (⟨[(l.length : Int)], arrV (arr k) 0 (l.map fun x => (⟨0, x, 0, []⟩ : ItemD (PD k)))⟩ : ArrD (AD k)) = _
  unfold arrV numsA
  rw [if_neg (by omega), if_neg (by omega), List.map_map, List.length_map]
  rfl
/-- small whole numbers, as words -/
theorem fw_rank (l : List Int) (h : ∀ n ∈ l, -9007199254740992 ≤ n ∧ n ≤ 9007199254740992) : leastN (l.map fwF) ≤ 3 := by
  unfold leastN
  refine fold_le _ _ _ (by omega) (fun x hx => ?_)
  obtain ⟨n, hn, rfl⟩ := List.mem_map.1 hx
  rw [rank_int, wholeF_fw n (h n hn)]
theorem fw_wholes (l : List Int) (h : ∀ n ∈ l, -9007199254740992 ≤ n ∧ n ≤ 9007199254740992) : (l.map fwF).map (fun x => (wholeF x).1) = l := by
  rw [List.map_map]
  conv => rhs; rw [← List.map_id l]
  apply List.map_congr_left
  intro n hn
  show (wholeF (fwF n)).1 = n
  rw [wholeF_fw n (h n hn)]
theorem fw_tidyW (l : List Int) (h : ∀ n ∈ l, -9007199254740992 ≤ n ∧ n ≤ 9007199254740992) : (l.map fwF).map tidyW = l.map fwF := by
  rw [List.map_map]
  apply List.map_congr_left
  intro n hn
  show tidyW (fwF n) = fwF n
  unfold tidyW
  rw [tidySpec_of _ (fwF_spec n (h n hn)).1]
theorem fw2 : fwF 2 = 4611686018427387904 := by unfold fwF; decide
def numA (k : Nat) (x : Nat) : AD (k + 1) := (⟨[], ⟨leastN [x], [x], [], []⟩⟩ : ArrD (AD k))
def numQ (k : Nat) (x : Nat) : PD (k + 1) := (⟨[], [⟨0, x, 0, []⟩], 0⟩ : PlainD (PD k))
theorem numV_cls {α : Type} (N : List Nat) : (⟨leastN N, N, [], []⟩ : VecD α).cls = 0 := by
  have hb := leastN_bounds N
  unfold VecD.cls; dsimp only; rw [if_neg (by omega), if_neg (by omega)]
theorem numA_good (k x : Nat) (d : Int) (hd : d ≠ 0) : good (k + 1) d (numA k x) := by
  have hb := leastN_bounds [x]
  refine ⟨product_0, (by show leastN [x] ≠ 0; omega), ?_, hd, fun b hb => nomatch hb⟩
  show leastN [x] = VecD.least (⟨leastN [x], [x], [], []⟩ : VecD (AD k))
  unfold VecD.least
  rw [if_pos ⟨numV_cls _, by dsimp only; omega⟩]
theorem numA_plain (k x : Nat) : plain (k + 1) (numA k x) = numQ k x := by
  show (⟨[], itemsV (plain k) (⟨leastN [x], [x], [], []⟩ : VecD (AD k)), VecD.cls (⟨leastN [x], [x], [], []⟩ : VecD (AD k))⟩ : PlainD (PD k)) = _
  rw [itemsV_c0 (plain k) (numV_cls _), numV_cls]
  rfl
theorem numQ_tdy (k x : Nat) (h : tidyF x) : tdy (k + 1) (numQ k x) := by
  intro y hy
  rw [List.mem_singleton.1 hy]
  exact ⟨h, fun b hb => nomatch hb⟩
theorem bitF_tidy (b : Bool) : tidyF (bitF b) := by cases b <;> first | exact tidy0 | exact tidy1
theorem bitF_lt (b : Bool) : bitF b < 18446744073709551616 := (bitF_tidy b).1
theorem refOne_con {α : Type} {R : GHeap → List Value → α → Prop} (x : Nat) (w : World) (h : GHeap) (hx : x < 18446744073709551616) : Con Try.prog 57 [.float .f64 x] w h (fun h' u => ∃ cs', u = .agg cs'.toArray ∧ PlainR R h' cs' (⟨[], [⟨0, x, 0, []⟩], 0⟩ : PlainD α)) := by
  refine Con.of_body Try.func57 rfl Try.ntmps57 rfl rfl ?_
  intro hs
  refine Zrun ?_
  (refine RW.allocN T hs rfl rfl rfl rfl ?_; intro b1 w1 hs)
  refine Zerun ?_
  refine RW.val (Y.build T rfl rfl rfl rfl rfl rfl rfl) rfl ?_
  (refine RW.lit T hs (vs := [.agg [.int .i64 0, .float .f64 x, .int .i32 0, .slice none 0 0].toArray]) (cs := [.int .i64 0, .float .f64 x, .int .i32 0, .slice none 0 0]) rfl rfl rfl rfl (by simp [Value.cells]) rfl rfl rfl rfl rfl ?_; intro b2 w2 hs)
  obtain ⟨h3, hle3, hs, hS3⟩ := hs.freeze
  refine RW.val (Y.build T rfl rfl rfl rfl rfl rfl rfl) rfl ?_
  (refine RW.storeAll T hs 0 rfl rfl rfl rfl rfl rfl rfl rfl ?_; intro w4 hs)
  refine Zerun ?_
  exact retQ_ret [_] h3 ⟨resN T hs 0 rfl rfl rfl rfl rfl rfl, trivial⟩ hs.dropAll ⟨_, rfl, _, _, rfl, RowAt.nil _, RowsAt.single hS3 (ItemAt.mk' (x := ⟨0, x, 0, []⟩) (RowsAt.nil _) hx)⟩
theorem numQ_chk (k x : Nat) (h : finF x) : chk (k + 1) 40 (numQ k x) = 0 := by
  refine (chkP_ok (α := PD k) _ _ _).2 ⟨by omega, Int.le_refl _, (by show (0 : Int) ≤ 2; omega), product_0, fun y hy => ?_⟩
  rw [List.mem_singleton.1 hy]
  exact ⟨rfl, fun e => absurd (show (0 : Int) = 2 from e) (by decide), fun _ => h⟩
theorem numQ_arr (k x : Nat) : arr (k + 1) (numQ k x) = numA k (tidyW x) := by
  show (⟨[], arrV (arr k) 0 [(⟨0, x, 0, []⟩ : ItemD (PD k))]⟩ : ArrD (AD k)) = _
  unfold arrV numA
  rw [if_neg (by omega), if_neg (by omega)]
  rfl
theorem numsA_good (k : Nat) (N : List Nat) (d : Int) (hd : d ≠ 0) (hm : N.length ≤ 1048576) : good (k + 1) d (numsA k N) := by
  have hb := leastN_bounds N
  refine ⟨?_, (by show leastN N ≠ 0; omega), ?_, hd, fun b hb => nomatch hb⟩
  · show product [(N.length : Int)] 1048576 = (((N.length + 0 + 0 : Nat) : Int), 0)
    rw [product_len1 _ hm]; rfl
  · show leastN N = VecD.least (⟨leastN N, N, [], []⟩ : VecD (AD k))
    unfold VecD.least
    rw [if_pos ⟨numV_cls _, by dsimp only; omega⟩]
theorem numsA_plain (k : Nat) (N : List Nat) : plain (k + 1) (numsA k N) = (numsP N : PlainD (PD k)) := by
  show (⟨[(N.length : Int)], itemsV (plain k) (⟨leastN N, N, [], []⟩ : VecD (AD k)), VecD.cls (⟨leastN N, N, [], []⟩ : VecD (AD k))⟩ : PlainD (PD k)) = _
  rw [itemsV_c0 (plain k) (numV_cls _), numV_cls]
  rfl
theorem numsP_tdy (k : Nat) (N : List Nat) (h : ∀ x ∈ N, tidyF x) : tdy (k + 1) (numsP N : PlainD (PD k)) := by
  intro y hy
  obtain ⟨x, hx, rfl⟩ := List.mem_map.1 hy
  exact ⟨h x hx, fun b hb => nomatch hb⟩
end Go.Proofs.Ythbfkhklihejiaa

/-
  Contracts of functions of package bitvec: bits behind the last one away, and truths cut. No statement is proved here.
-/
namespace Go.Proofs.Ythbfkhklihejiaa
open Go Go.RowKit
set_option linter.unusedVariables false
set_option linter.unusedSimpArgs false
set_option maxHeartbeats 4000000
attribute [local irreducible] CW RW QW SW HW ConM retM heldQ calmQ elemP thenQ blockQ loopQ joinQ retQ Yields Con Sl zF magR unitF truncF fwF wholeF tidySpec elemQ rankF leastN tidyW
set_option maxHeartbeats 4000000

section
variable {P : Program} {n : Nat} {L : Env} {w : World} {ty : TypeId} {x y : Operand} {t yt : TypeId}
theorem Y.subU {u v : Nat} (hx : opv L x = some (.int .u64 (u : Int))) (hy : opv L y = some (.int .u64 (v : Int))) (hu : u < 18446744073709551616) (hv : v ≤ u) : Yields P n L w (.binOp .sub t x y yt) ty (.int .u64 ((u - v : Nat) : Int)) := by
  have := Y.sub' (P := P) (n := n) (w := w) (ty := ty) (t := t) (yt := yt) hx hy
  rw [show (u : Int) - v = ((u - v : Nat) : Int) by omega, wrapU _ (by omega)] at this
  exact this
theorem Y.shlI {u v : Nat} {yk : IntKind} (hx : opv L x = some (.int .i64 (u : Int))) (hy : opv L y = some (.int yk (v : Int))) (hv : v ≤ 64) (hb : u * 2 ^ v < 9223372036854775808) : Yields P n L w (.binOp .shl t x y yt) ty (.int .i64 ((u * 2 ^ v : Nat) : Int)) := by
  have := Y.shl' (P := P) (n := n) (w := w) (ty := ty) (t := t) (yt := yt) hx hy (by omega)
  have e : IntKind.i64.wrap ((u : Int) * 2 ^ (min (v : Int).toNat IntKind.i64.bits)) = ((u * 2 ^ v : Nat) : Int) := by
    rw [Int.toNat_natCast, show IntKind.i64.bits = 64 from rfl, Nat.min_eq_left hv, show (u : Int) * 2 ^ v = ((u * 2 ^ v : Nat) : Int) by push_cast; rfl, wrap64 (by omega)]
  rw [e] at this
  exact this
end
section
variable {P : Program} {L : Env} {w0 w : World} {h0 h : GHeap}
theorem retM_end {rs : List ResultVar} {post : GHeap → List Row → Value → Prop} (vs : List Value) (h' : GHeap) (O' : List Row) (hr : Res P L w rs vs) (hl : GLe h h') (hs : Sees w0 h0 h' O' w) (hp : post h' O' (packv vs)) : retM P rs w0 h0 h post .normal L w := by
  unfold retM
  exact ⟨vs, h', O', hr, hl, hs, hp⟩
end
/-! ## Plain facts -/
def BitsUp (m : Nat) (ws : List Int) (g : Nat → Bool) : Prop := ws.length = m ∧ (∀ u ∈ ws, 0 ≤ u ∧ u < 18446744073709551616) ∧ ∀ i, i < m * 64 → (ws.getD (i / 64) 0).toNat.testBit (i % 64) = g i
def trimW (n : Nat) (ws : List Int) : List Int := if n % 64 = 0 then ws else ws.set (ws.length - 1) (((ws.getD (ws.length - 1) 0).toNat &&& (2 ^ (n % 64) - 1) : Nat) : Int)
def cutW (ws : List Int) (f i : Nat) : Nat := ((ws.getD ((f + i * 64) / 64) 0).toNat >>> ((f + i * 64) % 64)) ||| (if 0 < (f + i * 64) % 64 ∧ (f + i * 64) / 64 + 1 < ws.length then (ws.getD ((f + i * 64) / 64 + 1) 0).toNat <<< (64 - (f + i * 64) % 64) % 18446744073709551616 else 0)
theorem word_lt {ws : List Int} (h : ∀ u ∈ ws, 0 ≤ u ∧ u < 18446744073709551616) (i : Nat) : (ws.getD i 0).toNat < 18446744073709551616 := by
  by_cases c : i < ws.length
  · have := h _ (mem_getD ws i 0 c); omega
  · simp [List.getD_eq_getElem?_getD, c]
theorem word_cast {ws : List Int} (h : ∀ u ∈ ws, 0 ≤ u ∧ u < 18446744073709551616) (i : Nat) : ws.getD i 0 = ((ws.getD i 0).toNat : Int) := by
  by_cases c : i < ws.length
  · have := h _ (mem_getD ws i 0 c); omega
  · simp [List.getD_eq_getElem?_getD, c]
theorem shl_lt (u v : Nat) : u <<< v % 18446744073709551616 < 18446744073709551616 := Nat.mod_lt _ (by decide)
theorem cutW_lt {ws : List Int} (h : ∀ u ∈ ws, 0 ≤ u ∧ u < 18446744073709551616) (f i : Nat) : cutW ws f i < 18446744073709551616 := by
  unfold cutW
  refine Nat.or_lt_two_pow (n := 64) (Nat.lt_of_le_of_lt (Nat.shiftRight_le _ _) (word_lt h _)) ?_
  split
  · exact shl_lt _ _
  · decide
theorem cutW_bit {ws : List Int} {bs : List Bool} (hb : BitsOf ws bs) (f i j : Nat) (hj : j < 64) : (cutW ws f i).testBit j = bs.getD (f + i * 64 + j) false := by
  obtain ⟨hl, hr, hb⟩ := hb
  have h1 := hb (f + i * 64 + j)
  rw [← h1]
  unfold cutW
  rw [Nat.testBit_or, Nat.testBit_shiftRight]
  generalize hk : (f + i * 64) / 64 = k
  generalize hrr : (f + i * 64) % 64 = r
  have hat : f + i * 64 = k * 64 + r := by omega
  have hr64 : r < 64 := by omega
  by_cases c : r + j < 64
  · have e1 : (f + i * 64 + j) / 64 = k := by omega
    have e2 : (f + i * 64 + j) % 64 = r + j := by omega
    rw [e1, e2]
    have : (if 0 < r ∧ k + 1 < ws.length then (ws.getD (k + 1) 0).toNat <<< (64 - r) % 18446744073709551616 else 0).testBit j = false := by
      split
      · rw [show (18446744073709551616 : Nat) = 2 ^ 64 from rfl, Nat.testBit_mod_two_pow, Nat.testBit_shiftLeft]
        simp [show ¬ (j ≥ 64 - r) by omega]
      · simp
    rw [this, Bool.or_false]
  · have e1 : (f + i * 64 + j) / 64 = k + 1 := by omega
    have e2 : (f + i * 64 + j) % 64 = r + j - 64 := by omega
    rw [e1, e2]
    have h2 : (ws.getD k 0).toNat.testBit (r + j) = false := by
      apply Nat.testBit_lt_two_pow
      exact Nat.lt_of_lt_of_le (word_lt hr k) (Nat.pow_le_pow_right (n := 2) (by omega) (show 64 ≤ r + j by omega))
    rw [h2, Bool.false_or]
    by_cases c2 : k + 1 < ws.length
    · rw [if_pos ⟨by omega, c2⟩, show (18446744073709551616 : Nat) = 2 ^ 64 from rfl, Nat.testBit_mod_two_pow, Nat.testBit_shiftLeft]
      simp [hj, show j ≥ 64 - r by omega, show j - (64 - r) = r + j - 64 by omega]
    · rw [if_neg (by omega)]
      simp [List.getD_eq_getElem?_getD, c2]
theorem BitsUp.trim {n : Nat} {ws : List Int} {g : Nat → Bool} (h : BitsUp ((n + 63) / 64) ws g) (bs : List Bool) (hn : bs.length = n) (hg : ∀ i, i < n → g i = bs.getD i false) : BitsOf (trimW n ws) bs := by
  obtain ⟨hl, hr, hb⟩ := h
  subst hn
  have hout : ∀ i, bs.length ≤ i → bs.getD i false = false := by intro i hi; simp [List.getD_eq_getElem?_getD, hi]
  have hbig : ∀ i, ws.length ≤ i / 64 → (ws.getD (i / 64) 0).toNat.testBit (i % 64) = false := by
    intro i hi
    have : ws.getD (i / 64) 0 = 0 := by simp [List.getD_eq_getElem?_getD, hi]
    rw [this]; simp
  unfold trimW
  by_cases c : bs.length % 64 = 0
  · rw [if_pos c]
    refine ⟨hl, hr, fun i => ?_⟩
    by_cases c2 : i < bs.length
    · rw [hb i (by omega), hg i c2]
    · rw [hout i (by omega)]
      exact hbig i (by omega)
  · rw [if_neg c]
    have hlast : ws.length - 1 < ws.length := by omega
    have hlt := word_lt hr (ws.length - 1)
    refine ⟨by rw [List.length_set]; exact hl, fun u hu => ?_, fun i => ?_⟩
    · rcases List.mem_or_eq_of_mem_set hu with hu | hu
      · exact hr u hu
      · subst hu
        have := Nat.and_le_left (n := (ws.getD (ws.length - 1) 0).toNat) (m := 2 ^ (bs.length % 64) - 1)
        omega
    · rw [getD_set _ _ _ _ _ hlast]
      by_cases c2 : i / 64 = ws.length - 1
      · rw [if_pos c2, Int.toNat_natCast, Nat.testBit_and, Nat.testBit_two_pow_sub_one]
        by_cases c3 : i < bs.length
        · have := hb i (by omega)
          rw [c2] at this
          rw [this, hg i c3]
          simp [show i % 64 < bs.length % 64 by omega]
        · rw [hout i (by omega)]
          simp [show ¬ i % 64 < bs.length % 64 by omega]
      · rw [if_neg c2]
        by_cases c3 : i < bs.length
        · rw [hb i (by omega), hg i c3]
        · rw [hout i (by omega)]
          exact hbig i (by omega)
theorem BitsUp.put {m : Nat} {ws : List Int} {bs : List Bool} {f i : Nat} {out : List Int} (hb : BitsOf ws bs) (ho : BitsUp m out (fun j => if j < i * 64 then bs.getD (f + j) false else false)) (hi : i < m) : BitsUp m (out.set i (cutW ws f i : Int)) (fun j => if j < (i + 1) * 64 then bs.getD (f + j) false else false) := by
  obtain ⟨hl, hr, hbo⟩ := ho
  refine ⟨by rw [List.length_set]; exact hl, fun u hu => ?_, fun j hj => ?_⟩
  · rcases List.mem_or_eq_of_mem_set hu with hu | hu
    · exact hr u hu
    · subst hu
      have := cutW_lt hb.2.1 f i
      omega
  · rw [getD_set _ _ _ _ _ (by omega)]
    by_cases e : j / 64 = i
    · rw [if_pos e, Int.toNat_natCast, cutW_bit hb f i _ (Nat.mod_lt _ (by omega))]
      dsimp only
      rw [if_pos (by omega)]
      congr 1
      omega
    · rw [if_neg e, hbo j hj]
      dsimp only
      by_cases c : j < i * 64
      · rw [if_pos c, if_pos (by omega)]
      · rw [if_neg c, if_neg (by omega)]
theorem BitsUp.zero (m : Nat) (g : Nat → Bool) : BitsUp m (List.replicate m 0) (fun j => if j < 0 * 64 then g j else false) := by
  refine ⟨by simp, fun u hu => ?_, fun j hj => ?_⟩
  · rw [List.eq_of_mem_replicate hu]; omega
  · dsimp only
    rw [if_neg (by omega)]
    have : (List.replicate m (0 : Int)).getD (j / 64) 0 = 0 := by
      rw [List.getD_eq_getElem?_getD, List.getElem?_replicate]
      split <;> rfl
    rw [this]; simp
theorem pow_sub_lt (r : Nat) (h : r < 64) : 2 ^ r < 18446744073709551616 := Nat.pow_lt_pow_right (show 1 < 2 by omega) h
theorem bitsTrim_conM (n : Nat) (b : Nat) (ws : List Int) (x0 : Row) (w0 w : World) (h0 h : GHeap) (O : List Row) (hl : ws.length = (n + 63) / 64) (hr : ∀ u ∈ ws, 0 ≤ u ∧ u < 18446744073709551616) (hn : n ≤ 1048576) : ConM Try.prog 191 [.agg [.slice (some ⟨b, 0, none⟩) ws.length ws.length, .int .i64 n].toArray] w0 h0 h (x0 :: ⟨some ⟨b, 0, none⟩, ws.length, ws.length, 107, 1, ws.map (Value.int .u64)⟩ :: O) w
    (fun h' O' v => h' = h ∧ O' = x0 :: ⟨some ⟨b, 0, none⟩, ws.length, ws.length, 107, 1, (trimW n ws).map (Value.int .u64)⟩ :: O) := by
  refine ConM.of_body Try.func191 rfl Try.ntmps191 rfl rfl ?_
  intro hs
  refine Zrun ?_
  (refine RW.boxN hs rfl rfl ?_; intro b1 w1 hs)
  refine Zerun ?_
  refine RW.val (Y.andI (u := n) (v := 63) rfl rfl (by omega) (by omega)) rfl ?_
  rw [and63]
  by_cases c : n % 64 = 0
  · refine Zerun ?_
    refine retM_end [] h _ (by trivial) (GLe.refl _) hs.drop ⟨rfl, ?_⟩
    unfold trimW
    rw [if_pos c]
  · have h64 := Nat.mod_lt n (show 64 > 0 by omega)
    have hp := pow_sub_lt _ h64
    have hp1 := Nat.pow_pos (n := n % 64) (show 0 < 2 by omega)
    have hwl := word_lt hr (ws.length - 1)
    have hwc := word_cast hr (ws.length - 1)
    have e1 : (ws.length : Int) - 1 = ((ws.length - 1 : Nat) : Int) := by omega
    refine Zerun ?_
    rw [e1]
    refine RW.val (Y.idxRN T hs 2 rfl rfl rfl rfl rfl rfl ?_) rfl ?_
    · omega
    refine RW.val (Y.ldRInt T hs 2 rfl rfl rfl rfl ?_) rfl ?_
    · omega
    rw [hwc]
    refine Zerun ?_
    refine RW.val (Y.convII T rfl rfl rfl) rfl ?_
    rw [wrapU _ (by omega)]
    refine RW.val (Y.shlU (u := 1) rfl rfl (by omega)) rfl ?_
    rw [Nat.one_shiftLeft, Nat.mod_eq_of_lt hp]
    refine RW.val (Y.subU rfl rfl hp (v := 1) (by omega)) rfl ?_
    refine RW.val (Y.andU rfl rfl hwl (by omega)) rfl ?_
    refine RW.val (Y.idxRN T hs 2 rfl rfl rfl rfl rfl rfl ?_) rfl ?_
    · omega
    refine RW.st1 T hs 2 rfl rfl rfl rfl rfl rfl rfl (by omega) ?_
    intro w2 hs
    refine Zerun ?_
    refine retM_end [] h _ (by trivial) (GLe.refl _) hs.drop ⟨rfl, ?_⟩
    unfold trimW
    rw [if_neg c, ← map_set_int]
    rfl
theorem bitsCut_con (wv : Value) (bs : List Bool) (f t_ : Nat) (w : World) (h : GHeap) (hb : BitsAt h wv bs) (hft : f ≤ t_) (ht : t_ ≤ bs.length) : Con Try.prog 154 [.agg [wv, .int .i64 bs.length].toArray, .int .i64 f, .int .i64 t_] w h (fun h' u => ∃ wv', u = .agg [wv', .int .i64 ((t_ - f : Nat) : Int)].toArray ∧ BitsAt h' wv' ((bs.drop f).take (t_ - f))) := by
  obtain ⟨hbm, ws, ⟨ad, cp, rfl, hS⟩, hB⟩ := hb
  have hB' := hB
  obtain ⟨hwl, hwr, hwb⟩ := hB'
  refine Con.of_body Try.func154 rfl Try.ntmps154 rfl rfl ?_
  intro hs
  refine Zrun ?_
  (refine RW.boxN hs rfl rfl ?_; intro b1 w1 hs)
  (refine RW.allocN T hs rfl rfl rfl rfl ?_; intro b2 w2 hs)
  refine Zerun ?_
  have e1 : max 0 (min (f : Int) (bs.length : Int)) = f := by omega
  rw [e1]
  have e2 : max (f : Int) (min (t_ : Int) (bs.length : Int)) = t_ := by omega
  rw [e2]
  have e3 : (t_ : Int) - f = ((t_ - f : Nat) : Int) := by omega
  rw [e3]
  (refine RW.callM T hs rfl rfl rfl (bitsMake_conM (t_ - f) _ _ _ _ _ (by omega)) ?_; intro v h3 O3 w3 hle3 hp3 hs)
  obtain ⟨rfl, b4, rfl, rfl⟩ := hp3
  (refine RW.allocN T hs rfl rfl rfl rfl ?_; intro b5 w5 hs)
  (refine RW.storeAll T hs 0 rfl rfl rfl rfl rfl rfl rfl rfl ?_; intro w6 hs)
  have hz := BitsUp.zero ((t_ - f + 63) / 64) (fun j => bs.getD (f + j) false)
  generalize hkk : (t_ - f + 63) / 64 = kk at hz hs ⊢
  refine Zerun ?_
  refine CW.loop (fun p : Nat × List Int => [(1, .int .i64 f), (3, .pointer (some ⟨b1, 0, none⟩)), (6, .pointer (some ⟨b2, 0, none⟩)), (7, .pointer (some ⟨b5, 0, none⟩)), (29, .int .i64 kk), (30, .int .i64 p.1)]) (fun p w' => p.1 ≤ kk ∧ BitsUp kk p.2 (fun j => if j < p.1 * 64 then bs.getD (f + j) false else false) ∧ Sees w h3 h3 [⟨some ⟨b5, 0, none⟩, 1, 1, 54, 2, [.slice (some ⟨b4, 0, none⟩) kk kk, .int .i64 ((t_ - f : Nat) : Int)]⟩, ⟨some ⟨b4, 0, none⟩, kk, kk, 107, 1, p.2.map (Value.int .u64)⟩, ⟨some ⟨b2, 0, none⟩, 1, 1, 54, 2, [.slice none 0 0, .int .i64 0]⟩, ⟨some ⟨b1, 0, none⟩, 1, 1, 54, 2, [.slice ad ws.length cp, .int .i64 bs.length]⟩] w') (fun p => kk - p.1) (0, List.replicate kk 0) ⟨rfl, rfl, rfl, rfl, rfl, rfl, trivial⟩ ⟨by omega, hz, hs⟩ ?_
  rintro ⟨i, out⟩ w7 ⟨hi, hU, hs⟩
  dsimp only at hi hU hs ⊢
  by_cases hlt : i < kk
  · have hput := hU.put hB hlt
    have hol : out.length = kk := hU.1
    have hcw : cutW ws f i = ((ws.getD ((f + i * 64) / 64) 0).toNat >>> ((f + i * 64) % 64)) ||| (if 0 < (f + i * 64) % 64 ∧ (f + i * 64) / 64 + 1 < ws.length then (ws.getD ((f + i * 64) / 64 + 1) 0).toNat <<< (64 - (f + i * 64) % 64) % 18446744073709551616 else 0) := rfl
    refine Zerun ?_
    refine RW.val (Y.shlI (u := i) (v := 6) rfl rfl (by omega) (by omega)) rfl ?_
    rw [show i * 2 ^ 6 = i * 64 from rfl]
    refine Zerun ?_
    rw [show (f : Int) + ((i * 64 : Nat) : Int) = ((f + i * 64 : Nat) : Int) by omega]
    refine RW.val (Y.shrI (u := f + i * 64) (v := 6) rfl rfl (by omega)) rfl ?_
    rw [shr6]
    refine Zerun ?_
    refine RW.val (Y.andI (u := f + i * 64) (v := 63) rfl rfl (by omega) (by omega)) rfl ?_
    rw [and63]
    refine RW.val (Y.convII T rfl rfl rfl) rfl ?_
    rw [wrapU _ (by omega)]
    have hkl : (f + i * 64) / 64 < ws.length := by omega
    have hr64 : (f + i * 64) % 64 < 64 := Nat.mod_lt _ (by omega)
    generalize (f + i * 64) / 64 = k at hkl hcw ⊢
    generalize (f + i * 64) % 64 = r at hr64 hcw ⊢
    have hwk := word_cast hwr k
    have hwk2 := word_lt hwr k
    refine Zerun ?_
    refine CW.regionT T 11 hs (fun w hs => ?_) (by kernel_rfl)
    simp only [List.take_succ_cons, List.take_zero, List.drop_succ_cons, List.drop_zero]
    refine Zsrun ?_
    rw [hwk]
    refine SW.val (Y.shrU rfl rfl (by omega)) rfl ?_
    refine SW.val (Y.idxRN T hs 1 rfl rfl rfl rfl rfl rfl ?_) rfl ?_
    · omega
    refine SW.nil ?_
    refine RW.st1 T hs 1 rfl rfl rfl rfl rfl rfl rfl (by omega) ?_
    intro w8 hs
    dsimp only [List.set_cons_succ, List.set_cons_zero] at hs
    rw [map_set_int] at hs
    have hsh : (ws.getD k 0).toNat >>> r < 18446744073709551616 := Nat.lt_of_le_of_lt (Nat.shiftRight_le _ _) hwk2
    by_cases c1 : 0 < r
    · by_cases c2 : k + 1 < ws.length
      · rw [if_pos ⟨c1, c2⟩] at hcw
        have hwk3 := word_cast hwr (k + 1)
        have hwk4 := word_lt hwr (k + 1)
        refine Zerun ?_
        refine CW.regionT T 16 hs (fun w hs => ?_) (by kernel_rfl)
        simp only [List.take_succ_cons, List.take_zero, List.drop_succ_cons, List.drop_zero]
        refine Zsrun ?_
        refine SW.val (Y.idxRN T hs 1 rfl rfl rfl rfl rfl rfl ?_) rfl ?_
        · omega
        refine SW.val (Y.ldRInt T hs 1 rfl rfl rfl rfl ?_) rfl ?_
        · omega
        rw [getD_set _ _ _ _ _ (by omega), if_pos rfl]
        refine Zsrun ?_
        have ek : (k : Int) + 1 = ((k + 1 : Nat) : Int) := by omega
        rw [ek]
        refine Zsrun ?_
        rw [hwk3]
        refine SW.val (Y.subU (u := 64) (v := r) rfl rfl (by omega) (by omega)) rfl ?_
        refine SW.val (Y.shlU rfl rfl (by omega)) rfl ?_
        refine SW.val (Y.orU rfl rfl hsh (shl_lt _ _)) rfl ?_
        refine SW.val (Y.idxRN T hs 1 rfl rfl rfl rfl rfl rfl ?_) rfl ?_
        · omega
        refine SW.nil ?_
        refine RW.st1 T hs 1 rfl rfl rfl rfl rfl rfl rfl (by omega) ?_
        intro w9 hs
        dsimp only [List.set_cons_succ, List.set_cons_zero] at hs
        rw [map_set_int, List.set_set, ← hcw] at hs
        refine Zerun ?_
        exact loopQ_round (i + 1, out.set i (cutW ws f i : Int)) ⟨rfl, rfl, rfl, rfl, rfl, rfl, trivial⟩ ⟨by dsimp only; omega, hput, hs⟩ (by dsimp only; omega)
      · rw [if_neg (by omega), Nat.or_zero] at hcw
        rw [← hcw] at hs
        refine Zerun ?_
        exact loopQ_round (i + 1, out.set i (cutW ws f i : Int)) ⟨rfl, rfl, rfl, rfl, rfl, rfl, trivial⟩ ⟨by dsimp only; omega, hput, hs⟩ (by dsimp only; omega)
    · rw [if_neg (by omega), Nat.or_zero] at hcw
      rw [← hcw] at hs
      refine Zerun ?_
      exact loopQ_round (i + 1, out.set i (cutW ws f i : Int)) ⟨rfl, rfl, rfl, rfl, rfl, rfl, trivial⟩ ⟨by dsimp only; omega, hput, hs⟩ (by dsimp only; omega)
  · obtain rfl : i = kk := by omega
    have hol : out.length = i := hU.1
    have hfin : BitsOf (trimW (t_ - f) out) ((bs.drop f).take (t_ - f)) := by
      have hU2 : BitsUp ((t_ - f + 63) / 64) out (fun j => if j < i * 64 then bs.getD (f + j) false else false) := by rw [hkk]; exact hU
      refine hU2.trim _ (by simp; omega) ?_
      intro j hj
      rw [if_pos (by omega)]
      simp only [List.getD_eq_getElem?_getD, List.getElem?_take, List.getElem?_drop]
      rw [if_pos hj]
    have hUr := hU.2.1
    subst hol
    refine Zerun ?_
    (refine RW.callM T hs rfl rfl rfl (bitsTrim_conM (t_ - f) b4 out _ _ _ _ _ _ hkk.symm hUr (by omega)) ?_; intro v h8 O8 w8 hle8 hp8 hs)
    obtain ⟨rfl, rfl⟩ := hp8
    refine Zerun ?_
    (refine RW.storeAll T hs 2 rfl rfl rfl rfl rfl rfl rfl rfl ?_; intro w9 hs)
    refine Zerun ?_
    obtain ⟨h9, hle9, hs9, hS9⟩ := hs.drop.freeze
    refine retQ_ret [_] h9 ⟨resN T hs 2 rfl rfl rfl rfl rfl rfl, trivial⟩ hs9.dropAll ⟨_, rfl, by simp; omega, trimW (t_ - f) out, ?_, hfin⟩
    have hlt : (trimW (t_ - f) out).length = out.length := by unfold trimW; split <;> simp
    rw [← hlt] at hS9 ⊢
    exact RowAt.of_sl hS9
end Go.Proofs.Ythbfkhklihejiaa

/-
  Contracts of functions of packages flat and bitvec: elements cut, truths one by one. No statement is proved here.
-/
namespace Go.Proofs.Ythbfkhklihejiaa
open Go Go.RowKit
set_option linter.unusedVariables false
set_option linter.unusedSimpArgs false
set_option maxHeartbeats 4000000
attribute [local irreducible] CW RW QW SW HW ConM retM heldQ calmQ elemP thenQ blockQ loopQ joinQ retQ Yields Con Sl zF magR unitF truncF fwF wholeF tidySpec elemQ rankF leastN tidyW
set_option maxHeartbeats 4000000

def cutA (n : Nat) (a : Int) : Nat := (max 0 (min a n)).toNat
def cutB (n : Nat) (a b : Int) : Nat := (max (cutA n a : Int) (min b n)).toNat
theorem cutA_le (n : Nat) (a : Int) : cutA n a ≤ n := by unfold cutA; omega
theorem cutB_le (n : Nat) (a b : Int) : cutA n a ≤ cutB n a b ∧ cutB n a b ≤ n := by have := cutA_le n a; unfold cutB; omega
theorem span_bits (bs : List Bool) (f t_ : Nat) (hf : f ≤ t_) (ht : t_ ≤ bs.length) : (spanL f t_).map (fun i => bitAt bs i) = (bs.drop f).take (t_ - f) := by
  apply List.ext_getElem?
  intro j
  simp only [spanL, List.map_map, List.getElem?_map, List.getElem?_take, List.getElem?_drop]
  by_cases c : j < t_ - f
  · rw [List.getElem?_range c, if_pos c]
    simp only [Option.map_some, Function.comp]
    have : f + j < bs.length := by omega
    unfold bitAt
    rw [if_pos (by omega), Int.toNat_natCast]
    simp [List.getD_eq_getElem?_getD, this]
  · rw [if_neg c]
    simp [c]
section
variable {α : Type} {R : GHeap → List Value → α → Prop}
theorem flatCut_con (hR : Mono R) (h1 : One R) (h9 : Siz 9 R) (nb : α) (hbl : ∀ w h, Con Try.prog 68 [] w h (fun h' u => ∃ cs', u = .agg cs'.toArray ∧ R h' cs' nb))
    (cs : List Value) (v : VecD α) (a b : Int) (w : World) (h : GHeap) (hv : VecAt R h cs v) (hvm : v.len ≤ 1048576) (hk0 : v.kind ≠ 0) : Con Try.prog 83 [.agg cs.toArray, .int .i64 a, .int .i64 b] w h (fun h' u => ∃ cs', u = .agg cs'.toArray ∧ VecAt R h' cs' (v.pick (spanL (cutA v.len a) (cutB v.len a b)) nb)) := by
  have hv' := hv
  obtain ⟨wv, nv, sm, il, fl, ch, bx, ⟨rfl, hoc⟩, hk⟩ := hv
  refine Con.of_body Try.func83 rfl Try.ntmps83 rfl rfl ?_
  intro hs
  refine Zrun ?_
  (refine RW.boxN hs rfl rfl ?_; intro b1 w1 hs)
  (refine RW.allocN T hs rfl rfl rfl rfl ?_; intro b2 w2 hs)
  refine Zerun ?_
  (refine RW.call T hs rfl rfl rfl (vecLen_con _ v _ _ hv') ?_; intro v h3 w3 hle3 hp3 hs)
  subst hp3
  have hv' := hv'.mono hR hle3
  refine Zerun ?_
  have e1 : max 0 (min a (v.len : Int)) = (cutA v.len a : Int) := by unfold cutA; omega
  rw [e1]
  (refine RW.call T hs rfl rfl rfl (vecLen_con _ v _ _ hv') ?_; intro v h4 w4 hle4 hp4 hs)
  subst hp4
  have hv' := hv'.mono hR hle4
  refine Zerun ?_
  have e2 : max (cutA v.len a : Int) (min b (v.len : Int)) = (cutB v.len a b : Int) := by unfold cutB; omega
  rw [e2]
  have hfA := cutA_le v.len a
  obtain ⟨hft, htl⟩ := cutB_le v.len a b
  generalize cutA v.len a = f at hfA hft ⊢
  generalize cutB v.len a b = t_ at hft htl ⊢
  (refine RW.call T hs rfl rfl rfl (vecPacked_con _ v _ _ hv') ?_; intro v h5 w5 hle5 hp5 hs)
  obtain ⟨wv5, bs, rfl, hb5, hb51, hb50⟩ := hp5
  have hv' := hv'.mono hR hle5
  have hb5' := hb5
  obtain ⟨_, ws, ⟨ad5, cp5, rfl, _⟩, _⟩ := hb5'
  refine Zerun ?_
  (refine RW.allocN T hs rfl rfl rfl rfl ?_; intro b6 w6 hs)
  (refine RW.storeAll T hs 0 rfl rfl rfl rfl rfl rfl rfl rfl ?_; intro w7 hs)
  refine Zerun ?_
  by_cases k1 : v.kind = 1
  · rw [decide_eq_true k1]
    have hvb := hb51 k1
    have hlen : v.len = bs.length := by rw [hvb]; simp [VecD.len]
    refine Zerun ?_
    (refine RW.call T hs rfl rfl rfl (bitsCut_con _ bs f t_ _ _ hb5 hft (by omega)) ?_; intro v h8 w8 hle8 hp8 hs)
    obtain ⟨wv8, rfl, hb8⟩ := hp8
    have hl8 : ((bs.drop f).take (t_ - f)).length = t_ - f := by simp; omega
    rw [← hl8]
    (refine RW.call T hs rfl rfl rfl (vecBits_con (R := R) wv8 _ _ _ hb8) ?_; intro v h9 w9 hle9 hp9 hs)
    obtain ⟨cs9, rfl, hv9⟩ := hp9
    rw [← span_bits bs f t_ hft (by omega), pick_bits bs _ nb, ← hvb] at hv9
    have hv9' := hv9
    obtain ⟨wv', nv', sm', il', fl', ch', bx', ⟨rfl, hoc'⟩, _⟩ := hv9'
    (refine RW.storeAll T hs 1 rfl rfl rfl rfl rfl rfl hoc' rfl ?_; intro w10 hs)
    refine Zerun ?_
    refine retQ_ret [_] h9 ⟨resN T hs 1 rfl rfl rfl rfl rfl rfl, trivial⟩ hs.dropAll ⟨_, rfl, hv9⟩
  rw [decide_eq_false k1]
  refine Zerun ?_
  refine CW.regionR T 2 2 hs rfl rfl ?_
  intro w8 hs
  refine HW.takeR (fuel := 5) 0 rfl (fun _ _ ka kb _ hs hka hkb => Y.loadRowN T hs ka hka rfl rfl rfl rfl rfl rfl) ⟨_, _, 2, 2, hs, rfl, rfl⟩ rfl (by kernel_rfl) (by kernel_rfl) (by kernel_rfl) ?_
  refine HW.takeR (fuel := 4) 1 rfl (fun _ _ ka kb _ hs hka hkb => Y.move rfl) ⟨_, _, 2, 2, hs, rfl, rfl⟩ rfl (by kernel_rfl) (by kernel_rfl) (by kernel_rfl) ?_
  refine HW.takeR (fuel := 3) 2 rfl (fun _ _ ka kb _ hs hka hkb => Y.move rfl) ⟨_, _, 2, 2, hs, rfl, rfl⟩ rfl (by kernel_rfl) (by kernel_rfl) (by kernel_rfl) ?_
  refine HW.one (fuel := 2) 3 rfl (by kernel_rfl) ?_
  (refine RW.call T hs rfl rfl rfl (flatSpan_con f t_ _ _ hft (by omega)) ?_; intro v h34 w34 hle34 hp34 hs)
  have hv' := hv'.mono hR hle34
  refine RW.nil ?_
  refine heldQ_normal ⟨_, _, 2, 2, hs, rfl, rfl⟩ ?_
  refine HW.one (fuel := 1) 4 rfl (by kernel_rfl) ?_
  (refine RW.call T hs rfl rfl rfl (flatPick_con hR h1 h9 nb hbl _ _ _ (spanL f t_) _ _ hv' hp34 (by rw [spanL_length]; omega) hvm hk0) ?_; intro v h35 w35 hle35 hp35 hs)
  obtain ⟨cs35, rfl, hv35⟩ := hp35
  have hv35' := hv35
  obtain ⟨wv5, nv5, sm5, il5, fl5, ch5, bx5, ⟨rfl, hoc5⟩, _⟩ := hv35'
  refine RW.nil ?_
  refine heldQ_normal ⟨_, _, 2, 2, hs, rfl, rfl⟩ ?_
  refine HW.one (fuel := 0) 5 rfl (by kernel_rfl) ?_
  (refine RW.storeAll T hs 1 rfl rfl rfl rfl rfl rfl hoc5 rfl ?_; intro w37 hs)
  refine RW.nil ?_
  refine heldQ_normal ⟨_, _, 2, 2, hs, rfl, rfl⟩ ?_
  refine HW.done (by kernel_rfl) ?_
  refine calmQ_normal ?_
  refine Zerun ?_
  exact retQ_ret [_] h35 ⟨resN T hs 1 rfl rfl rfl rfl rfl rfl, trivial⟩ hs.dropAll ⟨_, rfl, hv35⟩
end
theorem bitsUnpack_con (wv : Value) (bs : List Bool) (w : World) (h : GHeap) (hb : BitsAt h wv bs) : Con Try.prog 188 [.agg [wv, .int .i64 bs.length].toArray] w h (fun h' u => TAt h' u bs) := by
  have hb' := hb
  obtain ⟨hbm, ws, ⟨ad, cp, rfl, hS⟩, hwl, hwr, hwb⟩ := hb
  refine Con.of_body Try.func188 rfl Try.ntmps188 rfl rfl ?_
  intro hs
  refine Zrun ?_
  (refine RW.boxN hs rfl rfl ?_; intro b1 w1 hs)
  refine Zerun ?_
  (refine RW.make1 T hs rfl rfl rfl rfl rfl rfl rfl (by dsimp only; omega) (by omega) ?_; intro b2 w2 hs)
  refine Zerun ?_
  refine CW.loop (fun u : Nat × GHeap => [(1, .pointer (some ⟨b1, 0, none⟩)), (3, .slice (some ⟨b2, 0, none⟩) bs.length bs.length), (9, .int .i64 bs.length), (10, .int .i64 u.1)]) (fun u w' => u.1 ≤ bs.length ∧ GLe h u.2 ∧ Sees w h u.2 [⟨some ⟨b2, 0, none⟩, bs.length, bs.length, 4, 1, (bs.take u.1).map Value.bool ++ List.replicate (bs.length - u.1) (.bool false)⟩, ⟨some ⟨b1, 0, none⟩, 1, 1, 54, 2, [.slice ad ws.length cp, .int .i64 bs.length]⟩] w') (fun u => bs.length - u.1) (0, h) ⟨rfl, rfl, rfl, rfl, trivial⟩ ⟨by omega, GLe.refl _, hs⟩ ?_
  rintro ⟨i, hh⟩ w5 ⟨hi, hg, hs⟩
  dsimp only at hi hg hs ⊢
  have hb' := hb'.mono hg
  by_cases hlt : i < bs.length
  · have htk := take_succ_getD bs i false hlt
    refine Zerun ?_
    (refine RW.call T hs rfl rfl rfl (bitsAt_con _ bs i _ _ hb') ?_; intro v h6 w6 hle6 hp6 hs)
    subst hp6
    have eb : bitAt bs (i : Int) = bs.getD i false := by unfold bitAt; rw [if_pos (by omega), Int.toNat_natCast]
    rw [eb]
    refine RW.val (Y.idxRN T hs 0 rfl rfl rfl rfl rfl rfl ?_) rfl ?_
    · omega
    refine RW.st1 T hs 0 rfl rfl rfl rfl rfl rfl rfl (by omega) ?_
    intro w7 hs
    have e1 := set_snoc ((bs.take i).map Value.bool) (bs.length - i) (Value.bool false) (Value.bool (bs.getD i false)) (by omega)
    simp only [List.length_map, List.length_take, Nat.min_eq_left hi] at e1
    have e2 : (bs.take i).map Value.bool ++ [Value.bool (bs.getD i false)] ++ List.replicate (bs.length - i - 1) (.bool false) = (bs.take (i + 1)).map Value.bool ++ List.replicate (bs.length - (i + 1)) (.bool false) := by
      rw [htk, List.map_append, show bs.length - (i + 1) = bs.length - i - 1 by omega]; rfl
    replace hs := hs.re (e1.trans e2)
    refine Zerun ?_
    exact loopQ_round (i + 1, h6) ⟨rfl, rfl, rfl, rfl, trivial⟩ ⟨by dsimp only; omega, hg.trans hle6, hs⟩ (by dsimp only; omega)
  obtain rfl : i = bs.length := by omega
  rw [List.take_length, Nat.sub_self, List.replicate_zero, List.append_nil] at hs
  obtain ⟨h8, hle8, hs, hS8⟩ := hs.freeze
  refine Zerun ?_
  exact retQ_ret [_] h8 ⟨rfl, trivial⟩ hs.dropAll (RowAt.of_sl hS8)
end Go.Proofs.Ythbfkhklihejiaa

/-
  Contracts of functions of package flat: lists of a class behind each other. No statement is proved here.
-/
namespace Go.Proofs.Ythbfkhklihejiaa
open Go Go.RowKit
set_option linter.unusedVariables false
set_option linter.unusedSimpArgs false
set_option maxHeartbeats 4000000
attribute [local irreducible] CW RW QW SW HW ConM retM heldQ calmQ elemP thenQ blockQ loopQ joinQ retQ Yields Con Sl zF magR unitF truncF fwF wholeF tidySpec elemQ rankF leastN tidyW
set_option maxHeartbeats 4000000

section
variable {α : Type} {R : GHeap → List Value → α → Prop}
theorem fm_take_succ {δ γ : Type} (f : δ → List γ) (l : List δ) (i : Nat) (h : i < l.length) : (l.take (i + 1)).flatMap f = (l.take i).flatMap f ++ f l[i] := by
  rw [List.take_add_one, List.getElem?_eq_getElem h, Option.toList_some, List.flatMap_append, List.flatMap_cons, List.flatMap_nil, List.append_nil]
theorem fm_len {γ : Type} {f : VecD α → List γ} (hf : ∀ v, (f v).length ≤ v.len) : ∀ l : List (VecD α), (l.flatMap f).length ≤ (l.map VecD.len).sum
  | [] => Nat.le_refl _
  | v :: l => by
    have := fm_len hf l
    have := hf v
    rw [List.flatMap_cons, List.length_append, List.map_cons, List.sum_cons]
    omega
theorem sum_take_le : ∀ (l : List (VecD α)) (i : Nat), ((l.take i).map VecD.len).sum ≤ (l.map VecD.len).sum
  | [], i => by simp
  | v :: l, 0 => by simp
  | v :: l, i + 1 => by
    have := sum_take_le l i
    simp only [List.take_succ_cons, List.map_cons, List.sum_cons]
    omega
theorem fm_len' {γ : Type} {f : VecD α → List γ} (hf : ∀ v, (f v).length ≤ v.len) (l : List (VecD α)) (i : Nat) : ((l.take i).flatMap f).length ≤ (l.map VecD.len).sum := Nat.le_trans (fm_len hf _) (sum_take_le l i)
theorem len_le_sum : ∀ {l : List (VecD α)} {v : VecD α}, v ∈ l → v.len ≤ (l.map VecD.len).sum
  | u :: l, v, h => by
    rw [List.map_cons, List.sum_cons]
    rcases List.mem_cons.1 h with rfl | h
    · omega
    · have := len_le_sum h; omega
theorem AllN.ones {δ : Type} {sz : Nat} {S : List Value → δ → Prop} (hc : ∀ cs a, S cs a → ∀ u ∈ cs, u.oneCell' = true) : ∀ {l : List δ} {xs : List Value}, AllN sz S xs l → ∀ u ∈ xs, u.oneCell' = true
  | [], xs, hx, u, hu => by have : xs = [] := hx; rw [this] at hu; cases hu
  | a :: l, xs, hx, u, hu => by
    rw [← List.take_append_drop sz xs, List.mem_append] at hu
    rcases hu with hu | hu
    · exact hc _ a hx.2.1 u hu
    · exact AllN.ones hc hx.2.2 u hu
theorem leastN_bits (bs : List Bool) : leastN (bs.map bitF) = 1 := by
  have h1 := (leastN_bounds (bs.map bitF)).1
  have h2 : leastN (bs.map bitF) ≤ 1 := by
    rw [leastN.eq_1]
    refine fold_le _ 1 1 (by omega) ?_
    intro x hx
    obtain ⟨b, _, rfl⟩ := List.mem_map.1 hx
    cases b
    · exact (rank_bit _ tidy0).2 (.inl fw0.symm)
    · exact (rank_bit _ tidy1).2 (.inr fw1.symm)
  omega
def joinS (c : Int) (l : List (VecD α)) : VecD α := if c = 1 then ⟨5, [], l.flatMap (·.chars), []⟩ else if c = 2 then ⟨6, [], [], l.flatMap (·.boxes)⟩ else ⟨leastN (l.flatMap (·.nums)), l.flatMap (·.nums), [], []⟩
theorem flatJoined_con (hR : Mono R) (h1 : One R) (s : Value) (l : List (VecD α)) (c kd : Int) (w : World) (h : GHeap) (hl : RowsAt 8 (VecAt R h) h s l) (hm : (l.map VecD.len).sum ≤ 1048576) (hc : c = 0 ∨ c = 1 ∨ c = 2)
    (hk1 : c = 0 → kd = 1 → ∀ v ∈ l, v.kind = 1 ∨ v.nums = []) (hk3 : c = 0 → kd ≠ 1 → kd < 4 → ∀ v ∈ l, v.kind = 1 ∨ v.kind = 2 ∨ v.kind = 3 ∨ v.nums = []) : Con Try.prog 146 [s, .int .i64 c, .int .i64 kd] w h (fun h' u => ∃ cs', u = .agg cs'.toArray ∧ VecAt R h' cs' (joinS c l)) := by
  obtain ⟨ads, cps, xs, rfl, hS, hA⟩ := hl
  have hcap : l.length ≤ 9223372036854775807 := by have := hS.caps; omega
  refine Con.of_body Try.func146 rfl Try.ntmps146 rfl rfl ?_
  intro hs
  refine Zrun ?_
  (refine RW.allocN T hs rfl rfl rfl rfl ?_; intro b1 w1 hs)
  have htdl : ∀ x ∈ l.flatMap (·.nums), tidyF x := by
    intro x hx
    obtain ⟨v, hv, hx⟩ := List.mem_flatMap.1 hx
    obtain ⟨j, hj, rfl⟩ := List.mem_iff_getElem.1 hv
    obtain ⟨y, _, _, hRy⟩ := hA.elem j hj
    exact hRy.tidy x hx
  unfold joinS
  by_cases c1 : c = 1
  · rw [if_pos c1]
    have hs := hs.nilRow 21 1
    refine Zerun ?_
    refine CW.loop (fun u : Nat × (Option Addr × Nat × Nat) × List Int × GHeap => [(1, .int .i64 c), (2, .int .i64 kd), (6, .pointer (some ⟨b1, 0, none⟩)), (7, .slice u.2.1.1 u.2.1.2.1 u.2.1.2.2), (22, .slice ads l.length cps), (23, .int .i64 l.length), (24, .int .i64 u.1)]) (fun u w' => u.1 ≤ l.length ∧ GLe h u.2.2.2 ∧ (u.2.2.1 = (l.take u.1).flatMap (·.chars)) ∧ u.2.1.2.1 = u.2.2.1.length ∧ Sees w h u.2.2.2 [⟨u.2.1.1, u.2.1.2.1, u.2.1.2.2, 21, 1, u.2.2.1.map (Value.int .i32)⟩, ⟨some ⟨b1, 0, none⟩, 1, 1, 61, 8, vecCells 0 (.slice none 0 0) 0 (.slice none 0 0) (.slice none 0 0) (.slice none 0 0) (.slice none 0 0) (.slice none 0 0)⟩] w') (fun u => l.length - u.1) (0, (none, 0, 0), [], h) ⟨rfl, rfl, rfl, rfl, rfl, rfl, rfl, trivial⟩ ⟨Nat.zero_le _, GLe.refl _, rfl, rfl, hs⟩ ?_
    rintro ⟨i, ⟨ad, n, cp⟩, X, hh⟩ w5 ⟨hi, hg, hX, hn, hs⟩
    dsimp only at hi hg hX hn hs ⊢
    have hS := hS.mono hg
    by_cases hlt : i < l.length
    · obtain ⟨y, hy, hyl, hRy⟩ := hA.elem i hlt
      have hRy := hRy.mono hR hg
      have hRy' := hRy
      have hmem := List.getElem_mem hlt
      have hel := len_le_sum hmem
      have htk := fun (γ : Type) (f : VecD α → List γ) => fm_take_succ f l i hlt
      generalize hve : l[i] = ve at *
      obtain ⟨wv, nv, sm, il, fl, ch, bx, ⟨rfl, hoc⟩, _⟩ := hRy
      refine Zerun ?_
      (refine RW.allocN T hs rfl rfl rfl rfl ?_; intro b6 w6 hs)
      (refine RW.storeAll T hs 0 rfl rfl rfl rfl rfl rfl hoc rfl ?_; intro w7 hs)
      refine Zerun ?_
      (refine RW.call T hs rfl rfl rfl (vecText_con _ ve _ _ hRy' (by omega)) ?_; intro v h8 w8 hle8 hp8 hs)
      obtain ⟨ad8, cp8, rfl, hS8⟩ := hp8
      have hgh := hg.trans hle8
      have hXn : X ++ ve.chars = (l.take (i + 1)).flatMap (·.chars) := by rw [hX, htk]
      have hlen := fm_len' (f := fun v : VecD α => v.chars) (fun v => by unfold VecD.len; omega) l (i + 1)
      have hve2 : X.length + ve.chars.length ≤ 1048576 := by rw [← List.length_append, hXn]; omega
      refine RW.append T hs 1 rfl rfl (m := ve.chars.length) (news := ve.chars.map (Value.int .i32)) rfl rfl rfl rfl rfl rfl (hS8.src hs.agree (one_ints _ _)) (fun e => by subst e; exact hS8.nil0.2) (by dsimp only; omega) (by omega) ?_
      intro ad9 cp9 w9 hs
      refine Zerun ?_
      refine loopQ_round (i + 1, (ad9, n + ve.chars.length, cp9), X ++ ve.chars, h8) ⟨rfl, rfl, rfl, rfl, rfl, rfl, rfl, trivial⟩ ⟨by dsimp only; omega, hgh, hXn, by simp; omega, ?_⟩ (by dsimp only; omega)
      dsimp only
      rw [List.map_append]
      exact hs.drop
    obtain rfl : i = l.length := by omega
    rw [List.take_length] at hX
    have hlen := fm_len (f := fun v : VecD α => v.chars) (fun v => by unfold VecD.len; omega) l
    rw [← hX] at hlen
    subst hn
    obtain ⟨hF, hleF, hs, hSF⟩ := hs.freeze
    have hTF : KAt .i32 hF (.slice ad X.length cp) X := RowAt.of_sl hSF
    refine Zerun ?_
    (refine RW.call T hs rfl rfl rfl (vecChars_con (R := R) _ X _ _ hTF (by omega)) ?_; intro v hF wF hleF hpF hs)
    obtain ⟨csF, rfl, hvF⟩ := hpF
    have hvF' := hvF
    obtain ⟨wvF, nvF, smF, ilF, flF, chF, bxF, ⟨rfl, hocF⟩, _⟩ := hvF'
    (refine RW.storeAll T hs 0 rfl rfl rfl rfl rfl rfl hocF rfl ?_; intro wG hs)
    refine Zerun ?_
    refine retQ_ret [_] hF ⟨resN T hs 0 rfl rfl rfl rfl rfl rfl, trivial⟩ hs.dropAll ⟨_, rfl, ?_⟩
    rw [← hX]
    exact hvF

  rw [if_neg c1]
  by_cases c2 : c = 2
  · rw [if_pos c2]
    have hs := hs.nilRow 63 9
    refine Zerun ?_
    refine CW.loop (fun u : Nat × (Option Addr × Nat × Nat) × List Value × GHeap => [(1, .int .i64 c), (2, .int .i64 kd), (6, .pointer (some ⟨b1, 0, none⟩)), (8, .slice u.2.1.1 u.2.1.2.1 u.2.1.2.2), (22, .slice ads l.length cps), (23, .int .i64 l.length), (24, .int .i64 u.1)]) (fun u w' => u.1 ≤ l.length ∧ GLe h u.2.2.2 ∧ (AllN 9 (R u.2.2.2) u.2.2.1 ((l.take u.1).flatMap (·.boxes))) ∧ u.2.1.2.1 = ((l.take u.1).flatMap (·.boxes)).length ∧ Sees w h u.2.2.2 [⟨u.2.1.1, u.2.1.2.1, u.2.1.2.2, 63, 9, u.2.2.1⟩, ⟨some ⟨b1, 0, none⟩, 1, 1, 61, 8, vecCells 0 (.slice none 0 0) 0 (.slice none 0 0) (.slice none 0 0) (.slice none 0 0) (.slice none 0 0) (.slice none 0 0)⟩] w') (fun u => l.length - u.1) (0, (none, 0, 0), [], h) ⟨rfl, rfl, rfl, rfl, rfl, rfl, rfl, trivial⟩ ⟨Nat.zero_le _, GLe.refl _, rfl, rfl, hs⟩ ?_
    rintro ⟨i, ⟨ad, n, cp⟩, X, hh⟩ w5 ⟨hi, hg, hX, hn, hs⟩
    dsimp only at hi hg hX hn hs ⊢
    have hS := hS.mono hg
    by_cases hlt : i < l.length
    · obtain ⟨y, hy, hyl, hRy⟩ := hA.elem i hlt
      have hRy := hRy.mono hR hg
      have hRy' := hRy
      have hmem := List.getElem_mem hlt
      have hel := len_le_sum hmem
      have htk := fun (γ : Type) (f : VecD α → List γ) => fm_take_succ f l i hlt
      generalize hve : l[i] = ve at *
      obtain ⟨wv, nv, sm, il, fl, ch, bx, ⟨rfl, hoc⟩, _⟩ := hRy
      refine Zerun ?_
      (refine RW.allocN T hs rfl rfl rfl rfl ?_; intro b6 w6 hs)
      (refine RW.storeAll T hs 0 rfl rfl rfl rfl rfl rfl hoc rfl ?_; intro w7 hs)
      refine Zerun ?_
      (refine RW.call T hs rfl rfl rfl (vecArrays_con hR h1 _ ve _ _ hRy' (by omega)) ?_; intro v h8 w8 hle8 hp8 hs)
      obtain ⟨ad8, cp8, xs8, rfl, hS8, hA8⟩ := hp8
      have hgh := hg.trans hle8
      have hXn : AllN 9 (R h8) (X ++ xs8) ((l.take (i + 1)).flatMap (·.boxes)) := by
        rw [htk]
        exact (hX.mono (fun u a => hR _ _ u a hle8)).append hA8
      have hlen := fm_len' (f := fun v : VecD α => v.boxes) (fun v => by unfold VecD.len; omega) l (i + 1)
      rw [htk, List.length_append] at hlen
      have hne : ((l.take (i + 1)).flatMap (·.boxes)).length = ((l.take i).flatMap (·.boxes)).length + ve.boxes.length := by rw [htk, List.length_append]
      refine RW.append T hs 1 rfl rfl (m := ve.boxes.length) (news := xs8) rfl rfl rfl rfl rfl rfl (hS8.src hs.agree (hA8.ones (h1 h8))) (fun e => by subst e; exact hS8.nil0.2) (by dsimp only; omega) (by omega) ?_
      intro ad9 cp9 w9 hs
      refine Zerun ?_
      refine loopQ_round (i + 1, (ad9, n + ve.boxes.length, cp9), X ++ xs8, h8) ⟨rfl, rfl, rfl, rfl, rfl, rfl, rfl, trivial⟩ ⟨by dsimp only; omega, hgh, hXn, by dsimp only; omega, ?_⟩ (by dsimp only; omega)
      dsimp only
      exact hs.drop
    obtain rfl : i = l.length := by omega
    rw [List.take_length] at hX
    have hlen := fm_len (f := fun v : VecD α => v.boxes) (fun v => by unfold VecD.len; omega) l
    rw [List.take_length] at hn
    subst hn
    obtain ⟨hF, hleF, hs, hSF⟩ := hs.freeze
    have hTF : RowsAt 9 (R hF) hF (.slice ad (l.flatMap (·.boxes)).length cp) (l.flatMap (·.boxes)) := ⟨_, _, X, rfl, hSF, hX.mono (fun u a => hR _ _ u a hleF)⟩
    refine Zerun ?_
    (refine RW.call T hs rfl rfl rfl (vecBoxes_con hR h1 _ _ _ _ hTF (by omega)) ?_; intro v hF wF hleF hpF hs)
    obtain ⟨csF, rfl, hvF⟩ := hpF
    have hvF' := hvF
    obtain ⟨wvF, nvF, smF, ilF, flF, chF, bxF, ⟨rfl, hocF⟩, _⟩ := hvF'
    (refine RW.storeAll T hs 0 rfl rfl rfl rfl rfl rfl hocF rfl ?_; intro wG hs)
    refine Zerun ?_
    exact retQ_ret [_] hF ⟨resN T hs 0 rfl rfl rfl rfl rfl rfl, trivial⟩ hs.dropAll ⟨_, rfl, hvF⟩

  rw [if_neg c2]
  have hc0 : c = 0 := by omega
  by_cases hkd : kd = 1
  · skip
    have hs := hs.nilRow 4 1
    refine Zerun ?_
    refine CW.loop (fun u : Nat × (Option Addr × Nat × Nat) × List Bool × GHeap => [(1, .int .i64 c), (2, .int .i64 kd), (6, .pointer (some ⟨b1, 0, none⟩)), (9, .slice u.2.1.1 u.2.1.2.1 u.2.1.2.2), (22, .slice ads l.length cps), (23, .int .i64 l.length), (24, .int .i64 u.1)]) (fun u w' => u.1 ≤ l.length ∧ GLe h u.2.2.2 ∧ (u.2.2.1.map bitF = (l.take u.1).flatMap (·.nums)) ∧ u.2.1.2.1 = u.2.2.1.length ∧ Sees w h u.2.2.2 [⟨u.2.1.1, u.2.1.2.1, u.2.1.2.2, 4, 1, u.2.2.1.map Value.bool⟩, ⟨some ⟨b1, 0, none⟩, 1, 1, 61, 8, vecCells 0 (.slice none 0 0) 0 (.slice none 0 0) (.slice none 0 0) (.slice none 0 0) (.slice none 0 0) (.slice none 0 0)⟩] w') (fun u => l.length - u.1) (0, (none, 0, 0), [], h) ⟨rfl, rfl, rfl, rfl, rfl, rfl, rfl, trivial⟩ ⟨Nat.zero_le _, GLe.refl _, rfl, rfl, hs⟩ ?_
    rintro ⟨i, ⟨ad, n, cp⟩, X, hh⟩ w5 ⟨hi, hg, hX, hn, hs⟩
    dsimp only at hi hg hX hn hs ⊢
    have hS := hS.mono hg
    by_cases hlt : i < l.length
    · obtain ⟨y, hy, hyl, hRy⟩ := hA.elem i hlt
      have hRy := hRy.mono hR hg
      have hRy' := hRy
      have hmem := List.getElem_mem hlt
      have hel := len_le_sum hmem
      have htk := fun (γ : Type) (f : VecD α → List γ) => fm_take_succ f l i hlt
      generalize hve : l[i] = ve at *
      obtain ⟨wv, nv, sm, il, fl, ch, bx, ⟨rfl, hoc⟩, _⟩ := hRy
      refine Zerun ?_
      (refine RW.allocN T hs rfl rfl rfl rfl ?_; intro b6 w6 hs)
      (refine RW.storeAll T hs 0 rfl rfl rfl rfl rfl rfl hoc rfl ?_; intro w7 hs)
      refine Zerun ?_
      (refine RW.call T hs rfl rfl rfl (vecPacked_con _ ve _ _ hRy') ?_; intro v h8 w8 hle8 hp8 hs)
      obtain ⟨wv8, bs, rfl, hb8, hb81, hb80⟩ := hp8
      have hb8' := hb8
      obtain ⟨_, ws8, ⟨adw, cpw, rfl, _⟩, _⟩ := hb8'
      have hnb : bs.map bitF = ve.nums := by
        by_cases k1 : ve.kind = 1
        · rw [hb81 k1]
        · rw [hb80 k1]; rcases hk1 hc0 hkd ve hmem with e | e
          · exact absurd e k1
          · rw [e]; rfl
      refine Zerun ?_
      (refine RW.allocN T hs rfl rfl rfl rfl ?_; intro b9 w9 hs)
      (refine RW.storeAll T hs 0 rfl rfl rfl rfl rfl rfl rfl rfl ?_; intro w10 hs)
      refine Zerun ?_
      (refine RW.call T hs rfl rfl rfl (bitsUnpack_con _ bs _ _ hb8) ?_; intro v h11 w11 hle11 hp11 hs)
      obtain ⟨ad8, cp8, rfl, hS8⟩ := hp11
      have hgh := hg.trans (hle8.trans hle11)
      have hXn : (X ++ bs).map bitF = (l.take (i + 1)).flatMap (·.nums) := by rw [List.map_append, hX, hnb, htk]
      have hlen := fm_len' (f := fun v : VecD α => v.nums) (fun v => by unfold VecD.len; omega) l (i + 1)
      rw [← hXn, List.length_map, List.length_append] at hlen
      refine RW.append T hs 2 rfl rfl (m := bs.length) (news := bs.map Value.bool) rfl rfl rfl rfl rfl rfl (hS8.src hs.agree (by intro u hu; obtain ⟨x, _, rfl⟩ := List.mem_map.1 hu; rfl)) (fun e => by subst e; exact hS8.nil0.2) (by dsimp only; omega) (by omega) ?_
      intro ad9 cp9 w9 hs
      refine Zerun ?_
      refine loopQ_round (i + 1, (ad9, n + bs.length, cp9), X ++ bs, h11) ⟨rfl, rfl, rfl, rfl, rfl, rfl, rfl, trivial⟩ ⟨by dsimp only; omega, hgh, hXn, by simp; omega, ?_⟩ (by dsimp only; omega)
      dsimp only
      rw [List.map_append]
      exact hs.drop.drop
    obtain rfl : i = l.length := by omega
    rw [List.take_length] at hX
    have hlen := fm_len (f := fun v : VecD α => v.nums) (fun v => by unfold VecD.len; omega) l
    rw [← hX, List.length_map] at hlen
    subst hn
    obtain ⟨hF, hleF, hs, hSF⟩ := hs.freeze
    have hTF : TAt hF (.slice ad X.length cp) X := RowAt.of_sl hSF
    refine Zerun ?_
    (refine RW.call T hs rfl rfl rfl (bitsPack_con _ X _ _ hTF (by omega)) ?_; intro v hP wP hleP hpP hs)
    obtain ⟨wvP, rfl, hbP⟩ := hpP
    (refine RW.call T hs rfl rfl rfl (vecBits_con (R := R) wvP _ _ _ hbP) ?_; intro v hF wF hleF hpF hs)
    obtain ⟨csF, rfl, hvF⟩ := hpF
    have hvr : (⟨1, X.map bitF, [], []⟩ : VecD α) = ⟨leastN (l.flatMap (·.nums)), l.flatMap (·.nums), [], []⟩ := by rw [← hX, leastN_bits]
    rw [hvr] at hvF
    have hvF' := hvF
    obtain ⟨wvF, nvF, smF, ilF, flF, chF, bxF, ⟨rfl, hocF⟩, _⟩ := hvF'
    (refine RW.storeAll T hs 0 rfl rfl rfl rfl rfl rfl hocF rfl ?_; intro wG hs)
    refine Zerun ?_
    exact retQ_ret [_] hF ⟨resN T hs 0 rfl rfl rfl rfl rfl rfl, trivial⟩ hs.dropAll ⟨_, rfl, hvF⟩

  have hkd1 := hkd
  by_cases hkd3 : kd < 4
  · skip
    have hs := hs.nilRow 2 1
    refine Zerun ?_
    refine CW.loop (fun u : Nat × (Option Addr × Nat × Nat) × List Int × GHeap => [(1, .int .i64 c), (2, .int .i64 kd), (6, .pointer (some ⟨b1, 0, none⟩)), (10, .slice u.2.1.1 u.2.1.2.1 u.2.1.2.2), (22, .slice ads l.length cps), (23, .int .i64 l.length), (24, .int .i64 u.1)]) (fun u w' => u.1 ≤ l.length ∧ GLe h u.2.2.2 ∧ (u.2.2.1.map fwF = (l.take u.1).flatMap (·.nums) ∧ ∀ z ∈ u.2.2.1, -9007199254740992 ≤ z ∧ z ≤ 9007199254740992) ∧ u.2.1.2.1 = u.2.2.1.length ∧ Sees w h u.2.2.2 [⟨u.2.1.1, u.2.1.2.1, u.2.1.2.2, 2, 1, u.2.2.1.map (Value.int .i64)⟩, ⟨some ⟨b1, 0, none⟩, 1, 1, 61, 8, vecCells 0 (.slice none 0 0) 0 (.slice none 0 0) (.slice none 0 0) (.slice none 0 0) (.slice none 0 0) (.slice none 0 0)⟩] w') (fun u => l.length - u.1) (0, (none, 0, 0), [], h) ⟨rfl, rfl, rfl, rfl, rfl, rfl, rfl, trivial⟩ ⟨Nat.zero_le _, GLe.refl _, ⟨rfl, fun u hu => (by cases hu)⟩, rfl, hs⟩ ?_
    rintro ⟨i, ⟨ad, n, cp⟩, X, hh⟩ w5 ⟨hi, hg, hX, hn, hs⟩
    dsimp only at hi hg hX hn hs ⊢
    have hS := hS.mono hg
    by_cases hlt : i < l.length
    · obtain ⟨y, hy, hyl, hRy⟩ := hA.elem i hlt
      have hRy := hRy.mono hR hg
      have hRy' := hRy
      have hmem := List.getElem_mem hlt
      have hel := len_le_sum hmem
      have htk := fun (γ : Type) (f : VecD α → List γ) => fm_take_succ f l i hlt
      generalize hve : l[i] = ve at *
      obtain ⟨wv, nv, sm, il, fl, ch, bx, ⟨rfl, hoc⟩, _⟩ := hRy
      refine Zerun ?_
      (refine RW.allocN T hs rfl rfl rfl rfl ?_; intro b6 w6 hs)
      (refine RW.storeAll T hs 0 rfl rfl rfl rfl rfl rfl hoc rfl ?_; intro w7 hs)
      refine Zerun ?_
      have hwk := hRy'.wholes
      have htdv := hRy'.tidy
      (refine RW.call T hs rfl rfl rfl (vecWholes_con hR _ ve _ _ hRy' (by omega)) ?_; intro v h8 w8 hle8 hp8 hs)
      obtain ⟨s8, rfl, hK8⟩ := hp8
      have hY : ((if ve.kind = 1 ∨ ve.kind = 2 ∨ ve.kind = 3 then ve.nums.map (fun x => (wholeF x).1) else []).map fwF = ve.nums) ∧ ∀ u ∈ (if ve.kind = 1 ∨ ve.kind = 2 ∨ ve.kind = 3 then ve.nums.map (fun x => (wholeF x).1) else []), -9007199254740992 ≤ u ∧ u ≤ 9007199254740992 := by
        split
        · rename_i hk
          constructor
          · rw [List.map_map]
            conv => rhs; rw [← List.map_id ve.nums]
            apply List.map_congr_left
            intro x hx
            exact (fw_whole _ _ (htdv x hx) (by rw [← hwk hk x hx])).symm
          · intro u hu
            obtain ⟨x, _, rfl⟩ := List.mem_map.1 hu
            exact wholeF_bounds x
        · rename_i hk
          refine ⟨?_, fun u hu => by cases hu⟩
          rcases hk3 hc0 hkd1 hkd3 ve hmem with e | e | e | e
          · exact absurd (.inl e) hk
          · exact absurd (.inr (.inl e)) hk
          · exact absurd (.inr (.inr e)) hk
          · rw [e]; rfl
      generalize (if ve.kind = 1 ∨ ve.kind = 2 ∨ ve.kind = 3 then ve.nums.map (fun x => (wholeF x).1) else []) = Ys at hK8 hY
      obtain ⟨hYf, hYb⟩ := hY
      obtain ⟨ad8, cp8, rfl, hS8⟩ := hK8
      refine Zerun ?_
      have hgh := hg.trans hle8
      have hXn : (X ++ Ys).map fwF = (l.take (i + 1)).flatMap (·.nums) ∧ ∀ u ∈ X ++ Ys, -9007199254740992 ≤ u ∧ u ≤ 9007199254740992 := by
        refine ⟨by rw [List.map_append, hX.1, hYf, htk], fun u hu => ?_⟩
        rcases List.mem_append.1 hu with hu | hu
        · exact hX.2 u hu
        · exact hYb u hu
      have hlen := fm_len' (f := fun v : VecD α => v.nums) (fun v => by unfold VecD.len; omega) l (i + 1)
      rw [← hXn.1, List.length_map, List.length_append] at hlen
      refine RW.append T hs 1 rfl rfl (m := Ys.length) (news := Ys.map (Value.int .i64)) rfl rfl rfl rfl rfl rfl (hS8.src hs.agree (one_ints _ _)) (fun e => by subst e; exact hS8.nil0.2) (by dsimp only; omega) (by omega) ?_
      intro ad9 cp9 w9 hs
      refine Zerun ?_
      refine loopQ_round (i + 1, (ad9, n + Ys.length, cp9), X ++ Ys, h8) ⟨rfl, rfl, rfl, rfl, rfl, rfl, rfl, trivial⟩ ⟨by dsimp only; omega, hgh, hXn, by simp; omega, ?_⟩ (by dsimp only; omega)
      dsimp only
      rw [List.map_append]
      exact hs.drop
    obtain rfl : i = l.length := by omega
    rw [List.take_length] at hX
    have hlen := fm_len (f := fun v : VecD α => v.nums) (fun v => by unfold VecD.len; omega) l
    rw [← hX.1, List.length_map] at hlen
    subst hn
    obtain ⟨hF, hleF, hs, hSF⟩ := hs.freeze
    have hTF : KAt .i64 hF (.slice ad X.length cp) X := RowAt.of_sl hSF
    refine Zerun ?_
    (refine RW.call T hs rfl rfl rfl (vecInts_con (R := R) _ X _ _ hTF (by omega)) ?_; intro v hP wP hleP hpP hs)
    obtain ⟨csP, ok, rfl, hok, hvP⟩ := hpP
    obtain rfl : ok = true := by rw [hok]; exact decide_eq_true hX.2
    rw [if_pos rfl] at hvP
    have hvP' := hvP
    obtain ⟨wvP, nvP, smP, ilP, flP, chP, bxP, ⟨rfl, hocP⟩, _⟩ := hvP
    refine Zerun ?_
    (refine RW.allocN T hs rfl rfl rfl rfl ?_; intro bQ wQ hs)
    (refine RW.storeAll T hs 0 rfl rfl rfl rfl rfl rfl hocP rfl ?_; intro wS hs)
    refine Zerun ?_
    (refine RW.call T hs rfl rfl rfl (sqSqueeze_con hR _ _ _ _ hvP' (by simp [VecD.len]; omega)) ?_; intro v hF wF hleF hpF hs)
    obtain ⟨csF, rfl, hvF⟩ := hpF
    rw [sq_nums3, hX.1] at hvF
    have hvF' := hvF
    obtain ⟨wvF, nvF, smF, ilF, flF, chF, bxF, ⟨rfl, hocF⟩, _⟩ := hvF'
    (refine RW.storeAll T hs 1 rfl rfl rfl rfl rfl rfl hocF rfl ?_; intro wG hs)
    refine Zerun ?_
    exact retQ_ret [_] hF ⟨resN T hs 1 rfl rfl rfl rfl rfl rfl, trivial⟩ hs.dropAll ⟨_, rfl, hvF⟩

  · skip
    have hs := hs.nilRow 74 1
    refine Zerun ?_
    refine CW.loop (fun u : Nat × (Option Addr × Nat × Nat) × List Nat × GHeap => [(1, .int .i64 c), (2, .int .i64 kd), (6, .pointer (some ⟨b1, 0, none⟩)), (11, .slice u.2.1.1 u.2.1.2.1 u.2.1.2.2), (22, .slice ads l.length cps), (23, .int .i64 l.length), (24, .int .i64 u.1)]) (fun u w' => u.1 ≤ l.length ∧ GLe h u.2.2.2 ∧ (u.2.2.1 = (l.take u.1).flatMap (·.nums)) ∧ u.2.1.2.1 = u.2.2.1.length ∧ Sees w h u.2.2.2 [⟨u.2.1.1, u.2.1.2.1, u.2.1.2.2, 74, 1, u.2.2.1.map (Value.float .f64)⟩, ⟨some ⟨b1, 0, none⟩, 1, 1, 61, 8, vecCells 0 (.slice none 0 0) 0 (.slice none 0 0) (.slice none 0 0) (.slice none 0 0) (.slice none 0 0) (.slice none 0 0)⟩] w') (fun u => l.length - u.1) (0, (none, 0, 0), [], h) ⟨rfl, rfl, rfl, rfl, rfl, rfl, rfl, trivial⟩ ⟨Nat.zero_le _, GLe.refl _, rfl, rfl, hs⟩ ?_
    rintro ⟨i, ⟨ad, n, cp⟩, X, hh⟩ w5 ⟨hi, hg, hX, hn, hs⟩
    dsimp only at hi hg hX hn hs ⊢
    have hS := hS.mono hg
    by_cases hlt : i < l.length
    · obtain ⟨y, hy, hyl, hRy⟩ := hA.elem i hlt
      have hRy := hRy.mono hR hg
      have hRy' := hRy
      have hmem := List.getElem_mem hlt
      have hel := len_le_sum hmem
      have htk := fun (γ : Type) (f : VecD α → List γ) => fm_take_succ f l i hlt
      generalize hve : l[i] = ve at *
      obtain ⟨wv, nv, sm, il, fl, ch, bx, ⟨rfl, hoc⟩, _⟩ := hRy
      refine Zerun ?_
      (refine RW.allocN T hs rfl rfl rfl rfl ?_; intro b6 w6 hs)
      (refine RW.storeAll T hs 0 rfl rfl rfl rfl rfl rfl hoc rfl ?_; intro w7 hs)
      refine Zerun ?_
      (refine RW.call T hs rfl rfl rfl (vecNums_con hR _ ve _ _ hRy' (by omega)) ?_; intro v h8 w8 hle8 hp8 hs)
      obtain ⟨ad8, cp8, rfl, hS8⟩ := hp8
      have hgh := hg.trans hle8
      have hXn : X ++ ve.nums = (l.take (i + 1)).flatMap (·.nums) := by rw [hX, htk]
      have hlen := fm_len' (f := fun v : VecD α => v.nums) (fun v => by unfold VecD.len; omega) l (i + 1)
      rw [← hXn, List.length_append] at hlen
      refine RW.append T hs 1 rfl rfl (m := ve.nums.length) (news := ve.nums.map (Value.float .f64)) rfl rfl rfl rfl rfl rfl (hS8.src hs.agree (by intro u hu; obtain ⟨x, _, rfl⟩ := List.mem_map.1 hu; rfl)) (fun e => by subst e; exact hS8.nil0.2) (by dsimp only; omega) (by omega) ?_
      intro ad9 cp9 w9 hs
      refine Zerun ?_
      refine loopQ_round (i + 1, (ad9, n + ve.nums.length, cp9), X ++ ve.nums, h8) ⟨rfl, rfl, rfl, rfl, rfl, rfl, rfl, trivial⟩ ⟨by dsimp only; omega, hgh, hXn, by simp; omega, ?_⟩ (by dsimp only; omega)
      dsimp only
      rw [List.map_append]
      exact hs.drop
    obtain rfl : i = l.length := by omega
    rw [List.take_length] at hX
    have hlen := fm_len (f := fun v : VecD α => v.nums) (fun v => by unfold VecD.len; omega) l
    rw [← hX] at hlen htdl ⊢
    subst hn
    obtain ⟨hF, hleF, hs, hSF⟩ := hs.freeze
    have hTF : FAt hF (.slice ad X.length cp) X := RowAt.of_sl hSF
    refine Zerun ?_
    (refine RW.call T hs rfl rfl rfl (sqNumbers_con (R := R) hR _ X _ _ hTF (fun u hu => (htdl u hu).1) (by omega)) ?_; intro v hF wF hleF hpF hs)
    obtain ⟨csF, ok, rfl, hok, hvF⟩ := hpF
    obtain rfl : ok = true := by rw [hok]; exact decide_eq_true (fun u hu => (htdl u hu).2.1)
    have htw : X.map tidyW = X := by
      conv => rhs; rw [← List.map_id X]
      apply List.map_congr_left
      intro x hx
      unfold tidyW
      rw [tidySpec_of x (htdl x hx)]
      rfl
    rw [if_pos rfl, htw] at hvF
    have hvF' := hvF
    obtain ⟨wvF, nvF, smF, ilF, flF, chF, bxF, ⟨rfl, hocF⟩, _⟩ := hvF'
    refine Zerun ?_
    (refine RW.allocN T hs rfl rfl rfl rfl ?_; intro bP wP hs)
    (refine RW.storeAll T hs 0 rfl rfl rfl rfl rfl rfl hocF rfl ?_; intro wQ hs)
    refine Zerun ?_
    (refine RW.storeAll T hs 1 rfl rfl rfl rfl rfl rfl hocF rfl ?_; intro wG hs)
    refine Zerun ?_
    exact retQ_ret [_] hF ⟨resN T hs 1 rfl rfl rfl rfl rfl rfl, trivial⟩ hs.dropAll ⟨_, rfl, hvF⟩

end
end Go.Proofs.Ythbfkhklihejiaa

/-
  Contracts of functions of package flat: lists behind each other. No statement is proved here.
-/
namespace Go.Proofs.Ythbfkhklihejiaa
open Go Go.RowKit
set_option linter.unusedVariables false
set_option linter.unusedSimpArgs false
set_option maxHeartbeats 4000000
attribute [local irreducible] CW RW QW SW HW ConM retM heldQ calmQ elemP thenQ blockQ loopQ joinQ retQ Yields Con Sl zF magR unitF truncF fwF wholeF tidySpec elemQ rankF leastN tidyW
set_option maxHeartbeats 4000000

section
variable {α : Type} {R : GHeap → List Value → α → Prop}
/-- the class of lists behind each other, those without elements apart; none: of unlike ones -/
def joinC (c : Int) : List (VecD α) → Option Int
  | [] => some c
  | v :: l => if v.len = 0 then joinC c l else if 0 ≤ c ∧ c ≠ v.cls then none else joinC v.cls l
def headC : List (VecD α) → Int
  | [] => 0
  | v :: _ => v.cls
structure JF (c kd : Int) (m : List (VecD α)) : Prop where
  rng : c = -1 ∨ c = 0 ∨ c = 1 ∨ c = 2
  kd1 : 1 ≤ kd ∧ kd ≤ 6
  all : ∀ v ∈ m, v.len ≠ 0 → v.cls = c ∧ v.kind ≤ kd
theorem cls_rng (v : VecD α) : v.cls = 0 ∨ v.cls = 1 ∨ v.cls = 2 := by unfold VecD.cls; split <;> (try split) <;> omega
theorem joinC_skip {c : Int} {v : VecD α} {l : List (VecD α)} (h0 : v.len = 0) : joinC c (v :: l) = joinC c l := by rw [joinC, if_pos h0]
theorem joinC_bad {c : Int} {v : VecD α} {l : List (VecD α)} (h0 : ¬ v.len = 0) (hc : 0 ≤ c) (hv : ¬ c = v.cls) : joinC c (v :: l) = none := by rw [joinC, if_neg h0, if_pos ⟨hc, hv⟩]
theorem joinC_step {c : Int} {v : VecD α} {l : List (VecD α)} (h0 : ¬ v.len = 0) (hc : ¬ (0 ≤ c ∧ c ≠ v.cls)) : joinC c (v :: l) = joinC v.cls l := by rw [joinC, if_neg h0, if_neg hc]
theorem JF.skip {c kd : Int} {m : List (VecD α)} {v : VecD α} (hF : JF c kd m) (h0 : v.len = 0) : JF c kd (m ++ [v]) := by
  refine ⟨hF.rng, hF.kd1, fun u hu hn => ?_⟩
  rcases List.mem_append.1 hu with hu | hu
  · exact hF.all u hu hn
  · rw [List.mem_singleton.1 hu] at hn; exact absurd h0 hn
theorem JF.step {c kd : Int} {m : List (VecD α)} {v : VecD α} (hF : JF c kd m) (_h0 : ¬ v.len = 0) (hc : c = v.cls ∨ ∀ u ∈ m, u.len = 0) (hcl : v.cls = 0 ∨ v.cls = 1 ∨ v.cls = 2) (hkr : 0 ≤ v.kind ∧ v.kind ≤ 6) : JF v.cls (max kd v.kind) (m ++ [v]) := by
  refine ⟨by omega, by have := hF.kd1; omega, fun u hu hn => ?_⟩
  rcases List.mem_append.1 hu with hu | hu
  · rcases hc with e | e
    · have := hF.all u hu hn; exact ⟨by omega, by omega⟩
    · exact absurd (e u hu) hn
  · rw [List.mem_singleton.1 hu]; exact ⟨rfl, by omega⟩
theorem VecAt.kind_rng {h : GHeap} {cs : List Value} {v : VecD α} (hv : VecAt R h cs v) : 0 ≤ v.kind ∧ v.kind ≤ 6 := by
  obtain ⟨_, _, _, _, _, _, _, _, hk⟩ := hv
  rcases hk with ⟨e, _⟩ | ⟨e, _⟩ | ⟨e, _⟩ | ⟨e, _⟩ | ⟨e, _⟩ | ⟨e, _⟩ | ⟨e, _⟩ <;> omega
theorem VecAt.kind0 {h : GHeap} {cs : List Value} {v : VecD α} (hv : VecAt R h cs v) (k : v.kind = 0) : v.len = 0 := by
  obtain ⟨_, _, _, _, _, _, _, _, hk⟩ := hv
  rcases hk with ⟨_, e⟩ | ⟨e, _⟩ | ⟨e, _⟩ | ⟨e, _⟩ | ⟨e, _⟩ | ⟨e, _⟩ | ⟨e, _⟩ <;> first | omega | (rw [e]; rfl)
theorem flatJoin_con (hR : Mono R) (h1 : One R) (s : Value) (l : List (VecD α)) (w : World) (h : GHeap) (hl : RowsAt 8 (VecAt R h) h s l) (hm : (l.map VecD.len).sum ≤ 1048576) : Con Try.prog 72 [s] w h (fun h' u => ∃ cs' ok, u = .tuple #[.agg cs'.toArray, .bool ok] ∧ (joinC (-1) l = none → ok = false ∧ VecAt R h' cs' VecD.none) ∧ ∀ c, joinC (-1) l = some c → ok = true ∧ VecAt R h' cs' (if c < 0 then noneV (headC l) else joinS c l)) := by
  obtain ⟨ads, cps, xs, rfl, hS, hA⟩ := hl
  have hcap : l.length ≤ 9223372036854775807 := by have := hS.caps; omega
  refine Con.of_body Try.func72 rfl Try.ntmps72 rfl rfl ?_
  intro hs
  refine Zrun ?_
  (refine RW.allocN T hs rfl rfl rfl rfl ?_; intro b1 w1 hs)
  refine Zerun ?_
  refine CW.loop (fun u : Nat × Int × Int × Nat × GHeap => [(0, .slice ads l.length cps), (2, .pointer (some ⟨b1, 0, none⟩)), (4, .int .i64 u.2.1), (5, .int .i64 u.2.2.1), (6, .int .i64 u.2.2.2.1), (9, .slice ads l.length cps), (10, .int .i64 l.length), (11, .int .i64 u.1)]) (fun u w' => u.1 ≤ l.length ∧ GLe h u.2.2.2.2 ∧ joinC (-1) l = joinC u.2.1 (l.drop u.1) ∧ u.2.2.2.1 = ((l.take u.1).map VecD.len).sum ∧ JF u.2.1 u.2.2.1 (l.take u.1) ∧ Sees w h u.2.2.2.2 [⟨some ⟨b1, 0, none⟩, 1, 1, 61, 8, vecCells 0 (.slice none 0 0) 0 (.slice none 0 0) (.slice none 0 0) (.slice none 0 0) (.slice none 0 0) (.slice none 0 0)⟩] w') (fun u => l.length - u.1) (0, -1, 1, 0, h) ⟨rfl, rfl, rfl, rfl, rfl, rfl, rfl, rfl, trivial⟩ ⟨Nat.zero_le _, GLe.refl _, rfl, rfl, ⟨.inl rfl, by dsimp only; omega, fun v hv => by cases hv⟩, hs⟩ ?_
  rintro ⟨i, c, kd, n, hh⟩ w5 ⟨hi, hg, hJ, hn, hF, hs⟩
  dsimp only at hi hg hJ hn hF hs ⊢
  have hS0 := hS
  have hS := hS.mono hg
  have hrng := hF.rng
  have hkd1 := hF.kd1
  by_cases hlt : i < l.length
  · obtain ⟨y, hy, hyl, hRy⟩ := hA.elem i hlt
    have hRy := hRy.mono hR hg
    have hRy' := hRy
    have hkr := hRy.kind_rng
    have hcl := cls_rng l[i]
    have hd := List.drop_eq_getElem_cons hlt
    have htk : l.take (i + 1) = l.take i ++ [l[i]] := by rw [List.take_add_one, List.getElem?_eq_getElem hlt, Option.toList_some]
    have hsum : ((l.take (i + 1)).map VecD.len).sum = ((l.take i).map VecD.len).sum + l[i].len := by rw [htk, List.map_append, List.sum_append, List.map_cons, List.map_nil, List.sum_cons, List.sum_nil, Nat.add_zero]
    have hsl := sum_take_le l (i + 1)
    rw [hd] at hJ
    rw [hsum] at hsl
    rw [← hn] at hsl
    have hFs : l[i].len = 0 → JF c kd (l.take (i + 1)) := fun h0 => by rw [htk]; exact hF.skip h0
    generalize hve : l[i] = ve at *
    obtain ⟨wv, nv, sm, il, fl, ch, bx, ⟨rfl, hoc⟩, _⟩ := hRy
    refine Zerun ?_
    (refine RW.allocN T hs rfl rfl rfl rfl ?_; intro b6 w6 hs)
    (refine RW.storeAll T hs 0 rfl rfl rfl rfl rfl rfl hoc rfl ?_; intro w7 hs)
    refine Zerun ?_
    (refine RW.call T hs rfl rfl rfl (vecLen_con _ ve _ _ hRy') ?_; intro v h8 w8 hle8 hp8 hs)
    subst hp8
    have hRy' := hRy'.mono hR hle8
    by_cases h0 : ve.len = 0
    · refine Zerun ?_
      refine loopQ_round (i + 1, c, kd, n, h8) ⟨rfl, rfl, rfl, rfl, rfl, rfl, rfl, rfl, trivial⟩ ⟨by dsimp only; omega, hg.trans hle8, hJ.trans (joinC_skip h0), by dsimp only; rw [hsum, hn, h0, Nat.add_zero], hFs h0, ?_⟩ (by dsimp only; omega)
      exact hs.drop
    by_cases hc0 : 0 ≤ c
    · refine Zerun ?_
      (refine RW.call T hs rfl rfl rfl (vecClass_con _ ve _ _ hRy') ?_; intro v h12 w12 hle12 hp12 hs)
      subst hp12
      have hRy' := hRy'.mono hR hle12
      by_cases hcc : c = ve.cls
      · skip
        refine Zerun ?_
        (refine RW.call T hs rfl rfl rfl (vecClass_con _ ve _ _ hRy') ?_; intro v h9 w9 hle9 hp9 hs)
        subst hp9
        have hRy' := hRy'.mono hR hle9
        refine Zerun ?_
        (refine RW.call T hs rfl rfl rfl (vecKind_con _ ve _ _ hRy') ?_; intro v h10 w10 hle10 hp10 hs)
        subst hp10
        have hRy' := hRy'.mono hR hle10
        refine Zerun ?_
        (refine RW.call T hs rfl rfl rfl (vecLen_con _ ve _ _ hRy') ?_; intro v h11 w11 hle11 hp11 hs)
        subst hp11
        refine Zerun ?_
        refine loopQ_round (i + 1, ve.cls, max kd ve.kind, n + ve.len, h11) ⟨rfl, rfl, rfl, rfl, rfl, rfl, rfl, rfl, trivial⟩ ⟨by dsimp only; omega, ((((hg.trans hle8).trans hle12).trans hle9).trans hle10).trans hle11, hJ.trans (joinC_step h0 (fun e => e.2 hcc)), by dsimp only; rw [hsum, hn], by dsimp only; rw [htk]; exact hF.step h0 (.inl hcc) hcl hkr, ?_⟩ (by dsimp only; omega)
        exact hs.drop
      · refine Zerun ?_
        refine RW.val (Y.build T rfl rfl rfl rfl rfl rfl rfl) rfl ?_
        (refine RW.storeAll T hs 1 rfl rfl rfl rfl rfl rfl rfl rfl ?_; intro w13 hs)
        refine Zerun ?_
        exact retQ_ret [_, _] h12 ⟨resN T hs 1 rfl rfl rfl rfl rfl rfl, rfl, trivial⟩ hs.dropAll ⟨_, false, rfl, fun _ => ⟨rfl, vecNone h12⟩, fun c' e => by rw [hJ, joinC_bad h0 hc0 hcc] at e; cases e⟩
    · skip
      refine Zerun ?_
      (refine RW.call T hs rfl rfl rfl (vecClass_con _ ve _ _ hRy') ?_; intro v h9 w9 hle9 hp9 hs)
      subst hp9
      have hRy' := hRy'.mono hR hle9
      refine Zerun ?_
      (refine RW.call T hs rfl rfl rfl (vecKind_con _ ve _ _ hRy') ?_; intro v h10 w10 hle10 hp10 hs)
      subst hp10
      have hRy' := hRy'.mono hR hle10
      refine Zerun ?_
      (refine RW.call T hs rfl rfl rfl (vecLen_con _ ve _ _ hRy') ?_; intro v h11 w11 hle11 hp11 hs)
      subst hp11
      refine Zerun ?_
      refine loopQ_round (i + 1, ve.cls, max kd ve.kind, n + ve.len, h11) ⟨rfl, rfl, rfl, rfl, rfl, rfl, rfl, rfl, trivial⟩ ⟨by dsimp only; omega, (((hg.trans hle8).trans hle9).trans hle10).trans hle11, hJ.trans (joinC_step h0 (fun e => hc0 e.1)), by dsimp only; rw [hsum, hn], by dsimp only; rw [htk]; exact hF.step h0 (.inr (fun u hu => by have := hF.all u hu; have hcu := cls_rng u; by_cases e : u.len = 0; exact e; have := this e; omega)) hcl hkr, ?_⟩ (by dsimp only; omega)
      exact hs.drop
  · obtain rfl : i = l.length := by omega
    rw [List.take_length] at hF hn
    rw [List.drop_length] at hJ
    have hJ : joinC (-1) l = some c := hJ
    have hres : ∀ (csr : List Value) (h' : GHeap), VecAt R h' csr (if c < 0 then noneV (headC l) else joinS c l) → ∃ cs' ok, Value.tuple #[.agg csr.toArray, .bool true] = .tuple #[.agg cs'.toArray, .bool ok] ∧ (joinC (-1) l = none → ok = false ∧ VecAt R h' cs' VecD.none) ∧ ∀ c, joinC (-1) l = some c → ok = true ∧ VecAt R h' cs' (if c < 0 then noneV (headC l) else joinS c l) := by
      intro csr h' hv
      refine ⟨csr, true, rfl, (fun e => by rw [hJ] at e; cases e), fun c' e => ?_⟩
      rw [hJ] at e
      cases e
      exact ⟨rfl, hv⟩
    by_cases hcn : c < 0
    · rw [if_pos hcn] at hres
      by_cases hl0 : 0 < l.length
      · obtain ⟨y, hy, hyl, hRy⟩ := hA.elem 0 hl0
        have hRy := hRy.mono hR hg
        have hRy' := hRy
        have hhd : headC l = l[0].cls := by cases l with | nil => cases hl0 | cons a l => rfl
        generalize hve : l[0] = ve at *
        obtain ⟨wv, nv, sm, il, fl, ch, bx, ⟨rfl, hoc⟩, _⟩ := hRy
        refine Zerun ?_
        (refine RW.call T hs rfl rfl rfl (vecClass_con _ ve _ _ hRy') ?_; intro v h8 w8 hle8 hp8 hs)
        subst hp8
        (refine RW.call T hs rfl rfl rfl (vecNone_con hR h1 ve.cls _ _) ?_; intro v h9 w9 hle9 hp9 hs)
        obtain ⟨cs9, rfl, hv9⟩ := hp9
        have hv9' := hv9
        obtain ⟨wv', nv', sm', il', fl', ch', bx', ⟨rfl, hoc'⟩, _⟩ := hv9'
        (refine RW.storeAll T hs 0 rfl rfl rfl rfl rfl rfl hoc' rfl ?_; intro w10 hs)
        refine Zerun ?_
        exact retQ_ret [_, _] h9 ⟨resN T hs 0 rfl rfl rfl rfl rfl rfl, rfl, trivial⟩ hs.dropAll (hres _ _ (by rw [hhd]; exact hv9))
      · have hhd : headC l = 0 := by cases l with | nil => rfl | cons a l => exact absurd (Nat.succ_pos _) hl0
        refine Zerun ?_
        (refine RW.call T hs rfl rfl rfl (vecNone_con hR h1 0 _ _) ?_; intro v h9 w9 hle9 hp9 hs)
        obtain ⟨cs9, rfl, hv9⟩ := hp9
        have hv9' := hv9
        obtain ⟨wv', nv', sm', il', fl', ch', bx', ⟨rfl, hoc'⟩, _⟩ := hv9'
        (refine RW.storeAll T hs 0 rfl rfl rfl rfl rfl rfl hoc' rfl ?_; intro w10 hs)
        refine Zerun ?_
        exact retQ_ret [_, _] h9 ⟨resN T hs 0 rfl rfl rfl rfl rfl rfl, rfl, trivial⟩ hs.dropAll (hres _ _ (by rw [hhd]; exact hv9))
    · rw [if_neg hcn] at hres
      rw [← hn] at hm
      have hz : ∀ v ∈ l, v.nums = [] ∨ (v.kind ≠ 0 ∧ v.cls = c ∧ v.kind ≤ kd ∧ 0 ≤ v.kind) := by
        intro v hv
        by_cases h0 : v.len = 0
        · left
          unfold VecD.len at h0
          exact List.eq_nil_of_length_eq_zero (by omega)
        · right
          obtain ⟨j, hj, rfl⟩ := List.mem_iff_getElem.1 hv
          obtain ⟨y, _, _, hRy⟩ := hA.elem j hj
          have := hF.all _ hv h0
          exact ⟨fun k0 => h0 (hRy.kind0 k0), this.1, this.2, hRy.kind_rng.1⟩
      have hk1 : c = 0 → kd = 1 → ∀ v ∈ l, v.kind = 1 ∨ v.nums = [] := by
        intro _ e v hv
        rcases hz v hv with e2 | ⟨e2, _, e3, e4⟩
        · exact .inr e2
        · left; omega
      have hk3 : c = 0 → kd ≠ 1 → kd < 4 → ∀ v ∈ l, v.kind = 1 ∨ v.kind = 2 ∨ v.kind = 3 ∨ v.nums = [] := by
        intro _ _ e v hv
        rcases hz v hv with e2 | ⟨e2, _, e3, e4⟩
        · exact .inr (.inr (.inr e2))
        · omega
      refine Zerun ?_
      (refine RW.call T hs rfl rfl rfl (flatJoined_con hR h1 _ l c kd _ _ ⟨_, _, _, rfl, hS, hA.mono (fun u a hv => hv.mono hR hg)⟩ (by rw [← hn]; exact hm) (by omega) hk1 hk3) ?_; intro v h9 w9 hle9 hp9 hs)
      obtain ⟨cs9, rfl, hv9⟩ := hp9
      have hv9' := hv9
      have hoc' : cs9.all Value.oneCell' = true := by obtain ⟨_, _, _, _, _, _, _, ⟨_, hoc⟩, _⟩ := hv9'; exact hoc
      have hl9 := hv9.size
      refine RW.storeAll T hs 0 rfl rfl rfl rfl rfl hl9 hoc' hl9 ?_
      intro w10 hs
      refine Zerun ?_
      exact retQ_ret [_, _] h9 ⟨resN T hs 0 rfl rfl rfl rfl rfl hl9, rfl, trivial⟩ hs.dropAll (hres _ _ hv9)
end
end Go.Proofs.Ythbfkhklihejiaa

/-
  Contracts of the document's answer of layer 8: items again and again, turned, behind each other; a number brought between two. No statement is proved here.
-/
namespace Go.Proofs.Ythbfkhklihejiaa
open Go Go.RowKit
set_option linter.unusedVariables false
set_option linter.unusedSimpArgs false
set_option maxHeartbeats 4000000
attribute [local irreducible] CW RW QW SW HW ConM retM heldQ calmQ elemP thenQ blockQ loopQ joinQ retQ Yields Con Sl zF magR unitF truncF fwF wholeF tidySpec elemQ rankF leastN tidyW
set_option maxHeartbeats 4000000

theorem turnL_getD {n j : Nat} (h : j < n) : (turnL n).getD j 0 = ((n - 1 - j : Nat) : Int) := by simp [turnL, List.getD_eq_getElem?_getD, h]
theorem againL_getD {n m j : Nat} (h : j < n) : (againL n m).getD j 0 = againI m j := by simp [againL, List.getD_eq_getElem?_getD, h]
def intoI (n a b : Int) : Int := if n < a then a else if b < n then b else n
theorem refInto_con (n a b : Int) (w : World) (h : GHeap) : Con Try.prog 82 [.int .i64 n, .int .i64 a, .int .i64 b] w h (fun _ u => u = .int .i64 (intoI n a b)) := by
  refine Con.of_body Try.func82 rfl Try.ntmps82 rfl rfl ?_
  intro hs
  unfold intoI
  by_cases c1 : n < a
  · rw [if_pos c1]
    refine Zerun ?_
    exact retQ_ret [_] h ⟨rfl, trivial⟩ hs rfl
  rw [if_neg c1]
  by_cases c2 : b < n
  · rw [if_pos c2]
    refine Zerun ?_
    exact retQ_ret [_] h ⟨rfl, trivial⟩ hs rfl
  rw [if_neg c2]
  refine Zerun ?_
  exact retQ_ret [_] h ⟨rfl, trivial⟩ hs rfl
section
variable {γ : Type} {RC : GHeap → List Value → γ → Prop}
theorem refTurn08_con (hRC : Mono RC) (v : Value) (l : List (ItemD γ)) (w : World) (h : GHeap) (hl : RowsAt 4 (ItemAt RC h) h v l) (hm : l.length ≤ 1048576) : Con Try.prog 87 [v] w h (fun h' u => RowsAt 4 (ItemAt RC h') h' u ((turnL l.length).map fun i => atD l i noItem)) := by
  have hRI := ItemAt.mono hRC
  obtain ⟨ad, cp, xs, rfl, hS, hA⟩ := hl
  refine Con.of_body Try.func87 rfl Try.ntmps87 rfl rfl ?_
  intro hs
  refine Zerun ?_
  have hs := hs.nilRow 83 4
  refine CW.loop (fun u : Nat × Option Addr × Nat × List Value => [(0, .slice ad l.length cp), (3, .slice u.2.1 u.1 u.2.2.1), (4, .int .i64 ((l.length : Int) - 1 - u.1))]) (fun u w' => u.1 ≤ l.length ∧ AllN 4 (ItemAt RC h) u.2.2.2 (((turnL l.length).take u.1).map fun i => atD l i noItem) ∧ Sees w h h [⟨u.2.1, u.1, u.2.2.1, 83, 4, u.2.2.2⟩] w') (fun u => l.length - u.1) (0, none, 0, []) ⟨rfl, rfl, seti (by dsimp only; omega), trivial⟩ ⟨by omega, rfl, hs⟩ ?_
  rintro ⟨i, ra, rc, vs⟩ w5 ⟨hi, hAv, hs⟩
  dsimp only at hi hAv hs ⊢
  by_cases hlt : i < l.length
  · have htk := take_succ_getD (turnL l.length) i 0 (by rw [turnL_length]; exact hlt)
    rw [turnL_getD hlt] at htk
    have hlk : ((l.length : Int) - 1 - i).toNat < l.length := by omega
    obtain ⟨y, hy, hyl, hRy⟩ := hA.elem _ hlk
    have hoy := ItemAt.one _ _ _ hRy
    have hnx : AllN 4 (ItemAt RC h) (vs ++ y) (((turnL l.length).take (i + 1)).map fun i => atD l i noItem) := by
      rw [htk, List.map_append]
      refine hAv.append (AllN.one hyl ?_)
      show ItemAt RC h y (atD l ((l.length - 1 - i : Nat) : Int) noItem)
      rw [atD_in ⟨by omega, by omega⟩, ← getElem_getD l _ noItem (by omega)]
      have e : ((l.length : Int) - 1 - i).toNat = ((l.length - 1 - i : Nat) : Int).toNat := by omega
      simpa only [e] using hRy
    refine Zerun ?_
    (refine RW.lit T hs (vs := [.agg y.toArray]) (cs := y) rfl rfl rfl rfl (by simp [Value.cells, hyl]) rfl (by simp [Value.cells]) rfl rfl rfl ?_; intro b7 w7 hs)
    (refine RW.append T hs 1 rfl rfl (m := 1) (news := y) rfl rfl rfl rfl rfl rfl (hs.src0 (by simpa using hyl) hoy) (by simp) (by dsimp only; omega) (by omega) ?_; intro ad8 cp8 w8 hs; replace hs := hs.drop)
    refine Zerun ?_
    exact loopQ_round (i + 1, ad8, cp8, vs ++ y) ⟨rfl, rfl, seti (by dsimp only; omega), trivial⟩ ⟨by dsimp only; omega, hnx, hs⟩ (by dsimp only; omega)
  · obtain rfl : i = l.length := by omega
    rw [List.take_of_length_le (by rw [turnL_length]; exact Nat.le_refl _)] at hAv
    obtain ⟨h6, hle6, hs, hS6⟩ := hs.freeze
    refine Zerun ?_
    exact retQ_ret [_] h6 ⟨rfl, trivial⟩ hs.dropAll ⟨ra, rc, vs, by simp [packv, turnL_length], by simpa [turnL_length] using hS6, hAv.mono (fun u a => hRI _ _ u a hle6)⟩
end
section
variable {β : Type} {R : GHeap → List Value → β → Prop}
theorem refAgain08_con (hR : Mono R) (v : Value) (l : List (ItemD (PlainD β))) (c n : Int) (w : World) (h : GHeap) (hl : RowsAt 4 (ItemAt (PlainR R) h) h v l) (hn : n ≤ 1048576) : Con Try.prog 85 [v, .int .i64 c, .int .i64 n] w h (fun h' u => RowsAt 4 (ItemAt (PlainR R) h') h' u ((againL n.toNat l.length).map fun i => atD l i (blankI c))) := by
  have hRI := ItemAt.mono (PlainR.mono hR)
  obtain ⟨ad, cp, xs, rfl, hS, hA⟩ := hl
  have hlen : l.length ≤ 9223372036854775807 := by have := hS.caps; omega
  refine Con.of_body Try.func85 rfl Try.ntmps85 rfl rfl ?_
  intro hs
  refine Zerun ?_
  have hs := hs.nilRow 83 4
  refine CW.loop (fun u : Nat × Option Addr × Nat × List Value × GHeap => [(0, .slice ad l.length cp), (1, .int .i64 c), (2, .int .i64 n), (7, .slice u.2.1 u.1 u.2.2.1), (8, .int .i64 u.1)]) (fun u w' => u.1 ≤ n.toNat ∧ GLe h u.2.2.2.2 ∧ AllN 4 (ItemAt (PlainR R) u.2.2.2.2) u.2.2.2.1 (((againL n.toNat l.length).take u.1).map fun i => atD l i (blankI c)) ∧ Sees w h u.2.2.2.2 [⟨u.2.1, u.1, u.2.2.1, 83, 4, u.2.2.2.1⟩] w') (fun u => n.toNat - u.1) (0, none, 0, [], h) ⟨rfl, rfl, rfl, rfl, rfl, trivial⟩ ⟨by omega, GLe.refl _, rfl, hs⟩ ?_
  rintro ⟨i, ra, rc, vs, hh⟩ w5 ⟨hi, hg, hAv, hs⟩
  dsimp only at hi hg hAv hs ⊢
  have hS := hS.mono hg
  by_cases hlt : i < n.toNat
  · have htk := take_succ_getD (againL n.toNat l.length) i 0 (by rw [againL_length]; exact hlt)
    rw [againL_getD hlt] at htk
    have done : ∀ (h6 : GHeap) (cs6 : List Value) (x : ItemD (PlainD β)), GLe hh h6 → cs6.length = 4 → ItemAt (PlainR R) h6 cs6 x → x = atD l (againI l.length i) (blankI c) → AllN 4 (ItemAt (PlainR R) h6) (vs ++ cs6) (((againL n.toNat l.length).take (i + 1)).map fun i => atD l i (blankI c)) := by
      intro h6 cs6 x hle6 hl6 hi6 hx
      rw [htk, List.map_append]
      show AllN 4 _ (vs ++ cs6) (_ ++ [atD l (againI l.length i) (blankI c)])
      rw [← hx]
      exact (hAv.mono (fun u a => hRI _ _ u a hle6)).append (AllN.one hl6 hi6)
    by_cases c1 : l.length = 0
    · refine Zerun ?_
      (refine RW.call T hs rfl rfl rfl (refBlank08_con hR c _ _) ?_; intro v h6 w6 hle6 hp6 hs)
      obtain ⟨cs6, rfl, hi6⟩ := hp6
      have hl6 : cs6.length = 4 := by obtain ⟨_, rfl, _⟩ := hi6; rfl
      have ho6 := ItemAt.one _ _ _ hi6
      (refine RW.lit T hs (vs := [.agg cs6.toArray]) (cs := cs6) rfl rfl rfl rfl (by simp [Value.cells, hl6]) rfl (by simp [Value.cells]) rfl rfl rfl ?_; intro b7 w7 hs)
      (refine RW.append T hs 1 rfl rfl (m := 1) (news := cs6) rfl rfl rfl rfl rfl rfl (hs.src0 (by simpa using hl6) ho6) (by simp) (by dsimp only; omega) (by omega) ?_; intro ad8 cp8 w8 hs; replace hs := hs.drop)
      refine Zerun ?_
      exact loopQ_round (i + 1, ad8, cp8, vs ++ cs6, h6) ⟨rfl, rfl, rfl, rfl, rfl, trivial⟩ ⟨by dsimp only; omega, hg.trans hle6, done h6 cs6 _ hle6 hl6 hi6 (by unfold againI; rw [if_neg (by omega)]; rfl), hs⟩ (by dsimp only; omega)
    have hmp : 0 < l.length := by omega
    have hmod := Nat.mod_lt i hmp
    have hlk : ((i : Int) % (l.length : Int)).toNat < l.length := by omega
    obtain ⟨y, hy, hyl, hRy⟩ := hA.elem _ hlk
    have hoy := ItemAt.one _ _ _ hRy
    have hRy := hRI _ _ _ _ hg hRy
    refine Zerun ?_
    (refine RW.lit T hs (vs := [.agg y.toArray]) (cs := y) rfl rfl rfl rfl (by simp [Value.cells, hyl]) rfl (by simp [Value.cells]) rfl rfl rfl ?_; intro b7 w7 hs)
    (refine RW.append T hs 1 rfl rfl (m := 1) (news := y) rfl rfl rfl rfl rfl rfl (hs.src0 (by simpa using hyl) hoy) (by simp) (by dsimp only; omega) (by omega) ?_; intro ad8 cp8 w8 hs; replace hs := hs.drop)
    refine Zerun ?_
    have ea : againI l.length i = (i : Int) % (l.length : Int) := by unfold againI; rw [if_pos hmp]; omega
    exact loopQ_round (i + 1, ad8, cp8, vs ++ y, hh) ⟨rfl, rfl, rfl, rfl, rfl, trivial⟩ ⟨by dsimp only; omega, hg, done hh y _ (GLe.refl _) hyl hRy (by rw [ea]; exact (getElem_getD l _ _ hlk).trans (atD_in (by omega)).symm), hs⟩ (by dsimp only; omega)
  · obtain rfl : i = n.toNat := by omega
    rw [List.take_of_length_le (by rw [againL_length]; exact Nat.le_refl _)] at hAv
    obtain ⟨h6, hle6, hs, hS6⟩ := hs.freeze
    refine Zerun ?_
    exact retQ_ret [_] h6 ⟨rfl, trivial⟩ hs.dropAll ⟨ra, rc, vs, by simp [packv, againL_length], by simpa [againL_length] using hS6, hAv.mono (fun u a => hRI _ _ u a hle6)⟩
end
section
variable {γ : Type} {RC : GHeap → List Value → γ → Prop}
def joinP (c : Int) : List (PlainD γ) → Option Int
  | [] => some c
  | p :: l => if 0 < p.items.length ∧ 0 ≤ c ∧ c ≠ p.fill then none else joinP (if 0 < p.items.length then p.fill else c) l
def headF : List (PlainD γ) → Int
  | [] => 0
  | p :: _ => p.fill
theorem fmi_len' : ∀ (l : List (PlainD γ)) (i : Nat), ((l.take i).flatMap (·.items)).length ≤ (l.map (·.items.length)).sum
  | [], i => by simp
  | v :: l, 0 => by simp
  | v :: l, i + 1 => by
    have := fmi_len' l i
    simp only [List.take_succ_cons, List.map_cons, List.sum_cons, List.flatMap_cons, List.length_append]
    omega
theorem refJoin08_con (hRC : Mono RC) (s : Value) (l : List (PlainD γ)) (w : World) (h : GHeap) (hl : RowsAt 3 (PlainR RC h) h s l) (hm : (l.map (·.items.length)).sum ≤ 1048576) (hf : ∀ p ∈ l, 0 ≤ p.fill) : Con Try.prog 73 [s] w h (fun h' u => ∃ s' cl, u = .tuple #[s', .int .i64 cl] ∧ (joinP (-1) l = none → cl = -1) ∧ ∀ c, joinP (-1) l = some c → cl = (if 0 ≤ c then c else headF l) ∧ RowsAt 4 (ItemAt RC h') h' s' (l.flatMap (·.items))) := by
  have hRI := ItemAt.mono hRC
  obtain ⟨ad, cp, xs, rfl, hS, hA⟩ := hl
  have hlen : l.length ≤ 9223372036854775807 := by have := hS.caps; omega
  refine Con.of_body Try.func73 rfl Try.ntmps73 rfl rfl ?_
  intro hs
  refine Zerun ?_
  have hs := hs.nilRow 83 4
  refine CW.loop (fun u : Nat × Int × (Option Addr × Nat × Nat) × List Value => [(0, .slice ad l.length cp), (4, .slice u.2.2.1.1 u.2.2.1.2.1 u.2.2.1.2.2), (5, .int .i64 u.2.1), (6, .int .i64 u.1)]) (fun u w' => u.1 ≤ l.length ∧ AllN 4 (ItemAt RC h) u.2.2.2 ((l.take u.1).flatMap (·.items)) ∧ u.2.2.1.2.1 = ((l.take u.1).flatMap (·.items)).length ∧ joinP (-1) l = joinP u.2.1 (l.drop u.1) ∧ -1 ≤ u.2.1 ∧ Sees w h h [⟨u.2.2.1.1, u.2.2.1.2.1, u.2.2.1.2.2, 83, 4, u.2.2.2⟩] w') (fun u => l.length - u.1) (0, -1, (none, 0, 0), []) ⟨rfl, rfl, rfl, rfl, trivial⟩ ⟨by omega, rfl, rfl, rfl, by dsimp only; omega, hs⟩ ?_
  rintro ⟨i, c, ⟨ra, rn, rc⟩, vs⟩ w5 ⟨hi, hAv, hn, hJ, hcm, hs⟩
  dsimp only at hi hAv hn hJ hcm hs ⊢
  by_cases hlt : i < l.length
  · obtain ⟨y, hy, hyl, hRy⟩ := hA.elem _ hlt
    have htk := fm_take_succ (·.items) l i hlt
    have hlen2 := fmi_len' l (i + 1)
    have hd := List.drop_eq_getElem_cons hlt
    rw [hd] at hJ
    have hf0 := hf _ (List.getElem_mem hlt)
    rw [htk, List.length_append, ← hn] at hlen2
    generalize hve : l[i] = p at *
    obtain ⟨sv, it, rfl, hsh, ⟨ad2, cp2, xs2, rfl, hS2, hA2⟩⟩ := hRy
    have hx1 : xs[i * 3 + 1]? = some (.slice ad2 p.items.length cp2) := by rw [AllN.get4 hy 1 (by omega)]; rfl
    have hx2 : xs[i * 3 + 2]? = some (.int .i64 p.fill) := by rw [AllN.get4 hy 2 (by omega)]; rfl
    have ho2 := hA2.ones (ItemAt.one h)
    have hnx : AllN 4 (ItemAt RC h) (vs ++ xs2) ((l.take (i + 1)).flatMap (·.items)) := by rw [htk]; exact hAv.append hA2
    have hnn : rn + p.items.length = ((l.take (i + 1)).flatMap (·.items)).length := by rw [htk, List.length_append, hn]
    by_cases c1 : 0 < p.items.length
    · have hstep : (0 ≤ c → c = p.fill) → joinP c (p :: l.drop (i + 1)) = joinP p.fill (l.drop (i + 1)) := fun e => by
        rw [joinP, if_neg (fun e2 => e2.2.2 (e e2.2.1)), if_pos c1]
      by_cases c2 : 0 ≤ c
      · by_cases c3 : c = p.fill
        · refine Zerun ?_
          refine RW.append T hs 0 rfl rfl (m := p.items.length) (news := xs2) rfl rfl rfl rfl rfl rfl (hS2.src hs.agree ho2) (fun e => by subst e; exact hS2.nil0.2) (by dsimp only; omega) (by omega) ?_
          intro ad9 cp9 w9 hs
          refine Zerun ?_
          exact loopQ_round (i + 1, p.fill, (ad9, rn + p.items.length, cp9), vs ++ xs2) ⟨rfl, rfl, rfl, rfl, trivial⟩ ⟨by dsimp only; omega, hnx, hnn, hJ.trans (hstep (fun _ => c3)), by dsimp only; omega, hs⟩ (by dsimp only; omega)
        · refine Zerun ?_
          refine retQ_ret [_, _] h ⟨rfl, rfl, trivial⟩ hs.dropAll ⟨_, -1, rfl, fun _ => rfl, fun c' e => ?_⟩
          rw [hJ, joinP, if_pos ⟨c1, c2, c3⟩] at e
          cases e
      · refine Zerun ?_
        refine RW.append T hs 0 rfl rfl (m := p.items.length) (news := xs2) rfl rfl rfl rfl rfl rfl (hS2.src hs.agree ho2) (fun e => by subst e; exact hS2.nil0.2) (by dsimp only; omega) (by omega) ?_
        intro ad9 cp9 w9 hs
        refine Zerun ?_
        exact loopQ_round (i + 1, p.fill, (ad9, rn + p.items.length, cp9), vs ++ xs2) ⟨rfl, rfl, rfl, rfl, trivial⟩ ⟨by dsimp only; omega, hnx, hnn, hJ.trans (hstep (fun e => absurd e c2)), by dsimp only; omega, hs⟩ (by dsimp only; omega)
    · have hstep : joinP c (p :: l.drop (i + 1)) = joinP c (l.drop (i + 1)) := by rw [joinP, if_neg (fun e => c1 e.1), if_neg c1]
      refine Zerun ?_
      refine RW.append T hs 0 rfl rfl (m := p.items.length) (news := xs2) rfl rfl rfl rfl rfl rfl (hS2.src hs.agree ho2) (fun e => by subst e; exact hS2.nil0.2) (by dsimp only; omega) (by omega) ?_
      intro ad9 cp9 w9 hs
      refine Zerun ?_
      exact loopQ_round (i + 1, c, (ad9, rn + p.items.length, cp9), vs ++ xs2) ⟨rfl, rfl, rfl, rfl, trivial⟩ ⟨by dsimp only; omega, hnx, hnn, hJ.trans hstep, hcm, hs⟩ (by dsimp only; omega)
  · obtain rfl : i = l.length := by omega
    rw [List.take_length] at hAv hn
    rw [List.drop_length] at hJ
    have hJ : joinP (-1) l = some c := hJ
    subst hn
    obtain ⟨h6, hle6, hs, hS6⟩ := hs.freeze
    have hS := hS.mono hle6
    have hres : ∀ cl, cl = (if 0 ≤ c then c else headF l) → ∃ s' cl', Value.tuple #[.slice ra (l.flatMap (·.items)).length rc, .int .i64 cl] = .tuple #[s', .int .i64 cl'] ∧ (joinP (-1) l = none → cl' = -1) ∧ ∀ c, joinP (-1) l = some c → cl' = (if 0 ≤ c then c else headF l) ∧ RowsAt 4 (ItemAt RC h6) h6 s' (l.flatMap (·.items)) := by
      intro cl hcl
      refine ⟨_, cl, rfl, (fun e => by rw [hJ] at e; cases e), fun c' e => ?_⟩
      rw [hJ] at e
      cases e
      exact ⟨hcl, ra, rc, vs, rfl, hS6, hAv.mono (fun u a => hRI _ _ u a hle6)⟩
    by_cases c1 : 0 ≤ c
    · refine Zerun ?_
      exact retQ_ret [_, _] h6 ⟨rfl, rfl, trivial⟩ hs.dropAll (hres c (by rw [if_pos c1]))
    · rw [if_neg c1] at hres
      by_cases c2 : 0 < l.length
      · obtain ⟨y, hy, hyl, hRy⟩ := hA.elem 0 c2
        have hf0 := hf _ (List.getElem_mem c2)
        have hhd : headF l = l[0].fill := by cases l with | nil => cases c2 | cons a l => rfl
        generalize hve : l[0] = p at *
        obtain ⟨sv, it, rfl, hsh, ⟨ad2, cp2, xs2, rfl, hS2, hA2⟩⟩ := hRy
        have hx2 : xs[0 * 3 + 2]? = some (.int .i64 p.fill) := by rw [AllN.get4 hy 2 (by omega)]; rfl
        refine Zerun ?_
        exact retQ_ret [_, _] h6 ⟨rfl, rfl, trivial⟩ hs.dropAll (hres p.fill hhd.symm)
      · have hhd : headF l = 0 := by cases l with | nil => rfl | cons a l => exact absurd (Nat.succ_pos _) c2
        refine Zerun ?_
        exact retQ_ret [_, _] h6 ⟨rfl, rfl, trivial⟩ hs.dropAll (hres 0 hhd.symm)
end
end Go.Proofs.Ythbfkhklihejiaa

/-
  Contracts of the document's answer and of the laws: how many items a good plain array has. No statement is proved here.
-/
namespace Go.Proofs.Ythbfkhklihejiaa
open Go Go.RowKit
set_option linter.unusedVariables false
set_option linter.unusedSimpArgs false
set_option maxHeartbeats 4000000
attribute [local irreducible] CW RW QW SW HW ConM retM heldQ calmQ elemP thenQ blockQ loopQ joinQ retQ Yields Con Sl zF magR unitF truncF fwF wholeF tidySpec elemQ rankF leastN tidyW
set_option maxHeartbeats 4000000

section
variable {α : Type} {R : GHeap → List Value → α → Prop}
theorem refCountB_step (hR : Mono R) (most : Int) (ih : ∀ cs a w h, R h cs a → Con Try.prog 40 [.agg cs.toArray, .int .i64 most] w h (fun _ u => ∃ r, u = .int .i64 r))
    (cs : List Value) (p : PlainD α) (w : World) (h : GHeap) (hp : PlainR R h cs p) : Con Try.prog 40 [.agg cs.toArray, .int .i64 most] w h (fun _ u => ∃ r, u = .int .i64 r ∧ (p.shape.length ≤ 8 → p.items.length ≤ 1048576 → r ≤ most → (p.items.length : Int) + p.shape.length + 1 ≤ most)) := by
  obtain ⟨s, it, rfl, ⟨ad, cp, rfl, hS⟩, ⟨ad2, cp2, xs, rfl, hS2, hA⟩⟩ := hp
  have hlen : p.items.length ≤ 9223372036854775807 := by have := hS2.caps; omega
  refine Con.of_body Try.func40 rfl Try.ntmps40 rfl rfl ?_
  intro hs
  refine Zrun ?_
  (refine RW.boxN hs rfl rfl ?_; intro b1 w1 hs)
  refine Zerun ?_
  refine RW.val (Y.add' rfl rfl) rfl ?_
  refine RW.val (Y.add' rfl rfl) rfl ?_
  have hr0' : p.shape.length ≤ 8 → p.items.length ≤ 1048576 → IntKind.i64.wrap (IntKind.i64.wrap ((p.items.length : Int) + p.shape.length) + 1) = (p.items.length : Int) + p.shape.length + 1 := by
    intro h1 h2
    have e1 : IntKind.i64.wrap ((p.items.length : Int) + p.shape.length) = (p.items.length : Int) + p.shape.length := wrap64 (by omega)
    rw [e1, wrap64 (by omega)]
  generalize IntKind.i64.wrap (IntKind.i64.wrap _ + 1) = r0 at hr0' ⊢
  refine Zerun ?_
  refine CW.loop (fun q : Nat × Int × GHeap => [(1, .int .i64 most), (2, .pointer (some ⟨b1, 0, none⟩)), (5, .int .i64 q.2.1), (6, .int .i64 q.1)]) (fun q w' => q.1 ≤ p.items.length ∧ GLe h q.2.2 ∧ (most < r0 → q.2.1 = r0) ∧ Sees w h q.2.2 [⟨some ⟨b1, 0, none⟩, 1, 1, 50, 3, [.slice ad p.shape.length cp, .slice ad2 p.items.length cp2, .int .i64 p.fill]⟩] w') (fun q => p.items.length - q.1) (0, r0, h) ⟨rfl, rfl, rfl, rfl, trivial⟩ ⟨by omega, GLe.refl _, fun _ => rfl, hs⟩ ?_
  rintro ⟨i, r, hh⟩ w2 ⟨hi, hg, hr, hs⟩
  dsimp only at hi hg hr hs ⊢
  have hS2 := hS2.mono hg
  by_cases hlt : i < p.items.length
  · obtain ⟨bx, hx4, hx1, ⟨ad3, cp3, ys, rfl, hS3, hA3⟩, hx2, hq0, hq1, hq2, hq3⟩ := ItemAt.cells hA i hlt
    have hS3 := hS3.mono hg
    generalize p.items.getD i noItem = x at *
    by_cases hle : r ≤ most
    · refine Zerun ?_
      refine CW.loop (fun q : Nat × Int × GHeap => [(1, .int .i64 most), (2, .pointer (some ⟨b1, 0, none⟩)), (5, .int .i64 q.2.1), (6, .int .i64 i), (7, .int .i64 q.1)]) (fun q w' => q.1 ≤ x.box.length ∧ GLe hh q.2.2 ∧ Sees w h q.2.2 [⟨some ⟨b1, 0, none⟩, 1, 1, 50, 3, [.slice ad p.shape.length cp, .slice ad2 p.items.length cp2, .int .i64 p.fill]⟩] w') (fun q => x.box.length - q.1) (0, r, hh) ⟨rfl, rfl, rfl, rfl, rfl, trivial⟩ ⟨by omega, GLe.refl _, hs⟩ ?_
      rintro ⟨j, r2, h3⟩ w3 ⟨hj, hg3, hs⟩
      dsimp only at hj hg3 hs ⊢
      have hS2 := hS2.mono hg3
      have hS3 := hS3.mono hg3
      have hbl : x.box.length ≤ 9223372036854775807 := by have := hS3.caps; omega
      by_cases hlt3 : j < x.box.length
      · by_cases hle3 : r2 ≤ most
        · obtain ⟨y, hy, hR3, hR3l⟩ : ∃ y, (ys.drop (j * 3)).take 3 = y ∧ (∃ a, R h y a) ∧ y.length = 3 := by
            obtain ⟨h1, h2⟩ := hA3.get (x.box[j]) j hlt3
            exact ⟨_, rfl, ⟨_, h1⟩, h2⟩
          obtain ⟨a, hRa⟩ := hR3
          have hRa := hR _ _ _ _ (hg.trans hg3) hRa
          refine Zerun ?_
          (refine RW.call T hs rfl rfl rfl (ih _ a _ _ hRa) ?_; intro v h4 w4 hle4 hp4 hs)
          obtain ⟨r4, rfl⟩ := hp4
          refine RW.val (Y.add' rfl rfl) rfl ?_
          generalize IntKind.i64.wrap (r2 + r4) = r5
          refine Zerun ?_
          exact loopQ_round (j + 1, r5, h4) ⟨rfl, rfl, rfl, rfl, rfl, trivial⟩ ⟨by dsimp only; omega, hg3.trans hle4, hs⟩ (by dsimp only; omega)
        · refine Zerun ?_
          exact loopQ_round (i + 1, r2, h3) ⟨rfl, rfl, rfl, rfl, trivial⟩ ⟨by dsimp only; omega, hg.trans hg3, fun e => by have := hr e; omega, hs⟩ (by dsimp only; omega)
      · refine Zerun ?_
        exact loopQ_round (i + 1, r2, h3) ⟨rfl, rfl, rfl, rfl, trivial⟩ ⟨by dsimp only; omega, hg.trans hg3, fun e => by have := hr e; omega, hs⟩ (by dsimp only; omega)
    · refine Zerun ?_
      exact retQ_ret [_] hh ⟨rfl, trivial⟩ hs.dropAll ⟨_, rfl, fun h1 h2 h3 => by have e := hr0' h1 h2; by_cases c : most < r0; have := hr c; omega; omega⟩
  · refine Zerun ?_
    exact retQ_ret [_] hh ⟨rfl, trivial⟩ hs.dropAll ⟨_, rfl, fun h1 h2 h3 => by have e := hr0' h1 h2; by_cases c : most < r0; have := hr c; omega; omega⟩
end
theorem refCountB_con (most : Int) (k : Nat) (cs : List Value) (p : PD (k + 1)) (w : World) (h : GHeap) (hp : PlainAt (k + 1) h cs p) : Con Try.prog 40 [.agg cs.toArray, .int .i64 most] w h (fun _ u => ∃ r, u = .int .i64 r ∧ (chk (k + 1) 40 p = 0 → r ≤ most → (PlainD.items (α := PD k) p).length ≤ most)) := by
  have := refCountB_step (PlainAt.mono k) most (refCount_con most k) cs p w h hp
  refine this.mono ?_
  rintro h' u _ ⟨r, rfl, hr⟩
  refine ⟨r, rfl, fun hc hle => ?_⟩
  obtain ⟨_, _, _, hpr, hok⟩ := (chkP_ok (α := PD k) _ _ _).1 hc
  have h1 : (PlainD.shape (α := PD k) p).length ≤ 8 := by
    by_cases c : 8 < (PlainD.shape (α := PD k) p).length
    · unfold product at hpr
      rw [if_pos c] at hpr
      exact absurd (congrArg Prod.snd hpr) (show (26 : Int) ≠ 0 by decide)
    · omega
  have h2 := (good_sml (k + 1) 40 _ (good_arr (k + 1) 40 p hc)).2.1
  have h3 : (ArrD.vec (α := AD k) (arr (k + 1) p)).len = (PlainD.items (α := PD k) p).length := len_arrV (arr k) _ _ _ hok
  have := hr h1 (by omega) hle
  omega
theorem good08B_con (k : Nat) (cs : List Value) (p : PD (k + 1)) (w : World) (h : GHeap) (hp : PlainAt (k + 1) h cs p) : Con Try.prog 63 [.agg cs.toArray] w h (fun _ u => ∃ b, u = .bool b ∧ (b = true → chk (k + 1) 40 p = 0 ∧ (PlainD.items (α := PD k) p).length ≤ 3000)) := by
  have hp' := hp
  obtain ⟨s, it, rfl, _⟩ := hp
  refine Con.of_body Try.func63 rfl Try.ntmps63 rfl rfl ?_
  intro hs
  refine Zrun ?_
  (refine RW.boxN hs rfl rfl ?_; intro b1 w1 hs)
  refine Zerun ?_
  (refine RW.call T hs rfl rfl rfl (refCountB_con 3000 k _ p _ _ hp') ?_; intro v h2 w2 hle2 hp2 hs)
  obtain ⟨r, rfl, hr⟩ := hp2
  by_cases c1 : r ≤ 2000
  · refine Zerun ?_
    (refine RW.call T hs rfl rfl rfl (refCheck_con (k + 1) _ p _ _ (PlainAt.mono (k + 1) _ _ _ _ hle2 hp')) ?_; intro v h3 w3 hle3 hp3 hs)
    subst hp3
    refine Zerun ?_
    refine retQ_ret [_] h3 ⟨rfl, trivial⟩ hs.dropAll ⟨_, rfl, fun e => ?_⟩
    have hc := of_decide_eq_true e
    have := hr hc (by omega)
    exact ⟨hc, by omega⟩
  · refine Zerun ?_
    exact retQ_ret [_] h2 ⟨rfl, trivial⟩ hs.dropAll ⟨_, rfl, fun e => by cases e⟩
end Go.Proofs.Ythbfkhklihejiaa

/-
  Plain facts on lists of elements picked, cut, turned and put behind each other, and what they show. No statement is proved here.
-/
namespace Go.Proofs.Ythbfkhklihejiaa
open Go Go.RowKit
set_option linter.unusedVariables false
set_option linter.unusedSimpArgs false
set_option maxHeartbeats 4000000
attribute [local irreducible] CW RW QW SW HW ConM retM heldQ calmQ elemP thenQ blockQ loopQ joinQ retQ Yields Con Sl zF magR unitF truncF fwF wholeF tidySpec elemQ rankF leastN tidyW
set_option maxHeartbeats 4000000

structure Shown (k : Nat) (v : VecD (AD k)) (l : List (ItemD (PD k))) (c : Int) : Prop where
  hc : v.cls = c
  k0 : v.kind ≠ 0
  kl : v.kind = v.least
  vm : v.len ≤ 1048576
  sm : ∀ b ∈ v.boxes, sml k b
  he : itemsV (plain k) v = l
  td : ∀ x ∈ l, tdyIt (tdy k) x
theorem shown_of (k : Nat) (p : PD (k + 2)) (h : GHeap) (cs : List Value) (hp : PlainAt (k + 2) h cs p) (hc : chk (k + 2) 40 p = 0) : Shown (k + 1) (ArrD.vec (α := AD (k + 1)) (arr (k + 2) p)) (PlainD.items (α := PD (k + 1)) (tidy (k + 2) p)) (PlainD.fill (α := PD (k + 1)) p) := by
  have hgood := good_arr (k + 2) 40 p hc
  have hsml := good_sml (k + 2) 40 _ hgood
  refine ⟨?_, hgood.2.1, hgood.2.2.1, hsml.2.1, hsml.2.2, congrArg (PlainD.items (α := PD (k + 1))) (plain_arr (k + 2) 40 p hc), tidy_tdy (k + 2) 40 p _ _ hp hc⟩
  obtain ⟨_, h2, h3, _, _⟩ := (chkP_ok (α := PD (k + 1)) _ _ _).1 hc
  exact cls_arrV (arr (k + 1)) _ _ h2 h3
theorem Shown.pick {k : Nat} {v : VecD (AD (k + 1))} {L : List (ItemD (PD (k + 1)))} {c : Int} (H : Shown (k + 1) v L c) (at_ : List Int) (hm : at_.length ≤ 1048576) : Shown (k + 1) (v.pick at_ (blankA k)) (at_.map fun i => atD L i (blankI c : ItemD (PlainD (PD k)))) c := by
  have hpf := pick_facts v at_ (blankA k)
  refine ⟨by rw [pick_cls, H.hc], hpf.1, hpf.2.1, by rw [hpf.2.2.1]; exact hm, ?_, pick_items' (β := PD k) (plain (k + 1)) _ at_ (blankA k) _ _ H.he H.hc rfl, ?_⟩
  · intro b hb
    rcases hpf.2.2.2 b hb with e | e
    · exact H.sm b e
    · rw [e]; exact blankA_sml k
  · intro x hx
    obtain ⟨i, _, rfl⟩ := List.mem_map.1 hx
    rcases atD_mem L i (blankI c : ItemD (PlainD (PD k))) with e | e
    · exact H.td _ e
    · rw [e]; exact blankI_tdy k _
theorem span_items {γ : Type} (L : List γ) (f t_ : Nat) (hf : f ≤ t_) (ht : t_ ≤ L.length) (d : γ) : (spanL f t_).map (fun i => atD L i d) = (L.drop f).take (t_ - f) := by
  apply List.ext_getElem?
  intro j
  simp only [spanL, List.map_map, List.getElem?_map, List.getElem?_take, List.getElem?_drop]
  by_cases c : j < t_ - f
  · rw [List.getElem?_range c, if_pos c]
    simp only [Option.map_some, Function.comp]
    rw [atD_in ⟨by omega, by omega⟩, Int.toNat_natCast]
    have : f + j < L.length := by omega
    simp [List.getD_eq_getElem?_getD, this]
  · rw [if_neg c]
    simp [c]
theorem turn_items {γ : Type} (L : List γ) (d : γ) : (turnL L.length).map (fun i => atD L i d) = L.reverse := by
  apply List.ext_getElem?
  intro j
  simp only [turnL, List.map_map, List.getElem?_map]
  by_cases c : j < L.length
  · rw [List.getElem?_range c, List.getElem?_reverse c]
    simp only [Option.map_some, Function.comp]
    rw [atD_in ⟨by omega, by omega⟩, Int.toNat_natCast]
    have : L.length - 1 - j < L.length := by omega
    simp [List.getD_eq_getElem?_getD, this]
  · simp [c]
section
variable {α β : Type}
theorem len0 {v : VecD α} (h : v.len = 0) : v.nums = [] ∧ v.chars = [] ∧ v.boxes = [] := by
  unfold VecD.len at h
  exact ⟨List.eq_nil_of_length_eq_zero (by omega), List.eq_nil_of_length_eq_zero (by omega), List.eq_nil_of_length_eq_zero (by omega)⟩
theorem itemsV_len0 (f : α → β) {v : VecD α} (h : v.len = 0) : itemsV f v = [] := by
  obtain ⟨h1, h2, h3⟩ := len0 h
  unfold itemsV
  rw [h1, h2, h3]
  split <;> (try split) <;> rfl
theorem flatMap_map' {γ δ ε : Type} (g : δ → ε) (f : γ → List δ) : ∀ l : List γ, (l.flatMap f).map g = l.flatMap fun x => (f x).map g
  | [] => rfl
  | a :: l => by rw [List.flatMap_cons, List.map_append, flatMap_map' g f l, List.flatMap_cons]
theorem flatMap_eq {γ δ : Type} {f g : γ → List δ} : ∀ {l : List γ}, (∀ x ∈ l, f x = g x) → l.flatMap f = l.flatMap g
  | [], _ => rfl
  | a :: l, h => by rw [List.flatMap_cons, List.flatMap_cons, h a (by simp), flatMap_eq (fun x hx => h x (List.mem_cons_of_mem _ hx))]
theorem joinS_cls {c : Int} (hc : c = 0 ∨ c = 1 ∨ c = 2) (l : List (VecD α)) : (joinS c l).cls = c := by
  unfold joinS VecD.cls
  rcases hc with rfl | rfl | rfl
  · have := leastN_bounds (l.flatMap (·.nums))
    rw [if_neg (show ¬ (0 : Int) = 1 by decide), if_neg (show ¬ (0 : Int) = 2 by decide)]
    dsimp only
    rw [if_neg (by omega), if_neg (by omega)]
  · rfl
  · rfl
theorem itemsV_join (f : α → β) {c : Int} {l : List (VecD α)} (hc : c = 0 ∨ c = 1 ∨ c = 2) (h : ∀ v ∈ l, v.len ≠ 0 → v.cls = c) : itemsV f (joinS c l) = l.flatMap (itemsV f) := by
  have hcl := joinS_cls hc l
  rcases hc with rfl | rfl | rfl
  · rw [itemsV_c0 f hcl]
    show (l.flatMap (·.nums)).map _ = _
    rw [flatMap_map']
    apply flatMap_eq
    intro v hv
    by_cases e : v.len = 0
    · rw [itemsV_len0 f e, (len0 e).1]; rfl
    · rw [itemsV_c0 f (h v hv e)]
  · rw [itemsV_c1 f hcl]
    show (l.flatMap (·.chars)).map _ = _
    rw [flatMap_map']
    apply flatMap_eq
    intro v hv
    by_cases e : v.len = 0
    · rw [itemsV_len0 f e, (len0 e).2.1]; rfl
    · rw [itemsV_c1 f (h v hv e)]
  · rw [itemsV_c2 f hcl]
    show (l.flatMap (·.boxes)).map _ = _
    rw [flatMap_map']
    apply flatMap_eq
    intro v hv
    by_cases e : v.len = 0
    · rw [itemsV_len0 f e, (len0 e).2.2]; rfl
    · rw [itemsV_c2 f (h v hv e)]
theorem joinS_len (c : Int) (l : List (VecD α)) : (joinS c l).len ≤ (l.map VecD.len).sum := by
  unfold joinS
  split
  · have := fm_len (f := fun v : VecD α => v.chars) (fun v => by unfold VecD.len; omega) l
    simpa [VecD.len] using this
  · split
    · have := fm_len (f := fun v : VecD α => v.boxes) (fun v => by unfold VecD.len; omega) l
      simpa [VecD.len] using this
    · have := fm_len (f := fun v : VecD α => v.nums) (fun v => by unfold VecD.len; omega) l
      simpa [VecD.len] using this
theorem joinS_boxes {c : Int} {l : List (VecD α)} {b : α} (h : b ∈ (joinS c l).boxes) : ∃ v ∈ l, b ∈ v.boxes := by
  unfold joinS at h
  split at h
  · cases h
  · split at h
    · exact List.mem_flatMap.1 h
    · cases h
theorem joinS_kind (c : Int) (hc : c = 0 ∨ c = 1 ∨ c = 2) (l : List (VecD α)) : (joinS c l).kind ≠ 0 ∧ (joinS c l).kind = (joinS c l).least := by
  have hcl := joinS_cls hc l
  unfold VecD.least
  rw [hcl]
  rcases hc with rfl | rfl | rfl
  · have := leastN_bounds (l.flatMap (·.nums))
    have hk : (joinS 0 l).kind = leastN (l.flatMap (·.nums)) := rfl
    have hn : (joinS 0 l).nums = l.flatMap (·.nums) := rfl
    rw [hk, hn]
    exact ⟨by omega, by rw [if_pos ⟨rfl, by omega⟩]⟩
  · exact ⟨show (5 : Int) ≠ 0 by decide, rfl⟩
  · exact ⟨show (6 : Int) ≠ 0 by decide, rfl⟩
theorem noneV_facts (c : Int) (hc : c = 0 ∨ c = 1 ∨ c = 2) (f : α → β) : (noneV c : VecD α).cls = c ∧ (noneV c : VecD α).kind ≠ 0 ∧ (noneV c : VecD α).kind = (noneV c : VecD α).least ∧ (noneV c : VecD α).len = 0 ∧ (noneV c : VecD α).boxes = [] ∧ itemsV f (noneV c : VecD α) = [] := by
  rcases hc with rfl | rfl | rfl
  · have e : leastN [] = 1 := by have := leastN_bits []; simpa using this
    refine ⟨rfl, show (1 : Int) ≠ 0 by decide, ?_, rfl, rfl, rfl⟩
    show (1 : Int) = if (0 : Int) = 0 ∧ (1 : Int) ≠ 0 then leastN [] else 1
    rw [e]
    rfl
  · exact ⟨rfl, show (5 : Int) ≠ 0 by decide, rfl, rfl, rfl, rfl⟩
  · exact ⟨rfl, show (6 : Int) ≠ 0 by decide, rfl, rfl, rfl, rfl⟩
theorem joinC_some : ∀ (l : List (VecD α)) (c0 c : Int), joinC c0 l = some c → (0 ≤ c0 → c = c0) ∧ (c = c0 ∨ c = 0 ∨ c = 1 ∨ c = 2) ∧ ∀ v ∈ l, v.len ≠ 0 → v.cls = c
  | [], c0, c, h => by
    cases h
    exact ⟨fun _ => rfl, .inl rfl, fun v hv => by cases hv⟩
  | v :: l, c0, c, h => by
    by_cases h0 : v.len = 0
    · rw [joinC_skip h0] at h
      obtain ⟨h1, h2, h3⟩ := joinC_some l c0 c h
      refine ⟨h1, h2, fun u hu hn => ?_⟩
      rcases List.mem_cons.1 hu with rfl | hu
      · exact absurd h0 hn
      · exact h3 u hu hn
    · by_cases hb : 0 ≤ c0 ∧ c0 ≠ v.cls
      · rw [joinC, if_neg h0, if_pos hb] at h; cases h
      · rw [joinC, if_neg h0, if_neg hb] at h
        obtain ⟨h1, h2, h3⟩ := joinC_some l v.cls c h
        have hcl := cls_rng v
        have hcv := h1 (by omega)
        refine ⟨fun e => ?_, by omega, fun u hu hn => ?_⟩
        · rw [hcv]
          exact (Decidable.of_not_not (fun e2 => hb ⟨e, fun e3 => e2 e3.symm⟩))
        · rcases List.mem_cons.1 hu with rfl | hu
          · exact hcv.symm
          · exact h3 u hu hn
end
theorem shown_join {k : Nat} {vs : List (VecD (AD k))} {c : Int} (hJ : joinC (-1) vs = some c) (hA : ∀ v ∈ vs, Shown k v (itemsV (plain k) v) v.cls) (hm : (vs.map VecD.len).sum ≤ 1048576) : Shown k (if c < 0 then noneV (headC vs) else joinS c vs) (vs.flatMap (itemsV (plain k))) (if 0 ≤ c then c else headC vs) := by
  obtain ⟨_, hr, hall⟩ := joinC_some vs (-1) c hJ
  have htd : ∀ x ∈ vs.flatMap (itemsV (plain k)), tdyIt (tdy k) x := by
    intro x hx
    obtain ⟨v, hv, hx⟩ := List.mem_flatMap.1 hx
    exact (hA v hv).td x hx
  by_cases hc : c < 0
  · rw [if_pos hc, if_neg (by omega)]
    have hh : headC vs = 0 ∨ headC vs = 1 ∨ headC vs = 2 := by
      cases vs with
      | nil => exact .inl rfl
      | cons v l => exact cls_rng v
    have he : vs.flatMap (itemsV (plain k)) = [] := by
      rw [flatMap_eq (g := fun _ => [])]
      · simp
      · intro v hv
        apply itemsV_len0
        by_cases e : v.len = 0
        · exact e
        · have := hall v hv e; have := cls_rng v; omega
    obtain ⟨h1, h2, h3, h4, h5, h6⟩ := noneV_facts (headC vs) hh (plain k)
    exact ⟨h1, h2, h3, by omega, (by rw [h5]; intro b hb; cases hb), h6.trans he.symm, htd⟩
  · rw [if_neg hc, if_pos (by omega)]
    have hc3 : c = 0 ∨ c = 1 ∨ c = 2 := by omega
    obtain ⟨h1, h2⟩ := joinS_kind c hc3 vs
    refine ⟨joinS_cls hc3 vs, h1, h2, Nat.le_trans (joinS_len c vs) hm, ?_, itemsV_join _ hc3 hall, htd⟩
    intro b hb
    obtain ⟨v, hv, hb⟩ := joinS_boxes hb
    exact (hA v hv).sm b hb
theorem joinC_joinP {δ α γ : Type} (fv : δ → VecD α) (fp : δ → PlainD γ) : ∀ (l : List δ) (c : Int), (∀ x ∈ l, (fv x).len = (fp x).items.length ∧ (fv x).cls = (fp x).fill) → joinC c (l.map fv) = joinP c (l.map fp) ∧ headC (l.map fv) = headF (l.map fp)
  | [], c, _ => ⟨rfl, rfl⟩
  | x :: l, c, h => by
    obtain ⟨h1, h2⟩ := h x (by simp)
    refine ⟨?_, h2⟩
    have ih := fun c => (joinC_joinP fv fp l c (fun y hy => h y (List.mem_cons_of_mem _ hy))).1
    rw [List.map_cons, List.map_cons, joinC, joinP, h1, h2]
    by_cases e : (fp x).items.length = 0
    · rw [if_pos e, if_neg (by omega), if_neg (by omega)]; exact ih c
    · rw [if_neg e]
      by_cases e2 : 0 ≤ c ∧ c ≠ (fp x).fill
      · rw [if_pos e2, if_pos ⟨by omega, e2⟩]
      · rw [if_neg e2, if_neg (fun e3 => e2 e3.2), if_pos (by omega)]; exact ih _
end Go.Proofs.Ythbfkhklihejiaa

/-
  Plain Lean on floats: a word's own number is rounded to that word; nought less a number. No statement is proved here.
-/
namespace Go.Proofs.Ythbfkhklihejiaa
open Go Go.RowKit Ieee
set_option linter.unusedVariables false
set_option linter.unusedSimpArgs false

theorem log2_of {n L : Nat} (h1 : 2 ^ L ≤ n) (h2 : n < 2 ^ (L + 1)) : n.log2 = L := by
  have h0 : n ≠ 0 := by have := Nat.pow_pos (n := L) (show 0 < 2 by omega); omega
  have l1 : 2 ^ n.log2 ≤ n := Nat.log2_self_le h0
  have l2 : n < 2 ^ (n.log2 + 1) := Nat.lt_log2_self
  rcases Nat.lt_trichotomy n.log2 L with h | h | h
  · have := Nat.pow_le_pow_right (show 0 < 2 by omega) (show n.log2 + 1 ≤ L by omega)
    omega
  · exact h
  · have := Nat.pow_le_pow_right (show 0 < 2 by omega) (show L + 1 ≤ n.log2 by omega)
    omega
theorem cut_exact (neg : Bool) (K d : Nat) (hK : 0 < K) : Toward.even.cut neg (K * 2 ^ d) d = K := by
  have hp := Nat.pow_pos (n := d) (show 0 < 2 by omega)
  have hn0 : K * 2 ^ d ≠ 0 := by have := Nat.mul_pos hK hp; omega
  have hlog : d ≤ (K * 2 ^ d).log2 := by
    rcases Nat.lt_or_ge (K * 2 ^ d).log2 d with h | h
    · exfalso
      have l2 : K * 2 ^ d < 2 ^ ((K * 2 ^ d).log2 + 1) := Nat.lt_log2_self
      have h3 := Nat.pow_le_pow_right (show 0 < 2 by omega) (show (K * 2 ^ d).log2 + 1 ≤ d by omega)
      have h4 : 1 * 2 ^ d ≤ K * 2 ^ d := Nat.mul_le_mul_right _ hK
      omega
    · exact h
  unfold Toward.cut
  have hm : min d ((K * 2 ^ d).log2 + 2) = d := by omega
  rw [hm]
  simp only [Nat.one_shiftLeft]
  rw [Nat.mul_div_cancel _ hp, Nat.mul_mod_left]
  have e1 : decide (2 ^ d < 2 * 0) = false := decide_eq_false (by omega)
  have e2 : ((2 ^ d == 2 * 0) : Bool) = false := by
    rw [beq_eq_false_iff_ne]
    omega
  rw [e1, e2]
  rfl
theorem rung_eq (E K r : Nat) (hE : r / 4503599627370496 = E + 1) (hK : 4503599627370496 + r % 4503599627370496 = K) : E * 4503599627370496 + K = r := by omega
theorem rung_join (neg : Bool) (E K r : Nat) (hE : r / 4503599627370496 = E + 1) (hK : 4503599627370496 + r % 4503599627370496 = K) (hr : r < 9218868437227405312) : double.word neg (min (E * 4503599627370496 + K) 9218868437227405312) = double.word neg r :=
  congrArg (double.word neg) ((congrArg (fun z => min z 9218868437227405312) (rung_eq E K r hE hK)).trans (Nat.min_eq_left (Nat.le_of_lt hr)))
theorem nearest_rung (neg : Bool) (r : Nat) (hr : r < 9218868437227405312) : double.nearest neg (magR r) (-1074) = double.word neg r := by
  have e1 : double.fractionBits = 52 := rfl
  have e2 : double.binade = 4503599627370496 := by decide
  have e3 : double.infRung = 9218868437227405312 := by decide
  have e4 : double.leastPlace = -1074 := by decide
  have p52 : (2 : Nat) ^ 52 = 4503599627370496 := by decide
  have p53 : (2 : Nat) ^ 53 = 9007199254740992 := by decide
  unfold Format.nearest
  rw [e1, e2, e3, e4]
  by_cases c0 : r = 0
  · subst c0
    rw [if_pos (by decide)]
  by_cases c : r < 4503599627370496
  · have hm : magR r = r := by unfold magR; rw [if_pos c]
    rw [hm, if_neg c0]
    have hL : r.log2 < 52 := by
      rcases Nat.lt_or_ge r.log2 52 with h | h
      · exact h
      · have l1 : 2 ^ r.log2 ≤ r := Nat.log2_self_le c0
        have := Nat.pow_le_pow_right (show 0 < 2 by omega) h
        omega
    have a1 : max ((-1074 : Int) + (r.log2 : Int) - ((52 : Nat) : Int)) (-1074) = -1074 := by omega
    simp only [a1]
    rw [show ((-1074 : Int) - -1074).toNat = 0 from rfl, cut_zero, Nat.shiftLeft_zero, Nat.zero_mul, Nat.zero_add]
    congr 1
    omega
  · obtain ⟨E, hE⟩ : ∃ E, r / 4503599627370496 = E + 1 := ⟨r / 4503599627370496 - 1, by omega⟩
    obtain ⟨K, hK⟩ : ∃ K, 4503599627370496 + r % 4503599627370496 = K := ⟨_, rfl⟩
    have hm : magR r = K * 2 ^ E := by
      unfold magR
      rw [if_neg c, hK, hE]
      rfl
    have hp := Nat.pow_pos (n := E) (show 0 < 2 by omega)
    have hKb : 4503599627370496 ≤ K ∧ K < 9007199254740992 := by omega
    have hlog : (K * 2 ^ E).log2 = 52 + E := by
      refine log2_of ?_ ?_
      · rw [Nat.pow_add, p52]
        exact Nat.mul_le_mul_right _ hKb.1
      · rw [show 52 + E + 1 = 53 + E by omega, Nat.pow_add, p53]
        exact Nat.mul_lt_mul_of_pos_right hKb.2 hp
    have hn0 : K * 2 ^ E ≠ 0 := by have := Nat.mul_pos (show 0 < K by omega) hp; omega
    rw [hm, if_neg hn0, hlog]
    have a1 : max ((-1074 : Int) + ((52 + E : Nat) : Int) - ((52 : Nat) : Int)) (-1074) = (E : Int) - 1074 := by omega
    simp only [a1]
    have a2 : ((-1074 : Int) - ((E : Int) - 1074)).toNat = 0 := by omega
    have a3 : ((E : Int) - 1074 - -1074).toNat = E := by omega
    rw [a2, a3, Nat.shiftLeft_zero, cut_exact neg K E (by omega)]
    exact rung_join neg E K r hE hK hr
theorem read_zero : double.read 0 = .number false 0 (-1074) := by decide
/-- nought less a whole number -/
theorem sub_fw (n : Int) (h : -9007199254740992 ≤ n ∧ n ≤ 9007199254740992) : double.sub 0 (fwF n) = some (fwF (-n)) := by
  obtain ⟨⟨ht1, ht2, ht3⟩, hz⟩ := fwF_spec n h
  obtain ⟨tn, hzn⟩ := fwF_spec (-n) (by omega)
  have hu := unitF_pos
  obtain ⟨m, k, hrd, hmk⟩ := read_fin (fwF n) ht2
  have hrb : rungF (fwF n) < 9218868437227405312 := ht2
  unfold Format.sub
  rw [read_zero, hrd]
  show some (double.write (Datum.number _ _ _)) = _
  congr 1
  have hb : min (-1074 : Int) ((k : Int) - 1074) = -1074 := by omega
  simp only [hb]
  have hk : ((k : Int) - 1074 - -1074).toNat = k := by omega
  rw [hk]
  have hs0 : signed false 0 ((-1074 : Int) - -1074).toNat = 0 := by decide
  rw [hs0, Int.zero_add]
  have hsg : signed (!sgF (fwF n)) m k = -zF (fwF n) := by
    rw [zF_signed (fwF n) m k hmk]
    unfold signed
    cases sgF (fwF n) <;> simp
  rw [hsg]
  show double.nearest _ _ _ = _
  have hna : (-zF (fwF n)).natAbs = magR (rungF (fwF n)) := by
    rw [Int.natAbs_neg]
    unfold zF
    split
    · rw [Int.natAbs_neg]; exact Int.natAbs_natCast _
    · exact Int.natAbs_natCast _
  rw [hna, nearest_rung _ _ hrb]
  obtain ⟨ng, hng⟩ : ∃ ng : Bool, (if -zF (fwF n) = 0 then false && !sgF (fwF n) else decide (-zF (fwF n) < 0)) = ng := ⟨_, rfl⟩
  rw [hng]
  obtain ⟨w1, w2, w3, w4⟩ := zF_word ng (rungF (fwF n)) hrb
  have hz3 : zF (double.word ng (rungF (fwF n))) = -zF (fwF n) := by
    unfold zF at hng ⊢
    rw [w2, w3]
    by_cases c : (-(if sgF (fwF n) = true then -((magR (rungF (fwF n)) : Nat) : Int) else (magR (rungF (fwF n)) : Int))) = 0
    · rw [if_pos c] at hng
      subst hng
      simp only [Bool.false_and]
      rw [c]
      split at c <;> simp <;> omega
    · rw [if_neg c] at hng
      subst hng
      cases sgF (fwF n)
      · simp only [Bool.false_eq_true, if_false] at c ⊢
        rw [if_pos (decide_eq_true (by omega))]
      · simp only [if_true] at c ⊢
        rw [if_neg (by simp <;> omega)]
        try omega
  refine zF_inj ⟨w4, w1, ?_⟩ tn (by rw [hz3, hz, hzn, Int.neg_mul])
  intro e
  have hzz : zF (double.word ng (rungF (fwF n))) = 0 := by rw [e]; decide
  rw [hz3] at hzz
  have : ng = false := by
    rw [← hng, if_pos hzz]; rfl
  rw [e] at w2
  rw [this] at w2
  revert w2
  decide
section
variable {P : Program} {n : Nat} {L : Env} {w : World} {ty t yt : TypeId} {x y : Operand}
theorem Y.fSub {u v r : Nat} (hx : opv L x = some (.float .f64 u)) (hy : opv L y = some (.float .f64 v)) (hr : double.sub u v = some r) : Yields P n L w (.binOp .sub t x y yt) ty (.float .f64 r) := by
  have hr' : (Op.floatArith .sub .f64 u v : Sem Value) = pure (.float .f64 r) := by
    unfold Op.floatArith
    have e : FloatKind.f64.format.sub u v = some r := hr
    simp [e]
  exact run_binF (by simp) hx hy (by unfold floatOp; simp only [hr']; rfl)
end
end Go.Proofs.Ythbfkhklihejiaa

/-
  Contracts of the law's own functions of layer 21: the example; what is turned on, and then back. No statement is proved here.
-/
namespace Go.Proofs.Ythbfkhklihejiaa
open Go Go.RowKit
set_option linter.unusedVariables false
set_option linter.unusedSimpArgs false
set_option maxHeartbeats 4000000
attribute [local irreducible] CW RW QW SW HW ConM retM heldQ calmQ elemP thenQ blockQ loopQ joinQ retQ Yields Con Sl zF magR unitF truncF fwF wholeF tidySpec elemQ rankF leastN tidyW
set_option maxHeartbeats 4000000

theorem shows21_con (k : Nat) (cs cp : List Value) (a : AD (k + 1)) (p : PD (k + 1)) (w : World) (h : GHeap) (ha : ArrAt (k + 1) h cs a) (hp : PlainAt (k + 1) h cp p) (hg : good (k + 1) 40 a) (he : plain (k + 1) a = p) (ht : tdy (k + 1) p) : Con Try.prog 104 [.agg cs.toArray, .int .i64 0, .agg cp.toArray, .int .i64 0] w h (fun _ u => u = .bool true) := by
  have ha' := ha
  have hp' := hp
  obtain ⟨s, vc, rfl, ⟨ad, cap, rfl, _⟩, hv⟩ := ha
  obtain ⟨wv, nv, sm, il, fl, ch, bx, ⟨rfl, hoc⟩, _⟩ := hv
  obtain ⟨s2, it2, rfl, ⟨ad2, cp2, rfl, _⟩, ⟨ad3, cp3, xs3, rfl, _, _⟩⟩ := hp
  refine Con.of_body Try.func104 rfl Try.ntmps104 rfl rfl ?_
  intro hs
  refine Zrun ?_
  (refine RW.boxN hs rfl rfl ?_; intro b1 w1 hs)
  refine Zrun ?_
  (refine RW.boxN hs rfl rfl ?_; intro b2 w2 hs)
  refine Zerun ?_
  refine CW.regionO T hs ?_
  intro w5 hs
  refine HW.takeS (fuel := 8) 0 rfl (fun _ _ hs => Y.loadRowN T hs 1 rfl rfl rfl rfl rfl rfl rfl) hs rfl (by kernel_rfl) (by kernel_rfl) (by kernel_rfl) ?_
  refine HW.one (fuel := 7) 1 rfl (by kernel_rfl) ?_
  (refine RW.call T hs rfl rfl rfl (valueGood_con (k + 1) _ a _ _ ha') ?_; intro v h25 w25 hle25 hp25 hs)
  subst hp25
  rw [decB_of hg]
  have ha' := ArrAt.mono (k + 1) _ _ _ _ hle25 ha'
  have hp' := PlainAt.mono (k + 1) _ _ _ _ hle25 hp'
  refine RW.nil ?_
  refine heldQ_normal ⟨_, hs⟩ ?_
  refine HW.takeS (fuel := 6) 2 rfl (fun _ _ hs => Y.move rfl) hs rfl (by kernel_rfl) (by kernel_rfl) (by kernel_rfl) ?_
  refine HW.takeSY (fuel := 5) 3 rfl rfl rfl (fun _ _ hs => Y.loadRowN T hs 1 rfl rfl rfl rfl rfl rfl rfl) hs rfl (by kernel_rfl) (by kernel_rfl) (by kernel_rfl) ?_
  refine HW.takeSY (fuel := 4) 5 rfl rfl rfl (fun _ _ hs => Y.loadRowN T hs 0 rfl rfl rfl rfl rfl rfl rfl) hs rfl (by kernel_rfl) (by kernel_rfl) (by kernel_rfl) ?_
  refine HW.one (fuel := 3) 4 rfl (by kernel_rfl) ?_
  refine RW.guardYes rfl rfl ?_
  (refine RW.call T hs rfl rfl rfl (plainV_con (k + 1) _ a _ _ ha' (good_sml (k + 1) 40 a hg)) ?_; intro v h28 w28 hle28 hp28 hs)
  obtain ⟨cs28, rfl, hq28⟩ := hp28
  rw [he] at hq28
  have hp' := PlainAt.mono (k + 1) _ _ _ _ hle28 hp'
  refine RW.nil ?_
  refine heldQ_normal ⟨_, hs⟩ ?_
  refine HW.one (fuel := 2) 6 rfl (by kernel_rfl) ?_
  refine RW.guardYes rfl rfl ?_
  (refine RW.call T hs rfl rfl rfl (refSame_con (k + 1) _ _ p p _ _ hq28 hp' ht ht) ?_; intro v h30 w30 hle30 hp30 hs)
  subst hp30
  rw [eqB_of (show p = p from rfl)]
  have hp' := PlainAt.mono (k + 1) _ _ _ _ hle30 hp'
  refine RW.nil ?_
  refine heldQ_normal ⟨_, hs⟩ ?_
  refine HW.takeS (fuel := 1) 7 rfl (fun _ _ hs => Y.pickT rfl rfl) hs rfl (by kernel_rfl) (by kernel_rfl) (by kernel_rfl) ?_
  refine HW.takeS (fuel := 0) 8 rfl (fun _ _ hs => Y.assign rfl) hs rfl (by kernel_rfl) (by kernel_rfl) (by kernel_rfl) ?_
  refine HW.done (by kernel_rfl) ?_
  refine calmQ_normal ?_
  refine Zerun ?_
  exact retQ_ret [_] h30 ⟨rfl, trivial⟩ hs.dropAll rfl
theorem fine21_con (k : Nat) (cs : List Value) (p : PD (k + 1)) (w : World) (h : GHeap) (hp : PlainAt (k + 1) h cs p) : Con Try.prog 101 [.agg cs.toArray] w h (fun _ u => ∃ b, u = .bool b ∧ (b = true → chk (k + 1) 40 p = 0 ∧ (PlainD.shape (α := PD k) p).length ≤ 8 ∧ (PlainD.items (α := PD k) p).length ≤ 3000)) := by
  have hp' := hp
  obtain ⟨s, it, rfl, ⟨ad0, cp0, rfl, hS0⟩, ⟨ad, cp, xs, rfl, hS, _⟩⟩ := hp
  have hcap := hS0.caps
  refine Con.of_body Try.func101 rfl Try.ntmps101 rfl rfl ?_
  intro hs
  refine Zrun ?_
  (refine RW.boxN hs rfl rfl ?_; intro b1 w1 hs)
  refine Zerun ?_
  (refine RW.call T hs rfl rfl rfl (refCountB_con 3000 k _ p _ _ hp') ?_; intro v h2 w2 hle2 hp2 hs)
  obtain ⟨r, rfl, hr⟩ := hp2
  by_cases c1 : r ≤ 1500
  · by_cases c2 : (PlainD.shape (α := PD k) p).length ≤ 8
    · refine Zerun ?_
      (refine RW.call T hs rfl rfl rfl (refCheck_con (k + 1) _ p _ _ (PlainAt.mono (k + 1) _ _ _ _ hle2 hp')) ?_; intro v h3 w3 hle3 hp3 hs)
      subst hp3
      refine Zerun ?_
      refine retQ_ret [_] h3 ⟨rfl, trivial⟩ hs.dropAll ⟨_, rfl, fun e => ?_⟩
      have hc := of_decide_eq_true e
      have hh := hr hc (by omega)
      exact ⟨hc, c2, by omega⟩
    · refine Zerun ?_
      exact retQ_ret [_] h2 ⟨rfl, trivial⟩ hs.dropAll ⟨_, rfl, fun e => by cases e⟩
  · refine Zerun ?_
    exact retQ_ret [_] h2 ⟨rfl, trivial⟩ hs.dropAll ⟨_, rfl, fun e => by cases e⟩
theorem tidyW_of {x : Nat} (h : tidyF x) : tidyW x = x := by unfold tidyW; rw [tidySpec_of _ h]
theorem one_kind {α : Type} (n : Int) (h : -9007199254740992 ≤ n ∧ n ≤ 9007199254740992) : (⟨leastN [fwF n], [fwF n], [], []⟩ : VecD α).kind = 1 ∨ (⟨leastN [fwF n], [fwF n], [], []⟩ : VecD α).kind = 2 ∨ (⟨leastN [fwF n], [fwF n], [], []⟩ : VecD α).kind = 3 := by
  have hb := leastN_bounds [fwF n]
  have h3 := fw_rank [n] (fun m hm => by rw [List.mem_singleton.1 hm]; exact h)
  have h3 : leastN [fwF n] ≤ 3 := h3
  dsimp only
  omega
theorem blankA_good (k : Nat) (d : Int) (hd : d ≠ 0) : good (k + 1) d (blankA k) := by
  refine ⟨(by show product [0] 1048576 = (((0 : Nat) : Int), 0); decide), (by show (1 : Int) ≠ 0; omega), ?_, hd, fun b hb => nomatch hb⟩
  show (1 : Int) = VecD.least (⟨1, [], [], []⟩ : VecD (AD k))
  unfold VecD.least
  rw [if_pos ⟨rfl, by dsimp only; omega⟩]
  exact (show (1 : Int) = leastN [] by unfold leastN; rfl)
/-- elements picked, as many as there were: a good array stays one -/
theorem pick_good {k : Nat} {a : AD (k + 2)} (hg : good (k + 2) 40 a) (at_ : List Int) (hl : at_.length = (ArrD.vec (α := AD (k + 1)) a).len) : good (k + 2) 40 (⟨ArrD.shape (α := AD (k + 1)) a, (ArrD.vec (α := AD (k + 1)) a).pick at_ (blankA k)⟩ : ArrD (AD (k + 1))) := by
  obtain ⟨h1, h2, h3, h4, h5⟩ := hg
  obtain ⟨f1, f2, f3, f4⟩ := pick_facts (ArrD.vec (α := AD (k + 1)) a) at_ (blankA k)
  refine ⟨?_, f1, f2, h4, fun b hb => ?_⟩
  · show product (ArrD.shape (α := AD (k + 1)) a) 1048576 = ((((ArrD.vec (α := AD (k + 1)) a).pick at_ (blankA k)).len : Int), 0)
    rw [f3, hl]
    exact h1
  · rcases f4 b hb with e | e
    · exact h5 b e
    · rw [e]; exact blankA_good k _ (by omega)
theorem pick_plain {k : Nat} (s : List Int) (v : VecD (AD (k + 1))) (at_ : List Int) (L : List (ItemD (PD (k + 1)))) (c : Int) (hL : itemsV (plain (k + 1)) v = L) (hc : v.cls = c) : plain (k + 2) (⟨s, v.pick at_ (blankA k)⟩ : ArrD (AD (k + 1))) = (⟨s, at_.map (fun i => atD L i (blankI c : ItemD (PlainD (PD k)))), c⟩ : PlainD (PD (k + 1))) := by
  show (⟨s, itemsV (plain (k + 1)) (v.pick at_ (blankA k)), (v.pick at_ (blankA k)).cls⟩ : PlainD (PD (k + 1))) = _
  rw [pick_cls, hc]
  have := pick_items' (β := PD k) (plain (k + 1)) v at_ (blankA k) L c hL hc rfl
  exact congrArg (fun z => (⟨s, z, c⟩ : PlainD (PD (k + 1)))) this
/-- what a turn comes to, as an array -/
theorem turn_arr {α : Type} {R : GHeap → List Value → α → Prop} {a : ArrD α} {k : Nat} {f : Nat → List Int} {nb : α} {h : GHeap} {cs : List Value} (hT : TurnPost R a k f nb h cs) (hp : product a.shape 1048576 = ((a.vec.len : Int), 0)) (hk : a.shape.length ≠ 0 → k < a.shape.length) :
    ∃ a1 : ArrD α, ArrR R h cs a1 ∧ ((a1 = a ∧ (a.shape.length = 0 ∨ a.vec.len = 0)) ∨ ∃ o d i : Nat, splitSpec a.shape (k : Int) = ((o : Int), (d : Int), (i : Int), true) ∧ o * d * i = a.vec.len ∧ 0 < d ∧ 0 < i ∧ a.shape.length ≠ 0 ∧ 0 < a.vec.len ∧ a1 = ⟨a.shape, a.vec.pick (alongL o d i (f d)) nb⟩) := by
  by_cases c : a.shape.length = 0 ∨ a.vec.len = 0
  · exact ⟨a, hT.1 c, .inl ⟨rfl, c⟩⟩
  · have c1 : a.shape.length ≠ 0 := fun e => c (.inl e)
    have c2 : 0 < a.vec.len := by
      have : a.vec.len ≠ 0 := fun e => c (.inr e)
      omega
    obtain ⟨o, d, i, hsp, _, hod, hod0⟩ := split_axis hp c2 (hk c1)
    exact ⟨_, hT.2 c1 c2 o d i hsp, .inr ⟨o, d, i, hsp, hod, hod0.2.1, hod0.2.2, c1, c2, rfl⟩⟩
theorem axK_lt (s : List Int) (first : Bool) (h : s.length ≠ 0) : axK s first < s.length := by unfold axK; split <;> omega
theorem rolled_len {o d i : Nat} (n : Int) : (alongL o d i (rolledL d n)).length = o * d * i := by rw [alongL_len, rolledL_len, Nat.mul_assoc]
/-- an array turned on, and then back -/
theorem turned_back {k : Nat} {a : AD (k + 2)} (hg : good (k + 2) 40 a) (hIL : (itemsV (plain (k + 1)) (ArrD.vec (α := AD (k + 1)) a)).length = (ArrD.vec (α := AD (k + 1)) a).len) {x : Nat} {n : Int} {a1 a2 : ArrD (AD (k + 1))}
    (h1 : (a1 = a ∧ ((ArrD.shape (α := AD (k + 1)) a).length = 0 ∨ (ArrD.vec (α := AD (k + 1)) a).len = 0)) ∨ ∃ o d i : Nat, splitSpec (ArrD.shape (α := AD (k + 1)) a) (x : Int) = ((o : Int), (d : Int), (i : Int), true) ∧ o * d * i = (ArrD.vec (α := AD (k + 1)) a).len ∧ 0 < d ∧ 0 < i ∧ (ArrD.shape (α := AD (k + 1)) a).length ≠ 0 ∧ 0 < (ArrD.vec (α := AD (k + 1)) a).len ∧ a1 = ⟨ArrD.shape (α := AD (k + 1)) a, (ArrD.vec (α := AD (k + 1)) a).pick (alongL o d i (rolledL d n)) (blankA k)⟩) :
    (product a1.shape 1048576 = ((a1.vec.len : Int), 0) ∧ a1.vec.len ≤ 1048576 ∧ a1.vec.kind ≠ 0 ∧ a1.shape = ArrD.shape (α := AD (k + 1)) a) ∧
    (((a2 = a1 ∧ (a1.shape.length = 0 ∨ a1.vec.len = 0)) ∨ ∃ o d i : Nat, splitSpec a1.shape (x : Int) = ((o : Int), (d : Int), (i : Int), true) ∧ o * d * i = a1.vec.len ∧ 0 < d ∧ 0 < i ∧ a1.shape.length ≠ 0 ∧ 0 < a1.vec.len ∧ a2 = ⟨a1.shape, a1.vec.pick (alongL o d i (rolledL d (-n))) (blankA k)⟩) → good (k + 2) 40 (a2 : AD (k + 2)) ∧ (plain (k + 2) (a2 : AD (k + 2)) = plain (k + 2) a)) := by
  have hsm := (good_sml (k + 2) 40 a hg).2.1
  rcases h1 with ⟨rfl, he⟩ | ⟨o, d, i, hsp, hod, hd, hi, hr, hlen, rfl⟩
  · refine ⟨⟨hg.1, hsm, hg.2.1, rfl⟩, ?_⟩
    rintro (⟨rfl, _⟩ | ⟨o, d, i, _, _, _, _, hr, hl, _⟩)
    · exact ⟨hg, rfl⟩
    · rcases he with e | e
      · exact absurd e hr
      · omega
  · obtain ⟨f1, f2, f3, f4⟩ := pick_facts (ArrD.vec (α := AD (k + 1)) a) (alongL o d i (rolledL d n)) (blankA k)
    rw [rolled_len, hod] at f3
    have hg1 := pick_good hg (alongL o d i (rolledL d n)) (by rw [rolled_len, hod])
    refine ⟨⟨hg1.1, (by dsimp only; rw [f3]; exact hsm), f1, rfl⟩, ?_⟩
    dsimp only
    rintro (⟨_, e | e⟩ | ⟨o', d', i', hsp', hod', hd', hi', hr', hl', rfl⟩)
    · exact absurd e hr
    · omega
    · obtain ⟨rfl, rfl, rfl⟩ := split_inj hsp hsp'
      have hg2 := pick_good (k := k) (a := (⟨ArrD.shape (α := AD (k + 1)) a, (ArrD.vec (α := AD (k + 1)) a).pick (alongL o d i (rolledL d n)) (blankA k)⟩ : ArrD (AD (k + 1)))) hg1 (alongL o d i (rolledL d (-n))) (by rw [rolled_len, hod]; exact f3.symm)
      refine ⟨hg2, ?_⟩
      have hL := pick_items' (β := PD k) (plain (k + 1)) (ArrD.vec (α := AD (k + 1)) a) (alongL o d i (rolledL d n)) (blankA k) _ _ rfl rfl rfl
      rw [pick_plain (ArrD.shape (α := AD (k + 1)) a) _ _ _ _ hL (pick_cls _ _ _)]
      show _ = (⟨ArrD.shape (α := AD (k + 1)) a, itemsV (plain (k + 1)) (ArrD.vec (α := AD (k + 1)) a), (ArrD.vec (α := AD (k + 1)) a).cls⟩ : PlainD (PD (k + 1)))
      have hlen2 : (itemsV (plain (k + 1)) (ArrD.vec (α := AD (k + 1)) a)).length = o * d * i := by rw [hod]; exact hIL
      have := along_back (itemsV (plain (k + 1)) (ArrD.vec (α := AD (k + 1)) a)) (blankI (ArrD.vec (α := AD (k + 1)) a).cls : ItemD (PlainD (PD k))) o d i (rolledN d n) (rolledN d (-n)) hi hd (fun y _ => rolledN_lt d n hd y) (fun y _ => rolledN_lt d (-n) hd y) (fun y hy => rolledN_back d n y hy) hlen2
      exact congrArg (fun z => (⟨ArrD.shape (α := AD (k + 1)) a, z, (ArrD.vec (α := AD (k + 1)) a).cls⟩ : PlainD (PD (k + 1)))) this
end Go.Proofs.Ythbfkhklihejiaa

/-
  Contracts of the law's own functions of layer 21: the example; what is turned on, and then back. No statement is proved here.
-/
namespace Go.Proofs.Ythbfkhklihejiaa
open Go Go.RowKit
set_option linter.unusedVariables false
set_option linter.unusedSimpArgs false
set_option maxHeartbeats 4000000
attribute [local irreducible] CW RW QW SW HW ConM retM heldQ calmQ elemP thenQ blockQ loopQ joinQ retQ Yields Con Sl zF magR unitF truncF fwF wholeF tidySpec elemQ rankF leastN tidyW
set_option maxHeartbeats 4000000

def n5 : Nat := 4617315517961601024
def n6 : Nat := 4618441417868443648
def n7 : Nat := 4619567317775286272
theorem t567 : ∀ u ∈ [n5, n6, n7], tidyF u := by
  intro u hu
  simp only [List.mem_cons, List.not_mem_nil, or_false] at hu
  rcases hu with rfl | rfl | rfl
  · exact tidy5
  · exact tidy6
  · exact tidy7
theorem mem567 {l : List Nat} (h : l.all (fun u => [n5, n6, n7].contains u) = true) : ∀ u ∈ l, u ∈ [n5, n6, n7] := fun u hu => by
  have := List.all_eq_true.1 h u hu
  simpa using this
theorem hsp3 : splitSpec (ArrD.shape (α := AD 1) (numsA 1 [n5, n6, n7])) ((axK (ArrD.shape (α := AD 1) (numsA 1 [n5, n6, n7])) false : Nat) : Int) = (((1 : Nat) : Int), ((3 : Nat) : Int), ((1 : Nat) : Int), true) := by
  show splitSpec [((3 : Nat) : Int)] ((0 : Nat) : Int) = _
  decide
theorem numsA_pick (N : List Nat) (at_ : List Int) (nb : AD 1) (N' : List Nat) (h : at_.map (VecD.num (⟨leastN N, N, [], []⟩ : VecD (AD 1))) = N') : (⟨leastN N, N, [], []⟩ : VecD (AD 1)).pick at_ nb = ⟨leastN N', N', [], []⟩ := by
  have hb := leastN_bounds N
  unfold VecD.pick
  rw [if_neg (by dsimp only; omega), if_neg (by dsimp only; omega), h]
theorem r_rot : (⟨ArrD.shape (α := AD 1) (numsA 1 [n5, n6, n7]), (ArrD.vec (α := AD 1) (numsA 1 [n5, n6, n7])).pick (alongL 1 3 1 (rolledL 3 1)) (blankA 0)⟩ : ArrD (AD 1)) = numsA 1 [n6, n7, n5] := by
  have e : alongL 1 3 1 (rolledL 3 1) = [1, 2, 0] := by decide
  rw [e]
  exact congrArg (fun v => (⟨[3], v⟩ : ArrD (AD 1))) (numsA_pick [n5, n6, n7] [1, 2, 0] (blankA 0) [n6, n7, n5] rfl)
theorem r_rev : (⟨ArrD.shape (α := AD 1) (numsA 1 [n5, n6, n7]), (ArrD.vec (α := AD 1) (numsA 1 [n5, n6, n7])).pick (alongL 1 3 1 (turnL 3)) (blankA 0)⟩ : ArrD (AD 1)) = numsA 1 [n7, n6, n5] := by
  have e : alongL 1 3 1 (turnL 3) = [2, 1, 0] := by decide
  rw [e]
  exact congrArg (fun v => (⟨[3], v⟩ : ArrD (AD 1))) (numsA_pick [n5, n6, n7] [2, 1, 0] (blankA 0) [n7, n6, n5] rfl)
theorem awake21_con (w : World) (h : GHeap) : Con Try.prog 102 [] w h (fun _ u => u = .bool true) := by
  have hk5 : (ArrD.vec (α := AD 1) (numsA 1 [n5, n6, n7])).kind ≠ 0 := by
    have := leastN_bounds [n5, n6, n7]
    show leastN [n5, n6, n7] ≠ 0
    omega
  refine Con.of_body Try.func102 rfl Try.ntmps102 rfl rfl ?_
  intro hs
  refine Zrun ?_
  (refine RW.lit T hs (vs := [.float .f64 4617315517961601024, .float .f64 4618441417868443648, .float .f64 4619567317775286272]) rfl rfl rfl rfl (by simp [Value.cells]) rfl rfl rfl rfl rfl ?_; intro b1 w1 hs)
  obtain ⟨h1, hle1, hs, hS1⟩ := hs.freeze
  have hF1 : FAt h1 (.slice (some ⟨b1, 0, none⟩) 3 3) [n5, n6, n7] := RowAt.of_sl hS1
  (refine RW.call T hs rfl rfl rfl (refNums_con (R := PlainAt 1) (PlainAt.mono 1) _ _ _ _ hF1 (fun x hx => (t567 x hx).1) (by decide)) ?_; intro v h2 w2 hle2 hp2 hs)
  obtain ⟨cs2, rfl, hq2⟩ := hp2
  (refine RW.call T hs rfl rfl rfl (of07_con 2 _ (numsP [n5, n6, n7] : PlainD (PD 1)) _ _ hq2 (numsP_chk 1 _ (fun x hx => (t567 x hx).2.1) (by decide))) ?_; intro v h3 w3 hle3 hp3 hs)
  obtain ⟨cs3, rfl, _, _, ha3⟩ := hp3
  rw [numsP_arr] at ha3
  have eT : [n5, n6, n7].map tidyW = [n5, n6, n7] := by
    conv => rhs; rw [← List.map_id [n5, n6, n7]]
    apply List.map_congr_left
    intro u hu
    exact tidyW_of (t567 u hu)
  rw [eT] at ha3
  obtain ⟨s3, vc3, rfl, ⟨ad3, cap3, rfl, _⟩, hv3⟩ := id ha3
  obtain ⟨wv3, nv3, sm3, il3, fl3, ch3, bx3, ⟨rfl, hoc3⟩, _⟩ := hv3
  have hall3 : (Value.oneCell' (.slice ad3 (ArrD.shape (α := AD 1) (numsA 1 [n5, n6, n7])).length cap3) && (vecCells (ArrD.vec (α := AD 1) (numsA 1 [n5, n6, n7])).kind wv3 nv3 sm3 il3 fl3 ch3 bx3).all Value.oneCell') = true := by rw [hoc3]; rfl
  refine Zerun ?_
  (refine RW.allocN T hs rfl rfl rfl rfl ?_; intro b4 w4 hs)
  refine RW.storeAll T hs 0 rfl rfl rfl rfl rfl rfl hall3 rfl ?_
  intro w5 hs
  refine Zerun ?_
  refine CW.meet (fun r : Nat × List Value × GHeap => [(1, .pointer (some ⟨b4, 0, none⟩)), (2, .pointer (some ⟨r.1, 0, none⟩)), (3, .int .i64 0)]) (fun r w' => ArrAt 2 r.2.2 (.slice ad3 (ArrD.shape (α := AD 1) (numsA 1 [n5, n6, n7])).length cap3 :: vecCells (ArrD.vec (α := AD 1) (numsA 1 [n5, n6, n7])).kind wv3 nv3 sm3 il3 fl3 ch3 bx3) (numsA 1 [n5, n6, n7]) ∧ ArrAt 2 r.2.2 r.2.1 (numsA 1 [n6, n7, n5]) ∧ Sees w h r.2.2 [⟨some ⟨r.1, 0, none⟩, 1, 1, 63, 9, r.2.1⟩, ⟨some ⟨b4, 0, none⟩, 1, 1, 63, 9, .slice ad3 (ArrD.shape (α := AD 1) (numsA 1 [n5, n6, n7])).length cap3 :: vecCells (ArrD.vec (α := AD 1) (numsA 1 [n5, n6, n7])).kind wv3 nv3 sm3 il3 fl3 ch3 bx3⟩] w') ?_ ?_
  · refine CW.regionR T 0 0 hs rfl rfl ?_
    intro w6 hs
    refine HW.takeR (fuel := 9) 2 rfl (fun _ _ ka kb _ hs hka hkb => Y.loadRowN T hs ka hka rfl rfl rfl rfl rfl rfl) ⟨_, _, 0, 0, hs, rfl, rfl⟩ rfl (by kernel_rfl) (by kernel_rfl) (by kernel_rfl) ?_
    refine HW.two (fuel := 8) 0 7 rfl rfl (by kernel_rfl) ?_ ?_
    · (refine RW.call T hs rfl rfl rfl (refOne_con (α := PD (0 + 1)) (R := PlainAt (0 + 1)) (4607182418800017408) _ _ (tidy1).1) ?_; intro v h8 w8 hle8 hp8 hs)
      obtain ⟨cs8, rfl, hq8⟩ := hp8
      have ha3 := ArrAt.mono 2 _ _ _ _ hle8 ha3
      refine RW.nil ?_
      refine heldQ_normal ⟨_, _, 0, 0, hs, rfl, rfl⟩ ?_
      refine HW.two (fuel := 7) 1 7 rfl rfl (by kernel_rfl) ?_ ?_
      · (refine RW.call T hs rfl rfl rfl (of07_con 2 _ (numQ (0 + 1) (4607182418800017408)) _ _ hq8 (numQ_chk (0 + 1) _ (tidy1).2.1)) ?_; intro v h9 w9 hle9 hp9 hs)
        obtain ⟨cs9, rfl, _, _, hn9⟩ := hp9
        rw [numQ_arr, tidyW_of (tidy1)] at hn9
        rw [← fw1] at hn9
        have ha3 := ArrAt.mono 2 _ _ _ _ hle9 ha3
        refine RW.nil ?_
        refine heldQ_normal ⟨_, _, 0, 0, hs, rfl, rfl⟩ ?_
        refine HW.two (fuel := 6) 3 7 rfl rfl (by kernel_rfl) ?_ ?_
        · (refine RW.call T hs rfl rfl rfl (turnRotate_con (ArrAt.mono (0 + 1)) (ArrAt.one (0 + 1)) (ArrAt.siz (0 + 1)) (blankA 0) (fun w h => flatBlank_con (ArrAt.mono 0) (ArrAt.one 0) w h) _ _ _ (fwF (1)) (1) (numsA 1 [n5, n6, n7]) false _ _ hn9 rfl rfl (one_kind (1) (by omega)) (by rw [wholeF_fw _ (by omega)]) ha3 rfl (by decide) hk5) ?_; intro v h11 w11 hle11 hp11 hs)
          obtain ⟨cs11, rfl, hT11⟩ := hp11
          have ha11 := hT11.2 (by decide) (by decide) 1 3 1 hsp3
          rw [r_rot] at ha11
          have ha11 : ArrAt 2 h11 cs11 (numsA 1 [n6, n7, n5]) := ha11
          obtain ⟨s11, vc11, rfl, ⟨ad11, cap11, rfl, _⟩, hv11⟩ := id ha11
          obtain ⟨wv11, nv11, sm11, il11, fl11, ch11, bx11, ⟨rfl, hoc11⟩, _⟩ := hv11
          have hall11 : (Value.oneCell' (.slice ad11 (ArrD.shape (α := AD 1) (numsA 1 [n6, n7, n5])).length cap11) && (vecCells (ArrD.vec (α := AD 1) (numsA 1 [n6, n7, n5])).kind wv11 nv11 sm11 il11 fl11 ch11 bx11).all Value.oneCell') = true := by rw [hoc11]; rfl
          have ha3 := ArrAt.mono 2 _ _ _ _ hle11 ha3
          refine RW.nil ?_
          refine heldQ_normal ⟨_, _, 0, 0, hs, rfl, rfl⟩ ?_
          refine HW.takeR (fuel := 5) 4 rfl (fun _ _ ka kb _ hs hka hkb => Y.move rfl) ⟨_, _, 0, 0, hs, rfl, rfl⟩ rfl (by kernel_rfl) (by kernel_rfl) (by kernel_rfl) ?_
          refine HW.takeR (fuel := 4) 5 rfl (fun _ _ ka kb _ hs hka hkb => Y.extract rfl rfl) ⟨_, _, 0, 0, hs, rfl, rfl⟩ rfl (by kernel_rfl) (by kernel_rfl) (by kernel_rfl) ?_
          refine HW.takeR (fuel := 3) 6 rfl (fun _ _ ka kb _ hs hka hkb => Y.extract rfl rfl) ⟨_, _, 0, 0, hs, rfl, rfl⟩ rfl (by kernel_rfl) (by kernel_rfl) (by kernel_rfl) ?_
          refine HW.one (fuel := 2) 7 rfl (by kernel_rfl) ?_
          (refine RW.allocN T hs rfl rfl rfl rfl ?_; intro b2 w2 hs)
          refine RW.nil ?_
          refine heldQ_normal ⟨_, _, 1, 1, hs, rfl, rfl⟩ ?_
          refine HW.one (fuel := 1) 8 rfl (by kernel_rfl) ?_
          refine RW.storeAll T hs 0 rfl rfl rfl rfl rfl rfl hall11 rfl ?_
          intro w908 hs
          refine RW.nil ?_
          refine heldQ_normal ⟨_, _, 1, 1, hs, rfl, rfl⟩ ?_
          refine HW.takeR (fuel := 0) 9 rfl (fun _ _ ka kb _ hs hka hkb => Y.assign rfl) ⟨_, _, 1, 1, hs, rfl, rfl⟩ rfl (by kernel_rfl) (by kernel_rfl) (by kernel_rfl) ?_
          refine HW.done (by kernel_rfl) ?_
          refine calmQ_normal ?_
          exact joinQ_meet (b2, _, h11) ⟨rfl, rfl, rfl, trivial⟩ ⟨ha3, ha11, hs⟩
        · (refine RW.allocN T hs rfl rfl rfl rfl ?_; intro b2 w2 hs)
          refine RW.nil ?_
          refine heldQ_normal ⟨_, _, 1, 1, hs, rfl, rfl⟩ ?_
          refine HW.one (fuel := 5) 3 rfl (by kernel_rfl) ?_
          (refine RW.call T hs rfl rfl rfl (turnRotate_con (ArrAt.mono (0 + 1)) (ArrAt.one (0 + 1)) (ArrAt.siz (0 + 1)) (blankA 0) (fun w h => flatBlank_con (ArrAt.mono 0) (ArrAt.one 0) w h) _ _ _ (fwF (1)) (1) (numsA 1 [n5, n6, n7]) false _ _ hn9 rfl rfl (one_kind (1) (by omega)) (by rw [wholeF_fw _ (by omega)]) ha3 rfl (by decide) hk5) ?_; intro v h11 w11 hle11 hp11 hs)
          obtain ⟨cs11, rfl, hT11⟩ := hp11
          have ha11 := hT11.2 (by decide) (by decide) 1 3 1 hsp3
          rw [r_rot] at ha11
          have ha11 : ArrAt 2 h11 cs11 (numsA 1 [n6, n7, n5]) := ha11
          obtain ⟨s11, vc11, rfl, ⟨ad11, cap11, rfl, _⟩, hv11⟩ := id ha11
          obtain ⟨wv11, nv11, sm11, il11, fl11, ch11, bx11, ⟨rfl, hoc11⟩, _⟩ := hv11
          have hall11 : (Value.oneCell' (.slice ad11 (ArrD.shape (α := AD 1) (numsA 1 [n6, n7, n5])).length cap11) && (vecCells (ArrD.vec (α := AD 1) (numsA 1 [n6, n7, n5])).kind wv11 nv11 sm11 il11 fl11 ch11 bx11).all Value.oneCell') = true := by rw [hoc11]; rfl
          have ha3 := ArrAt.mono 2 _ _ _ _ hle11 ha3
          refine RW.nil ?_
          refine heldQ_normal ⟨_, _, 1, 1, hs, rfl, rfl⟩ ?_
          refine HW.takeR (fuel := 4) 4 rfl (fun _ _ ka kb _ hs hka hkb => Y.move rfl) ⟨_, _, 1, 1, hs, rfl, rfl⟩ rfl (by kernel_rfl) (by kernel_rfl) (by kernel_rfl) ?_
          refine HW.takeR (fuel := 3) 5 rfl (fun _ _ ka kb _ hs hka hkb => Y.extract rfl rfl) ⟨_, _, 1, 1, hs, rfl, rfl⟩ rfl (by kernel_rfl) (by kernel_rfl) (by kernel_rfl) ?_
          refine HW.takeR (fuel := 2) 6 rfl (fun _ _ ka kb _ hs hka hkb => Y.extract rfl rfl) ⟨_, _, 1, 1, hs, rfl, rfl⟩ rfl (by kernel_rfl) (by kernel_rfl) (by kernel_rfl) ?_
          refine HW.one (fuel := 1) 8 rfl (by kernel_rfl) ?_
          refine RW.storeAll T hs 0 rfl rfl rfl rfl rfl rfl hall11 rfl ?_
          intro w908 hs
          refine RW.nil ?_
          refine heldQ_normal ⟨_, _, 1, 1, hs, rfl, rfl⟩ ?_
          refine HW.takeR (fuel := 0) 9 rfl (fun _ _ ka kb _ hs hka hkb => Y.assign rfl) ⟨_, _, 1, 1, hs, rfl, rfl⟩ rfl (by kernel_rfl) (by kernel_rfl) (by kernel_rfl) ?_
          refine HW.done (by kernel_rfl) ?_
          refine calmQ_normal ?_
          exact joinQ_meet (b2, _, h11) ⟨rfl, rfl, rfl, trivial⟩ ⟨ha3, ha11, hs⟩
      · (refine RW.allocN T hs rfl rfl rfl rfl ?_; intro b2 w2 hs)
        refine RW.nil ?_
        refine heldQ_normal ⟨_, _, 1, 1, hs, rfl, rfl⟩ ?_
        refine HW.one (fuel := 6) 1 rfl (by kernel_rfl) ?_
        (refine RW.call T hs rfl rfl rfl (of07_con 2 _ (numQ (0 + 1) (4607182418800017408)) _ _ hq8 (numQ_chk (0 + 1) _ (tidy1).2.1)) ?_; intro v h9 w9 hle9 hp9 hs)
        obtain ⟨cs9, rfl, _, _, hn9⟩ := hp9
        rw [numQ_arr, tidyW_of (tidy1)] at hn9
        rw [← fw1] at hn9
        have ha3 := ArrAt.mono 2 _ _ _ _ hle9 ha3
        refine RW.nil ?_
        refine heldQ_normal ⟨_, _, 1, 1, hs, rfl, rfl⟩ ?_
        refine HW.one (fuel := 5) 3 rfl (by kernel_rfl) ?_
        (refine RW.call T hs rfl rfl rfl (turnRotate_con (ArrAt.mono (0 + 1)) (ArrAt.one (0 + 1)) (ArrAt.siz (0 + 1)) (blankA 0) (fun w h => flatBlank_con (ArrAt.mono 0) (ArrAt.one 0) w h) _ _ _ (fwF (1)) (1) (numsA 1 [n5, n6, n7]) false _ _ hn9 rfl rfl (one_kind (1) (by omega)) (by rw [wholeF_fw _ (by omega)]) ha3 rfl (by decide) hk5) ?_; intro v h11 w11 hle11 hp11 hs)
        obtain ⟨cs11, rfl, hT11⟩ := hp11
        have ha11 := hT11.2 (by decide) (by decide) 1 3 1 hsp3
        rw [r_rot] at ha11
        have ha11 : ArrAt 2 h11 cs11 (numsA 1 [n6, n7, n5]) := ha11
        obtain ⟨s11, vc11, rfl, ⟨ad11, cap11, rfl, _⟩, hv11⟩ := id ha11
        obtain ⟨wv11, nv11, sm11, il11, fl11, ch11, bx11, ⟨rfl, hoc11⟩, _⟩ := hv11
        have hall11 : (Value.oneCell' (.slice ad11 (ArrD.shape (α := AD 1) (numsA 1 [n6, n7, n5])).length cap11) && (vecCells (ArrD.vec (α := AD 1) (numsA 1 [n6, n7, n5])).kind wv11 nv11 sm11 il11 fl11 ch11 bx11).all Value.oneCell') = true := by rw [hoc11]; rfl
        have ha3 := ArrAt.mono 2 _ _ _ _ hle11 ha3
        refine RW.nil ?_
        refine heldQ_normal ⟨_, _, 1, 1, hs, rfl, rfl⟩ ?_
        refine HW.takeR (fuel := 4) 4 rfl (fun _ _ ka kb _ hs hka hkb => Y.move rfl) ⟨_, _, 1, 1, hs, rfl, rfl⟩ rfl (by kernel_rfl) (by kernel_rfl) (by kernel_rfl) ?_
        refine HW.takeR (fuel := 3) 5 rfl (fun _ _ ka kb _ hs hka hkb => Y.extract rfl rfl) ⟨_, _, 1, 1, hs, rfl, rfl⟩ rfl (by kernel_rfl) (by kernel_rfl) (by kernel_rfl) ?_
        refine HW.takeR (fuel := 2) 6 rfl (fun _ _ ka kb _ hs hka hkb => Y.extract rfl rfl) ⟨_, _, 1, 1, hs, rfl, rfl⟩ rfl (by kernel_rfl) (by kernel_rfl) (by kernel_rfl) ?_
        refine HW.one (fuel := 1) 8 rfl (by kernel_rfl) ?_
        refine RW.storeAll T hs 0 rfl rfl rfl rfl rfl rfl hall11 rfl ?_
        intro w908 hs
        refine RW.nil ?_
        refine heldQ_normal ⟨_, _, 1, 1, hs, rfl, rfl⟩ ?_
        refine HW.takeR (fuel := 0) 9 rfl (fun _ _ ka kb _ hs hka hkb => Y.assign rfl) ⟨_, _, 1, 1, hs, rfl, rfl⟩ rfl (by kernel_rfl) (by kernel_rfl) (by kernel_rfl) ?_
        refine HW.done (by kernel_rfl) ?_
        refine calmQ_normal ?_
        exact joinQ_meet (b2, _, h11) ⟨rfl, rfl, rfl, trivial⟩ ⟨ha3, ha11, hs⟩
    · (refine RW.allocN T hs rfl rfl rfl rfl ?_; intro b2 w2 hs)
      refine RW.nil ?_
      refine heldQ_normal ⟨_, _, 1, 1, hs, rfl, rfl⟩ ?_
      refine HW.one (fuel := 7) 0 rfl (by kernel_rfl) ?_
      (refine RW.call T hs rfl rfl rfl (refOne_con (α := PD (0 + 1)) (R := PlainAt (0 + 1)) (4607182418800017408) _ _ (tidy1).1) ?_; intro v h8 w8 hle8 hp8 hs)
      obtain ⟨cs8, rfl, hq8⟩ := hp8
      have ha3 := ArrAt.mono 2 _ _ _ _ hle8 ha3
      refine RW.nil ?_
      refine heldQ_normal ⟨_, _, 1, 1, hs, rfl, rfl⟩ ?_
      refine HW.one (fuel := 6) 1 rfl (by kernel_rfl) ?_
      (refine RW.call T hs rfl rfl rfl (of07_con 2 _ (numQ (0 + 1) (4607182418800017408)) _ _ hq8 (numQ_chk (0 + 1) _ (tidy1).2.1)) ?_; intro v h9 w9 hle9 hp9 hs)
      obtain ⟨cs9, rfl, _, _, hn9⟩ := hp9
      rw [numQ_arr, tidyW_of (tidy1)] at hn9
      rw [← fw1] at hn9
      have ha3 := ArrAt.mono 2 _ _ _ _ hle9 ha3
      refine RW.nil ?_
      refine heldQ_normal ⟨_, _, 1, 1, hs, rfl, rfl⟩ ?_
      refine HW.one (fuel := 5) 3 rfl (by kernel_rfl) ?_
      (refine RW.call T hs rfl rfl rfl (turnRotate_con (ArrAt.mono (0 + 1)) (ArrAt.one (0 + 1)) (ArrAt.siz (0 + 1)) (blankA 0) (fun w h => flatBlank_con (ArrAt.mono 0) (ArrAt.one 0) w h) _ _ _ (fwF (1)) (1) (numsA 1 [n5, n6, n7]) false _ _ hn9 rfl rfl (one_kind (1) (by omega)) (by rw [wholeF_fw _ (by omega)]) ha3 rfl (by decide) hk5) ?_; intro v h11 w11 hle11 hp11 hs)
      obtain ⟨cs11, rfl, hT11⟩ := hp11
      have ha11 := hT11.2 (by decide) (by decide) 1 3 1 hsp3
      rw [r_rot] at ha11
      have ha11 : ArrAt 2 h11 cs11 (numsA 1 [n6, n7, n5]) := ha11
      obtain ⟨s11, vc11, rfl, ⟨ad11, cap11, rfl, _⟩, hv11⟩ := id ha11
      obtain ⟨wv11, nv11, sm11, il11, fl11, ch11, bx11, ⟨rfl, hoc11⟩, _⟩ := hv11
      have hall11 : (Value.oneCell' (.slice ad11 (ArrD.shape (α := AD 1) (numsA 1 [n6, n7, n5])).length cap11) && (vecCells (ArrD.vec (α := AD 1) (numsA 1 [n6, n7, n5])).kind wv11 nv11 sm11 il11 fl11 ch11 bx11).all Value.oneCell') = true := by rw [hoc11]; rfl
      have ha3 := ArrAt.mono 2 _ _ _ _ hle11 ha3
      refine RW.nil ?_
      refine heldQ_normal ⟨_, _, 1, 1, hs, rfl, rfl⟩ ?_
      refine HW.takeR (fuel := 4) 4 rfl (fun _ _ ka kb _ hs hka hkb => Y.move rfl) ⟨_, _, 1, 1, hs, rfl, rfl⟩ rfl (by kernel_rfl) (by kernel_rfl) (by kernel_rfl) ?_
      refine HW.takeR (fuel := 3) 5 rfl (fun _ _ ka kb _ hs hka hkb => Y.extract rfl rfl) ⟨_, _, 1, 1, hs, rfl, rfl⟩ rfl (by kernel_rfl) (by kernel_rfl) (by kernel_rfl) ?_
      refine HW.takeR (fuel := 2) 6 rfl (fun _ _ ka kb _ hs hka hkb => Y.extract rfl rfl) ⟨_, _, 1, 1, hs, rfl, rfl⟩ rfl (by kernel_rfl) (by kernel_rfl) (by kernel_rfl) ?_
      refine HW.one (fuel := 1) 8 rfl (by kernel_rfl) ?_
      refine RW.storeAll T hs 0 rfl rfl rfl rfl rfl rfl hall11 rfl ?_
      intro w908 hs
      refine RW.nil ?_
      refine heldQ_normal ⟨_, _, 1, 1, hs, rfl, rfl⟩ ?_
      refine HW.takeR (fuel := 0) 9 rfl (fun _ _ ka kb _ hs hka hkb => Y.assign rfl) ⟨_, _, 1, 1, hs, rfl, rfl⟩ rfl (by kernel_rfl) (by kernel_rfl) (by kernel_rfl) ?_
      refine HW.done (by kernel_rfl) ?_
      refine calmQ_normal ?_
      exact joinQ_meet (b2, _, h11) ⟨rfl, rfl, rfl, trivial⟩ ⟨ha3, ha11, hs⟩
  rintro ⟨b2, cs2, h7⟩ w7 ⟨ha3, ha11, hs⟩
  dsimp only at ha3 ha11 hs ⊢
  obtain ⟨s11, vc11, rfl, ⟨ad11, cap11, rfl, _⟩, hv11⟩ := id ha11
  obtain ⟨wv11, nv11, sm11, il11, fl11, ch11, bx11, ⟨rfl, hoc11⟩, _⟩ := hv11
  refine Zerun ?_
  refine CW.regionO T hs ?_
  intro w8 hs
  refine HW.takeS (fuel := 12) 0 rfl (fun _ _ hs => Y.loadRowN T hs 0 rfl rfl rfl rfl rfl rfl rfl) hs rfl (by kernel_rfl) (by kernel_rfl) (by kernel_rfl) ?_
  refine HW.takeS (fuel := 11) 1 rfl (fun _ _ hs => Y.move rfl) hs rfl (by kernel_rfl) (by kernel_rfl) (by kernel_rfl) ?_
  refine HW.one (fuel := 10) 2 rfl (by kernel_rfl) ?_
  (refine RW.lit T hs (vs := [.float .f64 4618441417868443648, .float .f64 4619567317775286272, .float .f64 4617315517961601024]) rfl rfl rfl rfl (by simp [Value.cells]) rfl rfl rfl rfl rfl ?_; intro b16 w16 hs)
  obtain ⟨h16, hle16, hs, hS16⟩ := hs.freeze
  have hF16 : FAt h16 (.slice (some ⟨b16, 0, none⟩) 3 3) [n6, n7, n5] := RowAt.of_sl hS16
  have ha3 := ArrAt.mono 2 _ _ _ _ hle16 ha3
  have ha11 := ArrAt.mono 2 _ _ _ _ hle16 ha11
  refine RW.nil ?_
  refine heldQ_normal ⟨_, hs⟩ ?_
  refine HW.one (fuel := 9) 3 rfl (by kernel_rfl) ?_
  (refine RW.call T hs rfl rfl rfl (refNums_con (R := PlainAt 1) (PlainAt.mono 1) _ _ _ _ hF16 (fun u hu => (t567 u (mem567 rfl u hu)).1) (by decide)) ?_; intro v h17 w17 hle17 hp17 hs)
  obtain ⟨cs17, rfl, hq17⟩ := hp17
  have ha3 := ArrAt.mono 2 _ _ _ _ hle17 ha3
  have ha11 := ArrAt.mono 2 _ _ _ _ hle17 ha11
  refine RW.nil ?_
  refine heldQ_normal ⟨_, hs⟩ ?_
  refine HW.one (fuel := 8) 4 rfl (by kernel_rfl) ?_
  (refine RW.call T hs rfl rfl rfl (shows21_con 1 _ _ (numsA 1 [n6, n7, n5]) (numsP [n6, n7, n5] : PlainD (PD 1)) _ _ ha11 hq17 (numsA_good 1 _ 40 (by omega) (by decide)) (numsA_plain 1 _) (numsP_tdy 1 _ (fun u hu => t567 u (mem567 rfl u hu)))) ?_; intro v h18 w18 hle18 hp18 hs)
  subst hp18
  have ha3 := ArrAt.mono 2 _ _ _ _ hle18 ha3
  refine RW.nil ?_
  refine heldQ_normal ⟨_, hs⟩ ?_
  refine HW.takeS (fuel := 7) 5 rfl (fun _ _ hs => Y.move rfl) hs rfl (by kernel_rfl) (by kernel_rfl) (by kernel_rfl) ?_
  refine HW.takeSY (fuel := 6) 6 rfl rfl rfl (fun _ _ hs => Y.loadRowN T hs 1 rfl rfl rfl rfl rfl rfl rfl) hs rfl (by kernel_rfl) (by kernel_rfl) (by kernel_rfl) ?_
  refine HW.two (fuel := 5) 7 8 rfl rfl (by kernel_rfl) ?_ ?_
  · refine RW.guardYes rfl rfl ?_
    (refine RW.call T hs rfl rfl rfl (turnReverse_con (ArrAt.mono (0 + 1)) (ArrAt.one (0 + 1)) (ArrAt.siz (0 + 1)) (blankA 0) (fun w h => flatBlank_con (ArrAt.mono 0) (ArrAt.one 0) w h) _ (numsA 1 [n5, n6, n7]) false _ _ ha3 rfl (by decide) hk5) ?_; intro v h21 w21 hle21 hp21 hs)
    obtain ⟨cs21, rfl, hT21⟩ := hp21
    have ha21 := hT21.2 (by decide) (by decide) 1 3 1 hsp3
    rw [r_rev] at ha21
    have ha21 : ArrAt 2 h21 cs21 (numsA 1 [n7, n6, n5]) := ha21
    refine RW.nil ?_
    refine heldQ_normal ⟨_, hs⟩ ?_
    refine HW.one (fuel := 4) 8 rfl (by kernel_rfl) ?_
    refine RW.guardYes rfl rfl ?_
    (refine RW.lit T hs (vs := [.float .f64 4619567317775286272, .float .f64 4618441417868443648, .float .f64 4617315517961601024]) rfl rfl rfl rfl (by simp [Value.cells]) rfl rfl rfl rfl rfl ?_; intro b22 w22 hs)
    obtain ⟨h22, hle22, hs, hS22⟩ := hs.freeze
    have hF22 : FAt h22 (.slice (some ⟨b22, 0, none⟩) 3 3) [n7, n6, n5] := RowAt.of_sl hS22
    have ha21 := ArrAt.mono 2 _ _ _ _ hle22 ha21
    refine RW.nil ?_
    refine heldQ_normal ⟨_, hs⟩ ?_
    refine HW.one (fuel := 3) 9 rfl (by kernel_rfl) ?_
    refine RW.guardYes rfl rfl ?_
    (refine RW.call T hs rfl rfl rfl (refNums_con (R := PlainAt 1) (PlainAt.mono 1) _ _ _ _ hF22 (fun u hu => (t567 u (mem567 rfl u hu)).1) (by decide)) ?_; intro v h23 w23 hle23 hp23 hs)
    obtain ⟨cs23, rfl, hq23⟩ := hp23
    have ha21 := ArrAt.mono 2 _ _ _ _ hle23 ha21
    refine RW.nil ?_
    refine heldQ_normal ⟨_, hs⟩ ?_
    refine HW.one (fuel := 2) 10 rfl (by kernel_rfl) ?_
    refine RW.guardYes rfl rfl ?_
    (refine RW.call T hs rfl rfl rfl (shows21_con 1 _ _ (numsA 1 [n7, n6, n5]) (numsP [n7, n6, n5] : PlainD (PD 1)) _ _ ha21 hq23 (numsA_good 1 _ 40 (by omega) (by decide)) (numsA_plain 1 _) (numsP_tdy 1 _ (fun u hu => t567 u (mem567 rfl u hu)))) ?_; intro v h24 w24 hle24 hp24 hs)
    subst hp24
    refine RW.nil ?_
    refine heldQ_normal ⟨_, hs⟩ ?_
    refine HW.takeS (fuel := 1) 11 rfl (fun _ _ hs => Y.pickT rfl rfl) hs rfl (by kernel_rfl) (by kernel_rfl) (by kernel_rfl) ?_
    refine HW.takeS (fuel := 0) 12 rfl (fun _ _ hs => Y.assign rfl) hs rfl (by kernel_rfl) (by kernel_rfl) (by kernel_rfl) ?_
    refine HW.done (by kernel_rfl) ?_
    refine calmQ_normal ?_
    refine Zerun ?_
    exact retQ_ret [_] h24 ⟨rfl, trivial⟩ hs.dropAll rfl
  · refine RW.guardYes rfl rfl ?_
    (refine RW.lit T hs (vs := [.float .f64 4619567317775286272, .float .f64 4618441417868443648, .float .f64 4617315517961601024]) rfl rfl rfl rfl (by simp [Value.cells]) rfl rfl rfl rfl rfl ?_; intro b22 w22 hs)
    obtain ⟨h22, hle22, hs, hS22⟩ := hs.freeze
    have hF22 : FAt h22 (.slice (some ⟨b22, 0, none⟩) 3 3) [n7, n6, n5] := RowAt.of_sl hS22
    have ha3 := ArrAt.mono 2 _ _ _ _ hle22 ha3
    refine RW.nil ?_
    refine heldQ_normal ⟨_, hs⟩ ?_
    refine HW.one (fuel := 4) 7 rfl (by kernel_rfl) ?_
    refine RW.guardYes rfl rfl ?_
    (refine RW.call T hs rfl rfl rfl (turnReverse_con (ArrAt.mono (0 + 1)) (ArrAt.one (0 + 1)) (ArrAt.siz (0 + 1)) (blankA 0) (fun w h => flatBlank_con (ArrAt.mono 0) (ArrAt.one 0) w h) _ (numsA 1 [n5, n6, n7]) false _ _ ha3 rfl (by decide) hk5) ?_; intro v h21 w21 hle21 hp21 hs)
    obtain ⟨cs21, rfl, hT21⟩ := hp21
    have ha21 := hT21.2 (by decide) (by decide) 1 3 1 hsp3
    rw [r_rev] at ha21
    have ha21 : ArrAt 2 h21 cs21 (numsA 1 [n7, n6, n5]) := ha21
    have hF22 := RowAt.mono hle21 hF22
    refine RW.nil ?_
    refine heldQ_normal ⟨_, hs⟩ ?_
    refine HW.one (fuel := 3) 9 rfl (by kernel_rfl) ?_
    refine RW.guardYes rfl rfl ?_
    (refine RW.call T hs rfl rfl rfl (refNums_con (R := PlainAt 1) (PlainAt.mono 1) _ _ _ _ hF22 (fun u hu => (t567 u (mem567 rfl u hu)).1) (by decide)) ?_; intro v h23 w23 hle23 hp23 hs)
    obtain ⟨cs23, rfl, hq23⟩ := hp23
    have ha21 := ArrAt.mono 2 _ _ _ _ hle23 ha21
    refine RW.nil ?_
    refine heldQ_normal ⟨_, hs⟩ ?_
    refine HW.one (fuel := 2) 10 rfl (by kernel_rfl) ?_
    refine RW.guardYes rfl rfl ?_
    (refine RW.call T hs rfl rfl rfl (shows21_con 1 _ _ (numsA 1 [n7, n6, n5]) (numsP [n7, n6, n5] : PlainD (PD 1)) _ _ ha21 hq23 (numsA_good 1 _ 40 (by omega) (by decide)) (numsA_plain 1 _) (numsP_tdy 1 _ (fun u hu => t567 u (mem567 rfl u hu)))) ?_; intro v h24 w24 hle24 hp24 hs)
    subst hp24
    refine RW.nil ?_
    refine heldQ_normal ⟨_, hs⟩ ?_
    refine HW.takeS (fuel := 1) 11 rfl (fun _ _ hs => Y.pickT rfl rfl) hs rfl (by kernel_rfl) (by kernel_rfl) (by kernel_rfl) ?_
    refine HW.takeS (fuel := 0) 12 rfl (fun _ _ hs => Y.assign rfl) hs rfl (by kernel_rfl) (by kernel_rfl) (by kernel_rfl) ?_
    refine HW.done (by kernel_rfl) ?_
    refine calmQ_normal ?_
    refine Zerun ?_
    exact retQ_ret [_] h24 ⟨rfl, trivial⟩ hs.dropAll rfl
theorem turnBackLaw_con (k : Nat) (n : Int) (cp0 : List Value) (p : PD (k + 2)) (first : Bool) (w : World) (h : GHeap) (hn : -2147483648 ≤ n ∧ n ≤ 2147483647) (hp : PlainAt (k + 2) h cp0 p) : Con Try.prog 20 [.int .i32 n, .agg cp0.toArray, .bool first] w h (fun _ u => u = .bool true) := by
  have hp' := hp
  have hp0 := hp
  obtain ⟨s, it, rfl, ⟨ad, cp, rfl, _⟩, ⟨ad2, cp2, xs, rfl, _, _⟩⟩ := hp
  refine Con.of_body Try.func20 rfl Try.ntmps20 rfl rfl ?_
  intro hs
  refine Zrun ?_
  (refine RW.boxN hs rfl rfl ?_; intro b1 w1 hs)
  refine Zerun ?_
  (refine RW.call T hs rfl rfl rfl (fine21_con (k + 1) _ p _ _ hp') ?_; intro v h3 w3 hle3 hp3 hs)
  obtain ⟨b, rfl, hbp⟩ := hp3
  have hp' := PlainAt.mono (k + 2) _ _ _ _ hle3 hp'
  cases b with
  | false =>
    refine Zerun ?_
    (refine RW.call T hs rfl rfl rfl (awake21_con _ _) ?_; intro v h4 w4 hle4 hp4 hs)
    subst hp4
    refine Zerun ?_
    exact retQ_ret [_] h4 ⟨rfl, trivial⟩ hs.dropAll rfl
  | true =>
  obtain ⟨hcp, _, _⟩ := hbp rfl
  have htp := tidy_tdy (k + 2) 40 p _ _ hp0 hcp
  have hgd := good_arr (k + 2) 40 p hcp
  have hsm := (good_sml (k + 2) 40 _ hgd).2.1
  refine Zerun ?_
  (refine RW.call T hs rfl rfl rfl (of07_con (k + 2) _ p _ _ hp' hcp) ?_; intro v h17 w17 hle17 hp17 hs)
  obtain ⟨cs17, rfl, _, _, ha'⟩ := hp17
  have hp' := PlainAt.mono (k + 2) _ _ _ _ hle17 hp'
  obtain ⟨s17, vc17, rfl, ⟨ad17, cap17, rfl, _⟩, hv17⟩ := id ha'
  obtain ⟨wv17, nv17, sm17, il17, fl17, ch17, bx17, ⟨rfl, hoc17⟩, _⟩ := hv17
  have hall17 : (Value.oneCell' (.slice ad17 (ArrD.shape (α := AD (k + 1)) (arr (k + 2) p)).length cap17) && (vecCells (ArrD.vec (α := AD (k + 1)) (arr (k + 2) p)).kind wv17 nv17 sm17 il17 fl17 ch17 bx17).all Value.oneCell') = true := by rw [hoc17]; rfl
  have hIL : (itemsV (plain (k + 1)) (ArrD.vec (α := AD (k + 1)) (arr (k + 2) p))).length = (ArrD.vec (α := AD (k + 1)) (arr (k + 2) p)).len := by
    obtain ⟨_, _, _, _, hv⟩ := ha'
    exact itemsV_len (plain (k + 1)) hv
  refine Zerun ?_
  (refine RW.allocN T hs rfl rfl rfl rfl ?_; intro b7 w7 hs)
  refine RW.storeAll T hs 0 rfl rfl rfl rfl rfl rfl hall17 rfl ?_
  intro w5 hs
  refine Zerun ?_
  refine CW.meet (fun r : Nat × ArrD (AD (k + 1)) × List Value × GHeap => [(0, .int .i32 n), (2, .bool first), (4, .pointer (some ⟨b1, 0, none⟩)), (8, .pointer (some ⟨r.1, 0, none⟩)), (9, .int .i64 0)]) (fun r w' => ((r.2.1 = arr (k + 2) p ∧ ((ArrD.shape (α := AD (k + 1)) (arr (k + 2) p)).length = 0 ∨ (ArrD.vec (α := AD (k + 1)) (arr (k + 2) p)).len = 0)) ∨ ∃ o d i : Nat, splitSpec (ArrD.shape (α := AD (k + 1)) (arr (k + 2) p)) ((axK (ArrD.shape (α := AD (k + 1)) (arr (k + 2) p)) first : Nat) : Int) = ((o : Int), (d : Int), (i : Int), true) ∧ o * d * i = (ArrD.vec (α := AD (k + 1)) (arr (k + 2) p)).len ∧ 0 < d ∧ 0 < i ∧ (ArrD.shape (α := AD (k + 1)) (arr (k + 2) p)).length ≠ 0 ∧ 0 < (ArrD.vec (α := AD (k + 1)) (arr (k + 2) p)).len ∧ r.2.1 = ⟨ArrD.shape (α := AD (k + 1)) (arr (k + 2) p), (ArrD.vec (α := AD (k + 1)) (arr (k + 2) p)).pick (alongL o d i (rolledL d n)) (blankA k)⟩) ∧ ArrR (ArrAt (k + 1)) r.2.2.2 r.2.2.1 r.2.1 ∧ PlainAt (k + 2) r.2.2.2 [.slice ad (PlainD.shape (α := PD (k + 1)) p).length cp, .slice ad2 (PlainD.items (α := PD (k + 1)) p).length cp2, .int .i64 (PlainD.fill (α := PD (k + 1)) p)] p ∧ Sees w h r.2.2.2 [⟨some ⟨r.1, 0, none⟩, 1, 1, 63, 9, r.2.2.1⟩, ⟨some ⟨b7, 0, none⟩, 1, 1, 63, 9, .slice ad17 (ArrD.shape (α := AD (k + 1)) (arr (k + 2) p)).length cap17 :: vecCells (ArrD.vec (α := AD (k + 1)) (arr (k + 2) p)).kind wv17 nv17 sm17 il17 fl17 ch17 bx17⟩, ⟨some ⟨b1, 0, none⟩, 1, 1, 50, 3, [.slice ad (PlainD.shape (α := PD (k + 1)) p).length cp, .slice ad2 (PlainD.items (α := PD (k + 1)) p).length cp2, .int .i64 (PlainD.fill (α := PD (k + 1)) p)]⟩] w') ?_ ?_
  · refine CW.regionR T 0 1 hs rfl rfl ?_
    intro w6 hs
    refine HW.takeR (fuel := 12) 0 rfl (fun _ _ ka kb _ hs hka hkb => Y.move rfl) ⟨_, _, 0, 1, hs, rfl, rfl⟩ rfl (by kernel_rfl) (by kernel_rfl) (by kernel_rfl) ?_
    refine HW.takeR (fuel := 11) 1 rfl (fun _ _ ka kb _ hs hka hkb => Y.convIF T rfl rfl rfl) ⟨_, _, 0, 1, hs, rfl, rfl⟩ rfl (by kernel_rfl) (by kernel_rfl) (by kernel_rfl) ?_
    refine HW.takeR (fuel := 10) 4 rfl (fun _ _ ka kb _ hs hka hkb => Y.loadRowN T hs ka hka rfl rfl rfl rfl rfl rfl) ⟨_, _, 0, 1, hs, rfl, rfl⟩ rfl (by kernel_rfl) (by kernel_rfl) (by kernel_rfl) ?_
    refine HW.takeR (fuel := 9) 5 rfl (fun _ _ ka kb _ hs hka hkb => Y.move rfl) ⟨_, _, 0, 1, hs, rfl, rfl⟩ rfl (by kernel_rfl) (by kernel_rfl) (by kernel_rfl) ?_
    refine HW.two (fuel := 8) 2 10 rfl rfl (by kernel_rfl) ?_ ?_
    · (refine RW.call T hs rfl rfl rfl (refOne_con (α := PD ((k) + 1)) (R := PlainAt ((k) + 1)) (fwF n) _ _ ((fwF_spec n (by omega)).1).1) ?_; intro v h21 w21 hle21 hp21 hs)
      obtain ⟨cs21, rfl, hq21⟩ := hp21
      have ha' := ArrAt.mono (k + 2) _ _ _ _ hle21 ha'
      have hp' := PlainAt.mono (k + 2) _ _ _ _ hle21 hp'
      refine RW.nil ?_
      refine heldQ_normal ⟨_, _, 0, 1, hs, rfl, rfl⟩ ?_
      refine HW.two (fuel := 7) 3 10 rfl rfl (by kernel_rfl) ?_ ?_
      · (refine RW.call T hs rfl rfl rfl (of07_con (k + 2) _ (numQ ((k) + 1) (fwF n)) _ _ hq21 (numQ_chk ((k) + 1) _ ((fwF_spec n (by omega)).1).2.1)) ?_; intro v h22 w22 hle22 hp22 hs)
        obtain ⟨cs22, rfl, _, _, hn22⟩ := hp22
        rw [numQ_arr, tidyW_of ((fwF_spec n (by omega)).1)] at hn22
        have ha' := ArrAt.mono (k + 2) _ _ _ _ hle22 ha'
        have hp' := PlainAt.mono (k + 2) _ _ _ _ hle22 hp'
        refine RW.nil ?_
        refine heldQ_normal ⟨_, _, 0, 1, hs, rfl, rfl⟩ ?_
        refine HW.two (fuel := 6) 6 10 rfl rfl (by kernel_rfl) ?_ ?_
        · (refine RW.call T hs rfl rfl rfl (turnRotate_con (ArrAt.mono ((k) + 1)) (ArrAt.one ((k) + 1)) (ArrAt.siz ((k) + 1)) (blankA (k)) (fun w h => flatBlank_con (ArrAt.mono (k)) (ArrAt.one (k)) w h) _ _ _ (fwF (n)) (n) (arr (k + 2) p) first _ _ hn22 rfl rfl (one_kind (n) (by omega)) (by rw [wholeF_fw _ (by omega)]) ha' hgd.1 hsm hgd.2.1) ?_; intro v h25 w25 hle25 hp25 hs)
          obtain ⟨cs25, rfl, hT25⟩ := hp25
          obtain ⟨a1, ha25, h1⟩ := turn_arr hT25 hgd.1 (axK_lt _ _)
          obtain ⟨s25, vc25, rfl, ⟨ad25, cap25, rfl, _⟩, hv25⟩ := id ha25
          obtain ⟨wv25, nv25, sm25, il25, fl25, ch25, bx25, ⟨rfl, hoc25⟩, _⟩ := hv25
          have hall25 : (Value.oneCell' (.slice ad25 (ArrD.shape a1).length cap25) && (vecCells (ArrD.vec a1).kind wv25 nv25 sm25 il25 fl25 ch25 bx25).all Value.oneCell') = true := by rw [hoc25]; rfl
          have ha' := ArrAt.mono (k + 2) _ _ _ _ hle25 ha'
          have hp' := PlainAt.mono (k + 2) _ _ _ _ hle25 hp'
          refine RW.nil ?_
          refine heldQ_normal ⟨_, _, 0, 1, hs, rfl, rfl⟩ ?_
          refine HW.takeR (fuel := 5) 7 rfl (fun _ _ ka kb _ hs hka hkb => Y.move rfl) ⟨_, _, 0, 1, hs, rfl, rfl⟩ rfl (by kernel_rfl) (by kernel_rfl) (by kernel_rfl) ?_
          refine HW.takeR (fuel := 4) 8 rfl (fun _ _ ka kb _ hs hka hkb => Y.extract rfl rfl) ⟨_, _, 0, 1, hs, rfl, rfl⟩ rfl (by kernel_rfl) (by kernel_rfl) (by kernel_rfl) ?_
          refine HW.takeR (fuel := 3) 9 rfl (fun _ _ ka kb _ hs hka hkb => Y.extract rfl rfl) ⟨_, _, 0, 1, hs, rfl, rfl⟩ rfl (by kernel_rfl) (by kernel_rfl) (by kernel_rfl) ?_
          refine HW.one (fuel := 2) 10 rfl (by kernel_rfl) ?_
          (refine RW.allocN T hs rfl rfl rfl rfl ?_; intro b8 w8 hs)
          refine RW.nil ?_
          refine heldQ_normal ⟨_, _, 1, 2, hs, rfl, rfl⟩ ?_
          refine HW.one (fuel := 1) 11 rfl (by kernel_rfl) ?_
          refine RW.storeAll T hs 0 rfl rfl rfl rfl rfl rfl hall25 rfl ?_
          intro w911 hs
          refine RW.nil ?_
          refine heldQ_normal ⟨_, _, 1, 2, hs, rfl, rfl⟩ ?_
          refine HW.takeR (fuel := 0) 12 rfl (fun _ _ ka kb _ hs hka hkb => Y.assign rfl) ⟨_, _, 1, 2, hs, rfl, rfl⟩ rfl (by kernel_rfl) (by kernel_rfl) (by kernel_rfl) ?_
          refine HW.done (by kernel_rfl) ?_
          refine calmQ_normal ?_
          exact joinQ_meet (b8, a1, _, h25) ⟨rfl, rfl, rfl, rfl, rfl, trivial⟩ ⟨h1, ha25, hp', hs⟩
        · (refine RW.allocN T hs rfl rfl rfl rfl ?_; intro b8 w8 hs)
          refine RW.nil ?_
          refine heldQ_normal ⟨_, _, 1, 2, hs, rfl, rfl⟩ ?_
          refine HW.one (fuel := 5) 6 rfl (by kernel_rfl) ?_
          (refine RW.call T hs rfl rfl rfl (turnRotate_con (ArrAt.mono ((k) + 1)) (ArrAt.one ((k) + 1)) (ArrAt.siz ((k) + 1)) (blankA (k)) (fun w h => flatBlank_con (ArrAt.mono (k)) (ArrAt.one (k)) w h) _ _ _ (fwF (n)) (n) (arr (k + 2) p) first _ _ hn22 rfl rfl (one_kind (n) (by omega)) (by rw [wholeF_fw _ (by omega)]) ha' hgd.1 hsm hgd.2.1) ?_; intro v h25 w25 hle25 hp25 hs)
          obtain ⟨cs25, rfl, hT25⟩ := hp25
          obtain ⟨a1, ha25, h1⟩ := turn_arr hT25 hgd.1 (axK_lt _ _)
          obtain ⟨s25, vc25, rfl, ⟨ad25, cap25, rfl, _⟩, hv25⟩ := id ha25
          obtain ⟨wv25, nv25, sm25, il25, fl25, ch25, bx25, ⟨rfl, hoc25⟩, _⟩ := hv25
          have hall25 : (Value.oneCell' (.slice ad25 (ArrD.shape a1).length cap25) && (vecCells (ArrD.vec a1).kind wv25 nv25 sm25 il25 fl25 ch25 bx25).all Value.oneCell') = true := by rw [hoc25]; rfl
          have ha' := ArrAt.mono (k + 2) _ _ _ _ hle25 ha'
          have hp' := PlainAt.mono (k + 2) _ _ _ _ hle25 hp'
          refine RW.nil ?_
          refine heldQ_normal ⟨_, _, 1, 2, hs, rfl, rfl⟩ ?_
          refine HW.takeR (fuel := 4) 7 rfl (fun _ _ ka kb _ hs hka hkb => Y.move rfl) ⟨_, _, 1, 2, hs, rfl, rfl⟩ rfl (by kernel_rfl) (by kernel_rfl) (by kernel_rfl) ?_
          refine HW.takeR (fuel := 3) 8 rfl (fun _ _ ka kb _ hs hka hkb => Y.extract rfl rfl) ⟨_, _, 1, 2, hs, rfl, rfl⟩ rfl (by kernel_rfl) (by kernel_rfl) (by kernel_rfl) ?_
          refine HW.takeR (fuel := 2) 9 rfl (fun _ _ ka kb _ hs hka hkb => Y.extract rfl rfl) ⟨_, _, 1, 2, hs, rfl, rfl⟩ rfl (by kernel_rfl) (by kernel_rfl) (by kernel_rfl) ?_
          refine HW.one (fuel := 1) 11 rfl (by kernel_rfl) ?_
          refine RW.storeAll T hs 0 rfl rfl rfl rfl rfl rfl hall25 rfl ?_
          intro w911 hs
          refine RW.nil ?_
          refine heldQ_normal ⟨_, _, 1, 2, hs, rfl, rfl⟩ ?_
          refine HW.takeR (fuel := 0) 12 rfl (fun _ _ ka kb _ hs hka hkb => Y.assign rfl) ⟨_, _, 1, 2, hs, rfl, rfl⟩ rfl (by kernel_rfl) (by kernel_rfl) (by kernel_rfl) ?_
          refine HW.done (by kernel_rfl) ?_
          refine calmQ_normal ?_
          exact joinQ_meet (b8, a1, _, h25) ⟨rfl, rfl, rfl, rfl, rfl, trivial⟩ ⟨h1, ha25, hp', hs⟩
      · (refine RW.allocN T hs rfl rfl rfl rfl ?_; intro b8 w8 hs)
        refine RW.nil ?_
        refine heldQ_normal ⟨_, _, 1, 2, hs, rfl, rfl⟩ ?_
        refine HW.one (fuel := 6) 3 rfl (by kernel_rfl) ?_
        (refine RW.call T hs rfl rfl rfl (of07_con (k + 2) _ (numQ ((k) + 1) (fwF n)) _ _ hq21 (numQ_chk ((k) + 1) _ ((fwF_spec n (by omega)).1).2.1)) ?_; intro v h22 w22 hle22 hp22 hs)
        obtain ⟨cs22, rfl, _, _, hn22⟩ := hp22
        rw [numQ_arr, tidyW_of ((fwF_spec n (by omega)).1)] at hn22
        have ha' := ArrAt.mono (k + 2) _ _ _ _ hle22 ha'
        have hp' := PlainAt.mono (k + 2) _ _ _ _ hle22 hp'
        refine RW.nil ?_
        refine heldQ_normal ⟨_, _, 1, 2, hs, rfl, rfl⟩ ?_
        refine HW.one (fuel := 5) 6 rfl (by kernel_rfl) ?_
        (refine RW.call T hs rfl rfl rfl (turnRotate_con (ArrAt.mono ((k) + 1)) (ArrAt.one ((k) + 1)) (ArrAt.siz ((k) + 1)) (blankA (k)) (fun w h => flatBlank_con (ArrAt.mono (k)) (ArrAt.one (k)) w h) _ _ _ (fwF (n)) (n) (arr (k + 2) p) first _ _ hn22 rfl rfl (one_kind (n) (by omega)) (by rw [wholeF_fw _ (by omega)]) ha' hgd.1 hsm hgd.2.1) ?_; intro v h25 w25 hle25 hp25 hs)
        obtain ⟨cs25, rfl, hT25⟩ := hp25
        obtain ⟨a1, ha25, h1⟩ := turn_arr hT25 hgd.1 (axK_lt _ _)
        obtain ⟨s25, vc25, rfl, ⟨ad25, cap25, rfl, _⟩, hv25⟩ := id ha25
        obtain ⟨wv25, nv25, sm25, il25, fl25, ch25, bx25, ⟨rfl, hoc25⟩, _⟩ := hv25
        have hall25 : (Value.oneCell' (.slice ad25 (ArrD.shape a1).length cap25) && (vecCells (ArrD.vec a1).kind wv25 nv25 sm25 il25 fl25 ch25 bx25).all Value.oneCell') = true := by rw [hoc25]; rfl
        have ha' := ArrAt.mono (k + 2) _ _ _ _ hle25 ha'
        have hp' := PlainAt.mono (k + 2) _ _ _ _ hle25 hp'
        refine RW.nil ?_
        refine heldQ_normal ⟨_, _, 1, 2, hs, rfl, rfl⟩ ?_
        refine HW.takeR (fuel := 4) 7 rfl (fun _ _ ka kb _ hs hka hkb => Y.move rfl) ⟨_, _, 1, 2, hs, rfl, rfl⟩ rfl (by kernel_rfl) (by kernel_rfl) (by kernel_rfl) ?_
        refine HW.takeR (fuel := 3) 8 rfl (fun _ _ ka kb _ hs hka hkb => Y.extract rfl rfl) ⟨_, _, 1, 2, hs, rfl, rfl⟩ rfl (by kernel_rfl) (by kernel_rfl) (by kernel_rfl) ?_
        refine HW.takeR (fuel := 2) 9 rfl (fun _ _ ka kb _ hs hka hkb => Y.extract rfl rfl) ⟨_, _, 1, 2, hs, rfl, rfl⟩ rfl (by kernel_rfl) (by kernel_rfl) (by kernel_rfl) ?_
        refine HW.one (fuel := 1) 11 rfl (by kernel_rfl) ?_
        refine RW.storeAll T hs 0 rfl rfl rfl rfl rfl rfl hall25 rfl ?_
        intro w911 hs
        refine RW.nil ?_
        refine heldQ_normal ⟨_, _, 1, 2, hs, rfl, rfl⟩ ?_
        refine HW.takeR (fuel := 0) 12 rfl (fun _ _ ka kb _ hs hka hkb => Y.assign rfl) ⟨_, _, 1, 2, hs, rfl, rfl⟩ rfl (by kernel_rfl) (by kernel_rfl) (by kernel_rfl) ?_
        refine HW.done (by kernel_rfl) ?_
        refine calmQ_normal ?_
        exact joinQ_meet (b8, a1, _, h25) ⟨rfl, rfl, rfl, rfl, rfl, trivial⟩ ⟨h1, ha25, hp', hs⟩
    · (refine RW.allocN T hs rfl rfl rfl rfl ?_; intro b8 w8 hs)
      refine RW.nil ?_
      refine heldQ_normal ⟨_, _, 1, 2, hs, rfl, rfl⟩ ?_
      refine HW.one (fuel := 7) 2 rfl (by kernel_rfl) ?_
      (refine RW.call T hs rfl rfl rfl (refOne_con (α := PD ((k) + 1)) (R := PlainAt ((k) + 1)) (fwF n) _ _ ((fwF_spec n (by omega)).1).1) ?_; intro v h21 w21 hle21 hp21 hs)
      obtain ⟨cs21, rfl, hq21⟩ := hp21
      have ha' := ArrAt.mono (k + 2) _ _ _ _ hle21 ha'
      have hp' := PlainAt.mono (k + 2) _ _ _ _ hle21 hp'
      refine RW.nil ?_
      refine heldQ_normal ⟨_, _, 1, 2, hs, rfl, rfl⟩ ?_
      refine HW.one (fuel := 6) 3 rfl (by kernel_rfl) ?_
      (refine RW.call T hs rfl rfl rfl (of07_con (k + 2) _ (numQ ((k) + 1) (fwF n)) _ _ hq21 (numQ_chk ((k) + 1) _ ((fwF_spec n (by omega)).1).2.1)) ?_; intro v h22 w22 hle22 hp22 hs)
      obtain ⟨cs22, rfl, _, _, hn22⟩ := hp22
      rw [numQ_arr, tidyW_of ((fwF_spec n (by omega)).1)] at hn22
      have ha' := ArrAt.mono (k + 2) _ _ _ _ hle22 ha'
      have hp' := PlainAt.mono (k + 2) _ _ _ _ hle22 hp'
      refine RW.nil ?_
      refine heldQ_normal ⟨_, _, 1, 2, hs, rfl, rfl⟩ ?_
      refine HW.one (fuel := 5) 6 rfl (by kernel_rfl) ?_
      (refine RW.call T hs rfl rfl rfl (turnRotate_con (ArrAt.mono ((k) + 1)) (ArrAt.one ((k) + 1)) (ArrAt.siz ((k) + 1)) (blankA (k)) (fun w h => flatBlank_con (ArrAt.mono (k)) (ArrAt.one (k)) w h) _ _ _ (fwF (n)) (n) (arr (k + 2) p) first _ _ hn22 rfl rfl (one_kind (n) (by omega)) (by rw [wholeF_fw _ (by omega)]) ha' hgd.1 hsm hgd.2.1) ?_; intro v h25 w25 hle25 hp25 hs)
      obtain ⟨cs25, rfl, hT25⟩ := hp25
      obtain ⟨a1, ha25, h1⟩ := turn_arr hT25 hgd.1 (axK_lt _ _)
      obtain ⟨s25, vc25, rfl, ⟨ad25, cap25, rfl, _⟩, hv25⟩ := id ha25
      obtain ⟨wv25, nv25, sm25, il25, fl25, ch25, bx25, ⟨rfl, hoc25⟩, _⟩ := hv25
      have hall25 : (Value.oneCell' (.slice ad25 (ArrD.shape a1).length cap25) && (vecCells (ArrD.vec a1).kind wv25 nv25 sm25 il25 fl25 ch25 bx25).all Value.oneCell') = true := by rw [hoc25]; rfl
      have ha' := ArrAt.mono (k + 2) _ _ _ _ hle25 ha'
      have hp' := PlainAt.mono (k + 2) _ _ _ _ hle25 hp'
      refine RW.nil ?_
      refine heldQ_normal ⟨_, _, 1, 2, hs, rfl, rfl⟩ ?_
      refine HW.takeR (fuel := 4) 7 rfl (fun _ _ ka kb _ hs hka hkb => Y.move rfl) ⟨_, _, 1, 2, hs, rfl, rfl⟩ rfl (by kernel_rfl) (by kernel_rfl) (by kernel_rfl) ?_
      refine HW.takeR (fuel := 3) 8 rfl (fun _ _ ka kb _ hs hka hkb => Y.extract rfl rfl) ⟨_, _, 1, 2, hs, rfl, rfl⟩ rfl (by kernel_rfl) (by kernel_rfl) (by kernel_rfl) ?_
      refine HW.takeR (fuel := 2) 9 rfl (fun _ _ ka kb _ hs hka hkb => Y.extract rfl rfl) ⟨_, _, 1, 2, hs, rfl, rfl⟩ rfl (by kernel_rfl) (by kernel_rfl) (by kernel_rfl) ?_
      refine HW.one (fuel := 1) 11 rfl (by kernel_rfl) ?_
      refine RW.storeAll T hs 0 rfl rfl rfl rfl rfl rfl hall25 rfl ?_
      intro w911 hs
      refine RW.nil ?_
      refine heldQ_normal ⟨_, _, 1, 2, hs, rfl, rfl⟩ ?_
      refine HW.takeR (fuel := 0) 12 rfl (fun _ _ ka kb _ hs hka hkb => Y.assign rfl) ⟨_, _, 1, 2, hs, rfl, rfl⟩ rfl (by kernel_rfl) (by kernel_rfl) (by kernel_rfl) ?_
      refine HW.done (by kernel_rfl) ?_
      refine calmQ_normal ?_
      exact joinQ_meet (b8, a1, _, h25) ⟨rfl, rfl, rfl, rfl, rfl, trivial⟩ ⟨h1, ha25, hp', hs⟩
  rintro ⟨b8, a1, cs1, h7⟩ w7 ⟨h1, ha1, hp', hs⟩
  dsimp only at h1 ha1 hp' hs ⊢
  obtain ⟨⟨hf1, hf2, hf3, hf4⟩, hback⟩ := turned_back (a2 := a1) hgd hIL h1
  clear hback
  have hback := fun a2 => (turned_back (a2 := a2) hgd hIL h1).2
  obtain ⟨s1, vc1, rfl, ⟨ad1, cap1, rfl, _⟩, hv1⟩ := id ha1
  obtain ⟨wv1, nv1, sm1, il1, fl1, ch1, bx1, ⟨rfl, hoc1⟩, _⟩ := hv1
  have hall1 : (Value.oneCell' (.slice ad1 (ArrD.shape a1).length cap1) && (vecCells (ArrD.vec a1).kind wv1 nv1 sm1 il1 fl1 ch1 bx1).all Value.oneCell') = true := by rw [hoc1]; rfl
  refine Zerun ?_
  refine CW.meet (fun r : Nat × ArrD (AD (k + 1)) × List Value × GHeap => [(4, .pointer (some ⟨b1, 0, none⟩)), (9, .int .i64 0), (10, .pointer (some ⟨r.1, 0, none⟩)), (11, .int .i64 0)]) (fun r w' => ((r.2.1 = a1 ∧ (a1.shape.length = 0 ∨ a1.vec.len = 0)) ∨ ∃ o d i : Nat, splitSpec a1.shape ((axK a1.shape first : Nat) : Int) = ((o : Int), (d : Int), (i : Int), true) ∧ o * d * i = a1.vec.len ∧ 0 < d ∧ 0 < i ∧ a1.shape.length ≠ 0 ∧ 0 < a1.vec.len ∧ r.2.1 = ⟨a1.shape, a1.vec.pick (alongL o d i (rolledL d (-n))) (blankA k)⟩) ∧ ArrR (ArrAt (k + 1)) r.2.2.2 r.2.2.1 r.2.1 ∧ PlainAt (k + 2) r.2.2.2 [.slice ad (PlainD.shape (α := PD (k + 1)) p).length cp, .slice ad2 (PlainD.items (α := PD (k + 1)) p).length cp2, .int .i64 (PlainD.fill (α := PD (k + 1)) p)] p ∧ Sees w h r.2.2.2 [⟨some ⟨r.1, 0, none⟩, 1, 1, 63, 9, r.2.2.1⟩, ⟨some ⟨b8, 0, none⟩, 1, 1, 63, 9, .slice ad1 (ArrD.shape a1).length cap1 :: vecCells (ArrD.vec a1).kind wv1 nv1 sm1 il1 fl1 ch1 bx1⟩, ⟨some ⟨b7, 0, none⟩, 1, 1, 63, 9, .slice ad17 (ArrD.shape (α := AD (k + 1)) (arr (k + 2) p)).length cap17 :: vecCells (ArrD.vec (α := AD (k + 1)) (arr (k + 2) p)).kind wv17 nv17 sm17 il17 fl17 ch17 bx17⟩, ⟨some ⟨b1, 0, none⟩, 1, 1, 50, 3, [.slice ad (PlainD.shape (α := PD (k + 1)) p).length cp, .slice ad2 (PlainD.items (α := PD (k + 1)) p).length cp2, .int .i64 (PlainD.fill (α := PD (k + 1)) p)]⟩] w') ?_ ?_
  · refine CW.regionR T 0 1 hs rfl rfl ?_
    intro w6 hs
    refine HW.takeR (fuel := 13) 0 rfl (fun _ _ ka kb _ hs hka hkb => Y.move rfl) ⟨_, _, 0, 1, hs, rfl, rfl⟩ rfl (by kernel_rfl) (by kernel_rfl) (by kernel_rfl) ?_
    refine HW.takeR (fuel := 12) 1 rfl (fun _ _ ka kb _ hs hka hkb => Y.convIF T rfl rfl rfl) ⟨_, _, 0, 1, hs, rfl, rfl⟩ rfl (by kernel_rfl) (by kernel_rfl) (by kernel_rfl) ?_
    refine HW.takeR (fuel := 11) 2 rfl (fun _ _ ka kb _ hs hka hkb => Y.fSub rfl rfl (sub_fw n (by omega))) ⟨_, _, 0, 1, hs, rfl, rfl⟩ rfl (by kernel_rfl) (by kernel_rfl) (by kernel_rfl) ?_
    refine HW.takeR (fuel := 10) 5 rfl (fun _ _ ka kb _ hs hka hkb => Y.loadRowN T hs ka hka rfl rfl rfl rfl rfl rfl) ⟨_, _, 0, 1, hs, rfl, rfl⟩ rfl (by kernel_rfl) (by kernel_rfl) (by kernel_rfl) ?_
    refine HW.takeR (fuel := 9) 6 rfl (fun _ _ ka kb _ hs hka hkb => Y.move rfl) ⟨_, _, 0, 1, hs, rfl, rfl⟩ rfl (by kernel_rfl) (by kernel_rfl) (by kernel_rfl) ?_
    refine HW.two (fuel := 8) 3 11 rfl rfl (by kernel_rfl) ?_ ?_
    · (refine RW.call T hs rfl rfl rfl (refOne_con (α := PD ((k) + 1)) (R := PlainAt ((k) + 1)) (fwF (-n)) _ _ ((fwF_spec (-n) (by omega)).1).1) ?_; intro v h32 w32 hle32 hp32 hs)
      obtain ⟨cs32, rfl, hq32⟩ := hp32
      have ha1 := ArrR.mono' (ArrAt.mono (k + 1)) hle32 ha1
      have hp' := PlainAt.mono (k + 2) _ _ _ _ hle32 hp'
      refine RW.nil ?_
      refine heldQ_normal ⟨_, _, 0, 1, hs, rfl, rfl⟩ ?_
      refine HW.two (fuel := 7) 4 11 rfl rfl (by kernel_rfl) ?_ ?_
      · (refine RW.call T hs rfl rfl rfl (of07_con (k + 2) _ (numQ ((k) + 1) (fwF (-n))) _ _ hq32 (numQ_chk ((k) + 1) _ ((fwF_spec (-n) (by omega)).1).2.1)) ?_; intro v h33 w33 hle33 hp33 hs)
        obtain ⟨cs33, rfl, _, _, hn33⟩ := hp33
        rw [numQ_arr, tidyW_of ((fwF_spec (-n) (by omega)).1)] at hn33
        have ha1 := ArrR.mono' (ArrAt.mono (k + 1)) hle33 ha1
        have hp' := PlainAt.mono (k + 2) _ _ _ _ hle33 hp'
        refine RW.nil ?_
        refine heldQ_normal ⟨_, _, 0, 1, hs, rfl, rfl⟩ ?_
        refine HW.two (fuel := 6) 7 11 rfl rfl (by kernel_rfl) ?_ ?_
        · (refine RW.call T hs rfl rfl rfl (turnRotate_con (ArrAt.mono ((k) + 1)) (ArrAt.one ((k) + 1)) (ArrAt.siz ((k) + 1)) (blankA (k)) (fun w h => flatBlank_con (ArrAt.mono (k)) (ArrAt.one (k)) w h) _ _ _ (fwF ((-n))) ((-n)) a1 first _ _ hn33 rfl rfl (one_kind ((-n)) (by omega)) (by rw [wholeF_fw _ (by omega)]) ha1 hf1 hf2 hf3) ?_; intro v h36 w36 hle36 hp36 hs)
          obtain ⟨cs36, rfl, hT36⟩ := hp36
          obtain ⟨a2, ha36, h2⟩ := turn_arr hT36 hf1 (axK_lt _ _)
          obtain ⟨s36, vc36, rfl, ⟨ad36, cap36, rfl, _⟩, hv36⟩ := id ha36
          obtain ⟨wv36, nv36, sm36, il36, fl36, ch36, bx36, ⟨rfl, hoc36⟩, _⟩ := hv36
          have hall36 : (Value.oneCell' (.slice ad36 (ArrD.shape a2).length cap36) && (vecCells (ArrD.vec a2).kind wv36 nv36 sm36 il36 fl36 ch36 bx36).all Value.oneCell') = true := by rw [hoc36]; rfl
          have ha1 := ArrR.mono' (ArrAt.mono (k + 1)) hle36 ha1
          have hp' := PlainAt.mono (k + 2) _ _ _ _ hle36 hp'
          refine RW.nil ?_
          refine heldQ_normal ⟨_, _, 0, 1, hs, rfl, rfl⟩ ?_
          refine HW.takeR (fuel := 5) 8 rfl (fun _ _ ka kb _ hs hka hkb => Y.move rfl) ⟨_, _, 0, 1, hs, rfl, rfl⟩ rfl (by kernel_rfl) (by kernel_rfl) (by kernel_rfl) ?_
          refine HW.takeR (fuel := 4) 9 rfl (fun _ _ ka kb _ hs hka hkb => Y.extract rfl rfl) ⟨_, _, 0, 1, hs, rfl, rfl⟩ rfl (by kernel_rfl) (by kernel_rfl) (by kernel_rfl) ?_
          refine HW.takeR (fuel := 3) 10 rfl (fun _ _ ka kb _ hs hka hkb => Y.extract rfl rfl) ⟨_, _, 0, 1, hs, rfl, rfl⟩ rfl (by kernel_rfl) (by kernel_rfl) (by kernel_rfl) ?_
          refine HW.one (fuel := 2) 11 rfl (by kernel_rfl) ?_
          (refine RW.allocN T hs rfl rfl rfl rfl ?_; intro b10 w10 hs)
          refine RW.nil ?_
          refine heldQ_normal ⟨_, _, 1, 2, hs, rfl, rfl⟩ ?_
          refine HW.one (fuel := 1) 12 rfl (by kernel_rfl) ?_
          refine RW.storeAll T hs 0 rfl rfl rfl rfl rfl rfl hall36 rfl ?_
          intro w912 hs
          refine RW.nil ?_
          refine heldQ_normal ⟨_, _, 1, 2, hs, rfl, rfl⟩ ?_
          refine HW.takeR (fuel := 0) 13 rfl (fun _ _ ka kb _ hs hka hkb => Y.assign rfl) ⟨_, _, 1, 2, hs, rfl, rfl⟩ rfl (by kernel_rfl) (by kernel_rfl) (by kernel_rfl) ?_
          refine HW.done (by kernel_rfl) ?_
          refine calmQ_normal ?_
          exact joinQ_meet (b10, a2, _, h36) ⟨rfl, rfl, rfl, rfl, trivial⟩ ⟨h2, ha36, hp', hs⟩
        · (refine RW.allocN T hs rfl rfl rfl rfl ?_; intro b10 w10 hs)
          refine RW.nil ?_
          refine heldQ_normal ⟨_, _, 1, 2, hs, rfl, rfl⟩ ?_
          refine HW.one (fuel := 5) 7 rfl (by kernel_rfl) ?_
          (refine RW.call T hs rfl rfl rfl (turnRotate_con (ArrAt.mono ((k) + 1)) (ArrAt.one ((k) + 1)) (ArrAt.siz ((k) + 1)) (blankA (k)) (fun w h => flatBlank_con (ArrAt.mono (k)) (ArrAt.one (k)) w h) _ _ _ (fwF ((-n))) ((-n)) a1 first _ _ hn33 rfl rfl (one_kind ((-n)) (by omega)) (by rw [wholeF_fw _ (by omega)]) ha1 hf1 hf2 hf3) ?_; intro v h36 w36 hle36 hp36 hs)
          obtain ⟨cs36, rfl, hT36⟩ := hp36
          obtain ⟨a2, ha36, h2⟩ := turn_arr hT36 hf1 (axK_lt _ _)
          obtain ⟨s36, vc36, rfl, ⟨ad36, cap36, rfl, _⟩, hv36⟩ := id ha36
          obtain ⟨wv36, nv36, sm36, il36, fl36, ch36, bx36, ⟨rfl, hoc36⟩, _⟩ := hv36
          have hall36 : (Value.oneCell' (.slice ad36 (ArrD.shape a2).length cap36) && (vecCells (ArrD.vec a2).kind wv36 nv36 sm36 il36 fl36 ch36 bx36).all Value.oneCell') = true := by rw [hoc36]; rfl
          have ha1 := ArrR.mono' (ArrAt.mono (k + 1)) hle36 ha1
          have hp' := PlainAt.mono (k + 2) _ _ _ _ hle36 hp'
          refine RW.nil ?_
          refine heldQ_normal ⟨_, _, 1, 2, hs, rfl, rfl⟩ ?_
          refine HW.takeR (fuel := 4) 8 rfl (fun _ _ ka kb _ hs hka hkb => Y.move rfl) ⟨_, _, 1, 2, hs, rfl, rfl⟩ rfl (by kernel_rfl) (by kernel_rfl) (by kernel_rfl) ?_
          refine HW.takeR (fuel := 3) 9 rfl (fun _ _ ka kb _ hs hka hkb => Y.extract rfl rfl) ⟨_, _, 1, 2, hs, rfl, rfl⟩ rfl (by kernel_rfl) (by kernel_rfl) (by kernel_rfl) ?_
          refine HW.takeR (fuel := 2) 10 rfl (fun _ _ ka kb _ hs hka hkb => Y.extract rfl rfl) ⟨_, _, 1, 2, hs, rfl, rfl⟩ rfl (by kernel_rfl) (by kernel_rfl) (by kernel_rfl) ?_
          refine HW.one (fuel := 1) 12 rfl (by kernel_rfl) ?_
          refine RW.storeAll T hs 0 rfl rfl rfl rfl rfl rfl hall36 rfl ?_
          intro w912 hs
          refine RW.nil ?_
          refine heldQ_normal ⟨_, _, 1, 2, hs, rfl, rfl⟩ ?_
          refine HW.takeR (fuel := 0) 13 rfl (fun _ _ ka kb _ hs hka hkb => Y.assign rfl) ⟨_, _, 1, 2, hs, rfl, rfl⟩ rfl (by kernel_rfl) (by kernel_rfl) (by kernel_rfl) ?_
          refine HW.done (by kernel_rfl) ?_
          refine calmQ_normal ?_
          exact joinQ_meet (b10, a2, _, h36) ⟨rfl, rfl, rfl, rfl, trivial⟩ ⟨h2, ha36, hp', hs⟩
      · (refine RW.allocN T hs rfl rfl rfl rfl ?_; intro b10 w10 hs)
        refine RW.nil ?_
        refine heldQ_normal ⟨_, _, 1, 2, hs, rfl, rfl⟩ ?_
        refine HW.one (fuel := 6) 4 rfl (by kernel_rfl) ?_
        (refine RW.call T hs rfl rfl rfl (of07_con (k + 2) _ (numQ ((k) + 1) (fwF (-n))) _ _ hq32 (numQ_chk ((k) + 1) _ ((fwF_spec (-n) (by omega)).1).2.1)) ?_; intro v h33 w33 hle33 hp33 hs)
        obtain ⟨cs33, rfl, _, _, hn33⟩ := hp33
        rw [numQ_arr, tidyW_of ((fwF_spec (-n) (by omega)).1)] at hn33
        have ha1 := ArrR.mono' (ArrAt.mono (k + 1)) hle33 ha1
        have hp' := PlainAt.mono (k + 2) _ _ _ _ hle33 hp'
        refine RW.nil ?_
        refine heldQ_normal ⟨_, _, 1, 2, hs, rfl, rfl⟩ ?_
        refine HW.one (fuel := 5) 7 rfl (by kernel_rfl) ?_
        (refine RW.call T hs rfl rfl rfl (turnRotate_con (ArrAt.mono ((k) + 1)) (ArrAt.one ((k) + 1)) (ArrAt.siz ((k) + 1)) (blankA (k)) (fun w h => flatBlank_con (ArrAt.mono (k)) (ArrAt.one (k)) w h) _ _ _ (fwF ((-n))) ((-n)) a1 first _ _ hn33 rfl rfl (one_kind ((-n)) (by omega)) (by rw [wholeF_fw _ (by omega)]) ha1 hf1 hf2 hf3) ?_; intro v h36 w36 hle36 hp36 hs)
        obtain ⟨cs36, rfl, hT36⟩ := hp36
        obtain ⟨a2, ha36, h2⟩ := turn_arr hT36 hf1 (axK_lt _ _)
        obtain ⟨s36, vc36, rfl, ⟨ad36, cap36, rfl, _⟩, hv36⟩ := id ha36
        obtain ⟨wv36, nv36, sm36, il36, fl36, ch36, bx36, ⟨rfl, hoc36⟩, _⟩ := hv36
        have hall36 : (Value.oneCell' (.slice ad36 (ArrD.shape a2).length cap36) && (vecCells (ArrD.vec a2).kind wv36 nv36 sm36 il36 fl36 ch36 bx36).all Value.oneCell') = true := by rw [hoc36]; rfl
        have ha1 := ArrR.mono' (ArrAt.mono (k + 1)) hle36 ha1
        have hp' := PlainAt.mono (k + 2) _ _ _ _ hle36 hp'
        refine RW.nil ?_
        refine heldQ_normal ⟨_, _, 1, 2, hs, rfl, rfl⟩ ?_
        refine HW.takeR (fuel := 4) 8 rfl (fun _ _ ka kb _ hs hka hkb => Y.move rfl) ⟨_, _, 1, 2, hs, rfl, rfl⟩ rfl (by kernel_rfl) (by kernel_rfl) (by kernel_rfl) ?_
        refine HW.takeR (fuel := 3) 9 rfl (fun _ _ ka kb _ hs hka hkb => Y.extract rfl rfl) ⟨_, _, 1, 2, hs, rfl, rfl⟩ rfl (by kernel_rfl) (by kernel_rfl) (by kernel_rfl) ?_
        refine HW.takeR (fuel := 2) 10 rfl (fun _ _ ka kb _ hs hka hkb => Y.extract rfl rfl) ⟨_, _, 1, 2, hs, rfl, rfl⟩ rfl (by kernel_rfl) (by kernel_rfl) (by kernel_rfl) ?_
        refine HW.one (fuel := 1) 12 rfl (by kernel_rfl) ?_
        refine RW.storeAll T hs 0 rfl rfl rfl rfl rfl rfl hall36 rfl ?_
        intro w912 hs
        refine RW.nil ?_
        refine heldQ_normal ⟨_, _, 1, 2, hs, rfl, rfl⟩ ?_
        refine HW.takeR (fuel := 0) 13 rfl (fun _ _ ka kb _ hs hka hkb => Y.assign rfl) ⟨_, _, 1, 2, hs, rfl, rfl⟩ rfl (by kernel_rfl) (by kernel_rfl) (by kernel_rfl) ?_
        refine HW.done (by kernel_rfl) ?_
        refine calmQ_normal ?_
        exact joinQ_meet (b10, a2, _, h36) ⟨rfl, rfl, rfl, rfl, trivial⟩ ⟨h2, ha36, hp', hs⟩
    · (refine RW.allocN T hs rfl rfl rfl rfl ?_; intro b10 w10 hs)
      refine RW.nil ?_
      refine heldQ_normal ⟨_, _, 1, 2, hs, rfl, rfl⟩ ?_
      refine HW.one (fuel := 7) 3 rfl (by kernel_rfl) ?_
      (refine RW.call T hs rfl rfl rfl (refOne_con (α := PD ((k) + 1)) (R := PlainAt ((k) + 1)) (fwF (-n)) _ _ ((fwF_spec (-n) (by omega)).1).1) ?_; intro v h32 w32 hle32 hp32 hs)
      obtain ⟨cs32, rfl, hq32⟩ := hp32
      have ha1 := ArrR.mono' (ArrAt.mono (k + 1)) hle32 ha1
      have hp' := PlainAt.mono (k + 2) _ _ _ _ hle32 hp'
      refine RW.nil ?_
      refine heldQ_normal ⟨_, _, 1, 2, hs, rfl, rfl⟩ ?_
      refine HW.one (fuel := 6) 4 rfl (by kernel_rfl) ?_
      (refine RW.call T hs rfl rfl rfl (of07_con (k + 2) _ (numQ ((k) + 1) (fwF (-n))) _ _ hq32 (numQ_chk ((k) + 1) _ ((fwF_spec (-n) (by omega)).1).2.1)) ?_; intro v h33 w33 hle33 hp33 hs)
      obtain ⟨cs33, rfl, _, _, hn33⟩ := hp33
      rw [numQ_arr, tidyW_of ((fwF_spec (-n) (by omega)).1)] at hn33
      have ha1 := ArrR.mono' (ArrAt.mono (k + 1)) hle33 ha1
      have hp' := PlainAt.mono (k + 2) _ _ _ _ hle33 hp'
      refine RW.nil ?_
      refine heldQ_normal ⟨_, _, 1, 2, hs, rfl, rfl⟩ ?_
      refine HW.one (fuel := 5) 7 rfl (by kernel_rfl) ?_
      (refine RW.call T hs rfl rfl rfl (turnRotate_con (ArrAt.mono ((k) + 1)) (ArrAt.one ((k) + 1)) (ArrAt.siz ((k) + 1)) (blankA (k)) (fun w h => flatBlank_con (ArrAt.mono (k)) (ArrAt.one (k)) w h) _ _ _ (fwF ((-n))) ((-n)) a1 first _ _ hn33 rfl rfl (one_kind ((-n)) (by omega)) (by rw [wholeF_fw _ (by omega)]) ha1 hf1 hf2 hf3) ?_; intro v h36 w36 hle36 hp36 hs)
      obtain ⟨cs36, rfl, hT36⟩ := hp36
      obtain ⟨a2, ha36, h2⟩ := turn_arr hT36 hf1 (axK_lt _ _)
      obtain ⟨s36, vc36, rfl, ⟨ad36, cap36, rfl, _⟩, hv36⟩ := id ha36
      obtain ⟨wv36, nv36, sm36, il36, fl36, ch36, bx36, ⟨rfl, hoc36⟩, _⟩ := hv36
      have hall36 : (Value.oneCell' (.slice ad36 (ArrD.shape a2).length cap36) && (vecCells (ArrD.vec a2).kind wv36 nv36 sm36 il36 fl36 ch36 bx36).all Value.oneCell') = true := by rw [hoc36]; rfl
      have ha1 := ArrR.mono' (ArrAt.mono (k + 1)) hle36 ha1
      have hp' := PlainAt.mono (k + 2) _ _ _ _ hle36 hp'
      refine RW.nil ?_
      refine heldQ_normal ⟨_, _, 1, 2, hs, rfl, rfl⟩ ?_
      refine HW.takeR (fuel := 4) 8 rfl (fun _ _ ka kb _ hs hka hkb => Y.move rfl) ⟨_, _, 1, 2, hs, rfl, rfl⟩ rfl (by kernel_rfl) (by kernel_rfl) (by kernel_rfl) ?_
      refine HW.takeR (fuel := 3) 9 rfl (fun _ _ ka kb _ hs hka hkb => Y.extract rfl rfl) ⟨_, _, 1, 2, hs, rfl, rfl⟩ rfl (by kernel_rfl) (by kernel_rfl) (by kernel_rfl) ?_
      refine HW.takeR (fuel := 2) 10 rfl (fun _ _ ka kb _ hs hka hkb => Y.extract rfl rfl) ⟨_, _, 1, 2, hs, rfl, rfl⟩ rfl (by kernel_rfl) (by kernel_rfl) (by kernel_rfl) ?_
      refine HW.one (fuel := 1) 12 rfl (by kernel_rfl) ?_
      refine RW.storeAll T hs 0 rfl rfl rfl rfl rfl rfl hall36 rfl ?_
      intro w912 hs
      refine RW.nil ?_
      refine heldQ_normal ⟨_, _, 1, 2, hs, rfl, rfl⟩ ?_
      refine HW.takeR (fuel := 0) 13 rfl (fun _ _ ka kb _ hs hka hkb => Y.assign rfl) ⟨_, _, 1, 2, hs, rfl, rfl⟩ rfl (by kernel_rfl) (by kernel_rfl) (by kernel_rfl) ?_
      refine HW.done (by kernel_rfl) ?_
      refine calmQ_normal ?_
      exact joinQ_meet (b10, a2, _, h36) ⟨rfl, rfl, rfl, rfl, trivial⟩ ⟨h2, ha36, hp', hs⟩
  rintro ⟨b10, a2, cs2, h8⟩ w8 ⟨h2, ha2, hp', hs⟩
  dsimp only at h2 ha2 hp' hs ⊢
  rw [hf4] at h2
  obtain ⟨hg2, hpl2⟩ := hback a2 (by rw [hf4]; exact h2)
  rw [plain_arr (k + 2) 40 p hcp] at hpl2
  have ha2 : ArrAt (k + 2) h8 cs2 a2 := ha2
  obtain ⟨s2, vc2, rfl, ⟨ad2, cap2, rfl, _⟩, hv2⟩ := id ha2
  obtain ⟨wv2, nv2, sm2, il2, fl2, ch2, bx2, ⟨rfl, hoc2⟩, _⟩ := hv2
  refine Zerun ?_
  refine CW.regionO T hs ?_
  intro w9 hs
  refine HW.takeS (fuel := 12) 0 rfl (fun _ _ hs => Y.move rfl) hs rfl (by kernel_rfl) (by kernel_rfl) (by kernel_rfl) ?_
  refine HW.takeS (fuel := 11) 1 rfl (fun _ _ hs => Y.eqT rfl rfl rfl) hs rfl (by kernel_rfl) (by kernel_rfl) (by kernel_rfl) ?_
  refine HW.takeS (fuel := 10) 2 rfl (fun _ _ hs => Y.move rfl) hs rfl (by kernel_rfl) (by kernel_rfl) (by kernel_rfl) ?_
  refine HW.takeSY (fuel := 9) 3 rfl rfl rfl (fun _ _ hs => Y.loadRowN T hs 0 rfl rfl rfl rfl rfl rfl rfl) hs rfl (by kernel_rfl) (by kernel_rfl) (by kernel_rfl) ?_
  refine HW.takeSY (fuel := 8) 4 rfl rfl rfl (fun _ _ hs => Y.move rfl) hs rfl (by kernel_rfl) (by kernel_rfl) (by kernel_rfl) ?_
  refine HW.takeSY (fuel := 7) 5 rfl rfl rfl (fun _ _ hs => Y.loadRowN T hs 3 rfl rfl rfl rfl rfl rfl rfl) hs rfl (by kernel_rfl) (by kernel_rfl) (by kernel_rfl) ?_
  refine HW.one (fuel := 6) 6 rfl (by kernel_rfl) ?_
  refine RW.guardYes rfl rfl ?_
  (refine RW.call T hs rfl rfl rfl (refTidyP_con (k + 2) 40 _ p _ _ hp' hcp) ?_; intro v h45 w45 hle45 hp45 hs)
  obtain ⟨cs45, rfl, hq45⟩ := hp45
  have ha2 := ArrAt.mono (k + 2) _ _ _ _ hle45 ha2
  refine RW.nil ?_
  refine heldQ_normal ⟨_, hs⟩ ?_
  refine HW.one (fuel := 5) 7 rfl (by kernel_rfl) ?_
  refine RW.guardYes rfl rfl ?_
  (refine RW.call T hs rfl rfl rfl (shows21_con (k + 1) _ _ (a2 : AD (k + 2)) (tidy (k + 2) p) _ _ ha2 hq45 hg2 hpl2 htp) ?_; intro v h46 w46 hle46 hp46 hs)
  subst hp46
  refine RW.nil ?_
  refine heldQ_normal ⟨_, hs⟩ ?_
  refine HW.takeS (fuel := 4) 8 rfl (fun _ _ hs => Y.pickT rfl rfl) hs rfl (by kernel_rfl) (by kernel_rfl) (by kernel_rfl) ?_
  refine HW.takeS (fuel := 3) 9 rfl (fun _ _ hs => Y.move rfl) hs rfl (by kernel_rfl) (by kernel_rfl) (by kernel_rfl) ?_
  refine HW.one (fuel := 2) 10 rfl (by kernel_rfl) ?_
  refine RW.guardYes rfl rfl ?_
  (refine RW.call T hs rfl rfl rfl (awake21_con _ _) ?_; intro v h49 w49 hle49 hp49 hs)
  subst hp49
  refine RW.nil ?_
  refine heldQ_normal ⟨_, hs⟩ ?_
  refine HW.takeS (fuel := 1) 11 rfl (fun _ _ hs => Y.pickT rfl rfl) hs rfl (by kernel_rfl) (by kernel_rfl) (by kernel_rfl) ?_
  refine HW.takeS (fuel := 0) 12 rfl (fun _ _ hs => Y.assign rfl) hs rfl (by kernel_rfl) (by kernel_rfl) (by kernel_rfl) ?_
  refine HW.done (by kernel_rfl) ?_
  refine calmQ_normal ?_
  refine Zerun ?_
  exact retQ_ret [_] h49 ⟨rfl, trivial⟩ hs.dropAll rfl
end Go.Proofs.Ythbfkhklihejiaa
