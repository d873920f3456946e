/-
  The program logic, fifth part: small rules that a script of steps uses. No statement is proved here.
-/
import Derived.Test.YtdpkioffihebnaaLibD
namespace Go.Proofs.Ytdpkioffihebnaa
open Go Go.RowKit

section
variable {P : Program} (T : Tab P) {n : Nat} {Q : Post} {L : Env} {w0 w : World} {h0 h : GHeap} {O : List Row} {ops rest : List Oper} {x y c : Operand} {t : TypeId}
variable {d : Option Tmp} {ty : TypeId} {pos : String} {aft : Array Edge}

theorem thenQ_normal {z : Code} (hh : CW P n Q z L w) : thenQ P n z Q .normal L w := hh
theorem thenQ_ret {z : Code} (hh : Q .ret L w) : thenQ P n z Q .ret L w := hh
theorem thenQ_exit {z : Code} {id : Nat} (hh : Q (.exit id) L w) : thenQ P n z Q (.exit id) L w := hh
theorem blockQ_normal {id : Nat} (hh : Q .normal L w) : blockQ id Q .normal L w := hh
theorem blockQ_ret {id : Nat} (hh : Q .ret L w) : blockQ id Q .ret L w := hh
theorem blockQ_exit {id id' : Nat} (he : Nat.beq id' id = true) (hh : Q .normal L w) : blockQ id Q (.exit id') L w := by
  show (match Nat.beq id' id with | true => Q .normal L w | false => Q (.exit id') L w)
  rw [he]; exact hh
theorem blockQ_past {id id' : Nat} (he : Nat.beq id' id = false) (hh : Q (.exit id') L w) : blockQ id Q (.exit id') L w := by
  show (match Nat.beq id' id with | true => Q .normal L w | false => Q (.exit id') L w)
  rw [he]; exact hh
theorem loopQ_ret {σ : Type} {E : σ → Env} {S : σ → World → Prop} {μ : σ → Nat} {s : σ} (hh : Q .ret L w) : loopQ E S μ s Q .ret L w := hh
theorem loopQ_exit {σ : Type} {E : σ → Env} {S : σ → World → Prop} {μ : σ → Nat} {s : σ} {id : Nat} (hh : Q (.exit id) L w) : loopQ E S μ s Q (.exit id) L w := hh
theorem loopQ_round {σ : Type} {E : σ → Env} {S : σ → World → Prop} {μ : σ → Nat} {s : σ} (s' : σ) (hE : Has L (E s')) (hS : S s' w) (hμ : μ s' < μ s) : loopQ E S μ s Q .normal L w := ⟨s', hE, hS, hμ⟩
/-- ways that meet again ahead of what follows -/
theorem CW.meet {σ : Type} {z : Code} {b : Code} (E : σ → Env) (S : σ → World → Prop) (hx : CW P n (joinQ E S Q) b L w) (hy : ∀ s w, S s w → CW P n Q z (E s) w) : CW P n (thenQ P n z Q) b L w := by
  refine hx.mono ?_
  intro e M w' q
  cases e with
  | normal => obtain ⟨s, h1, h2⟩ := q; exact (hy s w' h2).has h1
  | _ => exact q
theorem joinQ_ret {σ : Type} {E : σ → Env} {S : σ → World → Prop} (hh : Q .ret L w) : joinQ E S Q .ret L w := hh
theorem joinQ_exit {σ : Type} {E : σ → Env} {S : σ → World → Prop} {id : Nat} (hh : Q (.exit id) L w) : joinQ E S Q (.exit id) L w := hh
theorem joinQ_meet {σ : Type} {E : σ → Env} {S : σ → World → Prop} (s : σ) (hE : Has L (E s)) (hS : S s w) : joinQ E S Q .normal L w := ⟨s, hE, hS⟩
theorem retQ_ret {rs : List ResultVar} {post : GHeap → Value → Prop} (vs : List Value) (h' : GHeap) (hr : Res P L w rs vs) (hs : Sees w0 h0 h' [] w) (hp : post h' (packv vs)) : retQ P rs w0 h0 post .ret L w := ⟨vs, h', hr, hs, hp⟩
theorem retQ_end {rs : List ResultVar} {post : GHeap → Value → Prop} (vs : List Value) (h' : GHeap) (hr : Res P L w rs vs) (hs : Sees w0 h0 h' [] w) (hp : post h' (packv vs)) : retQ P rs w0 h0 post .normal L w := ⟨vs, h', hr, hs, hp⟩

theorem CW.condD {a b : Code} {p : Prop} [Decidable p] (hc : opv L c = some (.bool (decide p))) (ht : p → CW P n Q a L w) (hf : ¬ p → CW P n Q b L w) : CW P n Q (.cond c a b) L w :=
  CW.cond hc (fun e => ht (of_decide_eq_true e)) (fun e => hf (of_decide_eq_false e))
theorem CW.condY {a b : Code} {p : Prop} [Decidable p] (hc : opv L c = some (.bool (decide p))) (hp : p) (ht : CW P n Q a L w) : CW P n Q (.cond c a b) L w :=
  CW.condD hc (fun _ => ht) (fun hn => absurd hp hn)
theorem CW.condN {a b : Code} {p : Prop} [Decidable p] (hc : opv L c = some (.bool (decide p))) (hp : ¬ p) (hf : CW P n Q b L w) : CW P n Q (.cond c a b) L w :=
  CW.condD hc (fun h => absurd h hp) (fun _ => hf)
/-- a guarded operation, its guard's test known or by cases -/
theorem RW.gd {op : Op} {j : Nat} {want : Bool} {p : Prop} [Decidable p] {u : Tmp} (_hj : gdst ops j = some u) (ht : get L u = some (.bool (decide p)))
    (h1 : p → RW P n ops Q ((u, .bool true) :: L) w (⟨d, op, ty, pos, aft, some (j, want)⟩ :: rest)) (h2 : ¬ p → RW P n ops Q ((u, .bool false) :: L) w (⟨d, op, ty, pos, aft, some (j, want)⟩ :: rest)) :
    RW P n ops Q L w (⟨d, op, ty, pos, aft, some (j, want)⟩ :: rest) :=
  RW.split ht (fun e => h1 (of_decide_eq_true e)) (fun e => h2 (of_decide_eq_false e))
theorem RW.gdY {op : Op} {j : Nat} {want : Bool} {p : Prop} [Decidable p] {u : Tmp} (hj : gdst ops j = some u) (ht : get L u = some (.bool (decide p))) (hp : p)
    (h1 : RW P n ops Q ((u, .bool true) :: L) w (⟨d, op, ty, pos, aft, some (j, want)⟩ :: rest)) : RW P n ops Q L w (⟨d, op, ty, pos, aft, some (j, want)⟩ :: rest) :=
  RW.gd hj ht (fun _ => h1) (fun hn => absurd hp hn)
theorem RW.gdN {op : Op} {j : Nat} {want : Bool} {p : Prop} [Decidable p] {u : Tmp} (hj : gdst ops j = some u) (ht : get L u = some (.bool (decide p))) (hp : ¬ p)
    (h1 : RW P n ops Q ((u, .bool false) :: L) w (⟨d, op, ty, pos, aft, some (j, want)⟩ :: rest)) : RW P n ops Q L w (⟨d, op, ty, pos, aft, some (j, want)⟩ :: rest) :=
  RW.gd hj ht (fun h => absurd h hp) (fun _ => h1)
/-- a bool that is not a test written out -/
theorem RW.gb {op : Op} {j : Nat} {want b : Bool} {u : Tmp} (_hj : gdst ops j = some u) (ht : get L u = some (.bool b))
    (h1 : b = true → RW P n ops Q ((u, .bool true) :: L) w (⟨d, op, ty, pos, aft, some (j, want)⟩ :: rest)) (h2 : b = false → RW P n ops Q ((u, .bool false) :: L) w (⟨d, op, ty, pos, aft, some (j, want)⟩ :: rest)) :
    RW P n ops Q L w (⟨d, op, ty, pos, aft, some (j, want)⟩ :: rest) :=
  RW.split ht h1 h2

/-- one element of a slice that lies in the ghost heap -/
theorem Sl.at {ad : Option Addr} {m cp sz : Nat} {xs : List Value} (hS : Sl h sz ad m cp xs) {j : Nat} (hj : j < m) : ∃ b o, ad = some ⟨b, o, none⟩ ∧ ∀ q, q < sz → ∃ cs, h b = some cs ∧ cs[o + j * sz + q]? = xs[j * sz + q]? := by
  cases ad with
  | none => have := hS.2.2.2.1 rfl; have := hS.2.1; omega
  | some p =>
    obtain ⟨hsp, hc⟩ := hS.2.2.2.2 p rfl
    have hsp : p.spot = none := hsp.resolve_left (by omega)
    refine ⟨p.block, p.off, by cases p; simp at hsp; simp [hsp], fun q hq => ?_⟩
    have hlt : j * sz + q < m * sz := by
      have : (j + 1) * sz ≤ m * sz := Nat.mul_le_mul_right _ hj
      rw [Nat.add_mul] at this; omega
    obtain ⟨cs, a, b⟩ := hc _ hlt
    exact ⟨cs, a, by rw [Nat.add_assoc]; exact b⟩
theorem get_map_int {l : List Int} {k : IntKind} {j : Nat} (hj : j < l.length) : (l.map (Value.int k))[j]? = some (.int k (l.getD j 0)) := by
  simp [List.getD_eq_getElem?_getD, hj]
/-- the address of an element, as a value -/
def elemP (ad : Option Addr) (j sz : Nat) : Value := .pointer (some ((ad.getD ⟨0, 0, none⟩).add (j * sz)))
theorem elemP_some (b o j sz : Nat) : elemP (some ⟨b, o, none⟩) j sz = .pointer (some ⟨b, o + j * sz, none⟩) := by
  unfold elemP
  show Value.pointer (some ((⟨b, o, none⟩ : Addr).add (j * sz))) = _
  rw [Addr.add_lit]
theorem Y.idxS {e : TypeId} {i : Inf} {ad : Option Addr} {m cp sz : Nat} {k : IntKind} {u : Int} {xs : List Value} (hx : opv L x = some (.slice ad m cp)) (hy : opv L y = some (.int k u)) (hS : Sl h sz ad m cp xs) (hT : T.ty t = some (.slice e)) (hI : T.inf e = some i) (hi : i.size = sz) (h0' : 0 ≤ u ∧ u < m) :
    Yields P n L w (.indexAddr t x y) ty (elemP ad u.toNat sz) := by
  obtain ⟨b, o, had, _⟩ := hS.at (j := u.toNat) (by omega)
  have := Y.indexAddr (P := P) (n := n) (w := w) (ty := ty) T hT hI hx hy had h0'
  rw [had, elemP_some, ← hi]
  exact this
theorem Y.idxSN {e : TypeId} {i : Inf} {ad : Option Addr} {m cp sz : Nat} {k : IntKind} {u : Nat} {xs : List Value} (hx : opv L x = some (.slice ad m cp)) (hy : opv L y = some (.int k (u : Int))) (hS : Sl h sz ad m cp xs) (hT : T.ty t = some (.slice e)) (hI : T.inf e = some i) (hi : i.size = sz) (h0' : u < m) :
    Yields P n L w (.indexAddr t x y) ty (elemP ad u sz) := Y.idxS T hx hy hS hT hI hi (by omega)
theorem Y.ldS {t' : TypeId} {dd : Ty} {ad : Option Addr} {m cp j : Nat} {xs : List Value} {v : Value} (hs : Sees w0 h0 h O w) (hx : opv L x = some (elemP ad j 1)) (hS : Sl h 1 ad m cp xs) (hE : T.ty t' = some dd) (hag : dd.agg = false) (hj : j < m) (hv : xs[j]? = some v) : Yields P n L w (.load t' x) ty v := by
  obtain ⟨b, o, had, hc⟩ := hS.at hj
  obtain ⟨cs, hb, hcs⟩ := hc 0 (by omega)
  simp only [Nat.mul_one, Nat.add_zero] at hcs
  subst had
  rw [elemP_some, Nat.mul_one] at hx
  exact Y.load1 T hE hag hx (hs.cell hb (by rw [hcs, hv]))
theorem Y.ldInt {t' : TypeId} {dd : Ty} {ad : Option Addr} {m cp j : Nat} {l : List Int} {k' : IntKind} (hs : Sees w0 h0 h O w) (hx : opv L x = some (elemP ad j 1)) (hS : Sl h 1 ad m cp (l.map (Value.int k'))) (hE : T.ty t' = some dd) (hag : dd.agg = false) (hj : j < m) : Yields P n L w (.load t' x) ty (.int k' (l.getD j 0)) :=
  Y.ldS T hs hx hS hE hag hj (get_map_int (by have := hS.1; simp at this; omega))
/-- an element of more than one cell -/
theorem Y.ldSN {t' : TypeId} {dd : Ty} {i : Inf} {ad : Option Addr} {m cp j sz : Nat} {xs cs : List Value} (hs : Sees w0 h0 h O w) (hx : opv L x = some (elemP ad j sz)) (hS : Sl h sz ad m cp xs) (hE : T.ty t' = some dd) (hag : dd.agg = true) (hI : T.inf t' = some i) (hi : i.size = sz) (hj : j < m) (hc : (xs.drop (j * sz)).take sz = cs) (hl : cs.length = sz) : Yields P n L w (.load t' x) ty (.agg cs.toArray) := by
  obtain ⟨b, o, had, hcell⟩ := hS.at hj
  subst had
  rw [elemP_some] at hx
  refine Y.loadN T hE hag hI (by rw [hl, hi]) hx ?_
  intro q r hq
  have hqlt : q < sz := by rw [← hl]; exact (List.getElem?_eq_some_iff.1 hq).1
  obtain ⟨zs, hb, hz⟩ := hcell q hqlt
  refine hs.cell hb ?_
  rw [hz, ← List.getElem?_drop]
  rw [← hc, List.getElem?_take, if_pos hqlt] at hq
  exact hq
theorem Y.idxR (hs : Sees w0 h0 h O w) (k : Nat) {e : TypeId} {i : Inf} {ad : Option Addr} {m cp sz : Nat} {kk : IntKind} {u : Int} {xs : List Value} (hx : opv L x = some (.slice ad m cp)) (hy : opv L y = some (.int kk u)) (hO : O[k]? = some ⟨ad, m, cp, e, sz, xs⟩) (hT : T.ty t = some (.slice e)) (hI : T.inf e = some i) (hi : i.size = sz) (h0' : 0 ≤ u ∧ u < m) :
    Yields P n L w (.indexAddr t x y) ty (elemP ad u.toNat sz) := by
  obtain ⟨b, had⟩ := hs.rowAt hO (by omega)
  have := Y.indexAddr (P := P) (n := n) (w := w) (ty := ty) T hT hI hx hy had h0'
  rw [had, elemP_some, ← hi]
  exact this
theorem Y.idxRN (hs : Sees w0 h0 h O w) (k : Nat) {e : TypeId} {i : Inf} {ad : Option Addr} {m cp sz : Nat} {kk : IntKind} {u : Nat} {xs : List Value} (hx : opv L x = some (.slice ad m cp)) (hy : opv L y = some (.int kk (u : Int))) (hO : O[k]? = some ⟨ad, m, cp, e, sz, xs⟩) (hT : T.ty t = some (.slice e)) (hI : T.inf e = some i) (hi : i.size = sz) (h0' : u < m) :
    Yields P n L w (.indexAddr t x y) ty (elemP ad u sz) := Y.idxR T hs k hx hy hO hT hI hi (by omega)
theorem Y.ldR {t' : TypeId} {dd : Ty} {ad : Option Addr} {m cp j : Nat} {e : TypeId} {xs : List Value} {v : Value} (hs : Sees w0 h0 h O w) (k : Nat) (hx : opv L x = some (elemP ad j 1)) (hO : O[k]? = some ⟨ad, m, cp, e, 1, xs⟩) (hE : T.ty t' = some dd) (hag : dd.agg = false) (hj : j < m) (hv : xs[j]? = some v) : Yields P n L w (.load t' x) ty v := by
  obtain ⟨b, had⟩ := hs.rowAt hO (by omega)
  subst had
  rw [elemP_some] at hx
  refine Y.load1 T hE hag hx ?_
  rw [Nat.zero_add, Nat.mul_one]
  exact hs.rowCell hO hv
theorem Y.ldRInt {t' : TypeId} {dd : Ty} {ad : Option Addr} {m cp j : Nat} {e : TypeId} {l : List Int} {k' : IntKind} (hs : Sees w0 h0 h O w) (k : Nat) (hx : opv L x = some (elemP ad j 1)) (hO : O[k]? = some ⟨ad, m, cp, e, 1, l.map (Value.int k')⟩) (hE : T.ty t' = some dd) (hag : dd.agg = false) (hj : j < m) : Yields P n L w (.load t' x) ty (.int k' (l.getD j 0)) :=
  Y.ldR T hs k hx hO hE hag hj (get_map_int (by have := hs.rowLen hO; simp at this; omega))
/-- a store of one cell, into a row of the call's own -/
theorem RW.st1 (hs : Sees w0 h0 h O w) (k : Nat) {ad : Option Addr} {m cp j : Nat} {e : TypeId} {xs : List Value} {i : Inf} {v : Value} (hx : opv L x = some (elemP ad j 1)) (hy : opv L y = some v) (hO : O[k]? = some ⟨ad, m, cp, e, 1, xs⟩) (hI : T.inf t = some i) (hi : i.size = 1) (hv : v.oneCell' = true) (hd : dstOk n d = true) (hj : j < m)
    (K : ∀ w', Sees w0 h0 h (O.set k ⟨ad, m, cp, e, 1, xs.set j v⟩) w' → RW P n ops Q (updo d undef L) w' rest) :
    RW P n ops Q L w (⟨d, .store t x y, ty, pos, aft, none⟩ :: rest) := by
  obtain ⟨b, had⟩ := hs.rowAt hO (by omega)
  subst had
  rw [elemP_some, Nat.zero_add, Nat.mul_one] at hx
  have hlen := hs.rowLen hO
  simp only [Nat.mul_one] at hlen
  exact RW.store1 (k := k) T hs hO (u := v) (o := j) (old := xs[j]'(by omega)) hx hy hd hI hi hv (List.getElem?_eq_getElem (by omega)) (fun w' hs' => K w' hs')
/-- a store of a struct, into a row of the call's own -/
theorem RW.stN (hs : Sees w0 h0 h O w) (k : Nat) {ad : Option Addr} {m cp j sz : Nat} {e : TypeId} {xs : List Value} {i : Inf} {cs : Array Value} (hx : opv L x = some (elemP ad j sz)) (hy : opv L y = some (.agg cs)) (hO : O[k]? = some ⟨ad, m, cp, e, sz, xs⟩) (hI : T.inf t = some i) (hi : i.size = sz) (hc : cs.size = sz) (hv : ∀ u ∈ cs.toList, u.oneCell' = true) (hd : dstOk n d = true) (hj : j < m)
    (K : ∀ w', Sees w0 h0 h (O.set k ⟨ad, m, cp, e, sz, putCells xs (j * sz) cs.toList⟩) w' → RW P n ops Q (updo d undef L) w' rest) :
    RW P n ops Q L w (⟨d, .store t x y, ty, pos, aft, none⟩ :: rest) := by
  obtain ⟨b, had⟩ := hs.rowAt hO (by omega)
  subst had
  rw [elemP_some, Nat.zero_add] at hx
  have hlen := hs.rowLen hO
  simp only at hlen
  refine RW.storeN (k := k) T hs hO hx hy hd hI (by rw [hc, hi]) hv ?_ (fun w' hs' => K w' hs')
  rw [hc, hlen]
  have : (j + 1) * sz ≤ m * sz := Nat.mul_le_mul_right _ hj
  rw [Nat.add_mul] at this; omega
/-! what stands next: for a script's choice -/
theorem RW.isRW {r : List Oper} (hh : RW P n ops Q L w r) : RW P n ops Q L w r := hh
theorem CW.isCW {c : Code} (hh : CW P n Q c L w) : CW P n Q c L w := hh
theorem RW.isBin {op : BinOp} {yt : TypeId} {g : Option (Nat × Bool)} (hh : RW P n ops Q L w (⟨d, .binOp op t x y yt, ty, pos, aft, g⟩ :: rest)) : RW P n ops Q L w (⟨d, .binOp op t x y yt, ty, pos, aft, g⟩ :: rest) := hh
theorem RW.isCall {cl : Call} {g : Option (Nat × Bool)} (hh : RW P n ops Q L w (⟨d, .call cl, ty, pos, aft, g⟩ :: rest)) : RW P n ops Q L w (⟨d, .call cl, ty, pos, aft, g⟩ :: rest) := hh
theorem RW.isLoad {g : Option (Nat × Bool)} (hh : RW P n ops Q L w (⟨d, .load t x, ty, pos, aft, g⟩ :: rest)) : RW P n ops Q L w (⟨d, .load t x, ty, pos, aft, g⟩ :: rest) := hh
theorem RW.isIdx {g : Option (Nat × Bool)} (hh : RW P n ops Q L w (⟨d, .indexAddr t x y, ty, pos, aft, g⟩ :: rest)) : RW P n ops Q L w (⟨d, .indexAddr t x y, ty, pos, aft, g⟩ :: rest) := hh
theorem RW.isGuard {op : Op} {g : Nat × Bool} (hh : RW P n ops Q L w (⟨d, op, ty, pos, aft, some g⟩ :: rest)) : RW P n ops Q L w (⟨d, op, ty, pos, aft, some g⟩ :: rest) := hh
theorem RW.isUn {op : UnOp} {g : Option (Nat × Bool)} (hh : RW P n ops Q L w (⟨d, .unOp op t x, ty, pos, aft, g⟩ :: rest)) : RW P n ops Q L w (⟨d, .unOp op t x, ty, pos, aft, g⟩ :: rest) := hh
theorem RW.isPick {g : Option (Nat × Bool)} (hh : RW P n ops Q L w (⟨d, .pick c x y, ty, pos, aft, g⟩ :: rest)) : RW P n ops Q L w (⟨d, .pick c x y, ty, pos, aft, g⟩ :: rest) := hh
end
end Go.Proofs.Ytdpkioffihebnaa
