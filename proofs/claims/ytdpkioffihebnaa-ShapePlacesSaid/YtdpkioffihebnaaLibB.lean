/-
  The program logic, second part: types by a table, the ghost heap, rows of the call's own, contracts. No statement is proved here.
-/
import Derived.Test.YtdpkioffihebnaaLibA
namespace Go.Proofs.Ytdpkioffihebnaa
open Go Go.RowKit

/-! ## Types -/
inductive Ty where
  | bool | int (k : IntKind) | float | string
  | slice (e : Nat) | pointer (e : Nat) | array (n e : Nat) | struct (fs : List (Nat × Nat)) | other
def Ty.agg : Ty → Bool
  | .array _ _ | .struct _ => true
  | _ => false
def Ty.is (P : Program) (t : Nat) : Ty → Prop
  | .bool => P.underlying t = some .bool
  | .int k => P.underlying t = some (.int k)
  | .float => P.underlying t = some (.float .f64)
  | .string => P.underlying t = some .string
  | .slice e => P.underlying t = some (.slice e)
  | .pointer e => P.underlying t = some (.pointer e)
  | .array n e => P.underlying t = some (.array n e)
  | .struct fs => ∃ a, P.underlying t = some (.struct a) ∧ a.toList.map (fun f => (f.type, f.offset)) = fs
  | .other => ∃ d, P.underlying t = some d ∧ (match d with | .struct _ | .array _ _ => true | _ => false) = false
/-- size in cells, bytes, the zero value -/
structure Inf where
  size : Nat
  bytes : Nat
  zero : Value
def Inf.is (P : Program) (t : Nat) (i : Inf) : Prop := ∃ x, P.info? t = some x ∧ x.size = i.size ∧ x.bytes = i.bytes ∧ x.zero = some i.zero
def look {α : Type} : List (Nat × α) → Nat → Option α
  | [], _ => none
  | (j, v) :: r, k => match Nat.beq j k with
    | true => some v
    | false => look r k
theorem look_mem {α : Type} : ∀ (l : List (Nat × α)) (k : Nat) (v : α), look l k = some v → (k, v) ∈ l
  | [], _, _, h => by simp [look] at h
  | (j, u) :: r, k, v, h => by
    simp only [look] at h
    cases hb : Nat.beq j k with
    | true => rw [hb] at h; have := Nat.eq_of_beq_eq_true hb; simp at h; subst h; subst this; exact List.mem_cons_self
    | false => rw [hb] at h; exact List.mem_cons_of_mem _ (look_mem r k v h)
def Callable (P : Program) (f : Nat) : Prop := ∃ fn, P.funcs[f]? = some fn ∧ (fn.name == "runtime.NumGoroutine") = false ∧ fn.body.isNone = false
def chkFn (P : Program) (f : Nat) : Bool := match P.funcs[f]? with
  | some fn => !(fn.name == "runtime.NumGoroutine") && !fn.body.isNone
  | none => false
theorem Callable.of_chk {P : Program} {f : Nat} (h : chkFn P f = true) : Callable P f := by
  unfold chkFn at h
  split at h
  · rename_i fn hf
    simp only [Bool.and_eq_true, Bool.not_eq_true'] at h
    exact ⟨fn, hf, h.1, h.2⟩
  · cases h
def memb : List Nat → Nat → Bool
  | [], _ => false
  | k :: r, f => match Nat.beq k f with
    | true => true
    | false => memb r f
def inRange (lo hi : Nat) (ex : List Nat) (f : Nat) : Bool := match Nat.ble lo f with
  | true => match Nat.blt f hi with
    | true => match memb ex f with
      | true => false
      | false => true
    | false => false
  | false => false
theorem call_of_all {P : Program} {lo hi : Nat} {ex : List Nat} (h : (List.range hi).all (fun f => Nat.blt f lo || memb ex f || chkFn P f) = true) (f : Nat) (hf : inRange lo hi ex f = true) : Callable P f := by
  unfold inRange at hf
  cases hb : Nat.ble lo f with
  | false => rw [hb] at hf; cases hf
  | true =>
    rw [hb] at hf
    cases hb2 : Nat.blt f hi with
    | false => rw [hb2] at hf; cases hf
    | true =>
      rw [hb2] at hf
      cases hb3 : memb ex f with
      | true => rw [hb3] at hf; cases hf
      | false =>
        have h1 : f < hi := Nat.le_of_ble_eq_true hb2
        have h2 : lo ≤ f := Nat.le_of_ble_eq_true hb
        have := List.all_eq_true.1 h f (List.mem_range.2 h1)
        simp only [Bool.or_eq_true, hb3, Bool.false_eq_true, or_false] at this
        rcases this with h3 | h3
        · have : f < lo := Nat.le_of_ble_eq_true h3
          omega
        · exact Callable.of_chk h3
/-- What a program's tables say, as functions that reduce. -/
structure Tab (P : Program) where
  ty : Nat → Option Ty
  inf : Nat → Option Inf
  ty_ok : ∀ t d, ty t = some d → d.is P t
  inf_ok : ∀ t i, inf t = some i → i.is P t
  call : Nat → Bool
  call_ok : ∀ f, call f = true → Callable P f
  mixed : P.follows .mixedOrders = true

section
variable {P : Program} (T : Tab P) {w : World}
theorem Tab.isAgg {t : Nat} {d : Ty} (h : T.ty t = some d) : (isAgg t).run P w = .ok d.agg w := by
  have := T.ty_ok t d h
  unfold Go.isAgg
  cases d with
  | struct fs => obtain ⟨a, h1, _⟩ := this; simp [run_underlying h1, Ty.agg]
  | other => obtain ⟨d, h1, h2⟩ := this; rw [Sem.run_bind, run_underlying h1]; cases d <;> simp_all [Ty.agg]
  | _ => simp [Ty.is] at this; simp [run_underlying this, Ty.agg]
theorem Tab.sizeOf {t : Nat} {i : Inf} (h : T.inf t = some i) : (sizeOf t).run P w = .ok i.size w := by
  obtain ⟨x, h1, h2, h3, h4⟩ := T.inf_ok t i h
  simp [Go.sizeOf, typeInfo, h1, h2]
theorem Tab.zeroValue {t : Nat} {i : Inf} (h : T.inf t = some i) : (zeroValue t).run P w = .ok i.zero w := by
  obtain ⟨x, h1, h2, h3, h4⟩ := T.inf_ok t i h
  simp [Go.zeroValue, typeInfo, h1, h4]
end

/-! ## The ghost heap -/
abbrev GHeap := Nat → Option (List Value)
def Agree (h : GHeap) (w : World) : Prop := ∀ b cs, h b = some cs → ∃ e fr, w.heap[b]? = some (.cells cs.toArray e fr)
def GLe (h h' : GHeap) : Prop := ∀ b cs, h b = some cs → h' b = some cs
theorem GLe.refl (h : GHeap) : GLe h h := fun _ _ e => e
theorem GLe.trans {a b c : GHeap} (h : GLe a b) (k : GLe b c) : GLe a c := fun x cs e => k x cs (h x cs e)
theorem Agree.cell {h : GHeap} {w : World} (ha : Agree h w) {b o : Nat} {cs : List Value} {v : Value} (hb : h b = some cs) (hv : cs[o]? = some v) : w.cell? ⟨b, o, none⟩ = some v := by
  obtain ⟨e, fr, hw⟩ := ha b cs hb
  rw [cell_of_row w b o _ e fr hw]
  simpa using hv
def ghost (w : World) : GHeap := fun b => match w.heap[b]? with
  | some (.cells c _ _) => some c.toList
  | _ => none
theorem ghost_agree (w : World) : Agree (ghost w) w := by
  intro b cs h
  unfold ghost at h
  split at h
  · rename_i c e fr hw; simp at h; subst h; exact ⟨e, fr, by simpa using hw⟩
  · simp at h

/-! ## Rows of the call's own -/
structure Row where
  ad : Option Addr
  n : Nat
  cp : Nat
  e : TypeId
  sz : Nat
  xs : List Value
def Row.v (r : Row) : Value := .slice r.ad r.n r.cp
def Row.ok (r : Row) (base : Nat) (w : World) : Prop := w.ownsRow base r.e r.sz r.v r.n r.xs
def Apart (x y : Value) : Prop := x.ownBlock = none ∨ x.ownBlock ≠ y.ownBlock
theorem Apart.symm {x y : Value} (h : Apart x y) : Apart y x := by
  rcases h with a | a
  · by_cases e : y.ownBlock = none
    · exact .inl e
    · right; rw [a]; exact e
  · right; exact fun e => a e.symm

structure Sees (w0 : World) (h0 h : GHeap) (O : List Row) (w : World) : Prop where
  below : Below w0.heap.size w0 w
  agree : Agree h w
  le : GLe h0 h
  old : ∀ b, b < w0.heap.size → h b = h0 b
  own : ∀ r ∈ O, r.ok w0.heap.size w ∧ ∀ k, r.v.ownBlock = some k → h k = none
  apart : (O.map Row.v).Pairwise Apart

section
variable {w0 w w' : World} {h0 h h' : GHeap} {O : List Row}
theorem Sees.start (ha : Agree h w) : Sees w h h [] w := ⟨Below.refl _ _, ha, GLe.refl _, fun _ _ => rfl, by simp, .nil⟩
theorem Sees.hlt (hs : Sees w0 h0 h O w) {b : Nat} {cs : List Value} (hb : h b = some cs) : b < w.heap.size := by
  obtain ⟨e, fr, hw⟩ := hs.agree b cs hb
  exact (Array.getElem?_eq_some_iff.1 hw).1
theorem Sees.base (hs : Sees w0 h0 h O w) : w0.heap.size ≤ w.heap.size := hs.below.size
theorem Sees.cell (hs : Sees w0 h0 h O w) {b o : Nat} {cs : List Value} {v : Value} (hb : h b = some cs) (hv : cs[o]? = some v) : w.cell? ⟨b, o, none⟩ = some v := hs.agree.cell hb hv
/-- the world moves on, and what it had stays -/
theorem Sees.keeps (hs : Sees w0 h0 h O w) (hw : Below w.heap.size w w') : Sees w0 h0 h O w' := by
  refine ⟨hs.below.trans (hw.mono hs.base), ?_, hs.le, hs.old, ?_, hs.apart⟩
  · intro b cs hb
    obtain ⟨e, fr, he⟩ := hs.agree b cs hb
    exact ⟨e, fr, by rw [hw.block b (hs.hlt hb)]; exact he⟩
  · intro r hr
    obtain ⟨h1, h2⟩ := hs.own r hr
    refine ⟨?_, h2⟩
    refine h1.kept (row := none) ⟨hw.os, hw.tape, hw.output, hw.size, fun k hk _ => hw.block k hk⟩ ?_
    cases r.v.ownBlock <;> simp
theorem Sees.drew (hs : Sees w0 h0 h O w) : Sees w0 h0 h O { w with drawn := w.drawn + 1 } := hs.keeps (Below.refl _ _).drew
theorem Sees.drop {r : Row} (hs : Sees w0 h0 h (r :: O) w) : Sees w0 h0 h O w :=
  ⟨hs.below, hs.agree, hs.le, hs.old, fun x hx => hs.own x (List.mem_cons_of_mem _ hx), (List.pairwise_cons.1 (by simpa using hs.apart)).2⟩
theorem Sees.dropAll (hs : Sees w0 h0 h O w) : Sees w0 h0 h [] w := ⟨hs.below, hs.agree, hs.le, hs.old, by simp, .nil⟩
theorem Sees.sub {O' : List Row} (hs : Sees w0 h0 h O w) (hsub : List.Sublist O' O) : Sees w0 h0 h O' w :=
  ⟨hs.below, hs.agree, hs.le, hs.old, fun x hx => hs.own x (hsub.subset hx), hs.apart.sublist (hsub.map _)⟩
theorem Sees.cast {O' : List Row} (hs : Sees w0 h0 h O w) (e : O = O') : Sees w0 h0 h O' w := e ▸ hs
theorem Sees.swap {r s : Row} (hs : Sees w0 h0 h (r :: s :: O) w) : Sees w0 h0 h (s :: r :: O) w := by
  refine ⟨hs.below, hs.agree, hs.le, hs.old, fun x hx => hs.own x (by simp at hx ⊢; rcases hx with h | h | h <;> simp [h]), ?_⟩
  have := hs.apart
  simp only [List.map_cons, List.pairwise_cons, List.mem_cons, forall_eq_or_imp] at this ⊢
  obtain ⟨⟨a, b⟩, c, d⟩ := this
  exact ⟨⟨a.symm, c⟩, b, d⟩
/-- a row of no block -/
theorem Sees.nilRow (hs : Sees w0 h0 h O w) (e : TypeId) (sz : Nat) : Sees w0 h0 h (⟨none, 0, 0, e, sz, []⟩ :: O) w := by
  refine ⟨hs.below, hs.agree, hs.le, hs.old, ?_, ?_⟩
  · intro r hr
    rcases List.mem_cons.1 hr with rfl | hr
    · exact ⟨World.ownsRow_nil w _ e sz, fun k hk => by simp [Row.v, Value.ownBlock] at hk⟩
    · exact hs.own r hr
  · exact List.pairwise_cons.2 ⟨fun s _ => .inl rfl, hs.apart⟩
/-- a row that was made by a new block -/
theorem Sees.alloc (hs : Sees w0 h0 h O w) {cs : List Value} {e : TypeId} {sz n cap : Nat} {xs : List Value} (hn : n ≤ cap) (hm : cap ≤ maxLen) (hc : cs.length = cap * sz) (hx : cs.take (n * sz) = xs) :
    Sees w0 h0 h (⟨some ⟨w.heap.size, 0, none⟩, n, cap, e, sz, xs⟩ :: O) (w.alloc (.cells cs.toArray e)) := by
  have hb : Below w.heap.size w (w.alloc (.cells cs.toArray e)) := (Below.refl _ _).alloc (Nat.le_refl _) _
  have h1 := hs.keeps hb
  refine ⟨h1.below, h1.agree, h1.le, h1.old, ?_, ?_⟩
  · intro r hr
    rcases List.mem_cons.1 hr with rfl | hr
    · refine ⟨⟨?_, .inr ⟨w.heap.size, cap, cs.toArray, rfl, hs.base, heap_alloc_new w _, hn, hm, by simpa using hc, by simpa using hx⟩⟩, ?_⟩
      · show xs.length = n * sz
        rw [← hx, List.length_take, hc]
        exact Nat.min_eq_left (Nat.mul_le_mul_right _ hn)
      · intro k hk
        simp [Row.v, Value.ownBlock] at hk
        subst hk
        cases hh : h w.heap.size with
        | none => rfl
        | some cs => exact absurd (hs.hlt hh) (Nat.lt_irrefl _)
    · exact h1.own r hr
  · refine List.pairwise_cons.2 ⟨?_, hs.apart⟩
    intro s hsm
    obtain ⟨q, hq, rfl⟩ := List.mem_map.1 hsm
    right
    intro e
    have := (hs.own q hq).1.lt w.heap.size (by rw [← e]; rfl)
    omega
/-- a slice that lies in the ghost heap: its cells, 'sz' to an element -/
def Sl (h : GHeap) (sz : Nat) (ad : Option Addr) (n cp : Nat) (xs : List Value) : Prop :=
  xs.length = n * sz ∧ n ≤ cp ∧ cp ≤ maxLen ∧ (ad = none → cp = 0) ∧ ∀ p, ad = some p → (n = 0 ∨ p.spot = none) ∧ ∀ j, j < n * sz → ∃ cs, h p.block = some cs ∧ cs[p.off + j]? = xs[j]?
theorem Sl.mono {h h' : GHeap} {sz : Nat} {ad : Option Addr} {n cp : Nat} {xs : List Value} (hl : GLe h h') (hS : Sl h sz ad n cp xs) : Sl h' sz ad n cp xs :=
  ⟨hS.1, hS.2.1, hS.2.2.1, hS.2.2.2.1, fun p hp => ⟨(hS.2.2.2.2 p hp).1, fun j hj => let ⟨cs, a, b⟩ := (hS.2.2.2.2 p hp).2 j hj; ⟨cs, hl _ _ a, b⟩⟩⟩
/-- a row becomes part of the ghost heap -/
theorem Sees.freeze {r : Row} (hs : Sees w0 h0 h (r :: O) w) : ∃ h', GLe h h' ∧ Sees w0 h0 h' O w ∧ Sl h' r.sz r.ad r.n r.cp r.xs := by
  obtain ⟨⟨hl, hr⟩, hnone⟩ := hs.own r List.mem_cons_self
  rcases hr with ⟨hv, h0'⟩ | ⟨b, cap, cur, hv, hb, hw, hn, hm, hc, hx⟩
  · simp only [Row.v, Value.slice.injEq] at hv
    refine ⟨h, GLe.refl _, hs.drop, hl, by omega, by rw [hv.2.2]; exact Nat.zero_le _, fun _ => hv.2.2, ?_⟩
    intro p hp; rw [hv.1] at hp; cases hp
  · simp only [Row.v, Value.slice.injEq, true_and] at hv
    obtain ⟨hv1, rfl⟩ := hv
    have hbn : h b = none := hnone b (by simp [Row.v, hv1, Value.ownBlock])
    have hg : GLe h (fun k => if k = b then some cur.toList else h k) := by
      intro k cs hk
      by_cases e : k = b
      · subst e; rw [hbn] at hk; cases hk
      · simp [e, hk]
    refine ⟨fun k => if k = b then some cur.toList else h k, hg, ⟨hs.below, ?_, hs.le.trans hg, ?_, ?_, hs.drop.apart⟩, hl, hn, hm, by rw [hv1]; simp, ?_⟩
    · intro k cs hk
      by_cases e : k = b
      · subst e; simp at hk; subst hk; exact ⟨_, _, by simpa using hw⟩
      · simp [e] at hk; exact hs.agree k cs hk
    · intro k hk
      have : k ≠ b := by omega
      simp [this, hs.old k hk]
    · intro s hsm
      obtain ⟨h1, h2⟩ := hs.own s (List.mem_cons_of_mem _ hsm)
      refine ⟨h1, fun k hk => ?_⟩
      have hne := (List.pairwise_cons.1 (by simpa using hs.apart : (r.v :: O.map Row.v).Pairwise Apart)).1 s.v (List.mem_map_of_mem hsm)
      have : k ≠ b := by
        rintro rfl
        rcases hne with e | e
        · simp [Row.v, hv1, Value.ownBlock] at e
        · rw [hk] at e; simp [Row.v, hv1, Value.ownBlock] at e
      simp [this, h2 k hk]
    · intro p hp
      rw [hv1] at hp
      cases hp
      refine ⟨.inr rfl, fun j hj => ⟨cur.toList, by simp, ?_⟩⟩
      rw [← hx, List.getElem?_take, if_pos hj]
      simp
/-- after a call -/
theorem Sees.call (hs : Sees w0 h0 h O w) (hc : Sees w h h' [] w') : Sees w0 h0 h' O w' := by
  have h1 := hs.keeps hc.below
  refine ⟨h1.below, hc.agree, hs.le.trans hc.le, fun b hb => (hc.old b (Nat.lt_of_lt_of_le hb hs.base)).trans (hs.old b hb), ?_, hs.apart⟩
  intro r hr
  obtain ⟨h2, h3⟩ := h1.own r hr
  refine ⟨h2, fun k hk => ?_⟩
  have := (hs.own r hr).1.lt k hk
  rw [hc.old k this.2]; exact h3 k hk
end

/-! ## Contracts -/
def Con (P : Program) (f : FuncId) (args : List Value) (w : World) (h : GHeap) (post : GHeap → Value → Prop) : Prop :=
  Agree h w → Calls P f args.toArray w fun e w' => ∃ v h', e = .returned v ∧ Sees w h h' [] w' ∧ post h' v

theorem Con.mono {P : Program} {f : FuncId} {args : List Value} {w : World} {h : GHeap} {post post' : GHeap → Value → Prop} (hc : Con P f args w h post) (hp : ∀ h' v, GLe h h' → post h' v → post' h' v) : Con P f args w h post' :=
  fun ha => (hc ha).mono fun _ _ ⟨v, h', he, hs, hq⟩ => ⟨v, h', he, hs, hp _ _ hs.le hq⟩

def argEnv : Nat → List Value → Env
  | _, [] => []
  | i, v :: r => (i, v) :: argEnv (i + 1) r
theorem get_argEnv : ∀ (vs : List Value) (i k : Nat) (v : Value), get (argEnv i vs) k = some v → i ≤ k ∧ vs[k - i]? = some v
  | [], _, _, _, h => by simp [argEnv, get] at h
  | u :: r, i, k, v, h => by
    rw [argEnv, get_cons] at h
    by_cases e : i = k
    · subst e; simp at h; subst h; simp
    · simp [e] at h
      have := get_argEnv r (i + 1) k v h
      refine ⟨by omega, ?_⟩
      have e2 : k - i = (k - (i + 1)) + 1 := by omega
      rw [e2]; simpa using this.2

/-- the results, as the function's end reads them -/
def Res (P : Program) (L : Env) (w : World) : List ResultVar → List Value → Prop
  | [], [] => True
  | .tmp t :: r, v :: vs => get L t = some v ∧ Res P L w r vs
  | .cell t ty :: r, v :: vs => (∃ a, get L t = some (.pointer (some a)) ∧ (loadVar ty a).run P w = .ok v w) ∧ Res P L w r vs
  | _, _ => False
def packv : List Value → Value
  | [v] => v
  | vs => .tuple vs.toArray
def retQ (P : Program) (rs : List ResultVar) (w0 : World) (h0 : GHeap) (post : GHeap → Value → Prop) : Post := fun e L w => match e with
  | .normal | .ret => ∃ vs h', Res P L w rs vs ∧ Sees w0 h0 h' [] w ∧ post h' (packv vs)
  | _ => False

theorem run_results {P : Program} {n : Nat} {L : Env} {a : Act} {w : World} (ha : Fits n L a) : ∀ (rs : List ResultVar) (vs : List Value), Res P L w rs vs →
    (rs.mapM (m := Sem) fun
      | .tmp t => pure (a.tmps.getD t undef)
      | .cell x t => do loadVar t (← asAddr (a.tmps.getD x undef))).run P w = .ok vs w
  | [], [], _ => by simp
  | [], _ :: _, h => by simp [Res] at h
  | .tmp t :: r, [], h => by simp [Res] at h
  | .cell t ty :: r, [], h => by simp [Res] at h
  | .tmp t :: r, v :: vs, h => by
    have e : a.tmps.getD t undef = v := ha.eval (x := .tmp t) h.1
    have ih := run_results ha r vs h.2
    rw [List.mapM_cons, Sem.run_bind]
    simp only [Sem.run_pure, Result.andThen_ok, e]
    rw [Sem.run_bind, ih]; rfl
  | .cell t ty :: r, v :: vs, h => by
    obtain ⟨⟨ad, h1, h2⟩, h3⟩ := h
    have e : a.tmps.getD t undef = .pointer (some ad) := ha.eval (x := .tmp t) h1
    have ih := run_results ha r vs h3
    have e2 : asAddr (a.tmps.getD t undef) = pure ad := by rw [e]; rfl
    rw [List.mapM_cons, Sem.run_bind]
    simp only [e2, pure_bind, h2, Result.andThen_ok]
    rw [Sem.run_bind, ih]; rfl

theorem Con.of_body {P : Program} {f : FuncId} {fn : Func} {c : Code} {n : Nat} {rs : List ResultVar} {vs : List Value} {w : World} {h : GHeap} {post : GHeap → Value → Prop}
    (hf : P.funcs[f]? = some fn) (hb : fn.body = some c) (hn : fn.ntmps = n) (hr : fn.results.toList = rs) (hl : Nat.ble vs.length n = true)
    (K : Sees w h h [] w → CW P n (retQ P rs w h post) c (argEnv 0 vs) w) : Con P f vs w h post := by
  intro hag
  refine calls_of_wp hf hb ?_
  have hl' : vs.length ≤ n := Nat.le_of_ble_eq_true hl
  have hfit : Fits n (argEnv 0 vs) { tmps := vs.toArray ++ Array.replicate (fn.ntmps - vs.toArray.size) undef, defers := [] } := by
    refine ⟨by simp [hn]; omega, rfl, ?_⟩
    intro k v hk
    have := (get_argEnv vs 0 k v hk).2
    simp at this
    have hlt : k < vs.length := (List.getElem?_eq_some_iff.1 this).1
    simp [Array.getElem?_append, hlt]
    exact (List.getElem?_eq_some_iff.1 this).2
  refine Code.wp_mono ?_ (K (Sees.start hag) _ hfit)
  rintro e a w' ⟨L, hL, q⟩
  have key : (∃ vs h', Res P L w' rs vs ∧ Sees w h h' [] w' ∧ post h' (packv vs)) → a.defers = [] ∧ ∃ v, (results fn a.tmps).run P w' = .ok v w' ∧ ∃ v' h', Ending.returned v = .returned v' ∧ Sees w h h' [] w' ∧ post h' v' := by
    rintro ⟨us, h', h1, h2, h3⟩
    refine ⟨hL.defers, packv us, ?_, _, h', rfl, h2, h3⟩
    have hrun := run_results hL rs us h1
    unfold results
    rw [← hr] at hrun
    rw [Sem.run_bind, Array.mapM_eq_mapM_toList, Sem.run_map]
    erw [hrun]
    simp only [Result.andThen_ok, Sem.run_pure]
    congr 1
    cases us with
    | nil => rfl
    | cons x r => cases r <;> rfl
  cases e with
  | normal => exact key q
  | ret => exact key q
  | _ => exact q.elim
end Go.Proofs.Ytdpkioffihebnaa
