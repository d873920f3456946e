/-
  Own texts of the claim, merged: LibA, LibB, LibC, LibD, LibE, LibF, LibG, LibH, LibI, LibM, PlainF, LibN, LibO, LibV, LibP, PlainG, Tab, Fg, Fh, Fi, LibQ, Fj, Fk, Fl, PlainH, Fm, Fn, Fo, Fp. Lemmas of the proof; no statement is proved here.
-/
import Derived.WalkKit
import Derived.Laws.AppendOwn
import Derived.Laws.OwnMore
import Derived.Laws.CopyOwn
import Derived.IntWalk
import Derived.Deep.Quiet
import Derived.StillTail
import Derived.KernelRfl
import Derived.OrdersHeld
import GoSem.Core.Float
import Derived.Test.YtmojpbfkpggjhaaGreatChecked
/-
  A small program logic over the kit's weakest preconditions: environments of slots, a ghost heap of blocks that stay, and rows of the call's own. No statement is proved here.
-/
namespace Go.Proofs.YtmojpbfkpggjhaaGreat
open Go Go.RowKit
set_option linter.unusedVariables false
set_option linter.unusedSimpArgs false

/-! ## Environments -/
abbrev Env := List (Nat × Value)
def get : Env → Nat → Option Value
  | [], _ => none
  | (j, v) :: r, k => match Nat.beq j k with
    | true => some v
    | false => get r k
def updo (d : Option Tmp) (v : Value) (L : Env) : Env := match d with
  | some d => (d, v) :: L
  | none => L
def dstOk (n : Nat) (d : Option Tmp) : Bool := match d with
  | some d => Nat.blt d n
  | none => true
def opv (L : Env) : Operand → Option Value
  | .tmp t => get L t
  | .const v => some v
  | .global g => some (.pointer (some ⟨g, 0, none⟩))
  | .func f => some (.func (.func f) #[] #[])
def opvs (L : Env) : List Operand → Option (List Value)
  | [] => some []
  | x :: r => match opv L x, opvs L r with
    | some v, some vs => some (v :: vs)
    | _, _ => none

structure Fits (n : Nat) (L : Env) (a : Act) : Prop where
  size : a.tmps.size = n
  defers : a.defers = []
  get : ∀ k v, get L k = some v → a.tmps[k]? = some v

theorem get_cons (j : Nat) (v : Value) (L : Env) (k : Nat) : get ((j, v) :: L) k = if j = k then some v else get L k := by
  show (match Nat.beq j k with | true => some v | false => get L k) = _
  by_cases h : j = k
  · subst h; simp
  · have : Nat.beq j k = false := by
      cases hb : Nat.beq j k
      · rfl
      · exact absurd (Nat.eq_of_beq_eq_true hb) h
    simp [this, h]

theorem Fits.eval {n : Nat} {L : Env} {a : Act} (h : Fits n L a) {x : Operand} {v : Value} (hx : opv L x = some v) : a.eval x = v := by
  cases x with
  | tmp t =>
    have := h.get t v hx
    show a.tmps.getD t undef = v
    rw [Array.getD_eq_getD_getElem?, this]; rfl
  | const c => exact Option.some.inj hx
  | global g => exact Option.some.inj hx
  | func f => exact Option.some.inj hx

theorem Fits.evals {n : Nat} {L : Env} {a : Act} (h : Fits n L a) : ∀ {xs : List Operand} {vs : List Value}, opvs L xs = some vs → xs.map a.eval = vs
  | [], vs, hx => by simp [opvs] at hx; subst hx; rfl
  | x :: r, vs, hx => by
    simp only [opvs] at hx
    cases h1 : opv L x with
    | none => simp [h1] at hx
    | some v => cases h2 : opvs L r with
      | none => simp [h1, h2] at hx
      | some ws =>
        simp [h1, h2] at hx; subst hx
        simp [h.eval h1, h.evals h2]

theorem Fits.put {n : Nat} {L : Env} {a : Act} (h : Fits n L a) {d : Option Tmp} (v : Value) (hd : dstOk n d = true) : Fits n (updo d v L) (a.put d v) := by
  cases d with
  | none => exact h
  | some d =>
    have hlt : d < n := by
      have : Nat.blt d n = true := hd
      exact Nat.le_of_ble_eq_true this
    refine ⟨by simp [Act.put, h.size], h.defers, ?_⟩
    intro k u hk
    simp only [updo, get_cons] at hk
    simp only [Act.put, Array.getElem?_setIfInBounds]
    by_cases e : d = k
    · subst e
      simp at hk
      simp [h.size, hlt, hk]
    · simp [e] at hk
      simp [e, h.get k u hk]

/-- What one environment says, another one says too. -/
def Has (L : Env) : Env → Prop
  | [] => True
  | (k, v) :: r => get L k = some v ∧ Has L r

theorem Has.get {L : Env} : ∀ {M : Env}, Has L M → ∀ k v, get M k = some v → get L k = some v
  | [], _, _, _, h => by simp [Proofs.YtmojpbfkpggjhaaGreat.get] at h
  | (j, u) :: r, hh, k, v, h => by
    rw [get_cons] at h
    by_cases e : j = k
    · subst e; simp at h; subst h; exact hh.1
    · simp [e] at h; exact Has.get hh.2 k v h

theorem Fits.has {n : Nat} {L M : Env} {a : Act} (h : Fits n L a) (hm : Has L M) : Fits n M a :=
  ⟨h.size, h.defers, fun k v hk => h.get k v (hm.get k v hk)⟩

/-! ## Code -/
abbrev Post := Exit → Env → World → Prop
def QL (n : Nat) (Q : Post) : Exit → Act → World → Prop := fun e a w => ∃ L, Fits n L a ∧ Q e L w
def RW (P : Program) (n : Nat) (ops : List Oper) (Q : Post) (L : Env) (w : World) (rest : List Oper) : Prop :=
  ∀ a, Fits n L a → wpList P ops.toArray (QL n Q) rest a w
def CW (P : Program) (n : Nat) (Q : Post) (c : Code) (L : Env) (w : World) : Prop :=
  ∀ a, Fits n L a → c.wp P (QL n Q) a w

section
variable {P : Program} {n : Nat} {Q : Post} {L : Env} {w : World}

theorem CW.has {c : Code} {M : Env} (hm : Has L M) (h : CW P n Q c M w) : CW P n Q c L w := fun a ha => h a (ha.has hm)

theorem CW.mono {c : Code} {Q' : Post} (h : CW P n Q c L w) (hq : ∀ e L w, Q e L w → Q' e L w) : CW P n Q' c L w :=
  fun a ha => Code.wp_mono (fun _ _ _ ⟨M, hM, q⟩ => ⟨M, hM, hq _ _ _ q⟩) (h a ha)

def thenQ (P : Program) (n : Nat) (y : Code) (Q : Post) : Post := fun e L w => match e with
  | .normal => CW P n Q y L w
  | e => Q e L w

theorem CW.seq {x y : Code} (h : CW P n (thenQ P n y Q) x L w) : CW P n Q (.seq x y) L w := by
  intro a ha
  refine wp_seq (Code.wp_mono ?_ (h a ha))
  rintro e a' w' ⟨M, hM, q⟩
  cases e with
  | normal => exact q a' hM
  | _ => exact ⟨M, hM, q⟩

theorem CW.skip (h : Q .normal L w) : CW P n Q .skip L w := fun _ ha => wp_skip ⟨L, ha, h⟩
theorem CW.ret (h : Q .ret L w) : CW P n Q .ret L w := fun _ ha => wp_ret ⟨L, ha, h⟩
theorem CW.exit {id : Nat} (h : Q (.exit id) L w) : CW P n Q (.exit id) L w := fun _ ha => wp_exit ⟨L, ha, h⟩
theorem CW.cond {c : Operand} {x y : Code} {b : Bool} (hc : opv L c = some (.bool b)) (ht : b = true → CW P n Q x L w) (hf : b = false → CW P n Q y L w) : CW P n Q (.cond c x y) L w :=
  fun a ha => wp_cond_split (ha.eval hc) (fun h => ht h a ha) (fun h => hf h a ha)
theorem CW.condT {c : Operand} {x y : Code} (hc : opv L c = some (.bool true)) (ht : CW P n Q x L w) : CW P n Q (.cond c x y) L w :=
  fun a ha => wp_cond_true (ha.eval hc) (ht a ha)
theorem CW.condF {c : Operand} {x y : Code} (hc : opv L c = some (.bool false)) (hf : CW P n Q y L w) : CW P n Q (.cond c x y) L w :=
  fun a ha => wp_cond_false (ha.eval hc) (hf a ha)

def blockQ (id : Nat) (Q : Post) : Post := fun e L w => match e with
  | .exit id' => match Nat.beq id' id with
    | true => Q .normal L w
    | false => Q (.exit id') L w
  | e => Q e L w

theorem CW.block {id : Nat} {c : Code} (h : CW P n (blockQ id Q) c L w) : CW P n Q (.block id c) L w := by
  intro a ha
  refine wp_block (Code.wp_mono ?_ (h a ha))
  rintro e a' w' ⟨M, hM, q⟩
  cases e with
  | exit id' =>
    simp only [blockQ] at q
    simp only [Exit.inBlock]
    cases hb : Nat.beq id' id with
    | true => rw [hb] at q; rw [if_pos (Nat.eq_of_beq_eq_true hb)]; exact ⟨M, hM, q⟩
    | false =>
      rw [hb] at q
      rw [if_neg (fun e => by subst e; simp at hb)]
      exact ⟨M, hM, q⟩
  | _ => exact ⟨M, hM, q⟩

/-- The loop: a ghost state 's', what the slots hold of it, what holds of it and of the world, and a measure. -/
def loopQ {σ : Type} (E : σ → Env) (S : σ → World → Prop) (μ : σ → Nat) (s : σ) (Q : Post) : Post := fun e L w => match e with
  | .normal => ∃ s', Has L (E s') ∧ S s' w ∧ μ s' < μ s
  | e => Q e L w

theorem CW.loop {σ : Type} {c : Code} (E : σ → Env) (S : σ → World → Prop) (μ : σ → Nat) (s0 : σ) (hE : Has L (E s0)) (hS : S s0 w)
    (round : ∀ s w, S s w → CW P n (loopQ E S μ s Q) c (E s) w) : CW P n Q (.loop c) L w := by
  intro a ha b k cs
  have key : ∀ m s a w, μ s = m → Fits n (E s) a → S s w →
      ∃ e a' w', QL n Q e a' w' ∧ Arrives P (lone (b.at a (.code c :: .inLoop c :: k)) cs w) b k cs e a' w' := by
    intro m
    induction m using Nat.strongRecOn with
    | _ m ih =>
      intro s a w hm hf hs
      obtain ⟨e, a₁, w₁, ⟨M, hM, q⟩, harr⟩ := round s w hs a hf b (.inLoop c :: k) cs
      cases e with
      | normal =>
        obtain ⟨s', hE', hS', hlt⟩ := q
        obtain ⟨e₂, a₂, w₂, hq₂, harr₂⟩ := ih (μ s') (hm ▸ hlt) s' a₁ w₁ rfl (hM.has hE') hS'
        exact ⟨e₂, a₂, w₂, hq₂, .of_steps (Steps.trans harr (.one step_inLoop)) harr₂⟩
      | exit id => exact ⟨_, a₁, w₁, ⟨M, hM, q⟩, .pass (x := .inLoop c) rfl (fun _ _ => .inl (by simp)) harr⟩
      | goto l => exact ⟨_, a₁, w₁, ⟨M, hM, q⟩, .pass (x := .inLoop c) rfl (fun _ _ => .inl (by simp)) harr⟩
      | ret => exact ⟨_, a₁, w₁, ⟨M, hM, q⟩, .pass (x := .inLoop c) rfl (fun _ _ => .inl (by simp)) harr⟩
      | panic ch => exact ⟨_, a₁, w₁, ⟨M, hM, q⟩, .pass (x := .inLoop c) rfl (fun _ _ => .inl (by simp)) harr⟩
      | outgrown => exact ⟨_, a₁, w₁, ⟨M, hM, q⟩, .pass (x := .inLoop c) rfl (fun _ _ => .inl (by simp)) harr⟩
  obtain ⟨e, a', w', hq, harr⟩ := key _ s0 a w rfl (ha.has hE) hS
  exact ⟨e, a', w', hq, .of_steps (.one step_loop) harr⟩

/-- Ways that meet again: what holds there, whatever the way. -/
def joinQ {σ : Type} (E : σ → Env) (S : σ → World → Prop) (Q : Post) : Post := fun e L w => match e with
  | .normal => ∃ s, Has L (E s) ∧ S s w
  | e => Q e L w
/-! ## Regions -/
theorem CW.region {id : Nat} {l : List Oper} (h : RW P n l Q L w l) : CW P n Q (.region id l.toArray false) L w := fun a ha => wp_region_lit (h a ha)
variable {ops rest : List Oper}
theorem RW.nil (h : Q .normal L w) : RW P n ops Q L w [] := fun _ ha => wpList_nil ⟨L, ha, h⟩

def gdst : List Oper → Nat → Option Tmp
  | [], _ => none
  | o :: _, 0 => o.dst
  | _ :: r, k + 1 => gdst r k
theorem gdst_eq : ∀ (l : List Oper) (j : Nat), (l.toArray[j]?).bind (·.dst) = gdst l j
  | [], j => by simp [gdst]
  | o :: r, 0 => by simp [gdst]
  | o :: r, k + 1 => by simpa [gdst] using gdst_eq r k

theorem yielded_of {a : Act} (ha : Fits n L a) {j : Nat} {t : Tmp} {b : Bool} (hj : gdst ops j = some t) (ht : get L t = some (.bool b)) : yielded ops.toArray a.tmps j = some b := by
  unfold yielded
  rw [gdst_eq, hj]
  simp [ha.get t _ ht]
theorem yielded_undef {a : Act} (ha : Fits n L a) {j : Nat} {t : Tmp} (hj : gdst ops j = some t) (ht : get L t = some undef) : yielded ops.toArray a.tmps j = none := by
  unfold yielded
  rw [gdst_eq, hj]
  simp [ha.get t _ ht, undef]

theorem RW.guardYes {d : Option Tmp} {op : Op} {ty : TypeId} {pos : String} {aft : Array Edge} {j : Nat} {want : Bool} {t : Tmp} (hj : gdst ops j = some t) (ht : get L t = some (.bool want))
    (h : RW P n ops Q L w (⟨d, op, ty, pos, aft, none⟩ :: rest)) : RW P n ops Q L w (⟨d, op, ty, pos, aft, some (j, want)⟩ :: rest) := by
  intro a ha
  have h' := h a ha
  unfold wpList at h' ⊢
  rw [if_pos (by simp [Region.wanted])] at h'
  rw [if_pos (by simp [Region.wanted, yielded_of ha hj ht])]
  exact h'
theorem RW.guardNo {d : Option Tmp} {op : Op} {ty : TypeId} {pos : String} {aft : Array Edge} {j : Nat} {want b : Bool} {t : Tmp} (hj : gdst ops j = some t) (ht : get L t = some (.bool b)) (hb : (b == want) = false)
    (hd : dstOk n d = true) (h : RW P n ops Q (updo d undef L) w rest) : RW P n ops Q L w (⟨d, op, ty, pos, aft, some (j, want)⟩ :: rest) := by
  intro a ha
  unfold wpList
  rw [if_neg (by simp [Region.wanted, yielded_of ha hj ht]; simpa using hb)]
  exact h _ (ha.put undef hd)
theorem RW.guardUndef {d : Option Tmp} {op : Op} {ty : TypeId} {pos : String} {aft : Array Edge} {j : Nat} {want : Bool} {t : Tmp} (hj : gdst ops j = some t) (ht : get L t = some undef)
    (hd : dstOk n d = true) (h : RW P n ops Q (updo d undef L) w rest) : RW P n ops Q L w (⟨d, op, ty, pos, aft, some (j, want)⟩ :: rest) := by
  intro a ha
  unfold wpList
  rw [if_neg (by simp [Region.wanted, yielded_undef ha hj ht])]
  exact h _ (ha.put undef hd)

/-- A bool in a slot, by cases. -/
theorem RW.split {t : Tmp} {b : Bool} (ht : get L t = some (.bool b)) (h1 : b = true → RW P n ops Q ((t, .bool true) :: L) w rest) (h2 : b = false → RW P n ops Q ((t, .bool false) :: L) w rest) : RW P n ops Q L w rest := by
  intro a ha
  cases b with
  | true => exact h1 rfl a ⟨ha.size, ha.defers, fun k v hk => by
      rw [get_cons] at hk
      by_cases e : t = k
      · subst e; simp at hk; subst hk; exact ha.get _ _ ht
      · simp [e] at hk; exact ha.get _ _ hk⟩
  | false => exact h2 rfl a ⟨ha.size, ha.defers, fun k v hk => by
      rw [get_cons] at hk
      by_cases e : t = k
      · subst e; simp at hk; subst hk; exact ha.get _ _ ht
      · simp [e] at hk; exact ha.get _ _ hk⟩
theorem RW.has {M : Env} (hm : Has L M) (h : RW P n ops Q M w rest) : RW P n ops Q L w rest := fun a ha => h a (ha.has hm)

/-- What an operation comes to, in this environment and this world. -/
def Yields (P : Program) (n : Nat) (L : Env) (w : World) (op : Op) (ty : TypeId) (v : Value) : Prop :=
  ∀ a, Fits n L a → ∀ d pos aft g, (execOp a.eval ⟨d, op, ty, pos, aft, g⟩).run P w = .ok (.value v) w

theorem RW.step {d : Option Tmp} {op : Op} {ty : TypeId} {pos : String} {aft : Array Edge} {v : Value} {w' : World}
    (hy : ∀ a, Fits n L a → (execOp a.eval ⟨d, op, ty, pos, aft, none⟩).run P w = .ok (.value v) w') (hd : dstOk n d = true)
    (h : RW P n ops Q (updo d v L) w' rest) : RW P n ops Q L w (⟨d, op, ty, pos, aft, none⟩ :: rest) := by
  intro a ha
  unfold wpList
  rw [if_pos (by simp [Region.wanted])]
  refine .inl ?_
  unfold Oper.wp
  rw [hy a ha]
  exact h _ (ha.put v hd)
theorem RW.stepSkip {d : Option Tmp} {op : Op} {ty : TypeId} {pos : String} {aft : Array Edge} {w' : World}
    (hy : ∀ a, Fits n L a → (execOp a.eval ⟨d, op, ty, pos, aft, none⟩).run P w = .ok .skip w') (hd : dstOk n d = true)
    (h : RW P n ops Q (updo d undef L) w' rest) : RW P n ops Q L w (⟨d, op, ty, pos, aft, none⟩ :: rest) := by
  intro a ha
  unfold wpList
  rw [if_pos (by simp [Region.wanted])]
  refine .inl ?_
  unfold Oper.wp
  rw [hy a ha]
  exact h _ (ha.put undef hd)
theorem RW.val {d : Option Tmp} {op : Op} {ty : TypeId} {pos : String} {aft : Array Edge} {v : Value}
    (hy : Yields P n L w op ty v) (hd : dstOk n d = true)
    (h : RW P n ops Q (updo d v L) w rest) : RW P n ops Q L w (⟨d, op, ty, pos, aft, none⟩ :: rest) :=
  RW.step (fun a ha => hy a ha _ _ _ _) hd h
end
end Go.Proofs.YtmojpbfkpggjhaaGreat

/-
  The program logic, second part: types by a table, the ghost heap, rows of the call's own, contracts. No statement is proved here.
-/
namespace Go.Proofs.YtmojpbfkpggjhaaGreat
open Go Go.RowKit
set_option linter.unusedVariables false
set_option linter.unusedSimpArgs false

/-! ## Types -/
inductive Ty where
  | bool | int (k : IntKind) | float | string
  | slice (e : Nat) | pointer (e : Nat) | array (n e : Nat) | struct (fs : List (Nat × Nat)) | other
def Ty.agg : Ty → Bool
  | .array _ _ | .struct _ => true
  | _ => false
def Ty.is (P : Program) (t : Nat) : Ty → Prop
  | .bool => P.underlying t = some .bool
  | .int k => P.underlying t = some (.int k)
  | .float => P.underlying t = some (.float .f64)
  | .string => P.underlying t = some .string
  | .slice e => P.underlying t = some (.slice e)
  | .pointer e => P.underlying t = some (.pointer e)
  | .array n e => P.underlying t = some (.array n e)
  | .struct fs => ∃ a, P.underlying t = some (.struct a) ∧ a.toList.map (fun f => (f.type, f.offset)) = fs
  | .other => ∃ d, P.underlying t = some d ∧ (match d with | .struct _ | .array _ _ => true | _ => false) = false
/-- size in cells, bytes, the zero value -/
structure Inf where
  size : Nat
  bytes : Nat
  zero : Value
def Inf.is (P : Program) (t : Nat) (i : Inf) : Prop := ∃ x, P.info? t = some x ∧ x.size = i.size ∧ x.bytes = i.bytes ∧ x.zero = some i.zero
def look {α : Type} : List (Nat × α) → Nat → Option α
  | [], _ => none
  | (j, v) :: r, k => match Nat.beq j k with
    | true => some v
    | false => look r k
theorem look_mem {α : Type} : ∀ (l : List (Nat × α)) (k : Nat) (v : α), look l k = some v → (k, v) ∈ l
  | [], _, _, h => by simp [look] at h
  | (j, u) :: r, k, v, h => by
    simp only [look] at h
    cases hb : Nat.beq j k with
    | true => rw [hb] at h; have := Nat.eq_of_beq_eq_true hb; simp at h; subst h; subst this; exact List.mem_cons_self
    | false => rw [hb] at h; exact List.mem_cons_of_mem _ (look_mem r k v h)
def Callable (P : Program) (f : Nat) : Prop := ∃ fn, P.funcs[f]? = some fn ∧ (fn.name == "runtime.NumGoroutine") = false ∧ fn.body.isNone = false
def chkFn (P : Program) (f : Nat) : Bool := match P.funcs[f]? with
  | some fn => !(fn.name == "runtime.NumGoroutine") && !fn.body.isNone
  | none => false
theorem Callable.of_chk {P : Program} {f : Nat} (h : chkFn P f = true) : Callable P f := by
  unfold chkFn at h
  split at h
  · rename_i fn hf
    simp only [Bool.and_eq_true, Bool.not_eq_true'] at h
    exact ⟨fn, hf, h.1, h.2⟩
  · cases h
def memb : List Nat → Nat → Bool
  | [], _ => false
  | k :: r, f => match Nat.beq k f with
    | true => true
    | false => memb r f
def inRange (lo hi : Nat) (ex : List Nat) (f : Nat) : Bool := match Nat.ble lo f with
  | true => match Nat.blt f hi with
    | true => match memb ex f with
      | true => false
      | false => true
    | false => false
  | false => false
theorem call_of_all {P : Program} {lo hi : Nat} {ex : List Nat} (h : (List.range hi).all (fun f => Nat.blt f lo || memb ex f || chkFn P f) = true) (f : Nat) (hf : inRange lo hi ex f = true) : Callable P f := by
  unfold inRange at hf
  cases hb : Nat.ble lo f with
  | false => rw [hb] at hf; cases hf
  | true =>
    rw [hb] at hf
    cases hb2 : Nat.blt f hi with
    | false => rw [hb2] at hf; cases hf
    | true =>
      rw [hb2] at hf
      cases hb3 : memb ex f with
      | true => rw [hb3] at hf; cases hf
      | false =>
        have h1 : f < hi := Nat.le_of_ble_eq_true hb2
        have h2 : lo ≤ f := Nat.le_of_ble_eq_true hb
        have := List.all_eq_true.1 h f (List.mem_range.2 h1)
        simp only [Bool.or_eq_true, hb3, Bool.false_eq_true, or_false] at this
        rcases this with h3 | h3
        · have : f < lo := Nat.le_of_ble_eq_true h3
          omega
        · exact Callable.of_chk h3
/-- What a program's tables say, as functions that reduce. -/
structure Tab (P : Program) where
  ty : Nat → Option Ty
  inf : Nat → Option Inf
  ty_ok : ∀ t d, ty t = some d → d.is P t
  inf_ok : ∀ t i, inf t = some i → i.is P t
  call : Nat → Bool
  call_ok : ∀ f, call f = true → Callable P f
  mixed : P.follows .mixedOrders = true

section
variable {P : Program} (T : Tab P) {w : World}
theorem Tab.isAgg {t : Nat} {d : Ty} (h : T.ty t = some d) : (isAgg t).run P w = .ok d.agg w := by
  have := T.ty_ok t d h
  unfold Go.isAgg
  cases d with
  | struct fs => obtain ⟨a, h1, _⟩ := this; simp [run_underlying h1, Ty.agg]
  | other => obtain ⟨d, h1, h2⟩ := this; rw [Sem.run_bind, run_underlying h1]; cases d <;> simp_all [Ty.agg]
  | _ => simp [Ty.is] at this; simp [run_underlying this, Ty.agg]
theorem Tab.sizeOf {t : Nat} {i : Inf} (h : T.inf t = some i) : (sizeOf t).run P w = .ok i.size w := by
  obtain ⟨x, h1, h2, h3, h4⟩ := T.inf_ok t i h
  simp [Go.sizeOf, typeInfo, h1, h2]
theorem Tab.zeroValue {t : Nat} {i : Inf} (h : T.inf t = some i) : (zeroValue t).run P w = .ok i.zero w := by
  obtain ⟨x, h1, h2, h3, h4⟩ := T.inf_ok t i h
  simp [Go.zeroValue, typeInfo, h1, h4]
end

/-! ## The ghost heap -/
abbrev GHeap := Nat → Option (List Value)
def Agree (h : GHeap) (w : World) : Prop := ∀ b cs, h b = some cs → ∃ e fr, w.heap[b]? = some (.cells cs.toArray e fr)
def GLe (h h' : GHeap) : Prop := ∀ b cs, h b = some cs → h' b = some cs
theorem GLe.refl (h : GHeap) : GLe h h := fun _ _ e => e
theorem GLe.trans {a b c : GHeap} (h : GLe a b) (k : GLe b c) : GLe a c := fun x cs e => k x cs (h x cs e)
theorem Agree.cell {h : GHeap} {w : World} (ha : Agree h w) {b o : Nat} {cs : List Value} {v : Value} (hb : h b = some cs) (hv : cs[o]? = some v) : w.cell? ⟨b, o, none⟩ = some v := by
  obtain ⟨e, fr, hw⟩ := ha b cs hb
  rw [cell_of_row w b o _ e fr hw]
  simpa using hv
def ghost (w : World) : GHeap := fun b => match w.heap[b]? with
  | some (.cells c _ _) => some c.toList
  | _ => none
theorem ghost_agree (w : World) : Agree (ghost w) w := by
  intro b cs h
  unfold ghost at h
  split at h
  · rename_i c e fr hw; simp at h; subst h; exact ⟨e, fr, by simpa using hw⟩
  · simp at h

/-! ## Rows of the call's own -/
structure Row where
  ad : Option Addr
  n : Nat
  cp : Nat
  e : TypeId
  sz : Nat
  xs : List Value
def Row.v (r : Row) : Value := .slice r.ad r.n r.cp
def Row.ok (r : Row) (base : Nat) (w : World) : Prop := w.ownsRow base r.e r.sz r.v r.n r.xs
def Apart (x y : Value) : Prop := x.ownBlock = none ∨ x.ownBlock ≠ y.ownBlock
theorem Apart.symm {x y : Value} (h : Apart x y) : Apart y x := by
  rcases h with a | a
  · by_cases e : y.ownBlock = none
    · exact .inl e
    · right; rw [a]; exact e
  · right; exact fun e => a e.symm

structure Sees (w0 : World) (h0 h : GHeap) (O : List Row) (w : World) : Prop where
  below : Below w0.heap.size w0 w
  agree : Agree h w
  le : GLe h0 h
  old : ∀ b, b < w0.heap.size → h b = h0 b
  own : ∀ r ∈ O, r.ok w0.heap.size w ∧ ∀ k, r.v.ownBlock = some k → h k = none
  apart : (O.map Row.v).Pairwise Apart

section
variable {w0 w w' : World} {h0 h h' : GHeap} {O : List Row}
theorem Sees.start (ha : Agree h w) : Sees w h h [] w := ⟨Below.refl _ _, ha, GLe.refl _, fun _ _ => rfl, by simp, .nil⟩
theorem Sees.hlt (hs : Sees w0 h0 h O w) {b : Nat} {cs : List Value} (hb : h b = some cs) : b < w.heap.size := by
  obtain ⟨e, fr, hw⟩ := hs.agree b cs hb
  exact (Array.getElem?_eq_some_iff.1 hw).1
theorem Sees.base (hs : Sees w0 h0 h O w) : w0.heap.size ≤ w.heap.size := hs.below.size
theorem Sees.cell (hs : Sees w0 h0 h O w) {b o : Nat} {cs : List Value} {v : Value} (hb : h b = some cs) (hv : cs[o]? = some v) : w.cell? ⟨b, o, none⟩ = some v := hs.agree.cell hb hv
/-- the world moves on, and what it had stays -/
theorem Sees.keeps (hs : Sees w0 h0 h O w) (hw : Below w.heap.size w w') : Sees w0 h0 h O w' := by
  refine ⟨hs.below.trans (hw.mono hs.base), ?_, hs.le, hs.old, ?_, hs.apart⟩
  · intro b cs hb
    obtain ⟨e, fr, he⟩ := hs.agree b cs hb
    exact ⟨e, fr, by rw [hw.block b (hs.hlt hb)]; exact he⟩
  · intro r hr
    obtain ⟨h1, h2⟩ := hs.own r hr
    refine ⟨?_, h2⟩
    refine h1.kept (row := none) ⟨hw.os, hw.tape, hw.output, hw.size, fun k hk _ => hw.block k hk⟩ ?_
    cases r.v.ownBlock <;> simp
theorem Sees.drew (hs : Sees w0 h0 h O w) : Sees w0 h0 h O { w with drawn := w.drawn + 1 } := hs.keeps (Below.refl _ _).drew
theorem Sees.drop {r : Row} (hs : Sees w0 h0 h (r :: O) w) : Sees w0 h0 h O w :=
  ⟨hs.below, hs.agree, hs.le, hs.old, fun x hx => hs.own x (List.mem_cons_of_mem _ hx), (List.pairwise_cons.1 (by simpa using hs.apart)).2⟩
theorem Sees.dropAll (hs : Sees w0 h0 h O w) : Sees w0 h0 h [] w := ⟨hs.below, hs.agree, hs.le, hs.old, by simp, .nil⟩
theorem Sees.sub {O' : List Row} (hs : Sees w0 h0 h O w) (hsub : List.Sublist O' O) : Sees w0 h0 h O' w :=
  ⟨hs.below, hs.agree, hs.le, hs.old, fun x hx => hs.own x (hsub.subset hx), hs.apart.sublist (hsub.map _)⟩
theorem Sees.cast {O' : List Row} (hs : Sees w0 h0 h O w) (e : O = O') : Sees w0 h0 h O' w := e ▸ hs
theorem Sees.swap {r s : Row} (hs : Sees w0 h0 h (r :: s :: O) w) : Sees w0 h0 h (s :: r :: O) w := by
  refine ⟨hs.below, hs.agree, hs.le, hs.old, fun x hx => hs.own x (by simp at hx ⊢; rcases hx with h | h | h <;> simp [h]), ?_⟩
  have := hs.apart
  simp only [List.map_cons, List.pairwise_cons, List.mem_cons, forall_eq_or_imp] at this ⊢
  obtain ⟨⟨a, b⟩, c, d⟩ := this
  exact ⟨⟨a.symm, c⟩, b, d⟩
/-- a row of no block -/
theorem Sees.nilRow (hs : Sees w0 h0 h O w) (e : TypeId) (sz : Nat) : Sees w0 h0 h (⟨none, 0, 0, e, sz, []⟩ :: O) w := by
  refine ⟨hs.below, hs.agree, hs.le, hs.old, ?_, ?_⟩
  · intro r hr
    rcases List.mem_cons.1 hr with rfl | hr
    · exact ⟨World.ownsRow_nil w _ e sz, fun k hk => by simp [Row.v, Value.ownBlock] at hk⟩
    · exact hs.own r hr
  · exact List.pairwise_cons.2 ⟨fun s _ => .inl rfl, hs.apart⟩
/-- a row that was made by a new block -/
theorem Sees.alloc (hs : Sees w0 h0 h O w) {cs : List Value} {e : TypeId} {sz n cap : Nat} {xs : List Value} (hn : n ≤ cap) (hm : cap ≤ maxLen) (hc : cs.length = cap * sz) (hx : cs.take (n * sz) = xs) :
    Sees w0 h0 h (⟨some ⟨w.heap.size, 0, none⟩, n, cap, e, sz, xs⟩ :: O) (w.alloc (.cells cs.toArray e)) := by
  have hb : Below w.heap.size w (w.alloc (.cells cs.toArray e)) := (Below.refl _ _).alloc (Nat.le_refl _) _
  have h1 := hs.keeps hb
  refine ⟨h1.below, h1.agree, h1.le, h1.old, ?_, ?_⟩
  · intro r hr
    rcases List.mem_cons.1 hr with rfl | hr
    · refine ⟨⟨?_, .inr ⟨w.heap.size, cap, cs.toArray, rfl, hs.base, heap_alloc_new w _, hn, hm, by simpa using hc, by simpa using hx⟩⟩, ?_⟩
      · show xs.length = n * sz
        rw [← hx, List.length_take, hc]
        exact Nat.min_eq_left (Nat.mul_le_mul_right _ hn)
      · intro k hk
        simp [Row.v, Value.ownBlock] at hk
        subst hk
        cases hh : h w.heap.size with
        | none => rfl
        | some cs => exact absurd (hs.hlt hh) (Nat.lt_irrefl _)
    · exact h1.own r hr
  · refine List.pairwise_cons.2 ⟨?_, hs.apart⟩
    intro s hsm
    obtain ⟨q, hq, rfl⟩ := List.mem_map.1 hsm
    right
    intro e
    have := (hs.own q hq).1.lt w.heap.size (by rw [← e]; rfl)
    omega
/-- a slice that lies in the ghost heap: its cells, 'sz' to an element -/
def Sl (h : GHeap) (sz : Nat) (ad : Option Addr) (n cp : Nat) (xs : List Value) : Prop :=
  xs.length = n * sz ∧ n ≤ cp ∧ cp ≤ maxLen ∧ (ad = none → cp = 0) ∧ ∀ p, ad = some p → (n = 0 ∨ p.spot = none) ∧ ∀ j, j < n * sz → ∃ cs, h p.block = some cs ∧ cs[p.off + j]? = xs[j]?
theorem Sl.mono {h h' : GHeap} {sz : Nat} {ad : Option Addr} {n cp : Nat} {xs : List Value} (hl : GLe h h') (hS : Sl h sz ad n cp xs) : Sl h' sz ad n cp xs :=
  ⟨hS.1, hS.2.1, hS.2.2.1, hS.2.2.2.1, fun p hp => ⟨(hS.2.2.2.2 p hp).1, fun j hj => let ⟨cs, a, b⟩ := (hS.2.2.2.2 p hp).2 j hj; ⟨cs, hl _ _ a, b⟩⟩⟩
/-- a row becomes part of the ghost heap -/
theorem Sees.freeze {r : Row} (hs : Sees w0 h0 h (r :: O) w) : ∃ h', GLe h h' ∧ Sees w0 h0 h' O w ∧ Sl h' r.sz r.ad r.n r.cp r.xs := by
  obtain ⟨⟨hl, hr⟩, hnone⟩ := hs.own r List.mem_cons_self
  rcases hr with ⟨hv, h0'⟩ | ⟨b, cap, cur, hv, hb, hw, hn, hm, hc, hx⟩
  · simp only [Row.v, Value.slice.injEq] at hv
    refine ⟨h, GLe.refl _, hs.drop, hl, by omega, by rw [hv.2.2]; exact Nat.zero_le _, fun _ => hv.2.2, ?_⟩
    intro p hp; rw [hv.1] at hp; cases hp
  · simp only [Row.v, Value.slice.injEq, true_and] at hv
    obtain ⟨hv1, rfl⟩ := hv
    have hbn : h b = none := hnone b (by simp [Row.v, hv1, Value.ownBlock])
    have hg : GLe h (fun k => if k = b then some cur.toList else h k) := by
      intro k cs hk
      by_cases e : k = b
      · subst e; rw [hbn] at hk; cases hk
      · simp [e, hk]
    refine ⟨fun k => if k = b then some cur.toList else h k, hg, ⟨hs.below, ?_, hs.le.trans hg, ?_, ?_, hs.drop.apart⟩, hl, hn, hm, by rw [hv1]; simp, ?_⟩
    · intro k cs hk
      by_cases e : k = b
      · subst e; simp at hk; subst hk; exact ⟨_, _, by simpa using hw⟩
      · simp [e] at hk; exact hs.agree k cs hk
    · intro k hk
      have : k ≠ b := by omega
      simp [this, hs.old k hk]
    · intro s hsm
      obtain ⟨h1, h2⟩ := hs.own s (List.mem_cons_of_mem _ hsm)
      refine ⟨h1, fun k hk => ?_⟩
      have hne := (List.pairwise_cons.1 (by simpa using hs.apart : (r.v :: O.map Row.v).Pairwise Apart)).1 s.v (List.mem_map_of_mem hsm)
      have : k ≠ b := by
        rintro rfl
        rcases hne with e | e
        · simp [Row.v, hv1, Value.ownBlock] at e
        · rw [hk] at e; simp [Row.v, hv1, Value.ownBlock] at e
      simp [this, h2 k hk]
    · intro p hp
      rw [hv1] at hp
      cases hp
      refine ⟨.inr rfl, fun j hj => ⟨cur.toList, by simp, ?_⟩⟩
      rw [← hx, List.getElem?_take, if_pos hj]
      simp
/-- after a call -/
theorem Sees.call (hs : Sees w0 h0 h O w) (hc : Sees w h h' [] w') : Sees w0 h0 h' O w' := by
  have h1 := hs.keeps hc.below
  refine ⟨h1.below, hc.agree, hs.le.trans hc.le, fun b hb => (hc.old b (Nat.lt_of_lt_of_le hb hs.base)).trans (hs.old b hb), ?_, hs.apart⟩
  intro r hr
  obtain ⟨h2, h3⟩ := h1.own r hr
  refine ⟨h2, fun k hk => ?_⟩
  have := (hs.own r hr).1.lt k hk
  rw [hc.old k this.2]; exact h3 k hk
end

/-! ## Contracts -/
def Con (P : Program) (f : FuncId) (args : List Value) (w : World) (h : GHeap) (post : GHeap → Value → Prop) : Prop :=
  Agree h w → Calls P f args.toArray w fun e w' => ∃ v h', e = .returned v ∧ Sees w h h' [] w' ∧ post h' v

theorem Con.mono {P : Program} {f : FuncId} {args : List Value} {w : World} {h : GHeap} {post post' : GHeap → Value → Prop} (hc : Con P f args w h post) (hp : ∀ h' v, GLe h h' → post h' v → post' h' v) : Con P f args w h post' :=
  fun ha => (hc ha).mono fun _ _ ⟨v, h', he, hs, hq⟩ => ⟨v, h', he, hs, hp _ _ hs.le hq⟩

def argEnv : Nat → List Value → Env
  | _, [] => []
  | i, v :: r => (i, v) :: argEnv (i + 1) r
theorem get_argEnv : ∀ (vs : List Value) (i k : Nat) (v : Value), get (argEnv i vs) k = some v → i ≤ k ∧ vs[k - i]? = some v
  | [], _, _, _, h => by simp [argEnv, get] at h
  | u :: r, i, k, v, h => by
    rw [argEnv, get_cons] at h
    by_cases e : i = k
    · subst e; simp at h; subst h; simp
    · simp [e] at h
      have := get_argEnv r (i + 1) k v h
      refine ⟨by omega, ?_⟩
      have e2 : k - i = (k - (i + 1)) + 1 := by omega
      rw [e2]; simpa using this.2

/-- the results, as the function's end reads them -/
def Res (P : Program) (L : Env) (w : World) : List ResultVar → List Value → Prop
  | [], [] => True
  | .tmp t :: r, v :: vs => get L t = some v ∧ Res P L w r vs
  | .cell t ty :: r, v :: vs => (∃ a, get L t = some (.pointer (some a)) ∧ (loadVar ty a).run P w = .ok v w) ∧ Res P L w r vs
  | _, _ => False
def packv : List Value → Value
  | [v] => v
  | vs => .tuple vs.toArray
def retQ (P : Program) (rs : List ResultVar) (w0 : World) (h0 : GHeap) (post : GHeap → Value → Prop) : Post := fun e L w => match e with
  | .normal | .ret => ∃ vs h', Res P L w rs vs ∧ Sees w0 h0 h' [] w ∧ post h' (packv vs)
  | _ => False

theorem run_results {P : Program} {n : Nat} {L : Env} {a : Act} {w : World} (ha : Fits n L a) : ∀ (rs : List ResultVar) (vs : List Value), Res P L w rs vs →
    (rs.mapM (m := Sem) fun
      | .tmp t => pure (a.tmps.getD t undef)
      | .cell x t => do loadVar t (← asAddr (a.tmps.getD x undef))).run P w = .ok vs w
  | [], [], _ => by simp
  | [], _ :: _, h => by simp [Res] at h
  | .tmp t :: r, [], h => by simp [Res] at h
  | .cell t ty :: r, [], h => by simp [Res] at h
  | .tmp t :: r, v :: vs, h => by
    have e : a.tmps.getD t undef = v := ha.eval (x := .tmp t) h.1
    have ih := run_results ha r vs h.2
    rw [List.mapM_cons, Sem.run_bind]
    simp only [Sem.run_pure, Result.andThen_ok, e]
    rw [Sem.run_bind, ih]; rfl
  | .cell t ty :: r, v :: vs, h => by
    obtain ⟨⟨ad, h1, h2⟩, h3⟩ := h
    have e : a.tmps.getD t undef = .pointer (some ad) := ha.eval (x := .tmp t) h1
    have ih := run_results ha r vs h3
    have e2 : asAddr (a.tmps.getD t undef) = pure ad := by rw [e]; rfl
    rw [List.mapM_cons, Sem.run_bind]
    simp only [e2, pure_bind, h2, Result.andThen_ok]
    rw [Sem.run_bind, ih]; rfl

theorem Con.of_body {P : Program} {f : FuncId} {fn : Func} {c : Code} {n : Nat} {rs : List ResultVar} {vs : List Value} {w : World} {h : GHeap} {post : GHeap → Value → Prop}
    (hf : P.funcs[f]? = some fn) (hb : fn.body = some c) (hn : fn.ntmps = n) (hr : fn.results.toList = rs) (hl : Nat.ble vs.length n = true)
    (K : Sees w h h [] w → CW P n (retQ P rs w h post) c (argEnv 0 vs) w) : Con P f vs w h post := by
  intro hag
  refine calls_of_wp hf hb ?_
  have hl' : vs.length ≤ n := Nat.le_of_ble_eq_true hl
  have hfit : Fits n (argEnv 0 vs) { tmps := vs.toArray ++ Array.replicate (fn.ntmps - vs.toArray.size) undef, defers := [] } := by
    refine ⟨by simp [hn]; omega, rfl, ?_⟩
    intro k v hk
    have := (get_argEnv vs 0 k v hk).2
    simp at this
    have hlt : k < vs.length := (List.getElem?_eq_some_iff.1 this).1
    simp [Array.getElem?_append, hlt]
    exact (List.getElem?_eq_some_iff.1 this).2
  refine Code.wp_mono ?_ (K (Sees.start hag) _ hfit)
  rintro e a w' ⟨L, hL, q⟩
  have key : (∃ vs h', Res P L w' rs vs ∧ Sees w h h' [] w' ∧ post h' (packv vs)) → a.defers = [] ∧ ∃ v, (results fn a.tmps).run P w' = .ok v w' ∧ ∃ v' h', Ending.returned v = .returned v' ∧ Sees w h h' [] w' ∧ post h' v' := by
    rintro ⟨us, h', h1, h2, h3⟩
    refine ⟨hL.defers, packv us, ?_, _, h', rfl, h2, h3⟩
    have hrun := run_results hL rs us h1
    unfold results
    rw [← hr] at hrun
    rw [Sem.run_bind, Array.mapM_eq_mapM_toList, Sem.run_map]
    erw [hrun]
    simp only [Result.andThen_ok, Sem.run_pure]
    congr 1
    cases us with
    | nil => rfl
    | cons x r => cases r <;> rfl
  cases e with
  | normal => exact key q
  | ret => exact key q
  | _ => exact q.elim
end Go.Proofs.YtmojpbfkpggjhaaGreat

/-
  The program logic, third part: what each operation comes to. No statement is proved here.
-/
namespace Go.Proofs.YtmojpbfkpggjhaaGreat
open Go Go.RowKit
set_option linter.unusedVariables false
set_option linter.unusedSimpArgs false

section
variable {P : Program} {n : Nat} {L : Env} {w : World} {ty : TypeId} {x y c : Operand} {t yt : TypeId}

/-! ## Moves, bools -/
theorem Y.move {v : Value} (hx : opv L x = some v) : Yields P n L w (.move x) ty v := by
  intro a ha d pos aft g; simp only [execOp, ha.eval hx]; rfl
theorem Y.assign {v : Value} (hx : opv L x = some v) : Yields P n L w (.assign x) ty v := by
  intro a ha d pos aft g; simp only [execOp, ha.eval hx]; rfl
theorem Y.pickT {v : Value} (hc : opv L c = some (.bool true)) (hx : opv L x = some v) : Yields P n L w (.pick c x y) ty v := by
  intro a ha d pos aft g; simp only [execOp, ha.eval hx, ha.eval hc]; rfl
theorem Y.pickF {v : Value} (hc : opv L c = some (.bool false)) (hy : opv L y = some v) : Yields P n L w (.pick c x y) ty v := by
  intro a ha d pos aft g; simp only [execOp, ha.eval hy, ha.eval hc]; rfl
theorem Y.not {b : Bool} (hx : opv L x = some (.bool b)) : Yields P n L w (.unOp .not t x) ty (.bool !b) := by
  intro a ha d pos aft g; simp only [execOp, ha.eval hx]; rfl
theorem Y.notD {p : Prop} [Decidable p] (hx : opv L x = some (.bool (decide p))) : Yields P n L w (.unOp .not t x) ty (.bool (decide (¬ p))) := by
  have := Y.not (P := P) (n := n) (w := w) (ty := ty) (t := t) hx
  rwa [← decide_not] at this

/-! ## Integers -/
theorem wrap64 {z : Int} (h : -9223372036854775808 ≤ z ∧ z < 9223372036854775808) : IntKind.i64.wrap z = z := by
  rw [IntKind.wrap_i64]; omega
section
variable {k : IntKind} {u v : Int}
def intOp (op : BinOp) (k : IntKind) (u v : Int) : Sem Value := match op with
      | .add | .sub | .mul => Op.intArith op k u v
      | .quo | .rem => Op.intDiv op k u v
      | .and | .or | .xor | .andNot => Op.intBits op k u v
      | _ => Op.intCmp op u v
theorem run_bin {op : BinOp} {r : Value} (hop : op ≠ .shl ∧ op ≠ .shr) (hx : opv L x = some (.int k u)) (hy : opv L y = some (.int k v))
    (hr : (intOp op k u v).run P w = .ok r w) : Yields P n L w (.binOp op t x y yt) ty r := by
  intro a ha d pos aft g
  simp only [execOp, ha.eval hx, ha.eval hy]
  have hg : eqGuard op t x y (.int k u) (.int k v) = pure () := by
    unfold eqGuard
    cases op <;> rfl
  have hb : binOp op t (.int k u) (.int k v) = intOp op k u v := by
    cases op <;> first | (exact absurd rfl hop.1) | (exact absurd rfl hop.2) | simp [binOp, intOp]
  rw [hg, hb]
  simp only [pure_bind, Sem.run_bind, hr, Result.andThen_ok, Sem.run_pure]
theorem Y.add' (hx : opv L x = some (.int k u)) (hy : opv L y = some (.int k v)) : Yields P n L w (.binOp .add t x y yt) ty (.int k (k.wrap (u + v))) := run_bin (by simp) hx hy rfl
theorem Y.sub' (hx : opv L x = some (.int k u)) (hy : opv L y = some (.int k v)) : Yields P n L w (.binOp .sub t x y yt) ty (.int k (k.wrap (u - v))) := run_bin (by simp) hx hy rfl
theorem Y.mul' (hx : opv L x = some (.int k u)) (hy : opv L y = some (.int k v)) : Yields P n L w (.binOp .mul t x y yt) ty (.int k (k.wrap (u * v))) := run_bin (by simp) hx hy rfl
theorem Y.add (hx : opv L x = some (.int .i64 u)) (hy : opv L y = some (.int .i64 v)) (hb : -9223372036854775808 ≤ u + v ∧ u + v < 9223372036854775808) : Yields P n L w (.binOp .add t x y yt) ty (.int .i64 (u + v)) := by
  have := Y.add' (P := P) (n := n) (w := w) (ty := ty) (t := t) (yt := yt) hx hy
  rwa [wrap64 hb] at this
theorem Y.sub (hx : opv L x = some (.int .i64 u)) (hy : opv L y = some (.int .i64 v)) (hb : -9223372036854775808 ≤ u - v ∧ u - v < 9223372036854775808) : Yields P n L w (.binOp .sub t x y yt) ty (.int .i64 (u - v)) := by
  have := Y.sub' (P := P) (n := n) (w := w) (ty := ty) (t := t) (yt := yt) hx hy
  rwa [wrap64 hb] at this
theorem Y.mul (hx : opv L x = some (.int .i64 u)) (hy : opv L y = some (.int .i64 v)) (hb : -9223372036854775808 ≤ u * v ∧ u * v < 9223372036854775808) : Yields P n L w (.binOp .mul t x y yt) ty (.int .i64 (u * v)) := by
  have := Y.mul' (P := P) (n := n) (w := w) (ty := ty) (t := t) (yt := yt) hx hy
  rwa [wrap64 hb] at this
theorem Y.quo' (hx : opv L x = some (.int k u)) (hy : opv L y = some (.int k v)) (h0 : v ≠ 0) : Yields P n L w (.binOp .quo t x y yt) ty (.int k (k.wrap (u.tdiv v))) :=
  run_bin (by simp) hx hy (by simp [intOp, Op.intDiv, h0])
theorem Y.quo (hx : opv L x = some (.int .i64 u)) (hy : opv L y = some (.int .i64 v)) (h0 : 0 < v) (hu : 0 ≤ u ∧ u < 9223372036854775808) : Yields P n L w (.binOp .quo t x y yt) ty (.int .i64 (u / v)) := by
  have := Y.quo' (P := P) (n := n) (w := w) (ty := ty) (t := t) (yt := yt) hx hy (by omega)
  rw [Int.tdiv_eq_ediv_of_nonneg hu.1, wrap64 ⟨by have := Int.ediv_nonneg hu.1 (Int.le_of_lt h0); omega, Int.lt_of_le_of_lt (Int.ediv_le_self v hu.1) hu.2⟩] at this
  exact this
theorem Y.rem' (hx : opv L x = some (.int k u)) (hy : opv L y = some (.int k v)) (h0 : v ≠ 0) : Yields P n L w (.binOp .rem t x y yt) ty (.int k (u.tmod v)) :=
  run_bin (by simp) hx hy (by simp [intOp, Op.intDiv, h0])
theorem Y.rem (hx : opv L x = some (.int k u)) (hy : opv L y = some (.int k v)) (h0 : 0 < v) (hu : 0 ≤ u) : Yields P n L w (.binOp .rem t x y yt) ty (.int k (u % v)) := by
  have := Y.rem' (P := P) (n := n) (w := w) (ty := ty) (t := t) (yt := yt) hx hy (by omega)
  rw [Int.tmod_eq_emod_of_nonneg hu] at this
  exact this
theorem Y.lss (hx : opv L x = some (.int k u)) (hy : opv L y = some (.int k v)) : Yields P n L w (.binOp .lss t x y yt) ty (.bool (decide (u < v))) := run_bin (by simp) hx hy rfl
theorem Y.leq (hx : opv L x = some (.int k u)) (hy : opv L y = some (.int k v)) : Yields P n L w (.binOp .leq t x y yt) ty (.bool (decide (u ≤ v))) := run_bin (by simp) hx hy rfl
theorem Y.gtr (hx : opv L x = some (.int k u)) (hy : opv L y = some (.int k v)) : Yields P n L w (.binOp .gtr t x y yt) ty (.bool (decide (v < u))) := run_bin (by simp) hx hy rfl
theorem Y.geq (hx : opv L x = some (.int k u)) (hy : opv L y = some (.int k v)) : Yields P n L w (.binOp .geq t x y yt) ty (.bool (decide (v ≤ u))) := run_bin (by simp) hx hy rfl
theorem Y.eql (hx : opv L x = some (.int k u)) (hy : opv L y = some (.int k v)) : Yields P n L w (.binOp .eql t x y yt) ty (.bool (decide (u = v))) :=
  run_bin (by simp) hx hy (by simp only [intOp, Op.intCmp]; rw [Sem.run_pure]; congr 2)
theorem Y.neq (hx : opv L x = some (.int k u)) (hy : opv L y = some (.int k v)) : Yields P n L w (.binOp .neq t x y yt) ty (.bool (decide (u ≠ v))) :=
  run_bin (by simp) hx hy (by simp only [intOp, Op.intCmp]; rw [Sem.run_pure]; congr 2; by_cases e : u = v <;> simp [e])
theorem Y.and' (hx : opv L x = some (.int k u)) (hy : opv L y = some (.int k v)) : Yields P n L w (.binOp .and t x y yt) ty (.int k (k.wrap (BitVec.ofInt k.bits u &&& BitVec.ofInt k.bits v).toNat)) := run_bin (by simp) hx hy rfl
theorem Y.or' (hx : opv L x = some (.int k u)) (hy : opv L y = some (.int k v)) : Yields P n L w (.binOp .or t x y yt) ty (.int k (k.wrap (BitVec.ofInt k.bits u ||| BitVec.ofInt k.bits v).toNat)) := run_bin (by simp) hx hy rfl
theorem Y.shl' {yk : IntKind} (hx : opv L x = some (.int k u)) (hy : opv L y = some (.int yk v)) (h0 : 0 ≤ v) : Yields P n L w (.binOp .shl t x y yt) ty (.int k (k.wrap (u * 2 ^ (min v.toNat k.bits)))) := by
  intro a ha d pos aft g
  simp only [execOp, ha.eval hx, ha.eval hy]
  have hg : eqGuard .shl t x y (.int k u) (.int yk v) = pure () := rfl
  have hn : ¬ v < 0 := by omega
  rw [hg]; simp [binOp, Op.shift, hn]
theorem Y.shr' {yk : IntKind} (hx : opv L x = some (.int k u)) (hy : opv L y = some (.int yk v)) (h0 : 0 ≤ v) : Yields P n L w (.binOp .shr t x y yt) ty (.int k (u.fdiv (2 ^ (min v.toNat k.bits)))) := by
  intro a ha d pos aft g
  simp only [execOp, ha.eval hx, ha.eval hy]
  have hg : eqGuard .shr t x y (.int k u) (.int yk v) = pure () := rfl
  have hn : ¬ v < 0 := by omega
  rw [hg]; simp [binOp, Op.shift, hn]
theorem Y.neg' (hx : opv L x = some (.int k u)) : Yields P n L w (.unOp .neg t x) ty (.int k (k.wrap (0 - u))) := by
  intro a ha d pos aft g; simp only [execOp, ha.eval hx]; rfl
theorem Y.neg (hx : opv L x = some (.int .i64 u)) (hb : -9223372036854775808 < u ∧ u ≤ 9223372036854775808) : Yields P n L w (.unOp .neg t x) ty (.int .i64 (-u)) := by
  have := Y.neg' (P := P) (n := n) (w := w) (ty := ty) (t := t) hx
  rw [wrap64 (by omega)] at this
  rwa [Int.zero_sub] at this
theorem Y.max2 (hx : opv L x = some (.int k u)) (hy : opv L y = some (.int k v)) {ats : Array TypeId} : Yields P n L w (.call ⟨.builtin .max, #[x, y], ats⟩) ty (.int k (max u v)) := by
  intro a ha d pos aft g
  have e : (if v > u then v else u) = max u v := by omega
  simp [execOp, resolve, invoke, builtin, Builtin.max_, ha.eval hx, ha.eval hy, Builtin.max2, e]
theorem Y.min2 (hx : opv L x = some (.int k u)) (hy : opv L y = some (.int k v)) {ats : Array TypeId} : Yields P n L w (.call ⟨.builtin .min, #[x, y], ats⟩) ty (.int k (min u v)) := by
  intro a ha d pos aft g
  have e : (if v < u then v else u) = min u v := by omega
  simp [execOp, resolve, invoke, builtin, Builtin.min_, ha.eval hx, ha.eval hy, Builtin.min2, e]
end

section
variable (T : Tab P) {k : IntKind} {u v : Int}
theorem Y.convII {k' : IntKind} {src dst : TypeId} {d : Ty} (hs : T.ty src = some d) (hd : T.ty dst = some (.int k')) (hx : opv L x = some (.int k u)) : Yields P n L w (.convert src dst x) ty (.int k' (k'.wrap u)) := by
  intro a ha d' pos aft g
  have h2 : P.underlying dst = some (.int k') := T.ty_ok _ _ hd
  have h1 : ∃ z, P.underlying src = some z := by
    have := T.ty_ok _ _ hs
    cases d <;> first | exact ⟨_, this⟩ | (obtain ⟨z, h, _⟩ := this; exact ⟨_, h⟩)
  obtain ⟨z, h1⟩ := h1
  simp only [execOp, ha.eval hx, convert, Sem.run_bind, run_underlying h1, run_underlying h2, Result.andThen_ok]
  cases z <;> rfl
theorem Y.conv64 {src dst : TypeId} {d : Ty} (hs : T.ty src = some d) (hd : T.ty dst = some (.int .i64)) (hx : opv L x = some (.int k u)) (hb : -9223372036854775808 ≤ u ∧ u < 9223372036854775808) : Yields P n L w (.convert src dst x) ty (.int .i64 u) := by
  have := Y.convII (n := n) (w := w) (ty := ty) T hs hd hx
  rwa [wrap64 hb] at this
/-! ## Slices, read -/
theorem Y.len {e : TypeId} {ad : Option Addr} {m cp : Nat} (hT : T.ty t = some (.slice e)) (hx : opv L x = some (.slice ad m cp)) : Yields P n L w (.call ⟨.builtin .len, #[x], #[t]⟩) ty (.int .i64 (m : Int)) := by
  intro a ha d pos aft g
  have h1 : P.underlying t = some (.slice e) := T.ty_ok _ _ hT
  simp [execOp, resolve, invoke, builtin, Builtin.len_, ha.eval hx, run_underlying h1, goInt]
theorem Y.indexAddr {e : TypeId} {i : Inf} {ad : Option Addr} {b o m cp : Nat} (hT : T.ty t = some (.slice e)) (hI : T.inf e = some i) (hx : opv L x = some (.slice ad m cp)) (hy : opv L y = some (.int k u)) (had : ad = some ⟨b, o, none⟩) (h0 : 0 ≤ u ∧ u < m) :
    Yields P n L w (.indexAddr t x y) ty (.pointer (some ⟨b, o + u.toNat * i.size, none⟩)) := by
  intro a ha d pos aft g
  have h1 : P.underlying t = some (.slice e) := T.ty_ok _ _ hT
  subst had
  have hadd : (⟨b, o, none⟩ : Addr).add (u.toNat * i.size) = ⟨b, o + u.toNat * i.size, none⟩ := Addr.add_lit _ _ _
  simp [execOp, Instr.indexAt, asIntOf, ha.eval hx, ha.eval hy, run_underlying h1, h0, T.sizeOf hI, hadd]
theorem Y.load1 {d : Ty} {ad : Addr} {r : Value} (hT : T.ty t = some d) (hd : d.agg = false) (hx : opv L x = some (.pointer (some ad))) (hc : w.cell? ad = some r) : Yields P n L w (.load t x) ty r := by
  intro a ha d' pos aft g
  simp [execOp, Instr.loadAt, Instr.sureAddr, ha.eval hx, loadVar, T.isAgg hT, hd, hc]
theorem Y.loadN {d : Ty} {i : Inf} {b o : Nat} {cs : List Value} (hT : T.ty t = some d) (hd : d.agg = true) (hI : T.inf t = some i) (hn : cs.length = i.size) (hx : opv L x = some (.pointer (some ⟨b, o, none⟩))) (hc : ∀ j r, cs[j]? = some r → w.cell? ⟨b, o + j, none⟩ = some r) : Yields P n L w (.load t x) ty (.agg cs.toArray) := by
  intro a ha d' pos aft g
  have hl := run_loadCells_list (P := P) w ⟨b, o, none⟩ cs (fun j v hv => by rw [Addr.add_lit]; exact hc j v hv)
  rw [hn] at hl
  simp [execOp, Instr.loadAt, Instr.sureAddr, ha.eval hx, loadVar, T.isAgg hT, hd, T.sizeOf hI, hl]
theorem Y.extract {vs : Array Value} {r : Value} {j : Nat} (hx : opv L x = some (.tuple vs)) (hv : vs[j]? = some r) : Yields P n L w (.extract x j) ty r := by
  intro a ha d pos aft g; simp only [execOp, ha.eval hx, Instr.extract, hv]; rfl
theorem Y.fieldAddr {fs : List (Nat × Nat)} {j ft off : Nat} {i : Inf} {b o : Nat} (hT : T.ty t = some (.struct fs)) (hf : fs[j]? = some (ft, off)) (hI : T.inf ft = some i) (h0 : Nat.ble 1 i.size = true) (hx : opv L x = some (.pointer (some ⟨b, o, none⟩))) : Yields P n L w (.fieldAddr t x j) ty (.pointer (some ⟨b, o + off, none⟩)) := by
  intro a ha d pos aft g
  obtain ⟨fa, h1, h2⟩ := T.ty_ok _ _ hT
  have hm : (fa.toList.map (fun f => (f.type, f.offset)))[j]? = some (ft, off) := by rw [h2]; exact hf
  rw [List.getElem?_map] at hm
  cases hfj : fa.toList[j]? with
  | none => rw [hfj] at hm; simp at hm
  | some f =>
    rw [hfj] at hm
    simp at hm
    have hfa : fa[j]? = some f := by simpa using hfj
    have hs : 1 ≤ i.size := Nat.le_of_ble_eq_true h0
    have hne : ¬ i.size = 0 := by omega
    have hsz : (sizeOf f.type).run P w = .ok i.size w := by rw [hm.1]; exact T.sizeOf hI
    simp [execOp, Instr.fieldAt, Instr.sureAddr, ha.eval hx, run_underlying h1, hfa, fieldPlace, hsz, hne, hm.2, Addr.add_lit]
end
end
end Go.Proofs.YtmojpbfkpggjhaaGreat

/-
  The program logic, fourth part: operations that make or write memory, calls, regions that draw their order. No statement is proved here.
-/
namespace Go.Proofs.YtmojpbfkpggjhaaGreat
open Go Go.RowKit
set_option linter.unusedVariables false
set_option linter.unusedSimpArgs false

theorem apart_iff (O : List Row) : (O.map Row.v).Pairwise Apart ↔ ∀ (i j : Nat) (r s : Row), i < j → O[i]? = some r → O[j]? = some s → Apart r.v s.v := by
  rw [List.pairwise_iff_getElem]
  constructor
  · intro h i j r s hij hi hj
    obtain ⟨h1, h1'⟩ := List.getElem?_eq_some_iff.1 hi
    obtain ⟨h2, h2'⟩ := List.getElem?_eq_some_iff.1 hj
    have := h i j (by simpa using h1) (by simpa using h2) hij
    simpa [h1', h2'] using this
  · intro h i j h1 h2 hij
    have e1 : i < O.length := by simpa using h1
    have e2 : j < O.length := by simpa using h2
    have := h i j O[i] O[j] hij (List.getElem?_eq_getElem e1) (List.getElem?_eq_getElem e2)
    simpa using this

section
variable {w0 w w' : World} {h0 h h' : GHeap} {O : List Row} {k : Nat} {r r' : Row}
theorem Sees.apartAt (hs : Sees w0 h0 h O w) {i j : Nat} {r s : Row} (hij : i ≠ j) (hi : O[i]? = some r) (hj : O[j]? = some s) : Apart r.v s.v := by
  have := (apart_iff O).1 hs.apart
  rcases Nat.lt_or_gt_of_ne hij with h | h
  · exact this i j r s h hi hj
  · exact (this j i s r h hj hi).symm
theorem Sees.replace (hs : Sees w0 h0 h O w) (hO : O[k]? = some r) (hg : w.grownBy w' r.v.ownBlock) (hr' : r'.ok w0.heap.size w') (hb : ∀ b, r'.v.ownBlock = some b → r.v.ownBlock = some b ∨ w.heap.size ≤ b) :
    Sees w0 h0 h (O.set k r') w' := by
  have hmem : r ∈ O := List.mem_of_getElem? hO
  obtain ⟨hrok, hrn⟩ := hs.own r hmem
  have hklt : k < O.length := (List.getElem?_eq_some_iff.1 hO).1
  refine ⟨hs.below.grown hg hs.base (fun b e => (hrok.lt b e).1), ?_, hs.le, hs.old, ?_, ?_⟩
  · intro b cs hbc
    obtain ⟨e, fr, he⟩ := hs.agree b cs hbc
    refine ⟨e, fr, ?_⟩
    rw [hg.block b (hs.hlt hbc) (fun e' => by rw [hrn b e'.symm] at hbc; cases hbc)]
    exact he
  · intro x hx
    obtain ⟨j, hj⟩ := List.mem_iff_getElem?.1 hx
    rw [List.getElem?_set] at hj
    by_cases e : k = j
    · subst e
      simp [hklt] at hj
      subst hj
      refine ⟨hr', fun b hbb => ?_⟩
      rcases hb b hbb with e | e
      · exact hrn b e
      · cases hh : h b with
        | none => rfl
        | some cs => exact absurd (hs.hlt hh) (by omega)
    · simp [e] at hj
      obtain ⟨h1, h2⟩ := hs.own x (List.mem_of_getElem? hj)
      exact ⟨h1.kept hg (hs.apartAt (fun e' => e e'.symm) hj hO), h2⟩
  · rw [apart_iff]
    intro i j x y hij hi hj
    rw [List.getElem?_set] at hi hj
    have key : ∀ j y, k ≠ j → O[j]? = some y → Apart r'.v y.v := by
      intro j y hkj hy
      cases hv : r'.v.ownBlock with
      | none => exact .inl hv
      | some b =>
        right
        rw [hv]
        intro e
        rcases hb b hv with e' | e'
        · rcases hs.apartAt hkj hO hy with a | a
          · rw [a] at e'; cases e'
          · exact a (e'.trans e)
        · have := ((hs.own y (List.mem_of_getElem? hy)).1.lt b e.symm).2
          omega
    by_cases e1 : k = i
    · subst e1
      simp [hklt] at hi
      subst hi
      have : k ≠ j := by omega
      simp [this] at hj
      exact key j y this hj
    · simp [e1] at hi
      by_cases e2 : k = j
      · subst e2
        simp [hklt] at hj
        subst hj
        exact (key i x e1 hi).symm
      · simp [e2] at hj
        exact hs.apartAt (by omega) hi hj
theorem Sees.setCell {b n cp : Nat} {e : TypeId} {sz : Nat} {xs : List Value} (hs : Sees w0 h0 h O w) (hO : O[k]? = some ⟨some ⟨b, 0, none⟩, n, cp, e, sz, xs⟩) (j : Nat) (u : Value) :
    Sees w0 h0 h (O.set k ⟨some ⟨b, 0, none⟩, n, cp, e, sz, xs.set j u⟩) (w.setCell ⟨b, j, none⟩ u) := by
  have hok := (hs.own _ (List.mem_of_getElem? hO)).1
  have := World.ownsRow.stored hok j u
  exact hs.replace hO this.2 this.1 (fun c hc => .inl hc)
theorem Sees.rowCell {b n cp : Nat} {e : TypeId} {sz : Nat} {xs : List Value} (hs : Sees w0 h0 h O w) (hO : O[k]? = some ⟨some ⟨b, 0, none⟩, n, cp, e, sz, xs⟩) {j : Nat} {u : Value} (hj : xs[j]? = some u) : w.cell? ⟨b, j, none⟩ = some u := by
  have hok := (hs.own _ (List.mem_of_getElem? hO)).1
  have hl : j < n * sz := by rw [← hok.1]; exact (List.getElem?_eq_some_iff.1 hj).1
  rw [World.ownsRow.cellAt hok j hl, hj]
theorem Sees.rowLen (hs : Sees w0 h0 h O w) (hO : O[k]? = some r) : r.xs.length = r.n * r.sz := (hs.own r (List.mem_of_getElem? hO)).1.1
/-- a row with elements lies at the head of a block -/
theorem Sees.rowAt {ad : Option Addr} {n cp : Nat} {e : TypeId} {sz : Nat} {xs : List Value} (hs : Sees w0 h0 h O w) (hO : O[k]? = some ⟨ad, n, cp, e, sz, xs⟩) (hn : 0 < n) : ∃ b, ad = some ⟨b, 0, none⟩ := by
  have hok := (hs.own _ (List.mem_of_getElem? hO)).1
  rcases hok.2 with ⟨hv, h0⟩ | ⟨g, cap, cur, hv, _⟩
  · exact absurd h0 (by simp; omega)
  · simp [Row.v] at hv; exact ⟨g, hv.1⟩
theorem Sees.rowCap {ad : Option Addr} {n cp : Nat} {e : TypeId} {sz : Nat} {xs : List Value} (hs : Sees w0 h0 h O w) (hO : O[k]? = some ⟨ad, n, cp, e, sz, xs⟩) : n ≤ cp ∧ cp ≤ maxLen := by
  have hok := (hs.own _ (List.mem_of_getElem? hO)).1
  rcases hok.2 with ⟨hv, h0⟩ | ⟨g, cap, cur, hv, _, _, h1, h2, _⟩
  · simp [Row.v] at hv; simp [hv]
  · simp [Row.v] at hv; obtain ⟨_, rfl⟩ := hv; exact ⟨h1, h2⟩
end

/-- cells that an append or a copy takes -/
def Src (w : World) (ad : Option Addr) (m : Nat) (sz : Nat) (news : List Value) : Prop :=
  news.length = m * sz ∧ (∀ u ∈ news, u.oneCell' = true) ∧ (ad = none → m = 0) ∧ ∀ p, ad = some p → ∀ j u, news[j]? = some u → w.cell? (p.add j) = some u
theorem Sl.src {h : GHeap} {w : World} {ad : Option Addr} {n cp sz : Nat} {xs : List Value} (hS : Sl h sz ad n cp xs) (ha : Agree h w) (h1 : ∀ u ∈ xs, u.oneCell' = true) : Src w ad n sz xs := by
  refine ⟨hS.1, h1, fun e => ?_, ?_⟩
  · have := hS.2.2.2.1 e; have := hS.2.1; omega
  · intro p hp j u hj
    obtain ⟨hsp, hc⟩ := hS.2.2.2.2 p hp
    have hl : j < n * sz := by rw [← hS.1]; exact (List.getElem?_eq_some_iff.1 hj).1
    obtain ⟨cs, hb, hv⟩ := hc j hl
    have hsp : p.spot = none := by
      rcases hsp with e | e
      · rw [e, Nat.zero_mul] at hl; omega
      · exact e
    have : p.add j = ⟨p.block, p.off + j, none⟩ := by
      cases p with | mk b o s => simp at hsp; subst hsp; exact Addr.add_lit _ _ _
    rw [this]
    exact ha.cell hb (by rw [hv, hj])
theorem Sl.take {h : GHeap} {ad : Option Addr} {n cp sz : Nat} {xs : List Value} (hS : Sl h sz ad n cp xs) (m : Nat) (hm : m ≤ n) : Sl h sz ad m cp (xs.take (m * sz)) := by
  have hle : m * sz ≤ n * sz := Nat.mul_le_mul_right _ hm
  refine ⟨by rw [List.length_take, hS.1]; omega, by have := hS.2.1; omega, hS.2.2.1, hS.2.2.2.1, ?_⟩
  intro p hp
  obtain ⟨a, b⟩ := hS.2.2.2.2 p hp
  refine ⟨a.imp (fun e => by omega) id, fun j hj => ?_⟩
  obtain ⟨cs, c, d⟩ := b j (by omega)
  exact ⟨cs, c, by rw [d, List.getElem?_take, if_pos hj]⟩

section
variable {P : Program} (T : Tab P) {n : Nat} {Q : Post} {L : Env} {w0 w : World} {h0 h : GHeap} {O : List Row} {ops rest : List Oper} {x y : Operand} {t : TypeId}
variable {d : Option Tmp} {ty : TypeId} {pos : String} {aft : Array Edge}

theorem run_append_sees (hs : Sees w0 h0 h O w) {k : Nat} {r : Row} (hO : O[k]? = some r) {i : Inf} (hT : T.ty t = some (.slice r.e)) (hI : T.inf r.e = some i) (hz : i.zero.cells.size = i.size) (hsz : i.size = r.sz)
    {ad : Option Addr} {m c : Nat} {news : List Value} (hsrc : Src w ad m r.sz news) (hm : (r.n + m) * i.bytes ≤ 140737488355328) (h63 : r.n + m ≤ maxLen) (hc : ad = none → c = 0) :
    ∃ ad' cp' w', (Builtin.append_ #[t, t] ty #[r.v, .slice ad m c]).run P w = .ok (.slice ad' (r.n + m) cp') w' ∧ Sees w0 h0 h (O.set k ⟨ad', r.n + m, cp', r.e, r.sz, r.xs ++ news⟩) w' := by
  have ht : P.underlying t = some (.slice r.e) := T.ty_ok _ _ hT
  obtain ⟨z, hi, hi1, hi2, hi3⟩ := T.inf_ok _ _ hI
  obtain ⟨rad, rn, rcp, re, rsz, rxs⟩ := r
  simp only at hT hI hsz hsrc hm h63 ht hi ⊢
  have hok := (hs.own _ (List.mem_of_getElem? hO)).1
  have hzsz : z.size = rsz := by rw [hi1, hsz]
  have hrl : rxs.length = rn * rsz := hok.1
  have hklt : k < O.length := (List.getElem?_eq_some_iff.1 hO).1
  have hsmall : rn + m ≤ 9223372036854775807 := by simp only [maxLen] at h63; omega
  cases ad with
  | none =>
    have hm0 := hsrc.2.2.1 rfl
    subst hm0
    have hn : news = [] := List.eq_nil_of_length_eq_zero (by simpa using hsrc.1)
    subst hn
    refine ⟨rad, rcp, w, ?_, ?_⟩
    · have := run_append_owned_none (P := P) w w0.heap.size t ty re z rsz ht hi _ _ _ hok
      have hc0 := hc rfl
      subst hc0
      simpa [Row.v] using this
    · refine hs.cast ?_
      apply List.ext_getElem?
      intro j
      rw [List.getElem?_set]
      by_cases e : k = j
      · subst e; simp [hklt]; rw [List.getElem?_eq_getElem hklt] at hO; exact Option.some.inj hO
      · simp [e]
  | some a =>
    have hnews := hsrc.2.2.2 a rfl
    have fresh : ∀ (old : Nat) (olds : List Value), olds = rxs → old < rn + m →
        (∃ row, w.grownBy (w.drew.alloc (.cells (olds.toArray ++ news.toArray ++ Builtin.zeroCells i.zero.cells (grownCap w (rn + m) old re - (rn + m))) re)) row) ∧
        Sees w0 h0 h (O.set k ⟨some ⟨w.heap.size, 0, none⟩, rn + m, grownCap w (rn + m) old re, re, rsz, rxs ++ news⟩) (w.drew.alloc (.cells (olds.toArray ++ news.toArray ++ Builtin.zeroCells i.zero.cells (grownCap w (rn + m) old re - (rn + m))) re)) := by
      intro old olds ho hlt
      subst ho
      have hge := grownCap_ge w (rn + m) old re
      have hcm : grownCap w (rn + m) old re ≤ maxLen := grownCap_le_maxLen w (rn + m) old re h63
      have hgr : ∀ row, w.grownBy (w.drew.alloc (.cells (olds.toArray ++ news.toArray ++ Builtin.zeroCells i.zero.cells (grownCap w (rn + m) old re - (rn + m))) re)) row :=
        fun row => ⟨rfl, rfl, rfl, by simp, fun q hq _ => Below.heap_alloc w.drew _ q hq⟩
      refine ⟨⟨none, hgr none⟩, ?_⟩
      refine hs.replace hO (hgr _) ?_ ?_
      · refine ⟨by rw [List.length_append, hrl, hsrc.1, Nat.add_mul], .inr ⟨w.heap.size, _, _, rfl, hs.base, heap_alloc_new w.drew _, hge, hcm, ?_, ?_⟩⟩
        · simp only [Array.size_append, List.size_toArray, size_zeroCells, hz, hsz, hrl, hsrc.1, ← Nat.add_mul]
          congr 1
          omega
        · have hlen : (olds ++ news).length = (rn + m) * rsz := by rw [List.length_append, hrl, hsrc.1, Nat.add_mul]
          simp only [Array.toList_append, List.append_assoc]
          rw [← List.append_assoc]
          show List.take ((rn + m) * rsz) _ = _
          rw [← hlen]
          exact List.take_left
      · intro b hb
        simp [Row.v, Value.ownBlock] at hb
        exact .inr (by omega)
    rcases hok.2 with ⟨hv, hn0⟩ | ⟨g, cap, cur, hv, hbg, hg, hnc, hcm, hcs, htake⟩
    · simp only [Row.v, Value.slice.injEq] at hv
      obtain ⟨rfl, rfl, rfl⟩ := hv
      have hx : rxs = [] := List.eq_nil_of_length_eq_zero (by simpa using hrl)
      by_cases hm0 : m = 0
      · subst hm0
        have hn : news = [] := List.eq_nil_of_length_eq_zero (by simpa using hsrc.1)
        subst hn
        refine ⟨none, 0, w, by simp [Row.v, Builtin.append_, run_underlying ht, Go.sizeOf, typeInfo, hi, Builtin.lenOf, Builtin.firstCells, loadCells, loadCellsFrom], ?_⟩
        refine hs.cast ?_
        apply List.ext_getElem?
        intro j
        rw [List.getElem?_set]
        by_cases e : k = j
        · subst e; simp [hklt]; rw [List.getElem?_eq_getElem hklt] at hO; exact Option.some.inj hO
        · simp [e]
      · have hr := run_append_nil (P := P) w t ty re z i.zero ht hi hi3 a m c news (by rw [hzsz]; exact hsrc.1) hnews (by omega) (by omega) (by rw [hi2]; simp only [Nat.zero_add] at hm; omega)
        have hf := (fresh 0 [] hx.symm (by omega)).2
        simp only [Nat.zero_add, Array.empty_append] at hf ⊢
        exact ⟨_, _, _, hr, hf⟩
    · simp only [Row.v, Value.slice.injEq, true_and] at hv
      obtain ⟨rfl, rfl⟩ := hv
      by_cases hroom : rn + m ≤ rcp
      · obtain ⟨w', h1, h2, h3⟩ := run_append_fits (P := P) w w0.heap.size t ty re z rsz ht hi hzsz g rn rcp rxs hok a m c news hsrc.1 hnews hsrc.2.1 hroom
        exact ⟨_, _, w', h1, hs.replace hO (by simpa [Row.v, Value.ownBlock] using h3) h2 (fun b hb => .inl (by simpa [Row.v, Value.ownBlock] using hb))⟩
      · have holds : ∀ j u, rxs[j]? = some u → w.cell? ((⟨g, 0, none⟩ : Addr).add j) = some u := World.ownsRow.cells hok (g := g) (by simp [Row.v, Value.ownBlock])
        have hr := run_append_grow (P := P) w t ty re z i.zero ht hi hi3 ⟨g, 0, none⟩ rn rcp rxs (by rw [hzsz]; exact hrl) holds a m c news (by rw [hzsz]; exact hsrc.1) hnews (by omega) (by omega) (growslice_fits (by omega) (by rw [hi2]; exact hm))
        exact ⟨_, _, _, hr, (fresh rcp rxs rfl (by omega)).2⟩

theorem RW.append (hs : Sees w0 h0 h O w) (k : Nat) {ra : Option Addr} {rn rc : Nat} {e : TypeId} {sz : Nat} {xs : List Value} (hO : O[k]? = some ⟨ra, rn, rc, e, sz, xs⟩) (hx : opv L x = some (.slice ra rn rc)) {ad : Option Addr} {m c : Nat} (hy : opv L y = some (.slice ad m c)) (hd : dstOk n d = true)
    {i : Inf} (hT : T.ty t = some (.slice e)) (hI : T.inf e = some i) (hz : i.zero.cells.size = i.size) (hsz : i.size = sz) {news : List Value} (hsrc : Src w ad m sz news) (hc : ad = none → c = 0) (hm : (rn + m) * i.bytes ≤ 140737488355328) (h63 : rn + m ≤ 9223372036854775807)
    (K : ∀ ad' cp' w', Sees w0 h0 h (O.set k ⟨ad', rn + m, cp', e, sz, xs ++ news⟩) w' → RW P n ops Q (updo d (.slice ad' (rn + m) cp') L) w' rest) :
    RW P n ops Q L w (⟨d, .call ⟨.builtin .append, #[x, y], #[t, t]⟩, ty, pos, aft, none⟩ :: rest) := by
  obtain ⟨ad', cp', w', hr, hs'⟩ := run_append_sees (ty := ty) T hs hO hT hI hz hsz hsrc hm (by simpa [maxLen] using h63) hc
  refine RW.step (v := .slice ad' (rn + m) cp') (w' := w') ?_ hd (K ad' cp' w' hs')
  intro a ha
  simp only [Row.v] at hr
  simp [execOp, resolve, invoke, builtin, ha.eval hx, ha.eval hy, hr]

/-- one value, into a row of the call's own -/
theorem RW.store1 (hs : Sees w0 h0 h O w) (k : Nat) {b o m cp : Nat} {e : TypeId} {sz : Nat} {xs : List Value} (hO : O[k]? = some ⟨some ⟨b, 0, none⟩, m, cp, e, sz, xs⟩) {u old : Value} (hx : opv L x = some (.pointer (some ⟨b, o, none⟩))) (hy : opv L y = some u) (hd : dstOk n d = true)
    {i : Inf} (hI : T.inf t = some i) (hi : i.size = 1) (hu : u.oneCell' = true) (hold : xs[o]? = some old)
    (K : ∀ w', Sees w0 h0 h (O.set k ⟨some ⟨b, 0, none⟩, m, cp, e, sz, xs.set o u⟩) w' → RW P n ops Q (updo d undef L) w' rest) :
    RW P n ops Q L w (⟨d, .store t x y, ty, pos, aft, none⟩ :: rest) := by
  refine RW.stepSkip (w' := w.setCell ⟨b, o, none⟩ u) ?_ hd (K _ (hs.setCell hO o u))
  intro a ha
  have hok := (hs.own _ (List.mem_of_getElem? hO)).1
  have hfz : w.frozen? ⟨b, o, none⟩ = false := World.ownsRow.frozenAt hok o
  have hcell := hs.rowCell hO hold
  have hcells : u.cells = #[u] := by cases u <;> first | rfl | (simp [Value.oneCell'] at hu)
  have hst := run_store P w ⟨b, o, none⟩ u .plain hu
  simp [hcell, hfz] at hst
  have hadd : (⟨b, o, none⟩ : Addr).add 0 = ⟨b, o, none⟩ := Addr.add_lit _ _ _
  simp [execOp, Instr.storeAt, Instr.sureAddr, ha.eval hx, ha.eval hy, storeVar, hcells, T.sizeOf hI, hi, storeCells, hadd, hst]

def putCells : List Value → Nat → List Value → List Value
  | xs, _, [] => xs
  | xs, o, c :: r => putCells (xs.set o c) (o + 1) r
theorem set_self {α : Type} {l : List α} {k : Nat} {r : α} (h : l[k]? = some r) : l.set k r = l := by
  apply List.ext_getElem?
  intro j
  rw [List.getElem?_set]
  by_cases e : k = j
  · subst e
    obtain ⟨h1, h2⟩ := List.getElem?_eq_some_iff.1 h
    simp [h1, h2]
  · simp [e]
theorem run_storeCells_own {k b m cp : Nat} {e : TypeId} {sz : Nat} : ∀ (cs : List Value) (o i : Nat) (xs : List Value) (O : List Row) (w : World), Sees w0 h0 h O w → O[k]? = some ⟨some ⟨b, 0, none⟩, m, cp, e, sz, xs⟩ → o + i + cs.length ≤ xs.length → (∀ u ∈ cs, u.oneCell' = true) →
    ∃ w', (storeCells ⟨b, o, none⟩ cs i).run P w = .ok () w' ∧ Sees w0 h0 h (O.set k ⟨some ⟨b, 0, none⟩, m, cp, e, sz, putCells xs (o + i) cs⟩) w'
  | [], o, i, xs, O, w, hs, hO, _, _ => ⟨w, rfl, by rw [putCells, set_self hO]; exact hs⟩
  | c :: r, o, i, xs, O, w, hs, hO, hl, h1 => by
    simp only [List.length_cons] at hl
    have hlt : o + i < xs.length := by omega
    have hok := (hs.own _ (List.mem_of_getElem? hO)).1
    have hfz : w.frozen? ⟨b, o + i, none⟩ = false := World.ownsRow.frozenAt hok (o + i)
    have hcell := hs.rowCell hO (List.getElem?_eq_getElem hlt)
    have hst := run_store P w ⟨b, o + i, none⟩ c .plain (h1 c List.mem_cons_self)
    simp [hcell, hfz] at hst
    have hs1 := hs.setCell hO (o + i) c
    have hklt : k < O.length := (List.getElem?_eq_some_iff.1 hO).1
    obtain ⟨w', hr, hs'⟩ := run_storeCells_own (k := k) (b := b) (m := m) (cp := cp) (e := e) (sz := sz) r o (i + 1) (xs.set (o + i) c) _ _ hs1 (by simp [hklt]) (by simp; omega) (fun u hu => h1 u (List.mem_cons_of_mem _ hu))
    refine ⟨w', ?_, ?_⟩
    · simp only [storeCells, Sem.run_bind, Addr.add_lit, hst, Result.andThen_ok]
      exact hr
    · simpa [putCells, List.set_set, Nat.add_assoc] using hs'
/-- a struct or an array, into a row of the call's own -/
theorem RW.storeN (hs : Sees w0 h0 h O w) (k : Nat) {b o m cp : Nat} {e : TypeId} {sz : Nat} {xs : List Value} (hO : O[k]? = some ⟨some ⟨b, 0, none⟩, m, cp, e, sz, xs⟩) {cs : Array Value} (hx : opv L x = some (.pointer (some ⟨b, o, none⟩))) (hy : opv L y = some (.agg cs)) (hd : dstOk n d = true)
    {i : Inf} (hI : T.inf t = some i) (hi : cs.size = i.size) (hu : ∀ u ∈ cs.toList, u.oneCell' = true) (hl : o + cs.size ≤ xs.length)
    (K : ∀ w', Sees w0 h0 h (O.set k ⟨some ⟨b, 0, none⟩, m, cp, e, sz, putCells xs o cs.toList⟩) w' → RW P n ops Q (updo d undef L) w' rest) :
    RW P n ops Q L w (⟨d, .store t x y, ty, pos, aft, none⟩ :: rest) := by
  obtain ⟨w', hr, hs'⟩ := run_storeCells_own (P := P) cs.toList o 0 xs O w hs hO (by simpa using hl) hu
  refine RW.stepSkip (w' := w') ?_ hd (K _ (by simpa using hs'))
  intro a ha
  simp [execOp, Instr.storeAt, Instr.sureAddr, ha.eval hx, ha.eval hy, storeVar, Value.cells, T.sizeOf hI, hi, hr]

/-- a variable in a block of its own -/
theorem RW.box (hs : Sees w0 h0 h O w) {e : TypeId} {v : Value} (hx : opv L x = some v) (hd : dstOk n d = true)
    (K : ∀ b w', Sees w0 h0 h (⟨some ⟨b, 0, none⟩, 1, 1, e, v.cells.size, v.cells.toList⟩ :: O) w' → RW P n ops Q (updo d (.pointer (some ⟨b, 0, none⟩)) L) w' rest) :
    RW P n ops Q L w (⟨d, .box e x, ty, pos, aft, none⟩ :: rest) := by
  refine RW.step (w' := w.alloc (.cells v.cells e)) ?_ hd (K w.heap.size _ ?_)
  · intro a ha
    simp [execOp, Instr.box, newVar, newRow, ha.eval hx]
  · have := hs.alloc (cs := v.cells.toList) (e := e) (sz := v.cells.size) (n := 1) (cap := 1) (xs := v.cells.toList) (Nat.le_refl _) (by simp [maxLen]) (by simp) (List.take_of_length_le (by simp))
    simpa using this
theorem RW.alloc (hs : Sees w0 h0 h O w) {e : TypeId} {i : Inf} (hI : T.inf e = some i) (hd : dstOk n d = true)
    (K : ∀ b w', Sees w0 h0 h (⟨some ⟨b, 0, none⟩, 1, 1, e, i.zero.cells.size, i.zero.cells.toList⟩ :: O) w' → RW P n ops Q (updo d (.pointer (some ⟨b, 0, none⟩)) L) w' rest) :
    RW P n ops Q L w (⟨d, .alloc e, ty, pos, aft, none⟩ :: rest) := by
  refine RW.step (w' := w.alloc (.cells i.zero.cells e)) ?_ hd (K w.heap.size _ ?_)
  · intro a ha
    simp [execOp, Instr.alloc, newVar, newRow, T.zeroValue hI]
  · have := hs.alloc (cs := i.zero.cells.toList) (e := e) (sz := i.zero.cells.size) (n := 1) (cap := 1) (xs := i.zero.cells.toList) (Nat.le_refl _) (by simp [maxLen]) (by simp) (List.take_of_length_le (by simp))
    simpa using this
theorem RW.make (hs : Sees w0 h0 h O w) {e : TypeId} {i : Inf} {kl kc : IntKind} {l c : Int} (hT : T.ty t = some (.slice e)) (hI : T.inf e = some i) (hx : opv L x = some (.int kl l)) (hy : opv L y = some (.int kc c)) (hd : dstOk n d = true)
    (h0' : 0 ≤ l) (hlc : l ≤ c) (hb : (i.bytes : Int) * c ≤ 281474976710656) (hc : c ≤ 9223372036854775807)
    (K : ∀ b w', Sees w0 h0 h (⟨some ⟨b, 0, none⟩, l.toNat, c.toNat, e, i.size, (madeCells i.zero.cells (l.toNat * i.size)).toList⟩ :: O) w' → RW P n ops Q (updo d (.slice (some ⟨b, 0, none⟩) l.toNat c.toNat) L) w' rest) :
    RW P n ops Q L w (⟨d, .makeSlice t x y, ty, pos, aft, none⟩ :: rest) := by
  have ht : P.underlying t = some (.slice e) := T.ty_ok _ _ hT
  obtain ⟨z, hi, hi1, hi2, hi3⟩ := T.inf_ok _ _ hI
  have hr := run_make (P := P) w t e z i.zero ht hi hi3 kl kc l c h0' hlc (by rw [hi2]; exact hb) hc
  refine RW.step (w' := w.alloc (.cells (madeCells i.zero.cells (c.toNat * z.size)) e)) ?_ hd (K w.heap.size _ ?_)
  · intro a ha
    simp [execOp, ha.eval hx, ha.eval hy, hr]
  · rw [hi1]
    have := hs.alloc (cs := (madeCells i.zero.cells (c.toNat * i.size)).toList) (e := e) (sz := i.size) (n := l.toNat) (cap := c.toNat) (xs := (madeCells i.zero.cells (l.toNat * i.size)).toList) (by omega) (by simp [maxLen]; omega) (by simp [size_madeCells]) ?_
    · simpa using this
    · have hle : l.toNat * i.size ≤ c.toNat * i.size := Nat.mul_le_mul_right _ (by omega)
      apply List.ext_getElem?
      intro j
      rw [List.getElem?_take]
      by_cases hj : j < l.toNat * i.size
      · have hj2 : j < c.toNat * i.size := by omega
        simp [madeCells, hj, hj2]
      · simp [madeCells, hj]

/-! ## Calls -/
theorem RW.callV (hs : Sees w0 h0 h O w) {f : FuncId} {l : List Operand} {vs fi ca : List Value} {cl : Operand} (hcl : opv L cl = some (.func (.func f) fi.toArray ca.toArray)) (hargs : opvs L l = some vs) (hf : T.call f = true) (hd : dstOk n d = true) {ats : Array TypeId} {post : GHeap → Value → Prop} (hc : Con P f (fi ++ vs ++ ca) w h post)
    (K : ∀ v h' w', GLe h h' → post h' v → Sees w0 h0 h' O w' → RW P n ops Q (updo d v L) w' rest) :
    RW P n ops Q L w (⟨d, .call ⟨.value cl, l.toArray, ats⟩, ty, pos, aft, none⟩ :: rest) := by
  intro a ha
  unfold wpList
  rw [if_pos (by simp [Region.wanted])]
  refine .inl ?_
  obtain ⟨fn, hfn, hname, hbody⟩ := T.call_ok f hf
  unfold Oper.wp
  have hrun : (execOp a.eval ⟨d, .call ⟨.value cl, l.toArray, ats⟩, ty, pos, aft, none⟩).run P w = .ok (.enter f (fi ++ vs ++ ca).toArray) w := by
    have hargs' : l.map a.eval = vs := ha.evals hargs
    have hname' : ¬ fn.name = "runtime.NumGoroutine" := by simpa using hname
    have hbody' : ¬ fn.body = none := fun e => by rw [e] at hbody; simp at hbody
    simp [execOp, resolve, Deferred.ofValue, ha.eval hcl, invoke, callFunc, hfn, hname', hbody', ← hargs']
  rw [hrun]
  refine (hc hs.agree).mono ?_
  rintro e w' ⟨v, h', rfl, hs', hp⟩
  exact K v h' w' hs'.le hp (hs.call hs') _ (ha.put v hd)
theorem RW.call (hs : Sees w0 h0 h O w) {f : FuncId} {l : List Operand} {vs : List Value} (hargs : opvs L l = some vs) (hf : T.call f = true) (hd : dstOk n d = true) {ats : Array TypeId} {post : GHeap → Value → Prop} (hc : Con P f vs w h post)
    (K : ∀ v h' w', GLe h h' → post h' v → Sees w0 h0 h' O w' → RW P n ops Q (updo d v L) w' rest) :
    RW P n ops Q L w (⟨d, .call ⟨.value (.func f), l.toArray, ats⟩, ty, pos, aft, none⟩ :: rest) :=
  RW.callV (fi := []) (ca := []) (vs := vs) T hs rfl hargs hf hd (by simpa using hc) K
end
end Go.Proofs.YtmojpbfkpggjhaaGreat

/-
  The program logic, fifth part: small rules that a script of steps uses. No statement is proved here.
-/
namespace Go.Proofs.YtmojpbfkpggjhaaGreat
open Go Go.RowKit
set_option linter.unusedVariables false
set_option linter.unusedSimpArgs false

section
variable {P : Program} (T : Tab P) {n : Nat} {Q : Post} {L : Env} {w0 w : World} {h0 h : GHeap} {O : List Row} {ops rest : List Oper} {x y c : Operand} {t : TypeId}
variable {d : Option Tmp} {ty : TypeId} {pos : String} {aft : Array Edge}

theorem thenQ_normal {z : Code} (hh : CW P n Q z L w) : thenQ P n z Q .normal L w := hh
theorem thenQ_ret {z : Code} (hh : Q .ret L w) : thenQ P n z Q .ret L w := hh
theorem thenQ_exit {z : Code} {id : Nat} (hh : Q (.exit id) L w) : thenQ P n z Q (.exit id) L w := hh
theorem blockQ_normal {id : Nat} (hh : Q .normal L w) : blockQ id Q .normal L w := hh
theorem blockQ_ret {id : Nat} (hh : Q .ret L w) : blockQ id Q .ret L w := hh
theorem blockQ_exit {id id' : Nat} (he : Nat.beq id' id = true) (hh : Q .normal L w) : blockQ id Q (.exit id') L w := by
  show (match Nat.beq id' id with | true => Q .normal L w | false => Q (.exit id') L w)
  rw [he]; exact hh
theorem blockQ_past {id id' : Nat} (he : Nat.beq id' id = false) (hh : Q (.exit id') L w) : blockQ id Q (.exit id') L w := by
  show (match Nat.beq id' id with | true => Q .normal L w | false => Q (.exit id') L w)
  rw [he]; exact hh
theorem loopQ_ret {σ : Type} {E : σ → Env} {S : σ → World → Prop} {μ : σ → Nat} {s : σ} (hh : Q .ret L w) : loopQ E S μ s Q .ret L w := hh
theorem loopQ_exit {σ : Type} {E : σ → Env} {S : σ → World → Prop} {μ : σ → Nat} {s : σ} {id : Nat} (hh : Q (.exit id) L w) : loopQ E S μ s Q (.exit id) L w := hh
theorem loopQ_round {σ : Type} {E : σ → Env} {S : σ → World → Prop} {μ : σ → Nat} {s : σ} (s' : σ) (hE : Has L (E s')) (hS : S s' w) (hμ : μ s' < μ s) : loopQ E S μ s Q .normal L w := ⟨s', hE, hS, hμ⟩
/-- ways that meet again ahead of what follows -/
theorem CW.meet {σ : Type} {z : Code} {b : Code} (E : σ → Env) (S : σ → World → Prop) (hx : CW P n (joinQ E S Q) b L w) (hy : ∀ s w, S s w → CW P n Q z (E s) w) : CW P n (thenQ P n z Q) b L w := by
  refine hx.mono ?_
  intro e M w' q
  cases e with
  | normal => obtain ⟨s, h1, h2⟩ := q; exact (hy s w' h2).has h1
  | _ => exact q
theorem joinQ_ret {σ : Type} {E : σ → Env} {S : σ → World → Prop} (hh : Q .ret L w) : joinQ E S Q .ret L w := hh
theorem joinQ_exit {σ : Type} {E : σ → Env} {S : σ → World → Prop} {id : Nat} (hh : Q (.exit id) L w) : joinQ E S Q (.exit id) L w := hh
theorem joinQ_meet {σ : Type} {E : σ → Env} {S : σ → World → Prop} (s : σ) (hE : Has L (E s)) (hS : S s w) : joinQ E S Q .normal L w := ⟨s, hE, hS⟩
theorem retQ_ret {rs : List ResultVar} {post : GHeap → Value → Prop} (vs : List Value) (h' : GHeap) (hr : Res P L w rs vs) (hs : Sees w0 h0 h' [] w) (hp : post h' (packv vs)) : retQ P rs w0 h0 post .ret L w := ⟨vs, h', hr, hs, hp⟩
theorem CW.condD {a b : Code} {p : Prop} [Decidable p] (hc : opv L c = some (.bool (decide p))) (ht : p → CW P n Q a L w) (hf : ¬ p → CW P n Q b L w) : CW P n Q (.cond c a b) L w :=
  CW.cond hc (fun e => ht (of_decide_eq_true e)) (fun e => hf (of_decide_eq_false e))
theorem CW.condY {a b : Code} {p : Prop} [Decidable p] (hc : opv L c = some (.bool (decide p))) (hp : p) (ht : CW P n Q a L w) : CW P n Q (.cond c a b) L w :=
  CW.condD hc (fun _ => ht) (fun hn => absurd hp hn)
theorem CW.condN {a b : Code} {p : Prop} [Decidable p] (hc : opv L c = some (.bool (decide p))) (hp : ¬ p) (hf : CW P n Q b L w) : CW P n Q (.cond c a b) L w :=
  CW.condD hc (fun h => absurd h hp) (fun _ => hf)
/-- a guarded operation, its guard's test known or by cases -/
theorem RW.gd {op : Op} {j : Nat} {want : Bool} {p : Prop} [Decidable p] {u : Tmp} (_hj : gdst ops j = some u) (ht : get L u = some (.bool (decide p)))
    (h1 : p → RW P n ops Q ((u, .bool true) :: L) w (⟨d, op, ty, pos, aft, some (j, want)⟩ :: rest)) (h2 : ¬ p → RW P n ops Q ((u, .bool false) :: L) w (⟨d, op, ty, pos, aft, some (j, want)⟩ :: rest)) :
    RW P n ops Q L w (⟨d, op, ty, pos, aft, some (j, want)⟩ :: rest) :=
  RW.split ht (fun e => h1 (of_decide_eq_true e)) (fun e => h2 (of_decide_eq_false e))
theorem RW.gdY {op : Op} {j : Nat} {want : Bool} {p : Prop} [Decidable p] {u : Tmp} (hj : gdst ops j = some u) (ht : get L u = some (.bool (decide p))) (hp : p)
    (h1 : RW P n ops Q ((u, .bool true) :: L) w (⟨d, op, ty, pos, aft, some (j, want)⟩ :: rest)) : RW P n ops Q L w (⟨d, op, ty, pos, aft, some (j, want)⟩ :: rest) :=
  RW.gd hj ht (fun _ => h1) (fun hn => absurd hp hn)
theorem RW.gdN {op : Op} {j : Nat} {want : Bool} {p : Prop} [Decidable p] {u : Tmp} (hj : gdst ops j = some u) (ht : get L u = some (.bool (decide p))) (hp : ¬ p)
    (h1 : RW P n ops Q ((u, .bool false) :: L) w (⟨d, op, ty, pos, aft, some (j, want)⟩ :: rest)) : RW P n ops Q L w (⟨d, op, ty, pos, aft, some (j, want)⟩ :: rest) :=
  RW.gd hj ht (fun h => absurd h hp) (fun _ => h1)
/-- one element of a slice that lies in the ghost heap -/
theorem Sl.at {ad : Option Addr} {m cp sz : Nat} {xs : List Value} (hS : Sl h sz ad m cp xs) {j : Nat} (hj : j < m) : ∃ b o, ad = some ⟨b, o, none⟩ ∧ ∀ q, q < sz → ∃ cs, h b = some cs ∧ cs[o + j * sz + q]? = xs[j * sz + q]? := by
  cases ad with
  | none => have := hS.2.2.2.1 rfl; have := hS.2.1; omega
  | some p =>
    obtain ⟨hsp, hc⟩ := hS.2.2.2.2 p rfl
    have hsp : p.spot = none := hsp.resolve_left (by omega)
    refine ⟨p.block, p.off, by cases p; simp at hsp; simp [hsp], fun q hq => ?_⟩
    have hlt : j * sz + q < m * sz := by
      have : (j + 1) * sz ≤ m * sz := Nat.mul_le_mul_right _ hj
      rw [Nat.add_mul] at this; omega
    obtain ⟨cs, a, b⟩ := hc _ hlt
    exact ⟨cs, a, by rw [Nat.add_assoc]; exact b⟩
theorem get_map_int {l : List Int} {k : IntKind} {j : Nat} (hj : j < l.length) : (l.map (Value.int k))[j]? = some (.int k (l.getD j 0)) := by
  simp [List.getD_eq_getElem?_getD, hj]
/-- the address of an element, as a value -/
def elemP (ad : Option Addr) (j sz : Nat) : Value := .pointer (some ((ad.getD ⟨0, 0, none⟩).add (j * sz)))
theorem elemP_some (b o j sz : Nat) : elemP (some ⟨b, o, none⟩) j sz = .pointer (some ⟨b, o + j * sz, none⟩) := by
  unfold elemP
  show Value.pointer (some ((⟨b, o, none⟩ : Addr).add (j * sz))) = _
  rw [Addr.add_lit]
theorem Y.idxS {e : TypeId} {i : Inf} {ad : Option Addr} {m cp sz : Nat} {k : IntKind} {u : Int} {xs : List Value} (hx : opv L x = some (.slice ad m cp)) (hy : opv L y = some (.int k u)) (hS : Sl h sz ad m cp xs) (hT : T.ty t = some (.slice e)) (hI : T.inf e = some i) (hi : i.size = sz) (h0' : 0 ≤ u ∧ u < m) :
    Yields P n L w (.indexAddr t x y) ty (elemP ad u.toNat sz) := by
  obtain ⟨b, o, had, _⟩ := hS.at (j := u.toNat) (by omega)
  have := Y.indexAddr (P := P) (n := n) (w := w) (ty := ty) T hT hI hx hy had h0'
  rw [had, elemP_some, ← hi]
  exact this
theorem Y.idxSN {e : TypeId} {i : Inf} {ad : Option Addr} {m cp sz : Nat} {k : IntKind} {u : Nat} {xs : List Value} (hx : opv L x = some (.slice ad m cp)) (hy : opv L y = some (.int k (u : Int))) (hS : Sl h sz ad m cp xs) (hT : T.ty t = some (.slice e)) (hI : T.inf e = some i) (hi : i.size = sz) (h0' : u < m) :
    Yields P n L w (.indexAddr t x y) ty (elemP ad u sz) := Y.idxS T hx hy hS hT hI hi (by omega)
theorem Y.ldS {t' : TypeId} {dd : Ty} {ad : Option Addr} {m cp j : Nat} {xs : List Value} {v : Value} (hs : Sees w0 h0 h O w) (hx : opv L x = some (elemP ad j 1)) (hS : Sl h 1 ad m cp xs) (hE : T.ty t' = some dd) (hag : dd.agg = false) (hj : j < m) (hv : xs[j]? = some v) : Yields P n L w (.load t' x) ty v := by
  obtain ⟨b, o, had, hc⟩ := hS.at hj
  obtain ⟨cs, hb, hcs⟩ := hc 0 (by omega)
  simp only [Nat.mul_one, Nat.add_zero] at hcs
  subst had
  rw [elemP_some, Nat.mul_one] at hx
  exact Y.load1 T hE hag hx (hs.cell hb (by rw [hcs, hv]))
theorem Y.ldInt {t' : TypeId} {dd : Ty} {ad : Option Addr} {m cp j : Nat} {l : List Int} {k' : IntKind} (hs : Sees w0 h0 h O w) (hx : opv L x = some (elemP ad j 1)) (hS : Sl h 1 ad m cp (l.map (Value.int k'))) (hE : T.ty t' = some dd) (hag : dd.agg = false) (hj : j < m) : Yields P n L w (.load t' x) ty (.int k' (l.getD j 0)) :=
  Y.ldS T hs hx hS hE hag hj (get_map_int (by have := hS.1; simp at this; omega))
/-- an element of more than one cell -/
theorem Y.ldSN {t' : TypeId} {dd : Ty} {i : Inf} {ad : Option Addr} {m cp j sz : Nat} {xs cs : List Value} (hs : Sees w0 h0 h O w) (hx : opv L x = some (elemP ad j sz)) (hS : Sl h sz ad m cp xs) (hE : T.ty t' = some dd) (hag : dd.agg = true) (hI : T.inf t' = some i) (hi : i.size = sz) (hj : j < m) (hc : (xs.drop (j * sz)).take sz = cs) (hl : cs.length = sz) : Yields P n L w (.load t' x) ty (.agg cs.toArray) := by
  obtain ⟨b, o, had, hcell⟩ := hS.at hj
  subst had
  rw [elemP_some] at hx
  refine Y.loadN T hE hag hI (by rw [hl, hi]) hx ?_
  intro q r hq
  have hqlt : q < sz := by rw [← hl]; exact (List.getElem?_eq_some_iff.1 hq).1
  obtain ⟨zs, hb, hz⟩ := hcell q hqlt
  refine hs.cell hb ?_
  rw [hz, ← List.getElem?_drop]
  rw [← hc, List.getElem?_take, if_pos hqlt] at hq
  exact hq
theorem Y.idxR (hs : Sees w0 h0 h O w) (k : Nat) {e : TypeId} {i : Inf} {ad : Option Addr} {m cp sz : Nat} {kk : IntKind} {u : Int} {xs : List Value} (hx : opv L x = some (.slice ad m cp)) (hy : opv L y = some (.int kk u)) (hO : O[k]? = some ⟨ad, m, cp, e, sz, xs⟩) (hT : T.ty t = some (.slice e)) (hI : T.inf e = some i) (hi : i.size = sz) (h0' : 0 ≤ u ∧ u < m) :
    Yields P n L w (.indexAddr t x y) ty (elemP ad u.toNat sz) := by
  obtain ⟨b, had⟩ := hs.rowAt hO (by omega)
  have := Y.indexAddr (P := P) (n := n) (w := w) (ty := ty) T hT hI hx hy had h0'
  rw [had, elemP_some, ← hi]
  exact this
theorem Y.idxRN (hs : Sees w0 h0 h O w) (k : Nat) {e : TypeId} {i : Inf} {ad : Option Addr} {m cp sz : Nat} {kk : IntKind} {u : Nat} {xs : List Value} (hx : opv L x = some (.slice ad m cp)) (hy : opv L y = some (.int kk (u : Int))) (hO : O[k]? = some ⟨ad, m, cp, e, sz, xs⟩) (hT : T.ty t = some (.slice e)) (hI : T.inf e = some i) (hi : i.size = sz) (h0' : u < m) :
    Yields P n L w (.indexAddr t x y) ty (elemP ad u sz) := Y.idxR T hs k hx hy hO hT hI hi (by omega)
theorem Y.ldR {t' : TypeId} {dd : Ty} {ad : Option Addr} {m cp j : Nat} {e : TypeId} {xs : List Value} {v : Value} (hs : Sees w0 h0 h O w) (k : Nat) (hx : opv L x = some (elemP ad j 1)) (hO : O[k]? = some ⟨ad, m, cp, e, 1, xs⟩) (hE : T.ty t' = some dd) (hag : dd.agg = false) (hj : j < m) (hv : xs[j]? = some v) : Yields P n L w (.load t' x) ty v := by
  obtain ⟨b, had⟩ := hs.rowAt hO (by omega)
  subst had
  rw [elemP_some] at hx
  refine Y.load1 T hE hag hx ?_
  rw [Nat.zero_add, Nat.mul_one]
  exact hs.rowCell hO hv
theorem Y.ldRInt {t' : TypeId} {dd : Ty} {ad : Option Addr} {m cp j : Nat} {e : TypeId} {l : List Int} {k' : IntKind} (hs : Sees w0 h0 h O w) (k : Nat) (hx : opv L x = some (elemP ad j 1)) (hO : O[k]? = some ⟨ad, m, cp, e, 1, l.map (Value.int k')⟩) (hE : T.ty t' = some dd) (hag : dd.agg = false) (hj : j < m) : Yields P n L w (.load t' x) ty (.int k' (l.getD j 0)) :=
  Y.ldR T hs k hx hO hE hag hj (get_map_int (by have := hs.rowLen hO; simp at this; omega))
/-- a store of one cell, into a row of the call's own -/
theorem RW.st1 (hs : Sees w0 h0 h O w) (k : Nat) {ad : Option Addr} {m cp j : Nat} {e : TypeId} {xs : List Value} {i : Inf} {v : Value} (hx : opv L x = some (elemP ad j 1)) (hy : opv L y = some v) (hO : O[k]? = some ⟨ad, m, cp, e, 1, xs⟩) (hI : T.inf t = some i) (hi : i.size = 1) (hv : v.oneCell' = true) (hd : dstOk n d = true) (hj : j < m)
    (K : ∀ w', Sees w0 h0 h (O.set k ⟨ad, m, cp, e, 1, xs.set j v⟩) w' → RW P n ops Q (updo d undef L) w' rest) :
    RW P n ops Q L w (⟨d, .store t x y, ty, pos, aft, none⟩ :: rest) := by
  obtain ⟨b, had⟩ := hs.rowAt hO (by omega)
  subst had
  rw [elemP_some, Nat.zero_add, Nat.mul_one] at hx
  have hlen := hs.rowLen hO
  simp only [Nat.mul_one] at hlen
  exact RW.store1 (k := k) T hs hO (u := v) (o := j) (old := xs[j]'(by omega)) hx hy hd hI hi hv (List.getElem?_eq_getElem (by omega)) (fun w' hs' => K w' hs')
/-- a store of a struct, into a row of the call's own -/
theorem RW.stN (hs : Sees w0 h0 h O w) (k : Nat) {ad : Option Addr} {m cp j sz : Nat} {e : TypeId} {xs : List Value} {i : Inf} {cs : Array Value} (hx : opv L x = some (elemP ad j sz)) (hy : opv L y = some (.agg cs)) (hO : O[k]? = some ⟨ad, m, cp, e, sz, xs⟩) (hI : T.inf t = some i) (hi : i.size = sz) (hc : cs.size = sz) (hv : ∀ u ∈ cs.toList, u.oneCell' = true) (hd : dstOk n d = true) (hj : j < m)
    (K : ∀ w', Sees w0 h0 h (O.set k ⟨ad, m, cp, e, sz, putCells xs (j * sz) cs.toList⟩) w' → RW P n ops Q (updo d undef L) w' rest) :
    RW P n ops Q L w (⟨d, .store t x y, ty, pos, aft, none⟩ :: rest) := by
  obtain ⟨b, had⟩ := hs.rowAt hO (by omega)
  subst had
  rw [elemP_some, Nat.zero_add] at hx
  have hlen := hs.rowLen hO
  simp only at hlen
  refine RW.storeN (k := k) T hs hO hx hy hd hI (by rw [hc, hi]) hv ?_ (fun w' hs' => K w' hs')
  rw [hc, hlen]
  have : (j + 1) * sz ≤ m * sz := Nat.mul_le_mul_right _ hj
  rw [Nat.add_mul] at this; omega
/-! what stands next: for a script's choice -/
theorem RW.isRW {r : List Oper} (hh : RW P n ops Q L w r) : RW P n ops Q L w r := hh
theorem CW.isCW {c : Code} (hh : CW P n Q c L w) : CW P n Q c L w := hh
theorem RW.isLoad {g : Option (Nat × Bool)} (hh : RW P n ops Q L w (⟨d, .load t x, ty, pos, aft, g⟩ :: rest)) : RW P n ops Q L w (⟨d, .load t x, ty, pos, aft, g⟩ :: rest) := hh
theorem RW.isGuard {op : Op} {g : Nat × Bool} (hh : RW P n ops Q L w (⟨d, op, ty, pos, aft, some g⟩ :: rest)) : RW P n ops Q L w (⟨d, op, ty, pos, aft, some g⟩ :: rest) := hh
end
end Go.Proofs.YtmojpbfkpggjhaaGreat

/-
  The program logic, sixth part: regions that draw their order. No statement is proved here.
-/
namespace Go.Proofs.YtmojpbfkpggjhaaGreat
open Go Go.RowKit
set_option linter.unusedVariables false
set_option linter.unusedSimpArgs false

theorem Sees.weaken {w0 w : World} {h0 h h' : GHeap} {O : List Row} (hs : Sees w0 h0 h O w) {w' : World} (hs' : Sees w0 h0 h' O w') (hl : GLe h h') : Sees w0 h0 h O w' :=
  ⟨hs'.below, fun b cs hb => hs'.agree b cs (hl b cs hb), hs.le, hs.old, fun r hr => ⟨(hs'.own r hr).1, (hs.own r hr).2⟩, hs'.apart⟩

def QW (P : Program) (n : Nat) (ops : List Oper) (C : World → Prop) (K : Env → Prop) (L : Env) (rest : List Oper) : Prop :=
  ∀ a, Fits n L a → wpQuiet P ops.toArray C (fun a' => ∃ L', Fits n L' a' ∧ K L') rest a
def SW (P : Program) (n : Nat) (ops : List Oper) (w : World) (K : Env → Prop) (L : Env) (rest : List Oper) : Prop :=
  ∀ a, Fits n L a → wpStill P ops.toArray w (fun a' => ∃ L', Fits n L' a' ∧ K L') rest a

section
variable {P : Program} (T : Tab P) {n : Nat} {Q : Post} {L : Env} {w0 w : World} {h0 h : GHeap} {O : List Row} {ops rest : List Oper} {x y c : Operand} {t : TypeId}
variable {d : Option Tmp} {ty : TypeId} {pos : String} {aft : Array Edge} {C : World → Prop} {K : Env → Prop}

theorem CW.regionQ (T' : Tab P) (hs : Sees w0 h0 h O w) {id : Nat} {l : List Oper} (hq : QW P n l (Sees w0 h0 h O) (fun L' => ∀ w', Sees w0 h0 h O w' → Q .normal L' w') L l) (hB : Region.lexB .any l.toArray = true) : CW P n Q (.region id l.toArray true) L w := by
  intro a ha
  refine wp_region_quiet (C := Sees w0 h0 h O) T'.mixed hB hs.drew ?_
  have key : ∀ (r : List Oper) (a : Act), wpQuiet P l.toArray (Sees w0 h0 h O) (fun a' => ∃ L', Fits n L' a' ∧ ∀ w', Sees w0 h0 h O w' → Q .normal L' w') r a → wpQuiet P l.toArray (Sees w0 h0 h O) (fun a' => ∀ w', Sees w0 h0 h O w' → QL n Q .normal a' w') r a := by
    intro r
    induction r with
    | nil => intro a hh w' hw'; obtain ⟨L', h1, h2⟩ := hh; exact ⟨L', h1, h2 w' hw'⟩
    | cons o r ih =>
      intro a hh
      unfold wpQuiet at hh ⊢
      split
      · rename_i hw; rw [if_pos hw] at hh; exact Oper.quiet_mono (fun a => ih a) hh
      · rename_i hw; rw [if_neg hw] at hh; exact ih _ hh
  exact key _ a (by simpa using hq a ha)
theorem QW.nil (hk : K L) : QW P n ops C K L [] := fun _ ha => wpQuiet_nil ⟨L, ha, hk⟩
theorem QW.val {op : Op} {v : Value} (hy : ∀ w, C w → Yields P n L w op ty v) (hd : dstOk n d = true) (hh : QW P n ops C K (updo d v L) rest) : QW P n ops C K L (⟨d, op, ty, pos, aft, none⟩ :: rest) := by
  intro a ha
  unfold wpQuiet
  rw [if_pos (by simp [Region.wanted])]
  refine ⟨v, fun w hw => ?_, hh _ (ha.put v hd)⟩
  unfold Oper.quietAt
  rw [hy w hw a ha]
  exact ⟨rfl, rfl⟩
theorem QW.guardYes {op : Op} {j : Nat} {want : Bool} {t : Tmp} (hj : gdst ops j = some t) (ht : get L t = some (.bool want))
    (hh : QW P n ops C K L (⟨d, op, ty, pos, aft, none⟩ :: rest)) : QW P n ops C K L (⟨d, op, ty, pos, aft, some (j, want)⟩ :: rest) := by
  intro a ha
  have h' := hh a ha
  unfold wpQuiet at h' ⊢
  rw [if_pos (by simp [Region.wanted])] at h'
  rw [if_pos (by simp [Region.wanted, yielded_of ha hj ht])]
  exact h'
theorem QW.guardNo {op : Op} {j : Nat} {want b : Bool} {t : Tmp} (hj : gdst ops j = some t) (ht : get L t = some (.bool b)) (hb : (b == want) = false)
    (hd : dstOk n d = true) (hh : QW P n ops C K (updo d undef L) rest) : QW P n ops C K L (⟨d, op, ty, pos, aft, some (j, want)⟩ :: rest) := by
  intro a ha
  unfold wpQuiet
  rw [if_neg (by simp [Region.wanted, yielded_of ha hj ht]; simpa using hb)]
  exact hh _ (ha.put undef hd)
theorem QW.guardUndef {op : Op} {j : Nat} {want : Bool} {t : Tmp} (hj : gdst ops j = some t) (ht : get L t = some undef)
    (hd : dstOk n d = true) (hh : QW P n ops C K (updo d undef L) rest) : QW P n ops C K L (⟨d, op, ty, pos, aft, some (j, want)⟩ :: rest) := by
  intro a ha
  unfold wpQuiet
  rw [if_neg (by simp [Region.wanted, yielded_undef ha hj ht])]
  exact hh _ (ha.put undef hd)
theorem QW.split {t : Tmp} {b : Bool} (ht : get L t = some (.bool b)) (h1 : b = true → QW P n ops C K ((t, .bool true) :: L) rest) (h2 : b = false → QW P n ops C K ((t, .bool false) :: L) rest) : QW P n ops C K L rest := by
  intro a ha
  cases b with
  | true => exact h1 rfl a ⟨ha.size, ha.defers, fun k v hk => by
      rw [get_cons] at hk
      by_cases e : t = k
      · subst e; simp at hk; subst hk; exact ha.get _ _ ht
      · simp [e] at hk; exact ha.get _ _ hk⟩
  | false => exact h2 rfl a ⟨ha.size, ha.defers, fun k v hk => by
      rw [get_cons] at hk
      by_cases e : t = k
      · subst e; simp at hk; subst hk; exact ha.get _ _ ht
      · simp [e] at hk; exact ha.get _ _ hk⟩
theorem QW.gd {op : Op} {j : Nat} {want : Bool} {p : Prop} [Decidable p] {u : Tmp} (_hj : gdst ops j = some u) (ht : get L u = some (.bool (decide p)))
    (h1 : p → QW P n ops C K ((u, .bool true) :: L) (⟨d, op, ty, pos, aft, some (j, want)⟩ :: rest)) (h2 : ¬ p → QW P n ops C K ((u, .bool false) :: L) (⟨d, op, ty, pos, aft, some (j, want)⟩ :: rest)) :
    QW P n ops C K L (⟨d, op, ty, pos, aft, some (j, want)⟩ :: rest) :=
  QW.split ht (fun e => h1 (of_decide_eq_true e)) (fun e => h2 (of_decide_eq_false e))
theorem QW.gdY {op : Op} {j : Nat} {want : Bool} {p : Prop} [Decidable p] {u : Tmp} (hj : gdst ops j = some u) (ht : get L u = some (.bool (decide p))) (hp : p)
    (h1 : QW P n ops C K ((u, .bool true) :: L) (⟨d, op, ty, pos, aft, some (j, want)⟩ :: rest)) : QW P n ops C K L (⟨d, op, ty, pos, aft, some (j, want)⟩ :: rest) :=
  QW.gd hj ht (fun _ => h1) (fun hn => absurd hp hn)
theorem QW.gdN {op : Op} {j : Nat} {want : Bool} {p : Prop} [Decidable p] {u : Tmp} (hj : gdst ops j = some u) (ht : get L u = some (.bool (decide p))) (hp : ¬ p)
    (h1 : QW P n ops C K ((u, .bool false) :: L) (⟨d, op, ty, pos, aft, some (j, want)⟩ :: rest)) : QW P n ops C K L (⟨d, op, ty, pos, aft, some (j, want)⟩ :: rest) :=
  QW.gd hj ht (fun h => absurd h hp) (fun _ => h1)
/-- a call whose value hangs on nothing that the order may turn -/
theorem QW.call (_hs : Sees w0 h0 h O w) {f : FuncId} {l : List Operand} {vs : List Value} (hargs : opvs L l = some vs) (hf : T.call f = true) (hd : dstOk n d = true) {ats : Array TypeId} {v : Value} (hc : ∀ w, Con P f vs w h (fun _ u => u = v))
    (hk : QW P n ops (Sees w0 h0 h O) K (updo d v L) rest) :
    QW P n ops (Sees w0 h0 h O) K L (⟨d, .call ⟨.value (.func f), l.toArray, ats⟩, ty, pos, aft, none⟩ :: rest) := by
  intro a ha
  unfold wpQuiet
  rw [if_pos (by simp [Region.wanted])]
  refine ⟨v, fun w1 hs => ?_, hk _ (ha.put v hd)⟩
  obtain ⟨fn, hfn, hname, hbody⟩ := T.call_ok f hf
  have hrun : (execOp a.eval ⟨d, .call ⟨.value (.func f), l.toArray, ats⟩, ty, pos, aft, none⟩).run P w1 = .ok (.enter f vs.toArray) w1 := by
    have hargs' : l.map a.eval = vs := ha.evals hargs
    have hname' : ¬ fn.name = "runtime.NumGoroutine" := by simpa using hname
    have hbody' : ¬ fn.body = none := fun e => by rw [e] at hbody; simp at hbody
    have hcl : a.eval (.func f) = .func (.func f) #[] #[] := rfl
    simp [execOp, resolve, Deferred.ofValue, hcl, invoke, callFunc, hfn, hname', hbody', ← hargs']
  unfold Oper.quietAt
  rw [hrun]
  refine ⟨rfl, (hc w1 hs.agree).mono ?_⟩
  rintro e w' ⟨u, h', rfl, hs', rfl⟩
  exact ⟨rfl, hs.weaken (hs.call hs') hs'.le⟩

theorem CW.regionT (T' : Tab P) (m : Nat) (hs : Sees w0 h0 h O w) {id : Nat} {l : List Oper} (hq : ∀ w, Sees w0 h0 h O w → SW P n l w (fun L' => RW P n l Q L' w (l.drop m)) L (l.take m)) (hB : Region.lexTailB .any l.toArray m = true) : CW P n Q (.region id l.toArray true) L w := by
  intro a ha
  refine wp_region_still_tail m T'.mixed hB ?_
  have key : ∀ (r : List Oper) (a : Act), wpStill P l.toArray { w with drawn := w.drawn + 1 } (fun a' => ∃ L', Fits n L' a' ∧ RW P n l Q L' { w with drawn := w.drawn + 1 } (l.drop m)) r a → wpStill P l.toArray { w with drawn := w.drawn + 1 } (fun a' => wpList P l.toArray (QL n Q) (l.drop m) a' { w with drawn := w.drawn + 1 }) r a := by
    intro r
    induction r with
    | nil => intro a hh; obtain ⟨L', h1, h2⟩ := hh; exact h2 a h1
    | cons o r ih =>
      intro a hh
      unfold wpStill at hh ⊢
      split
      · rename_i hw
        rw [if_pos hw] at hh
        unfold Oper.still at hh ⊢
        generalize (execOp a.eval o).run P { w with drawn := w.drawn + 1 } = res at hh ⊢
        cases res with
        | halt => exact hh
        | ok nx w' =>
          cases nx <;> first
            | exact hh
            | exact ⟨hh.1, ih _ hh.2⟩
            | (obtain ⟨e, v, h1, h2⟩ := hh; exact ⟨e, v, h1, ih _ h2⟩)
      · rename_i hw; rw [if_neg hw] at hh; exact ih _ hh
  exact key _ a (hq _ hs.drew a ha)
theorem SW.nil (hk : K L) : SW P n ops w K L [] := fun _ ha => wpStill_nil ⟨L, ha, hk⟩
theorem SW.val {op : Op} {v : Value} (hy : Yields P n L w op ty v) (hd : dstOk n d = true) (hh : SW P n ops w K (updo d v L) rest) : SW P n ops w K L (⟨d, op, ty, pos, aft, none⟩ :: rest) := by
  intro a ha
  unfold wpStill
  rw [if_pos (by simp [Region.wanted])]
  unfold Oper.still
  rw [hy a ha]
  exact ⟨rfl, hh _ (ha.put v hd)⟩
theorem SW.guardYes {op : Op} {j : Nat} {want : Bool} {t : Tmp} (hj : gdst ops j = some t) (ht : get L t = some (.bool want))
    (hh : SW P n ops w K L (⟨d, op, ty, pos, aft, none⟩ :: rest)) : SW P n ops w K L (⟨d, op, ty, pos, aft, some (j, want)⟩ :: rest) := by
  intro a ha
  have h' := hh a ha
  unfold wpStill at h' ⊢
  rw [if_pos (by simp [Region.wanted])] at h'
  rw [if_pos (by simp [Region.wanted, yielded_of ha hj ht])]
  exact h'
theorem SW.guardNo {op : Op} {j : Nat} {want b : Bool} {t : Tmp} (hj : gdst ops j = some t) (ht : get L t = some (.bool b)) (hb : (b == want) = false)
    (hd : dstOk n d = true) (hh : SW P n ops w K (updo d undef L) rest) : SW P n ops w K L (⟨d, op, ty, pos, aft, some (j, want)⟩ :: rest) := by
  intro a ha
  unfold wpStill
  rw [if_neg (by simp [Region.wanted, yielded_of ha hj ht]; simpa using hb)]
  exact hh _ (ha.put undef hd)
end
end Go.Proofs.YtmojpbfkpggjhaaGreat

/-
  The program logic, seventh part: literals, structs, reslicing, floats; regions in whatever order with operations that make memory. No statement is proved here.
-/
namespace Go.Proofs.YtmojpbfkpggjhaaGreat
open Go Go.RowKit
set_option linter.unusedVariables false
set_option linter.unusedSimpArgs false

section
variable {P : Program} (T : Tab P) {n : Nat} {Q : Post} {L : Env} {w0 w : World} {h0 h : GHeap} {O : List Row} {ops rest : List Oper} {x y c : Operand} {t : TypeId}
variable {d : Option Tmp} {ty : TypeId} {pos : String} {aft : Array Edge}

/-! ## Reslicing -/
/-- the address behind a reslice -/
def subAd (ad : Option Addr) (l m sz : Nat) : Option Addr := if m = l then ad else ad.map (·.add (l * sz))
theorem Y.sliceHi {e : TypeId} {i : Inf} {ad : Option Addr} {m cp : Nat} {k : IntKind} {u : Int} {hi : Operand} (hT : T.ty t = some (.slice e)) (hI : T.inf e = some i) (hx : opv L x = some (.slice ad m cp)) (hh : opv L hi = some (.int k u)) (h0' : 0 ≤ u ∧ u ≤ cp) :
    Yields P n L w (.slice t x none (some hi) none) ty (.slice ad u.toNat cp) := by
  intro a ha d pos aft g
  have h1 : P.underlying t = some (.slice e) := T.ty_ok _ _ hT
  simp [execOp, Instr.sliceAt, Instr.slice, run_underlying h1, ha.eval hx, ha.eval hh, Instr.sliceBounds, Instr.sliceBound, asIntOf, h0', T.sizeOf hI]
  intro _
  cases ad <;> simp [Addr.add]
theorem Y.sliceLo {e : TypeId} {i : Inf} {ad : Option Addr} {m cp : Nat} {k : IntKind} {u : Int} {lo : Operand} (hT : T.ty t = some (.slice e)) (hI : T.inf e = some i) (hx : opv L x = some (.slice ad m cp)) (hh : opv L lo = some (.int k u)) (h0' : 0 ≤ u ∧ u ≤ m) (_hm : m ≤ cp) :
    Yields P n L w (.slice t x (some lo) none none) ty (.slice (subAd ad u.toNat cp i.size) (m - u.toNat) (cp - u.toNat)) := by
  intro a ha d pos aft g
  have h1 : P.underlying t = some (.slice e) := T.ty_ok _ _ hT
  simp [execOp, Instr.sliceAt, Instr.slice, run_underlying h1, ha.eval hx, ha.eval hh, Instr.sliceBounds, Instr.sliceBound, asIntOf, h0', T.sizeOf hI, subAd]
theorem Y.sliceLH {e : TypeId} {i : Inf} {ad : Option Addr} {m cp : Nat} {k k' : IntKind} {u v : Int} {lo hi : Operand} (hT : T.ty t = some (.slice e)) (hI : T.inf e = some i) (hx : opv L x = some (.slice ad m cp)) (hl : opv L lo = some (.int k u)) (hh : opv L hi = some (.int k' v)) (h0' : 0 ≤ u ∧ u ≤ v ∧ v ≤ cp) :
    Yields P n L w (.slice t x (some lo) (some hi) none) ty (.slice (subAd ad u.toNat cp i.size) (v.toNat - u.toNat) (cp - u.toNat)) := by
  intro a ha d pos aft g
  have h1 : P.underlying t = some (.slice e) := T.ty_ok _ _ hT
  have a1 : 0 ≤ v ∧ v ≤ cp := by omega
  have a2 : 0 ≤ u ∧ u ≤ (v.toNat : Int) := by omega
  simp [execOp, Instr.sliceAt, Instr.slice, run_underlying h1, ha.eval hx, ha.eval hl, ha.eval hh, Instr.sliceBounds, Instr.sliceBound, asIntOf, a1, a2, T.sizeOf hI, subAd]
  intro hbad
  omega
theorem Y.slice3 {e : TypeId} {i : Inf} {ad : Option Addr} {m cp : Nat} {k k' k2 : IntKind} {u v z : Int} {lo hi mx : Operand} (hT : T.ty t = some (.slice e)) (hI : T.inf e = some i) (hx : opv L x = some (.slice ad m cp)) (hl : opv L lo = some (.int k u)) (hh : opv L hi = some (.int k' v)) (hz : opv L mx = some (.int k2 z)) (h0' : 0 ≤ u ∧ u ≤ v ∧ v ≤ z ∧ z ≤ cp) :
    Yields P n L w (.slice t x (some lo) (some hi) (some mx)) ty (.slice (subAd ad u.toNat z.toNat i.size) (v.toNat - u.toNat) (z.toNat - u.toNat)) := by
  intro a ha d pos aft g
  have h1 : P.underlying t = some (.slice e) := T.ty_ok _ _ hT
  have a0 : 0 ≤ z ∧ z ≤ cp := by omega
  have a1 : 0 ≤ v ∧ v ≤ (z.toNat : Int) := by omega
  have a2 : 0 ≤ u ∧ u ≤ (v.toNat : Int) := by omega
  simp [execOp, Instr.sliceAt, Instr.slice, run_underlying h1, ha.eval hx, ha.eval hl, ha.eval hh, ha.eval hz, Instr.sliceBounds, Instr.sliceBound, asIntOf, a0, a1, a2, T.sizeOf hI, subAd]
  rw [if_pos (by omega), if_pos (by omega)]
theorem Sl.from {ad : Option Addr} {m cp sz : Nat} {xs : List Value} (hS : Sl h sz ad m cp xs) (l : Nat) (hl : l ≤ m) : Sl h sz (subAd ad l cp sz) (m - l) (cp - l) (xs.drop (l * sz)) := by
  have hle : l * sz ≤ m * sz := Nat.mul_le_mul_right _ hl
  have hcm := hS.2.1
  refine ⟨by rw [List.length_drop, hS.1, Nat.sub_mul], by omega, by have := hS.2.2.1; omega, ?_, ?_⟩
  · intro e
    cases ad with
    | none => have := hS.2.2.2.1 rfl; omega
    | some p => unfold subAd at e; split at e <;> simp at e
  · intro p hp
    by_cases hc : cp = l
    · have hml : m = l := by omega
      cases ad with
      | none => simp [subAd, hc] at hp
      | some q =>
        simp [subAd, hc] at hp; subst hp
        refine ⟨.inl (by omega), fun j hj => ?_⟩
        rw [Nat.sub_mul, hml] at hj; omega
    · cases ad with
      | none => simp [subAd, hc] at hp
      | some q =>
        simp [subAd, hc] at hp
        obtain ⟨hsp, hcell⟩ := hS.2.2.2.2 q rfl
        rcases hsp with hm0 | hsp
        · subst hp
          refine ⟨.inl (by omega), fun j hj => ?_⟩
          rw [hm0, Nat.zero_sub, Nat.zero_mul] at hj; omega
        have hq : q.add (l * sz) = ⟨q.block, q.off + l * sz, none⟩ := by
          cases q with | mk b o s => simp at hsp; subst hsp; exact Addr.add_lit _ _ _
        rw [hq] at hp; subst hp
        refine ⟨.inr rfl, fun j hj => ?_⟩
        rw [Nat.sub_mul] at hj
        obtain ⟨cs, a, b⟩ := hcell (l * sz + j) (by omega)
        exact ⟨cs, a, by rw [Nat.add_assoc]; rw [b, List.getElem?_drop]⟩

/-! ## Loads out of rows of the call's own -/
theorem Y.loadRow1 (hs : Sees w0 h0 h O w) (k : Nat) {dd : Ty} {b o m cp : Nat} {e : TypeId} {sz : Nat} {xs : List Value} {v : Value} (hO : O[k]? = some ⟨some ⟨b, 0, none⟩, m, cp, e, sz, xs⟩) (hx : opv L x = some (.pointer (some ⟨b, o, none⟩))) (hT : T.ty t = some dd) (hd : dd.agg = false) (hv : xs[o]? = some v) : Yields P n L w (.load t x) ty v :=
  Y.load1 T hT hd hx (hs.rowCell hO hv)
theorem Y.loadRowN (hs : Sees w0 h0 h O w) (k : Nat) {dd : Ty} {i : Inf} {b o m cp : Nat} {e : TypeId} {sz : Nat} {xs cs : List Value} (hO : O[k]? = some ⟨some ⟨b, 0, none⟩, m, cp, e, sz, xs⟩) (hx : opv L x = some (.pointer (some ⟨b, o, none⟩))) (hT : T.ty t = some dd) (hd : dd.agg = true) (hI : T.inf t = some i) (hc : (xs.drop o).take i.size = cs) (hl : cs.length = i.size) : Yields P n L w (.load t x) ty (.agg cs.toArray) := by
  refine Y.loadN T hT hd hI hl hx ?_
  intro j r hj
  refine hs.rowCell hO ?_
  rw [← hc, List.getElem?_take] at hj
  split at hj
  · rw [List.getElem?_drop] at hj; exact hj
  · cases hj

/-! ## Literals -/
theorem fold_putCells : ∀ (cs : List Value) (off k : Nat) (xs : List Value),
    (cs.zipIdx k).foldl (fun (a : Array Value) (p : Value × Nat) => a.setIfInBounds (off + p.2) p.1) xs.toArray = (putCells xs (off + k) cs).toArray
  | [], off, k, xs => by simp [putCells]
  | c :: r, off, k, xs => by
    simp only [List.zipIdx_cons, List.foldl_cons, putCells]
    rw [List.setIfInBounds_toArray, fold_putCells r off (k + 1)]
    rfl
/-- parts laid one by one: place (offset, size) of each, its value -/
def lay : List Value → List (Nat × Nat × Value) → Option (List Value)
  | xs, [] => some xs
  | xs, (off, sz, v) :: r => if v.cells.size = sz ∧ off + sz ≤ xs.length then lay (putCells xs off v.cells.toList) r else none
theorem fill_lay (place : Nat → Option (Nat × Nat)) : ∀ (ps : List (Nat × Value)) (xs : List Value) (qs : List (Nat × Nat × Value)) (ys : List Value),
    ps.map (fun p => (place p.1).map fun q => (q.1, q.2, p.2)) = qs.map some → lay xs qs = some ys → Instr.fill place xs.toArray ps = some ys.toArray
  | [], xs, qs, ys, hq, hl => by
    cases qs with
    | nil => simp [lay] at hl; subst hl; rfl
    | cons q r => simp at hq
  | (i, v) :: r, xs, [], ys, hq, hl => by simp at hq
  | (i, v) :: r, xs, (off, sz, u) :: qs, ys, hq, hl => by
    simp only [List.map_cons, List.cons.injEq] at hq
    obtain ⟨h1, h2⟩ := hq
    cases hp : place i with
    | none => rw [hp] at h1; simp at h1
    | some q =>
      rw [hp] at h1
      simp at h1
      obtain ⟨rfl, rfl, rfl⟩ := h1
      simp only [lay] at hl
      split at hl
      · rename_i hc
        unfold Instr.fill
        rw [hp]
        have hn : ¬ (v.cells.size ≠ q.2 ∨ (decide (q.1 + v.cells.size > xs.toArray.size)) = true) := by
          simp; omega
        have hb : (v.cells.size ≠ q.2 || decide (q.1 + v.cells.size > xs.toArray.size)) = false := by
          simp; omega
        simp only [hb]
        rw [← Array.foldl_toList]
        simp only [Array.toList_zipIdx]
        have := fold_putCells v.cells.toList q.1 0 xs
        simp only [Nat.add_zero] at this
        rw [show (List.foldl (fun (cs : Array Value) (x : Value × Nat) => match x with | (c, j) => cs.setIfInBounds (q.1 + j) c) xs.toArray (v.cells.toList.zipIdx)) = (putCells xs q.1 v.cells.toList).toArray from this]
        exact fill_lay place r _ qs ys h2 hl
      · cases hl
def pairs (L : Env) : List (Nat × Operand) → Option (List (Nat × Value))
  | [] => some []
  | (i, x) :: r => match opv L x, pairs L r with
    | some v, some ps => some ((i, v) :: ps)
    | _, _ => none
theorem Fits.pairs {a : Act} (ha : Fits n L a) : ∀ {l : List (Nat × Operand)} {ps : List (Nat × Value)}, pairs L l = some ps → l.map (fun p => (p.1, a.eval p.2)) = ps
  | [], ps, hx => by simp [Proofs.YtmojpbfkpggjhaaGreat.pairs] at hx; subst hx; rfl
  | (i, x) :: r, ps, hx => by
    simp only [Proofs.YtmojpbfkpggjhaaGreat.pairs] at hx
    cases h1 : opv L x with
    | none => simp [h1] at hx
    | some v => cases h2 : Proofs.YtmojpbfkpggjhaaGreat.pairs L r with
      | none => simp [h1, h2] at hx
      | some qs => simp [h1, h2] at hx; subst hx; simp [ha.eval h1, Fits.pairs ha h2]
def places (fs : List (Nat × Nat)) (szs : List Nat) : List (Nat × Value) → Option (List (Nat × Nat × Value))
  | [] => some []
  | (i, v) :: r => match fs[i]?, szs[i]?, places fs szs r with
    | some f, some s, some qs => some ((f.2, s, v) :: qs)
    | _, _, _ => none
theorem places_map (fs : List (Nat × Nat)) (szs : List Nat) : ∀ (ps : List (Nat × Value)) (qs : List (Nat × Nat × Value)), places fs szs ps = some qs →
    ps.map (fun p => (match fs[p.1]?, szs[p.1]? with | some f, some s => some (f.2, s) | _, _ => none : Option (Nat × Nat)).map fun q => (q.1, q.2, p.2)) = qs.map some
  | [], qs, hh => by simp [places] at hh; subst hh; rfl
  | (i, v) :: r, qs, hh => by
    simp only [places] at hh
    cases h1 : fs[i]? with
    | none => simp [h1] at hh
    | some f => cases h2 : szs[i]? with
      | none => simp [h1, h2] at hh
      | some s => cases h3 : places fs szs r with
        | none => simp [h1, h2, h3] at hh
        | some q => simp [h1, h2, h3] at hh; subst hh; simp [h1, h2, places_map fs szs r q h3]
/-- the sizes of a struct's fields, by the table -/
def sizes (T : Tab P) : List (Nat × Nat) → Option (List Nat)
  | [] => some []
  | f :: r => match T.inf f.1, sizes T r with
    | some i, some ss => some (i.size :: ss)
    | _, _ => none
theorem run_places (fa : List Field) : ∀ (fs : List (Nat × Nat)) (szs : List Nat), fa.map (fun f => (f.type, f.offset)) = fs → sizes T fs = some szs →
    (fa.mapM (m := Sem) fun f => do pure (f.offset, ← sizeOf f.type)).run P w = .ok ((fs.zip szs).map fun p => (p.1.2, p.2)) w := by
  induction fa with
  | nil => intro fs szs h1 h2; simp at h1; subst h1; simp [sizes] at h2; subst h2; simp
  | cons f r ih =>
    intro fs szs h1 h2
    simp at h1; subst h1
    simp only [sizes] at h2
    cases h3 : T.inf f.type with
    | none => simp [h3] at h2
    | some i => cases h4 : sizes T (r.map fun f => (f.type, f.offset)) with
      | none => simp [h3, h4] at h2
      | some ss =>
        simp [h3, h4] at h2; subst h2
        have := ih _ ss rfl h4
        rw [List.mapM_cons, Sem.run_bind, Sem.run_bind, T.sizeOf h3]
        simp only [Result.andThen_ok, Sem.run_pure]
        rw [Sem.run_bind, this]
        simp
theorem Y.build {fs : List (Nat × Nat)} {szs : List Nat} {i : Inf} {z : List Value} {l : List (Nat × Operand)} {ps : List (Nat × Value)} {qs : List (Nat × Nat × Value)} {cs : List Value}
    (hT : T.ty t = some (.struct fs)) (hI : T.inf t = some i) (hz : i.zero.cells.toList = z) (hz' : sizes T fs = some szs) (hp : pairs L l = some ps) (hq : places fs szs ps = some qs) (hc : lay z qs = some cs) : Yields P n L w (.build t l.toArray) ty (.agg cs.toArray) := by
  intro a ha d pos aft g
  obtain ⟨fa, h1, h2⟩ := T.ty_ok _ _ hT
  have hps := ha.pairs hp
  have hpl := run_places (P := P) (w := w) T fa.toList fs szs h2 hz'
  have hpl' : (fa.mapM (m := Sem) fun f => do pure (f.offset, ← sizeOf f.type)).run P w = .ok ((fs.zip szs).map fun p => (p.1.2, p.2)).toArray w := by
    rw [Array.mapM_eq_mapM_toList, Sem.run_map, hpl]; rfl
  have hfill : Instr.fill (((fs.zip szs).map fun p => (p.1.2, p.2)).toArray[·]?) i.zero.cells ps = some cs.toArray := by
    have := fill_lay (((fs.zip szs).map fun p => (p.1.2, p.2)).toArray[·]?) ps z qs cs ?_ hc
    · rw [← hz] at this; simpa using this
    · rw [← places_map fs szs ps qs hq]
      apply List.map_congr_left
      intro p _
      simp only [List.getElem?_toArray, List.getElem?_map, List.zip]
      rw [List.getElem?_zipWith]
      cases fs[p.1]? <;> cases szs[p.1]? <;> rfl
  have hlm : (l.toArray.map fun (p : Nat × Operand) => (p.1, a.eval p.2)).toList = ps := by simpa using hps
  simp only [execOp, Instr.build, Sem.run_bind, T.zeroValue hI, Result.andThen_ok, run_underlying h1, hpl', hlm, hfill, Sem.run_pure]

/-- a slice written out -/
theorem RW.lit (hs : Sees w0 h0 h O w) {e : TypeId} {i : Inf} {len : Nat} {l : List (Nat × Operand)} {vs : List Value} {cs : List Value} (hT : T.ty t = some (.slice e)) (hI : T.inf e = some i) (hp : pairs L l = some (vs.zipIdx.map fun p => (p.2, p.1))) (hlen : vs.length = len) (hsz : ∀ v ∈ vs, v.cells.size = i.size) (_hz : i.zero.cells.size = i.size) (hcs : vs.flatMap (·.cells.toList) = cs) (hd : dstOk n d = true) (hm : Nat.ble (len * i.size) 65536 = true) (hm2 : Nat.ble len 65536 = true)
    (K : ∀ b w', Sees w0 h0 h (⟨some ⟨b, 0, none⟩, len, len, e, i.size, cs⟩ :: O) w' → RW P n ops Q (updo d (.slice (some ⟨b, 0, none⟩) len len) L) w' rest) :
    RW P n ops Q L w (⟨d, .buildSlice t len l.toArray, ty, pos, aft, none⟩ :: rest) := by
  have ht : P.underlying t = some (.slice e) := T.ty_ok _ _ hT
  have hm' : len * i.size ≤ 65536 := Nat.le_of_ble_eq_true hm
  have hm2' : len ≤ 65536 := Nat.le_of_ble_eq_true hm2
  have key : ∀ (vs : List Value) (k : Nat) (pre suf : List Value), (∀ v ∈ vs, v.cells.size = i.size) → pre.length = k * i.size → suf.length = vs.length * i.size →
      lay (pre ++ suf) ((vs.zipIdx k).map fun p => (p.2 * i.size, i.size, p.1)) = some (pre ++ vs.flatMap (·.cells.toList)) := by
    intro vs
    induction vs with
    | nil => intro k pre suf _ _ hs; simp at hs; subst hs; simp [lay]
    | cons v r ih =>
      intro k pre suf h1 h2 h3
      simp only [List.zipIdx_cons, List.map_cons, lay]
      have hv := h1 v List.mem_cons_self
      simp only [List.length_cons, Nat.add_mul, Nat.one_mul] at h3
      rw [if_pos ⟨hv, by simp [h2]; omega⟩]
      have hput : ∀ (cs pre mid suf : List Value) (o : Nat), o = pre.length → mid.length = cs.length → putCells (pre ++ mid ++ suf) o cs = pre ++ cs ++ suf := by
        intro cs
        induction cs with
        | nil => intro pre mid suf o _ hm; simp at hm; subst hm; simp [putCells]
        | cons c r ih =>
          intro pre mid suf o ho hm
          cases mid with
          | nil => simp at hm
          | cons m1 mr =>
            simp only [putCells]
            have : (pre ++ m1 :: mr ++ suf).set o c = (pre ++ [c]) ++ mr ++ suf := by subst ho; simp
            rw [this, ih (pre ++ [c]) mr suf (o + 1) (by simp [ho]) (by simpa using hm)]
            simp
      have hsplit : suf = suf.take i.size ++ suf.drop i.size := (List.take_append_drop _ _).symm
      rw [hsplit, ← List.append_assoc, hput v.cells.toList pre (suf.take i.size) (suf.drop i.size) (k * i.size) h2.symm (by simp [hv]; omega)]
      rw [ih (k + 1) (pre ++ v.cells.toList) (suf.drop i.size) (fun u hu => h1 u (List.mem_cons_of_mem _ hu)) (by simp [h2, hv, Nat.add_mul]) (by simp; omega)]
      simp
  have hlcs : cs.length = len * i.size := by
    rw [← hcs, ← hlen]
    clear key hp hcs hlen hm hm' hm2 hm2'
    induction vs with
    | nil => simp
    | cons v r ih => simp [ih (fun u hu => hsz u (List.mem_cons_of_mem _ hu)), hsz v List.mem_cons_self, Nat.add_mul, Nat.add_comm]
  refine RW.step (v := .slice (some ⟨w.heap.size, 0, none⟩) len len) (w' := w.alloc (.cells cs.toArray e)) ?_ hd (K w.heap.size _ ?_)
  · intro a ha
    have hps := ha.pairs hp
    have hlm : (l.toArray.map fun (p : Nat × Operand) => (p.1, a.eval p.2)).toList = vs.zipIdx.map fun p => (p.2, p.1) := by simpa using hps
    have hzero : ((Array.range (len * i.size)).map fun j => i.zero.cells[j % i.zero.cells.size]!) = (madeCells i.zero.cells (len * i.size)) := rfl
    have hml : (madeCells i.zero.cells (len * i.size)).toList.length = vs.length * i.size := by simp [size_madeCells, hlen]
    have hfill := fill_lay (fun j => some (j * i.size, i.size)) (vs.zipIdx.map fun p => (p.2, p.1)) (madeCells i.zero.cells (len * i.size)).toList (vs.zipIdx.map fun p => (p.2 * i.size, i.size, p.1)) cs (by simp) (by
      have := key vs 0 [] _ hsz (by simp) hml
      simpa [hcs] using this)
    simp only [Array.toArray_toList] at hfill
    have hbig : ¬ len * i.size > 2 ^ 24 := by omega
    by_cases h0 : len * i.size = 0
    · have e0 : ∀ f g : Nat → Value, (Array.range (len * i.size)).map f = (Array.range (len * i.size)).map g := by intro f g; rw [h0]; simp
      simp only [execOp, Instr.buildSlice, Sem.run_bind, run_underlying ht, Result.andThen_ok, T.sizeOf hI, hbig, if_false, hlm]
      rw [if_pos h0]
      simp only [pure_bind]
      rw [e0 _ (fun j => i.zero.cells[j % i.zero.cells.size]!), hzero, hfill]
      rfl
    · simp only [execOp, Instr.buildSlice, Sem.run_bind, run_underlying ht, Result.andThen_ok, T.sizeOf hI, hbig, if_false, Sem.run_pure, h0, hlm, T.zeroValue hI]
      rw [hzero, hfill]
      rfl
  · exact hs.alloc (cs := cs) (n := len) (cap := len) (Nat.le_refl _) (by simp [maxLen]; omega) hlcs (List.take_of_length_le (by omega))

theorem Y.sliceNil {e : TypeId} {ad : Option Addr} {m cp m' cp' : Nat} {yt : TypeId} (hT : T.ty t = some (.slice e)) (hx : opv L x = some (.slice ad m cp)) (hy : opv L y = some (.slice none m' cp')) : Yields P n L w (.binOp .eql t x y yt) ty (.bool ad.isNone) := by
  intro a ha d pos aft g
  have ht : P.underlying t = some (.slice e) := T.ty_ok _ _ hT
  have hg : eqGuard .eql t x y (.slice ad m cp) (.slice none m' cp') = pure () := rfl
  simp only [execOp, ha.eval hx, ha.eval hy, hg, pure_bind]
  have hb' : ∀ k, (Op.equalIn (k + 1) t (.slice ad m cp) (.slice none m' cp')).run P w = .ok ad.isNone w := by
    intro k
    unfold Op.equalIn
    simp only [Sem.run_bind, run_underlying ht, Result.andThen_ok]
    cases ad <;> rfl
  have hb : (Op.equal t (.slice ad m cp) (.slice none m' cp')).run P w = .ok ad.isNone w := hb' 9999
  simp only [binOp, Sem.run_bind, hb, Result.andThen_ok, Sem.run_pure]
end

/-! ## Regions in whatever order, with operations that make memory -/
def HW (P : Program) (n : Nat) (ops : List Oper) (Q : Post) (S : World → Prop) (fuel : Nat) (listed : Array Bool) (L : Env) (w : World) : Prop :=
  ∀ a, Fits n L a → wpAnyH P .any ops.toArray (QL n Q) S fuel listed a w
def heldQ (P : Program) (n : Nat) (ops : List Oper) (Q : Post) (S : World → Prop) (fuel : Nat) (listed : Array Bool) : Post := fun e L w => match e with
  | .normal => S w ∧ HW P n ops Q S fuel listed L w
  | e => Q e L w
/-- a post that a panic does not meet -/
def calmQ (Q : Post) : Post := fun e L w => match e with
  | .panic _ => False
  | e => Q e L w
section
variable {P : Program} (T : Tab P) {n : Nat} {Q : Post} {S : World → Prop} {fuel : Nat} {listed : Array Bool} {L : Env} {w0 w : World} {h0 h : GHeap} {O : List Row} {ops : List Oper}
theorem CW.regionH (T' : Tab P) {id : Nat} {l : List Oper} (S : World → Prop) (hw : ∀ w', w' = { w with drawn := w.drawn + 1 } → HW P n l (calmQ Q) S l.length (Array.replicate l.length false) L w') : CW P n Q (.region id l.toArray true) L w := by
  refine CW.mono (Q := calmQ Q) ?_ (fun e L w q => by cases e <;> first | exact q | exact q.elim)
  intro a ha
  exact wp_region_held (S := S) T'.mixed (by simpa using hw _ rfl a ha)
theorem HW.take (i : Nat) {d : Option Tmp} {op : Op} {ty : TypeId} {pos : String} {aft : Array Edge} {v : Value} (hi : ops.toArray[i]? = some ⟨d, op, ty, pos, aft, none⟩) (hy : ∀ w, S w → Yields P n L w op ty v) (hS : S w) (hd : dstOk n d = true)
    (hs : Region.noSelect ops.toArray = true) (hf : Region.free .any ops.toArray listed i = true) (hr : (Region.ready .any ops.toArray listed).contains i = true)
    (hh : HW P n ops (calmQ Q) S fuel (listed.setIfInBounds i true) (updo d v L) w) : HW P n ops (calmQ Q) S (fuel + 1) listed L w := by
  intro a ha
  exact wpAnyH_take hi hs hf hr (fun c a w ⟨L', _, q⟩ => q.elim) (.inl ⟨by simp [Region.wanted], fun w' hw' => hy w' hw' a ha _ _ _ _⟩) hS (hh _ (ha.put v hd))
theorem HW.takeYes (i : Nat) {d : Option Tmp} {op : Op} {ty : TypeId} {pos : String} {aft : Array Edge} {v : Value} {j : Nat} {want : Bool} {t : Tmp} (hi : ops.toArray[i]? = some ⟨d, op, ty, pos, aft, some (j, want)⟩) (hj : gdst ops j = some t) (ht : get L t = some (.bool want)) (hy : ∀ w, S w → Yields P n L w op ty v) (hS : S w) (hd : dstOk n d = true)
    (hs : Region.noSelect ops.toArray = true) (hf : Region.free .any ops.toArray listed i = true) (hr : (Region.ready .any ops.toArray listed).contains i = true)
    (hh : HW P n ops (calmQ Q) S fuel (listed.setIfInBounds i true) (updo d v L) w) : HW P n ops (calmQ Q) S (fuel + 1) listed L w := by
  intro a ha
  exact wpAnyH_take hi hs hf hr (fun c a w ⟨L', _, q⟩ => q.elim) (.inl ⟨by simp [Region.wanted, yielded_of ha hj ht], fun w' hw' => hy w' hw' a ha _ _ _ _⟩) hS (hh _ (ha.put v hd))
theorem HW.takeNo (i : Nat) {d : Option Tmp} {op : Op} {ty : TypeId} {pos : String} {aft : Array Edge} {j : Nat} {want b : Bool} {t : Tmp} (hi : ops.toArray[i]? = some ⟨d, op, ty, pos, aft, some (j, want)⟩) (hj : gdst ops j = some t) (ht : get L t = some (.bool b)) (hb : (b == want) = false) (hS : S w) (hd : dstOk n d = true)
    (hs : Region.noSelect ops.toArray = true) (hf : Region.free .any ops.toArray listed i = true) (hr : (Region.ready .any ops.toArray listed).contains i = true)
    (hh : HW P n ops (calmQ Q) S fuel (listed.setIfInBounds i true) (updo d undef L) w) : HW P n ops (calmQ Q) S (fuel + 1) listed L w := by
  intro a ha
  exact wpAnyH_take hi hs hf hr (fun c a w ⟨L', _, q⟩ => q.elim) (.inr ⟨by simp [Region.wanted, yielded_of ha hj ht]; simpa using hb, rfl⟩) hS (hh _ (ha.put undef hd))
theorem HW.split {t : Tmp} {b : Bool} (ht : get L t = some (.bool b)) (h1 : b = true → HW P n ops Q S fuel listed ((t, .bool true) :: L) w) (h2 : b = false → HW P n ops Q S fuel listed ((t, .bool false) :: L) w) : HW P n ops Q S fuel listed L w := by
  intro a ha
  cases b with
  | true => exact h1 rfl a ⟨ha.size, ha.defers, fun k v hk => by
      rw [get_cons] at hk
      by_cases e : t = k
      · subst e; simp at hk; subst hk; exact ha.get _ _ ht
      · simp [e] at hk; exact ha.get _ _ hk⟩
  | false => exact h2 rfl a ⟨ha.size, ha.defers, fun k v hk => by
      rw [get_cons] at hk
      by_cases e : t = k
      · subst e; simp at hk; subst hk; exact ha.get _ _ ht
      · simp [e] at hk; exact ha.get _ _ hk⟩
theorem HW.done (hr : Region.ready .any ops.toArray listed = []) (hq : Q .normal L w) : HW P n ops Q S fuel listed L w := fun _ ha => wpAnyH_done hr ⟨L, ha, hq⟩ fuel
theorem HW.op {i : Nat} {o : Oper} (hi : ops.toArray[i]? = some o) (hh : RW P n ops (heldQ P n ops Q S fuel (listed.setIfInBounds i true)) L w [o]) {a : Act} (ha : Fits n L a) :
    wpOp P ops.toArray (QL n Q) i (fun a' w' => S w' ∧ wpAnyH P .any ops.toArray (QL n Q) S fuel (listed.setIfInBounds i true) a' w') a w := by
  have h1 := hh a ha
  unfold wpOp
  simp only [hi]
  unfold wpList at h1
  split
  · rename_i hw
    rw [if_pos hw] at h1
    have conv : ∀ a' w', wpList P ops.toArray (QL n (heldQ P n ops Q S fuel (listed.setIfInBounds i true))) [] a' w' → S w' ∧ wpAnyH P .any ops.toArray (QL n Q) S fuel (listed.setIfInBounds i true) a' w' := by
      rintro a' w' ⟨L', hL', q⟩
      exact ⟨q.1, q.2 a' hL'⟩
    rcases h1 with h1 | ⟨h1, h2⟩
    · refine .inl ?_
      unfold Oper.wp at h1 ⊢
      generalize (execOp a.eval o).run P w = r at h1 ⊢
      cases r with
      | ok nx w' =>
        cases nx <;> simp only [Oper.upon] at h1 ⊢ <;> first
          | exact conv _ _ h1
          | (refine Calls.mono h1 fun e w'' he => ?_
             cases e with
             | returned v => exact conv _ _ he
             | panicked ch => obtain ⟨L', hL', q⟩ := he; exact ⟨L', hL', q⟩
             | outgrown => obtain ⟨a1, w1, L', hL', q⟩ := he; exact ⟨a1, w1, L', hL', q⟩)
          | exact Rows.mono h1 fun v w'' he => conv _ _ he
      | halt x w' => cases x <;> simp only [Oper.upon] at h1 ⊢; obtain ⟨L', hL', q⟩ := h1; exact ⟨L', hL', q⟩
    · refine .inr ⟨h1, ?_⟩
      obtain ⟨a1, w1, L', hL', q⟩ := h2
      exact ⟨a1, w1, L', hL', q⟩
  · rename_i hw
    rw [if_neg hw] at h1
    obtain ⟨L', hL', q⟩ := h1
    exact ⟨q.1, q.2 _ hL'⟩
/-- one that may come up -/
theorem HW.one (i : Nat) {o : Oper} (hi : ops.toArray[i]? = some o) (hr : Region.ready .any ops.toArray listed = [i]) (hh : RW P n ops (heldQ P n ops Q S fuel (listed.setIfInBounds i true)) L w [o]) : HW P n ops Q S (fuel + 1) listed L w :=
  fun _ ha => wpAnyH_all hr (by simp) (by intro j hj; simp at hj; subst hj; exact HW.op hi hh ha)
/-- two that may come up -/
theorem HW.two (i j : Nat) {o o' : Oper} (hi : ops.toArray[i]? = some o) (hj : ops.toArray[j]? = some o') (hr : Region.ready .any ops.toArray listed = [i, j]) (hh : RW P n ops (heldQ P n ops Q S fuel (listed.setIfInBounds i true)) L w [o]) (hh' : RW P n ops (heldQ P n ops Q S fuel (listed.setIfInBounds j true)) L w [o']) : HW P n ops Q S (fuel + 1) listed L w :=
  fun _ ha => wpAnyH_all hr (by simp) (by
    intro k hk; simp at hk
    rcases hk with rfl | rfl
    · exact HW.op hi hh ha
    · exact HW.op hj hh' ha)
theorem HW.three (i j k : Nat) {o o' o2 : Oper} (hi : ops.toArray[i]? = some o) (hj : ops.toArray[j]? = some o') (hk : ops.toArray[k]? = some o2) (hr : Region.ready .any ops.toArray listed = [i, j, k]) (hh : RW P n ops (heldQ P n ops Q S fuel (listed.setIfInBounds i true)) L w [o]) (hh' : RW P n ops (heldQ P n ops Q S fuel (listed.setIfInBounds j true)) L w [o']) (hh2 : RW P n ops (heldQ P n ops Q S fuel (listed.setIfInBounds k true)) L w [o2]) : HW P n ops Q S (fuel + 1) listed L w :=
  fun _ ha => wpAnyH_all hr (by simp) (by
    intro q hq; simp at hq
    rcases hq with rfl | rfl | rfl
    · exact HW.op hi hh ha
    · exact HW.op hj hh' ha
    · exact HW.op hk hh2 ha)
theorem heldQ_normal (hS : S w) (hh : HW P n ops Q S fuel listed L w) : heldQ P n ops Q S fuel listed .normal L w := ⟨hS, hh⟩
theorem calmQ_normal (hh : Q .normal L w) : calmQ Q .normal L w := hh
end
end Go.Proofs.YtmojpbfkpggjhaaGreat

/-
  The program logic, eighth part: elements of rows of the call's own, slices of integers. No statement is proved here.
-/
namespace Go.Proofs.YtmojpbfkpggjhaaGreat
open Go Go.RowKit
set_option linter.unusedVariables false
set_option linter.unusedSimpArgs false

/-- a slice of int in the ghost heap -/
def IntsAt (h : GHeap) (v : Value) (l : List Int) : Prop := ∃ ad cp, v = .slice ad l.length cp ∧ Sl h 1 ad l.length cp (l.map (Value.int .i64))
theorem IntsAt.mono {h h' : GHeap} {v : Value} {l : List Int} (hl : GLe h h') (hi : IntsAt h v l) : IntsAt h' v l := let ⟨a, c, e, s⟩ := hi; ⟨a, c, e, s.mono hl⟩
theorem IntsAt.nil (h : GHeap) : IntsAt h (.slice none 0 0) [] := ⟨none, 0, rfl, rfl, Nat.le_refl _, by simp [maxLen], fun _ => rfl, fun p hp => by cases hp⟩
theorem IntsAt.of_sl {h : GHeap} {ad : Option Addr} {n cp : Nat} {l : List Int} (hS : Sl h 1 ad n cp (l.map (Value.int .i64))) : IntsAt h (.slice ad n cp) l := by
  have : n = l.length := by have := hS.1; simp at this; omega
  subst this
  exact ⟨ad, cp, rfl, hS⟩
theorem one_ints (k : IntKind) (l : List Int) : ∀ u ∈ l.map (Value.int k), u.oneCell' = true := by
  intro u hu; obtain ⟨x, _, rfl⟩ := List.mem_map.1 hu; rfl
theorem made_one (v : Value) (n : Nat) : (madeCells #[v] (n * 1)).toList = List.replicate n v := by rw [Nat.mul_one]; exact toList_madeCells_one v n
theorem map_set_int (k : IntKind) (l : List Int) (j : Nat) (v : Int) : (l.map (Value.int k)).set j (.int k v) = (l.set j v).map (Value.int k) := by
  apply List.ext_getElem?
  intro i
  simp only [List.getElem?_set, List.getElem?_map, List.length_map]
  by_cases e : j = i
  · subst e; by_cases h : j < l.length <;> simp [h]
  · simp [e]
theorem seti {k : IntKind} {a b : Int} (h : a = b) : some (Value.int k a) = some (Value.int k b) := by rw [h]
theorem setb {a b : Bool} (h : a = b) : some (Value.bool a) = some (Value.bool b) := by rw [h]
theorem Sl.nil0 {h : GHeap} {sz n cp : Nat} {xs : List Value} (hS : Sl h sz none n cp xs) : n = 0 ∧ cp = 0 := by
  have h1 := hS.2.2.2.1 rfl
  have h2 := hS.2.1
  exact ⟨by omega, h1⟩
theorem Sl.length {h : GHeap} {ad : Option Addr} {sz n cp : Nat} {xs : List Value} (hS : Sl h sz ad n cp xs) : xs.length = n * sz := hS.1
theorem Sl.caps {h : GHeap} {ad : Option Addr} {sz n cp : Nat} {xs : List Value} (hS : Sl h sz ad n cp xs) : n ≤ cp ∧ cp ≤ 9223372036854775807 := ⟨hS.2.1, by have := hS.2.2.1; simp only [maxLen] at this; omega⟩
end Go.Proofs.YtmojpbfkpggjhaaGreat

/-
  The program logic, ninth part: contracts that hand over or change rows of the caller's own. No statement is proved here.
-/
namespace Go.Proofs.YtmojpbfkpggjhaaGreat
open Go Go.RowKit
set_option linter.unusedVariables false
set_option linter.unusedSimpArgs false

/-- A contract within the caller's frame: it may hand over new rows, or change the caller's. -/
def ConM (P : Program) (f : FuncId) (args : List Value) (w0 : World) (h0 h : GHeap) (O : List Row) (w : World) (post : GHeap → List Row → Value → Prop) : Prop :=
  Sees w0 h0 h O w → Calls P f args.toArray w fun e w' => ∃ v h' O', e = .returned v ∧ GLe h h' ∧ Sees w0 h0 h' O' w' ∧ post h' O' v
def retM (P : Program) (rs : List ResultVar) (w0 : World) (h0 h : GHeap) (post : GHeap → List Row → Value → Prop) : Post := fun e L w => match e with
  | .normal | .ret => ∃ vs h' O', Res P L w rs vs ∧ GLe h h' ∧ Sees w0 h0 h' O' w ∧ post h' O' (packv vs)
  | _ => False
theorem ConM.of_body {P : Program} {f : FuncId} {fn : Func} {c : Code} {n : Nat} {rs : List ResultVar} {vs : List Value} {w0 w : World} {h0 h : GHeap} {O : List Row} {post : GHeap → List Row → Value → Prop}
    (hf : P.funcs[f]? = some fn) (hb : fn.body = some c) (hn : fn.ntmps = n) (hr : fn.results.toList = rs) (hl : Nat.ble vs.length n = true)
    (K : Sees w0 h0 h O w → CW P n (retM P rs w0 h0 h post) c (argEnv 0 vs) w) : ConM P f vs w0 h0 h O w post := by
  intro hs
  refine calls_of_wp hf hb ?_
  have hl' : vs.length ≤ n := Nat.le_of_ble_eq_true hl
  have hfit : Fits n (argEnv 0 vs) { tmps := vs.toArray ++ Array.replicate (fn.ntmps - vs.toArray.size) undef, defers := [] } := by
    refine ⟨by simp [hn]; omega, rfl, ?_⟩
    intro k v hk
    have := (get_argEnv vs 0 k v hk).2
    simp at this
    have hlt : k < vs.length := (List.getElem?_eq_some_iff.1 this).1
    simp [Array.getElem?_append, hlt]
    exact (List.getElem?_eq_some_iff.1 this).2
  refine Code.wp_mono ?_ (K hs _ hfit)
  rintro e a w' ⟨L, hL, q⟩
  have key : (∃ vs h' O', Res P L w' rs vs ∧ GLe h h' ∧ Sees w0 h0 h' O' w' ∧ post h' O' (packv vs)) → a.defers = [] ∧ ∃ v, (results fn a.tmps).run P w' = .ok v w' ∧ ∃ v' h' O', Ending.returned v = .returned v' ∧ GLe h h' ∧ Sees w0 h0 h' O' w' ∧ post h' O' v' := by
    rintro ⟨us, h', O', h1, h2, h3, h4⟩
    refine ⟨hL.defers, packv us, ?_, _, h', O', rfl, h2, h3, h4⟩
    have hrun := run_results hL rs us h1
    unfold results
    rw [← hr] at hrun
    rw [Sem.run_bind, Array.mapM_eq_mapM_toList, Sem.run_map]
    erw [hrun]
    simp only [Result.andThen_ok, Sem.run_pure]
    congr 1
    cases us with
    | nil => rfl
    | cons x r => cases r <;> rfl
  cases e with
  | normal => exact key q
  | ret => exact key q
  | _ => exact q.elim
section
variable {P : Program} (T : Tab P) {n : Nat} {Q : Post} {L : Env} {w0 w : World} {h0 h : GHeap} {O : List Row} {ops rest : List Oper} {x y : Operand} {t : TypeId}
variable {d : Option Tmp} {ty : TypeId} {pos : String} {aft : Array Edge}
theorem retM_ret {rs : List ResultVar} {post : GHeap → List Row → Value → Prop} (vs : List Value) (h' : GHeap) (O' : List Row) (hr : Res P L w rs vs) (hl : GLe h h') (hs : Sees w0 h0 h' O' w) (hp : post h' O' (packv vs)) : retM P rs w0 h0 h post .ret L w := ⟨vs, h', O', hr, hl, hs, hp⟩
theorem RW.callM (hs : Sees w0 h0 h O w) {f : FuncId} {l : List Operand} {vs : List Value} (hargs : opvs L l = some vs) (hf : T.call f = true) (hd : dstOk n d = true) {ats : Array TypeId} {post : GHeap → List Row → Value → Prop} (hc : ConM P f vs w0 h0 h O w post)
    (K : ∀ v h' O' w', GLe h h' → post h' O' v → Sees w0 h0 h' O' w' → RW P n ops Q (updo d v L) w' rest) :
    RW P n ops Q L w (⟨d, .call ⟨.value (.func f), l.toArray, ats⟩, ty, pos, aft, none⟩ :: rest) := by
  intro a ha
  unfold wpList
  rw [if_pos (by simp [Region.wanted])]
  refine .inl ?_
  obtain ⟨fn, hfn, hname, hbody⟩ := T.call_ok f hf
  unfold Oper.wp
  have hrun : (execOp a.eval ⟨d, .call ⟨.value (.func f), l.toArray, ats⟩, ty, pos, aft, none⟩).run P w = .ok (.enter f vs.toArray) w := by
    have hargs' : l.map a.eval = vs := ha.evals hargs
    have hname' : ¬ fn.name = "runtime.NumGoroutine" := by simpa using hname
    have hbody' : ¬ fn.body = none := fun e => by rw [e] at hbody; simp at hbody
    have hcl : a.eval (.func f) = .func (.func f) #[] #[] := rfl
    simp [execOp, resolve, Deferred.ofValue, hcl, invoke, callFunc, hfn, hname', hbody', ← hargs']
  rw [hrun]
  refine (hc hs).mono ?_
  rintro e w' ⟨v, h', O', rfl, hl, hs', hp⟩
  exact K v h' O' w' hl hp hs' _ (ha.put v hd)

/-- a row read as a shorter one -/
theorem Sees.shrink {k : Nat} {ad : Option Addr} {m cp sz : Nat} {e : TypeId} {xs : List Value} (hs : Sees w0 h0 h O w) (hO : O[k]? = some ⟨ad, m, cp, e, sz, xs⟩) (j : Nat) (hj : j ≤ m) (hj0 : ad = none → j = 0) : Sees w0 h0 h (O.set k ⟨ad, j, cp, e, sz, xs.take (j * sz)⟩) w := by
  have hok := (hs.own _ (List.mem_of_getElem? hO)).1
  have hjle : j * sz ≤ m * sz := Nat.mul_le_mul_right _ hj
  refine hs.replace hO (w' := w) ⟨rfl, rfl, rfl, Nat.le_refl _, fun _ _ _ => rfl⟩ ?_ (fun b hb => .inl (by cases ad <;> first | (simp [Row.v, Value.ownBlock] at hb; done) | simpa [Row.v, Value.ownBlock] using hb))
  have hlen : xs.length = m * sz := hok.1
  refine ⟨by rw [List.length_take, hlen, Nat.min_eq_left hjle], ?_⟩
  rcases hok.2 with ⟨hv, h0'⟩ | ⟨g, cap, cur, hv, hb, hg, hn, hm, hc, hx⟩
  · simp only [Row.v, Value.slice.injEq] at hv
    left
    simp [Row.v, hv, hj0 hv.1]
  · simp only [Row.v, Value.slice.injEq, true_and] at hv
    obtain ⟨hv1, rfl⟩ := hv
    right
    refine ⟨g, cp, cur, by simp [Row.v, hv1], hb, hg, by simp at hn ⊢; omega, hm, hc, ?_⟩
    simp only at hx ⊢
    rw [← hx, List.take_take, Nat.min_eq_left hjle]
/-- the last part of a row's slice, appended to its first part -/
theorem RW.appendSelf (hs : Sees w0 h0 h O w) (k : Nat) {b m cp : Nat} {e : TypeId} {sz : Nat} {xs : List Value} (hO : O[k]? = some ⟨some ⟨b, 0, none⟩, m, cp, e, sz, xs⟩) {i : Inf} (hT : T.ty t = some (.slice e)) (hI : T.inf e = some i) (hsz : i.size = sz) {p q c : Nat} {ad : Option Addr}
    (hx : opv L x = some (.slice (some ⟨b, 0, none⟩) p cp)) (hy : opv L y = some (.slice ad (m - q) c)) (had : ad = subAd (some ⟨b, 0, none⟩) q cp sz) (hpq : p ≤ q) (hq : q ≤ m) (h1 : ∀ u ∈ xs, u.oneCell' = true) (hd : dstOk n d = true)
    (K : ∀ w', Sees w0 h0 h (O.set k ⟨some ⟨b, 0, none⟩, p + (m - q), cp, e, sz, xs.take (p * sz) ++ xs.drop (q * sz)⟩) w' → RW P n ops Q (updo d (.slice (some ⟨b, 0, none⟩) (p + (m - q)) cp) L) w' rest) :
    RW P n ops Q L w (⟨d, .call ⟨.builtin .append, #[x, y], #[t, t]⟩, ty, pos, aft, none⟩ :: rest) := by
  have ht : P.underlying t = some (.slice e) := T.ty_ok _ _ hT
  obtain ⟨z, hi, hi1, hi2, hi3⟩ := T.inf_ok _ _ hI
  have hok := (hs.own _ (List.mem_of_getElem? hO)).1
  have hlen : xs.length = m * sz := hok.1
  have hqle : q * sz ≤ m * sz := Nat.mul_le_mul_right _ hq
  have hple : p * sz ≤ q * sz := Nat.mul_le_mul_right _ hpq
  have hcap := (hs.rowCap hO).1
  have hsh := hs.shrink hO p (by omega) (by simp)
  have hklt : k < O.length := (List.getElem?_eq_some_iff.1 hO).1
  have hO' : (O.set k ⟨some ⟨b, 0, none⟩, p, cp, e, sz, xs.take (p * sz)⟩)[k]? = some ⟨some ⟨b, 0, none⟩, p, cp, e, sz, xs.take (p * sz)⟩ := by simp [hklt]
  have hokp := (hsh.own _ (List.mem_of_getElem? hO')).1
  have had' : ∃ o, ad = some ⟨b, o, none⟩ ∧ (m ≤ q ∨ o = q * sz) := by
    rw [had, subAd]
    by_cases hc : cp = q
    · rw [if_pos hc]; exact ⟨0, rfl, .inl (by omega)⟩
    · rw [if_neg hc]; exact ⟨q * sz, by simp [Addr.add_lit], .inr rfl⟩
  obtain ⟨o, had', hoo⟩ := had'
  obtain ⟨w', hr, hown, hgr⟩ := run_append_fits (P := P) w w0.heap.size t ty e z sz ht hi (by rw [hi1, hsz]) b p cp (xs.take (p * sz)) hokp ⟨b, o, none⟩ (m - q) c (xs.drop (q * sz)) (by rw [List.length_drop, hlen, Nat.sub_mul]) (by
    intro j u hj
    rw [Addr.add_lit]
    rw [List.getElem?_drop] at hj
    rcases hoo with hoo | hoo
    · have hlt := (List.getElem?_eq_some_iff.1 hj).1
      have : m * sz ≤ q * sz := Nat.mul_le_mul_right _ hoo
      omega
    · rw [hoo]; exact hs.rowCell hO hj) (fun u hu => h1 u (List.mem_of_mem_drop hu)) (by omega)
  refine RW.step (v := .slice (some ⟨b, 0, none⟩) (p + (m - q)) cp) (w' := w') ?_ hd (K w' ?_)
  · intro a ha
    rw [had'] at hy
    simp [execOp, resolve, invoke, builtin, ha.eval hx, ha.eval hy, hr]
  · have := hsh.replace hO' (r' := ⟨some ⟨b, 0, none⟩, p + (m - q), cp, e, sz, xs.take (p * sz) ++ xs.drop (q * sz)⟩) (by simpa [Row.v, Value.ownBlock] using hgr) hown (fun c hc => .inl (by simpa [Row.v, Value.ownBlock] using hc))
    simpa using this
/-- cells behind a row's last element are cleared -/
theorem RW.clear (hs : Sees w0 h0 h O w) (k : Nat) {b m cp : Nat} {e : TypeId} {sz : Nat} {xs : List Value} (hO : O[k]? = some ⟨some ⟨b, 0, none⟩, m, cp, e, sz, xs⟩) {i : Inf} (hT : T.ty t = some (.slice e)) (hI : T.inf e = some i) (hsz : i.size = sz) (hz : i.zero.cells.size = sz) (hz1 : ∀ u ∈ i.zero.cells.toList, u.oneCell' = true) (hd : dstOk n d = true) {q j c : Nat} {ad : Option Addr}
    (hx : opv L x = some (.slice ad j c)) (had : ad = subAd (some ⟨b, 0, none⟩) q cp sz) (hq : m ≤ q) (hqj : q + j ≤ cp) (hqc : q < cp)
    (K : ∀ w', Sees w0 h0 h O w' → RW P n ops Q (updo d (.tuple #[]) L) w' rest) :
    RW P n ops Q L w (⟨d, .call ⟨.builtin .clear, #[x], #[t]⟩, ty, pos, aft, none⟩ :: rest) := by
  have ht : P.underlying t = some (.slice e) := T.ty_ok _ _ hT
  have hok := (hs.own _ (List.mem_of_getElem? hO)).1
  have had' : ad = some ⟨b, q * sz, none⟩ := by
    rw [had, subAd, if_neg (by omega)]
    simp [Addr.add_lit]
  rw [had'] at hx
  rcases j with _ | j
  · refine RW.step (v := .tuple #[]) (w' := w) ?_ hd (K w hs)
    intro a ha
    simp [execOp, resolve, invoke, builtin, Builtin.clear_, ha.eval hx, run_underlying ht]
  · rcases hok.2 with ⟨hv, _⟩ | ⟨g, cap, cur, hv, hb, hg, hn, hm, hc, hxs⟩
    · simp [Row.v] at hv
    · simp only [Row.v, Value.slice.injEq, Option.some.injEq, Addr.mk.injEq, true_and, and_true] at hv
      obtain ⟨rfl, rfl⟩ := hv
      dsimp only at hc hn hg hxs
      have hlz : (Builtin.zeroCells i.zero.cells (j + 1)).toList.length = (j + 1) * sz := by simp [size_zeroCells, hz]
      have hle : (q + (j + 1)) * sz ≤ cp * sz := Nat.mul_le_mul_right _ hqj
      rw [Nat.add_mul] at hle
      have hmq : m * sz ≤ q * sz := Nat.mul_le_mul_right _ hq
      have hr := run_storeCells_at (P := P) b (q * sz) e (Builtin.zeroCells i.zero.cells (j + 1)).toList 0 cur w hg (by rw [hlz, hc]; omega) (by
        intro v hv
        simp only [Builtin.zeroCells, Array.toList_map, List.mem_map] at hv
        obtain ⟨r, hr, rfl⟩ := hv
        by_cases h0 : sz = 0
        · rw [hz, h0] at hr; simp at hr
        · have : r % i.zero.cells.size < i.zero.cells.size := Nat.mod_lt _ (by omega)
          rw [getElem!_pos i.zero.cells _ this]
          exact hz1 _ (by simp))
      generalize hw1 : w.setRow b (cur.toList.take (q * sz + 0) ++ (Builtin.zeroCells i.zero.cells (j + 1)).toList ++ cur.toList.drop (q * sz + 0 + (Builtin.zeroCells i.zero.cells (j + 1)).toList.length)).toArray = w1 at hr
      refine RW.step (v := .tuple #[]) (w' := w1) ?_ hd (K w1 ?_)
      · intro a ha
        simp only [execOp, resolve, invoke, builtin, Builtin.clear_, ha.eval hx, Sem.run_bind, run_underlying ht, Result.andThen_ok, T.zeroValue hI, hr, List.map_toArray, List.map_cons, List.map_nil, pure_bind, Sem.run_pure, List.getElem?_toArray, List.getElem?_cons_zero]
      · subst hw1
        have := hs.replace (w' := w.setRow b (cur.toList.take (q * sz + 0) ++ (Builtin.zeroCells i.zero.cells (j + 1)).toList ++ cur.toList.drop (q * sz + 0 + (Builtin.zeroCells i.zero.cells (j + 1)).toList.length)).toArray) hO (r' := ⟨some ⟨b, 0, none⟩, m, cp, e, sz, xs⟩) ⟨rfl, rfl, rfl, by simp, fun r _ hr => setRow_other w b r _ (fun e => hr (by simp [Row.v, Value.ownBlock, e]))⟩ ?_ (fun c hc => .inl hc)
        · rwa [set_self hO] at this
        · refine ⟨hok.1, .inr ⟨b, cp, _, rfl, hb, setRow_heap w b cur _ e _ hg, hn, hm, ?_, ?_⟩⟩
          · simp only [List.size_toArray, List.length_append, List.length_take, List.length_drop, Array.length_toList, hlz, hc]
            omega
          · have hl1 : m * sz ≤ (cur.toList.take (q * sz + 0)).length := by rw [List.length_take, Array.length_toList, hc]; omega
            show List.take (m * sz) _ = xs
            rw [← hxs, List.append_assoc, List.take_append_of_le_length hl1, List.take_take]
            congr 1; omega
end
end Go.Proofs.YtmojpbfkpggjhaaGreat

/-
  Ways that meet again inside a region; lists of values in the ghost heap. No statement is proved here.
-/
namespace Go.Proofs.YtmojpbfkpggjhaaGreat
open Go Go.RowKit
set_option linter.unusedVariables false
set_option linter.unusedSimpArgs false
set_option linter.unusedVariables false

theorem wp_mono2 {P : Program} {o : Oper} {a : Act} {w : World} {K K' : Act → World → Prop} {Q Q' : Exit → Act → World → Prop} (h : ∀ a w, K a w → K' a w) (hq : ∀ e a w, e ≠ .normal → Q e a w → Q' e a w)
    (hh : o.wp P a w K Q) : o.wp P a w K' Q' := by
  unfold Oper.wp at *
  generalize (execOp a.eval o).run P w = r at *
  cases r with
  | ok n w' =>
    cases n <;> simp only [Oper.upon] at hh ⊢ <;>
      first
        | exact h _ _ hh
        | exact Calls.mono hh (fun e w'' he => by
            cases e
            · exact h _ _ he
            · exact hq _ _ _ (fun e => by cases e) he
            · obtain ⟨b, w2, hb⟩ := he
              exact ⟨b, w2, hq _ _ _ (fun e => by cases e) hb⟩)
        | exact Rows.mono hh (fun _ _ he => h _ _ he)
  | halt x w' =>
    cases x <;> simp only [Oper.upon] at hh ⊢
    · exact hq _ _ _ (fun e => by cases e) hh
    all_goals exact hh
theorem wpList_cut {P : Program} {ops : Array Oper} {Q Q' : Exit → Act → World → Prop} (hq : ∀ e a w, e ≠ .normal → Q e a w → Q' e a w) {ys : List Oper} (hn : ∀ a w, Q .normal a w → wpList P ops Q' ys a w) :
    ∀ (xs : List Oper) (a : Act) (w : World), wpList P ops Q xs a w → wpList P ops Q' (xs ++ ys) a w
  | [], a, w, h => hn a w h
  | o :: xs, a, w, h => by
    rw [List.cons_append]
    unfold wpList at h ⊢
    by_cases hw : Region.wanted o (yielded ops a.tmps)
    · rw [if_pos hw] at h ⊢
      rcases h with h | ⟨h1, b, w2, h2⟩
      · exact .inl (wp_mono2 (fun a w => wpList_cut hq hn xs a w) hq h)
      · exact .inr ⟨h1, b, w2, hq _ _ _ (fun e => by cases e) h2⟩
    · rw [if_neg hw] at h ⊢
      exact wpList_cut hq hn xs _ _ h

section
variable {P : Program} {n : Nat} {Q : Post} {L : Env} {w : World} {ops rest : List Oper}
/-- the first operations alone, and what holds behind them -/
theorem RW.cut {σ : Type} (k : Nat) (E : σ → Env) (S : σ → World → Prop) (hx : RW P n ops (joinQ E S Q) L w (rest.take k)) (hy : ∀ s w, S s w → RW P n ops Q (E s) w (rest.drop k)) : RW P n ops Q L w rest := by
  intro a ha
  have h := wpList_cut (P := P) (ops := ops.toArray) (Q := QL n (joinQ E S Q)) (Q' := QL n Q) (ys := rest.drop k) ?_ ?_ (rest.take k) a w (hx a ha)
  · rwa [List.take_append_drop] at h
  · rintro e a w he ⟨M, hM, q⟩
    refine ⟨M, hM, ?_⟩
    cases e with
    | normal => exact absurd rfl he
    | _ => exact q
  · rintro a w ⟨M, hM, s, h1, h2⟩
    exact (hy s w h2).has h1 a hM
/-- ways that meet again at a region's end -/
theorem RW.meet {σ : Type} {z : Code} (E : σ → Env) (S : σ → World → Prop) (hx : RW P n ops (joinQ E S Q) L w rest) (hy : ∀ s w, S s w → CW P n Q z (E s) w) : RW P n ops (thenQ P n z Q) L w rest := by
  intro a ha
  have h := wpList_cut (P := P) (ops := ops.toArray) (Q := QL n (joinQ E S Q)) (Q' := QL n (thenQ P n z Q)) (ys := []) ?_ ?_ rest a w (hx a ha)
  · rwa [List.append_nil] at h
  · rintro e a w he ⟨M, hM, q⟩
    refine ⟨M, hM, ?_⟩
    cases e with
    | normal => exact absurd rfl he
    | _ => exact q
  · rintro a w ⟨M, hM, s, h1, h2⟩
    exact wpList_nil ⟨M, hM, (hy s w h2).has h1⟩
end

/-! ## Lists, one by one -/
def AllAt {α : Type} (R : Value → α → Prop) : List Value → List α → Prop
  | [], [] => True
  | u :: us, x :: xs => R u x ∧ AllAt R us xs
  | _, _ => False
section
variable {α : Type} {R R' : Value → α → Prop}
theorem AllAt.length : ∀ {us : List Value} {xs : List α}, AllAt R us xs → us.length = xs.length
  | [], [], _ => rfl
  | [], _ :: _, h => h.elim
  | _ :: _, [], h => h.elim
  | u :: us, x :: xs, h => by simp [AllAt.length h.2]
theorem AllAt.mono (hr : ∀ u x, R u x → R' u x) : ∀ {us : List Value} {xs : List α}, AllAt R us xs → AllAt R' us xs
  | [], [], _ => trivial
  | [], _ :: _, h => h.elim
  | _ :: _, [], h => h.elim
  | u :: us, x :: xs, h => ⟨hr _ _ h.1, AllAt.mono hr h.2⟩
theorem AllAt.append : ∀ {us vs : List Value} {xs ys : List α}, AllAt R us xs → AllAt R vs ys → AllAt R (us ++ vs) (xs ++ ys)
  | [], _, [], _, _, h => h
  | [], _, _ :: _, _, h, _ => h.elim
  | _ :: _, _, [], _, h, _ => h.elim
  | u :: us, vs, x :: xs, ys, h, h' => ⟨h.1, AllAt.append h.2 h'⟩
theorem AllAt.get : ∀ {us : List Value} {xs : List α} (d : α) (j : Nat), AllAt R us xs → j < xs.length → ∃ u, us[j]? = some u ∧ R u (xs.getD j d)
  | [], [], _, _, _, h => by simp at h
  | [], _ :: _, _, _, h, _ => h.elim
  | _ :: _, [], _, _, h, _ => h.elim
  | u :: us, x :: xs, d, 0, h, _ => ⟨u, rfl, by simpa using h.1⟩
  | u :: us, x :: xs, d, j + 1, h, hj => by simpa using AllAt.get d j h.2 (by simpa using hj)
theorem AllAt.cells (hr : ∀ u x, R u x → u.oneCell' = true) : ∀ {us : List Value} {xs : List α}, AllAt R us xs → ∀ u ∈ us, u.oneCell' = true
  | [], [], _, u, hu => by cases hu
  | [], _ :: _, h, _, _ => h.elim
  | _ :: _, [], h, _, _ => h.elim
  | u :: us, x :: xs, h, v, hv => by
    rcases List.mem_cons.1 hv with rfl | hv
    · exact hr _ _ h.1
    · exact AllAt.cells hr h.2 v hv
end
/-- v is a slice of slices of ints -/
def ListsAt (h : GHeap) (v : Value) (ls : List (List Int)) : Prop := ∃ ad cp us, v = .slice ad ls.length cp ∧ Sl h 1 ad ls.length cp us ∧ AllAt (IntsAt h) us ls
theorem ListsAt.mono {h h' : GHeap} {v : Value} {ls : List (List Int)} (hl : GLe h h') (hi : ListsAt h v ls) : ListsAt h' v ls :=
  let ⟨a, c, us, e, s, r⟩ := hi; ⟨a, c, us, e, s.mono hl, r.mono fun _ _ => IntsAt.mono hl⟩
end Go.Proofs.YtmojpbfkpggjhaaGreat

/-
  Plain facts on floating point words of 64 bits: what a finite word stands for, in least units; order; whole numbers. No program is in sight, and no statement is proved here.
-/
namespace Go.Proofs.YtmojpbfkpggjhaaGreat
open Ieee

/-- the magnitude of a rung, in least units -/
def magR (r : Nat) : Nat := if r < 4503599627370496 then r else (4503599627370496 + r % 4503599627370496) * 2 ^ (r / 4503599627370496 - 1)
def rungF (x : Nat) : Nat := x % 9223372036854775808
def sgF (x : Nat) : Bool := x / 9223372036854775808 % 2 == 1
/-- a finite word -/
def finF (x : Nat) : Prop := rungF x < 9218868437227405312
instance (x : Nat) : Decidable (finF x) := by unfold finF; exact inferInstance
/-- the number of a finite word, in least units -/
def zF (x : Nat) : Int := if sgF x then -(magR (rungF x) : Int) else (magR (rungF x) : Int)

theorem read_fin (x : Nat) (h : finF x) : ∃ m k : Nat, double.read x = .number (sgF x) m ((k : Int) - 1074) ∧ m * 2 ^ k = magR (rungF x) := by
  unfold finF rungF at h
  unfold Format.read
  have e1 : double.signWeight = 9223372036854775808 := by decide
  have e2 : double.binade = 4503599627370496 := by decide
  have e3 : double.infRung = 9218868437227405312 := by decide
  have e4 : double.leastPlace = -1074 := by decide
  simp only [e1, e2, e3, e4]
  unfold magR rungF sgF
  generalize x % 9223372036854775808 = r at h ⊢
  by_cases h1 : r < 4503599627370496
  · rw [if_pos h1, if_pos h1]
    exact ⟨r, 0, rfl, by simp⟩
  · rw [if_neg h1, if_neg h1, if_pos h]
    exact ⟨_, r / 4503599627370496 - 1, by congr 1, rfl⟩
theorem signed_scale (s : Bool) (m a b : Nat) : signed s m (a + b) = signed s m a * ((2 ^ b : Nat) : Int) := by
  unfold signed
  rw [Nat.shiftLeft_eq, Nat.shiftLeft_eq, Nat.pow_add, ← Nat.mul_assoc]
  cases s <;> simp [Int.natCast_mul, Int.neg_mul]
theorem zF_signed (x m k : Nat) (h : m * 2 ^ k = magR (rungF x)) : zF x = signed (sgF x) m k := by
  unfold zF signed
  rw [Nat.shiftLeft_eq, h]
theorem compare_scale (a b : Int) (c : Nat) (hc : 0 < c) : compare (a * (c : Int)) (b * (c : Int)) = compare a b := by
  have hc' : (0 : Int) < c := by omega
  have h1 : a * (c : Int) < b * (c : Int) ↔ a < b := Int.mul_lt_mul_right hc'
  have h2 : a * (c : Int) = b * (c : Int) ↔ a = b := ⟨fun e => Int.eq_of_mul_eq_mul_right (by omega) e, fun e => by rw [e]⟩
  simp only [compare, compareOfLessAndEq, h1, h2]
theorem order_fin (x y : Nat) (hx : finF x) (hy : finF y) : double.order x y = some (compare (zF x) (zF y)) := by
  obtain ⟨m, i, e1, h1⟩ := read_fin x hx
  obtain ⟨n, j, e2, h2⟩ := read_fin y hy
  unfold Format.order
  rw [e1, e2]
  simp only [Datum.order]
  rw [zF_signed x m i h1, zF_signed y n j h2]
  obtain ⟨b, p, q, rfl, rfl, hb⟩ : ∃ b p q : Nat, i = p + b ∧ j = q + b ∧ min p q = 0 := ⟨min i j, i - min i j, j - min i j, by omega, by omega, by omega⟩
  have a1 : (((p + b : Nat) : Int) - 1074 - min (((p + b : Nat) : Int) - 1074) (((q + b : Nat) : Int) - 1074)).toNat = p := by omega
  have a2 : (((q + b : Nat) : Int) - 1074 - min (((p + b : Nat) : Int) - 1074) (((q + b : Nat) : Int) - 1074)).toNat = q := by omega
  rw [a1, a2, signed_scale, signed_scale, compare_scale _ _ _ (Nat.pow_pos (by omega))]
/-! the magnitude grows with the rung -/
theorem magR_succ (r : Nat) : magR r < magR (r + 1) := by
  unfold magR
  by_cases h1 : r + 1 < 4503599627370496
  · rw [if_pos h1, if_pos (by omega)]; omega
  · by_cases h2 : r < 4503599627370496
    · obtain rfl : r = 4503599627370495 := by omega
      decide
    · rw [if_neg h1, if_neg h2]
      by_cases h3 : r % 4503599627370496 = 4503599627370495
      · have e1 : (r + 1) % 4503599627370496 = 0 := by omega
        have e2 : (r + 1) / 4503599627370496 - 1 = (r / 4503599627370496 - 1) + 1 := by omega
        rw [e1, e2, h3, Nat.pow_succ]
        have := Nat.pow_pos (n := r / 4503599627370496 - 1) (show 0 < 2 by omega)
        omega
      · have e1 : (r + 1) % 4503599627370496 = r % 4503599627370496 + 1 := by omega
        have e2 : (r + 1) / 4503599627370496 = r / 4503599627370496 := by omega
        rw [e1, e2]
        exact Nat.mul_lt_mul_of_pos_right (by omega) (Nat.pow_pos (by omega))
theorem magR_lt : ∀ (r d : Nat), magR r < magR (r + d + 1)
  | r, 0 => magR_succ r
  | r, d + 1 => Nat.lt_trans (magR_lt r d) (magR_succ (r + d + 1))
theorem magR_mono {r s : Nat} (h : r < s) : magR r < magR s := by
  have := magR_lt r (s - r - 1)
  rwa [show r + (s - r - 1) + 1 = s by omega] at this
theorem magR_le {r s : Nat} (h : r ≤ s) : magR r ≤ magR s := by
  rcases Nat.lt_or_ge r s with h' | h'
  · exact Nat.le_of_lt (magR_mono h')
  · rw [show r = s by omega]; exact Nat.le_refl _
theorem magR_inj {r s : Nat} (h : magR r = magR s) : r = s := by
  rcases Nat.lt_trichotomy r s with h' | h' | h'
  · have := magR_mono h'; omega
  · exact h'
  · have := magR_mono h'; omega
theorem magR_zero : magR 0 = 0 := by decide
theorem word_split (x : Nat) (h : x < 18446744073709551616) : x = (if sgF x then 9223372036854775808 else 0) + rungF x := by
  unfold sgF rungF
  by_cases hs : x / 9223372036854775808 % 2 = 1
  · simp [hs]; omega
  · simp [hs]; omega
/-- a word as it is kept: finite, no zero with a sign -/
def tidyF (x : Nat) : Prop := x < 18446744073709551616 ∧ finF x ∧ x ≠ 9223372036854775808
theorem zF_inj {x y : Nat} (hx : tidyF x) (hy : tidyF y) (h : zF x = zF y) : x = y := by
  have e1 := word_split x hx.1
  have e2 := word_split y hy.1
  have n1 := hx.2.2
  have n2 := hy.2.2
  unfold zF at h
  cases s1 : sgF x <;> cases s2 : sgF y <;> simp only [s1, s2, if_true, Bool.false_eq_true, if_false] at h e1 e2
  · have := magR_inj (show magR (rungF x) = magR (rungF y) by omega); omega
  · have a1 : magR (rungF x) = 0 := by omega
    have a2 : magR (rungF y) = 0 := by omega
    have b2 := magR_inj (a2.trans magR_zero.symm)
    omega
  · have a1 : magR (rungF x) = 0 := by omega
    have b1 := magR_inj (a1.trans magR_zero.symm)
    omega
  · have := magR_inj (show magR (rungF x) = magR (rungF y) by omega); omega

/-! ## Whole numbers -/
/-- one, in least units -/
def expU : Nat := 1074
theorem expU_eq : expU = 1074 := rfl
def unitF : Nat := 2 ^ expU
theorem unitF_pos : 0 < unitF := Nat.pow_pos (by omega)
/-- the word of a whole number -/
def fwF (n : Int) : Nat := FloatKind.f64.nearest n
theorem zF_word (neg : Bool) (r : Nat) (h : r < 9218868437227405312) : finF (double.word neg r) ∧ sgF (double.word neg r) = neg ∧ rungF (double.word neg r) = r ∧ double.word neg r < 18446744073709551616 := by
  have e1 : double.signWeight = 9223372036854775808 := by decide
  unfold Format.word finF sgF rungF
  rw [e1]
  cases neg
  · simp only [Bool.false_eq_true, if_false]
    have : r / 9223372036854775808 = 0 := by omega
    refine ⟨by omega, by rw [this]; rfl, by omega, by omega⟩
  · simp only [if_true]
    have : (9223372036854775808 + r) / 9223372036854775808 = 1 := by omega
    refine ⟨by omega, by rw [this]; rfl, by omega, by omega⟩
theorem cut_zero (neg : Bool) (n : Nat) : Toward.even.cut neg n 0 = n := by
  unfold Toward.cut
  simp [Nat.mod_one]
theorem nearest_whole (neg : Bool) (m : Nat) (h : m ≤ 9007199254740992) : ∃ r, double.nearest neg m 0 = double.word neg r ∧ r < 9218868437227405312 ∧ magR r = m * unitF := by
  have e1 : double.fractionBits = 52 := rfl
  have e2 : double.binade = 4503599627370496 := by decide
  have e3 : double.infRung = 9218868437227405312 := by decide
  have e4 : double.leastPlace = -1074 := by decide
  unfold Format.nearest
  by_cases h0 : m = 0
  · subst h0; rw [if_pos rfl]; exact ⟨0, rfl, by omega, by simp [magR]⟩
  rw [if_neg h0, e1, e2, e3, e4]
  have l1 : 2 ^ m.log2 ≤ m := Nat.log2_self_le h0
  have l2 : m < 2 ^ (m.log2 + 1) := Nat.lt_log2_self
  generalize m.log2 = L at l1 l2
  have hL : L ≤ 53 := by
    rcases Nat.lt_or_ge L 54 with h | h
    · omega
    · have := Nat.pow_le_pow_right (show 0 < 2 by omega) h
      have e : (2 : Nat) ^ 54 = 18014398509481984 := by decide
      omega
  rcases Nat.lt_or_ge L 53 with hL2 | hL2
  · have a1 : max ((0 : Int) + (L : Int) - ((52 : Nat) : Int)) (-1074) = (L : Int) - 52 := by omega
    simp only [a1]
    have a2 : ((0 : Int) - ((L : Int) - 52)).toNat = 52 - L := by omega
    have a3 : ((L : Int) - 52 - 0).toNat = 0 := by omega
    have a4 : ((L : Int) - 52 - -1074).toNat = L + 1022 := by omega
    rw [a2, a3, a4, cut_zero, Nat.shiftLeft_eq]
    have k1 : 4503599627370496 ≤ m * 2 ^ (52 - L) := by
      have := Nat.mul_le_mul_right (2 ^ (52 - L)) l1
      rw [← Nat.pow_add, show L + (52 - L) = 52 by omega] at this
      have e : (2 : Nat) ^ 52 = 4503599627370496 := by decide
      omega
    have k2 : m * 2 ^ (52 - L) < 9007199254740992 := by
      have := Nat.mul_lt_mul_of_pos_right l2 (Nat.pow_pos (n := 52 - L) (show 0 < 2 by omega))
      rw [← Nat.pow_add, show L + 1 + (52 - L) = 53 by omega] at this
      have e : (2 : Nat) ^ 53 = 9007199254740992 := by decide
      omega
    have k3 : m * 2 ^ (52 - L) * 2 ^ (L + 1022) = m * unitF := by
      unfold unitF
      rw [Nat.mul_assoc, ← Nat.pow_add, show 52 - L + (L + 1022) = expU by rw [expU_eq]; omega]
    generalize m * 2 ^ (52 - L) = K at k1 k2 k3
    obtain ⟨r, hr⟩ : ∃ r, r = (L + 1022) * 4503599627370496 + K := ⟨_, rfl⟩
    rw [← hr]
    have d0 : min r 9218868437227405312 = r := by omega
    rw [d0]
    refine ⟨r, rfl, by omega, ?_⟩
    have d1 : r / 4503599627370496 - 1 = L + 1022 := by omega
    have d2 : 4503599627370496 + r % 4503599627370496 = K := by omega
    have d3 : ¬ r < 4503599627370496 := by omega
    unfold magR
    rw [if_neg d3, d1, d2, k3]
  · obtain rfl : L = 53 := by omega
    have e : (2 : Nat) ^ 53 = 9007199254740992 := by decide
    obtain rfl : m = 9007199254740992 := by omega
    refine ⟨4845873199050653696, ?_, by omega, ?_⟩
    · cases neg <;> decide
    · unfold magR unitF
      rw [if_neg (by omega)]
      have d1 : (4845873199050653696 : Nat) / 4503599627370496 - 1 = 1 + expU := by rw [expU_eq]
      have d2 : 4503599627370496 + (4845873199050653696 : Nat) % 4503599627370496 = 4503599627370496 := by omega
      rw [d1, d2, Nat.pow_add, ← Nat.mul_assoc]
theorem fwF_spec (n : Int) (h : -9007199254740992 ≤ n ∧ n ≤ 9007199254740992) : tidyF (fwF n) ∧ zF (fwF n) = n * unitF := by
  obtain ⟨r, e, hr, hm⟩ := nearest_whole (decide (n < 0)) n.natAbs (by omega)
  have hfw : fwF n = double.word (decide (n < 0)) r := e
  obtain ⟨w1, w2, w3, w4⟩ := zF_word (decide (n < 0)) r hr
  rw [hfw]
  have hu := unitF_pos
  constructor
  · refine ⟨w4, w1, ?_⟩
    by_cases hn : n < 0
    · have hr0 : r ≠ 0 := by
        rintro rfl
        rw [magR_zero] at hm
        have := Nat.mul_pos (show 0 < n.natAbs by omega) hu
        omega
      intro e
      rw [e] at w3
      have : rungF 9223372036854775808 = 0 := by decide
      omega
    · rw [decide_eq_false hn]
      unfold Format.word
      simp only [Bool.false_eq_true, if_false]; omega
  · unfold zF
    rw [w2, w3, hm]
    by_cases hn : n < 0
    · rw [decide_eq_true hn]
      simp only [if_true]
      rw [Int.natCast_mul, ← Int.neg_mul, show -((n.natAbs : Nat) : Int) = n by omega]
    · rw [decide_eq_false hn]
      simp only [Bool.false_eq_true, if_false]
      rw [Int.natCast_mul, show ((n.natAbs : Nat) : Int) = n by omega]
/-- the whole part -/
def truncF (x : Nat) : Int := if sgF x then -((magR (rungF x) / unitF : Nat) : Int) else ((magR (rungF x) / unitF : Nat) : Int)
theorem cut_floor (s : Bool) (n d : Nat) : Toward.zero.cut s n d = n / 2 ^ d := by
  unfold Toward.cut
  simp only [Bool.toNat_false, Nat.add_zero, Nat.shiftLeft_eq, Nat.one_mul]
  by_cases h0 : n = 0
  · subst h0; simp
  have l2 : n < 2 ^ (n.log2 + 1) := Nat.lt_log2_self
  rcases Nat.le_total d (n.log2 + 2) with h | h
  · rw [Nat.min_eq_left h]
  · rw [Nat.min_eq_right h]
    have a1 : n < 2 ^ (n.log2 + 2) := Nat.lt_of_lt_of_le l2 (Nat.pow_le_pow_right (by omega) (by omega))
    have a2 : n < 2 ^ d := Nat.lt_of_lt_of_le a1 (Nat.pow_le_pow_right (by omega) h)
    rw [Nat.div_eq_of_lt a1, Nat.div_eq_of_lt a2]
theorem toInt_fin (x : Nat) (h : finF x) : (FloatKind.f64.decode x).toInt .zero = some (truncF x) := by
  obtain ⟨m, k, e1, h1⟩ := read_fin x h
  show (double.read x).toInt .zero = _
  rw [e1]
  unfold Datum.toInt Datum.integral
  simp only
  rw [cut_floor, Nat.shiftLeft_eq]
  have key : m * 2 ^ ((k : Int) - 1074).toNat / 2 ^ (-((k : Int) - 1074)).toNat = magR (rungF x) / unitF := by
    rw [← h1]
    unfold unitF
    have hE := expU_eq
    generalize expU = E at hE ⊢
    rcases Nat.le_total k E with hk | hk
    · obtain ⟨d, rfl⟩ : ∃ d, E = d + k := ⟨E - k, by omega⟩
      have a1 : ((k : Int) - 1074).toNat = 0 := by omega
      have a2 : (-((k : Int) - 1074)).toNat = d := by omega
      rw [a1, a2, Nat.pow_zero, Nat.mul_one, Nat.pow_add, Nat.mul_div_mul_right _ _ (Nat.pow_pos (by omega))]
    · obtain ⟨d, rfl⟩ : ∃ d, k = d + E := ⟨k - E, by omega⟩
      have a1 : (((d + E : Nat) : Int) - 1074).toNat = d := by omega
      have a2 : (-(((d + E : Nat) : Int) - 1074)).toNat = 0 := by omega
      rw [a1, a2, Nat.pow_zero, Nat.div_one, Nat.pow_add, ← Nat.mul_assoc, Nat.mul_div_cancel _ (Nat.pow_pos (by omega))]
  rw [key]
  unfold signed truncF
  rw [Nat.shiftLeft_zero]
/-- the whole number of a word, if it is one that is not too great -/
theorem trunc_exact (x : Nat) (n : Int) (h : zF x = n * unitF) : truncF x = n := by
  have hu := unitF_pos
  unfold zF at h
  unfold truncF
  cases hs : sgF x <;> simp only [hs, if_true, Bool.false_eq_true, if_false] at h ⊢
  · have hn : 0 ≤ n := by
      rcases Int.lt_or_le n 0 with h1 | h1
      · have := Int.mul_neg_of_neg_of_pos h1 (show (0 : Int) < unitF by omega); omega
      · exact h1
    obtain ⟨k, rfl⟩ := Int.eq_ofNat_of_zero_le hn
    rw [← Int.natCast_mul] at h
    rw [show magR (rungF x) = k * unitF by omega, Nat.mul_div_cancel _ hu]
  · have hn : 0 ≤ -n := by
      rcases Int.lt_or_le (-n) 0 with h1 | h1
      · have := Int.mul_neg_of_neg_of_pos h1 (show (0 : Int) < unitF by omega)
        rw [Int.neg_mul] at this; omega
      · exact h1
    obtain ⟨k, hk⟩ := Int.eq_ofNat_of_zero_le hn
    have h2 : (magR (rungF x) : Int) = (k : Int) * unitF := by rw [← hk, Int.neg_mul]; omega
    rw [← Int.natCast_mul] at h2
    rw [show magR (rungF x) = k * unitF by omega, Nat.mul_div_cancel _ hu]
    omega
end Go.Proofs.YtmojpbfkpggjhaaGreat

/-
  The program logic, eleventh part: floating point operations. No statement is proved here.
-/
namespace Go.Proofs.YtmojpbfkpggjhaaGreat
open Go Go.RowKit
set_option linter.unusedVariables false
set_option linter.unusedSimpArgs false
variable {P : Program} {n : Nat} {L : Env} {w : World} {ty : TypeId} {x y c : Operand} {t yt : TypeId} {u v : Nat}

def floatOp (op : BinOp) (u v : Nat) : Sem Value := match op with
      | .add | .sub | .mul | .quo => Op.floatArith op .f64 u v
      | _ => Op.floatCmp op .f64 u v
theorem run_binF {op : BinOp} {r : Value} (hop : op ≠ .shl ∧ op ≠ .shr) (hx : opv L x = some (.float .f64 u)) (hy : opv L y = some (.float .f64 v))
    (hr : (floatOp op u v).run P w = .ok r w) : Yields P n L w (.binOp op t x y yt) ty r := by
  intro a ha d pos aft g
  simp only [execOp, ha.eval hx, ha.eval hy]
  have hg : eqGuard op t x y (.float .f64 u) (.float .f64 v) = pure () := by
    unfold eqGuard
    cases op <;> rfl
  have hb : binOp op t (.float .f64 u) (.float .f64 v) = floatOp op u v := by
    cases op <;> first | (exact absurd rfl hop.1) | (exact absurd rfl hop.2) | simp [binOp, floatOp]
  rw [hg, hb]
  simp only [pure_bind, Sem.run_bind, hr, Result.andThen_ok, Sem.run_pure]
/-- words held against each other, whatever they are -/
def ordF (u v : Nat) : Option Ordering := Ieee.double.order u v
theorem Y.fEql' (hx : opv L x = some (.float .f64 u)) (hy : opv L y = some (.float .f64 v)) : Yields P n L w (.binOp .eql t x y yt) ty (.bool (ordF u v == some .eq)) := run_binF (by simp) hx hy rfl
theorem Y.fNeq' (hx : opv L x = some (.float .f64 u)) (hy : opv L y = some (.float .f64 v)) : Yields P n L w (.binOp .neq t x y yt) ty (.bool (ordF u v != some .eq)) := run_binF (by simp) hx hy rfl
theorem Y.fLss' (hx : opv L x = some (.float .f64 u)) (hy : opv L y = some (.float .f64 v)) : Yields P n L w (.binOp .lss t x y yt) ty (.bool (ordF u v == some .lt)) := run_binF (by simp) hx hy rfl
theorem Y.fGtr' (hx : opv L x = some (.float .f64 u)) (hy : opv L y = some (.float .f64 v)) : Yields P n L w (.binOp .gtr t x y yt) ty (.bool (ordF u v == some .gt)) := run_binF (by simp) hx hy rfl
theorem Y.fLeq' (hx : opv L x = some (.float .f64 u)) (hy : opv L y = some (.float .f64 v)) : Yields P n L w (.binOp .leq t x y yt) ty (.bool (ordF u v == some .lt || ordF u v == some .eq)) := run_binF (by simp) hx hy rfl
theorem Y.fGeq' (hx : opv L x = some (.float .f64 u)) (hy : opv L y = some (.float .f64 v)) : Yields P n L w (.binOp .geq t x y yt) ty (.bool (ordF u v == some .gt || ordF u v == some .eq)) := run_binF (by simp) hx hy rfl
theorem ord_cases (a b : Int) : (compare a b = .lt ↔ a < b) ∧ (compare a b = .eq ↔ a = b) ∧ (compare a b = .gt ↔ b < a) := by
  simp only [compare, compareOfLessAndEq]
  by_cases h1 : a < b
  · simp [h1]; omega
  · by_cases h2 : a = b
    · subst h2; simp
    · simp [h1, h2]; omega
theorem beq_some_ord (o p : Ordering) : (some o == some p) = decide (o = p) := by cases o <;> cases p <;> rfl
theorem ord_le (a b : Int) : (some (compare a b) == some .lt || some (compare a b) == some .eq) = decide (a ≤ b) := by
  simp only [compare, compareOfLessAndEq]
  by_cases h1 : a < b
  · rw [if_pos h1, decide_eq_true (show a ≤ b by omega)]; rfl
  · by_cases h2 : a = b
    · rw [if_neg h1, if_pos h2, decide_eq_true (show a ≤ b by omega)]; rfl
    · rw [if_neg h1, if_neg h2, decide_eq_false (show ¬ a ≤ b by omega)]; rfl
theorem ord_ge (a b : Int) : (some (compare a b) == some .gt || some (compare a b) == some .eq) = decide (b ≤ a) := by
  simp only [compare, compareOfLessAndEq]
  by_cases h1 : a < b
  · rw [if_pos h1, decide_eq_false (show ¬ b ≤ a by omega)]; rfl
  · by_cases h2 : a = b
    · rw [if_neg h1, if_pos h2, decide_eq_true (show b ≤ a by omega)]; rfl
    · rw [if_neg h1, if_neg h2, decide_eq_true (show b ≤ a by omega)]; rfl
section
variable (hu : finF u) (hv : finF v)
include hu hv
theorem Y.fEql (hx : opv L x = some (.float .f64 u)) (hy : opv L y = some (.float .f64 v)) : Yields P n L w (.binOp .eql t x y yt) ty (.bool (decide (zF u = zF v))) := by
  have := Y.fEql' (P := P) (n := n) (w := w) (ty := ty) (t := t) (yt := yt) hx hy
  rw [ordF, order_fin u v hu hv, beq_some_ord, decide_eq_decide.2 (ord_cases _ _).2.1] at this
  exact this
theorem Y.fNeq (hx : opv L x = some (.float .f64 u)) (hy : opv L y = some (.float .f64 v)) : Yields P n L w (.binOp .neq t x y yt) ty (.bool (decide (zF u ≠ zF v))) := by
  have := Y.fNeq' (P := P) (n := n) (w := w) (ty := ty) (t := t) (yt := yt) hx hy
  rw [ordF, order_fin u v hu hv, bne, beq_some_ord, decide_eq_decide.2 (ord_cases _ _).2.1, ← decide_not] at this
  exact this
theorem Y.fLss (hx : opv L x = some (.float .f64 u)) (hy : opv L y = some (.float .f64 v)) : Yields P n L w (.binOp .lss t x y yt) ty (.bool (decide (zF u < zF v))) := by
  have := Y.fLss' (P := P) (n := n) (w := w) (ty := ty) (t := t) (yt := yt) hx hy
  rw [ordF, order_fin u v hu hv, beq_some_ord, decide_eq_decide.2 (ord_cases _ _).1] at this
  exact this
theorem Y.fGtr (hx : opv L x = some (.float .f64 u)) (hy : opv L y = some (.float .f64 v)) : Yields P n L w (.binOp .gtr t x y yt) ty (.bool (decide (zF v < zF u))) := by
  have := Y.fGtr' (P := P) (n := n) (w := w) (ty := ty) (t := t) (yt := yt) hx hy
  rw [ordF, order_fin u v hu hv, beq_some_ord, decide_eq_decide.2 (ord_cases _ _).2.2] at this
  exact this
theorem Y.fLeq (hx : opv L x = some (.float .f64 u)) (hy : opv L y = some (.float .f64 v)) : Yields P n L w (.binOp .leq t x y yt) ty (.bool (decide (zF u ≤ zF v))) := by
  have := Y.fLeq' (P := P) (n := n) (w := w) (ty := ty) (t := t) (yt := yt) hx hy
  rw [ordF, order_fin u v hu hv, ord_le] at this
  exact this
theorem Y.fGeq (hx : opv L x = some (.float .f64 u)) (hy : opv L y = some (.float .f64 v)) : Yields P n L w (.binOp .geq t x y yt) ty (.bool (decide (zF v ≤ zF u))) := by
  have := Y.fGeq' (P := P) (n := n) (w := w) (ty := ty) (t := t) (yt := yt) hx hy
  rw [ordF, order_fin u v hu hv, ord_ge] at this
  exact this
end
section
variable (T : Tab P)
theorem Y.convIF {k : IntKind} {z : Int} {src dst : TypeId} {d : Ty} (hs : T.ty src = some d) (hd : T.ty dst = some .float) (hx : opv L x = some (.int k z)) : Yields P n L w (.convert src dst x) ty (.float .f64 (fwF z)) := by
  intro a ha d' pos aft g
  have h2 : P.underlying dst = some (.float .f64) := T.ty_ok _ _ hd
  have h1 : ∃ z, P.underlying src = some z := by
    have := T.ty_ok _ _ hs
    cases d <;> first | exact ⟨_, this⟩ | (obtain ⟨z, h, _⟩ := this; exact ⟨_, h⟩)
  obtain ⟨z, h1⟩ := h1
  simp only [execOp, ha.eval hx, convert, Sem.run_bind, run_underlying h1, run_underlying h2, Result.andThen_ok]
  cases z <;> rfl
theorem Y.convFI {src dst : TypeId} {d : Ty} (hs : T.ty src = some d) (hd : T.ty dst = some (.int .i64)) (hx : opv L x = some (.float .f64 u)) (hu : finF u) (hb : -9223372036854775808 ≤ truncF u ∧ truncF u ≤ 9223372036854775807) : Yields P n L w (.convert src dst x) ty (.int .i64 (truncF u)) := by
  intro a ha d' pos aft g
  have h2 : P.underlying dst = some (.int .i64) := T.ty_ok _ _ hd
  have h1 : ∃ z, P.underlying src = some z := by
    have := T.ty_ok _ _ hs
    cases d <;> first | exact ⟨_, this⟩ | (obtain ⟨z, h, _⟩ := this; exact ⟨_, h⟩)
  obtain ⟨z, h1⟩ := h1
  simp only [execOp, ha.eval hx, convert, Sem.run_bind, run_underlying h1, run_underlying h2, Result.andThen_ok]
  have hc : (Conv.floatToInt .f64 u .i64).run P w = .ok (.int .i64 (truncF u)) w := by
    unfold Conv.floatToInt
    rw [toInt_fin u hu]
    have hb' : IntKind.i64.min ≤ truncF u ∧ truncF u ≤ IntKind.i64.max := hb
    simp only
    rw [if_pos hb']; rfl
  cases z <;> simp only [hc, Result.andThen_ok, Sem.run_pure]
end
end Go.Proofs.YtmojpbfkpggjhaaGreat

/-
  The program logic, twelfth part: short names for steps that are taken often; written by a program of the prover's. No statement is proved here.
-/
namespace Go.Proofs.YtmojpbfkpggjhaaGreat
open Go Go.RowKit
set_option linter.unusedVariables false
set_option linter.unusedSimpArgs false
set_option linter.unusedVariables false
variable {P : Program} {n : Nat} {Q : Post} {L : Env} {w0 w : World} {h0 h : GHeap} {O : List Row} {ops rest : List Oper} {x y c : Operand} {t yt : TypeId} {d9 d : Option Tmp} {ty : TypeId} {pos : String} {aft : Array Edge}
theorem R1 {v : Value} (hx : opv L x = some v) (hd9 : dstOk n d9 = true) (kk : RW P n ops Q (updo d9 v L) w rest) : RW P n ops Q L w (⟨d9, (.move x), ty, pos, aft, none⟩ :: rest) := RW.val (Y.move hx) hd9 kk
theorem R2 {v : Value} (hx : opv L x = some v) (hd9 : dstOk n d9 = true) (kk : RW P n ops Q (updo d9 v L) w rest) : RW P n ops Q L w (⟨d9, (.assign x), ty, pos, aft, none⟩ :: rest) := RW.val (Y.assign hx) hd9 kk
theorem R34 (T : Tab P) (hs : Sees w0 h0 h O w) (k : Nat) {dd : Ty} {b o m cp : Nat} {e : TypeId} {sz : Nat} {xs : List Value} {v : Value} (hO : O[k]? = some ⟨some ⟨b, 0, none⟩, m, cp, e, sz, xs⟩) (hx : opv L x = some (.pointer (some ⟨b, o, none⟩))) (hT : T.ty t = some dd) (hd : dd.agg = false) (hv : xs[o]? = some v) (hd9 : dstOk n d9 = true) (kk : RW P n ops Q (updo d9 v L) w rest) : RW P n ops Q L w (⟨d9, (.load t x), ty, pos, aft, none⟩ :: rest) := RW.val (Y.loadRow1 T hs k hO hx hT hd hv) hd9 kk
theorem A0 {r : List Oper} (hh : RW P n ops Q L w r) : RW P n ops Q L w r := RW.isRW hh
theorem A1 {op : Op} {g : Nat × Bool} (hh : RW P n ops Q L w (⟨d, op, ty, pos, aft, some g⟩ :: rest)) : RW P n ops Q L w (⟨d, op, ty, pos, aft, some g⟩ :: rest) := RW.isGuard hh
theorem A3 {g : Option (Nat × Bool)} (hh : RW P n ops Q L w (⟨d, .load t x, ty, pos, aft, g⟩ :: rest)) : RW P n ops Q L w (⟨d, .load t x, ty, pos, aft, g⟩ :: rest) := RW.isLoad hh
theorem A8 (h : Q .normal L w) : RW P n ops Q L w [] := RW.nil h
theorem B0 {c : Code} (hh : CW P n Q c L w) : CW P n Q c L w := CW.isCW hh
theorem B1 {x y : Code} (h : CW P n (thenQ P n y Q) x L w) : CW P n Q (.seq x y) L w := CW.seq h
theorem B2 {id : Nat} {l : List Oper} (h : RW P n l Q L w l) : CW P n Q (.region id l.toArray false) L w := CW.region h
theorem B3 {id : Nat} {c : Code} (h : CW P n (blockQ id Q) c L w) : CW P n Q (.block id c) L w := CW.block h
theorem B4 (h : Q .ret L w) : CW P n Q .ret L w := CW.ret h
theorem B5 (h : Q .normal L w) : CW P n Q .skip L w := CW.skip h
theorem B6 {id : Nat} (h : Q (.exit id) L w) : CW P n Q (.exit id) L w := CW.exit h
theorem B7 {c : Operand} {x y : Code} (hc : opv L c = some (.bool true)) (ht : CW P n Q x L w) : CW P n Q (.cond c x y) L w := CW.condT hc ht
theorem B8 {c : Operand} {x y : Code} (hc : opv L c = some (.bool false)) (hf : CW P n Q y L w) : CW P n Q (.cond c x y) L w := CW.condF hc hf
theorem C1 {z : Code} (hh : CW P n Q z L w) : thenQ P n z Q .normal L w := thenQ_normal hh
theorem C2 {z : Code} (hh : Q .ret L w) : thenQ P n z Q .ret L w := thenQ_ret hh
theorem C3 {z : Code} {id : Nat} (hh : Q (.exit id) L w) : thenQ P n z Q (.exit id) L w := thenQ_exit hh
theorem C4 {id : Nat} (hh : Q .normal L w) : blockQ id Q .normal L w := blockQ_normal hh
theorem C5 {id : Nat} (hh : Q .ret L w) : blockQ id Q .ret L w := blockQ_ret hh
theorem C6 {σ : Type} {E : σ → Env} {S : σ → World → Prop} {μ : σ → Nat} {s : σ} (hh : Q .ret L w) : loopQ E S μ s Q .ret L w := loopQ_ret hh
theorem C7 {σ : Type} {E : σ → Env} {S : σ → World → Prop} {μ : σ → Nat} {s : σ} {id : Nat} (hh : Q (.exit id) L w) : loopQ E S μ s Q (.exit id) L w := loopQ_exit hh
theorem C8 {σ : Type} {E : σ → Env} {S : σ → World → Prop} (hh : Q .ret L w) : joinQ E S Q .ret L w := joinQ_ret hh
theorem C9 {σ : Type} {E : σ → Env} {S : σ → World → Prop} {id : Nat} (hh : Q (.exit id) L w) : joinQ E S Q (.exit id) L w := joinQ_exit hh
theorem D1 {id id' : Nat} (he : Nat.beq id' id = true) (hh : Q .normal L w) : blockQ id Q (.exit id') L w := blockQ_exit he hh
theorem D2 {id id' : Nat} (he : Nat.beq id' id = false) (hh : Q (.exit id') L w) : blockQ id Q (.exit id') L w := blockQ_past he hh
theorem D3 {d : Option Tmp} {op : Op} {ty : TypeId} {pos : String} {aft : Array Edge} {j : Nat} {want : Bool} {t : Tmp} (hj : gdst ops j = some t) (ht : get L t = some (.bool want)) (h : RW P n ops Q L w (⟨d, op, ty, pos, aft, none⟩ :: rest)) : RW P n ops Q L w (⟨d, op, ty, pos, aft, some (j, want)⟩ :: rest) := RW.guardYes hj ht h
theorem D4 {d : Option Tmp} {op : Op} {ty : TypeId} {pos : String} {aft : Array Edge} {j : Nat} {want b : Bool} {t : Tmp} (hj : gdst ops j = some t) (ht : get L t = some (.bool b)) (hb : (b == want) = false) (hd : dstOk n d = true) (h : RW P n ops Q (updo d undef L) w rest) : RW P n ops Q L w (⟨d, op, ty, pos, aft, some (j, want)⟩ :: rest) := RW.guardNo hj ht hb hd h
theorem D5 {d : Option Tmp} {op : Op} {ty : TypeId} {pos : String} {aft : Array Edge} {j : Nat} {want : Bool} {t : Tmp} (hj : gdst ops j = some t) (ht : get L t = some undef) (hd : dstOk n d = true) (h : RW P n ops Q (updo d undef L) w rest) : RW P n ops Q L w (⟨d, op, ty, pos, aft, some (j, want)⟩ :: rest) := RW.guardUndef hj ht hd h
end Go.Proofs.YtmojpbfkpggjhaaGreat

/-
  The program logic, twelfth part, continued: steps whose side conditions are found by a default proof; written by a program of the prover's. No statement is proved here.
-/
namespace Go.Proofs.YtmojpbfkpggjhaaGreat
open Go Go.RowKit
set_option linter.unusedVariables false
set_option linter.unusedSimpArgs false
set_option linter.unusedVariables false
variable {P : Program} {n : Nat} {Q : Post} {L : Env} {w0 w : World} {h0 h : GHeap} {O : List Row} {ops rest : List Oper} {x y c : Operand} {t yt : TypeId} {d9 d : Option Tmp} {ty : TypeId} {pos : String} {aft : Array Edge} {o9 : BinOp} {u9 : UnOp} {j9 : Nat} {c9 : Call}
theorem Zb {v : Value} (kk : RW P n ops Q (updo d9 v L) w rest) (hd9 : dstOk n d9 = true) (hy : Yields P n L w (.binOp o9 t x y yt) ty v := by first | exact Y.lss rfl rfl | exact Y.add rfl rfl (by omega) | exact Y.eql rfl rfl | exact Y.neq rfl rfl | exact Y.gtr rfl rfl | exact Y.geq rfl rfl | exact Y.leq rfl rfl | exact Y.sub rfl rfl (by omega) | exact Y.quo rfl rfl (by omega) (by omega) | exact Y.rem rfl rfl (by omega) (by omega)) : RW P n ops Q L w (⟨d9, .binOp o9 t x y yt, ty, pos, aft, none⟩ :: rest) := RW.val hy hd9 kk
theorem Zl {v : Value} (kk : RW P n ops Q (updo d9 v L) w rest) (hd9 : dstOk n d9 = true) (hy : Yields P n L w (.load t x) ty v := by first | exact Y.ldInt T hs rfl (by assumption) rfl rfl (by omega) | exact Y.ldS T hs rfl (by assumption) rfl rfl (by omega) (by assumption) | exact Y.loadRowN T hs 0 rfl rfl rfl rfl rfl rfl rfl | exact Y.loadRowN T hs 1 rfl rfl rfl rfl rfl rfl rfl) : RW P n ops Q L w (⟨d9, .load t x, ty, pos, aft, none⟩ :: rest) := RW.val hy hd9 kk
theorem Zi {v : Value} (kk : RW P n ops Q (updo d9 v L) w rest) (hd9 : dstOk n d9 = true) (hy : Yields P n L w (.indexAddr t x y) ty v := by first | exact Y.idxSN T rfl rfl (by assumption) rfl rfl rfl (by omega) | exact Y.idxS T rfl rfl (by assumption) rfl rfl rfl (by omega)) : RW P n ops Q L w (⟨d9, .indexAddr t x y, ty, pos, aft, none⟩ :: rest) := RW.val hy hd9 kk
theorem Zk {v : Value} (kk : RW P n ops Q (updo d9 v L) w rest) (hd9 : dstOk n d9 = true) (hy : Yields P n L w (.load t x) ty v := by first | exact Y.ldInt T hs rfl (by assumption) rfl rfl (by omega) | exact Y.ldS T hs rfl (by assumption) rfl rfl (by omega) (by assumption) | exact Y.loadRowN T hs 0 rfl rfl rfl rfl rfl rfl rfl | exact Y.loadRowN T hs 1 rfl rfl rfl rfl rfl rfl rfl | exact Y.ldQ T hs rfl (by assumption) rfl rfl (by omega) rfl (by assumption) | exact Y.ldSN T hs rfl (by assumption) rfl rfl rfl rfl (by omega) (by assumption) rfl | exact Y.ldSN T hs rfl (by assumption) rfl rfl rfl rfl (by omega) (by assumption) (by assumption) | exact Y.loadRow1 T hs 2 rfl rfl rfl rfl rfl | exact Y.loadRowN T hs 2 rfl rfl rfl rfl rfl rfl rfl | exact Y.loadRow1 T hs 3 rfl rfl rfl rfl rfl | exact Y.loadRowN T hs 3 rfl rfl rfl rfl rfl rfl rfl | exact Y.loadRow1 T hs 4 rfl rfl rfl rfl rfl | exact Y.loadRowN T hs 4 rfl rfl rfl rfl rfl rfl rfl | exact Y.loadRow1 T hs 5 rfl rfl rfl rfl rfl | exact Y.loadRowN T hs 5 rfl rfl rfl rfl rfl rfl rfl | exact Y.loadRow1 T hs 6 rfl rfl rfl rfl rfl | exact Y.loadRowN T hs 6 rfl rfl rfl rfl rfl rfl rfl) : RW P n ops Q L w (⟨d9, .load t x, ty, pos, aft, none⟩ :: rest) := RW.val hy hd9 kk
theorem Qz {v : Value} {C9 : World → Prop} {K9 : Env → Prop} {op9 : Op} (kk : QW P n ops C9 K9 (updo d9 v L) rest) (hd9 : dstOk n d9 = true) (hy : ∀ w, C9 w → Yields P n L w op9 ty v := by first | exact fun _ _ => Y.move rfl | exact fun _ _ => Y.assign rfl | exact fun _ _ => Y.lss rfl rfl | exact fun _ _ => Y.add rfl rfl (by omega) | exact fun _ _ => Y.eql rfl rfl | exact fun _ _ => Y.neq rfl rfl | exact fun _ _ => Y.gtr rfl rfl | exact fun _ _ => Y.geq rfl rfl | exact fun _ _ => Y.leq rfl rfl | exact fun _ _ => Y.sub rfl rfl (by omega) | exact fun _ _ => Y.quo rfl rfl (by omega) (by omega) | exact fun _ _ => Y.rem rfl rfl (by omega) (by omega) | exact fun _ hs => Y.ldInt T hs rfl (by assumption) rfl rfl (by omega) | exact fun _ hs => Y.ldS T hs rfl (by assumption) rfl rfl (by omega) (by assumption) | exact fun _ _ => Y.idxSN T rfl rfl (by assumption) rfl rfl rfl (by omega) | exact fun _ _ => Y.idxS T rfl rfl (by assumption) rfl rfl rfl (by omega) | exact fun _ _ => Y.len T rfl rfl | exact fun _ _ => Y.notD rfl | exact fun _ _ => Y.not rfl | exact fun _ _ => Y.extract rfl rfl | exact fun _ _ => Y.pickT rfl rfl | exact fun _ _ => Y.pickF rfl rfl) : QW P n ops C9 K9 L (⟨d9, op9, ty, pos, aft, none⟩ :: rest) := QW.val hy hd9 kk
theorem Qe {v : Value} {C9 : World → Prop} {K9 : Env → Prop} {op9 : Op} (kk : QW P n ops C9 K9 (updo d9 v L) rest) (hd9 : dstOk n d9 = true) (hy : ∀ w, C9 w → Yields P n L w op9 ty v := by first | exact fun _ _ => Y.move rfl | exact fun _ _ => Y.assign rfl | exact fun _ _ => Y.lss rfl rfl | exact fun _ _ => Y.add rfl rfl (by omega) | exact fun _ _ => Y.eql rfl rfl | exact fun _ _ => Y.neq rfl rfl | exact fun _ _ => Y.gtr rfl rfl | exact fun _ _ => Y.geq rfl rfl | exact fun _ _ => Y.leq rfl rfl | exact fun _ _ => Y.sub rfl rfl (by omega) | exact fun _ _ => Y.quo rfl rfl (by omega) (by omega) | exact fun _ _ => Y.rem rfl rfl (by omega) (by omega) | exact fun _ _ => Y.fieldAddr T rfl rfl rfl rfl rfl | exact fun _ _ => Y.fieldE T rfl rfl rfl rfl rfl (by assumption) (by omega) | exact fun _ hs => Y.ldInt T hs rfl (by assumption) rfl rfl (by omega) | exact fun _ hs => Y.ldS T hs rfl (by assumption) rfl rfl (by omega) (by assumption) | exact fun _ hs => Y.loadRow1 T hs 0 rfl rfl rfl rfl rfl | exact fun _ hs => Y.loadRowN T hs 0 rfl rfl rfl rfl rfl rfl rfl | exact fun _ hs => Y.loadRow1 T hs 1 rfl rfl rfl rfl rfl | exact fun _ hs => Y.loadRowN T hs 1 rfl rfl rfl rfl rfl rfl rfl | exact fun _ hs => Y.loadRow1 T hs 2 rfl rfl rfl rfl rfl | exact fun _ hs => Y.loadRowN T hs 2 rfl rfl rfl rfl rfl rfl rfl | exact fun _ hs => Y.loadRow1 T hs 3 rfl rfl rfl rfl rfl | exact fun _ hs => Y.loadRowN T hs 3 rfl rfl rfl rfl rfl rfl rfl | exact fun _ hs => Y.ldQ T hs rfl (by assumption) rfl rfl (by omega) rfl (by assumption) | exact fun _ hs => Y.ldSN T hs rfl (by assumption) rfl rfl rfl rfl (by omega) (by assumption) rfl | exact fun _ hs => Y.ldSN T hs rfl (by assumption) rfl rfl rfl rfl (by omega) (by assumption) (by assumption) | exact fun _ _ => Y.idxSN T rfl rfl (by assumption) rfl rfl rfl (by omega) | exact fun _ _ => Y.idxS T rfl rfl (by assumption) rfl rfl rfl (by omega) | exact fun _ _ => Y.len T rfl rfl | exact fun _ _ => Y.notD rfl | exact fun _ _ => Y.not rfl | exact fun _ _ => Y.extract rfl rfl | exact fun _ _ => Y.pickT rfl rfl | exact fun _ _ => Y.pickF rfl rfl) : QW P n ops C9 K9 L (⟨d9, op9, ty, pos, aft, none⟩ :: rest) := QW.val hy hd9 kk
theorem Se {v : Value} {K9 : Env → Prop} {op9 : Op} (kk : SW P n ops w K9 (updo d9 v L) rest) (hd9 : dstOk n d9 = true) (hy : Yields P n L w op9 ty v := by first | exact Y.move rfl | exact Y.assign rfl | exact Y.lss rfl rfl | exact Y.add rfl rfl (by omega) | exact Y.eql rfl rfl | exact Y.neq rfl rfl | exact Y.gtr rfl rfl | exact Y.geq rfl rfl | exact Y.leq rfl rfl | exact Y.sub rfl rfl (by omega) | exact Y.quo rfl rfl (by omega) (by omega) | exact Y.rem rfl rfl (by omega) (by omega) | exact Y.fieldAddr T rfl rfl rfl rfl rfl | exact Y.fieldE T rfl rfl rfl rfl rfl (by assumption) (by omega) | exact Y.ldInt T hs rfl (by assumption) rfl rfl (by omega) | exact Y.ldS T hs rfl (by assumption) rfl rfl (by omega) (by assumption) | exact Y.loadRow1 T hs 0 rfl rfl rfl rfl rfl | exact Y.loadRowN T hs 0 rfl rfl rfl rfl rfl rfl rfl | exact Y.loadRow1 T hs 1 rfl rfl rfl rfl rfl | exact Y.loadRowN T hs 1 rfl rfl rfl rfl rfl rfl rfl | exact Y.loadRow1 T hs 2 rfl rfl rfl rfl rfl | exact Y.loadRowN T hs 2 rfl rfl rfl rfl rfl rfl rfl | exact Y.loadRow1 T hs 3 rfl rfl rfl rfl rfl | exact Y.loadRowN T hs 3 rfl rfl rfl rfl rfl rfl rfl | exact Y.ldQ T hs rfl (by assumption) rfl rfl (by omega) rfl (by assumption) | exact Y.ldSN T hs rfl (by assumption) rfl rfl rfl rfl (by omega) (by assumption) rfl | exact Y.ldSN T hs rfl (by assumption) rfl rfl rfl rfl (by omega) (by assumption) (by assumption) | exact Y.idxSN T rfl rfl (by assumption) rfl rfl rfl (by omega) | exact Y.idxS T rfl rfl (by assumption) rfl rfl rfl (by omega) | exact Y.len T rfl rfl | exact Y.notD rfl | exact Y.not rfl | exact Y.extract rfl rfl | exact Y.pickT rfl rfl | exact Y.pickF rfl rfl) : SW P n ops w K9 L (⟨d9, op9, ty, pos, aft, none⟩ :: rest) := SW.val hy hd9 kk
theorem Zo {v : Value} {op9 : Op} (kk : RW P n ops Q (updo d9 v L) w rest) (hd9 : dstOk n d9 = true) (hy : Yields P n L w op9 ty v := by first | exact Y.extract rfl rfl | exact Y.notD rfl | exact Y.not rfl | exact Y.pickT rfl rfl | exact Y.pickF rfl rfl | exact Y.fieldAddr T rfl rfl rfl rfl rfl | exact Y.len T rfl rfl | exact Y.max2 rfl rfl | exact Y.min2 rfl rfl) : RW P n ops Q L w (⟨d9, op9, ty, pos, aft, none⟩ :: rest) := RW.val hy hd9 kk
theorem Zq {v : Value} {op9 : Op} (kk : RW P n ops Q (updo d9 v L) w rest) (hd9 : dstOk n d9 = true) (hy : Yields P n L w op9 ty v := by first | exact Y.extract rfl rfl | exact Y.notD rfl | exact Y.not rfl | exact Y.pickT rfl rfl | exact Y.pickF rfl rfl | exact Y.fieldAddr T rfl rfl rfl rfl rfl | exact Y.fieldE T rfl rfl rfl rfl rfl (by assumption) (by omega) | exact Y.len T rfl rfl | exact Y.max2 rfl rfl | exact Y.min2 rfl rfl) : RW P n ops Q L w (⟨d9, op9, ty, pos, aft, none⟩ :: rest) := RW.val hy hd9 kk
theorem E6 {op : Op} {j : Nat} {want : Bool} {p : Prop} [Decidable p] {u : Tmp} (h1 : RW P n ops Q ((u, .bool true) :: L) w (⟨d, op, ty, pos, aft, some (j, want)⟩ :: rest)) (hj : gdst ops j = some u) (ht : get L u = some (.bool (decide p))) (hp : p := by omega) : RW P n ops Q L w (⟨d, op, ty, pos, aft, some (j, want)⟩ :: rest) := RW.gdY hj ht hp h1
theorem E7 {op : Op} {j : Nat} {want : Bool} {p : Prop} [Decidable p] {u : Tmp} (h1 : RW P n ops Q ((u, .bool false) :: L) w (⟨d, op, ty, pos, aft, some (j, want)⟩ :: rest)) (hj : gdst ops j = some u) (ht : get L u = some (.bool (decide p))) (hp : ¬ p := by omega) : RW P n ops Q L w (⟨d, op, ty, pos, aft, some (j, want)⟩ :: rest) := RW.gdN hj ht hp h1
theorem E8 {a b : Code} {p : Prop} [Decidable p] (ht : CW P n Q a L w) (hc : opv L c = some (.bool (decide p))) (hp : p := by omega) : CW P n Q (.cond c a b) L w := CW.condY hc hp ht
theorem E9 {a b : Code} {p : Prop} [Decidable p] (hf : CW P n Q b L w) (hc : opv L c = some (.bool (decide p))) (hp : ¬ p := by omega) : CW P n Q (.cond c a b) L w := CW.condN hc hp hf
/-- kept out of sight of a search among assumptions -/
structure Hid (b : Prop) : Prop where
  out : b
theorem Zrun {a9 b9 : Prop} (k9 : b9) (f9 : Hid b9 → a9 := by intro k9; (repeat (first | (refine A0 ?_; first | refine R1 rfl rfl ?_ | refine R2 rfl rfl ?_ | (refine A1 ?_; first | refine D3 rfl rfl ?_ | refine D4 rfl rfl rfl rfl ?_ | refine D5 rfl rfl rfl ?_ | refine E6 ?_ rfl rfl | refine E7 ?_ rfl rfl) | refine Zb ?_ rfl | (refine A3 ?_; first | refine R34 T hs 0 rfl rfl rfl rfl rfl rfl ?_ | refine R34 T hs 1 rfl rfl rfl rfl rfl rfl ?_ | refine Zl ?_ rfl) | refine Zi ?_ rfl | refine Zo ?_ rfl | refine A8 ?_) | (refine B0 ?_; first | refine B1 ?_ | refine B2 ?_ | refine B3 ?_ | refine B4 ?_ | refine B5 ?_ | refine B6 ?_ | refine B7 rfl ?_ | refine B8 rfl ?_ | refine E8 ?_ rfl | refine E9 ?_ rfl) | refine C1 ?_ | refine C2 ?_ | refine C3 ?_ | refine C4 ?_ | refine C5 ?_ | refine C6 ?_ | refine C7 ?_ | refine C8 ?_ | refine C9 ?_ | refine D1 rfl ?_ | refine D2 rfl ?_)); exact k9.out) : a9 := f9 ⟨k9⟩
theorem Zerun {a9 b9 : Prop} (k9 : b9) (f9 : Hid b9 → a9 := by intro k9; (repeat (first | (refine A0 ?_; first | refine R1 rfl rfl ?_ | refine R2 rfl rfl ?_ | (refine A1 ?_; first | refine D3 rfl rfl ?_ | refine D4 rfl rfl rfl rfl ?_ | refine D5 rfl rfl rfl ?_ | refine E6 ?_ rfl rfl | refine E7 ?_ rfl rfl) | refine Zb ?_ rfl | (refine A3 ?_; first | refine R34 T hs 0 rfl rfl rfl rfl rfl rfl ?_ | refine R34 T hs 1 rfl rfl rfl rfl rfl rfl ?_ | refine Zk ?_ rfl) | refine Zi ?_ rfl | refine Zq ?_ rfl | refine A8 ?_) | (refine B0 ?_; first | refine B1 ?_ | refine B2 ?_ | refine B3 ?_ | refine B4 ?_ | refine B5 ?_ | refine B6 ?_ | refine B7 rfl ?_ | refine B8 rfl ?_ | refine E8 ?_ rfl | refine E9 ?_ rfl) | refine C1 ?_ | refine C2 ?_ | refine C3 ?_ | refine C4 ?_ | refine C5 ?_ | refine C6 ?_ | refine C7 ?_ | refine C8 ?_ | refine C9 ?_ | refine D1 rfl ?_ | refine D2 rfl ?_)); exact k9.out) : a9 := f9 ⟨k9⟩
theorem Zqrun {a9 b9 : Prop} (k9 : b9) (f9 : Hid b9 → a9 := by intro k9; (repeat (first | with_reducible refine QW.nil ?_ | refine Qz ?_ rfl | refine QW.guardYes rfl rfl ?_ | refine QW.guardNo rfl rfl rfl rfl ?_ | refine QW.guardUndef rfl rfl rfl ?_ | (refine QW.gdY rfl rfl ?_ ?_; omega) | (refine QW.gdN rfl rfl ?_ ?_; omega))); exact k9.out) : a9 := f9 ⟨k9⟩
theorem Zeqrun {a9 b9 : Prop} (k9 : b9) (f9 : Hid b9 → a9 := by intro k9; (repeat (first | with_reducible refine QW.nil ?_ | refine Qe ?_ rfl | refine QW.guardYes rfl rfl ?_ | refine QW.guardNo rfl rfl rfl rfl ?_ | refine QW.guardUndef rfl rfl rfl ?_ | (refine QW.gdY rfl rfl ?_ ?_; omega) | (refine QW.gdN rfl rfl ?_ ?_; omega))); exact k9.out) : a9 := f9 ⟨k9⟩
theorem Zsrun {a9 b9 : Prop} (k9 : b9) (f9 : Hid b9 → a9 := by intro k9; (repeat (first | with_reducible refine SW.nil ?_ | refine Se ?_ rfl)); exact k9.out) : a9 := f9 ⟨k9⟩
end Go.Proofs.YtmojpbfkpggjhaaGreat

/-
  The program logic, thirteenth part: results that lie in cells, boxed arguments, rows of rows; and how bits, lists of elements and arrays lie in memory. No statement is proved here.
-/
namespace Go.Proofs.YtmojpbfkpggjhaaGreat
open Go Go.RowKit
set_option linter.unusedVariables false
set_option linter.unusedSimpArgs false
set_option linter.unusedVariables false
section
variable {P : Program} (T : Tab P) {n : Nat} {Q : Post} {L : Env} {w0 w : World} {h0 h : GHeap} {O : List Row} {ops rest : List Oper} {x y : Operand} {t : TypeId}
variable {d : Option Tmp} {ty : TypeId} {pos : String} {aft : Array Edge}
include T in
/-- a result that lies in a row of the call's own -/
theorem resN (hs : Sees w0 h0 h O w) (k : Nat) {r : Nat} {dd : Ty} {i : Inf} {b m cp : Nat} {e : TypeId} {sz : Nat} {xs : List Value} (hO : O[k]? = some ⟨some ⟨b, 0, none⟩, m, cp, e, sz, xs⟩) (hx : get L r = some (.pointer (some ⟨b, 0, none⟩))) (hT : T.ty t = some dd) (hd : dd.agg = true) (hI : T.inf t = some i) (hl : xs.length = i.size) :
    ∃ a, get L r = some (.pointer (some a)) ∧ (loadVar t a).run P w = .ok (.agg xs.toArray) w := by
  refine ⟨_, hx, ?_⟩
  have hl' := run_loadCells_list (P := P) w ⟨b, 0, none⟩ xs (fun j v hv => by rw [Addr.add_lit]; exact hs.rowCell hO (by simpa using hv))
  rw [hl] at hl'
  simp [loadVar, T.isAgg hT, hd, T.sizeOf hI, hl']
/-- an argument of several cells, boxed -/
theorem RW.boxN (hs : Sees w0 h0 h O w) {e : TypeId} {cs : List Value} (hx : opv L x = some (.agg cs.toArray)) (hd : dstOk n d = true)
    (K : ∀ b w', Sees w0 h0 h (⟨some ⟨b, 0, none⟩, 1, 1, e, cs.length, cs⟩ :: O) w' → RW P n ops Q (updo d (.pointer (some ⟨b, 0, none⟩)) L) w' rest) :
    RW P n ops Q L w (⟨d, .box e x, ty, pos, aft, none⟩ :: rest) :=
  RW.box hs hx hd K
/-- a variable of several cells -/
theorem RW.allocN (hs : Sees w0 h0 h O w) {e : TypeId} {i : Inf} {cs : List Value} {sz : Nat} (hI : T.inf e = some i) (hd : dstOk n d = true) (hc : i.zero.cells.toList = cs) (hz : i.zero.cells.size = sz)
    (K : ∀ b w', Sees w0 h0 h (⟨some ⟨b, 0, none⟩, 1, 1, e, sz, cs⟩ :: O) w' → RW P n ops Q (updo d (.pointer (some ⟨b, 0, none⟩)) L) w' rest) :
    RW P n ops Q L w (⟨d, .alloc e, ty, pos, aft, none⟩ :: rest) := by
  refine RW.alloc T hs hI hd ?_
  rw [hc, hz]
  exact K
/-- a row of nought, its elements of one cell -/
theorem RW.make1 (hs : Sees w0 h0 h O w) {e : TypeId} {i : Inf} {kl kc : IntKind} {l : Nat} {z : Value} (hT : T.ty t = some (.slice e)) (hI : T.inf e = some i) (hx : opv L x = some (.int kl (l : Int))) (hy : opv L y = some (.int kc (l : Int))) (hd : dstOk n d = true)
    (h1 : i.size = 1) (hz : i.zero.cells = #[z]) (hb : i.bytes * l ≤ 281474976710656) (hc : l ≤ 9223372036854775807)
    (K : ∀ b w', Sees w0 h0 h (⟨some ⟨b, 0, none⟩, l, l, e, 1, List.replicate l z⟩ :: O) w' → RW P n ops Q (updo d (.slice (some ⟨b, 0, none⟩) l l) L) w' rest) :
    RW P n ops Q L w (⟨d, .makeSlice t x y, ty, pos, aft, none⟩ :: rest) := by
  refine RW.make T hs hT hI hx hy hd (by omega) (by omega) (by rw [← Int.natCast_mul]; omega) (by omega) ?_
  intro b w' hs
  rw [Int.toNat_natCast] at hs ⊢
  rw [h1, hz, made_one] at hs
  exact K b w' hs
/-- a variable of several cells is written whole -/
theorem RW.storeAll (hs : Sees w0 h0 h O w) (k : Nat) {b m cp : Nat} {e : TypeId} {sz : Nat} {xs cs : List Value} (hO : O[k]? = some ⟨some ⟨b, 0, none⟩, m, cp, e, sz, xs⟩) (hx : opv L x = some (.pointer (some ⟨b, 0, none⟩))) (hy : opv L y = some (.agg cs.toArray)) (hd : dstOk n d = true)
    {i : Inf} (hI : T.inf t = some i) (hi : cs.length = i.size) (hu : cs.all Value.oneCell' = true) (hl : cs.length = xs.length)
    (K : ∀ w', Sees w0 h0 h (O.set k ⟨some ⟨b, 0, none⟩, m, cp, e, sz, cs⟩) w' → RW P n ops Q (updo d undef L) w' rest) :
    RW P n ops Q L w (⟨d, .store t x y, ty, pos, aft, none⟩ :: rest) := by
  refine RW.storeN T hs k hO hx hy hd hI (by simpa using hi) (fun u h => List.all_eq_true.1 hu u (by simpa using h)) (by simp [hl]) ?_
  have key : ∀ (cs xs : List Value) (pre : List Value), cs.length = xs.length → putCells (pre ++ xs) pre.length cs = pre ++ cs := by
    intro cs
    induction cs with
    | nil => intro xs pre h; cases xs with
      | nil => simp [putCells]
      | cons => simp at h
    | cons c r ih =>
      intro xs pre h
      cases xs with
      | nil => simp at h
      | cons z xs =>
        simp only [putCells]
        rw [List.set_append_right _ _ (Nat.le_refl _), Nat.sub_self, List.set_cons_zero]
        have := ih xs (pre ++ [c]) (by simpa using h)
        simpa using this
  have hpc : putCells xs 0 cs = cs := by have := key cs xs [] hl; simpa using this
  show ∀ w', Sees w0 h0 h (O.set k ⟨some ⟨b, 0, none⟩, m, cp, e, sz, putCells xs 0 cs⟩) w' → _
  rw [hpc]
  exact K
end

theorem Sees.re {w0 w : World} {h0 h : GHeap} {O : List Row} {ad : Option Addr} {n cp sz : Nat} {e : TypeId} {xs ys : List Value} (hs : Sees w0 h0 h (⟨ad, n, cp, e, sz, xs⟩ :: O) w) (he : xs = ys) : Sees w0 h0 h (⟨ad, n, cp, e, sz, ys⟩ :: O) w := by subst he; exact hs
/-! ## Rows whose elements are of several cells -/
def AllN {α : Type} (sz : Nat) (R : List Value → α → Prop) : List Value → List α → Prop
  | xs, [] => xs = []
  | xs, a :: l => (xs.take sz).length = sz ∧ R (xs.take sz) a ∧ AllN sz R (xs.drop sz) l
section
variable {α : Type} {sz : Nat} {R R' : List Value → α → Prop}
theorem AllN.length : ∀ {xs : List Value} {l : List α}, AllN sz R xs l → xs.length = l.length * sz
  | xs, [], h => by have : xs = [] := h; simp [this]
  | xs, a :: l, h => by
    have h1 := h.1
    have h2 := AllN.length h.2.2
    rw [List.length_take] at h1
    rw [List.length_drop] at h2
    rw [List.length_cons, Nat.add_mul, Nat.one_mul]
    omega
theorem AllN.mono (hr : ∀ u a, R u a → R' u a) : ∀ {xs : List Value} {l : List α}, AllN sz R xs l → AllN sz R' xs l
  | _, [], h => h
  | _, _ :: _, h => ⟨h.1, hr _ _ h.2.1, AllN.mono hr h.2.2⟩
theorem AllN.get (dflt : α) : ∀ {xs : List Value} {l : List α} (j : Nat), AllN sz R xs l → j < l.length → R ((xs.drop (j * sz)).take sz) (l.getD j dflt) ∧ ((xs.drop (j * sz)).take sz).length = sz
  | _, [], _, _, hj => by simp at hj
  | xs, a :: l, 0, h, _ => by simpa using ⟨h.2.1, by simpa using h.1⟩
  | xs, a :: l, j + 1, h, hj => by
    have := AllN.get dflt j h.2.2 (by simpa using hj)
    rw [List.drop_drop] at this
    rw [Nat.add_mul, Nat.one_mul, Nat.add_comm]
    simpa using this
theorem AllN.one {xs : List Value} {a : α} (hl : xs.length = sz) (hr : R xs a) : AllN sz R xs [a] := by
  refine ⟨by simp [hl], ?_, ?_⟩
  · rw [List.take_of_length_le (by omega)]; exact hr
  · show xs.drop sz = []
    rw [List.drop_of_length_le (by omega)]
theorem AllN.append : ∀ {xs ys : List Value} {l m : List α}, AllN sz R xs l → AllN sz R ys m → AllN sz R (xs ++ ys) (l ++ m)
  | xs, ys, [], m, h, h' => by have : xs = [] := h; rw [this]; exact h'
  | xs, ys, a :: l, m, h, h' => by
    have h1 := h.1
    rw [List.length_take] at h1
    have e1 : (xs ++ ys).take sz = xs.take sz := List.take_append_of_le_length (by omega)
    have e2 : (xs ++ ys).drop sz = xs.drop sz ++ ys := List.drop_append_of_le_length (by omega)
    refine ⟨by rw [e1]; exact h.1, by rw [e1]; exact h.2.1, ?_⟩
    rw [e2]
    exact AllN.append h.2.2 h'
end

theorem slNil (h : GHeap) (sz : Nat) : Sl h sz none 0 0 [] := ⟨by simp, Nat.le_refl _, by simp [maxLen], fun _ => rfl, fun p hp => by cases hp⟩
/-! ## Slices of elements of one cell -/
def RowAt {α : Type} (mk : α → Value) (h : GHeap) (v : Value) (l : List α) : Prop := ∃ ad cp, v = .slice ad l.length cp ∧ Sl h 1 ad l.length cp (l.map mk)
theorem RowAt.mono {α : Type} {mk : α → Value} {h h' : GHeap} {v : Value} {l : List α} (hl : GLe h h') (hi : RowAt mk h v l) : RowAt mk h' v l := let ⟨a, c, e, s⟩ := hi; ⟨a, c, e, s.mono hl⟩
theorem RowAt.nil {α : Type} {mk : α → Value} (h : GHeap) : RowAt mk h (.slice none 0 0) [] := ⟨none, 0, rfl, rfl, Nat.le_refl _, by simp [maxLen], fun _ => rfl, fun p hp => by cases hp⟩
theorem RowAt.of_sl {α : Type} {mk : α → Value} {h : GHeap} {ad : Option Addr} {n cp : Nat} {l : List α} (hS : Sl h 1 ad n cp (l.map mk)) : RowAt mk h (.slice ad n cp) l := by
  have hl : l.length = n := by have := hS.1; simpa using this
  subst hl
  exact ⟨ad, cp, rfl, hS⟩
/-- slices of integers of a kind, and of floats -/
abbrev KAt (k : IntKind) := RowAt (Value.int k)
abbrev FAt := RowAt (Value.float .f64)
abbrev TAt := RowAt Value.bool
theorem IntsAt.k {h : GHeap} {v : Value} {l : List Int} (hi : IntsAt h v l) : KAt .i64 h v l := hi
/-- slices of elements of several cells -/
def RowsAt {α : Type} (sz : Nat) (R : List Value → α → Prop) (h : GHeap) (v : Value) (l : List α) : Prop := ∃ ad cp xs, v = .slice ad l.length cp ∧ Sl h sz ad l.length cp xs ∧ AllN sz R xs l
theorem RowsAt.nil {α : Type} {sz : Nat} {R : List Value → α → Prop} (h : GHeap) : RowsAt sz R h (.slice none 0 0) [] := ⟨none, 0, [], rfl, slNil h sz, rfl⟩
theorem RowsAt.mono {α : Type} {sz : Nat} {R R' : List Value → α → Prop} {h h' : GHeap} {v : Value} {l : List α} (hl : GLe h h') (hr : ∀ u a, R u a → R' u a) (hi : RowsAt sz R h v l) : RowsAt sz R' h' v l := let ⟨a, c, xs, e, s, r⟩ := hi; ⟨a, c, xs, e, s.mono hl, r.mono hr⟩

/-! ## Bits, lists of elements, arrays -/
/-- packed truths: the words' bits are the truths, and nought behind them -/
def BitsOf (ws : List Int) (bs : List Bool) : Prop := ws.length = (bs.length + 63) / 64 ∧ (∀ u ∈ ws, 0 ≤ u ∧ u < 18446744073709551616) ∧ ∀ i, (ws.getD (i / 64) 0).toNat.testBit (i % 64) = bs.getD i false
def BitsAt (h : GHeap) (v : Value) (bs : List Bool) : Prop := bs.length ≤ 1048576 ∧ ∃ ws, KAt .u64 h v ws ∧ BitsOf ws bs
theorem BitsAt.mono {h h' : GHeap} {v : Value} {bs : List Bool} (hl : GLe h h') (hi : BitsAt h v bs) : BitsAt h' v bs := let ⟨n, ws, a, b⟩ := hi; ⟨n, ws, a.mono hl, b⟩
/-- a list of elements: its store, and the numbers, characters or boxes -/
structure VecD (α : Type) where
  kind : Int
  nums : List Nat
  chars : List Int
  boxes : List α
/-- the word of a truth -/
def bitF (b : Bool) : Nat := if b then 4607182418800017408 else 0
def vecCells (k : Int) (w : Value) (n : Int) (sm il fl ch bx : Value) : List Value := [.int .i64 k, w, .int .i64 n, sm, il, fl, ch, bx]
def VecAt {α : Type} (R : GHeap → List Value → α → Prop) (h : GHeap) (cs : List Value) (v : VecD α) : Prop :=
  ∃ w n sm il fl ch bx, (cs = vecCells v.kind w n sm il fl ch bx ∧ cs.all Value.oneCell' = true) ∧
    ((v.kind = 0 ∧ v = ⟨0, [], [], []⟩)
    ∨ (v.kind = 1 ∧ ∃ bs, BitsAt h w bs ∧ n = bs.length ∧ v = ⟨1, bs.map bitF, [], []⟩)
    ∨ (v.kind = 2 ∧ ∃ l, KAt .i8 h sm l ∧ (∀ u ∈ l, -128 ≤ u ∧ u ≤ 127) ∧ v = ⟨2, l.map fwF, [], []⟩)
    ∨ (v.kind = 3 ∧ ∃ l, KAt .i64 h il l ∧ (∀ u ∈ l, -9007199254740992 ≤ u ∧ u ≤ 9007199254740992) ∧ v = ⟨3, l.map fwF, [], []⟩)
    ∨ (v.kind = 4 ∧ ∃ l, FAt h fl l ∧ (∀ u ∈ l, tidyF u) ∧ v = ⟨4, l, [], []⟩)
    ∨ (v.kind = 5 ∧ ∃ l, KAt .i32 h ch l ∧ v = ⟨5, [], l, []⟩)
    ∨ (v.kind = 6 ∧ ∃ l, RowsAt 9 (R h) h bx l ∧ v = ⟨6, [], [], l⟩))
def VecD.len {α : Type} (v : VecD α) : Nat := v.nums.length + v.chars.length + v.boxes.length
def VecD.cls {α : Type} (v : VecD α) : Int := if v.kind = 5 then 1 else if v.kind = 6 then 2 else 0
structure ArrD (α : Type) where
  shape : List Int
  vec : VecD α
/-- arrays whose boxes lie less than so deep -/
def AD : Nat → Type
  | 0 => Unit
  | k + 1 => ArrD (AD k)
def ArrAt : (k : Nat) → GHeap → List Value → AD k → Prop
  | 0, _, _, _ => False
  | k + 1, h, cs, a => ∃ s vc, cs = s :: vc ∧ IntsAt h s (ArrD.shape (α := AD k) a) ∧ VecAt (ArrAt k) h vc (ArrD.vec (α := AD k) a)
/-- what holds of a heap holds of a greater one -/
def Mono {α : Type} (R : GHeap → List Value → α → Prop) : Prop := ∀ h h' cs a, GLe h h' → R h cs a → R h' cs a
theorem VecAt.mono {α : Type} {R : GHeap → List Value → α → Prop} (hR : Mono R) {h h' : GHeap} {cs : List Value} {v : VecD α} (hl : GLe h h') (hv : VecAt R h cs v) : VecAt R h' cs v := by
  obtain ⟨w, n, sm, il, fl, ch, bx, hc, hv⟩ := hv
  refine ⟨w, n, sm, il, fl, ch, bx, hc, ?_⟩
  rcases hv with hv | ⟨hk, bs, h1, h2⟩ | ⟨hk, l, h1, h2⟩ | ⟨hk, l, h1, h2⟩ | ⟨hk, l, h1, h2⟩ | ⟨hk, l, h1, h2⟩ | ⟨hk, l, h1, h2⟩
  · exact .inl hv
  · exact .inr (.inl ⟨hk, bs, h1.mono hl, h2⟩)
  · exact .inr (.inr (.inl ⟨hk, l, h1.mono hl, h2⟩))
  · exact .inr (.inr (.inr (.inl ⟨hk, l, h1.mono hl, h2⟩)))
  · exact .inr (.inr (.inr (.inr (.inl ⟨hk, l, h1.mono hl, h2⟩))))
  · exact .inr (.inr (.inr (.inr (.inr (.inl ⟨hk, l, h1.mono hl, h2⟩)))))
  · exact .inr (.inr (.inr (.inr (.inr (.inr ⟨hk, l, h1.mono hl (fun u a => hR _ _ u a hl), h2⟩)))))
theorem ArrAt.mono : (k : Nat) → Mono (ArrAt k)
  | 0 => fun _ _ _ _ _ h => h
  | k + 1 => fun h h' cs a hl ⟨s, vc, e, hs, hv⟩ => ⟨s, vc, e, hs.mono hl, hv.mono (ArrAt.mono k) hl⟩
end Go.Proofs.YtmojpbfkpggjhaaGreat

/-
  Plain facts on floating point words: what is kept of them, and which are whole numbers. No program is in sight, and no statement is proved here.
-/
namespace Go.Proofs.YtmojpbfkpggjhaaGreat
open Ieee
theorem fw0 : fwF 0 = 0 := by decide
theorem fw1 : fwF 1 = 4607182418800017408 := by decide
theorem zF0 : zF 0 = 0 := by decide
theorem fin0 : finF 0 := by decide
theorem fin1 : finF 4607182418800017408 := by decide
theorem zF1 : zF 4607182418800017408 = unitF := by
  have := (fwF_spec 1 (by omega)).2
  rw [fw1] at this; omega
theorem finM : finF 4845873199050653696 := by decide
theorem finN : finF 14069245235905429504 := by decide
theorem zFM : zF 4845873199050653696 = 9007199254740992 * (unitF : Int) := by
  have e : fwF 9007199254740992 = 4845873199050653696 := by decide
  have := (fwF_spec 9007199254740992 (by omega)).2
  rw [e] at this; exact this
theorem zFN : zF 14069245235905429504 = -9007199254740992 * (unitF : Int) := by
  have e : fwF (-9007199254740992) = 14069245235905429504 := by decide
  have := (fwF_spec (-9007199254740992) (by omega)).2
  rw [e] at this; exact this
theorem finX : finF 9218868437227405311 := by decide
theorem finY : finF 18442240474082181119 := by decide
theorem sgX : sgF 9218868437227405311 = false ∧ rungF 9218868437227405311 = 9218868437227405311 := by decide
theorem sgY : sgF 18442240474082181119 = true ∧ rungF 18442240474082181119 = 9218868437227405311 := by decide
theorem zF_bounds (x : Nat) (h : finF x) : zF 18442240474082181119 ≤ zF x ∧ zF x ≤ zF 9218868437227405311 := by
  have h1 := magR_le (show rungF x ≤ 9218868437227405311 by unfold finF at h; omega)
  unfold zF
  rw [sgX.1, sgX.2, sgY.1, sgY.2]
  simp only [if_true, Bool.false_eq_true, if_false]
  cases sgF x <;> simp <;> omega
/-- words that are no finite numbers -/
theorem notfin (x : Nat) (h : ¬ finF x) : (∀ y, double.order x y = none ∧ double.order y x = none) ∨ (double.order x x = some .eq ∧ ∀ y, finF y → double.order x y = some (if sgF x then .lt else .gt)) := by
  unfold finF rungF at h
  have e1 : double.signWeight = 9223372036854775808 := by decide
  have e2 : double.binade = 4503599627370496 := by decide
  have e3 : double.infRung = 9218868437227405312 := by decide
  have hr : double.read x = (if x % 9223372036854775808 = 9218868437227405312 then Datum.infinity (sgF x) else Datum.nan (sgF x) (x % 9223372036854775808 - 9218868437227405312)) := by
    unfold Format.read sgF
    simp only [e1, e2, e3]
    rw [if_neg (by omega), if_neg (by omega)]
  by_cases hi : x % 9223372036854775808 = 9218868437227405312
  · rw [if_pos hi] at hr
    refine .inr ⟨?_, fun y hy => ?_⟩
    · unfold Format.order
      rw [hr]
      cases sgF x <;> rfl
    · obtain ⟨m, k, e, _⟩ := read_fin y hy
      unfold Format.order
      rw [hr, e]
      rfl
  · rw [if_neg hi] at hr
    refine .inl (fun y => ?_)
    unfold Format.order
    rw [hr]
    exact ⟨rfl, by cases double.read y <;> rfl⟩
/-- a number as it is kept -/
def tidySpec (x : Nat) : Nat × Bool := if finF x then (if zF x = 0 then 0 else x, true) else (0, false)
theorem zF_zero (x : Nat) (hx : x < 18446744073709551616) (h : zF x = 0) : x = 0 ∨ x = 9223372036854775808 := by
  have e := word_split x hx
  unfold zF at h
  cases hs : sgF x <;> rw [hs] at h e <;> simp only [if_true, Bool.false_eq_true, if_false] at h e
  · have := magR_inj (show magR (rungF x) = magR 0 by rw [magR_zero]; omega); omega
  · have := magR_inj (show magR (rungF x) = magR 0 by rw [magR_zero]; omega); omega
theorem tidy_tidy (x : Nat) (hx : x < 18446744073709551616) (h : finF x) : tidyF (tidySpec x).1 := by
  unfold tidySpec
  rw [if_pos h]
  by_cases hz : zF x = 0
  · simp only [hz, if_true]; exact ⟨by omega, fin0, by omega⟩
  · simp only [hz, if_false]
    refine ⟨hx, h, ?_⟩
    rintro rfl
    exact hz (by decide)
theorem tidySpec_of (x : Nat) (h : tidyF x) : tidySpec x = (x, true) := by
  unfold tidySpec
  rw [if_pos h.2.1]
  by_cases hz : zF x = 0
  · have := zF_zero x h.1 hz
    have := h.2.2
    rw [if_pos hz]; simp only [Prod.mk.injEq, and_true]; omega
  · rw [if_neg hz]
/-- whether a word is a whole number that is not too great -/
def wholeF (x : Nat) : Int × Bool := if -9007199254740992 * (unitF : Int) ≤ zF x ∧ zF x ≤ 9007199254740992 * (unitF : Int) then (truncF x, decide (truncF x * unitF = zF x)) else (0, false)
theorem trunc_bounds (x : Nat) (h : -9007199254740992 * (unitF : Int) ≤ zF x ∧ zF x ≤ 9007199254740992 * (unitF : Int)) : -9007199254740992 ≤ truncF x ∧ truncF x ≤ 9007199254740992 := by
  have hu := unitF_pos
  unfold zF at h
  unfold truncF
  cases sgF x <;> simp only [if_true, Bool.false_eq_true, if_false] at h ⊢
  · have : magR (rungF x) ≤ 9007199254740992 * unitF := by omega
    have := Nat.div_le_of_le_mul (by rw [Nat.mul_comm]; exact this)
    generalize magR (rungF x) / unitF = q at this ⊢
    omega
  · have : magR (rungF x) ≤ 9007199254740992 * unitF := by omega
    have := Nat.div_le_of_le_mul (by rw [Nat.mul_comm]; exact this)
    generalize magR (rungF x) / unitF = q at this ⊢
    omega
theorem wholeF_of (x : Nat) (n : Int) (h : zF x = n * unitF) (hn : -9007199254740992 ≤ n ∧ n ≤ 9007199254740992) : wholeF x = (n, true) := by
  have hu := unitF_pos
  have e := trunc_exact x n h
  unfold wholeF
  have b1 : -9007199254740992 * (unitF : Int) ≤ n * unitF := Int.mul_le_mul_of_nonneg_right hn.1 (by omega)
  have b2 : n * (unitF : Int) ≤ 9007199254740992 * unitF := Int.mul_le_mul_of_nonneg_right hn.2 (by omega)
  rw [if_pos ⟨by omega, by omega⟩, e, h]
  simp
theorem wholeF_iff (x : Nat) (n : Int) : wholeF x = (n, true) ↔ zF x = n * unitF ∧ -9007199254740992 ≤ n ∧ n ≤ 9007199254740992 := by
  constructor
  · intro h
    unfold wholeF at h
    split at h
    · rename_i hc
      simp only [Prod.mk.injEq, decide_eq_true_eq] at h
      have := trunc_bounds x hc
      obtain ⟨rfl, h2⟩ := h
      exact ⟨h2.symm, this⟩
    · simp at h
  · rintro ⟨h1, h2⟩
    exact wholeF_of x n h1 h2
theorem wholeF_fw (n : Int) (hn : -9007199254740992 ≤ n ∧ n ≤ 9007199254740992) : wholeF (fwF n) = (n, true) := wholeF_of _ n (fwF_spec n hn).2 hn
/-- a tidy word that is whole is that of the whole number -/
theorem fw_whole (x : Nat) (n : Int) (hx : tidyF x) (h : wholeF x = (n, true)) : x = fwF n := by
  obtain ⟨h1, h2⟩ := (wholeF_iff x n).1 h
  obtain ⟨h3, h4⟩ := fwF_spec n h2
  exact zF_inj hx h3 (by rw [h1, h4])
end Go.Proofs.YtmojpbfkpggjhaaGreat

/-
  The program's tables as lists that reduce; written by a program of the prover's. No statement is proved here.
-/
namespace Go.Proofs.YtmojpbfkpggjhaaGreat
open Go
set_option linter.unusedVariables false
set_option linter.unusedSimpArgs false
def tyl : List (Nat × Ty) := [(2, Ty.int .i64),
  (3, Ty.int .i64),
  (4, Ty.bool),
  (5, Ty.int .u8),
  (9, Ty.string),
  (12, Ty.int .u64),
  (21, Ty.int .i32),
  (22, Ty.slice 3),
  (23, Ty.slice 69),
  (24, Ty.struct [(22, 0), (23, 1), (3, 2)]),
  (25, Ty.struct [(22, 0), (23, 1), (3, 2)]),
  (28, Ty.slice 183),
  (29, Ty.struct [(28, 0), (3, 1)]),
  (30, Ty.struct [(28, 0), (3, 1)]),
  (31, Ty.slice 175),
  (32, Ty.slice 2),
  (33, Ty.slice 46),
  (34, Ty.slice 21),
  (35, Ty.slice 39),
  (36, Ty.struct [(3, 0), (30, 1), (31, 3), (32, 4), (33, 5), (34, 6), (35, 7)]),
  (37, Ty.struct [(3, 0), (30, 1), (31, 3), (32, 4), (33, 5), (34, 6), (35, 7)]),
  (38, Ty.struct [(22, 0), (37, 1)]),
  (39, Ty.struct [(22, 0), (37, 1)]),
  (44, Ty.int .i64),
  (46, Ty.float),
  (47, Ty.int .u16),
  (59, Ty.slice 25),
  (68, Ty.struct [(3, 0), (46, 1), (21, 2), (59, 3)]),
  (69, Ty.struct [(3, 0), (46, 1), (21, 2), (59, 3)]),
  (89, Ty.slice 37),
  (97, Ty.pointer 89),
  (98, Ty.pointer 3),
  (120, Ty.slice 22),
  (126, Ty.slice 4),
  (175, Ty.int .i8),
  (182, Ty.int .u64),
  (183, Ty.int .u64),
  (202, Ty.int .u32),
  (206, Ty.pointer 5)]
def infl : List (Nat × Inf) := [(2, ⟨1, 8, (.int .i64 0)⟩),
  (3, ⟨1, 8, (.int .i64 0)⟩),
  (4, ⟨1, 1, (.bool false)⟩),
  (5, ⟨1, 1, (.int .u8 0)⟩),
  (9, ⟨1, 16, (.string ⟨#[]⟩)⟩),
  (12, ⟨1, 8, (.int .u64 0)⟩),
  (21, ⟨1, 4, (.int .i32 0)⟩),
  (22, ⟨1, 24, (.slice none 0 0)⟩),
  (23, ⟨1, 24, (.slice none 0 0)⟩),
  (24, ⟨3, 56, (.agg #[(.slice none 0 0), (.slice none 0 0), (.int .i64 0)])⟩),
  (25, ⟨3, 56, (.agg #[(.slice none 0 0), (.slice none 0 0), (.int .i64 0)])⟩),
  (28, ⟨1, 24, (.slice none 0 0)⟩),
  (29, ⟨2, 32, (.agg #[(.slice none 0 0), (.int .i64 0)])⟩),
  (30, ⟨2, 32, (.agg #[(.slice none 0 0), (.int .i64 0)])⟩),
  (31, ⟨1, 24, (.slice none 0 0)⟩),
  (32, ⟨1, 24, (.slice none 0 0)⟩),
  (33, ⟨1, 24, (.slice none 0 0)⟩),
  (34, ⟨1, 24, (.slice none 0 0)⟩),
  (35, ⟨1, 24, (.slice none 0 0)⟩),
  (36, ⟨8, 160, (.agg #[(.int .i64 0), (.slice none 0 0), (.int .i64 0), (.slice none 0 0), (.slice none 0 0), (.slice none 0 0), (.slice none 0 0), (.slice none 0 0)])⟩),
  (37, ⟨8, 160, (.agg #[(.int .i64 0), (.slice none 0 0), (.int .i64 0), (.slice none 0 0), (.slice none 0 0), (.slice none 0 0), (.slice none 0 0), (.slice none 0 0)])⟩),
  (38, ⟨9, 184, (.agg #[(.slice none 0 0), (.int .i64 0), (.slice none 0 0), (.int .i64 0), (.slice none 0 0), (.slice none 0 0), (.slice none 0 0), (.slice none 0 0), (.slice none 0 0)])⟩),
  (39, ⟨9, 184, (.agg #[(.slice none 0 0), (.int .i64 0), (.slice none 0 0), (.int .i64 0), (.slice none 0 0), (.slice none 0 0), (.slice none 0 0), (.slice none 0 0), (.slice none 0 0)])⟩),
  (44, ⟨1, 8, (.int .i64 0)⟩),
  (46, ⟨1, 8, (.float .f64 0)⟩),
  (47, ⟨1, 2, (.int .u16 0)⟩),
  (59, ⟨1, 24, (.slice none 0 0)⟩),
  (68, ⟨4, 48, (.agg #[(.int .i64 0), (.float .f64 0), (.int .i32 0), (.slice none 0 0)])⟩),
  (69, ⟨4, 48, (.agg #[(.int .i64 0), (.float .f64 0), (.int .i32 0), (.slice none 0 0)])⟩),
  (89, ⟨1, 24, (.slice none 0 0)⟩),
  (97, ⟨1, 8, (.pointer none)⟩),
  (98, ⟨1, 8, (.pointer none)⟩),
  (120, ⟨1, 24, (.slice none 0 0)⟩),
  (126, ⟨1, 24, (.slice none 0 0)⟩),
  (175, ⟨1, 1, (.int .i8 0)⟩),
  (182, ⟨1, 8, (.int .u64 0)⟩),
  (183, ⟨1, 8, (.int .u64 0)⟩),
  (202, ⟨1, 4, (.int .u32 0)⟩),
  (206, ⟨1, 8, (.pointer none)⟩)]
theorem ty2 : Ty.is Tryz.prog 2 (Ty.int .i64) := show Tryz.prog.underlying 2 = some (.int .i64) from by kernel_rfl
theorem ty3 : Ty.is Tryz.prog 3 (Ty.int .i64) := show Tryz.prog.underlying 3 = some (.int .i64) from by kernel_rfl
theorem ty4 : Ty.is Tryz.prog 4 (Ty.bool) := show Tryz.prog.underlying 4 = some (.bool) from by kernel_rfl
theorem ty5 : Ty.is Tryz.prog 5 (Ty.int .u8) := show Tryz.prog.underlying 5 = some (.int .u8) from by kernel_rfl
theorem ty9 : Ty.is Tryz.prog 9 (Ty.string) := show Tryz.prog.underlying 9 = some (.string) from by kernel_rfl
theorem ty12 : Ty.is Tryz.prog 12 (Ty.int .u64) := show Tryz.prog.underlying 12 = some (.int .u64) from by kernel_rfl
theorem ty21 : Ty.is Tryz.prog 21 (Ty.int .i32) := show Tryz.prog.underlying 21 = some (.int .i32) from by kernel_rfl
theorem ty22 : Ty.is Tryz.prog 22 (Ty.slice 3) := show Tryz.prog.underlying 22 = some (.slice 3) from by kernel_rfl
theorem ty23 : Ty.is Tryz.prog 23 (Ty.slice 69) := show Tryz.prog.underlying 23 = some (.slice 69) from by kernel_rfl
theorem ty24 : Ty.is Tryz.prog 24 (Ty.struct [(22, 0), (23, 1), (3, 2)]) := ⟨match Tryz.prog.underlying 24 with | some (.struct a) => a | _ => #[], by kernel_rfl, by kernel_rfl⟩
theorem ty25 : Ty.is Tryz.prog 25 (Ty.struct [(22, 0), (23, 1), (3, 2)]) := ⟨match Tryz.prog.underlying 25 with | some (.struct a) => a | _ => #[], by kernel_rfl, by kernel_rfl⟩
theorem ty28 : Ty.is Tryz.prog 28 (Ty.slice 183) := show Tryz.prog.underlying 28 = some (.slice 183) from by kernel_rfl
theorem ty29 : Ty.is Tryz.prog 29 (Ty.struct [(28, 0), (3, 1)]) := ⟨match Tryz.prog.underlying 29 with | some (.struct a) => a | _ => #[], by kernel_rfl, by kernel_rfl⟩
theorem ty30 : Ty.is Tryz.prog 30 (Ty.struct [(28, 0), (3, 1)]) := ⟨match Tryz.prog.underlying 30 with | some (.struct a) => a | _ => #[], by kernel_rfl, by kernel_rfl⟩
theorem ty31 : Ty.is Tryz.prog 31 (Ty.slice 175) := show Tryz.prog.underlying 31 = some (.slice 175) from by kernel_rfl
theorem ty32 : Ty.is Tryz.prog 32 (Ty.slice 2) := show Tryz.prog.underlying 32 = some (.slice 2) from by kernel_rfl
theorem ty33 : Ty.is Tryz.prog 33 (Ty.slice 46) := show Tryz.prog.underlying 33 = some (.slice 46) from by kernel_rfl
theorem ty34 : Ty.is Tryz.prog 34 (Ty.slice 21) := show Tryz.prog.underlying 34 = some (.slice 21) from by kernel_rfl
theorem ty35 : Ty.is Tryz.prog 35 (Ty.slice 39) := show Tryz.prog.underlying 35 = some (.slice 39) from by kernel_rfl
theorem ty36 : Ty.is Tryz.prog 36 (Ty.struct [(3, 0), (30, 1), (31, 3), (32, 4), (33, 5), (34, 6), (35, 7)]) := ⟨match Tryz.prog.underlying 36 with | some (.struct a) => a | _ => #[], by kernel_rfl, by kernel_rfl⟩
theorem ty37 : Ty.is Tryz.prog 37 (Ty.struct [(3, 0), (30, 1), (31, 3), (32, 4), (33, 5), (34, 6), (35, 7)]) := ⟨match Tryz.prog.underlying 37 with | some (.struct a) => a | _ => #[], by kernel_rfl, by kernel_rfl⟩
theorem ty38 : Ty.is Tryz.prog 38 (Ty.struct [(22, 0), (37, 1)]) := ⟨match Tryz.prog.underlying 38 with | some (.struct a) => a | _ => #[], by kernel_rfl, by kernel_rfl⟩
theorem ty39 : Ty.is Tryz.prog 39 (Ty.struct [(22, 0), (37, 1)]) := ⟨match Tryz.prog.underlying 39 with | some (.struct a) => a | _ => #[], by kernel_rfl, by kernel_rfl⟩
theorem ty44 : Ty.is Tryz.prog 44 (Ty.int .i64) := show Tryz.prog.underlying 44 = some (.int .i64) from by kernel_rfl
theorem ty46 : Ty.is Tryz.prog 46 (Ty.float) := show Tryz.prog.underlying 46 = some (.float .f64) from by kernel_rfl
theorem ty47 : Ty.is Tryz.prog 47 (Ty.int .u16) := show Tryz.prog.underlying 47 = some (.int .u16) from by kernel_rfl
theorem ty59 : Ty.is Tryz.prog 59 (Ty.slice 25) := show Tryz.prog.underlying 59 = some (.slice 25) from by kernel_rfl
theorem ty68 : Ty.is Tryz.prog 68 (Ty.struct [(3, 0), (46, 1), (21, 2), (59, 3)]) := ⟨match Tryz.prog.underlying 68 with | some (.struct a) => a | _ => #[], by kernel_rfl, by kernel_rfl⟩
theorem ty69 : Ty.is Tryz.prog 69 (Ty.struct [(3, 0), (46, 1), (21, 2), (59, 3)]) := ⟨match Tryz.prog.underlying 69 with | some (.struct a) => a | _ => #[], by kernel_rfl, by kernel_rfl⟩
theorem ty89 : Ty.is Tryz.prog 89 (Ty.slice 37) := show Tryz.prog.underlying 89 = some (.slice 37) from by kernel_rfl
theorem ty97 : Ty.is Tryz.prog 97 (Ty.pointer 89) := show Tryz.prog.underlying 97 = some (.pointer 89) from by kernel_rfl
theorem ty98 : Ty.is Tryz.prog 98 (Ty.pointer 3) := show Tryz.prog.underlying 98 = some (.pointer 3) from by kernel_rfl
theorem ty120 : Ty.is Tryz.prog 120 (Ty.slice 22) := show Tryz.prog.underlying 120 = some (.slice 22) from by kernel_rfl
theorem ty126 : Ty.is Tryz.prog 126 (Ty.slice 4) := show Tryz.prog.underlying 126 = some (.slice 4) from by kernel_rfl
theorem ty175 : Ty.is Tryz.prog 175 (Ty.int .i8) := show Tryz.prog.underlying 175 = some (.int .i8) from by kernel_rfl
theorem ty182 : Ty.is Tryz.prog 182 (Ty.int .u64) := show Tryz.prog.underlying 182 = some (.int .u64) from by kernel_rfl
theorem ty183 : Ty.is Tryz.prog 183 (Ty.int .u64) := show Tryz.prog.underlying 183 = some (.int .u64) from by kernel_rfl
theorem ty202 : Ty.is Tryz.prog 202 (Ty.int .u32) := show Tryz.prog.underlying 202 = some (.int .u32) from by kernel_rfl
theorem ty206 : Ty.is Tryz.prog 206 (Ty.pointer 5) := show Tryz.prog.underlying 206 = some (.pointer 5) from by kernel_rfl
theorem inf2 : Inf.is Tryz.prog 2 ⟨1, 8, (.int .i64 0)⟩ := ⟨(Tryz.prog.info? 2).getD default, by kernel_rfl, by kernel_rfl, by kernel_rfl, by kernel_rfl⟩
theorem inf3 : Inf.is Tryz.prog 3 ⟨1, 8, (.int .i64 0)⟩ := ⟨(Tryz.prog.info? 3).getD default, by kernel_rfl, by kernel_rfl, by kernel_rfl, by kernel_rfl⟩
theorem inf4 : Inf.is Tryz.prog 4 ⟨1, 1, (.bool false)⟩ := ⟨(Tryz.prog.info? 4).getD default, by kernel_rfl, by kernel_rfl, by kernel_rfl, by kernel_rfl⟩
theorem inf5 : Inf.is Tryz.prog 5 ⟨1, 1, (.int .u8 0)⟩ := ⟨(Tryz.prog.info? 5).getD default, by kernel_rfl, by kernel_rfl, by kernel_rfl, by kernel_rfl⟩
theorem inf9 : Inf.is Tryz.prog 9 ⟨1, 16, (.string ⟨#[]⟩)⟩ := ⟨(Tryz.prog.info? 9).getD default, by kernel_rfl, by kernel_rfl, by kernel_rfl, by kernel_rfl⟩
theorem inf12 : Inf.is Tryz.prog 12 ⟨1, 8, (.int .u64 0)⟩ := ⟨(Tryz.prog.info? 12).getD default, by kernel_rfl, by kernel_rfl, by kernel_rfl, by kernel_rfl⟩
theorem inf21 : Inf.is Tryz.prog 21 ⟨1, 4, (.int .i32 0)⟩ := ⟨(Tryz.prog.info? 21).getD default, by kernel_rfl, by kernel_rfl, by kernel_rfl, by kernel_rfl⟩
theorem inf22 : Inf.is Tryz.prog 22 ⟨1, 24, (.slice none 0 0)⟩ := ⟨(Tryz.prog.info? 22).getD default, by kernel_rfl, by kernel_rfl, by kernel_rfl, by kernel_rfl⟩
theorem inf23 : Inf.is Tryz.prog 23 ⟨1, 24, (.slice none 0 0)⟩ := ⟨(Tryz.prog.info? 23).getD default, by kernel_rfl, by kernel_rfl, by kernel_rfl, by kernel_rfl⟩
theorem inf24 : Inf.is Tryz.prog 24 ⟨3, 56, (.agg #[(.slice none 0 0), (.slice none 0 0), (.int .i64 0)])⟩ := ⟨(Tryz.prog.info? 24).getD default, by kernel_rfl, by kernel_rfl, by kernel_rfl, by kernel_rfl⟩
theorem inf25 : Inf.is Tryz.prog 25 ⟨3, 56, (.agg #[(.slice none 0 0), (.slice none 0 0), (.int .i64 0)])⟩ := ⟨(Tryz.prog.info? 25).getD default, by kernel_rfl, by kernel_rfl, by kernel_rfl, by kernel_rfl⟩
theorem inf28 : Inf.is Tryz.prog 28 ⟨1, 24, (.slice none 0 0)⟩ := ⟨(Tryz.prog.info? 28).getD default, by kernel_rfl, by kernel_rfl, by kernel_rfl, by kernel_rfl⟩
theorem inf29 : Inf.is Tryz.prog 29 ⟨2, 32, (.agg #[(.slice none 0 0), (.int .i64 0)])⟩ := ⟨(Tryz.prog.info? 29).getD default, by kernel_rfl, by kernel_rfl, by kernel_rfl, by kernel_rfl⟩
theorem inf30 : Inf.is Tryz.prog 30 ⟨2, 32, (.agg #[(.slice none 0 0), (.int .i64 0)])⟩ := ⟨(Tryz.prog.info? 30).getD default, by kernel_rfl, by kernel_rfl, by kernel_rfl, by kernel_rfl⟩
theorem inf31 : Inf.is Tryz.prog 31 ⟨1, 24, (.slice none 0 0)⟩ := ⟨(Tryz.prog.info? 31).getD default, by kernel_rfl, by kernel_rfl, by kernel_rfl, by kernel_rfl⟩
theorem inf32 : Inf.is Tryz.prog 32 ⟨1, 24, (.slice none 0 0)⟩ := ⟨(Tryz.prog.info? 32).getD default, by kernel_rfl, by kernel_rfl, by kernel_rfl, by kernel_rfl⟩
theorem inf33 : Inf.is Tryz.prog 33 ⟨1, 24, (.slice none 0 0)⟩ := ⟨(Tryz.prog.info? 33).getD default, by kernel_rfl, by kernel_rfl, by kernel_rfl, by kernel_rfl⟩
theorem inf34 : Inf.is Tryz.prog 34 ⟨1, 24, (.slice none 0 0)⟩ := ⟨(Tryz.prog.info? 34).getD default, by kernel_rfl, by kernel_rfl, by kernel_rfl, by kernel_rfl⟩
theorem inf35 : Inf.is Tryz.prog 35 ⟨1, 24, (.slice none 0 0)⟩ := ⟨(Tryz.prog.info? 35).getD default, by kernel_rfl, by kernel_rfl, by kernel_rfl, by kernel_rfl⟩
theorem inf36 : Inf.is Tryz.prog 36 ⟨8, 160, (.agg #[(.int .i64 0), (.slice none 0 0), (.int .i64 0), (.slice none 0 0), (.slice none 0 0), (.slice none 0 0), (.slice none 0 0), (.slice none 0 0)])⟩ := ⟨(Tryz.prog.info? 36).getD default, by kernel_rfl, by kernel_rfl, by kernel_rfl, by kernel_rfl⟩
theorem inf37 : Inf.is Tryz.prog 37 ⟨8, 160, (.agg #[(.int .i64 0), (.slice none 0 0), (.int .i64 0), (.slice none 0 0), (.slice none 0 0), (.slice none 0 0), (.slice none 0 0), (.slice none 0 0)])⟩ := ⟨(Tryz.prog.info? 37).getD default, by kernel_rfl, by kernel_rfl, by kernel_rfl, by kernel_rfl⟩
theorem inf38 : Inf.is Tryz.prog 38 ⟨9, 184, (.agg #[(.slice none 0 0), (.int .i64 0), (.slice none 0 0), (.int .i64 0), (.slice none 0 0), (.slice none 0 0), (.slice none 0 0), (.slice none 0 0), (.slice none 0 0)])⟩ := ⟨(Tryz.prog.info? 38).getD default, by kernel_rfl, by kernel_rfl, by kernel_rfl, by kernel_rfl⟩
theorem inf39 : Inf.is Tryz.prog 39 ⟨9, 184, (.agg #[(.slice none 0 0), (.int .i64 0), (.slice none 0 0), (.int .i64 0), (.slice none 0 0), (.slice none 0 0), (.slice none 0 0), (.slice none 0 0), (.slice none 0 0)])⟩ := ⟨(Tryz.prog.info? 39).getD default, by kernel_rfl, by kernel_rfl, by kernel_rfl, by kernel_rfl⟩
theorem inf44 : Inf.is Tryz.prog 44 ⟨1, 8, (.int .i64 0)⟩ := ⟨(Tryz.prog.info? 44).getD default, by kernel_rfl, by kernel_rfl, by kernel_rfl, by kernel_rfl⟩
theorem inf46 : Inf.is Tryz.prog 46 ⟨1, 8, (.float .f64 0)⟩ := ⟨(Tryz.prog.info? 46).getD default, by kernel_rfl, by kernel_rfl, by kernel_rfl, by kernel_rfl⟩
theorem inf47 : Inf.is Tryz.prog 47 ⟨1, 2, (.int .u16 0)⟩ := ⟨(Tryz.prog.info? 47).getD default, by kernel_rfl, by kernel_rfl, by kernel_rfl, by kernel_rfl⟩
theorem inf59 : Inf.is Tryz.prog 59 ⟨1, 24, (.slice none 0 0)⟩ := ⟨(Tryz.prog.info? 59).getD default, by kernel_rfl, by kernel_rfl, by kernel_rfl, by kernel_rfl⟩
theorem inf68 : Inf.is Tryz.prog 68 ⟨4, 48, (.agg #[(.int .i64 0), (.float .f64 0), (.int .i32 0), (.slice none 0 0)])⟩ := ⟨(Tryz.prog.info? 68).getD default, by kernel_rfl, by kernel_rfl, by kernel_rfl, by kernel_rfl⟩
theorem inf69 : Inf.is Tryz.prog 69 ⟨4, 48, (.agg #[(.int .i64 0), (.float .f64 0), (.int .i32 0), (.slice none 0 0)])⟩ := ⟨(Tryz.prog.info? 69).getD default, by kernel_rfl, by kernel_rfl, by kernel_rfl, by kernel_rfl⟩
theorem inf89 : Inf.is Tryz.prog 89 ⟨1, 24, (.slice none 0 0)⟩ := ⟨(Tryz.prog.info? 89).getD default, by kernel_rfl, by kernel_rfl, by kernel_rfl, by kernel_rfl⟩
theorem inf97 : Inf.is Tryz.prog 97 ⟨1, 8, (.pointer none)⟩ := ⟨(Tryz.prog.info? 97).getD default, by kernel_rfl, by kernel_rfl, by kernel_rfl, by kernel_rfl⟩
theorem inf98 : Inf.is Tryz.prog 98 ⟨1, 8, (.pointer none)⟩ := ⟨(Tryz.prog.info? 98).getD default, by kernel_rfl, by kernel_rfl, by kernel_rfl, by kernel_rfl⟩
theorem inf120 : Inf.is Tryz.prog 120 ⟨1, 24, (.slice none 0 0)⟩ := ⟨(Tryz.prog.info? 120).getD default, by kernel_rfl, by kernel_rfl, by kernel_rfl, by kernel_rfl⟩
theorem inf126 : Inf.is Tryz.prog 126 ⟨1, 24, (.slice none 0 0)⟩ := ⟨(Tryz.prog.info? 126).getD default, by kernel_rfl, by kernel_rfl, by kernel_rfl, by kernel_rfl⟩
theorem inf175 : Inf.is Tryz.prog 175 ⟨1, 1, (.int .i8 0)⟩ := ⟨(Tryz.prog.info? 175).getD default, by kernel_rfl, by kernel_rfl, by kernel_rfl, by kernel_rfl⟩
theorem inf182 : Inf.is Tryz.prog 182 ⟨1, 8, (.int .u64 0)⟩ := ⟨(Tryz.prog.info? 182).getD default, by kernel_rfl, by kernel_rfl, by kernel_rfl, by kernel_rfl⟩
theorem inf183 : Inf.is Tryz.prog 183 ⟨1, 8, (.int .u64 0)⟩ := ⟨(Tryz.prog.info? 183).getD default, by kernel_rfl, by kernel_rfl, by kernel_rfl, by kernel_rfl⟩
theorem inf202 : Inf.is Tryz.prog 202 ⟨1, 4, (.int .u32 0)⟩ := ⟨(Tryz.prog.info? 202).getD default, by kernel_rfl, by kernel_rfl, by kernel_rfl, by kernel_rfl⟩
theorem inf206 : Inf.is Tryz.prog 206 ⟨1, 8, (.pointer none)⟩ := ⟨(Tryz.prog.info? 206).getD default, by kernel_rfl, by kernel_rfl, by kernel_rfl, by kernel_rfl⟩
set_option maxRecDepth 100000 in
theorem tyAll : ∀ p ∈ tyl, Ty.is Tryz.prog p.1 p.2 := (List.forall_mem_cons.2 ⟨ty2, (List.forall_mem_cons.2 ⟨ty3, (List.forall_mem_cons.2 ⟨ty4, (List.forall_mem_cons.2 ⟨ty5, (List.forall_mem_cons.2 ⟨ty9, (List.forall_mem_cons.2 ⟨ty12, (List.forall_mem_cons.2 ⟨ty21, (List.forall_mem_cons.2 ⟨ty22, (List.forall_mem_cons.2 ⟨ty23, (List.forall_mem_cons.2 ⟨ty24, (List.forall_mem_cons.2 ⟨ty25, (List.forall_mem_cons.2 ⟨ty28, (List.forall_mem_cons.2 ⟨ty29, (List.forall_mem_cons.2 ⟨ty30, (List.forall_mem_cons.2 ⟨ty31, (List.forall_mem_cons.2 ⟨ty32, (List.forall_mem_cons.2 ⟨ty33, (List.forall_mem_cons.2 ⟨ty34, (List.forall_mem_cons.2 ⟨ty35, (List.forall_mem_cons.2 ⟨ty36, (List.forall_mem_cons.2 ⟨ty37, (List.forall_mem_cons.2 ⟨ty38, (List.forall_mem_cons.2 ⟨ty39, (List.forall_mem_cons.2 ⟨ty44, (List.forall_mem_cons.2 ⟨ty46, (List.forall_mem_cons.2 ⟨ty47, (List.forall_mem_cons.2 ⟨ty59, (List.forall_mem_cons.2 ⟨ty68, (List.forall_mem_cons.2 ⟨ty69, (List.forall_mem_cons.2 ⟨ty89, (List.forall_mem_cons.2 ⟨ty97, (List.forall_mem_cons.2 ⟨ty98, (List.forall_mem_cons.2 ⟨ty120, (List.forall_mem_cons.2 ⟨ty126, (List.forall_mem_cons.2 ⟨ty175, (List.forall_mem_cons.2 ⟨ty182, (List.forall_mem_cons.2 ⟨ty183, (List.forall_mem_cons.2 ⟨ty202, (List.forall_mem_cons.2 ⟨ty206, List.forall_mem_nil _⟩)⟩)⟩)⟩)⟩)⟩)⟩)⟩)⟩)⟩)⟩)⟩)⟩)⟩)⟩)⟩)⟩)⟩)⟩)⟩)⟩)⟩)⟩)⟩)⟩)⟩)⟩)⟩)⟩)⟩)⟩)⟩)⟩)⟩)⟩)⟩)⟩)⟩)⟩)
set_option maxRecDepth 100000 in
theorem infAll : ∀ p ∈ infl, Inf.is Tryz.prog p.1 p.2 := (List.forall_mem_cons.2 ⟨inf2, (List.forall_mem_cons.2 ⟨inf3, (List.forall_mem_cons.2 ⟨inf4, (List.forall_mem_cons.2 ⟨inf5, (List.forall_mem_cons.2 ⟨inf9, (List.forall_mem_cons.2 ⟨inf12, (List.forall_mem_cons.2 ⟨inf21, (List.forall_mem_cons.2 ⟨inf22, (List.forall_mem_cons.2 ⟨inf23, (List.forall_mem_cons.2 ⟨inf24, (List.forall_mem_cons.2 ⟨inf25, (List.forall_mem_cons.2 ⟨inf28, (List.forall_mem_cons.2 ⟨inf29, (List.forall_mem_cons.2 ⟨inf30, (List.forall_mem_cons.2 ⟨inf31, (List.forall_mem_cons.2 ⟨inf32, (List.forall_mem_cons.2 ⟨inf33, (List.forall_mem_cons.2 ⟨inf34, (List.forall_mem_cons.2 ⟨inf35, (List.forall_mem_cons.2 ⟨inf36, (List.forall_mem_cons.2 ⟨inf37, (List.forall_mem_cons.2 ⟨inf38, (List.forall_mem_cons.2 ⟨inf39, (List.forall_mem_cons.2 ⟨inf44, (List.forall_mem_cons.2 ⟨inf46, (List.forall_mem_cons.2 ⟨inf47, (List.forall_mem_cons.2 ⟨inf59, (List.forall_mem_cons.2 ⟨inf68, (List.forall_mem_cons.2 ⟨inf69, (List.forall_mem_cons.2 ⟨inf89, (List.forall_mem_cons.2 ⟨inf97, (List.forall_mem_cons.2 ⟨inf98, (List.forall_mem_cons.2 ⟨inf120, (List.forall_mem_cons.2 ⟨inf126, (List.forall_mem_cons.2 ⟨inf175, (List.forall_mem_cons.2 ⟨inf182, (List.forall_mem_cons.2 ⟨inf183, (List.forall_mem_cons.2 ⟨inf202, (List.forall_mem_cons.2 ⟨inf206, List.forall_mem_nil _⟩)⟩)⟩)⟩)⟩)⟩)⟩)⟩)⟩)⟩)⟩)⟩)⟩)⟩)⟩)⟩)⟩)⟩)⟩)⟩)⟩)⟩)⟩)⟩)⟩)⟩)⟩)⟩)⟩)⟩)⟩)⟩)⟩)⟩)⟩)⟩)⟩)⟩)⟩)
set_option maxRecDepth 100000 in
noncomputable def T : Tab Tryz.prog where
  ty := look tyl
  inf := look infl
  ty_ok := fun t d h => tyAll _ (look_mem _ _ _ h)
  inf_ok := fun t d h => infAll _ (look_mem _ _ _ h)
  call := inRange 3 179 [163, 179, 180, 181, 182, 183, 184, 185, 186, 187, 188, 189, 190, 191, 192, 193, 194]
  call_ok := call_of_all (by kernel_rfl)
  mixed := by kernel_rfl
end Go.Proofs.YtmojpbfkpggjhaaGreat

/-
  Contracts of functions of package num. No statement is proved here.
-/
namespace Go.Proofs.YtmojpbfkpggjhaaGreat
open Go Go.RowKit
set_option linter.unusedVariables false
set_option linter.unusedSimpArgs false
set_option maxHeartbeats 4000000
attribute [local irreducible] CW RW QW SW HW ConM retM heldQ calmQ elemP thenQ blockQ loopQ joinQ retQ Yields Con Sl zF magR unitF truncF fwF wholeF tidySpec

theorem numTidy_con (x : Nat) (w : World) (h : GHeap) : Con Tryz.prog 172 [.float .f64 x] w h
    (fun _ v => v = .tuple #[.float .f64 (tidySpec x).1, .bool (tidySpec x).2]) := by
  refine Con.of_body Tryz.func172 rfl Tryz.ntmps172 rfl rfl ?_
  intro hs
  by_cases hf : finF x
  · obtain ⟨b1, b2⟩ := zF_bounds x hf
    refine Zrun ?_
    refine RW.val (Y.fNeq hf hf rfl rfl) rfl ?_
    refine Zrun ?_
    refine RW.val (Y.fGtr hf finX rfl rfl) rfl ?_
    refine Zrun ?_
    refine RW.val (Y.fLss hf finY rfl rfl) rfl ?_
    refine Zrun ?_
    refine RW.val (Y.fEql hf fin0 rfl rfl) rfl ?_
    rw [zF0]
    unfold tidySpec
    rw [if_pos hf]
    by_cases hz : zF x = 0
    · refine Zrun ?_
      exact retQ_ret [_, _] h ⟨rfl, rfl, trivial⟩ hs (by rw [if_pos hz]; rfl)
    · refine Zrun ?_
      exact retQ_ret [_, _] h ⟨rfl, rfl, trivial⟩ hs (by rw [if_neg hz]; rfl)
  · unfold tidySpec
    rw [if_neg hf]
    rcases notfin x hf with hn | ⟨h1, h2⟩
    · refine Zrun ?_
      refine RW.val (Y.fNeq' rfl rfl) rfl ?_
      rw [show (ordF x x != some .eq) = true by unfold ordF; rw [(hn x).1]; rfl]
      refine Zrun ?_
      exact retQ_ret [_, _] h ⟨rfl, rfl, trivial⟩ hs rfl
    · refine Zrun ?_
      refine RW.val (Y.fNeq' rfl rfl) rfl ?_
      rw [show (ordF x x != some .eq) = false by unfold ordF; rw [h1]; rfl]
      refine Zrun ?_
      refine RW.val (Y.fGtr' rfl rfl) rfl ?_
      rw [show (ordF x 9218868437227405311 == some .gt) = !sgF x by unfold ordF; rw [h2 _ finX]; cases sgF x <;> rfl]
      rcases Bool.eq_false_or_eq_true (sgF x) with hs1 | hs1
      · rw [hs1]
        refine Zrun ?_
        refine RW.val (Y.fLss' rfl rfl) rfl ?_
        rw [show (ordF x 18442240474082181119 == some .lt) = sgF x by unfold ordF; rw [h2 _ finY]; cases sgF x <;> rfl, hs1]
        refine Zrun ?_
        exact retQ_ret [_, _] h ⟨rfl, rfl, trivial⟩ hs rfl
      · rw [hs1]
        refine Zrun ?_
        exact retQ_ret [_, _] h ⟨rfl, rfl, trivial⟩ hs rfl

theorem numWhole_con (x : Nat) (w : World) (h : GHeap) (hf : finF x) : Con Tryz.prog 169 [.float .f64 x] w h
    (fun _ v => v = .tuple #[.int .i64 (wholeF x).1, .bool (wholeF x).2]) := by
  refine Con.of_body Tryz.func169 rfl Tryz.ntmps169 rfl rfl ?_
  intro hs
  refine Zrun ?_
  refine RW.val (Y.fGeq hf finN rfl rfl) rfl ?_
  rw [zFN]
  unfold wholeF
  refine RW.meet (fun _ : Unit => [(0, .float .f64 x), (11, .bool (decide (¬ (-9007199254740992 * (unitF : Int) ≤ zF x ∧ zF x ≤ 9007199254740992 * (unitF : Int)))))]) (fun _ w' => Sees w h h [] w') ?_ ?_
  · refine Zrun ?_
    refine RW.gd rfl rfl (fun h1 => ?_) (fun h1 => ?_)
    · refine Zrun ?_
      refine RW.val (Y.fLeq hf finM rfl rfl) rfl ?_
      rw [zFM]
      refine Zrun ?_
      exact joinQ_meet () ⟨rfl, setb (decide_eq_decide.2 (by omega)), trivial⟩ hs
    · refine Zrun ?_
      exact joinQ_meet () ⟨rfl, setb (by rw [eq_comm]; exact decide_eq_true (by omega)), trivial⟩ hs
  intro _ w2 hs
  refine CW.condD rfl (fun h2 => ?_) (fun h2 => ?_)
  · rw [if_neg h2]
    refine Zrun ?_
    exact retQ_ret [_, _] h ⟨rfl, rfl, trivial⟩ hs rfl
  · have h2 := Decidable.of_not_not h2
    have hb := trunc_bounds x h2
    have hfw := fwF_spec (truncF x) hb
    rw [if_pos h2]
    refine Zrun ?_
    refine RW.val (Y.convFI T rfl rfl rfl hf ⟨by omega, by omega⟩) rfl ?_
    refine Zrun ?_
    refine RW.val (Y.convIF T rfl rfl rfl) rfl ?_
    refine Zrun ?_
    refine RW.val (Y.fEql hfw.1.2.1 hf rfl rfl) rfl ?_
    rw [hfw.2]
    refine Zrun ?_
    exact retQ_ret [_, _] h ⟨rfl, rfl, trivial⟩ hs rfl

theorem numTruth_con (x : Nat) (w : World) (h : GHeap) (hf : finF x) : Con Tryz.prog 174 [.float .f64 x] w h
    (fun _ v => v = .tuple #[.bool (decide (zF x = unitF)), .bool (decide (zF x = 0 ∨ zF x = unitF))]) := by
  refine Con.of_body Tryz.func174 rfl Tryz.ntmps174 rfl rfl ?_
  intro hs
  refine Zrun ?_
  refine RW.val (Y.fEql hf fin1 rfl rfl) rfl ?_
  rw [zF1]
  refine Zrun ?_
  refine RW.val (Y.fEql hf fin0 rfl rfl) rfl ?_
  rw [zF0]
  refine Zrun ?_
  refine RW.gd rfl rfl (fun h1 => ?_) (fun h1 => ?_)
  · refine Zrun ?_
    refine retQ_ret [_, _] h ⟨rfl, rfl, trivial⟩ hs ?_
    rw [decide_eq_true (show zF x = 0 ∨ zF x = unitF from .inl h1)]; rfl
  · refine Zrun ?_
    refine RW.val (Y.fEql hf fin1 rfl rfl) rfl ?_
    rw [zF1]
    refine Zrun ?_
    refine retQ_ret [_, _] h ⟨rfl, rfl, trivial⟩ hs ?_
    rw [decide_eq_decide.2 (show (zF x = 0 ∨ zF x = unitF) ↔ zF x = unitF by omega)]; rfl

theorem numFlag_con (b : Bool) (w : World) (h : GHeap) : Con Tryz.prog 153 [.bool b] w h (fun _ v => v = .float .f64 (bitF b)) := by
  refine Con.of_body Tryz.func153 rfl Tryz.ntmps153 rfl rfl ?_
  intro hs
  cases b
  · refine Zrun ?_
    exact retQ_ret [_] h ⟨rfl, trivial⟩ hs rfl
  · refine Zrun ?_
    exact retQ_ret [_] h ⟨rfl, trivial⟩ hs rfl
end Go.Proofs.YtmojpbfkpggjhaaGreat

/-
  Contracts of functions of package vec: what a list of elements tells. No statement is proved here.
-/
namespace Go.Proofs.YtmojpbfkpggjhaaGreat
open Go Go.RowKit
set_option linter.unusedVariables false
set_option linter.unusedSimpArgs false
set_option maxHeartbeats 4000000
attribute [local irreducible] CW RW QW SW HW ConM retM heldQ calmQ elemP thenQ blockQ loopQ joinQ retQ Yields Con Sl zF magR unitF truncF fwF wholeF tidySpec

theorem bitsLen_con (wv : Value) (n : Int) (w : World) (h : GHeap) : Con Tryz.prog 131 [.agg [wv, .int .i64 n].toArray] w h (fun _ v => v = .int .i64 n) := by
  refine Con.of_body Tryz.func131 rfl Tryz.ntmps131 rfl rfl ?_
  intro hs
  refine Zrun ?_
  refine RW.boxN hs rfl rfl ?_
  intro b1 w1 hs
  refine Zrun ?_
  exact retQ_ret [_] h ⟨rfl, trivial⟩ hs.dropAll rfl

section
variable {α : Type} {R : GHeap → List Value → α → Prop}
theorem vecKind_con (cs : List Value) (v : VecD α) (w : World) (h : GHeap) (hv : VecAt R h cs v) : Con Tryz.prog 51 [.agg cs.toArray] w h (fun _ u => u = .int .i64 v.kind) := by
  obtain ⟨wv, nv, sm, il, fl, ch, bx, ⟨rfl, hoc⟩, hk⟩ := hv
  refine Con.of_body Tryz.func51 rfl Tryz.ntmps51 rfl rfl ?_
  intro hs
  refine Zrun ?_
  refine RW.boxN hs rfl rfl ?_
  intro b1 w1 hs
  refine Zrun ?_
  exact retQ_ret [_] h ⟨rfl, trivial⟩ hs.dropAll rfl

theorem vecClass_con (cs : List Value) (v : VecD α) (w : World) (h : GHeap) (hv : VecAt R h cs v) : Con Tryz.prog 62 [.agg cs.toArray] w h (fun _ u => u = .int .i64 v.cls) := by
  obtain ⟨wv, nv, sm, il, fl, ch, bx, ⟨rfl, hoc⟩, hk⟩ := hv
  unfold VecD.cls
  generalize v.kind = k at hk ⊢
  refine Con.of_body Tryz.func62 rfl Tryz.ntmps62 rfl rfl ?_
  intro hs
  refine Zrun ?_
  refine RW.boxN hs rfl rfl ?_
  intro b1 w1 hs
  by_cases h5 : k = 5
  · refine Zrun ?_
    exact retQ_ret [_] h ⟨rfl, trivial⟩ hs.dropAll (by rw [if_pos h5]; rfl)
  · by_cases h6 : k = 6
    · refine Zrun ?_
      exact retQ_ret [_] h ⟨rfl, trivial⟩ hs.dropAll (by rw [if_neg h5, if_pos h6]; rfl)
    · refine Zrun ?_
      exact retQ_ret [_] h ⟨rfl, trivial⟩ hs.dropAll (by rw [if_neg h5, if_neg h6]; rfl)
end
end Go.Proofs.YtmojpbfkpggjhaaGreat

/-
  Contracts of functions of package vec: lengths, places. No statement is proved here.
-/
namespace Go.Proofs.YtmojpbfkpggjhaaGreat
open Go Go.RowKit
set_option linter.unusedVariables false
set_option linter.unusedSimpArgs false
set_option maxHeartbeats 4000000
attribute [local irreducible] CW RW QW SW HW ConM retM heldQ calmQ elemP thenQ blockQ loopQ joinQ retQ Yields Con Sl zF magR unitF truncF fwF wholeF tidySpec

section
variable {α : Type} {R : GHeap → List Value → α → Prop}
theorem vecLen_con (cs : List Value) (v : VecD α) (w : World) (h : GHeap) (hv : VecAt R h cs v) : Con Tryz.prog 84 [.agg cs.toArray] w h (fun _ u => u = .int .i64 v.len) := by
  obtain ⟨wv, nv, sm, il, fl, ch, bx, ⟨rfl, hoc⟩, hk⟩ := hv
  rcases hk with ⟨_, rfl⟩ | ⟨_, bs, hb, rfl, rfl⟩ | ⟨_, l, ⟨ad, cp, rfl, hS⟩, _, rfl⟩ | ⟨_, l, ⟨ad, cp, rfl, hS⟩, _, rfl⟩ | ⟨_, l, ⟨ad, cp, rfl, hS⟩, _, rfl⟩ | ⟨_, l, ⟨ad, cp, rfl, hS⟩, rfl⟩ | ⟨_, l, ⟨ad, cp, xs, rfl, hS, _⟩, rfl⟩
  all_goals dsimp only [VecD.len]
  all_goals (refine Con.of_body Tryz.func84 rfl Tryz.ntmps84 rfl rfl ?_; intro hs)
  all_goals
    refine Zrun ?_
  all_goals (refine RW.boxN hs rfl rfl ?_; intro b1 w1 hs)
  all_goals
    refine Zrun ?_
  · exact retQ_ret [_] h ⟨rfl, trivial⟩ hs.dropAll rfl
  · (refine RW.call T hs rfl rfl rfl (bitsLen_con wv bs.length _ _) ?_; intro v h2 w2 hle2 hp2 hs)
    subst hp2
    refine Zrun ?_
    exact retQ_ret [_] h2 ⟨rfl, trivial⟩ hs.dropAll (by simp [packv])
  all_goals exact retQ_ret [_] h ⟨rfl, trivial⟩ hs.dropAll (by simp [packv])

theorem vecIn_con (cs : List Value) (v : VecD α) (i : Int) (w : World) (h : GHeap) (hv : VecAt R h cs v) : Con Tryz.prog 139 [.agg cs.toArray, .int .i64 i] w h (fun _ u => u = .bool (decide (0 ≤ i ∧ i < v.len))) := by
  have hv' := hv
  obtain ⟨wv, nv, sm, il, fl, ch, bx, ⟨rfl, hoc⟩, _⟩ := hv
  refine Con.of_body Tryz.func139 rfl Tryz.ntmps139 rfl rfl ?_
  intro hs
  refine Zrun ?_
  refine RW.boxN hs rfl rfl ?_
  intro b1 w1 hs
  refine Zrun ?_
  refine RW.gd rfl rfl (fun h1 => ?_) (fun h1 => ?_)
  · refine Zrun ?_
    (refine RW.call T hs rfl rfl rfl (vecLen_con _ v _ _ hv') ?_; intro v h2 w2 hle2 hp2 hs)
    subst hp2
    refine Zrun ?_
    exact retQ_ret [_] h2 ⟨rfl, trivial⟩ hs.dropAll (congrArg Value.bool (decide_eq_decide.2 (by omega)))
  · refine Zrun ?_
    exact retQ_ret [_] h ⟨rfl, trivial⟩ hs.dropAll (congrArg Value.bool (by rw [eq_comm]; exact decide_eq_false (by omega)))
end
end Go.Proofs.YtmojpbfkpggjhaaGreat

/-
  The program logic, fourteenth part: bits of words. No statement is proved here.
-/
namespace Go.Proofs.YtmojpbfkpggjhaaGreat
open Go Go.RowKit
set_option linter.unusedVariables false
set_option linter.unusedSimpArgs false
variable {P : Program} {n : Nat} {L : Env} {w : World} {ty : TypeId} {x y : Operand} {t yt : TypeId}

theorem wrapU (z : Nat) (h : z < 18446744073709551616) : IntKind.u64.wrap (z : Int) = z := by
  unfold IntKind.wrap
  simp [IntKind.signed, IntKind.bits]
  omega
theorem bvU (z : Nat) (h : z < 18446744073709551616) : (BitVec.ofInt 64 (z : Int)).toNat = z := by
  rw [BitVec.ofInt_natCast, BitVec.toNat_ofNat, Nat.mod_eq_of_lt h]
theorem Y.andU {u v : Nat} (hx : opv L x = some (.int .u64 (u : Int))) (hy : opv L y = some (.int .u64 (v : Int))) (hu : u < 18446744073709551616) (hv : v < 18446744073709551616) : Yields P n L w (.binOp .and t x y yt) ty (.int .u64 ((u &&& v : Nat) : Int)) := by
  have := Y.and' (P := P) (n := n) (w := w) (ty := ty) (t := t) (yt := yt) hx hy
  have e : (BitVec.ofInt IntKind.u64.bits (u : Int) &&& BitVec.ofInt IntKind.u64.bits (v : Int)).toNat = u &&& v := by
    rw [BitVec.toNat_and]; exact congr (congrArg _ (bvU u hu)) (bvU v hv)
  rw [e, wrapU _ (Nat.lt_of_le_of_lt Nat.and_le_left hu)] at this
  exact this
theorem Y.orU {u v : Nat} (hx : opv L x = some (.int .u64 (u : Int))) (hy : opv L y = some (.int .u64 (v : Int))) (hu : u < 18446744073709551616) (hv : v < 18446744073709551616) : Yields P n L w (.binOp .or t x y yt) ty (.int .u64 ((u ||| v : Nat) : Int)) := by
  have := Y.or' (P := P) (n := n) (w := w) (ty := ty) (t := t) (yt := yt) hx hy
  have e : (BitVec.ofInt IntKind.u64.bits (u : Int) ||| BitVec.ofInt IntKind.u64.bits (v : Int)).toNat = u ||| v := by
    rw [BitVec.toNat_or]; exact congr (congrArg _ (bvU u hu)) (bvU v hv)
  rw [e, wrapU _ (Nat.or_lt_two_pow (n := 64) hu hv)] at this
  exact this
theorem Y.shrU {u v : Nat} {yk : IntKind} (hx : opv L x = some (.int .u64 (u : Int))) (hy : opv L y = some (.int yk (v : Int))) (hv : v ≤ 64) : Yields P n L w (.binOp .shr t x y yt) ty (.int .u64 ((u >>> v : Nat) : Int)) := by
  have := Y.shr' (P := P) (n := n) (w := w) (ty := ty) (t := t) (yt := yt) hx hy (by omega)
  have e : (u : Int).fdiv (2 ^ (min (v : Int).toNat IntKind.u64.bits)) = ((u >>> v : Nat) : Int) := by
    rw [Int.toNat_natCast, show IntKind.u64.bits = 64 from rfl, Nat.min_eq_left hv, Nat.shiftRight_eq_div_pow, Int.fdiv_eq_ediv_of_nonneg _ (by exact Int.le_of_lt (Int.pow_pos (by omega)))]
    simp
  rw [e] at this
  exact this
theorem Y.shrI {u v : Nat} {yk : IntKind} (hx : opv L x = some (.int .i64 (u : Int))) (hy : opv L y = some (.int yk (v : Int))) (hv : v ≤ 64) : Yields P n L w (.binOp .shr t x y yt) ty (.int .i64 ((u >>> v : Nat) : Int)) := by
  have := Y.shr' (P := P) (n := n) (w := w) (ty := ty) (t := t) (yt := yt) hx hy (by omega)
  have e : (u : Int).fdiv (2 ^ (min (v : Int).toNat IntKind.i64.bits)) = ((u >>> v : Nat) : Int) := by
    rw [Int.toNat_natCast, show IntKind.i64.bits = 64 from rfl, Nat.min_eq_left hv, Nat.shiftRight_eq_div_pow, Int.fdiv_eq_ediv_of_nonneg _ (by exact Int.le_of_lt (Int.pow_pos (by omega)))]
    simp
  rw [e] at this
  exact this
theorem Y.shlU {u v : Nat} {yk : IntKind} (hx : opv L x = some (.int .u64 (u : Int))) (hy : opv L y = some (.int yk (v : Int))) (hv : v ≤ 64) : Yields P n L w (.binOp .shl t x y yt) ty (.int .u64 ((u <<< v % 18446744073709551616 : Nat) : Int)) := by
  have := Y.shl' (P := P) (n := n) (w := w) (ty := ty) (t := t) (yt := yt) hx hy (by omega)
  have e : IntKind.u64.wrap ((u : Int) * 2 ^ (min (v : Int).toNat IntKind.u64.bits)) = ((u <<< v % 18446744073709551616 : Nat) : Int) := by
    rw [Int.toNat_natCast, show IntKind.u64.bits = 64 from rfl, Nat.min_eq_left hv, Nat.shiftLeft_eq]
    unfold IntKind.wrap
    simp [IntKind.signed, IntKind.bits]
  rw [e] at this
  exact this
theorem Y.andI {u v : Nat} (hx : opv L x = some (.int .i64 (u : Int))) (hy : opv L y = some (.int .i64 (v : Int))) (hu : u < 9223372036854775808) (hv : v < 9223372036854775808) : Yields P n L w (.binOp .and t x y yt) ty (.int .i64 ((u &&& v : Nat) : Int)) := by
  have := Y.and' (P := P) (n := n) (w := w) (ty := ty) (t := t) (yt := yt) hx hy
  have e : (BitVec.ofInt IntKind.i64.bits (u : Int) &&& BitVec.ofInt IntKind.i64.bits (v : Int)).toNat = u &&& v := by
    rw [BitVec.toNat_and]; exact congr (congrArg _ (bvU u (by omega))) (bvU v (by omega))
  have hl : u &&& v ≤ u := Nat.and_le_left
  rw [e, wrap64 (by omega)] at this
  exact this
theorem and63 (i : Nat) : i &&& 63 = i % 64 := Nat.and_two_pow_sub_one_eq_mod i 6
theorem shr6 (i : Nat) : i >>> 6 = i / 64 := by rw [Nat.shiftRight_eq_div_pow]
theorem bit_of (u r : Nat) : u >>> r &&& 1 = if u.testBit r then 1 else 0 := by
  rw [Nat.and_one_is_mod, Nat.testBit, Nat.one_and_eq_mod_two]
  rcases Nat.mod_two_eq_zero_or_one (u >>> r) with h | h <;> simp [h]
end Go.Proofs.YtmojpbfkpggjhaaGreat

/-
  Contracts of functions of packages bitvec and vec: one truth, one number. No statement is proved here.
-/
namespace Go.Proofs.YtmojpbfkpggjhaaGreat
open Go Go.RowKit
set_option linter.unusedVariables false
set_option linter.unusedSimpArgs false
set_option maxHeartbeats 4000000
attribute [local irreducible] CW RW QW SW HW ConM retM heldQ calmQ elemP thenQ blockQ loopQ joinQ retQ Yields Con Sl zF magR unitF truncF fwF wholeF tidySpec

/-- one truth; false, where there is none -/
def bitAt (bs : List Bool) (i : Int) : Bool := if 0 ≤ i then bs.getD i.toNat false else false

theorem bitsAt_con (wv : Value) (bs : List Bool) (i : Int) (w : World) (h : GHeap) (hb : BitsAt h wv bs) : Con Tryz.prog 154 [.agg [wv, .int .i64 bs.length].toArray, .int .i64 i] w h (fun _ v => v = .bool (bitAt bs i)) := by
  obtain ⟨hbm, ws, ⟨ad, cp, rfl, hS⟩, hwl, hwr, hwb⟩ := hb
  refine Con.of_body Tryz.func154 rfl Tryz.ntmps154 rfl rfl ?_
  intro hs
  refine Zrun ?_
  refine RW.boxN hs rfl rfl ?_
  intro b1 w1 hs
  by_cases h0 : 0 ≤ i
  · obtain ⟨j, rfl⟩ := Int.eq_ofNat_of_zero_le h0
    have hspec : bitAt bs (j : Int) = bs.getD j false := by unfold bitAt; rw [if_pos h0, Int.toNat_natCast]
    by_cases h1 : j < bs.length
    · have hidx : j / 64 < ws.length := by omega
      obtain ⟨u, hu⟩ := Int.eq_ofNat_of_zero_le (hwr (ws.getD (j / 64) 0) (by simp [List.getD_eq_getElem?_getD, hidx])).1
      have hu2 : u < 18446744073709551616 := by have := (hwr (ws.getD (j / 64) 0) (by simp [List.getD_eq_getElem?_getD, hidx])).2; omega
      have hbit := hwb j
      rw [hu, Int.toNat_natCast] at hbit
      refine Zrun ?_
      refine RW.val (Y.shrI (v := 6) rfl rfl (by omega)) rfl ?_
      rw [shr6]
      refine Zrun ?_
      rw [hu]
      refine RW.val (Y.andI (v := 63) rfl rfl (by omega) (by omega)) rfl ?_
      rw [and63]
      refine RW.guardYes rfl rfl ?_
      refine RW.val (Y.convII T rfl rfl rfl) rfl ?_
      rw [wrapU _ (by omega)]
      refine RW.guardYes rfl rfl ?_
      refine RW.val (Y.shrU rfl rfl (by omega)) rfl ?_
      refine RW.guardYes rfl rfl ?_
      refine RW.val (Y.andU (v := 1) rfl rfl (by exact Nat.lt_of_le_of_lt (Nat.shiftRight_le _ _) hu2) (by omega)) rfl ?_
      rw [bit_of, hbit]
      rw [hspec]
      cases bs.getD j false
      · refine Zrun ?_
        exact retQ_ret [_] h ⟨rfl, trivial⟩ hs.dropAll rfl
      · refine Zrun ?_
        exact retQ_ret [_] h ⟨rfl, trivial⟩ hs.dropAll rfl
    · refine Zrun ?_
      refine retQ_ret [_] h ⟨rfl, trivial⟩ hs.dropAll ?_
      rw [hspec]
      simp [packv, List.getD_eq_getElem?_getD, show bs.length ≤ j by omega]
  · refine Zrun ?_
    exact retQ_ret [_] h ⟨rfl, trivial⟩ hs.dropAll (by unfold bitAt; rw [if_neg h0]; rfl)
end Go.Proofs.YtmojpbfkpggjhaaGreat

/-
  Contracts of functions of package vec: one element. No statement is proved here.
-/
namespace Go.Proofs.YtmojpbfkpggjhaaGreat
open Go Go.RowKit
set_option linter.unusedVariables false
set_option linter.unusedSimpArgs false
set_option maxHeartbeats 4000000
attribute [local irreducible] CW RW QW SW HW ConM retM heldQ calmQ elemP thenQ blockQ loopQ joinQ retQ Yields Con Sl zF magR unitF truncF fwF wholeF tidySpec

theorem getD_map {α β : Type} (f : α → β) (l : List α) (j : Nat) (a : α) (b : β) (h : j < l.length) : (l.map f).getD j b = f (l.getD j a) := by
  simp [List.getD_eq_getElem?_getD, h]
theorem map_get {α β : Type} (f : α → β) (l : List α) (j : Nat) (a : α) (h : j < l.length) : (l.map f)[j]? = some (f (l.getD j a)) := by
  simp [List.getD_eq_getElem?_getD, h]
section
variable {α : Type} {R : GHeap → List Value → α → Prop}
def VecD.num (v : VecD α) (i : Int) : Nat := if 0 ≤ i then v.nums.getD i.toNat 0 else 0
def VecD.chr (v : VecD α) (i : Int) : Int := if 0 ≤ i then v.chars.getD i.toNat 0 else 0
def VecD.whole (v : VecD α) (i : Int) : Int × Bool := if (v.kind = 1 ∨ v.kind = 2 ∨ v.kind = 3) ∧ 0 ≤ i ∧ i < v.len then ((wholeF (v.nums.getD i.toNat 0)).1, true) else (0, false)
theorem VecAt.shorts {h : GHeap} {cs : List Value} {v : VecD α} (hv : VecAt R h cs v) : v.nums.length ≤ v.len ∧ v.chars.length ≤ v.len ∧ v.boxes.length ≤ v.len := by
  unfold VecD.len; omega
theorem vecNum_con (cs : List Value) (v : VecD α) (i : Int) (w : World) (h : GHeap) (hv : VecAt R h cs v) : Con Tryz.prog 112 [.agg cs.toArray, .int .i64 i] w h (fun _ u => u = .float .f64 (v.num i)) := by
  have hv' := hv
  have hsh := hv.shorts
  obtain ⟨wv, nv, sm, il, fl, ch, bx, ⟨rfl, hoc⟩, hk⟩ := hv
  refine Con.of_body Tryz.func112 rfl Tryz.ntmps112 rfl rfl ?_
  intro hs
  refine Zrun ?_
  refine RW.boxN hs rfl rfl ?_
  intro b1 w1 hs
  refine Zrun ?_
  (refine RW.call T hs rfl rfl rfl (vecIn_con _ v i _ _ hv') ?_; intro v h2 w2 hle2 hp2 hs)
  subst hp2
  by_cases hin : 0 ≤ i ∧ i < v.len
  · obtain ⟨j, rfl⟩ := Int.eq_ofNat_of_zero_le hin.1
    have hn : v.num (j : Int) = v.nums.getD j 0 := by unfold VecD.num; rw [if_pos hin.1, Int.toNat_natCast]
    rw [hn]
    rcases hk with ⟨_, rfl⟩ | ⟨_, bs, hb, rfl, rfl⟩ | ⟨_, l, ⟨ad, cp, rfl, hS⟩, _, rfl⟩ | ⟨_, l, ⟨ad, cp, rfl, hS⟩, _, rfl⟩ | ⟨_, l, ⟨ad, cp, rfl, hS⟩, _, rfl⟩ | ⟨_, l, ⟨ad, cp, rfl, hS⟩, rfl⟩ | ⟨_, l, ⟨ad, cp, xs, rfl, hS, _⟩, rfl⟩
    · simp [VecD.len] at hin
      omega
    · have hj : j < bs.length := by simp [VecD.len] at hin; omega
      have hb := hb.mono hle2
      refine Zrun ?_
      (refine RW.call T hs rfl rfl rfl (bitsAt_con wv bs j _ _ hb) ?_; intro v h3 w3 hle3 hp3 hs)
      subst hp3
      refine Zrun ?_
      (refine RW.call T hs rfl rfl rfl (numFlag_con _ _ _) ?_; intro v h4 w4 hle4 hp4 hs)
      subst hp4
      refine Zrun ?_
      refine retQ_ret [_] h4 ⟨rfl, trivial⟩ hs.dropAll ?_
      simp only [packv]
      rw [getD_map bitF bs j false 0 hj]
      unfold bitAt
      rw [if_pos hin.1, Int.toNat_natCast]
    · have hj : j < l.length := by simp [VecD.len] at hin; omega
      have hS := hS.mono hle2
      refine Zrun ?_
      refine RW.val (Y.convIF T rfl rfl rfl) rfl ?_
      refine Zrun ?_
      exact retQ_ret [_] h2 ⟨rfl, trivial⟩ hs.dropAll (by simp only [packv]; rw [getD_map fwF l j 0 0 hj])
    · have hj : j < l.length := by simp [VecD.len] at hin; omega
      have hS := hS.mono hle2
      refine Zrun ?_
      refine RW.val (Y.convIF T rfl rfl rfl) rfl ?_
      refine Zrun ?_
      exact retQ_ret [_] h2 ⟨rfl, trivial⟩ hs.dropAll (by simp only [packv]; rw [getD_map fwF l j 0 0 hj])
    · have hj : j < l.length := by simp [VecD.len] at hin; omega
      have hS := hS.mono hle2
      have hg := map_get (Value.float .f64) l j 0 hj
      refine Zrun ?_
      exact retQ_ret [_] h2 ⟨rfl, trivial⟩ hs.dropAll rfl
    · refine Zrun ?_
      exact retQ_ret [_] h2 ⟨rfl, trivial⟩ hs.dropAll (by simp [packv])
    · refine Zrun ?_
      exact retQ_ret [_] h2 ⟨rfl, trivial⟩ hs.dropAll (by simp [packv])
  · refine Zrun ?_
    refine retQ_ret [_] h2 ⟨rfl, trivial⟩ hs.dropAll ?_
    unfold VecD.num
    by_cases h0 : 0 ≤ i
    · rw [if_pos h0, List.getD_eq_getElem?_getD, List.getElem?_eq_none (by omega)]; rfl
    · rw [if_neg h0]; rfl
end
end Go.Proofs.YtmojpbfkpggjhaaGreat

/-
  Contracts of functions of package vec: a whole number, a character, the packed truths. No statement is proved here.
-/
namespace Go.Proofs.YtmojpbfkpggjhaaGreat
open Go Go.RowKit
set_option linter.unusedVariables false
set_option linter.unusedSimpArgs false
set_option maxHeartbeats 4000000
attribute [local irreducible] CW RW QW SW HW ConM retM heldQ calmQ elemP thenQ blockQ loopQ joinQ retQ Yields Con Sl zF magR unitF truncF fwF wholeF tidySpec

theorem whole_bit (b : Bool) : wholeF (bitF b) = ((if b then 1 else 0 : Int), true) := by
  cases b
  · exact wholeF_of _ 0 (by show zF 0 = _; rw [zF0]; simp) (by omega)
  · exact wholeF_of _ 1 (by show zF 4607182418800017408 = _; rw [zF1]; simp) (by omega)
theorem small_in {l : List Int} {a b : Int} (h : ∀ u ∈ l, a ≤ u ∧ u ≤ b) (j : Nat) (hj : j < l.length) : a ≤ l.getD j 0 ∧ l.getD j 0 ≤ b :=
  h _ (by simp [List.getD_eq_getElem?_getD, hj])
section
variable {α : Type} {R : GHeap → List Value → α → Prop}
theorem vecWhole_con (cs : List Value) (v : VecD α) (i : Int) (w : World) (h : GHeap) (hv : VecAt R h cs v) : Con Tryz.prog 133 [.agg cs.toArray, .int .i64 i] w h (fun _ u => u = .tuple #[.int .i64 (v.whole i).1, .bool (v.whole i).2]) := by
  have hv' := hv
  obtain ⟨wv, nv, sm, il, fl, ch, bx, ⟨rfl, hoc⟩, hk⟩ := hv
  refine Con.of_body Tryz.func133 rfl Tryz.ntmps133 rfl rfl ?_
  intro hs
  refine Zrun ?_
  refine RW.boxN hs rfl rfl ?_
  intro b1 w1 hs
  refine Zrun ?_
  (refine RW.call T hs rfl rfl rfl (vecIn_con _ v i _ _ hv') ?_; intro v h2 w2 hle2 hp2 hs)
  subst hp2
  by_cases hin : 0 ≤ i ∧ i < v.len
  · obtain ⟨j, rfl⟩ := Int.eq_ofNat_of_zero_le hin.1
    unfold VecD.whole
    rw [Int.toNat_natCast]
    rcases hk with ⟨_, rfl⟩ | ⟨_, bs, hb, rfl, rfl⟩ | ⟨_, l, ⟨ad, cp, rfl, hS⟩, hr, rfl⟩ | ⟨_, l, ⟨ad, cp, rfl, hS⟩, hr, rfl⟩ | ⟨_, l, ⟨ad, cp, rfl, hS⟩, _, rfl⟩ | ⟨_, l, ⟨ad, cp, rfl, hS⟩, rfl⟩ | ⟨_, l, ⟨ad, cp, xs, rfl, hS, _⟩, rfl⟩
    · simp [VecD.len] at hin
      omega
    · have hj : j < bs.length := by simp [VecD.len] at hin; omega
      have hb := hb.mono hle2
      rw [if_pos ⟨.inl rfl, hin⟩]
      dsimp only
      rw [getD_map bitF bs j false 0 hj, whole_bit]
      have hba : bitAt bs (j : Int) = bs.getD j false := by unfold bitAt; rw [if_pos hin.1, Int.toNat_natCast]
      refine Zrun ?_
      (refine RW.call T hs rfl rfl rfl (bitsAt_con wv bs j _ _ hb) ?_; intro v h3 w3 hle3 hp3 hs)
      subst hp3
      rw [hba]
      cases bs.getD j false
      · refine Zrun ?_
        exact retQ_ret [_, _] h3 ⟨rfl, rfl, trivial⟩ hs.dropAll rfl
      · refine Zrun ?_
        exact retQ_ret [_, _] h3 ⟨rfl, rfl, trivial⟩ hs.dropAll rfl
    · have hj : j < l.length := by simp [VecD.len] at hin; omega
      have hS := hS.mono hle2
      have hb := small_in hr j hj
      rw [if_pos ⟨.inr (.inl rfl), hin⟩]
      dsimp only
      rw [getD_map fwF l j 0 0 hj, wholeF_fw _ ⟨by omega, by omega⟩]
      refine Zrun ?_
      refine RW.val (Y.conv64 T rfl rfl rfl ⟨by omega, by omega⟩) rfl ?_
      refine Zrun ?_
      exact retQ_ret [_, _] h2 ⟨rfl, rfl, trivial⟩ hs.dropAll rfl
    · have hj : j < l.length := by simp [VecD.len] at hin; omega
      have hS := hS.mono hle2
      have hb := small_in hr j hj
      rw [if_pos ⟨.inr (.inr rfl), hin⟩]
      dsimp only
      rw [getD_map fwF l j 0 0 hj, wholeF_fw _ ⟨by omega, by omega⟩]
      refine Zrun ?_
      exact retQ_ret [_, _] h2 ⟨rfl, rfl, trivial⟩ hs.dropAll rfl
    all_goals (rw [if_neg (by simp)])
    all_goals
      refine Zrun ?_
    all_goals exact retQ_ret [_, _] h2 ⟨rfl, rfl, trivial⟩ hs.dropAll rfl
  · unfold VecD.whole
    rw [if_neg (fun e => hin e.2)]
    refine Zrun ?_
    exact retQ_ret [_, _] h2 ⟨rfl, rfl, trivial⟩ hs.dropAll rfl

theorem vecChar_con (cs : List Value) (v : VecD α) (i : Int) (w : World) (h : GHeap) (hv : VecAt R h cs v) : Con Tryz.prog 111 [.agg cs.toArray, .int .i64 i] w h (fun _ u => u = .int .i32 (v.chr i)) := by
  have hv' := hv
  obtain ⟨wv, nv, sm, il, fl, ch, bx, ⟨rfl, hoc⟩, hk⟩ := hv
  refine Con.of_body Tryz.func111 rfl Tryz.ntmps111 rfl rfl ?_
  intro hs
  refine Zrun ?_
  refine RW.boxN hs rfl rfl ?_
  intro b1 w1 hs
  by_cases h5 : v.kind = 5
  · obtain ⟨l, ⟨ad, cp, rfl, hS⟩, rfl⟩ : ∃ l, KAt .i32 h ch l ∧ v = ⟨5, [], l, []⟩ := by
      rcases hk with ⟨e, _⟩ | ⟨e, _⟩ | ⟨e, _⟩ | ⟨e, _⟩ | ⟨e, _⟩ | ⟨e, hh⟩ | ⟨e, _⟩
      all_goals first | exact hh | omega
    have hlen : VecD.len (⟨5, [], l, []⟩ : VecD α) = l.length := by simp [VecD.len]
    unfold VecD.chr
    dsimp only
    refine Zrun ?_
    (refine RW.call T hs rfl rfl rfl (vecIn_con _ _ i _ _ hv') ?_; intro v h2 w2 hle2 hp2 hs)
    subst hp2
    rw [hlen]
    have hS := hS.mono hle2
    by_cases hin : 0 ≤ i ∧ i < l.length
    · obtain ⟨j, rfl⟩ := Int.eq_ofNat_of_zero_le hin.1
      have hj : j < l.length := by omega
      rw [if_pos hin.1, Int.toNat_natCast]
      refine Zrun ?_
      exact retQ_ret [_] h2 ⟨rfl, trivial⟩ hs.dropAll rfl
    · refine Zrun ?_
      refine retQ_ret [_] h2 ⟨rfl, trivial⟩ hs.dropAll ?_
      by_cases h0 : 0 ≤ i
      · rw [if_pos h0, List.getD_eq_getElem?_getD, List.getElem?_eq_none (by omega)]; rfl
      · rw [if_neg h0]; rfl
  · have hc : v.chr i = 0 := by
      have : v.chars = [] := by
        rcases hk with ⟨e, rfl⟩ | ⟨e, _, _, _, rfl⟩ | ⟨e, _, _, _, rfl⟩ | ⟨e, _, _, _, rfl⟩ | ⟨e, _, _, _, rfl⟩ | ⟨e, _, _, rfl⟩ | ⟨e, _, _, rfl⟩
        all_goals first | rfl | exact absurd rfl h5
      unfold VecD.chr
      rw [this]
      by_cases h0 : 0 ≤ i <;> simp [h0]
    rw [hc]
    refine Zrun ?_
    exact retQ_ret [_] h ⟨rfl, trivial⟩ hs.dropAll rfl
end
end Go.Proofs.YtmojpbfkpggjhaaGreat

/-
  Plain facts on packed truths. No statement is proved here.
-/
namespace Go.Proofs.YtmojpbfkpggjhaaGreat

/-- words of so many truths, of which those from some place on are false -/
def BitsN (n : Nat) (ws : List Int) (bs : List Bool) : Prop := ws.length = (n + 63) / 64 ∧ (∀ u ∈ ws, 0 ≤ u ∧ u < 18446744073709551616) ∧ ∀ i, (ws.getD (i / 64) 0).toNat.testBit (i % 64) = bs.getD i false
theorem BitsN.done {n : Nat} {ws : List Int} {bs : List Bool} (h : BitsN n ws bs) (hn : n = bs.length) : BitsOf ws bs := by subst hn; exact h
theorem BitsN.zero (n : Nat) : BitsN n (List.replicate ((n + 63) / 64) 0) [] := by
  refine ⟨by simp, fun u hu => ?_, fun i => ?_⟩
  · rw [List.eq_of_mem_replicate hu]; omega
  · have : (List.replicate ((n + 63) / 64) (0 : Int)).getD (i / 64) 0 = 0 := by
      rw [List.getD_eq_getElem?_getD, List.getElem?_replicate]
      split <;> rfl
    rw [this]; simp
theorem getD_take_succ (bs : List Bool) (i j : Nat) (h : i < bs.length) : (bs.take (i + 1)).getD j false = if j = i then bs.getD i false else (bs.take i).getD j false := by
  simp only [List.getD_eq_getElem?_getD, List.getElem?_take]
  by_cases e : j = i
  · subst e; simp
  · rw [if_neg e]
    by_cases h1 : j < i
    · rw [if_pos (by omega), if_pos h1]
    · rw [if_neg (by omega), if_neg h1]
theorem BitsN.skip {n : Nat} {ws : List Int} {bs : List Bool} {i : Nat} (h : BitsN n ws (bs.take i)) (hi : i < bs.length) (hb : bs.getD i false = false) : BitsN n ws (bs.take (i + 1)) := by
  refine ⟨h.1, h.2.1, fun j => ?_⟩
  rw [getD_take_succ bs i j hi, h.2.2 j]
  by_cases e : j = i
  · subst e; rw [if_pos rfl, hb]; simp [List.getD_eq_getElem?_getD, List.getElem?_take]
  · rw [if_neg e]
theorem getD_set (l : List Int) (k j : Nat) (v d : Int) (h : k < l.length) : (l.set k v).getD j d = if j = k then v else l.getD j d := by
  simp only [List.getD_eq_getElem?_getD, List.getElem?_set]
  by_cases e : k = j
  · subst e; simp [h]
  · simp [e, Ne.symm e]
theorem BitsN.put {n : Nat} {ws : List Int} {bs : List Bool} {i u : Nat} (h : BitsN n ws (bs.take i)) (hi : i < bs.length) (hb : bs.getD i false = true) (hin : i < n) (hu : ws.getD (i / 64) 0 = (u : Int)) (hu2 : u < 18446744073709551616) :
    BitsN n (ws.set (i / 64) ((u ||| 2 ^ (i % 64) : Nat) : Int)) (bs.take (i + 1)) := by
  have hk : i / 64 < ws.length := by rw [h.1]; omega
  have hp : 2 ^ (i % 64) < 18446744073709551616 := by
    have := Nat.pow_lt_pow_right (show 1 < 2 by omega) (Nat.mod_lt i (show 64 > 0 by omega))
    exact this
  have ho : u ||| 2 ^ (i % 64) < 18446744073709551616 := Nat.or_lt_two_pow (n := 64) hu2 hp
  refine ⟨by rw [List.length_set]; exact h.1, fun x hx => ?_, fun j => ?_⟩
  · rcases List.mem_or_eq_of_mem_set hx with hx | hx
    · exact h.2.1 x hx
    · subst hx; omega
  · rw [getD_set _ _ _ _ _ hk, getD_take_succ bs i j hi]
    by_cases e : j = i
    · subst e
      rw [if_pos rfl, if_pos rfl, hb, Int.toNat_natCast, Nat.testBit_or, Nat.testBit_two_pow]
      simp
    · rw [if_neg e, ← h.2.2 j]
      by_cases e2 : j / 64 = i / 64
      · rw [if_pos e2, e2, hu, Int.toNat_natCast, Int.toNat_natCast, Nat.testBit_or, Nat.testBit_two_pow]
        have : ¬ i % 64 = j % 64 := fun e3 => e (by omega)
        simp [this]
      · rw [if_neg e2]
end Go.Proofs.YtmojpbfkpggjhaaGreat

/-
  Contracts: slices cloned. No statement is proved here.
-/
namespace Go.Proofs.YtmojpbfkpggjhaaGreat
open Go Go.RowKit
set_option linter.unusedVariables false
set_option linter.unusedSimpArgs false
set_option maxHeartbeats 4000000
attribute [local irreducible] CW RW QW SW HW ConM retM heldQ calmQ elemP thenQ blockQ loopQ joinQ retQ Yields Con Sl zF magR unitF truncF fwF wholeF tidySpec

theorem cloneI8_con (v : Value) (l : List Int) (w : World) (h : GHeap) (hl : RowAt (Value.int .i8) h v l) (hm : l.length ≤ 1099511627776) : Con Tryz.prog 178 [v] w h (fun h' u => RowAt (Value.int .i8) h' u l) := by
  obtain ⟨ad, cp, rfl, hS⟩ := hl
  refine Con.of_body Tryz.func178 rfl Tryz.ntmps178 rfl rfl ?_
  intro hs
  refine Zrun ?_
  refine RW.val (Y.sliceNil T rfl rfl rfl) rfl ?_
  refine Zrun ?_
  cases ad with
  | none =>
    have h4 : l = [] := List.eq_nil_of_length_eq_zero hS.nil0.1
    subst h4
    refine Zrun ?_
    exact retQ_ret [_] h ⟨rfl, trivial⟩ hs (RowAt.nil h)
  | some p =>
    refine Zrun ?_
    (refine RW.lit T hs (vs := []) rfl rfl rfl rfl (by simp [Value.cells]) rfl rfl rfl rfl rfl ?_; intro b1 w1 hs)
    refine Zrun ?_
    refine RW.append T hs 0 rfl rfl (m := l.length) (news := l.map (Value.int .i8)) rfl rfl rfl rfl rfl rfl (hS.src hs.agree (by intro u hu; rw [List.mem_map] at hu; obtain ⟨z, _, rfl⟩ := hu; rfl)) (by simp) (by dsimp only; omega) (by omega) ?_
    intro ad' cp' w2 hs
    obtain ⟨h3, hle3, hs, hS3⟩ := hs.freeze
    refine Zrun ?_
    refine retQ_ret [_] h3 ⟨rfl, trivial⟩ hs (RowAt.of_sl ?_)
    simpa using hS3
theorem cloneI64_con (v : Value) (l : List Int) (w : World) (h : GHeap) (hl : RowAt (Value.int .i64) h v l) (hm : l.length ≤ 1099511627776) : Con Tryz.prog 113 [v] w h (fun h' u => RowAt (Value.int .i64) h' u l) := by
  obtain ⟨ad, cp, rfl, hS⟩ := hl
  refine Con.of_body Tryz.func113 rfl Tryz.ntmps113 rfl rfl ?_
  intro hs
  refine Zrun ?_
  refine RW.val (Y.sliceNil T rfl rfl rfl) rfl ?_
  refine Zrun ?_
  cases ad with
  | none =>
    have h4 : l = [] := List.eq_nil_of_length_eq_zero hS.nil0.1
    subst h4
    refine Zrun ?_
    exact retQ_ret [_] h ⟨rfl, trivial⟩ hs (RowAt.nil h)
  | some p =>
    refine Zrun ?_
    (refine RW.lit T hs (vs := []) rfl rfl rfl rfl (by simp [Value.cells]) rfl rfl rfl rfl rfl ?_; intro b1 w1 hs)
    refine Zrun ?_
    refine RW.append T hs 0 rfl rfl (m := l.length) (news := l.map (Value.int .i64)) rfl rfl rfl rfl rfl rfl (hS.src hs.agree (by intro u hu; rw [List.mem_map] at hu; obtain ⟨z, _, rfl⟩ := hu; rfl)) (by simp) (by dsimp only; omega) (by omega) ?_
    intro ad' cp' w2 hs
    obtain ⟨h3, hle3, hs, hS3⟩ := hs.freeze
    refine Zrun ?_
    refine retQ_ret [_] h3 ⟨rfl, trivial⟩ hs (RowAt.of_sl ?_)
    simpa using hS3
theorem cloneRune_con (v : Value) (l : List Int) (w : World) (h : GHeap) (hl : RowAt (Value.int .i32) h v l) (hm : l.length ≤ 1099511627776) : Con Tryz.prog 157 [v] w h (fun h' u => RowAt (Value.int .i32) h' u l) := by
  obtain ⟨ad, cp, rfl, hS⟩ := hl
  refine Con.of_body Tryz.func157 rfl Tryz.ntmps157 rfl rfl ?_
  intro hs
  refine Zrun ?_
  refine RW.val (Y.sliceNil T rfl rfl rfl) rfl ?_
  refine Zrun ?_
  cases ad with
  | none =>
    have h4 : l = [] := List.eq_nil_of_length_eq_zero hS.nil0.1
    subst h4
    refine Zrun ?_
    exact retQ_ret [_] h ⟨rfl, trivial⟩ hs (RowAt.nil h)
  | some p =>
    refine Zrun ?_
    (refine RW.lit T hs (vs := []) rfl rfl rfl rfl (by simp [Value.cells]) rfl rfl rfl rfl rfl ?_; intro b1 w1 hs)
    refine Zrun ?_
    refine RW.append T hs 0 rfl rfl (m := l.length) (news := l.map (Value.int .i32)) rfl rfl rfl rfl rfl rfl (hS.src hs.agree (by intro u hu; rw [List.mem_map] at hu; obtain ⟨z, _, rfl⟩ := hu; rfl)) (by simp) (by dsimp only; omega) (by omega) ?_
    intro ad' cp' w2 hs
    obtain ⟨h3, hle3, hs, hS3⟩ := hs.freeze
    refine Zrun ?_
    refine retQ_ret [_] h3 ⟨rfl, trivial⟩ hs (RowAt.of_sl ?_)
    simpa using hS3
theorem cloneInts_con (v : Value) (l : List Int) (w : World) (h : GHeap) (hl : RowAt (Value.int .i64) h v l) (hm : l.length ≤ 1099511627776) : Con Tryz.prog 64 [v] w h (fun h' u => RowAt (Value.int .i64) h' u l) := by
  obtain ⟨ad, cp, rfl, hS⟩ := hl
  refine Con.of_body Tryz.func64 rfl Tryz.ntmps64 rfl rfl ?_
  intro hs
  refine Zrun ?_
  refine RW.val (Y.sliceNil T rfl rfl rfl) rfl ?_
  refine Zrun ?_
  cases ad with
  | none =>
    have h4 : l = [] := List.eq_nil_of_length_eq_zero hS.nil0.1
    subst h4
    refine Zrun ?_
    exact retQ_ret [_] h ⟨rfl, trivial⟩ hs (RowAt.nil h)
  | some p =>
    refine Zrun ?_
    (refine RW.lit T hs (vs := []) rfl rfl rfl rfl (by simp [Value.cells]) rfl rfl rfl rfl rfl ?_; intro b1 w1 hs)
    refine Zrun ?_
    refine RW.append T hs 0 rfl rfl (m := l.length) (news := l.map (Value.int .i64)) rfl rfl rfl rfl rfl rfl (hS.src hs.agree (by intro u hu; rw [List.mem_map] at hu; obtain ⟨z, _, rfl⟩ := hu; rfl)) (by simp) (by dsimp only; omega) (by omega) ?_
    intro ad' cp' w2 hs
    obtain ⟨h3, hle3, hs, hS3⟩ := hs.freeze
    refine Zrun ?_
    refine retQ_ret [_] h3 ⟨rfl, trivial⟩ hs (RowAt.of_sl ?_)
    simpa using hS3

theorem cloneArr_con {α : Type} {R : GHeap → List Value → α → Prop} (hR : Mono R) (v : Value) (l : List α) (w : World) (h : GHeap) (hl : RowsAt 9 (R h) h v l) (hc : ∀ h cs a, R h cs a → ∀ u ∈ cs, u.oneCell' = true) (hm : l.length ≤ 1073741824) : Con Tryz.prog 120 [v] w h (fun h' u => RowsAt 9 (R h') h' u l) := by
  obtain ⟨ad, cp, xs, rfl, hS, hA⟩ := hl
  have hcells : ∀ u ∈ xs, u.oneCell' = true := by
    have key : ∀ (l : List α) (xs : List Value), AllN 9 (R h) xs l → ∀ u ∈ xs, u.oneCell' = true := by
      intro l
      induction l with
      | nil => intro xs hx u hu; have : xs = [] := hx; rw [this] at hu; cases hu
      | cons a l ih =>
        intro xs hx u hu
        rw [← List.take_append_drop 9 xs, List.mem_append] at hu
        rcases hu with hu | hu
        · exact hc h _ a hx.2.1 u hu
        · exact ih _ hx.2.2 u hu
    exact key l xs hA
  refine Con.of_body Tryz.func120 rfl Tryz.ntmps120 rfl rfl ?_
  intro hs
  refine Zrun ?_
  refine RW.val (Y.sliceNil T rfl rfl rfl) rfl ?_
  refine Zrun ?_
  cases ad with
  | none =>
    have h4 : l = [] := List.eq_nil_of_length_eq_zero hS.nil0.1
    subst h4
    refine Zrun ?_
    exact retQ_ret [_] h ⟨rfl, trivial⟩ hs (RowsAt.nil h)
  | some p =>
    refine Zrun ?_
    (refine RW.lit T hs (vs := []) rfl rfl rfl rfl (by simp [Value.cells]) rfl rfl rfl rfl rfl ?_; intro b1 w1 hs)
    refine Zrun ?_
    refine RW.append T hs 0 rfl rfl (m := l.length) (news := xs) rfl rfl rfl rfl rfl rfl (hS.src hs.agree hcells) (by simp) (by dsimp only; omega) (by omega) ?_
    intro ad' cp' w2 hs
    obtain ⟨h3, hle3, hs, hS3⟩ := hs.freeze
    refine Zrun ?_
    refine retQ_ret [_] h3 ⟨rfl, trivial⟩ hs ⟨ad', cp', xs, by simp [packv], by simpa using hS3, hA.mono (fun u a => hR _ _ u a hle3)⟩
end Go.Proofs.YtmojpbfkpggjhaaGreat

/-
  Contracts of functions of package vec: lists of elements made. No statement is proved here.
-/
namespace Go.Proofs.YtmojpbfkpggjhaaGreat
open Go Go.RowKit
set_option linter.unusedVariables false
set_option linter.unusedSimpArgs false
set_option maxHeartbeats 4000000
attribute [local irreducible] CW RW QW SW HW ConM retM heldQ calmQ elemP thenQ blockQ loopQ joinQ retQ Yields Con Sl zF magR unitF truncF fwF wholeF tidySpec

section
variable {α : Type} {R : GHeap → List Value → α → Prop}
theorem vecBits_con (wv : Value) (bs : List Bool) (w : World) (h : GHeap) (hb : BitsAt h wv bs) : Con Tryz.prog 122 [.agg [wv, .int .i64 bs.length].toArray] w h (fun h' u => ∃ cs, u = .agg cs.toArray ∧ VecAt R h' cs ⟨1, bs.map bitF, [], []⟩) := by
  have hb' := hb
  obtain ⟨_, ws, ⟨ad, cp, rfl, hS⟩, _⟩ := hb
  refine Con.of_body Tryz.func122 rfl Tryz.ntmps122 rfl rfl ?_
  intro hs
  refine Zrun ?_
  refine RW.boxN hs rfl rfl ?_
  intro b1 w1 hs
  refine RW.allocN T hs rfl rfl rfl rfl ?_
  intro b2 w2 hs
  refine Zrun ?_
  refine RW.val (Y.build T rfl rfl rfl rfl rfl rfl rfl) rfl ?_
  (refine RW.storeAll T hs 0 rfl rfl rfl rfl rfl rfl rfl rfl ?_; intro w3 hs)
  refine Zrun ?_
  exact retQ_ret [_] h ⟨resN T hs 0 rfl rfl rfl rfl rfl rfl, trivial⟩ hs.dropAll ⟨_, rfl, _, _, _, _, _, _, _, ⟨rfl, rfl⟩, .inr (.inl ⟨rfl, bs, hb', rfl, rfl⟩)⟩

theorem vecSmalls_con (s : Value) (l : List Int) (w : World) (h : GHeap) (hl : KAt .i8 h s l) (hr : ∀ u ∈ l, -128 ≤ u ∧ u ≤ 127) (hm : l.length ≤ 1099511627776) : Con Tryz.prog 176 [s] w h (fun h' u => ∃ cs, u = .agg cs.toArray ∧ VecAt R h' cs ⟨2, l.map fwF, [], []⟩) := by
  refine Con.of_body Tryz.func176 rfl Tryz.ntmps176 rfl rfl ?_
  intro hs
  refine Zrun ?_
  refine RW.allocN T hs rfl rfl rfl rfl ?_
  intro b2 w2 hs
  refine Zrun ?_
  (refine RW.call T hs rfl rfl rfl (cloneI8_con s l _ _ hl hm) ?_; intro v h3 w3 hle3 hp3 hs)
  obtain ⟨ad, cp, rfl, hS⟩ := hp3
  refine Zrun ?_
  refine RW.val (Y.build T rfl rfl rfl rfl rfl rfl rfl) rfl ?_
  (refine RW.storeAll T hs 0 rfl rfl rfl rfl rfl rfl rfl rfl ?_; intro w4 hs)
  refine Zrun ?_
  exact retQ_ret [_] h3 ⟨resN T hs 0 rfl rfl rfl rfl rfl rfl, trivial⟩ hs.dropAll ⟨_, rfl, _, _, _, _, _, _, _, ⟨rfl, rfl⟩, .inr (.inr (.inl ⟨rfl, l, ⟨ad, cp, rfl, hS⟩, hr, rfl⟩))⟩

theorem vecChars_con (s : Value) (l : List Int) (w : World) (h : GHeap) (hl : KAt .i32 h s l) (hm : l.length ≤ 1099511627776) : Con Tryz.prog 121 [s] w h (fun h' u => ∃ cs, u = .agg cs.toArray ∧ VecAt R h' cs ⟨5, [], l, []⟩) := by
  refine Con.of_body Tryz.func121 rfl Tryz.ntmps121 rfl rfl ?_
  intro hs
  refine Zrun ?_
  refine RW.allocN T hs rfl rfl rfl rfl ?_
  intro b2 w2 hs
  refine Zrun ?_
  (refine RW.call T hs rfl rfl rfl (cloneRune_con s l _ _ hl hm) ?_; intro v h3 w3 hle3 hp3 hs)
  obtain ⟨ad, cp, rfl, hS⟩ := hp3
  refine Zrun ?_
  refine RW.val (Y.build T rfl rfl rfl rfl rfl rfl rfl) rfl ?_
  (refine RW.storeAll T hs 0 rfl rfl rfl rfl rfl rfl rfl rfl ?_; intro w4 hs)
  refine Zrun ?_
  exact retQ_ret [_] h3 ⟨resN T hs 0 rfl rfl rfl rfl rfl rfl, trivial⟩ hs.dropAll ⟨_, rfl, _, _, _, _, _, _, _, ⟨rfl, rfl⟩, .inr (.inr (.inr (.inr (.inr (.inl ⟨rfl, l, ⟨ad, cp, rfl, hS⟩, rfl⟩)))))⟩

theorem vecBoxes_con (hR : Mono R) (hc : ∀ h cs a, R h cs a → ∀ u ∈ cs, u.oneCell' = true) (s : Value) (l : List α) (w : World) (h : GHeap) (hl : RowsAt 9 (R h) h s l) (hm : l.length ≤ 1073741824) : Con Tryz.prog 83 [s] w h (fun h' u => ∃ cs, u = .agg cs.toArray ∧ VecAt R h' cs ⟨6, [], [], l⟩) := by
  refine Con.of_body Tryz.func83 rfl Tryz.ntmps83 rfl rfl ?_
  intro hs
  refine Zrun ?_
  refine RW.allocN T hs rfl rfl rfl rfl ?_
  intro b2 w2 hs
  refine Zrun ?_
  (refine RW.call T hs rfl rfl rfl (cloneArr_con hR s l _ _ hl hc hm) ?_; intro v h3 w3 hle3 hp3 hs)
  obtain ⟨ad, cp, xs, rfl, hS, hA⟩ := hp3
  refine Zrun ?_
  refine RW.val (Y.build T rfl rfl rfl rfl rfl rfl rfl) rfl ?_
  (refine RW.storeAll T hs 0 rfl rfl rfl rfl rfl rfl rfl rfl ?_; intro w4 hs)
  refine Zrun ?_
  exact retQ_ret [_] h3 ⟨resN T hs 0 rfl rfl rfl rfl rfl rfl, trivial⟩ hs.dropAll ⟨_, rfl, _, _, _, _, _, _, _, ⟨rfl, rfl⟩, .inr (.inr (.inr (.inr (.inr (.inr ⟨rfl, l, ⟨ad, cp, xs, rfl, hS, hA⟩, rfl⟩)))))⟩
end
end Go.Proofs.YtmojpbfkpggjhaaGreat

/-
  Contracts of functions of package bitvec: truths packed. No statement is proved here.
-/
namespace Go.Proofs.YtmojpbfkpggjhaaGreat
open Go Go.RowKit
set_option linter.unusedVariables false
set_option linter.unusedSimpArgs false
set_option maxHeartbeats 4000000
attribute [local irreducible] CW RW QW SW HW ConM retM heldQ calmQ elemP thenQ blockQ loopQ joinQ retQ Yields Con Sl zF magR unitF truncF fwF wholeF tidySpec

/-- false truths: their words are the caller's own -/
theorem bitsMake_conM (n : Nat) (w0 w : World) (h0 h : GHeap) (O : List Row) (hn : n ≤ 1048576) : ConM Tryz.prog 161 [.int .i64 n, .bool false] w0 h0 h O w
    (fun h' O' v => h' = h ∧ ∃ b, v = .agg [.slice (some ⟨b, 0, none⟩) ((n + 63) / 64) ((n + 63) / 64), .int .i64 n].toArray ∧ O' = ⟨some ⟨b, 0, none⟩, (n + 63) / 64, (n + 63) / 64, 183, 1, (List.replicate ((n + 63) / 64) 0).map (Value.int .u64)⟩ :: O) := by
  refine ConM.of_body Tryz.func161 rfl Tryz.ntmps161 rfl rfl ?_
  intro hs
  refine Zrun ?_
  (refine RW.allocN T hs rfl rfl rfl rfl ?_; intro b2 w2 hs)
  refine Zrun ?_
  have e1 : max 0 (min (n : Int) 1048576) = (n : Int) := by omega
  rw [e1]
  refine RW.val (Y.shrI (u := n + 63) (v := 6) rfl rfl (by omega)) rfl ?_
  rw [shr6]
  have hk : (n + 63) / 64 ≤ 16385 := by omega
  generalize (n + 63) / 64 = k at hk
  (refine RW.make1 T hs rfl rfl rfl rfl rfl rfl rfl (by dsimp only; omega) (by omega) ?_; intro b3 w3 hs)
  refine Zrun ?_
  refine RW.val (Y.build T rfl rfl rfl rfl rfl rfl rfl) rfl ?_
  (refine RW.allocN T hs rfl rfl rfl rfl ?_; intro b4 w4 hs)
  (refine RW.storeAll T hs 0 rfl rfl rfl rfl rfl rfl rfl rfl ?_; intro w5 hs)
  refine Zrun ?_
  (refine RW.storeAll T hs 2 rfl rfl rfl rfl rfl rfl rfl rfl ?_; intro w6 hs)
  refine Zrun ?_
  refine retM_ret [_] h _ ⟨resN T hs 2 rfl rfl rfl rfl rfl rfl, trivial⟩ (GLe.refl _) hs.drop.swap.drop ⟨rfl, b3, rfl, ?_⟩
  rw [List.map_replicate]

theorem bitsPack_con (s : Value) (bs : List Bool) (w : World) (h : GHeap) (hb : TAt h s bs) (hn : bs.length ≤ 1048576) : Con Tryz.prog 160 [s] w h
    (fun h' v => ∃ wv, v = .agg [wv, .int .i64 bs.length].toArray ∧ BitsAt h' wv bs) := by
  obtain ⟨ad, cp, rfl, hS⟩ := hb
  have hcaps := hS.caps
  refine Con.of_body Tryz.func160 rfl Tryz.ntmps160 rfl rfl ?_
  intro hs
  refine Zrun ?_
  (refine RW.allocN T hs rfl rfl rfl rfl ?_; intro b1 w1 hs)
  refine Zrun ?_
  rw [show min (bs.length : Int) 1048576 = (bs.length : Int) by omega]
  refine RW.val (Y.sliceHi T rfl rfl rfl rfl ?_) rfl ?_
  · omega
  refine Zrun ?_
  (refine RW.callM T hs rfl rfl rfl (bitsMake_conM bs.length _ _ _ _ _ hn) ?_; intro v h2 O2 w2 hle2 hp2 hs)
  obtain ⟨rfl, b3, rfl, rfl⟩ := hp2
  (refine RW.allocN T hs rfl rfl rfl rfl ?_; intro b4 w4 hs)
  (refine RW.storeAll T hs 0 rfl rfl rfl rfl rfl rfl rfl rfl ?_; intro w5 hs)
  have hz := BitsN.zero bs.length
  generalize hkk : (bs.length + 63) / 64 = kk at hz hs ⊢
  refine Zrun ?_
  refine CW.loop (fun p : Nat × List Int => [(2, .pointer (some ⟨b1, 0, none⟩)), (3, .pointer (some ⟨b4, 0, none⟩)), (14, .slice ad bs.length cp), (15, .int .i64 bs.length), (16, .int .i64 p.1)]) (fun p w' => p.1 ≤ bs.length ∧ BitsN bs.length p.2 (bs.take p.1) ∧ Sees w h2 h2 [⟨some ⟨b4, 0, none⟩, 1, 1, 30, 2, [.slice (some ⟨b3, 0, none⟩) kk kk, .int .i64 bs.length]⟩, ⟨some ⟨b3, 0, none⟩, kk, kk, 183, 1, p.2.map (Value.int .u64)⟩, ⟨some ⟨b1, 0, none⟩, 1, 1, 30, 2, [.slice none 0 0, .int .i64 0]⟩] w') (fun p => bs.length - p.1) (0, List.replicate kk 0) ⟨rfl, rfl, rfl, rfl, rfl, trivial⟩ ⟨by omega, by simpa using hz, hs⟩ ?_
  rintro ⟨i, ws⟩ w6 ⟨hi, hB, hs⟩
  dsimp only at hi hB hs ⊢
  by_cases hlt : i < bs.length
  · have hg := map_get Value.bool bs i false hlt
    refine Zrun ?_
    refine CW.cond rfl (fun hbt => ?_) (fun hbf => ?_)
    · have hidx : i / 64 < ws.length := by rw [hB.1]; omega
      have hwk : ws.length = kk := by rw [hB.1, hkk]
      have hm : ws.getD (i / 64) 0 ∈ ws := by simp [List.getD_eq_getElem?_getD, hidx]
      obtain ⟨u, hu⟩ := Int.eq_ofNat_of_zero_le (hB.2.1 _ hm).1
      have hu2 : u < 18446744073709551616 := by have := (hB.2.1 _ hm).2; omega
      have hput := hB.put hlt hbt hlt hu hu2
      have hp64 : 2 ^ (i % 64) < 18446744073709551616 := Nat.pow_lt_pow_right (show 1 < 2 by omega) (Nat.mod_lt i (show 64 > 0 by omega))
      refine Zrun ?_
      refine RW.val (Y.shrI (u := i) (v := 6) rfl rfl (by omega)) rfl ?_
      rw [shr6]
      refine RW.val (Y.idxRN T hs 1 rfl rfl rfl rfl rfl rfl ?_) rfl ?_
      · omega
      refine RW.val (Y.ldRInt T hs 1 rfl rfl rfl rfl ?_) rfl ?_
      · omega
      rw [hu]
      refine Zrun ?_
      refine RW.val (Y.andI (u := i) (v := 63) rfl rfl (by omega) (by omega)) rfl ?_
      rw [and63]
      refine RW.val (Y.convII T rfl rfl rfl) rfl ?_
      rw [wrapU _ (by omega)]
      refine RW.val (Y.shlU (u := 1) rfl rfl (by omega)) rfl ?_
      rw [Nat.one_shiftLeft, Nat.mod_eq_of_lt hp64]
      refine RW.val (Y.orU rfl rfl hu2 hp64) rfl ?_
      refine RW.val (Y.idxRN T hs 1 rfl rfl rfl rfl rfl rfl ?_) rfl ?_
      · omega
      refine RW.st1 T hs 1 rfl rfl rfl rfl rfl rfl rfl (by omega) ?_
      intro w7 hs
      refine Zrun ?_
      refine loopQ_round (i + 1, ws.set (i / 64) ((u ||| 2 ^ (i % 64) : Nat) : Int)) ⟨rfl, rfl, rfl, rfl, rfl, trivial⟩ ⟨by dsimp only; omega, hput, ?_⟩ (by dsimp only; omega)
      dsimp only
      rw [← map_set_int]
      exact hs
    · have hskip := hB.skip hlt hbf
      refine Zrun ?_
      exact loopQ_round (i + 1, ws) ⟨rfl, rfl, rfl, rfl, rfl, trivial⟩ ⟨by dsimp only; omega, hskip, hs⟩ (by dsimp only; omega)
  · obtain rfl : i = bs.length := by omega
    rw [List.take_length] at hB
    refine Zrun ?_
    (refine RW.storeAll T hs 2 rfl rfl rfl rfl rfl rfl rfl rfl ?_; intro w8 hs)
    refine Zrun ?_
    obtain ⟨h9, hle9, hs9, hS9⟩ := hs.drop.freeze
    refine retQ_ret [_] h9 ⟨resN T hs 2 rfl rfl rfl rfl rfl rfl, trivial⟩ hs9.dropAll ⟨_, rfl, hn, ws, ?_, hB.done rfl⟩
    exact RowAt.of_sl hS9
end Go.Proofs.YtmojpbfkpggjhaaGreat

/-
  Contracts of functions of package vec: whole numbers and numbers kept. No statement is proved here.
-/
namespace Go.Proofs.YtmojpbfkpggjhaaGreat
open Go Go.RowKit
set_option linter.unusedVariables false
set_option linter.unusedSimpArgs false
set_option maxHeartbeats 4000000
attribute [local irreducible] CW RW QW SW HW ConM retM heldQ calmQ elemP thenQ blockQ loopQ joinQ retQ Yields Con Sl zF magR unitF truncF fwF wholeF tidySpec

section
variable {α : Type} {R : GHeap → List Value → α → Prop}
def VecD.none {α : Type} : VecD α := ⟨0, [], [], []⟩
theorem vecNone (h : GHeap) : VecAt R h (vecCells 0 (.slice none 0 0) 0 (.slice none 0 0) (.slice none 0 0) (.slice none 0 0) (.slice none 0 0) (.slice none 0 0)) VecD.none := ⟨_, _, _, _, _, _, _, ⟨rfl, rfl⟩, .inl ⟨rfl, rfl⟩⟩
theorem vecInts_con (s : Value) (l : List Int) (w : World) (h : GHeap) (hl : KAt .i64 h s l) (hm : l.length ≤ 1099511627776) : Con Tryz.prog 55 [s] w h
    (fun h' u => ∃ cs ok, u = .tuple #[.agg cs.toArray, .bool ok] ∧ ok = decide (∀ u ∈ l, -9007199254740992 ≤ u ∧ u ≤ 9007199254740992) ∧ VecAt R h' cs (if ok = true then ⟨3, l.map fwF, [], []⟩ else VecD.none)) := by
  have hl' := hl
  obtain ⟨ad, cp, rfl, hS⟩ := hl
  refine Con.of_body Tryz.func55 rfl Tryz.ntmps55 rfl rfl ?_
  intro hs
  refine Zrun ?_
  (refine RW.allocN T hs rfl rfl rfl rfl ?_; intro b1 w1 hs)
  refine Zrun ?_
  refine CW.loop (fun k : Nat => [(0, .slice ad l.length cp), (2, .pointer (some ⟨b1, 0, none⟩)), (6, .slice ad l.length cp), (7, .int .i64 l.length), (8, .int .i64 k)]) (fun k w' => k ≤ l.length ∧ (∀ j, j < k → -9007199254740992 ≤ l.getD j 0 ∧ l.getD j 0 ≤ 9007199254740992) ∧ Sees w h h [⟨some ⟨b1, 0, none⟩, 1, 1, 37, 8, vecCells 0 (.slice none 0 0) 0 (.slice none 0 0) (.slice none 0 0) (.slice none 0 0) (.slice none 0 0) (.slice none 0 0)⟩] w') (fun k => l.length - k) 0 ⟨rfl, rfl, rfl, rfl, rfl, trivial⟩ ⟨by omega, by omega, hs⟩ ?_
  rintro k w2 ⟨hk, hno, hs⟩
  by_cases hlt : k < l.length
  · by_cases hgood : -9007199254740992 ≤ l.getD k 0 ∧ l.getD k 0 ≤ 9007199254740992
    · refine Zrun ?_
      refine loopQ_round (k + 1) ⟨rfl, rfl, rfl, rfl, rfl, trivial⟩ ⟨by omega, fun j hj => ?_, hs⟩ (by omega)
      by_cases e : j = k
      · subst e; exact hgood
      · exact hno j (by omega)
    · have hbad : decide (∀ u ∈ l, -9007199254740992 ≤ u ∧ u ≤ 9007199254740992) = false := decide_eq_false (fun e => hgood (e _ (by simp [List.getD_eq_getElem?_getD, hlt])))
      by_cases hg : 9007199254740992 < l.getD k 0
      all_goals
        refine Zrun ?_
      all_goals
        refine RW.val (Y.build T rfl rfl rfl rfl rfl rfl rfl) rfl ?_
      all_goals
        (refine RW.storeAll T hs 0 rfl rfl rfl rfl rfl rfl rfl rfl ?_; intro w3 hs)
      all_goals
        refine Zrun ?_
      all_goals exact retQ_ret [_, _] h ⟨resN T hs 0 rfl rfl rfl rfl rfl rfl, rfl, trivial⟩ hs.dropAll ⟨_, false, rfl, hbad.symm, vecNone h⟩
  · obtain rfl : k = l.length := by omega
    have hall : ∀ u ∈ l, -9007199254740992 ≤ u ∧ u ≤ 9007199254740992 := by
      intro u hu
      obtain ⟨j, hj, e⟩ := List.getElem_of_mem hu
      have := hno j hj
      rw [List.getD_eq_getElem?_getD, List.getElem?_eq_getElem hj] at this
      rw [← e]; exact this
    refine Zrun ?_
    (refine RW.call T hs rfl rfl rfl (cloneI64_con _ l _ _ hl' hm) ?_; intro v h4 w4 hle4 hp4 hs)
    obtain ⟨ad4, cp4, rfl, hS4⟩ := hp4
    refine Zrun ?_
    refine RW.val (Y.build T rfl rfl rfl rfl rfl rfl rfl) rfl ?_
    (refine RW.storeAll T hs 0 rfl rfl rfl rfl rfl rfl rfl rfl ?_; intro w5 hs)
    refine Zrun ?_
    exact retQ_ret [_, _] h4 ⟨resN T hs 0 rfl rfl rfl rfl rfl rfl, rfl, trivial⟩ hs.dropAll ⟨_, true, rfl, (decide_eq_true hall).symm, ⟨_, _, _, _, _, _, _, ⟨rfl, rfl⟩, .inr (.inr (.inr (.inl ⟨rfl, l, ⟨ad4, cp4, rfl, hS4⟩, hall, rfl⟩)))⟩⟩
end
end Go.Proofs.YtmojpbfkpggjhaaGreat
