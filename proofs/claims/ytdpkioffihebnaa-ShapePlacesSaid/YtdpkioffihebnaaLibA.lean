/-
  A small program logic over the kit's weakest preconditions: environments of slots, a ghost heap of blocks that stay, and rows of the call's own. No statement is proved here.
-/
import Derived.WalkKit
import Derived.Laws.AppendOwn
import Derived.Laws.OwnMore
import Derived.Laws.CopyOwn
namespace Go.Proofs.Ytdpkioffihebnaa
open Go Go.RowKit

/-! ## Environments -/
abbrev Env := List (Nat × Value)
def get : Env → Nat → Option Value
  | [], _ => none
  | (j, v) :: r, k => match Nat.beq j k with
    | true => some v
    | false => get r k
def updo (d : Option Tmp) (v : Value) (L : Env) : Env := match d with
  | some d => (d, v) :: L
  | none => L
def dstOk (n : Nat) (d : Option Tmp) : Bool := match d with
  | some d => Nat.blt d n
  | none => true
def opv (L : Env) : Operand → Option Value
  | .tmp t => get L t
  | .const v => some v
  | .global g => some (.pointer (some ⟨g, 0, none⟩))
  | .func f => some (.func (.func f) #[] #[])
def opvs (L : Env) : List Operand → Option (List Value)
  | [] => some []
  | x :: r => match opv L x, opvs L r with
    | some v, some vs => some (v :: vs)
    | _, _ => none

structure Fits (n : Nat) (L : Env) (a : Act) : Prop where
  size : a.tmps.size = n
  defers : a.defers = []
  get : ∀ k v, get L k = some v → a.tmps[k]? = some v

theorem get_cons (j : Nat) (v : Value) (L : Env) (k : Nat) : get ((j, v) :: L) k = if j = k then some v else get L k := by
  show (match Nat.beq j k with | true => some v | false => get L k) = _
  by_cases h : j = k
  · subst h; simp
  · have : Nat.beq j k = false := by
      cases hb : Nat.beq j k
      · rfl
      · exact absurd (Nat.eq_of_beq_eq_true hb) h
    simp [this, h]

theorem Fits.eval {n : Nat} {L : Env} {a : Act} (h : Fits n L a) {x : Operand} {v : Value} (hx : opv L x = some v) : a.eval x = v := by
  cases x with
  | tmp t =>
    have := h.get t v hx
    show a.tmps.getD t undef = v
    rw [Array.getD_eq_getD_getElem?, this]; rfl
  | const c => exact Option.some.inj hx
  | global g => exact Option.some.inj hx
  | func f => exact Option.some.inj hx

theorem Fits.evals {n : Nat} {L : Env} {a : Act} (h : Fits n L a) : ∀ {xs : List Operand} {vs : List Value}, opvs L xs = some vs → xs.map a.eval = vs
  | [], vs, hx => by simp [opvs] at hx; subst hx; rfl
  | x :: r, vs, hx => by
    simp only [opvs] at hx
    cases h1 : opv L x with
    | none => simp [h1] at hx
    | some v => cases h2 : opvs L r with
      | none => simp [h1, h2] at hx
      | some ws =>
        simp [h1, h2] at hx; subst hx
        simp [h.eval h1, h.evals h2]

theorem Fits.put {n : Nat} {L : Env} {a : Act} (h : Fits n L a) {d : Option Tmp} (v : Value) (hd : dstOk n d = true) : Fits n (updo d v L) (a.put d v) := by
  cases d with
  | none => exact h
  | some d =>
    have hlt : d < n := by
      have : Nat.blt d n = true := hd
      exact Nat.le_of_ble_eq_true this
    refine ⟨by simp [Act.put, h.size], h.defers, ?_⟩
    intro k u hk
    simp only [updo, get_cons] at hk
    simp only [Act.put, Array.getElem?_setIfInBounds]
    by_cases e : d = k
    · subst e
      simp at hk
      simp [h.size, hlt, hk]
    · simp [e] at hk
      simp [e, h.get k u hk]

/-- What one environment says, another one says too. -/
def Has (L : Env) : Env → Prop
  | [] => True
  | (k, v) :: r => get L k = some v ∧ Has L r

theorem Has.get {L : Env} : ∀ {M : Env}, Has L M → ∀ k v, get M k = some v → get L k = some v
  | [], _, _, _, h => by simp [Proofs.Ytdpkioffihebnaa.get] at h
  | (j, u) :: r, hh, k, v, h => by
    rw [get_cons] at h
    by_cases e : j = k
    · subst e; simp at h; subst h; exact hh.1
    · simp [e] at h; exact Has.get hh.2 k v h

theorem Fits.has {n : Nat} {L M : Env} {a : Act} (h : Fits n L a) (hm : Has L M) : Fits n M a :=
  ⟨h.size, h.defers, fun k v hk => h.get k v (hm.get k v hk)⟩

/-! ## Code -/
abbrev Post := Exit → Env → World → Prop
def QL (n : Nat) (Q : Post) : Exit → Act → World → Prop := fun e a w => ∃ L, Fits n L a ∧ Q e L w
def RW (P : Program) (n : Nat) (ops : List Oper) (Q : Post) (L : Env) (w : World) (rest : List Oper) : Prop :=
  ∀ a, Fits n L a → wpList P ops.toArray (QL n Q) rest a w
def CW (P : Program) (n : Nat) (Q : Post) (c : Code) (L : Env) (w : World) : Prop :=
  ∀ a, Fits n L a → c.wp P (QL n Q) a w

section
variable {P : Program} {n : Nat} {Q : Post} {L : Env} {w : World}

theorem CW.has {c : Code} {M : Env} (hm : Has L M) (h : CW P n Q c M w) : CW P n Q c L w := fun a ha => h a (ha.has hm)

theorem CW.mono {c : Code} {Q' : Post} (h : CW P n Q c L w) (hq : ∀ e L w, Q e L w → Q' e L w) : CW P n Q' c L w :=
  fun a ha => Code.wp_mono (fun _ _ _ ⟨M, hM, q⟩ => ⟨M, hM, hq _ _ _ q⟩) (h a ha)

def thenQ (P : Program) (n : Nat) (y : Code) (Q : Post) : Post := fun e L w => match e with
  | .normal => CW P n Q y L w
  | e => Q e L w

theorem CW.seq {x y : Code} (h : CW P n (thenQ P n y Q) x L w) : CW P n Q (.seq x y) L w := by
  intro a ha
  refine wp_seq (Code.wp_mono ?_ (h a ha))
  rintro e a' w' ⟨M, hM, q⟩
  cases e with
  | normal => exact q a' hM
  | _ => exact ⟨M, hM, q⟩

theorem CW.skip (h : Q .normal L w) : CW P n Q .skip L w := fun _ ha => wp_skip ⟨L, ha, h⟩
theorem CW.ret (h : Q .ret L w) : CW P n Q .ret L w := fun _ ha => wp_ret ⟨L, ha, h⟩
theorem CW.exit {id : Nat} (h : Q (.exit id) L w) : CW P n Q (.exit id) L w := fun _ ha => wp_exit ⟨L, ha, h⟩
theorem CW.label {id : Nat} (h : Q .normal L w) : CW P n Q (.label id) L w := fun _ ha => wp_label ⟨L, ha, h⟩

theorem CW.cond {c : Operand} {x y : Code} {b : Bool} (hc : opv L c = some (.bool b)) (ht : b = true → CW P n Q x L w) (hf : b = false → CW P n Q y L w) : CW P n Q (.cond c x y) L w :=
  fun a ha => wp_cond_split (ha.eval hc) (fun h => ht h a ha) (fun h => hf h a ha)
theorem CW.condT {c : Operand} {x y : Code} (hc : opv L c = some (.bool true)) (ht : CW P n Q x L w) : CW P n Q (.cond c x y) L w :=
  fun a ha => wp_cond_true (ha.eval hc) (ht a ha)
theorem CW.condF {c : Operand} {x y : Code} (hc : opv L c = some (.bool false)) (hf : CW P n Q y L w) : CW P n Q (.cond c x y) L w :=
  fun a ha => wp_cond_false (ha.eval hc) (hf a ha)

def blockQ (id : Nat) (Q : Post) : Post := fun e L w => match e with
  | .exit id' => match Nat.beq id' id with
    | true => Q .normal L w
    | false => Q (.exit id') L w
  | e => Q e L w

theorem CW.block {id : Nat} {c : Code} (h : CW P n (blockQ id Q) c L w) : CW P n Q (.block id c) L w := by
  intro a ha
  refine wp_block (Code.wp_mono ?_ (h a ha))
  rintro e a' w' ⟨M, hM, q⟩
  cases e with
  | exit id' =>
    simp only [blockQ] at q
    simp only [Exit.inBlock]
    cases hb : Nat.beq id' id with
    | true => rw [hb] at q; rw [if_pos (Nat.eq_of_beq_eq_true hb)]; exact ⟨M, hM, q⟩
    | false =>
      rw [hb] at q
      rw [if_neg (fun e => by subst e; simp at hb)]
      exact ⟨M, hM, q⟩
  | _ => exact ⟨M, hM, q⟩

/-- The loop: a ghost state 's', what the slots hold of it, what holds of it and of the world, and a measure. -/
def loopQ {σ : Type} (E : σ → Env) (S : σ → World → Prop) (μ : σ → Nat) (s : σ) (Q : Post) : Post := fun e L w => match e with
  | .normal => ∃ s', Has L (E s') ∧ S s' w ∧ μ s' < μ s
  | e => Q e L w

theorem CW.loop {σ : Type} {c : Code} (E : σ → Env) (S : σ → World → Prop) (μ : σ → Nat) (s0 : σ) (hE : Has L (E s0)) (hS : S s0 w)
    (round : ∀ s w, S s w → CW P n (loopQ E S μ s Q) c (E s) w) : CW P n Q (.loop c) L w := by
  intro a ha b k cs
  have key : ∀ m s a w, μ s = m → Fits n (E s) a → S s w →
      ∃ e a' w', QL n Q e a' w' ∧ Arrives P (lone (b.at a (.code c :: .inLoop c :: k)) cs w) b k cs e a' w' := by
    intro m
    induction m using Nat.strongRecOn with
    | _ m ih =>
      intro s a w hm hf hs
      obtain ⟨e, a₁, w₁, ⟨M, hM, q⟩, harr⟩ := round s w hs a hf b (.inLoop c :: k) cs
      cases e with
      | normal =>
        obtain ⟨s', hE', hS', hlt⟩ := q
        obtain ⟨e₂, a₂, w₂, hq₂, harr₂⟩ := ih (μ s') (hm ▸ hlt) s' a₁ w₁ rfl (hM.has hE') hS'
        exact ⟨e₂, a₂, w₂, hq₂, .of_steps (Steps.trans harr (.one step_inLoop)) harr₂⟩
      | exit id => exact ⟨_, a₁, w₁, ⟨M, hM, q⟩, .pass (x := .inLoop c) rfl (fun _ _ => .inl (by simp)) harr⟩
      | goto l => exact ⟨_, a₁, w₁, ⟨M, hM, q⟩, .pass (x := .inLoop c) rfl (fun _ _ => .inl (by simp)) harr⟩
      | ret => exact ⟨_, a₁, w₁, ⟨M, hM, q⟩, .pass (x := .inLoop c) rfl (fun _ _ => .inl (by simp)) harr⟩
      | panic ch => exact ⟨_, a₁, w₁, ⟨M, hM, q⟩, .pass (x := .inLoop c) rfl (fun _ _ => .inl (by simp)) harr⟩
      | outgrown => exact ⟨_, a₁, w₁, ⟨M, hM, q⟩, .pass (x := .inLoop c) rfl (fun _ _ => .inl (by simp)) harr⟩
  obtain ⟨e, a', w', hq, harr⟩ := key _ s0 a w rfl (ha.has hE) hS
  exact ⟨e, a', w', hq, .of_steps (.one step_loop) harr⟩

/-- Ways that meet again: what holds there, whatever the way. -/
def joinQ {σ : Type} (E : σ → Env) (S : σ → World → Prop) (Q : Post) : Post := fun e L w => match e with
  | .normal => ∃ s, Has L (E s) ∧ S s w
  | e => Q e L w
theorem CW.seqJ {σ : Type} {x y : Code} (E : σ → Env) (S : σ → World → Prop) (hx : CW P n (joinQ E S Q) x L w) (hy : ∀ s w, S s w → CW P n Q y (E s) w) : CW P n Q (.seq x y) L w := by
  refine CW.seq (hx.mono ?_)
  intro e M w' q
  cases e with
  | normal => obtain ⟨s, h1, h2⟩ := q; exact (hy s w' h2).has h1
  | _ => exact q

/-! ## Regions -/
theorem CW.region {id : Nat} {l : List Oper} (h : RW P n l Q L w l) : CW P n Q (.region id l.toArray false) L w := fun a ha => wp_region_lit (h a ha)
variable {ops rest : List Oper}
theorem RW.nil (h : Q .normal L w) : RW P n ops Q L w [] := fun _ ha => wpList_nil ⟨L, ha, h⟩

def gdst : List Oper → Nat → Option Tmp
  | [], _ => none
  | o :: _, 0 => o.dst
  | _ :: r, k + 1 => gdst r k
theorem gdst_eq : ∀ (l : List Oper) (j : Nat), (l.toArray[j]?).bind (·.dst) = gdst l j
  | [], j => by simp [gdst]
  | o :: r, 0 => by simp [gdst]
  | o :: r, k + 1 => by simpa [gdst] using gdst_eq r k

theorem yielded_of {a : Act} (ha : Fits n L a) {j : Nat} {t : Tmp} {b : Bool} (hj : gdst ops j = some t) (ht : get L t = some (.bool b)) : yielded ops.toArray a.tmps j = some b := by
  unfold yielded
  rw [gdst_eq, hj]
  simp [ha.get t _ ht]
theorem yielded_undef {a : Act} (ha : Fits n L a) {j : Nat} {t : Tmp} (hj : gdst ops j = some t) (ht : get L t = some undef) : yielded ops.toArray a.tmps j = none := by
  unfold yielded
  rw [gdst_eq, hj]
  simp [ha.get t _ ht, undef]

theorem RW.guardYes {d : Option Tmp} {op : Op} {ty : TypeId} {pos : String} {aft : Array Edge} {j : Nat} {want : Bool} {t : Tmp} (hj : gdst ops j = some t) (ht : get L t = some (.bool want))
    (h : RW P n ops Q L w (⟨d, op, ty, pos, aft, none⟩ :: rest)) : RW P n ops Q L w (⟨d, op, ty, pos, aft, some (j, want)⟩ :: rest) := by
  intro a ha
  have h' := h a ha
  unfold wpList at h' ⊢
  rw [if_pos (by simp [Region.wanted])] at h'
  rw [if_pos (by simp [Region.wanted, yielded_of ha hj ht])]
  exact h'
theorem RW.guardNo {d : Option Tmp} {op : Op} {ty : TypeId} {pos : String} {aft : Array Edge} {j : Nat} {want b : Bool} {t : Tmp} (hj : gdst ops j = some t) (ht : get L t = some (.bool b)) (hb : (b == want) = false)
    (hd : dstOk n d = true) (h : RW P n ops Q (updo d undef L) w rest) : RW P n ops Q L w (⟨d, op, ty, pos, aft, some (j, want)⟩ :: rest) := by
  intro a ha
  unfold wpList
  rw [if_neg (by simp [Region.wanted, yielded_of ha hj ht]; simpa using hb)]
  exact h _ (ha.put undef hd)
theorem RW.guardUndef {d : Option Tmp} {op : Op} {ty : TypeId} {pos : String} {aft : Array Edge} {j : Nat} {want : Bool} {t : Tmp} (hj : gdst ops j = some t) (ht : get L t = some undef)
    (hd : dstOk n d = true) (h : RW P n ops Q (updo d undef L) w rest) : RW P n ops Q L w (⟨d, op, ty, pos, aft, some (j, want)⟩ :: rest) := by
  intro a ha
  unfold wpList
  rw [if_neg (by simp [Region.wanted, yielded_undef ha hj ht])]
  exact h _ (ha.put undef hd)

/-- A bool in a slot, by cases. -/
theorem RW.split {t : Tmp} {b : Bool} (ht : get L t = some (.bool b)) (h1 : b = true → RW P n ops Q ((t, .bool true) :: L) w rest) (h2 : b = false → RW P n ops Q ((t, .bool false) :: L) w rest) : RW P n ops Q L w rest := by
  intro a ha
  cases b with
  | true => exact h1 rfl a ⟨ha.size, ha.defers, fun k v hk => by
      rw [get_cons] at hk
      by_cases e : t = k
      · subst e; simp at hk; subst hk; exact ha.get _ _ ht
      · simp [e] at hk; exact ha.get _ _ hk⟩
  | false => exact h2 rfl a ⟨ha.size, ha.defers, fun k v hk => by
      rw [get_cons] at hk
      by_cases e : t = k
      · subst e; simp at hk; subst hk; exact ha.get _ _ ht
      · simp [e] at hk; exact ha.get _ _ hk⟩
/-- A slot's value under another spelling. -/
theorem RW.respell {t : Tmp} {u v : Value} (ht : get L t = some u) (e : u = v) (h : RW P n ops Q ((t, v) :: L) w rest) : RW P n ops Q L w rest := by
  intro a ha
  subst e
  exact h a ⟨ha.size, ha.defers, fun k v hk => by
      rw [get_cons] at hk
      by_cases e : t = k
      · subst e; simp at hk; subst hk; exact ha.get _ _ ht
      · simp [e] at hk; exact ha.get _ _ hk⟩
theorem RW.has {M : Env} (hm : Has L M) (h : RW P n ops Q M w rest) : RW P n ops Q L w rest := fun a ha => h a (ha.has hm)

/-- What an operation comes to, in this environment and this world. -/
def Yields (P : Program) (n : Nat) (L : Env) (w : World) (op : Op) (ty : TypeId) (v : Value) : Prop :=
  ∀ a, Fits n L a → ∀ d pos aft g, (execOp a.eval ⟨d, op, ty, pos, aft, g⟩).run P w = .ok (.value v) w

theorem RW.step {d : Option Tmp} {op : Op} {ty : TypeId} {pos : String} {aft : Array Edge} {v : Value} {w' : World}
    (hy : ∀ a, Fits n L a → (execOp a.eval ⟨d, op, ty, pos, aft, none⟩).run P w = .ok (.value v) w') (hd : dstOk n d = true)
    (h : RW P n ops Q (updo d v L) w' rest) : RW P n ops Q L w (⟨d, op, ty, pos, aft, none⟩ :: rest) := by
  intro a ha
  unfold wpList
  rw [if_pos (by simp [Region.wanted])]
  refine .inl ?_
  unfold Oper.wp
  rw [hy a ha]
  exact h _ (ha.put v hd)
theorem RW.stepSkip {d : Option Tmp} {op : Op} {ty : TypeId} {pos : String} {aft : Array Edge} {w' : World}
    (hy : ∀ a, Fits n L a → (execOp a.eval ⟨d, op, ty, pos, aft, none⟩).run P w = .ok .skip w') (hd : dstOk n d = true)
    (h : RW P n ops Q (updo d undef L) w' rest) : RW P n ops Q L w (⟨d, op, ty, pos, aft, none⟩ :: rest) := by
  intro a ha
  unfold wpList
  rw [if_pos (by simp [Region.wanted])]
  refine .inl ?_
  unfold Oper.wp
  rw [hy a ha]
  exact h _ (ha.put undef hd)
theorem RW.val {d : Option Tmp} {op : Op} {ty : TypeId} {pos : String} {aft : Array Edge} {v : Value}
    (hy : Yields P n L w op ty v) (hd : dstOk n d = true)
    (h : RW P n ops Q (updo d v L) w rest) : RW P n ops Q L w (⟨d, op, ty, pos, aft, none⟩ :: rest) :=
  RW.step (fun a ha => hy a ha _ _ _ _) hd h
end
end Go.Proofs.Ytdpkioffihebnaa
