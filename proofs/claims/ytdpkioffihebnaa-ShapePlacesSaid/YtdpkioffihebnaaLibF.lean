/-
  The program logic, sixth part: regions that draw their order. No statement is proved here.
-/
import Derived.Test.YtdpkioffihebnaaLibE
import Derived.Deep.Quiet
import Derived.StillTail
import Derived.KernelRfl
namespace Go.Proofs.Ytdpkioffihebnaa
open Go Go.RowKit

theorem Sees.weaken {w0 w : World} {h0 h h' : GHeap} {O : List Row} (hs : Sees w0 h0 h O w) {w' : World} (hs' : Sees w0 h0 h' O w') (hl : GLe h h') : Sees w0 h0 h O w' :=
  ⟨hs'.below, fun b cs hb => hs'.agree b cs (hl b cs hb), hs.le, hs.old, fun r hr => ⟨(hs'.own r hr).1, (hs.own r hr).2⟩, hs'.apart⟩

def QW (P : Program) (n : Nat) (ops : List Oper) (C : World → Prop) (K : Env → Prop) (L : Env) (rest : List Oper) : Prop :=
  ∀ a, Fits n L a → wpQuiet P ops.toArray C (fun a' => ∃ L', Fits n L' a' ∧ K L') rest a
def SW (P : Program) (n : Nat) (ops : List Oper) (w : World) (K : Env → Prop) (L : Env) (rest : List Oper) : Prop :=
  ∀ a, Fits n L a → wpStill P ops.toArray w (fun a' => ∃ L', Fits n L' a' ∧ K L') rest a

section
variable {P : Program} (T : Tab P) {n : Nat} {Q : Post} {L : Env} {w0 w : World} {h0 h : GHeap} {O : List Row} {ops rest : List Oper} {x y c : Operand} {t : TypeId}
variable {d : Option Tmp} {ty : TypeId} {pos : String} {aft : Array Edge} {C : World → Prop} {K : Env → Prop}

theorem CW.regionQ (T' : Tab P) (hs : Sees w0 h0 h O w) {id : Nat} {l : List Oper} (hq : QW P n l (Sees w0 h0 h O) (fun L' => ∀ w', Sees w0 h0 h O w' → Q .normal L' w') L l) (hB : Region.lexB .any l.toArray = true) : CW P n Q (.region id l.toArray true) L w := by
  intro a ha
  refine wp_region_quiet (C := Sees w0 h0 h O) T'.mixed hB hs.drew ?_
  have key : ∀ (r : List Oper) (a : Act), wpQuiet P l.toArray (Sees w0 h0 h O) (fun a' => ∃ L', Fits n L' a' ∧ ∀ w', Sees w0 h0 h O w' → Q .normal L' w') r a → wpQuiet P l.toArray (Sees w0 h0 h O) (fun a' => ∀ w', Sees w0 h0 h O w' → QL n Q .normal a' w') r a := by
    intro r
    induction r with
    | nil => intro a hh w' hw'; obtain ⟨L', h1, h2⟩ := hh; exact ⟨L', h1, h2 w' hw'⟩
    | cons o r ih =>
      intro a hh
      unfold wpQuiet at hh ⊢
      split
      · rename_i hw; rw [if_pos hw] at hh; exact Oper.quiet_mono (fun a => ih a) hh
      · rename_i hw; rw [if_neg hw] at hh; exact ih _ hh
  exact key _ a (by simpa using hq a ha)
theorem QW.nil (hk : K L) : QW P n ops C K L [] := fun _ ha => wpQuiet_nil ⟨L, ha, hk⟩
theorem QW.val {op : Op} {v : Value} (hy : ∀ w, C w → Yields P n L w op ty v) (hd : dstOk n d = true) (hh : QW P n ops C K (updo d v L) rest) : QW P n ops C K L (⟨d, op, ty, pos, aft, none⟩ :: rest) := by
  intro a ha
  unfold wpQuiet
  rw [if_pos (by simp [Region.wanted])]
  refine ⟨v, fun w hw => ?_, hh _ (ha.put v hd)⟩
  unfold Oper.quietAt
  rw [hy w hw a ha]
  exact ⟨rfl, rfl⟩
theorem QW.guardYes {op : Op} {j : Nat} {want : Bool} {t : Tmp} (hj : gdst ops j = some t) (ht : get L t = some (.bool want))
    (hh : QW P n ops C K L (⟨d, op, ty, pos, aft, none⟩ :: rest)) : QW P n ops C K L (⟨d, op, ty, pos, aft, some (j, want)⟩ :: rest) := by
  intro a ha
  have h' := hh a ha
  unfold wpQuiet at h' ⊢
  rw [if_pos (by simp [Region.wanted])] at h'
  rw [if_pos (by simp [Region.wanted, yielded_of ha hj ht])]
  exact h'
theorem QW.guardNo {op : Op} {j : Nat} {want b : Bool} {t : Tmp} (hj : gdst ops j = some t) (ht : get L t = some (.bool b)) (hb : (b == want) = false)
    (hd : dstOk n d = true) (hh : QW P n ops C K (updo d undef L) rest) : QW P n ops C K L (⟨d, op, ty, pos, aft, some (j, want)⟩ :: rest) := by
  intro a ha
  unfold wpQuiet
  rw [if_neg (by simp [Region.wanted, yielded_of ha hj ht]; simpa using hb)]
  exact hh _ (ha.put undef hd)
theorem QW.guardUndef {op : Op} {j : Nat} {want : Bool} {t : Tmp} (hj : gdst ops j = some t) (ht : get L t = some undef)
    (hd : dstOk n d = true) (hh : QW P n ops C K (updo d undef L) rest) : QW P n ops C K L (⟨d, op, ty, pos, aft, some (j, want)⟩ :: rest) := by
  intro a ha
  unfold wpQuiet
  rw [if_neg (by simp [Region.wanted, yielded_undef ha hj ht])]
  exact hh _ (ha.put undef hd)
theorem QW.split {t : Tmp} {b : Bool} (ht : get L t = some (.bool b)) (h1 : b = true → QW P n ops C K ((t, .bool true) :: L) rest) (h2 : b = false → QW P n ops C K ((t, .bool false) :: L) rest) : QW P n ops C K L rest := by
  intro a ha
  cases b with
  | true => exact h1 rfl a ⟨ha.size, ha.defers, fun k v hk => by
      rw [get_cons] at hk
      by_cases e : t = k
      · subst e; simp at hk; subst hk; exact ha.get _ _ ht
      · simp [e] at hk; exact ha.get _ _ hk⟩
  | false => exact h2 rfl a ⟨ha.size, ha.defers, fun k v hk => by
      rw [get_cons] at hk
      by_cases e : t = k
      · subst e; simp at hk; subst hk; exact ha.get _ _ ht
      · simp [e] at hk; exact ha.get _ _ hk⟩
theorem QW.gd {op : Op} {j : Nat} {want : Bool} {p : Prop} [Decidable p] {u : Tmp} (_hj : gdst ops j = some u) (ht : get L u = some (.bool (decide p)))
    (h1 : p → QW P n ops C K ((u, .bool true) :: L) (⟨d, op, ty, pos, aft, some (j, want)⟩ :: rest)) (h2 : ¬ p → QW P n ops C K ((u, .bool false) :: L) (⟨d, op, ty, pos, aft, some (j, want)⟩ :: rest)) :
    QW P n ops C K L (⟨d, op, ty, pos, aft, some (j, want)⟩ :: rest) :=
  QW.split ht (fun e => h1 (of_decide_eq_true e)) (fun e => h2 (of_decide_eq_false e))
theorem QW.gdY {op : Op} {j : Nat} {want : Bool} {p : Prop} [Decidable p] {u : Tmp} (hj : gdst ops j = some u) (ht : get L u = some (.bool (decide p))) (hp : p)
    (h1 : QW P n ops C K ((u, .bool true) :: L) (⟨d, op, ty, pos, aft, some (j, want)⟩ :: rest)) : QW P n ops C K L (⟨d, op, ty, pos, aft, some (j, want)⟩ :: rest) :=
  QW.gd hj ht (fun _ => h1) (fun hn => absurd hp hn)
theorem QW.gdN {op : Op} {j : Nat} {want : Bool} {p : Prop} [Decidable p] {u : Tmp} (hj : gdst ops j = some u) (ht : get L u = some (.bool (decide p))) (hp : ¬ p)
    (h1 : QW P n ops C K ((u, .bool false) :: L) (⟨d, op, ty, pos, aft, some (j, want)⟩ :: rest)) : QW P n ops C K L (⟨d, op, ty, pos, aft, some (j, want)⟩ :: rest) :=
  QW.gd hj ht (fun h => absurd h hp) (fun _ => h1)
/-- a call whose value hangs on nothing that the order may turn -/
theorem QW.call (_hs : Sees w0 h0 h O w) {f : FuncId} {l : List Operand} {vs : List Value} (hargs : opvs L l = some vs) (hf : T.call f = true) (hd : dstOk n d = true) {ats : Array TypeId} {v : Value} (hc : ∀ w, Con P f vs w h (fun _ u => u = v))
    (hk : QW P n ops (Sees w0 h0 h O) K (updo d v L) rest) :
    QW P n ops (Sees w0 h0 h O) K L (⟨d, .call ⟨.value (.func f), l.toArray, ats⟩, ty, pos, aft, none⟩ :: rest) := by
  intro a ha
  unfold wpQuiet
  rw [if_pos (by simp [Region.wanted])]
  refine ⟨v, fun w1 hs => ?_, hk _ (ha.put v hd)⟩
  obtain ⟨fn, hfn, hname, hbody⟩ := T.call_ok f hf
  have hrun : (execOp a.eval ⟨d, .call ⟨.value (.func f), l.toArray, ats⟩, ty, pos, aft, none⟩).run P w1 = .ok (.enter f vs.toArray) w1 := by
    have hargs' : l.map a.eval = vs := ha.evals hargs
    have hname' : ¬ fn.name = "runtime.NumGoroutine" := by simpa using hname
    have hbody' : ¬ fn.body = none := fun e => by rw [e] at hbody; simp at hbody
    have hcl : a.eval (.func f) = .func (.func f) #[] #[] := rfl
    simp [execOp, resolve, Deferred.ofValue, hcl, invoke, callFunc, hfn, hname', hbody', ← hargs']
  unfold Oper.quietAt
  rw [hrun]
  refine ⟨rfl, (hc w1 hs.agree).mono ?_⟩
  rintro e w' ⟨u, h', rfl, hs', rfl⟩
  exact ⟨rfl, hs.weaken (hs.call hs') hs'.le⟩

theorem CW.regionT (T' : Tab P) (m : Nat) (hs : Sees w0 h0 h O w) {id : Nat} {l : List Oper} (hq : ∀ w, Sees w0 h0 h O w → SW P n l w (fun L' => RW P n l Q L' w (l.drop m)) L (l.take m)) (hB : Region.lexTailB .any l.toArray m = true) : CW P n Q (.region id l.toArray true) L w := by
  intro a ha
  refine wp_region_still_tail m T'.mixed hB ?_
  have key : ∀ (r : List Oper) (a : Act), wpStill P l.toArray { w with drawn := w.drawn + 1 } (fun a' => ∃ L', Fits n L' a' ∧ RW P n l Q L' { w with drawn := w.drawn + 1 } (l.drop m)) r a → wpStill P l.toArray { w with drawn := w.drawn + 1 } (fun a' => wpList P l.toArray (QL n Q) (l.drop m) a' { w with drawn := w.drawn + 1 }) r a := by
    intro r
    induction r with
    | nil => intro a hh; obtain ⟨L', h1, h2⟩ := hh; exact h2 a h1
    | cons o r ih =>
      intro a hh
      unfold wpStill at hh ⊢
      split
      · rename_i hw
        rw [if_pos hw] at hh
        unfold Oper.still at hh ⊢
        generalize (execOp a.eval o).run P { w with drawn := w.drawn + 1 } = res at hh ⊢
        cases res with
        | halt => exact hh
        | ok nx w' =>
          cases nx <;> first
            | exact hh
            | exact ⟨hh.1, ih _ hh.2⟩
            | (obtain ⟨e, v, h1, h2⟩ := hh; exact ⟨e, v, h1, ih _ h2⟩)
      · rename_i hw; rw [if_neg hw] at hh; exact ih _ hh
  exact key _ a (hq _ hs.drew a ha)
theorem SW.nil (hk : K L) : SW P n ops w K L [] := fun _ ha => wpStill_nil ⟨L, ha, hk⟩
theorem SW.val {op : Op} {v : Value} (hy : Yields P n L w op ty v) (hd : dstOk n d = true) (hh : SW P n ops w K (updo d v L) rest) : SW P n ops w K L (⟨d, op, ty, pos, aft, none⟩ :: rest) := by
  intro a ha
  unfold wpStill
  rw [if_pos (by simp [Region.wanted])]
  unfold Oper.still
  rw [hy a ha]
  exact ⟨rfl, hh _ (ha.put v hd)⟩
theorem SW.guardYes {op : Op} {j : Nat} {want : Bool} {t : Tmp} (hj : gdst ops j = some t) (ht : get L t = some (.bool want))
    (hh : SW P n ops w K L (⟨d, op, ty, pos, aft, none⟩ :: rest)) : SW P n ops w K L (⟨d, op, ty, pos, aft, some (j, want)⟩ :: rest) := by
  intro a ha
  have h' := hh a ha
  unfold wpStill at h' ⊢
  rw [if_pos (by simp [Region.wanted])] at h'
  rw [if_pos (by simp [Region.wanted, yielded_of ha hj ht])]
  exact h'
theorem SW.guardNo {op : Op} {j : Nat} {want b : Bool} {t : Tmp} (hj : gdst ops j = some t) (ht : get L t = some (.bool b)) (hb : (b == want) = false)
    (hd : dstOk n d = true) (hh : SW P n ops w K (updo d undef L) rest) : SW P n ops w K L (⟨d, op, ty, pos, aft, some (j, want)⟩ :: rest) := by
  intro a ha
  unfold wpStill
  rw [if_neg (by simp [Region.wanted, yielded_of ha hj ht]; simpa using hb)]
  exact hh _ (ha.put undef hd)
end
end Go.Proofs.Ytdpkioffihebnaa
