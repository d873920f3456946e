/-
  Contracts of functions of package shape and of its reference, fourth part: new shapes. No statement is proved here.
-/
import Derived.Test.YtdpkioffihebnaaLibI
import Derived.Test.YtdpkioffihebnaaFc
namespace Go.Proofs.Ytdpkioffihebnaa
open Go Go.RowKit
attribute [local irreducible] CW RW QW SW HW ConM retM heldQ calmQ elemP thenQ blockQ loopQ joinQ retQ Yields Con Sl

/-- a clone of a slice of int: the caller's own -/
theorem cloneInt_conM (ad : Option Addr) (cp : Nat) (l : List Int) (w0 w : World) (h0 h : GHeap) (O : List Row) (hS : Sl h 1 ad l.length cp (l.map (Value.int .i64))) (hm : l.length ≤ 17592186044416) :
    ConM Try.prog 112 [.slice ad l.length cp] w0 h0 h O w (fun h' O' v => h' = h ∧ ∃ ad' cp', v = .slice ad' l.length cp' ∧ O' = ⟨ad', l.length, cp', 3, 1, l.map (Value.int .i64)⟩ :: O) := by
  refine ConM.of_body Try.func112 rfl Try.ntmps112 rfl rfl ?_
  intro hs
  repeat
    first
    | (with_reducible refine RW.isRW ?_; first
        | refine RW.val (Y.move rfl) rfl ?_
        | refine RW.val (Y.assign rfl) rfl ?_
        | (with_reducible refine RW.isGuard ?_; first
            | refine RW.guardYes rfl rfl ?_
            | refine RW.guardNo rfl rfl rfl rfl ?_
            | refine RW.guardUndef rfl rfl rfl ?_
            | (refine RW.gdY rfl rfl ?_ ?_; omega)
            | (refine RW.gdN rfl rfl ?_ ?_; omega))
        | (with_reducible refine RW.isBin ?_; first
            | refine RW.val (Y.lss rfl rfl) rfl ?_
            | (refine RW.val (Y.add rfl rfl ?_) rfl ?_; omega)
            | refine RW.val (Y.eql rfl rfl) rfl ?_
            | refine RW.val (Y.neq rfl rfl) rfl ?_
            | refine RW.val (Y.gtr rfl rfl) rfl ?_
            | refine RW.val (Y.geq rfl rfl) rfl ?_
            | refine RW.val (Y.leq rfl rfl) rfl ?_
            | (refine RW.val (Y.sub rfl rfl ?_) rfl ?_; omega)
            | (refine RW.val (Y.quo rfl rfl ?_ ?_) rfl ?_; omega; omega)
            | (refine RW.val (Y.rem rfl rfl ?_ ?_) rfl ?_; omega; omega))
        | (with_reducible refine RW.isLoad ?_; first
            | (refine RW.val (Y.ldInt T hs rfl (by assumption) rfl rfl ?_) rfl ?_; omega)
            | (refine RW.val (Y.ldS T hs rfl (by assumption) rfl rfl ?_ (by assumption)) rfl ?_; omega))
        | (with_reducible refine RW.isIdx ?_; first
            | (refine RW.val (Y.idxSN T rfl rfl (by assumption) rfl rfl rfl ?_) rfl ?_; omega)
            | (refine RW.val (Y.idxS T rfl rfl (by assumption) rfl rfl rfl ?_) rfl ?_; omega))
        | (with_reducible refine RW.isCall ?_; first
            | refine RW.val (Y.len T rfl rfl) rfl ?_
            | refine RW.val (Y.max2 rfl rfl) rfl ?_
            | refine RW.val (Y.min2 rfl rfl) rfl ?_)
        | refine RW.val (Y.extract rfl rfl) rfl ?_
        | (with_reducible refine RW.isUn ?_; first
            | refine RW.val (Y.notD rfl) rfl ?_
            | refine RW.val (Y.not rfl) rfl ?_)
        | (with_reducible refine RW.isPick ?_; first
            | refine RW.val (Y.pickT rfl rfl) rfl ?_
            | refine RW.val (Y.pickF rfl rfl) rfl ?_)
        | with_reducible refine RW.nil ?_)
    | (with_reducible refine CW.isCW ?_; first
        | with_reducible refine CW.seq ?_
        | with_reducible refine CW.region ?_
        | with_reducible refine CW.block ?_
        | with_reducible refine CW.ret ?_
        | with_reducible refine CW.skip ?_
        | with_reducible refine CW.exit ?_
        | refine CW.condT rfl ?_
        | refine CW.condF rfl ?_
        | (refine CW.condY rfl ?_ ?_; omega)
        | (refine CW.condN rfl ?_ ?_; omega))
    | with_reducible refine thenQ_normal ?_
    | with_reducible refine thenQ_ret ?_
    | with_reducible refine thenQ_exit ?_
    | with_reducible refine blockQ_normal ?_
    | with_reducible refine blockQ_ret ?_
    | with_reducible refine loopQ_ret ?_
    | with_reducible refine loopQ_exit ?_
    | with_reducible refine joinQ_ret ?_
    | with_reducible refine joinQ_exit ?_
    | refine blockQ_exit rfl ?_
    | refine blockQ_past rfl ?_
  refine RW.val (Y.sliceNil T rfl rfl rfl) rfl ?_
  repeat
    first
    | (with_reducible refine RW.isRW ?_; first
        | refine RW.val (Y.move rfl) rfl ?_
        | refine RW.val (Y.assign rfl) rfl ?_
        | (with_reducible refine RW.isGuard ?_; first
            | refine RW.guardYes rfl rfl ?_
            | refine RW.guardNo rfl rfl rfl rfl ?_
            | refine RW.guardUndef rfl rfl rfl ?_
            | (refine RW.gdY rfl rfl ?_ ?_; omega)
            | (refine RW.gdN rfl rfl ?_ ?_; omega))
        | (with_reducible refine RW.isBin ?_; first
            | refine RW.val (Y.lss rfl rfl) rfl ?_
            | (refine RW.val (Y.add rfl rfl ?_) rfl ?_; omega)
            | refine RW.val (Y.eql rfl rfl) rfl ?_
            | refine RW.val (Y.neq rfl rfl) rfl ?_
            | refine RW.val (Y.gtr rfl rfl) rfl ?_
            | refine RW.val (Y.geq rfl rfl) rfl ?_
            | refine RW.val (Y.leq rfl rfl) rfl ?_
            | (refine RW.val (Y.sub rfl rfl ?_) rfl ?_; omega)
            | (refine RW.val (Y.quo rfl rfl ?_ ?_) rfl ?_; omega; omega)
            | (refine RW.val (Y.rem rfl rfl ?_ ?_) rfl ?_; omega; omega))
        | (with_reducible refine RW.isLoad ?_; first
            | (refine RW.val (Y.ldInt T hs rfl (by assumption) rfl rfl ?_) rfl ?_; omega)
            | (refine RW.val (Y.ldS T hs rfl (by assumption) rfl rfl ?_ (by assumption)) rfl ?_; omega))
        | (with_reducible refine RW.isIdx ?_; first
            | (refine RW.val (Y.idxSN T rfl rfl (by assumption) rfl rfl rfl ?_) rfl ?_; omega)
            | (refine RW.val (Y.idxS T rfl rfl (by assumption) rfl rfl rfl ?_) rfl ?_; omega))
        | (with_reducible refine RW.isCall ?_; first
            | refine RW.val (Y.len T rfl rfl) rfl ?_
            | refine RW.val (Y.max2 rfl rfl) rfl ?_
            | refine RW.val (Y.min2 rfl rfl) rfl ?_)
        | refine RW.val (Y.extract rfl rfl) rfl ?_
        | (with_reducible refine RW.isUn ?_; first
            | refine RW.val (Y.notD rfl) rfl ?_
            | refine RW.val (Y.not rfl) rfl ?_)
        | (with_reducible refine RW.isPick ?_; first
            | refine RW.val (Y.pickT rfl rfl) rfl ?_
            | refine RW.val (Y.pickF rfl rfl) rfl ?_)
        | with_reducible refine RW.nil ?_)
    | (with_reducible refine CW.isCW ?_; first
        | with_reducible refine CW.seq ?_
        | with_reducible refine CW.region ?_
        | with_reducible refine CW.block ?_
        | with_reducible refine CW.ret ?_
        | with_reducible refine CW.skip ?_
        | with_reducible refine CW.exit ?_
        | refine CW.condT rfl ?_
        | refine CW.condF rfl ?_
        | (refine CW.condY rfl ?_ ?_; omega)
        | (refine CW.condN rfl ?_ ?_; omega))
    | with_reducible refine thenQ_normal ?_
    | with_reducible refine thenQ_ret ?_
    | with_reducible refine thenQ_exit ?_
    | with_reducible refine blockQ_normal ?_
    | with_reducible refine blockQ_ret ?_
    | with_reducible refine loopQ_ret ?_
    | with_reducible refine loopQ_exit ?_
    | with_reducible refine joinQ_ret ?_
    | with_reducible refine joinQ_exit ?_
    | refine blockQ_exit rfl ?_
    | refine blockQ_past rfl ?_
  cases ad with
  | none =>
    have h4 : l = [] := List.eq_nil_of_length_eq_zero hS.nil0.1
    subst h4
    repeat
      first
      | (with_reducible refine RW.isRW ?_; first
          | refine RW.val (Y.move rfl) rfl ?_
          | refine RW.val (Y.assign rfl) rfl ?_
          | (with_reducible refine RW.isGuard ?_; first
              | refine RW.guardYes rfl rfl ?_
              | refine RW.guardNo rfl rfl rfl rfl ?_
              | refine RW.guardUndef rfl rfl rfl ?_
              | (refine RW.gdY rfl rfl ?_ ?_; omega)
              | (refine RW.gdN rfl rfl ?_ ?_; omega))
          | (with_reducible refine RW.isBin ?_; first
              | refine RW.val (Y.lss rfl rfl) rfl ?_
              | (refine RW.val (Y.add rfl rfl ?_) rfl ?_; omega)
              | refine RW.val (Y.eql rfl rfl) rfl ?_
              | refine RW.val (Y.neq rfl rfl) rfl ?_
              | refine RW.val (Y.gtr rfl rfl) rfl ?_
              | refine RW.val (Y.geq rfl rfl) rfl ?_
              | refine RW.val (Y.leq rfl rfl) rfl ?_
              | (refine RW.val (Y.sub rfl rfl ?_) rfl ?_; omega)
              | (refine RW.val (Y.quo rfl rfl ?_ ?_) rfl ?_; omega; omega)
              | (refine RW.val (Y.rem rfl rfl ?_ ?_) rfl ?_; omega; omega))
          | (with_reducible refine RW.isLoad ?_; first
              | (refine RW.val (Y.ldInt T hs rfl (by assumption) rfl rfl ?_) rfl ?_; omega)
              | (refine RW.val (Y.ldS T hs rfl (by assumption) rfl rfl ?_ (by assumption)) rfl ?_; omega))
          | (with_reducible refine RW.isIdx ?_; first
              | (refine RW.val (Y.idxSN T rfl rfl (by assumption) rfl rfl rfl ?_) rfl ?_; omega)
              | (refine RW.val (Y.idxS T rfl rfl (by assumption) rfl rfl rfl ?_) rfl ?_; omega))
          | (with_reducible refine RW.isCall ?_; first
              | refine RW.val (Y.len T rfl rfl) rfl ?_
              | refine RW.val (Y.max2 rfl rfl) rfl ?_
              | refine RW.val (Y.min2 rfl rfl) rfl ?_)
          | refine RW.val (Y.extract rfl rfl) rfl ?_
          | (with_reducible refine RW.isUn ?_; first
              | refine RW.val (Y.notD rfl) rfl ?_
              | refine RW.val (Y.not rfl) rfl ?_)
          | (with_reducible refine RW.isPick ?_; first
              | refine RW.val (Y.pickT rfl rfl) rfl ?_
              | refine RW.val (Y.pickF rfl rfl) rfl ?_)
          | with_reducible refine RW.nil ?_)
      | (with_reducible refine CW.isCW ?_; first
          | with_reducible refine CW.seq ?_
          | with_reducible refine CW.region ?_
          | with_reducible refine CW.block ?_
          | with_reducible refine CW.ret ?_
          | with_reducible refine CW.skip ?_
          | with_reducible refine CW.exit ?_
          | refine CW.condT rfl ?_
          | refine CW.condF rfl ?_
          | (refine CW.condY rfl ?_ ?_; omega)
          | (refine CW.condN rfl ?_ ?_; omega))
      | with_reducible refine thenQ_normal ?_
      | with_reducible refine thenQ_ret ?_
      | with_reducible refine thenQ_exit ?_
      | with_reducible refine blockQ_normal ?_
      | with_reducible refine blockQ_ret ?_
      | with_reducible refine loopQ_ret ?_
      | with_reducible refine loopQ_exit ?_
      | with_reducible refine joinQ_ret ?_
      | with_reducible refine joinQ_exit ?_
      | refine blockQ_exit rfl ?_
      | refine blockQ_past rfl ?_
    exact retM_ret [_] h _ ⟨rfl, trivial⟩ (GLe.refl _) (hs.nilRow 3 1) ⟨rfl, none, 0, rfl, rfl⟩
  | some p =>
    repeat
      first
      | (with_reducible refine RW.isRW ?_; first
          | refine RW.val (Y.move rfl) rfl ?_
          | refine RW.val (Y.assign rfl) rfl ?_
          | (with_reducible refine RW.isGuard ?_; first
              | refine RW.guardYes rfl rfl ?_
              | refine RW.guardNo rfl rfl rfl rfl ?_
              | refine RW.guardUndef rfl rfl rfl ?_
              | (refine RW.gdY rfl rfl ?_ ?_; omega)
              | (refine RW.gdN rfl rfl ?_ ?_; omega))
          | (with_reducible refine RW.isBin ?_; first
              | refine RW.val (Y.lss rfl rfl) rfl ?_
              | (refine RW.val (Y.add rfl rfl ?_) rfl ?_; omega)
              | refine RW.val (Y.eql rfl rfl) rfl ?_
              | refine RW.val (Y.neq rfl rfl) rfl ?_
              | refine RW.val (Y.gtr rfl rfl) rfl ?_
              | refine RW.val (Y.geq rfl rfl) rfl ?_
              | refine RW.val (Y.leq rfl rfl) rfl ?_
              | (refine RW.val (Y.sub rfl rfl ?_) rfl ?_; omega)
              | (refine RW.val (Y.quo rfl rfl ?_ ?_) rfl ?_; omega; omega)
              | (refine RW.val (Y.rem rfl rfl ?_ ?_) rfl ?_; omega; omega))
          | (with_reducible refine RW.isLoad ?_; first
              | (refine RW.val (Y.ldInt T hs rfl (by assumption) rfl rfl ?_) rfl ?_; omega)
              | (refine RW.val (Y.ldS T hs rfl (by assumption) rfl rfl ?_ (by assumption)) rfl ?_; omega))
          | (with_reducible refine RW.isIdx ?_; first
              | (refine RW.val (Y.idxSN T rfl rfl (by assumption) rfl rfl rfl ?_) rfl ?_; omega)
              | (refine RW.val (Y.idxS T rfl rfl (by assumption) rfl rfl rfl ?_) rfl ?_; omega))
          | (with_reducible refine RW.isCall ?_; first
              | refine RW.val (Y.len T rfl rfl) rfl ?_
              | refine RW.val (Y.max2 rfl rfl) rfl ?_
              | refine RW.val (Y.min2 rfl rfl) rfl ?_)
          | refine RW.val (Y.extract rfl rfl) rfl ?_
          | (with_reducible refine RW.isUn ?_; first
              | refine RW.val (Y.notD rfl) rfl ?_
              | refine RW.val (Y.not rfl) rfl ?_)
          | (with_reducible refine RW.isPick ?_; first
              | refine RW.val (Y.pickT rfl rfl) rfl ?_
              | refine RW.val (Y.pickF rfl rfl) rfl ?_)
          | with_reducible refine RW.nil ?_)
      | (with_reducible refine CW.isCW ?_; first
          | with_reducible refine CW.seq ?_
          | with_reducible refine CW.region ?_
          | with_reducible refine CW.block ?_
          | with_reducible refine CW.ret ?_
          | with_reducible refine CW.skip ?_
          | with_reducible refine CW.exit ?_
          | refine CW.condT rfl ?_
          | refine CW.condF rfl ?_
          | (refine CW.condY rfl ?_ ?_; omega)
          | (refine CW.condN rfl ?_ ?_; omega))
      | with_reducible refine thenQ_normal ?_
      | with_reducible refine thenQ_ret ?_
      | with_reducible refine thenQ_exit ?_
      | with_reducible refine blockQ_normal ?_
      | with_reducible refine blockQ_ret ?_
      | with_reducible refine loopQ_ret ?_
      | with_reducible refine loopQ_exit ?_
      | with_reducible refine joinQ_ret ?_
      | with_reducible refine joinQ_exit ?_
      | refine blockQ_exit rfl ?_
      | refine blockQ_past rfl ?_
    (refine RW.lit T hs (vs := []) rfl rfl rfl rfl (by simp [Value.cells]) rfl rfl rfl rfl rfl ?_; intro b1 w1 hs)
    repeat
      first
      | (with_reducible refine RW.isRW ?_; first
          | refine RW.val (Y.move rfl) rfl ?_
          | refine RW.val (Y.assign rfl) rfl ?_
          | (with_reducible refine RW.isGuard ?_; first
              | refine RW.guardYes rfl rfl ?_
              | refine RW.guardNo rfl rfl rfl rfl ?_
              | refine RW.guardUndef rfl rfl rfl ?_
              | (refine RW.gdY rfl rfl ?_ ?_; omega)
              | (refine RW.gdN rfl rfl ?_ ?_; omega))
          | (with_reducible refine RW.isBin ?_; first
              | refine RW.val (Y.lss rfl rfl) rfl ?_
              | (refine RW.val (Y.add rfl rfl ?_) rfl ?_; omega)
              | refine RW.val (Y.eql rfl rfl) rfl ?_
              | refine RW.val (Y.neq rfl rfl) rfl ?_
              | refine RW.val (Y.gtr rfl rfl) rfl ?_
              | refine RW.val (Y.geq rfl rfl) rfl ?_
              | refine RW.val (Y.leq rfl rfl) rfl ?_
              | (refine RW.val (Y.sub rfl rfl ?_) rfl ?_; omega)
              | (refine RW.val (Y.quo rfl rfl ?_ ?_) rfl ?_; omega; omega)
              | (refine RW.val (Y.rem rfl rfl ?_ ?_) rfl ?_; omega; omega))
          | (with_reducible refine RW.isLoad ?_; first
              | (refine RW.val (Y.ldInt T hs rfl (by assumption) rfl rfl ?_) rfl ?_; omega)
              | (refine RW.val (Y.ldS T hs rfl (by assumption) rfl rfl ?_ (by assumption)) rfl ?_; omega))
          | (with_reducible refine RW.isIdx ?_; first
              | (refine RW.val (Y.idxSN T rfl rfl (by assumption) rfl rfl rfl ?_) rfl ?_; omega)
              | (refine RW.val (Y.idxS T rfl rfl (by assumption) rfl rfl rfl ?_) rfl ?_; omega))
          | (with_reducible refine RW.isCall ?_; first
              | refine RW.val (Y.len T rfl rfl) rfl ?_
              | refine RW.val (Y.max2 rfl rfl) rfl ?_
              | refine RW.val (Y.min2 rfl rfl) rfl ?_)
          | refine RW.val (Y.extract rfl rfl) rfl ?_
          | (with_reducible refine RW.isUn ?_; first
              | refine RW.val (Y.notD rfl) rfl ?_
              | refine RW.val (Y.not rfl) rfl ?_)
          | (with_reducible refine RW.isPick ?_; first
              | refine RW.val (Y.pickT rfl rfl) rfl ?_
              | refine RW.val (Y.pickF rfl rfl) rfl ?_)
          | with_reducible refine RW.nil ?_)
      | (with_reducible refine CW.isCW ?_; first
          | with_reducible refine CW.seq ?_
          | with_reducible refine CW.region ?_
          | with_reducible refine CW.block ?_
          | with_reducible refine CW.ret ?_
          | with_reducible refine CW.skip ?_
          | with_reducible refine CW.exit ?_
          | refine CW.condT rfl ?_
          | refine CW.condF rfl ?_
          | (refine CW.condY rfl ?_ ?_; omega)
          | (refine CW.condN rfl ?_ ?_; omega))
      | with_reducible refine thenQ_normal ?_
      | with_reducible refine thenQ_ret ?_
      | with_reducible refine thenQ_exit ?_
      | with_reducible refine blockQ_normal ?_
      | with_reducible refine blockQ_ret ?_
      | with_reducible refine loopQ_ret ?_
      | with_reducible refine loopQ_exit ?_
      | with_reducible refine joinQ_ret ?_
      | with_reducible refine joinQ_exit ?_
      | refine blockQ_exit rfl ?_
      | refine blockQ_past rfl ?_
    refine RW.append T hs 0 rfl rfl (m := l.length) (news := l.map (Value.int .i64)) rfl rfl rfl rfl rfl rfl (hS.src hs.agree (one_ints _ _)) (by simp) (by dsimp only; omega) (by omega) ?_
    intro ad' cp' w2 hs
    repeat
      first
      | (with_reducible refine RW.isRW ?_; first
          | refine RW.val (Y.move rfl) rfl ?_
          | refine RW.val (Y.assign rfl) rfl ?_
          | (with_reducible refine RW.isGuard ?_; first
              | refine RW.guardYes rfl rfl ?_
              | refine RW.guardNo rfl rfl rfl rfl ?_
              | refine RW.guardUndef rfl rfl rfl ?_
              | (refine RW.gdY rfl rfl ?_ ?_; omega)
              | (refine RW.gdN rfl rfl ?_ ?_; omega))
          | (with_reducible refine RW.isBin ?_; first
              | refine RW.val (Y.lss rfl rfl) rfl ?_
              | (refine RW.val (Y.add rfl rfl ?_) rfl ?_; omega)
              | refine RW.val (Y.eql rfl rfl) rfl ?_
              | refine RW.val (Y.neq rfl rfl) rfl ?_
              | refine RW.val (Y.gtr rfl rfl) rfl ?_
              | refine RW.val (Y.geq rfl rfl) rfl ?_
              | refine RW.val (Y.leq rfl rfl) rfl ?_
              | (refine RW.val (Y.sub rfl rfl ?_) rfl ?_; omega)
              | (refine RW.val (Y.quo rfl rfl ?_ ?_) rfl ?_; omega; omega)
              | (refine RW.val (Y.rem rfl rfl ?_ ?_) rfl ?_; omega; omega))
          | (with_reducible refine RW.isLoad ?_; first
              | (refine RW.val (Y.ldInt T hs rfl (by assumption) rfl rfl ?_) rfl ?_; omega)
              | (refine RW.val (Y.ldS T hs rfl (by assumption) rfl rfl ?_ (by assumption)) rfl ?_; omega))
          | (with_reducible refine RW.isIdx ?_; first
              | (refine RW.val (Y.idxSN T rfl rfl (by assumption) rfl rfl rfl ?_) rfl ?_; omega)
              | (refine RW.val (Y.idxS T rfl rfl (by assumption) rfl rfl rfl ?_) rfl ?_; omega))
          | (with_reducible refine RW.isCall ?_; first
              | refine RW.val (Y.len T rfl rfl) rfl ?_
              | refine RW.val (Y.max2 rfl rfl) rfl ?_
              | refine RW.val (Y.min2 rfl rfl) rfl ?_)
          | refine RW.val (Y.extract rfl rfl) rfl ?_
          | (with_reducible refine RW.isUn ?_; first
              | refine RW.val (Y.notD rfl) rfl ?_
              | refine RW.val (Y.not rfl) rfl ?_)
          | (with_reducible refine RW.isPick ?_; first
              | refine RW.val (Y.pickT rfl rfl) rfl ?_
              | refine RW.val (Y.pickF rfl rfl) rfl ?_)
          | with_reducible refine RW.nil ?_)
      | (with_reducible refine CW.isCW ?_; first
          | with_reducible refine CW.seq ?_
          | with_reducible refine CW.region ?_
          | with_reducible refine CW.block ?_
          | with_reducible refine CW.ret ?_
          | with_reducible refine CW.skip ?_
          | with_reducible refine CW.exit ?_
          | refine CW.condT rfl ?_
          | refine CW.condF rfl ?_
          | (refine CW.condY rfl ?_ ?_; omega)
          | (refine CW.condN rfl ?_ ?_; omega))
      | with_reducible refine thenQ_normal ?_
      | with_reducible refine thenQ_ret ?_
      | with_reducible refine thenQ_exit ?_
      | with_reducible refine blockQ_normal ?_
      | with_reducible refine blockQ_ret ?_
      | with_reducible refine loopQ_ret ?_
      | with_reducible refine loopQ_exit ?_
      | with_reducible refine joinQ_ret ?_
      | with_reducible refine joinQ_exit ?_
      | refine blockQ_exit rfl ?_
      | refine blockQ_past rfl ?_
    exact retM_ret [_] h _ ⟨rfl, trivial⟩ (GLe.refl _) hs ⟨rfl, ad', cp', by rw [Nat.zero_add]; rfl, by simp⟩

theorem equalInt_con (s t : Value) (l m : List Int) (w : World) (h : GHeap) (hl : IntsAt h s l) (ht : IntsAt h t m) (hm : l.length ≤ 9223372036854775807) : Con Try.prog 114 [s, t] w h (fun _ v => v = .bool (decide (l = m))) := by
  obtain ⟨ad, cp, rfl, hS⟩ := hl
  obtain ⟨ad2, cp2, rfl, hS2⟩ := ht
  refine Con.of_body Try.func114 rfl Try.ntmps114 rfl rfl ?_
  intro hs
  repeat
    first
    | (with_reducible refine RW.isRW ?_; first
        | refine RW.val (Y.move rfl) rfl ?_
        | refine RW.val (Y.assign rfl) rfl ?_
        | (with_reducible refine RW.isGuard ?_; first
            | refine RW.guardYes rfl rfl ?_
            | refine RW.guardNo rfl rfl rfl rfl ?_
            | refine RW.guardUndef rfl rfl rfl ?_
            | (refine RW.gdY rfl rfl ?_ ?_; omega)
            | (refine RW.gdN rfl rfl ?_ ?_; omega))
        | (with_reducible refine RW.isBin ?_; first
            | refine RW.val (Y.lss rfl rfl) rfl ?_
            | (refine RW.val (Y.add rfl rfl ?_) rfl ?_; omega)
            | refine RW.val (Y.eql rfl rfl) rfl ?_
            | refine RW.val (Y.neq rfl rfl) rfl ?_
            | refine RW.val (Y.gtr rfl rfl) rfl ?_
            | refine RW.val (Y.geq rfl rfl) rfl ?_
            | refine RW.val (Y.leq rfl rfl) rfl ?_
            | (refine RW.val (Y.sub rfl rfl ?_) rfl ?_; omega)
            | (refine RW.val (Y.quo rfl rfl ?_ ?_) rfl ?_; omega; omega)
            | (refine RW.val (Y.rem rfl rfl ?_ ?_) rfl ?_; omega; omega))
        | (with_reducible refine RW.isLoad ?_; first
            | (refine RW.val (Y.ldInt T hs rfl (by assumption) rfl rfl ?_) rfl ?_; omega)
            | (refine RW.val (Y.ldS T hs rfl (by assumption) rfl rfl ?_ (by assumption)) rfl ?_; omega))
        | (with_reducible refine RW.isIdx ?_; first
            | (refine RW.val (Y.idxSN T rfl rfl (by assumption) rfl rfl rfl ?_) rfl ?_; omega)
            | (refine RW.val (Y.idxS T rfl rfl (by assumption) rfl rfl rfl ?_) rfl ?_; omega))
        | (with_reducible refine RW.isCall ?_; first
            | refine RW.val (Y.len T rfl rfl) rfl ?_
            | refine RW.val (Y.max2 rfl rfl) rfl ?_
            | refine RW.val (Y.min2 rfl rfl) rfl ?_)
        | refine RW.val (Y.extract rfl rfl) rfl ?_
        | (with_reducible refine RW.isUn ?_; first
            | refine RW.val (Y.notD rfl) rfl ?_
            | refine RW.val (Y.not rfl) rfl ?_)
        | (with_reducible refine RW.isPick ?_; first
            | refine RW.val (Y.pickT rfl rfl) rfl ?_
            | refine RW.val (Y.pickF rfl rfl) rfl ?_)
        | with_reducible refine RW.nil ?_)
    | (with_reducible refine CW.isCW ?_; first
        | with_reducible refine CW.seq ?_
        | with_reducible refine CW.region ?_
        | with_reducible refine CW.block ?_
        | with_reducible refine CW.ret ?_
        | with_reducible refine CW.skip ?_
        | with_reducible refine CW.exit ?_
        | refine CW.condT rfl ?_
        | refine CW.condF rfl ?_
        | (refine CW.condY rfl ?_ ?_; omega)
        | (refine CW.condN rfl ?_ ?_; omega))
    | with_reducible refine thenQ_normal ?_
    | with_reducible refine thenQ_ret ?_
    | with_reducible refine thenQ_exit ?_
    | with_reducible refine blockQ_normal ?_
    | with_reducible refine blockQ_ret ?_
    | with_reducible refine loopQ_ret ?_
    | with_reducible refine loopQ_exit ?_
    | with_reducible refine joinQ_ret ?_
    | with_reducible refine joinQ_exit ?_
    | refine blockQ_exit rfl ?_
    | refine blockQ_past rfl ?_
  refine CW.condD rfl (fun h8 => ?_) (fun h8 => ?_)
  · repeat
      first
      | (with_reducible refine RW.isRW ?_; first
          | refine RW.val (Y.move rfl) rfl ?_
          | refine RW.val (Y.assign rfl) rfl ?_
          | (with_reducible refine RW.isGuard ?_; first
              | refine RW.guardYes rfl rfl ?_
              | refine RW.guardNo rfl rfl rfl rfl ?_
              | refine RW.guardUndef rfl rfl rfl ?_
              | (refine RW.gdY rfl rfl ?_ ?_; omega)
              | (refine RW.gdN rfl rfl ?_ ?_; omega))
          | (with_reducible refine RW.isBin ?_; first
              | refine RW.val (Y.lss rfl rfl) rfl ?_
              | (refine RW.val (Y.add rfl rfl ?_) rfl ?_; omega)
              | refine RW.val (Y.eql rfl rfl) rfl ?_
              | refine RW.val (Y.neq rfl rfl) rfl ?_
              | refine RW.val (Y.gtr rfl rfl) rfl ?_
              | refine RW.val (Y.geq rfl rfl) rfl ?_
              | refine RW.val (Y.leq rfl rfl) rfl ?_
              | (refine RW.val (Y.sub rfl rfl ?_) rfl ?_; omega)
              | (refine RW.val (Y.quo rfl rfl ?_ ?_) rfl ?_; omega; omega)
              | (refine RW.val (Y.rem rfl rfl ?_ ?_) rfl ?_; omega; omega))
          | (with_reducible refine RW.isLoad ?_; first
              | (refine RW.val (Y.ldInt T hs rfl (by assumption) rfl rfl ?_) rfl ?_; omega)
              | (refine RW.val (Y.ldS T hs rfl (by assumption) rfl rfl ?_ (by assumption)) rfl ?_; omega))
          | (with_reducible refine RW.isIdx ?_; first
              | (refine RW.val (Y.idxSN T rfl rfl (by assumption) rfl rfl rfl ?_) rfl ?_; omega)
              | (refine RW.val (Y.idxS T rfl rfl (by assumption) rfl rfl rfl ?_) rfl ?_; omega))
          | (with_reducible refine RW.isCall ?_; first
              | refine RW.val (Y.len T rfl rfl) rfl ?_
              | refine RW.val (Y.max2 rfl rfl) rfl ?_
              | refine RW.val (Y.min2 rfl rfl) rfl ?_)
          | refine RW.val (Y.extract rfl rfl) rfl ?_
          | (with_reducible refine RW.isUn ?_; first
              | refine RW.val (Y.notD rfl) rfl ?_
              | refine RW.val (Y.not rfl) rfl ?_)
          | (with_reducible refine RW.isPick ?_; first
              | refine RW.val (Y.pickT rfl rfl) rfl ?_
              | refine RW.val (Y.pickF rfl rfl) rfl ?_)
          | with_reducible refine RW.nil ?_)
      | (with_reducible refine CW.isCW ?_; first
          | with_reducible refine CW.seq ?_
          | with_reducible refine CW.region ?_
          | with_reducible refine CW.block ?_
          | with_reducible refine CW.ret ?_
          | with_reducible refine CW.skip ?_
          | with_reducible refine CW.exit ?_
          | refine CW.condT rfl ?_
          | refine CW.condF rfl ?_
          | (refine CW.condY rfl ?_ ?_; omega)
          | (refine CW.condN rfl ?_ ?_; omega))
      | with_reducible refine thenQ_normal ?_
      | with_reducible refine thenQ_ret ?_
      | with_reducible refine thenQ_exit ?_
      | with_reducible refine blockQ_normal ?_
      | with_reducible refine blockQ_ret ?_
      | with_reducible refine loopQ_ret ?_
      | with_reducible refine loopQ_exit ?_
      | with_reducible refine joinQ_ret ?_
      | with_reducible refine joinQ_exit ?_
      | refine blockQ_exit rfl ?_
      | refine blockQ_past rfl ?_
    refine retQ_ret [_] h ⟨rfl, trivial⟩ hs ?_
    have : l ≠ m := fun e => h8 (by rw [e])
    simp [packv, this]
  have hlen : l.length = m.length := by omega
  repeat
    first
    | (with_reducible refine RW.isRW ?_; first
        | refine RW.val (Y.move rfl) rfl ?_
        | refine RW.val (Y.assign rfl) rfl ?_
        | (with_reducible refine RW.isGuard ?_; first
            | refine RW.guardYes rfl rfl ?_
            | refine RW.guardNo rfl rfl rfl rfl ?_
            | refine RW.guardUndef rfl rfl rfl ?_
            | (refine RW.gdY rfl rfl ?_ ?_; omega)
            | (refine RW.gdN rfl rfl ?_ ?_; omega))
        | (with_reducible refine RW.isBin ?_; first
            | refine RW.val (Y.lss rfl rfl) rfl ?_
            | (refine RW.val (Y.add rfl rfl ?_) rfl ?_; omega)
            | refine RW.val (Y.eql rfl rfl) rfl ?_
            | refine RW.val (Y.neq rfl rfl) rfl ?_
            | refine RW.val (Y.gtr rfl rfl) rfl ?_
            | refine RW.val (Y.geq rfl rfl) rfl ?_
            | refine RW.val (Y.leq rfl rfl) rfl ?_
            | (refine RW.val (Y.sub rfl rfl ?_) rfl ?_; omega)
            | (refine RW.val (Y.quo rfl rfl ?_ ?_) rfl ?_; omega; omega)
            | (refine RW.val (Y.rem rfl rfl ?_ ?_) rfl ?_; omega; omega))
        | (with_reducible refine RW.isLoad ?_; first
            | (refine RW.val (Y.ldInt T hs rfl (by assumption) rfl rfl ?_) rfl ?_; omega)
            | (refine RW.val (Y.ldS T hs rfl (by assumption) rfl rfl ?_ (by assumption)) rfl ?_; omega))
        | (with_reducible refine RW.isIdx ?_; first
            | (refine RW.val (Y.idxSN T rfl rfl (by assumption) rfl rfl rfl ?_) rfl ?_; omega)
            | (refine RW.val (Y.idxS T rfl rfl (by assumption) rfl rfl rfl ?_) rfl ?_; omega))
        | (with_reducible refine RW.isCall ?_; first
            | refine RW.val (Y.len T rfl rfl) rfl ?_
            | refine RW.val (Y.max2 rfl rfl) rfl ?_
            | refine RW.val (Y.min2 rfl rfl) rfl ?_)
        | refine RW.val (Y.extract rfl rfl) rfl ?_
        | (with_reducible refine RW.isUn ?_; first
            | refine RW.val (Y.notD rfl) rfl ?_
            | refine RW.val (Y.not rfl) rfl ?_)
        | (with_reducible refine RW.isPick ?_; first
            | refine RW.val (Y.pickT rfl rfl) rfl ?_
            | refine RW.val (Y.pickF rfl rfl) rfl ?_)
        | with_reducible refine RW.nil ?_)
    | (with_reducible refine CW.isCW ?_; first
        | with_reducible refine CW.seq ?_
        | with_reducible refine CW.region ?_
        | with_reducible refine CW.block ?_
        | with_reducible refine CW.ret ?_
        | with_reducible refine CW.skip ?_
        | with_reducible refine CW.exit ?_
        | refine CW.condT rfl ?_
        | refine CW.condF rfl ?_
        | (refine CW.condY rfl ?_ ?_; omega)
        | (refine CW.condN rfl ?_ ?_; omega))
    | with_reducible refine thenQ_normal ?_
    | with_reducible refine thenQ_ret ?_
    | with_reducible refine thenQ_exit ?_
    | with_reducible refine blockQ_normal ?_
    | with_reducible refine blockQ_ret ?_
    | with_reducible refine loopQ_ret ?_
    | with_reducible refine loopQ_exit ?_
    | with_reducible refine joinQ_ret ?_
    | with_reducible refine joinQ_exit ?_
    | refine blockQ_exit rfl ?_
    | refine blockQ_past rfl ?_
  refine CW.loop (fun k : Nat => [(0, .slice ad l.length cp), (1, .slice ad2 m.length cp2), (12, .int .i64 l.length), (13, .int .i64 k)]) (fun k w' => k ≤ l.length ∧ (∀ j, j < k → l.getD j 0 = m.getD j 0) ∧ Sees w h h [] w') (fun k => l.length - k) 0 ⟨rfl, rfl, rfl, rfl, trivial⟩ ⟨by omega, by omega, hs⟩ ?_
  rintro k w' ⟨hk, hno, hs⟩
  by_cases hlt : k < l.length
  · repeat
      first
      | (with_reducible refine RW.isRW ?_; first
          | refine RW.val (Y.move rfl) rfl ?_
          | refine RW.val (Y.assign rfl) rfl ?_
          | (with_reducible refine RW.isGuard ?_; first
              | refine RW.guardYes rfl rfl ?_
              | refine RW.guardNo rfl rfl rfl rfl ?_
              | refine RW.guardUndef rfl rfl rfl ?_
              | (refine RW.gdY rfl rfl ?_ ?_; omega)
              | (refine RW.gdN rfl rfl ?_ ?_; omega))
          | (with_reducible refine RW.isBin ?_; first
              | refine RW.val (Y.lss rfl rfl) rfl ?_
              | (refine RW.val (Y.add rfl rfl ?_) rfl ?_; omega)
              | refine RW.val (Y.eql rfl rfl) rfl ?_
              | refine RW.val (Y.neq rfl rfl) rfl ?_
              | refine RW.val (Y.gtr rfl rfl) rfl ?_
              | refine RW.val (Y.geq rfl rfl) rfl ?_
              | refine RW.val (Y.leq rfl rfl) rfl ?_
              | (refine RW.val (Y.sub rfl rfl ?_) rfl ?_; omega)
              | (refine RW.val (Y.quo rfl rfl ?_ ?_) rfl ?_; omega; omega)
              | (refine RW.val (Y.rem rfl rfl ?_ ?_) rfl ?_; omega; omega))
          | (with_reducible refine RW.isLoad ?_; first
              | (refine RW.val (Y.ldInt T hs rfl (by assumption) rfl rfl ?_) rfl ?_; omega)
              | (refine RW.val (Y.ldS T hs rfl (by assumption) rfl rfl ?_ (by assumption)) rfl ?_; omega))
          | (with_reducible refine RW.isIdx ?_; first
              | (refine RW.val (Y.idxSN T rfl rfl (by assumption) rfl rfl rfl ?_) rfl ?_; omega)
              | (refine RW.val (Y.idxS T rfl rfl (by assumption) rfl rfl rfl ?_) rfl ?_; omega))
          | (with_reducible refine RW.isCall ?_; first
              | refine RW.val (Y.len T rfl rfl) rfl ?_
              | refine RW.val (Y.max2 rfl rfl) rfl ?_
              | refine RW.val (Y.min2 rfl rfl) rfl ?_)
          | refine RW.val (Y.extract rfl rfl) rfl ?_
          | (with_reducible refine RW.isUn ?_; first
              | refine RW.val (Y.notD rfl) rfl ?_
              | refine RW.val (Y.not rfl) rfl ?_)
          | (with_reducible refine RW.isPick ?_; first
              | refine RW.val (Y.pickT rfl rfl) rfl ?_
              | refine RW.val (Y.pickF rfl rfl) rfl ?_)
          | with_reducible refine RW.nil ?_)
      | (with_reducible refine CW.isCW ?_; first
          | with_reducible refine CW.seq ?_
          | with_reducible refine CW.region ?_
          | with_reducible refine CW.block ?_
          | with_reducible refine CW.ret ?_
          | with_reducible refine CW.skip ?_
          | with_reducible refine CW.exit ?_
          | refine CW.condT rfl ?_
          | refine CW.condF rfl ?_
          | (refine CW.condY rfl ?_ ?_; omega)
          | (refine CW.condN rfl ?_ ?_; omega))
      | with_reducible refine thenQ_normal ?_
      | with_reducible refine thenQ_ret ?_
      | with_reducible refine thenQ_exit ?_
      | with_reducible refine blockQ_normal ?_
      | with_reducible refine blockQ_ret ?_
      | with_reducible refine loopQ_ret ?_
      | with_reducible refine loopQ_exit ?_
      | with_reducible refine joinQ_ret ?_
      | with_reducible refine joinQ_exit ?_
      | refine blockQ_exit rfl ?_
      | refine blockQ_past rfl ?_
    (refine CW.regionQ T hs ?_ (by kernel_rfl))
    repeat
      first
      | with_reducible refine QW.nil ?_
      | refine QW.val (fun _ _ => Y.move rfl) rfl ?_
      | refine QW.val (fun _ _ => Y.assign rfl) rfl ?_
      | refine QW.val (fun _ _ => Y.lss rfl rfl) rfl ?_
      | refine QW.val (fun _ _ => Y.leq rfl rfl) rfl ?_
      | refine QW.val (fun _ _ => Y.gtr rfl rfl) rfl ?_
      | refine QW.val (fun _ _ => Y.geq rfl rfl) rfl ?_
      | refine QW.val (fun _ _ => Y.eql rfl rfl) rfl ?_
      | refine QW.val (fun _ _ => Y.neq rfl rfl) rfl ?_
      | (refine QW.val (fun _ _ => Y.add rfl rfl ?_) rfl ?_; omega)
      | (refine QW.val (fun _ _ => Y.sub rfl rfl ?_) rfl ?_; omega)
      | (refine QW.val (fun _ _ => Y.rem rfl rfl ?_ ?_) rfl ?_; omega; omega)
      | refine QW.val (fun _ _ => Y.len T rfl rfl) rfl ?_
      | (refine QW.val (fun _ _ => Y.idxSN T rfl rfl (by assumption) rfl rfl rfl ?_) rfl ?_; omega)
      | (refine QW.val (fun _ _ => Y.idxS T rfl rfl (by assumption) rfl rfl rfl ?_) rfl ?_; omega)
      | (refine QW.val (fun _ hs => Y.ldInt T hs rfl (by assumption) rfl rfl ?_) rfl ?_; omega)
      | (refine QW.val (fun _ hs => Y.ldS T hs rfl (by assumption) rfl rfl ?_ (by assumption)) rfl ?_; omega)
      | refine QW.val (fun _ _ => Y.extract rfl rfl) rfl ?_
      | refine QW.val (fun _ _ => Y.notD rfl) rfl ?_
      | refine QW.val (fun _ _ => Y.not rfl) rfl ?_
      | refine QW.guardYes rfl rfl ?_
      | refine QW.guardNo rfl rfl rfl rfl ?_
      | refine QW.guardUndef rfl rfl rfl ?_
      | (refine QW.gdY rfl rfl ?_ ?_; omega)
      | (refine QW.gdN rfl rfl ?_ ?_; omega)
      | refine QW.val (fun _ _ => Y.pickT rfl rfl) rfl ?_
      | refine QW.val (fun _ _ => Y.pickF rfl rfl) rfl ?_
    intro w' hs
    repeat
      first
      | (with_reducible refine RW.isRW ?_; first
          | refine RW.val (Y.move rfl) rfl ?_
          | refine RW.val (Y.assign rfl) rfl ?_
          | (with_reducible refine RW.isGuard ?_; first
              | refine RW.guardYes rfl rfl ?_
              | refine RW.guardNo rfl rfl rfl rfl ?_
              | refine RW.guardUndef rfl rfl rfl ?_
              | (refine RW.gdY rfl rfl ?_ ?_; omega)
              | (refine RW.gdN rfl rfl ?_ ?_; omega))
          | (with_reducible refine RW.isBin ?_; first
              | refine RW.val (Y.lss rfl rfl) rfl ?_
              | (refine RW.val (Y.add rfl rfl ?_) rfl ?_; omega)
              | refine RW.val (Y.eql rfl rfl) rfl ?_
              | refine RW.val (Y.neq rfl rfl) rfl ?_
              | refine RW.val (Y.gtr rfl rfl) rfl ?_
              | refine RW.val (Y.geq rfl rfl) rfl ?_
              | refine RW.val (Y.leq rfl rfl) rfl ?_
              | (refine RW.val (Y.sub rfl rfl ?_) rfl ?_; omega)
              | (refine RW.val (Y.quo rfl rfl ?_ ?_) rfl ?_; omega; omega)
              | (refine RW.val (Y.rem rfl rfl ?_ ?_) rfl ?_; omega; omega))
          | (with_reducible refine RW.isLoad ?_; first
              | (refine RW.val (Y.ldInt T hs rfl (by assumption) rfl rfl ?_) rfl ?_; omega)
              | (refine RW.val (Y.ldS T hs rfl (by assumption) rfl rfl ?_ (by assumption)) rfl ?_; omega))
          | (with_reducible refine RW.isIdx ?_; first
              | (refine RW.val (Y.idxSN T rfl rfl (by assumption) rfl rfl rfl ?_) rfl ?_; omega)
              | (refine RW.val (Y.idxS T rfl rfl (by assumption) rfl rfl rfl ?_) rfl ?_; omega))
          | (with_reducible refine RW.isCall ?_; first
              | refine RW.val (Y.len T rfl rfl) rfl ?_
              | refine RW.val (Y.max2 rfl rfl) rfl ?_
              | refine RW.val (Y.min2 rfl rfl) rfl ?_)
          | refine RW.val (Y.extract rfl rfl) rfl ?_
          | (with_reducible refine RW.isUn ?_; first
              | refine RW.val (Y.notD rfl) rfl ?_
              | refine RW.val (Y.not rfl) rfl ?_)
          | (with_reducible refine RW.isPick ?_; first
              | refine RW.val (Y.pickT rfl rfl) rfl ?_
              | refine RW.val (Y.pickF rfl rfl) rfl ?_)
          | with_reducible refine RW.nil ?_)
      | (with_reducible refine CW.isCW ?_; first
          | with_reducible refine CW.seq ?_
          | with_reducible refine CW.region ?_
          | with_reducible refine CW.block ?_
          | with_reducible refine CW.ret ?_
          | with_reducible refine CW.skip ?_
          | with_reducible refine CW.exit ?_
          | refine CW.condT rfl ?_
          | refine CW.condF rfl ?_
          | (refine CW.condY rfl ?_ ?_; omega)
          | (refine CW.condN rfl ?_ ?_; omega))
      | with_reducible refine thenQ_normal ?_
      | with_reducible refine thenQ_ret ?_
      | with_reducible refine thenQ_exit ?_
      | with_reducible refine blockQ_normal ?_
      | with_reducible refine blockQ_ret ?_
      | with_reducible refine loopQ_ret ?_
      | with_reducible refine loopQ_exit ?_
      | with_reducible refine joinQ_ret ?_
      | with_reducible refine joinQ_exit ?_
      | refine blockQ_exit rfl ?_
      | refine blockQ_past rfl ?_
    refine CW.condD rfl (fun h2 => ?_) (fun h2 => ?_)
    · repeat
        first
        | (with_reducible refine RW.isRW ?_; first
            | refine RW.val (Y.move rfl) rfl ?_
            | refine RW.val (Y.assign rfl) rfl ?_
            | (with_reducible refine RW.isGuard ?_; first
                | refine RW.guardYes rfl rfl ?_
                | refine RW.guardNo rfl rfl rfl rfl ?_
                | refine RW.guardUndef rfl rfl rfl ?_
                | (refine RW.gdY rfl rfl ?_ ?_; omega)
                | (refine RW.gdN rfl rfl ?_ ?_; omega))
            | (with_reducible refine RW.isBin ?_; first
                | refine RW.val (Y.lss rfl rfl) rfl ?_
                | (refine RW.val (Y.add rfl rfl ?_) rfl ?_; omega)
                | refine RW.val (Y.eql rfl rfl) rfl ?_
                | refine RW.val (Y.neq rfl rfl) rfl ?_
                | refine RW.val (Y.gtr rfl rfl) rfl ?_
                | refine RW.val (Y.geq rfl rfl) rfl ?_
                | refine RW.val (Y.leq rfl rfl) rfl ?_
                | (refine RW.val (Y.sub rfl rfl ?_) rfl ?_; omega)
                | (refine RW.val (Y.quo rfl rfl ?_ ?_) rfl ?_; omega; omega)
                | (refine RW.val (Y.rem rfl rfl ?_ ?_) rfl ?_; omega; omega))
            | (with_reducible refine RW.isLoad ?_; first
                | (refine RW.val (Y.ldInt T hs rfl (by assumption) rfl rfl ?_) rfl ?_; omega)
                | (refine RW.val (Y.ldS T hs rfl (by assumption) rfl rfl ?_ (by assumption)) rfl ?_; omega))
            | (with_reducible refine RW.isIdx ?_; first
                | (refine RW.val (Y.idxSN T rfl rfl (by assumption) rfl rfl rfl ?_) rfl ?_; omega)
                | (refine RW.val (Y.idxS T rfl rfl (by assumption) rfl rfl rfl ?_) rfl ?_; omega))
            | (with_reducible refine RW.isCall ?_; first
                | refine RW.val (Y.len T rfl rfl) rfl ?_
                | refine RW.val (Y.max2 rfl rfl) rfl ?_
                | refine RW.val (Y.min2 rfl rfl) rfl ?_)
            | refine RW.val (Y.extract rfl rfl) rfl ?_
            | (with_reducible refine RW.isUn ?_; first
                | refine RW.val (Y.notD rfl) rfl ?_
                | refine RW.val (Y.not rfl) rfl ?_)
            | (with_reducible refine RW.isPick ?_; first
                | refine RW.val (Y.pickT rfl rfl) rfl ?_
                | refine RW.val (Y.pickF rfl rfl) rfl ?_)
            | with_reducible refine RW.nil ?_)
        | (with_reducible refine CW.isCW ?_; first
            | with_reducible refine CW.seq ?_
            | with_reducible refine CW.region ?_
            | with_reducible refine CW.block ?_
            | with_reducible refine CW.ret ?_
            | with_reducible refine CW.skip ?_
            | with_reducible refine CW.exit ?_
            | refine CW.condT rfl ?_
            | refine CW.condF rfl ?_
            | (refine CW.condY rfl ?_ ?_; omega)
            | (refine CW.condN rfl ?_ ?_; omega))
        | with_reducible refine thenQ_normal ?_
        | with_reducible refine thenQ_ret ?_
        | with_reducible refine thenQ_exit ?_
        | with_reducible refine blockQ_normal ?_
        | with_reducible refine blockQ_ret ?_
        | with_reducible refine loopQ_ret ?_
        | with_reducible refine loopQ_exit ?_
        | with_reducible refine joinQ_ret ?_
        | with_reducible refine joinQ_exit ?_
        | refine blockQ_exit rfl ?_
        | refine blockQ_past rfl ?_
      refine retQ_ret [_] h ⟨rfl, trivial⟩ hs ?_
      have : l ≠ m := fun e => h2 (by rw [e])
      simp [packv, this]
    · repeat
        first
        | (with_reducible refine RW.isRW ?_; first
            | refine RW.val (Y.move rfl) rfl ?_
            | refine RW.val (Y.assign rfl) rfl ?_
            | (with_reducible refine RW.isGuard ?_; first
                | refine RW.guardYes rfl rfl ?_
                | refine RW.guardNo rfl rfl rfl rfl ?_
                | refine RW.guardUndef rfl rfl rfl ?_
                | (refine RW.gdY rfl rfl ?_ ?_; omega)
                | (refine RW.gdN rfl rfl ?_ ?_; omega))
            | (with_reducible refine RW.isBin ?_; first
                | refine RW.val (Y.lss rfl rfl) rfl ?_
                | (refine RW.val (Y.add rfl rfl ?_) rfl ?_; omega)
                | refine RW.val (Y.eql rfl rfl) rfl ?_
                | refine RW.val (Y.neq rfl rfl) rfl ?_
                | refine RW.val (Y.gtr rfl rfl) rfl ?_
                | refine RW.val (Y.geq rfl rfl) rfl ?_
                | refine RW.val (Y.leq rfl rfl) rfl ?_
                | (refine RW.val (Y.sub rfl rfl ?_) rfl ?_; omega)
                | (refine RW.val (Y.quo rfl rfl ?_ ?_) rfl ?_; omega; omega)
                | (refine RW.val (Y.rem rfl rfl ?_ ?_) rfl ?_; omega; omega))
            | (with_reducible refine RW.isLoad ?_; first
                | (refine RW.val (Y.ldInt T hs rfl (by assumption) rfl rfl ?_) rfl ?_; omega)
                | (refine RW.val (Y.ldS T hs rfl (by assumption) rfl rfl ?_ (by assumption)) rfl ?_; omega))
            | (with_reducible refine RW.isIdx ?_; first
                | (refine RW.val (Y.idxSN T rfl rfl (by assumption) rfl rfl rfl ?_) rfl ?_; omega)
                | (refine RW.val (Y.idxS T rfl rfl (by assumption) rfl rfl rfl ?_) rfl ?_; omega))
            | (with_reducible refine RW.isCall ?_; first
                | refine RW.val (Y.len T rfl rfl) rfl ?_
                | refine RW.val (Y.max2 rfl rfl) rfl ?_
                | refine RW.val (Y.min2 rfl rfl) rfl ?_)
            | refine RW.val (Y.extract rfl rfl) rfl ?_
            | (with_reducible refine RW.isUn ?_; first
                | refine RW.val (Y.notD rfl) rfl ?_
                | refine RW.val (Y.not rfl) rfl ?_)
            | (with_reducible refine RW.isPick ?_; first
                | refine RW.val (Y.pickT rfl rfl) rfl ?_
                | refine RW.val (Y.pickF rfl rfl) rfl ?_)
            | with_reducible refine RW.nil ?_)
        | (with_reducible refine CW.isCW ?_; first
            | with_reducible refine CW.seq ?_
            | with_reducible refine CW.region ?_
            | with_reducible refine CW.block ?_
            | with_reducible refine CW.ret ?_
            | with_reducible refine CW.skip ?_
            | with_reducible refine CW.exit ?_
            | refine CW.condT rfl ?_
            | refine CW.condF rfl ?_
            | (refine CW.condY rfl ?_ ?_; omega)
            | (refine CW.condN rfl ?_ ?_; omega))
        | with_reducible refine thenQ_normal ?_
        | with_reducible refine thenQ_ret ?_
        | with_reducible refine thenQ_exit ?_
        | with_reducible refine blockQ_normal ?_
        | with_reducible refine blockQ_ret ?_
        | with_reducible refine loopQ_ret ?_
        | with_reducible refine loopQ_exit ?_
        | with_reducible refine joinQ_ret ?_
        | with_reducible refine joinQ_exit ?_
        | refine blockQ_exit rfl ?_
        | refine blockQ_past rfl ?_
      refine loopQ_round (k + 1) ⟨rfl, rfl, rfl, rfl, trivial⟩ ⟨by omega, ?_, hs⟩ (by omega)
      intro j hj
      by_cases e : j = k
      · subst e; exact Decidable.of_not_not h2
      · exact hno j (by omega)
  obtain rfl : k = l.length := by omega
  repeat
    first
    | (with_reducible refine RW.isRW ?_; first
        | refine RW.val (Y.move rfl) rfl ?_
        | refine RW.val (Y.assign rfl) rfl ?_
        | (with_reducible refine RW.isGuard ?_; first
            | refine RW.guardYes rfl rfl ?_
            | refine RW.guardNo rfl rfl rfl rfl ?_
            | refine RW.guardUndef rfl rfl rfl ?_
            | (refine RW.gdY rfl rfl ?_ ?_; omega)
            | (refine RW.gdN rfl rfl ?_ ?_; omega))
        | (with_reducible refine RW.isBin ?_; first
            | refine RW.val (Y.lss rfl rfl) rfl ?_
            | (refine RW.val (Y.add rfl rfl ?_) rfl ?_; omega)
            | refine RW.val (Y.eql rfl rfl) rfl ?_
            | refine RW.val (Y.neq rfl rfl) rfl ?_
            | refine RW.val (Y.gtr rfl rfl) rfl ?_
            | refine RW.val (Y.geq rfl rfl) rfl ?_
            | refine RW.val (Y.leq rfl rfl) rfl ?_
            | (refine RW.val (Y.sub rfl rfl ?_) rfl ?_; omega)
            | (refine RW.val (Y.quo rfl rfl ?_ ?_) rfl ?_; omega; omega)
            | (refine RW.val (Y.rem rfl rfl ?_ ?_) rfl ?_; omega; omega))
        | (with_reducible refine RW.isLoad ?_; first
            | (refine RW.val (Y.ldInt T hs rfl (by assumption) rfl rfl ?_) rfl ?_; omega)
            | (refine RW.val (Y.ldS T hs rfl (by assumption) rfl rfl ?_ (by assumption)) rfl ?_; omega))
        | (with_reducible refine RW.isIdx ?_; first
            | (refine RW.val (Y.idxSN T rfl rfl (by assumption) rfl rfl rfl ?_) rfl ?_; omega)
            | (refine RW.val (Y.idxS T rfl rfl (by assumption) rfl rfl rfl ?_) rfl ?_; omega))
        | (with_reducible refine RW.isCall ?_; first
            | refine RW.val (Y.len T rfl rfl) rfl ?_
            | refine RW.val (Y.max2 rfl rfl) rfl ?_
            | refine RW.val (Y.min2 rfl rfl) rfl ?_)
        | refine RW.val (Y.extract rfl rfl) rfl ?_
        | (with_reducible refine RW.isUn ?_; first
            | refine RW.val (Y.notD rfl) rfl ?_
            | refine RW.val (Y.not rfl) rfl ?_)
        | (with_reducible refine RW.isPick ?_; first
            | refine RW.val (Y.pickT rfl rfl) rfl ?_
            | refine RW.val (Y.pickF rfl rfl) rfl ?_)
        | with_reducible refine RW.nil ?_)
    | (with_reducible refine CW.isCW ?_; first
        | with_reducible refine CW.seq ?_
        | with_reducible refine CW.region ?_
        | with_reducible refine CW.block ?_
        | with_reducible refine CW.ret ?_
        | with_reducible refine CW.skip ?_
        | with_reducible refine CW.exit ?_
        | refine CW.condT rfl ?_
        | refine CW.condF rfl ?_
        | (refine CW.condY rfl ?_ ?_; omega)
        | (refine CW.condN rfl ?_ ?_; omega))
    | with_reducible refine thenQ_normal ?_
    | with_reducible refine thenQ_ret ?_
    | with_reducible refine thenQ_exit ?_
    | with_reducible refine blockQ_normal ?_
    | with_reducible refine blockQ_ret ?_
    | with_reducible refine loopQ_ret ?_
    | with_reducible refine loopQ_exit ?_
    | with_reducible refine joinQ_ret ?_
    | with_reducible refine joinQ_exit ?_
    | refine blockQ_exit rfl ?_
    | refine blockQ_past rfl ?_
  refine retQ_ret [_] h ⟨rfl, trivial⟩ hs ?_
  have : l = m := by
    apply List.ext_getElem hlen
    intro j h1 h2
    have := hno j h1
    simpa [List.getD_eq_getElem?_getD, h1, h2] using this
  simp [packv, this]

theorem same_con (s t : Value) (l m : List Int) (w : World) (h : GHeap) (hl : IntsAt h s l) (ht : IntsAt h t m) (hm : l.length ≤ 9223372036854775807) : Con Try.prog 37 [s, t] w h (fun _ v => v = .bool (decide (l = m))) := by
  refine Con.of_body Try.func37 rfl Try.ntmps37 rfl rfl ?_
  intro hs
  repeat
    first
    | (with_reducible refine RW.isRW ?_; first
        | refine RW.val (Y.move rfl) rfl ?_
        | refine RW.val (Y.assign rfl) rfl ?_
        | (with_reducible refine RW.isGuard ?_; first
            | refine RW.guardYes rfl rfl ?_
            | refine RW.guardNo rfl rfl rfl rfl ?_
            | refine RW.guardUndef rfl rfl rfl ?_
            | (refine RW.gdY rfl rfl ?_ ?_; omega)
            | (refine RW.gdN rfl rfl ?_ ?_; omega))
        | (with_reducible refine RW.isBin ?_; first
            | refine RW.val (Y.lss rfl rfl) rfl ?_
            | (refine RW.val (Y.add rfl rfl ?_) rfl ?_; omega)
            | refine RW.val (Y.eql rfl rfl) rfl ?_
            | refine RW.val (Y.neq rfl rfl) rfl ?_
            | refine RW.val (Y.gtr rfl rfl) rfl ?_
            | refine RW.val (Y.geq rfl rfl) rfl ?_
            | refine RW.val (Y.leq rfl rfl) rfl ?_
            | (refine RW.val (Y.sub rfl rfl ?_) rfl ?_; omega)
            | (refine RW.val (Y.quo rfl rfl ?_ ?_) rfl ?_; omega; omega)
            | (refine RW.val (Y.rem rfl rfl ?_ ?_) rfl ?_; omega; omega))
        | (with_reducible refine RW.isLoad ?_; first
            | (refine RW.val (Y.ldInt T hs rfl (by assumption) rfl rfl ?_) rfl ?_; omega)
            | (refine RW.val (Y.ldS T hs rfl (by assumption) rfl rfl ?_ (by assumption)) rfl ?_; omega))
        | (with_reducible refine RW.isIdx ?_; first
            | (refine RW.val (Y.idxSN T rfl rfl (by assumption) rfl rfl rfl ?_) rfl ?_; omega)
            | (refine RW.val (Y.idxS T rfl rfl (by assumption) rfl rfl rfl ?_) rfl ?_; omega))
        | (with_reducible refine RW.isCall ?_; first
            | refine RW.val (Y.len T rfl rfl) rfl ?_
            | refine RW.val (Y.max2 rfl rfl) rfl ?_
            | refine RW.val (Y.min2 rfl rfl) rfl ?_)
        | refine RW.val (Y.extract rfl rfl) rfl ?_
        | (with_reducible refine RW.isUn ?_; first
            | refine RW.val (Y.notD rfl) rfl ?_
            | refine RW.val (Y.not rfl) rfl ?_)
        | (with_reducible refine RW.isPick ?_; first
            | refine RW.val (Y.pickT rfl rfl) rfl ?_
            | refine RW.val (Y.pickF rfl rfl) rfl ?_)
        | with_reducible refine RW.nil ?_)
    | (with_reducible refine CW.isCW ?_; first
        | with_reducible refine CW.seq ?_
        | with_reducible refine CW.region ?_
        | with_reducible refine CW.block ?_
        | with_reducible refine CW.ret ?_
        | with_reducible refine CW.skip ?_
        | with_reducible refine CW.exit ?_
        | refine CW.condT rfl ?_
        | refine CW.condF rfl ?_
        | (refine CW.condY rfl ?_ ?_; omega)
        | (refine CW.condN rfl ?_ ?_; omega))
    | with_reducible refine thenQ_normal ?_
    | with_reducible refine thenQ_ret ?_
    | with_reducible refine thenQ_exit ?_
    | with_reducible refine blockQ_normal ?_
    | with_reducible refine blockQ_ret ?_
    | with_reducible refine loopQ_ret ?_
    | with_reducible refine loopQ_exit ?_
    | with_reducible refine joinQ_ret ?_
    | with_reducible refine joinQ_exit ?_
    | refine blockQ_exit rfl ?_
    | refine blockQ_past rfl ?_
  (refine RW.call T hs rfl rfl rfl (equalInt_con s t l m _ _ hl ht hm) ?_; intro v h1 w1 hle1 hp1 hs)
  subst hp1
  repeat
    first
    | (with_reducible refine RW.isRW ?_; first
        | refine RW.val (Y.move rfl) rfl ?_
        | refine RW.val (Y.assign rfl) rfl ?_
        | (with_reducible refine RW.isGuard ?_; first
            | refine RW.guardYes rfl rfl ?_
            | refine RW.guardNo rfl rfl rfl rfl ?_
            | refine RW.guardUndef rfl rfl rfl ?_
            | (refine RW.gdY rfl rfl ?_ ?_; omega)
            | (refine RW.gdN rfl rfl ?_ ?_; omega))
        | (with_reducible refine RW.isBin ?_; first
            | refine RW.val (Y.lss rfl rfl) rfl ?_
            | (refine RW.val (Y.add rfl rfl ?_) rfl ?_; omega)
            | refine RW.val (Y.eql rfl rfl) rfl ?_
            | refine RW.val (Y.neq rfl rfl) rfl ?_
            | refine RW.val (Y.gtr rfl rfl) rfl ?_
            | refine RW.val (Y.geq rfl rfl) rfl ?_
            | refine RW.val (Y.leq rfl rfl) rfl ?_
            | (refine RW.val (Y.sub rfl rfl ?_) rfl ?_; omega)
            | (refine RW.val (Y.quo rfl rfl ?_ ?_) rfl ?_; omega; omega)
            | (refine RW.val (Y.rem rfl rfl ?_ ?_) rfl ?_; omega; omega))
        | (with_reducible refine RW.isLoad ?_; first
            | (refine RW.val (Y.ldInt T hs rfl (by assumption) rfl rfl ?_) rfl ?_; omega)
            | (refine RW.val (Y.ldS T hs rfl (by assumption) rfl rfl ?_ (by assumption)) rfl ?_; omega))
        | (with_reducible refine RW.isIdx ?_; first
            | (refine RW.val (Y.idxSN T rfl rfl (by assumption) rfl rfl rfl ?_) rfl ?_; omega)
            | (refine RW.val (Y.idxS T rfl rfl (by assumption) rfl rfl rfl ?_) rfl ?_; omega))
        | (with_reducible refine RW.isCall ?_; first
            | refine RW.val (Y.len T rfl rfl) rfl ?_
            | refine RW.val (Y.max2 rfl rfl) rfl ?_
            | refine RW.val (Y.min2 rfl rfl) rfl ?_)
        | refine RW.val (Y.extract rfl rfl) rfl ?_
        | (with_reducible refine RW.isUn ?_; first
            | refine RW.val (Y.notD rfl) rfl ?_
            | refine RW.val (Y.not rfl) rfl ?_)
        | (with_reducible refine RW.isPick ?_; first
            | refine RW.val (Y.pickT rfl rfl) rfl ?_
            | refine RW.val (Y.pickF rfl rfl) rfl ?_)
        | with_reducible refine RW.nil ?_)
    | (with_reducible refine CW.isCW ?_; first
        | with_reducible refine CW.seq ?_
        | with_reducible refine CW.region ?_
        | with_reducible refine CW.block ?_
        | with_reducible refine CW.ret ?_
        | with_reducible refine CW.skip ?_
        | with_reducible refine CW.exit ?_
        | refine CW.condT rfl ?_
        | refine CW.condF rfl ?_
        | (refine CW.condY rfl ?_ ?_; omega)
        | (refine CW.condN rfl ?_ ?_; omega))
    | with_reducible refine thenQ_normal ?_
    | with_reducible refine thenQ_ret ?_
    | with_reducible refine thenQ_exit ?_
    | with_reducible refine blockQ_normal ?_
    | with_reducible refine blockQ_ret ?_
    | with_reducible refine loopQ_ret ?_
    | with_reducible refine loopQ_exit ?_
    | with_reducible refine joinQ_ret ?_
    | with_reducible refine joinQ_exit ?_
    | refine blockQ_exit rfl ?_
    | refine blockQ_past rfl ?_
  exact retQ_ret [_] h1 ⟨rfl, trivial⟩ hs rfl

/-- the indexes of a place: made -/
theorem index_con (s : Value) (l : List Int) (a : Int) (w : World) (h : GHeap) (hl : IntsAt h s l) (hm : l.length ≤ 9223372036854775807) : Con Try.prog 29 [s, .int .i64 a] w h
    (fun h' v => ∃ u, v = .tuple #[u, .bool (indexSpec l a).2] ∧ IntsAt h' u (indexSpec l a).1) := by
  have hl' := hl
  obtain ⟨ad, cp, rfl, hS⟩ := hl
  refine Con.of_body Try.func29 rfl Try.ntmps29 rfl rfl ?_
  intro hs
  repeat
    first
    | (with_reducible refine RW.isRW ?_; first
        | refine RW.val (Y.move rfl) rfl ?_
        | refine RW.val (Y.assign rfl) rfl ?_
        | (with_reducible refine RW.isGuard ?_; first
            | refine RW.guardYes rfl rfl ?_
            | refine RW.guardNo rfl rfl rfl rfl ?_
            | refine RW.guardUndef rfl rfl rfl ?_
            | (refine RW.gdY rfl rfl ?_ ?_; omega)
            | (refine RW.gdN rfl rfl ?_ ?_; omega))
        | (with_reducible refine RW.isBin ?_; first
            | refine RW.val (Y.lss rfl rfl) rfl ?_
            | (refine RW.val (Y.add rfl rfl ?_) rfl ?_; omega)
            | refine RW.val (Y.eql rfl rfl) rfl ?_
            | refine RW.val (Y.neq rfl rfl) rfl ?_
            | refine RW.val (Y.gtr rfl rfl) rfl ?_
            | refine RW.val (Y.geq rfl rfl) rfl ?_
            | refine RW.val (Y.leq rfl rfl) rfl ?_
            | (refine RW.val (Y.sub rfl rfl ?_) rfl ?_; omega)
            | (refine RW.val (Y.quo rfl rfl ?_ ?_) rfl ?_; omega; omega)
            | (refine RW.val (Y.rem rfl rfl ?_ ?_) rfl ?_; omega; omega))
        | (with_reducible refine RW.isLoad ?_; first
            | (refine RW.val (Y.ldInt T hs rfl (by assumption) rfl rfl ?_) rfl ?_; omega)
            | (refine RW.val (Y.ldS T hs rfl (by assumption) rfl rfl ?_ (by assumption)) rfl ?_; omega))
        | (with_reducible refine RW.isIdx ?_; first
            | (refine RW.val (Y.idxSN T rfl rfl (by assumption) rfl rfl rfl ?_) rfl ?_; omega)
            | (refine RW.val (Y.idxS T rfl rfl (by assumption) rfl rfl rfl ?_) rfl ?_; omega))
        | (with_reducible refine RW.isCall ?_; first
            | refine RW.val (Y.len T rfl rfl) rfl ?_
            | refine RW.val (Y.max2 rfl rfl) rfl ?_
            | refine RW.val (Y.min2 rfl rfl) rfl ?_)
        | refine RW.val (Y.extract rfl rfl) rfl ?_
        | (with_reducible refine RW.isUn ?_; first
            | refine RW.val (Y.notD rfl) rfl ?_
            | refine RW.val (Y.not rfl) rfl ?_)
        | (with_reducible refine RW.isPick ?_; first
            | refine RW.val (Y.pickT rfl rfl) rfl ?_
            | refine RW.val (Y.pickF rfl rfl) rfl ?_)
        | with_reducible refine RW.nil ?_)
    | (with_reducible refine CW.isCW ?_; first
        | with_reducible refine CW.seq ?_
        | with_reducible refine CW.region ?_
        | with_reducible refine CW.block ?_
        | with_reducible refine CW.ret ?_
        | with_reducible refine CW.skip ?_
        | with_reducible refine CW.exit ?_
        | refine CW.condT rfl ?_
        | refine CW.condF rfl ?_
        | (refine CW.condY rfl ?_ ?_; omega)
        | (refine CW.condN rfl ?_ ?_; omega))
    | with_reducible refine thenQ_normal ?_
    | with_reducible refine thenQ_ret ?_
    | with_reducible refine thenQ_exit ?_
    | with_reducible refine blockQ_normal ?_
    | with_reducible refine blockQ_ret ?_
    | with_reducible refine loopQ_ret ?_
    | with_reducible refine loopQ_exit ?_
    | with_reducible refine joinQ_ret ?_
    | with_reducible refine joinQ_exit ?_
    | refine blockQ_exit rfl ?_
    | refine blockQ_past rfl ?_
  (refine RW.call T hs rfl rfl rfl (product_con _ l 1048576 _ _ hl' hm) ?_; intro v h1 w1 hle1 hp1 hs)
  subst hp1
  have hS := hS.mono hle1
  have bad : ¬ (goodS l = true ∧ 0 ≤ a ∧ a < (product l 1048576).1) → indexSpec l a = ([], false) := fun hn => by unfold indexSpec; rw [if_neg hn]
  repeat
    first
    | (with_reducible refine RW.isRW ?_; first
        | refine RW.val (Y.move rfl) rfl ?_
        | refine RW.val (Y.assign rfl) rfl ?_
        | (with_reducible refine RW.isGuard ?_; first
            | refine RW.guardYes rfl rfl ?_
            | refine RW.guardNo rfl rfl rfl rfl ?_
            | refine RW.guardUndef rfl rfl rfl ?_
            | (refine RW.gdY rfl rfl ?_ ?_; omega)
            | (refine RW.gdN rfl rfl ?_ ?_; omega))
        | (with_reducible refine RW.isBin ?_; first
            | refine RW.val (Y.lss rfl rfl) rfl ?_
            | (refine RW.val (Y.add rfl rfl ?_) rfl ?_; omega)
            | refine RW.val (Y.eql rfl rfl) rfl ?_
            | refine RW.val (Y.neq rfl rfl) rfl ?_
            | refine RW.val (Y.gtr rfl rfl) rfl ?_
            | refine RW.val (Y.geq rfl rfl) rfl ?_
            | refine RW.val (Y.leq rfl rfl) rfl ?_
            | (refine RW.val (Y.sub rfl rfl ?_) rfl ?_; omega)
            | (refine RW.val (Y.quo rfl rfl ?_ ?_) rfl ?_; omega; omega)
            | (refine RW.val (Y.rem rfl rfl ?_ ?_) rfl ?_; omega; omega))
        | (with_reducible refine RW.isLoad ?_; first
            | (refine RW.val (Y.ldInt T hs rfl (by assumption) rfl rfl ?_) rfl ?_; omega)
            | (refine RW.val (Y.ldS T hs rfl (by assumption) rfl rfl ?_ (by assumption)) rfl ?_; omega))
        | (with_reducible refine RW.isIdx ?_; first
            | (refine RW.val (Y.idxSN T rfl rfl (by assumption) rfl rfl rfl ?_) rfl ?_; omega)
            | (refine RW.val (Y.idxS T rfl rfl (by assumption) rfl rfl rfl ?_) rfl ?_; omega))
        | (with_reducible refine RW.isCall ?_; first
            | refine RW.val (Y.len T rfl rfl) rfl ?_
            | refine RW.val (Y.max2 rfl rfl) rfl ?_
            | refine RW.val (Y.min2 rfl rfl) rfl ?_)
        | refine RW.val (Y.extract rfl rfl) rfl ?_
        | (with_reducible refine RW.isUn ?_; first
            | refine RW.val (Y.notD rfl) rfl ?_
            | refine RW.val (Y.not rfl) rfl ?_)
        | (with_reducible refine RW.isPick ?_; first
            | refine RW.val (Y.pickT rfl rfl) rfl ?_
            | refine RW.val (Y.pickF rfl rfl) rfl ?_)
        | with_reducible refine RW.nil ?_)
    | (with_reducible refine CW.isCW ?_; first
        | with_reducible refine CW.seq ?_
        | with_reducible refine CW.region ?_
        | with_reducible refine CW.block ?_
        | with_reducible refine CW.ret ?_
        | with_reducible refine CW.skip ?_
        | with_reducible refine CW.exit ?_
        | refine CW.condT rfl ?_
        | refine CW.condF rfl ?_
        | (refine CW.condY rfl ?_ ?_; omega)
        | (refine CW.condN rfl ?_ ?_; omega))
    | with_reducible refine thenQ_normal ?_
    | with_reducible refine thenQ_ret ?_
    | with_reducible refine thenQ_exit ?_
    | with_reducible refine blockQ_normal ?_
    | with_reducible refine blockQ_ret ?_
    | with_reducible refine loopQ_ret ?_
    | with_reducible refine loopQ_exit ?_
    | with_reducible refine joinQ_ret ?_
    | with_reducible refine joinQ_exit ?_
    | refine blockQ_exit rfl ?_
    | refine blockQ_past rfl ?_
  refine RW.gd rfl rfl (fun hg => ?_) (fun hg => ?_)
  · have hb := bad (fun e => hg ((goodS_iff l).1 e.1))
    repeat
      first
      | (with_reducible refine RW.isRW ?_; first
          | refine RW.val (Y.move rfl) rfl ?_
          | refine RW.val (Y.assign rfl) rfl ?_
          | (with_reducible refine RW.isGuard ?_; first
              | refine RW.guardYes rfl rfl ?_
              | refine RW.guardNo rfl rfl rfl rfl ?_
              | refine RW.guardUndef rfl rfl rfl ?_
              | (refine RW.gdY rfl rfl ?_ ?_; omega)
              | (refine RW.gdN rfl rfl ?_ ?_; omega))
          | (with_reducible refine RW.isBin ?_; first
              | refine RW.val (Y.lss rfl rfl) rfl ?_
              | (refine RW.val (Y.add rfl rfl ?_) rfl ?_; omega)
              | refine RW.val (Y.eql rfl rfl) rfl ?_
              | refine RW.val (Y.neq rfl rfl) rfl ?_
              | refine RW.val (Y.gtr rfl rfl) rfl ?_
              | refine RW.val (Y.geq rfl rfl) rfl ?_
              | refine RW.val (Y.leq rfl rfl) rfl ?_
              | (refine RW.val (Y.sub rfl rfl ?_) rfl ?_; omega)
              | (refine RW.val (Y.quo rfl rfl ?_ ?_) rfl ?_; omega; omega)
              | (refine RW.val (Y.rem rfl rfl ?_ ?_) rfl ?_; omega; omega))
          | (with_reducible refine RW.isLoad ?_; first
              | (refine RW.val (Y.ldInt T hs rfl (by assumption) rfl rfl ?_) rfl ?_; omega)
              | (refine RW.val (Y.ldS T hs rfl (by assumption) rfl rfl ?_ (by assumption)) rfl ?_; omega))
          | (with_reducible refine RW.isIdx ?_; first
              | (refine RW.val (Y.idxSN T rfl rfl (by assumption) rfl rfl rfl ?_) rfl ?_; omega)
              | (refine RW.val (Y.idxS T rfl rfl (by assumption) rfl rfl rfl ?_) rfl ?_; omega))
          | (with_reducible refine RW.isCall ?_; first
              | refine RW.val (Y.len T rfl rfl) rfl ?_
              | refine RW.val (Y.max2 rfl rfl) rfl ?_
              | refine RW.val (Y.min2 rfl rfl) rfl ?_)
          | refine RW.val (Y.extract rfl rfl) rfl ?_
          | (with_reducible refine RW.isUn ?_; first
              | refine RW.val (Y.notD rfl) rfl ?_
              | refine RW.val (Y.not rfl) rfl ?_)
          | (with_reducible refine RW.isPick ?_; first
              | refine RW.val (Y.pickT rfl rfl) rfl ?_
              | refine RW.val (Y.pickF rfl rfl) rfl ?_)
          | with_reducible refine RW.nil ?_)
      | (with_reducible refine CW.isCW ?_; first
          | with_reducible refine CW.seq ?_
          | with_reducible refine CW.region ?_
          | with_reducible refine CW.block ?_
          | with_reducible refine CW.ret ?_
          | with_reducible refine CW.skip ?_
          | with_reducible refine CW.exit ?_
          | refine CW.condT rfl ?_
          | refine CW.condF rfl ?_
          | (refine CW.condY rfl ?_ ?_; omega)
          | (refine CW.condN rfl ?_ ?_; omega))
      | with_reducible refine thenQ_normal ?_
      | with_reducible refine thenQ_ret ?_
      | with_reducible refine thenQ_exit ?_
      | with_reducible refine blockQ_normal ?_
      | with_reducible refine blockQ_ret ?_
      | with_reducible refine loopQ_ret ?_
      | with_reducible refine loopQ_exit ?_
      | with_reducible refine joinQ_ret ?_
      | with_reducible refine joinQ_exit ?_
      | refine blockQ_exit rfl ?_
      | refine blockQ_past rfl ?_
    exact retQ_ret [_, _] h1 ⟨rfl, rfl, trivial⟩ hs (by rw [hb]; exact ⟨_, rfl, IntsAt.nil _⟩)
  have hg := Decidable.of_not_not hg
  repeat
    first
    | (with_reducible refine RW.isRW ?_; first
        | refine RW.val (Y.move rfl) rfl ?_
        | refine RW.val (Y.assign rfl) rfl ?_
        | (with_reducible refine RW.isGuard ?_; first
            | refine RW.guardYes rfl rfl ?_
            | refine RW.guardNo rfl rfl rfl rfl ?_
            | refine RW.guardUndef rfl rfl rfl ?_
            | (refine RW.gdY rfl rfl ?_ ?_; omega)
            | (refine RW.gdN rfl rfl ?_ ?_; omega))
        | (with_reducible refine RW.isBin ?_; first
            | refine RW.val (Y.lss rfl rfl) rfl ?_
            | (refine RW.val (Y.add rfl rfl ?_) rfl ?_; omega)
            | refine RW.val (Y.eql rfl rfl) rfl ?_
            | refine RW.val (Y.neq rfl rfl) rfl ?_
            | refine RW.val (Y.gtr rfl rfl) rfl ?_
            | refine RW.val (Y.geq rfl rfl) rfl ?_
            | refine RW.val (Y.leq rfl rfl) rfl ?_
            | (refine RW.val (Y.sub rfl rfl ?_) rfl ?_; omega)
            | (refine RW.val (Y.quo rfl rfl ?_ ?_) rfl ?_; omega; omega)
            | (refine RW.val (Y.rem rfl rfl ?_ ?_) rfl ?_; omega; omega))
        | (with_reducible refine RW.isLoad ?_; first
            | (refine RW.val (Y.ldInt T hs rfl (by assumption) rfl rfl ?_) rfl ?_; omega)
            | (refine RW.val (Y.ldS T hs rfl (by assumption) rfl rfl ?_ (by assumption)) rfl ?_; omega))
        | (with_reducible refine RW.isIdx ?_; first
            | (refine RW.val (Y.idxSN T rfl rfl (by assumption) rfl rfl rfl ?_) rfl ?_; omega)
            | (refine RW.val (Y.idxS T rfl rfl (by assumption) rfl rfl rfl ?_) rfl ?_; omega))
        | (with_reducible refine RW.isCall ?_; first
            | refine RW.val (Y.len T rfl rfl) rfl ?_
            | refine RW.val (Y.max2 rfl rfl) rfl ?_
            | refine RW.val (Y.min2 rfl rfl) rfl ?_)
        | refine RW.val (Y.extract rfl rfl) rfl ?_
        | (with_reducible refine RW.isUn ?_; first
            | refine RW.val (Y.notD rfl) rfl ?_
            | refine RW.val (Y.not rfl) rfl ?_)
        | (with_reducible refine RW.isPick ?_; first
            | refine RW.val (Y.pickT rfl rfl) rfl ?_
            | refine RW.val (Y.pickF rfl rfl) rfl ?_)
        | with_reducible refine RW.nil ?_)
    | (with_reducible refine CW.isCW ?_; first
        | with_reducible refine CW.seq ?_
        | with_reducible refine CW.region ?_
        | with_reducible refine CW.block ?_
        | with_reducible refine CW.ret ?_
        | with_reducible refine CW.skip ?_
        | with_reducible refine CW.exit ?_
        | refine CW.condT rfl ?_
        | refine CW.condF rfl ?_
        | (refine CW.condY rfl ?_ ?_; omega)
        | (refine CW.condN rfl ?_ ?_; omega))
    | with_reducible refine thenQ_normal ?_
    | with_reducible refine thenQ_ret ?_
    | with_reducible refine thenQ_exit ?_
    | with_reducible refine blockQ_normal ?_
    | with_reducible refine blockQ_ret ?_
    | with_reducible refine loopQ_ret ?_
    | with_reducible refine loopQ_exit ?_
    | with_reducible refine joinQ_ret ?_
    | with_reducible refine joinQ_exit ?_
    | refine blockQ_exit rfl ?_
    | refine blockQ_past rfl ?_
  refine RW.gd rfl rfl (fun h2 => ?_) (fun h2 => ?_)
  · have hb := bad (fun e => by omega)
    repeat
      first
      | (with_reducible refine RW.isRW ?_; first
          | refine RW.val (Y.move rfl) rfl ?_
          | refine RW.val (Y.assign rfl) rfl ?_
          | (with_reducible refine RW.isGuard ?_; first
              | refine RW.guardYes rfl rfl ?_
              | refine RW.guardNo rfl rfl rfl rfl ?_
              | refine RW.guardUndef rfl rfl rfl ?_
              | (refine RW.gdY rfl rfl ?_ ?_; omega)
              | (refine RW.gdN rfl rfl ?_ ?_; omega))
          | (with_reducible refine RW.isBin ?_; first
              | refine RW.val (Y.lss rfl rfl) rfl ?_
              | (refine RW.val (Y.add rfl rfl ?_) rfl ?_; omega)
              | refine RW.val (Y.eql rfl rfl) rfl ?_
              | refine RW.val (Y.neq rfl rfl) rfl ?_
              | refine RW.val (Y.gtr rfl rfl) rfl ?_
              | refine RW.val (Y.geq rfl rfl) rfl ?_
              | refine RW.val (Y.leq rfl rfl) rfl ?_
              | (refine RW.val (Y.sub rfl rfl ?_) rfl ?_; omega)
              | (refine RW.val (Y.quo rfl rfl ?_ ?_) rfl ?_; omega; omega)
              | (refine RW.val (Y.rem rfl rfl ?_ ?_) rfl ?_; omega; omega))
          | (with_reducible refine RW.isLoad ?_; first
              | (refine RW.val (Y.ldInt T hs rfl (by assumption) rfl rfl ?_) rfl ?_; omega)
              | (refine RW.val (Y.ldS T hs rfl (by assumption) rfl rfl ?_ (by assumption)) rfl ?_; omega))
          | (with_reducible refine RW.isIdx ?_; first
              | (refine RW.val (Y.idxSN T rfl rfl (by assumption) rfl rfl rfl ?_) rfl ?_; omega)
              | (refine RW.val (Y.idxS T rfl rfl (by assumption) rfl rfl rfl ?_) rfl ?_; omega))
          | (with_reducible refine RW.isCall ?_; first
              | refine RW.val (Y.len T rfl rfl) rfl ?_
              | refine RW.val (Y.max2 rfl rfl) rfl ?_
              | refine RW.val (Y.min2 rfl rfl) rfl ?_)
          | refine RW.val (Y.extract rfl rfl) rfl ?_
          | (with_reducible refine RW.isUn ?_; first
              | refine RW.val (Y.notD rfl) rfl ?_
              | refine RW.val (Y.not rfl) rfl ?_)
          | (with_reducible refine RW.isPick ?_; first
              | refine RW.val (Y.pickT rfl rfl) rfl ?_
              | refine RW.val (Y.pickF rfl rfl) rfl ?_)
          | with_reducible refine RW.nil ?_)
      | (with_reducible refine CW.isCW ?_; first
          | with_reducible refine CW.seq ?_
          | with_reducible refine CW.region ?_
          | with_reducible refine CW.block ?_
          | with_reducible refine CW.ret ?_
          | with_reducible refine CW.skip ?_
          | with_reducible refine CW.exit ?_
          | refine CW.condT rfl ?_
          | refine CW.condF rfl ?_
          | (refine CW.condY rfl ?_ ?_; omega)
          | (refine CW.condN rfl ?_ ?_; omega))
      | with_reducible refine thenQ_normal ?_
      | with_reducible refine thenQ_ret ?_
      | with_reducible refine thenQ_exit ?_
      | with_reducible refine blockQ_normal ?_
      | with_reducible refine blockQ_ret ?_
      | with_reducible refine loopQ_ret ?_
      | with_reducible refine loopQ_exit ?_
      | with_reducible refine joinQ_ret ?_
      | with_reducible refine joinQ_exit ?_
      | refine blockQ_exit rfl ?_
      | refine blockQ_past rfl ?_
    exact retQ_ret [_, _] h1 ⟨rfl, rfl, trivial⟩ hs (by rw [hb]; exact ⟨_, rfl, IntsAt.nil _⟩)
  repeat
    first
    | (with_reducible refine RW.isRW ?_; first
        | refine RW.val (Y.move rfl) rfl ?_
        | refine RW.val (Y.assign rfl) rfl ?_
        | (with_reducible refine RW.isGuard ?_; first
            | refine RW.guardYes rfl rfl ?_
            | refine RW.guardNo rfl rfl rfl rfl ?_
            | refine RW.guardUndef rfl rfl rfl ?_
            | (refine RW.gdY rfl rfl ?_ ?_; omega)
            | (refine RW.gdN rfl rfl ?_ ?_; omega))
        | (with_reducible refine RW.isBin ?_; first
            | refine RW.val (Y.lss rfl rfl) rfl ?_
            | (refine RW.val (Y.add rfl rfl ?_) rfl ?_; omega)
            | refine RW.val (Y.eql rfl rfl) rfl ?_
            | refine RW.val (Y.neq rfl rfl) rfl ?_
            | refine RW.val (Y.gtr rfl rfl) rfl ?_
            | refine RW.val (Y.geq rfl rfl) rfl ?_
            | refine RW.val (Y.leq rfl rfl) rfl ?_
            | (refine RW.val (Y.sub rfl rfl ?_) rfl ?_; omega)
            | (refine RW.val (Y.quo rfl rfl ?_ ?_) rfl ?_; omega; omega)
            | (refine RW.val (Y.rem rfl rfl ?_ ?_) rfl ?_; omega; omega))
        | (with_reducible refine RW.isLoad ?_; first
            | (refine RW.val (Y.ldInt T hs rfl (by assumption) rfl rfl ?_) rfl ?_; omega)
            | (refine RW.val (Y.ldS T hs rfl (by assumption) rfl rfl ?_ (by assumption)) rfl ?_; omega))
        | (with_reducible refine RW.isIdx ?_; first
            | (refine RW.val (Y.idxSN T rfl rfl (by assumption) rfl rfl rfl ?_) rfl ?_; omega)
            | (refine RW.val (Y.idxS T rfl rfl (by assumption) rfl rfl rfl ?_) rfl ?_; omega))
        | (with_reducible refine RW.isCall ?_; first
            | refine RW.val (Y.len T rfl rfl) rfl ?_
            | refine RW.val (Y.max2 rfl rfl) rfl ?_
            | refine RW.val (Y.min2 rfl rfl) rfl ?_)
        | refine RW.val (Y.extract rfl rfl) rfl ?_
        | (with_reducible refine RW.isUn ?_; first
            | refine RW.val (Y.notD rfl) rfl ?_
            | refine RW.val (Y.not rfl) rfl ?_)
        | (with_reducible refine RW.isPick ?_; first
            | refine RW.val (Y.pickT rfl rfl) rfl ?_
            | refine RW.val (Y.pickF rfl rfl) rfl ?_)
        | with_reducible refine RW.nil ?_)
    | (with_reducible refine CW.isCW ?_; first
        | with_reducible refine CW.seq ?_
        | with_reducible refine CW.region ?_
        | with_reducible refine CW.block ?_
        | with_reducible refine CW.ret ?_
        | with_reducible refine CW.skip ?_
        | with_reducible refine CW.exit ?_
        | refine CW.condT rfl ?_
        | refine CW.condF rfl ?_
        | (refine CW.condY rfl ?_ ?_; omega)
        | (refine CW.condN rfl ?_ ?_; omega))
    | with_reducible refine thenQ_normal ?_
    | with_reducible refine thenQ_ret ?_
    | with_reducible refine thenQ_exit ?_
    | with_reducible refine blockQ_normal ?_
    | with_reducible refine blockQ_ret ?_
    | with_reducible refine loopQ_ret ?_
    | with_reducible refine loopQ_exit ?_
    | with_reducible refine joinQ_ret ?_
    | with_reducible refine joinQ_exit ?_
    | refine blockQ_exit rfl ?_
    | refine blockQ_past rfl ?_
  refine CW.condD rfl (fun h3 => ?_) (fun h3 => ?_)
  · have hb := bad (fun e => by omega)
    repeat
      first
      | (with_reducible refine RW.isRW ?_; first
          | refine RW.val (Y.move rfl) rfl ?_
          | refine RW.val (Y.assign rfl) rfl ?_
          | (with_reducible refine RW.isGuard ?_; first
              | refine RW.guardYes rfl rfl ?_
              | refine RW.guardNo rfl rfl rfl rfl ?_
              | refine RW.guardUndef rfl rfl rfl ?_
              | (refine RW.gdY rfl rfl ?_ ?_; omega)
              | (refine RW.gdN rfl rfl ?_ ?_; omega))
          | (with_reducible refine RW.isBin ?_; first
              | refine RW.val (Y.lss rfl rfl) rfl ?_
              | (refine RW.val (Y.add rfl rfl ?_) rfl ?_; omega)
              | refine RW.val (Y.eql rfl rfl) rfl ?_
              | refine RW.val (Y.neq rfl rfl) rfl ?_
              | refine RW.val (Y.gtr rfl rfl) rfl ?_
              | refine RW.val (Y.geq rfl rfl) rfl ?_
              | refine RW.val (Y.leq rfl rfl) rfl ?_
              | (refine RW.val (Y.sub rfl rfl ?_) rfl ?_; omega)
              | (refine RW.val (Y.quo rfl rfl ?_ ?_) rfl ?_; omega; omega)
              | (refine RW.val (Y.rem rfl rfl ?_ ?_) rfl ?_; omega; omega))
          | (with_reducible refine RW.isLoad ?_; first
              | (refine RW.val (Y.ldInt T hs rfl (by assumption) rfl rfl ?_) rfl ?_; omega)
              | (refine RW.val (Y.ldS T hs rfl (by assumption) rfl rfl ?_ (by assumption)) rfl ?_; omega))
          | (with_reducible refine RW.isIdx ?_; first
              | (refine RW.val (Y.idxSN T rfl rfl (by assumption) rfl rfl rfl ?_) rfl ?_; omega)
              | (refine RW.val (Y.idxS T rfl rfl (by assumption) rfl rfl rfl ?_) rfl ?_; omega))
          | (with_reducible refine RW.isCall ?_; first
              | refine RW.val (Y.len T rfl rfl) rfl ?_
              | refine RW.val (Y.max2 rfl rfl) rfl ?_
              | refine RW.val (Y.min2 rfl rfl) rfl ?_)
          | refine RW.val (Y.extract rfl rfl) rfl ?_
          | (with_reducible refine RW.isUn ?_; first
              | refine RW.val (Y.notD rfl) rfl ?_
              | refine RW.val (Y.not rfl) rfl ?_)
          | (with_reducible refine RW.isPick ?_; first
              | refine RW.val (Y.pickT rfl rfl) rfl ?_
              | refine RW.val (Y.pickF rfl rfl) rfl ?_)
          | with_reducible refine RW.nil ?_)
      | (with_reducible refine CW.isCW ?_; first
          | with_reducible refine CW.seq ?_
          | with_reducible refine CW.region ?_
          | with_reducible refine CW.block ?_
          | with_reducible refine CW.ret ?_
          | with_reducible refine CW.skip ?_
          | with_reducible refine CW.exit ?_
          | refine CW.condT rfl ?_
          | refine CW.condF rfl ?_
          | (refine CW.condY rfl ?_ ?_; omega)
          | (refine CW.condN rfl ?_ ?_; omega))
      | with_reducible refine thenQ_normal ?_
      | with_reducible refine thenQ_ret ?_
      | with_reducible refine thenQ_exit ?_
      | with_reducible refine blockQ_normal ?_
      | with_reducible refine blockQ_ret ?_
      | with_reducible refine loopQ_ret ?_
      | with_reducible refine loopQ_exit ?_
      | with_reducible refine joinQ_ret ?_
      | with_reducible refine joinQ_exit ?_
      | refine blockQ_exit rfl ?_
      | refine blockQ_past rfl ?_
    exact retQ_ret [_, _] h1 ⟨rfl, rfl, trivial⟩ hs (by rw [hb]; exact ⟨_, rfl, IntsAt.nil _⟩)
  have hin : indexSpec l a = (idxOf l a, true) := by
    unfold indexSpec; rw [if_pos ⟨(goodS_iff l).2 hg, by omega, by omega⟩]
  obtain ⟨hpos, hprod⟩ := idx_pos l a ((goodS_iff l).2 hg) ⟨by omega, by omega⟩
  have hgs := (goodS_spec l).1 ((goodS_iff l).2 hg)
  have ha1 : a < 1048576 := by omega
  have ha0 : 0 ≤ a := by omega
  clear bad h2 h3
  repeat
    first
    | (with_reducible refine RW.isRW ?_; first
        | refine RW.val (Y.move rfl) rfl ?_
        | refine RW.val (Y.assign rfl) rfl ?_
        | (with_reducible refine RW.isGuard ?_; first
            | refine RW.guardYes rfl rfl ?_
            | refine RW.guardNo rfl rfl rfl rfl ?_
            | refine RW.guardUndef rfl rfl rfl ?_
            | (refine RW.gdY rfl rfl ?_ ?_; omega)
            | (refine RW.gdN rfl rfl ?_ ?_; omega))
        | (with_reducible refine RW.isBin ?_; first
            | refine RW.val (Y.lss rfl rfl) rfl ?_
            | (refine RW.val (Y.add rfl rfl ?_) rfl ?_; omega)
            | refine RW.val (Y.eql rfl rfl) rfl ?_
            | refine RW.val (Y.neq rfl rfl) rfl ?_
            | refine RW.val (Y.gtr rfl rfl) rfl ?_
            | refine RW.val (Y.geq rfl rfl) rfl ?_
            | refine RW.val (Y.leq rfl rfl) rfl ?_
            | (refine RW.val (Y.sub rfl rfl ?_) rfl ?_; omega)
            | (refine RW.val (Y.quo rfl rfl ?_ ?_) rfl ?_; omega; omega)
            | (refine RW.val (Y.rem rfl rfl ?_ ?_) rfl ?_; omega; omega))
        | (with_reducible refine RW.isLoad ?_; first
            | (refine RW.val (Y.ldInt T hs rfl (by assumption) rfl rfl ?_) rfl ?_; omega)
            | (refine RW.val (Y.ldS T hs rfl (by assumption) rfl rfl ?_ (by assumption)) rfl ?_; omega))
        | (with_reducible refine RW.isIdx ?_; first
            | (refine RW.val (Y.idxSN T rfl rfl (by assumption) rfl rfl rfl ?_) rfl ?_; omega)
            | (refine RW.val (Y.idxS T rfl rfl (by assumption) rfl rfl rfl ?_) rfl ?_; omega))
        | (with_reducible refine RW.isCall ?_; first
            | refine RW.val (Y.len T rfl rfl) rfl ?_
            | refine RW.val (Y.max2 rfl rfl) rfl ?_
            | refine RW.val (Y.min2 rfl rfl) rfl ?_)
        | refine RW.val (Y.extract rfl rfl) rfl ?_
        | (with_reducible refine RW.isUn ?_; first
            | refine RW.val (Y.notD rfl) rfl ?_
            | refine RW.val (Y.not rfl) rfl ?_)
        | (with_reducible refine RW.isPick ?_; first
            | refine RW.val (Y.pickT rfl rfl) rfl ?_
            | refine RW.val (Y.pickF rfl rfl) rfl ?_)
        | with_reducible refine RW.nil ?_)
    | (with_reducible refine CW.isCW ?_; first
        | with_reducible refine CW.seq ?_
        | with_reducible refine CW.region ?_
        | with_reducible refine CW.block ?_
        | with_reducible refine CW.ret ?_
        | with_reducible refine CW.skip ?_
        | with_reducible refine CW.exit ?_
        | refine CW.condT rfl ?_
        | refine CW.condF rfl ?_
        | (refine CW.condY rfl ?_ ?_; omega)
        | (refine CW.condN rfl ?_ ?_; omega))
    | with_reducible refine thenQ_normal ?_
    | with_reducible refine thenQ_ret ?_
    | with_reducible refine thenQ_exit ?_
    | with_reducible refine blockQ_normal ?_
    | with_reducible refine blockQ_ret ?_
    | with_reducible refine loopQ_ret ?_
    | with_reducible refine loopQ_exit ?_
    | with_reducible refine joinQ_ret ?_
    | with_reducible refine joinQ_exit ?_
    | refine blockQ_exit rfl ?_
    | refine blockQ_past rfl ?_
  (refine RW.make T hs rfl rfl rfl rfl rfl ?_ ?_ ?_ ?_ ?_; omega; omega; (dsimp only; omega); omega; intro b2 w2 hs)
  repeat
    first
    | (with_reducible refine RW.isRW ?_; first
        | refine RW.val (Y.move rfl) rfl ?_
        | refine RW.val (Y.assign rfl) rfl ?_
        | (with_reducible refine RW.isGuard ?_; first
            | refine RW.guardYes rfl rfl ?_
            | refine RW.guardNo rfl rfl rfl rfl ?_
            | refine RW.guardUndef rfl rfl rfl ?_
            | (refine RW.gdY rfl rfl ?_ ?_; omega)
            | (refine RW.gdN rfl rfl ?_ ?_; omega))
        | (with_reducible refine RW.isBin ?_; first
            | refine RW.val (Y.lss rfl rfl) rfl ?_
            | (refine RW.val (Y.add rfl rfl ?_) rfl ?_; omega)
            | refine RW.val (Y.eql rfl rfl) rfl ?_
            | refine RW.val (Y.neq rfl rfl) rfl ?_
            | refine RW.val (Y.gtr rfl rfl) rfl ?_
            | refine RW.val (Y.geq rfl rfl) rfl ?_
            | refine RW.val (Y.leq rfl rfl) rfl ?_
            | (refine RW.val (Y.sub rfl rfl ?_) rfl ?_; omega)
            | (refine RW.val (Y.quo rfl rfl ?_ ?_) rfl ?_; omega; omega)
            | (refine RW.val (Y.rem rfl rfl ?_ ?_) rfl ?_; omega; omega))
        | (with_reducible refine RW.isLoad ?_; first
            | (refine RW.val (Y.ldInt T hs rfl (by assumption) rfl rfl ?_) rfl ?_; omega)
            | (refine RW.val (Y.ldS T hs rfl (by assumption) rfl rfl ?_ (by assumption)) rfl ?_; omega))
        | (with_reducible refine RW.isIdx ?_; first
            | (refine RW.val (Y.idxSN T rfl rfl (by assumption) rfl rfl rfl ?_) rfl ?_; omega)
            | (refine RW.val (Y.idxS T rfl rfl (by assumption) rfl rfl rfl ?_) rfl ?_; omega))
        | (with_reducible refine RW.isCall ?_; first
            | refine RW.val (Y.len T rfl rfl) rfl ?_
            | refine RW.val (Y.max2 rfl rfl) rfl ?_
            | refine RW.val (Y.min2 rfl rfl) rfl ?_)
        | refine RW.val (Y.extract rfl rfl) rfl ?_
        | (with_reducible refine RW.isUn ?_; first
            | refine RW.val (Y.notD rfl) rfl ?_
            | refine RW.val (Y.not rfl) rfl ?_)
        | (with_reducible refine RW.isPick ?_; first
            | refine RW.val (Y.pickT rfl rfl) rfl ?_
            | refine RW.val (Y.pickF rfl rfl) rfl ?_)
        | with_reducible refine RW.nil ?_)
    | (with_reducible refine CW.isCW ?_; first
        | with_reducible refine CW.seq ?_
        | with_reducible refine CW.region ?_
        | with_reducible refine CW.block ?_
        | with_reducible refine CW.ret ?_
        | with_reducible refine CW.skip ?_
        | with_reducible refine CW.exit ?_
        | refine CW.condT rfl ?_
        | refine CW.condF rfl ?_
        | (refine CW.condY rfl ?_ ?_; omega)
        | (refine CW.condN rfl ?_ ?_; omega))
    | with_reducible refine thenQ_normal ?_
    | with_reducible refine thenQ_ret ?_
    | with_reducible refine thenQ_exit ?_
    | with_reducible refine blockQ_normal ?_
    | with_reducible refine blockQ_ret ?_
    | with_reducible refine loopQ_ret ?_
    | with_reducible refine loopQ_exit ?_
    | with_reducible refine joinQ_ret ?_
    | with_reducible refine joinQ_exit ?_
    | refine blockQ_exit rfl ?_
    | refine blockQ_past rfl ?_
  refine CW.loop (fun k : Nat => [(0, .slice ad l.length cp), (1, .int .i64 (a / prn (l.drop k))), (8, .slice (some ⟨b2, 0, none⟩) l.length l.length), (9, .int .i64 ((k : Int) - 1))]) (fun k w' => k ≤ l.length ∧ Sees w h h1 [⟨some ⟨b2, 0, none⟩, l.length, l.length, 3, 1, (List.replicate k 0 ++ (idxOf l a).drop k).map (Value.int .i64)⟩] w') (fun k => k) l.length ⟨rfl, seti (by simp [prn]), rfl, rfl, trivial⟩ ⟨by omega, hs.cast (by
    simp only [Int.toNat_natCast]
    rw [List.drop_of_length_le (by rw [length_idxOf]; omega), List.append_nil, List.map_replicate]
    exact congrArg (fun z => [Row.mk (some ⟨b2, 0, none⟩) l.length l.length 3 1 z]) (made_one _ _))⟩ ?_
  rintro k w' ⟨hk, hs⟩
  rcases k with _ | k
  · repeat
      first
      | (with_reducible refine RW.isRW ?_; first
          | refine RW.val (Y.move rfl) rfl ?_
          | refine RW.val (Y.assign rfl) rfl ?_
          | (with_reducible refine RW.isGuard ?_; first
              | refine RW.guardYes rfl rfl ?_
              | refine RW.guardNo rfl rfl rfl rfl ?_
              | refine RW.guardUndef rfl rfl rfl ?_
              | (refine RW.gdY rfl rfl ?_ ?_; omega)
              | (refine RW.gdN rfl rfl ?_ ?_; omega))
          | (with_reducible refine RW.isBin ?_; first
              | refine RW.val (Y.lss rfl rfl) rfl ?_
              | (refine RW.val (Y.add rfl rfl ?_) rfl ?_; omega)
              | refine RW.val (Y.eql rfl rfl) rfl ?_
              | refine RW.val (Y.neq rfl rfl) rfl ?_
              | refine RW.val (Y.gtr rfl rfl) rfl ?_
              | refine RW.val (Y.geq rfl rfl) rfl ?_
              | refine RW.val (Y.leq rfl rfl) rfl ?_
              | (refine RW.val (Y.sub rfl rfl ?_) rfl ?_; omega)
              | (refine RW.val (Y.quo rfl rfl ?_ ?_) rfl ?_; omega; omega)
              | (refine RW.val (Y.rem rfl rfl ?_ ?_) rfl ?_; omega; omega))
          | (with_reducible refine RW.isLoad ?_; first
              | (refine RW.val (Y.ldInt T hs rfl (by assumption) rfl rfl ?_) rfl ?_; omega)
              | (refine RW.val (Y.ldS T hs rfl (by assumption) rfl rfl ?_ (by assumption)) rfl ?_; omega))
          | (with_reducible refine RW.isIdx ?_; first
              | (refine RW.val (Y.idxSN T rfl rfl (by assumption) rfl rfl rfl ?_) rfl ?_; omega)
              | (refine RW.val (Y.idxS T rfl rfl (by assumption) rfl rfl rfl ?_) rfl ?_; omega))
          | (with_reducible refine RW.isCall ?_; first
              | refine RW.val (Y.len T rfl rfl) rfl ?_
              | refine RW.val (Y.max2 rfl rfl) rfl ?_
              | refine RW.val (Y.min2 rfl rfl) rfl ?_)
          | refine RW.val (Y.extract rfl rfl) rfl ?_
          | (with_reducible refine RW.isUn ?_; first
              | refine RW.val (Y.notD rfl) rfl ?_
              | refine RW.val (Y.not rfl) rfl ?_)
          | (with_reducible refine RW.isPick ?_; first
              | refine RW.val (Y.pickT rfl rfl) rfl ?_
              | refine RW.val (Y.pickF rfl rfl) rfl ?_)
          | with_reducible refine RW.nil ?_)
      | (with_reducible refine CW.isCW ?_; first
          | with_reducible refine CW.seq ?_
          | with_reducible refine CW.region ?_
          | with_reducible refine CW.block ?_
          | with_reducible refine CW.ret ?_
          | with_reducible refine CW.skip ?_
          | with_reducible refine CW.exit ?_
          | refine CW.condT rfl ?_
          | refine CW.condF rfl ?_
          | (refine CW.condY rfl ?_ ?_; omega)
          | (refine CW.condN rfl ?_ ?_; omega))
      | with_reducible refine thenQ_normal ?_
      | with_reducible refine thenQ_ret ?_
      | with_reducible refine thenQ_exit ?_
      | with_reducible refine blockQ_normal ?_
      | with_reducible refine blockQ_ret ?_
      | with_reducible refine loopQ_ret ?_
      | with_reducible refine loopQ_exit ?_
      | with_reducible refine joinQ_ret ?_
      | with_reducible refine joinQ_exit ?_
      | refine blockQ_exit rfl ?_
      | refine blockQ_past rfl ?_
    obtain ⟨h3, hle3, hs3, hS3⟩ := hs.freeze
    simp only [List.replicate_zero, List.nil_append, List.drop_zero] at hS3
    exact retQ_ret [_, _] h3 ⟨rfl, rfl, trivial⟩ hs3 (by rw [hin]; exact ⟨_, rfl, IntsAt.of_sl hS3⟩)
  · have e1 : ((k + 1 : Nat) : Int) - 1 = (k : Int) := by omega
    rw [e1]
    have hd := hpos (l.getD k 0) (by simp [List.getD_eq_getElem?_getD, show k < l.length by omega])
    have hpd := prn_pos (l.drop (k + 1)) (fun x hx => hpos x (List.mem_of_mem_drop hx))
    have hq0 : 0 ≤ a / prn (l.drop (k + 1)) := Int.ediv_nonneg ha0 (by omega)
    have hq1 : a / prn (l.drop (k + 1)) ≤ a := Int.ediv_le_self _ ha0
    repeat
      first
      | (with_reducible refine RW.isRW ?_; first
          | refine RW.val (Y.move rfl) rfl ?_
          | refine RW.val (Y.assign rfl) rfl ?_
          | (with_reducible refine RW.isGuard ?_; first
              | refine RW.guardYes rfl rfl ?_
              | refine RW.guardNo rfl rfl rfl rfl ?_
              | refine RW.guardUndef rfl rfl rfl ?_
              | (refine RW.gdY rfl rfl ?_ ?_; omega)
              | (refine RW.gdN rfl rfl ?_ ?_; omega))
          | (with_reducible refine RW.isBin ?_; first
              | refine RW.val (Y.lss rfl rfl) rfl ?_
              | (refine RW.val (Y.add rfl rfl ?_) rfl ?_; omega)
              | refine RW.val (Y.eql rfl rfl) rfl ?_
              | refine RW.val (Y.neq rfl rfl) rfl ?_
              | refine RW.val (Y.gtr rfl rfl) rfl ?_
              | refine RW.val (Y.geq rfl rfl) rfl ?_
              | refine RW.val (Y.leq rfl rfl) rfl ?_
              | (refine RW.val (Y.sub rfl rfl ?_) rfl ?_; omega)
              | (refine RW.val (Y.quo rfl rfl ?_ ?_) rfl ?_; omega; omega)
              | (refine RW.val (Y.rem rfl rfl ?_ ?_) rfl ?_; omega; omega))
          | (with_reducible refine RW.isLoad ?_; first
              | (refine RW.val (Y.ldInt T hs rfl (by assumption) rfl rfl ?_) rfl ?_; omega)
              | (refine RW.val (Y.ldS T hs rfl (by assumption) rfl rfl ?_ (by assumption)) rfl ?_; omega))
          | (with_reducible refine RW.isIdx ?_; first
              | (refine RW.val (Y.idxSN T rfl rfl (by assumption) rfl rfl rfl ?_) rfl ?_; omega)
              | (refine RW.val (Y.idxS T rfl rfl (by assumption) rfl rfl rfl ?_) rfl ?_; omega))
          | (with_reducible refine RW.isCall ?_; first
              | refine RW.val (Y.len T rfl rfl) rfl ?_
              | refine RW.val (Y.max2 rfl rfl) rfl ?_
              | refine RW.val (Y.min2 rfl rfl) rfl ?_)
          | refine RW.val (Y.extract rfl rfl) rfl ?_
          | (with_reducible refine RW.isUn ?_; first
              | refine RW.val (Y.notD rfl) rfl ?_
              | refine RW.val (Y.not rfl) rfl ?_)
          | (with_reducible refine RW.isPick ?_; first
              | refine RW.val (Y.pickT rfl rfl) rfl ?_
              | refine RW.val (Y.pickF rfl rfl) rfl ?_)
          | with_reducible refine RW.nil ?_)
      | (with_reducible refine CW.isCW ?_; first
          | with_reducible refine CW.seq ?_
          | with_reducible refine CW.region ?_
          | with_reducible refine CW.block ?_
          | with_reducible refine CW.ret ?_
          | with_reducible refine CW.skip ?_
          | with_reducible refine CW.exit ?_
          | refine CW.condT rfl ?_
          | refine CW.condF rfl ?_
          | (refine CW.condY rfl ?_ ?_; omega)
          | (refine CW.condN rfl ?_ ?_; omega))
      | with_reducible refine thenQ_normal ?_
      | with_reducible refine thenQ_ret ?_
      | with_reducible refine thenQ_exit ?_
      | with_reducible refine blockQ_normal ?_
      | with_reducible refine blockQ_ret ?_
      | with_reducible refine loopQ_ret ?_
      | with_reducible refine loopQ_exit ?_
      | with_reducible refine joinQ_ret ?_
      | with_reducible refine joinQ_exit ?_
      | refine blockQ_exit rfl ?_
      | refine blockQ_past rfl ?_
    refine RW.val (Y.idxRN T hs 0 rfl rfl rfl rfl rfl rfl ?_) rfl ?_
    · omega
    refine RW.st1 T hs 0 rfl rfl rfl rfl rfl rfl rfl (by omega) ?_
    intro w2 hs
    repeat
      first
      | (with_reducible refine RW.isRW ?_; first
          | refine RW.val (Y.move rfl) rfl ?_
          | refine RW.val (Y.assign rfl) rfl ?_
          | (with_reducible refine RW.isGuard ?_; first
              | refine RW.guardYes rfl rfl ?_
              | refine RW.guardNo rfl rfl rfl rfl ?_
              | refine RW.guardUndef rfl rfl rfl ?_
              | (refine RW.gdY rfl rfl ?_ ?_; omega)
              | (refine RW.gdN rfl rfl ?_ ?_; omega))
          | (with_reducible refine RW.isBin ?_; first
              | refine RW.val (Y.lss rfl rfl) rfl ?_
              | (refine RW.val (Y.add rfl rfl ?_) rfl ?_; omega)
              | refine RW.val (Y.eql rfl rfl) rfl ?_
              | refine RW.val (Y.neq rfl rfl) rfl ?_
              | refine RW.val (Y.gtr rfl rfl) rfl ?_
              | refine RW.val (Y.geq rfl rfl) rfl ?_
              | refine RW.val (Y.leq rfl rfl) rfl ?_
              | (refine RW.val (Y.sub rfl rfl ?_) rfl ?_; omega)
              | (refine RW.val (Y.quo rfl rfl ?_ ?_) rfl ?_; omega; omega)
              | (refine RW.val (Y.rem rfl rfl ?_ ?_) rfl ?_; omega; omega))
          | (with_reducible refine RW.isLoad ?_; first
              | (refine RW.val (Y.ldInt T hs rfl (by assumption) rfl rfl ?_) rfl ?_; omega)
              | (refine RW.val (Y.ldS T hs rfl (by assumption) rfl rfl ?_ (by assumption)) rfl ?_; omega))
          | (with_reducible refine RW.isIdx ?_; first
              | (refine RW.val (Y.idxSN T rfl rfl (by assumption) rfl rfl rfl ?_) rfl ?_; omega)
              | (refine RW.val (Y.idxS T rfl rfl (by assumption) rfl rfl rfl ?_) rfl ?_; omega))
          | (with_reducible refine RW.isCall ?_; first
              | refine RW.val (Y.len T rfl rfl) rfl ?_
              | refine RW.val (Y.max2 rfl rfl) rfl ?_
              | refine RW.val (Y.min2 rfl rfl) rfl ?_)
          | refine RW.val (Y.extract rfl rfl) rfl ?_
          | (with_reducible refine RW.isUn ?_; first
              | refine RW.val (Y.notD rfl) rfl ?_
              | refine RW.val (Y.not rfl) rfl ?_)
          | (with_reducible refine RW.isPick ?_; first
              | refine RW.val (Y.pickT rfl rfl) rfl ?_
              | refine RW.val (Y.pickF rfl rfl) rfl ?_)
          | with_reducible refine RW.nil ?_)
      | (with_reducible refine CW.isCW ?_; first
          | with_reducible refine CW.seq ?_
          | with_reducible refine CW.region ?_
          | with_reducible refine CW.block ?_
          | with_reducible refine CW.ret ?_
          | with_reducible refine CW.skip ?_
          | with_reducible refine CW.exit ?_
          | refine CW.condT rfl ?_
          | refine CW.condF rfl ?_
          | (refine CW.condY rfl ?_ ?_; omega)
          | (refine CW.condN rfl ?_ ?_; omega))
      | with_reducible refine thenQ_normal ?_
      | with_reducible refine thenQ_ret ?_
      | with_reducible refine thenQ_exit ?_
      | with_reducible refine blockQ_normal ?_
      | with_reducible refine blockQ_ret ?_
      | with_reducible refine loopQ_ret ?_
      | with_reducible refine loopQ_exit ?_
      | with_reducible refine joinQ_ret ?_
      | with_reducible refine joinQ_exit ?_
      | refine blockQ_exit rfl ?_
      | refine blockQ_past rfl ?_
    refine loopQ_round k ⟨rfl, seti (by rw [prn_drop l k (by omega), Int.mul_comm, Int.ediv_ediv_of_nonneg (by omega)]), rfl, rfl, trivial⟩ ⟨by omega, hs.cast ?_⟩ (by omega)
    rw [map_set_int]
    refine congrArg (fun (z : List Int) => [Row.mk (some ⟨b2, 0, none⟩) l.length l.length 3 1 (z.map (Value.int .i64))]) ?_
    rw [List.replicate_succ', List.append_assoc, List.set_append_right _ _ (by simp)]
    simp only [List.length_replicate, Nat.sub_self]
    rw [drop_pred (idxOf l a) k (by rw [length_idxOf]; omega), getD_idxOf l a k (by omega)]
    simp
end Go.Proofs.Ytdpkioffihebnaa
