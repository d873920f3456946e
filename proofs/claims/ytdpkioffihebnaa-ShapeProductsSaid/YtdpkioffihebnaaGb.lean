/-
  Contracts of the law's own functions of layer 6, second part: the law on products. No statement is proved here.
-/
import Derived.Test.YtdpkioffihebnaaGa
namespace Go.Proofs.Ytdpkioffihebnaa
open Go Go.RowKit
attribute [local irreducible] CW RW QW SW HW ConM retM heldQ calmQ elemP thenQ blockQ loopQ joinQ retQ Yields Con Sl

theorem shapeProducts_con (s : Value) (l : List Int) (most : Int) (w : World) (h : GHeap) (hl : IntsAt h s l) (hm : l.length ≤ 9223372036854775807) : Con Try.prog 3 [s, .int .i64 most] w h (fun _ v => v = .bool true) := by
  have hl' := hl
  obtain ⟨ad, cp, rfl, hS⟩ := hl
  refine Con.of_body Try.func3 rfl Try.ntmps3 rfl rfl ?_
  intro hs
  repeat
    first
    | (with_reducible refine RW.isRW ?_; first
        | refine RW.val (Y.move rfl) rfl ?_
        | refine RW.val (Y.assign rfl) rfl ?_
        | (with_reducible refine RW.isGuard ?_; first
            | refine RW.guardYes rfl rfl ?_
            | refine RW.guardNo rfl rfl rfl rfl ?_
            | refine RW.guardUndef rfl rfl rfl ?_
            | (refine RW.gdY rfl rfl ?_ ?_; omega)
            | (refine RW.gdN rfl rfl ?_ ?_; omega))
        | (with_reducible refine RW.isBin ?_; first
            | refine RW.val (Y.lss rfl rfl) rfl ?_
            | (refine RW.val (Y.add rfl rfl ?_) rfl ?_; omega)
            | refine RW.val (Y.eql rfl rfl) rfl ?_
            | refine RW.val (Y.neq rfl rfl) rfl ?_
            | refine RW.val (Y.gtr rfl rfl) rfl ?_
            | refine RW.val (Y.geq rfl rfl) rfl ?_
            | refine RW.val (Y.leq rfl rfl) rfl ?_
            | (refine RW.val (Y.sub rfl rfl ?_) rfl ?_; omega)
            | (refine RW.val (Y.quo rfl rfl ?_ ?_) rfl ?_; omega; omega)
            | (refine RW.val (Y.rem rfl rfl ?_ ?_) rfl ?_; omega; omega))
        | (with_reducible refine RW.isLoad ?_; first
            | (refine RW.val (Y.ldInt T hs rfl (by assumption) rfl rfl ?_) rfl ?_; omega)
            | (refine RW.val (Y.ldS T hs rfl (by assumption) rfl rfl ?_ (by assumption)) rfl ?_; omega))
        | (with_reducible refine RW.isIdx ?_; first
            | (refine RW.val (Y.idxSN T rfl rfl (by assumption) rfl rfl rfl ?_) rfl ?_; omega)
            | (refine RW.val (Y.idxS T rfl rfl (by assumption) rfl rfl rfl ?_) rfl ?_; omega))
        | (with_reducible refine RW.isCall ?_; first
            | refine RW.val (Y.len T rfl rfl) rfl ?_
            | refine RW.val (Y.max2 rfl rfl) rfl ?_
            | refine RW.val (Y.min2 rfl rfl) rfl ?_)
        | refine RW.val (Y.extract rfl rfl) rfl ?_
        | (with_reducible refine RW.isUn ?_; first
            | refine RW.val (Y.notD rfl) rfl ?_
            | refine RW.val (Y.not rfl) rfl ?_)
        | (with_reducible refine RW.isPick ?_; first
            | refine RW.val (Y.pickT rfl rfl) rfl ?_
            | refine RW.val (Y.pickF rfl rfl) rfl ?_)
        | with_reducible refine RW.nil ?_)
    | (with_reducible refine CW.isCW ?_; first
        | with_reducible refine CW.seq ?_
        | with_reducible refine CW.region ?_
        | with_reducible refine CW.block ?_
        | with_reducible refine CW.ret ?_
        | with_reducible refine CW.skip ?_
        | with_reducible refine CW.exit ?_
        | refine CW.condT rfl ?_
        | refine CW.condF rfl ?_
        | (refine CW.condY rfl ?_ ?_; omega)
        | (refine CW.condN rfl ?_ ?_; omega))
    | with_reducible refine thenQ_normal ?_
    | with_reducible refine thenQ_ret ?_
    | with_reducible refine thenQ_exit ?_
    | with_reducible refine blockQ_normal ?_
    | with_reducible refine blockQ_ret ?_
    | with_reducible refine loopQ_ret ?_
    | with_reducible refine loopQ_exit ?_
    | with_reducible refine joinQ_ret ?_
    | with_reducible refine joinQ_exit ?_
    | refine blockQ_exit rfl ?_
    | refine blockQ_past rfl ?_
  refine CW.condD rfl (fun h60 => ?_) (fun h60 => ?_)
  · repeat
      first
      | (with_reducible refine RW.isRW ?_; first
          | refine RW.val (Y.move rfl) rfl ?_
          | refine RW.val (Y.assign rfl) rfl ?_
          | (with_reducible refine RW.isGuard ?_; first
              | refine RW.guardYes rfl rfl ?_
              | refine RW.guardNo rfl rfl rfl rfl ?_
              | refine RW.guardUndef rfl rfl rfl ?_
              | (refine RW.gdY rfl rfl ?_ ?_; omega)
              | (refine RW.gdN rfl rfl ?_ ?_; omega))
          | (with_reducible refine RW.isBin ?_; first
              | refine RW.val (Y.lss rfl rfl) rfl ?_
              | (refine RW.val (Y.add rfl rfl ?_) rfl ?_; omega)
              | refine RW.val (Y.eql rfl rfl) rfl ?_
              | refine RW.val (Y.neq rfl rfl) rfl ?_
              | refine RW.val (Y.gtr rfl rfl) rfl ?_
              | refine RW.val (Y.geq rfl rfl) rfl ?_
              | refine RW.val (Y.leq rfl rfl) rfl ?_
              | (refine RW.val (Y.sub rfl rfl ?_) rfl ?_; omega)
              | (refine RW.val (Y.quo rfl rfl ?_ ?_) rfl ?_; omega; omega)
              | (refine RW.val (Y.rem rfl rfl ?_ ?_) rfl ?_; omega; omega))
          | (with_reducible refine RW.isLoad ?_; first
              | (refine RW.val (Y.ldInt T hs rfl (by assumption) rfl rfl ?_) rfl ?_; omega)
              | (refine RW.val (Y.ldS T hs rfl (by assumption) rfl rfl ?_ (by assumption)) rfl ?_; omega))
          | (with_reducible refine RW.isIdx ?_; first
              | (refine RW.val (Y.idxSN T rfl rfl (by assumption) rfl rfl rfl ?_) rfl ?_; omega)
              | (refine RW.val (Y.idxS T rfl rfl (by assumption) rfl rfl rfl ?_) rfl ?_; omega))
          | (with_reducible refine RW.isCall ?_; first
              | refine RW.val (Y.len T rfl rfl) rfl ?_
              | refine RW.val (Y.max2 rfl rfl) rfl ?_
              | refine RW.val (Y.min2 rfl rfl) rfl ?_)
          | refine RW.val (Y.extract rfl rfl) rfl ?_
          | (with_reducible refine RW.isUn ?_; first
              | refine RW.val (Y.notD rfl) rfl ?_
              | refine RW.val (Y.not rfl) rfl ?_)
          | (with_reducible refine RW.isPick ?_; first
              | refine RW.val (Y.pickT rfl rfl) rfl ?_
              | refine RW.val (Y.pickF rfl rfl) rfl ?_)
          | with_reducible refine RW.nil ?_)
      | (with_reducible refine CW.isCW ?_; first
          | with_reducible refine CW.seq ?_
          | with_reducible refine CW.region ?_
          | with_reducible refine CW.block ?_
          | with_reducible refine CW.ret ?_
          | with_reducible refine CW.skip ?_
          | with_reducible refine CW.exit ?_
          | refine CW.condT rfl ?_
          | refine CW.condF rfl ?_
          | (refine CW.condY rfl ?_ ?_; omega)
          | (refine CW.condN rfl ?_ ?_; omega))
      | with_reducible refine thenQ_normal ?_
      | with_reducible refine thenQ_ret ?_
      | with_reducible refine thenQ_exit ?_
      | with_reducible refine blockQ_normal ?_
      | with_reducible refine blockQ_ret ?_
      | with_reducible refine loopQ_ret ?_
      | with_reducible refine loopQ_exit ?_
      | with_reducible refine joinQ_ret ?_
      | with_reducible refine joinQ_exit ?_
      | refine blockQ_exit rfl ?_
      | refine blockQ_past rfl ?_
    (refine RW.call T hs rfl rfl rfl (awake06_con _ _) ?_; intro v h1 w1 hle1 hp1 hs)
    subst hp1
    repeat
      first
      | (with_reducible refine RW.isRW ?_; first
          | refine RW.val (Y.move rfl) rfl ?_
          | refine RW.val (Y.assign rfl) rfl ?_
          | (with_reducible refine RW.isGuard ?_; first
              | refine RW.guardYes rfl rfl ?_
              | refine RW.guardNo rfl rfl rfl rfl ?_
              | refine RW.guardUndef rfl rfl rfl ?_
              | (refine RW.gdY rfl rfl ?_ ?_; omega)
              | (refine RW.gdN rfl rfl ?_ ?_; omega))
          | (with_reducible refine RW.isBin ?_; first
              | refine RW.val (Y.lss rfl rfl) rfl ?_
              | (refine RW.val (Y.add rfl rfl ?_) rfl ?_; omega)
              | refine RW.val (Y.eql rfl rfl) rfl ?_
              | refine RW.val (Y.neq rfl rfl) rfl ?_
              | refine RW.val (Y.gtr rfl rfl) rfl ?_
              | refine RW.val (Y.geq rfl rfl) rfl ?_
              | refine RW.val (Y.leq rfl rfl) rfl ?_
              | (refine RW.val (Y.sub rfl rfl ?_) rfl ?_; omega)
              | (refine RW.val (Y.quo rfl rfl ?_ ?_) rfl ?_; omega; omega)
              | (refine RW.val (Y.rem rfl rfl ?_ ?_) rfl ?_; omega; omega))
          | (with_reducible refine RW.isLoad ?_; first
              | (refine RW.val (Y.ldInt T hs rfl (by assumption) rfl rfl ?_) rfl ?_; omega)
              | (refine RW.val (Y.ldS T hs rfl (by assumption) rfl rfl ?_ (by assumption)) rfl ?_; omega))
          | (with_reducible refine RW.isIdx ?_; first
              | (refine RW.val (Y.idxSN T rfl rfl (by assumption) rfl rfl rfl ?_) rfl ?_; omega)
              | (refine RW.val (Y.idxS T rfl rfl (by assumption) rfl rfl rfl ?_) rfl ?_; omega))
          | (with_reducible refine RW.isCall ?_; first
              | refine RW.val (Y.len T rfl rfl) rfl ?_
              | refine RW.val (Y.max2 rfl rfl) rfl ?_
              | refine RW.val (Y.min2 rfl rfl) rfl ?_)
          | refine RW.val (Y.extract rfl rfl) rfl ?_
          | (with_reducible refine RW.isUn ?_; first
              | refine RW.val (Y.notD rfl) rfl ?_
              | refine RW.val (Y.not rfl) rfl ?_)
          | (with_reducible refine RW.isPick ?_; first
              | refine RW.val (Y.pickT rfl rfl) rfl ?_
              | refine RW.val (Y.pickF rfl rfl) rfl ?_)
          | with_reducible refine RW.nil ?_)
      | (with_reducible refine CW.isCW ?_; first
          | with_reducible refine CW.seq ?_
          | with_reducible refine CW.region ?_
          | with_reducible refine CW.block ?_
          | with_reducible refine CW.ret ?_
          | with_reducible refine CW.skip ?_
          | with_reducible refine CW.exit ?_
          | refine CW.condT rfl ?_
          | refine CW.condF rfl ?_
          | (refine CW.condY rfl ?_ ?_; omega)
          | (refine CW.condN rfl ?_ ?_; omega))
      | with_reducible refine thenQ_normal ?_
      | with_reducible refine thenQ_ret ?_
      | with_reducible refine thenQ_exit ?_
      | with_reducible refine blockQ_normal ?_
      | with_reducible refine blockQ_ret ?_
      | with_reducible refine loopQ_ret ?_
      | with_reducible refine loopQ_exit ?_
      | with_reducible refine joinQ_ret ?_
      | with_reducible refine joinQ_exit ?_
      | refine blockQ_exit rfl ?_
      | refine blockQ_past rfl ?_
    exact retQ_ret [_] h1 ⟨rfl, trivial⟩ hs rfl
  repeat
    first
    | (with_reducible refine RW.isRW ?_; first
        | refine RW.val (Y.move rfl) rfl ?_
        | refine RW.val (Y.assign rfl) rfl ?_
        | (with_reducible refine RW.isGuard ?_; first
            | refine RW.guardYes rfl rfl ?_
            | refine RW.guardNo rfl rfl rfl rfl ?_
            | refine RW.guardUndef rfl rfl rfl ?_
            | (refine RW.gdY rfl rfl ?_ ?_; omega)
            | (refine RW.gdN rfl rfl ?_ ?_; omega))
        | (with_reducible refine RW.isBin ?_; first
            | refine RW.val (Y.lss rfl rfl) rfl ?_
            | (refine RW.val (Y.add rfl rfl ?_) rfl ?_; omega)
            | refine RW.val (Y.eql rfl rfl) rfl ?_
            | refine RW.val (Y.neq rfl rfl) rfl ?_
            | refine RW.val (Y.gtr rfl rfl) rfl ?_
            | refine RW.val (Y.geq rfl rfl) rfl ?_
            | refine RW.val (Y.leq rfl rfl) rfl ?_
            | (refine RW.val (Y.sub rfl rfl ?_) rfl ?_; omega)
            | (refine RW.val (Y.quo rfl rfl ?_ ?_) rfl ?_; omega; omega)
            | (refine RW.val (Y.rem rfl rfl ?_ ?_) rfl ?_; omega; omega))
        | (with_reducible refine RW.isLoad ?_; first
            | (refine RW.val (Y.ldInt T hs rfl (by assumption) rfl rfl ?_) rfl ?_; omega)
            | (refine RW.val (Y.ldS T hs rfl (by assumption) rfl rfl ?_ (by assumption)) rfl ?_; omega))
        | (with_reducible refine RW.isIdx ?_; first
            | (refine RW.val (Y.idxSN T rfl rfl (by assumption) rfl rfl rfl ?_) rfl ?_; omega)
            | (refine RW.val (Y.idxS T rfl rfl (by assumption) rfl rfl rfl ?_) rfl ?_; omega))
        | (with_reducible refine RW.isCall ?_; first
            | refine RW.val (Y.len T rfl rfl) rfl ?_
            | refine RW.val (Y.max2 rfl rfl) rfl ?_
            | refine RW.val (Y.min2 rfl rfl) rfl ?_)
        | refine RW.val (Y.extract rfl rfl) rfl ?_
        | (with_reducible refine RW.isUn ?_; first
            | refine RW.val (Y.notD rfl) rfl ?_
            | refine RW.val (Y.not rfl) rfl ?_)
        | (with_reducible refine RW.isPick ?_; first
            | refine RW.val (Y.pickT rfl rfl) rfl ?_
            | refine RW.val (Y.pickF rfl rfl) rfl ?_)
        | with_reducible refine RW.nil ?_)
    | (with_reducible refine CW.isCW ?_; first
        | with_reducible refine CW.seq ?_
        | with_reducible refine CW.region ?_
        | with_reducible refine CW.block ?_
        | with_reducible refine CW.ret ?_
        | with_reducible refine CW.skip ?_
        | with_reducible refine CW.exit ?_
        | refine CW.condT rfl ?_
        | refine CW.condF rfl ?_
        | (refine CW.condY rfl ?_ ?_; omega)
        | (refine CW.condN rfl ?_ ?_; omega))
    | with_reducible refine thenQ_normal ?_
    | with_reducible refine thenQ_ret ?_
    | with_reducible refine thenQ_exit ?_
    | with_reducible refine blockQ_normal ?_
    | with_reducible refine blockQ_ret ?_
    | with_reducible refine loopQ_ret ?_
    | with_reducible refine loopQ_exit ?_
    | with_reducible refine joinQ_ret ?_
    | with_reducible refine joinQ_exit ?_
    | refine blockQ_exit rfl ?_
    | refine blockQ_past rfl ?_
  (refine RW.call T hs rfl rfl rfl (product_con _ l most _ _ hl' hm) ?_; intro v h1 w1 hle1 hp1 hs)
  subst hp1
  have hl' := hl'.mono hle1
  repeat
    first
    | (with_reducible refine RW.isRW ?_; first
        | refine RW.val (Y.move rfl) rfl ?_
        | refine RW.val (Y.assign rfl) rfl ?_
        | (with_reducible refine RW.isGuard ?_; first
            | refine RW.guardYes rfl rfl ?_
            | refine RW.guardNo rfl rfl rfl rfl ?_
            | refine RW.guardUndef rfl rfl rfl ?_
            | (refine RW.gdY rfl rfl ?_ ?_; omega)
            | (refine RW.gdN rfl rfl ?_ ?_; omega))
        | (with_reducible refine RW.isBin ?_; first
            | refine RW.val (Y.lss rfl rfl) rfl ?_
            | (refine RW.val (Y.add rfl rfl ?_) rfl ?_; omega)
            | refine RW.val (Y.eql rfl rfl) rfl ?_
            | refine RW.val (Y.neq rfl rfl) rfl ?_
            | refine RW.val (Y.gtr rfl rfl) rfl ?_
            | refine RW.val (Y.geq rfl rfl) rfl ?_
            | refine RW.val (Y.leq rfl rfl) rfl ?_
            | (refine RW.val (Y.sub rfl rfl ?_) rfl ?_; omega)
            | (refine RW.val (Y.quo rfl rfl ?_ ?_) rfl ?_; omega; omega)
            | (refine RW.val (Y.rem rfl rfl ?_ ?_) rfl ?_; omega; omega))
        | (with_reducible refine RW.isLoad ?_; first
            | (refine RW.val (Y.ldInt T hs rfl (by assumption) rfl rfl ?_) rfl ?_; omega)
            | (refine RW.val (Y.ldS T hs rfl (by assumption) rfl rfl ?_ (by assumption)) rfl ?_; omega))
        | (with_reducible refine RW.isIdx ?_; first
            | (refine RW.val (Y.idxSN T rfl rfl (by assumption) rfl rfl rfl ?_) rfl ?_; omega)
            | (refine RW.val (Y.idxS T rfl rfl (by assumption) rfl rfl rfl ?_) rfl ?_; omega))
        | (with_reducible refine RW.isCall ?_; first
            | refine RW.val (Y.len T rfl rfl) rfl ?_
            | refine RW.val (Y.max2 rfl rfl) rfl ?_
            | refine RW.val (Y.min2 rfl rfl) rfl ?_)
        | refine RW.val (Y.extract rfl rfl) rfl ?_
        | (with_reducible refine RW.isUn ?_; first
            | refine RW.val (Y.notD rfl) rfl ?_
            | refine RW.val (Y.not rfl) rfl ?_)
        | (with_reducible refine RW.isPick ?_; first
            | refine RW.val (Y.pickT rfl rfl) rfl ?_
            | refine RW.val (Y.pickF rfl rfl) rfl ?_)
        | with_reducible refine RW.nil ?_)
    | (with_reducible refine CW.isCW ?_; first
        | with_reducible refine CW.seq ?_
        | with_reducible refine CW.region ?_
        | with_reducible refine CW.block ?_
        | with_reducible refine CW.ret ?_
        | with_reducible refine CW.skip ?_
        | with_reducible refine CW.exit ?_
        | refine CW.condT rfl ?_
        | refine CW.condF rfl ?_
        | (refine CW.condY rfl ?_ ?_; omega)
        | (refine CW.condN rfl ?_ ?_; omega))
    | with_reducible refine thenQ_normal ?_
    | with_reducible refine thenQ_ret ?_
    | with_reducible refine thenQ_exit ?_
    | with_reducible refine blockQ_normal ?_
    | with_reducible refine blockQ_ret ?_
    | with_reducible refine loopQ_ret ?_
    | with_reducible refine loopQ_exit ?_
    | with_reducible refine joinQ_ret ?_
    | with_reducible refine joinQ_exit ?_
    | refine blockQ_exit rfl ?_
    | refine blockQ_past rfl ?_
  (refine RW.call T hs rfl rfl rfl (refProduct_con _ l most _ _ hl' hm) ?_; intro v h2 w2 hle2 hp2 hs)
  subst hp2
  have hl' := hl'.mono hle2
  generalize product l most = r
  repeat
    first
    | (with_reducible refine RW.isRW ?_; first
        | refine RW.val (Y.move rfl) rfl ?_
        | refine RW.val (Y.assign rfl) rfl ?_
        | (with_reducible refine RW.isGuard ?_; first
            | refine RW.guardYes rfl rfl ?_
            | refine RW.guardNo rfl rfl rfl rfl ?_
            | refine RW.guardUndef rfl rfl rfl ?_
            | (refine RW.gdY rfl rfl ?_ ?_; omega)
            | (refine RW.gdN rfl rfl ?_ ?_; omega))
        | (with_reducible refine RW.isBin ?_; first
            | refine RW.val (Y.lss rfl rfl) rfl ?_
            | (refine RW.val (Y.add rfl rfl ?_) rfl ?_; omega)
            | refine RW.val (Y.eql rfl rfl) rfl ?_
            | refine RW.val (Y.neq rfl rfl) rfl ?_
            | refine RW.val (Y.gtr rfl rfl) rfl ?_
            | refine RW.val (Y.geq rfl rfl) rfl ?_
            | refine RW.val (Y.leq rfl rfl) rfl ?_
            | (refine RW.val (Y.sub rfl rfl ?_) rfl ?_; omega)
            | (refine RW.val (Y.quo rfl rfl ?_ ?_) rfl ?_; omega; omega)
            | (refine RW.val (Y.rem rfl rfl ?_ ?_) rfl ?_; omega; omega))
        | (with_reducible refine RW.isLoad ?_; first
            | (refine RW.val (Y.ldInt T hs rfl (by assumption) rfl rfl ?_) rfl ?_; omega)
            | (refine RW.val (Y.ldS T hs rfl (by assumption) rfl rfl ?_ (by assumption)) rfl ?_; omega))
        | (with_reducible refine RW.isIdx ?_; first
            | (refine RW.val (Y.idxSN T rfl rfl (by assumption) rfl rfl rfl ?_) rfl ?_; omega)
            | (refine RW.val (Y.idxS T rfl rfl (by assumption) rfl rfl rfl ?_) rfl ?_; omega))
        | (with_reducible refine RW.isCall ?_; first
            | refine RW.val (Y.len T rfl rfl) rfl ?_
            | refine RW.val (Y.max2 rfl rfl) rfl ?_
            | refine RW.val (Y.min2 rfl rfl) rfl ?_)
        | refine RW.val (Y.extract rfl rfl) rfl ?_
        | (with_reducible refine RW.isUn ?_; first
            | refine RW.val (Y.notD rfl) rfl ?_
            | refine RW.val (Y.not rfl) rfl ?_)
        | (with_reducible refine RW.isPick ?_; first
            | refine RW.val (Y.pickT rfl rfl) rfl ?_
            | refine RW.val (Y.pickF rfl rfl) rfl ?_)
        | with_reducible refine RW.nil ?_)
    | (with_reducible refine CW.isCW ?_; first
        | with_reducible refine CW.seq ?_
        | with_reducible refine CW.region ?_
        | with_reducible refine CW.block ?_
        | with_reducible refine CW.ret ?_
        | with_reducible refine CW.skip ?_
        | with_reducible refine CW.exit ?_
        | refine CW.condT rfl ?_
        | refine CW.condF rfl ?_
        | (refine CW.condY rfl ?_ ?_; omega)
        | (refine CW.condN rfl ?_ ?_; omega))
    | with_reducible refine thenQ_normal ?_
    | with_reducible refine thenQ_ret ?_
    | with_reducible refine thenQ_exit ?_
    | with_reducible refine blockQ_normal ?_
    | with_reducible refine blockQ_ret ?_
    | with_reducible refine loopQ_ret ?_
    | with_reducible refine loopQ_exit ?_
    | with_reducible refine joinQ_ret ?_
    | with_reducible refine joinQ_exit ?_
    | refine blockQ_exit rfl ?_
    | refine blockQ_past rfl ?_
  (refine RW.call T hs rfl rfl rfl (good_con _ l _ _ hl' hm) ?_; intro v h3 w3 hle3 hp3 hs)
  subst hp3
  have hl' := hl'.mono hle3
  repeat
    first
    | (with_reducible refine RW.isRW ?_; first
        | refine RW.val (Y.move rfl) rfl ?_
        | refine RW.val (Y.assign rfl) rfl ?_
        | (with_reducible refine RW.isGuard ?_; first
            | refine RW.guardYes rfl rfl ?_
            | refine RW.guardNo rfl rfl rfl rfl ?_
            | refine RW.guardUndef rfl rfl rfl ?_
            | (refine RW.gdY rfl rfl ?_ ?_; omega)
            | (refine RW.gdN rfl rfl ?_ ?_; omega))
        | (with_reducible refine RW.isBin ?_; first
            | refine RW.val (Y.lss rfl rfl) rfl ?_
            | (refine RW.val (Y.add rfl rfl ?_) rfl ?_; omega)
            | refine RW.val (Y.eql rfl rfl) rfl ?_
            | refine RW.val (Y.neq rfl rfl) rfl ?_
            | refine RW.val (Y.gtr rfl rfl) rfl ?_
            | refine RW.val (Y.geq rfl rfl) rfl ?_
            | refine RW.val (Y.leq rfl rfl) rfl ?_
            | (refine RW.val (Y.sub rfl rfl ?_) rfl ?_; omega)
            | (refine RW.val (Y.quo rfl rfl ?_ ?_) rfl ?_; omega; omega)
            | (refine RW.val (Y.rem rfl rfl ?_ ?_) rfl ?_; omega; omega))
        | (with_reducible refine RW.isLoad ?_; first
            | (refine RW.val (Y.ldInt T hs rfl (by assumption) rfl rfl ?_) rfl ?_; omega)
            | (refine RW.val (Y.ldS T hs rfl (by assumption) rfl rfl ?_ (by assumption)) rfl ?_; omega))
        | (with_reducible refine RW.isIdx ?_; first
            | (refine RW.val (Y.idxSN T rfl rfl (by assumption) rfl rfl rfl ?_) rfl ?_; omega)
            | (refine RW.val (Y.idxS T rfl rfl (by assumption) rfl rfl rfl ?_) rfl ?_; omega))
        | (with_reducible refine RW.isCall ?_; first
            | refine RW.val (Y.len T rfl rfl) rfl ?_
            | refine RW.val (Y.max2 rfl rfl) rfl ?_
            | refine RW.val (Y.min2 rfl rfl) rfl ?_)
        | refine RW.val (Y.extract rfl rfl) rfl ?_
        | (with_reducible refine RW.isUn ?_; first
            | refine RW.val (Y.notD rfl) rfl ?_
            | refine RW.val (Y.not rfl) rfl ?_)
        | (with_reducible refine RW.isPick ?_; first
            | refine RW.val (Y.pickT rfl rfl) rfl ?_
            | refine RW.val (Y.pickF rfl rfl) rfl ?_)
        | with_reducible refine RW.nil ?_)
    | (with_reducible refine CW.isCW ?_; first
        | with_reducible refine CW.seq ?_
        | with_reducible refine CW.region ?_
        | with_reducible refine CW.block ?_
        | with_reducible refine CW.ret ?_
        | with_reducible refine CW.skip ?_
        | with_reducible refine CW.exit ?_
        | refine CW.condT rfl ?_
        | refine CW.condF rfl ?_
        | (refine CW.condY rfl ?_ ?_; omega)
        | (refine CW.condN rfl ?_ ?_; omega))
    | with_reducible refine thenQ_normal ?_
    | with_reducible refine thenQ_ret ?_
    | with_reducible refine thenQ_exit ?_
    | with_reducible refine blockQ_normal ?_
    | with_reducible refine blockQ_ret ?_
    | with_reducible refine loopQ_ret ?_
    | with_reducible refine loopQ_exit ?_
    | with_reducible refine joinQ_ret ?_
    | with_reducible refine joinQ_exit ?_
    | refine blockQ_exit rfl ?_
    | refine blockQ_past rfl ?_
  (refine RW.call T hs rfl rfl rfl (refGood_con _ l _ _ hl' hm) ?_; intro v h4 w4 hle4 hp4 hs)
  subst hp4
  repeat
    first
    | (with_reducible refine RW.isRW ?_; first
        | refine RW.val (Y.move rfl) rfl ?_
        | refine RW.val (Y.assign rfl) rfl ?_
        | (with_reducible refine RW.isGuard ?_; first
            | refine RW.guardYes rfl rfl ?_
            | refine RW.guardNo rfl rfl rfl rfl ?_
            | refine RW.guardUndef rfl rfl rfl ?_
            | (refine RW.gdY rfl rfl ?_ ?_; omega)
            | (refine RW.gdN rfl rfl ?_ ?_; omega))
        | (with_reducible refine RW.isBin ?_; first
            | refine RW.val (Y.lss rfl rfl) rfl ?_
            | (refine RW.val (Y.add rfl rfl ?_) rfl ?_; omega)
            | refine RW.val (Y.eql rfl rfl) rfl ?_
            | refine RW.val (Y.neq rfl rfl) rfl ?_
            | refine RW.val (Y.gtr rfl rfl) rfl ?_
            | refine RW.val (Y.geq rfl rfl) rfl ?_
            | refine RW.val (Y.leq rfl rfl) rfl ?_
            | (refine RW.val (Y.sub rfl rfl ?_) rfl ?_; omega)
            | (refine RW.val (Y.quo rfl rfl ?_ ?_) rfl ?_; omega; omega)
            | (refine RW.val (Y.rem rfl rfl ?_ ?_) rfl ?_; omega; omega))
        | (with_reducible refine RW.isLoad ?_; first
            | (refine RW.val (Y.ldInt T hs rfl (by assumption) rfl rfl ?_) rfl ?_; omega)
            | (refine RW.val (Y.ldS T hs rfl (by assumption) rfl rfl ?_ (by assumption)) rfl ?_; omega))
        | (with_reducible refine RW.isIdx ?_; first
            | (refine RW.val (Y.idxSN T rfl rfl (by assumption) rfl rfl rfl ?_) rfl ?_; omega)
            | (refine RW.val (Y.idxS T rfl rfl (by assumption) rfl rfl rfl ?_) rfl ?_; omega))
        | (with_reducible refine RW.isCall ?_; first
            | refine RW.val (Y.len T rfl rfl) rfl ?_
            | refine RW.val (Y.max2 rfl rfl) rfl ?_
            | refine RW.val (Y.min2 rfl rfl) rfl ?_)
        | refine RW.val (Y.extract rfl rfl) rfl ?_
        | (with_reducible refine RW.isUn ?_; first
            | refine RW.val (Y.notD rfl) rfl ?_
            | refine RW.val (Y.not rfl) rfl ?_)
        | (with_reducible refine RW.isPick ?_; first
            | refine RW.val (Y.pickT rfl rfl) rfl ?_
            | refine RW.val (Y.pickF rfl rfl) rfl ?_)
        | with_reducible refine RW.nil ?_)
    | (with_reducible refine CW.isCW ?_; first
        | with_reducible refine CW.seq ?_
        | with_reducible refine CW.region ?_
        | with_reducible refine CW.block ?_
        | with_reducible refine CW.ret ?_
        | with_reducible refine CW.skip ?_
        | with_reducible refine CW.exit ?_
        | refine CW.condT rfl ?_
        | refine CW.condF rfl ?_
        | (refine CW.condY rfl ?_ ?_; omega)
        | (refine CW.condN rfl ?_ ?_; omega))
    | with_reducible refine thenQ_normal ?_
    | with_reducible refine thenQ_ret ?_
    | with_reducible refine thenQ_exit ?_
    | with_reducible refine blockQ_normal ?_
    | with_reducible refine blockQ_ret ?_
    | with_reducible refine loopQ_ret ?_
    | with_reducible refine loopQ_exit ?_
    | with_reducible refine joinQ_ret ?_
    | with_reducible refine joinQ_exit ?_
    | refine blockQ_exit rfl ?_
    | refine blockQ_past rfl ?_
  refine RW.val (Y.eqlB T rfl rfl rfl) rfl ?_
  rw [beq_self_eq_true]
  repeat
    first
    | (with_reducible refine RW.isRW ?_; first
        | refine RW.val (Y.move rfl) rfl ?_
        | refine RW.val (Y.assign rfl) rfl ?_
        | (with_reducible refine RW.isGuard ?_; first
            | refine RW.guardYes rfl rfl ?_
            | refine RW.guardNo rfl rfl rfl rfl ?_
            | refine RW.guardUndef rfl rfl rfl ?_
            | (refine RW.gdY rfl rfl ?_ ?_; omega)
            | (refine RW.gdN rfl rfl ?_ ?_; omega))
        | (with_reducible refine RW.isBin ?_; first
            | refine RW.val (Y.lss rfl rfl) rfl ?_
            | (refine RW.val (Y.add rfl rfl ?_) rfl ?_; omega)
            | refine RW.val (Y.eql rfl rfl) rfl ?_
            | refine RW.val (Y.neq rfl rfl) rfl ?_
            | refine RW.val (Y.gtr rfl rfl) rfl ?_
            | refine RW.val (Y.geq rfl rfl) rfl ?_
            | refine RW.val (Y.leq rfl rfl) rfl ?_
            | (refine RW.val (Y.sub rfl rfl ?_) rfl ?_; omega)
            | (refine RW.val (Y.quo rfl rfl ?_ ?_) rfl ?_; omega; omega)
            | (refine RW.val (Y.rem rfl rfl ?_ ?_) rfl ?_; omega; omega))
        | (with_reducible refine RW.isLoad ?_; first
            | (refine RW.val (Y.ldInt T hs rfl (by assumption) rfl rfl ?_) rfl ?_; omega)
            | (refine RW.val (Y.ldS T hs rfl (by assumption) rfl rfl ?_ (by assumption)) rfl ?_; omega))
        | (with_reducible refine RW.isIdx ?_; first
            | (refine RW.val (Y.idxSN T rfl rfl (by assumption) rfl rfl rfl ?_) rfl ?_; omega)
            | (refine RW.val (Y.idxS T rfl rfl (by assumption) rfl rfl rfl ?_) rfl ?_; omega))
        | (with_reducible refine RW.isCall ?_; first
            | refine RW.val (Y.len T rfl rfl) rfl ?_
            | refine RW.val (Y.max2 rfl rfl) rfl ?_
            | refine RW.val (Y.min2 rfl rfl) rfl ?_)
        | refine RW.val (Y.extract rfl rfl) rfl ?_
        | (with_reducible refine RW.isUn ?_; first
            | refine RW.val (Y.notD rfl) rfl ?_
            | refine RW.val (Y.not rfl) rfl ?_)
        | (with_reducible refine RW.isPick ?_; first
            | refine RW.val (Y.pickT rfl rfl) rfl ?_
            | refine RW.val (Y.pickF rfl rfl) rfl ?_)
        | with_reducible refine RW.nil ?_)
    | (with_reducible refine CW.isCW ?_; first
        | with_reducible refine CW.seq ?_
        | with_reducible refine CW.region ?_
        | with_reducible refine CW.block ?_
        | with_reducible refine CW.ret ?_
        | with_reducible refine CW.skip ?_
        | with_reducible refine CW.exit ?_
        | refine CW.condT rfl ?_
        | refine CW.condF rfl ?_
        | (refine CW.condY rfl ?_ ?_; omega)
        | (refine CW.condN rfl ?_ ?_; omega))
    | with_reducible refine thenQ_normal ?_
    | with_reducible refine thenQ_ret ?_
    | with_reducible refine thenQ_exit ?_
    | with_reducible refine blockQ_normal ?_
    | with_reducible refine blockQ_ret ?_
    | with_reducible refine loopQ_ret ?_
    | with_reducible refine loopQ_exit ?_
    | with_reducible refine joinQ_ret ?_
    | with_reducible refine joinQ_exit ?_
    | refine blockQ_exit rfl ?_
    | refine blockQ_past rfl ?_
  (refine RW.call T hs rfl rfl rfl (awake06_con _ _) ?_; intro v h5 w5 hle5 hp5 hs)
  subst hp5
  repeat
    first
    | (with_reducible refine RW.isRW ?_; first
        | refine RW.val (Y.move rfl) rfl ?_
        | refine RW.val (Y.assign rfl) rfl ?_
        | (with_reducible refine RW.isGuard ?_; first
            | refine RW.guardYes rfl rfl ?_
            | refine RW.guardNo rfl rfl rfl rfl ?_
            | refine RW.guardUndef rfl rfl rfl ?_
            | (refine RW.gdY rfl rfl ?_ ?_; omega)
            | (refine RW.gdN rfl rfl ?_ ?_; omega))
        | (with_reducible refine RW.isBin ?_; first
            | refine RW.val (Y.lss rfl rfl) rfl ?_
            | (refine RW.val (Y.add rfl rfl ?_) rfl ?_; omega)
            | refine RW.val (Y.eql rfl rfl) rfl ?_
            | refine RW.val (Y.neq rfl rfl) rfl ?_
            | refine RW.val (Y.gtr rfl rfl) rfl ?_
            | refine RW.val (Y.geq rfl rfl) rfl ?_
            | refine RW.val (Y.leq rfl rfl) rfl ?_
            | (refine RW.val (Y.sub rfl rfl ?_) rfl ?_; omega)
            | (refine RW.val (Y.quo rfl rfl ?_ ?_) rfl ?_; omega; omega)
            | (refine RW.val (Y.rem rfl rfl ?_ ?_) rfl ?_; omega; omega))
        | (with_reducible refine RW.isLoad ?_; first
            | (refine RW.val (Y.ldInt T hs rfl (by assumption) rfl rfl ?_) rfl ?_; omega)
            | (refine RW.val (Y.ldS T hs rfl (by assumption) rfl rfl ?_ (by assumption)) rfl ?_; omega))
        | (with_reducible refine RW.isIdx ?_; first
            | (refine RW.val (Y.idxSN T rfl rfl (by assumption) rfl rfl rfl ?_) rfl ?_; omega)
            | (refine RW.val (Y.idxS T rfl rfl (by assumption) rfl rfl rfl ?_) rfl ?_; omega))
        | (with_reducible refine RW.isCall ?_; first
            | refine RW.val (Y.len T rfl rfl) rfl ?_
            | refine RW.val (Y.max2 rfl rfl) rfl ?_
            | refine RW.val (Y.min2 rfl rfl) rfl ?_)
        | refine RW.val (Y.extract rfl rfl) rfl ?_
        | (with_reducible refine RW.isUn ?_; first
            | refine RW.val (Y.notD rfl) rfl ?_
            | refine RW.val (Y.not rfl) rfl ?_)
        | (with_reducible refine RW.isPick ?_; first
            | refine RW.val (Y.pickT rfl rfl) rfl ?_
            | refine RW.val (Y.pickF rfl rfl) rfl ?_)
        | with_reducible refine RW.nil ?_)
    | (with_reducible refine CW.isCW ?_; first
        | with_reducible refine CW.seq ?_
        | with_reducible refine CW.region ?_
        | with_reducible refine CW.block ?_
        | with_reducible refine CW.ret ?_
        | with_reducible refine CW.skip ?_
        | with_reducible refine CW.exit ?_
        | refine CW.condT rfl ?_
        | refine CW.condF rfl ?_
        | (refine CW.condY rfl ?_ ?_; omega)
        | (refine CW.condN rfl ?_ ?_; omega))
    | with_reducible refine thenQ_normal ?_
    | with_reducible refine thenQ_ret ?_
    | with_reducible refine thenQ_exit ?_
    | with_reducible refine blockQ_normal ?_
    | with_reducible refine blockQ_ret ?_
    | with_reducible refine loopQ_ret ?_
    | with_reducible refine loopQ_exit ?_
    | with_reducible refine joinQ_ret ?_
    | with_reducible refine joinQ_exit ?_
    | refine blockQ_exit rfl ?_
    | refine blockQ_past rfl ?_
  exact retQ_ret [_] h5 ⟨rfl, trivial⟩ hs rfl
end Go.Proofs.Ytdpkioffihebnaa
