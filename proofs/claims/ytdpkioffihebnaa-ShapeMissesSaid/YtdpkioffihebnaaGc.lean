/-
  Contracts of the law's own functions of layer 6, third part: the law on places that are none. No statement is proved here.
-/
import Derived.Test.YtdpkioffihebnaaGa
import Derived.Test.YtdpkioffihebnaaLibM
import Derived.Test.YtdpkioffihebnaaPlainB
namespace Go.Proofs.Ytdpkioffihebnaa
open Go Go.RowKit
attribute [local irreducible] CW RW QW SW HW ConM retM heldQ calmQ elemP thenQ blockQ loopQ joinQ retQ Yields Con Sl

theorem shapeMisses_con (s t : Value) (l m : List Int) (a : Int) (w : World) (h : GHeap) (hl : IntsAt h s l) (ht : IntsAt h t m) (hm : l.length ≤ 9223372036854775807) : Con Try.prog 4 [s, t, .int .i64 a] w h (fun _ v => v = .bool true) := by
  have hl' := hl
  have ht' := ht
  obtain ⟨ad, cp, rfl, hS⟩ := hl
  obtain ⟨ad2, cp2, rfl, hS2⟩ := ht
  refine Con.of_body Try.func4 rfl Try.ntmps4 rfl rfl ?_
  intro hs
  repeat
    first
    | (with_reducible refine RW.isRW ?_; first
        | refine RW.val (Y.move rfl) rfl ?_
        | refine RW.val (Y.assign rfl) rfl ?_
        | (with_reducible refine RW.isGuard ?_; first
            | refine RW.guardYes rfl rfl ?_
            | refine RW.guardNo rfl rfl rfl rfl ?_
            | refine RW.guardUndef rfl rfl rfl ?_
            | (refine RW.gdY rfl rfl ?_ ?_; omega)
            | (refine RW.gdN rfl rfl ?_ ?_; omega))
        | (with_reducible refine RW.isBin ?_; first
            | refine RW.val (Y.lss rfl rfl) rfl ?_
            | (refine RW.val (Y.add rfl rfl ?_) rfl ?_; omega)
            | refine RW.val (Y.eql rfl rfl) rfl ?_
            | refine RW.val (Y.neq rfl rfl) rfl ?_
            | refine RW.val (Y.gtr rfl rfl) rfl ?_
            | refine RW.val (Y.geq rfl rfl) rfl ?_
            | refine RW.val (Y.leq rfl rfl) rfl ?_
            | (refine RW.val (Y.sub rfl rfl ?_) rfl ?_; omega)
            | (refine RW.val (Y.quo rfl rfl ?_ ?_) rfl ?_; omega; omega)
            | (refine RW.val (Y.rem rfl rfl ?_ ?_) rfl ?_; omega; omega))
        | (with_reducible refine RW.isLoad ?_; first
            | (refine RW.val (Y.ldInt T hs rfl (by assumption) rfl rfl ?_) rfl ?_; omega)
            | (refine RW.val (Y.ldS T hs rfl (by assumption) rfl rfl ?_ (by assumption)) rfl ?_; omega))
        | (with_reducible refine RW.isIdx ?_; first
            | (refine RW.val (Y.idxSN T rfl rfl (by assumption) rfl rfl rfl ?_) rfl ?_; omega)
            | (refine RW.val (Y.idxS T rfl rfl (by assumption) rfl rfl rfl ?_) rfl ?_; omega))
        | (with_reducible refine RW.isCall ?_; first
            | refine RW.val (Y.len T rfl rfl) rfl ?_
            | refine RW.val (Y.max2 rfl rfl) rfl ?_
            | refine RW.val (Y.min2 rfl rfl) rfl ?_)
        | refine RW.val (Y.extract rfl rfl) rfl ?_
        | (with_reducible refine RW.isUn ?_; first
            | refine RW.val (Y.notD rfl) rfl ?_
            | refine RW.val (Y.not rfl) rfl ?_)
        | (with_reducible refine RW.isPick ?_; first
            | refine RW.val (Y.pickT rfl rfl) rfl ?_
            | refine RW.val (Y.pickF rfl rfl) rfl ?_)
        | with_reducible refine RW.nil ?_)
    | (with_reducible refine CW.isCW ?_; first
        | with_reducible refine CW.seq ?_
        | with_reducible refine CW.region ?_
        | with_reducible refine CW.block ?_
        | with_reducible refine CW.ret ?_
        | with_reducible refine CW.skip ?_
        | with_reducible refine CW.exit ?_
        | refine CW.condT rfl ?_
        | refine CW.condF rfl ?_
        | (refine CW.condY rfl ?_ ?_; omega)
        | (refine CW.condN rfl ?_ ?_; omega))
    | with_reducible refine thenQ_normal ?_
    | with_reducible refine thenQ_ret ?_
    | with_reducible refine thenQ_exit ?_
    | with_reducible refine blockQ_normal ?_
    | with_reducible refine blockQ_ret ?_
    | with_reducible refine loopQ_ret ?_
    | with_reducible refine loopQ_exit ?_
    | with_reducible refine joinQ_ret ?_
    | with_reducible refine joinQ_exit ?_
    | refine blockQ_exit rfl ?_
    | refine blockQ_past rfl ?_
  refine RW.meet (fun b : Bool => [(0, .slice ad l.length cp), (1, .slice ad2 m.length cp2), (2, .int .i64 a), (22, .bool b)]) (fun _ w' => Sees w h h [] w') ?_ ?_
  · refine RW.gd rfl rfl (fun h60 => ?_) (fun h60 => ?_)
    · repeat
        first
        | (with_reducible refine RW.isRW ?_; first
            | refine RW.val (Y.move rfl) rfl ?_
            | refine RW.val (Y.assign rfl) rfl ?_
            | (with_reducible refine RW.isGuard ?_; first
                | refine RW.guardYes rfl rfl ?_
                | refine RW.guardNo rfl rfl rfl rfl ?_
                | refine RW.guardUndef rfl rfl rfl ?_
                | (refine RW.gdY rfl rfl ?_ ?_; omega)
                | (refine RW.gdN rfl rfl ?_ ?_; omega))
            | (with_reducible refine RW.isBin ?_; first
                | refine RW.val (Y.lss rfl rfl) rfl ?_
                | (refine RW.val (Y.add rfl rfl ?_) rfl ?_; omega)
                | refine RW.val (Y.eql rfl rfl) rfl ?_
                | refine RW.val (Y.neq rfl rfl) rfl ?_
                | refine RW.val (Y.gtr rfl rfl) rfl ?_
                | refine RW.val (Y.geq rfl rfl) rfl ?_
                | refine RW.val (Y.leq rfl rfl) rfl ?_
                | (refine RW.val (Y.sub rfl rfl ?_) rfl ?_; omega)
                | (refine RW.val (Y.quo rfl rfl ?_ ?_) rfl ?_; omega; omega)
                | (refine RW.val (Y.rem rfl rfl ?_ ?_) rfl ?_; omega; omega))
            | (with_reducible refine RW.isLoad ?_; first
                | (refine RW.val (Y.ldInt T hs rfl (by assumption) rfl rfl ?_) rfl ?_; omega)
                | (refine RW.val (Y.ldS T hs rfl (by assumption) rfl rfl ?_ (by assumption)) rfl ?_; omega))
            | (with_reducible refine RW.isIdx ?_; first
                | (refine RW.val (Y.idxSN T rfl rfl (by assumption) rfl rfl rfl ?_) rfl ?_; omega)
                | (refine RW.val (Y.idxS T rfl rfl (by assumption) rfl rfl rfl ?_) rfl ?_; omega))
            | (with_reducible refine RW.isCall ?_; first
                | refine RW.val (Y.len T rfl rfl) rfl ?_
                | refine RW.val (Y.max2 rfl rfl) rfl ?_
                | refine RW.val (Y.min2 rfl rfl) rfl ?_)
            | refine RW.val (Y.extract rfl rfl) rfl ?_
            | (with_reducible refine RW.isUn ?_; first
                | refine RW.val (Y.notD rfl) rfl ?_
                | refine RW.val (Y.not rfl) rfl ?_)
            | (with_reducible refine RW.isPick ?_; first
                | refine RW.val (Y.pickT rfl rfl) rfl ?_
                | refine RW.val (Y.pickF rfl rfl) rfl ?_)
            | with_reducible refine RW.nil ?_)
        | (with_reducible refine CW.isCW ?_; first
            | with_reducible refine CW.seq ?_
            | with_reducible refine CW.region ?_
            | with_reducible refine CW.block ?_
            | with_reducible refine CW.ret ?_
            | with_reducible refine CW.skip ?_
            | with_reducible refine CW.exit ?_
            | refine CW.condT rfl ?_
            | refine CW.condF rfl ?_
            | (refine CW.condY rfl ?_ ?_; omega)
            | (refine CW.condN rfl ?_ ?_; omega))
        | with_reducible refine thenQ_normal ?_
        | with_reducible refine thenQ_ret ?_
        | with_reducible refine thenQ_exit ?_
        | with_reducible refine blockQ_normal ?_
        | with_reducible refine blockQ_ret ?_
        | with_reducible refine loopQ_ret ?_
        | with_reducible refine loopQ_exit ?_
        | with_reducible refine joinQ_ret ?_
        | with_reducible refine joinQ_exit ?_
        | refine blockQ_exit rfl ?_
        | refine blockQ_past rfl ?_
      exact joinQ_meet true ⟨rfl, rfl, rfl, rfl, trivial⟩ hs
    · repeat
        first
        | (with_reducible refine RW.isRW ?_; first
            | refine RW.val (Y.move rfl) rfl ?_
            | refine RW.val (Y.assign rfl) rfl ?_
            | (with_reducible refine RW.isGuard ?_; first
                | refine RW.guardYes rfl rfl ?_
                | refine RW.guardNo rfl rfl rfl rfl ?_
                | refine RW.guardUndef rfl rfl rfl ?_
                | (refine RW.gdY rfl rfl ?_ ?_; omega)
                | (refine RW.gdN rfl rfl ?_ ?_; omega))
            | (with_reducible refine RW.isBin ?_; first
                | refine RW.val (Y.lss rfl rfl) rfl ?_
                | (refine RW.val (Y.add rfl rfl ?_) rfl ?_; omega)
                | refine RW.val (Y.eql rfl rfl) rfl ?_
                | refine RW.val (Y.neq rfl rfl) rfl ?_
                | refine RW.val (Y.gtr rfl rfl) rfl ?_
                | refine RW.val (Y.geq rfl rfl) rfl ?_
                | refine RW.val (Y.leq rfl rfl) rfl ?_
                | (refine RW.val (Y.sub rfl rfl ?_) rfl ?_; omega)
                | (refine RW.val (Y.quo rfl rfl ?_ ?_) rfl ?_; omega; omega)
                | (refine RW.val (Y.rem rfl rfl ?_ ?_) rfl ?_; omega; omega))
            | (with_reducible refine RW.isLoad ?_; first
                | (refine RW.val (Y.ldInt T hs rfl (by assumption) rfl rfl ?_) rfl ?_; omega)
                | (refine RW.val (Y.ldS T hs rfl (by assumption) rfl rfl ?_ (by assumption)) rfl ?_; omega))
            | (with_reducible refine RW.isIdx ?_; first
                | (refine RW.val (Y.idxSN T rfl rfl (by assumption) rfl rfl rfl ?_) rfl ?_; omega)
                | (refine RW.val (Y.idxS T rfl rfl (by assumption) rfl rfl rfl ?_) rfl ?_; omega))
            | (with_reducible refine RW.isCall ?_; first
                | refine RW.val (Y.len T rfl rfl) rfl ?_
                | refine RW.val (Y.max2 rfl rfl) rfl ?_
                | refine RW.val (Y.min2 rfl rfl) rfl ?_)
            | refine RW.val (Y.extract rfl rfl) rfl ?_
            | (with_reducible refine RW.isUn ?_; first
                | refine RW.val (Y.notD rfl) rfl ?_
                | refine RW.val (Y.not rfl) rfl ?_)
            | (with_reducible refine RW.isPick ?_; first
                | refine RW.val (Y.pickT rfl rfl) rfl ?_
                | refine RW.val (Y.pickF rfl rfl) rfl ?_)
            | with_reducible refine RW.nil ?_)
        | (with_reducible refine CW.isCW ?_; first
            | with_reducible refine CW.seq ?_
            | with_reducible refine CW.region ?_
            | with_reducible refine CW.block ?_
            | with_reducible refine CW.ret ?_
            | with_reducible refine CW.skip ?_
            | with_reducible refine CW.exit ?_
            | refine CW.condT rfl ?_
            | refine CW.condF rfl ?_
            | (refine CW.condY rfl ?_ ?_; omega)
            | (refine CW.condN rfl ?_ ?_; omega))
        | with_reducible refine thenQ_normal ?_
        | with_reducible refine thenQ_ret ?_
        | with_reducible refine thenQ_exit ?_
        | with_reducible refine blockQ_normal ?_
        | with_reducible refine blockQ_ret ?_
        | with_reducible refine loopQ_ret ?_
        | with_reducible refine loopQ_exit ?_
        | with_reducible refine joinQ_ret ?_
        | with_reducible refine joinQ_exit ?_
        | refine blockQ_exit rfl ?_
        | refine blockQ_past rfl ?_
      exact joinQ_meet (decide (60 < (m.length : Int))) ⟨rfl, rfl, rfl, rfl, trivial⟩ hs
  intro b w1 hs
  refine CW.cond rfl (fun hb => ?_) (fun hb => ?_)
  · repeat
      first
      | (with_reducible refine RW.isRW ?_; first
          | refine RW.val (Y.move rfl) rfl ?_
          | refine RW.val (Y.assign rfl) rfl ?_
          | (with_reducible refine RW.isGuard ?_; first
              | refine RW.guardYes rfl rfl ?_
              | refine RW.guardNo rfl rfl rfl rfl ?_
              | refine RW.guardUndef rfl rfl rfl ?_
              | (refine RW.gdY rfl rfl ?_ ?_; omega)
              | (refine RW.gdN rfl rfl ?_ ?_; omega))
          | (with_reducible refine RW.isBin ?_; first
              | refine RW.val (Y.lss rfl rfl) rfl ?_
              | (refine RW.val (Y.add rfl rfl ?_) rfl ?_; omega)
              | refine RW.val (Y.eql rfl rfl) rfl ?_
              | refine RW.val (Y.neq rfl rfl) rfl ?_
              | refine RW.val (Y.gtr rfl rfl) rfl ?_
              | refine RW.val (Y.geq rfl rfl) rfl ?_
              | refine RW.val (Y.leq rfl rfl) rfl ?_
              | (refine RW.val (Y.sub rfl rfl ?_) rfl ?_; omega)
              | (refine RW.val (Y.quo rfl rfl ?_ ?_) rfl ?_; omega; omega)
              | (refine RW.val (Y.rem rfl rfl ?_ ?_) rfl ?_; omega; omega))
          | (with_reducible refine RW.isLoad ?_; first
              | (refine RW.val (Y.ldInt T hs rfl (by assumption) rfl rfl ?_) rfl ?_; omega)
              | (refine RW.val (Y.ldS T hs rfl (by assumption) rfl rfl ?_ (by assumption)) rfl ?_; omega))
          | (with_reducible refine RW.isIdx ?_; first
              | (refine RW.val (Y.idxSN T rfl rfl (by assumption) rfl rfl rfl ?_) rfl ?_; omega)
              | (refine RW.val (Y.idxS T rfl rfl (by assumption) rfl rfl rfl ?_) rfl ?_; omega))
          | (with_reducible refine RW.isCall ?_; first
              | refine RW.val (Y.len T rfl rfl) rfl ?_
              | refine RW.val (Y.max2 rfl rfl) rfl ?_
              | refine RW.val (Y.min2 rfl rfl) rfl ?_)
          | refine RW.val (Y.extract rfl rfl) rfl ?_
          | (with_reducible refine RW.isUn ?_; first
              | refine RW.val (Y.notD rfl) rfl ?_
              | refine RW.val (Y.not rfl) rfl ?_)
          | (with_reducible refine RW.isPick ?_; first
              | refine RW.val (Y.pickT rfl rfl) rfl ?_
              | refine RW.val (Y.pickF rfl rfl) rfl ?_)
          | with_reducible refine RW.nil ?_)
      | (with_reducible refine CW.isCW ?_; first
          | with_reducible refine CW.seq ?_
          | with_reducible refine CW.region ?_
          | with_reducible refine CW.block ?_
          | with_reducible refine CW.ret ?_
          | with_reducible refine CW.skip ?_
          | with_reducible refine CW.exit ?_
          | refine CW.condT rfl ?_
          | refine CW.condF rfl ?_
          | (refine CW.condY rfl ?_ ?_; omega)
          | (refine CW.condN rfl ?_ ?_; omega))
      | with_reducible refine thenQ_normal ?_
      | with_reducible refine thenQ_ret ?_
      | with_reducible refine thenQ_exit ?_
      | with_reducible refine blockQ_normal ?_
      | with_reducible refine blockQ_ret ?_
      | with_reducible refine loopQ_ret ?_
      | with_reducible refine loopQ_exit ?_
      | with_reducible refine joinQ_ret ?_
      | with_reducible refine joinQ_exit ?_
      | refine blockQ_exit rfl ?_
      | refine blockQ_past rfl ?_
    (refine RW.call T hs rfl rfl rfl (awake06_con _ _) ?_; intro v h1 w1 hle1 hp1 hs)
    subst hp1
    repeat
      first
      | (with_reducible refine RW.isRW ?_; first
          | refine RW.val (Y.move rfl) rfl ?_
          | refine RW.val (Y.assign rfl) rfl ?_
          | (with_reducible refine RW.isGuard ?_; first
              | refine RW.guardYes rfl rfl ?_
              | refine RW.guardNo rfl rfl rfl rfl ?_
              | refine RW.guardUndef rfl rfl rfl ?_
              | (refine RW.gdY rfl rfl ?_ ?_; omega)
              | (refine RW.gdN rfl rfl ?_ ?_; omega))
          | (with_reducible refine RW.isBin ?_; first
              | refine RW.val (Y.lss rfl rfl) rfl ?_
              | (refine RW.val (Y.add rfl rfl ?_) rfl ?_; omega)
              | refine RW.val (Y.eql rfl rfl) rfl ?_
              | refine RW.val (Y.neq rfl rfl) rfl ?_
              | refine RW.val (Y.gtr rfl rfl) rfl ?_
              | refine RW.val (Y.geq rfl rfl) rfl ?_
              | refine RW.val (Y.leq rfl rfl) rfl ?_
              | (refine RW.val (Y.sub rfl rfl ?_) rfl ?_; omega)
              | (refine RW.val (Y.quo rfl rfl ?_ ?_) rfl ?_; omega; omega)
              | (refine RW.val (Y.rem rfl rfl ?_ ?_) rfl ?_; omega; omega))
          | (with_reducible refine RW.isLoad ?_; first
              | (refine RW.val (Y.ldInt T hs rfl (by assumption) rfl rfl ?_) rfl ?_; omega)
              | (refine RW.val (Y.ldS T hs rfl (by assumption) rfl rfl ?_ (by assumption)) rfl ?_; omega))
          | (with_reducible refine RW.isIdx ?_; first
              | (refine RW.val (Y.idxSN T rfl rfl (by assumption) rfl rfl rfl ?_) rfl ?_; omega)
              | (refine RW.val (Y.idxS T rfl rfl (by assumption) rfl rfl rfl ?_) rfl ?_; omega))
          | (with_reducible refine RW.isCall ?_; first
              | refine RW.val (Y.len T rfl rfl) rfl ?_
              | refine RW.val (Y.max2 rfl rfl) rfl ?_
              | refine RW.val (Y.min2 rfl rfl) rfl ?_)
          | refine RW.val (Y.extract rfl rfl) rfl ?_
          | (with_reducible refine RW.isUn ?_; first
              | refine RW.val (Y.notD rfl) rfl ?_
              | refine RW.val (Y.not rfl) rfl ?_)
          | (with_reducible refine RW.isPick ?_; first
              | refine RW.val (Y.pickT rfl rfl) rfl ?_
              | refine RW.val (Y.pickF rfl rfl) rfl ?_)
          | with_reducible refine RW.nil ?_)
      | (with_reducible refine CW.isCW ?_; first
          | with_reducible refine CW.seq ?_
          | with_reducible refine CW.region ?_
          | with_reducible refine CW.block ?_
          | with_reducible refine CW.ret ?_
          | with_reducible refine CW.skip ?_
          | with_reducible refine CW.exit ?_
          | refine CW.condT rfl ?_
          | refine CW.condF rfl ?_
          | (refine CW.condY rfl ?_ ?_; omega)
          | (refine CW.condN rfl ?_ ?_; omega))
      | with_reducible refine thenQ_normal ?_
      | with_reducible refine thenQ_ret ?_
      | with_reducible refine thenQ_exit ?_
      | with_reducible refine blockQ_normal ?_
      | with_reducible refine blockQ_ret ?_
      | with_reducible refine loopQ_ret ?_
      | with_reducible refine loopQ_exit ?_
      | with_reducible refine joinQ_ret ?_
      | with_reducible refine joinQ_exit ?_
      | refine blockQ_exit rfl ?_
      | refine blockQ_past rfl ?_
    exact retQ_ret [_] h1 ⟨rfl, trivial⟩ hs rfl
  repeat
    first
    | (with_reducible refine RW.isRW ?_; first
        | refine RW.val (Y.move rfl) rfl ?_
        | refine RW.val (Y.assign rfl) rfl ?_
        | (with_reducible refine RW.isGuard ?_; first
            | refine RW.guardYes rfl rfl ?_
            | refine RW.guardNo rfl rfl rfl rfl ?_
            | refine RW.guardUndef rfl rfl rfl ?_
            | (refine RW.gdY rfl rfl ?_ ?_; omega)
            | (refine RW.gdN rfl rfl ?_ ?_; omega))
        | (with_reducible refine RW.isBin ?_; first
            | refine RW.val (Y.lss rfl rfl) rfl ?_
            | (refine RW.val (Y.add rfl rfl ?_) rfl ?_; omega)
            | refine RW.val (Y.eql rfl rfl) rfl ?_
            | refine RW.val (Y.neq rfl rfl) rfl ?_
            | refine RW.val (Y.gtr rfl rfl) rfl ?_
            | refine RW.val (Y.geq rfl rfl) rfl ?_
            | refine RW.val (Y.leq rfl rfl) rfl ?_
            | (refine RW.val (Y.sub rfl rfl ?_) rfl ?_; omega)
            | (refine RW.val (Y.quo rfl rfl ?_ ?_) rfl ?_; omega; omega)
            | (refine RW.val (Y.rem rfl rfl ?_ ?_) rfl ?_; omega; omega))
        | (with_reducible refine RW.isLoad ?_; first
            | (refine RW.val (Y.ldInt T hs rfl (by assumption) rfl rfl ?_) rfl ?_; omega)
            | (refine RW.val (Y.ldS T hs rfl (by assumption) rfl rfl ?_ (by assumption)) rfl ?_; omega))
        | (with_reducible refine RW.isIdx ?_; first
            | (refine RW.val (Y.idxSN T rfl rfl (by assumption) rfl rfl rfl ?_) rfl ?_; omega)
            | (refine RW.val (Y.idxS T rfl rfl (by assumption) rfl rfl rfl ?_) rfl ?_; omega))
        | (with_reducible refine RW.isCall ?_; first
            | refine RW.val (Y.len T rfl rfl) rfl ?_
            | refine RW.val (Y.max2 rfl rfl) rfl ?_
            | refine RW.val (Y.min2 rfl rfl) rfl ?_)
        | refine RW.val (Y.extract rfl rfl) rfl ?_
        | (with_reducible refine RW.isUn ?_; first
            | refine RW.val (Y.notD rfl) rfl ?_
            | refine RW.val (Y.not rfl) rfl ?_)
        | (with_reducible refine RW.isPick ?_; first
            | refine RW.val (Y.pickT rfl rfl) rfl ?_
            | refine RW.val (Y.pickF rfl rfl) rfl ?_)
        | with_reducible refine RW.nil ?_)
    | (with_reducible refine CW.isCW ?_; first
        | with_reducible refine CW.seq ?_
        | with_reducible refine CW.region ?_
        | with_reducible refine CW.block ?_
        | with_reducible refine CW.ret ?_
        | with_reducible refine CW.skip ?_
        | with_reducible refine CW.exit ?_
        | refine CW.condT rfl ?_
        | refine CW.condF rfl ?_
        | (refine CW.condY rfl ?_ ?_; omega)
        | (refine CW.condN rfl ?_ ?_; omega))
    | with_reducible refine thenQ_normal ?_
    | with_reducible refine thenQ_ret ?_
    | with_reducible refine thenQ_exit ?_
    | with_reducible refine blockQ_normal ?_
    | with_reducible refine blockQ_ret ?_
    | with_reducible refine loopQ_ret ?_
    | with_reducible refine loopQ_exit ?_
    | with_reducible refine joinQ_ret ?_
    | with_reducible refine joinQ_exit ?_
    | refine blockQ_exit rfl ?_
    | refine blockQ_past rfl ?_
  (refine RW.call T hs rfl rfl rfl (at_con _ _ l m _ _ hl' ht' hm) ?_; intro v h1 w1 hle1 hp1 hs)
  subst hp1
  have hl' := hl'.mono hle1
  have ht' := ht'.mono hle1
  repeat
    first
    | (with_reducible refine RW.isRW ?_; first
        | refine RW.val (Y.move rfl) rfl ?_
        | refine RW.val (Y.assign rfl) rfl ?_
        | (with_reducible refine RW.isGuard ?_; first
            | refine RW.guardYes rfl rfl ?_
            | refine RW.guardNo rfl rfl rfl rfl ?_
            | refine RW.guardUndef rfl rfl rfl ?_
            | (refine RW.gdY rfl rfl ?_ ?_; omega)
            | (refine RW.gdN rfl rfl ?_ ?_; omega))
        | (with_reducible refine RW.isBin ?_; first
            | refine RW.val (Y.lss rfl rfl) rfl ?_
            | (refine RW.val (Y.add rfl rfl ?_) rfl ?_; omega)
            | refine RW.val (Y.eql rfl rfl) rfl ?_
            | refine RW.val (Y.neq rfl rfl) rfl ?_
            | refine RW.val (Y.gtr rfl rfl) rfl ?_
            | refine RW.val (Y.geq rfl rfl) rfl ?_
            | refine RW.val (Y.leq rfl rfl) rfl ?_
            | (refine RW.val (Y.sub rfl rfl ?_) rfl ?_; omega)
            | (refine RW.val (Y.quo rfl rfl ?_ ?_) rfl ?_; omega; omega)
            | (refine RW.val (Y.rem rfl rfl ?_ ?_) rfl ?_; omega; omega))
        | (with_reducible refine RW.isLoad ?_; first
            | (refine RW.val (Y.ldInt T hs rfl (by assumption) rfl rfl ?_) rfl ?_; omega)
            | (refine RW.val (Y.ldS T hs rfl (by assumption) rfl rfl ?_ (by assumption)) rfl ?_; omega))
        | (with_reducible refine RW.isIdx ?_; first
            | (refine RW.val (Y.idxSN T rfl rfl (by assumption) rfl rfl rfl ?_) rfl ?_; omega)
            | (refine RW.val (Y.idxS T rfl rfl (by assumption) rfl rfl rfl ?_) rfl ?_; omega))
        | (with_reducible refine RW.isCall ?_; first
            | refine RW.val (Y.len T rfl rfl) rfl ?_
            | refine RW.val (Y.max2 rfl rfl) rfl ?_
            | refine RW.val (Y.min2 rfl rfl) rfl ?_)
        | refine RW.val (Y.extract rfl rfl) rfl ?_
        | (with_reducible refine RW.isUn ?_; first
            | refine RW.val (Y.notD rfl) rfl ?_
            | refine RW.val (Y.not rfl) rfl ?_)
        | (with_reducible refine RW.isPick ?_; first
            | refine RW.val (Y.pickT rfl rfl) rfl ?_
            | refine RW.val (Y.pickF rfl rfl) rfl ?_)
        | with_reducible refine RW.nil ?_)
    | (with_reducible refine CW.isCW ?_; first
        | with_reducible refine CW.seq ?_
        | with_reducible refine CW.region ?_
        | with_reducible refine CW.block ?_
        | with_reducible refine CW.ret ?_
        | with_reducible refine CW.skip ?_
        | with_reducible refine CW.exit ?_
        | refine CW.condT rfl ?_
        | refine CW.condF rfl ?_
        | (refine CW.condY rfl ?_ ?_; omega)
        | (refine CW.condN rfl ?_ ?_; omega))
    | with_reducible refine thenQ_normal ?_
    | with_reducible refine thenQ_ret ?_
    | with_reducible refine thenQ_exit ?_
    | with_reducible refine blockQ_normal ?_
    | with_reducible refine blockQ_ret ?_
    | with_reducible refine loopQ_ret ?_
    | with_reducible refine loopQ_exit ?_
    | with_reducible refine joinQ_ret ?_
    | with_reducible refine joinQ_exit ?_
    | refine blockQ_exit rfl ?_
    | refine blockQ_past rfl ?_
  (refine RW.call T hs rfl rfl rfl (place_con _ _ l m _ _ hl' ht' hm) ?_; intro v h2 w2 hle2 hp2 hs)
  subst hp2
  have hl' := hl'.mono hle2
  have hat := at_cases l m
  generalize atSpec l m = p at hat ⊢
  repeat
    first
    | (with_reducible refine RW.isRW ?_; first
        | refine RW.val (Y.move rfl) rfl ?_
        | refine RW.val (Y.assign rfl) rfl ?_
        | (with_reducible refine RW.isGuard ?_; first
            | refine RW.guardYes rfl rfl ?_
            | refine RW.guardNo rfl rfl rfl rfl ?_
            | refine RW.guardUndef rfl rfl rfl ?_
            | (refine RW.gdY rfl rfl ?_ ?_; omega)
            | (refine RW.gdN rfl rfl ?_ ?_; omega))
        | (with_reducible refine RW.isBin ?_; first
            | refine RW.val (Y.lss rfl rfl) rfl ?_
            | (refine RW.val (Y.add rfl rfl ?_) rfl ?_; omega)
            | refine RW.val (Y.eql rfl rfl) rfl ?_
            | refine RW.val (Y.neq rfl rfl) rfl ?_
            | refine RW.val (Y.gtr rfl rfl) rfl ?_
            | refine RW.val (Y.geq rfl rfl) rfl ?_
            | refine RW.val (Y.leq rfl rfl) rfl ?_
            | (refine RW.val (Y.sub rfl rfl ?_) rfl ?_; omega)
            | (refine RW.val (Y.quo rfl rfl ?_ ?_) rfl ?_; omega; omega)
            | (refine RW.val (Y.rem rfl rfl ?_ ?_) rfl ?_; omega; omega))
        | (with_reducible refine RW.isLoad ?_; first
            | (refine RW.val (Y.ldInt T hs rfl (by assumption) rfl rfl ?_) rfl ?_; omega)
            | (refine RW.val (Y.ldS T hs rfl (by assumption) rfl rfl ?_ (by assumption)) rfl ?_; omega))
        | (with_reducible refine RW.isIdx ?_; first
            | (refine RW.val (Y.idxSN T rfl rfl (by assumption) rfl rfl rfl ?_) rfl ?_; omega)
            | (refine RW.val (Y.idxS T rfl rfl (by assumption) rfl rfl rfl ?_) rfl ?_; omega))
        | (with_reducible refine RW.isCall ?_; first
            | refine RW.val (Y.len T rfl rfl) rfl ?_
            | refine RW.val (Y.max2 rfl rfl) rfl ?_
            | refine RW.val (Y.min2 rfl rfl) rfl ?_)
        | refine RW.val (Y.extract rfl rfl) rfl ?_
        | (with_reducible refine RW.isUn ?_; first
            | refine RW.val (Y.notD rfl) rfl ?_
            | refine RW.val (Y.not rfl) rfl ?_)
        | (with_reducible refine RW.isPick ?_; first
            | refine RW.val (Y.pickT rfl rfl) rfl ?_
            | refine RW.val (Y.pickF rfl rfl) rfl ?_)
        | with_reducible refine RW.nil ?_)
    | (with_reducible refine CW.isCW ?_; first
        | with_reducible refine CW.seq ?_
        | with_reducible refine CW.region ?_
        | with_reducible refine CW.block ?_
        | with_reducible refine CW.ret ?_
        | with_reducible refine CW.skip ?_
        | with_reducible refine CW.exit ?_
        | refine CW.condT rfl ?_
        | refine CW.condF rfl ?_
        | (refine CW.condY rfl ?_ ?_; omega)
        | (refine CW.condN rfl ?_ ?_; omega))
    | with_reducible refine thenQ_normal ?_
    | with_reducible refine thenQ_ret ?_
    | with_reducible refine thenQ_exit ?_
    | with_reducible refine blockQ_normal ?_
    | with_reducible refine blockQ_ret ?_
    | with_reducible refine loopQ_ret ?_
    | with_reducible refine loopQ_exit ?_
    | with_reducible refine joinQ_ret ?_
    | with_reducible refine joinQ_exit ?_
    | refine blockQ_exit rfl ?_
    | refine blockQ_past rfl ?_
  (refine RW.call T hs rfl rfl rfl (index_con _ l a _ _ hl' hm) ?_; intro v h3 w3 hle3 hp3 hs)
  have hl' := hl'.mono hle3
  obtain ⟨u, rfl, hu⟩ := hp3
  repeat
    first
    | (with_reducible refine RW.isRW ?_; first
        | refine RW.val (Y.move rfl) rfl ?_
        | refine RW.val (Y.assign rfl) rfl ?_
        | (with_reducible refine RW.isGuard ?_; first
            | refine RW.guardYes rfl rfl ?_
            | refine RW.guardNo rfl rfl rfl rfl ?_
            | refine RW.guardUndef rfl rfl rfl ?_
            | (refine RW.gdY rfl rfl ?_ ?_; omega)
            | (refine RW.gdN rfl rfl ?_ ?_; omega))
        | (with_reducible refine RW.isBin ?_; first
            | refine RW.val (Y.lss rfl rfl) rfl ?_
            | (refine RW.val (Y.add rfl rfl ?_) rfl ?_; omega)
            | refine RW.val (Y.eql rfl rfl) rfl ?_
            | refine RW.val (Y.neq rfl rfl) rfl ?_
            | refine RW.val (Y.gtr rfl rfl) rfl ?_
            | refine RW.val (Y.geq rfl rfl) rfl ?_
            | refine RW.val (Y.leq rfl rfl) rfl ?_
            | (refine RW.val (Y.sub rfl rfl ?_) rfl ?_; omega)
            | (refine RW.val (Y.quo rfl rfl ?_ ?_) rfl ?_; omega; omega)
            | (refine RW.val (Y.rem rfl rfl ?_ ?_) rfl ?_; omega; omega))
        | (with_reducible refine RW.isLoad ?_; first
            | (refine RW.val (Y.ldInt T hs rfl (by assumption) rfl rfl ?_) rfl ?_; omega)
            | (refine RW.val (Y.ldS T hs rfl (by assumption) rfl rfl ?_ (by assumption)) rfl ?_; omega))
        | (with_reducible refine RW.isIdx ?_; first
            | (refine RW.val (Y.idxSN T rfl rfl (by assumption) rfl rfl rfl ?_) rfl ?_; omega)
            | (refine RW.val (Y.idxS T rfl rfl (by assumption) rfl rfl rfl ?_) rfl ?_; omega))
        | (with_reducible refine RW.isCall ?_; first
            | refine RW.val (Y.len T rfl rfl) rfl ?_
            | refine RW.val (Y.max2 rfl rfl) rfl ?_
            | refine RW.val (Y.min2 rfl rfl) rfl ?_)
        | refine RW.val (Y.extract rfl rfl) rfl ?_
        | (with_reducible refine RW.isUn ?_; first
            | refine RW.val (Y.notD rfl) rfl ?_
            | refine RW.val (Y.not rfl) rfl ?_)
        | (with_reducible refine RW.isPick ?_; first
            | refine RW.val (Y.pickT rfl rfl) rfl ?_
            | refine RW.val (Y.pickF rfl rfl) rfl ?_)
        | with_reducible refine RW.nil ?_)
    | (with_reducible refine CW.isCW ?_; first
        | with_reducible refine CW.seq ?_
        | with_reducible refine CW.region ?_
        | with_reducible refine CW.block ?_
        | with_reducible refine CW.ret ?_
        | with_reducible refine CW.skip ?_
        | with_reducible refine CW.exit ?_
        | refine CW.condT rfl ?_
        | refine CW.condF rfl ?_
        | (refine CW.condY rfl ?_ ?_; omega)
        | (refine CW.condN rfl ?_ ?_; omega))
    | with_reducible refine thenQ_normal ?_
    | with_reducible refine thenQ_ret ?_
    | with_reducible refine thenQ_exit ?_
    | with_reducible refine blockQ_normal ?_
    | with_reducible refine blockQ_ret ?_
    | with_reducible refine loopQ_ret ?_
    | with_reducible refine loopQ_exit ?_
    | with_reducible refine joinQ_ret ?_
    | with_reducible refine joinQ_exit ?_
    | refine blockQ_exit rfl ?_
    | refine blockQ_past rfl ?_
  (refine RW.call T hs rfl rfl rfl (refProduct_con _ l 1048576 _ _ hl' hm) ?_; intro v h4 w4 hle4 hp4 hs)
  subst hp4
  have hl' := hl'.mono hle4
  have hu := hu.mono hle4
  have hix := index_cases l a
  generalize indexSpec l a = q at hix hu ⊢
  generalize product l 1048576 = r at hix ⊢
  repeat
    first
    | (with_reducible refine RW.isRW ?_; first
        | refine RW.val (Y.move rfl) rfl ?_
        | refine RW.val (Y.assign rfl) rfl ?_
        | (with_reducible refine RW.isGuard ?_; first
            | refine RW.guardYes rfl rfl ?_
            | refine RW.guardNo rfl rfl rfl rfl ?_
            | refine RW.guardUndef rfl rfl rfl ?_
            | (refine RW.gdY rfl rfl ?_ ?_; omega)
            | (refine RW.gdN rfl rfl ?_ ?_; omega))
        | (with_reducible refine RW.isBin ?_; first
            | refine RW.val (Y.lss rfl rfl) rfl ?_
            | (refine RW.val (Y.add rfl rfl ?_) rfl ?_; omega)
            | refine RW.val (Y.eql rfl rfl) rfl ?_
            | refine RW.val (Y.neq rfl rfl) rfl ?_
            | refine RW.val (Y.gtr rfl rfl) rfl ?_
            | refine RW.val (Y.geq rfl rfl) rfl ?_
            | refine RW.val (Y.leq rfl rfl) rfl ?_
            | (refine RW.val (Y.sub rfl rfl ?_) rfl ?_; omega)
            | (refine RW.val (Y.quo rfl rfl ?_ ?_) rfl ?_; omega; omega)
            | (refine RW.val (Y.rem rfl rfl ?_ ?_) rfl ?_; omega; omega))
        | (with_reducible refine RW.isLoad ?_; first
            | (refine RW.val (Y.ldInt T hs rfl (by assumption) rfl rfl ?_) rfl ?_; omega)
            | (refine RW.val (Y.ldS T hs rfl (by assumption) rfl rfl ?_ (by assumption)) rfl ?_; omega))
        | (with_reducible refine RW.isIdx ?_; first
            | (refine RW.val (Y.idxSN T rfl rfl (by assumption) rfl rfl rfl ?_) rfl ?_; omega)
            | (refine RW.val (Y.idxS T rfl rfl (by assumption) rfl rfl rfl ?_) rfl ?_; omega))
        | (with_reducible refine RW.isCall ?_; first
            | refine RW.val (Y.len T rfl rfl) rfl ?_
            | refine RW.val (Y.max2 rfl rfl) rfl ?_
            | refine RW.val (Y.min2 rfl rfl) rfl ?_)
        | refine RW.val (Y.extract rfl rfl) rfl ?_
        | (with_reducible refine RW.isUn ?_; first
            | refine RW.val (Y.notD rfl) rfl ?_
            | refine RW.val (Y.not rfl) rfl ?_)
        | (with_reducible refine RW.isPick ?_; first
            | refine RW.val (Y.pickT rfl rfl) rfl ?_
            | refine RW.val (Y.pickF rfl rfl) rfl ?_)
        | with_reducible refine RW.nil ?_)
    | (with_reducible refine CW.isCW ?_; first
        | with_reducible refine CW.seq ?_
        | with_reducible refine CW.region ?_
        | with_reducible refine CW.block ?_
        | with_reducible refine CW.ret ?_
        | with_reducible refine CW.skip ?_
        | with_reducible refine CW.exit ?_
        | refine CW.condT rfl ?_
        | refine CW.condF rfl ?_
        | (refine CW.condY rfl ?_ ?_; omega)
        | (refine CW.condN rfl ?_ ?_; omega))
    | with_reducible refine thenQ_normal ?_
    | with_reducible refine thenQ_ret ?_
    | with_reducible refine thenQ_exit ?_
    | with_reducible refine blockQ_normal ?_
    | with_reducible refine blockQ_ret ?_
    | with_reducible refine loopQ_ret ?_
    | with_reducible refine loopQ_exit ?_
    | with_reducible refine joinQ_ret ?_
    | with_reducible refine joinQ_exit ?_
    | refine blockQ_exit rfl ?_
    | refine blockQ_past rfl ?_
  obtain ⟨p, pb⟩ := p
  obtain ⟨q, qb⟩ := q
  simp only [Prod.mk.injEq] at hat hix
  replace hu : IntsAt h4 u q := hu
  refine RW.meet (fun _ : Unit => [(0, .slice ad l.length cp), (1, .slice ad2 m.length cp2), (2, .int .i64 a), (7, .int .i64 p), (8, .bool pb), (9, .int .i64 (if pb = true then p else -1)), (10, u), (11, .bool qb), (14, .bool qb)]) (fun _ w' => Sees w h h4 [] w') ?_ ?_
  · rcases hix with ⟨hc, x, ⟨e0, e⟩, _⟩ | ⟨hc, e0, e⟩
    · subst e
      repeat
        first
        | (with_reducible refine RW.isRW ?_; first
            | refine RW.val (Y.move rfl) rfl ?_
            | refine RW.val (Y.assign rfl) rfl ?_
            | (with_reducible refine RW.isGuard ?_; first
                | refine RW.guardYes rfl rfl ?_
                | refine RW.guardNo rfl rfl rfl rfl ?_
                | refine RW.guardUndef rfl rfl rfl ?_
                | (refine RW.gdY rfl rfl ?_ ?_; omega)
                | (refine RW.gdN rfl rfl ?_ ?_; omega))
            | (with_reducible refine RW.isBin ?_; first
                | refine RW.val (Y.lss rfl rfl) rfl ?_
                | (refine RW.val (Y.add rfl rfl ?_) rfl ?_; omega)
                | refine RW.val (Y.eql rfl rfl) rfl ?_
                | refine RW.val (Y.neq rfl rfl) rfl ?_
                | refine RW.val (Y.gtr rfl rfl) rfl ?_
                | refine RW.val (Y.geq rfl rfl) rfl ?_
                | refine RW.val (Y.leq rfl rfl) rfl ?_
                | (refine RW.val (Y.sub rfl rfl ?_) rfl ?_; omega)
                | (refine RW.val (Y.quo rfl rfl ?_ ?_) rfl ?_; omega; omega)
                | (refine RW.val (Y.rem rfl rfl ?_ ?_) rfl ?_; omega; omega))
            | (with_reducible refine RW.isLoad ?_; first
                | (refine RW.val (Y.ldInt T hs rfl (by assumption) rfl rfl ?_) rfl ?_; omega)
                | (refine RW.val (Y.ldS T hs rfl (by assumption) rfl rfl ?_ (by assumption)) rfl ?_; omega))
            | (with_reducible refine RW.isIdx ?_; first
                | (refine RW.val (Y.idxSN T rfl rfl (by assumption) rfl rfl rfl ?_) rfl ?_; omega)
                | (refine RW.val (Y.idxS T rfl rfl (by assumption) rfl rfl rfl ?_) rfl ?_; omega))
            | (with_reducible refine RW.isCall ?_; first
                | refine RW.val (Y.len T rfl rfl) rfl ?_
                | refine RW.val (Y.max2 rfl rfl) rfl ?_
                | refine RW.val (Y.min2 rfl rfl) rfl ?_)
            | refine RW.val (Y.extract rfl rfl) rfl ?_
            | (with_reducible refine RW.isUn ?_; first
                | refine RW.val (Y.notD rfl) rfl ?_
                | refine RW.val (Y.not rfl) rfl ?_)
            | (with_reducible refine RW.isPick ?_; first
                | refine RW.val (Y.pickT rfl rfl) rfl ?_
                | refine RW.val (Y.pickF rfl rfl) rfl ?_)
            | with_reducible refine RW.nil ?_)
        | (with_reducible refine CW.isCW ?_; first
            | with_reducible refine CW.seq ?_
            | with_reducible refine CW.region ?_
            | with_reducible refine CW.block ?_
            | with_reducible refine CW.ret ?_
            | with_reducible refine CW.skip ?_
            | with_reducible refine CW.exit ?_
            | refine CW.condT rfl ?_
            | refine CW.condF rfl ?_
            | (refine CW.condY rfl ?_ ?_; omega)
            | (refine CW.condN rfl ?_ ?_; omega))
        | with_reducible refine thenQ_normal ?_
        | with_reducible refine thenQ_ret ?_
        | with_reducible refine thenQ_exit ?_
        | with_reducible refine blockQ_normal ?_
        | with_reducible refine blockQ_ret ?_
        | with_reducible refine loopQ_ret ?_
        | with_reducible refine loopQ_exit ?_
        | with_reducible refine joinQ_ret ?_
        | with_reducible refine joinQ_exit ?_
        | refine blockQ_exit rfl ?_
        | refine blockQ_past rfl ?_
      exact joinQ_meet () ⟨rfl, rfl, rfl, rfl, rfl, rfl, rfl, rfl, setb (by simp only [decide_eq_true_eq]; omega), trivial⟩ hs
    · subst e
      refine RW.gd rfl rfl (fun h5 => ?_) (fun h5 => ?_)
      · repeat
          first
          | (with_reducible refine RW.isRW ?_; first
              | refine RW.val (Y.move rfl) rfl ?_
              | refine RW.val (Y.assign rfl) rfl ?_
              | (with_reducible refine RW.isGuard ?_; first
                  | refine RW.guardYes rfl rfl ?_
                  | refine RW.guardNo rfl rfl rfl rfl ?_
                  | refine RW.guardUndef rfl rfl rfl ?_
                  | (refine RW.gdY rfl rfl ?_ ?_; omega)
                  | (refine RW.gdN rfl rfl ?_ ?_; omega))
              | (with_reducible refine RW.isBin ?_; first
                  | refine RW.val (Y.lss rfl rfl) rfl ?_
                  | (refine RW.val (Y.add rfl rfl ?_) rfl ?_; omega)
                  | refine RW.val (Y.eql rfl rfl) rfl ?_
                  | refine RW.val (Y.neq rfl rfl) rfl ?_
                  | refine RW.val (Y.gtr rfl rfl) rfl ?_
                  | refine RW.val (Y.geq rfl rfl) rfl ?_
                  | refine RW.val (Y.leq rfl rfl) rfl ?_
                  | (refine RW.val (Y.sub rfl rfl ?_) rfl ?_; omega)
                  | (refine RW.val (Y.quo rfl rfl ?_ ?_) rfl ?_; omega; omega)
                  | (refine RW.val (Y.rem rfl rfl ?_ ?_) rfl ?_; omega; omega))
              | (with_reducible refine RW.isLoad ?_; first
                  | (refine RW.val (Y.ldInt T hs rfl (by assumption) rfl rfl ?_) rfl ?_; omega)
                  | (refine RW.val (Y.ldS T hs rfl (by assumption) rfl rfl ?_ (by assumption)) rfl ?_; omega))
              | (with_reducible refine RW.isIdx ?_; first
                  | (refine RW.val (Y.idxSN T rfl rfl (by assumption) rfl rfl rfl ?_) rfl ?_; omega)
                  | (refine RW.val (Y.idxS T rfl rfl (by assumption) rfl rfl rfl ?_) rfl ?_; omega))
              | (with_reducible refine RW.isCall ?_; first
                  | refine RW.val (Y.len T rfl rfl) rfl ?_
                  | refine RW.val (Y.max2 rfl rfl) rfl ?_
                  | refine RW.val (Y.min2 rfl rfl) rfl ?_)
              | refine RW.val (Y.extract rfl rfl) rfl ?_
              | (with_reducible refine RW.isUn ?_; first
                  | refine RW.val (Y.notD rfl) rfl ?_
                  | refine RW.val (Y.not rfl) rfl ?_)
              | (with_reducible refine RW.isPick ?_; first
                  | refine RW.val (Y.pickT rfl rfl) rfl ?_
                  | refine RW.val (Y.pickF rfl rfl) rfl ?_)
              | with_reducible refine RW.nil ?_)
          | (with_reducible refine CW.isCW ?_; first
              | with_reducible refine CW.seq ?_
              | with_reducible refine CW.region ?_
              | with_reducible refine CW.block ?_
              | with_reducible refine CW.ret ?_
              | with_reducible refine CW.skip ?_
              | with_reducible refine CW.exit ?_
              | refine CW.condT rfl ?_
              | refine CW.condF rfl ?_
              | (refine CW.condY rfl ?_ ?_; omega)
              | (refine CW.condN rfl ?_ ?_; omega))
          | with_reducible refine thenQ_normal ?_
          | with_reducible refine thenQ_ret ?_
          | with_reducible refine thenQ_exit ?_
          | with_reducible refine blockQ_normal ?_
          | with_reducible refine blockQ_ret ?_
          | with_reducible refine loopQ_ret ?_
          | with_reducible refine loopQ_exit ?_
          | with_reducible refine joinQ_ret ?_
          | with_reducible refine joinQ_exit ?_
          | refine blockQ_exit rfl ?_
          | refine blockQ_past rfl ?_
        refine RW.gd rfl rfl (fun h6 => ?_) (fun h6 => ?_)
        · repeat
            first
            | (with_reducible refine RW.isRW ?_; first
                | refine RW.val (Y.move rfl) rfl ?_
                | refine RW.val (Y.assign rfl) rfl ?_
                | (with_reducible refine RW.isGuard ?_; first
                    | refine RW.guardYes rfl rfl ?_
                    | refine RW.guardNo rfl rfl rfl rfl ?_
                    | refine RW.guardUndef rfl rfl rfl ?_
                    | (refine RW.gdY rfl rfl ?_ ?_; omega)
                    | (refine RW.gdN rfl rfl ?_ ?_; omega))
                | (with_reducible refine RW.isBin ?_; first
                    | refine RW.val (Y.lss rfl rfl) rfl ?_
                    | (refine RW.val (Y.add rfl rfl ?_) rfl ?_; omega)
                    | refine RW.val (Y.eql rfl rfl) rfl ?_
                    | refine RW.val (Y.neq rfl rfl) rfl ?_
                    | refine RW.val (Y.gtr rfl rfl) rfl ?_
                    | refine RW.val (Y.geq rfl rfl) rfl ?_
                    | refine RW.val (Y.leq rfl rfl) rfl ?_
                    | (refine RW.val (Y.sub rfl rfl ?_) rfl ?_; omega)
                    | (refine RW.val (Y.quo rfl rfl ?_ ?_) rfl ?_; omega; omega)
                    | (refine RW.val (Y.rem rfl rfl ?_ ?_) rfl ?_; omega; omega))
                | (with_reducible refine RW.isLoad ?_; first
                    | (refine RW.val (Y.ldInt T hs rfl (by assumption) rfl rfl ?_) rfl ?_; omega)
                    | (refine RW.val (Y.ldS T hs rfl (by assumption) rfl rfl ?_ (by assumption)) rfl ?_; omega))
                | (with_reducible refine RW.isIdx ?_; first
                    | (refine RW.val (Y.idxSN T rfl rfl (by assumption) rfl rfl rfl ?_) rfl ?_; omega)
                    | (refine RW.val (Y.idxS T rfl rfl (by assumption) rfl rfl rfl ?_) rfl ?_; omega))
                | (with_reducible refine RW.isCall ?_; first
                    | refine RW.val (Y.len T rfl rfl) rfl ?_
                    | refine RW.val (Y.max2 rfl rfl) rfl ?_
                    | refine RW.val (Y.min2 rfl rfl) rfl ?_)
                | refine RW.val (Y.extract rfl rfl) rfl ?_
                | (with_reducible refine RW.isUn ?_; first
                    | refine RW.val (Y.notD rfl) rfl ?_
                    | refine RW.val (Y.not rfl) rfl ?_)
                | (with_reducible refine RW.isPick ?_; first
                    | refine RW.val (Y.pickT rfl rfl) rfl ?_
                    | refine RW.val (Y.pickF rfl rfl) rfl ?_)
                | with_reducible refine RW.nil ?_)
            | (with_reducible refine CW.isCW ?_; first
                | with_reducible refine CW.seq ?_
                | with_reducible refine CW.region ?_
                | with_reducible refine CW.block ?_
                | with_reducible refine CW.ret ?_
                | with_reducible refine CW.skip ?_
                | with_reducible refine CW.exit ?_
                | refine CW.condT rfl ?_
                | refine CW.condF rfl ?_
                | (refine CW.condY rfl ?_ ?_; omega)
                | (refine CW.condN rfl ?_ ?_; omega))
            | with_reducible refine thenQ_normal ?_
            | with_reducible refine thenQ_ret ?_
            | with_reducible refine thenQ_exit ?_
            | with_reducible refine blockQ_normal ?_
            | with_reducible refine blockQ_ret ?_
            | with_reducible refine loopQ_ret ?_
            | with_reducible refine loopQ_exit ?_
            | with_reducible refine joinQ_ret ?_
            | with_reducible refine joinQ_exit ?_
            | refine blockQ_exit rfl ?_
            | refine blockQ_past rfl ?_
          exact joinQ_meet () ⟨rfl, rfl, rfl, rfl, rfl, rfl, rfl, rfl, setb (by simp only [decide_eq_false_iff_not]; omega), trivial⟩ hs
        · repeat
            first
            | (with_reducible refine RW.isRW ?_; first
                | refine RW.val (Y.move rfl) rfl ?_
                | refine RW.val (Y.assign rfl) rfl ?_
                | (with_reducible refine RW.isGuard ?_; first
                    | refine RW.guardYes rfl rfl ?_
                    | refine RW.guardNo rfl rfl rfl rfl ?_
                    | refine RW.guardUndef rfl rfl rfl ?_
                    | (refine RW.gdY rfl rfl ?_ ?_; omega)
                    | (refine RW.gdN rfl rfl ?_ ?_; omega))
                | (with_reducible refine RW.isBin ?_; first
                    | refine RW.val (Y.lss rfl rfl) rfl ?_
                    | (refine RW.val (Y.add rfl rfl ?_) rfl ?_; omega)
                    | refine RW.val (Y.eql rfl rfl) rfl ?_
                    | refine RW.val (Y.neq rfl rfl) rfl ?_
                    | refine RW.val (Y.gtr rfl rfl) rfl ?_
                    | refine RW.val (Y.geq rfl rfl) rfl ?_
                    | refine RW.val (Y.leq rfl rfl) rfl ?_
                    | (refine RW.val (Y.sub rfl rfl ?_) rfl ?_; omega)
                    | (refine RW.val (Y.quo rfl rfl ?_ ?_) rfl ?_; omega; omega)
                    | (refine RW.val (Y.rem rfl rfl ?_ ?_) rfl ?_; omega; omega))
                | (with_reducible refine RW.isLoad ?_; first
                    | (refine RW.val (Y.ldInt T hs rfl (by assumption) rfl rfl ?_) rfl ?_; omega)
                    | (refine RW.val (Y.ldS T hs rfl (by assumption) rfl rfl ?_ (by assumption)) rfl ?_; omega))
                | (with_reducible refine RW.isIdx ?_; first
                    | (refine RW.val (Y.idxSN T rfl rfl (by assumption) rfl rfl rfl ?_) rfl ?_; omega)
                    | (refine RW.val (Y.idxS T rfl rfl (by assumption) rfl rfl rfl ?_) rfl ?_; omega))
                | (with_reducible refine RW.isCall ?_; first
                    | refine RW.val (Y.len T rfl rfl) rfl ?_
                    | refine RW.val (Y.max2 rfl rfl) rfl ?_
                    | refine RW.val (Y.min2 rfl rfl) rfl ?_)
                | refine RW.val (Y.extract rfl rfl) rfl ?_
                | (with_reducible refine RW.isUn ?_; first
                    | refine RW.val (Y.notD rfl) rfl ?_
                    | refine RW.val (Y.not rfl) rfl ?_)
                | (with_reducible refine RW.isPick ?_; first
                    | refine RW.val (Y.pickT rfl rfl) rfl ?_
                    | refine RW.val (Y.pickF rfl rfl) rfl ?_)
                | with_reducible refine RW.nil ?_)
            | (with_reducible refine CW.isCW ?_; first
                | with_reducible refine CW.seq ?_
                | with_reducible refine CW.region ?_
                | with_reducible refine CW.block ?_
                | with_reducible refine CW.ret ?_
                | with_reducible refine CW.skip ?_
                | with_reducible refine CW.exit ?_
                | refine CW.condT rfl ?_
                | refine CW.condF rfl ?_
                | (refine CW.condY rfl ?_ ?_; omega)
                | (refine CW.condN rfl ?_ ?_; omega))
            | with_reducible refine thenQ_normal ?_
            | with_reducible refine thenQ_ret ?_
            | with_reducible refine thenQ_exit ?_
            | with_reducible refine blockQ_normal ?_
            | with_reducible refine blockQ_ret ?_
            | with_reducible refine loopQ_ret ?_
            | with_reducible refine loopQ_exit ?_
            | with_reducible refine joinQ_ret ?_
            | with_reducible refine joinQ_exit ?_
            | refine blockQ_exit rfl ?_
            | refine blockQ_past rfl ?_
          exact joinQ_meet () ⟨rfl, rfl, rfl, rfl, rfl, rfl, rfl, rfl, rfl, trivial⟩ hs
      · repeat
          first
          | (with_reducible refine RW.isRW ?_; first
              | refine RW.val (Y.move rfl) rfl ?_
              | refine RW.val (Y.assign rfl) rfl ?_
              | (with_reducible refine RW.isGuard ?_; first
                  | refine RW.guardYes rfl rfl ?_
                  | refine RW.guardNo rfl rfl rfl rfl ?_
                  | refine RW.guardUndef rfl rfl rfl ?_
                  | (refine RW.gdY rfl rfl ?_ ?_; omega)
                  | (refine RW.gdN rfl rfl ?_ ?_; omega))
              | (with_reducible refine RW.isBin ?_; first
                  | refine RW.val (Y.lss rfl rfl) rfl ?_
                  | (refine RW.val (Y.add rfl rfl ?_) rfl ?_; omega)
                  | refine RW.val (Y.eql rfl rfl) rfl ?_
                  | refine RW.val (Y.neq rfl rfl) rfl ?_
                  | refine RW.val (Y.gtr rfl rfl) rfl ?_
                  | refine RW.val (Y.geq rfl rfl) rfl ?_
                  | refine RW.val (Y.leq rfl rfl) rfl ?_
                  | (refine RW.val (Y.sub rfl rfl ?_) rfl ?_; omega)
                  | (refine RW.val (Y.quo rfl rfl ?_ ?_) rfl ?_; omega; omega)
                  | (refine RW.val (Y.rem rfl rfl ?_ ?_) rfl ?_; omega; omega))
              | (with_reducible refine RW.isLoad ?_; first
                  | (refine RW.val (Y.ldInt T hs rfl (by assumption) rfl rfl ?_) rfl ?_; omega)
                  | (refine RW.val (Y.ldS T hs rfl (by assumption) rfl rfl ?_ (by assumption)) rfl ?_; omega))
              | (with_reducible refine RW.isIdx ?_; first
                  | (refine RW.val (Y.idxSN T rfl rfl (by assumption) rfl rfl rfl ?_) rfl ?_; omega)
                  | (refine RW.val (Y.idxS T rfl rfl (by assumption) rfl rfl rfl ?_) rfl ?_; omega))
              | (with_reducible refine RW.isCall ?_; first
                  | refine RW.val (Y.len T rfl rfl) rfl ?_
                  | refine RW.val (Y.max2 rfl rfl) rfl ?_
                  | refine RW.val (Y.min2 rfl rfl) rfl ?_)
              | refine RW.val (Y.extract rfl rfl) rfl ?_
              | (with_reducible refine RW.isUn ?_; first
                  | refine RW.val (Y.notD rfl) rfl ?_
                  | refine RW.val (Y.not rfl) rfl ?_)
              | (with_reducible refine RW.isPick ?_; first
                  | refine RW.val (Y.pickT rfl rfl) rfl ?_
                  | refine RW.val (Y.pickF rfl rfl) rfl ?_)
              | with_reducible refine RW.nil ?_)
          | (with_reducible refine CW.isCW ?_; first
              | with_reducible refine CW.seq ?_
              | with_reducible refine CW.region ?_
              | with_reducible refine CW.block ?_
              | with_reducible refine CW.ret ?_
              | with_reducible refine CW.skip ?_
              | with_reducible refine CW.exit ?_
              | refine CW.condT rfl ?_
              | refine CW.condF rfl ?_
              | (refine CW.condY rfl ?_ ?_; omega)
              | (refine CW.condN rfl ?_ ?_; omega))
          | with_reducible refine thenQ_normal ?_
          | with_reducible refine thenQ_ret ?_
          | with_reducible refine thenQ_exit ?_
          | with_reducible refine blockQ_normal ?_
          | with_reducible refine blockQ_ret ?_
          | with_reducible refine loopQ_ret ?_
          | with_reducible refine loopQ_exit ?_
          | with_reducible refine joinQ_ret ?_
          | with_reducible refine joinQ_exit ?_
          | refine blockQ_exit rfl ?_
          | refine blockQ_past rfl ?_
        exact joinQ_meet () ⟨rfl, rfl, rfl, rfl, rfl, rfl, rfl, rfl, rfl, trivial⟩ hs
  intro _ w5 hs
  repeat
    first
    | (with_reducible refine RW.isRW ?_; first
        | refine RW.val (Y.move rfl) rfl ?_
        | refine RW.val (Y.assign rfl) rfl ?_
        | (with_reducible refine RW.isGuard ?_; first
            | refine RW.guardYes rfl rfl ?_
            | refine RW.guardNo rfl rfl rfl rfl ?_
            | refine RW.guardUndef rfl rfl rfl ?_
            | (refine RW.gdY rfl rfl ?_ ?_; omega)
            | (refine RW.gdN rfl rfl ?_ ?_; omega))
        | (with_reducible refine RW.isBin ?_; first
            | refine RW.val (Y.lss rfl rfl) rfl ?_
            | (refine RW.val (Y.add rfl rfl ?_) rfl ?_; omega)
            | refine RW.val (Y.eql rfl rfl) rfl ?_
            | refine RW.val (Y.neq rfl rfl) rfl ?_
            | refine RW.val (Y.gtr rfl rfl) rfl ?_
            | refine RW.val (Y.geq rfl rfl) rfl ?_
            | refine RW.val (Y.leq rfl rfl) rfl ?_
            | (refine RW.val (Y.sub rfl rfl ?_) rfl ?_; omega)
            | (refine RW.val (Y.quo rfl rfl ?_ ?_) rfl ?_; omega; omega)
            | (refine RW.val (Y.rem rfl rfl ?_ ?_) rfl ?_; omega; omega))
        | (with_reducible refine RW.isLoad ?_; first
            | (refine RW.val (Y.ldInt T hs rfl (by assumption) rfl rfl ?_) rfl ?_; omega)
            | (refine RW.val (Y.ldS T hs rfl (by assumption) rfl rfl ?_ (by assumption)) rfl ?_; omega))
        | (with_reducible refine RW.isIdx ?_; first
            | (refine RW.val (Y.idxSN T rfl rfl (by assumption) rfl rfl rfl ?_) rfl ?_; omega)
            | (refine RW.val (Y.idxS T rfl rfl (by assumption) rfl rfl rfl ?_) rfl ?_; omega))
        | (with_reducible refine RW.isCall ?_; first
            | refine RW.val (Y.len T rfl rfl) rfl ?_
            | refine RW.val (Y.max2 rfl rfl) rfl ?_
            | refine RW.val (Y.min2 rfl rfl) rfl ?_)
        | refine RW.val (Y.extract rfl rfl) rfl ?_
        | (with_reducible refine RW.isUn ?_; first
            | refine RW.val (Y.notD rfl) rfl ?_
            | refine RW.val (Y.not rfl) rfl ?_)
        | (with_reducible refine RW.isPick ?_; first
            | refine RW.val (Y.pickT rfl rfl) rfl ?_
            | refine RW.val (Y.pickF rfl rfl) rfl ?_)
        | with_reducible refine RW.nil ?_)
    | (with_reducible refine CW.isCW ?_; first
        | with_reducible refine CW.seq ?_
        | with_reducible refine CW.region ?_
        | with_reducible refine CW.block ?_
        | with_reducible refine CW.ret ?_
        | with_reducible refine CW.skip ?_
        | with_reducible refine CW.exit ?_
        | refine CW.condT rfl ?_
        | refine CW.condF rfl ?_
        | (refine CW.condY rfl ?_ ?_; omega)
        | (refine CW.condN rfl ?_ ?_; omega))
    | with_reducible refine thenQ_normal ?_
    | with_reducible refine thenQ_ret ?_
    | with_reducible refine thenQ_exit ?_
    | with_reducible refine blockQ_normal ?_
    | with_reducible refine blockQ_ret ?_
    | with_reducible refine loopQ_ret ?_
    | with_reducible refine loopQ_exit ?_
    | with_reducible refine joinQ_ret ?_
    | with_reducible refine joinQ_exit ?_
    | refine blockQ_exit rfl ?_
    | refine blockQ_past rfl ?_
  refine RW.cut 23 (fun _ : Unit => [(0, .slice ad l.length cp), (1, .slice ad2 m.length cp2), (2, .int .i64 a), (10, u), (11, .bool qb), (80, .bool false)]) (fun _ w' => Sees w h h4 [] w') ?_ ?_
  · simp only [List.take_succ_cons, List.take_zero]
    refine RW.val (Y.neqB T rfl rfl rfl) rfl ?_
    rcases hat with ⟨x, hx, rfl, rfl⟩ | ⟨rfl, rfl⟩
    · rw [show (!(true == decide (0 ≤ (if true = true then p else -1)))) = false by simp [hx], if_pos rfl]
      repeat
        first
        | (with_reducible refine RW.isRW ?_; first
            | refine RW.val (Y.move rfl) rfl ?_
            | refine RW.val (Y.assign rfl) rfl ?_
            | (with_reducible refine RW.isGuard ?_; first
                | refine RW.guardYes rfl rfl ?_
                | refine RW.guardNo rfl rfl rfl rfl ?_
                | refine RW.guardUndef rfl rfl rfl ?_
                | (refine RW.gdY rfl rfl ?_ ?_; omega)
                | (refine RW.gdN rfl rfl ?_ ?_; omega))
            | (with_reducible refine RW.isBin ?_; first
                | refine RW.val (Y.lss rfl rfl) rfl ?_
                | (refine RW.val (Y.add rfl rfl ?_) rfl ?_; omega)
                | refine RW.val (Y.eql rfl rfl) rfl ?_
                | refine RW.val (Y.neq rfl rfl) rfl ?_
                | refine RW.val (Y.gtr rfl rfl) rfl ?_
                | refine RW.val (Y.geq rfl rfl) rfl ?_
                | refine RW.val (Y.leq rfl rfl) rfl ?_
                | (refine RW.val (Y.sub rfl rfl ?_) rfl ?_; omega)
                | (refine RW.val (Y.quo rfl rfl ?_ ?_) rfl ?_; omega; omega)
                | (refine RW.val (Y.rem rfl rfl ?_ ?_) rfl ?_; omega; omega))
            | (with_reducible refine RW.isLoad ?_; first
                | (refine RW.val (Y.ldInt T hs rfl (by assumption) rfl rfl ?_) rfl ?_; omega)
                | (refine RW.val (Y.ldS T hs rfl (by assumption) rfl rfl ?_ (by assumption)) rfl ?_; omega))
            | (with_reducible refine RW.isIdx ?_; first
                | (refine RW.val (Y.idxSN T rfl rfl (by assumption) rfl rfl rfl ?_) rfl ?_; omega)
                | (refine RW.val (Y.idxS T rfl rfl (by assumption) rfl rfl rfl ?_) rfl ?_; omega))
            | (with_reducible refine RW.isCall ?_; first
                | refine RW.val (Y.len T rfl rfl) rfl ?_
                | refine RW.val (Y.max2 rfl rfl) rfl ?_
                | refine RW.val (Y.min2 rfl rfl) rfl ?_)
            | refine RW.val (Y.extract rfl rfl) rfl ?_
            | (with_reducible refine RW.isUn ?_; first
                | refine RW.val (Y.notD rfl) rfl ?_
                | refine RW.val (Y.not rfl) rfl ?_)
            | (with_reducible refine RW.isPick ?_; first
                | refine RW.val (Y.pickT rfl rfl) rfl ?_
                | refine RW.val (Y.pickF rfl rfl) rfl ?_)
            | with_reducible refine RW.nil ?_)
        | (with_reducible refine CW.isCW ?_; first
            | with_reducible refine CW.seq ?_
            | with_reducible refine CW.region ?_
            | with_reducible refine CW.block ?_
            | with_reducible refine CW.ret ?_
            | with_reducible refine CW.skip ?_
            | with_reducible refine CW.exit ?_
            | refine CW.condT rfl ?_
            | refine CW.condF rfl ?_
            | (refine CW.condY rfl ?_ ?_; omega)
            | (refine CW.condN rfl ?_ ?_; omega))
        | with_reducible refine thenQ_normal ?_
        | with_reducible refine thenQ_ret ?_
        | with_reducible refine thenQ_exit ?_
        | with_reducible refine blockQ_normal ?_
        | with_reducible refine blockQ_ret ?_
        | with_reducible refine loopQ_ret ?_
        | with_reducible refine loopQ_exit ?_
        | with_reducible refine joinQ_ret ?_
        | with_reducible refine joinQ_exit ?_
        | refine blockQ_exit rfl ?_
        | refine blockQ_past rfl ?_
      refine RW.val (Y.neqB T rfl rfl rfl) rfl ?_
      rw [show (!(qb == qb)) = false by simp]
      repeat
        first
        | (with_reducible refine RW.isRW ?_; first
            | refine RW.val (Y.move rfl) rfl ?_
            | refine RW.val (Y.assign rfl) rfl ?_
            | (with_reducible refine RW.isGuard ?_; first
                | refine RW.guardYes rfl rfl ?_
                | refine RW.guardNo rfl rfl rfl rfl ?_
                | refine RW.guardUndef rfl rfl rfl ?_
                | (refine RW.gdY rfl rfl ?_ ?_; omega)
                | (refine RW.gdN rfl rfl ?_ ?_; omega))
            | (with_reducible refine RW.isBin ?_; first
                | refine RW.val (Y.lss rfl rfl) rfl ?_
                | (refine RW.val (Y.add rfl rfl ?_) rfl ?_; omega)
                | refine RW.val (Y.eql rfl rfl) rfl ?_
                | refine RW.val (Y.neq rfl rfl) rfl ?_
                | refine RW.val (Y.gtr rfl rfl) rfl ?_
                | refine RW.val (Y.geq rfl rfl) rfl ?_
                | refine RW.val (Y.leq rfl rfl) rfl ?_
                | (refine RW.val (Y.sub rfl rfl ?_) rfl ?_; omega)
                | (refine RW.val (Y.quo rfl rfl ?_ ?_) rfl ?_; omega; omega)
                | (refine RW.val (Y.rem rfl rfl ?_ ?_) rfl ?_; omega; omega))
            | (with_reducible refine RW.isLoad ?_; first
                | (refine RW.val (Y.ldInt T hs rfl (by assumption) rfl rfl ?_) rfl ?_; omega)
                | (refine RW.val (Y.ldS T hs rfl (by assumption) rfl rfl ?_ (by assumption)) rfl ?_; omega))
            | (with_reducible refine RW.isIdx ?_; first
                | (refine RW.val (Y.idxSN T rfl rfl (by assumption) rfl rfl rfl ?_) rfl ?_; omega)
                | (refine RW.val (Y.idxS T rfl rfl (by assumption) rfl rfl rfl ?_) rfl ?_; omega))
            | (with_reducible refine RW.isCall ?_; first
                | refine RW.val (Y.len T rfl rfl) rfl ?_
                | refine RW.val (Y.max2 rfl rfl) rfl ?_
                | refine RW.val (Y.min2 rfl rfl) rfl ?_)
            | refine RW.val (Y.extract rfl rfl) rfl ?_
            | (with_reducible refine RW.isUn ?_; first
                | refine RW.val (Y.notD rfl) rfl ?_
                | refine RW.val (Y.not rfl) rfl ?_)
            | (with_reducible refine RW.isPick ?_; first
                | refine RW.val (Y.pickT rfl rfl) rfl ?_
                | refine RW.val (Y.pickF rfl rfl) rfl ?_)
            | with_reducible refine RW.nil ?_)
        | (with_reducible refine CW.isCW ?_; first
            | with_reducible refine CW.seq ?_
            | with_reducible refine CW.region ?_
            | with_reducible refine CW.block ?_
            | with_reducible refine CW.ret ?_
            | with_reducible refine CW.skip ?_
            | with_reducible refine CW.exit ?_
            | refine CW.condT rfl ?_
            | refine CW.condF rfl ?_
            | (refine CW.condY rfl ?_ ?_; omega)
            | (refine CW.condN rfl ?_ ?_; omega))
        | with_reducible refine thenQ_normal ?_
        | with_reducible refine thenQ_ret ?_
        | with_reducible refine thenQ_exit ?_
        | with_reducible refine blockQ_normal ?_
        | with_reducible refine blockQ_ret ?_
        | with_reducible refine loopQ_ret ?_
        | with_reducible refine loopQ_exit ?_
        | with_reducible refine joinQ_ret ?_
        | with_reducible refine joinQ_exit ?_
        | refine blockQ_exit rfl ?_
        | refine blockQ_past rfl ?_
      exact joinQ_meet () ⟨rfl, rfl, rfl, rfl, rfl, rfl, trivial⟩ hs
    · rw [show (!(false == decide (0 ≤ (if false = true then (0 : Int) else -1)))) = false by decide]
      repeat
        first
        | (with_reducible refine RW.isRW ?_; first
            | refine RW.val (Y.move rfl) rfl ?_
            | refine RW.val (Y.assign rfl) rfl ?_
            | (with_reducible refine RW.isGuard ?_; first
                | refine RW.guardYes rfl rfl ?_
                | refine RW.guardNo rfl rfl rfl rfl ?_
                | refine RW.guardUndef rfl rfl rfl ?_
                | (refine RW.gdY rfl rfl ?_ ?_; omega)
                | (refine RW.gdN rfl rfl ?_ ?_; omega))
            | (with_reducible refine RW.isBin ?_; first
                | refine RW.val (Y.lss rfl rfl) rfl ?_
                | (refine RW.val (Y.add rfl rfl ?_) rfl ?_; omega)
                | refine RW.val (Y.eql rfl rfl) rfl ?_
                | refine RW.val (Y.neq rfl rfl) rfl ?_
                | refine RW.val (Y.gtr rfl rfl) rfl ?_
                | refine RW.val (Y.geq rfl rfl) rfl ?_
                | refine RW.val (Y.leq rfl rfl) rfl ?_
                | (refine RW.val (Y.sub rfl rfl ?_) rfl ?_; omega)
                | (refine RW.val (Y.quo rfl rfl ?_ ?_) rfl ?_; omega; omega)
                | (refine RW.val (Y.rem rfl rfl ?_ ?_) rfl ?_; omega; omega))
            | (with_reducible refine RW.isLoad ?_; first
                | (refine RW.val (Y.ldInt T hs rfl (by assumption) rfl rfl ?_) rfl ?_; omega)
                | (refine RW.val (Y.ldS T hs rfl (by assumption) rfl rfl ?_ (by assumption)) rfl ?_; omega))
            | (with_reducible refine RW.isIdx ?_; first
                | (refine RW.val (Y.idxSN T rfl rfl (by assumption) rfl rfl rfl ?_) rfl ?_; omega)
                | (refine RW.val (Y.idxS T rfl rfl (by assumption) rfl rfl rfl ?_) rfl ?_; omega))
            | (with_reducible refine RW.isCall ?_; first
                | refine RW.val (Y.len T rfl rfl) rfl ?_
                | refine RW.val (Y.max2 rfl rfl) rfl ?_
                | refine RW.val (Y.min2 rfl rfl) rfl ?_)
            | refine RW.val (Y.extract rfl rfl) rfl ?_
            | (with_reducible refine RW.isUn ?_; first
                | refine RW.val (Y.notD rfl) rfl ?_
                | refine RW.val (Y.not rfl) rfl ?_)
            | (with_reducible refine RW.isPick ?_; first
                | refine RW.val (Y.pickT rfl rfl) rfl ?_
                | refine RW.val (Y.pickF rfl rfl) rfl ?_)
            | with_reducible refine RW.nil ?_)
        | (with_reducible refine CW.isCW ?_; first
            | with_reducible refine CW.seq ?_
            | with_reducible refine CW.region ?_
            | with_reducible refine CW.block ?_
            | with_reducible refine CW.ret ?_
            | with_reducible refine CW.skip ?_
            | with_reducible refine CW.exit ?_
            | refine CW.condT rfl ?_
            | refine CW.condF rfl ?_
            | (refine CW.condY rfl ?_ ?_; omega)
            | (refine CW.condN rfl ?_ ?_; omega))
        | with_reducible refine thenQ_normal ?_
        | with_reducible refine thenQ_ret ?_
        | with_reducible refine thenQ_exit ?_
        | with_reducible refine blockQ_normal ?_
        | with_reducible refine blockQ_ret ?_
        | with_reducible refine loopQ_ret ?_
        | with_reducible refine loopQ_exit ?_
        | with_reducible refine joinQ_ret ?_
        | with_reducible refine joinQ_exit ?_
        | refine blockQ_exit rfl ?_
        | refine blockQ_past rfl ?_
      refine RW.val (Y.neqB T rfl rfl rfl) rfl ?_
      rw [show (!(qb == qb)) = false by simp]
      repeat
        first
        | (with_reducible refine RW.isRW ?_; first
            | refine RW.val (Y.move rfl) rfl ?_
            | refine RW.val (Y.assign rfl) rfl ?_
            | (with_reducible refine RW.isGuard ?_; first
                | refine RW.guardYes rfl rfl ?_
                | refine RW.guardNo rfl rfl rfl rfl ?_
                | refine RW.guardUndef rfl rfl rfl ?_
                | (refine RW.gdY rfl rfl ?_ ?_; omega)
                | (refine RW.gdN rfl rfl ?_ ?_; omega))
            | (with_reducible refine RW.isBin ?_; first
                | refine RW.val (Y.lss rfl rfl) rfl ?_
                | (refine RW.val (Y.add rfl rfl ?_) rfl ?_; omega)
                | refine RW.val (Y.eql rfl rfl) rfl ?_
                | refine RW.val (Y.neq rfl rfl) rfl ?_
                | refine RW.val (Y.gtr rfl rfl) rfl ?_
                | refine RW.val (Y.geq rfl rfl) rfl ?_
                | refine RW.val (Y.leq rfl rfl) rfl ?_
                | (refine RW.val (Y.sub rfl rfl ?_) rfl ?_; omega)
                | (refine RW.val (Y.quo rfl rfl ?_ ?_) rfl ?_; omega; omega)
                | (refine RW.val (Y.rem rfl rfl ?_ ?_) rfl ?_; omega; omega))
            | (with_reducible refine RW.isLoad ?_; first
                | (refine RW.val (Y.ldInt T hs rfl (by assumption) rfl rfl ?_) rfl ?_; omega)
                | (refine RW.val (Y.ldS T hs rfl (by assumption) rfl rfl ?_ (by assumption)) rfl ?_; omega))
            | (with_reducible refine RW.isIdx ?_; first
                | (refine RW.val (Y.idxSN T rfl rfl (by assumption) rfl rfl rfl ?_) rfl ?_; omega)
                | (refine RW.val (Y.idxS T rfl rfl (by assumption) rfl rfl rfl ?_) rfl ?_; omega))
            | (with_reducible refine RW.isCall ?_; first
                | refine RW.val (Y.len T rfl rfl) rfl ?_
                | refine RW.val (Y.max2 rfl rfl) rfl ?_
                | refine RW.val (Y.min2 rfl rfl) rfl ?_)
            | refine RW.val (Y.extract rfl rfl) rfl ?_
            | (with_reducible refine RW.isUn ?_; first
                | refine RW.val (Y.notD rfl) rfl ?_
                | refine RW.val (Y.not rfl) rfl ?_)
            | (with_reducible refine RW.isPick ?_; first
                | refine RW.val (Y.pickT rfl rfl) rfl ?_
                | refine RW.val (Y.pickF rfl rfl) rfl ?_)
            | with_reducible refine RW.nil ?_)
        | (with_reducible refine CW.isCW ?_; first
            | with_reducible refine CW.seq ?_
            | with_reducible refine CW.region ?_
            | with_reducible refine CW.block ?_
            | with_reducible refine CW.ret ?_
            | with_reducible refine CW.skip ?_
            | with_reducible refine CW.exit ?_
            | refine CW.condT rfl ?_
            | refine CW.condF rfl ?_
            | (refine CW.condY rfl ?_ ?_; omega)
            | (refine CW.condN rfl ?_ ?_; omega))
        | with_reducible refine thenQ_normal ?_
        | with_reducible refine thenQ_ret ?_
        | with_reducible refine thenQ_exit ?_
        | with_reducible refine blockQ_normal ?_
        | with_reducible refine blockQ_ret ?_
        | with_reducible refine loopQ_ret ?_
        | with_reducible refine loopQ_exit ?_
        | with_reducible refine joinQ_ret ?_
        | with_reducible refine joinQ_exit ?_
        | refine blockQ_exit rfl ?_
        | refine blockQ_past rfl ?_
      exact joinQ_meet () ⟨rfl, rfl, rfl, rfl, rfl, rfl, trivial⟩ hs
  intro _ w6 hs
  simp only [List.drop_succ_cons, List.drop_zero]
  refine RW.cut 9 (fun _ : Unit => [(0, .slice ad l.length cp), (1, .slice ad2 m.length cp2), (2, .int .i64 a), (10, u), (11, .bool qb), (89, .bool false)]) (fun _ w' => Sees w h h4 [] w') ?_ ?_
  · simp only [List.take_succ_cons, List.take_zero]
    rcases hix with ⟨_, x, ⟨rfl, rfl⟩, _⟩ | ⟨_, rfl, rfl⟩
    · repeat
        first
        | (with_reducible refine RW.isRW ?_; first
            | refine RW.val (Y.move rfl) rfl ?_
            | refine RW.val (Y.assign rfl) rfl ?_
            | (with_reducible refine RW.isGuard ?_; first
                | refine RW.guardYes rfl rfl ?_
                | refine RW.guardNo rfl rfl rfl rfl ?_
                | refine RW.guardUndef rfl rfl rfl ?_
                | (refine RW.gdY rfl rfl ?_ ?_; omega)
                | (refine RW.gdN rfl rfl ?_ ?_; omega))
            | (with_reducible refine RW.isBin ?_; first
                | refine RW.val (Y.lss rfl rfl) rfl ?_
                | (refine RW.val (Y.add rfl rfl ?_) rfl ?_; omega)
                | refine RW.val (Y.eql rfl rfl) rfl ?_
                | refine RW.val (Y.neq rfl rfl) rfl ?_
                | refine RW.val (Y.gtr rfl rfl) rfl ?_
                | refine RW.val (Y.geq rfl rfl) rfl ?_
                | refine RW.val (Y.leq rfl rfl) rfl ?_
                | (refine RW.val (Y.sub rfl rfl ?_) rfl ?_; omega)
                | (refine RW.val (Y.quo rfl rfl ?_ ?_) rfl ?_; omega; omega)
                | (refine RW.val (Y.rem rfl rfl ?_ ?_) rfl ?_; omega; omega))
            | (with_reducible refine RW.isLoad ?_; first
                | (refine RW.val (Y.ldInt T hs rfl (by assumption) rfl rfl ?_) rfl ?_; omega)
                | (refine RW.val (Y.ldS T hs rfl (by assumption) rfl rfl ?_ (by assumption)) rfl ?_; omega))
            | (with_reducible refine RW.isIdx ?_; first
                | (refine RW.val (Y.idxSN T rfl rfl (by assumption) rfl rfl rfl ?_) rfl ?_; omega)
                | (refine RW.val (Y.idxS T rfl rfl (by assumption) rfl rfl rfl ?_) rfl ?_; omega))
            | (with_reducible refine RW.isCall ?_; first
                | refine RW.val (Y.len T rfl rfl) rfl ?_
                | refine RW.val (Y.max2 rfl rfl) rfl ?_
                | refine RW.val (Y.min2 rfl rfl) rfl ?_)
            | refine RW.val (Y.extract rfl rfl) rfl ?_
            | (with_reducible refine RW.isUn ?_; first
                | refine RW.val (Y.notD rfl) rfl ?_
                | refine RW.val (Y.not rfl) rfl ?_)
            | (with_reducible refine RW.isPick ?_; first
                | refine RW.val (Y.pickT rfl rfl) rfl ?_
                | refine RW.val (Y.pickF rfl rfl) rfl ?_)
            | with_reducible refine RW.nil ?_)
        | (with_reducible refine CW.isCW ?_; first
            | with_reducible refine CW.seq ?_
            | with_reducible refine CW.region ?_
            | with_reducible refine CW.block ?_
            | with_reducible refine CW.ret ?_
            | with_reducible refine CW.skip ?_
            | with_reducible refine CW.exit ?_
            | refine CW.condT rfl ?_
            | refine CW.condF rfl ?_
            | (refine CW.condY rfl ?_ ?_; omega)
            | (refine CW.condN rfl ?_ ?_; omega))
        | with_reducible refine thenQ_normal ?_
        | with_reducible refine thenQ_ret ?_
        | with_reducible refine thenQ_exit ?_
        | with_reducible refine blockQ_normal ?_
        | with_reducible refine blockQ_ret ?_
        | with_reducible refine loopQ_ret ?_
        | with_reducible refine loopQ_exit ?_
        | with_reducible refine joinQ_ret ?_
        | with_reducible refine joinQ_exit ?_
        | refine blockQ_exit rfl ?_
        | refine blockQ_past rfl ?_
      exact joinQ_meet () ⟨rfl, rfl, rfl, rfl, rfl, rfl, trivial⟩ hs
    · obtain ⟨ad3, cp3, rfl, _⟩ := hu
      repeat
        first
        | (with_reducible refine RW.isRW ?_; first
            | refine RW.val (Y.move rfl) rfl ?_
            | refine RW.val (Y.assign rfl) rfl ?_
            | (with_reducible refine RW.isGuard ?_; first
                | refine RW.guardYes rfl rfl ?_
                | refine RW.guardNo rfl rfl rfl rfl ?_
                | refine RW.guardUndef rfl rfl rfl ?_
                | (refine RW.gdY rfl rfl ?_ ?_; omega)
                | (refine RW.gdN rfl rfl ?_ ?_; omega))
            | (with_reducible refine RW.isBin ?_; first
                | refine RW.val (Y.lss rfl rfl) rfl ?_
                | (refine RW.val (Y.add rfl rfl ?_) rfl ?_; omega)
                | refine RW.val (Y.eql rfl rfl) rfl ?_
                | refine RW.val (Y.neq rfl rfl) rfl ?_
                | refine RW.val (Y.gtr rfl rfl) rfl ?_
                | refine RW.val (Y.geq rfl rfl) rfl ?_
                | refine RW.val (Y.leq rfl rfl) rfl ?_
                | (refine RW.val (Y.sub rfl rfl ?_) rfl ?_; omega)
                | (refine RW.val (Y.quo rfl rfl ?_ ?_) rfl ?_; omega; omega)
                | (refine RW.val (Y.rem rfl rfl ?_ ?_) rfl ?_; omega; omega))
            | (with_reducible refine RW.isLoad ?_; first
                | (refine RW.val (Y.ldInt T hs rfl (by assumption) rfl rfl ?_) rfl ?_; omega)
                | (refine RW.val (Y.ldS T hs rfl (by assumption) rfl rfl ?_ (by assumption)) rfl ?_; omega))
            | (with_reducible refine RW.isIdx ?_; first
                | (refine RW.val (Y.idxSN T rfl rfl (by assumption) rfl rfl rfl ?_) rfl ?_; omega)
                | (refine RW.val (Y.idxS T rfl rfl (by assumption) rfl rfl rfl ?_) rfl ?_; omega))
            | (with_reducible refine RW.isCall ?_; first
                | refine RW.val (Y.len T rfl rfl) rfl ?_
                | refine RW.val (Y.max2 rfl rfl) rfl ?_
                | refine RW.val (Y.min2 rfl rfl) rfl ?_)
            | refine RW.val (Y.extract rfl rfl) rfl ?_
            | (with_reducible refine RW.isUn ?_; first
                | refine RW.val (Y.notD rfl) rfl ?_
                | refine RW.val (Y.not rfl) rfl ?_)
            | (with_reducible refine RW.isPick ?_; first
                | refine RW.val (Y.pickT rfl rfl) rfl ?_
                | refine RW.val (Y.pickF rfl rfl) rfl ?_)
            | with_reducible refine RW.nil ?_)
        | (with_reducible refine CW.isCW ?_; first
            | with_reducible refine CW.seq ?_
            | with_reducible refine CW.region ?_
            | with_reducible refine CW.block ?_
            | with_reducible refine CW.ret ?_
            | with_reducible refine CW.skip ?_
            | with_reducible refine CW.exit ?_
            | refine CW.condT rfl ?_
            | refine CW.condF rfl ?_
            | (refine CW.condY rfl ?_ ?_; omega)
            | (refine CW.condN rfl ?_ ?_; omega))
        | with_reducible refine thenQ_normal ?_
        | with_reducible refine thenQ_ret ?_
        | with_reducible refine thenQ_exit ?_
        | with_reducible refine blockQ_normal ?_
        | with_reducible refine blockQ_ret ?_
        | with_reducible refine loopQ_ret ?_
        | with_reducible refine loopQ_exit ?_
        | with_reducible refine joinQ_ret ?_
        | with_reducible refine joinQ_exit ?_
        | refine blockQ_exit rfl ?_
        | refine blockQ_past rfl ?_
      exact joinQ_meet () ⟨rfl, rfl, rfl, rfl, rfl, rfl, trivial⟩ hs
  intro _ w7 hs
  simp only [List.drop_succ_cons, List.drop_zero]
  repeat
    first
    | (with_reducible refine RW.isRW ?_; first
        | refine RW.val (Y.move rfl) rfl ?_
        | refine RW.val (Y.assign rfl) rfl ?_
        | (with_reducible refine RW.isGuard ?_; first
            | refine RW.guardYes rfl rfl ?_
            | refine RW.guardNo rfl rfl rfl rfl ?_
            | refine RW.guardUndef rfl rfl rfl ?_
            | (refine RW.gdY rfl rfl ?_ ?_; omega)
            | (refine RW.gdN rfl rfl ?_ ?_; omega))
        | (with_reducible refine RW.isBin ?_; first
            | refine RW.val (Y.lss rfl rfl) rfl ?_
            | (refine RW.val (Y.add rfl rfl ?_) rfl ?_; omega)
            | refine RW.val (Y.eql rfl rfl) rfl ?_
            | refine RW.val (Y.neq rfl rfl) rfl ?_
            | refine RW.val (Y.gtr rfl rfl) rfl ?_
            | refine RW.val (Y.geq rfl rfl) rfl ?_
            | refine RW.val (Y.leq rfl rfl) rfl ?_
            | (refine RW.val (Y.sub rfl rfl ?_) rfl ?_; omega)
            | (refine RW.val (Y.quo rfl rfl ?_ ?_) rfl ?_; omega; omega)
            | (refine RW.val (Y.rem rfl rfl ?_ ?_) rfl ?_; omega; omega))
        | (with_reducible refine RW.isLoad ?_; first
            | (refine RW.val (Y.ldInt T hs rfl (by assumption) rfl rfl ?_) rfl ?_; omega)
            | (refine RW.val (Y.ldS T hs rfl (by assumption) rfl rfl ?_ (by assumption)) rfl ?_; omega))
        | (with_reducible refine RW.isIdx ?_; first
            | (refine RW.val (Y.idxSN T rfl rfl (by assumption) rfl rfl rfl ?_) rfl ?_; omega)
            | (refine RW.val (Y.idxS T rfl rfl (by assumption) rfl rfl rfl ?_) rfl ?_; omega))
        | (with_reducible refine RW.isCall ?_; first
            | refine RW.val (Y.len T rfl rfl) rfl ?_
            | refine RW.val (Y.max2 rfl rfl) rfl ?_
            | refine RW.val (Y.min2 rfl rfl) rfl ?_)
        | refine RW.val (Y.extract rfl rfl) rfl ?_
        | (with_reducible refine RW.isUn ?_; first
            | refine RW.val (Y.notD rfl) rfl ?_
            | refine RW.val (Y.not rfl) rfl ?_)
        | (with_reducible refine RW.isPick ?_; first
            | refine RW.val (Y.pickT rfl rfl) rfl ?_
            | refine RW.val (Y.pickF rfl rfl) rfl ?_)
        | with_reducible refine RW.nil ?_)
    | (with_reducible refine CW.isCW ?_; first
        | with_reducible refine CW.seq ?_
        | with_reducible refine CW.region ?_
        | with_reducible refine CW.block ?_
        | with_reducible refine CW.ret ?_
        | with_reducible refine CW.skip ?_
        | with_reducible refine CW.exit ?_
        | refine CW.condT rfl ?_
        | refine CW.condF rfl ?_
        | (refine CW.condY rfl ?_ ?_; omega)
        | (refine CW.condN rfl ?_ ?_; omega))
    | with_reducible refine thenQ_normal ?_
    | with_reducible refine thenQ_ret ?_
    | with_reducible refine thenQ_exit ?_
    | with_reducible refine blockQ_normal ?_
    | with_reducible refine blockQ_ret ?_
    | with_reducible refine loopQ_ret ?_
    | with_reducible refine loopQ_exit ?_
    | with_reducible refine joinQ_ret ?_
    | with_reducible refine joinQ_exit ?_
    | refine blockQ_exit rfl ?_
    | refine blockQ_past rfl ?_
  (refine RW.call T hs rfl rfl rfl (strides_con _ l _ _ hl' hm) ?_; intro v h8 w8 hle8 hp8 hs)
  have hl' := hl'.mono hle8
  have hu := hu.mono hle8
  obtain ⟨ad9, cp9, rfl, _⟩ := hp8
  repeat
    first
    | (with_reducible refine RW.isRW ?_; first
        | refine RW.val (Y.move rfl) rfl ?_
        | refine RW.val (Y.assign rfl) rfl ?_
        | (with_reducible refine RW.isGuard ?_; first
            | refine RW.guardYes rfl rfl ?_
            | refine RW.guardNo rfl rfl rfl rfl ?_
            | refine RW.guardUndef rfl rfl rfl ?_
            | (refine RW.gdY rfl rfl ?_ ?_; omega)
            | (refine RW.gdN rfl rfl ?_ ?_; omega))
        | (with_reducible refine RW.isBin ?_; first
            | refine RW.val (Y.lss rfl rfl) rfl ?_
            | (refine RW.val (Y.add rfl rfl ?_) rfl ?_; omega)
            | refine RW.val (Y.eql rfl rfl) rfl ?_
            | refine RW.val (Y.neq rfl rfl) rfl ?_
            | refine RW.val (Y.gtr rfl rfl) rfl ?_
            | refine RW.val (Y.geq rfl rfl) rfl ?_
            | refine RW.val (Y.leq rfl rfl) rfl ?_
            | (refine RW.val (Y.sub rfl rfl ?_) rfl ?_; omega)
            | (refine RW.val (Y.quo rfl rfl ?_ ?_) rfl ?_; omega; omega)
            | (refine RW.val (Y.rem rfl rfl ?_ ?_) rfl ?_; omega; omega))
        | (with_reducible refine RW.isLoad ?_; first
            | (refine RW.val (Y.ldInt T hs rfl (by assumption) rfl rfl ?_) rfl ?_; omega)
            | (refine RW.val (Y.ldS T hs rfl (by assumption) rfl rfl ?_ (by assumption)) rfl ?_; omega))
        | (with_reducible refine RW.isIdx ?_; first
            | (refine RW.val (Y.idxSN T rfl rfl (by assumption) rfl rfl rfl ?_) rfl ?_; omega)
            | (refine RW.val (Y.idxS T rfl rfl (by assumption) rfl rfl rfl ?_) rfl ?_; omega))
        | (with_reducible refine RW.isCall ?_; first
            | refine RW.val (Y.len T rfl rfl) rfl ?_
            | refine RW.val (Y.max2 rfl rfl) rfl ?_
            | refine RW.val (Y.min2 rfl rfl) rfl ?_)
        | refine RW.val (Y.extract rfl rfl) rfl ?_
        | (with_reducible refine RW.isUn ?_; first
            | refine RW.val (Y.notD rfl) rfl ?_
            | refine RW.val (Y.not rfl) rfl ?_)
        | (with_reducible refine RW.isPick ?_; first
            | refine RW.val (Y.pickT rfl rfl) rfl ?_
            | refine RW.val (Y.pickF rfl rfl) rfl ?_)
        | with_reducible refine RW.nil ?_)
    | (with_reducible refine CW.isCW ?_; first
        | with_reducible refine CW.seq ?_
        | with_reducible refine CW.region ?_
        | with_reducible refine CW.block ?_
        | with_reducible refine CW.ret ?_
        | with_reducible refine CW.skip ?_
        | with_reducible refine CW.exit ?_
        | refine CW.condT rfl ?_
        | refine CW.condF rfl ?_
        | (refine CW.condY rfl ?_ ?_; omega)
        | (refine CW.condN rfl ?_ ?_; omega))
    | with_reducible refine thenQ_normal ?_
    | with_reducible refine thenQ_ret ?_
    | with_reducible refine thenQ_exit ?_
    | with_reducible refine blockQ_normal ?_
    | with_reducible refine blockQ_ret ?_
    | with_reducible refine loopQ_ret ?_
    | with_reducible refine loopQ_exit ?_
    | with_reducible refine joinQ_ret ?_
    | with_reducible refine joinQ_exit ?_
    | refine blockQ_exit rfl ?_
    | refine blockQ_past rfl ?_
  (refine RW.call T hs rfl rfl rfl (refGood_con _ l _ _ hl' hm) ?_; intro v h9 w9 hle9 hp9 hs)
  subst hp9
  have hl' := hl'.mono hle9
  have hu := hu.mono hle9
  have hlen : (((if goodS l = true then stridesOf l else []).length : Int) = l.length) ↔ ((product l 1048576).2 = 0 ∨ (l.length : Int) = 0) := by
    by_cases hg : goodS l = true
    · rw [if_pos hg, length_stridesOf]; have := (goodS_iff l).1 hg; simp [this]
    · rw [if_neg hg]; have : ¬ (product l 1048576).2 = 0 := fun e => hg ((goodS_iff l).2 e)
      simp only [List.length_nil]; omega
  refine RW.meet (fun _ : Unit => [(0, .slice ad l.length cp), (1, .slice ad2 m.length cp2), (2, .int .i64 a), (10, u), (11, .bool qb), (104, .bool false)]) (fun _ w' => Sees w h h9 [] w') ?_ ?_
  · repeat
      first
      | (with_reducible refine RW.isRW ?_; first
          | refine RW.val (Y.move rfl) rfl ?_
          | refine RW.val (Y.assign rfl) rfl ?_
          | (with_reducible refine RW.isGuard ?_; first
              | refine RW.guardYes rfl rfl ?_
              | refine RW.guardNo rfl rfl rfl rfl ?_
              | refine RW.guardUndef rfl rfl rfl ?_
              | (refine RW.gdY rfl rfl ?_ ?_; omega)
              | (refine RW.gdN rfl rfl ?_ ?_; omega))
          | (with_reducible refine RW.isBin ?_; first
              | refine RW.val (Y.lss rfl rfl) rfl ?_
              | (refine RW.val (Y.add rfl rfl ?_) rfl ?_; omega)
              | refine RW.val (Y.eql rfl rfl) rfl ?_
              | refine RW.val (Y.neq rfl rfl) rfl ?_
              | refine RW.val (Y.gtr rfl rfl) rfl ?_
              | refine RW.val (Y.geq rfl rfl) rfl ?_
              | refine RW.val (Y.leq rfl rfl) rfl ?_
              | (refine RW.val (Y.sub rfl rfl ?_) rfl ?_; omega)
              | (refine RW.val (Y.quo rfl rfl ?_ ?_) rfl ?_; omega; omega)
              | (refine RW.val (Y.rem rfl rfl ?_ ?_) rfl ?_; omega; omega))
          | (with_reducible refine RW.isLoad ?_; first
              | (refine RW.val (Y.ldInt T hs rfl (by assumption) rfl rfl ?_) rfl ?_; omega)
              | (refine RW.val (Y.ldS T hs rfl (by assumption) rfl rfl ?_ (by assumption)) rfl ?_; omega))
          | (with_reducible refine RW.isIdx ?_; first
              | (refine RW.val (Y.idxSN T rfl rfl (by assumption) rfl rfl rfl ?_) rfl ?_; omega)
              | (refine RW.val (Y.idxS T rfl rfl (by assumption) rfl rfl rfl ?_) rfl ?_; omega))
          | (with_reducible refine RW.isCall ?_; first
              | refine RW.val (Y.len T rfl rfl) rfl ?_
              | refine RW.val (Y.max2 rfl rfl) rfl ?_
              | refine RW.val (Y.min2 rfl rfl) rfl ?_)
          | refine RW.val (Y.extract rfl rfl) rfl ?_
          | (with_reducible refine RW.isUn ?_; first
              | refine RW.val (Y.notD rfl) rfl ?_
              | refine RW.val (Y.not rfl) rfl ?_)
          | (with_reducible refine RW.isPick ?_; first
              | refine RW.val (Y.pickT rfl rfl) rfl ?_
              | refine RW.val (Y.pickF rfl rfl) rfl ?_)
          | with_reducible refine RW.nil ?_)
      | (with_reducible refine CW.isCW ?_; first
          | with_reducible refine CW.seq ?_
          | with_reducible refine CW.region ?_
          | with_reducible refine CW.block ?_
          | with_reducible refine CW.ret ?_
          | with_reducible refine CW.skip ?_
          | with_reducible refine CW.exit ?_
          | refine CW.condT rfl ?_
          | refine CW.condF rfl ?_
          | (refine CW.condY rfl ?_ ?_; omega)
          | (refine CW.condN rfl ?_ ?_; omega))
      | with_reducible refine thenQ_normal ?_
      | with_reducible refine thenQ_ret ?_
      | with_reducible refine thenQ_exit ?_
      | with_reducible refine blockQ_normal ?_
      | with_reducible refine blockQ_ret ?_
      | with_reducible refine loopQ_ret ?_
      | with_reducible refine loopQ_exit ?_
      | with_reducible refine joinQ_ret ?_
      | with_reducible refine joinQ_exit ?_
      | refine blockQ_exit rfl ?_
      | refine blockQ_past rfl ?_
    refine RW.gd rfl rfl (fun hg => ?_) (fun hg => ?_)
    · repeat
        first
        | (with_reducible refine RW.isRW ?_; first
            | refine RW.val (Y.move rfl) rfl ?_
            | refine RW.val (Y.assign rfl) rfl ?_
            | (with_reducible refine RW.isGuard ?_; first
                | refine RW.guardYes rfl rfl ?_
                | refine RW.guardNo rfl rfl rfl rfl ?_
                | refine RW.guardUndef rfl rfl rfl ?_
                | (refine RW.gdY rfl rfl ?_ ?_; omega)
                | (refine RW.gdN rfl rfl ?_ ?_; omega))
            | (with_reducible refine RW.isBin ?_; first
                | refine RW.val (Y.lss rfl rfl) rfl ?_
                | (refine RW.val (Y.add rfl rfl ?_) rfl ?_; omega)
                | refine RW.val (Y.eql rfl rfl) rfl ?_
                | refine RW.val (Y.neq rfl rfl) rfl ?_
                | refine RW.val (Y.gtr rfl rfl) rfl ?_
                | refine RW.val (Y.geq rfl rfl) rfl ?_
                | refine RW.val (Y.leq rfl rfl) rfl ?_
                | (refine RW.val (Y.sub rfl rfl ?_) rfl ?_; omega)
                | (refine RW.val (Y.quo rfl rfl ?_ ?_) rfl ?_; omega; omega)
                | (refine RW.val (Y.rem rfl rfl ?_ ?_) rfl ?_; omega; omega))
            | (with_reducible refine RW.isLoad ?_; first
                | (refine RW.val (Y.ldInt T hs rfl (by assumption) rfl rfl ?_) rfl ?_; omega)
                | (refine RW.val (Y.ldS T hs rfl (by assumption) rfl rfl ?_ (by assumption)) rfl ?_; omega))
            | (with_reducible refine RW.isIdx ?_; first
                | (refine RW.val (Y.idxSN T rfl rfl (by assumption) rfl rfl rfl ?_) rfl ?_; omega)
                | (refine RW.val (Y.idxS T rfl rfl (by assumption) rfl rfl rfl ?_) rfl ?_; omega))
            | (with_reducible refine RW.isCall ?_; first
                | refine RW.val (Y.len T rfl rfl) rfl ?_
                | refine RW.val (Y.max2 rfl rfl) rfl ?_
                | refine RW.val (Y.min2 rfl rfl) rfl ?_)
            | refine RW.val (Y.extract rfl rfl) rfl ?_
            | (with_reducible refine RW.isUn ?_; first
                | refine RW.val (Y.notD rfl) rfl ?_
                | refine RW.val (Y.not rfl) rfl ?_)
            | (with_reducible refine RW.isPick ?_; first
                | refine RW.val (Y.pickT rfl rfl) rfl ?_
                | refine RW.val (Y.pickF rfl rfl) rfl ?_)
            | with_reducible refine RW.nil ?_)
        | (with_reducible refine CW.isCW ?_; first
            | with_reducible refine CW.seq ?_
            | with_reducible refine CW.region ?_
            | with_reducible refine CW.block ?_
            | with_reducible refine CW.ret ?_
            | with_reducible refine CW.skip ?_
            | with_reducible refine CW.exit ?_
            | refine CW.condT rfl ?_
            | refine CW.condF rfl ?_
            | (refine CW.condY rfl ?_ ?_; omega)
            | (refine CW.condN rfl ?_ ?_; omega))
        | with_reducible refine thenQ_normal ?_
        | with_reducible refine thenQ_ret ?_
        | with_reducible refine thenQ_exit ?_
        | with_reducible refine blockQ_normal ?_
        | with_reducible refine blockQ_ret ?_
        | with_reducible refine loopQ_ret ?_
        | with_reducible refine loopQ_exit ?_
        | with_reducible refine joinQ_ret ?_
        | with_reducible refine joinQ_exit ?_
        | refine blockQ_exit rfl ?_
        | refine blockQ_past rfl ?_
      refine RW.val (Y.neqB T rfl rfl rfl) rfl ?_
      rw [show (!(decide (((if goodS l = true then stridesOf l else []).length : Int) = l.length) == true)) = false by rw [decide_eq_true (hlen.2 (.inl hg))]; rfl]
      repeat
        first
        | (with_reducible refine RW.isRW ?_; first
            | refine RW.val (Y.move rfl) rfl ?_
            | refine RW.val (Y.assign rfl) rfl ?_
            | (with_reducible refine RW.isGuard ?_; first
                | refine RW.guardYes rfl rfl ?_
                | refine RW.guardNo rfl rfl rfl rfl ?_
                | refine RW.guardUndef rfl rfl rfl ?_
                | (refine RW.gdY rfl rfl ?_ ?_; omega)
                | (refine RW.gdN rfl rfl ?_ ?_; omega))
            | (with_reducible refine RW.isBin ?_; first
                | refine RW.val (Y.lss rfl rfl) rfl ?_
                | (refine RW.val (Y.add rfl rfl ?_) rfl ?_; omega)
                | refine RW.val (Y.eql rfl rfl) rfl ?_
                | refine RW.val (Y.neq rfl rfl) rfl ?_
                | refine RW.val (Y.gtr rfl rfl) rfl ?_
                | refine RW.val (Y.geq rfl rfl) rfl ?_
                | refine RW.val (Y.leq rfl rfl) rfl ?_
                | (refine RW.val (Y.sub rfl rfl ?_) rfl ?_; omega)
                | (refine RW.val (Y.quo rfl rfl ?_ ?_) rfl ?_; omega; omega)
                | (refine RW.val (Y.rem rfl rfl ?_ ?_) rfl ?_; omega; omega))
            | (with_reducible refine RW.isLoad ?_; first
                | (refine RW.val (Y.ldInt T hs rfl (by assumption) rfl rfl ?_) rfl ?_; omega)
                | (refine RW.val (Y.ldS T hs rfl (by assumption) rfl rfl ?_ (by assumption)) rfl ?_; omega))
            | (with_reducible refine RW.isIdx ?_; first
                | (refine RW.val (Y.idxSN T rfl rfl (by assumption) rfl rfl rfl ?_) rfl ?_; omega)
                | (refine RW.val (Y.idxS T rfl rfl (by assumption) rfl rfl rfl ?_) rfl ?_; omega))
            | (with_reducible refine RW.isCall ?_; first
                | refine RW.val (Y.len T rfl rfl) rfl ?_
                | refine RW.val (Y.max2 rfl rfl) rfl ?_
                | refine RW.val (Y.min2 rfl rfl) rfl ?_)
            | refine RW.val (Y.extract rfl rfl) rfl ?_
            | (with_reducible refine RW.isUn ?_; first
                | refine RW.val (Y.notD rfl) rfl ?_
                | refine RW.val (Y.not rfl) rfl ?_)
            | (with_reducible refine RW.isPick ?_; first
                | refine RW.val (Y.pickT rfl rfl) rfl ?_
                | refine RW.val (Y.pickF rfl rfl) rfl ?_)
            | with_reducible refine RW.nil ?_)
        | (with_reducible refine CW.isCW ?_; first
            | with_reducible refine CW.seq ?_
            | with_reducible refine CW.region ?_
            | with_reducible refine CW.block ?_
            | with_reducible refine CW.ret ?_
            | with_reducible refine CW.skip ?_
            | with_reducible refine CW.exit ?_
            | refine CW.condT rfl ?_
            | refine CW.condF rfl ?_
            | (refine CW.condY rfl ?_ ?_; omega)
            | (refine CW.condN rfl ?_ ?_; omega))
        | with_reducible refine thenQ_normal ?_
        | with_reducible refine thenQ_ret ?_
        | with_reducible refine thenQ_exit ?_
        | with_reducible refine blockQ_normal ?_
        | with_reducible refine blockQ_ret ?_
        | with_reducible refine loopQ_ret ?_
        | with_reducible refine loopQ_exit ?_
        | with_reducible refine joinQ_ret ?_
        | with_reducible refine joinQ_exit ?_
        | refine blockQ_exit rfl ?_
        | refine blockQ_past rfl ?_
      exact joinQ_meet () ⟨rfl, rfl, rfl, rfl, rfl, rfl, trivial⟩ hs
    · repeat
        first
        | (with_reducible refine RW.isRW ?_; first
            | refine RW.val (Y.move rfl) rfl ?_
            | refine RW.val (Y.assign rfl) rfl ?_
            | (with_reducible refine RW.isGuard ?_; first
                | refine RW.guardYes rfl rfl ?_
                | refine RW.guardNo rfl rfl rfl rfl ?_
                | refine RW.guardUndef rfl rfl rfl ?_
                | (refine RW.gdY rfl rfl ?_ ?_; omega)
                | (refine RW.gdN rfl rfl ?_ ?_; omega))
            | (with_reducible refine RW.isBin ?_; first
                | refine RW.val (Y.lss rfl rfl) rfl ?_
                | (refine RW.val (Y.add rfl rfl ?_) rfl ?_; omega)
                | refine RW.val (Y.eql rfl rfl) rfl ?_
                | refine RW.val (Y.neq rfl rfl) rfl ?_
                | refine RW.val (Y.gtr rfl rfl) rfl ?_
                | refine RW.val (Y.geq rfl rfl) rfl ?_
                | refine RW.val (Y.leq rfl rfl) rfl ?_
                | (refine RW.val (Y.sub rfl rfl ?_) rfl ?_; omega)
                | (refine RW.val (Y.quo rfl rfl ?_ ?_) rfl ?_; omega; omega)
                | (refine RW.val (Y.rem rfl rfl ?_ ?_) rfl ?_; omega; omega))
            | (with_reducible refine RW.isLoad ?_; first
                | (refine RW.val (Y.ldInt T hs rfl (by assumption) rfl rfl ?_) rfl ?_; omega)
                | (refine RW.val (Y.ldS T hs rfl (by assumption) rfl rfl ?_ (by assumption)) rfl ?_; omega))
            | (with_reducible refine RW.isIdx ?_; first
                | (refine RW.val (Y.idxSN T rfl rfl (by assumption) rfl rfl rfl ?_) rfl ?_; omega)
                | (refine RW.val (Y.idxS T rfl rfl (by assumption) rfl rfl rfl ?_) rfl ?_; omega))
            | (with_reducible refine RW.isCall ?_; first
                | refine RW.val (Y.len T rfl rfl) rfl ?_
                | refine RW.val (Y.max2 rfl rfl) rfl ?_
                | refine RW.val (Y.min2 rfl rfl) rfl ?_)
            | refine RW.val (Y.extract rfl rfl) rfl ?_
            | (with_reducible refine RW.isUn ?_; first
                | refine RW.val (Y.notD rfl) rfl ?_
                | refine RW.val (Y.not rfl) rfl ?_)
            | (with_reducible refine RW.isPick ?_; first
                | refine RW.val (Y.pickT rfl rfl) rfl ?_
                | refine RW.val (Y.pickF rfl rfl) rfl ?_)
            | with_reducible refine RW.nil ?_)
        | (with_reducible refine CW.isCW ?_; first
            | with_reducible refine CW.seq ?_
            | with_reducible refine CW.region ?_
            | with_reducible refine CW.block ?_
            | with_reducible refine CW.ret ?_
            | with_reducible refine CW.skip ?_
            | with_reducible refine CW.exit ?_
            | refine CW.condT rfl ?_
            | refine CW.condF rfl ?_
            | (refine CW.condY rfl ?_ ?_; omega)
            | (refine CW.condN rfl ?_ ?_; omega))
        | with_reducible refine thenQ_normal ?_
        | with_reducible refine thenQ_ret ?_
        | with_reducible refine thenQ_exit ?_
        | with_reducible refine blockQ_normal ?_
        | with_reducible refine blockQ_ret ?_
        | with_reducible refine loopQ_ret ?_
        | with_reducible refine loopQ_exit ?_
        | with_reducible refine joinQ_ret ?_
        | with_reducible refine joinQ_exit ?_
        | refine blockQ_exit rfl ?_
        | refine blockQ_past rfl ?_
      refine RW.val (Y.neqB T rfl rfl rfl) rfl ?_
      rw [show (!(decide (((if goodS l = true then stridesOf l else []).length : Int) = l.length) == decide ((l.length : Int) = 0))) = false by
        have e : decide (((if goodS l = true then stridesOf l else []).length : Int) = l.length) = decide ((l.length : Int) = 0) := decide_eq_decide.2 (hlen.trans ⟨fun e => e.resolve_left hg, .inr⟩)
        rw [e]; simp]
      repeat
        first
        | (with_reducible refine RW.isRW ?_; first
            | refine RW.val (Y.move rfl) rfl ?_
            | refine RW.val (Y.assign rfl) rfl ?_
            | (with_reducible refine RW.isGuard ?_; first
                | refine RW.guardYes rfl rfl ?_
                | refine RW.guardNo rfl rfl rfl rfl ?_
                | refine RW.guardUndef rfl rfl rfl ?_
                | (refine RW.gdY rfl rfl ?_ ?_; omega)
                | (refine RW.gdN rfl rfl ?_ ?_; omega))
            | (with_reducible refine RW.isBin ?_; first
                | refine RW.val (Y.lss rfl rfl) rfl ?_
                | (refine RW.val (Y.add rfl rfl ?_) rfl ?_; omega)
                | refine RW.val (Y.eql rfl rfl) rfl ?_
                | refine RW.val (Y.neq rfl rfl) rfl ?_
                | refine RW.val (Y.gtr rfl rfl) rfl ?_
                | refine RW.val (Y.geq rfl rfl) rfl ?_
                | refine RW.val (Y.leq rfl rfl) rfl ?_
                | (refine RW.val (Y.sub rfl rfl ?_) rfl ?_; omega)
                | (refine RW.val (Y.quo rfl rfl ?_ ?_) rfl ?_; omega; omega)
                | (refine RW.val (Y.rem rfl rfl ?_ ?_) rfl ?_; omega; omega))
            | (with_reducible refine RW.isLoad ?_; first
                | (refine RW.val (Y.ldInt T hs rfl (by assumption) rfl rfl ?_) rfl ?_; omega)
                | (refine RW.val (Y.ldS T hs rfl (by assumption) rfl rfl ?_ (by assumption)) rfl ?_; omega))
            | (with_reducible refine RW.isIdx ?_; first
                | (refine RW.val (Y.idxSN T rfl rfl (by assumption) rfl rfl rfl ?_) rfl ?_; omega)
                | (refine RW.val (Y.idxS T rfl rfl (by assumption) rfl rfl rfl ?_) rfl ?_; omega))
            | (with_reducible refine RW.isCall ?_; first
                | refine RW.val (Y.len T rfl rfl) rfl ?_
                | refine RW.val (Y.max2 rfl rfl) rfl ?_
                | refine RW.val (Y.min2 rfl rfl) rfl ?_)
            | refine RW.val (Y.extract rfl rfl) rfl ?_
            | (with_reducible refine RW.isUn ?_; first
                | refine RW.val (Y.notD rfl) rfl ?_
                | refine RW.val (Y.not rfl) rfl ?_)
            | (with_reducible refine RW.isPick ?_; first
                | refine RW.val (Y.pickT rfl rfl) rfl ?_
                | refine RW.val (Y.pickF rfl rfl) rfl ?_)
            | with_reducible refine RW.nil ?_)
        | (with_reducible refine CW.isCW ?_; first
            | with_reducible refine CW.seq ?_
            | with_reducible refine CW.region ?_
            | with_reducible refine CW.block ?_
            | with_reducible refine CW.ret ?_
            | with_reducible refine CW.skip ?_
            | with_reducible refine CW.exit ?_
            | refine CW.condT rfl ?_
            | refine CW.condF rfl ?_
            | (refine CW.condY rfl ?_ ?_; omega)
            | (refine CW.condN rfl ?_ ?_; omega))
        | with_reducible refine thenQ_normal ?_
        | with_reducible refine thenQ_ret ?_
        | with_reducible refine thenQ_exit ?_
        | with_reducible refine blockQ_normal ?_
        | with_reducible refine blockQ_ret ?_
        | with_reducible refine loopQ_ret ?_
        | with_reducible refine loopQ_exit ?_
        | with_reducible refine joinQ_ret ?_
        | with_reducible refine joinQ_exit ?_
        | refine blockQ_exit rfl ?_
        | refine blockQ_past rfl ?_
      exact joinQ_meet () ⟨rfl, rfl, rfl, rfl, rfl, rfl, trivial⟩ hs
  intro _ w10 hs
  rcases hix with ⟨_, x, ⟨rfl, rfl⟩, hp⟩ | ⟨_, rfl, rfl⟩
  · repeat
      first
      | (with_reducible refine RW.isRW ?_; first
          | refine RW.val (Y.move rfl) rfl ?_
          | refine RW.val (Y.assign rfl) rfl ?_
          | (with_reducible refine RW.isGuard ?_; first
              | refine RW.guardYes rfl rfl ?_
              | refine RW.guardNo rfl rfl rfl rfl ?_
              | refine RW.guardUndef rfl rfl rfl ?_
              | (refine RW.gdY rfl rfl ?_ ?_; omega)
              | (refine RW.gdN rfl rfl ?_ ?_; omega))
          | (with_reducible refine RW.isBin ?_; first
              | refine RW.val (Y.lss rfl rfl) rfl ?_
              | (refine RW.val (Y.add rfl rfl ?_) rfl ?_; omega)
              | refine RW.val (Y.eql rfl rfl) rfl ?_
              | refine RW.val (Y.neq rfl rfl) rfl ?_
              | refine RW.val (Y.gtr rfl rfl) rfl ?_
              | refine RW.val (Y.geq rfl rfl) rfl ?_
              | refine RW.val (Y.leq rfl rfl) rfl ?_
              | (refine RW.val (Y.sub rfl rfl ?_) rfl ?_; omega)
              | (refine RW.val (Y.quo rfl rfl ?_ ?_) rfl ?_; omega; omega)
              | (refine RW.val (Y.rem rfl rfl ?_ ?_) rfl ?_; omega; omega))
          | (with_reducible refine RW.isLoad ?_; first
              | (refine RW.val (Y.ldInt T hs rfl (by assumption) rfl rfl ?_) rfl ?_; omega)
              | (refine RW.val (Y.ldS T hs rfl (by assumption) rfl rfl ?_ (by assumption)) rfl ?_; omega))
          | (with_reducible refine RW.isIdx ?_; first
              | (refine RW.val (Y.idxSN T rfl rfl (by assumption) rfl rfl rfl ?_) rfl ?_; omega)
              | (refine RW.val (Y.idxS T rfl rfl (by assumption) rfl rfl rfl ?_) rfl ?_; omega))
          | (with_reducible refine RW.isCall ?_; first
              | refine RW.val (Y.len T rfl rfl) rfl ?_
              | refine RW.val (Y.max2 rfl rfl) rfl ?_
              | refine RW.val (Y.min2 rfl rfl) rfl ?_)
          | refine RW.val (Y.extract rfl rfl) rfl ?_
          | (with_reducible refine RW.isUn ?_; first
              | refine RW.val (Y.notD rfl) rfl ?_
              | refine RW.val (Y.not rfl) rfl ?_)
          | (with_reducible refine RW.isPick ?_; first
              | refine RW.val (Y.pickT rfl rfl) rfl ?_
              | refine RW.val (Y.pickF rfl rfl) rfl ?_)
          | with_reducible refine RW.nil ?_)
      | (with_reducible refine CW.isCW ?_; first
          | with_reducible refine CW.seq ?_
          | with_reducible refine CW.region ?_
          | with_reducible refine CW.block ?_
          | with_reducible refine CW.ret ?_
          | with_reducible refine CW.skip ?_
          | with_reducible refine CW.exit ?_
          | refine CW.condT rfl ?_
          | refine CW.condF rfl ?_
          | (refine CW.condY rfl ?_ ?_; omega)
          | (refine CW.condN rfl ?_ ?_; omega))
      | with_reducible refine thenQ_normal ?_
      | with_reducible refine thenQ_ret ?_
      | with_reducible refine thenQ_exit ?_
      | with_reducible refine blockQ_normal ?_
      | with_reducible refine blockQ_ret ?_
      | with_reducible refine loopQ_ret ?_
      | with_reducible refine loopQ_exit ?_
      | with_reducible refine joinQ_ret ?_
      | with_reducible refine joinQ_exit ?_
      | refine blockQ_exit rfl ?_
      | refine blockQ_past rfl ?_
    (refine RW.call T hs rfl rfl rfl (place_con _ _ l q _ _ hl' hu hm) ?_; intro v h11 w11 hle11 hp11 hs)
    subst hp11
    rw [show (if (atSpec l q).2 = true then (atSpec l q).1 else -1) = a by rw [hp]; rfl]
    repeat
      first
      | (with_reducible refine RW.isRW ?_; first
          | refine RW.val (Y.move rfl) rfl ?_
          | refine RW.val (Y.assign rfl) rfl ?_
          | (with_reducible refine RW.isGuard ?_; first
              | refine RW.guardYes rfl rfl ?_
              | refine RW.guardNo rfl rfl rfl rfl ?_
              | refine RW.guardUndef rfl rfl rfl ?_
              | (refine RW.gdY rfl rfl ?_ ?_; omega)
              | (refine RW.gdN rfl rfl ?_ ?_; omega))
          | (with_reducible refine RW.isBin ?_; first
              | refine RW.val (Y.lss rfl rfl) rfl ?_
              | (refine RW.val (Y.add rfl rfl ?_) rfl ?_; omega)
              | refine RW.val (Y.eql rfl rfl) rfl ?_
              | refine RW.val (Y.neq rfl rfl) rfl ?_
              | refine RW.val (Y.gtr rfl rfl) rfl ?_
              | refine RW.val (Y.geq rfl rfl) rfl ?_
              | refine RW.val (Y.leq rfl rfl) rfl ?_
              | (refine RW.val (Y.sub rfl rfl ?_) rfl ?_; omega)
              | (refine RW.val (Y.quo rfl rfl ?_ ?_) rfl ?_; omega; omega)
              | (refine RW.val (Y.rem rfl rfl ?_ ?_) rfl ?_; omega; omega))
          | (with_reducible refine RW.isLoad ?_; first
              | (refine RW.val (Y.ldInt T hs rfl (by assumption) rfl rfl ?_) rfl ?_; omega)
              | (refine RW.val (Y.ldS T hs rfl (by assumption) rfl rfl ?_ (by assumption)) rfl ?_; omega))
          | (with_reducible refine RW.isIdx ?_; first
              | (refine RW.val (Y.idxSN T rfl rfl (by assumption) rfl rfl rfl ?_) rfl ?_; omega)
              | (refine RW.val (Y.idxS T rfl rfl (by assumption) rfl rfl rfl ?_) rfl ?_; omega))
          | (with_reducible refine RW.isCall ?_; first
              | refine RW.val (Y.len T rfl rfl) rfl ?_
              | refine RW.val (Y.max2 rfl rfl) rfl ?_
              | refine RW.val (Y.min2 rfl rfl) rfl ?_)
          | refine RW.val (Y.extract rfl rfl) rfl ?_
          | (with_reducible refine RW.isUn ?_; first
              | refine RW.val (Y.notD rfl) rfl ?_
              | refine RW.val (Y.not rfl) rfl ?_)
          | (with_reducible refine RW.isPick ?_; first
              | refine RW.val (Y.pickT rfl rfl) rfl ?_
              | refine RW.val (Y.pickF rfl rfl) rfl ?_)
          | with_reducible refine RW.nil ?_)
      | (with_reducible refine CW.isCW ?_; first
          | with_reducible refine CW.seq ?_
          | with_reducible refine CW.region ?_
          | with_reducible refine CW.block ?_
          | with_reducible refine CW.ret ?_
          | with_reducible refine CW.skip ?_
          | with_reducible refine CW.exit ?_
          | refine CW.condT rfl ?_
          | refine CW.condF rfl ?_
          | (refine CW.condY rfl ?_ ?_; omega)
          | (refine CW.condN rfl ?_ ?_; omega))
      | with_reducible refine thenQ_normal ?_
      | with_reducible refine thenQ_ret ?_
      | with_reducible refine thenQ_exit ?_
      | with_reducible refine blockQ_normal ?_
      | with_reducible refine blockQ_ret ?_
      | with_reducible refine loopQ_ret ?_
      | with_reducible refine loopQ_exit ?_
      | with_reducible refine joinQ_ret ?_
      | with_reducible refine joinQ_exit ?_
      | refine blockQ_exit rfl ?_
      | refine blockQ_past rfl ?_
    (refine RW.call T hs rfl rfl rfl (awake06_con _ _) ?_; intro v h12 w12 hle12 hp12 hs)
    subst hp12
    repeat
      first
      | (with_reducible refine RW.isRW ?_; first
          | refine RW.val (Y.move rfl) rfl ?_
          | refine RW.val (Y.assign rfl) rfl ?_
          | (with_reducible refine RW.isGuard ?_; first
              | refine RW.guardYes rfl rfl ?_
              | refine RW.guardNo rfl rfl rfl rfl ?_
              | refine RW.guardUndef rfl rfl rfl ?_
              | (refine RW.gdY rfl rfl ?_ ?_; omega)
              | (refine RW.gdN rfl rfl ?_ ?_; omega))
          | (with_reducible refine RW.isBin ?_; first
              | refine RW.val (Y.lss rfl rfl) rfl ?_
              | (refine RW.val (Y.add rfl rfl ?_) rfl ?_; omega)
              | refine RW.val (Y.eql rfl rfl) rfl ?_
              | refine RW.val (Y.neq rfl rfl) rfl ?_
              | refine RW.val (Y.gtr rfl rfl) rfl ?_
              | refine RW.val (Y.geq rfl rfl) rfl ?_
              | refine RW.val (Y.leq rfl rfl) rfl ?_
              | (refine RW.val (Y.sub rfl rfl ?_) rfl ?_; omega)
              | (refine RW.val (Y.quo rfl rfl ?_ ?_) rfl ?_; omega; omega)
              | (refine RW.val (Y.rem rfl rfl ?_ ?_) rfl ?_; omega; omega))
          | (with_reducible refine RW.isLoad ?_; first
              | (refine RW.val (Y.ldInt T hs rfl (by assumption) rfl rfl ?_) rfl ?_; omega)
              | (refine RW.val (Y.ldS T hs rfl (by assumption) rfl rfl ?_ (by assumption)) rfl ?_; omega))
          | (with_reducible refine RW.isIdx ?_; first
              | (refine RW.val (Y.idxSN T rfl rfl (by assumption) rfl rfl rfl ?_) rfl ?_; omega)
              | (refine RW.val (Y.idxS T rfl rfl (by assumption) rfl rfl rfl ?_) rfl ?_; omega))
          | (with_reducible refine RW.isCall ?_; first
              | refine RW.val (Y.len T rfl rfl) rfl ?_
              | refine RW.val (Y.max2 rfl rfl) rfl ?_
              | refine RW.val (Y.min2 rfl rfl) rfl ?_)
          | refine RW.val (Y.extract rfl rfl) rfl ?_
          | (with_reducible refine RW.isUn ?_; first
              | refine RW.val (Y.notD rfl) rfl ?_
              | refine RW.val (Y.not rfl) rfl ?_)
          | (with_reducible refine RW.isPick ?_; first
              | refine RW.val (Y.pickT rfl rfl) rfl ?_
              | refine RW.val (Y.pickF rfl rfl) rfl ?_)
          | with_reducible refine RW.nil ?_)
      | (with_reducible refine CW.isCW ?_; first
          | with_reducible refine CW.seq ?_
          | with_reducible refine CW.region ?_
          | with_reducible refine CW.block ?_
          | with_reducible refine CW.ret ?_
          | with_reducible refine CW.skip ?_
          | with_reducible refine CW.exit ?_
          | refine CW.condT rfl ?_
          | refine CW.condF rfl ?_
          | (refine CW.condY rfl ?_ ?_; omega)
          | (refine CW.condN rfl ?_ ?_; omega))
      | with_reducible refine thenQ_normal ?_
      | with_reducible refine thenQ_ret ?_
      | with_reducible refine thenQ_exit ?_
      | with_reducible refine blockQ_normal ?_
      | with_reducible refine blockQ_ret ?_
      | with_reducible refine loopQ_ret ?_
      | with_reducible refine loopQ_exit ?_
      | with_reducible refine joinQ_ret ?_
      | with_reducible refine joinQ_exit ?_
      | refine blockQ_exit rfl ?_
      | refine blockQ_past rfl ?_
    exact retQ_ret [_] h12 ⟨rfl, trivial⟩ hs rfl
  · repeat
      first
      | (with_reducible refine RW.isRW ?_; first
          | refine RW.val (Y.move rfl) rfl ?_
          | refine RW.val (Y.assign rfl) rfl ?_
          | (with_reducible refine RW.isGuard ?_; first
              | refine RW.guardYes rfl rfl ?_
              | refine RW.guardNo rfl rfl rfl rfl ?_
              | refine RW.guardUndef rfl rfl rfl ?_
              | (refine RW.gdY rfl rfl ?_ ?_; omega)
              | (refine RW.gdN rfl rfl ?_ ?_; omega))
          | (with_reducible refine RW.isBin ?_; first
              | refine RW.val (Y.lss rfl rfl) rfl ?_
              | (refine RW.val (Y.add rfl rfl ?_) rfl ?_; omega)
              | refine RW.val (Y.eql rfl rfl) rfl ?_
              | refine RW.val (Y.neq rfl rfl) rfl ?_
              | refine RW.val (Y.gtr rfl rfl) rfl ?_
              | refine RW.val (Y.geq rfl rfl) rfl ?_
              | refine RW.val (Y.leq rfl rfl) rfl ?_
              | (refine RW.val (Y.sub rfl rfl ?_) rfl ?_; omega)
              | (refine RW.val (Y.quo rfl rfl ?_ ?_) rfl ?_; omega; omega)
              | (refine RW.val (Y.rem rfl rfl ?_ ?_) rfl ?_; omega; omega))
          | (with_reducible refine RW.isLoad ?_; first
              | (refine RW.val (Y.ldInt T hs rfl (by assumption) rfl rfl ?_) rfl ?_; omega)
              | (refine RW.val (Y.ldS T hs rfl (by assumption) rfl rfl ?_ (by assumption)) rfl ?_; omega))
          | (with_reducible refine RW.isIdx ?_; first
              | (refine RW.val (Y.idxSN T rfl rfl (by assumption) rfl rfl rfl ?_) rfl ?_; omega)
              | (refine RW.val (Y.idxS T rfl rfl (by assumption) rfl rfl rfl ?_) rfl ?_; omega))
          | (with_reducible refine RW.isCall ?_; first
              | refine RW.val (Y.len T rfl rfl) rfl ?_
              | refine RW.val (Y.max2 rfl rfl) rfl ?_
              | refine RW.val (Y.min2 rfl rfl) rfl ?_)
          | refine RW.val (Y.extract rfl rfl) rfl ?_
          | (with_reducible refine RW.isUn ?_; first
              | refine RW.val (Y.notD rfl) rfl ?_
              | refine RW.val (Y.not rfl) rfl ?_)
          | (with_reducible refine RW.isPick ?_; first
              | refine RW.val (Y.pickT rfl rfl) rfl ?_
              | refine RW.val (Y.pickF rfl rfl) rfl ?_)
          | with_reducible refine RW.nil ?_)
      | (with_reducible refine CW.isCW ?_; first
          | with_reducible refine CW.seq ?_
          | with_reducible refine CW.region ?_
          | with_reducible refine CW.block ?_
          | with_reducible refine CW.ret ?_
          | with_reducible refine CW.skip ?_
          | with_reducible refine CW.exit ?_
          | refine CW.condT rfl ?_
          | refine CW.condF rfl ?_
          | (refine CW.condY rfl ?_ ?_; omega)
          | (refine CW.condN rfl ?_ ?_; omega))
      | with_reducible refine thenQ_normal ?_
      | with_reducible refine thenQ_ret ?_
      | with_reducible refine thenQ_exit ?_
      | with_reducible refine blockQ_normal ?_
      | with_reducible refine blockQ_ret ?_
      | with_reducible refine loopQ_ret ?_
      | with_reducible refine loopQ_exit ?_
      | with_reducible refine joinQ_ret ?_
      | with_reducible refine joinQ_exit ?_
      | refine blockQ_exit rfl ?_
      | refine blockQ_past rfl ?_
    (refine RW.call T hs rfl rfl rfl (awake06_con _ _) ?_; intro v h12 w12 hle12 hp12 hs)
    subst hp12
    repeat
      first
      | (with_reducible refine RW.isRW ?_; first
          | refine RW.val (Y.move rfl) rfl ?_
          | refine RW.val (Y.assign rfl) rfl ?_
          | (with_reducible refine RW.isGuard ?_; first
              | refine RW.guardYes rfl rfl ?_
              | refine RW.guardNo rfl rfl rfl rfl ?_
              | refine RW.guardUndef rfl rfl rfl ?_
              | (refine RW.gdY rfl rfl ?_ ?_; omega)
              | (refine RW.gdN rfl rfl ?_ ?_; omega))
          | (with_reducible refine RW.isBin ?_; first
              | refine RW.val (Y.lss rfl rfl) rfl ?_
              | (refine RW.val (Y.add rfl rfl ?_) rfl ?_; omega)
              | refine RW.val (Y.eql rfl rfl) rfl ?_
              | refine RW.val (Y.neq rfl rfl) rfl ?_
              | refine RW.val (Y.gtr rfl rfl) rfl ?_
              | refine RW.val (Y.geq rfl rfl) rfl ?_
              | refine RW.val (Y.leq rfl rfl) rfl ?_
              | (refine RW.val (Y.sub rfl rfl ?_) rfl ?_; omega)
              | (refine RW.val (Y.quo rfl rfl ?_ ?_) rfl ?_; omega; omega)
              | (refine RW.val (Y.rem rfl rfl ?_ ?_) rfl ?_; omega; omega))
          | (with_reducible refine RW.isLoad ?_; first
              | (refine RW.val (Y.ldInt T hs rfl (by assumption) rfl rfl ?_) rfl ?_; omega)
              | (refine RW.val (Y.ldS T hs rfl (by assumption) rfl rfl ?_ (by assumption)) rfl ?_; omega))
          | (with_reducible refine RW.isIdx ?_; first
              | (refine RW.val (Y.idxSN T rfl rfl (by assumption) rfl rfl rfl ?_) rfl ?_; omega)
              | (refine RW.val (Y.idxS T rfl rfl (by assumption) rfl rfl rfl ?_) rfl ?_; omega))
          | (with_reducible refine RW.isCall ?_; first
              | refine RW.val (Y.len T rfl rfl) rfl ?_
              | refine RW.val (Y.max2 rfl rfl) rfl ?_
              | refine RW.val (Y.min2 rfl rfl) rfl ?_)
          | refine RW.val (Y.extract rfl rfl) rfl ?_
          | (with_reducible refine RW.isUn ?_; first
              | refine RW.val (Y.notD rfl) rfl ?_
              | refine RW.val (Y.not rfl) rfl ?_)
          | (with_reducible refine RW.isPick ?_; first
              | refine RW.val (Y.pickT rfl rfl) rfl ?_
              | refine RW.val (Y.pickF rfl rfl) rfl ?_)
          | with_reducible refine RW.nil ?_)
      | (with_reducible refine CW.isCW ?_; first
          | with_reducible refine CW.seq ?_
          | with_reducible refine CW.region ?_
          | with_reducible refine CW.block ?_
          | with_reducible refine CW.ret ?_
          | with_reducible refine CW.skip ?_
          | with_reducible refine CW.exit ?_
          | refine CW.condT rfl ?_
          | refine CW.condF rfl ?_
          | (refine CW.condY rfl ?_ ?_; omega)
          | (refine CW.condN rfl ?_ ?_; omega))
      | with_reducible refine thenQ_normal ?_
      | with_reducible refine thenQ_ret ?_
      | with_reducible refine thenQ_exit ?_
      | with_reducible refine blockQ_normal ?_
      | with_reducible refine blockQ_ret ?_
      | with_reducible refine loopQ_ret ?_
      | with_reducible refine loopQ_exit ?_
      | with_reducible refine joinQ_ret ?_
      | with_reducible refine joinQ_exit ?_
      | refine blockQ_exit rfl ?_
      | refine blockQ_past rfl ?_
    exact retQ_ret [_] h12 ⟨rfl, trivial⟩ hs rfl
end Go.Proofs.Ytdpkioffihebnaa
