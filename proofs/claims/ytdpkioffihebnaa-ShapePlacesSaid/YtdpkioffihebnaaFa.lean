/-
  Contracts of functions of package shape. No statement is proved here.
-/
import Derived.Test.YtdpkioffihebnaaLibI
import Derived.Test.YtdpkioffihebnaaTab
import Derived.Test.YtdpkioffihebnaaPlainA
namespace Go.Proofs.Ytdpkioffihebnaa
open Go Go.RowKit
attribute [local irreducible] CW RW QW SW HW ConM retM heldQ calmQ elemP thenQ blockQ loopQ joinQ retQ Yields Con Sl

theorem within_con (a b : Int) (w : World) (h : GHeap) : Con Try.prog 111 [.int .i64 a, .int .i64 b] w h
    (fun _ v => v = .tuple #[.int .i64 (within a b).1, .int .i64 (within a b).2]) := by
  refine Con.of_body Try.func111 rfl Try.ntmps111 rfl rfl ?_
  intro hs
  repeat
    first
    | (with_reducible refine RW.isRW ?_; first
        | refine RW.val (Y.move rfl) rfl ?_
        | refine RW.val (Y.assign rfl) rfl ?_
        | (with_reducible refine RW.isGuard ?_; first
            | refine RW.guardYes rfl rfl ?_
            | refine RW.guardNo rfl rfl rfl rfl ?_
            | refine RW.guardUndef rfl rfl rfl ?_
            | (refine RW.gdY rfl rfl ?_ ?_; omega)
            | (refine RW.gdN rfl rfl ?_ ?_; omega))
        | (with_reducible refine RW.isBin ?_; first
            | refine RW.val (Y.lss rfl rfl) rfl ?_
            | (refine RW.val (Y.add rfl rfl ?_) rfl ?_; omega)
            | refine RW.val (Y.eql rfl rfl) rfl ?_
            | refine RW.val (Y.neq rfl rfl) rfl ?_
            | refine RW.val (Y.gtr rfl rfl) rfl ?_
            | refine RW.val (Y.geq rfl rfl) rfl ?_
            | refine RW.val (Y.leq rfl rfl) rfl ?_
            | (refine RW.val (Y.sub rfl rfl ?_) rfl ?_; omega)
            | (refine RW.val (Y.quo rfl rfl ?_ ?_) rfl ?_; omega; omega)
            | (refine RW.val (Y.rem rfl rfl ?_ ?_) rfl ?_; omega; omega))
        | (with_reducible refine RW.isLoad ?_; first
            | (refine RW.val (Y.ldInt T hs rfl (by assumption) rfl rfl ?_) rfl ?_; omega)
            | (refine RW.val (Y.ldS T hs rfl (by assumption) rfl rfl ?_ (by assumption)) rfl ?_; omega))
        | (with_reducible refine RW.isIdx ?_; first
            | (refine RW.val (Y.idxSN T rfl rfl (by assumption) rfl rfl rfl ?_) rfl ?_; omega)
            | (refine RW.val (Y.idxS T rfl rfl (by assumption) rfl rfl rfl ?_) rfl ?_; omega))
        | (with_reducible refine RW.isCall ?_; first
            | refine RW.val (Y.len T rfl rfl) rfl ?_
            | refine RW.val (Y.max2 rfl rfl) rfl ?_
            | refine RW.val (Y.min2 rfl rfl) rfl ?_)
        | refine RW.val (Y.extract rfl rfl) rfl ?_
        | (with_reducible refine RW.isUn ?_; first
            | refine RW.val (Y.notD rfl) rfl ?_
            | refine RW.val (Y.not rfl) rfl ?_)
        | (with_reducible refine RW.isPick ?_; first
            | refine RW.val (Y.pickT rfl rfl) rfl ?_
            | refine RW.val (Y.pickF rfl rfl) rfl ?_)
        | with_reducible refine RW.nil ?_)
    | (with_reducible refine CW.isCW ?_; first
        | with_reducible refine CW.seq ?_
        | with_reducible refine CW.region ?_
        | with_reducible refine CW.block ?_
        | with_reducible refine CW.ret ?_
        | with_reducible refine CW.skip ?_
        | with_reducible refine CW.exit ?_
        | refine CW.condT rfl ?_
        | refine CW.condF rfl ?_
        | (refine CW.condY rfl ?_ ?_; omega)
        | (refine CW.condN rfl ?_ ?_; omega))
    | with_reducible refine thenQ_normal ?_
    | with_reducible refine thenQ_ret ?_
    | with_reducible refine thenQ_exit ?_
    | with_reducible refine blockQ_normal ?_
    | with_reducible refine blockQ_ret ?_
    | with_reducible refine loopQ_ret ?_
    | with_reducible refine loopQ_exit ?_
    | with_reducible refine joinQ_ret ?_
    | with_reducible refine joinQ_exit ?_
    | refine blockQ_exit rfl ?_
    | refine blockQ_past rfl ?_
  refine RW.gd rfl rfl (fun h1 => ?_) (fun h1 => ?_)
  · repeat
      first
      | (with_reducible refine RW.isRW ?_; first
          | refine RW.val (Y.move rfl) rfl ?_
          | refine RW.val (Y.assign rfl) rfl ?_
          | (with_reducible refine RW.isGuard ?_; first
              | refine RW.guardYes rfl rfl ?_
              | refine RW.guardNo rfl rfl rfl rfl ?_
              | refine RW.guardUndef rfl rfl rfl ?_
              | (refine RW.gdY rfl rfl ?_ ?_; omega)
              | (refine RW.gdN rfl rfl ?_ ?_; omega))
          | (with_reducible refine RW.isBin ?_; first
              | refine RW.val (Y.lss rfl rfl) rfl ?_
              | (refine RW.val (Y.add rfl rfl ?_) rfl ?_; omega)
              | refine RW.val (Y.eql rfl rfl) rfl ?_
              | refine RW.val (Y.neq rfl rfl) rfl ?_
              | refine RW.val (Y.gtr rfl rfl) rfl ?_
              | refine RW.val (Y.geq rfl rfl) rfl ?_
              | refine RW.val (Y.leq rfl rfl) rfl ?_
              | (refine RW.val (Y.sub rfl rfl ?_) rfl ?_; omega)
              | (refine RW.val (Y.quo rfl rfl ?_ ?_) rfl ?_; omega; omega)
              | (refine RW.val (Y.rem rfl rfl ?_ ?_) rfl ?_; omega; omega))
          | (with_reducible refine RW.isLoad ?_; first
              | (refine RW.val (Y.ldInt T hs rfl (by assumption) rfl rfl ?_) rfl ?_; omega)
              | (refine RW.val (Y.ldS T hs rfl (by assumption) rfl rfl ?_ (by assumption)) rfl ?_; omega))
          | (with_reducible refine RW.isIdx ?_; first
              | (refine RW.val (Y.idxSN T rfl rfl (by assumption) rfl rfl rfl ?_) rfl ?_; omega)
              | (refine RW.val (Y.idxS T rfl rfl (by assumption) rfl rfl rfl ?_) rfl ?_; omega))
          | (with_reducible refine RW.isCall ?_; first
              | refine RW.val (Y.len T rfl rfl) rfl ?_
              | refine RW.val (Y.max2 rfl rfl) rfl ?_
              | refine RW.val (Y.min2 rfl rfl) rfl ?_)
          | refine RW.val (Y.extract rfl rfl) rfl ?_
          | (with_reducible refine RW.isUn ?_; first
              | refine RW.val (Y.notD rfl) rfl ?_
              | refine RW.val (Y.not rfl) rfl ?_)
          | (with_reducible refine RW.isPick ?_; first
              | refine RW.val (Y.pickT rfl rfl) rfl ?_
              | refine RW.val (Y.pickF rfl rfl) rfl ?_)
          | with_reducible refine RW.nil ?_)
      | (with_reducible refine CW.isCW ?_; first
          | with_reducible refine CW.seq ?_
          | with_reducible refine CW.region ?_
          | with_reducible refine CW.block ?_
          | with_reducible refine CW.ret ?_
          | with_reducible refine CW.skip ?_
          | with_reducible refine CW.exit ?_
          | refine CW.condT rfl ?_
          | refine CW.condF rfl ?_
          | (refine CW.condY rfl ?_ ?_; omega)
          | (refine CW.condN rfl ?_ ?_; omega))
      | with_reducible refine thenQ_normal ?_
      | with_reducible refine thenQ_ret ?_
      | with_reducible refine thenQ_exit ?_
      | with_reducible refine blockQ_normal ?_
      | with_reducible refine blockQ_ret ?_
      | with_reducible refine loopQ_ret ?_
      | with_reducible refine loopQ_exit ?_
      | with_reducible refine joinQ_ret ?_
      | with_reducible refine joinQ_exit ?_
      | refine blockQ_exit rfl ?_
      | refine blockQ_past rfl ?_
    exact retQ_ret [_, _] h ⟨rfl, rfl, trivial⟩ hs (by simp [within, packv, h1])
  · repeat
      first
      | (with_reducible refine RW.isRW ?_; first
          | refine RW.val (Y.move rfl) rfl ?_
          | refine RW.val (Y.assign rfl) rfl ?_
          | (with_reducible refine RW.isGuard ?_; first
              | refine RW.guardYes rfl rfl ?_
              | refine RW.guardNo rfl rfl rfl rfl ?_
              | refine RW.guardUndef rfl rfl rfl ?_
              | (refine RW.gdY rfl rfl ?_ ?_; omega)
              | (refine RW.gdN rfl rfl ?_ ?_; omega))
          | (with_reducible refine RW.isBin ?_; first
              | refine RW.val (Y.lss rfl rfl) rfl ?_
              | (refine RW.val (Y.add rfl rfl ?_) rfl ?_; omega)
              | refine RW.val (Y.eql rfl rfl) rfl ?_
              | refine RW.val (Y.neq rfl rfl) rfl ?_
              | refine RW.val (Y.gtr rfl rfl) rfl ?_
              | refine RW.val (Y.geq rfl rfl) rfl ?_
              | refine RW.val (Y.leq rfl rfl) rfl ?_
              | (refine RW.val (Y.sub rfl rfl ?_) rfl ?_; omega)
              | (refine RW.val (Y.quo rfl rfl ?_ ?_) rfl ?_; omega; omega)
              | (refine RW.val (Y.rem rfl rfl ?_ ?_) rfl ?_; omega; omega))
          | (with_reducible refine RW.isLoad ?_; first
              | (refine RW.val (Y.ldInt T hs rfl (by assumption) rfl rfl ?_) rfl ?_; omega)
              | (refine RW.val (Y.ldS T hs rfl (by assumption) rfl rfl ?_ (by assumption)) rfl ?_; omega))
          | (with_reducible refine RW.isIdx ?_; first
              | (refine RW.val (Y.idxSN T rfl rfl (by assumption) rfl rfl rfl ?_) rfl ?_; omega)
              | (refine RW.val (Y.idxS T rfl rfl (by assumption) rfl rfl rfl ?_) rfl ?_; omega))
          | (with_reducible refine RW.isCall ?_; first
              | refine RW.val (Y.len T rfl rfl) rfl ?_
              | refine RW.val (Y.max2 rfl rfl) rfl ?_
              | refine RW.val (Y.min2 rfl rfl) rfl ?_)
          | refine RW.val (Y.extract rfl rfl) rfl ?_
          | (with_reducible refine RW.isUn ?_; first
              | refine RW.val (Y.notD rfl) rfl ?_
              | refine RW.val (Y.not rfl) rfl ?_)
          | (with_reducible refine RW.isPick ?_; first
              | refine RW.val (Y.pickT rfl rfl) rfl ?_
              | refine RW.val (Y.pickF rfl rfl) rfl ?_)
          | with_reducible refine RW.nil ?_)
      | (with_reducible refine CW.isCW ?_; first
          | with_reducible refine CW.seq ?_
          | with_reducible refine CW.region ?_
          | with_reducible refine CW.block ?_
          | with_reducible refine CW.ret ?_
          | with_reducible refine CW.skip ?_
          | with_reducible refine CW.exit ?_
          | refine CW.condT rfl ?_
          | refine CW.condF rfl ?_
          | (refine CW.condY rfl ?_ ?_; omega)
          | (refine CW.condN rfl ?_ ?_; omega))
      | with_reducible refine thenQ_normal ?_
      | with_reducible refine thenQ_ret ?_
      | with_reducible refine thenQ_exit ?_
      | with_reducible refine blockQ_normal ?_
      | with_reducible refine blockQ_ret ?_
      | with_reducible refine loopQ_ret ?_
      | with_reducible refine loopQ_exit ?_
      | with_reducible refine joinQ_ret ?_
      | with_reducible refine joinQ_exit ?_
      | refine blockQ_exit rfl ?_
      | refine blockQ_past rfl ?_
    refine CW.condD rfl (fun h2 => ?_) (fun h2 => ?_)
    · repeat
        first
        | (with_reducible refine RW.isRW ?_; first
            | refine RW.val (Y.move rfl) rfl ?_
            | refine RW.val (Y.assign rfl) rfl ?_
            | (with_reducible refine RW.isGuard ?_; first
                | refine RW.guardYes rfl rfl ?_
                | refine RW.guardNo rfl rfl rfl rfl ?_
                | refine RW.guardUndef rfl rfl rfl ?_
                | (refine RW.gdY rfl rfl ?_ ?_; omega)
                | (refine RW.gdN rfl rfl ?_ ?_; omega))
            | (with_reducible refine RW.isBin ?_; first
                | refine RW.val (Y.lss rfl rfl) rfl ?_
                | (refine RW.val (Y.add rfl rfl ?_) rfl ?_; omega)
                | refine RW.val (Y.eql rfl rfl) rfl ?_
                | refine RW.val (Y.neq rfl rfl) rfl ?_
                | refine RW.val (Y.gtr rfl rfl) rfl ?_
                | refine RW.val (Y.geq rfl rfl) rfl ?_
                | refine RW.val (Y.leq rfl rfl) rfl ?_
                | (refine RW.val (Y.sub rfl rfl ?_) rfl ?_; omega)
                | (refine RW.val (Y.quo rfl rfl ?_ ?_) rfl ?_; omega; omega)
                | (refine RW.val (Y.rem rfl rfl ?_ ?_) rfl ?_; omega; omega))
            | (with_reducible refine RW.isLoad ?_; first
                | (refine RW.val (Y.ldInt T hs rfl (by assumption) rfl rfl ?_) rfl ?_; omega)
                | (refine RW.val (Y.ldS T hs rfl (by assumption) rfl rfl ?_ (by assumption)) rfl ?_; omega))
            | (with_reducible refine RW.isIdx ?_; first
                | (refine RW.val (Y.idxSN T rfl rfl (by assumption) rfl rfl rfl ?_) rfl ?_; omega)
                | (refine RW.val (Y.idxS T rfl rfl (by assumption) rfl rfl rfl ?_) rfl ?_; omega))
            | (with_reducible refine RW.isCall ?_; first
                | refine RW.val (Y.len T rfl rfl) rfl ?_
                | refine RW.val (Y.max2 rfl rfl) rfl ?_
                | refine RW.val (Y.min2 rfl rfl) rfl ?_)
            | refine RW.val (Y.extract rfl rfl) rfl ?_
            | (with_reducible refine RW.isUn ?_; first
                | refine RW.val (Y.notD rfl) rfl ?_
                | refine RW.val (Y.not rfl) rfl ?_)
            | (with_reducible refine RW.isPick ?_; first
                | refine RW.val (Y.pickT rfl rfl) rfl ?_
                | refine RW.val (Y.pickF rfl rfl) rfl ?_)
            | with_reducible refine RW.nil ?_)
        | (with_reducible refine CW.isCW ?_; first
            | with_reducible refine CW.seq ?_
            | with_reducible refine CW.region ?_
            | with_reducible refine CW.block ?_
            | with_reducible refine CW.ret ?_
            | with_reducible refine CW.skip ?_
            | with_reducible refine CW.exit ?_
            | refine CW.condT rfl ?_
            | refine CW.condF rfl ?_
            | (refine CW.condY rfl ?_ ?_; omega)
            | (refine CW.condN rfl ?_ ?_; omega))
        | with_reducible refine thenQ_normal ?_
        | with_reducible refine thenQ_ret ?_
        | with_reducible refine thenQ_exit ?_
        | with_reducible refine blockQ_normal ?_
        | with_reducible refine blockQ_ret ?_
        | with_reducible refine loopQ_ret ?_
        | with_reducible refine loopQ_exit ?_
        | with_reducible refine joinQ_ret ?_
        | with_reducible refine joinQ_exit ?_
        | refine blockQ_exit rfl ?_
        | refine blockQ_past rfl ?_
      exact retQ_ret [_, _] h ⟨rfl, rfl, trivial⟩ hs (by simp [within, packv, h2])
    · repeat
        first
        | (with_reducible refine RW.isRW ?_; first
            | refine RW.val (Y.move rfl) rfl ?_
            | refine RW.val (Y.assign rfl) rfl ?_
            | (with_reducible refine RW.isGuard ?_; first
                | refine RW.guardYes rfl rfl ?_
                | refine RW.guardNo rfl rfl rfl rfl ?_
                | refine RW.guardUndef rfl rfl rfl ?_
                | (refine RW.gdY rfl rfl ?_ ?_; omega)
                | (refine RW.gdN rfl rfl ?_ ?_; omega))
            | (with_reducible refine RW.isBin ?_; first
                | refine RW.val (Y.lss rfl rfl) rfl ?_
                | (refine RW.val (Y.add rfl rfl ?_) rfl ?_; omega)
                | refine RW.val (Y.eql rfl rfl) rfl ?_
                | refine RW.val (Y.neq rfl rfl) rfl ?_
                | refine RW.val (Y.gtr rfl rfl) rfl ?_
                | refine RW.val (Y.geq rfl rfl) rfl ?_
                | refine RW.val (Y.leq rfl rfl) rfl ?_
                | (refine RW.val (Y.sub rfl rfl ?_) rfl ?_; omega)
                | (refine RW.val (Y.quo rfl rfl ?_ ?_) rfl ?_; omega; omega)
                | (refine RW.val (Y.rem rfl rfl ?_ ?_) rfl ?_; omega; omega))
            | (with_reducible refine RW.isLoad ?_; first
                | (refine RW.val (Y.ldInt T hs rfl (by assumption) rfl rfl ?_) rfl ?_; omega)
                | (refine RW.val (Y.ldS T hs rfl (by assumption) rfl rfl ?_ (by assumption)) rfl ?_; omega))
            | (with_reducible refine RW.isIdx ?_; first
                | (refine RW.val (Y.idxSN T rfl rfl (by assumption) rfl rfl rfl ?_) rfl ?_; omega)
                | (refine RW.val (Y.idxS T rfl rfl (by assumption) rfl rfl rfl ?_) rfl ?_; omega))
            | (with_reducible refine RW.isCall ?_; first
                | refine RW.val (Y.len T rfl rfl) rfl ?_
                | refine RW.val (Y.max2 rfl rfl) rfl ?_
                | refine RW.val (Y.min2 rfl rfl) rfl ?_)
            | refine RW.val (Y.extract rfl rfl) rfl ?_
            | (with_reducible refine RW.isUn ?_; first
                | refine RW.val (Y.notD rfl) rfl ?_
                | refine RW.val (Y.not rfl) rfl ?_)
            | (with_reducible refine RW.isPick ?_; first
                | refine RW.val (Y.pickT rfl rfl) rfl ?_
                | refine RW.val (Y.pickF rfl rfl) rfl ?_)
            | with_reducible refine RW.nil ?_)
        | (with_reducible refine CW.isCW ?_; first
            | with_reducible refine CW.seq ?_
            | with_reducible refine CW.region ?_
            | with_reducible refine CW.block ?_
            | with_reducible refine CW.ret ?_
            | with_reducible refine CW.skip ?_
            | with_reducible refine CW.exit ?_
            | refine CW.condT rfl ?_
            | refine CW.condF rfl ?_
            | (refine CW.condY rfl ?_ ?_; omega)
            | (refine CW.condN rfl ?_ ?_; omega))
        | with_reducible refine thenQ_normal ?_
        | with_reducible refine thenQ_ret ?_
        | with_reducible refine thenQ_exit ?_
        | with_reducible refine blockQ_normal ?_
        | with_reducible refine blockQ_ret ?_
        | with_reducible refine loopQ_ret ?_
        | with_reducible refine loopQ_exit ?_
        | with_reducible refine joinQ_ret ?_
        | with_reducible refine joinQ_exit ?_
        | refine blockQ_exit rfl ?_
        | refine blockQ_past rfl ?_
      exact retQ_ret [_, _] h ⟨rfl, rfl, trivial⟩ hs (by simp [within, packv, h1, h2])

theorem indexInt_con (s : Value) (l : List Int) (x : Int) (w : World) (h : GHeap) (hl : IntsAt h s l) (hm : l.length ≤ 9223372036854775807) : Con Try.prog 172 [s, .int .i64 x] w h
    (fun _ v => ∃ k : Int, v = .int .i64 k ∧ (0 ≤ k ↔ x ∈ l)) := by
  obtain ⟨ad, cp, rfl, hS⟩ := hl
  refine Con.of_body Try.func172 rfl Try.ntmps172 rfl rfl ?_
  intro hs
  repeat
    first
    | (with_reducible refine RW.isRW ?_; first
        | refine RW.val (Y.move rfl) rfl ?_
        | refine RW.val (Y.assign rfl) rfl ?_
        | (with_reducible refine RW.isGuard ?_; first
            | refine RW.guardYes rfl rfl ?_
            | refine RW.guardNo rfl rfl rfl rfl ?_
            | refine RW.guardUndef rfl rfl rfl ?_
            | (refine RW.gdY rfl rfl ?_ ?_; omega)
            | (refine RW.gdN rfl rfl ?_ ?_; omega))
        | (with_reducible refine RW.isBin ?_; first
            | refine RW.val (Y.lss rfl rfl) rfl ?_
            | (refine RW.val (Y.add rfl rfl ?_) rfl ?_; omega)
            | refine RW.val (Y.eql rfl rfl) rfl ?_
            | refine RW.val (Y.neq rfl rfl) rfl ?_
            | refine RW.val (Y.gtr rfl rfl) rfl ?_
            | refine RW.val (Y.geq rfl rfl) rfl ?_
            | refine RW.val (Y.leq rfl rfl) rfl ?_
            | (refine RW.val (Y.sub rfl rfl ?_) rfl ?_; omega)
            | (refine RW.val (Y.quo rfl rfl ?_ ?_) rfl ?_; omega; omega)
            | (refine RW.val (Y.rem rfl rfl ?_ ?_) rfl ?_; omega; omega))
        | (with_reducible refine RW.isLoad ?_; first
            | (refine RW.val (Y.ldInt T hs rfl (by assumption) rfl rfl ?_) rfl ?_; omega)
            | (refine RW.val (Y.ldS T hs rfl (by assumption) rfl rfl ?_ (by assumption)) rfl ?_; omega))
        | (with_reducible refine RW.isIdx ?_; first
            | (refine RW.val (Y.idxSN T rfl rfl (by assumption) rfl rfl rfl ?_) rfl ?_; omega)
            | (refine RW.val (Y.idxS T rfl rfl (by assumption) rfl rfl rfl ?_) rfl ?_; omega))
        | (with_reducible refine RW.isCall ?_; first
            | refine RW.val (Y.len T rfl rfl) rfl ?_
            | refine RW.val (Y.max2 rfl rfl) rfl ?_
            | refine RW.val (Y.min2 rfl rfl) rfl ?_)
        | refine RW.val (Y.extract rfl rfl) rfl ?_
        | (with_reducible refine RW.isUn ?_; first
            | refine RW.val (Y.notD rfl) rfl ?_
            | refine RW.val (Y.not rfl) rfl ?_)
        | (with_reducible refine RW.isPick ?_; first
            | refine RW.val (Y.pickT rfl rfl) rfl ?_
            | refine RW.val (Y.pickF rfl rfl) rfl ?_)
        | with_reducible refine RW.nil ?_)
    | (with_reducible refine CW.isCW ?_; first
        | with_reducible refine CW.seq ?_
        | with_reducible refine CW.region ?_
        | with_reducible refine CW.block ?_
        | with_reducible refine CW.ret ?_
        | with_reducible refine CW.skip ?_
        | with_reducible refine CW.exit ?_
        | refine CW.condT rfl ?_
        | refine CW.condF rfl ?_
        | (refine CW.condY rfl ?_ ?_; omega)
        | (refine CW.condN rfl ?_ ?_; omega))
    | with_reducible refine thenQ_normal ?_
    | with_reducible refine thenQ_ret ?_
    | with_reducible refine thenQ_exit ?_
    | with_reducible refine blockQ_normal ?_
    | with_reducible refine blockQ_ret ?_
    | with_reducible refine loopQ_ret ?_
    | with_reducible refine loopQ_exit ?_
    | with_reducible refine joinQ_ret ?_
    | with_reducible refine joinQ_exit ?_
    | refine blockQ_exit rfl ?_
    | refine blockQ_past rfl ?_
  refine CW.loop (fun k : Nat => [(0, .slice ad l.length cp), (1, .int .i64 x), (7, .int .i64 l.length), (8, .int .i64 k)]) (fun k w' => k ≤ l.length ∧ (∀ j, j < k → l.getD j 0 ≠ x) ∧ Sees w h h [] w') (fun k => l.length - k) 0 ⟨rfl, rfl, rfl, rfl, trivial⟩ ⟨by omega, by omega, hs⟩ ?_
  rintro k w' ⟨hk, hno, hs⟩
  by_cases hlt : k < l.length
  · repeat
      first
      | (with_reducible refine RW.isRW ?_; first
          | refine RW.val (Y.move rfl) rfl ?_
          | refine RW.val (Y.assign rfl) rfl ?_
          | (with_reducible refine RW.isGuard ?_; first
              | refine RW.guardYes rfl rfl ?_
              | refine RW.guardNo rfl rfl rfl rfl ?_
              | refine RW.guardUndef rfl rfl rfl ?_
              | (refine RW.gdY rfl rfl ?_ ?_; omega)
              | (refine RW.gdN rfl rfl ?_ ?_; omega))
          | (with_reducible refine RW.isBin ?_; first
              | refine RW.val (Y.lss rfl rfl) rfl ?_
              | (refine RW.val (Y.add rfl rfl ?_) rfl ?_; omega)
              | refine RW.val (Y.eql rfl rfl) rfl ?_
              | refine RW.val (Y.neq rfl rfl) rfl ?_
              | refine RW.val (Y.gtr rfl rfl) rfl ?_
              | refine RW.val (Y.geq rfl rfl) rfl ?_
              | refine RW.val (Y.leq rfl rfl) rfl ?_
              | (refine RW.val (Y.sub rfl rfl ?_) rfl ?_; omega)
              | (refine RW.val (Y.quo rfl rfl ?_ ?_) rfl ?_; omega; omega)
              | (refine RW.val (Y.rem rfl rfl ?_ ?_) rfl ?_; omega; omega))
          | (with_reducible refine RW.isLoad ?_; first
              | (refine RW.val (Y.ldInt T hs rfl (by assumption) rfl rfl ?_) rfl ?_; omega)
              | (refine RW.val (Y.ldS T hs rfl (by assumption) rfl rfl ?_ (by assumption)) rfl ?_; omega))
          | (with_reducible refine RW.isIdx ?_; first
              | (refine RW.val (Y.idxSN T rfl rfl (by assumption) rfl rfl rfl ?_) rfl ?_; omega)
              | (refine RW.val (Y.idxS T rfl rfl (by assumption) rfl rfl rfl ?_) rfl ?_; omega))
          | (with_reducible refine RW.isCall ?_; first
              | refine RW.val (Y.len T rfl rfl) rfl ?_
              | refine RW.val (Y.max2 rfl rfl) rfl ?_
              | refine RW.val (Y.min2 rfl rfl) rfl ?_)
          | refine RW.val (Y.extract rfl rfl) rfl ?_
          | (with_reducible refine RW.isUn ?_; first
              | refine RW.val (Y.notD rfl) rfl ?_
              | refine RW.val (Y.not rfl) rfl ?_)
          | (with_reducible refine RW.isPick ?_; first
              | refine RW.val (Y.pickT rfl rfl) rfl ?_
              | refine RW.val (Y.pickF rfl rfl) rfl ?_)
          | with_reducible refine RW.nil ?_)
      | (with_reducible refine CW.isCW ?_; first
          | with_reducible refine CW.seq ?_
          | with_reducible refine CW.region ?_
          | with_reducible refine CW.block ?_
          | with_reducible refine CW.ret ?_
          | with_reducible refine CW.skip ?_
          | with_reducible refine CW.exit ?_
          | refine CW.condT rfl ?_
          | refine CW.condF rfl ?_
          | (refine CW.condY rfl ?_ ?_; omega)
          | (refine CW.condN rfl ?_ ?_; omega))
      | with_reducible refine thenQ_normal ?_
      | with_reducible refine thenQ_ret ?_
      | with_reducible refine thenQ_exit ?_
      | with_reducible refine blockQ_normal ?_
      | with_reducible refine blockQ_ret ?_
      | with_reducible refine loopQ_ret ?_
      | with_reducible refine loopQ_exit ?_
      | with_reducible refine joinQ_ret ?_
      | with_reducible refine joinQ_exit ?_
      | refine blockQ_exit rfl ?_
      | refine blockQ_past rfl ?_
    refine CW.condD rfl (fun h2 => ?_) (fun h2 => ?_)
    · repeat
        first
        | (with_reducible refine RW.isRW ?_; first
            | refine RW.val (Y.move rfl) rfl ?_
            | refine RW.val (Y.assign rfl) rfl ?_
            | (with_reducible refine RW.isGuard ?_; first
                | refine RW.guardYes rfl rfl ?_
                | refine RW.guardNo rfl rfl rfl rfl ?_
                | refine RW.guardUndef rfl rfl rfl ?_
                | (refine RW.gdY rfl rfl ?_ ?_; omega)
                | (refine RW.gdN rfl rfl ?_ ?_; omega))
            | (with_reducible refine RW.isBin ?_; first
                | refine RW.val (Y.lss rfl rfl) rfl ?_
                | (refine RW.val (Y.add rfl rfl ?_) rfl ?_; omega)
                | refine RW.val (Y.eql rfl rfl) rfl ?_
                | refine RW.val (Y.neq rfl rfl) rfl ?_
                | refine RW.val (Y.gtr rfl rfl) rfl ?_
                | refine RW.val (Y.geq rfl rfl) rfl ?_
                | refine RW.val (Y.leq rfl rfl) rfl ?_
                | (refine RW.val (Y.sub rfl rfl ?_) rfl ?_; omega)
                | (refine RW.val (Y.quo rfl rfl ?_ ?_) rfl ?_; omega; omega)
                | (refine RW.val (Y.rem rfl rfl ?_ ?_) rfl ?_; omega; omega))
            | (with_reducible refine RW.isLoad ?_; first
                | (refine RW.val (Y.ldInt T hs rfl (by assumption) rfl rfl ?_) rfl ?_; omega)
                | (refine RW.val (Y.ldS T hs rfl (by assumption) rfl rfl ?_ (by assumption)) rfl ?_; omega))
            | (with_reducible refine RW.isIdx ?_; first
                | (refine RW.val (Y.idxSN T rfl rfl (by assumption) rfl rfl rfl ?_) rfl ?_; omega)
                | (refine RW.val (Y.idxS T rfl rfl (by assumption) rfl rfl rfl ?_) rfl ?_; omega))
            | (with_reducible refine RW.isCall ?_; first
                | refine RW.val (Y.len T rfl rfl) rfl ?_
                | refine RW.val (Y.max2 rfl rfl) rfl ?_
                | refine RW.val (Y.min2 rfl rfl) rfl ?_)
            | refine RW.val (Y.extract rfl rfl) rfl ?_
            | (with_reducible refine RW.isUn ?_; first
                | refine RW.val (Y.notD rfl) rfl ?_
                | refine RW.val (Y.not rfl) rfl ?_)
            | (with_reducible refine RW.isPick ?_; first
                | refine RW.val (Y.pickT rfl rfl) rfl ?_
                | refine RW.val (Y.pickF rfl rfl) rfl ?_)
            | with_reducible refine RW.nil ?_)
        | (with_reducible refine CW.isCW ?_; first
            | with_reducible refine CW.seq ?_
            | with_reducible refine CW.region ?_
            | with_reducible refine CW.block ?_
            | with_reducible refine CW.ret ?_
            | with_reducible refine CW.skip ?_
            | with_reducible refine CW.exit ?_
            | refine CW.condT rfl ?_
            | refine CW.condF rfl ?_
            | (refine CW.condY rfl ?_ ?_; omega)
            | (refine CW.condN rfl ?_ ?_; omega))
        | with_reducible refine thenQ_normal ?_
        | with_reducible refine thenQ_ret ?_
        | with_reducible refine thenQ_exit ?_
        | with_reducible refine blockQ_normal ?_
        | with_reducible refine blockQ_ret ?_
        | with_reducible refine loopQ_ret ?_
        | with_reducible refine loopQ_exit ?_
        | with_reducible refine joinQ_ret ?_
        | with_reducible refine joinQ_exit ?_
        | refine blockQ_exit rfl ?_
        | refine blockQ_past rfl ?_
      exact retQ_ret [_] h ⟨rfl, trivial⟩ hs ⟨k, rfl, by simp [h2, List.getD_eq_getElem?_getD, hlt]⟩
    · repeat
        first
        | (with_reducible refine RW.isRW ?_; first
            | refine RW.val (Y.move rfl) rfl ?_
            | refine RW.val (Y.assign rfl) rfl ?_
            | (with_reducible refine RW.isGuard ?_; first
                | refine RW.guardYes rfl rfl ?_
                | refine RW.guardNo rfl rfl rfl rfl ?_
                | refine RW.guardUndef rfl rfl rfl ?_
                | (refine RW.gdY rfl rfl ?_ ?_; omega)
                | (refine RW.gdN rfl rfl ?_ ?_; omega))
            | (with_reducible refine RW.isBin ?_; first
                | refine RW.val (Y.lss rfl rfl) rfl ?_
                | (refine RW.val (Y.add rfl rfl ?_) rfl ?_; omega)
                | refine RW.val (Y.eql rfl rfl) rfl ?_
                | refine RW.val (Y.neq rfl rfl) rfl ?_
                | refine RW.val (Y.gtr rfl rfl) rfl ?_
                | refine RW.val (Y.geq rfl rfl) rfl ?_
                | refine RW.val (Y.leq rfl rfl) rfl ?_
                | (refine RW.val (Y.sub rfl rfl ?_) rfl ?_; omega)
                | (refine RW.val (Y.quo rfl rfl ?_ ?_) rfl ?_; omega; omega)
                | (refine RW.val (Y.rem rfl rfl ?_ ?_) rfl ?_; omega; omega))
            | (with_reducible refine RW.isLoad ?_; first
                | (refine RW.val (Y.ldInt T hs rfl (by assumption) rfl rfl ?_) rfl ?_; omega)
                | (refine RW.val (Y.ldS T hs rfl (by assumption) rfl rfl ?_ (by assumption)) rfl ?_; omega))
            | (with_reducible refine RW.isIdx ?_; first
                | (refine RW.val (Y.idxSN T rfl rfl (by assumption) rfl rfl rfl ?_) rfl ?_; omega)
                | (refine RW.val (Y.idxS T rfl rfl (by assumption) rfl rfl rfl ?_) rfl ?_; omega))
            | (with_reducible refine RW.isCall ?_; first
                | refine RW.val (Y.len T rfl rfl) rfl ?_
                | refine RW.val (Y.max2 rfl rfl) rfl ?_
                | refine RW.val (Y.min2 rfl rfl) rfl ?_)
            | refine RW.val (Y.extract rfl rfl) rfl ?_
            | (with_reducible refine RW.isUn ?_; first
                | refine RW.val (Y.notD rfl) rfl ?_
                | refine RW.val (Y.not rfl) rfl ?_)
            | (with_reducible refine RW.isPick ?_; first
                | refine RW.val (Y.pickT rfl rfl) rfl ?_
                | refine RW.val (Y.pickF rfl rfl) rfl ?_)
            | with_reducible refine RW.nil ?_)
        | (with_reducible refine CW.isCW ?_; first
            | with_reducible refine CW.seq ?_
            | with_reducible refine CW.region ?_
            | with_reducible refine CW.block ?_
            | with_reducible refine CW.ret ?_
            | with_reducible refine CW.skip ?_
            | with_reducible refine CW.exit ?_
            | refine CW.condT rfl ?_
            | refine CW.condF rfl ?_
            | (refine CW.condY rfl ?_ ?_; omega)
            | (refine CW.condN rfl ?_ ?_; omega))
        | with_reducible refine thenQ_normal ?_
        | with_reducible refine thenQ_ret ?_
        | with_reducible refine thenQ_exit ?_
        | with_reducible refine blockQ_normal ?_
        | with_reducible refine blockQ_ret ?_
        | with_reducible refine loopQ_ret ?_
        | with_reducible refine loopQ_exit ?_
        | with_reducible refine joinQ_ret ?_
        | with_reducible refine joinQ_exit ?_
        | refine blockQ_exit rfl ?_
        | refine blockQ_past rfl ?_
      refine loopQ_round (k + 1) ⟨rfl, rfl, rfl, rfl, trivial⟩ ⟨by omega, ?_, hs⟩ (by omega)
      intro j hj
      by_cases e : j = k
      · subst e; exact fun e => h2 e.symm
      · exact hno j (by omega)
  · repeat
      first
      | (with_reducible refine RW.isRW ?_; first
          | refine RW.val (Y.move rfl) rfl ?_
          | refine RW.val (Y.assign rfl) rfl ?_
          | (with_reducible refine RW.isGuard ?_; first
              | refine RW.guardYes rfl rfl ?_
              | refine RW.guardNo rfl rfl rfl rfl ?_
              | refine RW.guardUndef rfl rfl rfl ?_
              | (refine RW.gdY rfl rfl ?_ ?_; omega)
              | (refine RW.gdN rfl rfl ?_ ?_; omega))
          | (with_reducible refine RW.isBin ?_; first
              | refine RW.val (Y.lss rfl rfl) rfl ?_
              | (refine RW.val (Y.add rfl rfl ?_) rfl ?_; omega)
              | refine RW.val (Y.eql rfl rfl) rfl ?_
              | refine RW.val (Y.neq rfl rfl) rfl ?_
              | refine RW.val (Y.gtr rfl rfl) rfl ?_
              | refine RW.val (Y.geq rfl rfl) rfl ?_
              | refine RW.val (Y.leq rfl rfl) rfl ?_
              | (refine RW.val (Y.sub rfl rfl ?_) rfl ?_; omega)
              | (refine RW.val (Y.quo rfl rfl ?_ ?_) rfl ?_; omega; omega)
              | (refine RW.val (Y.rem rfl rfl ?_ ?_) rfl ?_; omega; omega))
          | (with_reducible refine RW.isLoad ?_; first
              | (refine RW.val (Y.ldInt T hs rfl (by assumption) rfl rfl ?_) rfl ?_; omega)
              | (refine RW.val (Y.ldS T hs rfl (by assumption) rfl rfl ?_ (by assumption)) rfl ?_; omega))
          | (with_reducible refine RW.isIdx ?_; first
              | (refine RW.val (Y.idxSN T rfl rfl (by assumption) rfl rfl rfl ?_) rfl ?_; omega)
              | (refine RW.val (Y.idxS T rfl rfl (by assumption) rfl rfl rfl ?_) rfl ?_; omega))
          | (with_reducible refine RW.isCall ?_; first
              | refine RW.val (Y.len T rfl rfl) rfl ?_
              | refine RW.val (Y.max2 rfl rfl) rfl ?_
              | refine RW.val (Y.min2 rfl rfl) rfl ?_)
          | refine RW.val (Y.extract rfl rfl) rfl ?_
          | (with_reducible refine RW.isUn ?_; first
              | refine RW.val (Y.notD rfl) rfl ?_
              | refine RW.val (Y.not rfl) rfl ?_)
          | (with_reducible refine RW.isPick ?_; first
              | refine RW.val (Y.pickT rfl rfl) rfl ?_
              | refine RW.val (Y.pickF rfl rfl) rfl ?_)
          | with_reducible refine RW.nil ?_)
      | (with_reducible refine CW.isCW ?_; first
          | with_reducible refine CW.seq ?_
          | with_reducible refine CW.region ?_
          | with_reducible refine CW.block ?_
          | with_reducible refine CW.ret ?_
          | with_reducible refine CW.skip ?_
          | with_reducible refine CW.exit ?_
          | refine CW.condT rfl ?_
          | refine CW.condF rfl ?_
          | (refine CW.condY rfl ?_ ?_; omega)
          | (refine CW.condN rfl ?_ ?_; omega))
      | with_reducible refine thenQ_normal ?_
      | with_reducible refine thenQ_ret ?_
      | with_reducible refine thenQ_exit ?_
      | with_reducible refine blockQ_normal ?_
      | with_reducible refine blockQ_ret ?_
      | with_reducible refine loopQ_ret ?_
      | with_reducible refine loopQ_exit ?_
      | with_reducible refine joinQ_ret ?_
      | with_reducible refine joinQ_exit ?_
      | refine blockQ_exit rfl ?_
      | refine blockQ_past rfl ?_
    refine retQ_ret [_] h ⟨rfl, trivial⟩ hs ⟨-1, rfl, by simp, fun hx => ?_⟩
    obtain ⟨j, hj, e⟩ := List.mem_iff_getElem.1 hx
    exact absurd (by simp [List.getD_eq_getElem?_getD, hj, e]) (hno j (by omega))

theorem containsInt_con (s : Value) (l : List Int) (x : Int) (w : World) (h : GHeap) (hl : IntsAt h s l) (hm : l.length ≤ 9223372036854775807) : Con Try.prog 110 [s, .int .i64 x] w h
    (fun _ v => v = .bool (decide (x ∈ l))) := by
  refine Con.of_body Try.func110 rfl Try.ntmps110 rfl rfl ?_
  intro hs
  repeat
    first
    | (with_reducible refine RW.isRW ?_; first
        | refine RW.val (Y.move rfl) rfl ?_
        | refine RW.val (Y.assign rfl) rfl ?_
        | (with_reducible refine RW.isGuard ?_; first
            | refine RW.guardYes rfl rfl ?_
            | refine RW.guardNo rfl rfl rfl rfl ?_
            | refine RW.guardUndef rfl rfl rfl ?_
            | (refine RW.gdY rfl rfl ?_ ?_; omega)
            | (refine RW.gdN rfl rfl ?_ ?_; omega))
        | (with_reducible refine RW.isBin ?_; first
            | refine RW.val (Y.lss rfl rfl) rfl ?_
            | (refine RW.val (Y.add rfl rfl ?_) rfl ?_; omega)
            | refine RW.val (Y.eql rfl rfl) rfl ?_
            | refine RW.val (Y.neq rfl rfl) rfl ?_
            | refine RW.val (Y.gtr rfl rfl) rfl ?_
            | refine RW.val (Y.geq rfl rfl) rfl ?_
            | refine RW.val (Y.leq rfl rfl) rfl ?_
            | (refine RW.val (Y.sub rfl rfl ?_) rfl ?_; omega)
            | (refine RW.val (Y.quo rfl rfl ?_ ?_) rfl ?_; omega; omega)
            | (refine RW.val (Y.rem rfl rfl ?_ ?_) rfl ?_; omega; omega))
        | (with_reducible refine RW.isLoad ?_; first
            | (refine RW.val (Y.ldInt T hs rfl (by assumption) rfl rfl ?_) rfl ?_; omega)
            | (refine RW.val (Y.ldS T hs rfl (by assumption) rfl rfl ?_ (by assumption)) rfl ?_; omega))
        | (with_reducible refine RW.isIdx ?_; first
            | (refine RW.val (Y.idxSN T rfl rfl (by assumption) rfl rfl rfl ?_) rfl ?_; omega)
            | (refine RW.val (Y.idxS T rfl rfl (by assumption) rfl rfl rfl ?_) rfl ?_; omega))
        | (with_reducible refine RW.isCall ?_; first
            | refine RW.val (Y.len T rfl rfl) rfl ?_
            | refine RW.val (Y.max2 rfl rfl) rfl ?_
            | refine RW.val (Y.min2 rfl rfl) rfl ?_)
        | refine RW.val (Y.extract rfl rfl) rfl ?_
        | (with_reducible refine RW.isUn ?_; first
            | refine RW.val (Y.notD rfl) rfl ?_
            | refine RW.val (Y.not rfl) rfl ?_)
        | (with_reducible refine RW.isPick ?_; first
            | refine RW.val (Y.pickT rfl rfl) rfl ?_
            | refine RW.val (Y.pickF rfl rfl) rfl ?_)
        | with_reducible refine RW.nil ?_)
    | (with_reducible refine CW.isCW ?_; first
        | with_reducible refine CW.seq ?_
        | with_reducible refine CW.region ?_
        | with_reducible refine CW.block ?_
        | with_reducible refine CW.ret ?_
        | with_reducible refine CW.skip ?_
        | with_reducible refine CW.exit ?_
        | refine CW.condT rfl ?_
        | refine CW.condF rfl ?_
        | (refine CW.condY rfl ?_ ?_; omega)
        | (refine CW.condN rfl ?_ ?_; omega))
    | with_reducible refine thenQ_normal ?_
    | with_reducible refine thenQ_ret ?_
    | with_reducible refine thenQ_exit ?_
    | with_reducible refine blockQ_normal ?_
    | with_reducible refine blockQ_ret ?_
    | with_reducible refine loopQ_ret ?_
    | with_reducible refine loopQ_exit ?_
    | with_reducible refine joinQ_ret ?_
    | with_reducible refine joinQ_exit ?_
    | refine blockQ_exit rfl ?_
    | refine blockQ_past rfl ?_
  (refine RW.call T hs rfl rfl rfl (indexInt_con s l x w h hl hm) ?_; intro v h1 w1 hle1 hp1 hs)
  obtain ⟨k, rfl, hk⟩ := hp1
  repeat
    first
    | (with_reducible refine RW.isRW ?_; first
        | refine RW.val (Y.move rfl) rfl ?_
        | refine RW.val (Y.assign rfl) rfl ?_
        | (with_reducible refine RW.isGuard ?_; first
            | refine RW.guardYes rfl rfl ?_
            | refine RW.guardNo rfl rfl rfl rfl ?_
            | refine RW.guardUndef rfl rfl rfl ?_
            | (refine RW.gdY rfl rfl ?_ ?_; omega)
            | (refine RW.gdN rfl rfl ?_ ?_; omega))
        | (with_reducible refine RW.isBin ?_; first
            | refine RW.val (Y.lss rfl rfl) rfl ?_
            | (refine RW.val (Y.add rfl rfl ?_) rfl ?_; omega)
            | refine RW.val (Y.eql rfl rfl) rfl ?_
            | refine RW.val (Y.neq rfl rfl) rfl ?_
            | refine RW.val (Y.gtr rfl rfl) rfl ?_
            | refine RW.val (Y.geq rfl rfl) rfl ?_
            | refine RW.val (Y.leq rfl rfl) rfl ?_
            | (refine RW.val (Y.sub rfl rfl ?_) rfl ?_; omega)
            | (refine RW.val (Y.quo rfl rfl ?_ ?_) rfl ?_; omega; omega)
            | (refine RW.val (Y.rem rfl rfl ?_ ?_) rfl ?_; omega; omega))
        | (with_reducible refine RW.isLoad ?_; first
            | (refine RW.val (Y.ldInt T hs rfl (by assumption) rfl rfl ?_) rfl ?_; omega)
            | (refine RW.val (Y.ldS T hs rfl (by assumption) rfl rfl ?_ (by assumption)) rfl ?_; omega))
        | (with_reducible refine RW.isIdx ?_; first
            | (refine RW.val (Y.idxSN T rfl rfl (by assumption) rfl rfl rfl ?_) rfl ?_; omega)
            | (refine RW.val (Y.idxS T rfl rfl (by assumption) rfl rfl rfl ?_) rfl ?_; omega))
        | (with_reducible refine RW.isCall ?_; first
            | refine RW.val (Y.len T rfl rfl) rfl ?_
            | refine RW.val (Y.max2 rfl rfl) rfl ?_
            | refine RW.val (Y.min2 rfl rfl) rfl ?_)
        | refine RW.val (Y.extract rfl rfl) rfl ?_
        | (with_reducible refine RW.isUn ?_; first
            | refine RW.val (Y.notD rfl) rfl ?_
            | refine RW.val (Y.not rfl) rfl ?_)
        | (with_reducible refine RW.isPick ?_; first
            | refine RW.val (Y.pickT rfl rfl) rfl ?_
            | refine RW.val (Y.pickF rfl rfl) rfl ?_)
        | with_reducible refine RW.nil ?_)
    | (with_reducible refine CW.isCW ?_; first
        | with_reducible refine CW.seq ?_
        | with_reducible refine CW.region ?_
        | with_reducible refine CW.block ?_
        | with_reducible refine CW.ret ?_
        | with_reducible refine CW.skip ?_
        | with_reducible refine CW.exit ?_
        | refine CW.condT rfl ?_
        | refine CW.condF rfl ?_
        | (refine CW.condY rfl ?_ ?_; omega)
        | (refine CW.condN rfl ?_ ?_; omega))
    | with_reducible refine thenQ_normal ?_
    | with_reducible refine thenQ_ret ?_
    | with_reducible refine thenQ_exit ?_
    | with_reducible refine blockQ_normal ?_
    | with_reducible refine blockQ_ret ?_
    | with_reducible refine loopQ_ret ?_
    | with_reducible refine loopQ_exit ?_
    | with_reducible refine joinQ_ret ?_
    | with_reducible refine joinQ_exit ?_
    | refine blockQ_exit rfl ?_
    | refine blockQ_past rfl ?_
  exact retQ_ret [_] h1 ⟨rfl, trivial⟩ hs (by simp [packv, hk])

theorem product_con (s : Value) (l : List Int) (most : Int) (w : World) (h : GHeap) (hl : IntsAt h s l) (hm : l.length ≤ 9223372036854775807) : Con Try.prog 23 [s, .int .i64 most] w h
    (fun _ v => v = .tuple #[.int .i64 (product l most).1, .int .i64 (product l most).2]) := by
  have hl' := hl
  obtain ⟨ad, cp, rfl, hS⟩ := hl
  refine Con.of_body Try.func23 rfl Try.ntmps23 rfl rfl ?_
  intro hs
  repeat
    first
    | (with_reducible refine RW.isRW ?_; first
        | refine RW.val (Y.move rfl) rfl ?_
        | refine RW.val (Y.assign rfl) rfl ?_
        | (with_reducible refine RW.isGuard ?_; first
            | refine RW.guardYes rfl rfl ?_
            | refine RW.guardNo rfl rfl rfl rfl ?_
            | refine RW.guardUndef rfl rfl rfl ?_
            | (refine RW.gdY rfl rfl ?_ ?_; omega)
            | (refine RW.gdN rfl rfl ?_ ?_; omega))
        | (with_reducible refine RW.isBin ?_; first
            | refine RW.val (Y.lss rfl rfl) rfl ?_
            | (refine RW.val (Y.add rfl rfl ?_) rfl ?_; omega)
            | refine RW.val (Y.eql rfl rfl) rfl ?_
            | refine RW.val (Y.neq rfl rfl) rfl ?_
            | refine RW.val (Y.gtr rfl rfl) rfl ?_
            | refine RW.val (Y.geq rfl rfl) rfl ?_
            | refine RW.val (Y.leq rfl rfl) rfl ?_
            | (refine RW.val (Y.sub rfl rfl ?_) rfl ?_; omega)
            | (refine RW.val (Y.quo rfl rfl ?_ ?_) rfl ?_; omega; omega)
            | (refine RW.val (Y.rem rfl rfl ?_ ?_) rfl ?_; omega; omega))
        | (with_reducible refine RW.isLoad ?_; first
            | (refine RW.val (Y.ldInt T hs rfl (by assumption) rfl rfl ?_) rfl ?_; omega)
            | (refine RW.val (Y.ldS T hs rfl (by assumption) rfl rfl ?_ (by assumption)) rfl ?_; omega))
        | (with_reducible refine RW.isIdx ?_; first
            | (refine RW.val (Y.idxSN T rfl rfl (by assumption) rfl rfl rfl ?_) rfl ?_; omega)
            | (refine RW.val (Y.idxS T rfl rfl (by assumption) rfl rfl rfl ?_) rfl ?_; omega))
        | (with_reducible refine RW.isCall ?_; first
            | refine RW.val (Y.len T rfl rfl) rfl ?_
            | refine RW.val (Y.max2 rfl rfl) rfl ?_
            | refine RW.val (Y.min2 rfl rfl) rfl ?_)
        | refine RW.val (Y.extract rfl rfl) rfl ?_
        | (with_reducible refine RW.isUn ?_; first
            | refine RW.val (Y.notD rfl) rfl ?_
            | refine RW.val (Y.not rfl) rfl ?_)
        | (with_reducible refine RW.isPick ?_; first
            | refine RW.val (Y.pickT rfl rfl) rfl ?_
            | refine RW.val (Y.pickF rfl rfl) rfl ?_)
        | with_reducible refine RW.nil ?_)
    | (with_reducible refine CW.isCW ?_; first
        | with_reducible refine CW.seq ?_
        | with_reducible refine CW.region ?_
        | with_reducible refine CW.block ?_
        | with_reducible refine CW.ret ?_
        | with_reducible refine CW.skip ?_
        | with_reducible refine CW.exit ?_
        | refine CW.condT rfl ?_
        | refine CW.condF rfl ?_
        | (refine CW.condY rfl ?_ ?_; omega)
        | (refine CW.condN rfl ?_ ?_; omega))
    | with_reducible refine thenQ_normal ?_
    | with_reducible refine thenQ_ret ?_
    | with_reducible refine thenQ_exit ?_
    | with_reducible refine blockQ_normal ?_
    | with_reducible refine blockQ_ret ?_
    | with_reducible refine loopQ_ret ?_
    | with_reducible refine loopQ_exit ?_
    | with_reducible refine joinQ_ret ?_
    | with_reducible refine joinQ_exit ?_
    | refine blockQ_exit rfl ?_
    | refine blockQ_past rfl ?_
  refine CW.condD rfl (fun h8 => ?_) (fun h8 => ?_)
  · repeat
      first
      | (with_reducible refine RW.isRW ?_; first
          | refine RW.val (Y.move rfl) rfl ?_
          | refine RW.val (Y.assign rfl) rfl ?_
          | (with_reducible refine RW.isGuard ?_; first
              | refine RW.guardYes rfl rfl ?_
              | refine RW.guardNo rfl rfl rfl rfl ?_
              | refine RW.guardUndef rfl rfl rfl ?_
              | (refine RW.gdY rfl rfl ?_ ?_; omega)
              | (refine RW.gdN rfl rfl ?_ ?_; omega))
          | (with_reducible refine RW.isBin ?_; first
              | refine RW.val (Y.lss rfl rfl) rfl ?_
              | (refine RW.val (Y.add rfl rfl ?_) rfl ?_; omega)
              | refine RW.val (Y.eql rfl rfl) rfl ?_
              | refine RW.val (Y.neq rfl rfl) rfl ?_
              | refine RW.val (Y.gtr rfl rfl) rfl ?_
              | refine RW.val (Y.geq rfl rfl) rfl ?_
              | refine RW.val (Y.leq rfl rfl) rfl ?_
              | (refine RW.val (Y.sub rfl rfl ?_) rfl ?_; omega)
              | (refine RW.val (Y.quo rfl rfl ?_ ?_) rfl ?_; omega; omega)
              | (refine RW.val (Y.rem rfl rfl ?_ ?_) rfl ?_; omega; omega))
          | (with_reducible refine RW.isLoad ?_; first
              | (refine RW.val (Y.ldInt T hs rfl (by assumption) rfl rfl ?_) rfl ?_; omega)
              | (refine RW.val (Y.ldS T hs rfl (by assumption) rfl rfl ?_ (by assumption)) rfl ?_; omega))
          | (with_reducible refine RW.isIdx ?_; first
              | (refine RW.val (Y.idxSN T rfl rfl (by assumption) rfl rfl rfl ?_) rfl ?_; omega)
              | (refine RW.val (Y.idxS T rfl rfl (by assumption) rfl rfl rfl ?_) rfl ?_; omega))
          | (with_reducible refine RW.isCall ?_; first
              | refine RW.val (Y.len T rfl rfl) rfl ?_
              | refine RW.val (Y.max2 rfl rfl) rfl ?_
              | refine RW.val (Y.min2 rfl rfl) rfl ?_)
          | refine RW.val (Y.extract rfl rfl) rfl ?_
          | (with_reducible refine RW.isUn ?_; first
              | refine RW.val (Y.notD rfl) rfl ?_
              | refine RW.val (Y.not rfl) rfl ?_)
          | (with_reducible refine RW.isPick ?_; first
              | refine RW.val (Y.pickT rfl rfl) rfl ?_
              | refine RW.val (Y.pickF rfl rfl) rfl ?_)
          | with_reducible refine RW.nil ?_)
      | (with_reducible refine CW.isCW ?_; first
          | with_reducible refine CW.seq ?_
          | with_reducible refine CW.region ?_
          | with_reducible refine CW.block ?_
          | with_reducible refine CW.ret ?_
          | with_reducible refine CW.skip ?_
          | with_reducible refine CW.exit ?_
          | refine CW.condT rfl ?_
          | refine CW.condF rfl ?_
          | (refine CW.condY rfl ?_ ?_; omega)
          | (refine CW.condN rfl ?_ ?_; omega))
      | with_reducible refine thenQ_normal ?_
      | with_reducible refine thenQ_ret ?_
      | with_reducible refine thenQ_exit ?_
      | with_reducible refine blockQ_normal ?_
      | with_reducible refine blockQ_ret ?_
      | with_reducible refine loopQ_ret ?_
      | with_reducible refine loopQ_exit ?_
      | with_reducible refine joinQ_ret ?_
      | with_reducible refine joinQ_exit ?_
      | refine blockQ_exit rfl ?_
      | refine blockQ_past rfl ?_
    exact retQ_ret [_, _] h ⟨rfl, rfl, trivial⟩ hs (by simp [packv, product, show 8 < l.length from by omega])
  repeat
    first
    | (with_reducible refine RW.isRW ?_; first
        | refine RW.val (Y.move rfl) rfl ?_
        | refine RW.val (Y.assign rfl) rfl ?_
        | (with_reducible refine RW.isGuard ?_; first
            | refine RW.guardYes rfl rfl ?_
            | refine RW.guardNo rfl rfl rfl rfl ?_
            | refine RW.guardUndef rfl rfl rfl ?_
            | (refine RW.gdY rfl rfl ?_ ?_; omega)
            | (refine RW.gdN rfl rfl ?_ ?_; omega))
        | (with_reducible refine RW.isBin ?_; first
            | refine RW.val (Y.lss rfl rfl) rfl ?_
            | (refine RW.val (Y.add rfl rfl ?_) rfl ?_; omega)
            | refine RW.val (Y.eql rfl rfl) rfl ?_
            | refine RW.val (Y.neq rfl rfl) rfl ?_
            | refine RW.val (Y.gtr rfl rfl) rfl ?_
            | refine RW.val (Y.geq rfl rfl) rfl ?_
            | refine RW.val (Y.leq rfl rfl) rfl ?_
            | (refine RW.val (Y.sub rfl rfl ?_) rfl ?_; omega)
            | (refine RW.val (Y.quo rfl rfl ?_ ?_) rfl ?_; omega; omega)
            | (refine RW.val (Y.rem rfl rfl ?_ ?_) rfl ?_; omega; omega))
        | (with_reducible refine RW.isLoad ?_; first
            | (refine RW.val (Y.ldInt T hs rfl (by assumption) rfl rfl ?_) rfl ?_; omega)
            | (refine RW.val (Y.ldS T hs rfl (by assumption) rfl rfl ?_ (by assumption)) rfl ?_; omega))
        | (with_reducible refine RW.isIdx ?_; first
            | (refine RW.val (Y.idxSN T rfl rfl (by assumption) rfl rfl rfl ?_) rfl ?_; omega)
            | (refine RW.val (Y.idxS T rfl rfl (by assumption) rfl rfl rfl ?_) rfl ?_; omega))
        | (with_reducible refine RW.isCall ?_; first
            | refine RW.val (Y.len T rfl rfl) rfl ?_
            | refine RW.val (Y.max2 rfl rfl) rfl ?_
            | refine RW.val (Y.min2 rfl rfl) rfl ?_)
        | refine RW.val (Y.extract rfl rfl) rfl ?_
        | (with_reducible refine RW.isUn ?_; first
            | refine RW.val (Y.notD rfl) rfl ?_
            | refine RW.val (Y.not rfl) rfl ?_)
        | (with_reducible refine RW.isPick ?_; first
            | refine RW.val (Y.pickT rfl rfl) rfl ?_
            | refine RW.val (Y.pickF rfl rfl) rfl ?_)
        | with_reducible refine RW.nil ?_)
    | (with_reducible refine CW.isCW ?_; first
        | with_reducible refine CW.seq ?_
        | with_reducible refine CW.region ?_
        | with_reducible refine CW.block ?_
        | with_reducible refine CW.ret ?_
        | with_reducible refine CW.skip ?_
        | with_reducible refine CW.exit ?_
        | refine CW.condT rfl ?_
        | refine CW.condF rfl ?_
        | (refine CW.condY rfl ?_ ?_; omega)
        | (refine CW.condN rfl ?_ ?_; omega))
    | with_reducible refine thenQ_normal ?_
    | with_reducible refine thenQ_ret ?_
    | with_reducible refine thenQ_exit ?_
    | with_reducible refine blockQ_normal ?_
    | with_reducible refine blockQ_ret ?_
    | with_reducible refine loopQ_ret ?_
    | with_reducible refine loopQ_exit ?_
    | with_reducible refine joinQ_ret ?_
    | with_reducible refine joinQ_exit ?_
    | refine blockQ_exit rfl ?_
    | refine blockQ_past rfl ?_
  refine CW.loop (fun k : Nat => [(0, .slice ad l.length cp), (1, .int .i64 most), (14, .slice ad l.length cp), (15, .int .i64 l.length), (16, .int .i64 k)]) (fun k w' => k ≤ l.length ∧ (∀ j, j < k → 0 ≤ l.getD j 0) ∧ Sees w h h [] w') (fun k => l.length - k) 0 ⟨rfl, rfl, rfl, rfl, rfl, trivial⟩ ⟨by omega, by omega, hs⟩ ?_
  rintro k w' ⟨hk, hno, hs⟩
  by_cases hlt : k < l.length
  · repeat
      first
      | (with_reducible refine RW.isRW ?_; first
          | refine RW.val (Y.move rfl) rfl ?_
          | refine RW.val (Y.assign rfl) rfl ?_
          | (with_reducible refine RW.isGuard ?_; first
              | refine RW.guardYes rfl rfl ?_
              | refine RW.guardNo rfl rfl rfl rfl ?_
              | refine RW.guardUndef rfl rfl rfl ?_
              | (refine RW.gdY rfl rfl ?_ ?_; omega)
              | (refine RW.gdN rfl rfl ?_ ?_; omega))
          | (with_reducible refine RW.isBin ?_; first
              | refine RW.val (Y.lss rfl rfl) rfl ?_
              | (refine RW.val (Y.add rfl rfl ?_) rfl ?_; omega)
              | refine RW.val (Y.eql rfl rfl) rfl ?_
              | refine RW.val (Y.neq rfl rfl) rfl ?_
              | refine RW.val (Y.gtr rfl rfl) rfl ?_
              | refine RW.val (Y.geq rfl rfl) rfl ?_
              | refine RW.val (Y.leq rfl rfl) rfl ?_
              | (refine RW.val (Y.sub rfl rfl ?_) rfl ?_; omega)
              | (refine RW.val (Y.quo rfl rfl ?_ ?_) rfl ?_; omega; omega)
              | (refine RW.val (Y.rem rfl rfl ?_ ?_) rfl ?_; omega; omega))
          | (with_reducible refine RW.isLoad ?_; first
              | (refine RW.val (Y.ldInt T hs rfl (by assumption) rfl rfl ?_) rfl ?_; omega)
              | (refine RW.val (Y.ldS T hs rfl (by assumption) rfl rfl ?_ (by assumption)) rfl ?_; omega))
          | (with_reducible refine RW.isIdx ?_; first
              | (refine RW.val (Y.idxSN T rfl rfl (by assumption) rfl rfl rfl ?_) rfl ?_; omega)
              | (refine RW.val (Y.idxS T rfl rfl (by assumption) rfl rfl rfl ?_) rfl ?_; omega))
          | (with_reducible refine RW.isCall ?_; first
              | refine RW.val (Y.len T rfl rfl) rfl ?_
              | refine RW.val (Y.max2 rfl rfl) rfl ?_
              | refine RW.val (Y.min2 rfl rfl) rfl ?_)
          | refine RW.val (Y.extract rfl rfl) rfl ?_
          | (with_reducible refine RW.isUn ?_; first
              | refine RW.val (Y.notD rfl) rfl ?_
              | refine RW.val (Y.not rfl) rfl ?_)
          | (with_reducible refine RW.isPick ?_; first
              | refine RW.val (Y.pickT rfl rfl) rfl ?_
              | refine RW.val (Y.pickF rfl rfl) rfl ?_)
          | with_reducible refine RW.nil ?_)
      | (with_reducible refine CW.isCW ?_; first
          | with_reducible refine CW.seq ?_
          | with_reducible refine CW.region ?_
          | with_reducible refine CW.block ?_
          | with_reducible refine CW.ret ?_
          | with_reducible refine CW.skip ?_
          | with_reducible refine CW.exit ?_
          | refine CW.condT rfl ?_
          | refine CW.condF rfl ?_
          | (refine CW.condY rfl ?_ ?_; omega)
          | (refine CW.condN rfl ?_ ?_; omega))
      | with_reducible refine thenQ_normal ?_
      | with_reducible refine thenQ_ret ?_
      | with_reducible refine thenQ_exit ?_
      | with_reducible refine blockQ_normal ?_
      | with_reducible refine blockQ_ret ?_
      | with_reducible refine loopQ_ret ?_
      | with_reducible refine loopQ_exit ?_
      | with_reducible refine joinQ_ret ?_
      | with_reducible refine joinQ_exit ?_
      | refine blockQ_exit rfl ?_
      | refine blockQ_past rfl ?_
    refine CW.condD rfl (fun h2 => ?_) (fun h2 => ?_)
    · repeat
        first
        | (with_reducible refine RW.isRW ?_; first
            | refine RW.val (Y.move rfl) rfl ?_
            | refine RW.val (Y.assign rfl) rfl ?_
            | (with_reducible refine RW.isGuard ?_; first
                | refine RW.guardYes rfl rfl ?_
                | refine RW.guardNo rfl rfl rfl rfl ?_
                | refine RW.guardUndef rfl rfl rfl ?_
                | (refine RW.gdY rfl rfl ?_ ?_; omega)
                | (refine RW.gdN rfl rfl ?_ ?_; omega))
            | (with_reducible refine RW.isBin ?_; first
                | refine RW.val (Y.lss rfl rfl) rfl ?_
                | (refine RW.val (Y.add rfl rfl ?_) rfl ?_; omega)
                | refine RW.val (Y.eql rfl rfl) rfl ?_
                | refine RW.val (Y.neq rfl rfl) rfl ?_
                | refine RW.val (Y.gtr rfl rfl) rfl ?_
                | refine RW.val (Y.geq rfl rfl) rfl ?_
                | refine RW.val (Y.leq rfl rfl) rfl ?_
                | (refine RW.val (Y.sub rfl rfl ?_) rfl ?_; omega)
                | (refine RW.val (Y.quo rfl rfl ?_ ?_) rfl ?_; omega; omega)
                | (refine RW.val (Y.rem rfl rfl ?_ ?_) rfl ?_; omega; omega))
            | (with_reducible refine RW.isLoad ?_; first
                | (refine RW.val (Y.ldInt T hs rfl (by assumption) rfl rfl ?_) rfl ?_; omega)
                | (refine RW.val (Y.ldS T hs rfl (by assumption) rfl rfl ?_ (by assumption)) rfl ?_; omega))
            | (with_reducible refine RW.isIdx ?_; first
                | (refine RW.val (Y.idxSN T rfl rfl (by assumption) rfl rfl rfl ?_) rfl ?_; omega)
                | (refine RW.val (Y.idxS T rfl rfl (by assumption) rfl rfl rfl ?_) rfl ?_; omega))
            | (with_reducible refine RW.isCall ?_; first
                | refine RW.val (Y.len T rfl rfl) rfl ?_
                | refine RW.val (Y.max2 rfl rfl) rfl ?_
                | refine RW.val (Y.min2 rfl rfl) rfl ?_)
            | refine RW.val (Y.extract rfl rfl) rfl ?_
            | (with_reducible refine RW.isUn ?_; first
                | refine RW.val (Y.notD rfl) rfl ?_
                | refine RW.val (Y.not rfl) rfl ?_)
            | (with_reducible refine RW.isPick ?_; first
                | refine RW.val (Y.pickT rfl rfl) rfl ?_
                | refine RW.val (Y.pickF rfl rfl) rfl ?_)
            | with_reducible refine RW.nil ?_)
        | (with_reducible refine CW.isCW ?_; first
            | with_reducible refine CW.seq ?_
            | with_reducible refine CW.region ?_
            | with_reducible refine CW.block ?_
            | with_reducible refine CW.ret ?_
            | with_reducible refine CW.skip ?_
            | with_reducible refine CW.exit ?_
            | refine CW.condT rfl ?_
            | refine CW.condF rfl ?_
            | (refine CW.condY rfl ?_ ?_; omega)
            | (refine CW.condN rfl ?_ ?_; omega))
        | with_reducible refine thenQ_normal ?_
        | with_reducible refine thenQ_ret ?_
        | with_reducible refine thenQ_exit ?_
        | with_reducible refine blockQ_normal ?_
        | with_reducible refine blockQ_ret ?_
        | with_reducible refine loopQ_ret ?_
        | with_reducible refine loopQ_exit ?_
        | with_reducible refine joinQ_ret ?_
        | with_reducible refine joinQ_exit ?_
        | refine blockQ_exit rfl ?_
        | refine blockQ_past rfl ?_
      exact retQ_ret [_, _] h ⟨rfl, rfl, trivial⟩ hs (by simp [packv, product_neg l most (by omega) k hlt h2])
    · repeat
        first
        | (with_reducible refine RW.isRW ?_; first
            | refine RW.val (Y.move rfl) rfl ?_
            | refine RW.val (Y.assign rfl) rfl ?_
            | (with_reducible refine RW.isGuard ?_; first
                | refine RW.guardYes rfl rfl ?_
                | refine RW.guardNo rfl rfl rfl rfl ?_
                | refine RW.guardUndef rfl rfl rfl ?_
                | (refine RW.gdY rfl rfl ?_ ?_; omega)
                | (refine RW.gdN rfl rfl ?_ ?_; omega))
            | (with_reducible refine RW.isBin ?_; first
                | refine RW.val (Y.lss rfl rfl) rfl ?_
                | (refine RW.val (Y.add rfl rfl ?_) rfl ?_; omega)
                | refine RW.val (Y.eql rfl rfl) rfl ?_
                | refine RW.val (Y.neq rfl rfl) rfl ?_
                | refine RW.val (Y.gtr rfl rfl) rfl ?_
                | refine RW.val (Y.geq rfl rfl) rfl ?_
                | refine RW.val (Y.leq rfl rfl) rfl ?_
                | (refine RW.val (Y.sub rfl rfl ?_) rfl ?_; omega)
                | (refine RW.val (Y.quo rfl rfl ?_ ?_) rfl ?_; omega; omega)
                | (refine RW.val (Y.rem rfl rfl ?_ ?_) rfl ?_; omega; omega))
            | (with_reducible refine RW.isLoad ?_; first
                | (refine RW.val (Y.ldInt T hs rfl (by assumption) rfl rfl ?_) rfl ?_; omega)
                | (refine RW.val (Y.ldS T hs rfl (by assumption) rfl rfl ?_ (by assumption)) rfl ?_; omega))
            | (with_reducible refine RW.isIdx ?_; first
                | (refine RW.val (Y.idxSN T rfl rfl (by assumption) rfl rfl rfl ?_) rfl ?_; omega)
                | (refine RW.val (Y.idxS T rfl rfl (by assumption) rfl rfl rfl ?_) rfl ?_; omega))
            | (with_reducible refine RW.isCall ?_; first
                | refine RW.val (Y.len T rfl rfl) rfl ?_
                | refine RW.val (Y.max2 rfl rfl) rfl ?_
                | refine RW.val (Y.min2 rfl rfl) rfl ?_)
            | refine RW.val (Y.extract rfl rfl) rfl ?_
            | (with_reducible refine RW.isUn ?_; first
                | refine RW.val (Y.notD rfl) rfl ?_
                | refine RW.val (Y.not rfl) rfl ?_)
            | (with_reducible refine RW.isPick ?_; first
                | refine RW.val (Y.pickT rfl rfl) rfl ?_
                | refine RW.val (Y.pickF rfl rfl) rfl ?_)
            | with_reducible refine RW.nil ?_)
        | (with_reducible refine CW.isCW ?_; first
            | with_reducible refine CW.seq ?_
            | with_reducible refine CW.region ?_
            | with_reducible refine CW.block ?_
            | with_reducible refine CW.ret ?_
            | with_reducible refine CW.skip ?_
            | with_reducible refine CW.exit ?_
            | refine CW.condT rfl ?_
            | refine CW.condF rfl ?_
            | (refine CW.condY rfl ?_ ?_; omega)
            | (refine CW.condN rfl ?_ ?_; omega))
        | with_reducible refine thenQ_normal ?_
        | with_reducible refine thenQ_ret ?_
        | with_reducible refine thenQ_exit ?_
        | with_reducible refine blockQ_normal ?_
        | with_reducible refine blockQ_ret ?_
        | with_reducible refine loopQ_ret ?_
        | with_reducible refine loopQ_exit ?_
        | with_reducible refine joinQ_ret ?_
        | with_reducible refine joinQ_exit ?_
        | refine blockQ_exit rfl ?_
        | refine blockQ_past rfl ?_
      refine loopQ_round (k + 1) ⟨rfl, rfl, rfl, rfl, rfl, trivial⟩ ⟨by omega, ?_, hs⟩ (by omega)
      intro j hj
      by_cases e : j = k
      · subst e; omega
      · exact hno j (by omega)
  obtain rfl : k = l.length := by omega
  have h0 : ∀ d ∈ l, 0 ≤ d := by
    intro d hd
    obtain ⟨j, hj, e⟩ := List.mem_iff_getElem.1 hd
    have := hno j hj
    rw [List.getD_eq_getElem?_getD, List.getElem?_eq_getElem hj] at this
    rw [← e]; exact this
  clear hno hlt hk
  repeat
    first
    | (with_reducible refine RW.isRW ?_; first
        | refine RW.val (Y.move rfl) rfl ?_
        | refine RW.val (Y.assign rfl) rfl ?_
        | (with_reducible refine RW.isGuard ?_; first
            | refine RW.guardYes rfl rfl ?_
            | refine RW.guardNo rfl rfl rfl rfl ?_
            | refine RW.guardUndef rfl rfl rfl ?_
            | (refine RW.gdY rfl rfl ?_ ?_; omega)
            | (refine RW.gdN rfl rfl ?_ ?_; omega))
        | (with_reducible refine RW.isBin ?_; first
            | refine RW.val (Y.lss rfl rfl) rfl ?_
            | (refine RW.val (Y.add rfl rfl ?_) rfl ?_; omega)
            | refine RW.val (Y.eql rfl rfl) rfl ?_
            | refine RW.val (Y.neq rfl rfl) rfl ?_
            | refine RW.val (Y.gtr rfl rfl) rfl ?_
            | refine RW.val (Y.geq rfl rfl) rfl ?_
            | refine RW.val (Y.leq rfl rfl) rfl ?_
            | (refine RW.val (Y.sub rfl rfl ?_) rfl ?_; omega)
            | (refine RW.val (Y.quo rfl rfl ?_ ?_) rfl ?_; omega; omega)
            | (refine RW.val (Y.rem rfl rfl ?_ ?_) rfl ?_; omega; omega))
        | (with_reducible refine RW.isLoad ?_; first
            | (refine RW.val (Y.ldInt T hs rfl (by assumption) rfl rfl ?_) rfl ?_; omega)
            | (refine RW.val (Y.ldS T hs rfl (by assumption) rfl rfl ?_ (by assumption)) rfl ?_; omega))
        | (with_reducible refine RW.isIdx ?_; first
            | (refine RW.val (Y.idxSN T rfl rfl (by assumption) rfl rfl rfl ?_) rfl ?_; omega)
            | (refine RW.val (Y.idxS T rfl rfl (by assumption) rfl rfl rfl ?_) rfl ?_; omega))
        | (with_reducible refine RW.isCall ?_; first
            | refine RW.val (Y.len T rfl rfl) rfl ?_
            | refine RW.val (Y.max2 rfl rfl) rfl ?_
            | refine RW.val (Y.min2 rfl rfl) rfl ?_)
        | refine RW.val (Y.extract rfl rfl) rfl ?_
        | (with_reducible refine RW.isUn ?_; first
            | refine RW.val (Y.notD rfl) rfl ?_
            | refine RW.val (Y.not rfl) rfl ?_)
        | (with_reducible refine RW.isPick ?_; first
            | refine RW.val (Y.pickT rfl rfl) rfl ?_
            | refine RW.val (Y.pickF rfl rfl) rfl ?_)
        | with_reducible refine RW.nil ?_)
    | (with_reducible refine CW.isCW ?_; first
        | with_reducible refine CW.seq ?_
        | with_reducible refine CW.region ?_
        | with_reducible refine CW.block ?_
        | with_reducible refine CW.ret ?_
        | with_reducible refine CW.skip ?_
        | with_reducible refine CW.exit ?_
        | refine CW.condT rfl ?_
        | refine CW.condF rfl ?_
        | (refine CW.condY rfl ?_ ?_; omega)
        | (refine CW.condN rfl ?_ ?_; omega))
    | with_reducible refine thenQ_normal ?_
    | with_reducible refine thenQ_ret ?_
    | with_reducible refine thenQ_exit ?_
    | with_reducible refine blockQ_normal ?_
    | with_reducible refine blockQ_ret ?_
    | with_reducible refine loopQ_ret ?_
    | with_reducible refine loopQ_exit ?_
    | with_reducible refine joinQ_ret ?_
    | with_reducible refine joinQ_exit ?_
    | refine blockQ_exit rfl ?_
    | refine blockQ_past rfl ?_
  refine CW.loop (fun k : Nat => [(0, .slice ad l.length cp), (1, .int .i64 most), (8, .int .i64 (pr (l.take k))), (23, .slice ad l.length cp), (24, .int .i64 l.length), (25, .int .i64 k)]) (fun k w' => k ≤ l.length ∧ pr (l.take k) ≤ 1048576 ∧ Sees w h h [] w') (fun k => l.length - k) 0 ⟨rfl, rfl, rfl, rfl, rfl, rfl, trivial⟩ ⟨by omega, by simp [pr], hs⟩ ?_
  rintro k w' ⟨hk, hle, hs⟩
  have hpos := pr_pos (l.take k)
  by_cases hlt : k < l.length
  · repeat
      first
      | (with_reducible refine RW.isRW ?_; first
          | refine RW.val (Y.move rfl) rfl ?_
          | refine RW.val (Y.assign rfl) rfl ?_
          | (with_reducible refine RW.isGuard ?_; first
              | refine RW.guardYes rfl rfl ?_
              | refine RW.guardNo rfl rfl rfl rfl ?_
              | refine RW.guardUndef rfl rfl rfl ?_
              | (refine RW.gdY rfl rfl ?_ ?_; omega)
              | (refine RW.gdN rfl rfl ?_ ?_; omega))
          | (with_reducible refine RW.isBin ?_; first
              | refine RW.val (Y.lss rfl rfl) rfl ?_
              | (refine RW.val (Y.add rfl rfl ?_) rfl ?_; omega)
              | refine RW.val (Y.eql rfl rfl) rfl ?_
              | refine RW.val (Y.neq rfl rfl) rfl ?_
              | refine RW.val (Y.gtr rfl rfl) rfl ?_
              | refine RW.val (Y.geq rfl rfl) rfl ?_
              | refine RW.val (Y.leq rfl rfl) rfl ?_
              | (refine RW.val (Y.sub rfl rfl ?_) rfl ?_; omega)
              | (refine RW.val (Y.quo rfl rfl ?_ ?_) rfl ?_; omega; omega)
              | (refine RW.val (Y.rem rfl rfl ?_ ?_) rfl ?_; omega; omega))
          | (with_reducible refine RW.isLoad ?_; first
              | (refine RW.val (Y.ldInt T hs rfl (by assumption) rfl rfl ?_) rfl ?_; omega)
              | (refine RW.val (Y.ldS T hs rfl (by assumption) rfl rfl ?_ (by assumption)) rfl ?_; omega))
          | (with_reducible refine RW.isIdx ?_; first
              | (refine RW.val (Y.idxSN T rfl rfl (by assumption) rfl rfl rfl ?_) rfl ?_; omega)
              | (refine RW.val (Y.idxS T rfl rfl (by assumption) rfl rfl rfl ?_) rfl ?_; omega))
          | (with_reducible refine RW.isCall ?_; first
              | refine RW.val (Y.len T rfl rfl) rfl ?_
              | refine RW.val (Y.max2 rfl rfl) rfl ?_
              | refine RW.val (Y.min2 rfl rfl) rfl ?_)
          | refine RW.val (Y.extract rfl rfl) rfl ?_
          | (with_reducible refine RW.isUn ?_; first
              | refine RW.val (Y.notD rfl) rfl ?_
              | refine RW.val (Y.not rfl) rfl ?_)
          | (with_reducible refine RW.isPick ?_; first
              | refine RW.val (Y.pickT rfl rfl) rfl ?_
              | refine RW.val (Y.pickF rfl rfl) rfl ?_)
          | with_reducible refine RW.nil ?_)
      | (with_reducible refine CW.isCW ?_; first
          | with_reducible refine CW.seq ?_
          | with_reducible refine CW.region ?_
          | with_reducible refine CW.block ?_
          | with_reducible refine CW.ret ?_
          | with_reducible refine CW.skip ?_
          | with_reducible refine CW.exit ?_
          | refine CW.condT rfl ?_
          | refine CW.condF rfl ?_
          | (refine CW.condY rfl ?_ ?_; omega)
          | (refine CW.condN rfl ?_ ?_; omega))
      | with_reducible refine thenQ_normal ?_
      | with_reducible refine thenQ_ret ?_
      | with_reducible refine thenQ_exit ?_
      | with_reducible refine blockQ_normal ?_
      | with_reducible refine blockQ_ret ?_
      | with_reducible refine loopQ_ret ?_
      | with_reducible refine loopQ_exit ?_
      | with_reducible refine joinQ_ret ?_
      | with_reducible refine joinQ_exit ?_
      | refine blockQ_exit rfl ?_
      | refine blockQ_past rfl ?_
    refine CW.condD rfl (fun h2 => ?_) (fun h2 => ?_)
    · repeat
        first
        | (with_reducible refine RW.isRW ?_; first
            | refine RW.val (Y.move rfl) rfl ?_
            | refine RW.val (Y.assign rfl) rfl ?_
            | (with_reducible refine RW.isGuard ?_; first
                | refine RW.guardYes rfl rfl ?_
                | refine RW.guardNo rfl rfl rfl rfl ?_
                | refine RW.guardUndef rfl rfl rfl ?_
                | (refine RW.gdY rfl rfl ?_ ?_; omega)
                | (refine RW.gdN rfl rfl ?_ ?_; omega))
            | (with_reducible refine RW.isBin ?_; first
                | refine RW.val (Y.lss rfl rfl) rfl ?_
                | (refine RW.val (Y.add rfl rfl ?_) rfl ?_; omega)
                | refine RW.val (Y.eql rfl rfl) rfl ?_
                | refine RW.val (Y.neq rfl rfl) rfl ?_
                | refine RW.val (Y.gtr rfl rfl) rfl ?_
                | refine RW.val (Y.geq rfl rfl) rfl ?_
                | refine RW.val (Y.leq rfl rfl) rfl ?_
                | (refine RW.val (Y.sub rfl rfl ?_) rfl ?_; omega)
                | (refine RW.val (Y.quo rfl rfl ?_ ?_) rfl ?_; omega; omega)
                | (refine RW.val (Y.rem rfl rfl ?_ ?_) rfl ?_; omega; omega))
            | (with_reducible refine RW.isLoad ?_; first
                | (refine RW.val (Y.ldInt T hs rfl (by assumption) rfl rfl ?_) rfl ?_; omega)
                | (refine RW.val (Y.ldS T hs rfl (by assumption) rfl rfl ?_ (by assumption)) rfl ?_; omega))
            | (with_reducible refine RW.isIdx ?_; first
                | (refine RW.val (Y.idxSN T rfl rfl (by assumption) rfl rfl rfl ?_) rfl ?_; omega)
                | (refine RW.val (Y.idxS T rfl rfl (by assumption) rfl rfl rfl ?_) rfl ?_; omega))
            | (with_reducible refine RW.isCall ?_; first
                | refine RW.val (Y.len T rfl rfl) rfl ?_
                | refine RW.val (Y.max2 rfl rfl) rfl ?_
                | refine RW.val (Y.min2 rfl rfl) rfl ?_)
            | refine RW.val (Y.extract rfl rfl) rfl ?_
            | (with_reducible refine RW.isUn ?_; first
                | refine RW.val (Y.notD rfl) rfl ?_
                | refine RW.val (Y.not rfl) rfl ?_)
            | (with_reducible refine RW.isPick ?_; first
                | refine RW.val (Y.pickT rfl rfl) rfl ?_
                | refine RW.val (Y.pickF rfl rfl) rfl ?_)
            | with_reducible refine RW.nil ?_)
        | (with_reducible refine CW.isCW ?_; first
            | with_reducible refine CW.seq ?_
            | with_reducible refine CW.region ?_
            | with_reducible refine CW.block ?_
            | with_reducible refine CW.ret ?_
            | with_reducible refine CW.skip ?_
            | with_reducible refine CW.exit ?_
            | refine CW.condT rfl ?_
            | refine CW.condF rfl ?_
            | (refine CW.condY rfl ?_ ?_; omega)
            | (refine CW.condN rfl ?_ ?_; omega))
        | with_reducible refine thenQ_normal ?_
        | with_reducible refine thenQ_ret ?_
        | with_reducible refine thenQ_exit ?_
        | with_reducible refine blockQ_normal ?_
        | with_reducible refine blockQ_ret ?_
        | with_reducible refine loopQ_ret ?_
        | with_reducible refine loopQ_exit ?_
        | with_reducible refine joinQ_ret ?_
        | with_reducible refine joinQ_exit ?_
        | refine blockQ_exit rfl ?_
        | refine blockQ_past rfl ?_
      exact retQ_ret [_, _] h ⟨rfl, rfl, trivial⟩ hs (by simp [packv, product_over l most (by omega) h0 k hlt ((lt_div hpos).1 h2)])
    · have hb := bound_step ⟨hpos, hle⟩ (fun e => h2 ((lt_div hpos).2 e))
      repeat
        first
        | (with_reducible refine RW.isRW ?_; first
            | refine RW.val (Y.move rfl) rfl ?_
            | refine RW.val (Y.assign rfl) rfl ?_
            | (with_reducible refine RW.isGuard ?_; first
                | refine RW.guardYes rfl rfl ?_
                | refine RW.guardNo rfl rfl rfl rfl ?_
                | refine RW.guardUndef rfl rfl rfl ?_
                | (refine RW.gdY rfl rfl ?_ ?_; omega)
                | (refine RW.gdN rfl rfl ?_ ?_; omega))
            | (with_reducible refine RW.isBin ?_; first
                | refine RW.val (Y.lss rfl rfl) rfl ?_
                | (refine RW.val (Y.add rfl rfl ?_) rfl ?_; omega)
                | refine RW.val (Y.eql rfl rfl) rfl ?_
                | refine RW.val (Y.neq rfl rfl) rfl ?_
                | refine RW.val (Y.gtr rfl rfl) rfl ?_
                | refine RW.val (Y.geq rfl rfl) rfl ?_
                | refine RW.val (Y.leq rfl rfl) rfl ?_
                | (refine RW.val (Y.sub rfl rfl ?_) rfl ?_; omega)
                | (refine RW.val (Y.quo rfl rfl ?_ ?_) rfl ?_; omega; omega)
                | (refine RW.val (Y.rem rfl rfl ?_ ?_) rfl ?_; omega; omega))
            | (with_reducible refine RW.isLoad ?_; first
                | (refine RW.val (Y.ldInt T hs rfl (by assumption) rfl rfl ?_) rfl ?_; omega)
                | (refine RW.val (Y.ldS T hs rfl (by assumption) rfl rfl ?_ (by assumption)) rfl ?_; omega))
            | (with_reducible refine RW.isIdx ?_; first
                | (refine RW.val (Y.idxSN T rfl rfl (by assumption) rfl rfl rfl ?_) rfl ?_; omega)
                | (refine RW.val (Y.idxS T rfl rfl (by assumption) rfl rfl rfl ?_) rfl ?_; omega))
            | (with_reducible refine RW.isCall ?_; first
                | refine RW.val (Y.len T rfl rfl) rfl ?_
                | refine RW.val (Y.max2 rfl rfl) rfl ?_
                | refine RW.val (Y.min2 rfl rfl) rfl ?_)
            | refine RW.val (Y.extract rfl rfl) rfl ?_
            | (with_reducible refine RW.isUn ?_; first
                | refine RW.val (Y.notD rfl) rfl ?_
                | refine RW.val (Y.not rfl) rfl ?_)
            | (with_reducible refine RW.isPick ?_; first
                | refine RW.val (Y.pickT rfl rfl) rfl ?_
                | refine RW.val (Y.pickF rfl rfl) rfl ?_)
            | with_reducible refine RW.nil ?_)
        | (with_reducible refine CW.isCW ?_; first
            | with_reducible refine CW.seq ?_
            | with_reducible refine CW.region ?_
            | with_reducible refine CW.block ?_
            | with_reducible refine CW.ret ?_
            | with_reducible refine CW.skip ?_
            | with_reducible refine CW.exit ?_
            | refine CW.condT rfl ?_
            | refine CW.condF rfl ?_
            | (refine CW.condY rfl ?_ ?_; omega)
            | (refine CW.condN rfl ?_ ?_; omega))
        | with_reducible refine thenQ_normal ?_
        | with_reducible refine thenQ_ret ?_
        | with_reducible refine thenQ_exit ?_
        | with_reducible refine blockQ_normal ?_
        | with_reducible refine blockQ_ret ?_
        | with_reducible refine loopQ_ret ?_
        | with_reducible refine loopQ_exit ?_
        | with_reducible refine joinQ_ret ?_
        | with_reducible refine joinQ_exit ?_
        | refine blockQ_exit rfl ?_
        | refine blockQ_past rfl ?_
      refine RW.val (Y.mul rfl rfl ?_) rfl ?_
      · omega
      repeat
        first
        | (with_reducible refine RW.isRW ?_; first
            | refine RW.val (Y.move rfl) rfl ?_
            | refine RW.val (Y.assign rfl) rfl ?_
            | (with_reducible refine RW.isGuard ?_; first
                | refine RW.guardYes rfl rfl ?_
                | refine RW.guardNo rfl rfl rfl rfl ?_
                | refine RW.guardUndef rfl rfl rfl ?_
                | (refine RW.gdY rfl rfl ?_ ?_; omega)
                | (refine RW.gdN rfl rfl ?_ ?_; omega))
            | (with_reducible refine RW.isBin ?_; first
                | refine RW.val (Y.lss rfl rfl) rfl ?_
                | (refine RW.val (Y.add rfl rfl ?_) rfl ?_; omega)
                | refine RW.val (Y.eql rfl rfl) rfl ?_
                | refine RW.val (Y.neq rfl rfl) rfl ?_
                | refine RW.val (Y.gtr rfl rfl) rfl ?_
                | refine RW.val (Y.geq rfl rfl) rfl ?_
                | refine RW.val (Y.leq rfl rfl) rfl ?_
                | (refine RW.val (Y.sub rfl rfl ?_) rfl ?_; omega)
                | (refine RW.val (Y.quo rfl rfl ?_ ?_) rfl ?_; omega; omega)
                | (refine RW.val (Y.rem rfl rfl ?_ ?_) rfl ?_; omega; omega))
            | (with_reducible refine RW.isLoad ?_; first
                | (refine RW.val (Y.ldInt T hs rfl (by assumption) rfl rfl ?_) rfl ?_; omega)
                | (refine RW.val (Y.ldS T hs rfl (by assumption) rfl rfl ?_ (by assumption)) rfl ?_; omega))
            | (with_reducible refine RW.isIdx ?_; first
                | (refine RW.val (Y.idxSN T rfl rfl (by assumption) rfl rfl rfl ?_) rfl ?_; omega)
                | (refine RW.val (Y.idxS T rfl rfl (by assumption) rfl rfl rfl ?_) rfl ?_; omega))
            | (with_reducible refine RW.isCall ?_; first
                | refine RW.val (Y.len T rfl rfl) rfl ?_
                | refine RW.val (Y.max2 rfl rfl) rfl ?_
                | refine RW.val (Y.min2 rfl rfl) rfl ?_)
            | refine RW.val (Y.extract rfl rfl) rfl ?_
            | (with_reducible refine RW.isUn ?_; first
                | refine RW.val (Y.notD rfl) rfl ?_
                | refine RW.val (Y.not rfl) rfl ?_)
            | (with_reducible refine RW.isPick ?_; first
                | refine RW.val (Y.pickT rfl rfl) rfl ?_
                | refine RW.val (Y.pickF rfl rfl) rfl ?_)
            | with_reducible refine RW.nil ?_)
        | (with_reducible refine CW.isCW ?_; first
            | with_reducible refine CW.seq ?_
            | with_reducible refine CW.region ?_
            | with_reducible refine CW.block ?_
            | with_reducible refine CW.ret ?_
            | with_reducible refine CW.skip ?_
            | with_reducible refine CW.exit ?_
            | refine CW.condT rfl ?_
            | refine CW.condF rfl ?_
            | (refine CW.condY rfl ?_ ?_; omega)
            | (refine CW.condN rfl ?_ ?_; omega))
        | with_reducible refine thenQ_normal ?_
        | with_reducible refine thenQ_ret ?_
        | with_reducible refine thenQ_exit ?_
        | with_reducible refine blockQ_normal ?_
        | with_reducible refine blockQ_ret ?_
        | with_reducible refine loopQ_ret ?_
        | with_reducible refine loopQ_exit ?_
        | with_reducible refine joinQ_ret ?_
        | with_reducible refine joinQ_exit ?_
        | refine blockQ_exit rfl ?_
        | refine blockQ_past rfl ?_
      rw [← pr_take_succ l k hlt] at hb
      refine loopQ_round (k + 1) ⟨rfl, rfl, by rw [pr_take_succ l k hlt]; rfl, rfl, rfl, rfl, trivial⟩ ⟨by omega, hb.2, hs⟩ (by omega)
  obtain rfl : k = l.length := by omega
  rw [List.take_of_length_le (Nat.le_refl _)] at hle hpos ⊢
  repeat
    first
    | (with_reducible refine RW.isRW ?_; first
        | refine RW.val (Y.move rfl) rfl ?_
        | refine RW.val (Y.assign rfl) rfl ?_
        | (with_reducible refine RW.isGuard ?_; first
            | refine RW.guardYes rfl rfl ?_
            | refine RW.guardNo rfl rfl rfl rfl ?_
            | refine RW.guardUndef rfl rfl rfl ?_
            | (refine RW.gdY rfl rfl ?_ ?_; omega)
            | (refine RW.gdN rfl rfl ?_ ?_; omega))
        | (with_reducible refine RW.isBin ?_; first
            | refine RW.val (Y.lss rfl rfl) rfl ?_
            | (refine RW.val (Y.add rfl rfl ?_) rfl ?_; omega)
            | refine RW.val (Y.eql rfl rfl) rfl ?_
            | refine RW.val (Y.neq rfl rfl) rfl ?_
            | refine RW.val (Y.gtr rfl rfl) rfl ?_
            | refine RW.val (Y.geq rfl rfl) rfl ?_
            | refine RW.val (Y.leq rfl rfl) rfl ?_
            | (refine RW.val (Y.sub rfl rfl ?_) rfl ?_; omega)
            | (refine RW.val (Y.quo rfl rfl ?_ ?_) rfl ?_; omega; omega)
            | (refine RW.val (Y.rem rfl rfl ?_ ?_) rfl ?_; omega; omega))
        | (with_reducible refine RW.isLoad ?_; first
            | (refine RW.val (Y.ldInt T hs rfl (by assumption) rfl rfl ?_) rfl ?_; omega)
            | (refine RW.val (Y.ldS T hs rfl (by assumption) rfl rfl ?_ (by assumption)) rfl ?_; omega))
        | (with_reducible refine RW.isIdx ?_; first
            | (refine RW.val (Y.idxSN T rfl rfl (by assumption) rfl rfl rfl ?_) rfl ?_; omega)
            | (refine RW.val (Y.idxS T rfl rfl (by assumption) rfl rfl rfl ?_) rfl ?_; omega))
        | (with_reducible refine RW.isCall ?_; first
            | refine RW.val (Y.len T rfl rfl) rfl ?_
            | refine RW.val (Y.max2 rfl rfl) rfl ?_
            | refine RW.val (Y.min2 rfl rfl) rfl ?_)
        | refine RW.val (Y.extract rfl rfl) rfl ?_
        | (with_reducible refine RW.isUn ?_; first
            | refine RW.val (Y.notD rfl) rfl ?_
            | refine RW.val (Y.not rfl) rfl ?_)
        | (with_reducible refine RW.isPick ?_; first
            | refine RW.val (Y.pickT rfl rfl) rfl ?_
            | refine RW.val (Y.pickF rfl rfl) rfl ?_)
        | with_reducible refine RW.nil ?_)
    | (with_reducible refine CW.isCW ?_; first
        | with_reducible refine CW.seq ?_
        | with_reducible refine CW.region ?_
        | with_reducible refine CW.block ?_
        | with_reducible refine CW.ret ?_
        | with_reducible refine CW.skip ?_
        | with_reducible refine CW.exit ?_
        | refine CW.condT rfl ?_
        | refine CW.condF rfl ?_
        | (refine CW.condY rfl ?_ ?_; omega)
        | (refine CW.condN rfl ?_ ?_; omega))
    | with_reducible refine thenQ_normal ?_
    | with_reducible refine thenQ_ret ?_
    | with_reducible refine thenQ_exit ?_
    | with_reducible refine blockQ_normal ?_
    | with_reducible refine blockQ_ret ?_
    | with_reducible refine loopQ_ret ?_
    | with_reducible refine loopQ_exit ?_
    | with_reducible refine joinQ_ret ?_
    | with_reducible refine joinQ_exit ?_
    | refine blockQ_exit rfl ?_
    | refine blockQ_past rfl ?_
  (refine RW.call T hs rfl rfl rfl (containsInt_con _ l 0 _ _ hl' hm) ?_; intro v h1 w1 hle1 hp1 hs)
  subst hp1
  repeat
    first
    | (with_reducible refine RW.isRW ?_; first
        | refine RW.val (Y.move rfl) rfl ?_
        | refine RW.val (Y.assign rfl) rfl ?_
        | (with_reducible refine RW.isGuard ?_; first
            | refine RW.guardYes rfl rfl ?_
            | refine RW.guardNo rfl rfl rfl rfl ?_
            | refine RW.guardUndef rfl rfl rfl ?_
            | (refine RW.gdY rfl rfl ?_ ?_; omega)
            | (refine RW.gdN rfl rfl ?_ ?_; omega))
        | (with_reducible refine RW.isBin ?_; first
            | refine RW.val (Y.lss rfl rfl) rfl ?_
            | (refine RW.val (Y.add rfl rfl ?_) rfl ?_; omega)
            | refine RW.val (Y.eql rfl rfl) rfl ?_
            | refine RW.val (Y.neq rfl rfl) rfl ?_
            | refine RW.val (Y.gtr rfl rfl) rfl ?_
            | refine RW.val (Y.geq rfl rfl) rfl ?_
            | refine RW.val (Y.leq rfl rfl) rfl ?_
            | (refine RW.val (Y.sub rfl rfl ?_) rfl ?_; omega)
            | (refine RW.val (Y.quo rfl rfl ?_ ?_) rfl ?_; omega; omega)
            | (refine RW.val (Y.rem rfl rfl ?_ ?_) rfl ?_; omega; omega))
        | (with_reducible refine RW.isLoad ?_; first
            | (refine RW.val (Y.ldInt T hs rfl (by assumption) rfl rfl ?_) rfl ?_; omega)
            | (refine RW.val (Y.ldS T hs rfl (by assumption) rfl rfl ?_ (by assumption)) rfl ?_; omega))
        | (with_reducible refine RW.isIdx ?_; first
            | (refine RW.val (Y.idxSN T rfl rfl (by assumption) rfl rfl rfl ?_) rfl ?_; omega)
            | (refine RW.val (Y.idxS T rfl rfl (by assumption) rfl rfl rfl ?_) rfl ?_; omega))
        | (with_reducible refine RW.isCall ?_; first
            | refine RW.val (Y.len T rfl rfl) rfl ?_
            | refine RW.val (Y.max2 rfl rfl) rfl ?_
            | refine RW.val (Y.min2 rfl rfl) rfl ?_)
        | refine RW.val (Y.extract rfl rfl) rfl ?_
        | (with_reducible refine RW.isUn ?_; first
            | refine RW.val (Y.notD rfl) rfl ?_
            | refine RW.val (Y.not rfl) rfl ?_)
        | (with_reducible refine RW.isPick ?_; first
            | refine RW.val (Y.pickT rfl rfl) rfl ?_
            | refine RW.val (Y.pickF rfl rfl) rfl ?_)
        | with_reducible refine RW.nil ?_)
    | (with_reducible refine CW.isCW ?_; first
        | with_reducible refine CW.seq ?_
        | with_reducible refine CW.region ?_
        | with_reducible refine CW.block ?_
        | with_reducible refine CW.ret ?_
        | with_reducible refine CW.skip ?_
        | with_reducible refine CW.exit ?_
        | refine CW.condT rfl ?_
        | refine CW.condF rfl ?_
        | (refine CW.condY rfl ?_ ?_; omega)
        | (refine CW.condN rfl ?_ ?_; omega))
    | with_reducible refine thenQ_normal ?_
    | with_reducible refine thenQ_ret ?_
    | with_reducible refine thenQ_exit ?_
    | with_reducible refine blockQ_normal ?_
    | with_reducible refine blockQ_ret ?_
    | with_reducible refine loopQ_ret ?_
    | with_reducible refine loopQ_exit ?_
    | with_reducible refine joinQ_ret ?_
    | with_reducible refine joinQ_exit ?_
    | refine blockQ_exit rfl ?_
    | refine blockQ_past rfl ?_
  refine CW.meet (fun _ : Unit => [(0, .slice ad l.length cp), (1, .int .i64 most), (8, .int .i64 (if 0 ∈ l then 0 else pr l))]) (fun _ w' => Sees w h h1 [] w') ?_ ?_
  · repeat
      first
      | (with_reducible refine RW.isRW ?_; first
          | refine RW.val (Y.move rfl) rfl ?_
          | refine RW.val (Y.assign rfl) rfl ?_
          | (with_reducible refine RW.isGuard ?_; first
              | refine RW.guardYes rfl rfl ?_
              | refine RW.guardNo rfl rfl rfl rfl ?_
              | refine RW.guardUndef rfl rfl rfl ?_
              | (refine RW.gdY rfl rfl ?_ ?_; omega)
              | (refine RW.gdN rfl rfl ?_ ?_; omega))
          | (with_reducible refine RW.isBin ?_; first
              | refine RW.val (Y.lss rfl rfl) rfl ?_
              | (refine RW.val (Y.add rfl rfl ?_) rfl ?_; omega)
              | refine RW.val (Y.eql rfl rfl) rfl ?_
              | refine RW.val (Y.neq rfl rfl) rfl ?_
              | refine RW.val (Y.gtr rfl rfl) rfl ?_
              | refine RW.val (Y.geq rfl rfl) rfl ?_
              | refine RW.val (Y.leq rfl rfl) rfl ?_
              | (refine RW.val (Y.sub rfl rfl ?_) rfl ?_; omega)
              | (refine RW.val (Y.quo rfl rfl ?_ ?_) rfl ?_; omega; omega)
              | (refine RW.val (Y.rem rfl rfl ?_ ?_) rfl ?_; omega; omega))
          | (with_reducible refine RW.isLoad ?_; first
              | (refine RW.val (Y.ldInt T hs rfl (by assumption) rfl rfl ?_) rfl ?_; omega)
              | (refine RW.val (Y.ldS T hs rfl (by assumption) rfl rfl ?_ (by assumption)) rfl ?_; omega))
          | (with_reducible refine RW.isIdx ?_; first
              | (refine RW.val (Y.idxSN T rfl rfl (by assumption) rfl rfl rfl ?_) rfl ?_; omega)
              | (refine RW.val (Y.idxS T rfl rfl (by assumption) rfl rfl rfl ?_) rfl ?_; omega))
          | (with_reducible refine RW.isCall ?_; first
              | refine RW.val (Y.len T rfl rfl) rfl ?_
              | refine RW.val (Y.max2 rfl rfl) rfl ?_
              | refine RW.val (Y.min2 rfl rfl) rfl ?_)
          | refine RW.val (Y.extract rfl rfl) rfl ?_
          | (with_reducible refine RW.isUn ?_; first
              | refine RW.val (Y.notD rfl) rfl ?_
              | refine RW.val (Y.not rfl) rfl ?_)
          | (with_reducible refine RW.isPick ?_; first
              | refine RW.val (Y.pickT rfl rfl) rfl ?_
              | refine RW.val (Y.pickF rfl rfl) rfl ?_)
          | with_reducible refine RW.nil ?_)
      | (with_reducible refine CW.isCW ?_; first
          | with_reducible refine CW.seq ?_
          | with_reducible refine CW.region ?_
          | with_reducible refine CW.block ?_
          | with_reducible refine CW.ret ?_
          | with_reducible refine CW.skip ?_
          | with_reducible refine CW.exit ?_
          | refine CW.condT rfl ?_
          | refine CW.condF rfl ?_
          | (refine CW.condY rfl ?_ ?_; omega)
          | (refine CW.condN rfl ?_ ?_; omega))
      | with_reducible refine thenQ_normal ?_
      | with_reducible refine thenQ_ret ?_
      | with_reducible refine thenQ_exit ?_
      | with_reducible refine blockQ_normal ?_
      | with_reducible refine blockQ_ret ?_
      | with_reducible refine loopQ_ret ?_
      | with_reducible refine loopQ_exit ?_
      | with_reducible refine joinQ_ret ?_
      | with_reducible refine joinQ_exit ?_
      | refine blockQ_exit rfl ?_
      | refine blockQ_past rfl ?_
    refine CW.condD rfl (fun h2 => ?_) (fun h2 => ?_)
    · repeat
        first
        | (with_reducible refine RW.isRW ?_; first
            | refine RW.val (Y.move rfl) rfl ?_
            | refine RW.val (Y.assign rfl) rfl ?_
            | (with_reducible refine RW.isGuard ?_; first
                | refine RW.guardYes rfl rfl ?_
                | refine RW.guardNo rfl rfl rfl rfl ?_
                | refine RW.guardUndef rfl rfl rfl ?_
                | (refine RW.gdY rfl rfl ?_ ?_; omega)
                | (refine RW.gdN rfl rfl ?_ ?_; omega))
            | (with_reducible refine RW.isBin ?_; first
                | refine RW.val (Y.lss rfl rfl) rfl ?_
                | (refine RW.val (Y.add rfl rfl ?_) rfl ?_; omega)
                | refine RW.val (Y.eql rfl rfl) rfl ?_
                | refine RW.val (Y.neq rfl rfl) rfl ?_
                | refine RW.val (Y.gtr rfl rfl) rfl ?_
                | refine RW.val (Y.geq rfl rfl) rfl ?_
                | refine RW.val (Y.leq rfl rfl) rfl ?_
                | (refine RW.val (Y.sub rfl rfl ?_) rfl ?_; omega)
                | (refine RW.val (Y.quo rfl rfl ?_ ?_) rfl ?_; omega; omega)
                | (refine RW.val (Y.rem rfl rfl ?_ ?_) rfl ?_; omega; omega))
            | (with_reducible refine RW.isLoad ?_; first
                | (refine RW.val (Y.ldInt T hs rfl (by assumption) rfl rfl ?_) rfl ?_; omega)
                | (refine RW.val (Y.ldS T hs rfl (by assumption) rfl rfl ?_ (by assumption)) rfl ?_; omega))
            | (with_reducible refine RW.isIdx ?_; first
                | (refine RW.val (Y.idxSN T rfl rfl (by assumption) rfl rfl rfl ?_) rfl ?_; omega)
                | (refine RW.val (Y.idxS T rfl rfl (by assumption) rfl rfl rfl ?_) rfl ?_; omega))
            | (with_reducible refine RW.isCall ?_; first
                | refine RW.val (Y.len T rfl rfl) rfl ?_
                | refine RW.val (Y.max2 rfl rfl) rfl ?_
                | refine RW.val (Y.min2 rfl rfl) rfl ?_)
            | refine RW.val (Y.extract rfl rfl) rfl ?_
            | (with_reducible refine RW.isUn ?_; first
                | refine RW.val (Y.notD rfl) rfl ?_
                | refine RW.val (Y.not rfl) rfl ?_)
            | (with_reducible refine RW.isPick ?_; first
                | refine RW.val (Y.pickT rfl rfl) rfl ?_
                | refine RW.val (Y.pickF rfl rfl) rfl ?_)
            | with_reducible refine RW.nil ?_)
        | (with_reducible refine CW.isCW ?_; first
            | with_reducible refine CW.seq ?_
            | with_reducible refine CW.region ?_
            | with_reducible refine CW.block ?_
            | with_reducible refine CW.ret ?_
            | with_reducible refine CW.skip ?_
            | with_reducible refine CW.exit ?_
            | refine CW.condT rfl ?_
            | refine CW.condF rfl ?_
            | (refine CW.condY rfl ?_ ?_; omega)
            | (refine CW.condN rfl ?_ ?_; omega))
        | with_reducible refine thenQ_normal ?_
        | with_reducible refine thenQ_ret ?_
        | with_reducible refine thenQ_exit ?_
        | with_reducible refine blockQ_normal ?_
        | with_reducible refine blockQ_ret ?_
        | with_reducible refine loopQ_ret ?_
        | with_reducible refine loopQ_exit ?_
        | with_reducible refine joinQ_ret ?_
        | with_reducible refine joinQ_exit ?_
        | refine blockQ_exit rfl ?_
        | refine blockQ_past rfl ?_
      exact joinQ_meet () ⟨rfl, rfl, by rw [if_pos h2]; rfl, trivial⟩ hs
    · repeat
        first
        | (with_reducible refine RW.isRW ?_; first
            | refine RW.val (Y.move rfl) rfl ?_
            | refine RW.val (Y.assign rfl) rfl ?_
            | (with_reducible refine RW.isGuard ?_; first
                | refine RW.guardYes rfl rfl ?_
                | refine RW.guardNo rfl rfl rfl rfl ?_
                | refine RW.guardUndef rfl rfl rfl ?_
                | (refine RW.gdY rfl rfl ?_ ?_; omega)
                | (refine RW.gdN rfl rfl ?_ ?_; omega))
            | (with_reducible refine RW.isBin ?_; first
                | refine RW.val (Y.lss rfl rfl) rfl ?_
                | (refine RW.val (Y.add rfl rfl ?_) rfl ?_; omega)
                | refine RW.val (Y.eql rfl rfl) rfl ?_
                | refine RW.val (Y.neq rfl rfl) rfl ?_
                | refine RW.val (Y.gtr rfl rfl) rfl ?_
                | refine RW.val (Y.geq rfl rfl) rfl ?_
                | refine RW.val (Y.leq rfl rfl) rfl ?_
                | (refine RW.val (Y.sub rfl rfl ?_) rfl ?_; omega)
                | (refine RW.val (Y.quo rfl rfl ?_ ?_) rfl ?_; omega; omega)
                | (refine RW.val (Y.rem rfl rfl ?_ ?_) rfl ?_; omega; omega))
            | (with_reducible refine RW.isLoad ?_; first
                | (refine RW.val (Y.ldInt T hs rfl (by assumption) rfl rfl ?_) rfl ?_; omega)
                | (refine RW.val (Y.ldS T hs rfl (by assumption) rfl rfl ?_ (by assumption)) rfl ?_; omega))
            | (with_reducible refine RW.isIdx ?_; first
                | (refine RW.val (Y.idxSN T rfl rfl (by assumption) rfl rfl rfl ?_) rfl ?_; omega)
                | (refine RW.val (Y.idxS T rfl rfl (by assumption) rfl rfl rfl ?_) rfl ?_; omega))
            | (with_reducible refine RW.isCall ?_; first
                | refine RW.val (Y.len T rfl rfl) rfl ?_
                | refine RW.val (Y.max2 rfl rfl) rfl ?_
                | refine RW.val (Y.min2 rfl rfl) rfl ?_)
            | refine RW.val (Y.extract rfl rfl) rfl ?_
            | (with_reducible refine RW.isUn ?_; first
                | refine RW.val (Y.notD rfl) rfl ?_
                | refine RW.val (Y.not rfl) rfl ?_)
            | (with_reducible refine RW.isPick ?_; first
                | refine RW.val (Y.pickT rfl rfl) rfl ?_
                | refine RW.val (Y.pickF rfl rfl) rfl ?_)
            | with_reducible refine RW.nil ?_)
        | (with_reducible refine CW.isCW ?_; first
            | with_reducible refine CW.seq ?_
            | with_reducible refine CW.region ?_
            | with_reducible refine CW.block ?_
            | with_reducible refine CW.ret ?_
            | with_reducible refine CW.skip ?_
            | with_reducible refine CW.exit ?_
            | refine CW.condT rfl ?_
            | refine CW.condF rfl ?_
            | (refine CW.condY rfl ?_ ?_; omega)
            | (refine CW.condN rfl ?_ ?_; omega))
        | with_reducible refine thenQ_normal ?_
        | with_reducible refine thenQ_ret ?_
        | with_reducible refine thenQ_exit ?_
        | with_reducible refine blockQ_normal ?_
        | with_reducible refine blockQ_ret ?_
        | with_reducible refine loopQ_ret ?_
        | with_reducible refine loopQ_exit ?_
        | with_reducible refine joinQ_ret ?_
        | with_reducible refine joinQ_exit ?_
        | refine blockQ_exit rfl ?_
        | refine blockQ_past rfl ?_
      exact joinQ_meet () ⟨rfl, rfl, by rw [if_neg h2]; rfl, trivial⟩ hs
  rintro _ w2 hs
  repeat
    first
    | (with_reducible refine RW.isRW ?_; first
        | refine RW.val (Y.move rfl) rfl ?_
        | refine RW.val (Y.assign rfl) rfl ?_
        | (with_reducible refine RW.isGuard ?_; first
            | refine RW.guardYes rfl rfl ?_
            | refine RW.guardNo rfl rfl rfl rfl ?_
            | refine RW.guardUndef rfl rfl rfl ?_
            | (refine RW.gdY rfl rfl ?_ ?_; omega)
            | (refine RW.gdN rfl rfl ?_ ?_; omega))
        | (with_reducible refine RW.isBin ?_; first
            | refine RW.val (Y.lss rfl rfl) rfl ?_
            | (refine RW.val (Y.add rfl rfl ?_) rfl ?_; omega)
            | refine RW.val (Y.eql rfl rfl) rfl ?_
            | refine RW.val (Y.neq rfl rfl) rfl ?_
            | refine RW.val (Y.gtr rfl rfl) rfl ?_
            | refine RW.val (Y.geq rfl rfl) rfl ?_
            | refine RW.val (Y.leq rfl rfl) rfl ?_
            | (refine RW.val (Y.sub rfl rfl ?_) rfl ?_; omega)
            | (refine RW.val (Y.quo rfl rfl ?_ ?_) rfl ?_; omega; omega)
            | (refine RW.val (Y.rem rfl rfl ?_ ?_) rfl ?_; omega; omega))
        | (with_reducible refine RW.isLoad ?_; first
            | (refine RW.val (Y.ldInt T hs rfl (by assumption) rfl rfl ?_) rfl ?_; omega)
            | (refine RW.val (Y.ldS T hs rfl (by assumption) rfl rfl ?_ (by assumption)) rfl ?_; omega))
        | (with_reducible refine RW.isIdx ?_; first
            | (refine RW.val (Y.idxSN T rfl rfl (by assumption) rfl rfl rfl ?_) rfl ?_; omega)
            | (refine RW.val (Y.idxS T rfl rfl (by assumption) rfl rfl rfl ?_) rfl ?_; omega))
        | (with_reducible refine RW.isCall ?_; first
            | refine RW.val (Y.len T rfl rfl) rfl ?_
            | refine RW.val (Y.max2 rfl rfl) rfl ?_
            | refine RW.val (Y.min2 rfl rfl) rfl ?_)
        | refine RW.val (Y.extract rfl rfl) rfl ?_
        | (with_reducible refine RW.isUn ?_; first
            | refine RW.val (Y.notD rfl) rfl ?_
            | refine RW.val (Y.not rfl) rfl ?_)
        | (with_reducible refine RW.isPick ?_; first
            | refine RW.val (Y.pickT rfl rfl) rfl ?_
            | refine RW.val (Y.pickF rfl rfl) rfl ?_)
        | with_reducible refine RW.nil ?_)
    | (with_reducible refine CW.isCW ?_; first
        | with_reducible refine CW.seq ?_
        | with_reducible refine CW.region ?_
        | with_reducible refine CW.block ?_
        | with_reducible refine CW.ret ?_
        | with_reducible refine CW.skip ?_
        | with_reducible refine CW.exit ?_
        | refine CW.condT rfl ?_
        | refine CW.condF rfl ?_
        | (refine CW.condY rfl ?_ ?_; omega)
        | (refine CW.condN rfl ?_ ?_; omega))
    | with_reducible refine thenQ_normal ?_
    | with_reducible refine thenQ_ret ?_
    | with_reducible refine thenQ_exit ?_
    | with_reducible refine blockQ_normal ?_
    | with_reducible refine blockQ_ret ?_
    | with_reducible refine loopQ_ret ?_
    | with_reducible refine loopQ_exit ?_
    | with_reducible refine joinQ_ret ?_
    | with_reducible refine joinQ_exit ?_
    | refine blockQ_exit rfl ?_
    | refine blockQ_past rfl ?_
  (refine RW.call T hs rfl rfl rfl (within_con _ _ _ _) ?_; intro v h3 w3 hle3 hp3 hs)
  subst hp3
  repeat
    first
    | (with_reducible refine RW.isRW ?_; first
        | refine RW.val (Y.move rfl) rfl ?_
        | refine RW.val (Y.assign rfl) rfl ?_
        | (with_reducible refine RW.isGuard ?_; first
            | refine RW.guardYes rfl rfl ?_
            | refine RW.guardNo rfl rfl rfl rfl ?_
            | refine RW.guardUndef rfl rfl rfl ?_
            | (refine RW.gdY rfl rfl ?_ ?_; omega)
            | (refine RW.gdN rfl rfl ?_ ?_; omega))
        | (with_reducible refine RW.isBin ?_; first
            | refine RW.val (Y.lss rfl rfl) rfl ?_
            | (refine RW.val (Y.add rfl rfl ?_) rfl ?_; omega)
            | refine RW.val (Y.eql rfl rfl) rfl ?_
            | refine RW.val (Y.neq rfl rfl) rfl ?_
            | refine RW.val (Y.gtr rfl rfl) rfl ?_
            | refine RW.val (Y.geq rfl rfl) rfl ?_
            | refine RW.val (Y.leq rfl rfl) rfl ?_
            | (refine RW.val (Y.sub rfl rfl ?_) rfl ?_; omega)
            | (refine RW.val (Y.quo rfl rfl ?_ ?_) rfl ?_; omega; omega)
            | (refine RW.val (Y.rem rfl rfl ?_ ?_) rfl ?_; omega; omega))
        | (with_reducible refine RW.isLoad ?_; first
            | (refine RW.val (Y.ldInt T hs rfl (by assumption) rfl rfl ?_) rfl ?_; omega)
            | (refine RW.val (Y.ldS T hs rfl (by assumption) rfl rfl ?_ (by assumption)) rfl ?_; omega))
        | (with_reducible refine RW.isIdx ?_; first
            | (refine RW.val (Y.idxSN T rfl rfl (by assumption) rfl rfl rfl ?_) rfl ?_; omega)
            | (refine RW.val (Y.idxS T rfl rfl (by assumption) rfl rfl rfl ?_) rfl ?_; omega))
        | (with_reducible refine RW.isCall ?_; first
            | refine RW.val (Y.len T rfl rfl) rfl ?_
            | refine RW.val (Y.max2 rfl rfl) rfl ?_
            | refine RW.val (Y.min2 rfl rfl) rfl ?_)
        | refine RW.val (Y.extract rfl rfl) rfl ?_
        | (with_reducible refine RW.isUn ?_; first
            | refine RW.val (Y.notD rfl) rfl ?_
            | refine RW.val (Y.not rfl) rfl ?_)
        | (with_reducible refine RW.isPick ?_; first
            | refine RW.val (Y.pickT rfl rfl) rfl ?_
            | refine RW.val (Y.pickF rfl rfl) rfl ?_)
        | with_reducible refine RW.nil ?_)
    | (with_reducible refine CW.isCW ?_; first
        | with_reducible refine CW.seq ?_
        | with_reducible refine CW.region ?_
        | with_reducible refine CW.block ?_
        | with_reducible refine CW.ret ?_
        | with_reducible refine CW.skip ?_
        | with_reducible refine CW.exit ?_
        | refine CW.condT rfl ?_
        | refine CW.condF rfl ?_
        | (refine CW.condY rfl ?_ ?_; omega)
        | (refine CW.condN rfl ?_ ?_; omega))
    | with_reducible refine thenQ_normal ?_
    | with_reducible refine thenQ_ret ?_
    | with_reducible refine thenQ_exit ?_
    | with_reducible refine blockQ_normal ?_
    | with_reducible refine blockQ_ret ?_
    | with_reducible refine loopQ_ret ?_
    | with_reducible refine loopQ_exit ?_
    | with_reducible refine joinQ_ret ?_
    | with_reducible refine joinQ_exit ?_
    | refine blockQ_exit rfl ?_
    | refine blockQ_past rfl ?_
  exact retQ_ret [_, _] h3 ⟨rfl, rfl, trivial⟩ hs (by simp [packv, product_in l most (by omega) h0 hle])
end Go.Proofs.Ytdpkioffihebnaa
