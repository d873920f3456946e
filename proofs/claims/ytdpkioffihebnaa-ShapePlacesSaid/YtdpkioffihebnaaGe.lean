/-
  Contracts of the law's own functions of layer 6, fifth part: all indexes in order. No statement is proved here.
-/
import Derived.Test.YtdpkioffihebnaaGa
import Derived.Test.YtdpkioffihebnaaLibM
import Derived.Test.YtdpkioffihebnaaPlainB
namespace Go.Proofs.Ytdpkioffihebnaa
open Go Go.RowKit
attribute [local irreducible] CW RW QW SW HW ConM retM heldQ calmQ elemP thenQ blockQ loopQ joinQ retQ Yields Con Sl

theorem IntsAt.one {h : GHeap} {u : Value} {x : List Int} (hi : IntsAt h u x) : u.oneCell' = true := by
  obtain ⟨ad, cp, rfl, _⟩ := hi; rfl

theorem refAll_con (s : Value) (l : List Int) (most : Nat) (w : World) (h : GHeap) (hl : IntsAt h s l) (hm : l.length ≤ 8) (hmo : most ≤ 100000) (h1m : 1 ≤ most) (hg : goodS l = true) : Con Try.prog 31 [s, .int .i64 most] w h
    (fun h' v => ListsAt h' v (allSpec most l)) := by
  have hl' := hl
  obtain ⟨ad, cp, rfl, hS⟩ := hl
  have hS0 := hS
  have hle : ∀ k, (allSpec most (l.take k)).length ≤ most := by
    intro k
    unfold allSpec
    rcases List.eq_nil_or_concat (l.take k) with e | ⟨a, b, e⟩
    · rw [e]; simpa using h1m
    · rw [e, List.concat_eq_append, List.foldl_append]
      simp only [List.foldl_cons, List.foldl_nil, allStep, List.length_take]
      omega
  refine Con.of_body Try.func31 rfl Try.ntmps31 rfl rfl ?_
  intro hs
  repeat
    first
    | (with_reducible refine RW.isRW ?_; first
        | refine RW.val (Y.move rfl) rfl ?_
        | refine RW.val (Y.assign rfl) rfl ?_
        | (with_reducible refine RW.isGuard ?_; first
            | refine RW.guardYes rfl rfl ?_
            | refine RW.guardNo rfl rfl rfl rfl ?_
            | refine RW.guardUndef rfl rfl rfl ?_
            | (refine RW.gdY rfl rfl ?_ ?_; omega)
            | (refine RW.gdN rfl rfl ?_ ?_; omega))
        | (with_reducible refine RW.isBin ?_; first
            | refine RW.val (Y.lss rfl rfl) rfl ?_
            | (refine RW.val (Y.add rfl rfl ?_) rfl ?_; omega)
            | refine RW.val (Y.eql rfl rfl) rfl ?_
            | refine RW.val (Y.neq rfl rfl) rfl ?_
            | refine RW.val (Y.gtr rfl rfl) rfl ?_
            | refine RW.val (Y.geq rfl rfl) rfl ?_
            | refine RW.val (Y.leq rfl rfl) rfl ?_
            | (refine RW.val (Y.sub rfl rfl ?_) rfl ?_; omega)
            | (refine RW.val (Y.quo rfl rfl ?_ ?_) rfl ?_; omega; omega)
            | (refine RW.val (Y.rem rfl rfl ?_ ?_) rfl ?_; omega; omega))
        | (with_reducible refine RW.isLoad ?_; first
            | (refine RW.val (Y.ldInt T hs rfl (by assumption) rfl rfl ?_) rfl ?_; omega)
            | (refine RW.val (Y.ldS T hs rfl (by assumption) rfl rfl ?_ (by assumption)) rfl ?_; omega))
        | (with_reducible refine RW.isIdx ?_; first
            | (refine RW.val (Y.idxSN T rfl rfl (by assumption) rfl rfl rfl ?_) rfl ?_; omega)
            | (refine RW.val (Y.idxS T rfl rfl (by assumption) rfl rfl rfl ?_) rfl ?_; omega))
        | (with_reducible refine RW.isCall ?_; first
            | refine RW.val (Y.len T rfl rfl) rfl ?_
            | refine RW.val (Y.max2 rfl rfl) rfl ?_
            | refine RW.val (Y.min2 rfl rfl) rfl ?_)
        | refine RW.val (Y.extract rfl rfl) rfl ?_
        | (with_reducible refine RW.isUn ?_; first
            | refine RW.val (Y.notD rfl) rfl ?_
            | refine RW.val (Y.not rfl) rfl ?_)
        | (with_reducible refine RW.isPick ?_; first
            | refine RW.val (Y.pickT rfl rfl) rfl ?_
            | refine RW.val (Y.pickF rfl rfl) rfl ?_)
        | with_reducible refine RW.nil ?_)
    | (with_reducible refine CW.isCW ?_; first
        | with_reducible refine CW.seq ?_
        | with_reducible refine CW.region ?_
        | with_reducible refine CW.block ?_
        | with_reducible refine CW.ret ?_
        | with_reducible refine CW.skip ?_
        | with_reducible refine CW.exit ?_
        | refine CW.condT rfl ?_
        | refine CW.condF rfl ?_
        | (refine CW.condY rfl ?_ ?_; omega)
        | (refine CW.condN rfl ?_ ?_; omega))
    | with_reducible refine thenQ_normal ?_
    | with_reducible refine thenQ_ret ?_
    | with_reducible refine thenQ_exit ?_
    | with_reducible refine blockQ_normal ?_
    | with_reducible refine blockQ_ret ?_
    | with_reducible refine loopQ_ret ?_
    | with_reducible refine loopQ_exit ?_
    | with_reducible refine joinQ_ret ?_
    | with_reducible refine joinQ_exit ?_
    | refine blockQ_exit rfl ?_
    | refine blockQ_past rfl ?_
  (refine RW.lit T hs (vs := []) rfl rfl rfl rfl (by simp [Value.cells]) rfl rfl rfl rfl rfl ?_; intro b1 w1 hs)
  obtain ⟨h1, hle1, hs, hS1⟩ := hs.freeze
  have hI1 : IntsAt h1 (.slice (some ⟨b1, 0, none⟩) 0 0) [] := IntsAt.of_sl hS1
  (refine RW.lit T hs (vs := [.slice (some ⟨b1, 0, none⟩) 0 0]) rfl rfl rfl rfl (by simp [Value.cells]) rfl rfl rfl rfl rfl ?_; intro b2 w2 hs)
  obtain ⟨h2, hle2, hs, hS2⟩ := hs.freeze
  have hL2 : ListsAt h2 (.slice (some ⟨b2, 0, none⟩) 1 1) (allSpec most (l.take 0)) := ⟨_, _, [.slice (some ⟨b1, 0, none⟩) 0 0], rfl, hS2, ⟨hI1.mono hle2, trivial⟩⟩
  have hS := (hS.mono hle1).mono hle2
  have hh2 : GLe h h2 := hle1.trans hle2
  repeat
    first
    | (with_reducible refine RW.isRW ?_; first
        | refine RW.val (Y.move rfl) rfl ?_
        | refine RW.val (Y.assign rfl) rfl ?_
        | (with_reducible refine RW.isGuard ?_; first
            | refine RW.guardYes rfl rfl ?_
            | refine RW.guardNo rfl rfl rfl rfl ?_
            | refine RW.guardUndef rfl rfl rfl ?_
            | (refine RW.gdY rfl rfl ?_ ?_; omega)
            | (refine RW.gdN rfl rfl ?_ ?_; omega))
        | (with_reducible refine RW.isBin ?_; first
            | refine RW.val (Y.lss rfl rfl) rfl ?_
            | (refine RW.val (Y.add rfl rfl ?_) rfl ?_; omega)
            | refine RW.val (Y.eql rfl rfl) rfl ?_
            | refine RW.val (Y.neq rfl rfl) rfl ?_
            | refine RW.val (Y.gtr rfl rfl) rfl ?_
            | refine RW.val (Y.geq rfl rfl) rfl ?_
            | refine RW.val (Y.leq rfl rfl) rfl ?_
            | (refine RW.val (Y.sub rfl rfl ?_) rfl ?_; omega)
            | (refine RW.val (Y.quo rfl rfl ?_ ?_) rfl ?_; omega; omega)
            | (refine RW.val (Y.rem rfl rfl ?_ ?_) rfl ?_; omega; omega))
        | (with_reducible refine RW.isLoad ?_; first
            | (refine RW.val (Y.ldInt T hs rfl (by assumption) rfl rfl ?_) rfl ?_; omega)
            | (refine RW.val (Y.ldS T hs rfl (by assumption) rfl rfl ?_ (by assumption)) rfl ?_; omega))
        | (with_reducible refine RW.isIdx ?_; first
            | (refine RW.val (Y.idxSN T rfl rfl (by assumption) rfl rfl rfl ?_) rfl ?_; omega)
            | (refine RW.val (Y.idxS T rfl rfl (by assumption) rfl rfl rfl ?_) rfl ?_; omega))
        | (with_reducible refine RW.isCall ?_; first
            | refine RW.val (Y.len T rfl rfl) rfl ?_
            | refine RW.val (Y.max2 rfl rfl) rfl ?_
            | refine RW.val (Y.min2 rfl rfl) rfl ?_)
        | refine RW.val (Y.extract rfl rfl) rfl ?_
        | (with_reducible refine RW.isUn ?_; first
            | refine RW.val (Y.notD rfl) rfl ?_
            | refine RW.val (Y.not rfl) rfl ?_)
        | (with_reducible refine RW.isPick ?_; first
            | refine RW.val (Y.pickT rfl rfl) rfl ?_
            | refine RW.val (Y.pickF rfl rfl) rfl ?_)
        | with_reducible refine RW.nil ?_)
    | (with_reducible refine CW.isCW ?_; first
        | with_reducible refine CW.seq ?_
        | with_reducible refine CW.region ?_
        | with_reducible refine CW.block ?_
        | with_reducible refine CW.ret ?_
        | with_reducible refine CW.skip ?_
        | with_reducible refine CW.exit ?_
        | refine CW.condT rfl ?_
        | refine CW.condF rfl ?_
        | (refine CW.condY rfl ?_ ?_; omega)
        | (refine CW.condN rfl ?_ ?_; omega))
    | with_reducible refine thenQ_normal ?_
    | with_reducible refine thenQ_ret ?_
    | with_reducible refine thenQ_exit ?_
    | with_reducible refine blockQ_normal ?_
    | with_reducible refine blockQ_ret ?_
    | with_reducible refine loopQ_ret ?_
    | with_reducible refine loopQ_exit ?_
    | with_reducible refine joinQ_ret ?_
    | with_reducible refine joinQ_exit ?_
    | refine blockQ_exit rfl ?_
    | refine blockQ_past rfl ?_
  refine CW.loop (fun p : Nat × Value × GHeap => [(0, .slice ad l.length cp), (1, .int .i64 most), (5, p.2.1), (6, .int .i64 p.1)]) (fun p w' => p.1 ≤ l.length ∧ GLe h p.2.2 ∧ ListsAt p.2.2 p.2.1 (allSpec most (l.take p.1)) ∧ Sees w h p.2.2 [] w') (fun p => l.length - p.1) (0, _, h2) ⟨rfl, rfl, rfl, rfl, trivial⟩ ⟨by omega, hh2, hL2, hs⟩ ?_
  rintro ⟨k, u, hh⟩ w' ⟨hk, hhh, hL, hs⟩
  dsimp only at hk hhh hL hs ⊢
  have hLL := hL
  obtain ⟨ad5, cp5, us, rfl, hS5, hA5⟩ := hL
  by_cases hlt : k < l.length
  · have hstep := allSpec_take_succ most l k hlt
    have hls := hle k
    have hdk := good_getD l ((goodS_iff l).1 hg) k hlt
    have hxl : ∀ x ∈ allSpec most (l.take k), x.length ≤ 8 := fun x hx => by have := all_len most _ x hx; rw [this, List.length_take]; omega
    have hS := hS0.mono hhh
    generalize allSpec most (l.take k) = ls at *
    have hlu := hA5.length
    repeat
      first
      | (with_reducible refine RW.isRW ?_; first
          | refine RW.val (Y.move rfl) rfl ?_
          | refine RW.val (Y.assign rfl) rfl ?_
          | (with_reducible refine RW.isGuard ?_; first
              | refine RW.guardYes rfl rfl ?_
              | refine RW.guardNo rfl rfl rfl rfl ?_
              | refine RW.guardUndef rfl rfl rfl ?_
              | (refine RW.gdY rfl rfl ?_ ?_; omega)
              | (refine RW.gdN rfl rfl ?_ ?_; omega))
          | (with_reducible refine RW.isBin ?_; first
              | refine RW.val (Y.lss rfl rfl) rfl ?_
              | (refine RW.val (Y.add rfl rfl ?_) rfl ?_; omega)
              | refine RW.val (Y.eql rfl rfl) rfl ?_
              | refine RW.val (Y.neq rfl rfl) rfl ?_
              | refine RW.val (Y.gtr rfl rfl) rfl ?_
              | refine RW.val (Y.geq rfl rfl) rfl ?_
              | refine RW.val (Y.leq rfl rfl) rfl ?_
              | (refine RW.val (Y.sub rfl rfl ?_) rfl ?_; omega)
              | (refine RW.val (Y.quo rfl rfl ?_ ?_) rfl ?_; omega; omega)
              | (refine RW.val (Y.rem rfl rfl ?_ ?_) rfl ?_; omega; omega))
          | (with_reducible refine RW.isLoad ?_; first
              | (refine RW.val (Y.ldInt T hs rfl (by assumption) rfl rfl ?_) rfl ?_; omega)
              | (refine RW.val (Y.ldS T hs rfl (by assumption) rfl rfl ?_ (by assumption)) rfl ?_; omega))
          | (with_reducible refine RW.isIdx ?_; first
              | (refine RW.val (Y.idxSN T rfl rfl (by assumption) rfl rfl rfl ?_) rfl ?_; omega)
              | (refine RW.val (Y.idxS T rfl rfl (by assumption) rfl rfl rfl ?_) rfl ?_; omega))
          | (with_reducible refine RW.isCall ?_; first
              | refine RW.val (Y.len T rfl rfl) rfl ?_
              | refine RW.val (Y.max2 rfl rfl) rfl ?_
              | refine RW.val (Y.min2 rfl rfl) rfl ?_)
          | refine RW.val (Y.extract rfl rfl) rfl ?_
          | (with_reducible refine RW.isUn ?_; first
              | refine RW.val (Y.notD rfl) rfl ?_
              | refine RW.val (Y.not rfl) rfl ?_)
          | (with_reducible refine RW.isPick ?_; first
              | refine RW.val (Y.pickT rfl rfl) rfl ?_
              | refine RW.val (Y.pickF rfl rfl) rfl ?_)
          | with_reducible refine RW.nil ?_)
      | (with_reducible refine CW.isCW ?_; first
          | with_reducible refine CW.seq ?_
          | with_reducible refine CW.region ?_
          | with_reducible refine CW.block ?_
          | with_reducible refine CW.ret ?_
          | with_reducible refine CW.skip ?_
          | with_reducible refine CW.exit ?_
          | refine CW.condT rfl ?_
          | refine CW.condF rfl ?_
          | (refine CW.condY rfl ?_ ?_; omega)
          | (refine CW.condN rfl ?_ ?_; omega))
      | with_reducible refine thenQ_normal ?_
      | with_reducible refine thenQ_ret ?_
      | with_reducible refine thenQ_exit ?_
      | with_reducible refine blockQ_normal ?_
      | with_reducible refine blockQ_ret ?_
      | with_reducible refine loopQ_ret ?_
      | with_reducible refine loopQ_exit ?_
      | with_reducible refine joinQ_ret ?_
      | with_reducible refine joinQ_exit ?_
      | refine blockQ_exit rfl ?_
      | refine blockQ_past rfl ?_
    have hs := hs.nilRow 22 1
    refine CW.loop (fun p : Nat × Option Addr × Nat × List Value × GHeap => [(0, .slice ad l.length cp), (1, .int .i64 most), (5, .slice ad5 ls.length cp5), (6, .int .i64 k), (7, .slice p.2.1 p.2.2.2.1.length p.2.2.1), (8, .int .i64 p.1)]) (fun p w' => p.1 ≤ ls.length ∧ GLe hh p.2.2.2.2 ∧ AllAt (IntsAt p.2.2.2.2) p.2.2.2.1 (((ls.take p.1).flatMap (allRow (l.getD k 0))).take most) ∧ Sees w h p.2.2.2.2 [⟨p.2.1, p.2.2.2.1.length, p.2.2.1, 22, 1, p.2.2.2.1⟩] w') (fun p => ls.length - p.1) (0, none, 0, [], hh) ⟨rfl, rfl, rfl, rfl, rfl, rfl, trivial⟩ ⟨by omega, GLe.refl _, by simp [AllAt], hs⟩ ?_
    rintro ⟨q, ra, rc, vs, h3⟩ w3 ⟨hq, hh3, hA3, hs⟩
    dsimp only at hq hh3 hA3 hs ⊢
    have hvl := hA3.length
    have hvm : vs.length ≤ most := by rw [hvl, List.length_take]; omega
    have hS := hS.mono hh3
    have hS5 := hS5.mono hh3
    have hA5 := hA5.mono (fun _ _ => IntsAt.mono hh3)
    by_cases hgo : q < ls.length ∧ vs.length < most
    · obtain ⟨hq1, hv1⟩ := hgo
      obtain ⟨u5, hu5, hI5⟩ := hA5.get [] q hq1
      rw [take_short _ _ (by omega)] at hA3
      have hX : (ls.take (q + 1)).flatMap (allRow (l.getD k 0)) = (ls.take q).flatMap (allRow (l.getD k 0)) ++ allRow (l.getD k 0) (ls.getD q []) := by
        rw [take_snoc ls q [] hq1, List.flatMap_append]; simp
      have hrow : allRow (l.getD k 0) (ls.getD q []) = (List.range (l.getD k 0).toNat).map fun (j : Nat) => ls.getD q [] ++ [(j : Int)] := rfl
      generalize (ls.take q).flatMap (allRow (l.getD k 0)) = xs at hA3 hX
      have hx5 : (ls.getD q []).length ≤ 8 := hxl _ (by simp [List.getD_eq_getElem?_getD, hq1])
      generalize ls.getD q [] = x5 at hI5 hX hrow hx5
      repeat
        first
        | (with_reducible refine RW.isRW ?_; first
            | refine RW.val (Y.move rfl) rfl ?_
            | refine RW.val (Y.assign rfl) rfl ?_
            | (with_reducible refine RW.isGuard ?_; first
                | refine RW.guardYes rfl rfl ?_
                | refine RW.guardNo rfl rfl rfl rfl ?_
                | refine RW.guardUndef rfl rfl rfl ?_
                | (refine RW.gdY rfl rfl ?_ ?_; omega)
                | (refine RW.gdN rfl rfl ?_ ?_; omega))
            | (with_reducible refine RW.isBin ?_; first
                | refine RW.val (Y.lss rfl rfl) rfl ?_
                | (refine RW.val (Y.add rfl rfl ?_) rfl ?_; omega)
                | refine RW.val (Y.eql rfl rfl) rfl ?_
                | refine RW.val (Y.neq rfl rfl) rfl ?_
                | refine RW.val (Y.gtr rfl rfl) rfl ?_
                | refine RW.val (Y.geq rfl rfl) rfl ?_
                | refine RW.val (Y.leq rfl rfl) rfl ?_
                | (refine RW.val (Y.sub rfl rfl ?_) rfl ?_; omega)
                | (refine RW.val (Y.quo rfl rfl ?_ ?_) rfl ?_; omega; omega)
                | (refine RW.val (Y.rem rfl rfl ?_ ?_) rfl ?_; omega; omega))
            | (with_reducible refine RW.isLoad ?_; first
                | (refine RW.val (Y.ldInt T hs rfl (by assumption) rfl rfl ?_) rfl ?_; omega)
                | (refine RW.val (Y.ldS T hs rfl (by assumption) rfl rfl ?_ (by assumption)) rfl ?_; omega))
            | (with_reducible refine RW.isIdx ?_; first
                | (refine RW.val (Y.idxSN T rfl rfl (by assumption) rfl rfl rfl ?_) rfl ?_; omega)
                | (refine RW.val (Y.idxS T rfl rfl (by assumption) rfl rfl rfl ?_) rfl ?_; omega))
            | (with_reducible refine RW.isCall ?_; first
                | refine RW.val (Y.len T rfl rfl) rfl ?_
                | refine RW.val (Y.max2 rfl rfl) rfl ?_
                | refine RW.val (Y.min2 rfl rfl) rfl ?_)
            | refine RW.val (Y.extract rfl rfl) rfl ?_
            | (with_reducible refine RW.isUn ?_; first
                | refine RW.val (Y.notD rfl) rfl ?_
                | refine RW.val (Y.not rfl) rfl ?_)
            | (with_reducible refine RW.isPick ?_; first
                | refine RW.val (Y.pickT rfl rfl) rfl ?_
                | refine RW.val (Y.pickF rfl rfl) rfl ?_)
            | with_reducible refine RW.nil ?_)
        | (with_reducible refine CW.isCW ?_; first
            | with_reducible refine CW.seq ?_
            | with_reducible refine CW.region ?_
            | with_reducible refine CW.block ?_
            | with_reducible refine CW.ret ?_
            | with_reducible refine CW.skip ?_
            | with_reducible refine CW.exit ?_
            | refine CW.condT rfl ?_
            | refine CW.condF rfl ?_
            | (refine CW.condY rfl ?_ ?_; omega)
            | (refine CW.condN rfl ?_ ?_; omega))
        | with_reducible refine thenQ_normal ?_
        | with_reducible refine thenQ_ret ?_
        | with_reducible refine thenQ_exit ?_
        | with_reducible refine blockQ_normal ?_
        | with_reducible refine blockQ_ret ?_
        | with_reducible refine loopQ_ret ?_
        | with_reducible refine loopQ_exit ?_
        | with_reducible refine joinQ_ret ?_
        | with_reducible refine joinQ_exit ?_
        | refine blockQ_exit rfl ?_
        | refine blockQ_past rfl ?_
      refine CW.loop (fun p : Nat × Option Addr × Nat × List Value × GHeap => [(0, .slice ad l.length cp), (1, .int .i64 most), (5, .slice ad5 ls.length cp5), (6, .int .i64 k), (7, .slice p.2.1 p.2.2.2.1.length p.2.2.1), (8, .int .i64 q), (9, .int .i64 p.1)]) (fun p w' => p.1 ≤ (l.getD k 0).toNat ∧ GLe h3 p.2.2.2.2 ∧ AllAt (IntsAt p.2.2.2.2) p.2.2.2.1 ((xs ++ (List.range p.1).map fun (j : Nat) => x5 ++ [(j : Int)]).take most) ∧ Sees w h p.2.2.2.2 [⟨p.2.1, p.2.2.2.1.length, p.2.2.1, 22, 1, p.2.2.2.1⟩] w') (fun p => (l.getD k 0).toNat - p.1) (0, ra, rc, vs, h3) ⟨rfl, rfl, rfl, rfl, rfl, rfl, rfl, trivial⟩ ⟨by omega, GLe.refl _, by simp; rw [List.take_of_length_le (by have := hA3.length; omega)]; exact hA3, hs⟩ ?_
      rintro ⟨j, rb, rd, ws, h4⟩ w4 ⟨hj, hh4, hA4, hs⟩
      dsimp only at hj hh4 hA4 hs ⊢
      have hwl := hA4.length
      have hwm : ws.length ≤ most := by rw [hwl, List.length_take]; omega
      have hS := hS.mono hh4
      have hS5 := hS5.mono hh4
      have hI5 := hI5.mono hh4
      by_cases hgo2 : (j : Int) < l.getD k 0 ∧ ws.length < most
      · obtain ⟨hj1, hw1⟩ := hgo2
        repeat
          first
          | (with_reducible refine RW.isRW ?_; first
              | refine RW.val (Y.move rfl) rfl ?_
              | refine RW.val (Y.assign rfl) rfl ?_
              | (with_reducible refine RW.isGuard ?_; first
                  | refine RW.guardYes rfl rfl ?_
                  | refine RW.guardNo rfl rfl rfl rfl ?_
                  | refine RW.guardUndef rfl rfl rfl ?_
                  | (refine RW.gdY rfl rfl ?_ ?_; omega)
                  | (refine RW.gdN rfl rfl ?_ ?_; omega))
              | (with_reducible refine RW.isBin ?_; first
                  | refine RW.val (Y.lss rfl rfl) rfl ?_
                  | (refine RW.val (Y.add rfl rfl ?_) rfl ?_; omega)
                  | refine RW.val (Y.eql rfl rfl) rfl ?_
                  | refine RW.val (Y.neq rfl rfl) rfl ?_
                  | refine RW.val (Y.gtr rfl rfl) rfl ?_
                  | refine RW.val (Y.geq rfl rfl) rfl ?_
                  | refine RW.val (Y.leq rfl rfl) rfl ?_
                  | (refine RW.val (Y.sub rfl rfl ?_) rfl ?_; omega)
                  | (refine RW.val (Y.quo rfl rfl ?_ ?_) rfl ?_; omega; omega)
                  | (refine RW.val (Y.rem rfl rfl ?_ ?_) rfl ?_; omega; omega))
              | (with_reducible refine RW.isLoad ?_; first
                  | (refine RW.val (Y.ldInt T hs rfl (by assumption) rfl rfl ?_) rfl ?_; omega)
                  | (refine RW.val (Y.ldS T hs rfl (by assumption) rfl rfl ?_ (by assumption)) rfl ?_; omega))
              | (with_reducible refine RW.isIdx ?_; first
                  | (refine RW.val (Y.idxSN T rfl rfl (by assumption) rfl rfl rfl ?_) rfl ?_; omega)
                  | (refine RW.val (Y.idxS T rfl rfl (by assumption) rfl rfl rfl ?_) rfl ?_; omega))
              | (with_reducible refine RW.isCall ?_; first
                  | refine RW.val (Y.len T rfl rfl) rfl ?_
                  | refine RW.val (Y.max2 rfl rfl) rfl ?_
                  | refine RW.val (Y.min2 rfl rfl) rfl ?_)
              | refine RW.val (Y.extract rfl rfl) rfl ?_
              | (with_reducible refine RW.isUn ?_; first
                  | refine RW.val (Y.notD rfl) rfl ?_
                  | refine RW.val (Y.not rfl) rfl ?_)
              | (with_reducible refine RW.isPick ?_; first
                  | refine RW.val (Y.pickT rfl rfl) rfl ?_
                  | refine RW.val (Y.pickF rfl rfl) rfl ?_)
              | with_reducible refine RW.nil ?_)
          | (with_reducible refine CW.isCW ?_; first
              | with_reducible refine CW.seq ?_
              | with_reducible refine CW.region ?_
              | with_reducible refine CW.block ?_
              | with_reducible refine CW.ret ?_
              | with_reducible refine CW.skip ?_
              | with_reducible refine CW.exit ?_
              | refine CW.condT rfl ?_
              | refine CW.condF rfl ?_
              | (refine CW.condY rfl ?_ ?_; omega)
              | (refine CW.condN rfl ?_ ?_; omega))
          | with_reducible refine thenQ_normal ?_
          | with_reducible refine thenQ_ret ?_
          | with_reducible refine thenQ_exit ?_
          | with_reducible refine blockQ_normal ?_
          | with_reducible refine blockQ_ret ?_
          | with_reducible refine loopQ_ret ?_
          | with_reducible refine loopQ_exit ?_
          | with_reducible refine joinQ_ret ?_
          | with_reducible refine joinQ_exit ?_
          | refine blockQ_exit rfl ?_
          | refine blockQ_past rfl ?_
        rw [take_short _ _ (by omega)] at hA4
        obtain ⟨ad6, cp6, rfl, hS6⟩ := hI5
        (refine RW.lit T hs (vs := []) rfl rfl rfl rfl (by simp [Value.cells]) rfl rfl rfl rfl rfl ?_; intro b5 w5 hs)
        repeat
          first
          | (with_reducible refine RW.isRW ?_; first
              | refine RW.val (Y.move rfl) rfl ?_
              | refine RW.val (Y.assign rfl) rfl ?_
              | (with_reducible refine RW.isGuard ?_; first
                  | refine RW.guardYes rfl rfl ?_
                  | refine RW.guardNo rfl rfl rfl rfl ?_
                  | refine RW.guardUndef rfl rfl rfl ?_
                  | (refine RW.gdY rfl rfl ?_ ?_; omega)
                  | (refine RW.gdN rfl rfl ?_ ?_; omega))
              | (with_reducible refine RW.isBin ?_; first
                  | refine RW.val (Y.lss rfl rfl) rfl ?_
                  | (refine RW.val (Y.add rfl rfl ?_) rfl ?_; omega)
                  | refine RW.val (Y.eql rfl rfl) rfl ?_
                  | refine RW.val (Y.neq rfl rfl) rfl ?_
                  | refine RW.val (Y.gtr rfl rfl) rfl ?_
                  | refine RW.val (Y.geq rfl rfl) rfl ?_
                  | refine RW.val (Y.leq rfl rfl) rfl ?_
                  | (refine RW.val (Y.sub rfl rfl ?_) rfl ?_; omega)
                  | (refine RW.val (Y.quo rfl rfl ?_ ?_) rfl ?_; omega; omega)
                  | (refine RW.val (Y.rem rfl rfl ?_ ?_) rfl ?_; omega; omega))
              | (with_reducible refine RW.isLoad ?_; first
                  | (refine RW.val (Y.ldInt T hs rfl (by assumption) rfl rfl ?_) rfl ?_; omega)
                  | (refine RW.val (Y.ldS T hs rfl (by assumption) rfl rfl ?_ (by assumption)) rfl ?_; omega))
              | (with_reducible refine RW.isIdx ?_; first
                  | (refine RW.val (Y.idxSN T rfl rfl (by assumption) rfl rfl rfl ?_) rfl ?_; omega)
                  | (refine RW.val (Y.idxS T rfl rfl (by assumption) rfl rfl rfl ?_) rfl ?_; omega))
              | (with_reducible refine RW.isCall ?_; first
                  | refine RW.val (Y.len T rfl rfl) rfl ?_
                  | refine RW.val (Y.max2 rfl rfl) rfl ?_
                  | refine RW.val (Y.min2 rfl rfl) rfl ?_)
              | refine RW.val (Y.extract rfl rfl) rfl ?_
              | (with_reducible refine RW.isUn ?_; first
                  | refine RW.val (Y.notD rfl) rfl ?_
                  | refine RW.val (Y.not rfl) rfl ?_)
              | (with_reducible refine RW.isPick ?_; first
                  | refine RW.val (Y.pickT rfl rfl) rfl ?_
                  | refine RW.val (Y.pickF rfl rfl) rfl ?_)
              | with_reducible refine RW.nil ?_)
          | (with_reducible refine CW.isCW ?_; first
              | with_reducible refine CW.seq ?_
              | with_reducible refine CW.region ?_
              | with_reducible refine CW.block ?_
              | with_reducible refine CW.ret ?_
              | with_reducible refine CW.skip ?_
              | with_reducible refine CW.exit ?_
              | refine CW.condT rfl ?_
              | refine CW.condF rfl ?_
              | (refine CW.condY rfl ?_ ?_; omega)
              | (refine CW.condN rfl ?_ ?_; omega))
          | with_reducible refine thenQ_normal ?_
          | with_reducible refine thenQ_ret ?_
          | with_reducible refine thenQ_exit ?_
          | with_reducible refine blockQ_normal ?_
          | with_reducible refine blockQ_ret ?_
          | with_reducible refine loopQ_ret ?_
          | with_reducible refine loopQ_exit ?_
          | with_reducible refine joinQ_ret ?_
          | with_reducible refine joinQ_exit ?_
          | refine blockQ_exit rfl ?_
          | refine blockQ_past rfl ?_
        refine RW.append T hs 0 rfl rfl (m := x5.length) (news := x5.map (Value.int .i64)) rfl rfl rfl rfl rfl rfl (hS6.src hs.agree (one_ints _ _)) (fun e => by subst e; exact hS6.nil0.2) (by dsimp only; omega) (by omega) ?_
        intro ad7 cp7 w7 hs
        repeat
          first
          | (with_reducible refine RW.isRW ?_; first
              | refine RW.val (Y.move rfl) rfl ?_
              | refine RW.val (Y.assign rfl) rfl ?_
              | (with_reducible refine RW.isGuard ?_; first
                  | refine RW.guardYes rfl rfl ?_
                  | refine RW.guardNo rfl rfl rfl rfl ?_
                  | refine RW.guardUndef rfl rfl rfl ?_
                  | (refine RW.gdY rfl rfl ?_ ?_; omega)
                  | (refine RW.gdN rfl rfl ?_ ?_; omega))
              | (with_reducible refine RW.isBin ?_; first
                  | refine RW.val (Y.lss rfl rfl) rfl ?_
                  | (refine RW.val (Y.add rfl rfl ?_) rfl ?_; omega)
                  | refine RW.val (Y.eql rfl rfl) rfl ?_
                  | refine RW.val (Y.neq rfl rfl) rfl ?_
                  | refine RW.val (Y.gtr rfl rfl) rfl ?_
                  | refine RW.val (Y.geq rfl rfl) rfl ?_
                  | refine RW.val (Y.leq rfl rfl) rfl ?_
                  | (refine RW.val (Y.sub rfl rfl ?_) rfl ?_; omega)
                  | (refine RW.val (Y.quo rfl rfl ?_ ?_) rfl ?_; omega; omega)
                  | (refine RW.val (Y.rem rfl rfl ?_ ?_) rfl ?_; omega; omega))
              | (with_reducible refine RW.isLoad ?_; first
                  | (refine RW.val (Y.ldInt T hs rfl (by assumption) rfl rfl ?_) rfl ?_; omega)
                  | (refine RW.val (Y.ldS T hs rfl (by assumption) rfl rfl ?_ (by assumption)) rfl ?_; omega))
              | (with_reducible refine RW.isIdx ?_; first
                  | (refine RW.val (Y.idxSN T rfl rfl (by assumption) rfl rfl rfl ?_) rfl ?_; omega)
                  | (refine RW.val (Y.idxS T rfl rfl (by assumption) rfl rfl rfl ?_) rfl ?_; omega))
              | (with_reducible refine RW.isCall ?_; first
                  | refine RW.val (Y.len T rfl rfl) rfl ?_
                  | refine RW.val (Y.max2 rfl rfl) rfl ?_
                  | refine RW.val (Y.min2 rfl rfl) rfl ?_)
              | refine RW.val (Y.extract rfl rfl) rfl ?_
              | (with_reducible refine RW.isUn ?_; first
                  | refine RW.val (Y.notD rfl) rfl ?_
                  | refine RW.val (Y.not rfl) rfl ?_)
              | (with_reducible refine RW.isPick ?_; first
                  | refine RW.val (Y.pickT rfl rfl) rfl ?_
                  | refine RW.val (Y.pickF rfl rfl) rfl ?_)
              | with_reducible refine RW.nil ?_)
          | (with_reducible refine CW.isCW ?_; first
              | with_reducible refine CW.seq ?_
              | with_reducible refine CW.region ?_
              | with_reducible refine CW.block ?_
              | with_reducible refine CW.ret ?_
              | with_reducible refine CW.skip ?_
              | with_reducible refine CW.exit ?_
              | refine CW.condT rfl ?_
              | refine CW.condF rfl ?_
              | (refine CW.condY rfl ?_ ?_; omega)
              | (refine CW.condN rfl ?_ ?_; omega))
          | with_reducible refine thenQ_normal ?_
          | with_reducible refine thenQ_ret ?_
          | with_reducible refine thenQ_exit ?_
          | with_reducible refine blockQ_normal ?_
          | with_reducible refine blockQ_ret ?_
          | with_reducible refine loopQ_ret ?_
          | with_reducible refine loopQ_exit ?_
          | with_reducible refine joinQ_ret ?_
          | with_reducible refine joinQ_exit ?_
          | refine blockQ_exit rfl ?_
          | refine blockQ_past rfl ?_
        (refine RW.lit T hs (vs := [.int .i64 j]) rfl rfl rfl rfl (by simp [Value.cells]) rfl rfl rfl rfl rfl ?_; intro b8 w8 hs)
        refine RW.append T hs 1 rfl rfl (m := 1) (news := [.int .i64 j]) rfl rfl rfl rfl rfl rfl ⟨rfl, by simp [Value.oneCell'], by simp, fun p hp j u hj => ?_⟩ (by simp) (by dsimp only; omega) (by omega) ?_
        · cases hp
          rw [Addr.add_lit]
          exact hs.rowCell (k := 0) rfl (by simpa [Value.cells] using hj)
        intro ad9 cp9 w9 hs
        replace hs := hs.drop
        obtain ⟨h9, hle9, hs, hS9⟩ := hs.freeze
        have hI9 : IntsAt h9 (.slice ad9 (0 + x5.length + 1) cp9) (x5 ++ [(j : Int)]) := by
          refine IntsAt.of_sl ?_
          rw [List.map_append]; exact hS9
        (refine RW.lit T hs (vs := [.slice ad9 (0 + x5.length + 1) cp9]) rfl rfl rfl rfl (by simp [Value.cells]) rfl rfl rfl rfl rfl ?_; intro b10 w10 hs)
        refine RW.append T hs 1 rfl rfl (m := 1) (news := [.slice ad9 (0 + x5.length + 1) cp9]) rfl rfl rfl rfl rfl rfl ⟨rfl, by simp [Value.oneCell'], by simp, fun p hp j u hj => ?_⟩ (by simp) (by dsimp only; omega) (by omega) ?_
        · cases hp
          rw [Addr.add_lit]
          exact hs.rowCell (k := 0) rfl (by simpa [Value.cells] using hj)
        intro ad11 cp11 w11 hs
        replace hs := hs.drop
        repeat
          first
          | (with_reducible refine RW.isRW ?_; first
              | refine RW.val (Y.move rfl) rfl ?_
              | refine RW.val (Y.assign rfl) rfl ?_
              | (with_reducible refine RW.isGuard ?_; first
                  | refine RW.guardYes rfl rfl ?_
                  | refine RW.guardNo rfl rfl rfl rfl ?_
                  | refine RW.guardUndef rfl rfl rfl ?_
                  | (refine RW.gdY rfl rfl ?_ ?_; omega)
                  | (refine RW.gdN rfl rfl ?_ ?_; omega))
              | (with_reducible refine RW.isBin ?_; first
                  | refine RW.val (Y.lss rfl rfl) rfl ?_
                  | (refine RW.val (Y.add rfl rfl ?_) rfl ?_; omega)
                  | refine RW.val (Y.eql rfl rfl) rfl ?_
                  | refine RW.val (Y.neq rfl rfl) rfl ?_
                  | refine RW.val (Y.gtr rfl rfl) rfl ?_
                  | refine RW.val (Y.geq rfl rfl) rfl ?_
                  | refine RW.val (Y.leq rfl rfl) rfl ?_
                  | (refine RW.val (Y.sub rfl rfl ?_) rfl ?_; omega)
                  | (refine RW.val (Y.quo rfl rfl ?_ ?_) rfl ?_; omega; omega)
                  | (refine RW.val (Y.rem rfl rfl ?_ ?_) rfl ?_; omega; omega))
              | (with_reducible refine RW.isLoad ?_; first
                  | (refine RW.val (Y.ldInt T hs rfl (by assumption) rfl rfl ?_) rfl ?_; omega)
                  | (refine RW.val (Y.ldS T hs rfl (by assumption) rfl rfl ?_ (by assumption)) rfl ?_; omega))
              | (with_reducible refine RW.isIdx ?_; first
                  | (refine RW.val (Y.idxSN T rfl rfl (by assumption) rfl rfl rfl ?_) rfl ?_; omega)
                  | (refine RW.val (Y.idxS T rfl rfl (by assumption) rfl rfl rfl ?_) rfl ?_; omega))
              | (with_reducible refine RW.isCall ?_; first
                  | refine RW.val (Y.len T rfl rfl) rfl ?_
                  | refine RW.val (Y.max2 rfl rfl) rfl ?_
                  | refine RW.val (Y.min2 rfl rfl) rfl ?_)
              | refine RW.val (Y.extract rfl rfl) rfl ?_
              | (with_reducible refine RW.isUn ?_; first
                  | refine RW.val (Y.notD rfl) rfl ?_
                  | refine RW.val (Y.not rfl) rfl ?_)
              | (with_reducible refine RW.isPick ?_; first
                  | refine RW.val (Y.pickT rfl rfl) rfl ?_
                  | refine RW.val (Y.pickF rfl rfl) rfl ?_)
              | with_reducible refine RW.nil ?_)
          | (with_reducible refine CW.isCW ?_; first
              | with_reducible refine CW.seq ?_
              | with_reducible refine CW.region ?_
              | with_reducible refine CW.block ?_
              | with_reducible refine CW.ret ?_
              | with_reducible refine CW.skip ?_
              | with_reducible refine CW.exit ?_
              | refine CW.condT rfl ?_
              | refine CW.condF rfl ?_
              | (refine CW.condY rfl ?_ ?_; omega)
              | (refine CW.condN rfl ?_ ?_; omega))
          | with_reducible refine thenQ_normal ?_
          | with_reducible refine thenQ_ret ?_
          | with_reducible refine thenQ_exit ?_
          | with_reducible refine blockQ_normal ?_
          | with_reducible refine blockQ_ret ?_
          | with_reducible refine loopQ_ret ?_
          | with_reducible refine loopQ_exit ?_
          | with_reducible refine joinQ_ret ?_
          | with_reducible refine joinQ_exit ?_
          | refine blockQ_exit rfl ?_
          | refine blockQ_past rfl ?_
        have e1 : (ws ++ [Value.slice ad9 (0 + x5.length + 1) cp9]).length = ws.length + 1 := by simp
        refine loopQ_round (j + 1, ad11, cp11, ws ++ [.slice ad9 (0 + x5.length + 1) cp9], h9) ⟨rfl, rfl, rfl, rfl, by dsimp only; rw [e1]; rfl, rfl, rfl, trivial⟩ ⟨by dsimp only; omega, hh4.trans hle9, ?_, ?_⟩ (by dsimp only; omega)
        · dsimp only
          rw [List.range_succ, List.map_append, ← List.append_assoc, List.take_of_length_le (by have := hA4.length; simp only [List.length_append, List.length_map, List.length_range, List.length_cons, List.length_nil] at this ⊢; omega)]
          exact (hA4.mono (fun _ _ => IntsAt.mono hle9)).append ⟨hI9, trivial⟩
        · dsimp only
          rw [e1]; exact hs
      · have hfin : (xs ++ (List.range j).map fun (j : Nat) => x5 ++ [(j : Int)]).take most = ((ls.take (q + 1)).flatMap (allRow (l.getD k 0))).take most := by
          rw [hX, hrow]
          by_cases hjd : (j : Int) < l.getD k 0
          · have hnl : ¬ ((xs ++ (List.range j).map fun (j : Nat) => x5 ++ [(j : Int)]).take most).length < most := by rw [← hwl]; exact fun e => hgo2 ⟨hjd, e⟩
            obtain ⟨e, he⟩ : ∃ e, (l.getD k 0).toNat = j + e := ⟨(l.getD k 0).toNat - j, by omega⟩
            rw [he, List.range_add, List.map_append, ← List.append_assoc, take_full _ _ _ hnl]
          · rw [show (l.getD k 0).toNat = j by omega]
        rw [hfin] at hA4
        by_cases hjd : (j : Int) < l.getD k 0
        · have hwn : ¬ ws.length < most := fun e => hgo2 ⟨hjd, e⟩
          repeat
            first
            | (with_reducible refine RW.isRW ?_; first
                | refine RW.val (Y.move rfl) rfl ?_
                | refine RW.val (Y.assign rfl) rfl ?_
                | (with_reducible refine RW.isGuard ?_; first
                    | refine RW.guardYes rfl rfl ?_
                    | refine RW.guardNo rfl rfl rfl rfl ?_
                    | refine RW.guardUndef rfl rfl rfl ?_
                    | (refine RW.gdY rfl rfl ?_ ?_; omega)
                    | (refine RW.gdN rfl rfl ?_ ?_; omega))
                | (with_reducible refine RW.isBin ?_; first
                    | refine RW.val (Y.lss rfl rfl) rfl ?_
                    | (refine RW.val (Y.add rfl rfl ?_) rfl ?_; omega)
                    | refine RW.val (Y.eql rfl rfl) rfl ?_
                    | refine RW.val (Y.neq rfl rfl) rfl ?_
                    | refine RW.val (Y.gtr rfl rfl) rfl ?_
                    | refine RW.val (Y.geq rfl rfl) rfl ?_
                    | refine RW.val (Y.leq rfl rfl) rfl ?_
                    | (refine RW.val (Y.sub rfl rfl ?_) rfl ?_; omega)
                    | (refine RW.val (Y.quo rfl rfl ?_ ?_) rfl ?_; omega; omega)
                    | (refine RW.val (Y.rem rfl rfl ?_ ?_) rfl ?_; omega; omega))
                | (with_reducible refine RW.isLoad ?_; first
                    | (refine RW.val (Y.ldInt T hs rfl (by assumption) rfl rfl ?_) rfl ?_; omega)
                    | (refine RW.val (Y.ldS T hs rfl (by assumption) rfl rfl ?_ (by assumption)) rfl ?_; omega))
                | (with_reducible refine RW.isIdx ?_; first
                    | (refine RW.val (Y.idxSN T rfl rfl (by assumption) rfl rfl rfl ?_) rfl ?_; omega)
                    | (refine RW.val (Y.idxS T rfl rfl (by assumption) rfl rfl rfl ?_) rfl ?_; omega))
                | (with_reducible refine RW.isCall ?_; first
                    | refine RW.val (Y.len T rfl rfl) rfl ?_
                    | refine RW.val (Y.max2 rfl rfl) rfl ?_
                    | refine RW.val (Y.min2 rfl rfl) rfl ?_)
                | refine RW.val (Y.extract rfl rfl) rfl ?_
                | (with_reducible refine RW.isUn ?_; first
                    | refine RW.val (Y.notD rfl) rfl ?_
                    | refine RW.val (Y.not rfl) rfl ?_)
                | (with_reducible refine RW.isPick ?_; first
                    | refine RW.val (Y.pickT rfl rfl) rfl ?_
                    | refine RW.val (Y.pickF rfl rfl) rfl ?_)
                | with_reducible refine RW.nil ?_)
            | (with_reducible refine CW.isCW ?_; first
                | with_reducible refine CW.seq ?_
                | with_reducible refine CW.region ?_
                | with_reducible refine CW.block ?_
                | with_reducible refine CW.ret ?_
                | with_reducible refine CW.skip ?_
                | with_reducible refine CW.exit ?_
                | refine CW.condT rfl ?_
                | refine CW.condF rfl ?_
                | (refine CW.condY rfl ?_ ?_; omega)
                | (refine CW.condN rfl ?_ ?_; omega))
            | with_reducible refine thenQ_normal ?_
            | with_reducible refine thenQ_ret ?_
            | with_reducible refine thenQ_exit ?_
            | with_reducible refine blockQ_normal ?_
            | with_reducible refine blockQ_ret ?_
            | with_reducible refine loopQ_ret ?_
            | with_reducible refine loopQ_exit ?_
            | with_reducible refine joinQ_ret ?_
            | with_reducible refine joinQ_exit ?_
            | refine blockQ_exit rfl ?_
            | refine blockQ_past rfl ?_
          exact loopQ_round (q + 1, rb, rd, ws, h4) ⟨rfl, rfl, rfl, rfl, rfl, rfl, trivial⟩ ⟨by dsimp only; omega, hh3.trans hh4, hA4, hs⟩ (by dsimp only; omega)
        · repeat
            first
            | (with_reducible refine RW.isRW ?_; first
                | refine RW.val (Y.move rfl) rfl ?_
                | refine RW.val (Y.assign rfl) rfl ?_
                | (with_reducible refine RW.isGuard ?_; first
                    | refine RW.guardYes rfl rfl ?_
                    | refine RW.guardNo rfl rfl rfl rfl ?_
                    | refine RW.guardUndef rfl rfl rfl ?_
                    | (refine RW.gdY rfl rfl ?_ ?_; omega)
                    | (refine RW.gdN rfl rfl ?_ ?_; omega))
                | (with_reducible refine RW.isBin ?_; first
                    | refine RW.val (Y.lss rfl rfl) rfl ?_
                    | (refine RW.val (Y.add rfl rfl ?_) rfl ?_; omega)
                    | refine RW.val (Y.eql rfl rfl) rfl ?_
                    | refine RW.val (Y.neq rfl rfl) rfl ?_
                    | refine RW.val (Y.gtr rfl rfl) rfl ?_
                    | refine RW.val (Y.geq rfl rfl) rfl ?_
                    | refine RW.val (Y.leq rfl rfl) rfl ?_
                    | (refine RW.val (Y.sub rfl rfl ?_) rfl ?_; omega)
                    | (refine RW.val (Y.quo rfl rfl ?_ ?_) rfl ?_; omega; omega)
                    | (refine RW.val (Y.rem rfl rfl ?_ ?_) rfl ?_; omega; omega))
                | (with_reducible refine RW.isLoad ?_; first
                    | (refine RW.val (Y.ldInt T hs rfl (by assumption) rfl rfl ?_) rfl ?_; omega)
                    | (refine RW.val (Y.ldS T hs rfl (by assumption) rfl rfl ?_ (by assumption)) rfl ?_; omega))
                | (with_reducible refine RW.isIdx ?_; first
                    | (refine RW.val (Y.idxSN T rfl rfl (by assumption) rfl rfl rfl ?_) rfl ?_; omega)
                    | (refine RW.val (Y.idxS T rfl rfl (by assumption) rfl rfl rfl ?_) rfl ?_; omega))
                | (with_reducible refine RW.isCall ?_; first
                    | refine RW.val (Y.len T rfl rfl) rfl ?_
                    | refine RW.val (Y.max2 rfl rfl) rfl ?_
                    | refine RW.val (Y.min2 rfl rfl) rfl ?_)
                | refine RW.val (Y.extract rfl rfl) rfl ?_
                | (with_reducible refine RW.isUn ?_; first
                    | refine RW.val (Y.notD rfl) rfl ?_
                    | refine RW.val (Y.not rfl) rfl ?_)
                | (with_reducible refine RW.isPick ?_; first
                    | refine RW.val (Y.pickT rfl rfl) rfl ?_
                    | refine RW.val (Y.pickF rfl rfl) rfl ?_)
                | with_reducible refine RW.nil ?_)
            | (with_reducible refine CW.isCW ?_; first
                | with_reducible refine CW.seq ?_
                | with_reducible refine CW.region ?_
                | with_reducible refine CW.block ?_
                | with_reducible refine CW.ret ?_
                | with_reducible refine CW.skip ?_
                | with_reducible refine CW.exit ?_
                | refine CW.condT rfl ?_
                | refine CW.condF rfl ?_
                | (refine CW.condY rfl ?_ ?_; omega)
                | (refine CW.condN rfl ?_ ?_; omega))
            | with_reducible refine thenQ_normal ?_
            | with_reducible refine thenQ_ret ?_
            | with_reducible refine thenQ_exit ?_
            | with_reducible refine blockQ_normal ?_
            | with_reducible refine blockQ_ret ?_
            | with_reducible refine loopQ_ret ?_
            | with_reducible refine loopQ_exit ?_
            | with_reducible refine joinQ_ret ?_
            | with_reducible refine joinQ_exit ?_
            | refine blockQ_exit rfl ?_
            | refine blockQ_past rfl ?_
          exact loopQ_round (q + 1, rb, rd, ws, h4) ⟨rfl, rfl, rfl, rfl, rfl, rfl, trivial⟩ ⟨by dsimp only; omega, hh3.trans hh4, hA4, hs⟩ (by dsimp only; omega)
    · have hfin : ((ls.take q).flatMap (allRow (l.getD k 0))).take most = allSpec most (l.take (k + 1)) := by
        rw [hstep]
        unfold allStep
        by_cases hq1 : q < ls.length
        · have hnl : ¬ (((ls.take q).flatMap (allRow (l.getD k 0))).take most).length < most := by rw [← hvl]; exact fun e => hgo ⟨hq1, e⟩
          have e : ls.flatMap (allRow (l.getD k 0)) = (ls.take q).flatMap (allRow (l.getD k 0)) ++ (ls.drop q).flatMap (allRow (l.getD k 0)) := by rw [← List.flatMap_append, List.take_append_drop]
          rw [e, take_full _ _ _ hnl]
        · rw [List.take_of_length_le (l := ls) (by omega)]
      rw [hfin] at hA3
      obtain ⟨h12, hle12, hs, hS12⟩ := hs.freeze
      have hLn : ListsAt h12 (.slice ra vs.length rc) (allSpec most (l.take (k + 1))) := by
        have hl3 := hA3.length
        refine ⟨ra, rc, vs, by rw [hl3], ?_, hA3.mono (fun _ _ => IntsAt.mono hle12)⟩
        rw [← hl3]; exact hS12
      by_cases hq1 : q < ls.length
      · have hvn : ¬ vs.length < most := fun e => hgo ⟨hq1, e⟩
        repeat
          first
          | (with_reducible refine RW.isRW ?_; first
              | refine RW.val (Y.move rfl) rfl ?_
              | refine RW.val (Y.assign rfl) rfl ?_
              | (with_reducible refine RW.isGuard ?_; first
                  | refine RW.guardYes rfl rfl ?_
                  | refine RW.guardNo rfl rfl rfl rfl ?_
                  | refine RW.guardUndef rfl rfl rfl ?_
                  | (refine RW.gdY rfl rfl ?_ ?_; omega)
                  | (refine RW.gdN rfl rfl ?_ ?_; omega))
              | (with_reducible refine RW.isBin ?_; first
                  | refine RW.val (Y.lss rfl rfl) rfl ?_
                  | (refine RW.val (Y.add rfl rfl ?_) rfl ?_; omega)
                  | refine RW.val (Y.eql rfl rfl) rfl ?_
                  | refine RW.val (Y.neq rfl rfl) rfl ?_
                  | refine RW.val (Y.gtr rfl rfl) rfl ?_
                  | refine RW.val (Y.geq rfl rfl) rfl ?_
                  | refine RW.val (Y.leq rfl rfl) rfl ?_
                  | (refine RW.val (Y.sub rfl rfl ?_) rfl ?_; omega)
                  | (refine RW.val (Y.quo rfl rfl ?_ ?_) rfl ?_; omega; omega)
                  | (refine RW.val (Y.rem rfl rfl ?_ ?_) rfl ?_; omega; omega))
              | (with_reducible refine RW.isLoad ?_; first
                  | (refine RW.val (Y.ldInt T hs rfl (by assumption) rfl rfl ?_) rfl ?_; omega)
                  | (refine RW.val (Y.ldS T hs rfl (by assumption) rfl rfl ?_ (by assumption)) rfl ?_; omega))
              | (with_reducible refine RW.isIdx ?_; first
                  | (refine RW.val (Y.idxSN T rfl rfl (by assumption) rfl rfl rfl ?_) rfl ?_; omega)
                  | (refine RW.val (Y.idxS T rfl rfl (by assumption) rfl rfl rfl ?_) rfl ?_; omega))
              | (with_reducible refine RW.isCall ?_; first
                  | refine RW.val (Y.len T rfl rfl) rfl ?_
                  | refine RW.val (Y.max2 rfl rfl) rfl ?_
                  | refine RW.val (Y.min2 rfl rfl) rfl ?_)
              | refine RW.val (Y.extract rfl rfl) rfl ?_
              | (with_reducible refine RW.isUn ?_; first
                  | refine RW.val (Y.notD rfl) rfl ?_
                  | refine RW.val (Y.not rfl) rfl ?_)
              | (with_reducible refine RW.isPick ?_; first
                  | refine RW.val (Y.pickT rfl rfl) rfl ?_
                  | refine RW.val (Y.pickF rfl rfl) rfl ?_)
              | with_reducible refine RW.nil ?_)
          | (with_reducible refine CW.isCW ?_; first
              | with_reducible refine CW.seq ?_
              | with_reducible refine CW.region ?_
              | with_reducible refine CW.block ?_
              | with_reducible refine CW.ret ?_
              | with_reducible refine CW.skip ?_
              | with_reducible refine CW.exit ?_
              | refine CW.condT rfl ?_
              | refine CW.condF rfl ?_
              | (refine CW.condY rfl ?_ ?_; omega)
              | (refine CW.condN rfl ?_ ?_; omega))
          | with_reducible refine thenQ_normal ?_
          | with_reducible refine thenQ_ret ?_
          | with_reducible refine thenQ_exit ?_
          | with_reducible refine blockQ_normal ?_
          | with_reducible refine blockQ_ret ?_
          | with_reducible refine loopQ_ret ?_
          | with_reducible refine loopQ_exit ?_
          | with_reducible refine joinQ_ret ?_
          | with_reducible refine joinQ_exit ?_
          | refine blockQ_exit rfl ?_
          | refine blockQ_past rfl ?_
        exact loopQ_round (k + 1, _, h12) ⟨rfl, rfl, rfl, rfl, trivial⟩ ⟨by dsimp only; omega, (hhh.trans hh3).trans hle12, hLn, hs⟩ (by dsimp only; omega)
      · repeat
          first
          | (with_reducible refine RW.isRW ?_; first
              | refine RW.val (Y.move rfl) rfl ?_
              | refine RW.val (Y.assign rfl) rfl ?_
              | (with_reducible refine RW.isGuard ?_; first
                  | refine RW.guardYes rfl rfl ?_
                  | refine RW.guardNo rfl rfl rfl rfl ?_
                  | refine RW.guardUndef rfl rfl rfl ?_
                  | (refine RW.gdY rfl rfl ?_ ?_; omega)
                  | (refine RW.gdN rfl rfl ?_ ?_; omega))
              | (with_reducible refine RW.isBin ?_; first
                  | refine RW.val (Y.lss rfl rfl) rfl ?_
                  | (refine RW.val (Y.add rfl rfl ?_) rfl ?_; omega)
                  | refine RW.val (Y.eql rfl rfl) rfl ?_
                  | refine RW.val (Y.neq rfl rfl) rfl ?_
                  | refine RW.val (Y.gtr rfl rfl) rfl ?_
                  | refine RW.val (Y.geq rfl rfl) rfl ?_
                  | refine RW.val (Y.leq rfl rfl) rfl ?_
                  | (refine RW.val (Y.sub rfl rfl ?_) rfl ?_; omega)
                  | (refine RW.val (Y.quo rfl rfl ?_ ?_) rfl ?_; omega; omega)
                  | (refine RW.val (Y.rem rfl rfl ?_ ?_) rfl ?_; omega; omega))
              | (with_reducible refine RW.isLoad ?_; first
                  | (refine RW.val (Y.ldInt T hs rfl (by assumption) rfl rfl ?_) rfl ?_; omega)
                  | (refine RW.val (Y.ldS T hs rfl (by assumption) rfl rfl ?_ (by assumption)) rfl ?_; omega))
              | (with_reducible refine RW.isIdx ?_; first
                  | (refine RW.val (Y.idxSN T rfl rfl (by assumption) rfl rfl rfl ?_) rfl ?_; omega)
                  | (refine RW.val (Y.idxS T rfl rfl (by assumption) rfl rfl rfl ?_) rfl ?_; omega))
              | (with_reducible refine RW.isCall ?_; first
                  | refine RW.val (Y.len T rfl rfl) rfl ?_
                  | refine RW.val (Y.max2 rfl rfl) rfl ?_
                  | refine RW.val (Y.min2 rfl rfl) rfl ?_)
              | refine RW.val (Y.extract rfl rfl) rfl ?_
              | (with_reducible refine RW.isUn ?_; first
                  | refine RW.val (Y.notD rfl) rfl ?_
                  | refine RW.val (Y.not rfl) rfl ?_)
              | (with_reducible refine RW.isPick ?_; first
                  | refine RW.val (Y.pickT rfl rfl) rfl ?_
                  | refine RW.val (Y.pickF rfl rfl) rfl ?_)
              | with_reducible refine RW.nil ?_)
          | (with_reducible refine CW.isCW ?_; first
              | with_reducible refine CW.seq ?_
              | with_reducible refine CW.region ?_
              | with_reducible refine CW.block ?_
              | with_reducible refine CW.ret ?_
              | with_reducible refine CW.skip ?_
              | with_reducible refine CW.exit ?_
              | refine CW.condT rfl ?_
              | refine CW.condF rfl ?_
              | (refine CW.condY rfl ?_ ?_; omega)
              | (refine CW.condN rfl ?_ ?_; omega))
          | with_reducible refine thenQ_normal ?_
          | with_reducible refine thenQ_ret ?_
          | with_reducible refine thenQ_exit ?_
          | with_reducible refine blockQ_normal ?_
          | with_reducible refine blockQ_ret ?_
          | with_reducible refine loopQ_ret ?_
          | with_reducible refine loopQ_exit ?_
          | with_reducible refine joinQ_ret ?_
          | with_reducible refine joinQ_exit ?_
          | refine blockQ_exit rfl ?_
          | refine blockQ_past rfl ?_
        exact loopQ_round (k + 1, _, h12) ⟨rfl, rfl, rfl, rfl, trivial⟩ ⟨by dsimp only; omega, (hhh.trans hh3).trans hle12, hLn, hs⟩ (by dsimp only; omega)
  · obtain rfl : k = l.length := by omega
    repeat
      first
      | (with_reducible refine RW.isRW ?_; first
          | refine RW.val (Y.move rfl) rfl ?_
          | refine RW.val (Y.assign rfl) rfl ?_
          | (with_reducible refine RW.isGuard ?_; first
              | refine RW.guardYes rfl rfl ?_
              | refine RW.guardNo rfl rfl rfl rfl ?_
              | refine RW.guardUndef rfl rfl rfl ?_
              | (refine RW.gdY rfl rfl ?_ ?_; omega)
              | (refine RW.gdN rfl rfl ?_ ?_; omega))
          | (with_reducible refine RW.isBin ?_; first
              | refine RW.val (Y.lss rfl rfl) rfl ?_
              | (refine RW.val (Y.add rfl rfl ?_) rfl ?_; omega)
              | refine RW.val (Y.eql rfl rfl) rfl ?_
              | refine RW.val (Y.neq rfl rfl) rfl ?_
              | refine RW.val (Y.gtr rfl rfl) rfl ?_
              | refine RW.val (Y.geq rfl rfl) rfl ?_
              | refine RW.val (Y.leq rfl rfl) rfl ?_
              | (refine RW.val (Y.sub rfl rfl ?_) rfl ?_; omega)
              | (refine RW.val (Y.quo rfl rfl ?_ ?_) rfl ?_; omega; omega)
              | (refine RW.val (Y.rem rfl rfl ?_ ?_) rfl ?_; omega; omega))
          | (with_reducible refine RW.isLoad ?_; first
              | (refine RW.val (Y.ldInt T hs rfl (by assumption) rfl rfl ?_) rfl ?_; omega)
              | (refine RW.val (Y.ldS T hs rfl (by assumption) rfl rfl ?_ (by assumption)) rfl ?_; omega))
          | (with_reducible refine RW.isIdx ?_; first
              | (refine RW.val (Y.idxSN T rfl rfl (by assumption) rfl rfl rfl ?_) rfl ?_; omega)
              | (refine RW.val (Y.idxS T rfl rfl (by assumption) rfl rfl rfl ?_) rfl ?_; omega))
          | (with_reducible refine RW.isCall ?_; first
              | refine RW.val (Y.len T rfl rfl) rfl ?_
              | refine RW.val (Y.max2 rfl rfl) rfl ?_
              | refine RW.val (Y.min2 rfl rfl) rfl ?_)
          | refine RW.val (Y.extract rfl rfl) rfl ?_
          | (with_reducible refine RW.isUn ?_; first
              | refine RW.val (Y.notD rfl) rfl ?_
              | refine RW.val (Y.not rfl) rfl ?_)
          | (with_reducible refine RW.isPick ?_; first
              | refine RW.val (Y.pickT rfl rfl) rfl ?_
              | refine RW.val (Y.pickF rfl rfl) rfl ?_)
          | with_reducible refine RW.nil ?_)
      | (with_reducible refine CW.isCW ?_; first
          | with_reducible refine CW.seq ?_
          | with_reducible refine CW.region ?_
          | with_reducible refine CW.block ?_
          | with_reducible refine CW.ret ?_
          | with_reducible refine CW.skip ?_
          | with_reducible refine CW.exit ?_
          | refine CW.condT rfl ?_
          | refine CW.condF rfl ?_
          | (refine CW.condY rfl ?_ ?_; omega)
          | (refine CW.condN rfl ?_ ?_; omega))
      | with_reducible refine thenQ_normal ?_
      | with_reducible refine thenQ_ret ?_
      | with_reducible refine thenQ_exit ?_
      | with_reducible refine blockQ_normal ?_
      | with_reducible refine blockQ_ret ?_
      | with_reducible refine loopQ_ret ?_
      | with_reducible refine loopQ_exit ?_
      | with_reducible refine joinQ_ret ?_
      | with_reducible refine joinQ_exit ?_
      | refine blockQ_exit rfl ?_
      | refine blockQ_past rfl ?_
    refine retQ_ret [_] hh ⟨rfl, trivial⟩ hs ?_
    rw [show allSpec most l = allSpec most (l.take l.length) by rw [List.take_length]]
    exact hLL
end Go.Proofs.Ytdpkioffihebnaa
