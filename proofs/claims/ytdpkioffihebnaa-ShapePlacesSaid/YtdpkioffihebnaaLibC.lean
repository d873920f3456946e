/-
  The program logic, third part: what each operation comes to. No statement is proved here.
-/
import Derived.Test.YtdpkioffihebnaaLibB
import Derived.IntWalk
namespace Go.Proofs.Ytdpkioffihebnaa
open Go Go.RowKit

section
variable {P : Program} {n : Nat} {L : Env} {w : World} {ty : TypeId} {x y c : Operand} {t yt : TypeId}

/-! ## Moves, bools -/
theorem Y.move {v : Value} (hx : opv L x = some v) : Yields P n L w (.move x) ty v := by
  intro a ha d pos aft g; simp only [execOp, ha.eval hx]; rfl
theorem Y.assign {v : Value} (hx : opv L x = some v) : Yields P n L w (.assign x) ty v := by
  intro a ha d pos aft g; simp only [execOp, ha.eval hx]; rfl
theorem Y.pickT {v : Value} (hc : opv L c = some (.bool true)) (hx : opv L x = some v) : Yields P n L w (.pick c x y) ty v := by
  intro a ha d pos aft g; simp only [execOp, ha.eval hx, ha.eval hc]; rfl
theorem Y.pickF {v : Value} (hc : opv L c = some (.bool false)) (hy : opv L y = some v) : Yields P n L w (.pick c x y) ty v := by
  intro a ha d pos aft g; simp only [execOp, ha.eval hy, ha.eval hc]; rfl
theorem Y.not {b : Bool} (hx : opv L x = some (.bool b)) : Yields P n L w (.unOp .not t x) ty (.bool !b) := by
  intro a ha d pos aft g; simp only [execOp, ha.eval hx]; rfl
theorem Y.notD {p : Prop} [Decidable p] (hx : opv L x = some (.bool (decide p))) : Yields P n L w (.unOp .not t x) ty (.bool (decide (¬ p))) := by
  have := Y.not (P := P) (n := n) (w := w) (ty := ty) (t := t) hx
  rwa [← decide_not] at this

/-! ## Integers -/
theorem wrap64 {z : Int} (h : -9223372036854775808 ≤ z ∧ z < 9223372036854775808) : IntKind.i64.wrap z = z := by
  rw [IntKind.wrap_i64]; omega
section
variable {k : IntKind} {u v : Int}
def intOp (op : BinOp) (k : IntKind) (u v : Int) : Sem Value := match op with
      | .add | .sub | .mul => Op.intArith op k u v
      | .quo | .rem => Op.intDiv op k u v
      | .and | .or | .xor | .andNot => Op.intBits op k u v
      | _ => Op.intCmp op u v
theorem run_bin {op : BinOp} {r : Value} (hop : op ≠ .shl ∧ op ≠ .shr) (hx : opv L x = some (.int k u)) (hy : opv L y = some (.int k v))
    (hr : (intOp op k u v).run P w = .ok r w) : Yields P n L w (.binOp op t x y yt) ty r := by
  intro a ha d pos aft g
  simp only [execOp, ha.eval hx, ha.eval hy]
  have hg : eqGuard op t x y (.int k u) (.int k v) = pure () := by
    unfold eqGuard
    cases op <;> rfl
  have hb : binOp op t (.int k u) (.int k v) = intOp op k u v := by
    cases op <;> first | (exact absurd rfl hop.1) | (exact absurd rfl hop.2) | simp [binOp, intOp]
  rw [hg, hb]
  simp only [pure_bind, Sem.run_bind, hr, Result.andThen_ok, Sem.run_pure]
theorem Y.add' (hx : opv L x = some (.int k u)) (hy : opv L y = some (.int k v)) : Yields P n L w (.binOp .add t x y yt) ty (.int k (k.wrap (u + v))) := run_bin (by simp) hx hy rfl
theorem Y.sub' (hx : opv L x = some (.int k u)) (hy : opv L y = some (.int k v)) : Yields P n L w (.binOp .sub t x y yt) ty (.int k (k.wrap (u - v))) := run_bin (by simp) hx hy rfl
theorem Y.mul' (hx : opv L x = some (.int k u)) (hy : opv L y = some (.int k v)) : Yields P n L w (.binOp .mul t x y yt) ty (.int k (k.wrap (u * v))) := run_bin (by simp) hx hy rfl
theorem Y.add (hx : opv L x = some (.int .i64 u)) (hy : opv L y = some (.int .i64 v)) (hb : -9223372036854775808 ≤ u + v ∧ u + v < 9223372036854775808) : Yields P n L w (.binOp .add t x y yt) ty (.int .i64 (u + v)) := by
  have := Y.add' (P := P) (n := n) (w := w) (ty := ty) (t := t) (yt := yt) hx hy
  rwa [wrap64 hb] at this
theorem Y.sub (hx : opv L x = some (.int .i64 u)) (hy : opv L y = some (.int .i64 v)) (hb : -9223372036854775808 ≤ u - v ∧ u - v < 9223372036854775808) : Yields P n L w (.binOp .sub t x y yt) ty (.int .i64 (u - v)) := by
  have := Y.sub' (P := P) (n := n) (w := w) (ty := ty) (t := t) (yt := yt) hx hy
  rwa [wrap64 hb] at this
theorem Y.mul (hx : opv L x = some (.int .i64 u)) (hy : opv L y = some (.int .i64 v)) (hb : -9223372036854775808 ≤ u * v ∧ u * v < 9223372036854775808) : Yields P n L w (.binOp .mul t x y yt) ty (.int .i64 (u * v)) := by
  have := Y.mul' (P := P) (n := n) (w := w) (ty := ty) (t := t) (yt := yt) hx hy
  rwa [wrap64 hb] at this
theorem Y.quo' (hx : opv L x = some (.int k u)) (hy : opv L y = some (.int k v)) (h0 : v ≠ 0) : Yields P n L w (.binOp .quo t x y yt) ty (.int k (k.wrap (u.tdiv v))) :=
  run_bin (by simp) hx hy (by simp [intOp, Op.intDiv, h0])
theorem Y.quo (hx : opv L x = some (.int .i64 u)) (hy : opv L y = some (.int .i64 v)) (h0 : 0 < v) (hu : 0 ≤ u ∧ u < 9223372036854775808) : Yields P n L w (.binOp .quo t x y yt) ty (.int .i64 (u / v)) := by
  have := Y.quo' (P := P) (n := n) (w := w) (ty := ty) (t := t) (yt := yt) hx hy (by omega)
  rw [Int.tdiv_eq_ediv_of_nonneg hu.1, wrap64 ⟨by have := Int.ediv_nonneg hu.1 (Int.le_of_lt h0); omega, Int.lt_of_le_of_lt (Int.ediv_le_self v hu.1) hu.2⟩] at this
  exact this
theorem Y.rem' (hx : opv L x = some (.int k u)) (hy : opv L y = some (.int k v)) (h0 : v ≠ 0) : Yields P n L w (.binOp .rem t x y yt) ty (.int k (u.tmod v)) :=
  run_bin (by simp) hx hy (by simp [intOp, Op.intDiv, h0])
theorem Y.rem (hx : opv L x = some (.int k u)) (hy : opv L y = some (.int k v)) (h0 : 0 < v) (hu : 0 ≤ u) : Yields P n L w (.binOp .rem t x y yt) ty (.int k (u % v)) := by
  have := Y.rem' (P := P) (n := n) (w := w) (ty := ty) (t := t) (yt := yt) hx hy (by omega)
  rw [Int.tmod_eq_emod_of_nonneg hu] at this
  exact this
theorem Y.lss (hx : opv L x = some (.int k u)) (hy : opv L y = some (.int k v)) : Yields P n L w (.binOp .lss t x y yt) ty (.bool (decide (u < v))) := run_bin (by simp) hx hy rfl
theorem Y.leq (hx : opv L x = some (.int k u)) (hy : opv L y = some (.int k v)) : Yields P n L w (.binOp .leq t x y yt) ty (.bool (decide (u ≤ v))) := run_bin (by simp) hx hy rfl
theorem Y.gtr (hx : opv L x = some (.int k u)) (hy : opv L y = some (.int k v)) : Yields P n L w (.binOp .gtr t x y yt) ty (.bool (decide (v < u))) := run_bin (by simp) hx hy rfl
theorem Y.geq (hx : opv L x = some (.int k u)) (hy : opv L y = some (.int k v)) : Yields P n L w (.binOp .geq t x y yt) ty (.bool (decide (v ≤ u))) := run_bin (by simp) hx hy rfl
theorem Y.eql (hx : opv L x = some (.int k u)) (hy : opv L y = some (.int k v)) : Yields P n L w (.binOp .eql t x y yt) ty (.bool (decide (u = v))) :=
  run_bin (by simp) hx hy (by simp only [intOp, Op.intCmp]; rw [Sem.run_pure]; congr 2)
theorem Y.neq (hx : opv L x = some (.int k u)) (hy : opv L y = some (.int k v)) : Yields P n L w (.binOp .neq t x y yt) ty (.bool (decide (u ≠ v))) :=
  run_bin (by simp) hx hy (by simp only [intOp, Op.intCmp]; rw [Sem.run_pure]; congr 2; by_cases e : u = v <;> simp [e])
theorem Y.and' (hx : opv L x = some (.int k u)) (hy : opv L y = some (.int k v)) : Yields P n L w (.binOp .and t x y yt) ty (.int k (k.wrap (BitVec.ofInt k.bits u &&& BitVec.ofInt k.bits v).toNat)) := run_bin (by simp) hx hy rfl
theorem Y.or' (hx : opv L x = some (.int k u)) (hy : opv L y = some (.int k v)) : Yields P n L w (.binOp .or t x y yt) ty (.int k (k.wrap (BitVec.ofInt k.bits u ||| BitVec.ofInt k.bits v).toNat)) := run_bin (by simp) hx hy rfl
theorem Y.xor' (hx : opv L x = some (.int k u)) (hy : opv L y = some (.int k v)) : Yields P n L w (.binOp .xor t x y yt) ty (.int k (k.wrap (BitVec.ofInt k.bits u ^^^ BitVec.ofInt k.bits v).toNat)) := run_bin (by simp) hx hy rfl
theorem Y.andNot' (hx : opv L x = some (.int k u)) (hy : opv L y = some (.int k v)) : Yields P n L w (.binOp .andNot t x y yt) ty (.int k (k.wrap (BitVec.ofInt k.bits u &&& ~~~ BitVec.ofInt k.bits v).toNat)) := run_bin (by simp) hx hy rfl
theorem Y.shl' {yk : IntKind} (hx : opv L x = some (.int k u)) (hy : opv L y = some (.int yk v)) (h0 : 0 ≤ v) : Yields P n L w (.binOp .shl t x y yt) ty (.int k (k.wrap (u * 2 ^ (min v.toNat k.bits)))) := by
  intro a ha d pos aft g
  simp only [execOp, ha.eval hx, ha.eval hy]
  have hg : eqGuard .shl t x y (.int k u) (.int yk v) = pure () := rfl
  have hn : ¬ v < 0 := by omega
  rw [hg]; simp [binOp, Op.shift, hn]
theorem Y.shr' {yk : IntKind} (hx : opv L x = some (.int k u)) (hy : opv L y = some (.int yk v)) (h0 : 0 ≤ v) : Yields P n L w (.binOp .shr t x y yt) ty (.int k (u.fdiv (2 ^ (min v.toNat k.bits)))) := by
  intro a ha d pos aft g
  simp only [execOp, ha.eval hx, ha.eval hy]
  have hg : eqGuard .shr t x y (.int k u) (.int yk v) = pure () := rfl
  have hn : ¬ v < 0 := by omega
  rw [hg]; simp [binOp, Op.shift, hn]
theorem Y.neg' (hx : opv L x = some (.int k u)) : Yields P n L w (.unOp .neg t x) ty (.int k (k.wrap (0 - u))) := by
  intro a ha d pos aft g; simp only [execOp, ha.eval hx]; rfl
theorem Y.neg (hx : opv L x = some (.int .i64 u)) (hb : -9223372036854775808 < u ∧ u ≤ 9223372036854775808) : Yields P n L w (.unOp .neg t x) ty (.int .i64 (-u)) := by
  have := Y.neg' (P := P) (n := n) (w := w) (ty := ty) (t := t) hx
  rw [wrap64 (by omega)] at this
  rwa [Int.zero_sub] at this
theorem Y.xorU' (hx : opv L x = some (.int k u)) : Yields P n L w (.unOp .xor t x) ty (.int k (k.wrap (BitVec.ofInt k.bits (if k.signed then -1 else k.max) ^^^ BitVec.ofInt k.bits u).toNat)) := by
  intro a ha d pos aft g; simp only [execOp, ha.eval hx]; rfl
theorem Y.max2 (hx : opv L x = some (.int k u)) (hy : opv L y = some (.int k v)) {ats : Array TypeId} : Yields P n L w (.call ⟨.builtin .max, #[x, y], ats⟩) ty (.int k (max u v)) := by
  intro a ha d pos aft g
  have e : (if v > u then v else u) = max u v := by omega
  simp [execOp, resolve, invoke, builtin, Builtin.max_, ha.eval hx, ha.eval hy, Builtin.max2, e]
theorem Y.min2 (hx : opv L x = some (.int k u)) (hy : opv L y = some (.int k v)) {ats : Array TypeId} : Yields P n L w (.call ⟨.builtin .min, #[x, y], ats⟩) ty (.int k (min u v)) := by
  intro a ha d pos aft g
  have e : (if v < u then v else u) = min u v := by omega
  simp [execOp, resolve, invoke, builtin, Builtin.min_, ha.eval hx, ha.eval hy, Builtin.min2, e]
end

section
variable (T : Tab P) {k : IntKind} {u v : Int}
theorem Y.convII {k' : IntKind} {src dst : TypeId} {d : Ty} (hs : T.ty src = some d) (hd : T.ty dst = some (.int k')) (hx : opv L x = some (.int k u)) : Yields P n L w (.convert src dst x) ty (.int k' (k'.wrap u)) := by
  intro a ha d' pos aft g
  have h2 : P.underlying dst = some (.int k') := T.ty_ok _ _ hd
  have h1 : ∃ z, P.underlying src = some z := by
    have := T.ty_ok _ _ hs
    cases d <;> first | exact ⟨_, this⟩ | (obtain ⟨z, h, _⟩ := this; exact ⟨_, h⟩)
  obtain ⟨z, h1⟩ := h1
  simp only [execOp, ha.eval hx, convert, Sem.run_bind, run_underlying h1, run_underlying h2, Result.andThen_ok]
  cases z <;> rfl
theorem Y.conv64 {src dst : TypeId} {d : Ty} (hs : T.ty src = some d) (hd : T.ty dst = some (.int .i64)) (hx : opv L x = some (.int k u)) (hb : -9223372036854775808 ≤ u ∧ u < 9223372036854775808) : Yields P n L w (.convert src dst x) ty (.int .i64 u) := by
  have := Y.convII (n := n) (w := w) (ty := ty) T hs hd hx
  rwa [wrap64 hb] at this
/-! ## Slices, read -/
theorem Y.len {e : TypeId} {ad : Option Addr} {m cp : Nat} (hT : T.ty t = some (.slice e)) (hx : opv L x = some (.slice ad m cp)) : Yields P n L w (.call ⟨.builtin .len, #[x], #[t]⟩) ty (.int .i64 (m : Int)) := by
  intro a ha d pos aft g
  have h1 : P.underlying t = some (.slice e) := T.ty_ok _ _ hT
  simp [execOp, resolve, invoke, builtin, Builtin.len_, ha.eval hx, run_underlying h1, goInt]
theorem Y.indexAddr {e : TypeId} {i : Inf} {ad : Option Addr} {b o m cp : Nat} (hT : T.ty t = some (.slice e)) (hI : T.inf e = some i) (hx : opv L x = some (.slice ad m cp)) (hy : opv L y = some (.int k u)) (had : ad = some ⟨b, o, none⟩) (h0 : 0 ≤ u ∧ u < m) :
    Yields P n L w (.indexAddr t x y) ty (.pointer (some ⟨b, o + u.toNat * i.size, none⟩)) := by
  intro a ha d pos aft g
  have h1 : P.underlying t = some (.slice e) := T.ty_ok _ _ hT
  subst had
  have hadd : (⟨b, o, none⟩ : Addr).add (u.toNat * i.size) = ⟨b, o + u.toNat * i.size, none⟩ := Addr.add_lit _ _ _
  simp [execOp, Instr.indexAt, asIntOf, ha.eval hx, ha.eval hy, run_underlying h1, h0, T.sizeOf hI, hadd]
theorem Y.load1 {d : Ty} {ad : Addr} {r : Value} (hT : T.ty t = some d) (hd : d.agg = false) (hx : opv L x = some (.pointer (some ad))) (hc : w.cell? ad = some r) : Yields P n L w (.load t x) ty r := by
  intro a ha d' pos aft g
  simp [execOp, Instr.loadAt, Instr.sureAddr, ha.eval hx, loadVar, T.isAgg hT, hd, hc]
theorem Y.loadN {d : Ty} {i : Inf} {b o : Nat} {cs : List Value} (hT : T.ty t = some d) (hd : d.agg = true) (hI : T.inf t = some i) (hn : cs.length = i.size) (hx : opv L x = some (.pointer (some ⟨b, o, none⟩))) (hc : ∀ j r, cs[j]? = some r → w.cell? ⟨b, o + j, none⟩ = some r) : Yields P n L w (.load t x) ty (.agg cs.toArray) := by
  intro a ha d' pos aft g
  have hl := run_loadCells_list (P := P) w ⟨b, o, none⟩ cs (fun j v hv => by rw [Addr.add_lit]; exact hc j v hv)
  rw [hn] at hl
  simp [execOp, Instr.loadAt, Instr.sureAddr, ha.eval hx, loadVar, T.isAgg hT, hd, T.sizeOf hI, hl]
theorem Y.extract {vs : Array Value} {r : Value} {j : Nat} (hx : opv L x = some (.tuple vs)) (hv : vs[j]? = some r) : Yields P n L w (.extract x j) ty r := by
  intro a ha d pos aft g; simp only [execOp, ha.eval hx, Instr.extract, hv]; rfl
theorem Y.nilCheck {ad : Addr} (hx : opv L x = some (.pointer (some ad))) : Yields P n L w (.nilCheck x) ty (.pointer (some ad)) := by
  intro a ha d pos aft g; simp only [execOp, ha.eval hx]; rfl
theorem Y.fieldAddr {fs : List (Nat × Nat)} {j ft off : Nat} {i : Inf} {b o : Nat} (hT : T.ty t = some (.struct fs)) (hf : fs[j]? = some (ft, off)) (hI : T.inf ft = some i) (h0 : Nat.ble 1 i.size = true) (hx : opv L x = some (.pointer (some ⟨b, o, none⟩))) : Yields P n L w (.fieldAddr t x j) ty (.pointer (some ⟨b, o + off, none⟩)) := by
  intro a ha d pos aft g
  obtain ⟨fa, h1, h2⟩ := T.ty_ok _ _ hT
  have hm : (fa.toList.map (fun f => (f.type, f.offset)))[j]? = some (ft, off) := by rw [h2]; exact hf
  rw [List.getElem?_map] at hm
  cases hfj : fa.toList[j]? with
  | none => rw [hfj] at hm; simp at hm
  | some f =>
    rw [hfj] at hm
    simp at hm
    have hfa : fa[j]? = some f := by simpa using hfj
    have hs : 1 ≤ i.size := Nat.le_of_ble_eq_true h0
    have hne : ¬ i.size = 0 := by omega
    have hsz : (sizeOf f.type).run P w = .ok i.size w := by rw [hm.1]; exact T.sizeOf hI
    simp [execOp, Instr.fieldAt, Instr.sureAddr, ha.eval hx, run_underlying h1, hfa, fieldPlace, hsz, hne, hm.2, Addr.add_lit]
/-- a field of a struct that is a value: one cell -/
theorem Y.field1 {fs : List (Nat × Nat)} {j ft off : Nat} {d : Ty} {cs : Array Value} {r : Value} (hT : T.ty t = some (.struct fs)) (hf : fs[j]? = some (ft, off)) (hF : T.ty ft = some d) (hd : d.agg = false) (hx : opv L x = some (.agg cs)) (hc : cs[off]? = some r) : Yields P n L w (.field t x j) ty r := by
  intro a ha d' pos aft g
  obtain ⟨fa, h1, h2⟩ := T.ty_ok _ _ hT
  have hm : (fa.toList.map (fun f => (f.type, f.offset)))[j]? = some (ft, off) := by rw [h2]; exact hf
  rw [List.getElem?_map] at hm
  cases hfj : fa.toList[j]? with
  | none => rw [hfj] at hm; simp at hm
  | some f =>
    rw [hfj] at hm
    simp at hm
    have hfa : fa[j]? = some f := by simpa using hfj
    have hag : (isAgg f.type).run P w = .ok false w := by rw [hm.1, T.isAgg hF, hd]
    simp [execOp, Instr.field, asAgg, ha.eval hx, run_underlying h1, hfa, part, hag, hm.2, hc]
theorem Y.fieldN {fs : List (Nat × Nat)} {j ft off : Nat} {d : Ty} {i : Inf} {cs : Array Value} (hT : T.ty t = some (.struct fs)) (hf : fs[j]? = some (ft, off)) (hF : T.ty ft = some d) (hd : d.agg = true) (hI : T.inf ft = some i) (hx : opv L x = some (.agg cs)) : Yields P n L w (.field t x j) ty (.agg (cs.extract off (off + i.size))) := by
  intro a ha d' pos aft g
  obtain ⟨fa, h1, h2⟩ := T.ty_ok _ _ hT
  have hm : (fa.toList.map (fun f => (f.type, f.offset)))[j]? = some (ft, off) := by rw [h2]; exact hf
  rw [List.getElem?_map] at hm
  cases hfj : fa.toList[j]? with
  | none => rw [hfj] at hm; simp at hm
  | some f =>
    rw [hfj] at hm
    simp at hm
    have hfa : fa[j]? = some f := by simpa using hfj
    have hag : (isAgg f.type).run P w = .ok true w := by rw [hm.1, T.isAgg hF, hd]
    have hsz : (sizeOf f.type).run P w = .ok i.size w := by rw [hm.1]; exact T.sizeOf hI
    simp [execOp, Instr.field, asAgg, ha.eval hx, run_underlying h1, hfa, part, hag, hm.2, hsz]
end
end
end Go.Proofs.Ytdpkioffihebnaa
