/-
  The program logic, ninth part: contracts that hand over or change rows of the caller's own. No statement is proved here.
-/
import Derived.Test.YtdpkioffihebnaaLibH
namespace Go.Proofs.Ytdpkioffihebnaa
open Go Go.RowKit

/-- A contract within the caller's frame: it may hand over new rows, or change the caller's. -/
def ConM (P : Program) (f : FuncId) (args : List Value) (w0 : World) (h0 h : GHeap) (O : List Row) (w : World) (post : GHeap → List Row → Value → Prop) : Prop :=
  Sees w0 h0 h O w → Calls P f args.toArray w fun e w' => ∃ v h' O', e = .returned v ∧ GLe h h' ∧ Sees w0 h0 h' O' w' ∧ post h' O' v
def retM (P : Program) (rs : List ResultVar) (w0 : World) (h0 h : GHeap) (post : GHeap → List Row → Value → Prop) : Post := fun e L w => match e with
  | .normal | .ret => ∃ vs h' O', Res P L w rs vs ∧ GLe h h' ∧ Sees w0 h0 h' O' w ∧ post h' O' (packv vs)
  | _ => False
theorem ConM.of_body {P : Program} {f : FuncId} {fn : Func} {c : Code} {n : Nat} {rs : List ResultVar} {vs : List Value} {w0 w : World} {h0 h : GHeap} {O : List Row} {post : GHeap → List Row → Value → Prop}
    (hf : P.funcs[f]? = some fn) (hb : fn.body = some c) (hn : fn.ntmps = n) (hr : fn.results.toList = rs) (hl : Nat.ble vs.length n = true)
    (K : Sees w0 h0 h O w → CW P n (retM P rs w0 h0 h post) c (argEnv 0 vs) w) : ConM P f vs w0 h0 h O w post := by
  intro hs
  refine calls_of_wp hf hb ?_
  have hl' : vs.length ≤ n := Nat.le_of_ble_eq_true hl
  have hfit : Fits n (argEnv 0 vs) { tmps := vs.toArray ++ Array.replicate (fn.ntmps - vs.toArray.size) undef, defers := [] } := by
    refine ⟨by simp [hn]; omega, rfl, ?_⟩
    intro k v hk
    have := (get_argEnv vs 0 k v hk).2
    simp at this
    have hlt : k < vs.length := (List.getElem?_eq_some_iff.1 this).1
    simp [Array.getElem?_append, hlt]
    exact (List.getElem?_eq_some_iff.1 this).2
  refine Code.wp_mono ?_ (K hs _ hfit)
  rintro e a w' ⟨L, hL, q⟩
  have key : (∃ vs h' O', Res P L w' rs vs ∧ GLe h h' ∧ Sees w0 h0 h' O' w' ∧ post h' O' (packv vs)) → a.defers = [] ∧ ∃ v, (results fn a.tmps).run P w' = .ok v w' ∧ ∃ v' h' O', Ending.returned v = .returned v' ∧ GLe h h' ∧ Sees w0 h0 h' O' w' ∧ post h' O' v' := by
    rintro ⟨us, h', O', h1, h2, h3, h4⟩
    refine ⟨hL.defers, packv us, ?_, _, h', O', rfl, h2, h3, h4⟩
    have hrun := run_results hL rs us h1
    unfold results
    rw [← hr] at hrun
    rw [Sem.run_bind, Array.mapM_eq_mapM_toList, Sem.run_map]
    erw [hrun]
    simp only [Result.andThen_ok, Sem.run_pure]
    congr 1
    cases us with
    | nil => rfl
    | cons x r => cases r <;> rfl
  cases e with
  | normal => exact key q
  | ret => exact key q
  | _ => exact q.elim
/-- what is handed over may stay -/
theorem ConM.con {P : Program} {f : FuncId} {args : List Value} {w : World} {h : GHeap} {post : GHeap → List Row → Value → Prop} {post' : GHeap → Value → Prop} (hc : ConM P f args w h h [] w post)
    (hp : ∀ v h' O' w', GLe h h' → Sees w h h' O' w' → post h' O' v → ∃ h2, Sees w h h2 [] w' ∧ post' h2 v) : Con P f args w h post' := by
  intro ha
  refine (hc (Sees.start ha)).mono ?_
  rintro e w' ⟨v, h', O', he, hl, hs, hq⟩
  obtain ⟨h2, h3, h4⟩ := hp v h' O' w' hl hs hq
  exact ⟨v, h2, he, h3, h4⟩

section
variable {P : Program} (T : Tab P) {n : Nat} {Q : Post} {L : Env} {w0 w : World} {h0 h : GHeap} {O : List Row} {ops rest : List Oper} {x y : Operand} {t : TypeId}
variable {d : Option Tmp} {ty : TypeId} {pos : String} {aft : Array Edge}
theorem retM_ret {rs : List ResultVar} {post : GHeap → List Row → Value → Prop} (vs : List Value) (h' : GHeap) (O' : List Row) (hr : Res P L w rs vs) (hl : GLe h h') (hs : Sees w0 h0 h' O' w) (hp : post h' O' (packv vs)) : retM P rs w0 h0 h post .ret L w := ⟨vs, h', O', hr, hl, hs, hp⟩
theorem RW.callM (hs : Sees w0 h0 h O w) {f : FuncId} {l : List Operand} {vs : List Value} (hargs : opvs L l = some vs) (hf : T.call f = true) (hd : dstOk n d = true) {ats : Array TypeId} {post : GHeap → List Row → Value → Prop} (hc : ConM P f vs w0 h0 h O w post)
    (K : ∀ v h' O' w', GLe h h' → post h' O' v → Sees w0 h0 h' O' w' → RW P n ops Q (updo d v L) w' rest) :
    RW P n ops Q L w (⟨d, .call ⟨.value (.func f), l.toArray, ats⟩, ty, pos, aft, none⟩ :: rest) := by
  intro a ha
  unfold wpList
  rw [if_pos (by simp [Region.wanted])]
  refine .inl ?_
  obtain ⟨fn, hfn, hname, hbody⟩ := T.call_ok f hf
  unfold Oper.wp
  have hrun : (execOp a.eval ⟨d, .call ⟨.value (.func f), l.toArray, ats⟩, ty, pos, aft, none⟩).run P w = .ok (.enter f vs.toArray) w := by
    have hargs' : l.map a.eval = vs := ha.evals hargs
    have hname' : ¬ fn.name = "runtime.NumGoroutine" := by simpa using hname
    have hbody' : ¬ fn.body = none := fun e => by rw [e] at hbody; simp at hbody
    have hcl : a.eval (.func f) = .func (.func f) #[] #[] := rfl
    simp [execOp, resolve, Deferred.ofValue, hcl, invoke, callFunc, hfn, hname', hbody', ← hargs']
  rw [hrun]
  refine (hc hs).mono ?_
  rintro e w' ⟨v, h', O', rfl, hl, hs', hp⟩
  exact K v h' O' w' hl hp hs' _ (ha.put v hd)

/-- a row read as a shorter one -/
theorem Sees.shrink {k : Nat} {ad : Option Addr} {m cp sz : Nat} {e : TypeId} {xs : List Value} (hs : Sees w0 h0 h O w) (hO : O[k]? = some ⟨ad, m, cp, e, sz, xs⟩) (j : Nat) (hj : j ≤ m) (hj0 : ad = none → j = 0) : Sees w0 h0 h (O.set k ⟨ad, j, cp, e, sz, xs.take (j * sz)⟩) w := by
  have hok := (hs.own _ (List.mem_of_getElem? hO)).1
  have hjle : j * sz ≤ m * sz := Nat.mul_le_mul_right _ hj
  refine hs.replace hO (w' := w) ⟨rfl, rfl, rfl, Nat.le_refl _, fun _ _ _ => rfl⟩ ?_ (fun b hb => .inl (by cases ad <;> first | (simp [Row.v, Value.ownBlock] at hb; done) | simpa [Row.v, Value.ownBlock] using hb))
  have hlen : xs.length = m * sz := hok.1
  refine ⟨by rw [List.length_take, hlen, Nat.min_eq_left hjle], ?_⟩
  rcases hok.2 with ⟨hv, h0'⟩ | ⟨g, cap, cur, hv, hb, hg, hn, hm, hc, hx⟩
  · simp only [Row.v, Value.slice.injEq] at hv
    left
    simp [Row.v, hv, hj0 hv.1]
  · simp only [Row.v, Value.slice.injEq, true_and] at hv
    obtain ⟨hv1, rfl⟩ := hv
    right
    refine ⟨g, cp, cur, by simp [Row.v, hv1], hb, hg, by simp at hn ⊢; omega, hm, hc, ?_⟩
    simp only at hx ⊢
    rw [← hx, List.take_take, Nat.min_eq_left hjle]
/-- the last part of a row's slice, appended to its first part -/
theorem RW.appendSelf (hs : Sees w0 h0 h O w) (k : Nat) {b m cp : Nat} {e : TypeId} {sz : Nat} {xs : List Value} (hO : O[k]? = some ⟨some ⟨b, 0, none⟩, m, cp, e, sz, xs⟩) {i : Inf} (hT : T.ty t = some (.slice e)) (hI : T.inf e = some i) (hsz : i.size = sz) {p q c : Nat} {ad : Option Addr}
    (hx : opv L x = some (.slice (some ⟨b, 0, none⟩) p cp)) (hy : opv L y = some (.slice ad (m - q) c)) (had : ad = subAd (some ⟨b, 0, none⟩) q cp sz) (hpq : p ≤ q) (hq : q ≤ m) (h1 : ∀ u ∈ xs, u.oneCell' = true) (hd : dstOk n d = true)
    (K : ∀ w', Sees w0 h0 h (O.set k ⟨some ⟨b, 0, none⟩, p + (m - q), cp, e, sz, xs.take (p * sz) ++ xs.drop (q * sz)⟩) w' → RW P n ops Q (updo d (.slice (some ⟨b, 0, none⟩) (p + (m - q)) cp) L) w' rest) :
    RW P n ops Q L w (⟨d, .call ⟨.builtin .append, #[x, y], #[t, t]⟩, ty, pos, aft, none⟩ :: rest) := by
  have ht : P.underlying t = some (.slice e) := T.ty_ok _ _ hT
  obtain ⟨z, hi, hi1, hi2, hi3⟩ := T.inf_ok _ _ hI
  have hok := (hs.own _ (List.mem_of_getElem? hO)).1
  have hlen : xs.length = m * sz := hok.1
  have hqle : q * sz ≤ m * sz := Nat.mul_le_mul_right _ hq
  have hple : p * sz ≤ q * sz := Nat.mul_le_mul_right _ hpq
  have hcap := (hs.rowCap hO).1
  have hsh := hs.shrink hO p (by omega) (by simp)
  have hklt : k < O.length := (List.getElem?_eq_some_iff.1 hO).1
  have hO' : (O.set k ⟨some ⟨b, 0, none⟩, p, cp, e, sz, xs.take (p * sz)⟩)[k]? = some ⟨some ⟨b, 0, none⟩, p, cp, e, sz, xs.take (p * sz)⟩ := by simp [hklt]
  have hokp := (hsh.own _ (List.mem_of_getElem? hO')).1
  have had' : ∃ o, ad = some ⟨b, o, none⟩ ∧ (m ≤ q ∨ o = q * sz) := by
    rw [had, subAd]
    by_cases hc : cp = q
    · rw [if_pos hc]; exact ⟨0, rfl, .inl (by omega)⟩
    · rw [if_neg hc]; exact ⟨q * sz, by simp [Addr.add_lit], .inr rfl⟩
  obtain ⟨o, had', hoo⟩ := had'
  obtain ⟨w', hr, hown, hgr⟩ := run_append_fits (P := P) w w0.heap.size t ty e z sz ht hi (by rw [hi1, hsz]) b p cp (xs.take (p * sz)) hokp ⟨b, o, none⟩ (m - q) c (xs.drop (q * sz)) (by rw [List.length_drop, hlen, Nat.sub_mul]) (by
    intro j u hj
    rw [Addr.add_lit]
    rw [List.getElem?_drop] at hj
    rcases hoo with hoo | hoo
    · have hlt := (List.getElem?_eq_some_iff.1 hj).1
      have : m * sz ≤ q * sz := Nat.mul_le_mul_right _ hoo
      omega
    · rw [hoo]; exact hs.rowCell hO hj) (fun u hu => h1 u (List.mem_of_mem_drop hu)) (by omega)
  refine RW.step (v := .slice (some ⟨b, 0, none⟩) (p + (m - q)) cp) (w' := w') ?_ hd (K w' ?_)
  · intro a ha
    rw [had'] at hy
    simp [execOp, resolve, invoke, builtin, ha.eval hx, ha.eval hy, hr]
  · have := hsh.replace hO' (r' := ⟨some ⟨b, 0, none⟩, p + (m - q), cp, e, sz, xs.take (p * sz) ++ xs.drop (q * sz)⟩) (by simpa [Row.v, Value.ownBlock] using hgr) hown (fun c hc => .inl (by simpa [Row.v, Value.ownBlock] using hc))
    simpa using this
/-- cells behind a row's last element are cleared -/
theorem RW.clear (hs : Sees w0 h0 h O w) (k : Nat) {b m cp : Nat} {e : TypeId} {sz : Nat} {xs : List Value} (hO : O[k]? = some ⟨some ⟨b, 0, none⟩, m, cp, e, sz, xs⟩) {i : Inf} (hT : T.ty t = some (.slice e)) (hI : T.inf e = some i) (hsz : i.size = sz) (hz : i.zero.cells.size = sz) (hz1 : ∀ u ∈ i.zero.cells.toList, u.oneCell' = true) (hd : dstOk n d = true) {q j c : Nat} {ad : Option Addr}
    (hx : opv L x = some (.slice ad j c)) (had : ad = subAd (some ⟨b, 0, none⟩) q cp sz) (hq : m ≤ q) (hqj : q + j ≤ cp) (hqc : q < cp)
    (K : ∀ w', Sees w0 h0 h O w' → RW P n ops Q (updo d (.tuple #[]) L) w' rest) :
    RW P n ops Q L w (⟨d, .call ⟨.builtin .clear, #[x], #[t]⟩, ty, pos, aft, none⟩ :: rest) := by
  have ht : P.underlying t = some (.slice e) := T.ty_ok _ _ hT
  have hok := (hs.own _ (List.mem_of_getElem? hO)).1
  have had' : ad = some ⟨b, q * sz, none⟩ := by
    rw [had, subAd, if_neg (by omega)]
    simp [Addr.add_lit]
  rw [had'] at hx
  rcases j with _ | j
  · refine RW.step (v := .tuple #[]) (w' := w) ?_ hd (K w hs)
    intro a ha
    simp [execOp, resolve, invoke, builtin, Builtin.clear_, ha.eval hx, run_underlying ht]
  · rcases hok.2 with ⟨hv, _⟩ | ⟨g, cap, cur, hv, hb, hg, hn, hm, hc, hxs⟩
    · simp [Row.v] at hv
    · simp only [Row.v, Value.slice.injEq, Option.some.injEq, Addr.mk.injEq, true_and, and_true] at hv
      obtain ⟨rfl, rfl⟩ := hv
      dsimp only at hc hn hg hxs
      have hlz : (Builtin.zeroCells i.zero.cells (j + 1)).toList.length = (j + 1) * sz := by simp [size_zeroCells, hz]
      have hle : (q + (j + 1)) * sz ≤ cp * sz := Nat.mul_le_mul_right _ hqj
      rw [Nat.add_mul] at hle
      have hmq : m * sz ≤ q * sz := Nat.mul_le_mul_right _ hq
      have hr := run_storeCells_at (P := P) b (q * sz) e (Builtin.zeroCells i.zero.cells (j + 1)).toList 0 cur w hg (by rw [hlz, hc]; omega) (by
        intro v hv
        simp only [Builtin.zeroCells, Array.toList_map, List.mem_map] at hv
        obtain ⟨r, hr, rfl⟩ := hv
        by_cases h0 : sz = 0
        · rw [hz, h0] at hr; simp at hr
        · have : r % i.zero.cells.size < i.zero.cells.size := Nat.mod_lt _ (by omega)
          rw [getElem!_pos i.zero.cells _ this]
          exact hz1 _ (by simp))
      generalize hw1 : w.setRow b (cur.toList.take (q * sz + 0) ++ (Builtin.zeroCells i.zero.cells (j + 1)).toList ++ cur.toList.drop (q * sz + 0 + (Builtin.zeroCells i.zero.cells (j + 1)).toList.length)).toArray = w1 at hr
      refine RW.step (v := .tuple #[]) (w' := w1) ?_ hd (K w1 ?_)
      · intro a ha
        simp only [execOp, resolve, invoke, builtin, Builtin.clear_, ha.eval hx, Sem.run_bind, run_underlying ht, Result.andThen_ok, T.zeroValue hI, hr, List.map_toArray, List.map_cons, List.map_nil, pure_bind, Sem.run_pure, List.getElem?_toArray, List.getElem?_cons_zero]
      · subst hw1
        have := hs.replace (w' := w.setRow b (cur.toList.take (q * sz + 0) ++ (Builtin.zeroCells i.zero.cells (j + 1)).toList ++ cur.toList.drop (q * sz + 0 + (Builtin.zeroCells i.zero.cells (j + 1)).toList.length)).toArray) hO (r' := ⟨some ⟨b, 0, none⟩, m, cp, e, sz, xs⟩) ⟨rfl, rfl, rfl, by simp, fun r _ hr => setRow_other w b r _ (fun e => hr (by simp [Row.v, Value.ownBlock, e]))⟩ ?_ (fun c hc => .inl hc)
        · rwa [set_self hO] at this
        · refine ⟨hok.1, .inr ⟨b, cp, _, rfl, hb, setRow_heap w b cur _ e _ hg, hn, hm, ?_, ?_⟩⟩
          · simp only [List.size_toArray, List.length_append, List.length_take, List.length_drop, Array.length_toList, hlz, hc]
            omega
          · have hl1 : m * sz ≤ (cur.toList.take (q * sz + 0)).length := by rw [List.length_take, Array.length_toList, hc]; omega
            show List.take (m * sz) _ = xs
            rw [← hxs, List.append_assoc, List.take_append_of_le_length hl1, List.take_take]
            congr 1; omega
end
end Go.Proofs.Ytdpkioffihebnaa
