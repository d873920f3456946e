/-
  The program logic, seventh part: literals, structs, reslicing, floats; regions in whatever order with operations that make memory. No statement is proved here.
-/
import Derived.Test.YtdpkioffihebnaaLibF
import Derived.OrdersHeld
namespace Go.Proofs.Ytdpkioffihebnaa
open Go Go.RowKit

section
variable {P : Program} (T : Tab P) {n : Nat} {Q : Post} {L : Env} {w0 w : World} {h0 h : GHeap} {O : List Row} {ops rest : List Oper} {x y c : Operand} {t : TypeId}
variable {d : Option Tmp} {ty : TypeId} {pos : String} {aft : Array Edge}

/-! ## Reslicing -/
/-- the address behind a reslice -/
def subAd (ad : Option Addr) (l m sz : Nat) : Option Addr := if m = l then ad else ad.map (·.add (l * sz))
theorem Y.sliceHi {e : TypeId} {i : Inf} {ad : Option Addr} {m cp : Nat} {k : IntKind} {u : Int} {hi : Operand} (hT : T.ty t = some (.slice e)) (hI : T.inf e = some i) (hx : opv L x = some (.slice ad m cp)) (hh : opv L hi = some (.int k u)) (h0' : 0 ≤ u ∧ u ≤ cp) :
    Yields P n L w (.slice t x none (some hi) none) ty (.slice ad u.toNat cp) := by
  intro a ha d pos aft g
  have h1 : P.underlying t = some (.slice e) := T.ty_ok _ _ hT
  simp [execOp, Instr.sliceAt, Instr.slice, run_underlying h1, ha.eval hx, ha.eval hh, Instr.sliceBounds, Instr.sliceBound, asIntOf, h0', T.sizeOf hI]
  intro _
  cases ad <;> simp [Addr.add]
theorem Y.sliceLo {e : TypeId} {i : Inf} {ad : Option Addr} {m cp : Nat} {k : IntKind} {u : Int} {lo : Operand} (hT : T.ty t = some (.slice e)) (hI : T.inf e = some i) (hx : opv L x = some (.slice ad m cp)) (hh : opv L lo = some (.int k u)) (h0' : 0 ≤ u ∧ u ≤ m) (_hm : m ≤ cp) :
    Yields P n L w (.slice t x (some lo) none none) ty (.slice (subAd ad u.toNat cp i.size) (m - u.toNat) (cp - u.toNat)) := by
  intro a ha d pos aft g
  have h1 : P.underlying t = some (.slice e) := T.ty_ok _ _ hT
  simp [execOp, Instr.sliceAt, Instr.slice, run_underlying h1, ha.eval hx, ha.eval hh, Instr.sliceBounds, Instr.sliceBound, asIntOf, h0', T.sizeOf hI, subAd]
theorem Y.sliceLH {e : TypeId} {i : Inf} {ad : Option Addr} {m cp : Nat} {k k' : IntKind} {u v : Int} {lo hi : Operand} (hT : T.ty t = some (.slice e)) (hI : T.inf e = some i) (hx : opv L x = some (.slice ad m cp)) (hl : opv L lo = some (.int k u)) (hh : opv L hi = some (.int k' v)) (h0' : 0 ≤ u ∧ u ≤ v ∧ v ≤ cp) :
    Yields P n L w (.slice t x (some lo) (some hi) none) ty (.slice (subAd ad u.toNat cp i.size) (v.toNat - u.toNat) (cp - u.toNat)) := by
  intro a ha d pos aft g
  have h1 : P.underlying t = some (.slice e) := T.ty_ok _ _ hT
  have a1 : 0 ≤ v ∧ v ≤ cp := by omega
  have a2 : 0 ≤ u ∧ u ≤ (v.toNat : Int) := by omega
  simp [execOp, Instr.sliceAt, Instr.slice, run_underlying h1, ha.eval hx, ha.eval hl, ha.eval hh, Instr.sliceBounds, Instr.sliceBound, asIntOf, a1, a2, T.sizeOf hI, subAd]
  intro hbad
  omega
theorem Y.slice3 {e : TypeId} {i : Inf} {ad : Option Addr} {m cp : Nat} {k k' k2 : IntKind} {u v z : Int} {lo hi mx : Operand} (hT : T.ty t = some (.slice e)) (hI : T.inf e = some i) (hx : opv L x = some (.slice ad m cp)) (hl : opv L lo = some (.int k u)) (hh : opv L hi = some (.int k' v)) (hz : opv L mx = some (.int k2 z)) (h0' : 0 ≤ u ∧ u ≤ v ∧ v ≤ z ∧ z ≤ cp) :
    Yields P n L w (.slice t x (some lo) (some hi) (some mx)) ty (.slice (subAd ad u.toNat z.toNat i.size) (v.toNat - u.toNat) (z.toNat - u.toNat)) := by
  intro a ha d pos aft g
  have h1 : P.underlying t = some (.slice e) := T.ty_ok _ _ hT
  have a0 : 0 ≤ z ∧ z ≤ cp := by omega
  have a1 : 0 ≤ v ∧ v ≤ (z.toNat : Int) := by omega
  have a2 : 0 ≤ u ∧ u ≤ (v.toNat : Int) := by omega
  simp [execOp, Instr.sliceAt, Instr.slice, run_underlying h1, ha.eval hx, ha.eval hl, ha.eval hh, ha.eval hz, Instr.sliceBounds, Instr.sliceBound, asIntOf, a0, a1, a2, T.sizeOf hI, subAd]
  rw [if_pos (by omega), if_pos (by omega)]
theorem Sl.from {ad : Option Addr} {m cp sz : Nat} {xs : List Value} (hS : Sl h sz ad m cp xs) (l : Nat) (hl : l ≤ m) : Sl h sz (subAd ad l cp sz) (m - l) (cp - l) (xs.drop (l * sz)) := by
  have hle : l * sz ≤ m * sz := Nat.mul_le_mul_right _ hl
  have hcm := hS.2.1
  refine ⟨by rw [List.length_drop, hS.1, Nat.sub_mul], by omega, by have := hS.2.2.1; omega, ?_, ?_⟩
  · intro e
    cases ad with
    | none => have := hS.2.2.2.1 rfl; omega
    | some p => unfold subAd at e; split at e <;> simp at e
  · intro p hp
    by_cases hc : cp = l
    · have hml : m = l := by omega
      cases ad with
      | none => simp [subAd, hc] at hp
      | some q =>
        simp [subAd, hc] at hp; subst hp
        refine ⟨.inl (by omega), fun j hj => ?_⟩
        rw [Nat.sub_mul, hml] at hj; omega
    · cases ad with
      | none => simp [subAd, hc] at hp
      | some q =>
        simp [subAd, hc] at hp
        obtain ⟨hsp, hcell⟩ := hS.2.2.2.2 q rfl
        rcases hsp with hm0 | hsp
        · subst hp
          refine ⟨.inl (by omega), fun j hj => ?_⟩
          rw [hm0, Nat.zero_sub, Nat.zero_mul] at hj; omega
        have hq : q.add (l * sz) = ⟨q.block, q.off + l * sz, none⟩ := by
          cases q with | mk b o s => simp at hsp; subst hsp; exact Addr.add_lit _ _ _
        rw [hq] at hp; subst hp
        refine ⟨.inr rfl, fun j hj => ?_⟩
        rw [Nat.sub_mul] at hj
        obtain ⟨cs, a, b⟩ := hcell (l * sz + j) (by omega)
        exact ⟨cs, a, by rw [Nat.add_assoc]; rw [b, List.getElem?_drop]⟩

/-! ## Loads out of rows of the call's own -/
theorem Y.loadRow1 (hs : Sees w0 h0 h O w) (k : Nat) {dd : Ty} {b o m cp : Nat} {e : TypeId} {sz : Nat} {xs : List Value} {v : Value} (hO : O[k]? = some ⟨some ⟨b, 0, none⟩, m, cp, e, sz, xs⟩) (hx : opv L x = some (.pointer (some ⟨b, o, none⟩))) (hT : T.ty t = some dd) (hd : dd.agg = false) (hv : xs[o]? = some v) : Yields P n L w (.load t x) ty v :=
  Y.load1 T hT hd hx (hs.rowCell hO hv)
theorem Y.loadRowN (hs : Sees w0 h0 h O w) (k : Nat) {dd : Ty} {i : Inf} {b o m cp : Nat} {e : TypeId} {sz : Nat} {xs cs : List Value} (hO : O[k]? = some ⟨some ⟨b, 0, none⟩, m, cp, e, sz, xs⟩) (hx : opv L x = some (.pointer (some ⟨b, o, none⟩))) (hT : T.ty t = some dd) (hd : dd.agg = true) (hI : T.inf t = some i) (hc : (xs.drop o).take i.size = cs) (hl : cs.length = i.size) : Yields P n L w (.load t x) ty (.agg cs.toArray) := by
  refine Y.loadN T hT hd hI hl hx ?_
  intro j r hj
  refine hs.rowCell hO ?_
  rw [← hc, List.getElem?_take] at hj
  split at hj
  · rw [List.getElem?_drop] at hj; exact hj
  · cases hj

/-! ## Literals -/
theorem size_fold (cs : List (Value × Nat)) (off : Nat) (a : Array Value) : (cs.foldl (fun (a : Array Value) (p : Value × Nat) => a.setIfInBounds (off + p.2) p.1) a).size = a.size := by
  induction cs generalizing a with
  | nil => rfl
  | cons c r ih => simp [ih]
theorem fold_putCells : ∀ (cs : List Value) (off k : Nat) (xs : List Value),
    (cs.zipIdx k).foldl (fun (a : Array Value) (p : Value × Nat) => a.setIfInBounds (off + p.2) p.1) xs.toArray = (putCells xs (off + k) cs).toArray
  | [], off, k, xs => by simp [putCells]
  | c :: r, off, k, xs => by
    simp only [List.zipIdx_cons, List.foldl_cons, putCells]
    rw [List.setIfInBounds_toArray, fold_putCells r off (k + 1)]
    rfl
/-- parts laid one by one: place (offset, size) of each, its value -/
def lay : List Value → List (Nat × Nat × Value) → Option (List Value)
  | xs, [] => some xs
  | xs, (off, sz, v) :: r => if v.cells.size = sz ∧ off + sz ≤ xs.length then lay (putCells xs off v.cells.toList) r else none
theorem fill_lay (place : Nat → Option (Nat × Nat)) : ∀ (ps : List (Nat × Value)) (xs : List Value) (qs : List (Nat × Nat × Value)) (ys : List Value),
    ps.map (fun p => (place p.1).map fun q => (q.1, q.2, p.2)) = qs.map some → lay xs qs = some ys → Instr.fill place xs.toArray ps = some ys.toArray
  | [], xs, qs, ys, hq, hl => by
    cases qs with
    | nil => simp [lay] at hl; subst hl; rfl
    | cons q r => simp at hq
  | (i, v) :: r, xs, [], ys, hq, hl => by simp at hq
  | (i, v) :: r, xs, (off, sz, u) :: qs, ys, hq, hl => by
    simp only [List.map_cons, List.cons.injEq] at hq
    obtain ⟨h1, h2⟩ := hq
    cases hp : place i with
    | none => rw [hp] at h1; simp at h1
    | some q =>
      rw [hp] at h1
      simp at h1
      obtain ⟨rfl, rfl, rfl⟩ := h1
      simp only [lay] at hl
      split at hl
      · rename_i hc
        unfold Instr.fill
        rw [hp]
        have hn : ¬ (v.cells.size ≠ q.2 ∨ (decide (q.1 + v.cells.size > xs.toArray.size)) = true) := by
          simp; omega
        have hb : (v.cells.size ≠ q.2 || decide (q.1 + v.cells.size > xs.toArray.size)) = false := by
          simp; omega
        simp only [hb]
        rw [← Array.foldl_toList]
        simp only [Array.toList_zipIdx]
        have := fold_putCells v.cells.toList q.1 0 xs
        simp only [Nat.add_zero] at this
        rw [show (List.foldl (fun (cs : Array Value) (x : Value × Nat) => match x with | (c, j) => cs.setIfInBounds (q.1 + j) c) xs.toArray (v.cells.toList.zipIdx)) = (putCells xs q.1 v.cells.toList).toArray from this]
        exact fill_lay place r _ qs ys h2 hl
      · cases hl
def pairs (L : Env) : List (Nat × Operand) → Option (List (Nat × Value))
  | [] => some []
  | (i, x) :: r => match opv L x, pairs L r with
    | some v, some ps => some ((i, v) :: ps)
    | _, _ => none
theorem Fits.pairs {a : Act} (ha : Fits n L a) : ∀ {l : List (Nat × Operand)} {ps : List (Nat × Value)}, pairs L l = some ps → l.map (fun p => (p.1, a.eval p.2)) = ps
  | [], ps, hx => by simp [Proofs.Ytdpkioffihebnaa.pairs] at hx; subst hx; rfl
  | (i, x) :: r, ps, hx => by
    simp only [Proofs.Ytdpkioffihebnaa.pairs] at hx
    cases h1 : opv L x with
    | none => simp [h1] at hx
    | some v => cases h2 : Proofs.Ytdpkioffihebnaa.pairs L r with
      | none => simp [h1, h2] at hx
      | some qs => simp [h1, h2] at hx; subst hx; simp [ha.eval h1, Fits.pairs ha h2]
def places (fs : List (Nat × Nat)) (szs : List Nat) : List (Nat × Value) → Option (List (Nat × Nat × Value))
  | [] => some []
  | (i, v) :: r => match fs[i]?, szs[i]?, places fs szs r with
    | some f, some s, some qs => some ((f.2, s, v) :: qs)
    | _, _, _ => none
theorem places_map (fs : List (Nat × Nat)) (szs : List Nat) : ∀ (ps : List (Nat × Value)) (qs : List (Nat × Nat × Value)), places fs szs ps = some qs →
    ps.map (fun p => (match fs[p.1]?, szs[p.1]? with | some f, some s => some (f.2, s) | _, _ => none : Option (Nat × Nat)).map fun q => (q.1, q.2, p.2)) = qs.map some
  | [], qs, hh => by simp [places] at hh; subst hh; rfl
  | (i, v) :: r, qs, hh => by
    simp only [places] at hh
    cases h1 : fs[i]? with
    | none => simp [h1] at hh
    | some f => cases h2 : szs[i]? with
      | none => simp [h1, h2] at hh
      | some s => cases h3 : places fs szs r with
        | none => simp [h1, h2, h3] at hh
        | some q => simp [h1, h2, h3] at hh; subst hh; simp [h1, h2, places_map fs szs r q h3]
/-- the sizes of a struct's fields, by the table -/
def sizes (T : Tab P) : List (Nat × Nat) → Option (List Nat)
  | [] => some []
  | f :: r => match T.inf f.1, sizes T r with
    | some i, some ss => some (i.size :: ss)
    | _, _ => none
theorem run_places (fa : List Field) : ∀ (fs : List (Nat × Nat)) (szs : List Nat), fa.map (fun f => (f.type, f.offset)) = fs → sizes T fs = some szs →
    (fa.mapM (m := Sem) fun f => do pure (f.offset, ← sizeOf f.type)).run P w = .ok ((fs.zip szs).map fun p => (p.1.2, p.2)) w := by
  induction fa with
  | nil => intro fs szs h1 h2; simp at h1; subst h1; simp [sizes] at h2; subst h2; simp
  | cons f r ih =>
    intro fs szs h1 h2
    simp at h1; subst h1
    simp only [sizes] at h2
    cases h3 : T.inf f.type with
    | none => simp [h3] at h2
    | some i => cases h4 : sizes T (r.map fun f => (f.type, f.offset)) with
      | none => simp [h3, h4] at h2
      | some ss =>
        simp [h3, h4] at h2; subst h2
        have := ih _ ss rfl h4
        rw [List.mapM_cons, Sem.run_bind, Sem.run_bind, T.sizeOf h3]
        simp only [Result.andThen_ok, Sem.run_pure]
        rw [Sem.run_bind, this]
        simp
theorem Y.build {fs : List (Nat × Nat)} {szs : List Nat} {i : Inf} {z : List Value} {l : List (Nat × Operand)} {ps : List (Nat × Value)} {qs : List (Nat × Nat × Value)} {cs : List Value}
    (hT : T.ty t = some (.struct fs)) (hI : T.inf t = some i) (hz : i.zero.cells.toList = z) (hz' : sizes T fs = some szs) (hp : pairs L l = some ps) (hq : places fs szs ps = some qs) (hc : lay z qs = some cs) : Yields P n L w (.build t l.toArray) ty (.agg cs.toArray) := by
  intro a ha d pos aft g
  obtain ⟨fa, h1, h2⟩ := T.ty_ok _ _ hT
  have hps := ha.pairs hp
  have hpl := run_places (P := P) (w := w) T fa.toList fs szs h2 hz'
  have hpl' : (fa.mapM (m := Sem) fun f => do pure (f.offset, ← sizeOf f.type)).run P w = .ok ((fs.zip szs).map fun p => (p.1.2, p.2)).toArray w := by
    rw [Array.mapM_eq_mapM_toList, Sem.run_map, hpl]; rfl
  have hfill : Instr.fill (((fs.zip szs).map fun p => (p.1.2, p.2)).toArray[·]?) i.zero.cells ps = some cs.toArray := by
    have := fill_lay (((fs.zip szs).map fun p => (p.1.2, p.2)).toArray[·]?) ps z qs cs ?_ hc
    · rw [← hz] at this; simpa using this
    · rw [← places_map fs szs ps qs hq]
      apply List.map_congr_left
      intro p _
      simp only [List.getElem?_toArray, List.getElem?_map, List.zip]
      rw [List.getElem?_zipWith]
      cases fs[p.1]? <;> cases szs[p.1]? <;> rfl
  have hlm : (l.toArray.map fun (p : Nat × Operand) => (p.1, a.eval p.2)).toList = ps := by simpa using hps
  simp only [execOp, Instr.build, Sem.run_bind, T.zeroValue hI, Result.andThen_ok, run_underlying h1, hpl', hlm, hfill, Sem.run_pure]

/-- a slice written out -/
theorem RW.lit (hs : Sees w0 h0 h O w) {e : TypeId} {i : Inf} {len : Nat} {l : List (Nat × Operand)} {vs : List Value} {cs : List Value} (hT : T.ty t = some (.slice e)) (hI : T.inf e = some i) (hp : pairs L l = some (vs.zipIdx.map fun p => (p.2, p.1))) (hlen : vs.length = len) (hsz : ∀ v ∈ vs, v.cells.size = i.size) (_hz : i.zero.cells.size = i.size) (hcs : vs.flatMap (·.cells.toList) = cs) (hd : dstOk n d = true) (hm : Nat.ble (len * i.size) 65536 = true) (hm2 : Nat.ble len 65536 = true)
    (K : ∀ b w', Sees w0 h0 h (⟨some ⟨b, 0, none⟩, len, len, e, i.size, cs⟩ :: O) w' → RW P n ops Q (updo d (.slice (some ⟨b, 0, none⟩) len len) L) w' rest) :
    RW P n ops Q L w (⟨d, .buildSlice t len l.toArray, ty, pos, aft, none⟩ :: rest) := by
  have ht : P.underlying t = some (.slice e) := T.ty_ok _ _ hT
  have hm' : len * i.size ≤ 65536 := Nat.le_of_ble_eq_true hm
  have hm2' : len ≤ 65536 := Nat.le_of_ble_eq_true hm2
  have key : ∀ (vs : List Value) (k : Nat) (pre suf : List Value), (∀ v ∈ vs, v.cells.size = i.size) → pre.length = k * i.size → suf.length = vs.length * i.size →
      lay (pre ++ suf) ((vs.zipIdx k).map fun p => (p.2 * i.size, i.size, p.1)) = some (pre ++ vs.flatMap (·.cells.toList)) := by
    intro vs
    induction vs with
    | nil => intro k pre suf _ _ hs; simp at hs; subst hs; simp [lay]
    | cons v r ih =>
      intro k pre suf h1 h2 h3
      simp only [List.zipIdx_cons, List.map_cons, lay]
      have hv := h1 v List.mem_cons_self
      simp only [List.length_cons, Nat.add_mul, Nat.one_mul] at h3
      rw [if_pos ⟨hv, by simp [h2]; omega⟩]
      have hput : ∀ (cs pre mid suf : List Value) (o : Nat), o = pre.length → mid.length = cs.length → putCells (pre ++ mid ++ suf) o cs = pre ++ cs ++ suf := by
        intro cs
        induction cs with
        | nil => intro pre mid suf o _ hm; simp at hm; subst hm; simp [putCells]
        | cons c r ih =>
          intro pre mid suf o ho hm
          cases mid with
          | nil => simp at hm
          | cons m1 mr =>
            simp only [putCells]
            have : (pre ++ m1 :: mr ++ suf).set o c = (pre ++ [c]) ++ mr ++ suf := by subst ho; simp
            rw [this, ih (pre ++ [c]) mr suf (o + 1) (by simp [ho]) (by simpa using hm)]
            simp
      have hsplit : suf = suf.take i.size ++ suf.drop i.size := (List.take_append_drop _ _).symm
      rw [hsplit, ← List.append_assoc, hput v.cells.toList pre (suf.take i.size) (suf.drop i.size) (k * i.size) h2.symm (by simp [hv]; omega)]
      rw [ih (k + 1) (pre ++ v.cells.toList) (suf.drop i.size) (fun u hu => h1 u (List.mem_cons_of_mem _ hu)) (by simp [h2, hv, Nat.add_mul]) (by simp; omega)]
      simp
  have hlcs : cs.length = len * i.size := by
    rw [← hcs, ← hlen]
    clear key hp hcs hlen hm hm' hm2 hm2'
    induction vs with
    | nil => simp
    | cons v r ih => simp [ih (fun u hu => hsz u (List.mem_cons_of_mem _ hu)), hsz v List.mem_cons_self, Nat.add_mul, Nat.add_comm]
  refine RW.step (v := .slice (some ⟨w.heap.size, 0, none⟩) len len) (w' := w.alloc (.cells cs.toArray e)) ?_ hd (K w.heap.size _ ?_)
  · intro a ha
    have hps := ha.pairs hp
    have hlm : (l.toArray.map fun (p : Nat × Operand) => (p.1, a.eval p.2)).toList = vs.zipIdx.map fun p => (p.2, p.1) := by simpa using hps
    have hzero : ((Array.range (len * i.size)).map fun j => i.zero.cells[j % i.zero.cells.size]!) = (madeCells i.zero.cells (len * i.size)) := rfl
    have hml : (madeCells i.zero.cells (len * i.size)).toList.length = vs.length * i.size := by simp [size_madeCells, hlen]
    have hfill := fill_lay (fun j => some (j * i.size, i.size)) (vs.zipIdx.map fun p => (p.2, p.1)) (madeCells i.zero.cells (len * i.size)).toList (vs.zipIdx.map fun p => (p.2 * i.size, i.size, p.1)) cs (by simp) (by
      have := key vs 0 [] _ hsz (by simp) hml
      simpa [hcs] using this)
    simp only [Array.toArray_toList] at hfill
    have hbig : ¬ len * i.size > 2 ^ 24 := by omega
    by_cases h0 : len * i.size = 0
    · have e0 : ∀ f g : Nat → Value, (Array.range (len * i.size)).map f = (Array.range (len * i.size)).map g := by intro f g; rw [h0]; simp
      simp only [execOp, Instr.buildSlice, Sem.run_bind, run_underlying ht, Result.andThen_ok, T.sizeOf hI, hbig, if_false, hlm]
      rw [if_pos h0]
      simp only [pure_bind]
      rw [e0 _ (fun j => i.zero.cells[j % i.zero.cells.size]!), hzero, hfill]
      rfl
    · simp only [execOp, Instr.buildSlice, Sem.run_bind, run_underlying ht, Result.andThen_ok, T.sizeOf hI, hbig, if_false, Sem.run_pure, h0, hlm, T.zeroValue hI]
      rw [hzero, hfill]
      rfl
  · exact hs.alloc (cs := cs) (n := len) (cap := len) (Nat.le_refl _) (by simp [maxLen]; omega) hlcs (List.take_of_length_le (by omega))

theorem Y.sliceNil {e : TypeId} {ad : Option Addr} {m cp m' cp' : Nat} {yt : TypeId} (hT : T.ty t = some (.slice e)) (hx : opv L x = some (.slice ad m cp)) (hy : opv L y = some (.slice none m' cp')) : Yields P n L w (.binOp .eql t x y yt) ty (.bool ad.isNone) := by
  intro a ha d pos aft g
  have ht : P.underlying t = some (.slice e) := T.ty_ok _ _ hT
  have hg : eqGuard .eql t x y (.slice ad m cp) (.slice none m' cp') = pure () := rfl
  simp only [execOp, ha.eval hx, ha.eval hy, hg, pure_bind]
  have hb' : ∀ k, (Op.equalIn (k + 1) t (.slice ad m cp) (.slice none m' cp')).run P w = .ok ad.isNone w := by
    intro k
    unfold Op.equalIn
    simp only [Sem.run_bind, run_underlying ht, Result.andThen_ok]
    cases ad <;> rfl
  have hb : (Op.equal t (.slice ad m cp) (.slice none m' cp')).run P w = .ok ad.isNone w := hb' 9999
  simp only [binOp, Sem.run_bind, hb, Result.andThen_ok, Sem.run_pure]
theorem Y.eqlB {b b' : Bool} {yt : TypeId} (hT : T.ty t = some .bool) (hx : opv L x = some (.bool b)) (hy : opv L y = some (.bool b')) : Yields P n L w (.binOp .eql t x y yt) ty (.bool (b == b')) := by
  intro a ha d pos aft g
  have ht : P.underlying t = some .bool := T.ty_ok _ _ hT
  have hg : eqGuard .eql t x y (.bool b) (.bool b') = pure () := rfl
  simp only [execOp, ha.eval hx, ha.eval hy, hg, pure_bind]
  have hb' : ∀ k, (Op.equalIn (k + 1) t (.bool b) (.bool b')).run P w = .ok (b == b') w := by
    intro k
    unfold Op.equalIn
    simp only [Sem.run_bind, run_underlying ht, Result.andThen_ok]
    rfl
  have hb : (Op.equal t (.bool b) (.bool b')).run P w = .ok (b == b') w := hb' 9999
  simp only [binOp, Sem.run_bind, hb, Result.andThen_ok, Sem.run_pure]
theorem Y.neqB {b b' : Bool} {yt : TypeId} (hT : T.ty t = some .bool) (hx : opv L x = some (.bool b)) (hy : opv L y = some (.bool b')) : Yields P n L w (.binOp .neq t x y yt) ty (.bool (!(b == b'))) := by
  intro a ha d pos aft g
  have ht : P.underlying t = some .bool := T.ty_ok _ _ hT
  have hg : eqGuard .neq t x y (.bool b) (.bool b') = pure () := rfl
  simp only [execOp, ha.eval hx, ha.eval hy, hg, pure_bind]
  have hb' : ∀ k, (Op.equalIn (k + 1) t (.bool b) (.bool b')).run P w = .ok (b == b') w := by
    intro k
    unfold Op.equalIn
    simp only [Sem.run_bind, run_underlying ht, Result.andThen_ok]
    rfl
  have hb : (Op.equal t (.bool b) (.bool b')).run P w = .ok (b == b') w := hb' 9999
  simp only [binOp, Sem.run_bind, hb, Result.andThen_ok, Sem.run_pure]
end

/-! ## Regions in whatever order, with operations that make memory -/
def HW (P : Program) (n : Nat) (ops : List Oper) (Q : Post) (S : World → Prop) (fuel : Nat) (listed : Array Bool) (L : Env) (w : World) : Prop :=
  ∀ a, Fits n L a → wpAnyH P .any ops.toArray (QL n Q) S fuel listed a w
def heldQ (P : Program) (n : Nat) (ops : List Oper) (Q : Post) (S : World → Prop) (fuel : Nat) (listed : Array Bool) : Post := fun e L w => match e with
  | .normal => S w ∧ HW P n ops Q S fuel listed L w
  | e => Q e L w
/-- a post that a panic does not meet -/
def calmQ (Q : Post) : Post := fun e L w => match e with
  | .panic _ => False
  | e => Q e L w
section
variable {P : Program} (T : Tab P) {n : Nat} {Q : Post} {S : World → Prop} {fuel : Nat} {listed : Array Bool} {L : Env} {w0 w : World} {h0 h : GHeap} {O : List Row} {ops : List Oper}
theorem CW.regionH (T' : Tab P) {id : Nat} {l : List Oper} (S : World → Prop) (hw : ∀ w', w' = { w with drawn := w.drawn + 1 } → HW P n l (calmQ Q) S l.length (Array.replicate l.length false) L w') : CW P n Q (.region id l.toArray true) L w := by
  refine CW.mono (Q := calmQ Q) ?_ (fun e L w q => by cases e <;> first | exact q | exact q.elim)
  intro a ha
  exact wp_region_held (S := S) T'.mixed (by simpa using hw _ rfl a ha)
theorem HW.take (i : Nat) {d : Option Tmp} {op : Op} {ty : TypeId} {pos : String} {aft : Array Edge} {v : Value} (hi : ops.toArray[i]? = some ⟨d, op, ty, pos, aft, none⟩) (hy : ∀ w, S w → Yields P n L w op ty v) (hS : S w) (hd : dstOk n d = true)
    (hs : Region.noSelect ops.toArray = true) (hf : Region.free .any ops.toArray listed i = true) (hr : (Region.ready .any ops.toArray listed).contains i = true)
    (hh : HW P n ops (calmQ Q) S fuel (listed.setIfInBounds i true) (updo d v L) w) : HW P n ops (calmQ Q) S (fuel + 1) listed L w := by
  intro a ha
  exact wpAnyH_take hi hs hf hr (fun c a w ⟨L', _, q⟩ => q.elim) (.inl ⟨by simp [Region.wanted], fun w' hw' => hy w' hw' a ha _ _ _ _⟩) hS (hh _ (ha.put v hd))
theorem HW.takeYes (i : Nat) {d : Option Tmp} {op : Op} {ty : TypeId} {pos : String} {aft : Array Edge} {v : Value} {j : Nat} {want : Bool} {t : Tmp} (hi : ops.toArray[i]? = some ⟨d, op, ty, pos, aft, some (j, want)⟩) (hj : gdst ops j = some t) (ht : get L t = some (.bool want)) (hy : ∀ w, S w → Yields P n L w op ty v) (hS : S w) (hd : dstOk n d = true)
    (hs : Region.noSelect ops.toArray = true) (hf : Region.free .any ops.toArray listed i = true) (hr : (Region.ready .any ops.toArray listed).contains i = true)
    (hh : HW P n ops (calmQ Q) S fuel (listed.setIfInBounds i true) (updo d v L) w) : HW P n ops (calmQ Q) S (fuel + 1) listed L w := by
  intro a ha
  exact wpAnyH_take hi hs hf hr (fun c a w ⟨L', _, q⟩ => q.elim) (.inl ⟨by simp [Region.wanted, yielded_of ha hj ht], fun w' hw' => hy w' hw' a ha _ _ _ _⟩) hS (hh _ (ha.put v hd))
theorem HW.takeNo (i : Nat) {d : Option Tmp} {op : Op} {ty : TypeId} {pos : String} {aft : Array Edge} {j : Nat} {want b : Bool} {t : Tmp} (hi : ops.toArray[i]? = some ⟨d, op, ty, pos, aft, some (j, want)⟩) (hj : gdst ops j = some t) (ht : get L t = some (.bool b)) (hb : (b == want) = false) (hS : S w) (hd : dstOk n d = true)
    (hs : Region.noSelect ops.toArray = true) (hf : Region.free .any ops.toArray listed i = true) (hr : (Region.ready .any ops.toArray listed).contains i = true)
    (hh : HW P n ops (calmQ Q) S fuel (listed.setIfInBounds i true) (updo d undef L) w) : HW P n ops (calmQ Q) S (fuel + 1) listed L w := by
  intro a ha
  exact wpAnyH_take hi hs hf hr (fun c a w ⟨L', _, q⟩ => q.elim) (.inr ⟨by simp [Region.wanted, yielded_of ha hj ht]; simpa using hb, rfl⟩) hS (hh _ (ha.put undef hd))
theorem HW.split {t : Tmp} {b : Bool} (ht : get L t = some (.bool b)) (h1 : b = true → HW P n ops Q S fuel listed ((t, .bool true) :: L) w) (h2 : b = false → HW P n ops Q S fuel listed ((t, .bool false) :: L) w) : HW P n ops Q S fuel listed L w := by
  intro a ha
  cases b with
  | true => exact h1 rfl a ⟨ha.size, ha.defers, fun k v hk => by
      rw [get_cons] at hk
      by_cases e : t = k
      · subst e; simp at hk; subst hk; exact ha.get _ _ ht
      · simp [e] at hk; exact ha.get _ _ hk⟩
  | false => exact h2 rfl a ⟨ha.size, ha.defers, fun k v hk => by
      rw [get_cons] at hk
      by_cases e : t = k
      · subst e; simp at hk; subst hk; exact ha.get _ _ ht
      · simp [e] at hk; exact ha.get _ _ hk⟩
theorem HW.done (hr : Region.ready .any ops.toArray listed = []) (hq : Q .normal L w) : HW P n ops Q S fuel listed L w := fun _ ha => wpAnyH_done hr ⟨L, ha, hq⟩ fuel
theorem HW.op {i : Nat} {o : Oper} (hi : ops.toArray[i]? = some o) (hh : RW P n ops (heldQ P n ops Q S fuel (listed.setIfInBounds i true)) L w [o]) {a : Act} (ha : Fits n L a) :
    wpOp P ops.toArray (QL n Q) i (fun a' w' => S w' ∧ wpAnyH P .any ops.toArray (QL n Q) S fuel (listed.setIfInBounds i true) a' w') a w := by
  have h1 := hh a ha
  unfold wpOp
  simp only [hi]
  unfold wpList at h1
  split
  · rename_i hw
    rw [if_pos hw] at h1
    have conv : ∀ a' w', wpList P ops.toArray (QL n (heldQ P n ops Q S fuel (listed.setIfInBounds i true))) [] a' w' → S w' ∧ wpAnyH P .any ops.toArray (QL n Q) S fuel (listed.setIfInBounds i true) a' w' := by
      rintro a' w' ⟨L', hL', q⟩
      exact ⟨q.1, q.2 a' hL'⟩
    rcases h1 with h1 | ⟨h1, h2⟩
    · refine .inl ?_
      unfold Oper.wp at h1 ⊢
      generalize (execOp a.eval o).run P w = r at h1 ⊢
      cases r with
      | ok nx w' =>
        cases nx <;> simp only [Oper.upon] at h1 ⊢ <;> first
          | exact conv _ _ h1
          | (refine Calls.mono h1 fun e w'' he => ?_
             cases e with
             | returned v => exact conv _ _ he
             | panicked ch => obtain ⟨L', hL', q⟩ := he; exact ⟨L', hL', q⟩
             | outgrown => obtain ⟨a1, w1, L', hL', q⟩ := he; exact ⟨a1, w1, L', hL', q⟩)
          | exact Rows.mono h1 fun v w'' he => conv _ _ he
      | halt x w' => cases x <;> simp only [Oper.upon] at h1 ⊢; obtain ⟨L', hL', q⟩ := h1; exact ⟨L', hL', q⟩
    · refine .inr ⟨h1, ?_⟩
      obtain ⟨a1, w1, L', hL', q⟩ := h2
      exact ⟨a1, w1, L', hL', q⟩
  · rename_i hw
    rw [if_neg hw] at h1
    obtain ⟨L', hL', q⟩ := h1
    exact ⟨q.1, q.2 _ hL'⟩
/-- one that may come up -/
theorem HW.one (i : Nat) {o : Oper} (hi : ops.toArray[i]? = some o) (hr : Region.ready .any ops.toArray listed = [i]) (hh : RW P n ops (heldQ P n ops Q S fuel (listed.setIfInBounds i true)) L w [o]) : HW P n ops Q S (fuel + 1) listed L w :=
  fun _ ha => wpAnyH_all hr (by simp) (by intro j hj; simp at hj; subst hj; exact HW.op hi hh ha)
/-- two that may come up -/
theorem HW.two (i j : Nat) {o o' : Oper} (hi : ops.toArray[i]? = some o) (hj : ops.toArray[j]? = some o') (hr : Region.ready .any ops.toArray listed = [i, j]) (hh : RW P n ops (heldQ P n ops Q S fuel (listed.setIfInBounds i true)) L w [o]) (hh' : RW P n ops (heldQ P n ops Q S fuel (listed.setIfInBounds j true)) L w [o']) : HW P n ops Q S (fuel + 1) listed L w :=
  fun _ ha => wpAnyH_all hr (by simp) (by
    intro k hk; simp at hk
    rcases hk with rfl | rfl
    · exact HW.op hi hh ha
    · exact HW.op hj hh' ha)
theorem HW.three (i j k : Nat) {o o' o2 : Oper} (hi : ops.toArray[i]? = some o) (hj : ops.toArray[j]? = some o') (hk : ops.toArray[k]? = some o2) (hr : Region.ready .any ops.toArray listed = [i, j, k]) (hh : RW P n ops (heldQ P n ops Q S fuel (listed.setIfInBounds i true)) L w [o]) (hh' : RW P n ops (heldQ P n ops Q S fuel (listed.setIfInBounds j true)) L w [o']) (hh2 : RW P n ops (heldQ P n ops Q S fuel (listed.setIfInBounds k true)) L w [o2]) : HW P n ops Q S (fuel + 1) listed L w :=
  fun _ ha => wpAnyH_all hr (by simp) (by
    intro q hq; simp at hq
    rcases hq with rfl | rfl | rfl
    · exact HW.op hi hh ha
    · exact HW.op hj hh' ha
    · exact HW.op hk hh2 ha)
theorem heldQ_normal (hS : S w) (hh : HW P n ops Q S fuel listed L w) : heldQ P n ops Q S fuel listed .normal L w := ⟨hS, hh⟩
theorem calmQ_normal (hh : Q .normal L w) : calmQ Q .normal L w := hh
end
end Go.Proofs.Ytdpkioffihebnaa
