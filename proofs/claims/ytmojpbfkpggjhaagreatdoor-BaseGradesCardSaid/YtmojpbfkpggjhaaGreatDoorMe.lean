/-
  Own texts of the claim, merged: Wh. Lemmas of the proof; no statement is proved here.
-/
import Derived.Test.YtmojpbfkpggjhaaGreatDoorMd
/-
  Contracts of the law's own functions of layer 27: parts in order. No statement is proved here.
-/
namespace Go.Proofs.YtmojpbfkpggjhaaGreatDoor
open Go Go.RowKit
set_option linter.unusedVariables false
set_option linter.unusedSimpArgs false
set_option maxHeartbeats 4000000
attribute [local irreducible] CW RW QW SW HW ConM retM heldQ calmQ elemP thenQ blockQ loopQ joinQ retQ Yields Con Sl zF magR unitF truncF fwF wholeF tidySpec elemQ rankF leastN tidyW
set_option maxHeartbeats 4000000
attribute [local irreducible] mixN wrN wr32 keyIt keyP

theorem yields_eq {P n L w op ty} {u1 u2 : Value} (h : Yields P n L w op ty u1) (e : u1 = u2) : Yields P n L w op ty u2 := e ▸ h
theorem len5 {α : Type} {R : GHeap → List Value → α → Prop} {h : GHeap} {vc : List Value} {x : VecD α} (hv : VecAt R h vc x) (e : x.kind = 5) : x.len = x.chars.length := by
  have c : x.cls = 1 := by unfold VecD.cls; rw [if_pos e]
  rcases hv.sorts with ⟨y, _⟩ | ⟨_, y⟩ | ⟨y, _⟩
  · omega
  · exact y
  · omega
theorem gradeO_eq {f g : Nat → Int} {s : List Int} {down : Bool} {n : Nat} {x1 x2 : List Nat} (hfg : ∀ i, i < n → g i = f i) (h1 : GradeO f s down n x1) (h2 : GradeO g s down n x2) : x1 = x2 := by
  rcases h1 with ⟨a1, rfl⟩ | ⟨a1, b1⟩
  · rcases h2 with ⟨a2, rfl⟩ | ⟨a2, b2⟩
    · rfl
    · omega
  · rcases h2 with ⟨a2, rfl⟩ | ⟨a2, b2⟩
    · omega
    · refine (b1.imp (fun i j hi hj hij => ltS_congr (fun m hm => ?_) hij)).eq b2 (ltS_asym (ahL_weak _ _ _))
      have hdm : n / (cellN s).toNat * (cellN s).toNat ≤ n := Nat.div_mul_le_self _ _
      exact ⟨(hfg _ (cell_in hdm hi hm)).symm, (hfg _ (cell_in hdm hj hm)).symm⟩
theorem gradeO_facts {g : Nat → Int} {s : List Int} {down : Bool} {n : Nat} {x : List Nat} (hs : 0 < s.length → s.getD 0 0 ≤ 1048576) (h0 : 0 < s.length) (hn : n ≤ 1048576) (h : GradeO g s down n x) : x.length ≤ 1048576 ∧ ∀ j, j < x.length → x.getD j 0 < 1048577 := by
  have hs0 := hs h0
  rcases h with ⟨_, rfl⟩ | ⟨a, b⟩
  · refine ⟨by rw [List.length_range]; omega, fun j hj => ?_⟩
    rw [List.length_range] at hj
    rw [List.getD_eq_getElem?_getD, List.getElem?_range hj]
    show j < _
    omega
  · have hdl : n / (cellN s).toNat ≤ n := Nat.div_le_self _ _
    refine ⟨by rw [b.len]; omega, fun j hj => ?_⟩
    rw [b.len] at hj
    have := b.lt_n j hj
    omega
theorem gradeO_one {g : Nat → Int} {s : List Int} {down : Bool} {n : Nat} {x : List Nat} (hs : s.length = 1) (h : GradeO g s down n x) : InOrder (ltS (ahL g 1 down)) n x := by
  have hc : cellN s = 1 := by
    match s, hs with
    | [d], _ => show (product [] 1048576).1 = 1; decide
  unfold GradeO at h
  rw [hc] at h
  rcases h with ⟨a, _⟩ | ⟨_, b⟩
  · omega
  · rw [show (1 : Int).toNat = 1 from rfl, Nat.div_one] at b
    exact b
theorem plus_get (x : List Nat) (o : Int) (j : Nat) (hj : j < x.length) : ((plusL (natsI x) o).map fwF).getD j 0 = fwF ((x.getD j 0 : Nat) + o) := by
  rw [List.getD_eq_getElem?_getD, map_get fwF (plusL (natsI x) o) j 0 (by rw [plusL_len, natsI_len]; exact hj)]
  show fwF ((plusL (natsI x) o).getD j 0) = _
  congr 1
  unfold plusL
  rw [List.getD_eq_getElem?_getD, map_get (fun n : Int => n + o) (natsI x) j 0 (by rw [natsI_len]; exact hj), natsI_get]
  rfl
theorem items_cell {α : Type} {R : GHeap → List Value → α → Prop} {h : GHeap} {N : List Nat} {xs : List Value} (hA : AllN 4 (ItemAt R h) xs (PlainD.items (numsP N : PlainD α))) (i : Nat) (hi : i < N.length) : xs[i * 4 + 1]? = some (.float .f64 (N.getD i 0)) := by
  have hl : i < (PlainD.items (numsP N : PlainD α)).length := by show i < (N.map _).length; rw [List.length_map]; exact hi
  obtain ⟨y, hy, hyl, hRy⟩ := hA.elem i hl
  have e : (PlainD.items (numsP N : PlainD α))[i] = ⟨0, N.getD i 0, 0, []⟩ := by
    show (List.map (fun x => (⟨0, x, 0, []⟩ : ItemD α)) N)[i]'(by rw [List.length_map]; exact hi) = _
    rw [List.getElem_map, List.getD_eq_getElem?_getD, List.getElem?_eq_getElem hi]; rfl
  rw [e] at hRy
  obtain ⟨bx, rfl, _⟩ := hRy
  have := congrArg (fun z : List Value => z[1]?) hy
  dsimp only at this
  rw [List.getElem?_take_of_lt (by omega), List.getElem?_drop] at this
  exact this
theorem adj_order {g f : Nat → Int} {down : Bool} {n : Nat} {x : List Nat} (h : InOrder (ltS (ahL g 1 down)) n x) (hf : ∀ j, j < x.length → f j = g (x.getD j 0)) : ∀ i, i + 1 < x.length → (down = false → ¬ 0 < lexC f 1 i (i + 1) 1) ∧ (down = true → ¬ lexC f 1 i (i + 1) 1 < 0) := by
  intro i hi
  have hl := h.len
  have := h.ord i (i + 1) (by omega) (by omega)
  rw [ltS_ahL, lex1, ← hf i (by omega), ← hf (i + 1) hi] at this
  rw [lex1]
  cases down with
  | false => rw [if_neg (by decide)] at this; exact ⟨fun _ => by omega, fun e => nomatch e⟩
  | true => rw [if_pos rfl] at this; exact ⟨(fun e => nomatch e), fun _ => by omega⟩
theorem baseGradesLaw_con (k : Nat) (cs : List Value) (p : PD (k + 2)) (down one : Bool) (w : World) (h : GHeap) (hT : TzTab h) (hp : PlainAt (k + 2) h cs p) (hch : ∀ x ∈ PlainD.items (α := PD (k + 1)) p, -2147483648 ≤ x.char ∧ x.char < 2147483648) : Con Tryz.prog 7 [.agg cs.toArray, .bool down, .bool one] w h (fun _ u => u = .bool true) := by
  have hp' := hp
  obtain ⟨s, it, rfl, ⟨ad, cp, rfl, _⟩, ⟨ad2, cp2, xs, rfl, _, _⟩⟩ := hp
  refine Con.of_body Tryz.func7 rfl Tryz.ntmps7 rfl rfl ?_
  intro hs
  refine Zrun ?_
  (refine RW.boxN hs rfl rfl ?_; intro b1 w1 hs)
  refine Zerun ?_
  (refine RW.call T hs rfl rfl rfl (fine27_con (k + 1) _ p _ _ hp') ?_; intro v h3 w3 hle3 hp3 hs)
  obtain ⟨b, rfl, hb⟩ := hp3
  have hp' := PlainAt.mono (k + 2) _ _ _ _ hle3 hp'
  have hT := hT.mono hle3
  cases b with
  | false =>
    refine Zerun ?_
    (refine RW.call T hs rfl rfl rfl (awake27_con _ _ hT) ?_; intro v h13 w13 hle13 hp13 hs)
    subst hp13
    refine Zerun ?_
    exact retQ_ret [_] h13 ⟨rfl, trivial⟩ hs.dropAll rfl
  | true =>
  obtain ⟨hc, h8, _⟩ := hb rfl
  by_cases c1 : 300 < (PlainD.items (α := PD (k + 1)) p).length
  · refine Zerun ?_
    (refine RW.call T hs rfl rfl rfl (awake27_con _ _ hT) ?_; intro v h5 w5 hle5 hp5 hs)
    subst hp5
    refine Zerun ?_
    exact retQ_ret [_] h5 ⟨rfl, trivial⟩ hs.dropAll rfl
  have hgood := good_arr (k + 2) 40 p hc
  have hsml := good_sml (k + 2) 40 _ hgood
  have hcr := arr_chars (k + 1) p hch
  have hit := arr_items (k + 1) 40 p hc
  have hil : (PlainD.items (α := PD (k + 1)) (tidy (k + 2) p)).length = (PlainD.items (α := PD (k + 1)) p).length := List.length_map _
  obtain ⟨_, f1, f2, f4, _⟩ := (chkP_ok (α := PD (k + 1)) _ _ _).1 hc
  have hfl : (ArrD.vec (α := AD (k + 1)) (arr (k + 2) p)).cls = PlainD.fill (α := PD (k + 1)) p := cls_arrV (arr (k + 1)) _ _ f1 f2
  have hgs : goodS (PlainD.shape (α := PD (k + 1)) p) = true := by unfold goodS; rw [f4]; rfl
  have hd := good_le _ hgs
  refine Zerun ?_
  (refine RW.call T hs rfl rfl rfl (of07_con (k + 2) _ p _ _ hp' hc) ?_; intro v h28 w28 hle28 hp28 hs)
  obtain ⟨cs28, rfl, _, _, hn28⟩ := hp28
  have hp' := PlainAt.mono (k + 2) _ _ _ _ hle28 hp'
  have hT := hT.mono hle28
  have hv28 : ∃ vc, VecAt (ArrAt (k + 1)) h28 vc (ArrD.vec (α := AD (k + 1)) (arr (k + 2) p)) := by obtain ⟨_, vc, _, _, hv⟩ := id hn28; exact ⟨vc, hv⟩
  obtain ⟨vc28, hv28⟩ := hv28
  have hev := itemsV_even (plain (k + 1)) hv28
  have hiv := itemsV_len (plain (k + 1)) hv28
  have hgg := gI_gV (plain (k + 1)) (ArrD.vec (α := AD (k + 1)) (arr (k + 2) p))
  rw [hit] at hev hiv hgg
  have hlc : (ArrD.vec (α := AD (k + 1)) (arr (k + 2) p)).kind = 5 → (ArrD.vec (α := AD (k + 1)) (arr (k + 2) p)).len = (ArrD.vec (α := AD (k + 1)) (arr (k + 2) p)).chars.length := fun e => len5 hv28 e
  refine Zerun ?_
  (refine RW.call T hs rfl rfl rfl (origin27_con one _ _) ?_; intro v h31 w31 hle31 hp31 hs)
  subst hp31
  have hp' := PlainAt.mono (k + 2) _ _ _ _ hle31 hp'
  have hT := hT.mono hle31
  have hn28 := ArrAt.mono (k + 2) _ _ _ _ hle31 hn28
  have hso := orgN_rng one
  refine Zerun ?_
  (refine RW.call T hs rfl rfl rfl (baseGrade_con (k + 1) _ (arr (k + 2) p) down (orgN one) _ _ hT hn28 h8 hd hsml.2.1 hcr hgood.2.1 hso) ?_; intro v h32 w32 hle32 hp32 hs)
  obtain ⟨cs32, e32, r32, rfl, hA, hG⟩ := hp32
  have hp' := PlainAt.mono (k + 2) _ _ _ _ hle32 hp'
  have hT := hT.mono hle32
  have hA' := hA
  obtain ⟨_, vc32, rfl, ⟨ad32, cap32, rfl, _⟩, hv32⟩ := hA
  obtain ⟨wv32, nv32, sm32, il32, fl32, ch32, bx32, ⟨rfl, hoc32⟩, -⟩ := hv32
  refine Zerun ?_
  (refine RW.allocN T hs rfl rfl rfl rfl ?_; intro b7 w7 hs)
  (refine RW.storeAll T hs 0 rfl rfl rfl rfl rfl rfl (by show (Value.oneCell' (.slice ad32 _ cap32) && (vecCells _ wv32 nv32 sm32 il32 fl32 ch32 bx32).all Value.oneCell') = true; rw [hoc32]; rfl) rfl ?_; intro w932 hs)
  refine Zerun ?_
  (refine RW.call T hs rfl rfl rfl (refTidyP_con (k + 2) 40 _ p _ _ hp' hc) ?_; intro v h37 w37 hle37 hp37 hs)
  obtain ⟨cs37, rfl, hq37⟩ := hp37
  have hp' := PlainAt.mono (k + 2) _ _ _ _ hle37 hp'
  have hT := hT.mono hle37
  have hA' := ArrAt.mono (k + 2) _ _ _ _ hle37 hA'
  refine Zerun ?_
  (refine RW.call T hs rfl rfl rfl (origin27_con one _ _) ?_; intro v h40 w40 hle40 hp40 hs)
  subst hp40
  have hp' := PlainAt.mono (k + 2) _ _ _ _ hle40 hp'
  have hT := hT.mono hle40
  have hA' := ArrAt.mono (k + 2) _ _ _ _ hle40 hA'
  have hq37 := PlainAt.mono (k + 2) _ _ _ _ hle40 hq37
  refine Zerun ?_
  (refine RW.call T hs rfl rfl rfl (ref27Grade_con (k + 1) _ (tidy (k + 2) p) down (orgN one) _ _ hq37 h8 hd (by rw [hiv]; exact hsml.2.1) (fun x hx => by have := hev x hx; rw [hfl] at this; exact this) hso) ?_; intro v h41 w41 hle41 hp41 hs)
  obtain ⟨cs41, e41, r41, rfl, hP, hH⟩ := hp41
  have hp' := PlainAt.mono (k + 2) _ _ _ _ hle41 hp'
  have hT := hT.mono hle41
  have hA' := ArrAt.mono (k + 2) _ _ _ _ hle41 hA'
  have hP' := hP
  obtain ⟨s41, it41, rfl, ⟨adS41, cpS41, rfl, _⟩, hit41⟩ := hP
  have hit41' := hit41
  obtain ⟨adI, cpI, xsI, rfl, hSI, hAI⟩ := hit41
  refine Zerun ?_
  (refine RW.allocN T hs rfl rfl rfl rfl ?_; intro b9 w9 hs)
  (refine RW.storeAll T hs 0 rfl rfl rfl rfl rfl rfl rfl rfl ?_; intro w941 hs)
  refine Zerun ?_
  rcases hG with ⟨q0, rfl, rfl⟩ | ⟨q0, q1, rfl, rfl⟩ | ⟨q0, q1, rfl, o1, rfl, hO1⟩
  · obtain ⟨rfl, rfl⟩ : e41 = 22 ∧ r41 = (zeroP : PlainD (PD (k + 1))) := by
      rcases hH with ⟨t0, e', e2⟩ | ⟨t0, t1, e', e2⟩ | ⟨t0, t1, e', _⟩
      · exact ⟨e', e2⟩
      · exact absurd q0 t0
      · exact absurd q0 t0
    (refine RW.call T hs rfl rfl rfl (shows27E_con (α := AD (k + 1)) (R := ArrAt (k + 1)) (Rq := PlainAt (k + 1)) _ _ zeroP 22 _ _ (.inl rfl) hA' hP') ?_; intro v h48 w48 hle48 hp48 hs)
    subst hp48
    have hT := hT.mono hle48
    refine Zerun ?_
    (refine RW.call T hs rfl rfl rfl (awake27_con _ _ hT) ?_; intro v h58 w58 hle58 hp58 hs)
    subst hp58
    refine Zerun ?_
    exact retQ_ret [_] h58 ⟨rfl, trivial⟩ hs.dropAll rfl
  · obtain ⟨rfl, rfl⟩ : e41 = 24 ∧ r41 = (zeroP : PlainD (PD (k + 1))) := by
      rcases hH with ⟨t0, e', e2⟩ | ⟨t0, t1, e', e2⟩ | ⟨t0, t1, e', _⟩
      · exact absurd t0 q0
      · exact ⟨e', e2⟩
      · exact absurd (hfl.symm.trans q1) t1
    (refine RW.call T hs rfl rfl rfl (shows27E_con (α := AD (k + 1)) (R := ArrAt (k + 1)) (Rq := PlainAt (k + 1)) _ _ zeroP 24 _ _ (.inr (.inr (.inl rfl))) hA' hP') ?_; intro v h48 w48 hle48 hp48 hs)
    subst hp48
    have hT := hT.mono hle48
    refine Zerun ?_
    (refine RW.call T hs rfl rfl rfl (awake27_con _ _ hT) ?_; intro v h58 w58 hle58 hp58 hs)
    subst hp58
    refine Zerun ?_
    exact retQ_ret [_] h58 ⟨rfl, trivial⟩ hs.dropAll rfl
  obtain ⟨rfl, o2, rfl, hO2⟩ : e41 = 0 ∧ ∃ out : List Nat, r41 = (numsP ((plusL (natsI out) (orgN one)).map fwF) : PlainD (PD (k + 1))) ∧ GradeO (fun j => gI ((PlainD.items (α := PD (k + 1)) (tidy (k + 2) p)).getD j d0I)) (PlainD.shape (α := PD (k + 1)) p) down (PlainD.items (α := PD (k + 1)) (tidy (k + 2) p)).length out := by
    rcases hH with ⟨t0, _⟩ | ⟨t0, t1, _⟩ | ⟨t0, t1, e', o, e2, e3⟩
    · exact absurd t0 q0
    · exact absurd (hfl.trans t1) q1
    · exact ⟨e', o, e2, e3⟩
  have hcl : (ArrD.vec (α := AD (k + 1)) (arr (k + 2) p)).cls = 0 ∨ (ArrD.vec (α := AD (k + 1)) (arr (k + 2) p)).cls = 1 := by omega
  rw [hiv] at hO2
  obtain rfl := gradeO_eq (fun i hi => hgg hcl i (by rw [hiv]; exact hi)) hO1 hO2
  have hbd := gradeO_facts (fun hne => (hd _ (memD _ 0 hne)).2) (Nat.pos_of_ne_zero q0) hsml.2.1 hO1
  have hrng : ∀ n ∈ natsI o1, -4503599627370496 ≤ n + orgN one ∧ n + orgN one ≤ 4503599627370496 := fun z hz => by have := natsI_mem (n := 1048577) hbd.2 z hz; omega
  have htd := plusL_tidy (natsI o1) (orgN one) hrng
  have hNl : ((plusL (natsI o1) (orgN one)).map fwF).length = o1.length := by rw [List.length_map, plusL_len, natsI_len]
  obtain ⟨Nn, hNn⟩ : ∃ Nn, (plusL (natsI o1) (orgN one)).map fwF = Nn := ⟨_, rfl⟩
  have hNg : ∀ j, j < o1.length → ((plusL (natsI o1) (orgN one)).map fwF).getD j 0 = fwF ((o1.getD j 0 : Nat) + orgN one) := fun j hj => plus_get o1 (orgN one) j hj
  rw [hNn] at hs hA' hP' hit41' htd hNl hNg ⊢
  (refine RW.call T hs rfl rfl rfl (shows27_con (k + 1) _ _ (numsA (k + 1) Nn : AD (k + 2)) (numsP Nn : PlainD (PD (k + 1))) _ _ hA' hP' (numsA_good (k + 1) Nn 40 (by omega) (by omega)) (numsA_plain (k + 1) Nn) (numsP_tdy (k + 1) Nn htd)) ?_; intro v h48 w48 hle48 hp48 hs)
  subst hp48
  have hT := hT.mono hle48
  have hp' := PlainAt.mono (k + 2) _ _ _ _ hle48 hp'
  have hSI := hSI.mono hle48
  by_cases cr : (PlainD.shape (α := PD (k + 1)) p).length = 1
  rotate_left
  · have hcr2 : ¬ ((PlainD.shape (α := PD (k + 1)) p).length : Int) = 1 := by omega
    refine Zerun ?_
    (refine RW.call T hs rfl rfl rfl (awake27_con _ _ hT) ?_; intro v h58 w58 hle58 hp58 hs)
    subst hp58
    refine Zerun ?_
    exact retQ_ret [_] h58 ⟨rfl, trivial⟩ hs.dropAll rfl
  have hcr2 : ((PlainD.shape (α := PD (k + 1)) p).length : Int) = 1 := by omega
  have hord := gradeO_one cr hO1
  have hol := hord.len
  have hsl : (PlainD.items (α := PD (k + 1)) (numsP Nn)).length = o1.length := by show (Nn.map _).length = _; rw [List.length_map, hNl]
  rw [hNn] at hSI hAI
  rw [hsl] at hs hSI
  refine Zerun ?_
  have hs := hs.nilRow 3 1
  refine CW.meetB (fun u : (Option Addr × Nat) × GHeap => [(1, .bool down), (2, .bool one), (3, .pointer (some ⟨b1, 0, none⟩)), (11, .slice u.1.1 o1.length u.1.2)]) (fun u w' => GLe h48 u.2 ∧ Sees w h u.2 [⟨u.1.1, o1.length, u.1.2, 3, 1, (natsI o1).map (Value.int .i64)⟩, ⟨some ⟨b9, 0, none⟩, 1, 1, 25, 3, [.slice adS41 (PlainD.shape (α := PD (k + 1)) (numsP Nn)).length cpS41, .slice adI o1.length cpI, .int .i64 (PlainD.fill (α := PD (k + 1)) (numsP Nn))]⟩, ⟨some ⟨b7, 0, none⟩, 1, 1, 40, 9, .slice ad32 (ArrD.shape (α := AD (k + 1)) (numsA (k + 1) Nn)).length cap32 :: vecCells (ArrD.vec (α := AD (k + 1)) (numsA (k + 1) Nn)).kind wv32 nv32 sm32 il32 fl32 ch32 bx32⟩, ⟨some ⟨b1, 0, none⟩, 1, 1, 25, 3, [.slice ad (PlainD.shape (α := PD (k + 1)) p).length cp, .slice ad2 (PlainD.items (α := PD (k + 1)) p).length cp2, .int .i64 (PlainD.fill (α := PD (k + 1)) p)]⟩] w') ?_ ?_
  · refine CW.loop (fun u : Nat × (Option Addr × Nat) × GHeap => [(1, .bool down), (2, .bool one), (3, .pointer (some ⟨b1, 0, none⟩)), (9, .pointer (some ⟨b9, 0, none⟩)), (11, .slice u.2.1.1 u.1 u.2.1.2), (12, .int .i64 u.1)]) (fun u w' => u.1 ≤ o1.length ∧ GLe h48 u.2.2 ∧ Sees w h u.2.2 [⟨u.2.1.1, u.1, u.2.1.2, 3, 1, (natsI (o1.take u.1)).map (Value.int .i64)⟩, ⟨some ⟨b9, 0, none⟩, 1, 1, 25, 3, [.slice adS41 (PlainD.shape (α := PD (k + 1)) (numsP Nn)).length cpS41, .slice adI o1.length cpI, .int .i64 (PlainD.fill (α := PD (k + 1)) (numsP Nn))]⟩, ⟨some ⟨b7, 0, none⟩, 1, 1, 40, 9, .slice ad32 (ArrD.shape (α := AD (k + 1)) (numsA (k + 1) Nn)).length cap32 :: vecCells (ArrD.vec (α := AD (k + 1)) (numsA (k + 1) Nn)).kind wv32 nv32 sm32 il32 fl32 ch32 bx32⟩, ⟨some ⟨b1, 0, none⟩, 1, 1, 25, 3, [.slice ad (PlainD.shape (α := PD (k + 1)) p).length cp, .slice ad2 (PlainD.items (α := PD (k + 1)) p).length cp2, .int .i64 (PlainD.fill (α := PD (k + 1)) p)]⟩] w') (fun u => o1.length - u.1) (0, (none, 0), h48) ⟨rfl, rfl, rfl, rfl, rfl, rfl, trivial⟩ ⟨by omega, GLe.refl _, hs⟩ ?_
    rintro ⟨i, ⟨ai, ci⟩, hh⟩ w5 ⟨hi, hg, hs⟩
    dsimp only at hi hg hs ⊢
    have hSI' := hSI.mono hg
    by_cases hlt : i < o1.length
    · have hxi := items_cell hAI i (by rw [hNl]; exact hlt)
      rw [hNg i hlt] at hxi
      have hz1 := hrng _ (memD (natsI o1) i (by rw [natsI_len]; exact hlt))
      rw [natsI_get] at hz1
      have htm : natsI (o1.take (i + 1)) = natsI (o1.take i) ++ [((o1.getD i 0 : Nat) : Int)] := by unfold natsI; exact takeMap _ o1 hlt 0
      obtain ⟨z, hz⟩ : ∃ z : Int, ((o1.getD i 0 : Nat) : Int) = z := ⟨_, rfl⟩
      rw [hz] at hxi hz1 htm
      obtain ⟨f1, f2⟩ := fwF_spec (z + orgN one) (by omega)
      have ftr := trunc_exact _ _ f2
      have hbt : -9223372036854775808 ≤ truncF (fwF (z + orgN one)) ∧ truncF (fwF (z + orgN one)) ≤ 9223372036854775807 := by rw [ftr]; omega
      refine Zerun ?_
      refine CW.regionG T 1 1 hs rfl rfl ?_
      intro w66 hs
      have hgl := GLe.refl hh
      refine HW.takeG (fuel := 13) 0 rfl (fun _ _ ka kb _ hg hs hka hkb => Y.move rfl) ⟨_, _, 1, 1, hgl, hs, rfl, rfl⟩ rfl (by kernel_rfl) (by kernel_rfl) (by kernel_rfl) ?_
      refine HW.takeG (fuel := 12) 1 rfl (fun _ _ ka kb _ hg hs hka hkb => Y.fieldAddr T rfl rfl rfl rfl rfl) ⟨_, _, 1, 1, hgl, hs, rfl, rfl⟩ rfl (by kernel_rfl) (by kernel_rfl) (by kernel_rfl) ?_
      refine HW.takeG (fuel := 11) 2 rfl (fun _ _ ka kb _ hg hs hka hkb => Y.loadRow1 T hs ka hka rfl rfl rfl rfl) ⟨_, _, 1, 1, hgl, hs, rfl, rfl⟩ rfl (by kernel_rfl) (by kernel_rfl) (by kernel_rfl) ?_
      refine HW.takeG (fuel := 10) 3 rfl (fun _ _ ka kb _ hg hs hka hkb => Y.move rfl) ⟨_, _, 1, 1, hgl, hs, rfl, rfl⟩ rfl (by kernel_rfl) (by kernel_rfl) (by kernel_rfl) ?_
      refine HW.takeG (fuel := 9) 4 rfl (fun _ _ ka kb _ hg hs hka hkb => Y.idxSN T rfl rfl (hSI'.mono hg) rfl rfl rfl hlt) ⟨_, _, 1, 1, hgl, hs, rfl, rfl⟩ rfl (by kernel_rfl) (by kernel_rfl) (by kernel_rfl) ?_
      refine HW.takeG (fuel := 8) 5 rfl (fun _ _ ka kb _ hg hs hka hkb => Y.fieldE T rfl rfl rfl rfl rfl (hSI'.mono hg) hlt) ⟨_, _, 1, 1, hgl, hs, rfl, rfl⟩ rfl (by kernel_rfl) (by kernel_rfl) (by kernel_rfl) ?_
      refine HW.takeG (fuel := 7) 6 rfl (fun _ _ ka kb _ hg hs hka hkb => Y.ldQ T hs rfl (hSI'.mono hg) rfl rfl hlt rfl hxi) ⟨_, _, 1, 1, hgl, hs, rfl, rfl⟩ rfl (by kernel_rfl) (by kernel_rfl) (by kernel_rfl) ?_
      refine HW.takeG (fuel := 6) 7 rfl (fun _ _ ka kb _ hg hs hka hkb => yields_eq (Y.convFI T rfl rfl rfl f1.2.1 hbt) (congrArg (Value.int .i64) ftr)) ⟨_, _, 1, 1, hgl, hs, rfl, rfl⟩ rfl (by kernel_rfl) (by kernel_rfl) (by kernel_rfl) ?_
      refine HW.takeG (fuel := 5) 8 rfl (fun _ _ ka kb _ hg hs hka hkb => Y.move rfl) ⟨_, _, 1, 1, hgl, hs, rfl, rfl⟩ rfl (by kernel_rfl) (by kernel_rfl) (by kernel_rfl) ?_
      refine HW.one (fuel := 4) 9 rfl (by kernel_rfl) ?_
      (refine RW.call T hs rfl rfl rfl (origin27_con one _ _) ?_; intro v h75 w75 hle75 hp75 hs)
      subst hp75
      have hgl := hgl.trans hle75
      refine RW.nil ?_
      refine heldQ_normal ⟨_, _, 1, 1, hgl, hs, rfl, rfl⟩ ?_
      refine HW.takeG (fuel := 3) 10 rfl (fun _ _ ka kb _ hg hs hka hkb => Y.sub rfl rfl (by omega)) ⟨_, _, 1, 1, hgl, hs, rfl, rfl⟩ rfl (by kernel_rfl) (by kernel_rfl) (by kernel_rfl) ?_
      refine HW.one (fuel := 2) 11 rfl (by kernel_rfl) ?_
      (refine RW.lit T hs (vs := [.int .i64 (z + orgN one - orgN one)]) (cs := [.int .i64 (z + orgN one - orgN one)]) rfl rfl rfl rfl (by simp [Value.cells]) rfl rfl rfl rfl rfl ?_; intro b77 w77 hs)
      refine RW.nil ?_
      refine heldQ_normal ⟨_, _, 2, 2, hgl, hs, rfl, rfl⟩ ?_
      refine HW.one (fuel := 1) 12 rfl (by kernel_rfl) ?_
      (refine RW.append T hs 1 rfl rfl (m := 1) (news := [.int .i64 (z + orgN one - orgN one)]) rfl rfl rfl rfl rfl rfl (hs.src0 rfl (by simp [Value.oneCell'])) (by simp) (by dsimp only; omega) (by omega) ?_; intro ad78 cp78 w78 hs; replace hs := hs.drop)
      refine RW.nil ?_
      refine heldQ_normal ⟨_, _, 1, 1, hgl, hs, rfl, rfl⟩ ?_
      refine HW.takeG (fuel := 0) 13 rfl (fun _ _ ka kb _ hg hs hka hkb => Y.assign rfl) ⟨_, _, 1, 1, hgl, hs, rfl, rfl⟩ rfl (by kernel_rfl) (by kernel_rfl) (by kernel_rfl) ?_
      refine HW.done (by kernel_rfl) ?_
      refine calmQ_normal ?_
      refine Zerun ?_
      refine loopQ_round (i + 1, (ad78, cp78), h75) ⟨rfl, rfl, rfl, rfl, rfl, rfl, trivial⟩ ⟨by dsimp only; omega, hg.trans hgl, ?_⟩ (by dsimp only; omega)
      dsimp only
      rw [htm, List.map_append]
      rw [show z + orgN one - orgN one = z by omega] at hs
      exact hs
    obtain rfl : i = o1.length := by omega
    rw [List.take_length] at hs
    refine Zerun ?_
    exact joinQ_meet ((ai, ci), hh) ⟨rfl, rfl, rfl, rfl, trivial⟩ ⟨hg, hs⟩
  rintro ⟨⟨ai, ci⟩, hh⟩ w60 ⟨hg, hs⟩
  dsimp only at hg hs ⊢
  obtain ⟨h61, hle61, hs, hS61⟩ := hs.freeze
  have hI61 : IntsAt h61 (.slice ai o1.length ci) (natsI o1) := IntsAt.of_sl hS61
  have hp' := PlainAt.mono (k + 2) _ _ _ _ (hg.trans hle61) hp'
  have hT := hT.mono (hg.trans hle61)
  refine Zerun ?_
  (refine RW.call T hs rfl rfl rfl (of07_con (k + 2) _ p _ _ hp' hc) ?_; intro v h80 w80 hle80 hp80 hs)
  obtain ⟨cs80, rfl, _, _, _, vc80, rfl, _, hv80⟩ := hp80
  have hvl80 : vc80.length = 8 := hv80.size
  have hT := hT.mono hle80
  have hI61 := hI61.mono hle80
  refine Zerun ?_
  refine RW.val (Y.fieldVec T rfl rfl rfl rfl rfl rfl hvl80) rfl ?_
  refine Zerun ?_
  (refine RW.call T hs rfl rfl rfl (flatPick_con (ArrAt.mono (k + 1)) (ArrAt.one (k + 1)) (ArrAt.siz (k + 1)) (blankA k) (fun w h => flatBlank_con (ArrAt.mono k) (ArrAt.one k) w h) _ _ _ (natsI o1) _ _ hv80 hI61 (by rw [natsI_len]; exact hbd.1) hsml.2.1 hgood.2.1) ?_; intro v h83 w83 hle83 hp83 hs)
  obtain ⟨cs83, rfl, hvd⟩ := hp83
  have hT := hT.mono hle83
  have hpf := pick_facts (ArrD.vec (α := AD (k + 1)) (arr (k + 2) p)) (natsI o1) (blankA k)
  have hpc := pick_cls (ArrD.vec (α := AD (k + 1)) (arr (k + 2) p)) (natsI o1) (blankA k)
  have hgp : ∀ j, j < o1.length → gV ((ArrD.vec (α := AD (k + 1)) (arr (k + 2) p)).pick (natsI o1) (blankA k)) j = gV (ArrD.vec (α := AD (k + 1)) (arr (k + 2) p)) (o1.getD j 0) := fun j hj => gV_pick _ o1 (blankA k) j hcl hj (fun e => by have := hord.lt_n j (by omega); have := hlc e; omega)
  have hadj := adj_order hord hgp
  have hvl : (ArrD.vec (α := AD (k + 1)) (arr (k + 2) p)).len = (PlainD.items (α := PD (k + 1)) p).length := hiv.symm.trans hil
  have hlen := hpf.2.2.1
  rw [natsI_len] at hlen
  rw [← hpc] at hcl
  generalize (ArrD.vec (α := AD (k + 1)) (arr (k + 2) p)).pick (natsI o1) (blankA k) = vd at *
  have hvd' := hvd
  obtain ⟨wv, nv, sm, il, fl, ch, bx, ⟨rfl, hoc⟩, -⟩ := hvd'
  refine Zerun ?_
  (refine RW.allocN T hs rfl rfl rfl rfl ?_; intro b13 w13 hs)
  (refine RW.storeAll T hs 0 rfl rfl rfl rfl rfl rfl hoc rfl ?_; intro w913 hs)
  refine Zerun ?_
  refine CW.meetB (fun hh : GHeap => [(3, .pointer (some ⟨b1, 0, none⟩)), (13, .pointer (some ⟨b13, 0, none⟩))]) (fun hh w' => GLe h83 hh ∧ Sees w h hh [⟨some ⟨b13, 0, none⟩, 1, 1, 38, 8, vecCells vd.kind wv nv sm il fl ch bx⟩, ⟨some ⟨b9, 0, none⟩, 1, 1, 25, 3, [.slice adS41 (PlainD.shape (α := PD (k + 1)) (numsP Nn)).length cpS41, .slice adI o1.length cpI, .int .i64 (PlainD.fill (α := PD (k + 1)) (numsP Nn))]⟩, ⟨some ⟨b7, 0, none⟩, 1, 1, 40, 9, .slice ad32 (ArrD.shape (α := AD (k + 1)) (numsA (k + 1) Nn)).length cap32 :: vecCells (ArrD.vec (α := AD (k + 1)) (numsA (k + 1) Nn)).kind wv32 nv32 sm32 il32 fl32 ch32 bx32⟩, ⟨some ⟨b1, 0, none⟩, 1, 1, 25, 3, [.slice ad (PlainD.shape (α := PD (k + 1)) p).length cp, .slice ad2 (PlainD.items (α := PD (k + 1)) p).length cp2, .int .i64 (PlainD.fill (α := PD (k + 1)) p)]⟩] w') ?_ ?_
  · refine CW.loop (fun u : Nat × GHeap => [(1, .bool down), (3, .pointer (some ⟨b1, 0, none⟩)), (13, .pointer (some ⟨b13, 0, none⟩)), (14, .int .i64 ((u.1 + 1 : Nat) : Int))]) (fun u w' => GLe h83 u.2 ∧ Sees w h u.2 [⟨some ⟨b13, 0, none⟩, 1, 1, 38, 8, vecCells vd.kind wv nv sm il fl ch bx⟩, ⟨some ⟨b9, 0, none⟩, 1, 1, 25, 3, [.slice adS41 (PlainD.shape (α := PD (k + 1)) (numsP Nn)).length cpS41, .slice adI o1.length cpI, .int .i64 (PlainD.fill (α := PD (k + 1)) (numsP Nn))]⟩, ⟨some ⟨b7, 0, none⟩, 1, 1, 40, 9, .slice ad32 (ArrD.shape (α := AD (k + 1)) (numsA (k + 1) Nn)).length cap32 :: vecCells (ArrD.vec (α := AD (k + 1)) (numsA (k + 1) Nn)).kind wv32 nv32 sm32 il32 fl32 ch32 bx32⟩, ⟨some ⟨b1, 0, none⟩, 1, 1, 25, 3, [.slice ad (PlainD.shape (α := PD (k + 1)) p).length cp, .slice ad2 (PlainD.items (α := PD (k + 1)) p).length cp2, .int .i64 (PlainD.fill (α := PD (k + 1)) p)]⟩] w') (fun u => o1.length - u.1) (0, h83) ⟨rfl, rfl, rfl, rfl, trivial⟩ ⟨GLe.refl _, hs⟩ ?_
    rintro ⟨i, hh⟩ w5 ⟨hg, hs⟩
    dsimp only at hg hs ⊢
    have hvh := hvd.mono (ArrAt.mono (k + 1)) hg
    refine Zerun ?_
    (refine RW.call T hs rfl rfl rfl (vecLen_con _ vd _ _ hvh) ?_; intro v h86 w86 hle86 hp86 hs)
    subst hp86
    have hvh := hvh.mono (ArrAt.mono (k + 1)) hle86
    by_cases hlt : i + 1 < o1.length
    · have ha := hadj i hlt
      refine Zerun ?_
      rw [show ((i + 1 : Nat) : Int) - 1 = (i : Int) by omega]
      (refine RW.call T hs rfl rfl rfl (orderCells_con (ArrAt.mono (k + 1)) _ vd 1 i (i + 1) _ _ hvh hcl (by omega) (by omega) (by omega)) ?_; intro v h94 w94 hle94 hp94 hs)
      subst hp94
      generalize lexC (gV vd) 1 i (i + 1) 1 = c at *
      by_cases p1 : 0 < c
      · obtain rfl : down = true := by cases down with
          | true => rfl
          | false => exact absurd p1 (ha.1 rfl)
        refine Zerun ?_
        exact loopQ_round (i + 1, h94) ⟨rfl, rfl, rfl, seti (by dsimp only; omega), trivial⟩ ⟨hg.trans (hle86.trans hle94), hs⟩ (by dsimp only; omega)
      · by_cases p2 : c < 0
        · obtain rfl : down = false := by cases down with
            | false => rfl
            | true => exact absurd p2 (ha.2 rfl)
          refine Zerun ?_
          exact loopQ_round (i + 1, h94) ⟨rfl, rfl, rfl, seti (by dsimp only; omega), trivial⟩ ⟨hg.trans (hle86.trans hle94), hs⟩ (by dsimp only; omega)
        · refine Zerun ?_
          exact loopQ_round (i + 1, h94) ⟨rfl, rfl, rfl, seti (by dsimp only; omega), trivial⟩ ⟨hg.trans (hle86.trans hle94), hs⟩ (by dsimp only; omega)
    refine Zerun ?_
    exact joinQ_meet h86 ⟨rfl, rfl, trivial⟩ ⟨hg.trans hle86, hs⟩
  rintro h99 w99 ⟨hg, hs⟩
  have hvd := hvd.mono (ArrAt.mono (k + 1)) hg
  have hT := hT.mono hg
  refine Zerun ?_
  refine CW.regionO T hs ?_
  intro w98 hs
  refine HW.takeS (fuel := 9) 0 rfl (fun _ _ hs => Y.loadRowN T hs 0 rfl rfl rfl rfl rfl rfl rfl) hs rfl (by kernel_rfl) (by kernel_rfl) (by kernel_rfl) ?_
  refine HW.takeS (fuel := 8) 2 rfl (fun _ _ hs => Y.fieldAddr T rfl rfl rfl rfl rfl) hs rfl (by kernel_rfl) (by kernel_rfl) (by kernel_rfl) ?_
  refine HW.takeS (fuel := 7) 3 rfl (fun _ _ hs => Y.loadRow1 T hs 3 rfl rfl rfl rfl rfl) hs rfl (by kernel_rfl) (by kernel_rfl) (by kernel_rfl) ?_
  refine HW.takeS (fuel := 6) 4 rfl (fun _ _ hs => Y.len T rfl rfl) hs rfl (by kernel_rfl) (by kernel_rfl) (by kernel_rfl) ?_
  refine HW.one (fuel := 5) 1 rfl (by kernel_rfl) ?_
  (refine RW.call T hs rfl rfl rfl (vecLen_con _ vd _ _ hvd) ?_; intro v h109 w109 hle109 hp109 hs)
  subst hp109
  have hT := hT.mono hle109
  refine RW.nil ?_
  refine heldQ_normal ⟨_, hs⟩ ?_
  refine HW.takeS (fuel := 4) 5 rfl (fun _ _ hs => Y.eqT rfl rfl (by omega)) hs rfl (by kernel_rfl) (by kernel_rfl) (by kernel_rfl) ?_
  refine HW.takeS (fuel := 3) 6 rfl (fun _ _ hs => Y.move rfl) hs rfl (by kernel_rfl) (by kernel_rfl) (by kernel_rfl) ?_
  refine HW.one (fuel := 2) 7 rfl (by kernel_rfl) ?_
  refine RW.guardYes rfl rfl ?_
  (refine RW.call T hs rfl rfl rfl (awake27_con _ _ hT) ?_; intro v h115 w115 hle115 hp115 hs)
  subst hp115
  refine RW.nil ?_
  refine heldQ_normal ⟨_, hs⟩ ?_
  refine HW.takeS (fuel := 1) 8 rfl (fun _ _ hs => Y.pickT rfl rfl) hs rfl (by kernel_rfl) (by kernel_rfl) (by kernel_rfl) ?_
  refine HW.takeS (fuel := 0) 9 rfl (fun _ _ hs => Y.assign rfl) hs rfl (by kernel_rfl) (by kernel_rfl) (by kernel_rfl) ?_
  refine HW.done (by kernel_rfl) ?_
  refine calmQ_normal ?_
  refine Zerun ?_
  exact retQ_ret [_] h115 ⟨rfl, trivial⟩ hs.dropAll rfl
end Go.Proofs.YtmojpbfkpggjhaaGreatDoor
