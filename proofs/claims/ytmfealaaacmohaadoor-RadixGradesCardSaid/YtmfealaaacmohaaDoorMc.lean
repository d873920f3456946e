/-
  Own texts of the claim, merged: Td, Il, Im, On, Te, Tf, Kb, Ua, PlAa, PlAb, PlainV, PlAc, PlAd, Ud, Ue, Fc, Fd, Io, Ip, Uf, Ug. Lemmas of the proof; no statement is proved here.
-/
import Derived.Test.YtmfealaaacmohaaDoorMb
/-
  Contract of radix.Grade, of whole numbers and characters. No statement is proved here.
-/
namespace Go.Proofs.YtmfealaaacmohaaDoor
open Go Go.RowKit
set_option linter.unusedVariables false
set_option linter.unusedSimpArgs false
set_option maxHeartbeats 4000000
attribute [local irreducible] CW RW QW SW HW ConM retM heldQ calmQ elemP thenQ blockQ loopQ joinQ retQ Yields Con Sl zF magR unitF truncF fwF wholeF tidySpec
set_option maxHeartbeats 4000000
set_option maxRecDepth 4000
attribute [local irreducible] rankF leastN

theorem Y.addW64 {P : Program} {n : Nat} {L : Env} {w : World} {ty : TypeId} {x y : Operand} {t yt : TypeId} {u v : Nat} (hx : opv L x = some (.int .u64 (u : Int))) (hy : opv L y = some (.int .u64 (v : Int))) (hh : u + v < 18446744073709551616) : Yields P n L w (.binOp .add t x y yt) ty (.int .u64 ((u + v : Nat) : Int)) := by
  have := Y.add' (P := P) (n := n) (w := w) (ty := ty) (t := t) (yt := yt) hx hy
  rwa [wrapU64, show (((u : Int) + (v : Int)) % 18446744073709551616).toNat = u + v by omega] at this
theorem dgN_dgK (keys : List Nat) (s : Nat) (down : Bool) : dgN keys s down = dgK keys s down := by
  funext i; rfl
section
variable {α : Type} {R : GHeap → List Value → α → Prop}
theorem radixGradeK_con (hR : Mono R) (cs : List Value) (v : VecD α) (down : Bool) (w : World) (h : GHeap) (hv : VecAt R h cs v) (hm : v.len ≤ 1048576) (hc : ∀ c ∈ v.chars, -2147483648 ≤ c ∧ c < 2147483648) (hk : v.kind = 2 ∨ v.kind = 3 ∨ v.kind = 5) :
    Con Tryd.prog 39 [.agg cs.toArray, .bool down] w h (fun h' u => ∃ s out, u = .tuple #[s, .bool true] ∧ IntsAt h' s (natsI out) ∧ InOrder (ltKey (keysV v) down) (keysV v).length out) := by
  have hv' := hv
  have hkx : ∀ u ∈ keysV v, u < 18446744073709551616 := by
    intro u hu
    unfold keysV at hu
    split at hu
    · obtain ⟨x, _, rfl⟩ := List.mem_map.1 hu
      have := wholeF_bounds x
      exact keyI_lt _ (by omega)
    · split at hu
      · obtain ⟨x, hx, rfl⟩ := List.mem_map.1 hu
        exact keyC_lt _ (hc x hx)
      · cases hu
  have hkl : (keysV v).length ≤ 1048576 := by
    have hsh := hv.shorts
    unfold keysV
    split
    · rw [List.length_map]; omega
    · split
      · rw [List.length_map]; omega
      · show 0 ≤ _; omega
  obtain ⟨wv, nv, sm, il, fl, ch, bx, ⟨rfl, hoc⟩, -⟩ := hv
  refine Con.of_body Tryd.func39 rfl Tryd.ntmps39 rfl rfl ?_
  intro hs
  refine Zrun ?_
  (refine RW.boxN hs rfl rfl ?_; intro b1 w1 hs)
  refine Zerun ?_
  (refine RW.call T hs rfl rfl rfl (vecPacked_con _ v _ _ hv') ?_; intro v h2 w2 hle2 hp2 hs)
  obtain ⟨wb, bs, rfl, hb2, _, _⟩ := hp2
  have hwo : wb.oneCell' = true := by obtain ⟨_, ws, ⟨_, _, rfl, _⟩, _⟩ := hb2; rfl
  have hv' := hv'.mono hR hle2
  rw [decide_eq_false (show ¬ v.kind = 1 by omega)]
  refine Zerun ?_
  (refine RW.allocN T hs rfl rfl rfl rfl ?_; intro b3 w3 hs)
  refine RW.storeAll T hs 0 rfl rfl rfl rfl rfl rfl (by show (wb.oneCell' && (true && true)) = true; rw [hwo]; rfl) rfl ?_
  intro w4 hs
  refine Zerun ?_
  (refine RW.call T hs rfl rfl rfl (radixKeys_con hR _ v _ _ hv' hm hc) ?_; intro v h5 w5 hle5 hp5 hs)
  obtain ⟨s5, rfl, hU5⟩ := hp5
  rw [decide_eq_true (show v.kind = 1 ∨ v.kind = 2 ∨ v.kind = 3 ∨ v.kind = 5 by omega)]
  obtain ⟨keys, hkeys⟩ : ∃ keys, keysV v = keys := ⟨_, rfl⟩
  rw [hkeys] at hU5 hkx hkl ⊢
  have hU5' := hU5
  obtain ⟨ad, cp, rfl, hS5⟩ := hU5
  refine Zerun ?_
  (refine RW.make1 T hs rfl rfl rfl rfl rfl rfl rfl (by dsimp only; omega) (by omega) ?_; intro b6 w6 hs)
  refine Zerun ?_
  have hs := hs.re (ys := (natsI (List.range 0) ++ List.replicate keys.length 0).map (Value.int .i64)) (by rw [List.map_append, List.map_replicate]; rfl)
  refine CW.loop (fun k : Nat => [(1, .bool down), (8, .slice ad keys.length cp), (10, .slice (some ⟨b6, 0, none⟩) keys.length keys.length), (34, .int .i64 keys.length), (35, .int .i64 k)]) (fun k w' => k ≤ keys.length ∧ Sees w h h5 [⟨some ⟨b6, 0, none⟩, keys.length, keys.length, 3, 1, (natsI (List.range k) ++ List.replicate (keys.length - k) 0).map (Value.int .i64)⟩, ⟨some ⟨b3, 0, none⟩, 1, 1, 28, 2, [wb, .int .i64 bs.length]⟩, ⟨some ⟨b1, 0, none⟩, 1, 1, 34, 8, vecCells v.kind wv nv sm il fl ch bx⟩] w') (fun k => keys.length - k) 0 ⟨rfl, rfl, rfl, rfl, rfl, trivial⟩ ⟨by omega, hs⟩ ?_
  rintro k w7 ⟨hk7, hs⟩
  by_cases hlt : k < keys.length
  · refine Zerun ?_
    refine RW.val (Y.idxRN T hs 0 rfl rfl rfl rfl rfl rfl ?_) rfl ?_
    · omega
    refine RW.st1 T hs 0 rfl rfl rfl rfl rfl rfl rfl (by omega) ?_
    intro w8 hs
    refine Zerun ?_
    refine loopQ_round (k + 1) ⟨rfl, rfl, rfl, rfl, rfl, trivial⟩ ⟨by omega, ?_⟩ (by omega)
    have e := set_snoc (natsI (List.range k)) (keys.length - k) 0 (k : Int) (by omega)
    rw [natsI_len, List.length_range] at e
    have e2 : natsI (List.range k) ++ [(k : Int)] = natsI (List.range (k + 1)) := by rw [List.range_succ]; unfold natsI; rw [List.map_append]; rfl
    rw [e2, show keys.length - k - 1 = keys.length - (k + 1) by omega] at e
    exact hs.re (by rw [← e, List.map_set])
  obtain rfl : k = keys.length := by omega
  have hs := hs.re (ys := (natsI (List.range keys.length)).map (Value.int .i64)) (by rw [Nat.sub_self, List.replicate_zero, List.append_nil])
  obtain ⟨h8, hle8, hs, hI8⟩ := freezeI (l := natsI (List.range keys.length)) hs (by rw [natsI_len, List.length_range])
  have hU5' := hU5'.mono hle8
  refine Zerun ?_
  (refine RW.call T hs rfl rfl rfl (radixSpread_con _ keys _ _ hU5' hkx hkl) ?_; intro v h9 w9 hle9 hp9 hs)
  subst hp9
  have hU5' := hU5'.mono hle9
  have hI8 := hI8.mono hle9
  have hrl : (natsI (List.range keys.length)).length = keys.length := by rw [natsI_len, List.length_range]
  refine Zerun ?_
  have hstart : InOrder (ltP (partK keys 0) down) keys.length (List.range keys.length) := (InOrder.range keys.length).imp (fun i j _ _ hij => ltP_start keys down i j hij)
  have hsp : spreadN keys < 18446744073709551616 := by rw [← spreadTo_all]; exact spreadTo_lt keys hkx _ (Nat.le_refl _)
  refine CW.loop (fun u : Nat × Option Addr × Nat × List Nat × GHeap => [(1, .bool down), (8, .slice ad keys.length cp), (10, .slice u.2.1 keys.length u.2.2.1), (12, .int .u64 (spreadN keys)), (13, .int .u64 ((11 * u.1 : Nat) : Int))]) (fun u w' => u.1 ≤ 6 ∧ GLe h9 u.2.2.2.2 ∧ IntsAt u.2.2.2.2 (.slice u.2.1 keys.length u.2.2.1) (natsI u.2.2.2.1) ∧ InOrder (ltP (partK keys (11 * u.1)) down) keys.length u.2.2.2.1 ∧ Sees w h u.2.2.2.2 [⟨some ⟨b3, 0, none⟩, 1, 1, 28, 2, [wb, .int .i64 bs.length]⟩, ⟨some ⟨b1, 0, none⟩, 1, 1, 34, 8, vecCells v.kind wv nv sm il fl ch bx⟩] w') (fun u => 6 - u.1) (0, some ⟨b6, 0, none⟩, keys.length, List.range keys.length, h9) ⟨rfl, rfl, rfl, rfl, rfl, trivial⟩ ⟨by omega, GLe.refl _, hI8, hstart, hs⟩ ?_
  rintro ⟨c, ra, rc, at_, hh⟩ w10 ⟨hc6, hgl, hI, hord, hs⟩
  dsimp only at hc6 hgl hI hord hs ⊢
  by_cases hlt : c < 6
  · have hU := hU5'.mono hgl
    obtain ⟨sd, hsd⟩ : ∃ sd, spreadN keys >>> (11 * c) &&& 2047 = sd := ⟨_, rfl⟩
    have hsdl : sd < 2048 := by have := digN_lt (spreadN keys) (11 * c); unfold digN at this; omega
    have hshl : spreadN keys >>> (11 * c) < 18446744073709551616 := Nat.lt_of_le_of_lt (Nat.shiftRight_le _ _) hsp
    refine Zerun ?_
    refine RW.val (Y.shrU (v := 11 * c) rfl rfl (by omega)) rfl ?_
    refine RW.val (Y.andU rfl rfl hshl (by decide)) rfl ?_
    rw [hsd]
    refine Zerun ?_
    refine CW.meetB (fun u : Option Addr × Nat × List Nat × GHeap => [(1, .bool down), (8, .slice ad keys.length cp), (10, .slice u.1 keys.length u.2.1), (12, .int .u64 (spreadN keys)), (13, .int .u64 ((11 * c : Nat) : Int))]) (fun u w' => GLe hh u.2.2.2 ∧ IntsAt u.2.2.2 (.slice u.1 keys.length u.2.1) (natsI u.2.2.1) ∧ InOrder (ltP (partK keys (11 * c + 11)) down) keys.length u.2.2.1 ∧ Sees w h u.2.2.2 [⟨some ⟨b3, 0, none⟩, 1, 1, 28, 2, [wb, .int .i64 bs.length]⟩, ⟨some ⟨b1, 0, none⟩, 1, 1, 34, 8, vecCells v.kind wv nv sm il fl ch bx⟩] w') ?_ ?_
    · by_cases e0 : sd = 0
      · have hsk := spread_digit keys (11 * c) (by unfold digN; rw [hsd, e0])
        refine Zerun ?_
        exact joinQ_meet (ra, rc, at_, hh) ⟨rfl, rfl, rfl, rfl, rfl, trivial⟩ ⟨GLe.refl _, hI, hord.imp (fun i j hi hj hij => ltP_skip keys (11 * c) down i j (by rw [hsk i hi, hsk j hj]) hij), hs⟩
      · have hat : ∀ i ∈ at_, i < keys.length := by
          intro i hi
          obtain ⟨j, hj, e⟩ := List.getElem_of_mem hi
          have := hord.lt_n j (by rw [← hord.len]; exact hj)
          rw [List.getD_eq_getElem?_getD, List.getElem?_eq_getElem hj] at this
          rw [← e]; exact this
        refine Zerun ?_
        (refine RW.call T hs rfl rfl rfl (pass_con _ _ keys at_ (11 * c) down _ _ hU hI hkx (by omega) hkl (by rw [hord.len]; exact hkl) hat) ?_; intro v h11 w11 hle11 hp11 hs)
        obtain ⟨out, hI11, hpl⟩ := hp11
        have hlen : (natsI out).length = keys.length := by rw [natsI_len, hpl.1, hord.len]
        obtain ⟨ad11, cp11, rfl, hS11⟩ := hI11
        rw [dgN_dgK] at hpl
        have hord2 := (hord.pass _ hpl).imp (fun i j _ _ hij => ltP_step keys (11 * c) down i j hij)
        rw [hlen] at hS11 ⊢
        refine Zerun ?_
        exact joinQ_meet (ad11, cp11, out, h11) ⟨rfl, rfl, rfl, rfl, rfl, trivial⟩ ⟨hle11, ⟨ad11, cp11, by rw [hlen], by rw [hlen]; exact hS11⟩, hord2, hs⟩
    · rintro ⟨ra2, rc2, at2, h12⟩ w12 ⟨hl12, hI2, hord2, hs⟩
      dsimp only at hl12 hI2 hord2 hs ⊢
      refine Zerun ?_
      refine RW.val (Y.addW64 (u := 11 * c) (v := 11) rfl rfl (by omega)) rfl ?_
      refine Zerun ?_
      exact loopQ_round (c + 1, ra2, rc2, at2, h12) ⟨rfl, rfl, rfl, rfl, seti (by dsimp only; omega), trivial⟩ ⟨by dsimp only; omega, hgl.trans hl12, hI2, by dsimp only; rw [show 11 * (c + 1) = 11 * c + 11 by omega]; exact hord2, hs⟩ (by dsimp only; omega)
  · obtain rfl : c = 6 := by omega
    refine Zerun ?_
    exact retQ_ret [_, _] hh ⟨rfl, rfl, trivial⟩ hs.dropAll ⟨_, at_, rfl, hI, hord.imp (fun i j hi hj hij => ltP_end keys down hkx i j hi hj hij)⟩
end
end Go.Proofs.YtmfealaaacmohaaDoor

/-
  Contracts of functions of package value: arrays made of elements, a number, a character, a box alone. No statement is proved here.
-/
namespace Go.Proofs.YtmfealaaacmohaaDoor
open Go Go.RowKit
set_option linter.unusedVariables false
set_option linter.unusedSimpArgs false
set_option maxHeartbeats 4000000
attribute [local irreducible] CW RW QW SW HW ConM retM heldQ calmQ elemP thenQ blockQ loopQ joinQ retQ Yields Con Sl zF magR unitF truncF fwF wholeF tidySpec elemQ rankF leastN tidyW

section
variable {α : Type} {R : GHeap → List Value → α → Prop}
end
end Go.Proofs.YtmfealaaacmohaaDoor

/-
  Contracts of the law's own functions of layer 7: which shapes elements can have. No statement is proved here.
-/
namespace Go.Proofs.YtmfealaaacmohaaDoor
open Go Go.RowKit
set_option linter.unusedVariables false
set_option linter.unusedSimpArgs false
set_option maxHeartbeats 4000000
attribute [local irreducible] CW RW QW SW HW ConM retM heldQ calmQ elemP thenQ blockQ loopQ joinQ retQ Yields Con Sl zF magR unitF truncF fwF wholeF tidySpec elemQ rankF leastN tidyW

end Go.Proofs.YtmfealaaacmohaaDoor

/-
  Plain Lean on arrays of numbers, and of one number: good ones, told plainly. No statement is proved here.
-/
namespace Go.Proofs.YtmfealaaacmohaaDoor
open Go Go.RowKit
set_option linter.unusedVariables false
set_option linter.unusedSimpArgs false
set_option maxHeartbeats 4000000
attribute [local irreducible] CW RW QW SW HW ConM retM heldQ calmQ elemP thenQ blockQ loopQ joinQ retQ Yields Con Sl zF magR unitF truncF fwF wholeF tidySpec elemQ rankF leastN tidyW

/-- small whole numbers, as words -/
theorem fw_rank (l : List Int) (h : ∀ n ∈ l, -9007199254740992 ≤ n ∧ n ≤ 9007199254740992) : leastN (l.map fwF) ≤ 3 := by
  unfold leastN
  refine fold_le _ _ _ (by omega) (fun x hx => ?_)
  obtain ⟨n, hn, rfl⟩ := List.mem_map.1 hx
  rw [rank_int, wholeF_fw n (h n hn)]
theorem fw_wholes (l : List Int) (h : ∀ n ∈ l, -9007199254740992 ≤ n ∧ n ≤ 9007199254740992) : (l.map fwF).map (fun x => (wholeF x).1) = l := by
  rw [List.map_map]
  conv => rhs; rw [← List.map_id l]
  apply List.map_congr_left
  intro n hn
  show (wholeF (fwF n)).1 = n
  rw [wholeF_fw n (h n hn)]
theorem fw_tidyW (l : List Int) (h : ∀ n ∈ l, -9007199254740992 ≤ n ∧ n ≤ 9007199254740992) : (l.map fwF).map tidyW = l.map fwF := by
  rw [List.map_map]
  apply List.map_congr_left
  intro n hn
  show tidyW (fwF n) = fwF n
  unfold tidyW
  rw [tidySpec_of _ (fwF_spec n (h n hn)).1]
end Go.Proofs.YtmfealaaacmohaaDoor

/-
  Contract of the example of layer 17. No statement is proved here.
-/
namespace Go.Proofs.YtmfealaaacmohaaDoor
open Go Go.RowKit
set_option linter.unusedVariables false
set_option linter.unusedSimpArgs false
set_option maxHeartbeats 4000000
attribute [local irreducible] CW RW QW SW HW ConM retM heldQ calmQ elemP thenQ blockQ loopQ joinQ retQ Yields Con Sl zF magR unitF truncF fwF wholeF tidySpec
set_option maxHeartbeats 4000000

def l17 : List Nat := [4629137466983448576, 13840687554816376832, 4629137466983448576, 4619567317775286272]
def n17 : List Int := [30, -5, 30, 7]
theorem l17_eq : l17 = n17.map fwF := by show [_, _, _, _] = [fwF 30, fwF (-5), fwF 30, fwF 7]; unfold fwF; decide
theorem in17 : ∀ n ∈ n17, -9007199254740992 ≤ n ∧ n ≤ 9007199254740992 := by
  intro n hn
  simp only [n17, List.mem_cons, List.not_mem_nil, or_false] at hn
  omega
theorem tidy17 : l17.map tidyW = l17 := by
  rw [l17_eq]
  exact fw_tidyW _ in17
theorem fin17 : ∀ u ∈ l17, finF u := by
  intro u hu
  rw [l17_eq] at hu
  obtain ⟨n, hn, rfl⟩ := List.mem_map.1 hu
  exact (fwF_spec n (in17 n hn)).1.2.1
theorem lt17 : ∀ u ∈ l17, u < 18446744073709551616 := by
  intro u hu
  rw [l17_eq] at hu
  obtain ⟨n, hn, rfl⟩ := List.mem_map.1 hu
  exact (fwF_spec n (in17 n hn)).1.1
theorem whole17 : l17.map (fun x => keyI (wholeF x).1) = n17.map keyI := by
  have := fw_wholes n17 in17
  rw [← l17_eq] at this
  rw [← this, List.map_map]; rfl
theorem kind17 : leastN l17 = 2 ∨ leastN l17 = 3 := by
  have h1 : leastN l17 ≤ 3 := by rw [l17_eq]; exact fw_rank _ in17
  have hm : fwF 30 ∈ l17 := by rw [l17_eq]; exact List.mem_map_of_mem (by simp [n17])
  have h2 := leastN_le l17 _ hm
  have h3 : rankF (fwF 30) = 2 := by unfold rankF; rw [wholeF_fw 30 (by omega)]; rfl
  omega
def keys17 : List Nat := [9223372036854775838, 9223372036854775803, 9223372036854775838, 9223372036854775815]
theorem keys17_eq : n17.map keyI = keys17 := by decide
theorem fin4 (p : Nat → Prop) (h0 : p 0) (h1 : p 1) (h2 : p 2) (h3 : p 3) : ∀ j, j < 4 → p j := by
  intro j hj
  match j, hj with
  | 0, _ => exact h0
  | 1, _ => exact h1
  | 2, _ => exact h2
  | 3, _ => exact h3
theorem up17 : InOrder (ltKey keys17 false) 4 [1, 3, 0, 2] := by
  refine ⟨rfl, fin4 _ (by decide) (by decide) (by decide) (by decide), fin4 _ ⟨2, by decide, rfl⟩ ⟨0, by decide, rfl⟩ ⟨3, by decide, rfl⟩ ⟨1, by decide, rfl⟩, fun a b hab hb => ?_⟩
  have key : ∀ b, b < 4 → ∀ a, a < b → (keys17.getD ([1, 3, 0, 2].getD a 0) 0 < keys17.getD ([1, 3, 0, 2].getD b 0) 0 ∨ (keys17.getD ([1, 3, 0, 2].getD a 0) 0 = keys17.getD ([1, 3, 0, 2].getD b 0) 0 ∧ [1, 3, 0, 2].getD a 0 < [1, 3, 0, 2].getD b 0)) := by decide
  unfold ltKey ltP
  rw [if_neg (by decide)]
  exact key b hb a hab
theorem down17 : InOrder (ltKey keys17 true) 4 [0, 2, 3, 1] := by
  refine ⟨rfl, fin4 _ (by decide) (by decide) (by decide) (by decide), fin4 _ ⟨0, by decide, rfl⟩ ⟨3, by decide, rfl⟩ ⟨1, by decide, rfl⟩ ⟨2, by decide, rfl⟩, fun a b hab hb => ?_⟩
  have key : ∀ b, b < 4 → ∀ a, a < b → (keys17.getD ([0, 2, 3, 1].getD b 0) 0 < keys17.getD ([0, 2, 3, 1].getD a 0) 0 ∨ (keys17.getD ([0, 2, 3, 1].getD a 0) 0 = keys17.getD ([0, 2, 3, 1].getD b 0) 0 ∧ [0, 2, 3, 1].getD a 0 < [0, 2, 3, 1].getD b 0)) := by decide
  unfold ltKey ltP
  rw [if_pos rfl]
  exact key b hb a hab
theorem awake17_con (w : World) (h : GHeap) : Con Tryd.prog 19 [] w h (fun _ u => u = .bool true) := by
  refine Con.of_body Tryd.func19 rfl Tryd.ntmps19 rfl rfl ?_
  intro hs
  refine Zrun ?_
  (refine RW.lit T hs (vs := [.float .f64 4629137466983448576, .float .f64 13840687554816376832, .float .f64 4629137466983448576, .float .f64 4619567317775286272]) rfl rfl rfl rfl (by simp [Value.cells]) rfl rfl rfl rfl rfl ?_; intro b1 w1 hs)
  obtain ⟨h1, hle1, hs, hS1⟩ := hs.freeze
  have hF1 : FAt h1 (.slice (some ⟨b1, 0, none⟩) 4 4) l17 := RowAt.of_sl (l := l17) hS1
  (refine RW.call T hs rfl rfl rfl (sqNumbers_con (α := AD 0) (R := ArrAt 0) (ArrAt.mono 0) _ l17 _ _ hF1 lt17 (by decide)) ?_; intro v h2 w2 hle2 hp2 hs)
  obtain ⟨cs2, ok, rfl, hok, hv2⟩ := hp2
  rw [decide_eq_true fin17] at hok
  subst hok
  rw [if_pos rfl, tidy17] at hv2
  have hv2' := hv2
  have hk := kind17
  have hkv : keysV (⟨leastN l17, l17, [], []⟩ : VecD (AD 0)) = keys17 := by
    unfold keysV
    rw [if_pos (by show leastN l17 = 1 ∨ leastN l17 = 2 ∨ leastN l17 = 3; omega), whole17, keys17_eq]
  obtain ⟨wv, nv, sm, il, fl, ch, bx, ⟨rfl, hoc⟩, -⟩ := hv2
  refine Zerun ?_
  (refine RW.allocN T hs rfl rfl rfl rfl ?_; intro b3 w3 hs)
  refine RW.storeAll T hs 0 rfl rfl rfl rfl rfl rfl (by show (vecCells (leastN l17) wv nv sm il fl ch bx).all Value.oneCell' = true; rw [hoc]) rfl ?_
  intro w4 hs
  refine Zerun ?_
  (refine RW.call T hs rfl rfl rfl (radixGradeK_con (ArrAt.mono 0) _ (⟨leastN l17, l17, [], []⟩ : VecD (AD 0)) false _ _ hv2' (by show 4 ≤ 1048576; decide) (fun c hc => nomatch hc) (by show leastN l17 = 2 ∨ leastN l17 = 3 ∨ leastN l17 = 5; omega)) ?_; intro v h5 w5 hle5 hp5 hs)
  obtain ⟨s5, o5, rfl, hI5, hord5⟩ := hp5
  rw [hkv] at hord5
  obtain rfl := hord5.eq up17 (ltP_asym _ _)
  have hv2' := hv2'.mono (ArrAt.mono 0) hle5
  refine Zerun ?_
  (refine RW.call T hs rfl rfl rfl (radixGradeK_con (ArrAt.mono 0) _ (⟨leastN l17, l17, [], []⟩ : VecD (AD 0)) true _ _ hv2' (by show 4 ≤ 1048576; decide) (fun c hc => nomatch hc) (by show leastN l17 = 2 ∨ leastN l17 = 3 ∨ leastN l17 = 5; omega)) ?_; intro v h6 w6 hle6 hp6 hs)
  obtain ⟨s6, o6, rfl, hI6, hord6⟩ := hp6
  rw [hkv] at hord6
  obtain rfl := hord6.eq down17 (ltP_asym _ _)
  have hI5 := hI5.mono hle6
  refine Zerun ?_
  (refine RW.lit T hs (vs := [.int .i64 1, .int .i64 3, .int .i64 0, .int .i64 2]) rfl rfl rfl rfl (by simp [Value.cells]) rfl rfl rfl rfl rfl ?_; intro b8 w8 hs)
  obtain ⟨h8, hle8, hs, hI8⟩ := freezeI (l := [1, 3, 0, 2]) hs rfl
  refine Zerun ?_
  (refine RW.call T hs rfl rfl rfl (ints_con _ _ (natsI [1, 3, 0, 2]) [1, 3, 0, 2] _ _ (hI5.mono hle8) hI8 (by decide)) ?_; intro v h9 w9 hle9 hp9 hs)
  rw [decide_eq_true (show natsI [1, 3, 0, 2] = [1, 3, 0, 2] by decide)] at hp9
  subst hp9
  have hI6 := (hI6.mono hle8).mono hle9
  refine Zerun ?_
  (refine RW.lit T hs (vs := [.int .i64 0, .int .i64 2, .int .i64 3, .int .i64 1]) rfl rfl rfl rfl (by simp [Value.cells]) rfl rfl rfl rfl rfl ?_; intro b10 w10 hs)
  obtain ⟨h10, hle10, hs, hI10⟩ := freezeI (l := [0, 2, 3, 1]) hs rfl
  refine Zerun ?_
  (refine RW.call T hs rfl rfl rfl (ints_con _ _ (natsI [0, 2, 3, 1]) [0, 2, 3, 1] _ _ (hI6.mono hle10) hI10 (by decide)) ?_; intro v h11 w11 hle11 hp11 hs)
  rw [decide_eq_true (show natsI [0, 2, 3, 1] = [0, 2, 3, 1] by decide)] at hp11
  subst hp11
  refine Zerun ?_
  exact retQ_ret [_] h11 ⟨rfl, trivial⟩ hs.dropAll rfl
end Go.Proofs.YtmfealaaacmohaaDoor

/-
  Contract of the document's answer of layer 17: the bits in which keys differ. No statement is proved here.
-/
namespace Go.Proofs.YtmfealaaacmohaaDoor
open Go Go.RowKit
set_option linter.unusedVariables false
set_option linter.unusedSimpArgs false
set_option maxHeartbeats 4000000
attribute [local irreducible] CW RW QW SW HW ConM retM heldQ calmQ elemP thenQ blockQ loopQ joinQ retQ Yields Con Sl zF magR unitF truncF fwF wholeF tidySpec
set_option maxHeartbeats 4000000

section
variable {P : Program} (T : Tab P) {n : Nat} {L : Env} {w : World} {ty : TypeId} {x y : Operand} {t yt : TypeId} {u v : Nat}
end
end Go.Proofs.YtmfealaaacmohaaDoor

/-
  Contracts of functions of package bitvec: bits behind the last one away, and truths cut. No statement is proved here.
-/
namespace Go.Proofs.YtmfealaaacmohaaDoor
open Go Go.RowKit
set_option linter.unusedVariables false
set_option linter.unusedSimpArgs false
set_option maxHeartbeats 4000000
attribute [local irreducible] CW RW QW SW HW ConM retM heldQ calmQ elemP thenQ blockQ loopQ joinQ retQ Yields Con Sl zF magR unitF truncF fwF wholeF tidySpec elemQ rankF leastN tidyW
set_option maxHeartbeats 4000000

section
variable {P : Program} {n : Nat} {L : Env} {w : World} {ty : TypeId} {x y : Operand} {t yt : TypeId}
theorem Y.subU {u v : Nat} (hx : opv L x = some (.int .u64 (u : Int))) (hy : opv L y = some (.int .u64 (v : Int))) (hu : u < 18446744073709551616) (hv : v ≤ u) : Yields P n L w (.binOp .sub t x y yt) ty (.int .u64 ((u - v : Nat) : Int)) := by
  have := Y.sub' (P := P) (n := n) (w := w) (ty := ty) (t := t) (yt := yt) hx hy
  rw [show (u : Int) - v = ((u - v : Nat) : Int) by omega, wrapU _ (by omega)] at this
  exact this
end
section
variable {P : Program} {L : Env} {w0 w : World} {h0 h : GHeap}
theorem retM_end {rs : List ResultVar} {post : GHeap → List Row → Value → Prop} (vs : List Value) (h' : GHeap) (O' : List Row) (hr : Res P L w rs vs) (hl : GLe h h') (hs : Sees w0 h0 h' O' w) (hp : post h' O' (packv vs)) : retM P rs w0 h0 h post .normal L w := by
  unfold retM
  exact ⟨vs, h', O', hr, hl, hs, hp⟩
end
/-! ## Plain facts -/
def BitsUp (m : Nat) (ws : List Int) (g : Nat → Bool) : Prop := ws.length = m ∧ (∀ u ∈ ws, 0 ≤ u ∧ u < 18446744073709551616) ∧ ∀ i, i < m * 64 → (ws.getD (i / 64) 0).toNat.testBit (i % 64) = g i
def trimW (n : Nat) (ws : List Int) : List Int := if n % 64 = 0 then ws else ws.set (ws.length - 1) (((ws.getD (ws.length - 1) 0).toNat &&& (2 ^ (n % 64) - 1) : Nat) : Int)
def cutW (ws : List Int) (f i : Nat) : Nat := ((ws.getD ((f + i * 64) / 64) 0).toNat >>> ((f + i * 64) % 64)) ||| (if 0 < (f + i * 64) % 64 ∧ (f + i * 64) / 64 + 1 < ws.length then (ws.getD ((f + i * 64) / 64 + 1) 0).toNat <<< (64 - (f + i * 64) % 64) % 18446744073709551616 else 0)
theorem word_lt {ws : List Int} (h : ∀ u ∈ ws, 0 ≤ u ∧ u < 18446744073709551616) (i : Nat) : (ws.getD i 0).toNat < 18446744073709551616 := by
  by_cases c : i < ws.length
  · have := h _ (mem_getD ws i 0 c); omega
  · simp [List.getD_eq_getElem?_getD, c]
theorem word_cast {ws : List Int} (h : ∀ u ∈ ws, 0 ≤ u ∧ u < 18446744073709551616) (i : Nat) : ws.getD i 0 = ((ws.getD i 0).toNat : Int) := by
  by_cases c : i < ws.length
  · have := h _ (mem_getD ws i 0 c); omega
  · simp [List.getD_eq_getElem?_getD, c]
theorem shl_lt (u v : Nat) : u <<< v % 18446744073709551616 < 18446744073709551616 := Nat.mod_lt _ (by decide)
theorem cutW_lt {ws : List Int} (h : ∀ u ∈ ws, 0 ≤ u ∧ u < 18446744073709551616) (f i : Nat) : cutW ws f i < 18446744073709551616 := by
  unfold cutW
  refine Nat.or_lt_two_pow (n := 64) (Nat.lt_of_le_of_lt (Nat.shiftRight_le _ _) (word_lt h _)) ?_
  split
  · exact shl_lt _ _
  · decide
theorem cutW_bit {ws : List Int} {bs : List Bool} (hb : BitsOf ws bs) (f i j : Nat) (hj : j < 64) : (cutW ws f i).testBit j = bs.getD (f + i * 64 + j) false := by
  obtain ⟨hl, hr, hb⟩ := hb
  have h1 := hb (f + i * 64 + j)
  rw [← h1]
  unfold cutW
  rw [Nat.testBit_or, Nat.testBit_shiftRight]
  generalize hk : (f + i * 64) / 64 = k
  generalize hrr : (f + i * 64) % 64 = r
  have hat : f + i * 64 = k * 64 + r := by omega
  have hr64 : r < 64 := by omega
  by_cases c : r + j < 64
  · have e1 : (f + i * 64 + j) / 64 = k := by omega
    have e2 : (f + i * 64 + j) % 64 = r + j := by omega
    rw [e1, e2]
    have : (if 0 < r ∧ k + 1 < ws.length then (ws.getD (k + 1) 0).toNat <<< (64 - r) % 18446744073709551616 else 0).testBit j = false := by
      split
      · rw [show (18446744073709551616 : Nat) = 2 ^ 64 from rfl, Nat.testBit_mod_two_pow, Nat.testBit_shiftLeft]
        simp [show ¬ (j ≥ 64 - r) by omega]
      · simp
    rw [this, Bool.or_false]
  · have e1 : (f + i * 64 + j) / 64 = k + 1 := by omega
    have e2 : (f + i * 64 + j) % 64 = r + j - 64 := by omega
    rw [e1, e2]
    have h2 : (ws.getD k 0).toNat.testBit (r + j) = false := by
      apply Nat.testBit_lt_two_pow
      exact Nat.lt_of_lt_of_le (word_lt hr k) (Nat.pow_le_pow_right (n := 2) (by omega) (show 64 ≤ r + j by omega))
    rw [h2, Bool.false_or]
    by_cases c2 : k + 1 < ws.length
    · rw [if_pos ⟨by omega, c2⟩, show (18446744073709551616 : Nat) = 2 ^ 64 from rfl, Nat.testBit_mod_two_pow, Nat.testBit_shiftLeft]
      simp [hj, show j ≥ 64 - r by omega, show j - (64 - r) = r + j - 64 by omega]
    · rw [if_neg (by omega)]
      simp [List.getD_eq_getElem?_getD, c2]
theorem BitsUp.put {m : Nat} {ws : List Int} {bs : List Bool} {f i : Nat} {out : List Int} (hb : BitsOf ws bs) (ho : BitsUp m out (fun j => if j < i * 64 then bs.getD (f + j) false else false)) (hi : i < m) : BitsUp m (out.set i (cutW ws f i : Int)) (fun j => if j < (i + 1) * 64 then bs.getD (f + j) false else false) := by
  obtain ⟨hl, hr, hbo⟩ := ho
  refine ⟨by rw [List.length_set]; exact hl, fun u hu => ?_, fun j hj => ?_⟩
  · rcases List.mem_or_eq_of_mem_set hu with hu | hu
    · exact hr u hu
    · subst hu
      have := cutW_lt hb.2.1 f i
      omega
  · rw [getD_set _ _ _ _ _ (by omega)]
    by_cases e : j / 64 = i
    · rw [if_pos e, Int.toNat_natCast, cutW_bit hb f i _ (Nat.mod_lt _ (by omega))]
      dsimp only
      rw [if_pos (by omega)]
      congr 1
      omega
    · rw [if_neg e, hbo j hj]
      dsimp only
      by_cases c : j < i * 64
      · rw [if_pos c, if_pos (by omega)]
      · rw [if_neg c, if_neg (by omega)]
theorem BitsUp.zero (m : Nat) (g : Nat → Bool) : BitsUp m (List.replicate m 0) (fun j => if j < 0 * 64 then g j else false) := by
  refine ⟨by simp, fun u hu => ?_, fun j hj => ?_⟩
  · rw [List.eq_of_mem_replicate hu]; omega
  · dsimp only
    rw [if_neg (by omega)]
    have : (List.replicate m (0 : Int)).getD (j / 64) 0 = 0 := by
      rw [List.getD_eq_getElem?_getD, List.getElem?_replicate]
      split <;> rfl
    rw [this]; simp
theorem pow_sub_lt (r : Nat) (h : r < 64) : 2 ^ r < 18446744073709551616 := Nat.pow_lt_pow_right (show 1 < 2 by omega) h
theorem bitsTrim_conM (n : Nat) (b : Nat) (ws : List Int) (x0 : Row) (w0 w : World) (h0 h : GHeap) (O : List Row) (hl : ws.length = (n + 63) / 64) (hr : ∀ u ∈ ws, 0 ≤ u ∧ u < 18446744073709551616) (hn : n ≤ 1048576) : ConM Tryd.prog 103 [.agg [.slice (some ⟨b, 0, none⟩) ws.length ws.length, .int .i64 n].toArray] w0 h0 h (x0 :: ⟨some ⟨b, 0, none⟩, ws.length, ws.length, 62, 1, ws.map (Value.int .u64)⟩ :: O) w
    (fun h' O' v => h' = h ∧ O' = x0 :: ⟨some ⟨b, 0, none⟩, ws.length, ws.length, 62, 1, (trimW n ws).map (Value.int .u64)⟩ :: O) := by
  refine ConM.of_body Tryd.func103 rfl Tryd.ntmps103 rfl rfl ?_
  intro hs
  refine Zrun ?_
  (refine RW.boxN hs rfl rfl ?_; intro b1 w1 hs)
  refine Zerun ?_
  refine RW.val (Y.andI (u := n) (v := 63) rfl rfl (by omega) (by omega)) rfl ?_
  rw [and63]
  by_cases c : n % 64 = 0
  · refine Zerun ?_
    refine retM_end [] h _ (by trivial) (GLe.refl _) hs.drop ⟨rfl, ?_⟩
    unfold trimW
    rw [if_pos c]
  · have h64 := Nat.mod_lt n (show 64 > 0 by omega)
    have hp := pow_sub_lt _ h64
    have hp1 := Nat.pow_pos (n := n % 64) (show 0 < 2 by omega)
    have hwl := word_lt hr (ws.length - 1)
    have hwc := word_cast hr (ws.length - 1)
    have e1 : (ws.length : Int) - 1 = ((ws.length - 1 : Nat) : Int) := by omega
    refine Zerun ?_
    rw [e1]
    refine RW.val (Y.idxRN T hs 2 rfl rfl rfl rfl rfl rfl ?_) rfl ?_
    · omega
    refine RW.val (Y.ldRInt T hs 2 rfl rfl rfl rfl ?_) rfl ?_
    · omega
    rw [hwc]
    refine Zerun ?_
    refine RW.val (Y.convII T rfl rfl rfl) rfl ?_
    rw [wrapU _ (by omega)]
    refine RW.val (Y.shlU (u := 1) rfl rfl (by omega)) rfl ?_
    rw [Nat.one_shiftLeft, Nat.mod_eq_of_lt hp]
    refine RW.val (Y.subU rfl rfl hp (v := 1) (by omega)) rfl ?_
    refine RW.val (Y.andU rfl rfl hwl (by omega)) rfl ?_
    refine RW.val (Y.idxRN T hs 2 rfl rfl rfl rfl rfl rfl ?_) rfl ?_
    · omega
    refine RW.st1 T hs 2 rfl rfl rfl rfl rfl rfl rfl (by omega) ?_
    intro w2 hs
    refine Zerun ?_
    refine retM_end [] h _ (by trivial) (GLe.refl _) hs.drop ⟨rfl, ?_⟩
    unfold trimW
    rw [if_neg c, ← map_set_int]
    rfl
end Go.Proofs.YtmfealaaacmohaaDoor

/-
  Contracts: packed truths turned, the places that are true as an own row, and truths graded by radix.Bits. No statement is proved here.
-/
namespace Go.Proofs.YtmfealaaacmohaaDoor
open Go Go.RowKit
set_option linter.unusedVariables false
set_option linter.unusedSimpArgs false
set_option maxHeartbeats 4000000
attribute [local irreducible] CW RW QW SW HW ConM retM heldQ calmQ elemP thenQ blockQ loopQ joinQ retQ Yields Con Sl zF magR unitF truncF fwF wholeF tidySpec elemQ rankF leastN tidyW
set_option maxHeartbeats 4000000

theorem Y.notU {P : Program} {n : Nat} {L : Env} {w : World} {ty : TypeId} {x : Operand} {t : TypeId} {u : Nat} (hx : opv L x = some (.int .u64 (u : Int))) (hu : u < 18446744073709551616) : Yields P n L w (.unOp .xor t x) ty (.int .u64 ((18446744073709551615 - u : Nat) : Int)) := by
  have := Y.xorU' (P := P) (n := n) (w := w) (ty := ty) (t := t) hx
  have e2 : (BitVec.ofInt IntKind.u64.bits (if IntKind.u64.signed then -1 else IntKind.u64.max) ^^^ BitVec.ofInt IntKind.u64.bits (u : Int)).toNat = 18446744073709551615 - u := by
    have h3 : (BitVec.ofInt 64 (u : Int)).toNat = u := by
      rw [BitVec.toNat_ofInt]
      omega
    have h4 : (BitVec.allOnes 64 ^^^ BitVec.ofInt 64 (u : Int)).toNat = 18446744073709551615 - u := by
      rw [BitVec.allOnes_xor, BitVec.toNat_not, h3]
    exact h4
  rw [e2, wrapU _ (by omega)] at this
  exact this
/-! ## Plain facts -/
def notW (u : Int) : Int := ((18446744073709551615 - u.toNat : Nat) : Int)
theorem notW_bit (u : Int) (hu : 0 ≤ u ∧ u < 18446744073709551616) (j : Nat) (hj : j < 64) : (notW u).toNat.testBit j = !u.toNat.testBit j := by
  unfold notW
  rw [Int.toNat_natCast, show 18446744073709551615 - u.toNat = 2 ^ 64 - (u.toNat + 1) by omega, Nat.testBit_two_pow_sub_succ (by omega), decide_eq_true hj, Bool.true_and]
theorem notW_lt (u : Int) : 0 ≤ notW u ∧ notW u < 18446744073709551616 := by unfold notW; omega
theorem trim_not {ws : List Int} {bs : List Bool} (h : BitsOf ws bs) : BitsOf (trimW bs.length (ws.map notW)) (bs.map not) := by
  obtain ⟨h1, h2, h3⟩ := h
  have hl : (trimW bs.length (ws.map notW)).length = ws.length := by
    unfold trimW; split
    · rw [List.length_map]
    · rw [List.length_set, List.length_map]
  have hget : ∀ k, k < ws.length → (ws.map notW).getD k 0 = notW (ws.getD k 0) := by
    intro k hk
    rw [List.getD_eq_getElem?_getD, List.getD_eq_getElem?_getD, List.getElem?_map, List.getElem?_eq_getElem hk]; rfl
  have hmem : ∀ k, k < ws.length → 0 ≤ ws.getD k 0 ∧ ws.getD k 0 < 18446744073709551616 := fun k hk => h2 _ (mem_getD ws k 0 hk)
  refine ⟨by rw [hl, h1, List.length_map], ?_, ?_⟩
  · intro u hu
    have hnot : ∀ u ∈ ws.map notW, 0 ≤ u ∧ u < 18446744073709551616 := by
      intro u hu
      obtain ⟨x, _, rfl⟩ := List.mem_map.1 hu
      exact notW_lt x
    unfold trimW at hu
    split at hu
    · exact hnot u hu
    · rcases List.mem_or_eq_of_mem_set hu with h | h
      · exact hnot u h
      · rw [h]
        by_cases c : (ws.map notW).length - 1 < (ws.map notW).length
        · have := hnot _ (mem_getD (ws.map notW) _ 0 c)
          have h4 := @Nat.and_le_left ((ws.map notW).getD ((ws.map notW).length - 1) 0).toNat (2 ^ (bs.length % 64) - 1)
          omega
        · rw [List.getD_eq_getElem?_getD, List.getElem?_eq_none (by omega)]
          simp
  · intro i
    have hb : (bs.map not).getD i false = (decide (i < bs.length) && !bs.getD i false) := by
      rw [List.getD_eq_getElem?_getD, List.getD_eq_getElem?_getD, List.getElem?_map]
      by_cases c : i < bs.length
      · rw [List.getElem?_eq_getElem c, decide_eq_true c]; rfl
      · rw [List.getElem?_eq_none (by omega), decide_eq_false c]; rfl
    have hj : i % 64 < 64 := Nat.mod_lt _ (by omega)
    rw [hb, ← h3 i]
    by_cases hk : i / 64 < ws.length
    · have hn := notW_bit _ (hmem _ hk) (i % 64) hj
      unfold trimW
      by_cases r0 : bs.length % 64 = 0
      · rw [if_pos r0, hget _ hk, hn, decide_eq_true (by omega), Bool.true_and]
      · rw [if_neg r0, List.length_map, hget _ (by omega)]
        by_cases hlast : i / 64 = ws.length - 1
        · rw [List.getD_eq_getElem?_getD, hlast, List.getElem?_set_self (by rw [List.length_map]; omega)]
          rw [← hlast]
          show (((_ : Nat) : Int)).toNat.testBit _ = _
          rw [Int.toNat_natCast, Nat.testBit_and, hn, Nat.testBit_two_pow_sub_one]
          by_cases c : i < bs.length
          · rw [decide_eq_true c, decide_eq_true (show i % 64 < bs.length % 64 by omega)]; simp
          · rw [decide_eq_false c, decide_eq_false (show ¬ i % 64 < bs.length % 64 by omega)]; simp
        · rw [List.getD_eq_getElem?_getD, List.getElem?_set_ne (fun e => hlast e.symm), ← List.getD_eq_getElem?_getD, hget _ hk, hn, decide_eq_true (by omega), Bool.true_and]
    · rw [decide_eq_false (by omega), Bool.false_and, List.getD_eq_getElem?_getD, List.getElem?_eq_none (by omega)]
      exact Nat.zero_testBit _
/-! ## Walks -/
theorem bitsNot_con (wv : Value) (bs : List Bool) (w : World) (h : GHeap) (hb : BitsAt h wv bs) : Con Tryd.prog 70 [.agg [wv, .int .i64 bs.length].toArray] w h (fun h' u => ∃ wv', u = .agg [wv', .int .i64 ((bs.map not).length : Nat)].toArray ∧ BitsAt h' wv' (bs.map not)) := by
  obtain ⟨hlen, ws, ⟨ad, cp, rfl, hS⟩, hB⟩ := hb
  have hB' := hB
  obtain ⟨hw, hr, _⟩ := hB
  have hwl : ws.length ≤ 16385 := by omega
  rw [List.length_map]
  refine Con.of_body Tryd.func70 rfl Tryd.ntmps70 rfl rfl ?_
  intro hs
  refine Zrun ?_
  (refine RW.boxN hs rfl rfl ?_; intro b1 w1 hs)
  refine Zrun ?_
  (refine RW.allocN T hs rfl rfl rfl rfl ?_; intro b2 w2 hs)
  refine Zerun ?_
  refine CW.meet (fun u : Nat × Nat => [(1, .pointer (some ⟨b1, 0, none⟩)), (2, .pointer (some ⟨b2, 0, none⟩)), (3, .pointer (some ⟨u.1, 0, none⟩))]) (fun u w' => Sees w h h [⟨some ⟨u.1, 0, none⟩, 1, 1, 28, 2, [.slice (some ⟨u.2, 0, none⟩) ws.length ws.length, .int .i64 bs.length]⟩, ⟨some ⟨u.2, 0, none⟩, ws.length, ws.length, 62, 1, List.replicate ws.length (.int .u64 0)⟩, ⟨some ⟨b2, 0, none⟩, 1, 1, 28, 2, [.slice none 0 0, .int .i64 0]⟩, ⟨some ⟨b1, 0, none⟩, 1, 1, 28, 2, [.slice ad ws.length cp, .int .i64 bs.length]⟩] w') ?_ ?_
  · refine CW.regionR T 1 1 hs rfl rfl ?_
    intro w3 hs
    refine HW.takeR (fuel := 8) 0 rfl (fun _ _ ka kb _ hs hka hkb => Y.fieldAddr T rfl rfl rfl rfl rfl) ⟨_, _, 1, 1, hs, rfl, rfl⟩ rfl (by kernel_rfl) (by kernel_rfl) (by kernel_rfl) ?_
    refine HW.takeR (fuel := 7) 1 rfl (fun _ _ ka kb _ hs hka hkb => Y.loadRow1 T hs ka hka rfl rfl rfl rfl) ⟨_, _, 1, 1, hs, rfl, rfl⟩ rfl (by kernel_rfl) (by kernel_rfl) (by kernel_rfl) ?_
    refine HW.takeR (fuel := 6) 2 rfl (fun _ _ ka kb _ hs hka hkb => Y.len T rfl rfl) ⟨_, _, 1, 1, hs, rfl, rfl⟩ rfl (by kernel_rfl) (by kernel_rfl) (by kernel_rfl) ?_
    refine HW.takeR (fuel := 5) 4 rfl (fun _ _ ka kb _ hs hka hkb => Y.fieldAddr T rfl rfl rfl rfl rfl) ⟨_, _, 1, 1, hs, rfl, rfl⟩ rfl (by kernel_rfl) (by kernel_rfl) (by kernel_rfl) ?_
    refine HW.takeR (fuel := 4) 5 rfl (fun _ _ ka kb _ hs hka hkb => Y.loadRow1 T hs ka hka rfl rfl rfl rfl) ⟨_, _, 1, 1, hs, rfl, rfl⟩ rfl (by kernel_rfl) (by kernel_rfl) (by kernel_rfl) ?_
    refine HW.two (fuel := 3) 3 7 rfl rfl (by kernel_rfl) ?_ ?_
    · (refine RW.make1 T hs rfl rfl rfl rfl rfl rfl rfl (by dsimp only; omega) (by omega) ?_; intro b3 w3 hs)
      refine RW.nil ?_
      refine heldQ_normal ⟨_, _, 2, 2, hs, rfl, rfl⟩ ?_
      refine HW.takeR (fuel := 2) 6 rfl (fun _ _ ka kb _ hs hka hkb => Y.build T rfl rfl rfl rfl rfl rfl rfl) ⟨_, _, 2, 2, hs, rfl, rfl⟩ rfl (by kernel_rfl) (by kernel_rfl) (by kernel_rfl) ?_
      refine HW.one (fuel := 1) 7 rfl (by kernel_rfl) ?_
      (refine RW.allocN T hs rfl rfl rfl rfl ?_; intro b4 w4 hs)
      refine RW.nil ?_
      refine heldQ_normal ⟨_, _, 3, 3, hs, rfl, rfl⟩ ?_
      refine HW.one (fuel := 0) 8 rfl (by kernel_rfl) ?_
      (refine RW.storeAll T hs 0 rfl rfl rfl rfl rfl rfl rfl rfl ?_; intro w5 hs)
      refine RW.nil ?_
      refine heldQ_normal ⟨_, _, 3, 3, hs, rfl, rfl⟩ ?_
      refine HW.done (by kernel_rfl) ?_
      refine calmQ_normal ?_
      exact joinQ_meet (b4, b3) ⟨rfl, rfl, rfl, trivial⟩ hs
    · (refine RW.allocN T hs rfl rfl rfl rfl ?_; intro b4 w4 hs)
      refine RW.nil ?_
      refine heldQ_normal ⟨_, _, 2, 2, hs, rfl, rfl⟩ ?_
      refine HW.one (fuel := 2) 3 rfl (by kernel_rfl) ?_
      (refine RW.make1 T hs rfl rfl rfl rfl rfl rfl rfl (by dsimp only; omega) (by omega) ?_; intro b3 w3 hs)
      refine RW.nil ?_
      refine heldQ_normal ⟨_, _, 3, 3, hs, rfl, rfl⟩ ?_
      refine HW.takeR (fuel := 1) 6 rfl (fun _ _ ka kb _ hs hka hkb => Y.build T rfl rfl rfl rfl rfl rfl rfl) ⟨_, _, 3, 3, hs, rfl, rfl⟩ rfl (by kernel_rfl) (by kernel_rfl) (by kernel_rfl) ?_
      refine HW.one (fuel := 0) 8 rfl (by kernel_rfl) ?_
      (refine RW.storeAll T hs 1 rfl rfl rfl rfl rfl rfl rfl rfl ?_; intro w5 hs)
      refine RW.nil ?_
      refine heldQ_normal ⟨_, _, 3, 3, hs, rfl, rfl⟩ ?_
      refine HW.done (by kernel_rfl) ?_
      refine calmQ_normal ?_
      exact joinQ_meet (b4, b3) ⟨rfl, rfl, rfl, trivial⟩ hs.swap
  rintro ⟨b4, b3⟩ w6 hs
  dsimp only at hs ⊢
  have hs := hs.swap.re (ys := ((ws.take 0).map notW).map (Value.int .u64) ++ List.replicate (ws.length - 0) (.int .u64 0)) (by simp)
  replace hs := hs.swap
  refine Zerun ?_
  refine CW.loop (fun i : Nat => [(1, .pointer (some ⟨b1, 0, none⟩)), (2, .pointer (some ⟨b2, 0, none⟩)), (3, .pointer (some ⟨b4, 0, none⟩)), (14, .slice ad ws.length cp), (15, .int .i64 (ws.length : Int)), (16, .int .i64 i)]) (fun i w' => i ≤ ws.length ∧ Sees w h h [⟨some ⟨b4, 0, none⟩, 1, 1, 28, 2, [.slice (some ⟨b3, 0, none⟩) ws.length ws.length, .int .i64 bs.length]⟩, ⟨some ⟨b3, 0, none⟩, ws.length, ws.length, 62, 1, ((ws.take i).map notW).map (Value.int .u64) ++ List.replicate (ws.length - i) (.int .u64 0)⟩, ⟨some ⟨b2, 0, none⟩, 1, 1, 28, 2, [.slice none 0 0, .int .i64 0]⟩, ⟨some ⟨b1, 0, none⟩, 1, 1, 28, 2, [.slice ad ws.length cp, .int .i64 bs.length]⟩] w') (fun i => ws.length - i) 0 ⟨rfl, rfl, rfl, rfl, rfl, rfl, trivial⟩ ⟨by omega, hs⟩ ?_
  rintro i w7 ⟨hi, hs⟩
  by_cases hlt : i < ws.length
  · have hri := hr _ (mem_getD ws i 0 hlt)
    obtain ⟨u, hu⟩ := Int.eq_ofNat_of_zero_le hri.1
    have hu2 : u < 18446744073709551616 := by omega
    have hA : (((ws.take i).map notW).map (Value.int .u64)).length = i := by rw [List.length_map, List.length_map, List.length_take]; omega
    have hnx : ((ws.take (i + 1)).map notW).map (Value.int .u64) = ((ws.take i).map notW).map (Value.int .u64) ++ [.int .u64 ((18446744073709551615 - u : Nat) : Int)] := by
      rw [take_succ_getD ws i 0 hlt, List.map_append, List.map_append, hu]
      rfl
    refine Zerun ?_
    rw [hu]
    refine RW.val (Y.notU rfl hu2) rfl ?_
    refine RW.val (Y.idxRN T hs 1 rfl rfl rfl rfl rfl rfl hlt) rfl ?_
    refine RW.st1 T hs 1 rfl rfl rfl rfl rfl rfl rfl hlt ?_
    intro w8 hs
    dsimp only [List.set] at hs
    rw [fillA' hA hlt, ← hnx] at hs
    refine Zerun ?_
    exact loopQ_round (i + 1) ⟨rfl, rfl, rfl, rfl, rfl, rfl, trivial⟩ ⟨by omega, hs⟩ (by omega)
  · obtain rfl : i = ws.length := by omega
    rw [List.take_length, Nat.sub_self, List.replicate_zero, List.append_nil] at hs
    refine Zerun ?_
    obtain ⟨wz, hwz⟩ : ∃ z, ws.map notW = z := ⟨_, rfl⟩
    have hzl : wz.length = ws.length := by rw [← hwz, List.length_map]
    have htr := trim_not hB'
    rw [hwz] at hs htr
    rw [← hzl] at hs ⊢
    (refine RW.callM T hs rfl rfl rfl (bitsTrim_conM bs.length b3 wz _ _ _ _ _ _ (by omega) (fun u hu => by rw [← hwz] at hu; obtain ⟨x, _, rfl⟩ := List.mem_map.1 hu; exact notW_lt x) hlen) ?_; intro v h9 O9 w9 hle9 hp9 hs)
    obtain ⟨rfl, rfl⟩ := hp9
    refine Zerun ?_
    (refine RW.storeAll T hs 2 rfl rfl rfl rfl rfl rfl rfl rfl ?_; intro w10 hs)
    dsimp only [List.set] at hs
    refine Zerun ?_
    have hl : (trimW bs.length wz).length = wz.length := by have := htr.1; rw [List.length_map] at this; omega
    obtain ⟨h9, hle9, hs9, hS9⟩ := hs.drop.freeze
    refine retQ_ret [_] h9 ⟨resN T hs 2 rfl rfl rfl rfl rfl rfl, trivial⟩ hs9.dropAll ⟨_, rfl, by rw [List.length_map]; exact hlen, trimW bs.length wz, ?_, htr⟩
    dsimp only at hS9
    exact RowAt.of_sl hS9
theorem bitsOnes_conM (wv : Value) (bs : List Bool) (w0 w : World) (h0 h : GHeap) (O : List Row) (hT : TzTab h) (hb : BitsAt h wv bs) : ConM Tryd.prog 65 [.agg [wv, .int .i64 bs.length].toArray] w0 h0 h O w (fun _ O' u => ∃ ad cp, u = .slice ad (onesL bs).length cp ∧ O' = ⟨ad, (onesL bs).length, cp, 3, 1, (onesL bs).map (Value.int .i64)⟩ :: O) := by
  have hb' := hb
  obtain ⟨hlen, ws, ⟨ad, cp, rfl, hS⟩, hw, hr, hbit⟩ := hb
  have hwl : ws.length ≤ 16385 := by omega
  have hword : ∀ i j : Nat, j < 64 → (ws.getD i 0).toNat.testBit j = bs.getD (64 * i + j) false := by
    intro i j hj
    rw [← hbit (64 * i + j), show (64 * i + j) / 64 = i by omega, show (64 * i + j) % 64 = j by omega]
  refine ConM.of_body Tryd.func65 rfl Tryd.ntmps65 rfl rfl ?_
  intro hs
  refine Zrun ?_
  (refine RW.boxN hs rfl rfl ?_; intro b1 w1 hs)
  refine Zerun ?_
  (refine RW.call T hs rfl rfl rfl (bitsCount_con _ bs _ _ hb') ?_; intro v h2 w2 hle2 hp2 hs)
  obtain ⟨n, hn, rfl⟩ := hp2
  have hT := hT.mono hle2
  have hS2 := hS.mono hle2
  refine RW.make T hs rfl rfl rfl rfl rfl (by omega) (by omega) (by dsimp only; omega) (by omega) ?_
  intro b3 w3 hs
  have hs := hs.re (ys := []) (made_one (.int .i64 0) 0)
  rw [Int.toNat_natCast]
  refine Zerun ?_
  refine CW.loop (fun r : Nat × Nat × Option Addr × Nat × GHeap => [(1, .pointer (some ⟨b1, 0, none⟩)), (3, .slice r.2.2.1 r.2.1 r.2.2.2.1), (10, .slice ad ws.length cp), (11, .int .i64 (ws.length : Int)), (12, .int .i64 r.1)]) (fun r w' => r.1 ≤ ws.length ∧ (onesTo bs (64 * r.1)).length = r.2.1 ∧ GLe h2 r.2.2.2.2 ∧ Sees w0 h0 r.2.2.2.2 (⟨r.2.2.1, r.2.1, r.2.2.2.1, 3, 1, (onesTo bs (64 * r.1)).map (Value.int .i64)⟩ :: ⟨some ⟨b1, 0, none⟩, 1, 1, 28, 2, [.slice ad ws.length cp, .int .i64 bs.length]⟩ :: O) w') (fun r => ws.length - r.1) (0, 0, some ⟨b3, 0, none⟩, n, h2) ⟨rfl, rfl, rfl, rfl, rfl, trivial⟩ ⟨by omega, rfl, GLe.refl _, hs⟩ ?_
  rintro ⟨i, m, ra, rc, hh⟩ w4 ⟨hi, hm, hg, hs⟩
  dsimp only at hi hm hg hs ⊢
  have hS4 := hS2.mono hg
  by_cases hlt : i < ws.length
  · have hwi := hr _ (mem_getD ws i 0 hlt)
    refine Zerun ?_
    refine CW.loop (fun r : Nat × Nat × Nat × Option Addr × Nat × GHeap => [(1, .pointer (some ⟨b1, 0, none⟩)), (3, .slice r.2.2.2.1 r.2.2.1 r.2.2.2.2.1), (4, .int .i64 (i : Int)), (5, .int .u64 (r.1 : Int)), (10, .slice ad ws.length cp), (11, .int .i64 (ws.length : Int)), (12, .int .i64 (i : Int))]) (fun r w' => r.1 < 18446744073709551616 ∧ r.2.1 ≤ 64 ∧ (∀ j, j < 64 → r.1.testBit j = (decide (r.2.1 ≤ j) && bs.getD (64 * i + j) false)) ∧ (onesTo bs (64 * i + r.2.1)).length = r.2.2.1 ∧ GLe h2 r.2.2.2.2.2 ∧ Sees w0 h0 r.2.2.2.2.2 (⟨r.2.2.2.1, r.2.2.1, r.2.2.2.2.1, 3, 1, (onesTo bs (64 * i + r.2.1)).map (Value.int .i64)⟩ :: ⟨some ⟨b1, 0, none⟩, 1, 1, 28, 2, [.slice ad ws.length cp, .int .i64 bs.length]⟩ :: O) w') (fun r => 64 - r.2.1) ((ws.getD i 0).toNat, 0, m, ra, rc, hh) ⟨rfl, rfl, rfl, by dsimp only; rw [Int.toNat_of_nonneg hwi.1]; rfl, rfl, rfl, rfl, trivial⟩ ⟨by dsimp only; omega, by dsimp only; omega, fun j hj => by rw [hword i j hj]; simp, hm, hg, hs⟩ ?_
    rintro ⟨x, t, m2, rb, rd, h5⟩ w5 ⟨hx, ht, hxb, hm2, hg5, hs⟩
    dsimp only at hx ht hxb hm2 hg5 hs ⊢
    by_cases c : x = 0
    · subst c
      have hz : ∀ j, 64 * i + t ≤ j → j < 64 * (i + 1) → bs.getD j false = false := by
        intro j h1 h2
        have := hxb (j - 64 * i) (by omega)
        rw [Nat.zero_testBit, decide_eq_true (by omega), Bool.true_and, show 64 * i + (j - 64 * i) = j by omega] at this
        exact this.symm
      have e : onesTo bs (64 * (i + 1)) = onesTo bs (64 * i + t) := onesTo_none (by omega) hz
      refine Zerun ?_
      exact loopQ_round (i + 1, m2, rb, rd, h5) ⟨rfl, rfl, rfl, rfl, rfl, trivial⟩ ⟨by dsimp only; omega, by dsimp only; rw [e]; exact hm2, hg5, by dsimp only; rw [e]; exact hs⟩ (by dsimp only; omega)
    obtain ⟨hk, hbel, hat, hnx⟩ := low_bit c hx
    have hT5 := hT.mono hg5
    have hm3 := onesTo_len bs (64 * i + t)
    have htz := tz_con x
    generalize Lib.ctz 64 x = k at hk hbel hat hnx htz
    have hkb := hxb k hk
    rw [hat] at hkb
    have htk : t ≤ k := by
      by_cases c2 : t ≤ k
      · exact c2
      · rw [decide_eq_false c2] at hkb; cases hkb
    have hkt : bs.getD (64 * i + k) false = true := by rw [decide_eq_true htk, Bool.true_and] at hkb; exact hkb.symm
    have hone : onesTo bs (64 * i + k + 1) = onesTo bs (64 * i + t) ++ [((64 * i + k : Nat) : Int)] := onesTo_next (by omega) (fun j h1 h2 => by
      have := hxb (j - 64 * i) (by omega)
      rw [hbel _ (by omega), decide_eq_true (by omega), Bool.true_and, show 64 * i + (j - 64 * i) = j by omega] at this
      exact this.symm) hkt
    refine Zerun ?_
    refine RW.val (Y.shl' rfl rfl (by decide)) rfl ?_
    refine RW.respell (t := 21) (v := .int .i64 ((64 * i : Nat) : Int)) rfl (by
      have : IntKind.i64.wrap ((i : Int) * 2 ^ min (6 : Int).toNat IntKind.i64.bits) = ((64 * i : Nat) : Int) := by
        rw [show (2 : Int) ^ min (6 : Int).toNat IntKind.i64.bits = 64 by decide, wrap64 ⟨by omega, by omega⟩]
        omega
      rw [this]) ?_
    refine Zerun ?_
    (refine RW.call T hs rfl rfl rfl (htz _ _ hx hT5) ?_; intro v h6 w6 hle6 hp6 hs)
    subst hp6
    refine Zerun ?_
    (refine RW.lit T hs (vs := [.int .i64 ((64 * i : Nat) + (k : Nat) : Int)]) (cs := [.int .i64 ((64 * i : Nat) + (k : Nat) : Int)]) rfl rfl rfl rfl (by simp [Value.cells]) rfl rfl rfl rfl rfl ?_; intro b7 w7 hs)
    (refine RW.append T hs 1 rfl rfl (m := 1) (news := [.int .i64 ((64 * i : Nat) + (k : Nat) : Int)]) rfl rfl rfl rfl rfl rfl (hs.src0 rfl (by simp [Value.oneCell'])) (by simp) (by dsimp only; omega) (by omega) ?_; intro ad8 cp8 w8 hs; replace hs := hs.drop)
    refine Zerun ?_
    refine RW.val (Y.sub' rfl rfl) rfl ?_
    refine RW.respell (t := 29) (v := .int .u64 ((x - 1 : Nat) : Int)) rfl (by
      rw [show (x : Int) - 1 = ((x - 1 : Nat) : Int) by omega, wrapU _ (by omega)]) ?_
    refine RW.val (Y.andU rfl rfl hx (by omega)) rfl ?_
    refine Zerun ?_
    have hlen1 : (onesTo bs (64 * i + (k + 1))).length = m2 + 1 := by rw [show 64 * i + (k + 1) = 64 * i + k + 1 by omega, hone, List.length_append, hm2]; rfl
    refine loopQ_round (x &&& (x - 1), k + 1, m2 + 1, ad8, cp8, h6) ⟨rfl, rfl, rfl, rfl, rfl, rfl, rfl, trivial⟩ ⟨by dsimp only; have := Nat.and_le_left (n := x) (m := x - 1); omega, by dsimp only; omega, fun j hj => ?_, hlen1, hg5.trans hle6, hs.re ?_⟩ (by dsimp only; omega)
    · dsimp only
      rw [hnx, hxb j hj]
      by_cases c2 : j = k
      · subst c2; rw [decide_eq_false (show ¬ j + 1 ≤ j by omega)]; simp
      · by_cases c3 : k + 1 ≤ j
        · rw [decide_eq_true (show t ≤ j by omega), decide_eq_true c3, decide_eq_true c2]; simp
        · rw [decide_eq_false c3]
          have := hxb j hj
          rw [hbel j (by omega)] at this
          rw [← this]; simp
    · rw [show 64 * i + (k + 1) = 64 * i + k + 1 by omega, hone, List.map_append, Int.natCast_add]
      rfl
  · obtain rfl : i = ws.length := by omega
    have e : onesTo bs (64 * ws.length) = onesL bs := onesTo_ge (by omega)
    rw [e] at hm hs
    refine Zerun ?_
    rw [← hm] at hs ⊢
    exact retM_ret [_] hh _ ⟨rfl, trivial⟩ (hle2.trans hg) hs.swap.drop ⟨ra, rc, rfl, rfl⟩
theorem onesTo_filter (bs : List Bool) : onesL bs = natsI ((List.range bs.length).filter fun i => bs.getD i false) := rfl
theorem onesL_not (bs : List Bool) : onesL (bs.map not) = natsI ((List.range bs.length).filter fun i => !bs.getD i false) := by
  unfold onesL onesTo natsI
  rw [List.length_map]
  congr 1
  apply List.filter_congr
  intro i hi
  rw [List.mem_range] at hi
  rw [List.getD_eq_getElem?_getD, List.getD_eq_getElem?_getD, List.getElem?_map, List.getElem?_eq_getElem hi]
  rfl
/-- truths graded: the places of one kind, and behind them those of the other -/
def bitsG (bs : List Bool) (down : Bool) : List Int := if down = true then onesL bs ++ onesL (bs.map not) else onesL (bs.map not) ++ onesL bs
theorem radixBits_con (wv : Value) (bs : List Bool) (down : Bool) (w : World) (h : GHeap) (hT : TzTab h) (hb : BitsAt h wv bs) : Con Tryd.prog 22 [.agg [wv, .int .i64 bs.length].toArray, .bool down] w h (fun h' u => IntsAt h' u (bitsG bs down)) := by
  have hb' := hb
  have hlen := hb.1
  have hl1 : (onesL bs).length ≤ bs.length := onesTo_len bs bs.length
  have hl2 : (onesL (bs.map not)).length ≤ bs.length := by have := onesTo_len (bs.map not) (bs.map not).length; rw [List.length_map] at this; unfold onesL; rw [List.length_map]; exact this
  obtain ⟨_, ws, ⟨ad, cp, rfl, hS⟩, hB⟩ := hb
  refine Con.of_body Tryd.func22 rfl Tryd.ntmps22 rfl rfl ?_
  intro hs
  refine Zrun ?_
  (refine RW.boxN hs rfl rfl ?_; intro b1 w1 hs)
  refine Zerun ?_
  refine CW.meet (fun u : (Option Addr × Nat) × (Option Addr × Nat) × GHeap => [(1, .bool down), (5, .slice u.1.1 (onesL (bs.map not)).length u.1.2), (6, .slice u.2.1.1 (onesL bs).length u.2.1.2)]) (fun u w' => Sees w h u.2.2 [⟨u.2.1.1, (onesL bs).length, u.2.1.2, 3, 1, (onesL bs).map (Value.int .i64)⟩, ⟨u.1.1, (onesL (bs.map not)).length, u.1.2, 3, 1, (onesL (bs.map not)).map (Value.int .i64)⟩] w') ?_ ?_
  · refine CW.regionR T 0 0 hs rfl rfl ?_
    intro w3 hs
    refine HW.takeR (fuel := 6) 0 rfl (fun _ _ ka kb _ hs hka hkb => Y.loadRowN T hs ka hka rfl rfl rfl rfl rfl rfl) ⟨_, _, 0, 0, hs, rfl, rfl⟩ rfl (by kernel_rfl) (by kernel_rfl) (by kernel_rfl) ?_
    refine HW.takeR (fuel := 5) 3 rfl (fun _ _ ka kb _ hs hka hkb => Y.loadRowN T hs ka hka rfl rfl rfl rfl rfl rfl) ⟨_, _, 0, 0, hs, rfl, rfl⟩ rfl (by kernel_rfl) (by kernel_rfl) (by kernel_rfl) ?_
    refine HW.one (fuel := 4) 1 rfl (by kernel_rfl) ?_
    (refine RW.call T hs rfl rfl rfl (bitsNot_con _ bs _ _ hb') ?_; intro v h2 w2 hle2 hp2 hs)
    obtain ⟨wv2, rfl, hb2⟩ := hp2
    have hb' := hb'.mono hle2
    have hT := hT.mono hle2
    refine RW.nil ?_
    refine heldQ_normal ⟨_, _, 0, 0, hs, rfl, rfl⟩ ?_
    refine HW.one (fuel := 3) 2 rfl (by kernel_rfl) ?_
    (refine RW.callM T hs rfl rfl rfl (bitsOnes_conM _ (bs.map not) _ _ _ _ _ hT hb2) ?_; intro v h3 O3 w3 hle3 hp3 hs)
    obtain ⟨ad3, cp3, rfl, rfl⟩ := hp3
    have hb' := hb'.mono hle3
    have hT := hT.mono hle3
    refine RW.nil ?_
    refine heldQ_normal ⟨_, _, 1, 1, hs, rfl, rfl⟩ ?_
    refine HW.one (fuel := 2) 4 rfl (by kernel_rfl) ?_
    (refine RW.callM T hs rfl rfl rfl (bitsOnes_conM _ bs _ _ _ _ _ hT hb') ?_; intro v h4 O4 w4 hle4 hp4 hs)
    obtain ⟨ad4, cp4, rfl, rfl⟩ := hp4
    refine RW.nil ?_
    refine heldQ_normal ⟨_, _, 2, 2, hs, rfl, rfl⟩ ?_
    refine HW.takeR (fuel := 1) 5 rfl (fun _ _ ka kb _ hs hka hkb => Y.assign rfl) ⟨_, _, 2, 2, hs, rfl, rfl⟩ rfl (by kernel_rfl) (by kernel_rfl) (by kernel_rfl) ?_
    refine HW.takeR (fuel := 0) 6 rfl (fun _ _ ka kb _ hs hka hkb => Y.assign rfl) ⟨_, _, 2, 2, hs, rfl, rfl⟩ rfl (by kernel_rfl) (by kernel_rfl) (by kernel_rfl) ?_
    refine HW.done (by kernel_rfl) ?_
    refine calmQ_normal ?_
    exact joinQ_meet ((ad3, cp3), (ad4, cp4), h4) ⟨rfl, rfl, rfl, trivial⟩ (hs.sub (.cons_cons _ (.cons_cons _ (.cons _ .slnil))))
  rintro ⟨⟨ad3, cp3⟩, ⟨ad4, cp4⟩, h5⟩ w5 hs
  dsimp only at hs ⊢
  have h1c : ∀ l : List Int, ∀ u ∈ l.map (Value.int .i64), u.oneCell' = true := by
    intro l u hu
    obtain ⟨x, _, rfl⟩ := List.mem_map.1 hu
    rfl
  unfold bitsG
  cases down with
  | false =>
    obtain ⟨h6, hle6, hs, hS6⟩ := hs.freeze
    dsimp only at hS6
    refine Zerun ?_
    refine RW.append T hs 0 rfl rfl (m := (onesL bs).length) (news := (onesL bs).map (Value.int .i64)) rfl rfl rfl rfl rfl rfl (hS6.src hs.agree (h1c _)) hS6.cap0 (by dsimp only; omega) (by omega) ?_
    intro ad7 cp7 w7 hs
    have hs : Sees w h h6 [⟨ad7, (onesL (bs.map not)).length + (onesL bs).length, cp7, 3, 1, (onesL (bs.map not) ++ onesL bs).map (Value.int .i64)⟩] w7 := hs.re (by rw [List.map_append])
    obtain ⟨h8, hle8, hs, hI⟩ := freezeI hs (List.length_append ..)
    refine Zerun ?_
    exact retQ_ret [_] h8 ⟨rfl, trivial⟩ hs.dropAll hI
  | true =>
    obtain ⟨h6, hle6, hs, hS6⟩ := hs.swap.freeze
    dsimp only at hS6
    refine Zerun ?_
    refine RW.append T hs 0 rfl rfl (m := (onesL (bs.map not)).length) (news := (onesL (bs.map not)).map (Value.int .i64)) rfl rfl rfl rfl rfl rfl (hS6.src hs.agree (h1c _)) hS6.cap0 (by dsimp only; omega) (by omega) ?_
    intro ad7 cp7 w7 hs
    have hs : Sees w h h6 [⟨ad7, (onesL bs).length + (onesL (bs.map not)).length, cp7, 3, 1, (onesL bs ++ onesL (bs.map not)).map (Value.int .i64)⟩] w7 := hs.re (by rw [List.map_append])
    obtain ⟨h8, hle8, hs, hI⟩ := freezeI hs (List.length_append ..)
    refine Zerun ?_
    exact retQ_ret [_] h8 ⟨rfl, trivial⟩ hs.dropAll hI
end Go.Proofs.YtmfealaaacmohaaDoor

/-
  Plain facts: one put in behind all that aren't above it keeps places at their ranks. No program is in sight, and no statement is proved here.
-/
namespace Go.Proofs.YtmfealaaacmohaaDoor

/-- how many of the first ones aren't above the next one -/
def putN (dl : List Nat) (i : Nat) : Nat := below (dl.take i) (dl.getD i 0 + 1)
theorem putN_le (dl : List Nat) (i : Nat) : putN dl i ≤ i := Nat.le_trans (below_le _ _) (by rw [List.length_take]; omega)
theorem take_getD (dl : List Nat) (i j : Nat) (h : j < i) : (dl.take i).getD j 0 = dl.getD j 0 := by
  rw [List.getD_eq_getElem?_getD, List.getElem?_take, if_pos h, ← List.getD_eq_getElem?_getD]
theorem rank_put_lt (dl : List Nat) (i j : Nat) (hi : i < dl.length) (hj : j < i) : rankP (dl.take i) j < putN dl i ↔ dl.getD j 0 ≤ dl.getD i 0 := by
  have hl : j < (dl.take i).length := by rw [List.length_take]; omega
  have hb := rank_below (dl.take i) hl
  rw [take_getD dl i j hj] at hb
  unfold putN
  constructor
  · intro h
    apply Classical.byContradiction
    intro hn
    have := below_mono (dl.take i) (show dl.getD i 0 + 1 ≤ dl.getD j 0 by omega)
    omega
  · intro h
    have := below_mono (dl.take i) (show dl.getD j 0 + 1 ≤ dl.getD i 0 + 1 by omega)
    omega
theorem below_take_succ (dl : List Nat) (i p : Nat) (hi : i < dl.length) : below (dl.take (i + 1)) p = below (dl.take i) p + if dl.getD i 0 < p then 1 else 0 := by
  unfold below
  rw [take_snoc dl i 0 hi, List.countP_append, List.countP_singleton]
  by_cases e : dl.getD i 0 < p
  · rw [if_pos (by simpa using e), if_pos e]
  · rw [if_neg (by simpa using e), if_neg e]
theorem alike_take (dl : List Nat) (i j p : Nat) (h : j ≤ i) : alike (dl.take i) j p = alike dl j p := by
  unfold alike
  rw [List.take_take, Nat.min_eq_left h]
theorem rank_new (dl : List Nat) (i : Nat) (hi : i < dl.length) : rankP (dl.take (i + 1)) i = putN dl i := by
  unfold rankP putN
  rw [take_getD dl (i + 1) i (by omega), below_take_succ dl i _ hi, if_neg (by omega), alike_take dl (i + 1) i _ (by omega), below_succ]
  rw [alike_take dl i (dl.take i).length _ (by rw [List.length_take]; omega), List.length_take, Nat.min_eq_left (by omega)]
  omega
theorem rank_old (dl : List Nat) (i j : Nat) (hi : i < dl.length) (hj : j < i) : rankP (dl.take (i + 1)) j = rankP (dl.take i) j + if dl.getD i 0 < dl.getD j 0 then 1 else 0 := by
  unfold rankP
  rw [take_getD dl (i + 1) j (by omega), take_getD dl i j hj, below_take_succ dl i _ hi, alike_take dl (i + 1) j _ (by omega), alike_take dl i j _ (by omega)]
  omega
/-- the next one, put in -/
def putIn (out : List Nat) (p x : Nat) : List Nat := out.take p ++ x :: out.drop p
theorem putIn_len (out : List Nat) (p x : Nat) : (putIn out p x).length = out.length + 1 := by
  unfold putIn; rw [List.length_append, List.length_cons, List.length_take, List.length_drop]; omega
theorem putIn_at (out : List Nat) (p x : Nat) (h : p ≤ out.length) : (putIn out p x).getD p 0 = x := by
  unfold putIn
  rw [List.getD_eq_getElem?_getD, List.getElem?_append_right (by rw [List.length_take]; omega), List.length_take, Nat.min_eq_left h, Nat.sub_self]; rfl
theorem putIn_low (out : List Nat) (p x q : Nat) (h : p ≤ out.length) (hq : q < p) : (putIn out p x).getD q 0 = out.getD q 0 := by
  unfold putIn
  rw [List.getD_eq_getElem?_getD, List.getElem?_append_left (by rw [List.length_take]; omega), List.getElem?_take, if_pos hq, ← List.getD_eq_getElem?_getD]
theorem putIn_high (out : List Nat) (p x q : Nat) (h : p ≤ out.length) (hq : p ≤ q) : (putIn out p x).getD (q + 1) 0 = out.getD q 0 := by
  unfold putIn
  rw [List.getD_eq_getElem?_getD, List.getElem?_append_right (by rw [List.length_take]; omega), List.length_take, Nat.min_eq_left h, show q + 1 - p = (q - p) + 1 by omega, List.getElem?_cons_succ, List.getElem?_drop, show p + (q - p) = q by omega, ← List.getD_eq_getElem?_getD]
theorem Placed.nil (dl at_ : List Nat) : Placed (dl.take 0) (at_.take 0) [] := ⟨rfl, fun j hj => absurd hj (by simp)⟩
theorem Placed.put {dl at_ out : List Nat} {i : Nat} (h : Placed (dl.take i) (at_.take i) out) (hi : i < at_.length) (hl : dl.length = at_.length) : Placed (dl.take (i + 1)) (at_.take (i + 1)) (putIn out (putN dl i) (at_.getD i 0)) := by
  obtain ⟨h1, h2⟩ := h
  rw [List.length_take, Nat.min_eq_left (by omega)] at h1 h2
  have hp := putN_le dl i
  refine ⟨by rw [putIn_len, h1, List.length_take]; omega, fun j hj => ?_⟩
  rw [List.length_take, Nat.min_eq_left (by omega)] at hj
  rw [take_getD at_ (i + 1) j hj]
  by_cases e : j = i
  · subst e
    rw [rank_new dl j (by omega), putIn_at _ _ _ (by omega)]
  · have hlt := rank_put_lt dl i j (by omega) (by omega)
    have h3 := h2 j (by omega)
    rw [take_getD at_ i j (by omega)] at h3
    rw [rank_old dl i j (by omega) (by omega)]
    by_cases c : dl.getD i 0 < dl.getD j 0
    · rw [if_pos c, putIn_high _ _ _ _ (by omega) (by omega)]
      exact h3
    · rw [if_neg c, Nat.add_zero, putIn_low _ _ _ _ (by omega) (hlt.2 (by omega))]
      exact h3
theorem Placed.eq {dl at_ o1 o2 : List Nat} (h1 : Placed dl at_ o1) (h2 : Placed dl at_ o2) (hl : dl.length = at_.length) : o1 = o2 := by
  obtain ⟨a1, b1⟩ := h1
  obtain ⟨a2, b2⟩ := h2
  have hsur := inj_surj dl.length (rankP dl) (fun j hj => rank_lt dl hj) (fun i j hi hj e => rank_inj dl hi hj e)
  apply List.ext_getElem?
  intro q
  by_cases hq : q < dl.length
  · obtain ⟨j, hj, rfl⟩ := hsur q hq
    have e1 := b1 j (by omega)
    have e2 := b2 j (by omega)
    have r := rank_lt dl hj
    rw [List.getD_eq_getElem?_getD] at e1 e2
    rw [List.getElem?_eq_getElem (by omega)] at e1 e2 ⊢
    rw [List.getElem?_eq_getElem (by omega)]
    simp only [Option.getD_some] at e1 e2
    rw [e1, e2]
  · rw [List.getElem?_eq_none (by omega), List.getElem?_eq_none (by omega)]
/-- the place that stands at one of the first ranks, and what its digit tells -/
theorem Placed.turn {dl at_ out : List Nat} {i n : Nat} (h : Placed (dl.take i) (at_.take i) out) (hi : i < at_.length) (hl : dl.length = at_.length) (hn : n < i) : ∃ j, j < i ∧ out.getD n 0 = at_.getD j 0 ∧ (dl.getD j 0 ≤ dl.getD i 0 ↔ n < putN dl i) := by
  obtain ⟨h1, h2⟩ := h
  rw [List.length_take, Nat.min_eq_left (by omega)] at h1 h2
  have hl2 : (dl.take i).length = i := by rw [List.length_take]; omega
  have hsur := inj_surj i (rankP (dl.take i)) (fun j hj => by have := rank_lt (dl.take i) (j := j) (by omega); omega) (fun a b ha hb e => rank_inj (dl.take i) (by omega) (by omega) e)
  obtain ⟨j, hj, rfl⟩ := hsur n hn
  refine ⟨j, hj, ?_, ?_⟩
  · have := h2 j hj
    rwa [take_getD at_ i j hj] at this
  · exact (rank_put_lt dl i j (by omega) hj).symm
end Go.Proofs.YtmfealaaacmohaaDoor

/-
  Plain facts on putting places in order by comparing: put in one by one, and merged. No program is in sight, and no statement is proved here.
-/
namespace Go.Proofs.YtmfealaaacmohaaDoor

/-- what a comparison has to be: an order of classes of alike ones -/
structure WeakOrd (ah : Nat → Nat → Bool) : Prop where
  asym : ∀ i j, ah i j = true → ah j i = false
  ntr : ∀ i j k, ah i j = false → ah j k = false → ah i k = false
/-- ahead of it, or alike and earlier -/
def ltS (ah : Nat → Nat → Bool) (i j : Nat) : Prop := ah i j = true ∨ (ah j i = false ∧ i < j)
theorem ltS_asym {ah : Nat → Nat → Bool} (hw : WeakOrd ah) (i j : Nat) (h : ltS ah i j) : ¬ ltS ah j i := by
  rintro (h2 | ⟨h2, h3⟩)
  · rcases h with h | ⟨h, h4⟩
    · have := hw.asym _ _ h; rw [h2] at this; cases this
    · rw [h] at h2; cases h2
  · rcases h with h | ⟨h, h4⟩
    · rw [h] at h2; cases h2
    · omega
theorem ltS_trans {ah : Nat → Nat → Bool} (hw : WeakOrd ah) (i j k : Nat) (h1 : ltS ah i j) (h2 : ltS ah j k) : ltS ah i k := by
  have n1 : ah j i = false := by
    rcases h1 with h | ⟨h, _⟩
    · exact hw.asym _ _ h
    · exact h
  have n2 : ah k j = false := by
    rcases h2 with h | ⟨h, _⟩
    · exact hw.asym _ _ h
    · exact h
  have n3 : ah k i = false := hw.ntr _ _ _ n2 n1
  by_cases c : ah i k = true
  · exact .inl c
  · have c : ah i k = false := by simpa using c
    refine .inr ⟨n3, ?_⟩
    have m1 : ¬ ah i j = true := by
      intro e
      have : ah i j = false := hw.ntr i k j c n2
      rw [e] at this; cases this
    have m2 : ¬ ah j k = true := by
      intro e
      have : ah j k = false := hw.ntr j i k n1 c
      rw [e] at this; cases this
    rcases h1 with h | ⟨_, h1⟩
    · exact absurd h m1
    · rcases h2 with h | ⟨_, h2⟩
      · exact absurd h m2
      · omega
/-- the numbers from a to b, each once, in order -/
structure InSeg (ah : Nat → Nat → Bool) (a b : Nat) (s : List Nat) : Prop where
  len : s.length = b - a
  mem : ∀ i, i ∈ s ↔ a ≤ i ∧ i < b
  ord : s.Pairwise (ltS ah)
theorem InSeg.one (ah : Nat → Nat → Bool) (a : Nat) : InSeg ah a (a + 1) [a] := ⟨by simp, fun i => by simp; omega, List.pairwise_singleton _ _⟩
theorem InSeg.none (ah : Nat → Nat → Bool) (a b : Nat) (h : b ≤ a) : InSeg ah a b [] := ⟨by simp; omega, fun i => by simp; omega, .nil⟩
theorem mem_of_getD {s : List Nat} {j : Nat} (h : j < s.length) : s.getD j 0 ∈ s := by simp [List.getD_eq_getElem?_getD, h]
theorem pair_get {R : Nat → Nat → Prop} {s : List Nat} (h : s.Pairwise R) {i j : Nat} (hij : i < j) (hj : j < s.length) : R (s.getD i 0) (s.getD j 0) := by
  have := List.pairwise_iff_getElem.1 h i j (by omega) hj hij
  rw [List.getD_eq_getElem?_getD, List.getD_eq_getElem?_getD, List.getElem?_eq_getElem (show i < s.length by omega), List.getElem?_eq_getElem hj]
  exact this
/-- a merge under way: what is out, and what is left of two runs -/
structure Merging (ah : Nat → Nat → Bool) (s1 s2 : List Nat) (i k : Nat) (o : List Nat) : Prop where
  len : o.length = i + k
  perm : o.Perm (s1.take i ++ s2.take k)
  o1 : (o ++ s1.drop i).Pairwise (ltS ah)
  o2 : (o ++ s2.drop k).Pairwise (ltS ah)
theorem Merging.start {ah : Nat → Nat → Bool} {a m b : Nat} {s1 s2 : List Nat} (h1 : InSeg ah a m s1) (h2 : InSeg ah m b s2) : Merging ah s1 s2 0 0 [] := ⟨rfl, .refl _, h1.ord, h2.ord⟩
theorem drop_cons' (s : List Nat) (i : Nat) (h : i < s.length) : s.drop i = s.getD i 0 :: s.drop (i + 1) := by
  rw [List.drop_eq_getElem_cons h, List.getD_eq_getElem?_getD, List.getElem?_eq_getElem h]; rfl
theorem pair_mid {R : Nat → Nat → Prop} {o d : List Nat} {x : Nat} (h : (o ++ d).Pairwise R) (h1 : ∀ y ∈ o, R y x) (h2 : ∀ y ∈ d, R x y) : (o ++ [x] ++ d).Pairwise R := by
  rw [List.pairwise_append] at h ⊢
  refine ⟨?_, h.2.1, ?_⟩
  · rw [List.pairwise_append]
    exact ⟨h.1, List.pairwise_singleton _ _, fun y hy z hz => by rw [List.mem_singleton] at hz; rw [hz]; exact h1 y hy⟩
  · intro y hy z hz
    rw [List.mem_append, List.mem_singleton] at hy
    rcases hy with hy | rfl
    · exact h.2.2 y hy z hz
    · exact h2 z hz
theorem Merging.left {ah : Nat → Nat → Bool} (hw : WeakOrd ah) {s1 s2 : List Nat} {i k : Nat} {o : List Nat} (h : Merging ah s1 s2 i k o) (hi : i < s1.length) (hx : k < s2.length → ltS ah (s1.getD i 0) (s2.getD k 0)) : Merging ah s1 s2 (i + 1) k (o ++ [s1.getD i 0]) := by
  have ho1 := h.o1
  rw [drop_cons' s1 i hi] at ho1
  have ho2 := h.o2
  refine ⟨by rw [List.length_append, h.len]; simp; omega, ?_, ?_, ?_⟩
  · rw [take_snoc s1 i 0 hi]
    have := h.perm.append_right [s1.getD i 0]
    refine this.trans ?_
    rw [List.append_assoc, List.append_assoc]
    exact List.Perm.append_left _ List.perm_append_comm
  · rw [List.append_assoc]; exact ho1
  · refine pair_mid ho2 ?_ ?_
    · rw [List.pairwise_append] at ho1
      exact fun y hy => ho1.2.2 y hy _ (List.mem_cons_self ..)
    · intro y hy
      by_cases hk : k < s2.length
      · rw [drop_cons' s2 k hk] at hy ho2
        rw [List.pairwise_append, List.pairwise_cons] at ho2
        rcases List.mem_cons.1 hy with rfl | hy
        · exact hx hk
        · exact ltS_trans hw _ _ _ (hx hk) (ho2.2.1.1 y hy)
      · rw [List.drop_eq_nil_of_le (by omega)] at hy; cases hy
theorem Merging.right {ah : Nat → Nat → Bool} (hw : WeakOrd ah) {s1 s2 : List Nat} {i k : Nat} {o : List Nat} (h : Merging ah s1 s2 i k o) (hk : k < s2.length) (hx : i < s1.length → ltS ah (s2.getD k 0) (s1.getD i 0)) : Merging ah s1 s2 i (k + 1) (o ++ [s2.getD k 0]) := by
  have ho1 := h.o1
  have ho2 := h.o2
  rw [drop_cons' s2 k hk] at ho2
  refine ⟨by rw [List.length_append, h.len]; simp; omega, ?_, ?_, ?_⟩
  · rw [take_snoc s2 k 0 hk, ← List.append_assoc]
    exact h.perm.append_right _
  · refine pair_mid ho1 ?_ ?_
    · rw [List.pairwise_append] at ho2
      exact fun y hy => ho2.2.2 y hy _ (List.mem_cons_self ..)
    · intro y hy
      by_cases hi : i < s1.length
      · rw [drop_cons' s1 i hi] at hy ho1
        rw [List.pairwise_append, List.pairwise_cons] at ho1
        rcases List.mem_cons.1 hy with rfl | hy
        · exact hx hi
        · exact ltS_trans hw _ _ _ (hx hi) (ho1.2.1.1 y hy)
      · rw [List.drop_eq_nil_of_le (by omega)] at hy; cases hy
  · rw [List.append_assoc]; exact ho2
theorem Merging.done {ah : Nat → Nat → Bool} {a m b : Nat} {s1 s2 o : List Nat} (h1 : InSeg ah a m s1) (h2 : InSeg ah m b s2) (ham : a ≤ m) (hmb : m ≤ b) (h : Merging ah s1 s2 s1.length s2.length o) : InSeg ah a b o := by
  have hp := h.perm
  rw [List.take_length, List.take_length] at hp
  have ho := h.o1
  rw [List.drop_length, List.append_nil] at ho
  refine ⟨by rw [h.len, h1.len, h2.len]; omega, fun i => ?_, ho⟩
  rw [hp.mem_iff, List.mem_append, h1.mem, h2.mem]
  omega
/-- runs of one length in order, up to a place -/
def Runs (ah : Nat → Nat → Bool) (r n upto : Nat) (l : List Nat) : Prop := ∀ q, q * r < upto → InSeg ah (q * r) (min (q * r + r) n) ((l.drop (q * r)).take r)
theorem Runs.none (ah : Nat → Nat → Bool) (r n : Nat) (l : List Nat) : Runs ah r n 0 l := fun _ hq => absurd hq (Nat.not_lt_zero _)
theorem Runs.all {ah : Nat → Nat → Bool} {r n : Nat} {l : List Nat} (h : Runs ah r n n l) (hl : l.length = n) (hr : n ≤ r) : InSeg ah 0 n l := by
  by_cases c : n = 0
  · subst c
    rw [List.eq_nil_of_length_eq_zero hl]
    exact InSeg.none _ _ _ (Nat.le_refl _)
  · have := h 0 (by omega)
    rw [Nat.zero_mul, List.drop_zero, Nat.zero_add, List.take_of_length_le (by omega), Nat.min_eq_right hr] at this
    exact this
end Go.Proofs.YtmfealaaacmohaaDoor

/-
  Plain facts: places put where the count of those ahead of them tells stand in order. No program is in sight, and no statement is proved here.
-/
namespace Go.Proofs.YtmfealaaacmohaaDoor

theorem countP_less {α : Type} (p q : α → Bool) : ∀ (l : List α), (∀ x ∈ l, p x = true → q x = true) → (∃ x ∈ l, q x = true ∧ p x = false) → l.countP p < l.countP q
  | [], _, ⟨_, h, _⟩ => nomatch h
  | a :: l, hpq, ⟨x, hx, hq, hp⟩ => by
    have hle : l.countP p ≤ l.countP q := List.countP_mono_left (fun y hy => hpq y (List.mem_cons_of_mem _ hy))
    rw [List.countP_cons, List.countP_cons]
    rcases List.mem_cons.1 hx with rfl | hx
    · rw [hq, hp]; simp; omega
    · have ih := countP_less p q l (fun y hy => hpq y (List.mem_cons_of_mem _ hy)) ⟨x, hx, hq, hp⟩
      have ha := hpq a List.mem_cons_self
      cases e : p a with
      | true => rw [ha e]; simp; omega
      | false => cases q a <;> simp <;> omega
/-- how many come ahead of a place -/
def aheadN (b : Nat → Nat → Bool) (n i : Nat) : Nat := (List.range n).countP fun k => b k i
theorem aheadN_lt (b : Nat → Nat → Bool) (irr : ∀ i, b i i = false) (n i : Nat) (hi : i < n) : aheadN b n i < n := by
  have := countP_less (fun k => b k i) (fun _ => true) (List.range n) (fun _ _ _ => rfl) ⟨i, List.mem_range.2 hi, rfl, irr i⟩
  rw [List.countP_true, List.length_range] at this
  exact this
theorem InOrder.of_counts (lt : Nat → Nat → Prop) (b : Nat → Nat → Bool) (n : Nat) (out : List Nat) (hb : ∀ i j, i < n → j < n → (b i j = true ↔ lt i j)) (irr : ∀ i, b i i = false) (_asym : ∀ i j, lt i j → ¬ lt j i) (tr : ∀ i j k, lt i j → lt j k → lt i k) (tot : ∀ i j, i < n → j < n → i ≠ j → lt i j ∨ lt j i)
    (hl : out.length = n) (ho : ∀ i, i < n → out.getD (aheadN b n i) 0 = i) : InOrder lt n out := by
  have mono : ∀ i j, i < n → j < n → lt i j → aheadN b n i < aheadN b n j := by
    intro i j hi hj h
    refine countP_less _ _ _ (fun k hk e => ?_) ⟨i, List.mem_range.2 hi, (hb i j hi hj).2 h, irr i⟩
    have hk := List.mem_range.1 hk
    exact (hb k j hk hj).2 (tr _ _ _ ((hb k i hk hi).1 e) h)
  have inj : ∀ i j, i < n → j < n → aheadN b n i = aheadN b n j → i = j := by
    intro i j hi hj e
    apply Classical.byContradiction
    intro hne
    rcases tot i j hi hj hne with h | h
    · have := mono i j hi hj h; omega
    · have := mono j i hj hi h; omega
  have hsur := inj_surj n (aheadN b n) (fun j hj => aheadN_lt b irr n j hj) inj
  refine ⟨hl, ?_, ?_, ?_⟩
  · intro a ha
    obtain ⟨i, hi, rfl⟩ := hsur a ha
    rw [ho i hi]; exact hi
  · intro i hi
    exact ⟨aheadN b n i, aheadN_lt b irr n i hi, ho i hi⟩
  · intro a c hac hc
    obtain ⟨i, hi, rfl⟩ := hsur a (by omega)
    obtain ⟨j, hj, rfl⟩ := hsur c hc
    rw [ho i hi, ho j hj]
    have hne : i ≠ j := by rintro rfl; omega
    rcases tot i j hi hj hne with h | h
    · exact h
    · have := mono j i hj hi h; omega
end Go.Proofs.YtmfealaaacmohaaDoor

/-
  Plain facts on cells compared element by element, and on truths in order. No program is in sight, and no statement is proved here.
-/
namespace Go.Proofs.YtmfealaaacmohaaDoor

/-- as a comparison of two numbers tells -/
def cmpZ (a b : Int) : Int := if a < b then -1 else if b < a then 1 else 0
theorem cmpZ_anti (a b : Int) : cmpZ a b = -cmpZ b a := by unfold cmpZ; split <;> split <;> omega
theorem cmpZ_neg (a b : Int) : cmpZ a b < 0 ↔ a < b := by unfold cmpZ; split <;> (try split) <;> omega
theorem cmpZ_zero (a b : Int) : cmpZ a b = 0 ↔ a = b := by unfold cmpZ; split <;> (try split) <;> omega
theorem cmpZ_pos (a b : Int) : 0 < cmpZ a b ↔ b < a := by unfold cmpZ; split <;> (try split) <;> omega
/-- the first elements of two cells that differ, out of so many -/
def lexC (g : Nat → Int) (size i k : Nat) : Nat → Int
  | 0 => 0
  | m + 1 => if lexC g size i k m ≠ 0 then lexC g size i k m else cmpZ (g (i * size + m)) (g (k * size + m))
theorem lexC_anti (g : Nat → Int) (size i k : Nat) : ∀ m, lexC g size i k m = -lexC g size k i m
  | 0 => by unfold lexC; omega
  | m + 1 => by
    have ih := lexC_anti g size i k m
    have := cmpZ_anti (g (i * size + m)) (g (k * size + m))
    unfold lexC
    split <;> split <;> omega
theorem lexC_trans (g : Nat → Int) (size i j k : Nat) : ∀ m, (lexC g size i j m ≤ 0 → lexC g size j k m ≤ 0 → lexC g size i k m ≤ 0) ∧ (lexC g size i j m = 0 → lexC g size j k m = 0 → lexC g size i k m = 0) ∧ (lexC g size i j m < 0 → lexC g size j k m ≤ 0 → lexC g size i k m < 0) ∧ (lexC g size i j m ≤ 0 → lexC g size j k m < 0 → lexC g size i k m < 0)
  | 0 => by unfold lexC; omega
  | m + 1 => by
    obtain ⟨h1, h2, h3, h4⟩ := lexC_trans g size i j k m
    have a1 := cmpZ_neg (g (i * size + m)) (g (j * size + m))
    have a2 := cmpZ_zero (g (i * size + m)) (g (j * size + m))
    have b1 := cmpZ_neg (g (j * size + m)) (g (k * size + m))
    have b2 := cmpZ_zero (g (j * size + m)) (g (k * size + m))
    have c1 := cmpZ_neg (g (i * size + m)) (g (k * size + m))
    have c2 := cmpZ_zero (g (i * size + m)) (g (k * size + m))
    unfold lexC
    generalize lexC g size i j m = x at *
    generalize lexC g size j k m = y at *
    generalize lexC g size i k m = z at *
    generalize cmpZ (g (i * size + m)) (g (j * size + m)) = p at *
    generalize cmpZ (g (j * size + m)) (g (k * size + m)) = q at *
    generalize cmpZ (g (i * size + m)) (g (k * size + m)) = r at *
    generalize g (i * size + m) = u at *
    generalize g (j * size + m) = v at *
    generalize g (k * size + m) = t at *
    by_cases hx : x = 0
    · by_cases hy : y = 0
      · have hz := h2 hx hy
        rw [if_neg (by omega), if_neg (by omega), if_neg (by omega)]
        omega
      · rw [if_neg (by omega), if_pos hy]
        by_cases hz : z = 0
        · rw [if_neg (by omega)]; omega
        · rw [if_pos hz]; omega
    · by_cases hy : y = 0
      · rw [if_pos hx, if_neg (by omega)]
        by_cases hz : z = 0
        · rw [if_neg (by omega)]; omega
        · rw [if_pos hz]; omega
      · rw [if_pos hx, if_pos hy]
        by_cases hz : z = 0
        · rw [if_neg (by omega)]; omega
        · rw [if_pos hz]; omega
theorem lexC_congr (f g : Nat → Int) (size i k : Nat) : ∀ m, m ≤ size → (∀ j, j < m → f (i * size + j) = g (i * size + j) ∧ f (k * size + j) = g (k * size + j)) → lexC f size i k m = lexC g size i k m
  | 0, _, _ => rfl
  | m + 1, hm, h => by
    have ih := lexC_congr f g size i k m (by omega) (fun j hj => h j (by omega))
    unfold lexC
    rw [ih, (h m (by omega)).1, (h m (by omega)).2]
/-- does a cell come ahead of another one? -/
def ahL (g : Nat → Int) (size : Nat) (down : Bool) (i k : Nat) : Bool := if down = true then decide (0 < lexC g size i k size) else decide (lexC g size i k size < 0)
theorem ahL_weak (g : Nat → Int) (size : Nat) (down : Bool) : WeakOrd (ahL g size down) := by
  constructor
  · intro i j h
    have := lexC_anti g size i j size
    unfold ahL at h ⊢
    cases down with
    | true => rw [if_pos rfl] at h ⊢; have := of_decide_eq_true h; exact decide_eq_false (by omega)
    | false => rw [if_neg (by decide)] at h ⊢; have := of_decide_eq_true h; exact decide_eq_false (by omega)
  · intro i j k h1 h2
    have e1 := lexC_anti g size i j size
    have e2 := lexC_anti g size j k size
    have e3 := lexC_anti g size i k size
    unfold ahL at h1 h2 ⊢
    cases down with
    | true =>
      rw [if_pos rfl] at h1 h2 ⊢
      have h1 := of_decide_eq_false h1
      have h2 := of_decide_eq_false h2
      have := (lexC_trans g size i j k size).1 (by omega) (by omega)
      exact decide_eq_false (by omega)
    | false =>
      rw [if_neg (by decide)] at h1 h2 ⊢
      have h1 := of_decide_eq_false h1
      have h2 := of_decide_eq_false h2
      have := (lexC_trans g size k j i size).1 (by omega) (by omega)
      exact decide_eq_false (by omega)
theorem ltS_tot {ah : Nat → Nat → Bool} (i j : Nat) (h : i ≠ j) : ltS ah i j ∨ ltS ah j i := by
  by_cases c : ah i j = true
  · exact .inl (.inl c)
  · by_cases c2 : ah j i = true
    · exact .inr (.inl c2)
    · have c : ah i j = false := by simpa using c
      have c2 : ah j i = false := by simpa using c2
      by_cases e : i < j
      · exact .inl (.inr ⟨c2, e⟩)
      · exact .inr (.inr ⟨c, by omega⟩)
/-- the document's word for it: c and the places decide -/
theorem ltS_ahL (g : Nat → Int) (size : Nat) (down : Bool) (i k : Nat) : ltS (ahL g size down) i k ↔ ((if down = true then 0 - lexC g size i k size else lexC g size i k size) < 0 ∨ ((if down = true then 0 - lexC g size i k size else lexC g size i k size) = 0 ∧ i < k)) := by
  have e := lexC_anti g size i k size
  unfold ltS ahL
  cases down with
  | true => simp only [if_pos, decide_eq_true_eq, decide_eq_false_iff_not]; omega
  | false => simp only [Bool.false_eq_true, if_false, decide_eq_true_eq, decide_eq_false_iff_not]; omega
/-- single elements in the order of their keys -/
theorem ltP_ltS (f : Nat → Nat) (g : Nat → Int) (down : Bool) (i j : Nat) (h1 : f i < f j ↔ g i < g j) (h2 : f j < f i ↔ g j < g i) (h : ltP f down i j) : ltS (ahL g 1 down) i j := by
  rw [ltS_ahL]
  have hl : lexC g 1 i j 1 = cmpZ (g i) (g j) := by unfold lexC; unfold lexC; simp
  rw [hl]
  have a1 := cmpZ_neg (g i) (g j)
  have a2 := cmpZ_zero (g i) (g j)
  have a3 := cmpZ_pos (g i) (g j)
  unfold ltP at h
  cases down with
  | true => simp only [if_pos] at h ⊢; omega
  | false => simp only [Bool.false_eq_true, if_false] at h ⊢; omega
/-! ## Truths in order -/
theorem filter_len2 (p : Nat → Bool) : ∀ l : List Nat, (l.filter fun i => !p i).length + (l.filter p).length = l.length
  | [] => rfl
  | x :: l => by
    have ih := filter_len2 p l
    rw [List.filter_cons, List.filter_cons]
    cases p x <;> simp <;> omega
theorem bits_order (p : Nat → Bool) (n : Nat) (lt : Nat → Nat → Prop) (hlt : ∀ i j, i < n → j < n → (p i = false ∧ p j = true) ∨ (p i = p j ∧ i < j) → lt i j) : InOrder lt n (((List.range n).filter fun i => !p i) ++ (List.range n).filter p) := by
  have hpw : (List.range n).Pairwise (· < ·) := List.pairwise_lt_range
  have hl : (((List.range n).filter fun i => !p i) ++ (List.range n).filter p).length = n := by
    rw [List.length_append, filter_len2, List.length_range]
  have hm : ∀ i, i ∈ (((List.range n).filter fun i => !p i) ++ (List.range n).filter p) ↔ i < n := by
    intro i
    rw [List.mem_append, List.mem_filter, List.mem_filter, List.mem_range]
    cases p i <;> simp
  have ho : (((List.range n).filter fun i => !p i) ++ (List.range n).filter p).Pairwise lt := by
    rw [List.pairwise_append]
    refine ⟨?_, ?_, ?_⟩
    · rw [List.pairwise_filter]
      refine List.Pairwise.imp_of_mem ?_ hpw
      intro a b ha hb hab h1 h2
      rw [List.mem_range] at ha hb
      refine hlt a b ha hb (.inr ⟨?_, hab⟩)
      cases h3 : p a <;> cases h4 : p b <;> simp_all
    · rw [List.pairwise_filter]
      refine List.Pairwise.imp_of_mem ?_ hpw
      intro a b ha hb hab h1 h2
      rw [List.mem_range] at ha hb
      exact hlt a b ha hb (.inr ⟨by rw [h1, h2], hab⟩)
    · intro a ha b hb
      rw [List.mem_filter, List.mem_range] at ha hb
      exact hlt a b ha.1 hb.1 (.inl ⟨by simpa using ha.2, hb.2⟩)
  generalize (((List.range n).filter fun i => !p i) ++ (List.range n).filter p) = s at *
  exact ⟨hl, fun j hj => (hm _).1 (mem_of_getD (by omega)), fun i hi => by
    obtain ⟨j, hj, e⟩ := List.getElem_of_mem ((hm i).2 hi)
    exact ⟨j, by omega, by rw [List.getD_eq_getElem?_getD, List.getElem?_eq_getElem hj, e]; rfl⟩, fun a b hab hb => pair_get ho hab (by omega)⟩
end Go.Proofs.YtmfealaaacmohaaDoor

/-
  Plain facts: comparing on from a place, and counting those ahead. No program is in sight, and no statement is proved here.
-/
namespace Go.Proofs.YtmfealaaacmohaaDoor

theorem lexC_rng (g : Nat → Int) (size i k : Nat) : ∀ m, -1 ≤ lexC g size i k m ∧ lexC g size i k m ≤ 1
  | 0 => by unfold lexC; omega
  | m + 1 => by
    have ih := lexC_rng g size i k m
    have : ∀ a b, -1 ≤ cmpZ a b ∧ cmpZ a b ≤ 1 := by intro a b; unfold cmpZ; split <;> (try split) <;> omega
    have := this (g (i * size + m)) (g (k * size + m))
    unfold lexC
    split <;> omega
theorem lexC_stay (g : Nat → Int) (size i k m : Nat) (h : lexC g size i k m ≠ 0) : ∀ s, m ≤ s → lexC g size i k s = lexC g size i k m
  | 0, hs => by obtain rfl : m = 0 := by omega
                rfl
  | s + 1, hs => by
    by_cases e : m = s + 1
    · rw [e]
    · have ih := lexC_stay g size i k m h s (by omega)
      rw [lexC, if_pos (by rw [ih]; exact h), ih]
theorem lexC_step (g : Nat → Int) (size i k m : Nat) (h : lexC g size i k m = 0) : lexC g size i k (m + 1) = cmpZ (g (i * size + m)) (g (k * size + m)) := by rw [lexC, if_neg (by omega)]
theorem lexC_less (g : Nat → Int) (size i k m : Nat) (h : lexC g size i k m = 0) (hm : m < size) (hl : g (i * size + m) < g (k * size + m)) : lexC g size i k size = -1 := by
  have h1 := lexC_step g size i k m h
  have h2 : lexC g size i k (m + 1) = -1 := by rw [h1]; unfold cmpZ; rw [if_pos hl]
  rw [lexC_stay g size i k (m + 1) (by omega) size (by omega), h2]
theorem lexC_more (g : Nat → Int) (size i k m : Nat) (h : lexC g size i k m = 0) (hm : m < size) (hl : g (k * size + m) < g (i * size + m)) : lexC g size i k size = 1 := by
  have h1 := lexC_step g size i k m h
  have h2 : lexC g size i k (m + 1) = 1 := by rw [h1]; unfold cmpZ; rw [if_neg (by omega), if_pos hl]
  rw [lexC_stay g size i k (m + 1) (by omega) size (by omega), h2]
theorem lexC_same (g : Nat → Int) (size i k m : Nat) (h : lexC g size i k m = 0) (h1 : ¬ g (i * size + m) < g (k * size + m)) (h2 : ¬ g (k * size + m) < g (i * size + m)) : lexC g size i k (m + 1) = 0 := by
  rw [lexC_step g size i k m h]; unfold cmpZ; rw [if_neg h1, if_neg h2]
/-- the document's word for: this cell comes ahead -/
def turnC (down : Bool) (c : Int) : Int := if down = true then 0 - c else c
def lessB (g : Nat → Int) (size : Nat) (down : Bool) (i k : Nat) : Bool := decide (turnC down (lexC g size i k size) < 0 ∨ (turnC down (lexC g size i k size) = 0 ∧ i < k))
theorem lessB_iff (g : Nat → Int) (size : Nat) (down : Bool) (i k : Nat) : lessB g size down i k = true ↔ ltS (ahL g size down) i k := by
  rw [ltS_ahL]
  unfold lessB turnC
  rw [decide_eq_true_eq]
theorem lexC_self (g : Nat → Int) (size i : Nat) (m : Nat) : lexC g size i i m = 0 := by have := lexC_anti g size i i m; omega
theorem lessB_irr (g : Nat → Int) (size : Nat) (down : Bool) (i : Nat) : lessB g size down i i = false := by
  unfold lessB turnC
  rw [lexC_self]
  apply decide_eq_false
  cases down <;> simp
theorem aheadN_succ (b : Nat → Nat → Bool) (n i : Nat) : aheadN b (n + 1) i = aheadN b n i + if b n i = true then 1 else 0 := by
  unfold aheadN
  rw [List.range_succ, List.countP_append, List.countP_singleton]
theorem aheadN_inj (lt : Nat → Nat → Prop) (b : Nat → Nat → Bool) (n : Nat) (hb : ∀ i j, b i j = true ↔ lt i j) (irr : ∀ i, b i i = false) (tr : ∀ i j k, lt i j → lt j k → lt i k) (tot : ∀ i j, i ≠ j → lt i j ∨ lt j i) (i j : Nat) (hi : i < n) (hj : j < n) (e : aheadN b n i = aheadN b n j) : i = j := by
  have mono : ∀ i j, i < n → j < n → lt i j → aheadN b n i < aheadN b n j := by
    intro i j hi hj h
    refine countP_less _ _ _ (fun k hk e => ?_) ⟨i, List.mem_range.2 hi, (hb i j).2 h, irr i⟩
    exact (hb k j).2 (tr _ _ _ ((hb k i).1 e) h)
  apply Classical.byContradiction
  intro hne
  rcases tot i j hne with h | h
  · have := mono i j hi hj h; omega
  · have := mono j i hj hi h; omega
theorem less_inj (g : Nat → Int) (size : Nat) (down : Bool) (n i j : Nat) (hi : i < n) (hj : j < n) (e : aheadN (lessB g size down) n i = aheadN (lessB g size down) n j) : i = j :=
  aheadN_inj (ltS (ahL g size down)) _ n (lessB_iff g size down) (lessB_irr g size down) (ltS_trans (ahL_weak g size down)) (fun i j h => ltS_tot i j h) i j hi hj e
theorem less_order (g : Nat → Int) (size : Nat) (down : Bool) (n : Nat) (out : List Nat) (hl : out.length = n) (ho : ∀ i, i < n → out.getD (aheadN (lessB g size down) n i) 0 = i) : InOrder (ltS (ahL g size down)) n out :=
  InOrder.of_counts _ _ n out (fun i j _ _ => lessB_iff g size down i j) (lessB_irr g size down) (ltS_asym (ahL_weak g size down)) (ltS_trans (ahL_weak g size down)) (fun i j _ _ h => ltS_tot i j h) hl ho
end Go.Proofs.YtmfealaaacmohaaDoor

/-
  Contracts of the document's answer of layer 16: items and cells compared, and places in order. No statement is proved here.
-/
namespace Go.Proofs.YtmfealaaacmohaaDoor
open Go Go.RowKit
set_option linter.unusedVariables false
set_option linter.unusedSimpArgs false
set_option maxHeartbeats 4000000
attribute [local irreducible] CW RW QW SW HW ConM retM heldQ calmQ elemP thenQ blockQ loopQ joinQ retQ Yields Con Sl zF magR unitF truncF fwF wholeF tidySpec elemQ rankF leastN tidyW
set_option maxHeartbeats 4000000

/-- what an item is put in order by -/
def gI {β : Type} (x : ItemD β) : Int := if x.kind = 0 then zF x.num else x.char
def d0I {β : Type} : ItemD β := ⟨0, 0, 0, []⟩
section
variable {α : Type} {R : GHeap → List Value → α → Prop}
theorem ref16Below_con (c1 c2 : List Value) (x y : ItemD α) (w : World) (h : GHeap) (h1 : ItemAt R h c1 x) (h2 : ItemAt R h c2 y) (hk : x.kind = y.kind) (hf : x.kind = 0 → finF x.num ∧ finF y.num) : Con Tryd.prog 127 [.agg c1.toArray, .agg c2.toArray] w h (fun _ u => u = .bool (decide (gI x < gI y))) := by
  have o1 := ItemAt.one _ _ _ h1
  have o2 := ItemAt.one _ _ _ h2
  obtain ⟨b1, rfl, _, _⟩ := h1
  obtain ⟨b2, rfl, _, _⟩ := h2
  refine Con.of_body Tryd.func127 rfl Tryd.ntmps127 rfl rfl ?_
  intro hs
  refine Zrun ?_
  refine RW.boxN hs rfl rfl ?_
  intro k1 w1 hs
  refine Zrun ?_
  refine RW.boxN hs rfl rfl ?_
  intro k2 w2 hs
  by_cases c : x.kind = 0
  · obtain ⟨f1, f2⟩ := hf c
    have e1 : gI x = zF x.num := by unfold gI; rw [if_pos c]
    have e2 : gI y = zF y.num := by unfold gI; rw [if_pos (hk ▸ c)]
    refine Zerun ?_
    refine RW.val (Y.fLss f1 f2 rfl rfl) rfl ?_
    refine Zerun ?_
    exact retQ_ret [_] h ⟨rfl, trivial⟩ hs.dropAll (by rw [e1, e2]; rfl)
  · have e1 : gI x = x.char := by unfold gI; rw [if_neg c]
    have e2 : gI y = y.char := by unfold gI; rw [if_neg (hk ▸ c)]
    refine Zerun ?_
    exact retQ_ret [_] h ⟨rfl, trivial⟩ hs.dropAll (by rw [e1, e2]; rfl)
theorem ref16Cells_con (sv : Value) (l : List (ItemD α)) (c : Int) (size i k : Nat) (w : World) (h : GHeap) (hl : RowsAt 4 (ItemAt R h) h sv l) (hu : ∀ x ∈ l, x.kind = c ∧ (c = 0 → finF x.num)) (hm : l.length ≤ 1048576) (hi : i * size + size ≤ l.length) (hk : k * size + size ≤ l.length) (hi2 : i ≤ 1048576) (hk2 : k ≤ 1048576) :
    Con Tryd.prog 107 [sv, .int .i64 (size : Int), .int .i64 (i : Int), .int .i64 (k : Int)] w h (fun _ u => u = .int .i64 (lexC (fun j => gI (l.getD j d0I)) size i k size)) := by
  obtain ⟨ad, cp, xs, rfl, hS, hA⟩ := hl
  obtain ⟨a, ha⟩ : ∃ a : Nat, i * size = a := ⟨_, rfl⟩
  obtain ⟨b, hb⟩ : ∃ b : Nat, k * size = b := ⟨_, rfl⟩
  have hza : (i : Int) * (size : Int) = (a : Int) := by rw [← ha]; exact (Int.natCast_mul _ _).symm
  have hzb : (k : Int) * (size : Int) = (b : Int) := by rw [← hb]; exact (Int.natCast_mul _ _).symm
  rw [ha] at hi
  rw [hb] at hk
  obtain ⟨g, hg⟩ : ∃ g : Nat → Int, (fun j => gI (l.getD j d0I)) = g := ⟨_, rfl⟩
  have hgj : ∀ j, gI (l.getD j d0I) = g j := fun j => by rw [← hg]
  rw [hg]
  refine Con.of_body Tryd.func107 rfl Tryd.ntmps107 rfl rfl ?_
  intro hs
  refine Zrun ?_
  refine CW.loop (fun m : Nat => [(0, .slice ad l.length cp), (1, .int .i64 (size : Int)), (2, .int .i64 (i : Int)), (3, .int .i64 (k : Int)), (9, .int .i64 m)]) (fun m w' => m ≤ size ∧ lexC g size i k m = 0 ∧ Sees w h h [] w') (fun m => size - m) 0 ⟨rfl, rfl, rfl, rfl, rfl, trivial⟩ ⟨by omega, rfl, hs⟩ ?_
  rintro m w2 ⟨hm2, hz, hs⟩
  by_cases hlt : m < size
  · have j1 : a + m < l.length := by omega
    have j2 : b + m < l.length := by omega
    obtain ⟨hy, hyl⟩ := hA.get d0I (a + m) j1
    obtain ⟨hz2, hzl⟩ := hA.get d0I (b + m) j2
    obtain ⟨y, hyE⟩ : ∃ y, (xs.drop ((a + m) * 4)).take 4 = y := ⟨_, rfl⟩
    obtain ⟨z, hzE⟩ : ∃ z, (xs.drop ((b + m) * 4)).take 4 = z := ⟨_, rfl⟩
    rw [hyE] at hy hyl
    rw [hzE] at hz2 hzl
    have u1 := hu _ (mem_getD l _ d0I j1)
    have u2 := hu _ (mem_getD l _ d0I j2)
    have q1 : g (i * size + m) = gI (l.getD (a + m) d0I) := by rw [ha, hgj]
    have q2 : g (k * size + m) = gI (l.getD (b + m) d0I) := by rw [hb, hgj]
    generalize l.getD (a + m) d0I = X1 at *
    generalize l.getD (b + m) d0I = X2 at *
    have hkk : X1.kind = X2.kind := by rw [u1.1, u2.1]
    have hff : X1.kind = 0 → finF X1.num ∧ finF X2.num := fun e => ⟨u1.2 (by rw [← u1.1]; exact e), u2.2 (by rw [← u1.1]; exact e)⟩
    refine Zerun ?_
    refine CW.regionQ T hs ?_ (by kernel_rfl)
    refine Zeqrun ?_
    refine QW.val (fun _ _ => Y.mul rfl rfl ⟨by rw [hza]; omega, by rw [hza]; omega⟩) rfl ?_
    rw [hza]
    refine Zeqrun ?_
    refine Zeqrun ?_
    refine QW.val (fun _ _ => Y.mul rfl rfl ⟨by rw [hzb]; omega, by rw [hzb]; omega⟩) rfl ?_
    rw [hzb]
    refine Zeqrun ?_
    refine QW.call T hs rfl rfl rfl (fun w => ref16Below_con y z X1 X2 w h hy hz2 hkk hff) ?_
    refine Zeqrun ?_
    intro w3 hs
    by_cases c1 : gI X1 < gI X2
    · rw [decide_eq_true c1]
      refine Zerun ?_
      exact retQ_ret [_] h ⟨rfl, trivial⟩ hs.dropAll (by rw [lexC_less g size i k m hz hlt (by rw [q1, q2]; exact c1)]; rfl)
    · rw [decide_eq_false c1]
      refine Zerun ?_
      refine CW.regionQ T hs ?_ (by kernel_rfl)
      refine Zeqrun ?_
      refine QW.val (fun _ _ => Y.mul rfl rfl ⟨by rw [hzb]; omega, by rw [hzb]; omega⟩) rfl ?_
      rw [hzb]
      refine Zeqrun ?_
      refine Zeqrun ?_
      refine QW.val (fun _ _ => Y.mul rfl rfl ⟨by rw [hza]; omega, by rw [hza]; omega⟩) rfl ?_
      rw [hza]
      refine Zeqrun ?_
      refine QW.call T hs rfl rfl rfl (fun w => ref16Below_con z y X2 X1 w h hz2 hy hkk.symm (fun e => ⟨(hff (hkk.trans e)).2, (hff (hkk.trans e)).1⟩)) ?_
      refine Zeqrun ?_
      intro w4 hs
      by_cases c2 : gI X2 < gI X1
      · rw [decide_eq_true c2]
        refine Zerun ?_
        exact retQ_ret [_] h ⟨rfl, trivial⟩ hs.dropAll (by rw [lexC_more g size i k m hz hlt (by rw [q1, q2]; exact c2)]; rfl)
      · rw [decide_eq_false c2]
        refine Zerun ?_
        exact loopQ_round (m + 1) ⟨rfl, rfl, rfl, rfl, rfl, trivial⟩ ⟨by omega, lexC_same g size i k m hz (by rw [q1, q2]; exact c1) (by rw [q1, q2]; exact c2), hs⟩ (by omega)
  · obtain rfl : m = size := by omega
    refine Zerun ?_
    exact retQ_ret [_] h ⟨rfl, trivial⟩ hs.dropAll (by rw [hz]; rfl)
theorem ref16Less_con (sv : Value) (l : List (ItemD α)) (c : Int) (size i k : Nat) (down : Bool) (w : World) (h : GHeap) (hl : RowsAt 4 (ItemAt R h) h sv l) (hu : ∀ x ∈ l, x.kind = c ∧ (c = 0 → finF x.num)) (hm : l.length ≤ 1048576) (hi : i * size + size ≤ l.length) (hk : k * size + size ≤ l.length) (hi2 : i ≤ 1048576) (hk2 : k ≤ 1048576) :
    Con Tryd.prog 78 [sv, .int .i64 (size : Int), .int .i64 (i : Int), .int .i64 (k : Int), .bool down] w h (fun _ u => u = .bool (lessB (fun j => gI (l.getD j d0I)) size down i k)) := by
  have hl' := hl
  obtain ⟨ad, cp, xs, rfl, hS, hA⟩ := hl
  obtain ⟨z, hz⟩ : ∃ z, lexC (fun j => gI (l.getD j d0I)) size i k size = z := ⟨_, rfl⟩
  have hzr := lexC_rng (fun j => gI (l.getD j d0I)) size i k size
  rw [hz] at hzr
  unfold lessB turnC
  rw [hz]
  refine Con.of_body Tryd.func78 rfl Tryd.ntmps78 rfl rfl ?_
  intro hs
  refine Zrun ?_
  (refine RW.call T hs rfl rfl rfl (ref16Cells_con _ l c size i k _ _ hl' hu hm hi hk hi2 hk2) ?_; intro v h1 w1 hle1 hp1 hs)
  rw [hz] at hp1
  subst hp1
  cases down with
  | true =>
    rw [if_pos rfl]
    by_cases c1 : 0 - z < 0
    · refine Zerun ?_
      exact retQ_ret [_] h1 ⟨rfl, trivial⟩ hs.dropAll (by simp only [packv]; first | exact congrArg _ (decide_eq_decide.2 (by omega)) | exact congrArg _ (decide_eq_true (by omega)).symm | exact congrArg _ (decide_eq_false (by omega)).symm)
    · by_cases c2 : 0 - z = 0
      · by_cases c3 : (i : Int) < k
        · refine Zerun ?_
          exact retQ_ret [_] h1 ⟨rfl, trivial⟩ hs.dropAll (by simp only [packv]; first | exact congrArg _ (decide_eq_decide.2 (by omega)) | exact congrArg _ (decide_eq_true (by omega)).symm | exact congrArg _ (decide_eq_false (by omega)).symm)
        · refine Zerun ?_
          exact retQ_ret [_] h1 ⟨rfl, trivial⟩ hs.dropAll (by simp only [packv]; first | exact congrArg _ (decide_eq_decide.2 (by omega)) | exact congrArg _ (decide_eq_true (by omega)).symm | exact congrArg _ (decide_eq_false (by omega)).symm)
      · refine Zerun ?_
        exact retQ_ret [_] h1 ⟨rfl, trivial⟩ hs.dropAll (by simp only [packv]; first | exact congrArg _ (decide_eq_decide.2 (by omega)) | exact congrArg _ (decide_eq_true (by omega)).symm | exact congrArg _ (decide_eq_false (by omega)).symm)
  | false =>
    rw [if_neg (by decide)]
    by_cases c1 : z < 0
    · refine Zerun ?_
      exact retQ_ret [_] h1 ⟨rfl, trivial⟩ hs.dropAll (by simp only [packv]; first | exact congrArg _ (decide_eq_decide.2 (by omega)) | exact congrArg _ (decide_eq_true (by omega)).symm | exact congrArg _ (decide_eq_false (by omega)).symm)
    · by_cases c2 : z = 0
      · by_cases c3 : (i : Int) < k
        · refine Zerun ?_
          exact retQ_ret [_] h1 ⟨rfl, trivial⟩ hs.dropAll (by simp only [packv]; first | exact congrArg _ (decide_eq_decide.2 (by omega)) | exact congrArg _ (decide_eq_true (by omega)).symm | exact congrArg _ (decide_eq_false (by omega)).symm)
        · refine Zerun ?_
          exact retQ_ret [_] h1 ⟨rfl, trivial⟩ hs.dropAll (by simp only [packv]; first | exact congrArg _ (decide_eq_decide.2 (by omega)) | exact congrArg _ (decide_eq_true (by omega)).symm | exact congrArg _ (decide_eq_false (by omega)).symm)
      · refine Zerun ?_
        exact retQ_ret [_] h1 ⟨rfl, trivial⟩ hs.dropAll (by simp only [packv]; first | exact congrArg _ (decide_eq_decide.2 (by omega)) | exact congrArg _ (decide_eq_true (by omega)).symm | exact congrArg _ (decide_eq_false (by omega)).symm)
end
end Go.Proofs.YtmfealaaacmohaaDoor

/-
  Contract of the document's answer of layer 16: the one list of places in order. No statement is proved here.
-/
namespace Go.Proofs.YtmfealaaacmohaaDoor
open Go Go.RowKit
set_option linter.unusedVariables false
set_option linter.unusedSimpArgs false
set_option maxHeartbeats 4000000
attribute [local irreducible] CW RW QW SW HW ConM retM heldQ calmQ elemP thenQ blockQ loopQ joinQ retQ Yields Con Sl zF magR unitF truncF fwF wholeF tidySpec elemQ rankF leastN tidyW
set_option maxHeartbeats 4000000

section
variable {α : Type} {R : GHeap → List Value → α → Prop}
theorem RowsAt.grow {γ : Type} {sz : Nat} {S : GHeap → List Value → γ → Prop} (hR : Mono S) {h h' : GHeap} {v : Value} {l : List γ} (hl : GLe h h') (hr : RowsAt sz (S h) h v l) : RowsAt sz (S h') h' v l := hr.mono hl (fun u a => hR _ _ u a hl)
theorem ref16Grade_con (hR : Mono R) (sv : Value) (l : List (ItemD α)) (c : Int) (size : Nat) (down : Bool) (w : World) (h : GHeap) (hl : RowsAt 4 (ItemAt R h) h sv l) (hu : ∀ x ∈ l, x.kind = c ∧ (c = 0 → finF x.num)) (hm : l.length ≤ 1048576) (hs1 : 1 ≤ size) (hs2 : size ≤ 1048576) :
    Con Tryd.prog 41 [sv, .int .i64 (size : Int), .bool down] w h (fun h' u => ∃ out, IntsAt h' u (natsI out) ∧ InOrder (ltS (ahL (fun j => gI (l.getD j d0I)) size down)) (l.length / size) out) := by
  have hl' := hl
  obtain ⟨ad, cp, xs, rfl, hS, hA⟩ := hl
  obtain ⟨n, hn⟩ : ∃ n, l.length / size = n := ⟨_, rfl⟩
  have hq : (l.length : Int) / (size : Int) = (n : Int) := by rw [← hn]; rfl
  have hn1 : n ≤ l.length := by rw [← hn]; exact Nat.div_le_self _ _
  have hfit : ∀ i, i < n → i * size + size ≤ l.length := by
    intro i hi
    have h1 : (i + 1) * size ≤ n * size := Nat.mul_le_mul_right _ hi
    have h2 : n * size ≤ l.length := by rw [← hn]; exact Nat.div_mul_le_self _ _
    rw [Nat.add_mul] at h1
    omega
  obtain ⟨b, hb⟩ : ∃ b, lessB (fun j => gI (l.getD j d0I)) size down = b := ⟨_, rfl⟩
  have inj : ∀ i j, i < n → j < n → aheadN b n i = aheadN b n j → i = j := by
    intro i j hi hj e
    rw [← hb] at e
    exact less_inj _ size down n i j hi hj e
  have irr : ∀ i, b i i = false := by intro i; rw [← hb]; exact lessB_irr _ _ _ i
  rw [hn]
  refine Con.of_body Tryd.func41 rfl Tryd.ntmps41 rfl rfl ?_
  intro hs
  refine Zrun ?_
  rw [hq]
  refine Zerun ?_
  (refine RW.make1 T hs rfl rfl rfl rfl rfl rfl rfl (by dsimp only; omega) (by omega) ?_; intro b3 w3 hs)
  have hs := hs.re (ys := (natsI (List.replicate n 0)).map (Value.int .i64)) (by unfold natsI; rw [List.map_replicate, List.map_replicate]; rfl)
  refine Zerun ?_
  refine CW.loop (fun u : Nat × List Nat × GHeap => [(0, .slice ad l.length cp), (1, .int .i64 (size : Int)), (2, .bool down), (7, .int .i64 n), (8, .slice (some ⟨b3, 0, none⟩) n n), (9, .int .i64 u.1)]) (fun u w' => u.1 ≤ n ∧ u.2.1.length = n ∧ (∀ i, i < u.1 → u.2.1.getD (aheadN b n i) 0 = i) ∧ GLe h u.2.2 ∧ Sees w h u.2.2 [⟨some ⟨b3, 0, none⟩, n, n, 3, 1, (natsI u.2.1).map (Value.int .i64)⟩] w') (fun u => n - u.1) (0, List.replicate n 0, h) ⟨rfl, rfl, rfl, rfl, rfl, rfl, trivial⟩ ⟨by omega, List.length_replicate, fun i hi => absurd hi (Nat.not_lt_zero _), GLe.refl _, hs⟩ ?_
  rintro ⟨i, out, hh⟩ w4 ⟨hi, hol, hpl, hg, hs⟩
  dsimp only at hi hol hpl hg hs ⊢
  by_cases hlt : i < n
  · have hat := aheadN_lt b irr n i hlt
    refine Zerun ?_
    refine CW.meetB (fun h' : GHeap => [(0, .slice ad l.length cp), (1, .int .i64 (size : Int)), (2, .bool down), (7, .int .i64 n), (8, .slice (some ⟨b3, 0, none⟩) n n), (9, .int .i64 i), (10, .int .i64 (aheadN b n i : Nat))]) (fun h' w' => GLe h h' ∧ Sees w h h' [⟨some ⟨b3, 0, none⟩, n, n, 3, 1, (natsI out).map (Value.int .i64)⟩] w') ?_ ?_
    · refine CW.loop (fun u : Nat × GHeap => [(0, .slice ad l.length cp), (1, .int .i64 (size : Int)), (2, .bool down), (7, .int .i64 n), (8, .slice (some ⟨b3, 0, none⟩) n n), (9, .int .i64 i), (10, .int .i64 (aheadN b u.1 i : Nat)), (11, .int .i64 u.1)]) (fun u w' => u.1 ≤ n ∧ GLe h u.2 ∧ Sees w h u.2 [⟨some ⟨b3, 0, none⟩, n, n, 3, 1, (natsI out).map (Value.int .i64)⟩] w') (fun u => n - u.1) (0, hh) ⟨rfl, rfl, rfl, rfl, rfl, rfl, rfl, rfl, trivial⟩ ⟨by omega, hg, hs⟩ ?_
      rintro ⟨k, h5⟩ w5 ⟨hk, hg5, hs⟩
      dsimp only at hk hg5 hs ⊢
      have hsu := aheadN_succ b k i
      have hcb : aheadN b k i ≤ k := Nat.le_trans List.countP_le_length (by rw [List.length_range]; exact Nat.le_refl _)
      generalize hax : aheadN b k i = ax at *
      by_cases hlt2 : k < n
      · by_cases e : k = i
        · subst e
          rw [irr k, if_neg (by decide)] at hsu
          refine Zerun ?_
          exact loopQ_round (k + 1, h5) ⟨rfl, rfl, rfl, rfl, rfl, rfl, seti (by dsimp only; omega), rfl, trivial⟩ ⟨by dsimp only; omega, hg5, hs⟩ (by dsimp only; omega)
        · refine Zerun ?_
          (refine RW.call T hs rfl rfl rfl (ref16Less_con _ l c size k i down _ _ (hl'.grow (ItemAt.mono hR) hg5) hu hm (hfit k hlt2) (hfit i hlt) (by omega) (by omega)) ?_; intro v h6 w6 hle6 hp6 hs)
          rw [hb] at hp6
          subst hp6
          cases hbb : b k i with
          | true =>
            rw [hbb, if_pos rfl] at hsu
            refine Zerun ?_
            exact loopQ_round (k + 1, h6) ⟨rfl, rfl, rfl, rfl, rfl, rfl, seti (by dsimp only; omega), rfl, trivial⟩ ⟨by dsimp only; omega, hg5.trans hle6, hs⟩ (by dsimp only; omega)
          | false =>
            rw [hbb, if_neg (by decide)] at hsu
            refine Zerun ?_
            exact loopQ_round (k + 1, h6) ⟨rfl, rfl, rfl, rfl, rfl, rfl, seti (by dsimp only; omega), rfl, trivial⟩ ⟨by dsimp only; omega, hg5.trans hle6, hs⟩ (by dsimp only; omega)
      · obtain rfl : k = n := by omega
        refine Zerun ?_
        exact joinQ_meet h5 ⟨rfl, rfl, rfl, rfl, rfl, rfl, seti (by omega), trivial⟩ ⟨hg5, hs⟩
    rintro h7 w7 ⟨hg7, hs⟩
    generalize hax : aheadN b n i = ax at *
    refine Zerun ?_
    refine RW.val (Y.idxRN T hs 0 rfl rfl rfl rfl rfl rfl hat) rfl ?_
    refine RW.st1 T hs 0 rfl rfl rfl rfl rfl rfl rfl hat ?_
    intro w8 hs
    have hs := hs.re (ys := (natsI (out.set ax i)).map (Value.int .i64)) (by rw [← natsI_set, List.map_set])
    refine Zerun ?_
    refine loopQ_round (i + 1, out.set ax i, h7) ⟨rfl, rfl, rfl, rfl, rfl, rfl, trivial⟩ ⟨by dsimp only; omega, by dsimp only; rw [List.length_set]; exact hol, fun j hj => ?_, hg7, hs⟩ (by dsimp only; omega)
    dsimp only at hj ⊢
    by_cases e : j = i
    · subst e
      rw [hax, List.getD_eq_getElem?_getD, List.getElem?_set_self (by omega)]; rfl
    · have hne : ax ≠ aheadN b n j := fun e2 => e (inj j i (by omega) hlt (by rw [hax]; exact e2.symm))
      rw [List.getD_eq_getElem?_getD, List.getElem?_set_ne hne, ← List.getD_eq_getElem?_getD]
      exact hpl j (by omega)
  · obtain rfl : i = n := by omega
    obtain ⟨h9, hle9, hs, hI9⟩ := freezeI (l := natsI out) hs (by rw [natsI_len, hol])
    refine Zerun ?_
    refine retQ_ret [_] h9 ⟨rfl, trivial⟩ hs.dropAll ⟨out, hI9, ?_⟩
    refine less_order _ size down i out hol ?_
    rw [hb]
    exact hpl
end
end Go.Proofs.YtmfealaaacmohaaDoor

/-
  Contracts of functions of package shape and of its reference, third part: places and indexes. No statement is proved here.
-/
namespace Go.Proofs.YtmfealaaacmohaaDoor
open Go Go.RowKit
set_option linter.unusedVariables false
set_option linter.unusedSimpArgs false
set_option maxHeartbeats 4000000
attribute [local irreducible] CW RW QW SW HW ConM retM heldQ calmQ elemP thenQ blockQ loopQ joinQ retQ Yields Con Sl

end Go.Proofs.YtmfealaaacmohaaDoor

/-
  Contracts of functions of package shape and of its reference, fourth part: new shapes. No statement is proved here.
-/
namespace Go.Proofs.YtmfealaaacmohaaDoor
open Go Go.RowKit
set_option linter.unusedVariables false
set_option linter.unusedSimpArgs false
set_option maxHeartbeats 4000000
attribute [local irreducible] CW RW QW SW HW ConM retM heldQ calmQ elemP thenQ blockQ loopQ joinQ retQ Yields Con Sl

end Go.Proofs.YtmfealaaacmohaaDoor

/-
  Contracts of functions of package value: whether arrays, and elements, are alike. No statement is proved here.
-/
namespace Go.Proofs.YtmfealaaacmohaaDoor
open Go Go.RowKit
set_option linter.unusedVariables false
set_option linter.unusedSimpArgs false
set_option maxHeartbeats 4000000
attribute [local irreducible] CW RW QW SW HW ConM retM heldQ calmQ elemP thenQ blockQ loopQ joinQ retQ Yields Con Sl zF magR unitF truncF fwF wholeF tidySpec elemQ rankF leastN tidyW

section
variable {α β : Type} {R : GHeap → List Value → α → Prop}
end
end Go.Proofs.YtmfealaaacmohaaDoor

/-
  Contracts of the law's own functions of layer 7: which arrays are alike. No statement is proved here.
-/
namespace Go.Proofs.YtmfealaaacmohaaDoor
open Go Go.RowKit
set_option linter.unusedVariables false
set_option linter.unusedSimpArgs false
set_option maxHeartbeats 4000000
attribute [local irreducible] CW RW QW SW HW ConM retM heldQ calmQ elemP thenQ blockQ loopQ joinQ retQ Yields Con Sl zF magR unitF truncF fwF wholeF tidySpec elemQ rankF leastN tidyW
set_option maxHeartbeats 4000000

theorem arr_items (k : Nat) (d : Int) (p : PD (k + 1)) (h : chk (k + 1) d p = 0) : itemsV (plain k) (ArrD.vec (α := AD k) (arr (k + 1) p)) = PlainD.items (α := PD k) (tidy (k + 1) p) :=
  congrArg (PlainD.items (α := PD k)) (plain_arr (k + 1) d p h)
end Go.Proofs.YtmfealaaacmohaaDoor

/-
  Contract of radix.Grade for every store: places in the order of their elements. No statement is proved here.
-/
namespace Go.Proofs.YtmfealaaacmohaaDoor
open Go Go.RowKit
set_option linter.unusedVariables false
set_option linter.unusedSimpArgs false
set_option maxHeartbeats 4000000
attribute [local irreducible] CW RW QW SW HW ConM retM heldQ calmQ elemP thenQ blockQ loopQ joinQ retQ Yields Con Sl zF magR unitF truncF fwF wholeF tidySpec elemQ rankF leastN tidyW
set_option maxHeartbeats 4000000

/-- what an element is put in order by -/
def gV {α : Type} (v : VecD α) (i : Nat) : Int := if v.kind = 5 then v.chars.getD i 0 else zF (v.nums.getD i 0)
theorem zF_bitF (b : Bool) : zF (bitF b) = if b then (unitF : Int) else 0 := by
  cases b
  · exact zF0
  · exact zF1
theorem zF_lt_whole (x y : Nat) (a b : Int) (hx : wholeF x = (a, true)) (hy : wholeF y = (b, true)) : (a < b ↔ zF x < zF y) ∧ -9007199254740992 ≤ a ∧ -9007199254740992 ≤ b := by
  obtain ⟨e1, r1, _⟩ := (wholeF_iff x a).1 hx
  obtain ⟨e2, r2, _⟩ := (wholeF_iff y b).1 hy
  have hu : (0 : Int) < (unitF : Int) := by have := unitF_pos; omega
  refine ⟨?_, r1, r2⟩
  rw [e1, e2]
  constructor
  · intro h
    exact Int.mul_lt_mul_of_pos_right h hu
  · intro h
    exact Int.lt_of_mul_lt_mul_right h (Int.le_of_lt hu)
section
variable {α : Type} {R : GHeap → List Value → α → Prop}
theorem keys_gV {h : GHeap} {cs : List Value} {v : VecD α} (hv : VecAt R h cs v) (hk : v.kind = 1 ∨ v.kind = 2 ∨ v.kind = 3 ∨ v.kind = 5) (hc : ∀ c ∈ v.chars, -2147483648 ≤ c ∧ c < 2147483648) :
    (keysV v).length = v.len ∧ ∀ i j, i < v.len → j < v.len → ((keysV v).getD i 0 < (keysV v).getD j 0 ↔ gV v i < gV v j) := by
  have hs := hv.sorts
  unfold VecD.cls at hs
  by_cases k5 : v.kind = 5
  · have hl : v.len = v.chars.length := by
      rcases hs with ⟨e, _⟩ | ⟨_, e⟩ | ⟨e, _⟩
      · rw [if_pos k5] at e; omega
      · exact e
      · rw [if_pos k5] at e; omega
    have e : keysV v = v.chars.map keyC := by unfold keysV; rw [if_neg (by omega), if_pos k5]
    refine ⟨by rw [e, List.length_map, hl], fun i j hi hj => ?_⟩
    unfold gV
    rw [e, if_pos k5, if_pos k5]
    have g : ∀ i, i < v.len → (v.chars.map keyC).getD i 0 = keyC (v.chars.getD i 0) := by
      intro i hi
      rw [List.getD_eq_getElem?_getD, List.getD_eq_getElem?_getD, List.getElem?_map, List.getElem?_eq_getElem (by omega)]; rfl
    rw [g i hi, g j hj]
    have r1 := hc _ (mem_getD v.chars i 0 (by omega))
    have r2 := hc _ (mem_getD v.chars j 0 (by omega))
    unfold keyC
    omega
  · have hw := hv.wholes (by omega)
    have hl : v.len = v.nums.length := by
      rcases hs with ⟨_, e⟩ | ⟨e, _⟩ | ⟨e, _⟩
      · exact e
      · rw [if_neg k5, if_neg (by omega)] at e; omega
      · rw [if_neg k5, if_neg (by omega)] at e; omega
    have e : keysV v = v.nums.map (fun x => keyI (wholeF x).1) := by unfold keysV; rw [if_pos (by omega)]
    refine ⟨by rw [e, List.length_map, hl], fun i j hi hj => ?_⟩
    unfold gV
    rw [e, if_neg k5, if_neg k5]
    have g : ∀ i, i < v.len → (v.nums.map (fun x => keyI (wholeF x).1)).getD i 0 = keyI (wholeF (v.nums.getD i 0)).1 := by
      intro i hi
      rw [List.getD_eq_getElem?_getD, List.getD_eq_getElem?_getD, List.getElem?_map, List.getElem?_eq_getElem (by omega)]; rfl
    rw [g i hi, g j hj]
    have w1 := hw _ (mem_getD v.nums i 0 (by omega))
    have w2 := hw _ (mem_getD v.nums j 0 (by omega))
    generalize v.nums.getD i 0 = X1 at *
    generalize v.nums.getD j 0 = X2 at *
    obtain ⟨hz, r1, r2⟩ := zF_lt_whole X1 X2 (wholeF X1).1 (wholeF X2).1 (by rw [← w1]) (by rw [← w2])
    rw [← hz]
    unfold keyI
    omega
theorem bitsG_order (bs : List Bool) (down : Bool) (g : Nat → Int) (hg : ∀ i, i < bs.length → g i = zF (bitF (bs.getD i false))) : ∃ out, bitsG bs down = natsI out ∧ InOrder (ltS (ahL g 1 down)) bs.length out := by
  have hu : (0 : Int) < (unitF : Int) := by have := unitF_pos; omega
  have hl : ∀ i j, lexC g 1 i j 1 = cmpZ (g i) (g j) := by intro i j; unfold lexC; unfold lexC; simp
  unfold bitsG
  rw [onesTo_filter, onesL_not]
  cases down with
  | false =>
    refine ⟨((List.range bs.length).filter fun i => !bs.getD i false) ++ (List.range bs.length).filter fun i => bs.getD i false, ?_, ?_⟩
    · rw [if_neg (by decide)]; unfold natsI; rw [List.map_append]
    · refine bits_order (fun i => bs.getD i false) bs.length _ (fun i j hi hj hh => ?_)
      rw [ltS_ahL, hl, if_neg (by decide), hg i hi, hg j hj, zF_bitF, zF_bitF]
      rcases hh with ⟨a, b⟩ | ⟨a, b⟩
      · rw [a, b]; left; rw [cmpZ_neg]; exact hu
      · rw [a]; right; exact ⟨(cmpZ_zero _ _).2 rfl, b⟩
  | true =>
    refine ⟨((List.range bs.length).filter fun i => bs.getD i false) ++ (List.range bs.length).filter fun i => !bs.getD i false, ?_, ?_⟩
    · rw [if_pos rfl]; unfold natsI; rw [List.map_append]
    · have := bits_order (fun i => !bs.getD i false) bs.length (ltS (ahL g 1 true)) (fun i j hi hj hh => by
        rw [ltS_ahL, hl, if_pos rfl, hg i hi, hg j hj, zF_bitF, zF_bitF]
        rcases hh with ⟨a, b⟩ | ⟨a, b⟩
        · have a : bs.getD i false = true := by simpa using a
          have b : bs.getD j false = false := by simpa using b
          rw [a, b]; left; have := (cmpZ_pos (unitF : Int) 0).2 hu; simp only [if_true, Bool.false_eq_true, if_false]; omega
        · have a : bs.getD i false = bs.getD j false := by simpa using a
          rw [a]; right; exact ⟨by rw [(cmpZ_zero _ _).2 rfl]; rfl, b⟩)
      simp only [Bool.not_not] at this
      exact this
theorem radixGrade_con (hR : Mono R) (cs : List Value) (v : VecD α) (down : Bool) (w : World) (h : GHeap) (hT : TzTab h) (hv : VecAt R h cs v) (hm : v.len ≤ 1048576) (hc : ∀ c ∈ v.chars, -2147483648 ≤ c ∧ c < 2147483648) (hk0 : v.kind ≠ 0) :
    Con Tryd.prog 39 [.agg cs.toArray, .bool down] w h (fun h' u => ((v.kind ≠ 4 ∧ v.kind ≠ 6) ∧ ∃ s out, u = .tuple #[s, .bool true] ∧ IntsAt h' s (natsI out) ∧ InOrder (ltS (ahL (gV v) 1 down)) v.len out) ∨ ((v.kind = 4 ∨ v.kind = 6) ∧ u = .tuple #[.slice none 0 0, .bool false])) := by
  have hkr : 0 ≤ v.kind ∧ v.kind ≤ 6 := by
    obtain ⟨_, _, _, _, _, _, _, _, hh⟩ := hv
    rcases hh with ⟨e, _⟩ | ⟨e, _⟩ | ⟨e, _⟩ | ⟨e, _⟩ | ⟨e, _⟩ | ⟨e, _⟩ | ⟨e, _⟩ <;> omega
  by_cases c1 : v.kind = 2 ∨ v.kind = 3 ∨ v.kind = 5
  · obtain ⟨hkl, hkg⟩ := keys_gV hv (by omega) hc
    refine (radixGradeK_con hR cs v down w h hv hm hc c1).mono (fun h' u _ hp => .inl ⟨by omega, ?_⟩)
    obtain ⟨s, out, rfl, hI, hord⟩ := hp
    rw [hkl] at hord
    exact ⟨s, out, rfl, hI, hord.imp (fun i j hi hj hij => ltP_ltS _ _ down i j (hkg i j hi hj) (hkg j i hj hi) hij)⟩
  have hv' := hv
  obtain ⟨wv, nv, sm, il, fl, ch, bx, ⟨rfl, hoc⟩, -⟩ := hv
  refine Con.of_body Tryd.func39 rfl Tryd.ntmps39 rfl rfl ?_
  intro hs
  refine Zrun ?_
  (refine RW.boxN hs rfl rfl ?_; intro b1 w1 hs)
  refine Zerun ?_
  (refine RW.call T hs rfl rfl rfl (vecPacked_con _ v _ _ hv') ?_; intro v h2 w2 hle2 hp2 hs)
  obtain ⟨wb, bs, rfl, hb2, hb3, _⟩ := hp2
  have hwo : wb.oneCell' = true := by obtain ⟨_, ws, ⟨_, _, rfl, _⟩, _⟩ := hb2; rfl
  have hv' := hv'.mono hR hle2
  have hT := hT.mono hle2
  by_cases k1 : v.kind = 1
  · rw [decide_eq_true k1]
    refine Zerun ?_
    (refine RW.allocN T hs rfl rfl rfl rfl ?_; intro b3 w3 hs)
    refine RW.storeAll T hs 0 rfl rfl rfl rfl rfl rfl (by show (wb.oneCell' && (true && true)) = true; rw [hwo]; rfl) rfl ?_
    intro w4 hs
    refine Zerun ?_
    have hve := hb3 k1
    have hgv : ∀ i, i < bs.length → gV v i = zF (bitF (bs.getD i false)) := by
      intro i hi
      unfold gV
      rw [if_neg (by omega), hve]
      show zF ((bs.map bitF).getD i 0) = _
      rw [List.getD_eq_getElem?_getD, List.getD_eq_getElem?_getD, List.getElem?_map, List.getElem?_eq_getElem hi]; rfl
    obtain ⟨out, ho1, ho2⟩ := bitsG_order bs down (gV v) hgv
    have hlen : v.len = bs.length := by rw [hve]; show (bs.map bitF).length + 0 + 0 = _; rw [List.length_map]; omega
    (refine RW.call T hs rfl rfl rfl (radixBits_con _ bs down _ _ hT hb2) ?_; intro v h5 w5 hle5 hp5 hs)
    rw [ho1] at hp5
    have hI5 := hp5
    obtain ⟨ad5, cp5, rfl, _⟩ := hp5
    refine Zerun ?_
    exact retQ_ret [_, _] h5 ⟨rfl, rfl, trivial⟩ hs.dropAll (.inl ⟨by omega, _, out, rfl, hI5, by rw [hlen]; exact ho2⟩)
  · rw [decide_eq_false k1]
    refine Zerun ?_
    (refine RW.allocN T hs rfl rfl rfl rfl ?_; intro b3 w3 hs)
    refine RW.storeAll T hs 0 rfl rfl rfl rfl rfl rfl (by show (wb.oneCell' && (true && true)) = true; rw [hwo]; rfl) rfl ?_
    intro w4 hs
    refine Zerun ?_
    (refine RW.call T hs rfl rfl rfl (radixKeys_con hR _ v _ _ hv' hm hc) ?_; intro v h5 w5 hle5 hp5 hs)
    obtain ⟨s5, rfl, hU5⟩ := hp5
    rw [decide_eq_false (show ¬ (v.kind = 1 ∨ v.kind = 2 ∨ v.kind = 3 ∨ v.kind = 5) by omega)]
    obtain ⟨ad, cp, rfl, hS5⟩ := hU5
    refine Zerun ?_
    exact retQ_ret [_, _] h5 ⟨rfl, rfl, trivial⟩ hs.dropAll (.inr ⟨by omega, rfl⟩)
/-- elements and items are put in order by the same -/
theorem gI_gV {β : Type} (f : α → β) (v : VecD α) (hc : v.cls = 0 ∨ v.cls = 1) (i : Nat) (hi : i < (itemsV f v).length) : gI ((itemsV f v).getD i d0I) = gV v i := by
  unfold gV
  rcases hc with hc | hc
  · have k5 : ¬ v.kind = 5 := by unfold VecD.cls at hc; intro e; rw [if_pos e] at hc; omega
    rw [itemsV_c0 f hc, List.length_map] at hi
    rw [if_neg k5, itemsV_c0 f hc, List.getD_eq_getElem?_getD, List.getD_eq_getElem?_getD, List.getElem?_map, List.getElem?_eq_getElem hi]
    rfl
  · have k5 : v.kind = 5 := by unfold VecD.cls at hc; apply Classical.byContradiction; intro e; rw [if_neg e] at hc; split at hc <;> omega
    rw [itemsV_c1 f hc, List.length_map] at hi
    rw [if_pos k5, itemsV_c1 f hc, List.getD_eq_getElem?_getD, List.getD_eq_getElem?_getD, List.getElem?_map, List.getElem?_eq_getElem hi]
    rfl
theorem itemsV_even {h : GHeap} {cs : List Value} {β : Type} (f : α → β) {v : VecD α} (hv : VecAt R h cs v) : ∀ x ∈ itemsV f v, x.kind = v.cls ∧ (v.cls = 0 → finF x.num) := by
  have ht := hv.tidy
  intro x hx
  by_cases c1 : v.cls = 1
  · rw [itemsV_c1 f c1] at hx
    obtain ⟨y, _, rfl⟩ := List.mem_map.1 hx
    exact ⟨c1.symm, fun e => by omega⟩
  · by_cases c2 : v.cls = 2
    · rw [itemsV_c2 f c2] at hx
      obtain ⟨y, _, rfl⟩ := List.mem_map.1 hx
      exact ⟨c2.symm, fun e => by omega⟩
    · have c0 : v.cls = 0 := by unfold VecD.cls at *; split <;> simp_all
      rw [itemsV_c0 f c0] at hx
      obtain ⟨y, hy, rfl⟩ := List.mem_map.1 hx
      exact ⟨c0.symm, fun _ => (ht y hy).2.1⟩
end
/-- orders by keys that are the same on the places at hand -/
theorem ltS_congr {f g : Nat → Int} {size : Nat} {down : Bool} {i j : Nat} (h : ∀ m, m < size → f (i * size + m) = g (i * size + m) ∧ f (j * size + m) = g (j * size + m)) (hl : ltS (ahL f size down) i j) : ltS (ahL g size down) i j := by
  rw [ltS_ahL] at hl ⊢
  rwa [lexC_congr f g size i j size (Nat.le_refl _) h] at hl
end Go.Proofs.YtmfealaaacmohaaDoor

/-
  Contract of the law's own function of layer 17: places of elements in order. No statement is proved here.
-/
namespace Go.Proofs.YtmfealaaacmohaaDoor
open Go Go.RowKit
set_option linter.unusedVariables false
set_option linter.unusedSimpArgs false
set_option maxHeartbeats 4000000
attribute [local irreducible] CW RW QW SW HW ConM retM heldQ calmQ elemP thenQ blockQ loopQ joinQ retQ Yields Con Sl zF magR unitF truncF fwF wholeF tidySpec elemQ rankF leastN tidyW
set_option maxHeartbeats 4000000

theorem arr_chars (k : Nat) (p : PD (k + 1)) (hch : ∀ x ∈ PlainD.items (α := PD k) p, -2147483648 ≤ x.char ∧ x.char < 2147483648) : ∀ c ∈ (ArrD.vec (α := AD k) (arr (k + 1) p)).chars, -2147483648 ≤ c ∧ c < 2147483648 := by
  intro c hc
  change c ∈ (arrV (arr k) (PlainD.fill (α := PD k) p) (PlainD.items (α := PD k) p)).chars at hc
  unfold arrV at hc
  split at hc
  · obtain ⟨x, hx, rfl⟩ := List.mem_map.1 hc
    exact hch x hx
  · split at hc <;> cases hc
theorem radixGradesLaw_con (k : Nat) (cs : List Value) (p : PD (k + 1)) (down : Bool) (w : World) (h : GHeap) (hT : TzTab h) (hp : PlainAt (k + 1) h cs p) (hch : ∀ x ∈ PlainD.items (α := PD k) p, -2147483648 ≤ x.char ∧ x.char < 2147483648) : Con Tryd.prog 7 [.agg cs.toArray, .bool down] w h (fun _ u => u = .bool true) := by
  have hp' := hp
  obtain ⟨s, it, rfl, ⟨ad, cp, rfl, _⟩, ⟨ad2, cp2, xs, rfl, _, _⟩⟩ := hp
  have awk : ∀ (w : World) (h : GHeap), Con Tryd.prog 19 [] w h (fun _ u => u = .bool true) := awake17_con
  refine Con.of_body Tryd.func7 rfl Tryd.ntmps7 rfl rfl ?_
  intro hs
  refine Zrun ?_
  (refine RW.boxN hs rfl rfl ?_; intro b1 w1 hs)
  refine Zerun ?_
  (refine RW.call T hs rfl rfl rfl (refCount_con 3000 (k + 1) _ p _ _ hp') ?_; intro v h2 w2 hle2 hp2 hs)
  obtain ⟨r, rfl⟩ := hp2
  have hp' := PlainAt.mono (k + 1) _ _ _ _ hle2 hp'
  have hT := hT.mono hle2
  by_cases c1 : 1000 < r
  · refine Zerun ?_
    (refine RW.call T hs rfl rfl rfl (awk _ _) ?_; intro v h3 w3 hle3 hp3 hs)
    subst hp3
    refine Zerun ?_
    exact retQ_ret [_] h3 ⟨rfl, trivial⟩ hs.dropAll rfl
  by_cases c2 : 200 < (PlainD.items (α := PD k) p).length
  · refine Zerun ?_
    (refine RW.call T hs rfl rfl rfl (awk _ _) ?_; intro v h3 w3 hle3 hp3 hs)
    subst hp3
    refine Zerun ?_
    exact retQ_ret [_] h3 ⟨rfl, trivial⟩ hs.dropAll rfl
  refine Zerun ?_
  (refine RW.call T hs rfl rfl rfl (refCheck_con (k + 1) _ p _ _ hp') ?_; intro v h4 w4 hle4 hp4 hs)
  subst hp4
  have hp' := PlainAt.mono (k + 1) _ _ _ _ hle4 hp'
  have hT := hT.mono hle4
  by_cases hc : chk (k + 1) 40 p = 0
  rotate_left
  · refine Zerun ?_
    (refine RW.call T hs rfl rfl rfl (awk _ _) ?_; intro v h5 w5 hle5 hp5 hs)
    subst hp5
    refine Zerun ?_
    exact retQ_ret [_] h5 ⟨rfl, trivial⟩ hs.dropAll rfl
  refine Zerun ?_
  (refine RW.call T hs rfl rfl rfl (of07_con (k + 1) _ p _ _ hp' hc) ?_; intro v h5 w5 hle5 hp5 hs)
  obtain ⟨cs5, rfl, hl5, ho5, ha5⟩ := hp5
  have hp' := PlainAt.mono (k + 1) _ _ _ _ hle5 hp'
  have hT := hT.mono hle5
  have hgood := good_arr (k + 1) 40 p hc
  have hsml := good_sml (k + 1) 40 _ hgood
  have hcr := arr_chars k p hch
  have hit := arr_items k 40 p hc
  have hil : (PlainD.items (α := PD k) (tidy (k + 1) p)).length = (PlainD.items (α := PD k) p).length := List.length_map _
  obtain ⟨_, f1, f2, _, _⟩ := (chkP_ok (α := PD k) _ _ _).1 hc
  have hfl : (ArrD.vec (α := AD k) (arr (k + 1) p)).cls = PlainD.fill (α := PD k) p := cls_arrV (arr k) _ _ f1 f2
  obtain ⟨s5, vc5, rfl, hsh5, hv5⟩ := ha5
  have hlen := hsml.2.1
  have hk0 := hgood.2.1
  generalize ArrD.vec (α := AD k) (arr (k + 1) p) = vd at *
  have hv5' := hv5
  have hev := itemsV_even (plain k) hv5
  have hiv := itemsV_len (plain k) hv5
  have hgg := gI_gV (plain k) vd
  rw [hit] at hev hiv hgg
  have hvl : vc5.length = 8 := hv5.size
  obtain ⟨wv, nv, sm, il, fl, ch, bx, ⟨rfl, hoc⟩, hkc⟩ := hv5
  have hkr : 0 ≤ vd.kind ∧ vd.kind ≤ 6 := by rcases hkc with ⟨e, _⟩ | ⟨e, _⟩ | ⟨e, _⟩ | ⟨e, _⟩ | ⟨e, _⟩ | ⟨e, _⟩ | ⟨e, _⟩ <;> omega
  clear hkc
  refine Zerun ?_
  refine RW.val (Y.fieldVec T rfl rfl rfl rfl rfl rfl rfl) rfl ?_
  refine Zerun ?_
  (refine RW.allocN T hs rfl rfl rfl rfl ?_; intro b6 w6 hs)
  (refine RW.storeAll T hs 0 rfl rfl rfl rfl rfl rfl hoc rfl ?_; intro w7 hs)
  refine Zerun ?_
  (refine RW.call T hs rfl rfl rfl (radixGrade_con (ArrAt.mono k) _ vd down _ _ hT hv5' hlen hcr hk0) ?_; intro v h8 w8 hle8 hp8 hs)
  have hp' := PlainAt.mono (k + 1) _ _ _ _ hle8 hp'
  have hv5' := hv5'.mono (ArrAt.mono k) hle8
  rcases hp8 with ⟨hkk, s8, out, rfl, hI8, hord8⟩ | ⟨hkk, rfl⟩
  · have hcl : vd.cls = 0 ∨ vd.cls = 1 := by unfold VecD.cls; by_cases e : vd.kind = 5 <;> simp [e]; omega
    have hI8' := hI8
    obtain ⟨ad8, cp8, rfl, _⟩ := hI8
    refine Zerun ?_
    (refine RW.call T hs rfl rfl rfl (vecKind_con _ vd _ _ hv5') ?_; intro v h9 w9 hle9 hp9 hs)
    subst hp9
    have hp' := PlainAt.mono (k + 1) _ _ _ _ hle9 hp'
    have hv5' := hv5'.mono (ArrAt.mono k) hle9
    refine Zerun ?_
    (refine RW.call T hs rfl rfl rfl (vecKind_con _ vd _ _ hv5') ?_; intro v h10 w10 hle10 hp10 hs)
    subst hp10
    have hp' := PlainAt.mono (k + 1) _ _ _ _ hle10 hp'
    refine Zerun ?_
    (refine RW.call T hs rfl rfl rfl (refTidyP_con (k + 1) 40 _ p _ _ hp' hc) ?_; intro v h11 w11 hle11 hp11 hs)
    obtain ⟨cs11, rfl, hq11⟩ := hp11
    obtain ⟨s11, it11, rfl, _, hit11⟩ := hq11
    have hit11' := hit11
    obtain ⟨ad11, cp11, xs11, rfl, _, _⟩ := hit11'
    have hI8' := hI8'.mono (hle9.trans (hle10.trans hle11))
    refine Zerun ?_
    refine RW.val (Y.field1 T rfl rfl rfl rfl rfl rfl) rfl ?_
    refine Zerun ?_
    (refine RW.call T hs rfl rfl rfl (ref16Grade_con (PlainAt.mono k) _ _ vd.cls 1 down _ _ hit11 hev (by omega) (by omega) (by omega)) ?_; intro v h12 w12 hle12 hp12 hs)
    obtain ⟨o12, hI12, hord12⟩ := hp12
    rw [Nat.div_one, hiv] at hord12
    have heq : out = o12 := by
      refine (hord8.imp (fun i j hi hj hij => ltS_congr (fun m hm => ?_) hij)).eq hord12 (ltS_asym (ahL_weak _ _ _))
      obtain rfl : m = 0 := by omega
      simp only [Nat.mul_one, Nat.add_zero]
      exact ⟨(hgg hcl i (by omega)).symm, (hgg hcl j (by omega)).symm⟩
    subst heq
    have hol : out.length = vd.len := hord8.len
    refine Zerun ?_
    (refine RW.call T hs rfl rfl rfl (ints_con _ _ (natsI out) (natsI out) _ _ (hI8'.mono hle12) hI12 (by rw [natsI_len]; omega)) ?_; intro v h13 w13 hle13 hp13 hs)
    rw [decide_eq_true rfl] at hp13
    subst hp13
    refine Zerun ?_
    (refine RW.call T hs rfl rfl rfl (awk _ _) ?_; intro v h14 w14 hle14 hp14 hs)
    subst hp14
    refine Zerun ?_
    exact retQ_ret [_] h14 ⟨rfl, trivial⟩ hs.dropAll rfl
  · refine Zerun ?_
    (refine RW.call T hs rfl rfl rfl (vecKind_con _ vd _ _ hv5') ?_; intro v h9 w9 hle9 hp9 hs)
    subst hp9
    have hv5' := hv5'.mono (ArrAt.mono k) hle9
    by_cases k4 : vd.kind = 4
    · refine Zerun ?_
      (refine RW.call T hs rfl rfl rfl (awk _ _) ?_; intro v h14 w14 hle14 hp14 hs)
      subst hp14
      refine Zerun ?_
      exact retQ_ret [_] h14 ⟨rfl, trivial⟩ hs.dropAll rfl
    · refine Zerun ?_
      (refine RW.call T hs rfl rfl rfl (vecKind_con _ vd _ _ hv5') ?_; intro v h10 w10 hle10 hp10 hs)
      subst hp10
      refine Zerun ?_
      (refine RW.call T hs rfl rfl rfl (awk _ _) ?_; intro v h14 w14 hle14 hp14 hs)
      subst hp14
      refine Zerun ?_
      exact retQ_ret [_] h14 ⟨rfl, trivial⟩ hs.dropAll rfl
end Go.Proofs.YtmfealaaacmohaaDoor
