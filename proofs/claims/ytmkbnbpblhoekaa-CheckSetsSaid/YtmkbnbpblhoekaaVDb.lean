/- The program's checker: drop. -/
import Derived.Test.YtmkbnbpblhoekaaVDa
set_option linter.unusedSimpArgs false
set_option linter.unusedVariables false
set_option linter.unusedSectionVars false
namespace Go.Proofs.Ytmkbnbpblhoekaa
open Go.Xr Go.Chk

theorem w06_d {t : Tr V} {d : List XDef} {h hM : Heap} {oi mm mins : Nat} {v : V} (h32 : slotOf t 32 = .iter oi) {s c} (hg : h.get oi = some (.miter (some mm) mins s c)) (h0 : slotOf t 0 = v) (hd : dropOut h oi mm v = hM) : W06 mD none t d h = [(.exit 2, anyAll t slotsD, d, hM)] := by
  unfold W06
  have : rd t mD.it = .iter oi := h32
  rw [this]
  show (match h.get oi with | some (.miter (some mo) _ _ _) => [(XExit.exit 2, anyAll t slotsD, d, dropOut h oi mo (slotOf t 0))] | _ => []) = _
  rw [hg, h0, ← hd]

theorem addKey_len {n : Int} {v : V} : ∀ (es : List (Int × V)), (addKey n v es).length ≤ es.length + 1
  | [] => Nat.le_refl _
  | (a, x) :: r => by
    have ih := addKey_len (n := n) (v := v) r
    unfold addKey
    cases decide (n < a)
    · cases decide (a < n)
      · simp
      · simp; omega
    · simp
theorem dropOut_eq {G : Heap} {o mm mo oi : Nat} {mes ces : List (Int × V)} {mins ins : Nat} {last T : Int} {ov : Bool} {vv tv : V} (h1 : G.get mm = some (.map .i64 mes mins)) (h2 : G.get o = some (arr [.map mo, .int .i64 last, .int .i64 T, .bool ov, vv, tv] 1 false)) (h3 : G.get mo = some (.map .i64 ces ins)) :
    dropOut G oi mm (.ptr o 0 0) = ((G.put o (arr [.map mo, .int .i64 last, .int .i64 (T - ((mes.map fun p => lenAt G ces p.1).sum : Nat)), .bool ov, vv, tv] 1 false)).put mo (.map .i64 (ces.filter fun p => (hasKey p.1 mes).isNone) ins)).put oi (.dead true) := by
  unfold dropOut
  simp only [h1, h2, arr, List.getD_cons_zero, List.getD_cons_succ, h3]
  rfl

set_option maxHeartbeats 16000000 in
theorem drop_ok {b : Nat} {h0 h : Heap} {o : Nat} {es : List (Int × List Int)} {last : Int} {ov : Bool} {ids : List Int} {hv : V} (hc : ChkP b h o es last ov []) (hr : Rise es last) (hf : ∀ e ∈ es, e.2.length ≤ 1000000) (htot : Chk.total es ≤ 1000000000) (x0 : Ext h0 h) (hb : h0.next ≤ b) (hh : Sl h0 hv (ids.map (.int .i64))) (hhl : ids.length ≤ 1000000) :
    EvCall xprog H0 33 [.ptr o 0 0, hv] h fun v h' => v = .int .i64 (if none5 es ids = true then 5 else 0) ∧ ChkP b h' o (if none5 es ids = true then es else es.filter fun e => decide (e.1 ∉ ids)) last ov [] ∧ Chg o h h' := by
  refine s_call (fn := xf33) rfl (free _ rfl ..) ?_
  have el := hh.len
  have er := hh.row
  simp only [List.length_map] at el
  have hlt := hc.lt.1
  have hmut := hc.lt.2
  have hbn : b ≤ h.next := by
    obtain ⟨vs, mo, ces, ins, vv, tv, hm, hg⟩ := hc
    have := hm.bo; have := hm.ho
    omega
  have hbad1 : ∀ (k : Nat) (hk : k < ids.length), find es ids[k] = none → none5 es ids = true := fun k hk q => by
    unfold none5
    rw [Bool.or_eq_true, List.any_eq_true]
    exact .inl ⟨_, List.getElem_mem hk, by rw [q]; rfl⟩
  have hbad2 : ¬ ids.Nodup → none5 es ids = true := fun q => by
    unfold none5
    rw [Bool.or_eq_true]
    exact .inr (by simp [q])
  have hgood : (∀ (k : Nat) (hk : k < ids.length), find es ids[k] ≠ none) → ids.Nodup → none5 es ids = false := fun q1 q2 => by
    unfold none5
    rw [Bool.or_eq_false_iff, List.any_eq_false]
    refine ⟨fun x hx => ?_, by simp [q2]⟩
    obtain ⟨k, hk, rfl⟩ := List.getElem_of_mem hx
    have := q1 k hk
    cases hfx : find es ids[k] with
    | none => exact absurd hfx this
    | some l => simp
  have e1 := Ext.push h (.map .i64 [] 0)
  have hmm : (h.push (.map .i64 [] 0)).get h.next = some (.map .i64 [] 0) := by rw [Heap.get_push, if_pos rfl]
  have hml : h.next < (h.push (.map .i64 [] 0)).next := Nat.lt_succ_self _
  have k1 := hc.ext e1
  have hoff : ¬ Mut (h.push (.map .i64 [] 0)) o h.next := fun q => by have := hmut _ ((Mut.ext e1 hlt).1 q); omega
  generalize hH : h.push (.map .i64 [] 0) = H at *
  simp -implicitDefEqProofs only [xf33, argsFrom_cons, argsFrom_nil]
  repeat' ((first | refine s_line rfl ?_ | refine s_end rfl ?_ | refine s_seq ?_ | refine s_region ?_ | refine s_block ?_ | refine s_cond ?_ | refine s_ret ?_ | refine s_skip ?_ | refine s_exit ?_ | refine s_if (fun hif => ?_) (fun hif => ?_) | refine condB_dec (fun hif => ?_) (fun hif => ?_) | refine condB_of (fun hif => ?_) (fun hif => ?_) | (refine s_lelt ?_ ?_; omega) | (refine s_lt ?_ ?_; omega) | (refine s_le ?_ ?_; omega)) <;>
    (try simp -implicitDefEqProofs (disch := first | assumption | omega) only [sx, sb, sd, se, xwpStep, xwpOp, xwpInt, opEv, xres, oneOf, Nat.reduceAdd, Nat.reduceEqDiff, Nat.reduceSub, ↓reduceIte, reduceCtorEq, *]))
  refine s_while (fun n t d g => ∃ (i : Nat) (mes : List (Int × V)) (mins : Nat), i + n = ids.length ∧ slotOf t 12 = .int .i64 i ∧ slotOf t 11 = .int .i64 ids.length ∧ slotOf t 10 = hv ∧ slotOf t 0 = .ptr o 0 0 ∧ slotOf t 5 = .map h.next ∧ d = [] ∧ Ext h g ∧ ChkP b g o es last ov [] ∧ g.get h.next = some (.map .i64 mes mins) ∧ h.next < g.next ∧ ¬ Mut g o h.next ∧ (∀ k, hasKey k mes = if k ∈ ids.take i then some (.bool true) else none) ∧ (mes.map Prod.fst).Pairwise (· < ·) ∧ (∀ k ∈ mes.map Prod.fst, k ∈ ids.take i) ∧ mes.length ≤ i ∧ (∀ (k : Nat) (hk : k < ids.length), k < i → find es ids[k] ≠ none) ∧ (ids.take i).Nodup ∧ (∀ i ∈ slotsD, vFits (slotOf t i) .any = true)) (fun _ _ _ => free_code ..) ids.length ⟨0, [], 0, by omega, by simp [slotOf_set], by simp [slotOf_set], by simp [slotOf_set], by simp [slotOf_set], by simp [slotOf_set], rfl, e1, k1, hmm, hml, hoff, fun k => by simp [hasKey], .nil, by simp, Nat.le_refl _, fun k _ hk => by omega, by simp, by simp [slotsD, slotOf_set, vFits, V.undef]⟩ ?_
  clear e1 hmm hml k1 hoff hH H
  rintro n t d g ⟨i, mes, mins, b1, a1, a2, a3, a4, a5, rfl, xg, k1, hmm, hml, hoff, hmk, hks, hki, hmle, hall, hnd, hsl⟩
  have rx : ∀ (hi : i < ids.length), readCells g (objS hv) (genS hv) (offS hv + i) 1 = some [.int .i64 (ids[i])] := fun hi => (hh.ext (x0.trans xg)).at (by simp [hi])
  have kk := k1
  obtain ⟨vs, mo, ces, ins, vv, tv, hm, hg⟩ := k1
  have r0 := readCell (off := 0) hm.get rfl
  have gm := hm.map
  by_cases hi : i < ids.length
  · replace rx := rx hi
    have et := take_at hi
    have hidm := List.getElem_mem hi
    have hbi := hbad1 i hi
    rcases hm.held ids[i] with ⟨f1, f2⟩ | ⟨l, ho, lv, sv, f1, f2, hhd⟩
    · have hb5 := hbi f1
      generalize ids[i] = id at *
      repeat' ((first | refine s_line rfl ?_ | refine s_end rfl ?_ | refine s_seq ?_ | refine s_region ?_ | refine s_block ?_ | refine s_cond ?_ | refine s_ret ?_ | refine s_skip ?_ | refine s_exit ?_ | refine s_if (fun hif => ?_) (fun hif => ?_) | refine condB_dec (fun hif => ?_) (fun hif => ?_) | refine condB_of (fun hif => ?_) (fun hif => ?_) | (refine s_lelt ?_ ?_; omega) | (refine s_lt ?_ ?_; omega) | (refine s_le ?_ ?_; omega)) <;>
        (try simp -implicitDefEqProofs (disch := first | assumption | omega) only [sx, sb, sd, se, xwpStep, xwpOp, xwpInt, opEv, xres, oneOf, Nat.reduceAdd, Nat.reduceEqDiff, Nat.reduceSub, ↓reduceIte, reduceCtorEq, Int.toNat_natCast, kindEq, tellV, binV, nilCmp, nilOf, List.getElem?_cons_zero, List.getElem?_cons_succ, *]))
      all_goals first
        | (exfalso; omega)
        | skip
      all_goals exact Chg.ext xg hlt
    · by_cases hdup : ids[i] ∈ ids.take i
      · have hb5 : none5 es ids = true := hbad2 fun q => by
          obtain ⟨j, hj, e⟩ := List.getElem_of_mem hdup
          rw [List.length_take] at hj
          rw [List.getElem_take] at e
          have := (List.getElem_inj q).1 e
          omega
        have hmki := hmk ids[i]
        rw [if_pos hdup] at hmki
        generalize ids[i] = id at *
        repeat' ((first | refine s_line rfl ?_ | refine s_end rfl ?_ | refine s_seq ?_ | refine s_region ?_ | refine s_block ?_ | refine s_cond ?_ | refine s_ret ?_ | refine s_skip ?_ | refine s_exit ?_ | refine s_if (fun hif => ?_) (fun hif => ?_) | refine condB_dec (fun hif => ?_) (fun hif => ?_) | refine condB_of (fun hif => ?_) (fun hif => ?_) | (refine s_lelt ?_ ?_; omega) | (refine s_lt ?_ ?_; omega) | (refine s_le ?_ ?_; omega)) <;>
          (try simp -implicitDefEqProofs (disch := first | assumption | omega) only [sx, sb, sd, se, xwpStep, xwpOp, xwpInt, opEv, xres, oneOf, Nat.reduceAdd, Nat.reduceEqDiff, Nat.reduceSub, ↓reduceIte, reduceCtorEq, Int.toNat_natCast, kindEq, tellV, binV, nilCmp, nilOf, List.getElem?_cons_zero, List.getElem?_cons_succ, *]))
        all_goals first
          | (exfalso; omega)
          | skip
        all_goals exact Chg.ext xg hlt
      · have hmki := hmk ids[i]
        rw [if_neg hdup] at hmki
        have hnn : find es ids[i] ≠ none := by rw [f1]; simp
        obtain ⟨id, hid⟩ : ∃ id, id = ids[i] := ⟨_, rfl⟩
        rw [← hid] at rx et hidm f1 f2 hdup hmki
        have hidk : Kept (id = ids[i]) := hid
        clear hid
        repeat' ((first | refine s_line rfl ?_ | refine s_end rfl ?_ | refine s_seq ?_ | refine s_region ?_ | refine s_block ?_ | refine s_cond ?_ | refine s_ret ?_ | refine s_skip ?_ | refine s_exit ?_ | refine s_if (fun hif => ?_) (fun hif => ?_) | refine condB_dec (fun hif => ?_) (fun hif => ?_) | refine condB_of (fun hif => ?_) (fun hif => ?_) | (refine s_lelt ?_ ?_; omega) | (refine s_lt ?_ ?_; omega) | (refine s_le ?_ ?_; omega)) <;>
          (try simp -implicitDefEqProofs (disch := first | assumption | omega) only [sx, sb, sd, se, xwpStep, xwpOp, xwpInt, opEv, xres, oneOf, Nat.reduceAdd, Nat.reduceEqDiff, Nat.reduceSub, ↓reduceIte, reduceCtorEq, wrap_i64, Int.toNat_natCast, kindEq, tellV, V.whole, binV, nilCmp, nilOf, List.getElem?_cons_zero, List.getElem?_cons_succ, *]))
        all_goals first
          | (exfalso; omega)
          | skip
        have hidk : id = ids[i] := hidk
        refine ⟨n - 1, by omega, i + 1, _, _, by omega, by simp [slotOf_set], by simp [slotOf_set, a2], by simp [slotOf_set, a3], by simp [slotOf_set, a4], by simp [slotOf_set, a5], rfl, ⟨xg.next, fun y hy => ?_⟩, chk_mapput kk hmm hoff hml _, by rw [Heap.get_put, if_pos rfl], hml, fun q => hoff ((mut_put (by omega)).1 q), fun k => ?_, addKey_rise hks, fun k hk => ?_, ?_, fun k hk hlt => ?_, ?_, fun j hj => ?_⟩
        · rw [Heap.get_put, if_neg (by omega)]
          exact xg.get y hy
        · rw [hasKey_addKey, et]
          by_cases hk : k = id
          · rw [if_pos hk, if_pos (List.mem_append_right _ (by simp [hk]))]
          · rw [if_neg hk, hmk k]
            by_cases hkm : k ∈ ids.take i
            · rw [if_pos hkm, if_pos (List.mem_append_left _ hkm)]
            · rw [if_neg hkm, if_neg (by rw [List.mem_append, List.mem_singleton]; exact fun q => q.elim hkm hk)]
        · rw [et, List.mem_append, List.mem_singleton]
          rcases addKey_mem hk with q | q
          · exact .inr q
          · exact .inl (hki k q)
        · have := addKey_len (n := id) (v := .bool true) mes
          omega
        · rcases Nat.lt_succ_iff_lt_or_eq.1 hlt with q | rfl
          · exact hall k hk q
          · exact hnn
        · rw [et, List.nodup_append]
          refine ⟨hnd, by simp, fun x hx y hy => ?_⟩
          rw [List.mem_singleton] at hy
          subst hy
          rintro rfl
          exact hdup hx
        · have hj2 := inD hj
          have hsj := hsl j hj
          clear hsl
          simp only [slotOf_set]
          repeat rw [if_neg (by omega)]
          exact hsj
  · have hie : i = ids.length := by omega
    subst hie
    rw [List.take_length] at hnd
    simp only [List.take_length] at hmk hki
    have hnone := hgood (fun k hk => hall k hk hk) hnd
    rw [hnone]
    simp only [Bool.false_eq_true, if_false]
    have hkey : ∀ k, k ∈ mes.map Prod.fst ↔ k ∈ ids := fun k => ⟨hki k, fun q => by
      have := hmk k
      rw [if_pos q] at this
      exact List.mem_map.2 ⟨_, hasKey_mem this, rfl⟩⟩
    have hfound : ∀ id ∈ ids, find es id ≠ none := fun id q => by
      obtain ⟨j, hj, rfl⟩ := List.getElem_of_mem q
      exact hall j hj hj
    have hperm := perm_keys (keysND hks) hnd hkey
    have htd := total_drop hr.1 ids hnd hfound
    rw [← sum_perm hperm] at htd
    clear rx hbad1 hbad2 hgood
    repeat' ((first | refine s_line rfl ?_ | refine s_end rfl ?_ | refine s_seq ?_ | refine s_region ?_ | refine s_block ?_ | refine s_cond ?_ | refine s_ret ?_ | refine s_skip ?_ | refine s_exit ?_ | refine s_if (fun hif => ?_) (fun hif => ?_) | refine condB_dec (fun hif => ?_) (fun hif => ?_) | refine condB_of (fun hif => ?_) (fun hif => ?_) | (refine s_lelt ?_ ?_; omega) | (refine s_lt ?_ ?_; omega) | (refine s_le ?_ ?_; omega)) <;>
      (try simp -implicitDefEqProofs (disch := first | assumption | omega) only [sx, sb, sd, se, xwpStep, xwpOp, xwpInt, opEv, xres, oneOf, Nat.reduceAdd, Nat.reduceEqDiff, Nat.reduceSub, ↓reduceIte, reduceCtorEq, kindEq, *]))
    all_goals first
      | (exfalso; omega)
      | skip
    have hsl2 : ∀ (t' : Tr V), (∀ i, i ≠ 13 → i ≠ 31 → i ≠ 32 → slotOf t' i = slotOf t i) → ∀ i ∈ slotsD, vFits (slotOf t' i) .any = true := fun t' q i hi => by
      have := inD hi
      rw [q i (by omega) (by omega) (by omega)]
      exact hsl i hi
    have hmoo : h.next ≠ o ∧ h.next ≠ mo := by
      rw [mut_iff hm.get] at hoff
      exact ⟨fun e => hoff (.inl e), fun e => hoff (.inr (.inl e))⟩
    have hpg : ∀ x, x < g.next → (g.push (.miter (some h.next) mins [] none)).get x = g.get x := fun x hx => (Ext.push _ _).get x hx
    have hla : ∀ k ∈ mes.map Prod.fst, lenAt (g.push (.miter (some h.next) mins [] none)) ces k = lenOf es k := fun k hk => by
      rcases hm.held k with ⟨f1, _⟩ | ⟨l, ho, lv, sv, f1, f2, hh⟩
      · exact absurd f1 (hfound k ((hkey k).1 hk))
      · unfold lenAt lenOf
        rw [f1, f2]
        simp only [heldLen, Heap.cells?]
        rw [hpg ho hh.lt, hh.get]
        simp only [arr, List.getD_cons_zero]
        rw [hh.lits.1.len, List.length_map]
    have hdo := dropOut_eq (oi := g.next) ((hpg _ hml).trans hmm) ((hpg o hm.ho).trans hm.get) ((hpg mo hm.hm).trans hm.map)
    rw [show (mes.map fun p => lenAt (g.push (.miter (some h.next) mins [] none)) ces p.1) = (mes.map Prod.fst).map (lenOf es) by rw [List.map_map]; exact List.map_congr_left fun p hp => hla p.1 (List.mem_map.2 ⟨p, hp, rfl⟩)] at hdo
    have hces : (ces.filter fun p => (hasKey p.1 mes).isNone) = ces.filter fun p => !decide (p.1 ∈ mes.map Prod.fst) := by
      congr 1
      funext p
      rw [hmk p.1, Bool.eq_iff_iff]
      simp only [hkey]
      by_cases q : p.1 ∈ ids
      · rw [if_pos q]; simp [q]
      · rw [if_neg q]; simp [q]
    rw [hces] at hdo
    have hoo := hm.ho
    have hmmo := hm.hm
    have hom := hm.om
    have hoi : (g.push (.miter (some h.next) mins [] none)).get g.next = some (.miter (some h.next) mins [] none) := by rw [Heap.get_push, if_pos rfl]
    obtain ⟨HM, hHM⟩ : ∃ HM, HM = (((g.push (.miter (some h.next) mins [] none)).put o (arr [.map mo, .int .i64 last, .int .i64 ((Chk.total es : Nat) - (((mes.map Prod.fst).map (lenOf es)).sum : Nat) : Int), .bool ov, vv, tv] 1 false)).put mo (.map .i64 (ces.filter fun p => !decide (p.1 ∈ mes.map Prod.fst)) ins)).put g.next (.dead true) := ⟨_, rfl⟩
    rw [← hHM] at hdo
    have hM1 : HM.get g.next = some (.dead true) := by rw [hHM, Heap.get_put, if_pos rfl]
    have hM2 : HM.get o = some (arr [.map mo, .int .i64 last, .int .i64 ((Chk.total es : Nat) - (((mes.map Prod.fst).map (lenOf es)).sum : Nat) : Int), .bool ov, vv, tv] 1 false) := by rw [hHM, Heap.get_put, if_neg (by omega), Heap.get_put, if_neg (fun e => hom e.symm), Heap.get_put, if_pos rfl]
    have hM3 : HM.get mo = some (.map .i64 (ces.filter fun p => !decide (p.1 ∈ mes.map Prod.fst)) ins) := by rw [hHM, Heap.get_put, if_neg (by omega), Heap.get_put, if_pos rfl]
    have hM4 : ∀ x, x ≠ g.next → x ≠ o → x ≠ mo → HM.get x = (g.push (.miter (some h.next) mins [] none)).get x := fun x q1 q2 q3 => by rw [hHM, Heap.get_put, if_neg q1, Heap.get_put, if_neg q3, Heap.get_put, if_neg q2]
    have hM5 : HM.next = g.next + 1 := by rw [hHM]; rfl
    have hMg : ∀ x, x < g.next → x ≠ o → x ≠ mo → HM.get x = g.get x := fun x q1 q2 q3 => (hM4 x (by omega) q2 q3).trans (hpg x q1)
    have hM6 := hM2
    rw [show ((Chk.total es : Nat) : Int) - (((mes.map Prod.fst).map (lenOf es)).sum : Nat) = (Chk.total (es.filter fun e => decide (e.1 ∉ ids)) : Nat) by omega] at hM6
    have hmut2 : ∀ x, Mut HM o x ↔ Mut g o x := fun x => by rw [mut_iff hM6, mut_iff hm.get]
    have chg : Chg o g HM := ⟨⟨by omega, fun x q1 q2 => by
      rw [mut_iff hm.get] at q2
      exact hMg x q1 (fun e => q2 (.inl e)) fun e => q2 (.inr (.inl e))⟩, fun x _ q => (hmut2 x).1 q, grows_map hm.get rfl hM6 rfl hm.map hM3 (by omega) (fun x q => (hmut2 x).1 q) fun k ho q => by
      have q := (List.mem_filter.1 q).1
      have q' := hm.held_off ⟨_, mo, _, ces, ins, k, hm.get, rfl, hm.map, q⟩
      rw [mut_iff hm.get] at q'
      obtain ⟨_, _, _, _, _, _, q3⟩ := hm.hobj ⟨_, mo, _, ces, ins, k, hm.get, rfl, hm.map, q⟩
      exact .inl ⟨⟨k, q⟩, hMg ho q3.lt (fun e => q' (.inl e)) fun e => q' (.inr (.inl e))⟩⟩
    have k5 : ChkP b HM o (es.filter fun e => decide (e.1 ∉ ids)) last ov [] := by
      refine ⟨vs, mo, _, ins, vv, tv, ⟨hM6, hm.bo, by omega, hm.bm, by omega, hom, hM3, hm.val.frame (by omega) fun x hx => hMg x (hm.val.lt hx).2 (hm.voff x hx).1 (hm.voff x hx).2, hm.trl.frame (by omega) fun x hx => hMg x (hm.trl.lt hx).2 (hm.toff x hx).1 (hm.toff x hx).2, hm.voff, hm.toff, hm.two, fun k => ?_, filter_rise hm.keys _⟩, hg⟩
      have e1 := find_filter (es := es) (id := k) (fun k => decide (k ∉ ids))
      have e2 := hasKey_filter (es := ces) (k := k) (q := fun x => !decide (x ∈ mes.map Prod.fst))
      rw [e1, e2]
      by_cases q : k ∈ ids
      · rw [if_neg (by simp [q]), if_neg (by simp only [hkey]; simp [q])]
        exact .inl ⟨rfl, rfl⟩
      · rw [if_pos (by simp [q]), if_pos (by simp only [hkey]; simp [q])]
        exact (hm.held k).imp (fun q => q) fun ⟨l, ho, lv, sv, f1, f2, f3⟩ => ⟨l, ho, lv, sv, f1, f2, f3.chg chg⟩
    have c5 : Chg o h HM := (Chg.ext xg hlt).trans chg
    refine s_pick (m := mD) (W := W06) (.exit 2) _ [] _ (pick_code ..) rfl (by rw [w06_d (oi := g.next) (v := .ptr o 0 0) (by simp [slotOf_set]) hoi (by simp [slotOf_set, a4]) hdo]; exact List.mem_cons_self) (fun q hq e => by rw [w06_d (oi := g.next) (v := .ptr o 0 0) (by simp [slotOf_set]) hoi (by simp [slotOf_set, a4]) hdo] at hq; exact List.mem_singleton.1 hq) (drange hm hf htot hmm hml hmoo hks (fun k hk => hfound k ((hkey k).1 hk)) (by omega) (by simp [slotOf_set]) (by simp [slotOf_set, a4]) (hsl2 _ fun i q1 q2 q3 => by simp [slotOf_set, q1, q2, q3]) hM1 hM2 hM3 hM4 hM5) ?_
    simp only [outOf_exit, if_true, andThen_normal]
    generalize anyAll _ slotsD = T at *
    clear hM1 hM2 hM3 hM4 hM6 hMg hdo hHM
    repeat' ((first | refine s_line rfl ?_ | refine s_end rfl ?_ | refine s_seq ?_ | refine s_region ?_ | refine s_block ?_ | refine s_cond ?_ | refine s_ret ?_ | refine s_skip ?_ | refine s_exit ?_ | refine s_if (fun hif => ?_) (fun hif => ?_) | refine condB_dec (fun hif => ?_) (fun hif => ?_) | refine condB_of (fun hif => ?_) (fun hif => ?_) | (refine s_lelt ?_ ?_; omega) | (refine s_lt ?_ ?_; omega) | (refine s_le ?_ ?_; omega)) <;>
      (try simp -implicitDefEqProofs (disch := first | assumption | omega) only [sx, sb, sd, se, xwpStep, xwpOp, xwpInt, opEv, xres, oneOf, Nat.reduceAdd, Nat.reduceEqDiff, Nat.reduceSub, ↓reduceIte, reduceCtorEq, *]))
    try exact ⟨k5, c5⟩
end Go.Proofs.Ytmkbnbpblhoekaa
