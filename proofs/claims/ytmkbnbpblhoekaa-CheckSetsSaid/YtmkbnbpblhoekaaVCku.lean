/- The program's checker: groups. -/
import Derived.Test.YtmkbnbpblhoekaaVCkt
set_option linter.unusedSimpArgs false
set_option linter.unusedVariables false
set_option linter.unusedSectionVars false
namespace Go.Proofs.Ytmkbnbpblhoekaa
open Go.Xr Go.Chk

theorem inG {i : Nat} (h : i ∈ slotsG) : i = 15 ∨ i = 16 ∨ (74 ≤ i ∧ i ≤ 91) := by
  simp only [slotsG, List.mem_cons, List.not_mem_nil, or_false] at h
  omega
theorem w06_g {t : Tr V} {d : List XDef} {h : Heap} {oi : Nat} (h73 : slotOf t 73 = .iter oi) : W06 mG none t d h = [(.ret, (anyAll t slotsG).set 6 (.int .i64 61), d, h.put oi (.dead true)), (.exit 2, anyAll t slotsG, d, h.put oi (.dead true))] := by
  unfold W06
  have : rd t mG.it = .iter oi := h73
  rw [this]
  rfl

set_option maxHeartbeats 16000000 in
theorem groups_ok {b : Nat} {h0 h : Heap} {o : Nat} {es : List (Int × List Int)} {last : Int} {ov : Bool} {tr hints : List Int} {hv : V} {p : Int} (hc : ChkP b h o es last ov tr) (hr : Rise es last) (hf : ∀ e ∈ es, Fine e.2 ∧ e.2.length ≤ 1000000) (x0 : Ext h0 h) (hb : h0.next ≤ b) (hh : Sw h0 hv (hints.map (.int .i64))) (hz : HFine hints) (hneg : ∀ x r, hints = x :: r → x < 0) (hp : -1048576 ≤ p ∧ p ≤ 1048576) (htl : tr.length + hints.length ≤ 1000000) :
    EvCall xprog H0 55 [.ptr o 0 0, .int .i32 p, hv] h fun v h' => v = .int .i64 (groups es p tr hints 0 []) ∧ ChkP b h' o es last ov tr ∧ Chg o h h' := by
  refine s_call (fn := xf55) rfl (free _ rfl ..) ?_
  have hlt := hc.lt.1
  have hmut := hc.lt.2
  have e1 := Ext.push h (.map .i64 [] 0)
  have hmm : (h.push (.map .i64 [] 0)).get h.next = some (.map .i64 [] 0) := by rw [Heap.get_push, if_pos rfl]
  have hml : h.next < (h.push (.map .i64 [] 0)).next := Nat.lt_succ_self _
  have wp : IntKind.i32.wrap (-p) = -p := wneg hp.1 hp.2
  have c1 : Chg o h _ := Chg.ext e1 hlt
  have k1 := hc.ext e1
  have hoff : ¬ Mut (h.push (.map .i64 [] 0)) o h.next := fun q => by have := hmut _ ((Mut.ext e1 hlt).1 q); omega
  generalize hH : h.push (.map .i64 [] 0) = H at *
  simp -implicitDefEqProofs only [xf55, argsFrom_cons, argsFrom_nil]
  repeat' ((first | refine s_line rfl ?_ | refine s_end rfl ?_ | refine s_seq ?_ | refine s_region ?_ | refine s_block ?_ | refine s_cond ?_ | refine s_ret ?_ | refine s_skip ?_ | refine s_exit ?_ | refine s_if (fun hif => ?_) (fun hif => ?_) | refine condB_dec (fun hif => ?_) (fun hif => ?_) | refine condB_of (fun hif => ?_) (fun hif => ?_) | (refine s_lelt ?_ ?_; omega) | (refine s_lt ?_ ?_; omega) | (refine s_le ?_ ?_; omega)) <;>
    (try simp -implicitDefEqProofs (disch := first | assumption | omega) only [sx, sb, sd, se, xwpStep, xwpOp, xwpInt, opEv, xres, oneOf, Nat.reduceAdd, Nat.reduceEqDiff, Nat.reduceSub, ↓reduceIte, reduceCtorEq, *]))
  refine s_while (fun n t d g => ∃ (cur : List Int) (cv : V) (la : Int) (met : List Int) (mes : List (Int × V)) (mins : Nat), cur.length = n ∧ slotOf t 2 = cv ∧ slotOf t 0 = .ptr o 0 0 ∧ slotOf t 1 = .int .i32 p ∧ slotOf t 7 = .map h.next ∧ slotOf t 8 = .int .i64 la ∧ d = [] ∧ Sw h0 cv (cur.map (.int .i64)) ∧ Ext h0 g ∧ ChkP b g o es last ov tr ∧ Chg o h g ∧ g.get h.next = some (.map .i64 mes mins) ∧ h.next < g.next ∧ ¬ Mut g o h.next ∧ (∀ k, hasKey k mes = if k ∈ met then some (.bool true) else none) ∧ HFine cur ∧ (∀ x r, cur = x :: r → x < 0) ∧ cur.length ≤ hints.length ∧ groups es p tr cur la met = groups es p tr hints 0 [] ∧ (∀ i ∈ slotsG, vFits (slotOf t i) .any = true)) (fun _ _ _ => free_code ..) hints.length ⟨hints, hv, 0, [], [], 0, rfl, by simp [slotOf_set], by simp [slotOf_set], by simp [slotOf_set], by simp [slotOf_set], by simp [slotOf_set], rfl, hh, x0.trans e1, k1, c1, hmm, hml, hoff, fun k => rfl, hz, hneg, Nat.le_refl _, rfl, by simp [slotsG, slotOf_set, vFits, V.undef]⟩ ?_
  clear e1 hmm hml c1 k1 hoff hH hh hneg H
  rintro n t d g ⟨cur, cv, la, met, mes, mins, b1, a1, a2, a3, a4, a5, rfl, hsw, xg, k1, c1, hmm, hml, hoff, hmet, hzc, hneg, hcl, hgr, hsl⟩
  have cl := hsw.sl.len
  have cr := hsw.sl.row
  simp only [List.length_map] at cl
  rcases cur with _ | ⟨hd, rest⟩
  · have hn0 : n = 0 := b1.symm
    subst hn0
    clear b1
    have kk := k1
    obtain ⟨vs, mo, ces, ins, vv, tv, hm, hg⟩ := k1
    have r0 := readCell (off := 0) hm.get rfl
    have gm := hm.map
    have hgr2 : groups es p tr hints 0 [] = if miss es p met = true then 61 else 0 := by
      rw [← hgr, groups]
      rfl
    have xp : ∀ (y : XObj), Ext g ((g.push (.miter (some mo) ins [] none)).put g.next y) := fun y => (Ext.push _ _).put _ (Nat.le_refl _)
    have cp : ∀ (y : XObj), Chg o h ((g.push (.miter (some mo) ins [] none)).put g.next y) := fun y => c1.trans (Chg.ext (xp y) hm.ho)
    clear hgr hneg hzc hcl hsw
    repeat' ((first | refine s_line rfl ?_ | refine s_end rfl ?_ | refine s_seq ?_ | refine s_region ?_ | refine s_block ?_ | refine s_cond ?_ | refine s_ret ?_ | refine s_skip ?_ | refine s_exit ?_ | refine s_if (fun hif => ?_) (fun hif => ?_) | refine condB_dec (fun hif => ?_) (fun hif => ?_) | refine condB_of (fun hif => ?_) (fun hif => ?_) | (refine s_lelt ?_ ?_; omega) | (refine s_lt ?_ ?_; omega) | (refine s_le ?_ ?_; omega)) <;>
      (try simp -implicitDefEqProofs (disch := first | assumption | omega) only [sx, sb, sd, se, xwpStep, xwpOp, xwpInt, opEv, xres, oneOf, Nat.reduceAdd, Nat.reduceEqDiff, Nat.reduceSub, ↓reduceIte, reduceCtorEq, kindEq, List.length_nil, *]))
    all_goals first
      | (exfalso; omega)
      | skip
    have hsl2 : ∀ (t' : Tr V), (∀ i, i ≠ 18 → i ≠ 19 → i ≠ 20 → i ≠ 69 → i ≠ 70 → i ≠ 71 → i ≠ 72 → i ≠ 73 → slotOf t' i = slotOf t i) → ∀ i ∈ slotsG, vFits (slotOf t' i) .any = true := fun t' q i hi => by
      have := inG hi
      rw [q i (by omega) (by omega) (by omega) (by omega) (by omega) (by omega) (by omega) (by omega)]
      exact hsl i hi
    cases hms : miss es p met with
    | true =>
      rw [hms] at hgr2
      refine s_pick (m := mG) (W := W06) .ret _ [] _ (pick_code ..) rfl (by rw [w06_g (oi := g.next) (by simp [slotOf_set])]; exact List.mem_cons_self) (fun q hq e => by rw [w06_g (oi := g.next) (by simp [slotOf_set])] at hq; rcases List.mem_cons.1 hq with rfl | hq; rfl; rw [List.mem_singleton] at hq; subst hq; cases e) (grange hm hr hf hmm hml hmet hp (by simp [slotOf_set]) (by simp [slotOf_set, a4]) (by simp [slotOf_set, a3]) (hsl2 _ fun i q1 q2 q3 q4 q5 q6 q7 q8 => by simp [slotOf_set, q1, q2, q3, q4, q5, q6, q7, q8]) (.inl ⟨hms, rfl, rfl⟩)) ?_
      simp only [outOf_ret, andThen_ret, xfin_ret, xres, slotOf_same, oneOf]
      exact ⟨by simp, kk.ext (xp _), cp _⟩
    | false =>
      rw [hms] at hgr2
      refine s_pick (m := mG) (W := W06) (.exit 2) _ [] _ (pick_code ..) rfl (by rw [w06_g (oi := g.next) (by simp [slotOf_set])]; exact List.mem_cons_of_mem _ List.mem_cons_self) (fun q hq e => by rw [w06_g (oi := g.next) (by simp [slotOf_set])] at hq; rcases List.mem_cons.1 hq with rfl | hq; cases e; rw [List.mem_singleton] at hq; exact hq) (grange hm hr hf hmm hml hmet hp (by simp [slotOf_set]) (by simp [slotOf_set, a4]) (by simp [slotOf_set, a3]) (hsl2 _ fun i q1 q2 q3 q4 q5 q6 q7 q8 => by simp [slotOf_set, q1, q2, q3, q4, q5, q6, q7, q8]) (.inr ⟨hms, rfl, rfl⟩)) ?_
      have k5 := kk.ext (xp (.dead true))
      have c5 := cp (.dead true)
      simp only [outOf_exit, if_true, andThen_normal]
      generalize anyAll _ slotsG = T at *
      repeat' ((first | refine s_line rfl ?_ | refine s_end rfl ?_ | refine s_seq ?_ | refine s_region ?_ | refine s_block ?_ | refine s_cond ?_ | refine s_ret ?_ | refine s_skip ?_ | refine s_exit ?_ | refine s_if (fun hif => ?_) (fun hif => ?_) | refine condB_dec (fun hif => ?_) (fun hif => ?_) | refine condB_of (fun hif => ?_) (fun hif => ?_) | (refine s_lelt ?_ ?_; omega) | (refine s_lt ?_ ?_; omega) | (refine s_le ?_ ?_; omega)) <;>
        (try simp -implicitDefEqProofs (disch := first | assumption | omega) only [sx, sb, sd, se, xwpStep, xwpOp, xwpInt, opEv, xres, oneOf, Nat.reduceAdd, Nat.reduceEqDiff, Nat.reduceSub, ↓reduceIte, reduceCtorEq, *]))
  have hd0 := hneg hd rest rfl
  have hzd := hzc hd List.mem_cons_self
  have rx : readCells g (objS cv) (genS cv) (offS cv) 1 = some [.int .i64 hd] := by
    have := (hsw.sl.ext xg).at (i := 0) (x := .int .i64 hd) rfl
    rwa [Nat.add_zero] at this
  have wid : IntKind.i64.wrap (-hd) = -hd := wrap_i64 (by omega) (by omega)
  have hhd : ∀ {rv : V}, Sw h0 rv (((hd :: rest).map (.int .i64)).drop 1) → EvCall xprog H0 53 [rv] g fun v h' => (∃ a b, v = .tup [a, b] ∧ Sw h0 a ((rest.take (headN rest)).map (.int .i64)) ∧ Sw h0 b ((rest.drop (headN rest)).map (.int .i64))) ∧ h' = g := fun hs => headX_ok hs xg (by simp at hcl; omega) fun x hx => (hzc x (List.mem_cons_of_mem _ hx)).1
  have kk := k1
  obtain ⟨vs, mo, ces, ins, vv, tv, hm, hg⟩ := k1
  have r0 := readCell (off := 0) hm.get rfl
  have gm := hm.map
  rw [groups] at hgr
  simp only [List.length_cons] at cl
  rcases hm.held (-hd) with ⟨f1, f2⟩ | ⟨l, ho, lv, sv, f1, f2, hh⟩
  · rw [f1] at hgr
    simp only at hgr
    repeat' ((first | refine s_line rfl ?_ | refine s_end rfl ?_ | refine s_seq ?_ | refine s_region ?_ | refine s_block ?_ | refine s_cond ?_ | refine s_ret ?_ | refine s_skip ?_ | refine s_exit ?_ | refine s_if (fun hif => ?_) (fun hif => ?_) | refine condB_dec (fun hif => ?_) (fun hif => ?_) | refine condB_of (fun hif => ?_) (fun hif => ?_) | (refine s_lelt ?_ ?_; omega) | (refine s_lt ?_ ?_; omega) | (refine s_le ?_ ?_; omega) | ((refine x_sw_loX hsw (by omega) (by simp; omega) ?_; intro r1 q1)) | ((refine evApply_call (hhd q1) ?_; rintro _ g ⟨⟨av, bv, rfl, q2, q3⟩, rfl⟩))) <;>
      (try simp -implicitDefEqProofs (disch := first | assumption | omega) only [sx, sb, sd, se, xwpStep, xwpOp, xwpInt, opEv, xres, oneOf, Nat.reduceAdd, Nat.reduceEqDiff, Nat.reduceSub, ↓reduceIte, reduceCtorEq, kindEq, tellV, List.getElem?_cons_zero, List.getElem?_cons_succ, Int.toNat_zero, Nat.add_zero, Nat.zero_add, *]))
    all_goals first
      | (exfalso; omega)
      | skip
  · rw [f1] at hgr
    simp only at hgr
    have r1 := readCell (off := 1) hh.get rfl
    have hfl := hf (-hd, l) (find_some f1)
    simp only at hfl
    have hcon : ∀ z, EvCall xprog H0 74 [sv, .int .i32 z] g fun v h' => v = .bool (decide (z ∈ l)) ∧ h' = g := fun z => (Contains_ok hh.set.1 (by have := lenNrm l; omega) z).mono fun v h' q => by rw [q.1, q.2]; exact ⟨by simp only [nrm_alike l _], rfl⟩
    have hgrp : ∀ {av : V}, Sw h0 av ((rest.take (headN rest)).map (.int .i64)) → EvCall xprog H0 75 [.ptr o 0 0, .ptr ho 0 0, .int .i32 p, av] g fun v h' => v = .int .i64 (groupOf es l p tr (rest.take (headN rest))) ∧ ChkP b h' o es last ov tr ∧ Chg o g h' := fun hs => group_ok kk hf (slo_of kk xg hb hs.sl) hh hfl.1 hfl.2 hp (by simp at hcl ⊢; omega)
    by_cases hbad : -p ∉ l ∨ -hd ≤ la
    · rw [if_pos hbad] at hgr
      repeat' ((first | refine s_line rfl ?_ | refine s_end rfl ?_ | refine s_seq ?_ | refine s_region ?_ | refine s_block ?_ | refine s_cond ?_ | refine s_ret ?_ | refine s_skip ?_ | refine s_exit ?_ | refine s_if (fun hif => ?_) (fun hif => ?_) | refine condB_dec (fun hif => ?_) (fun hif => ?_) | refine condB_of (fun hif => ?_) (fun hif => ?_) | (refine s_lelt ?_ ?_; omega) | (refine s_lt ?_ ?_; omega) | (refine s_le ?_ ?_; omega) | ((refine x_sw_loX hsw (by omega) (by simp; omega) ?_; intro r1 q1)) | ((refine evApply_call (hhd q1) ?_; rintro _ g ⟨⟨av, bv, rfl, q2, q3⟩, rfl⟩)) | (refine (evCall_iff (hcon _)).2 ?_)) <;>
        (try simp -implicitDefEqProofs (disch := first | assumption | omega) only [sx, sb, sd, se, xwpStep, xwpOp, xwpInt, opEv, xres, oneOf, Nat.reduceAdd, Nat.reduceEqDiff, Nat.reduceSub, ↓reduceIte, reduceCtorEq, kindEq, tellV, List.getElem?_cons_zero, List.getElem?_cons_succ, Int.toNat_zero, Nat.add_zero, Nat.zero_add, *]))
      all_goals first
        | (exfalso; omega)
        | (exfalso; exact hbad.elim (fun q => q (by simpa using ‹(!decide (-p ∈ l)) = false›)) (by assumption))
    · rw [if_neg hbad] at hgr
      have hbp : -p ∈ l := Classical.byContradiction fun q => hbad (.inl q)
      have hbl : ¬ -hd ≤ la := fun q => hbad (.inr q)
      clear hbad
      repeat' ((first | refine s_line rfl ?_ | refine s_end rfl ?_ | refine s_seq ?_ | refine s_region ?_ | refine s_block ?_ | refine s_cond ?_ | refine s_ret ?_ | refine s_skip ?_ | refine s_exit ?_ | refine s_if (fun hif => ?_) (fun hif => ?_) | refine condB_dec (fun hif => ?_) (fun hif => ?_) | refine condB_of (fun hif => ?_) (fun hif => ?_) | (refine s_lelt ?_ ?_; omega) | (refine s_lt ?_ ?_; omega) | (refine s_le ?_ ?_; omega) | ((refine x_sw_loX hsw (by omega) (by simp; omega) ?_; intro r1 q1)) | ((refine evApply_call (hhd q1) ?_; rintro _ g ⟨⟨av, bv, rfl, q2, q3⟩, rfl⟩)) | (refine (evCall_iff (hcon _)).2 ?_) | ((refine evApply_call (hgrp q2) ?_; rintro _ g2 ⟨rfl, m1, m2⟩; have gm2 := (m2.but.get _ hml hoff).trans hmm))) <;>
        (try simp -implicitDefEqProofs (disch := first | assumption | omega) only [sx, sb, sd, se, xwpStep, xwpOp, xwpInt, opEv, xres, oneOf, Nat.reduceAdd, Nat.reduceEqDiff, Nat.reduceSub, ↓reduceIte, reduceCtorEq, kindEq, tellV, V.whole, List.getElem?_cons_zero, List.getElem?_cons_succ, Int.toNat_zero, Nat.add_zero, Nat.zero_add, *]))
      all_goals first
        | (exfalso; omega)
        | skip
      · have hz0 : ¬ groupOf es l p tr (rest.take (headN rest)) = 0 := by simpa using hif
        rw [if_neg hz0] at hgr
        first
          | exact ⟨by rw [hgr], m1, c1.trans m2⟩
          | exact ⟨m1, c1.trans m2⟩
          | exact ⟨by rw [hgr], c1.trans m2⟩
      · have hz0 : groupOf es l p tr (rest.take (headN rest)) = 0 := by simpa using hif
        rw [if_pos hz0] at hgr
        have hne : h.next ≠ o := by omega
        have hl2 : h.next < g2.next := Nat.lt_of_lt_of_le hml m2.but.next
        have hoff2 : ¬ Mut g2 o h.next := fun q => hoff (m2.back _ hml q)
        have xg2 := ext_chg kk xg hb m2
        have hdl := headN_le rest
        refine ⟨(rest.drop (headN rest)).length, by simp at b1 ⊢; omega, rest.drop (headN rest), bv, -hd, -hd :: met, _, _, rfl, by simp [slotOf_set], by simp [slotOf_set, a2], by simp [slotOf_set, a3], by simp [slotOf_set, a4], by simp [slotOf_set], rfl, q3, ⟨xg2.next, fun y hy => ?_⟩, chk_mapput m1 gm2 hoff2 hl2 _, chg_mapput (c1.trans m2) (Nat.le_refl _) hne hoff2 (m1.no_hobj ((m2.but.get _ hml hoff).trans hmm)) _, by rw [Heap.get_put, if_pos rfl], hl2, fun q => hoff2 ((mut_put hne).1 q), fun k => ?_, fun z hzm => hzc z (List.mem_cons_of_mem _ (List.mem_of_mem_drop hzm)), HFine.drop fun z hzm => hzc z (List.mem_cons_of_mem _ hzm), by simp at hcl ⊢; omega, hgr, fun i hi => ?_⟩
        · have := x0.next
          rw [Heap.get_put, if_neg (by omega)]
          exact xg2.get y hy
        · rw [hasKey_addKey]
          by_cases hk : k = -hd
          · rw [if_pos hk, if_pos (by rw [hk]; exact List.mem_cons_self)]
          · rw [if_neg hk, hmet k]
            by_cases hkm : k ∈ met
            · rw [if_pos hkm, if_pos (List.mem_cons_of_mem _ hkm)]
            · rw [if_neg hkm, if_neg (by rw [List.mem_cons]; exact fun q => q.elim hk hkm)]
        · have hi2 := inG hi
          have hsi := hsl i hi
          clear hsl
          simp only [slotOf_set]
          repeat rw [if_neg (by omega)]
          exact hsi
end Go.Proofs.Ytmkbnbpblhoekaa
