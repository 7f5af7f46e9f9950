/- The program's checker: follows. -/
import Derived.Test.YtmkbnbpblhoekaaVCku
import Derived.Test.YtmkbnbpblhoekaaVCkw
set_option linter.unusedSimpArgs false
set_option linter.unusedVariables false
set_option linter.unusedSectionVars false
namespace Go.Proofs.Ytmkbnbpblhoekaa
open Go.Xr Go.Chk

theorem follows_of {es : List (Int × List Int)} {l hints ys : List Int} (hb : both l = false) (he : Eqs ys (l.map fun x => -x)) : follows es l hints = match (thr es ys (hints.take (headN hints))).2 with
    | 0 => grpOf es l (thr es ys (hints.take (headN hints))).1 (hints.drop (headN hints))
    | 1 => 0
    | _ => 60 := by
  unfold follows
  rw [hb, if_neg (by simp), ← (thr_alike es _ he).1]
  cases (thr es ys (hints.take (headN hints))).2 with
  | zero =>
    cases l with
    | nil => rfl
    | cons p r =>
      simp only [grpOf]
      exact (groups_alike es p (thr_alike es (hints.take (headN hints)) he).2 _ _ _ _ (Nat.le_refl _)).symm
  | succ n => cases n <;> rfl

set_option maxHeartbeats 16000000 in
theorem follows_ok {b : Nat} {h0 h : Heap} {o : Nat} {es : List (Int × List Int)} {last : Int} {ov : Bool} {l hints : List Int} {lv hv : V} (hc : ChkP b h o es last ov []) (hr : Rise es last) (hf : ∀ e ∈ es, Fine e.2 ∧ e.2.length ≤ 1000000) (x0 : Ext h0 h) (hb : h0.next ≤ b) (hlv : SlO .i32 h o lv l) (hfl : Fine l) (hh : Sw h0 hv (hints.map (.int .i64))) (hz : HFine hints) (hll : l.length ≤ 100000) (hhl : hints.length ≤ 100000) :
    EvCall xprog H0 34 [.ptr o 0 0, lv, hv] h fun v h' => v = .int .i64 (follows es l hints) ∧ ChkP b h' o es last ov [] ∧ Chg o h h' := by
  refine s_call (fn := xf34) rfl (free _ rfl ..) ?_
  have hlt := hc.lt.1
  have h3 := Cell.new hc (.ptr o 0 0)
  have e3 := Ext.new h [.ptr o 0 0] 1 false
  have c3 : Chg o h _ := Chg.ext e3 hlt
  have k3 := hc.ext e3
  have hlv3 := hlv.chg c3
  generalize hb3 : h.next = b3 at *
  generalize hH : newCells h [.ptr o 0 0] 1 false = H at *
  have hn := Normal2_ok hlv3.1 hfl.ok (by omega)
  rw [bothN_nrm fun x hx => (hfl x hx).1] at hn
  have hlt3 := k3.lt.1
  simp -implicitDefEqProofs only [xf34, argsFrom_cons, argsFrom_nil]
  refine s_cut3 (fun t d g => slotOf t 1 = lv ∧ slotOf t 2 = hv ∧ slotOf t 3 = .ptr b3 0 0 ∧ d = [] ∧ Ext H g ∧ both l = false ∧ ∃ w, slotOf t 7 = w ∧ Sl g w ((nrm l).map (.int .i32)) ∧ ((nrm l).map (V.int .i32) ≠ [] → ∀ x, rowObj w = some x → H.next ≤ x)) ?_ ?_
  · repeat' ((first | refine s_line rfl ?_ | refine s_end rfl ?_ | refine s_seq ?_ | refine s_region ?_ | refine s_block ?_ | refine s_cond ?_ | refine s_ret ?_ | refine s_skip ?_ | refine s_exit ?_ | refine s_if (fun hif => ?_) (fun hif => ?_) | refine condB_dec (fun hif => ?_) (fun hif => ?_) | refine condB_of (fun hif => ?_) (fun hif => ?_) | (refine s_lelt ?_ ?_; omega) | (refine s_lt ?_ ?_; omega) | (refine s_le ?_ ?_; omega) | ((refine evApply_call hn ?_; rintro _ g ⟨⟨w, rfl, s1, s2⟩, x1⟩))) <;>
      (try simp -implicitDefEqProofs (disch := first | assumption | omega) only [sx, sb, sd, se, xwpStep, xwpOp, xwpInt, opEv, xres, oneOf, Nat.reduceAdd, Nat.reduceEqDiff, Nat.reduceSub, ↓reduceIte, reduceCtorEq, List.getElem?_cons_zero, List.getElem?_cons_succ, *]))
    · refine ⟨?_, k3.ext x1, c3.trans (Chg.ext x1 hlt3)⟩
      unfold follows
      rw [if_pos (by assumption)]
    · exact s2
  rintro t d g ⟨a1, a2, a3, rfl, xg, hbo, w, a4, s1, s2⟩
  have cg := Chg.ext xg hlt3
  have kc := k3.ext xg
  have kcell := h3.chg cg
  have klv := hlv3.chg cg
  have x0g : Ext h0 g := (x0.trans e3).trans xg
  have kw : SlO .i32 g o w (nrm l) := ⟨s1, fun hne x hx q => by
    have h1 := s2 (by simpa using hne) x hx
    have h2 := k3.lt.2 x ((Mut.ext xg hlt3).1 q)
    omega⟩
  have kG := c3.trans cg
  clear hn hH h3 e3 c3 k3 hlv3 s1 s2 xg cg x0
  have fin : ∀ {t : Tr V} {g' : Heap} {tr' : List Int} {r : Int}, slotOf t 6 = .int .i64 r → ChkP b g' o es last ov tr' → Chg o g g' → r = follows es l hints → tr'.length ≤ 100000000 → xfin xprog H0 [.tmp 6] (fun v h' => v = .int .i64 (follows es l hints) ∧ ChkP b h' o es last ov [] ∧ Chg o h h') .ret t [.call 50 [.ptr b3 0 0]] g' := by
    rintro t g' tr' r e1 e2 e3 e4 e5
    refine xfin_defer (EvDCall.mono (fback_ok e2 (kcell.chg e3) e5) ?_)
    rintro h' ⟨q1, q2⟩
    simp only [xres, e1, oneOf]
    exact ⟨by rw [e4], q1, kG.trans (e3.trans q2)⟩
  have sl := kw.1.len
  have sr := kw.1.row
  simp only [List.length_map] at sl
  have hnl := lenNrm l
  repeat' ((first | refine s_line rfl ?_ | refine s_end rfl ?_ | refine s_seq ?_ | refine s_region ?_ | refine s_block ?_ | refine s_cond ?_ | refine s_ret ?_ | refine s_skip ?_ | refine s_exit ?_ | refine s_if (fun hif => ?_) (fun hif => ?_) | refine condB_dec (fun hif => ?_) (fun hif => ?_) | refine condB_of (fun hif => ?_) (fun hif => ?_) | (refine s_lelt ?_ ?_; omega) | (refine s_lt ?_ ?_; omega) | (refine s_le ?_ ?_; omega)) <;>
    (try simp -implicitDefEqProofs (disch := first | assumption | omega) only [sx, sb, sd, se, xwpStep, xwpOp, xwpInt, opEv, xres, oneOf, Nat.reduceAdd, Nat.reduceEqDiff, Nat.reduceSub, ↓reduceIte, reduceCtorEq, *]))
  refine s_while (fun n t d g' => ∃ (i : Nat), i + n = (nrm l).length ∧ slotOf t 22 = .int .i64 i ∧ slotOf t 21 = .int .i64 (nrm l).length ∧ slotOf t 20 = w ∧ slotOf t 1 = lv ∧ slotOf t 2 = hv ∧ slotOf t 3 = .ptr b3 0 0 ∧ d = [.call 50 [.ptr b3 0 0]] ∧ ChkP b g' o es last ov (((nrm l).take i).map fun x => -x) ∧ Chg o g g') (fun _ _ _ => free_code ..) (nrm l).length ⟨0, by omega, by simp [slotOf_set], by simp [slotOf_set], by simp [slotOf_set], by simp [slotOf_set, a1], by simp [slotOf_set, a2], by simp [slotOf_set, a3], rfl, by simpa using kc, Chg.refl _ _⟩ ?_
  clear a1 a2 a3 a4 t
  rintro n t d g' ⟨i, b1, b2, b3', b4, a1, a2, a3, rfl, kt, ct⟩
  have rb := readCell (off := 0) (kcell.chg ct).get rfl
  refine s_cut2 (fun t d g1 => slotOf t 22 = .int .i64 i ∧ slotOf t 21 = .int .i64 (nrm l).length ∧ slotOf t 20 = w ∧ slotOf t 1 = lv ∧ slotOf t 2 = hv ∧ slotOf t 3 = .ptr b3 0 0 ∧ d = [.call 50 [.ptr b3 0 0]] ∧ g1 = g' ∧ i < (nrm l).length) ?_ ?_
  · have hE : Kept (i = (nrm l).length → follows es l hints = match (thr es (((nrm l).take i).map fun x => -x) (hints.take (headN hints))).2 with
        | 0 => grpOf es l (thr es (((nrm l).take i).map fun x => -x) (hints.take (headN hints))).1 (hints.drop (headN hints))
        | 1 => 0
        | _ => 60) := fun hie => by
      subst hie
      rw [List.take_length]
      exact follows_of hbo fun z => by simp only [List.mem_map, nrm_alike l _]
    have x0t := ext_chg kc x0g hb ct
    have hhd := headX_ok hh x0t (by omega) fun x hx => (hz x hx).1
    have hth : ∀ {av : V}, Sw h0 av ((hints.take (headN hints)).map (.int .i64)) → EvCall xprog H0 54 [.ptr o 0 0, av] g' fun v h' => v = .int .i64 ((thr es (((nrm l).take i).map fun x => -x) (hints.take (headN hints))).2 : Nat) ∧ ChkP b h' o es last ov (thr es (((nrm l).take i).map fun x => -x) (hints.take (headN hints))).1 ∧ Chg o g' h' := fun q => through_ok kt hf (slo_of kt x0t hb q.sl) (by simp; omega)
    have hle := thr_le es (hints.take (headN hints)) (((nrm l).take i).map fun x => -x)
    have hlen := thr_len es (hints.take (headN hints)) (((nrm l).take i).map fun x => -x)
    simp only [List.length_map, List.length_take] at hlen
    generalize thr es (((nrm l).take i).map fun x => -x) (hints.take (headN hints)) = r at *
    have hgr : ∀ {g2 : Heap} {bv : V}, ChkP b g2 o es last ov r.1 → Ext h0 g2 → Sw h0 bv ((hints.drop (headN hints)).map (.int .i64)) → 0 < l.length → EvCall xprog H0 55 [.ptr o 0 0, .int .i32 (l.getD 0 0), bv] g2 fun v h' => v = .int .i64 (grpOf es l r.1 (hints.drop (headN hints))) ∧ ChkP b h' o es last ov r.1 ∧ Chg o g2 h' := fun q1 q2 q3 q4 => by
      cases l with
      | nil => simp at q4
      | cons p rest =>
        have hp := hfl p List.mem_cons_self
        exact groups_ok q1 hr hf q2 hb q3 (fun z hm => hz z (List.mem_of_mem_drop hm)) (HFine.drop hz) hp.2 (by simp; omega)
    have hl1 := klv.1.len
    have hl2 := klv.1.row
    simp only [List.length_map] at hl1
    have rl : ∀ {g2 : Heap}, Chg o g g2 → 0 < l.length → readCells g2 (objS lv) (genS lv) (offS lv) 1 = some [.int .i32 (l.getD 0 0)] := fun c q => by
      have := (klv.chg c).1.at (i := 0) (x := .int .i32 (l.getD 0 0)) (by cases l with | nil => simp at q | cons a r => rfl)
      rwa [Nat.add_zero] at this
    repeat' ((first | refine s_line rfl ?_ | refine s_end rfl ?_ | refine s_seq ?_ | refine s_region ?_ | refine s_block ?_ | refine s_cond ?_ | refine s_ret ?_ | refine s_skip ?_ | refine s_exit ?_ | refine s_if (fun hif => ?_) (fun hif => ?_) | refine condB_dec (fun hif => ?_) (fun hif => ?_) | refine condB_of (fun hif => ?_) (fun hif => ?_) | (refine s_lelt ?_ ?_; omega) | (refine s_lt ?_ ?_; omega) | (refine s_le ?_ ?_; omega) | ((refine evApply_call hhd ?_; rintro _ g' ⟨⟨av, bv, rfl, q2, q3⟩, rfl⟩)) | ((refine evApply_call (hth q2) ?_; rintro _ g2 ⟨rfl, m1, m2⟩; have rb2 := readCell (off := 0) (kcell.chg (ct.trans m2)).get rfl; have x02 := ext_chg kt x0t hb m2; have ct2 := ct.trans m2; have rl2 := rl ct2)) | ((refine evApply_call (hgr m1 x02 q3 (by omega)) ?_; rintro _ g3 ⟨rfl, m3, m4⟩))) <;>
      (try simp -implicitDefEqProofs (disch := first | assumption | omega) only [sx, sb, sd, se, xwpStep, xwpOp, xwpInt, opEv, xres, oneOf, Nat.reduceAdd, Nat.reduceEqDiff, Nat.reduceSub, ↓reduceIte, reduceCtorEq, List.getElem?_cons_zero, List.getElem?_cons_succ, Int.toNat_zero, Nat.add_zero, *]))
    · omega
    all_goals have hE := hE (by omega)
    · exact fin (tr' := r.1) (r := 0) (by simp [slotOf_set]) m1 ct2 (by rw [hE, show r.2 = 1 by omega]; rfl) (by omega)
    · exact fin (tr' := r.1) (r := 60) (by simp [slotOf_set]) m1 ct2 (by rw [hE, show r.2 = 2 by omega]; rfl) (by omega)
    · refine fin (tr' := r.1) (r := 61) (by simp [slotOf_set]) m1 ct2 ?_ (by omega)
      rw [hE, show r.2 = 0 by omega]
      have : l = [] := List.eq_nil_of_length_eq_zero (by omega)
      subst this
      rfl
    · exact fin (tr' := r.1) (r := grpOf es l r.1 (hints.drop (headN hints))) (by simp [slotOf_set]) m3 (ct2.trans m4) (by rw [hE, show r.2 = 0 by omega]; rfl) (by omega)
  clear b2 b3' b4 a1 a2 a3 t
  rintro t d g' ⟨b2, b3', b4, a1, a2, a3, rfl, rfl, hi⟩
  have rx : readCells g' (objS w) (genS w) (offS w + i) 1 = some [.int .i32 ((nrm l)[i])] := (kw.chg ct).1.at (by simp [hi])
  have et := take_at hi
  have hxl : (nrm l)[i] ∈ l := nrm_mem (List.getElem_mem hi)
  have hfx := hfl _ hxl
  have wn := wneg hfx.2.1 hfx.2.2
  have hset : EvCall xprog H0 52 [.ptr o 0 0, .int .i32 (-(nrm l)[i])] g' fun v h' => ChkP b h' o es last ov (((nrm l).take i).map (fun x => -x) ++ [-(nrm l)[i]]) ∧ Chg o g' h' := by
    refine set_ok kt (by omega) (by omega) (fun q => ?_) (fun q => ?_) (by simp; omega)
    · obtain ⟨y, hy, e⟩ := List.mem_map.1 q
      have hyx : y = (nrm l)[i] := by omega
      obtain ⟨j, hj, e2⟩ := List.getElem_of_mem hy
      rw [List.length_take] at hj
      rw [List.getElem_take, hyx] at e2
      have := (List.getElem_inj (nrm_nodup l)).1 e2
      omega
    · obtain ⟨y, hy, e⟩ := List.mem_map.1 q
      have hyl : y ∈ l := nrm_mem (List.mem_of_mem_take hy)
      have : both l = true := List.any_eq_true.2 ⟨y, hyl, decide_eq_true (by rw [show -y = (nrm l)[i] by omega]; exact hxl)⟩
      rw [hbo] at this
      cases this
  rw [show ((nrm l).take i).map (fun x => -x) ++ [-(nrm l)[i]] = ((nrm l).take (i + 1)).map fun x => -x by rw [et, List.map_append]; rfl] at hset
  generalize (nrm l)[i] = x at *
  repeat' ((first | refine s_line rfl ?_ | refine s_end rfl ?_ | refine s_seq ?_ | refine s_region ?_ | refine s_block ?_ | refine s_cond ?_ | refine s_ret ?_ | refine s_skip ?_ | refine s_exit ?_ | refine s_if (fun hif => ?_) (fun hif => ?_) | refine condB_dec (fun hif => ?_) (fun hif => ?_) | refine condB_of (fun hif => ?_) (fun hif => ?_) | (refine s_lelt ?_ ?_; omega) | (refine s_lt ?_ ?_; omega) | (refine s_le ?_ ?_; omega) | ((refine evApply_call hset ?_; rintro _ g2 ⟨m1, m2⟩))) <;>
    (try simp -implicitDefEqProofs (disch := first | assumption | omega) only [sx, sb, sd, se, xwpStep, xwpOp, xwpInt, opEv, xres, oneOf, Nat.reduceAdd, Nat.reduceEqDiff, Nat.reduceSub, ↓reduceIte, reduceCtorEq, wrap_i64, Nat.zero_add, Int.toNat_natCast, *]))
  exact ⟨n - 1, by omega, i + 1, by omega, by simp, m1, ct.trans m2⟩
end Go.Proofs.Ytmkbnbpblhoekaa
