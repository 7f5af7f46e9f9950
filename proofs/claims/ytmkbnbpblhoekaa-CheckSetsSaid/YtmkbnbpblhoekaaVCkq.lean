/- The program's checker: a group. -/
import Derived.Test.YtmkbnbpblhoekaaVCkp
set_option linter.unusedSimpArgs false
set_option linter.unusedVariables false
set_option linter.unusedSectionVars false
namespace Go.Proofs.Ytmkbnbpblhoekaa
open Go.Xr Go.Chk

/-- What is set for a group: as a set. -/
theorem Eqs.more {a b c d : List Int} (h : Eqs a (b ++ c)) (h' : ∀ x, x ∈ d ↔ x ∈ c) : Eqs a (b ++ d) := h.trans (Eqs.append (Eqs.refl b) fun x => (h' x).symm)
def negsOf (l : List Int) (p : Int) : List Int := (l.filter fun x => decide (x ≠ -p)).map fun x => -x
theorem mem_negs {l : List Int} {p z : Int} : z ∈ negsOf l p ↔ -z ∈ l ∧ -z ≠ -p := by
  unfold negsOf
  rw [List.mem_map]
  constructor
  · rintro ⟨x, h1, rfl⟩
    rw [List.mem_filter] at h1
    rw [Int.neg_neg]
    exact ⟨h1.1, of_decide_eq_true h1.2⟩
  · rintro ⟨h1, h2⟩
    exact ⟨-z, List.mem_filter.2 ⟨h1, decide_eq_true h2⟩, Int.neg_neg z⟩

theorem negs_snoc {tk : List Int} {p x z : Int} : z ∈ negsOf (tk ++ [x]) p ↔ z ∈ negsOf tk p ∨ (x ≠ -p ∧ z = -x) := by
  rw [mem_negs, mem_negs, List.mem_append, List.mem_singleton]
  constructor
  · rintro ⟨h1 | h1, h2⟩
    · exact .inl ⟨h1, h2⟩
    · exact .inr ⟨by omega, by omega⟩
  · rintro (⟨h1, h2⟩ | ⟨h1, rfl⟩)
    · exact ⟨.inl h1, h2⟩
    · exact ⟨.inr (Int.neg_neg x), by rw [Int.neg_neg]; exact h1⟩
theorem negs_skip {tr a tk : List Int} {p x : Int} (h : Eqs a (tr ++ negsOf tk p)) (hx : x = -p ∨ -x ∈ a) : Eqs a (tr ++ negsOf (tk ++ [x]) p) := fun z => by
  rw [List.mem_append, negs_snoc, h z, List.mem_append]
  constructor
  · rintro (q | q)
    · exact .inl q
    · exact .inr (.inl q)
  · rintro (q | q | ⟨q1, q2⟩)
    · exact .inl q
    · exact .inr q
    · rcases hx with hx | hx
      · exact absurd hx q1
      · subst q2
        exact List.mem_append.1 ((h _).1 hx)
theorem negs_add {tr w tk : List Int} {p x : Int} (h : Eqs (tr ++ w) (tr ++ negsOf tk p)) (hx : x ≠ -p) : Eqs (tr ++ (w ++ [-x])) (tr ++ negsOf (tk ++ [x]) p) := fun z => by
  have := h z
  rw [List.mem_append, List.mem_append] at this
  rw [List.mem_append, List.mem_append, List.mem_append, negs_snoc, List.mem_singleton, ← or_assoc, this, ← or_assoc]
  simp [hx]

set_option maxHeartbeats 16000000 in
theorem group_ok {b : Nat} {h : Heap} {o ho : Nat} {es : List (Int × List Int)} {last : Int} {ov : Bool} {tr hints l : List Int} {hv lv sv : V} {p : Int} (hc : ChkP b h o es last ov tr) (hf : ∀ e ∈ es, Fine e.2 ∧ e.2.length ≤ 1000000) (hh : SlO .i64 h o hv hints) (hl : HeldAt h o ho lv sv l) (hfl : Fine l) (hll : l.length ≤ 1000000) (hp : -1048576 ≤ p ∧ p ≤ 1048576) (htl : tr.length + hints.length ≤ 1000000) :
    EvCall xprog H0 75 [.ptr o 0 0, .ptr ho 0 0, .int .i32 p, hv] h fun v h' => v = .int .i64 (groupOf es l p tr hints) ∧ ChkP b h' o es last ov tr ∧ Chg o h h' := by
  refine s_call (fn := xf75) rfl (free _ rfl ..) ?_
  -- the two cells of its own
  have hlt := hc.lt.1
  have h4 := Cell.new hc (.ptr o 0 0)
  have e4 := Ext.new h [.ptr o 0 0] 1 false
  have c4 : Chg o h _ := Chg.ext e4 hlt
  have hc4 := hc.ext e4
  have hl4 := hl.chg c4
  have hh4 := hh.chg c4
  generalize hb4 : h.next = b4 at *
  generalize hH4 : newCells h [.ptr o 0 0] 1 false = H4 at *
  have hlt4 := hc4.lt.1
  have h9 := Cell.new hc4 (.int .i64 0)
  have e9 := Ext.new H4 [.int .i64 0] 1 false
  have c9 : Chg o H4 _ := Chg.ext e9 hlt4
  have hc9 := hc4.ext e9
  have h49 := h4.chg c9
  have hne : b4 ≠ H4.next := by have := h4.lt; omega
  have hc4p := hc4
  obtain ⟨vs, mo, ces, ins, vv, tv, hm, hg⟩ := hc4
  obtain ⟨_, r5, _, _, q3, q4⟩ := hm.reads
  have r4 := readCell (off := 0) h4.get rfl
  have wp : IntKind.i32.wrap (-p) = -p := wneg hp.1 hp.2
  have hnl := lenNrm l
  have hwr := writeCell (off := 0) (v := .int .i64 (tr.length : Nat)) h9.get (by simp) rfl
  generalize hH9 : newCells H4 [.int .i64 0] 1 false = H9 at *
  simp -implicitDefEqProofs only [xf75, argsFrom_cons, argsFrom_nil]
  refine s_cut3 (fun t d g => slotOf t 1 = .ptr ho 0 0 ∧ slotOf t 2 = .int .i32 p ∧ slotOf t 3 = hv ∧ slotOf t 4 = .ptr b4 0 0 ∧ d = [.call 86 [.ptr b4 0 0, .ptr H4.next 0 0]] ∧ g = H9.put H4.next (arr ([.int .i64 0].set 0 (.int .i64 (tr.length : Nat))) 1 false)) ?_ ?_
  · repeat' ((first | refine s_line rfl ?_ | refine s_end rfl ?_ | refine s_seq ?_ | refine s_region ?_ | refine s_block ?_ | refine s_cond ?_ | refine s_ret ?_ | refine s_skip ?_ | refine s_exit ?_ | refine s_if (fun hif => ?_) (fun hif => ?_) | refine condB_dec (fun hif => ?_) (fun hif => ?_) | refine condB_of (fun hif => ?_) (fun hif => ?_) | (refine s_lelt ?_ ?_; omega) | (refine s_lt ?_ ?_; omega) | (refine s_le ?_ ?_; omega)) <;>
      (try simp -implicitDefEqProofs (disch := first | assumption | omega) only [sx, sb, sd, se, xwpStep, xwpOp, xwpInt, opEv, xres, oneOf, Nat.reduceAdd, Nat.reduceEqDiff, Nat.reduceSub, ↓reduceIte, reduceCtorEq, List.length_cons, List.length_nil, *]))
  have eG := e9.put (o := H4.next) (arr ([.int .i64 0].set 0 (.int .i64 (tr.length : Nat))) 1 false) (Nat.le_refl _)
  have gG : (H9.put H4.next (arr ([.int .i64 0].set 0 (.int .i64 (tr.length : Nat))) 1 false)).get H4.next = some (arr [.int .i64 (tr.length : Nat)] 1 false) := by rw [Heap.get_put, if_pos rfl]; rfl
  have lG : H4.next < (H9.put H4.next (arr ([.int .i64 0].set 0 (.int .i64 (tr.length : Nat))) 1 false)).next := by rw [← hH9]; exact Nat.lt_succ_self _
  generalize H9.put H4.next (arr ([.int .i64 0].set 0 (.int .i64 (tr.length : Nat))) 1 false) = G at *
  have cG := Chg.ext eG hlt4
  have kc := hc4p.ext eG
  have kl := hl4.chg cG
  have kh := hh4.chg cG
  have k4 := h4.chg cG
  have k9 : Cell G o H4.next (.int .i64 (tr.length : Nat)) := ⟨gG, lG, fun q => by have := hc4p.lt.2 H4.next ((Mut.ext eG hlt4).1 q); omega⟩
  have kG := c4.trans cG
  generalize H4.next = b9 at *
  clear hm hg r5 q3 q4 r4 hwr hH9 hH4 gG lG eG cG h49 hc9 c9 e9 h9 hlt4 hh4 hl4 h4 e4 c4 hc4p hne
  have fin : ∀ {t : Tr V} {g : Heap} {w : List Int} {r : Int}, slotOf t 8 = .int .i64 r → ChkP b g o es last ov (tr ++ w) → Chg o G g → r = groupOf es l p tr hints → tr.length + w.length ≤ 100000000 → xfin xprog H0 [.tmp 8] (fun v h' => v = .int .i64 (groupOf es l p tr hints) ∧ ChkP b h' o es last ov tr ∧ Chg o h h') .ret t [.call 86 [.ptr b4 0 0, .ptr b9 0 0]] g := by
    rintro t g w r e1 e2 e3 e4 e5
    refine xfin_defer (EvDCall.mono (gback_ok e2 (k4.chg e3) (k9.chg e3) (by simp) (by simp; omega)) ?_)
    rintro h' ⟨q1, q2⟩
    rw [List.take_left] at q1
    simp only [xres, e1, oneOf]
    exact ⟨by rw [e4], q1, kG.trans (e3.trans q2)⟩
  rintro t d g ⟨a1, a2, a3, a4, rfl, rfl⟩
  have r1 := readCell (off := 1) kl.get rfl
  have r2 := readCell (off := 2) kl.get rfl
  have sl := kl.set.1.len
  have sr := kl.set.1.row
  simp only [List.length_map] at sl
  have rb := readCell (off := 0) k4.get rfl
  have hmn : ∀ x, x ∈ nrm l ↔ x ∈ l := nrm_alike l
  have hcon : ∀ z, EvCall xprog H0 74 [sv, .int .i32 z] g fun v h' => v = .bool (decide (z ∈ l)) ∧ h' = g := fun z => (Contains_ok kl.set.1 (by omega) z).mono fun v h' q => by rw [q.1, q.2]; exact ⟨by simp only [hmn], rfl⟩
  repeat' ((first | refine s_line rfl ?_ | refine s_end rfl ?_ | refine s_seq ?_ | refine s_region ?_ | refine s_block ?_ | refine s_cond ?_ | refine s_ret ?_ | refine s_skip ?_ | refine s_exit ?_ | refine s_if (fun hif => ?_) (fun hif => ?_) | refine condB_dec (fun hif => ?_) (fun hif => ?_) | refine condB_of (fun hif => ?_) (fun hif => ?_) | (refine s_lelt ?_ ?_; omega) | (refine s_lt ?_ ?_; omega) | (refine s_le ?_ ?_; omega)) <;>
    (try simp -implicitDefEqProofs (disch := first | assumption | omega) only [sx, sb, sd, se, xwpStep, xwpOp, xwpInt, opEv, xres, oneOf, Nat.reduceAdd, Nat.reduceEqDiff, Nat.reduceSub, ↓reduceIte, reduceCtorEq, *]))
  have hns : (nrm l).length ≤ 1000000 := by omega
  refine s_while (fun n t d g' => ∃ (i : Nat), i + n = (nrm l).length ∧ slotOf t 25 = .int .i64 i ∧ slotOf t 24 = .int .i64 (nrm l).length ∧ slotOf t 23 = sv ∧ slotOf t 1 = .ptr ho 0 0 ∧ slotOf t 2 = .int .i32 p ∧ slotOf t 3 = hv ∧ slotOf t 4 = .ptr b4 0 0 ∧ d = [.call 86 [.ptr b4 0 0, .ptr b9 0 0]] ∧ g' = g ∧ ∀ x ∈ (nrm l).take i, ¬ (x ≠ -p ∧ (x ∈ tr ∨ -x ∈ l))) (fun _ _ _ => free_code ..) (nrm l).length ⟨0, by omega, by simp [slotOf_set], by simp [slotOf_set], by simp [slotOf_set], by simp [slotOf_set, a1], by simp [slotOf_set, a2], by simp [slotOf_set, a3], by simp [slotOf_set, a4], rfl, rfl, by simp⟩ ?_
  clear a1 a2 a3 a4 t
  rintro n t d g ⟨i, b1, b2, b3, b4', a1, a2, a3, a4, rfl, rfl, b5⟩
  refine s_cut2 (fun t d g' => slotOf t 25 = .int .i64 i ∧ slotOf t 24 = .int .i64 (nrm l).length ∧ slotOf t 23 = sv ∧ slotOf t 1 = .ptr ho 0 0 ∧ slotOf t 2 = .int .i32 p ∧ slotOf t 3 = hv ∧ slotOf t 4 = .ptr b4 0 0 ∧ d = [.call 86 [.ptr b4 0 0, .ptr b9 0 0]] ∧ g' = g ∧ i < (nrm l).length) ?_ ?_
  · repeat' ((first | refine s_line rfl ?_ | refine s_end rfl ?_ | refine s_seq ?_ | refine s_region ?_ | refine s_block ?_ | refine s_cond ?_ | refine s_ret ?_ | refine s_skip ?_ | refine s_exit ?_ | refine s_if (fun hif => ?_) (fun hif => ?_) | refine condB_dec (fun hif => ?_) (fun hif => ?_) | refine condB_of (fun hif => ?_) (fun hif => ?_) | (refine s_lelt ?_ ?_; omega) | (refine s_lt ?_ ?_; omega) | (refine s_le ?_ ?_; omega)) <;>
      (try simp -implicitDefEqProofs (disch := first | assumption | omega) only [sx, sb, sd, se, xwpStep, xwpOp, xwpInt, opEv, xres, oneOf, Nat.reduceAdd, Nat.reduceEqDiff, Nat.reduceSub, ↓reduceIte, reduceCtorEq, *]))
    · omega
    have hie : i = (nrm l).length := by omega
    subst hie
    rw [List.take_length] at b5
    have hall : ∀ x ∈ l, ¬ (x ≠ -p ∧ (x ∈ tr ∨ -x ∈ l)) := fun x hx => b5 x ((hmn x).2 hx)
    clear hcon b5 rb b1
    refine s_while (fun m t d g' => ∃ (i : Nat) (w : List Int), i + m = (nrm l).length ∧ slotOf t 60 = .int .i64 i ∧ slotOf t 59 = .int .i64 (nrm l).length ∧ slotOf t 58 = sv ∧ slotOf t 2 = .int .i32 p ∧ slotOf t 3 = hv ∧ slotOf t 4 = .ptr b4 0 0 ∧ d = [.call 86 [.ptr b4 0 0, .ptr b9 0 0]] ∧ ChkP b g' o es last ov (tr ++ w) ∧ Chg o g g' ∧ Eqs (tr ++ w) (tr ++ negsOf ((nrm l).take i) p) ∧ w.length ≤ i) (fun _ _ _ => free_code ..) (nrm l).length ⟨0, [], by omega, by simp [slotOf_set], by simp [slotOf_set], by simp [slotOf_set], by simp [slotOf_set, a2], by simp [slotOf_set, a3], by simp [slotOf_set, a4], rfl, by simpa using kc, Chg.refl _ _, by simpa [negsOf] using Eqs.refl tr, Nat.le_refl _⟩ ?_
    clear b2 b3 b4' a1 a2 a3 a4 t r1 r2
    rintro n t d g' ⟨i, w, b1, b2, b3, b4', a2, a3, a4, rfl, kw, cw, ew, lw⟩
    have rb := readCell (off := 0) (k4.chg cw).get rfl
    refine s_cut2 (fun t d g1 => slotOf t 60 = .int .i64 i ∧ slotOf t 59 = .int .i64 (nrm l).length ∧ slotOf t 58 = sv ∧ slotOf t 2 = .int .i32 p ∧ slotOf t 3 = hv ∧ slotOf t 4 = .ptr b4 0 0 ∧ d = [.call 86 [.ptr b4 0 0, .ptr b9 0 0]] ∧ g1 = g' ∧ i < (nrm l).length) ?_ ?_
    · have hth := through_ok kw hf (kh.chg cw) (by simp; omega)
      have hcode : Kept (i = (nrm l).length → groupOf es l p tr hints = match (thr es (tr ++ w) hints).2 with | 0 => 61 | 1 => 0 | _ => 60) := fun hie => by
        subst hie
        rw [List.take_length] at ew
        have he : Eqs (tr ++ w) (tr ++ negsOf l p) := Eqs.more ew fun z => by rw [mem_negs, mem_negs, hmn]
        rw [group_thr hall, (thr_alike es hints he).1]
        rfl
      have hle := thr_le es hints (tr ++ w)
      have hlen := thr_len es hints (tr ++ w)
      obtain ⟨w2, hw2⟩ := thr_more es hints (tr ++ w)
      rw [hw2, List.append_assoc] at hth
      rw [hw2] at hlen
      simp only [List.length_append] at hlen
      generalize (thr es (tr ++ w) hints).2 = code at *
      clear hw2
      repeat' ((first | refine s_line rfl ?_ | refine s_end rfl ?_ | refine s_seq ?_ | refine s_region ?_ | refine s_block ?_ | refine s_cond ?_ | refine s_ret ?_ | refine s_skip ?_ | refine s_exit ?_ | refine s_if (fun hif => ?_) (fun hif => ?_) | refine condB_dec (fun hif => ?_) (fun hif => ?_) | refine condB_of (fun hif => ?_) (fun hif => ?_) | (refine s_lelt ?_ ?_; omega) | (refine s_lt ?_ ?_; omega) | (refine s_le ?_ ?_; omega) | ((refine evApply_call hth ?_; rintro _ g3 ⟨rfl, m1, m2⟩))) <;>
        (try simp -implicitDefEqProofs (disch := first | assumption | omega) only [sx, sb, sd, se, xwpStep, xwpOp, xwpInt, opEv, xres, oneOf, Nat.reduceAdd, Nat.reduceEqDiff, Nat.reduceSub, ↓reduceIte, reduceCtorEq, *]))
      · omega
      all_goals
        have hcode := hcode (by omega)
      · refine fin (w := w ++ w2) (r := 60) (by simp [slotOf_set]) m1 (cw.trans m2) ?_ (by simp; omega)
        rw [hcode, show code = 2 by omega]
        rfl
      · refine fin (w := w ++ w2) (r := 61) (by simp [slotOf_set]) m1 (cw.trans m2) ?_ (by simp; omega)
        rw [hcode, show code = 0 by omega]
        rfl
      · refine fin (w := w ++ w2) (r := 0) (by simp [slotOf_set]) m1 (cw.trans m2) ?_ (by simp; omega)
        rw [hcode, show code = 1 by omega]
        rfl
    clear b2 b3 b4' a2 a3 a4 t
    rintro t d g' ⟨b2, b3, b4', a2, a3, a4, rfl, rfl, hi⟩
    have rx : readCells g' (objS sv) (genS sv) (offS sv + i) 1 = some [.int .i32 ((nrm l)[i])] := (kl.set.chg cw).1.at (by simp [hi])
    have et := take_at hi
    have hxl : (nrm l)[i] ∈ l := (hmn _).1 (List.getElem_mem hi)
    have hfx := hfl _ hxl
    have wn := wneg hfx.2.1 hfx.2.2
    have hof := of_ok kw (l := (nrm l)[i]) hfx.2
    have hsub : ∀ z ∈ (nrm l).take i, z ∈ l := fun z hz => (hmn z).1 (List.mem_of_mem_take hz)
    obtain ⟨x, hx⟩ : ∃ x, x = (nrm l)[i] := ⟨_, rfl⟩
    rw [← hx] at rx et hxl hfx wn hof
    have hxn : x ≠ -p → x ∉ tr ++ w := fun hne hm => by
      rcases List.mem_append.1 ((ew x).1 hm) with q | q
      · exact hall x hxl ⟨hne, .inl q⟩
      · exact hall x hxl ⟨hne, .inr (hsub _ (mem_negs.1 q).1)⟩
    have hl0 : ¬ x = -p → (litVal (tr ++ w) x = 0 ↔ -x ∉ tr ++ w) := fun hne => by
      rcases litVal_cases (tr ++ w) x with ⟨q1, q2⟩ | ⟨q1, q3, q2⟩ | ⟨q1, q3, q2⟩
      · exact absurd q1 (hxn hne)
      · rw [q2]; simp only [q3, not_true_eq_false, iff_false]; decide
      · rw [q2]; simp only [q3, not_false_eq_true, iff_true]
    have hset : x ≠ -p → -x ∉ tr ++ w → EvCall xprog H0 52 [.ptr o 0 0, .int .i32 (-x)] g' fun v h' => ChkP b h' o es last ov (tr ++ w ++ [-x]) ∧ Chg o g' h' := fun h1 h2 => set_ok kw (by omega) (by omega) h2 (by rw [Int.neg_neg]; exact hxn h1) (by simp; omega)
    clear hx hmn hxn hsub
    generalize hyy : tr ++ w = yy at *
    repeat' ((first | refine s_line rfl ?_ | refine s_end rfl ?_ | refine s_seq ?_ | refine s_region ?_ | refine s_block ?_ | refine s_cond ?_ | refine s_ret ?_ | refine s_skip ?_ | refine s_exit ?_ | refine s_if (fun hif => ?_) (fun hif => ?_) | refine condB_dec (fun hif => ?_) (fun hif => ?_) | refine condB_of (fun hif => ?_) (fun hif => ?_) | (refine s_lelt ?_ ?_; omega) | (refine s_lt ?_ ?_; omega) | (refine s_le ?_ ?_; omega) | (refine (evCall_iff hof).2 ?_) | ((refine evApply_call (hset (by assumption) (by assumption)) ?_; rintro _ g2 ⟨m1, m2⟩))) <;>
      (try simp -implicitDefEqProofs (disch := first | assumption | omega) only [sx, sb, sd, se, xwpStep, xwpOp, xwpInt, opEv, xres, oneOf, Nat.reduceAdd, Nat.reduceEqDiff, Nat.reduceSub, ↓reduceIte, reduceCtorEq, wrap_i64, Nat.zero_add, Int.toNat_natCast, *]))
    all_goals subst hyy
    · refine ⟨n - 1, by omega, i + 1, w, by omega, by simp, kw, ?_, by omega⟩
      rw [et]
      exact negs_skip ew (.inl (by assumption))
    · have hne : x ≠ -p := by assumption
      refine ⟨n - 1, by omega, i + 1, w ++ [-x], by omega, by simp, by rw [← List.append_assoc]; exact m1, cw.trans m2, ?_, by simp; omega⟩
      rw [et]
      exact negs_add ew hne
    · have hin : -x ∈ tr ++ w := Classical.not_not.1 (by assumption)
      refine ⟨n - 1, by omega, i + 1, w, by omega, by simp, kw, ?_, by omega⟩
      rw [et]
      exact negs_skip ew (.inr hin)
  clear b2 b3 b4' a1 a2 a3 a4 t
  rintro t d g ⟨b2, b3, b4', a1, a2, a3, a4, rfl, rfl, hi⟩
  have rx : readCells g (objS sv) (genS sv) (offS sv + i) 1 = some [.int .i32 ((nrm l)[i])] := kl.set.1.at (by simp [hi])
  have et := take_at hi
  have hxl : (nrm l)[i] ∈ l := (hmn _).1 (List.getElem_mem hi)
  have hfx := hfl _ hxl
  have wn := wneg hfx.2.1 hfx.2.2
  have hof := of_ok kc (l := (nrm l)[i]) hfx.2
  have hlv : litVal tr (nrm l)[i] = 1 ↔ (nrm l)[i] ∈ tr := by
    rcases litVal_cases tr (nrm l)[i] with ⟨q1, q2⟩ | ⟨q1, _, q2⟩ | ⟨q1, _, q2⟩ <;> rw [q2] <;> simp [q1]
  obtain ⟨x, hx⟩ : ∃ x, x = (nrm l)[i] := ⟨_, rfl⟩
  rw [← hx] at rx et hxl hfx wn hof hlv
  clear hx hmn
  repeat' ((first | refine s_line rfl ?_ | refine s_end rfl ?_ | refine s_seq ?_ | refine s_region ?_ | refine s_block ?_ | refine s_cond ?_ | refine s_ret ?_ | refine s_skip ?_ | refine s_exit ?_ | refine s_if (fun hif => ?_) (fun hif => ?_) | refine condB_dec (fun hif => ?_) (fun hif => ?_) | refine condB_of (fun hif => ?_) (fun hif => ?_) | (refine s_lelt ?_ ?_; omega) | (refine s_lt ?_ ?_; omega) | (refine s_le ?_ ?_; omega) | (refine (evCall_iff hof).2 ?_) | (refine (evCall_iff (hcon _)).2 ?_)) <;>
    (try simp -implicitDefEqProofs (disch := first | assumption | omega) only [sx, sb, sd, se, xwpStep, xwpOp, xwpInt, opEv, xres, oneOf, Nat.reduceAdd, Nat.reduceEqDiff, Nat.reduceSub, ↓reduceIte, reduceCtorEq, wrap_i64, Nat.zero_add, Int.toNat_natCast, *]))
  · refine ⟨n - 1, by omega, i + 1, by omega, by simp, fun z hz => ?_⟩
    rw [et, List.mem_append, List.mem_singleton] at hz
    rcases hz with hz | rfl
    · exact b5 z hz
    · exact fun q => q.1 hif
  · exact fin (w := []) (r := 0) (by simp [slotOf_set]) (by simpa using kc) (Chg.refl _ _) (group_any hxl (by assumption) (.inl (by assumption))).symm (by simp; omega)
  · exact fin (w := []) (r := 0) (by simp [slotOf_set]) (by simpa using kc) (Chg.refl _ _) (group_any hxl (by assumption) (.inr (by assumption))).symm (by simp; omega)
  · refine ⟨n - 1, by omega, i + 1, by omega, by simp, fun z hz => ?_⟩
    rw [et, List.mem_append, List.mem_singleton] at hz
    rcases hz with hz | rfl
    · exact b5 z hz
    · rintro ⟨_, q | q⟩
      · exact absurd q (by assumption)
      · exact absurd q (by assumption)
  · have hbt : ¬ both l = true := by assumption
    refine ⟨n - 1, by omega, i + 1, by omega, by simp, fun z hz => ?_⟩
    rw [et, List.mem_append, List.mem_singleton] at hz
    rcases hz with hz | rfl
    · exact b5 z hz
    · rintro ⟨_, q | q⟩
      · exact absurd q (by assumption)
      · exact hbt (List.any_eq_true.2 ⟨z, hxl, decide_eq_true q⟩)
end Go.Proofs.Ytmkbnbpblhoekaa
