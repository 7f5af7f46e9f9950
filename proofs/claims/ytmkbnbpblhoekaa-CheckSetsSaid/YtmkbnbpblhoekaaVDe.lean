/- The program's checker: Run. -/
import Derived.Test.YtmkbnbpblhoekaaVDd
set_option linter.unusedSimpArgs false
set_option linter.unusedVariables false
set_option linter.unusedSectionVars false
namespace Go.Proofs.Ytmkbnbpblhoekaa
open Go.Xr Go.Chk

set_option maxHeartbeats 8000000 in
theorem Run_ok {h : Heap} {vars : Int} {cv sv : V} {cs : List (List Int)} {l : List StV} (hc : Cls h cv cs) (hs : Stps h sv l) (hx : ∀ c ∈ cs, ∀ x ∈ c, I32ok x) (hcl : cs.length ≤ 200) (hd : done cs cs.length ≤ 1500) (hl : l.length ≤ 1500) (hll : ∀ s ∈ l, s.s.lits.length ≤ 1500 ∧ s.s.hints.length ≤ 1500) :
    EvCall xprog H0 9 [.agg [.int .i64 vars, cv], sv] h fun v h' => v = tripV (runAll vars cs (l.map StV.s)) ∧ Ext h h' := by
  refine s_call (fn := xf9) rfl (free _ rfl ..) ?_
  generalize hH1 : newCells h [.int .i64 vars, cv] 1 false = H1
  have x1 : Ext h H1 := hH1 ▸ Ext.new ..
  have g1 : H1.get h.next = some (arr [.int .i64 vars, cv] 1 false) := by rw [← hH1]; exact get_new ..
  have rA : readCells H1 h.next 0 0 2 = some [.int .i64 vars, cv] := readCells_arr g1 (by simp)
  have hnew := New_ok (vars := vars) (hc.ext x1) hx (by omega) (by omega)
  have el := hs.len
  have er := hs.sl.row
  by_cases hr : rightOf vars cs = 0
  · have hall : runAll vars cs (l.map StV.s) = runOf mayS (Chk.start cs ⟨[], 0, false⟩ 1) (l.map StV.s) 0 := by
      unfold runAll
      rw [if_neg (by simpa using hr)]
    have hri : Right6 0 (Chk.start cs ⟨[], 0, false⟩ 1) (0 + cs.length) := begun_right cs _ _ 0 ⟨⟨.nil, fun e he => by cases he⟩, (fun e he => by cases he), Nat.le_refl _, Nat.le_refl _⟩ (fun c hm => ⟨right_fine hr c hm, by have := done_mem hm; omega⟩) (by decide) (by decide)
    rw [hall]
    generalize Chk.start cs ⟨[], 0, false⟩ 1 = s0 at *
    clear hall
    have hnew : EvCall xprog H0 13 [.agg [.int .i64 vars, cv]] H1 fun v h' => (∃ o b, v = .tup [.ptr o 0 0, .int .i64 0] ∧ H1.next ≤ b ∧ ChkP b h' o s0.es s0.last s0.over []) ∧ Ext H1 h' := hnew.mono fun v g ⟨q1, q2⟩ => ⟨q1.elim (fun q => absurd hr q.1) fun q => q.2, q2⟩
    simp -implicitDefEqProofs only [xf9, argsFrom_cons, argsFrom_nil]
    repeat' ((first | refine s_line rfl ?_ | refine s_end rfl ?_ | refine s_seq ?_ | refine s_region ?_ | refine s_block ?_ | refine s_cond ?_ | refine s_ret ?_ | refine s_skip ?_ | refine s_exit ?_ | refine s_if (fun hif => ?_) (fun hif => ?_) | refine condB_dec (fun hif => ?_) (fun hif => ?_) | refine condB_of (fun hif => ?_) (fun hif => ?_) | (refine s_lelt ?_ ?_; omega) | (refine s_lt ?_ ?_; omega) | (refine s_le ?_ ?_; omega) | ((refine evApply_call hnew ?_; rintro _ g2 ⟨⟨o, b, rfl, hbb, k1⟩, x2⟩))) <;>
      (try simp -implicitDefEqProofs (disch := first | assumption | omega) only [sx, sb, sd, se, xwpStep, xwpOp, xwpInt, opEv, xres, oneOf, Nat.reduceAdd, Nat.reduceEqDiff, Nat.reduceSub, ↓reduceIte, reduceCtorEq, wrap_i64, Nat.zero_add, Nat.add_zero, List.getElem?_cons_zero, List.getElem?_cons_succ, *]))
    refine s_while (fun n t d g => ∃ (i : Nat) (s : Chs), i + n = l.length ∧ slotOf t 9 = .int .i64 i ∧ slotOf t 7 = .ptr o 0 0 ∧ slotOf t 1 = sv ∧ d = [] ∧ Ext H1 g ∧ ChkP b g o s.es s.last s.over [] ∧ Right6 0 s (200 + i) ∧ runOf mayS s ((l.map StV.s).drop i) i = runOf mayS s0 (l.map StV.s) 0) (fun _ _ _ => free_code ..) l.length ⟨0, s0, by omega, by simp [slotOf_set], by simp [slotOf_set], by simp [slotOf_set], rfl, x2, k1, ⟨hri.rise, hri.fine, by have := hri.len; omega, Nat.le_trans hri.tot (Nat.mul_le_mul_right _ (by omega))⟩, rfl⟩ ?_
    clear k1 x2 hnew rA
    rintro n t d g ⟨i, s, a1, a2, a3, a4, rfl, xg, k1, k2, k4⟩
    obtain ⟨c1, c2, c3⟩ := k1.reads
    cases hov : s.over with
    | true =>
      rw [hov] at c3
      rw [runOf_over hov] at k4
      rw [← k4]
      clear k4
      repeat' ((first | refine s_line rfl ?_ | refine s_end rfl ?_ | refine s_seq ?_ | refine s_region ?_ | refine s_block ?_ | refine s_cond ?_ | refine s_ret ?_ | refine s_skip ?_ | refine s_exit ?_ | refine s_if (fun hif => ?_) (fun hif => ?_) | refine condB_dec (fun hif => ?_) (fun hif => ?_) | refine condB_of (fun hif => ?_) (fun hif => ?_) | (refine s_lelt ?_ ?_; omega) | (refine s_lt ?_ ?_; omega) | (refine s_le ?_ ?_; omega)) <;>
        (try simp -implicitDefEqProofs (disch := first | assumption | omega) only [sx, sb, sd, se, xwpStep, xwpOp, xwpInt, opEv, xres, oneOf, Nat.reduceAdd, Nat.reduceEqDiff, Nat.reduceSub, ↓reduceIte, reduceCtorEq, wrap_i64, Nat.zero_add, Nat.add_zero, Int.toNat_natCast, *]))
      all_goals exact ⟨rfl, x1.trans xg⟩
    | false =>
      rw [hov] at c3
      have rs : ∀ (hi : i < l.length), readCells g (objS sv) (genS sv) (offS sv + i * 4) 4 = some [.int .u8 (l[i]).s.kind, .int .i64 (l[i]).s.id, (l[i]).lv, (l[i]).hv] := fun hi => (hs.ext (x1.trans xg)).elem hi
      have hst : ∀ (hi : i < l.length), EvCall xprog H0 14 [.ptr o 0 0, .agg [.int .u8 (l[i]).s.kind, .int .i64 (l[i]).s.id, (l[i]).lv, (l[i]).hv]] g fun v h' => v = .int .i64 (s.step (mayS (l[i]).s) (l[i]).s.kind (l[i]).s.id (l[i]).s.lits (l[i]).s.hints).1 ∧ ChkP b h' o (s.step (mayS (l[i]).s) (l[i]).s.kind (l[i]).s.id (l[i]).s.lits (l[i]).s.hints).2.es (s.step (mayS (l[i]).s) (l[i]).s.kind (l[i]).s.id (l[i]).s.lits (l[i]).s.hints).2.last (s.step (mayS (l[i]).s) (l[i]).s.kind (l[i]).s.id (l[i]).s.lits (l[i]).s.hints).2.over [] ∧ But (fun x => b ≤ x) g h' := fun hi => by
        have hm := List.getElem_mem hi
        have hq := hll _ hm
        exact (Step_ok (b := b) (h0 := H1) k1 (N := 200 + i) ⟨k2.rise, k2.fine, k2.len, k2.tot⟩ (by omega) xg hbb (slo_of k1 xg hbb ((hs.lits _ hm).sl.ext x1)) ((hs.hints _ hm).ext x1) (by omega) (by omega)) |>.mono fun v g3 ⟨q1, q2, q3⟩ => ⟨q1, q2, chg_but k1 q3⟩
      have hsr : ∀ (hi : i < l.length), Right6 0 (s.step (mayS (l[i]).s) (l[i]).s.kind (l[i]).s.id (l[i]).s.lits (l[i]).s.hints).2 (200 + i + 1) := fun hi => step_right k2 (by have := (hll _ (List.getElem_mem hi)).1; omega)
      refine s_cut1 (fun t d g1 => slotOf t 9 = .int .i64 i ∧ slotOf t 7 = .ptr o 0 0 ∧ slotOf t 1 = sv ∧ d = [] ∧ g1 = g ∧ i < l.length) ?_ ?_
      · repeat' ((first | refine s_line rfl ?_ | refine s_end rfl ?_ | refine s_seq ?_ | refine s_region ?_ | refine s_block ?_ | refine s_cond ?_ | refine s_ret ?_ | refine s_skip ?_ | refine s_exit ?_ | refine s_if (fun hif => ?_) (fun hif => ?_) | refine condB_dec (fun hif => ?_) (fun hif => ?_) | refine condB_of (fun hif => ?_) (fun hif => ?_) | (refine s_lelt ?_ ?_; omega) | (refine s_lt ?_ ?_; omega) | (refine s_le ?_ ?_; omega)) <;>
          (try simp -implicitDefEqProofs (disch := first | assumption | omega) only [sx, sb, sd, se, xwpStep, xwpOp, xwpInt, opEv, xres, oneOf, Nat.reduceAdd, Nat.reduceEqDiff, Nat.reduceSub, ↓reduceIte, reduceCtorEq, wrap_i64, Nat.zero_add, Nat.add_zero, Int.toNat_natCast, *]))
        · omega
        · rw [List.drop_eq_nil_of_le (by simp; omega), runOf, hov, show i = l.length by omega] at k4
          rw [← k4, show i = l.length by omega]
          exact ⟨rfl, x1.trans xg⟩
      clear a2 a3 a4 t
      rintro t d g ⟨a2, a3, a4, rfl, rfl, hi⟩
      replace rs := rs hi
      replace hst := hst hi
      replace hsr := hsr hi
      rw [List.drop_eq_getElem_cons (by simpa using hi), runOf, if_neg (by simp [hov])] at k4
      simp only [List.getElem_map] at k4
      generalize l[i] = st at *
      repeat' ((first | refine s_line rfl ?_ | refine s_end rfl ?_ | refine s_seq ?_ | refine s_region ?_ | refine s_block ?_ | refine s_cond ?_ | refine s_ret ?_ | refine s_skip ?_ | refine s_exit ?_ | refine s_if (fun hif => ?_) (fun hif => ?_) | refine condB_dec (fun hif => ?_) (fun hif => ?_) | refine condB_of (fun hif => ?_) (fun hif => ?_) | (refine s_lelt ?_ ?_; omega) | (refine s_lt ?_ ?_; omega) | (refine s_le ?_ ?_; omega) | ((refine evApply_call hst ?_; rintro _ g3 ⟨rfl, k5, k6⟩))) <;>
        (try simp -implicitDefEqProofs (disch := first | assumption | omega) only [sx, sb, sd, se, xwpStep, xwpOp, xwpInt, opEv, xres, oneOf, Nat.reduceAdd, Nat.reduceEqDiff, Nat.reduceSub, ↓reduceIte, reduceCtorEq, wrap_i64, Nat.zero_add, Nat.add_zero, Int.toNat_natCast, *]))
      · rw [if_neg (by simpa using hif)] at k4
        rw [← k4]
        exact ⟨rfl, x1.trans (xg.butI k6 fun x hx q => by omega)⟩
      · rw [if_pos (by simpa using ‹(!decide ((s.step (mayS st.s) st.s.kind st.s.id st.s.lits st.s.hints).1 = 0)) = false›)] at k4
        exact ⟨n - 1, by omega, i + 1, _, by omega, by simp, xg.butI k6 fun x hx q => by omega, k5, hsr, k4⟩
  · have hall : runAll vars cs (l.map StV.s) = (false, 0, rightOf vars cs) := by
      unfold runAll
      rw [if_pos hr]
    rw [hall]
    simp -implicitDefEqProofs only [xf9, argsFrom_cons, argsFrom_nil]
    repeat' ((first | refine s_line rfl ?_ | refine s_end rfl ?_ | refine s_seq ?_ | refine s_region ?_ | refine s_block ?_ | refine s_cond ?_ | refine s_ret ?_ | refine s_skip ?_ | refine s_exit ?_ | refine s_if (fun hif => ?_) (fun hif => ?_) | refine condB_dec (fun hif => ?_) (fun hif => ?_) | refine condB_of (fun hif => ?_) (fun hif => ?_) | (refine s_lelt ?_ ?_; omega) | (refine s_lt ?_ ?_; omega) | (refine s_le ?_ ?_; omega) | ((refine evApply_call hnew ?_; rintro _ g2 ⟨⟨_, rfl⟩ | ⟨hr2, _⟩, x2⟩; rotate_left; exact absurd hr2 hr))) <;>
      (try simp -implicitDefEqProofs (disch := first | assumption | omega) only [sx, sb, sd, se, xwpStep, xwpOp, xwpInt, opEv, xres, oneOf, Nat.reduceAdd, Nat.reduceEqDiff, Nat.reduceSub, ↓reduceIte, reduceCtorEq, wrap_i64, Nat.zero_add, Nat.add_zero, List.getElem?_cons_zero, List.getElem?_cons_succ, *]))
    exact ⟨rfl, x1.trans x2⟩
end Go.Proofs.Ytmkbnbpblhoekaa
