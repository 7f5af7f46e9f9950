/- CheckRuns: the law, whatever the formula and the proof. -/
import Derived.Test.YtmkbnbpblhoekaaVDx
import Derived.Test.YtmkbnbpblhoekaaVCkl
set_option linter.unusedSimpArgs false
set_option linter.unusedVariables false
set_option linter.unusedSectionVars false
namespace Go.Proofs.Ytmkbnbpblhoekaa
open Go.Xr Go.Chk

set_option maxHeartbeats 8000000 in
theorem law_ok {h : Heap} {vars : Int} {cv sv : V} {cs : List (List Int)} {l : List StV} (hc : Cls h cv cs) (hs : Stps h sv l) (hobj : ∀ s ∈ l, ∀ x, rowObj s.hv = some x → x < h.next) (hx : ∀ c ∈ cs, ∀ x ∈ c, I32ok x) :
    EvCall xprog H0 3 [.agg [.int .i64 vars, cv], sv] h fun v h' => v = .bool true ∧ Ext h h' := by
  refine s_call (fn := xf3) rfl (free _ rfl ..) ?_
  generalize hH1 : newCells h [.int .i64 vars, cv] 1 false = H1
  have x1 : Ext h H1 := hH1 ▸ Ext.new ..
  have g1 : H1.get h.next = some (arr [.int .i64 vars, cv] 1 false) := by rw [← hH1]; exact get_new ..
  have rA : ∀ {g}, Ext H1 g → readCells g h.next 0 0 2 = some [.int .i64 vars, cv] := fun x => readCells_arr ((x.get h.next (by rw [← hH1]; simp)).trans g1) (by simp)
  have rA1 := rA (Ext.refl H1)
  have hla := large2_ok (vars := vars) (hc.ext x1) (hs.ext x1)
  simp -implicitDefEqProofs only [xf3, argsFrom_cons, argsFrom_nil]
  have hrun : ∀ {g}, Ext h g → cs.length ≤ 200 → done cs cs.length ≤ 1500 → l.length ≤ 1500 → (∀ s ∈ l, s.s.lits.length ≤ 1500 ∧ s.s.hints.length ≤ 1500) → EvCall xprog H0 9 [.agg [.int .i64 vars, cv], sv] g fun v h' => v = tripV (runAll vars cs (l.map StV.s)) ∧ Ext g h' := fun x q1 q2 q3 q4 => Run_ok (hc.ext x) (hs.ext x) hx q1 q2 q3 q4
  have hrrun : ∀ {g}, Ext h g → cs.length ≤ 200 → done cs cs.length ≤ 1500 → l.length ≤ 1500 → (∀ s ∈ l, s.s.lits.length ≤ 1500 ∧ s.s.hints.length ≤ 1500) → EvCall xprog H0 10 [.agg [.int .i64 vars, cv], sv] g fun v h' => v = tripV (runAll vars cs (l.map StV.s)) ∧ Ext g h' := fun x q1 q2 q3 q4 => rRun_ok (hc.ext x) (hs.ext x) (fun s hm y hy => Nat.lt_of_lt_of_le (hobj s hm y hy) x.next) hx q1 q2 q3 q4
  generalize runAll vars cs (l.map StV.s) = r at *
  repeat' ((first | refine s_line rfl ?_ | refine s_end rfl ?_ | refine s_seq ?_ | refine s_region ?_ | refine s_block ?_ | refine s_cond ?_ | refine s_ret ?_ | refine s_skip ?_ | refine s_exit ?_ | refine s_if (fun hif => ?_) (fun hif => ?_) | refine condB_dec (fun hif => ?_) (fun hif => ?_) | refine condB_of (fun hif => ?_) (fun hif => ?_) | (refine s_lelt ?_ ?_; omega) | (refine s_lt ?_ ?_; omega) | (refine s_le ?_ ?_; omega) | ((refine evApply_call hla ?_; rintro _ g2 ⟨⟨bl, rfl, hbl⟩, x2⟩; have rA2 := rA x2)) | ((refine evApply_call (works_ok _) ?_; rintro _ gw ⟨rfl, xw⟩)) | ((refine evApply_call (hrun (x1.trans x2) (hbl (by assumption)).1 (hbl (by assumption)).2.1 (hbl (by assumption)).2.2.1 (hbl (by assumption)).2.2.2) ?_; rintro _ g3 ⟨rfl, x3⟩; have rA3 := rA (x2.trans x3))) | ((refine evApply_call (hrrun (x1.trans (x2.trans x3)) (hbl (by assumption)).1 (hbl (by assumption)).2.1 (hbl (by assumption)).2.2.1 (hbl (by assumption)).2.2.2) ?_; rintro _ g4 ⟨rfl, x4⟩))) <;>
    (try simp -implicitDefEqProofs (disch := first | assumption | omega) only [sx, sb, sd, se, xwpStep, xwpOp, xwpInt, opEv, xres, oneOf, Nat.reduceAdd, Nat.reduceEqDiff, Nat.reduceSub, ↓reduceIte, reduceCtorEq, List.getElem?_cons_zero, List.getElem?_cons_succ, tripV, beq_self_eq_true, *]))
  · exact x1.trans (x2.trans xw)
  · exact x1.trans (x2.trans (x3.trans (x4.trans xw)))
end Go.Proofs.Ytmkbnbpblhoekaa
