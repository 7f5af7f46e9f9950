import Derived.Test.YtpbijmmjcdejoaaGreatVGa1
set_option linter.unusedSimpArgs false
set_option linter.unusedVariables false
set_option linter.unusedSectionVars false
namespace Go.Proofs.YtpbijmmjcdejoaaGreat
open Go.Xr

theorem works_ok (h : Heap) : EvCall xprog H0 4 [] h fun v h' => v = .bool true ∧ h' = h := ⟨1, .bool true, h, by
  have : H0 (.call false 4 [] h) = some (.call (.bool true) h) := by unfold H0 orElse worksHook; rfl
  simp only [ev, evStep, this], rfl, rfl⟩

/-- GatesValues. -/
theorem f3 {h : Heap} {k out : Int} {ins ids m : V} {xs : List Int} {bs : List Bool}
    (hi : Sl h ins (xs.map (.int .i32))) (hb : Sl h m (bs.map .bool)) (hx : ∀ x ∈ xs, -2147483648 ≤ x ∧ x ≤ 2147483647) :
    EvCall xprog H0 3 [.agg [.int .u8 k, .int .i32 out, ins, ids], m] h fun v _ => v = .bool true := by
  refine s_call (fn := xf3) rfl (free 3 rfl ..) ?_
  generalize hH1 : newCells h [.int .u8 k, .int .i32 out, ins, ids] 1 false = H1
  have x1 : Ext h H1 := hH1 ▸ Ext.new ..
  have n1 : H1.next = h.next + 1 := by rw [← hH1]; rfl
  have g1 : H1.get h.next = some (arr [.int .u8 k, .int .i32 out, ins, ids] 1 false) := by rw [← hH1]; exact get_new ..
  have e1 := hi.len
  have e2 := hb.len
  have e3 := hi.row
  have e4 := hb.row
  simp only [List.length_map] at e1 e2
  have r0 := readCell (off := 0) g1 rfl
  have r1 := readCell (off := 1) g1 rfl
  have r2 := readCell (off := 2) g1 rfl
  have ra : readCells H1 h.next 0 0 4 = some [.int .u8 k, .int .i32 out, ins, ids] := readCells_arr g1 (Nat.le_refl 4)
  have rd2 : ∀ H2, Ext H1 H2 → ∀ off, readCells H2 h.next 0 off 1 = readCells H1 h.next 0 off 1 := fun H2 x2 off => readCells_get (x2.get _ (by omega))
  have c5 : xs.length ≤ 100 → EvCall xprog H0 5 [.agg [.int .u8 k, .int .i32 out, ins, ids], m] H1 fun v h' => v = .bool (gateVal k xs bs) ∧ Ext H1 h' := f5 (hi.ext x1) (hb.ext x1) hx
  have c6 : ∀ H2, Ext H1 H2 → xs.length ≤ 100 → EvCall xprog H0 6 [.agg [.int .u8 k, .int .i32 out, ins, .nils], m] H2 fun v h' => v = .bool (gateVal k xs bs) ∧ Ext H2 h' := fun H2 x2 => f6 ((hi.ext x1).ext x2) ((hb.ext x1).ext x2) hx
  clear hi hb hx g1
  simp -implicitDefEqProofs only [xf3, argsFrom_cons, argsFrom_nil]
  repeat' ((first | refine s_line rfl ?_ | refine s_again rfl ?_ | refine s_end rfl ?_ | refine s_seq ?_ | refine s_region ?_ | refine s_block ?_ | refine s_cond ?_ | refine s_ret ?_ | refine s_skip ?_ | refine s_exit ?_ | refine s_scope ?_ | refine s_label ?_ | refine s_if (fun hif => ?_) (fun hif => ?_) | refine condB_dec (fun hif => ?_) (fun hif => ?_) | refine condB_of (fun hif => ?_) (fun hif => ?_) | refine And.intro (by omega) ?_ | (refine (evCall_iff (works_ok _)).2 ?_) | ((refine evApply_call (c5 (by omega)) ?_; rintro _ H2 ⟨rfl, x2⟩; have q0 := rd2 H2 x2 0; have q1 := rd2 H2 x2 1; have q2 := rd2 H2 x2 2; have c62 := c6 H2 x2)) | ((refine evApply_call (c62 (by omega)) ?_; rintro _ H3 ⟨rfl, x3⟩))) <;>
    (try simp -implicitDefEqProofs (disch := first | assumption | omega) only [xwpStep, xwpOp, xwpInt, rd_slot, rd_const, putOpt_some, putOpt_none, slotOf_set, slotOf_lf, argsFrom_cons, argsFrom_nil, vals_nil, vals_cons, cellsOf_agg, cellsOf_int, cellsOf_bool, cellsOf_ptr, cellsOf_map, cellsOf_nilp, cellsOf_func, cellsOf_row, opEv, xsome_some, condB_true, condB_false, andThen_normal, andThen_exit, andThen_ret, outOf_normal, outOf_exit, outOf_ret, xfin_ret, xfin_normal, xres, oneOf, Nat.reduceAdd, Nat.reduceEqDiff, Nat.reduceSub, ↓reduceIte, decide_true, decide_false, Bool.not_true, Bool.not_false, Int.ofNat_eq_natCast, Int.cast_ofNat_Int, if_true, if_false, true_and, and_true, reduceCtorEq, List.cons_append, List.nil_append, List.append_nil, Bool.false_eq_true, not_true_eq_false, not_false_eq_true, decide_eq_true_eq, decide_eq_false_iff_not, Bool.not_eq_true', ite_not, Nat.mul_one, Option.some.injEq, exists_eq_left', exists_eq_left, List.cons.injEq, and_self, ne_eq, next_new, fillV, parts, List.map_cons, List.map_nil, over, List.length_cons, List.length_nil, stays, wantedV, V.same_refl, Bool.and_self, Bool.and_true, beq_self_eq_true, *]))
end Go.Proofs.YtpbijmmjcdejoaaGreat
