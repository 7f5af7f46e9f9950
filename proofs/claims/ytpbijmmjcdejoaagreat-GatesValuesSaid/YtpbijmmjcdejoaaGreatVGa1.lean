import Derived.Test.YtpbijmmjcdejoaaGreatW4
import Derived.Test.YtpbijmmjcdejoaaGreatVYq
import Derived.Test.YtpbijmmjcdejoaaGreatVYl
set_option linter.unusedSimpArgs false
set_option linter.unusedVariables false
set_option linter.unusedSectionVars false
namespace Go.Proofs.YtpbijmmjcdejoaaGreat
open Go.Xr

def varOf (l : Int) : Int := if l < 0 then -l else l

/-- What is known of works and of the library. -/
def H0 : Task → Option Out := orElse (worksHook 4) baseHook
theorem free (f : Nat) (hf : (Nat.beq f 4 || Nat.beq f 37) = false) (dk : Bool) (args : List V) (h : Heap) : H0 (.call dk f args h) = none := by
  rw [Bool.or_eq_false_iff] at hf
  obtain ⟨h1, h2⟩ := hf
  have e1 : worksHook 4 (.call dk f args h) = none := by
    unfold worksHook
    split
    · rename_i e; cases e; rw [h1]
    · rfl
  have e2 : baseHook (.call dk f args h) = none := by
    unfold baseHook sortedHook
    split
    · rename_i e; cases e; simp [h2]
    · rfl
  unfold H0 orElse
  rw [e1, e2]
theorem free_code (c : XCode) (rnd : Option Nat) (t : Tr V) (d : List XDef) (h : Heap) : H0 (.code c rnd t d h) = none := by
  unfold H0 orElse worksHook baseHook sortedHook
  rfl

theorem f15 (l : Int) (h1 : -2147483648 ≤ l) (h2 : l ≤ 2147483647) (h : Heap) : EvCall xprog H0 15 [.int .i32 l] h fun v h' => v = .int .i64 (varOf l) ∧ h' = h := by
  refine s_call (fn := xf15) rfl (free 15 rfl ..) ?_
  simp -implicitDefEqProofs only [xf15, argsFrom_cons, argsFrom_nil]
  repeat' ((first | refine s_line rfl ?_ | refine s_again rfl ?_ | refine s_end rfl ?_ | refine s_seq ?_ | refine s_region ?_ | refine s_block ?_ | refine s_cond ?_ | refine s_ret ?_ | refine s_skip ?_ | refine s_exit ?_ | refine s_scope ?_ | refine s_label ?_ | refine s_if (fun hif => ?_) (fun hif => ?_) | refine condB_dec (fun hif => ?_) (fun hif => ?_) | refine condB_of (fun hif => ?_) (fun hif => ?_) | refine And.intro (by omega) ?_) <;>
    (try simp -implicitDefEqProofs (disch := first | assumption | omega) only [xwpStep, xwpOp, xwpInt, rd_slot, rd_const, putOpt_some, putOpt_none, slotOf_set, slotOf_lf, argsFrom_cons, argsFrom_nil, vals_nil, vals_cons, cellsOf_agg, cellsOf_int, cellsOf_bool, cellsOf_ptr, cellsOf_map, cellsOf_nilp, cellsOf_func, cellsOf_row, opEv, xsome_some, condB_true, condB_false, andThen_normal, andThen_exit, andThen_ret, outOf_normal, outOf_exit, outOf_ret, xfin_ret, xfin_normal, xres, oneOf, Nat.reduceAdd, Nat.reduceEqDiff, Nat.reduceSub, ↓reduceIte, decide_true, decide_false, Bool.not_true, Bool.not_false, Int.ofNat_eq_natCast, Int.cast_ofNat_Int, if_true, if_false, true_and, and_true, reduceCtorEq, List.cons_append, List.nil_append, List.append_nil, Bool.false_eq_true, not_true_eq_false, not_false_eq_true, decide_eq_true_eq, decide_eq_false_iff_not, Bool.not_eq_true', ite_not, Nat.mul_one, Option.some.injEq, exists_eq_left', exists_eq_left, List.cons.injEq, and_self, ne_eq, next_new, wrap_i64, *]))
  all_goals simp only [varOf, *, if_true, if_false, and_self]

theorem f9 (l : Int) (h1 : -2147483648 ≤ l) (h2 : l ≤ 2147483647) (h : Heap) : EvCall xprog H0 9 [.int .i32 l] h fun v h' => v = .int .i64 (varOf l) ∧ h' = h := by
  refine s_call (fn := xf9) rfl (free 9 rfl ..) ?_
  simp -implicitDefEqProofs only [xf9, argsFrom_cons, argsFrom_nil]
  repeat' ((first | refine s_line rfl ?_ | refine s_again rfl ?_ | refine s_end rfl ?_ | refine s_seq ?_ | refine s_region ?_ | refine s_block ?_ | refine s_cond ?_ | refine s_ret ?_ | refine s_skip ?_ | refine s_exit ?_ | refine s_scope ?_ | refine s_label ?_ | refine s_if (fun hif => ?_) (fun hif => ?_) | refine condB_dec (fun hif => ?_) (fun hif => ?_) | refine condB_of (fun hif => ?_) (fun hif => ?_) | refine And.intro (by omega) ?_ | (refine (evCall_iff (f15 _ h1 h2 _)).2 ?_)) <;>
    (try simp -implicitDefEqProofs (disch := first | assumption | omega) only [xwpStep, xwpOp, xwpInt, rd_slot, rd_const, putOpt_some, putOpt_none, slotOf_set, slotOf_lf, argsFrom_cons, argsFrom_nil, vals_nil, vals_cons, cellsOf_agg, cellsOf_int, cellsOf_bool, cellsOf_ptr, cellsOf_map, cellsOf_nilp, cellsOf_func, cellsOf_row, opEv, xsome_some, condB_true, condB_false, andThen_normal, andThen_exit, andThen_ret, outOf_normal, outOf_exit, outOf_ret, xfin_ret, xfin_normal, xres, oneOf, Nat.reduceAdd, Nat.reduceEqDiff, Nat.reduceSub, ↓reduceIte, decide_true, decide_false, Bool.not_true, Bool.not_false, Int.ofNat_eq_natCast, Int.cast_ofNat_Int, if_true, if_false, true_and, and_true, reduceCtorEq, List.cons_append, List.nil_append, List.append_nil, Bool.false_eq_true, not_true_eq_false, not_false_eq_true, decide_eq_true_eq, decide_eq_false_iff_not, Bool.not_eq_true', ite_not, Nat.mul_one, Option.some.injEq, exists_eq_left', exists_eq_left, List.cons.injEq, and_self, ne_eq, next_new, *]))
  all_goals exact ⟨rfl, rfl⟩

theorem f16 (l : Int) (h1 : -2147483648 ≤ l) (h2 : l ≤ 2147483647) (h : Heap) : EvCall xprog H0 16 [.int .i32 l] h fun v h' => v = .int .i64 (varOf l) ∧ h' = h := by
  refine s_call (fn := xf16) rfl (free 16 rfl ..) ?_
  simp -implicitDefEqProofs only [xf16, argsFrom_cons, argsFrom_nil]
  repeat' ((first | refine s_line rfl ?_ | refine s_again rfl ?_ | refine s_end rfl ?_ | refine s_seq ?_ | refine s_region ?_ | refine s_block ?_ | refine s_cond ?_ | refine s_ret ?_ | refine s_skip ?_ | refine s_exit ?_ | refine s_scope ?_ | refine s_label ?_ | refine s_if (fun hif => ?_) (fun hif => ?_) | refine condB_dec (fun hif => ?_) (fun hif => ?_) | refine condB_of (fun hif => ?_) (fun hif => ?_) | refine And.intro (by omega) ?_) <;>
    (try simp -implicitDefEqProofs (disch := first | assumption | omega) only [xwpStep, xwpOp, xwpInt, rd_slot, rd_const, putOpt_some, putOpt_none, slotOf_set, slotOf_lf, argsFrom_cons, argsFrom_nil, vals_nil, vals_cons, cellsOf_agg, cellsOf_int, cellsOf_bool, cellsOf_ptr, cellsOf_map, cellsOf_nilp, cellsOf_func, cellsOf_row, opEv, xsome_some, condB_true, condB_false, andThen_normal, andThen_exit, andThen_ret, outOf_normal, outOf_exit, outOf_ret, xfin_ret, xfin_normal, xres, oneOf, Nat.reduceAdd, Nat.reduceEqDiff, Nat.reduceSub, ↓reduceIte, decide_true, decide_false, Bool.not_true, Bool.not_false, Int.ofNat_eq_natCast, Int.cast_ofNat_Int, if_true, if_false, true_and, and_true, reduceCtorEq, List.cons_append, List.nil_append, List.append_nil, Bool.false_eq_true, not_true_eq_false, not_false_eq_true, decide_eq_true_eq, decide_eq_false_iff_not, Bool.not_eq_true', ite_not, Nat.mul_one, Option.some.injEq, exists_eq_left', exists_eq_left, List.cons.injEq, and_self, ne_eq, next_new, wrap_i64, *]))
  all_goals simp only [varOf, *, if_true, if_false, and_self]

def litTrue (l : Int) (m : List Bool) : Bool := decide (1 ≤ varOf l) && decide (varOf l ≤ m.length) && (m.getD (varOf l - 1).toNat false == decide (0 < l))

theorem f10 (l : Int) (h1 : -2147483648 ≤ l) (h2 : l ≤ 2147483647) {h : Heap} {m : V} {bs : List Bool} (hm : Sl h m (bs.map .bool)) :
    EvCall xprog H0 10 [.int .i32 l, m] h fun v h' => v = .bool (litTrue l bs) ∧ h' = h := by
  refine s_call (fn := xf10) rfl (free 10 rfl ..) ?_
  have hl := hm.len
  have hr := hm.row
  simp only [List.length_map] at hl
  have hv : -2147483648 ≤ varOf l ∧ varOf l ≤ 2147483648 := by unfold varOf; split <;> omega
  have hx : ∀ i, i < bs.length → readCells h (objS m) (genS m) (offS m + i) 1 = some [.bool (bs.getD i false)] := fun i hi => hm.at (by simp [hi])
  simp -implicitDefEqProofs only [xf10, argsFrom_cons, argsFrom_nil]
  repeat' ((first | refine s_line rfl ?_ | refine s_again rfl ?_ | refine s_end rfl ?_ | refine s_seq ?_ | refine s_region ?_ | refine s_block ?_ | refine s_cond ?_ | refine s_ret ?_ | refine s_skip ?_ | refine s_exit ?_ | refine s_scope ?_ | refine s_label ?_ | refine s_if (fun hif => ?_) (fun hif => ?_) | refine condB_dec (fun hif => ?_) (fun hif => ?_) | refine condB_of (fun hif => ?_) (fun hif => ?_) | refine And.intro (by omega) ?_ | (refine (evCall_iff (f16 _ h1 h2 _)).2 ?_)) <;>
    (try simp -implicitDefEqProofs (disch := first | assumption | omega) only [xwpStep, xwpOp, xwpInt, rd_slot, rd_const, putOpt_some, putOpt_none, slotOf_set, slotOf_lf, argsFrom_cons, argsFrom_nil, vals_nil, vals_cons, cellsOf_agg, cellsOf_int, cellsOf_bool, cellsOf_ptr, cellsOf_map, cellsOf_nilp, cellsOf_func, cellsOf_row, opEv, xsome_some, condB_true, condB_false, andThen_normal, andThen_exit, andThen_ret, outOf_normal, outOf_exit, outOf_ret, xfin_ret, xfin_normal, xres, oneOf, Nat.reduceAdd, Nat.reduceEqDiff, Nat.reduceSub, ↓reduceIte, decide_true, decide_false, Bool.not_true, Bool.not_false, Int.ofNat_eq_natCast, Int.cast_ofNat_Int, if_true, if_false, true_and, and_true, reduceCtorEq, List.cons_append, List.nil_append, List.append_nil, Bool.false_eq_true, not_true_eq_false, not_false_eq_true, decide_eq_true_eq, decide_eq_false_iff_not, Bool.not_eq_true', ite_not, Nat.mul_one, Option.some.injEq, exists_eq_left', exists_eq_left, List.cons.injEq, and_self, ne_eq, next_new, wrap_i64, *]))
  all_goals simp only [V.bool.injEq, litTrue, *]
  all_goals simp
  all_goals omega

/-- `is` of (Gate).Value. -/
theorem f8 {h : Heap} {og om : Nat} {k out : Int} {ins ids m : V} {xs : List Int} {bs : List Bool} (hg : h.get og = some (arr [.int .u8 k, .int .i32 out, ins, ids] 1 false)) (hm : h.get om = some (arr [m] 1 false))
    (hi : Sl h ins (xs.map (.int .i32))) (hb : Sl h m (bs.map .bool)) (hx : ∀ x ∈ xs, -2147483648 ≤ x ∧ x ≤ 2147483647) {i : Nat} (hlt : i < xs.length) :
    EvCall xprog H0 8 [.int .i64 i, .ptr og 0 0, .ptr om 0 0] h fun v h' => v = .bool (litTrue (xs.getD i 0) bs) ∧ h' = h := by
  refine s_call (fn := xf8) rfl (free 8 rfl ..) ?_
  have e1 := hi.len
  have e2 := hb.len
  have e3 := hi.row
  have e4 := hb.row
  simp only [List.length_map] at e1 e2
  have g2 := readCell (off := 2) hg rfl
  have m0 := readCell (off := 0) hm rfl
  have hxi : -2147483648 ≤ xs.getD i 0 ∧ xs.getD i 0 ≤ 2147483647 := by
    have := hx (xs[i]) (List.getElem_mem hlt)
    simpa [hlt] using this
  obtain ⟨x1, x2⟩ := hxi
  have hv : -2147483648 ≤ varOf (xs.getD i 0) ∧ varOf (xs.getD i 0) ≤ 2147483648 := by unfold varOf; split <;> omega
  have rx : readCells h (objS ins) (genS ins) (offS ins + i) 1 = some [.int .i32 (xs.getD i 0)] := hi.at (by simp [hlt])
  have rb : ∀ i, i < bs.length → readCells h (objS m) (genS m) (offS m + i) 1 = some [.bool (bs.getD i false)] := fun i hi => hb.at (by simp [hi])
  generalize hxx : xs.getD i 0 = x at *
  simp -implicitDefEqProofs only [xf8, argsFrom_cons, argsFrom_nil]
  repeat' ((first | refine s_line rfl ?_ | refine s_again rfl ?_ | refine s_end rfl ?_ | refine s_seq ?_ | refine s_region ?_ | refine s_block ?_ | refine s_cond ?_ | refine s_ret ?_ | refine s_skip ?_ | refine s_exit ?_ | refine s_scope ?_ | refine s_label ?_ | refine s_if (fun hif => ?_) (fun hif => ?_) | refine condB_dec (fun hif => ?_) (fun hif => ?_) | refine condB_of (fun hif => ?_) (fun hif => ?_) | refine And.intro (by omega) ?_ | (refine (evCall_iff (f9 _ x1 x2 _)).2 ?_)) <;>
    (try simp -implicitDefEqProofs (disch := first | assumption | omega) only [xwpStep, xwpOp, xwpInt, rd_slot, rd_const, putOpt_some, putOpt_none, slotOf_set, slotOf_lf, argsFrom_cons, argsFrom_nil, vals_nil, vals_cons, cellsOf_agg, cellsOf_int, cellsOf_bool, cellsOf_ptr, cellsOf_map, cellsOf_nilp, cellsOf_func, cellsOf_row, opEv, xsome_some, condB_true, condB_false, andThen_normal, andThen_exit, andThen_ret, outOf_normal, outOf_exit, outOf_ret, xfin_ret, xfin_normal, xres, oneOf, Nat.reduceAdd, Nat.reduceEqDiff, Nat.reduceSub, ↓reduceIte, decide_true, decide_false, Bool.not_true, Bool.not_false, Int.ofNat_eq_natCast, Int.cast_ofNat_Int, if_true, if_false, true_and, and_true, reduceCtorEq, List.cons_append, List.nil_append, List.append_nil, Bool.false_eq_true, not_true_eq_false, not_false_eq_true, decide_eq_true_eq, decide_eq_false_iff_not, Bool.not_eq_true', ite_not, Nat.mul_one, Option.some.injEq, exists_eq_left', exists_eq_left, List.cons.injEq, and_self, ne_eq, next_new, wrap_i64, Nat.zero_add, Int.toNat_natCast, *]))
  all_goals simp only [V.bool.injEq, litTrue, *]
  all_goals simp
  all_goals omega

def tAt (xs : List Int) (bs : List Bool) (i : Nat) : Bool := litTrue (xs.getD i 0) bs
def gateVal (k : Int) (xs : List Int) (bs : List Bool) : Bool :=
  if k = 1 ∧ 1 ≤ xs.length then tAt xs bs 0
  else if k = 2 ∧ 1 ≤ xs.length then (List.range xs.length).all (tAt xs bs)
  else if k = 3 ∧ 2 ≤ xs.length then tAt xs bs 0 != tAt xs bs 1
  else if k = 4 ∧ 3 ≤ xs.length then (if tAt xs bs 0 then tAt xs bs 1 else tAt xs bs 2)
  else false

/-- (Gate).Value. -/
theorem f5 {h : Heap} {k out : Int} {ins ids m : V} {xs : List Int} {bs : List Bool}
    (hi : Sl h ins (xs.map (.int .i32))) (hb : Sl h m (bs.map .bool)) (hx : ∀ x ∈ xs, -2147483648 ≤ x ∧ x ≤ 2147483647) (hlen : xs.length ≤ 100) :
    EvCall xprog H0 5 [.agg [.int .u8 k, .int .i32 out, ins, ids], m] h fun v h' => v = .bool (gateVal k xs bs) ∧ Ext h h' := by
  refine s_call (fn := xf5) rfl (free 5 rfl ..) ?_
  generalize hH1 : newCells h [.int .u8 k, .int .i32 out, ins, ids] 1 false = H1
  have x1 : Ext h H1 := hH1 ▸ Ext.new ..
  have n1 : H1.next = h.next + 1 := by rw [← hH1]; rfl
  have g1 : H1.get h.next = some (arr [.int .u8 k, .int .i32 out, ins, ids] 1 false) := by rw [← hH1]; exact get_new ..
  generalize hH2 : newCells H1 [m] 1 false = H2
  have x2 : Ext H1 H2 := hH2 ▸ Ext.new ..
  have hm : H2.get (h.next + 1) = some (arr [m] 1 false) := by rw [← hH2, ← n1]; exact get_new ..
  have hg : H2.get h.next = some (arr [.int .u8 k, .int .i32 out, ins, ids] 1 false) := by rw [x2.get _ (by omega)]; exact g1
  have x3 := x1.trans x2
  have e1 := hi.len
  have e3 := hi.row
  have e4 := hb.row
  simp only [List.length_map] at e1
  have r0 := readCell (off := 0) hg rfl
  have r2 := readCell (off := 2) hg rfl
  have isAt : ∀ i : Nat, i < xs.length → EvCall xprog H0 8 [.int .i64 i, .ptr h.next 0 0, .ptr (h.next + 1) 0 0] H2 fun v h' => v = .bool (tAt xs bs i) ∧ h' = H2 := fun i hlt => f8 hg hm (hi.ext x3) (hb.ext x3) hx hlt
  have is0 : 0 < xs.length → EvCall xprog H0 8 [.int .i64 0, .ptr h.next 0 0, .ptr (h.next + 1) 0 0] H2 fun v h' => v = .bool (tAt xs bs 0) ∧ h' = H2 := isAt 0
  have is1 : 1 < xs.length → EvCall xprog H0 8 [.int .i64 1, .ptr h.next 0 0, .ptr (h.next + 1) 0 0] H2 fun v h' => v = .bool (tAt xs bs 1) ∧ h' = H2 := isAt 1
  have is2 : 2 < xs.length → EvCall xprog H0 8 [.int .i64 2, .ptr h.next 0 0, .ptr (h.next + 1) 0 0] H2 fun v h' => v = .bool (tAt xs bs 2) ∧ h' = H2 := isAt 2
  clear hi hb hx hg hm g1 x1 x2
  simp -implicitDefEqProofs only [xf5, argsFrom_cons, argsFrom_nil]
  repeat' ((first | refine s_line rfl ?_ | refine s_again rfl ?_ | refine s_end rfl ?_ | refine s_seq ?_ | refine s_region ?_ | refine s_block ?_ | refine s_cond ?_ | refine s_ret ?_ | refine s_skip ?_ | refine s_exit ?_ | refine s_scope ?_ | refine s_label ?_ | refine s_if (fun hif => ?_) (fun hif => ?_) | refine condB_dec (fun hif => ?_) (fun hif => ?_) | refine condB_of (fun hif => ?_) (fun hif => ?_) | refine And.intro (by omega) ?_ | (refine (evApply_iff (evApply_func (is0 (by omega)))).2 ?_) | (refine (evApply_iff (evApply_func (is1 (by omega)))).2 ?_) | (refine (evApply_iff (evApply_func (is2 (by omega)))).2 ?_)) <;>
    (try simp -implicitDefEqProofs (disch := first | assumption | omega) only [xwpStep, xwpOp, xwpInt, rd_slot, rd_const, putOpt_some, putOpt_none, slotOf_set, slotOf_lf, argsFrom_cons, argsFrom_nil, vals_nil, vals_cons, cellsOf_agg, cellsOf_int, cellsOf_bool, cellsOf_ptr, cellsOf_map, cellsOf_nilp, cellsOf_func, cellsOf_row, opEv, xsome_some, condB_true, condB_false, andThen_normal, andThen_exit, andThen_ret, outOf_normal, outOf_exit, outOf_ret, xfin_ret, xfin_normal, xres, oneOf, Nat.reduceAdd, Nat.reduceEqDiff, Nat.reduceSub, ↓reduceIte, decide_true, decide_false, Bool.not_true, Bool.not_false, Int.ofNat_eq_natCast, Int.cast_ofNat_Int, if_true, if_false, true_and, and_true, reduceCtorEq, List.cons_append, List.nil_append, List.append_nil, Bool.false_eq_true, not_true_eq_false, not_false_eq_true, decide_eq_true_eq, decide_eq_false_iff_not, Bool.not_eq_true', ite_not, Nat.mul_one, Option.some.injEq, exists_eq_left', exists_eq_left, List.cons.injEq, and_self, ne_eq, next_new, wrap_i64, Nat.zero_add, Int.toNat_natCast, *]))
  case refine_2.refine_1.refine_1 =>
    refine s_while (fun n t d h' => ∃ i : Nat, i + n = xs.length ∧ slotOf t 33 = .int .i64 i ∧ slotOf t 32 = .int .i64 xs.length ∧ slotOf t 5 = .func 8 [] [.ptr h.next 0 0, .ptr (h.next + 1) 0 0] ∧ d = [] ∧ h' = H2 ∧ ∀ j, j < i → tAt xs bs j = true) (fun _ _ _ => free_code ..) xs.length ⟨0, by omega, by simp [slotOf_set], by simp [slotOf_set], by simp [slotOf_set], rfl, rfl, fun j hj => by omega⟩ ?_
    rintro n t d h' ⟨i, a1, a2, a3, a4, rfl, rfl, a5⟩
    have isi := isAt i
    repeat' ((first | refine s_line rfl ?_ | refine s_again rfl ?_ | refine s_end rfl ?_ | refine s_seq ?_ | refine s_region ?_ | refine s_block ?_ | refine s_cond ?_ | refine s_ret ?_ | refine s_skip ?_ | refine s_exit ?_ | refine s_scope ?_ | refine s_label ?_ | refine s_if (fun hif => ?_) (fun hif => ?_) | refine condB_dec (fun hif => ?_) (fun hif => ?_) | refine condB_of (fun hif => ?_) (fun hif => ?_) | refine And.intro (by omega) ?_ | (refine (evApply_iff (evApply_func (isi (by omega)))).2 ?_)) <;>
      (try simp -implicitDefEqProofs (disch := first | assumption | omega) only [xwpStep, xwpOp, xwpInt, rd_slot, rd_const, putOpt_some, putOpt_none, slotOf_set, slotOf_lf, argsFrom_cons, argsFrom_nil, vals_nil, vals_cons, cellsOf_agg, cellsOf_int, cellsOf_bool, cellsOf_ptr, cellsOf_map, cellsOf_nilp, cellsOf_func, cellsOf_row, opEv, xsome_some, condB_true, condB_false, andThen_normal, andThen_exit, andThen_ret, outOf_normal, outOf_exit, outOf_ret, xfin_ret, xfin_normal, xres, oneOf, Nat.reduceAdd, Nat.reduceEqDiff, Nat.reduceSub, ↓reduceIte, decide_true, decide_false, Bool.not_true, Bool.not_false, Int.ofNat_eq_natCast, Int.cast_ofNat_Int, if_true, if_false, true_and, and_true, reduceCtorEq, List.cons_append, List.nil_append, List.append_nil, Bool.false_eq_true, not_true_eq_false, not_false_eq_true, decide_eq_true_eq, decide_eq_false_iff_not, Bool.not_eq_true', ite_not, Nat.mul_one, Option.some.injEq, exists_eq_left', exists_eq_left, List.cons.injEq, and_self, ne_eq, next_new, wrap_i64, Nat.zero_add, Int.toNat_natCast, *]))
    · have hall : (List.range xs.length).all (tAt xs bs) = false := by
        rw [List.all_eq_false]
        exact ⟨i, by simp; omega, by simpa using hif⟩
      simp [gateVal, hall]
      try omega
    · refine ⟨n - 1, by omega, i + 1, by omega, by simp [slotOf_set], ?_⟩
      intro j hj
      rcases Nat.lt_succ_iff_lt_or_eq.1 hj with hj | rfl
      · exact a5 j hj
      · simpa using hif
    · have hall : (List.range xs.length).all (tAt xs bs) = true := by
        rw [List.all_eq_true]
        intro j hj
        exact a5 j (by simp at hj; omega)
      simp [gateVal, hall]
      try omega
  all_goals simp [gateVal, *]
  all_goals (intros; omega)

theorem gateRef_all (xs : List Int) (bs : List Bool) : (List.range xs.length).all (tAt xs bs) = true ↔ ∀ j, j < xs.length → tAt xs bs j = true := by
  rw [List.all_eq_true]
  simp

/-- The document's Value. -/
theorem f6 {h : Heap} {k out : Int} {ins ids m : V} {xs : List Int} {bs : List Bool}
    (hi : Sl h ins (xs.map (.int .i32))) (hb : Sl h m (bs.map .bool)) (hx : ∀ x ∈ xs, -2147483648 ≤ x ∧ x ≤ 2147483647) (hlen : xs.length ≤ 100) :
    EvCall xprog H0 6 [.agg [.int .u8 k, .int .i32 out, ins, ids], m] h fun v h' => v = .bool (gateVal k xs bs) ∧ Ext h h' := by
  refine s_call (fn := xf6) rfl (free 6 rfl ..) ?_
  generalize hH1 : newCells h [.int .u8 k, .int .i32 out, ins, ids] 1 false = H1
  have x1 : Ext h H1 := hH1 ▸ Ext.new ..
  have g1 : H1.get h.next = some (arr [.int .u8 k, .int .i32 out, ins, ids] 1 false) := by rw [← hH1]; exact get_new ..
  have e1 := hi.len
  have e3 := hi.row
  simp only [List.length_map] at e1
  have r0 := readCell (off := 0) g1 rfl
  have r2 := readCell (off := 2) g1 rfl
  have tr : ∀ i : Nat, i < xs.length → EvCall xprog H0 10 [.int .i32 (xs.getD i 0), m] H1 fun v h' => v = .bool (tAt xs bs i) ∧ h' = H1 := fun i hlt => by
    have := hx (xs[i]) (List.getElem_mem hlt)
    have e : xs.getD i 0 = xs[i] := by simp [hlt]
    exact f10 _ (by rw [e]; exact this.1) (by rw [e]; exact this.2) (hb.ext x1)
  have tr0 : 0 < xs.length → EvCall xprog H0 10 [.int .i32 (xs.getD 0 0), m] H1 fun v h' => v = .bool (tAt xs bs 0) ∧ h' = H1 := tr 0
  have tr1 : 1 < xs.length → EvCall xprog H0 10 [.int .i32 (xs.getD 1 0), m] H1 fun v h' => v = .bool (tAt xs bs 1) ∧ h' = H1 := tr 1
  have tr2 : 2 < xs.length → EvCall xprog H0 10 [.int .i32 (xs.getD 2 0), m] H1 fun v h' => v = .bool (tAt xs bs 2) ∧ h' = H1 := tr 2
  have rx : ∀ i : Nat, i < xs.length → readCells H1 (objS ins) (genS ins) (offS ins + i) 1 = some [.int .i32 (xs.getD i 0)] := fun i hlt => (hi.ext x1).at (by simp [hlt])
  have rx0 : 0 < xs.length → readCells H1 (objS ins) (genS ins) (offS ins) 1 = some [.int .i32 (xs.getD 0 0)] := rx 0
  clear hi hb hx g1
  simp -implicitDefEqProofs only [xf6, argsFrom_cons, argsFrom_nil]
  repeat' ((first | refine s_line rfl ?_ | refine s_again rfl ?_ | refine s_end rfl ?_ | refine s_seq ?_ | refine s_region ?_ | refine s_block ?_ | refine s_cond ?_ | refine s_ret ?_ | refine s_skip ?_ | refine s_exit ?_ | refine s_scope ?_ | refine s_label ?_ | refine s_if (fun hif => ?_) (fun hif => ?_) | refine condB_dec (fun hif => ?_) (fun hif => ?_) | refine condB_of (fun hif => ?_) (fun hif => ?_) | refine And.intro (by omega) ?_ | (refine (evCall_iff (tr0 (by omega))).2 ?_) | (refine (evCall_iff (tr1 (by omega))).2 ?_) | (refine (evCall_iff (tr2 (by omega))).2 ?_)) <;>
    (try simp -implicitDefEqProofs (disch := first | assumption | omega) only [xwpStep, xwpOp, xwpInt, rd_slot, rd_const, putOpt_some, putOpt_none, slotOf_set, slotOf_lf, argsFrom_cons, argsFrom_nil, vals_nil, vals_cons, cellsOf_agg, cellsOf_int, cellsOf_bool, cellsOf_ptr, cellsOf_map, cellsOf_nilp, cellsOf_func, cellsOf_row, opEv, xsome_some, condB_true, condB_false, andThen_normal, andThen_exit, andThen_ret, outOf_normal, outOf_exit, outOf_ret, xfin_ret, xfin_normal, xres, oneOf, Nat.reduceAdd, Nat.reduceEqDiff, Nat.reduceSub, ↓reduceIte, decide_true, decide_false, Bool.not_true, Bool.not_false, Int.ofNat_eq_natCast, Int.cast_ofNat_Int, if_true, if_false, true_and, and_true, reduceCtorEq, List.cons_append, List.nil_append, List.append_nil, Bool.false_eq_true, not_true_eq_false, not_false_eq_true, decide_eq_true_eq, decide_eq_false_iff_not, Bool.not_eq_true', ite_not, Nat.mul_one, Option.some.injEq, exists_eq_left', exists_eq_left, List.cons.injEq, and_self, ne_eq, next_new, wrap_i64, Nat.zero_add, Nat.add_zero, Int.toNat_natCast, Int.toNat_zero, Int.toNat_one, Int.reduceToNat, *]))
  case refine_2.refine_2.refine_2.refine_2.refine_1 =>
    refine s_while (fun n t d h' => ∃ i : Nat, i + n = xs.length ∧ slotOf t 6 = .int .i64 i ∧ slotOf t 5 = .bool (tAt xs bs 0 && (List.range i).all (tAt xs bs)) ∧ slotOf t 2 = .ptr h.next 0 0 ∧ slotOf t 1 = m ∧ d = [] ∧ h' = H1) (fun _ _ _ => free_code ..) xs.length ⟨0, by omega, by simp [slotOf_set], by simp [slotOf_set], by simp [slotOf_set], by simp [slotOf_set], rfl, rfl⟩ ?_
    rintro n t d h' ⟨i, a1, a2, a3, a4, a5, rfl, rfl⟩
    have tri := tr i
    have rxi := rx i
    repeat' ((first | refine s_line rfl ?_ | refine s_again rfl ?_ | refine s_end rfl ?_ | refine s_seq ?_ | refine s_region ?_ | refine s_block ?_ | refine s_cond ?_ | refine s_ret ?_ | refine s_skip ?_ | refine s_exit ?_ | refine s_scope ?_ | refine s_label ?_ | refine s_if (fun hif => ?_) (fun hif => ?_) | refine condB_dec (fun hif => ?_) (fun hif => ?_) | refine condB_of (fun hif => ?_) (fun hif => ?_) | refine And.intro (by omega) ?_ | (refine (evCall_iff (tri (by omega))).2 ?_)) <;>
      (try simp -implicitDefEqProofs (disch := first | assumption | omega) only [xwpStep, xwpOp, xwpInt, rd_slot, rd_const, putOpt_some, putOpt_none, slotOf_set, slotOf_lf, argsFrom_cons, argsFrom_nil, vals_nil, vals_cons, cellsOf_agg, cellsOf_int, cellsOf_bool, cellsOf_ptr, cellsOf_map, cellsOf_nilp, cellsOf_func, cellsOf_row, opEv, xsome_some, condB_true, condB_false, andThen_normal, andThen_exit, andThen_ret, outOf_normal, outOf_exit, outOf_ret, xfin_ret, xfin_normal, xres, oneOf, Nat.reduceAdd, Nat.reduceEqDiff, Nat.reduceSub, ↓reduceIte, decide_true, decide_false, Bool.not_true, Bool.not_false, Int.ofNat_eq_natCast, Int.cast_ofNat_Int, if_true, if_false, true_and, and_true, reduceCtorEq, List.cons_append, List.nil_append, List.append_nil, Bool.false_eq_true, not_true_eq_false, not_false_eq_true, decide_eq_true_eq, decide_eq_false_iff_not, Bool.not_eq_true', ite_not, Nat.mul_one, Option.some.injEq, exists_eq_left', exists_eq_left, List.cons.injEq, and_self, ne_eq, next_new, wrap_i64, Nat.zero_add, Int.toNat_natCast, *]))
    · refine ⟨n - 1, by omega, i + 1, by omega, by simp [slotOf_set], ?_⟩
      simp [List.range_succ, hif, ← Bool.and_assoc]
    · refine ⟨n - 1, by omega, i + 1, by omega, by simp [slotOf_set], ?_⟩
      simp [List.range_succ, hif, ← Bool.and_assoc]
    · have : i = xs.length := by omega
      subst this
      have hz : (tAt xs bs 0 && (List.range xs.length).all (tAt xs bs)) = (List.range xs.length).all (tAt xs bs) := by
        cases hall : (List.range xs.length).all (tAt xs bs) with
        | false => simp
        | true => simp [(gateRef_all xs bs).1 hall 0 (by omega)]
      rw [hz]
      simp [gateVal]
      try omega
  all_goals simp [gateVal, *]
  all_goals first | (intros; omega) | (have h0 : xs.length = 0 := by omega
                                       simp [h0])
end Go.Proofs.YtpbijmmjcdejoaaGreat
