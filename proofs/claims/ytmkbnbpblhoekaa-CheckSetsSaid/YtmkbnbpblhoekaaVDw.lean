/- The examples' formula and steps. -/
import Derived.Test.YtmkbnbpblhoekaaVCk5
import Derived.Test.YtmkbnbpblhoekaaW3
set_option linter.unusedSimpArgs false
set_option linter.unusedVariables false
set_option linter.unusedSectionVars false
namespace Go.Proofs.Ytmkbnbpblhoekaa
open Go.Xr Go.Chk

theorem writeAll {h : Heap} {o : Nat} {cs vs : List V} {sp : Bool} (hg : h.get o = some (arr cs 1 sp)) (hl : cs.length = vs.length) (h1 : vs.all V.one = true) : writeCells h o 0 0 vs = some (h.put o (arr vs 1 sp)) := by
  unfold writeCells Heap.cells?
  rw [hg]
  simp only [arr, Nat.beq_refl]
  have : (Nat.ble (0 + vs.length) cs.length && vs.all V.one) = true := by
    rw [h1, Bool.and_true]
    exact Nat.ble_eq_true_of_le (by omega)
  simp only [hl] at this ⊢
  simp only [this, over_all hl]
/-- A row, newly made. -/
theorem sw_new {h : Heap} {o n : Nat} {vs : List V} {sp : Bool} (hg : h.get o = some (arr vs 1 sp)) (ho : o < h.next) (hn : n = vs.length) : Sw h (.slice o 0 0 n (.exact n)) vs := .inr ⟨o, 0, 0, .exact n, by rw [hn], by rw [hn]; exact Nat.le_refl _, fun _ => ⟨ho, by rw [readCells_arr hg (by omega), List.drop_zero, List.take_length]⟩⟩

theorem cellsOf_slice (o g a n : Nat) (c : Cap) : (V.slice o g a n c).cellsOf = [.slice o g a n c] := rfl
def fourCs : List (List Int) := [[1, 2], [1, -2], [-1, 2], [-1, -2]]
set_option maxHeartbeats 4000000 in
theorem four_ok (h : Heap) : EvCall xprog H0 27 [] h fun v h' => (∃ cv, v = .agg [.int .i64 2, cv] ∧ Cls h' cv fourCs) ∧ Ext h h' := by
  refine s_call (fn := xf27) rfl (free _ rfl ..) ?_
  simp -implicitDefEqProofs only [xf27, argsFrom_cons, argsFrom_nil]
  repeat' ((first | refine s_line rfl ?_ | refine s_end rfl ?_ | refine s_seq ?_ | refine s_region ?_ | refine s_block ?_ | refine s_cond ?_ | refine s_ret ?_ | refine s_skip ?_ | refine s_exit ?_ | refine s_if (fun hif => ?_) (fun hif => ?_) | refine condB_dec (fun hif => ?_) (fun hif => ?_) | refine condB_of (fun hif => ?_) (fun hif => ?_) | (refine s_lelt ?_ ?_; omega) | (refine s_lt ?_ ?_; omega) | (refine s_le ?_ ?_; omega) | ((refine ⟨_, writeAll (o := h.next) (cs := [.int .i64 0, .nils]) (by repeat (first | exact get_new .. | (rw [newCells_eq, Heap.get_push, if_neg (by simp only [next_new]; omega)]))) rfl rfl, ?_⟩))) <;>
    (try simp -implicitDefEqProofs (disch := first | assumption | omega) only [sx, sb, sd, se, xwpStep, xwpOp, xwpInt, opEv, xres, oneOf, Nat.reduceAdd, Nat.reduceEqDiff, Nat.reduceSub, ↓reduceIte, reduceCtorEq, cellsOf_slice, fillV, parts, List.map_cons, List.map_nil, over, List.length_cons, List.length_nil, Nat.beq_refl, Nat.ble, *]))
  refine ⟨_, readCells_arr (by rw [Heap.get_put, if_pos rfl]) (by simp), ⟨_, rfl, ⟨_, (sw_new (vs := [.slice (h.next + 1) 0 0 2 (.exact 2), .slice (h.next + 1 + 1) 0 0 2 (.exact 2), .slice (h.next + 1 + 1 + 1) 0 0 2 (.exact 2), .slice (h.next + 1 + 1 + 1 + 1) 0 0 2 (.exact 2)]) (sp := false) (by rw [Heap.get_put, if_neg (by omega)]; repeat (first | exact get_new .. | (rw [newCells_eq, Heap.get_push, if_neg (by simp only [next_new]; omega)]))) (by simp only [Heap.put, next_new]; omega) rfl).sl, rfl, fun i hi => ?_⟩⟩, ((((((Ext.new ..).trans (Ext.new ..)).trans (Ext.new ..)).trans (Ext.new ..)).trans (Ext.new ..)).trans (Ext.new ..)).put _ (Nat.le_refl _)⟩
  have hi4 : i = 0 ∨ i = 1 ∨ i = 2 ∨ i = 3 := by simp [fourCs] at hi; omega
  rcases hi4 with rfl | rfl | rfl | rfl
  · exact (sw_new (o := h.next + 1) (vs := [.int .i32 1, .int .i32 2]) (sp := false) (by rw [Heap.get_put, if_neg (by omega)]; repeat (first | exact get_new .. | (rw [newCells_eq, Heap.get_push, if_neg (by simp only [next_new]; omega)]))) (by simp only [Heap.put, next_new]; omega) rfl).sl
  · exact (sw_new (o := h.next + 1 + 1) (vs := [.int .i32 1, .int .i32 (-2)]) (sp := false) (by rw [Heap.get_put, if_neg (by omega)]; repeat (first | exact get_new .. | (rw [newCells_eq, Heap.get_push, if_neg (by simp only [next_new]; omega)]))) (by simp only [Heap.put, next_new]; omega) rfl).sl
  · exact (sw_new (o := h.next + 1 + 1 + 1) (vs := [.int .i32 (-1), .int .i32 2]) (sp := false) (by rw [Heap.get_put, if_neg (by omega)]; repeat (first | exact get_new .. | (rw [newCells_eq, Heap.get_push, if_neg (by simp only [next_new]; omega)]))) (by simp only [Heap.put, next_new]; omega) rfl).sl
  · exact (sw_new (o := h.next + 1 + 1 + 1 + 1) (vs := [.int .i32 (-1), .int .i32 (-2)]) (sp := false) (by rw [Heap.get_put, if_neg (by omega)]; repeat (first | exact get_new .. | (rw [newCells_eq, Heap.get_push, if_neg (by simp only [next_new]; omega)]))) (by simp only [Heap.put, next_new]; omega) rfl).sl
theorem add_ok {h : Heap} (id : Int) (lv hv : V) (hl : rowS lv = true) (hh : rowS hv = true) : EvCall xprog H0 11 [.int .i64 id, lv, hv] h fun v h' => v = .agg [.int .u8 1, .int .i64 id, lv, hv] ∧ Ext h h' := by
  refine s_call (fn := xf11) rfl (free _ rfl ..) ?_
  simp -implicitDefEqProofs only [xf11, argsFrom_cons, argsFrom_nil]
  repeat' ((first | refine s_line rfl ?_ | refine s_end rfl ?_ | refine s_seq ?_ | refine s_region ?_ | refine s_block ?_ | refine s_cond ?_ | refine s_ret ?_ | refine s_skip ?_ | refine s_exit ?_ | refine s_if (fun hif => ?_) (fun hif => ?_) | refine condB_dec (fun hif => ?_) (fun hif => ?_) | refine condB_of (fun hif => ?_) (fun hif => ?_) | (refine s_lelt ?_ ?_; omega) | (refine s_lt ?_ ?_; omega) | (refine s_le ?_ ?_; omega) | ((refine ⟨_, writeAll (o := h.next) (cs := [.int .u8 0, .int .i64 0, .nils, .nils]) (by repeat (first | exact get_new .. | (rw [newCells_eq, Heap.get_push, if_neg (by simp only [next_new]; omega)]))) rfl (by rw [List.all_cons, List.all_cons, List.all_cons, List.all_cons, one_row hl, one_row hh]; rfl), ?_⟩))) <;>
    (try simp -implicitDefEqProofs (disch := first | assumption | omega) only [sx, sb, sd, se, xwpStep, xwpOp, xwpInt, opEv, xres, oneOf, Nat.reduceAdd, Nat.reduceEqDiff, Nat.reduceSub, ↓reduceIte, reduceCtorEq, cellsOf_slice, fillV, parts, List.map_cons, List.map_nil, over, List.length_cons, List.length_nil, Nat.beq_refl, Nat.ble, *]))
  exact ⟨_, readCells_arr (by rw [Heap.get_put, if_pos rfl]) (by simp), rfl, (Ext.new ..).put _ (Nat.le_refl _)⟩

end Go.Proofs.Ytmkbnbpblhoekaa
