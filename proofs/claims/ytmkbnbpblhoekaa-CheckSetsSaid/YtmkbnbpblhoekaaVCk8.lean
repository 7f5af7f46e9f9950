/- May a step be? The document's answer. -/
import Derived.Test.YtmkbnbpblhoekaaVCk7
set_option linter.unusedSimpArgs false
set_option linter.unusedVariables false
set_option linter.unusedSectionVars false
namespace Go.Proofs.Ytmkbnbpblhoekaa
open Go.Xr

set_option maxHeartbeats 8000000 in
theorem rMay_ok {h : Heap} {kind id : Int} {lv hv : V} {lits hints : List Int} (hl : Sl h lv (lits.map (.int .i32))) (hh : Sl h hv (hints.map (.int .i64))) (h1 : lits.length ≤ 1000000) (h2 : hints.length ≤ 1000000) :
    EvCall xprog H0 44 [.agg [.int .u8 kind, .int .i64 id, lv, hv]] h fun v h' => v = .bool (mayOf kind id lits hints) ∧ Ext h h' := by
  refine s_call (fn := xf44) rfl (free _ rfl ..) ?_
  generalize hH1 : newCells h [.int .u8 kind, .int .i64 id, lv, hv] 1 false = H1
  have x1 : Ext h H1 := hH1 ▸ Ext.new ..
  have g1 : H1.get h.next = some (arr [.int .u8 kind, .int .i64 id, lv, hv] 1 false) := by rw [← hH1]; exact get_new ..
  have r0 := readCell (off := 0) g1 rfl
  have r1 := readCell (off := 1) g1 rfl
  have r2 := readCell (off := 2) g1 rfl
  have r3 := readCell (off := 3) g1 rfl
  have el := hl.len
  have rl := hl.row
  have eh := hh.len
  have rh := hh.row
  simp only [List.length_map] at el eh
  have hrl : ∀ (k : Nat), k < lits.length → readCells H1 (objS lv) (genS lv) (offS lv + k) 1 = some [.int .i32 (lits.getD k 0)] := fun k hk => (hl.ext x1).at (by simp [hk])
  have hrh : ∀ (k : Nat), k < hints.length → readCells H1 (objS hv) (genS hv) (offS hv + k) 1 = some [.int .i64 (hints.getD k 0)] := fun k hk => (hh.ext x1).at (by simp [hk])
  clear hl hh g1
  simp -implicitDefEqProofs only [xf44, argsFrom_cons, argsFrom_nil]
  refine s_cut3 (fun t d g => slotOf t 1 = .ptr h.next 0 0 ∧ (∃ least : Int, slotOf t 3 = .int .i64 least ∧ tailFine kind id lits.length = decide (least ≤ id ∧ id ≤ 4611686018427387903)) ∧ d = [] ∧ g = H1) ?_ ?_
  · repeat' ((first | refine s_line rfl ?_ | refine s_end rfl ?_ | refine s_seq ?_ | refine s_region ?_ | refine s_block ?_ | refine s_cond ?_ | refine s_ret ?_ | refine s_skip ?_ | refine s_exit ?_ | refine s_if (fun hif => ?_) (fun hif => ?_) | refine condB_dec (fun hif => ?_) (fun hif => ?_) | refine condB_of (fun hif => ?_) (fun hif => ?_) | (refine s_lelt ?_ ?_; omega) | (refine s_lt ?_ ?_; omega) | (refine s_le ?_ ?_; omega)) <;>
      (try simp -implicitDefEqProofs (disch := first | assumption | omega) only [sx, sb, sd, se, xwpStep, xwpOp, xwpInt, opEv, xres, oneOf, Nat.reduceAdd, Nat.reduceEqDiff, Nat.reduceSub, ↓reduceIte, reduceCtorEq, wrap_i64, Nat.zero_add, *]))
    · exact ⟨1, by simp, by simp [tailFine, *]⟩
    · simp [mayOf, tailFine, *, show ¬ (lits.length = 0) by omega]
    · exact ⟨0, by simp, by simp [tailFine, *, show lits.length = 0 by omega]⟩
    · simp [mayOf, tailFine, *]
  rintro t d H1 ⟨c1, ⟨least, c2, c3⟩, rfl, rfl⟩
  refine s_cut1 (fun t d g => slotOf t 1 = .ptr h.next 0 0 ∧ tailFine kind id lits.length = true ∧ d = [] ∧ g = H1) ?_ ?_
  · repeat' ((first | refine s_line rfl ?_ | refine s_end rfl ?_ | refine s_seq ?_ | refine s_region ?_ | refine s_block ?_ | refine s_cond ?_ | refine s_ret ?_ | refine s_skip ?_ | refine s_exit ?_ | refine s_if (fun hif => ?_) (fun hif => ?_) | refine condB_dec (fun hif => ?_) (fun hif => ?_) | refine condB_of (fun hif => ?_) (fun hif => ?_) | (refine s_lelt ?_ ?_; omega) | (refine s_lt ?_ ?_; omega) | (refine s_le ?_ ?_; omega)) <;>
      (try simp -implicitDefEqProofs (disch := first | assumption | omega) only [sx, sb, sd, se, xwpStep, xwpOp, xwpInt, opEv, xres, oneOf, Nat.reduceAdd, Nat.reduceEqDiff, Nat.reduceSub, ↓reduceIte, reduceCtorEq, wrap_i64, Nat.zero_add, *]))
    · have : tailFine kind id lits.length = false := by rw [c3]; exact decide_eq_false (by omega)
      simp [mayOf, this]
    · have : tailFine kind id lits.length = false := by rw [c3]; exact decide_eq_false (by omega)
      simp [mayOf, this]
    · (first | (rw [c3]; exact decide_eq_true (by omega)) | exact ⟨by omega, by omega⟩ | omega)
  clear c1 c2 c3
  rintro t d H1 ⟨c1, c2, rfl, rfl⟩
  refine s_cut1 (fun t d g => slotOf t 1 = .ptr h.next 0 0 ∧ lits.all litFine = true ∧ d = [] ∧ g = H1) ?_ ?_
  · repeat' ((first | refine s_line rfl ?_ | refine s_end rfl ?_ | refine s_seq ?_ | refine s_region ?_ | refine s_block ?_ | refine s_cond ?_ | refine s_ret ?_ | refine s_skip ?_ | refine s_exit ?_ | refine s_if (fun hif => ?_) (fun hif => ?_) | refine condB_dec (fun hif => ?_) (fun hif => ?_) | refine condB_of (fun hif => ?_) (fun hif => ?_) | (refine s_lelt ?_ ?_; omega) | (refine s_lt ?_ ?_; omega) | (refine s_le ?_ ?_; omega)) <;>
      (try simp -implicitDefEqProofs (disch := first | assumption | omega) only [sx, sb, sd, se, xwpStep, xwpOp, xwpInt, opEv, xres, oneOf, Nat.reduceAdd, Nat.reduceEqDiff, Nat.reduceSub, ↓reduceIte, reduceCtorEq, wrap_i64, Nat.zero_add, *]))
    refine s_while (fun n t d g => ∃ i : Nat, i + n = lits.length ∧ slotOf t 4 = .int .i64 i ∧ slotOf t 1 = .ptr h.next 0 0 ∧ d = [] ∧ g = H1 ∧ ∀ j, j < lits.length → j < i → litFine (lits.getD j 0) = true) (fun _ _ _ => free_code ..) lits.length ⟨0, by omega, by simp [slotOf_set], by simp [slotOf_set, c1], rfl, rfl, fun j _ hj => by omega⟩ ?_
    rintro n t d H1 ⟨i, a1, a2, a5, rfl, rfl, a7⟩
    have rx := hrl i
    repeat' ((first | refine s_line rfl ?_ | refine s_end rfl ?_ | refine s_seq ?_ | refine s_region ?_ | refine s_block ?_ | refine s_cond ?_ | refine s_ret ?_ | refine s_skip ?_ | refine s_exit ?_ | refine s_if (fun hif => ?_) (fun hif => ?_) | refine condB_dec (fun hif => ?_) (fun hif => ?_) | refine condB_of (fun hif => ?_) (fun hif => ?_) | (refine s_lelt ?_ ?_; omega) | (refine s_lt ?_ ?_; omega) | (refine s_le ?_ ?_; omega) | (refine (evCall_iff (Lit_ok _ _)).2 ?_)) <;>
      (try simp -implicitDefEqProofs (disch := first | assumption | omega) only [sx, sb, sd, se, xwpStep, xwpOp, xwpInt, opEv, xres, oneOf, Nat.reduceAdd, Nat.reduceEqDiff, Nat.reduceSub, ↓reduceIte, reduceCtorEq, wrap_i64, Nat.zero_add, Int.toNat_natCast, *]))
    · have : lits.all litFine = false := by
        rw [List.all_eq_false]
        refine ⟨_, List.getElem_mem (show i < lits.length by omega), ?_⟩
        simpa [show i < lits.length by omega] using hif
      simp [mayOf, this]
    · refine ⟨n - 1, by omega, i + 1, by omega, by simp, fun j hj hlt => ?_⟩
      rcases Nat.lt_succ_iff_lt_or_eq.1 hlt with h | rfl
      · exact a7 j hj h
      · simpa using hif
    · rw [List.all_eq_true]
      intro x hx
      obtain ⟨j, hj, rfl⟩ := List.getElem_of_mem hx
      have := a7 j hj (by omega)
      simpa [hj] using this
  clear c1 t
  rintro t d H1 ⟨c1, c3, rfl, rfl⟩
  repeat' ((first | refine s_line rfl ?_ | refine s_end rfl ?_ | refine s_seq ?_ | refine s_region ?_ | refine s_block ?_ | refine s_cond ?_ | refine s_ret ?_ | refine s_skip ?_ | refine s_exit ?_ | refine s_if (fun hif => ?_) (fun hif => ?_) | refine condB_dec (fun hif => ?_) (fun hif => ?_) | refine condB_of (fun hif => ?_) (fun hif => ?_) | (refine s_lelt ?_ ?_; omega) | (refine s_lt ?_ ?_; omega) | (refine s_le ?_ ?_; omega)) <;>
    (try simp -implicitDefEqProofs (disch := first | assumption | omega) only [sx, sb, sd, se, xwpStep, xwpOp, xwpInt, opEv, xres, oneOf, Nat.reduceAdd, Nat.reduceEqDiff, Nat.reduceSub, ↓reduceIte, reduceCtorEq, wrap_i64, Nat.zero_add, *]))
  refine s_while (fun n t d g => ∃ i : Nat, i + n = hints.length ∧ slotOf t 5 = .int .i64 i ∧ slotOf t 1 = .ptr h.next 0 0 ∧ d = [] ∧ g = H1 ∧ ∀ j, j < hints.length → j < i → hintFine kind (hints.getD j 0) = true) (fun _ _ _ => free_code ..) hints.length ⟨0, by omega, by simp [slotOf_set], by simp [slotOf_set, c1], rfl, rfl, fun j _ hj => by omega⟩ ?_
  rintro n t d H1 ⟨i, a1, a2, a5, rfl, rfl, a7⟩
  have rx := hrh i
  have hno : i < hints.length → hintFine kind (hints.getD i 0) = false → mayOf kind id lits hints = false := fun hi hf => by
    have : hints.all (hintFine kind) = false := by
      rw [List.all_eq_false]
      exact ⟨_, List.getElem_mem hi, by simpa [hi] using hf⟩
    simp [mayOf, this]
  repeat' ((first | refine s_line rfl ?_ | refine s_end rfl ?_ | refine s_seq ?_ | refine s_region ?_ | refine s_block ?_ | refine s_cond ?_ | refine s_ret ?_ | refine s_skip ?_ | refine s_exit ?_ | refine s_if (fun hif => ?_) (fun hif => ?_) | refine condB_dec (fun hif => ?_) (fun hif => ?_) | refine condB_of (fun hif => ?_) (fun hif => ?_) | (refine s_lelt ?_ ?_; omega) | (refine s_lt ?_ ?_; omega) | (refine s_le ?_ ?_; omega)) <;>
    (try simp -implicitDefEqProofs (disch := first | assumption | omega) only [sx, sb, sd, se, xwpStep, xwpOp, xwpInt, opEv, xres, oneOf, Nat.reduceAdd, Nat.reduceEqDiff, Nat.reduceSub, ↓reduceIte, reduceCtorEq, wrap_i64, Nat.zero_add, Int.toNat_natCast, *]))
  · rw [hno (by omega) (decide_eq_false (by omega))]
  · rw [hno (by omega) (decide_eq_false (by omega))]
  · rw [hno (by omega) (decide_eq_false (by simp only [Int.negSucc_eq] at *; omega))]
  · subst hif
    rw [hno (by omega) (decide_eq_false (by omega))]
  · refine ⟨n - 1, by omega, i + 1, by omega, by simp, fun j hj hlt => ?_⟩
    rcases Nat.lt_succ_iff_lt_or_eq.1 hlt with h | rfl
    · exact a7 j hj h
    · exact decide_eq_true (by simp only [Int.negSucc_eq] at *; omega)
  · refine ⟨n - 1, by omega, i + 1, by omega, by simp, fun j hj hlt => ?_⟩
    rcases Nat.lt_succ_iff_lt_or_eq.1 hlt with h | rfl
    · exact a7 j hj h
    · exact decide_eq_true (by simp only [Int.negSucc_eq] at *; omega)
  · have hallh : hints.all (hintFine kind) = true := by
      rw [List.all_eq_true]
      intro x hx
      obtain ⟨j, hj, rfl⟩ := List.getElem_of_mem hx
      have := a7 j hj (by omega)
      simpa [hj] using this
    simp only [mayOf, c2, c3, hallh, Bool.and_self]
end Go.Proofs.Ytmkbnbpblhoekaa
