/- Literals and rows of them: Var, Has, Contains. -/
import Derived.Test.YtmkbnbpblhoekaaVCk0
set_option linter.unusedSimpArgs false
set_option linter.unusedVariables false
set_option linter.unusedSectionVars false
namespace Go.Proofs.Ytmkbnbpblhoekaa
open Go.Xr

def I32ok (l : Int) : Prop := -2147483648 ≤ l ∧ l ≤ 2147483647

theorem variable_ok (l : Int) (h1 : -2147483648 ≤ l) (h2 : l ≤ 2147483647) (h : Heap) : EvCall xprog H0 65 [.int .i32 l] h fun v h' => v = .int .i64 (litVar l) ∧ h' = h := by
  refine s_call (fn := xf65) rfl (free _ rfl ..) ?_
  simp -implicitDefEqProofs only [xf65, argsFrom_cons, argsFrom_nil]
  repeat' ((first | refine s_line rfl ?_ | refine s_end rfl ?_ | refine s_seq ?_ | refine s_region ?_ | refine s_block ?_ | refine s_cond ?_ | refine s_ret ?_ | refine s_skip ?_ | refine s_exit ?_ | refine s_if (fun hif => ?_) (fun hif => ?_) | refine condB_dec (fun hif => ?_) (fun hif => ?_) | refine condB_of (fun hif => ?_) (fun hif => ?_) | (refine s_lelt ?_ ?_; omega) | (refine s_lt ?_ ?_; omega) | (refine s_le ?_ ?_; omega)) <;>
    (try simp -implicitDefEqProofs (disch := first | assumption | omega) only [sx, sb, sd, se, xwpStep, xwpOp, xwpInt, opEv, xres, oneOf, Nat.reduceAdd, Nat.reduceEqDiff, Nat.reduceSub, ↓reduceIte, reduceCtorEq, wrap_i64, *]))
  all_goals simp only [litVar, *, if_true, if_false, and_self]

theorem Var_ok (l : Int) (h1 : -2147483648 ≤ l) (h2 : l ≤ 2147483647) (h : Heap) : EvCall xprog H0 47 [.int .i32 l] h fun v h' => v = .int .i64 (litVar l) ∧ h' = h := by
  refine s_call (fn := xf47) rfl (free _ rfl ..) ?_
  simp -implicitDefEqProofs only [xf47, argsFrom_cons, argsFrom_nil]
  repeat' ((first | refine s_line rfl ?_ | refine s_end rfl ?_ | refine s_seq ?_ | refine s_region ?_ | refine s_block ?_ | refine s_cond ?_ | refine s_ret ?_ | refine s_skip ?_ | refine s_exit ?_ | refine s_if (fun hif => ?_) (fun hif => ?_) | refine condB_dec (fun hif => ?_) (fun hif => ?_) | refine condB_of (fun hif => ?_) (fun hif => ?_) | (refine s_lelt ?_ ?_; omega) | (refine s_lt ?_ ?_; omega) | (refine s_le ?_ ?_; omega) | (refine (evCall_iff (variable_ok _ h1 h2 _)).2 ?_)) <;>
    (try simp -implicitDefEqProofs (disch := first | assumption | omega) only [sx, sb, sd, se, xwpStep, xwpOp, xwpInt, opEv, xres, oneOf, Nat.reduceAdd, Nat.reduceEqDiff, Nat.reduceSub, ↓reduceIte, reduceCtorEq, *]))
  all_goals exact ⟨rfl, rfl⟩

theorem rVar_ok (l : Int) (h1 : -2147483648 ≤ l) (h2 : l ≤ 2147483647) (h : Heap) : EvCall xprog H0 36 [.int .i32 l] h fun v h' => v = .int .i64 (litVar l) ∧ h' = h := by
  refine s_call (fn := xf36) rfl (free _ rfl ..) ?_
  simp -implicitDefEqProofs only [xf36, argsFrom_cons, argsFrom_nil]
  repeat' ((first | refine s_line rfl ?_ | refine s_end rfl ?_ | refine s_seq ?_ | refine s_region ?_ | refine s_block ?_ | refine s_cond ?_ | refine s_ret ?_ | refine s_skip ?_ | refine s_exit ?_ | refine s_if (fun hif => ?_) (fun hif => ?_) | refine condB_dec (fun hif => ?_) (fun hif => ?_) | refine condB_of (fun hif => ?_) (fun hif => ?_) | (refine s_lelt ?_ ?_; omega) | (refine s_lt ?_ ?_; omega) | (refine s_le ?_ ?_; omega)) <;>
    (try simp -implicitDefEqProofs (disch := first | assumption | omega) only [sx, sb, sd, se, xwpStep, xwpOp, xwpInt, opEv, xres, oneOf, Nat.reduceAdd, Nat.reduceEqDiff, Nat.reduceSub, ↓reduceIte, reduceCtorEq, wrap_i64, *]))
  all_goals simp only [litVar, *, if_true, if_false, and_self]

theorem Sl.lit {h : Heap} {c : V} {xs : List Int} (hc : Sl h c (xs.map (.int .i32))) {i : Nat} (hi : i < xs.length) : readCells h (objS c) (genS c) (offS c + i) 1 = some [.int .i32 (xs[i])] := hc.at (by simp [hi])

/-- The document's Has. -/
theorem Has_ok {h : Heap} {c : V} {xs : List Int} (hc : Sl h c (xs.map (.int .i32))) (hlen : xs.length ≤ 9223372036854775806) (l : Int) : EvCall xprog H0 37 [c, .int .i32 l] h fun v h' => v = .bool (decide (l ∈ xs)) ∧ h' = h := by
  refine s_call (fn := xf37) rfl (free _ rfl ..) ?_
  have hl := hc.len
  have hr := hc.row
  simp only [List.length_map] at hl
  simp -implicitDefEqProofs only [xf37, argsFrom_cons, argsFrom_nil]
  repeat' ((first | refine s_line rfl ?_ | refine s_end rfl ?_ | refine s_seq ?_ | refine s_region ?_ | refine s_block ?_ | refine s_cond ?_ | refine s_ret ?_ | refine s_skip ?_ | refine s_exit ?_ | refine s_if (fun hif => ?_) (fun hif => ?_) | refine condB_dec (fun hif => ?_) (fun hif => ?_) | refine condB_of (fun hif => ?_) (fun hif => ?_) | (refine s_lelt ?_ ?_; omega) | (refine s_lt ?_ ?_; omega) | (refine s_le ?_ ?_; omega)) <;>
    (try simp -implicitDefEqProofs (disch := first | assumption | omega) only [sx, sb, sd, se, xwpStep, xwpOp, xwpInt, opEv, xres, oneOf, Nat.reduceAdd, Nat.reduceEqDiff, Nat.reduceSub, ↓reduceIte, reduceCtorEq, wrap_i64, *]))
  refine s_while (fun n t d h' => ∃ i : Nat, i + n = xs.length ∧ slotOf t 5 = .int .i64 i ∧ slotOf t 0 = c ∧ slotOf t 1 = .int .i32 l ∧ d = [] ∧ h' = h ∧ ∀ j (hj : j < xs.length), j < i → xs[j] ≠ l) (fun _ _ _ => free_code ..) xs.length ⟨0, by omega, by simp [slotOf_set], by simp [slotOf_set], by simp [slotOf_set], rfl, rfl, fun j _ hj => by omega⟩ ?_
  rintro n t d h' ⟨i, a1, a2, a3, a4, rfl, rfl, a5⟩
  have rx : ∀ (hi : i < xs.length), readCells h' (objS c) (genS c) (offS c + i) 1 = some [.int .i32 (xs[i])] := fun hi => Sl.lit hc hi
  repeat' ((first | refine s_line rfl ?_ | refine s_end rfl ?_ | refine s_seq ?_ | refine s_region ?_ | refine s_block ?_ | refine s_cond ?_ | refine s_ret ?_ | refine s_skip ?_ | refine s_exit ?_ | refine s_if (fun hif => ?_) (fun hif => ?_) | refine condB_dec (fun hif => ?_) (fun hif => ?_) | refine condB_of (fun hif => ?_) (fun hif => ?_) | (refine s_lelt ?_ ?_; omega) | (refine s_lt ?_ ?_; omega) | (refine s_le ?_ ?_; omega)) <;>
    (try simp -implicitDefEqProofs (disch := first | assumption | omega) only [sx, sb, sd, se, xwpStep, xwpOp, xwpInt, opEv, xres, oneOf, Nat.reduceAdd, Nat.reduceEqDiff, Nat.reduceSub, ↓reduceIte, reduceCtorEq, wrap_i64, Nat.zero_add, Int.toNat_natCast, *]))
  · exact congrArg V.bool (decide_eq_true (by subst hif; exact List.getElem_mem _)).symm
  · refine ⟨n - 1, by omega, i + 1, by omega, by simp, fun j hj hlt => ?_⟩
    rcases Nat.lt_succ_iff_lt_or_eq.1 hlt with h | rfl
    · exact a5 j hj h
    · exact hif
  · refine congrArg V.bool (decide_eq_false fun hm => ?_).symm
    obtain ⟨j, hj, e⟩ := List.getElem_of_mem hm
    exact a5 j hj (by omega) e

/-- slices.Index: at or above 0 just where it is in the row. -/
theorem Index_ok {h : Heap} {c : V} {xs : List Int} (hc : Sl h c (xs.map (.int .i32))) (hlen : xs.length ≤ 9223372036854775806) (l : Int) : EvCall xprog H0 85 [c, .int .i32 l] h fun v h' => (∃ r : Int, v = .int .i64 r ∧ (0 ≤ r ↔ l ∈ xs)) ∧ h' = h := by
  refine s_call (fn := xf85) rfl (free _ rfl ..) ?_
  have hl := hc.len
  have hr := hc.row
  simp only [List.length_map] at hl
  simp -implicitDefEqProofs only [xf85, argsFrom_cons, argsFrom_nil]
  repeat' ((first | refine s_line rfl ?_ | refine s_end rfl ?_ | refine s_seq ?_ | refine s_region ?_ | refine s_block ?_ | refine s_cond ?_ | refine s_ret ?_ | refine s_skip ?_ | refine s_exit ?_ | refine s_if (fun hif => ?_) (fun hif => ?_) | refine condB_dec (fun hif => ?_) (fun hif => ?_) | refine condB_of (fun hif => ?_) (fun hif => ?_) | (refine s_lelt ?_ ?_; omega) | (refine s_lt ?_ ?_; omega) | (refine s_le ?_ ?_; omega)) <;>
    (try simp -implicitDefEqProofs (disch := first | assumption | omega) only [sx, sb, sd, se, xwpStep, xwpOp, xwpInt, opEv, xres, oneOf, Nat.reduceAdd, Nat.reduceEqDiff, Nat.reduceSub, ↓reduceIte, reduceCtorEq, wrap_i64, *]))
  refine s_while (fun n t d h' => ∃ i : Nat, i + n = xs.length ∧ slotOf t 8 = .int .i64 i ∧ slotOf t 7 = .int .i64 xs.length ∧ slotOf t 0 = c ∧ slotOf t 1 = .int .i32 l ∧ d = [] ∧ h' = h ∧ ∀ j (hj : j < xs.length), j < i → xs[j] ≠ l) (fun _ _ _ => free_code ..) xs.length ⟨0, by omega, by simp [slotOf_set], by simp [slotOf_set], by simp [slotOf_set], by simp [slotOf_set], rfl, rfl, fun j _ hj => by omega⟩ ?_
  rintro n t d h' ⟨i, a1, a2, a2', a3, a4, rfl, rfl, a5⟩
  have rx : ∀ (hi : i < xs.length), readCells h' (objS c) (genS c) (offS c + i) 1 = some [.int .i32 (xs[i])] := fun hi => Sl.lit hc hi
  repeat' ((first | refine s_line rfl ?_ | refine s_end rfl ?_ | refine s_seq ?_ | refine s_region ?_ | refine s_block ?_ | refine s_cond ?_ | refine s_ret ?_ | refine s_skip ?_ | refine s_exit ?_ | refine s_if (fun hif => ?_) (fun hif => ?_) | refine condB_dec (fun hif => ?_) (fun hif => ?_) | refine condB_of (fun hif => ?_) (fun hif => ?_) | (refine s_lelt ?_ ?_; omega) | (refine s_lt ?_ ?_; omega) | (refine s_le ?_ ?_; omega)) <;>
    (try simp -implicitDefEqProofs (disch := first | assumption | omega) only [sx, sb, sd, se, xwpStep, xwpOp, xwpInt, opEv, xres, oneOf, Nat.reduceAdd, Nat.reduceEqDiff, Nat.reduceSub, ↓reduceIte, reduceCtorEq, wrap_i64, Nat.zero_add, Int.toNat_natCast, *]))
  · exact ⟨_, rfl, fun _ => by subst hif; exact List.getElem_mem _, fun _ => by omega⟩
  · refine ⟨n - 1, by omega, i + 1, by omega, by simp, fun j hj hlt => ?_⟩
    rcases Nat.lt_succ_iff_lt_or_eq.1 hlt with h | rfl
    · exact a5 j hj h
    · exact fun e => hif e.symm
  · refine ⟨_, rfl, fun h => by omega, fun hm => ?_⟩
    obtain ⟨j, hj, e⟩ := List.getElem_of_mem hm
    exact absurd e (a5 j hj (by omega))

theorem Contains_ok {h : Heap} {c : V} {xs : List Int} (hc : Sl h c (xs.map (.int .i32))) (hlen : xs.length ≤ 9223372036854775806) (l : Int) : EvCall xprog H0 74 [c, .int .i32 l] h fun v h' => v = .bool (decide (l ∈ xs)) ∧ h' = h := by
  refine s_call (fn := xf74) rfl (free _ rfl ..) ?_
  have hr := hc.row
  simp -implicitDefEqProofs only [xf74, argsFrom_cons, argsFrom_nil]
  repeat' ((first | refine s_line rfl ?_ | refine s_end rfl ?_ | refine s_seq ?_ | refine s_region ?_ | refine s_block ?_ | refine s_cond ?_ | refine s_ret ?_ | refine s_skip ?_ | refine s_exit ?_ | refine s_if (fun hif => ?_) (fun hif => ?_) | refine condB_dec (fun hif => ?_) (fun hif => ?_) | refine condB_of (fun hif => ?_) (fun hif => ?_) | (refine s_lelt ?_ ?_; omega) | (refine s_lt ?_ ?_; omega) | (refine s_le ?_ ?_; omega) | ((refine evApply_call (Index_ok hc hlen l) ?_; rintro _ _ ⟨⟨r, rfl, hr⟩, rfl⟩))) <;>
    (try simp -implicitDefEqProofs (disch := first | assumption | omega) only [sx, sb, sd, se, xwpStep, xwpOp, xwpInt, opEv, xres, oneOf, Nat.reduceAdd, Nat.reduceEqDiff, Nat.reduceSub, ↓reduceIte, reduceCtorEq, *]))

theorem before_ok (a b : Int) (ha : I32ok a) (hb : I32ok b) (h : Heap) : EvCall xprog H0 98 [.int .i32 a, .int .i32 b] h fun v h' => v = .bool (litBefore a b) ∧ h' = h := by
  refine s_call (fn := xf98) rfl (free _ rfl ..) ?_
  obtain ⟨ha1, ha2⟩ := ha
  obtain ⟨hb1, hb2⟩ := hb
  simp -implicitDefEqProofs only [xf98, argsFrom_cons, argsFrom_nil]
  repeat' ((first | refine s_line rfl ?_ | refine s_end rfl ?_ | refine s_seq ?_ | refine s_region ?_ | refine s_block ?_ | refine s_cond ?_ | refine s_ret ?_ | refine s_skip ?_ | refine s_exit ?_ | refine s_if (fun hif => ?_) (fun hif => ?_) | refine condB_dec (fun hif => ?_) (fun hif => ?_) | refine condB_of (fun hif => ?_) (fun hif => ?_) | (refine s_lelt ?_ ?_; omega) | (refine s_lt ?_ ?_; omega) | (refine s_le ?_ ?_; omega) | (refine (evCall_iff (rVar_ok a ha1 ha2 _)).2 ?_) | (refine (evCall_iff (rVar_ok b hb1 hb2 _)).2 ?_)) <;>
    (try simp -implicitDefEqProofs (disch := first | assumption | omega) only [sx, sb, sd, se, xwpStep, xwpOp, xwpInt, opEv, xres, oneOf, Nat.reduceAdd, Nat.reduceEqDiff, Nat.reduceSub, ↓reduceIte, reduceCtorEq, *]))
  all_goals simp [litBefore, *]

/-- A literal's bounds. -/
def litFine (l : Int) : Bool := decide (l ≠ 0 ∧ -1048576 ≤ l ∧ l ≤ 1048576)
theorem Lit_ok (l : Int) (h : Heap) : EvCall xprog H0 59 [.int .i32 l] h fun v h' => v = .bool (litFine l) ∧ h' = h := by
  refine s_call (fn := xf59) rfl (free _ rfl ..) ?_
  simp -implicitDefEqProofs only [xf59, argsFrom_cons, argsFrom_nil]
  repeat' ((first | refine s_line rfl ?_ | refine s_end rfl ?_ | refine s_seq ?_ | refine s_region ?_ | refine s_block ?_ | refine s_cond ?_ | refine s_ret ?_ | refine s_skip ?_ | refine s_exit ?_ | refine s_if (fun hif => ?_) (fun hif => ?_) | refine condB_dec (fun hif => ?_) (fun hif => ?_) | refine condB_of (fun hif => ?_) (fun hif => ?_) | (refine s_lelt ?_ ?_; omega) | (refine s_lt ?_ ?_; omega) | (refine s_le ?_ ?_; omega)) <;>
    (try simp -implicitDefEqProofs (disch := first | assumption | omega) only [sx, sb, sd, se, xwpStep, xwpOp, xwpInt, opEv, xres, oneOf, Nat.reduceAdd, Nat.reduceEqDiff, Nat.reduceSub, ↓reduceIte, reduceCtorEq, *]))
  all_goals simp only [litFine, Int.negSucc_eq] at *
  all_goals simp [*]
  all_goals omega
end Go.Proofs.Ytmkbnbpblhoekaa
