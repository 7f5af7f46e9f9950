/- Where do hints below 0 begin? Has a clause a literal and its negation: the document's answer. -/
import Derived.Test.YtmkbnbpblhoekaaVCk9
set_option linter.unusedSimpArgs false
set_option linter.unusedVariables false
set_option linter.unusedSectionVars false
namespace Go.Proofs.Ytmkbnbpblhoekaa
open Go.Xr Go.Chk

theorem below_ok (l : Int) (h : Heap) : EvCall xprog H0 71 [.int .i64 l] h fun v h' => v = .bool (decide (l < 0)) ∧ h' = h := by
  refine s_call (fn := xf71) rfl (free _ rfl ..) ?_
  simp -implicitDefEqProofs only [xf71, argsFrom_cons, argsFrom_nil]
  repeat' ((first | refine s_line rfl ?_ | refine s_end rfl ?_ | refine s_seq ?_ | refine s_region ?_ | refine s_block ?_ | refine s_cond ?_ | refine s_ret ?_ | refine s_skip ?_ | refine s_exit ?_ | refine s_if (fun hif => ?_) (fun hif => ?_) | refine condB_dec (fun hif => ?_) (fun hif => ?_) | refine condB_of (fun hif => ?_) (fun hif => ?_) | (refine s_lelt ?_ ?_; omega) | (refine s_lt ?_ ?_; omega) | (refine s_le ?_ ?_; omega)) <;>
    (try simp -implicitDefEqProofs (disch := first | assumption | omega) only [sx, sb, sd, se, xwpStep, xwpOp, xwpInt, opEv, xres, oneOf, Nat.reduceAdd, Nat.reduceEqDiff, Nat.reduceSub, ↓reduceIte, reduceCtorEq, *]))

/-- slices.IndexFunc with what is below 0. -/
theorem IndexFunc_ok {h : Heap} {c : V} {xs : List Int} (hc : Sl h c (xs.map (.int .i64))) (hlen : xs.length ≤ 9223372036854775806) (hx : ∀ x ∈ xs, x ≠ 0) : EvCall xprog H0 70 [c, .func 71 [] []] h fun v h' => v = .int .i64 (if headN xs < xs.length then (headN xs : Int) else -1) ∧ h' = h := by
  refine s_call (fn := xf70) rfl (free _ rfl ..) ?_
  have hl := hc.len
  have hr := hc.row
  simp only [List.length_map] at hl
  simp -implicitDefEqProofs only [xf70, argsFrom_cons, argsFrom_nil]
  repeat' ((first | refine s_line rfl ?_ | refine s_end rfl ?_ | refine s_seq ?_ | refine s_region ?_ | refine s_block ?_ | refine s_cond ?_ | refine s_ret ?_ | refine s_skip ?_ | refine s_exit ?_ | refine s_if (fun hif => ?_) (fun hif => ?_) | refine condB_dec (fun hif => ?_) (fun hif => ?_) | refine condB_of (fun hif => ?_) (fun hif => ?_) | (refine s_lelt ?_ ?_; omega) | (refine s_lt ?_ ?_; omega) | (refine s_le ?_ ?_; omega)) <;>
    (try simp -implicitDefEqProofs (disch := first | assumption | omega) only [sx, sb, sd, se, xwpStep, xwpOp, xwpInt, opEv, xres, oneOf, Nat.reduceAdd, Nat.reduceEqDiff, Nat.reduceSub, ↓reduceIte, reduceCtorEq, wrap_i64, *]))
  refine s_while (fun n t d h' => ∃ i : Nat, i + n = xs.length ∧ slotOf t 8 = .int .i64 i ∧ slotOf t 7 = .int .i64 xs.length ∧ slotOf t 0 = c ∧ slotOf t 1 = .func 71 [] [] ∧ d = [] ∧ h' = h ∧ ∀ j (hj : j < xs.length), j < i → 0 < xs[j]) (fun _ _ _ => free_code ..) xs.length ⟨0, by omega, by simp [slotOf_set], by simp [slotOf_set], by simp [slotOf_set], by simp [slotOf_set], rfl, rfl, fun j _ hj => by omega⟩ ?_
  rintro n t d h' ⟨i, a1, a2, a2', a3, a4, rfl, rfl, a5⟩
  have rx : ∀ (hi : i < xs.length), readCells h' (objS c) (genS c) (offS c + i) 1 = some [.int .i64 (xs[i])] := fun hi => hc.at (by simp [hi])
  repeat' ((first | refine s_line rfl ?_ | refine s_end rfl ?_ | refine s_seq ?_ | refine s_region ?_ | refine s_block ?_ | refine s_cond ?_ | refine s_ret ?_ | refine s_skip ?_ | refine s_exit ?_ | refine s_if (fun hif => ?_) (fun hif => ?_) | refine condB_dec (fun hif => ?_) (fun hif => ?_) | refine condB_of (fun hif => ?_) (fun hif => ?_) | (refine s_lelt ?_ ?_; omega) | (refine s_lt ?_ ?_; omega) | (refine s_le ?_ ?_; omega) | (refine (evCall_iff (below_ok _ _)).2 ?_)) <;>
    (try simp -implicitDefEqProofs (disch := first | assumption | omega) only [sx, sb, sd, se, xwpStep, xwpOp, xwpInt, opEv, xres, oneOf, Nat.reduceAdd, Nat.reduceEqDiff, Nat.reduceSub, ↓reduceIte, reduceCtorEq, wrap_i64, Nat.zero_add, Int.toNat_natCast, *]))
  · have : headN xs = i := headN_eq (by omega) a5 fun hj => by omega
    rw [this, if_pos (by omega)]
  · refine ⟨n - 1, by omega, i + 1, by omega, by simp, fun j hj hlt => ?_⟩
    rcases Nat.lt_succ_iff_lt_or_eq.1 hlt with h | rfl
    · exact a5 j hj h
    · have := hx _ (List.getElem_mem hj)
      omega
  · have : headN xs = xs.length := headN_eq (Nat.le_refl _) (fun j hj _ => a5 j hj (by omega)) fun hj => by omega
    rw [this, if_neg (by omega)]
    rfl

theorem head_ok {h : Heap} {c : V} {xs : List Int} (hc : Sw h c (xs.map (.int .i64))) (hlen : xs.length ≤ 9223372036854775806) (hx : ∀ x ∈ xs, x ≠ 0) : EvCall xprog H0 53 [c] h fun v h' => (∃ a b, v = .tup [a, b] ∧ Sw h a ((xs.take (headN xs)).map (.int .i64)) ∧ Sw h b ((xs.drop (headN xs)).map (.int .i64))) ∧ h' = h := by
  refine s_call (fn := xf53) rfl (free _ rfl ..) ?_
  have hl := hc.sl.len
  have hr := hc.sl.row
  have hn := headN_le xs
  simp only [List.length_map] at hl
  have hi := IndexFunc_ok hc.sl hlen hx
  by_cases hh : headN xs < xs.length
  · rw [if_pos hh] at hi
    simp -implicitDefEqProofs only [xf53, argsFrom_cons, argsFrom_nil]
    repeat' ((first | refine s_line rfl ?_ | refine s_end rfl ?_ | refine s_seq ?_ | refine s_region ?_ | refine s_block ?_ | refine s_cond ?_ | refine s_ret ?_ | refine s_skip ?_ | refine s_exit ?_ | refine s_if (fun hif => ?_) (fun hif => ?_) | refine condB_dec (fun hif => ?_) (fun hif => ?_) | refine condB_of (fun hif => ?_) (fun hif => ?_) | (refine s_lelt ?_ ?_; omega) | (refine s_lt ?_ ?_; omega) | (refine s_le ?_ ?_; omega) | (refine (evCall_iff hi).2 ?_) | ((refine x_sw_hi hc (by omega) (by simp; omega) ?_; intro ra qa)) | ((refine x_sw_lo hc (by omega) (by simp; omega) ?_; intro rb qb))) <;>
      (try simp -implicitDefEqProofs (disch := first | assumption | omega) only [sx, sb, sd, se, xwpStep, xwpOp, xwpInt, opEv, xres, oneOf, Nat.reduceAdd, Nat.reduceEqDiff, Nat.reduceSub, ↓reduceIte, reduceCtorEq, Int.toNat_natCast, *]))
    · rw [Int.toNat_natCast, ← List.map_take] at qa
      rw [Int.toNat_natCast, ← List.map_drop] at qb
      exact ⟨ra, rb, rfl, qa, qb⟩
  · rw [if_neg hh] at hi
    have he : headN xs = xs.length := by omega
    simp -implicitDefEqProofs only [xf53, argsFrom_cons, argsFrom_nil]
    repeat' ((first | refine s_line rfl ?_ | refine s_end rfl ?_ | refine s_seq ?_ | refine s_region ?_ | refine s_block ?_ | refine s_cond ?_ | refine s_ret ?_ | refine s_skip ?_ | refine s_exit ?_ | refine s_if (fun hif => ?_) (fun hif => ?_) | refine condB_dec (fun hif => ?_) (fun hif => ?_) | refine condB_of (fun hif => ?_) (fun hif => ?_) | (refine s_lelt ?_ ?_; omega) | (refine s_lt ?_ ?_; omega) | (refine s_le ?_ ?_; omega) | (refine (evCall_iff hi).2 ?_) | ((refine x_sw_hi hc (by omega) (by simp) ?_; intro ra qa)) | ((refine x_sw_lo hc (by omega) (by simp) ?_; intro rb qb))) <;>
      (try simp -implicitDefEqProofs (disch := first | assumption | omega) only [sx, sb, sd, se, xwpStep, xwpOp, xwpInt, opEv, xres, oneOf, Nat.reduceAdd, Nat.reduceEqDiff, Nat.reduceSub, ↓reduceIte, reduceCtorEq, Int.toNat_natCast, *]))
    · rw [Int.toNat_natCast, ← List.map_take] at qa
      rw [Int.toNat_natCast, ← List.map_drop] at qb
      exact ⟨ra, rb, rfl, qa, qb⟩

theorem rhead_ok {h : Heap} {c : V} {xs : List Int} (hc : Sl h c (xs.map (.int .i64))) (hlen : xs.length ≤ 9223372036854775806) : EvCall xprog H0 62 [c] h fun v h' => v = .int .i64 (headN xs : Nat) ∧ h' = h := by
  refine s_call (fn := xf62) rfl (free _ rfl ..) ?_
  have hl := hc.len
  have hr := hc.row
  simp only [List.length_map] at hl
  simp -implicitDefEqProofs only [xf62, argsFrom_cons, argsFrom_nil]
  repeat' ((first | refine s_line rfl ?_ | refine s_end rfl ?_ | refine s_seq ?_ | refine s_region ?_ | refine s_block ?_ | refine s_cond ?_ | refine s_ret ?_ | refine s_skip ?_ | refine s_exit ?_ | refine s_if (fun hif => ?_) (fun hif => ?_) | refine condB_dec (fun hif => ?_) (fun hif => ?_) | refine condB_of (fun hif => ?_) (fun hif => ?_) | (refine s_lelt ?_ ?_; omega) | (refine s_lt ?_ ?_; omega) | (refine s_le ?_ ?_; omega)) <;>
    (try simp -implicitDefEqProofs (disch := first | assumption | omega) only [sx, sb, sd, se, xwpStep, xwpOp, xwpInt, opEv, xres, oneOf, Nat.reduceAdd, Nat.reduceEqDiff, Nat.reduceSub, ↓reduceIte, reduceCtorEq, wrap_i64, *]))
  refine s_while (fun n t d h' => ∃ i : Nat, i + n = xs.length ∧ slotOf t 3 = .int .i64 i ∧ slotOf t 0 = c ∧ d = [] ∧ h' = h ∧ ∀ j (hj : j < xs.length), j < i → 0 < xs[j]) (fun _ _ _ => free_code ..) xs.length ⟨0, by omega, by simp [slotOf_set], by simp [slotOf_set], rfl, rfl, fun j _ hj => by omega⟩ ?_
  rintro n t d h' ⟨i, a1, a2, a3, rfl, rfl, a5⟩
  have rx : ∀ (hi : i < xs.length), readCells h' (objS c) (genS c) (offS c + i) 1 = some [.int .i64 (xs[i])] := fun hi => hc.at (by simp [hi])
  repeat' ((first | refine s_line rfl ?_ | refine s_end rfl ?_ | refine s_seq ?_ | refine s_region ?_ | refine s_block ?_ | refine s_cond ?_ | refine s_ret ?_ | refine s_skip ?_ | refine s_exit ?_ | refine s_if (fun hif => ?_) (fun hif => ?_) | refine condB_dec (fun hif => ?_) (fun hif => ?_) | refine condB_of (fun hif => ?_) (fun hif => ?_) | (refine s_lelt ?_ ?_; omega) | (refine s_lt ?_ ?_; omega) | (refine s_le ?_ ?_; omega)) <;>
    (try simp -implicitDefEqProofs (disch := first | assumption | omega) only [sx, sb, sd, se, xwpStep, xwpOp, xwpInt, opEv, xres, oneOf, Nat.reduceAdd, Nat.reduceEqDiff, Nat.reduceSub, ↓reduceIte, reduceCtorEq, wrap_i64, Nat.zero_add, Int.toNat_natCast, *]))
  · refine ⟨n - 1, by omega, i + 1, by omega, by simp, fun j hj hlt => ?_⟩
    rcases Nat.lt_succ_iff_lt_or_eq.1 hlt with h | rfl
    · exact a5 j hj h
    · assumption
  · rw [headN_eq (by omega) a5 fun hj => by assumption]
  · rw [headN_eq (by omega) a5 fun hj => by omega]
end Go.Proofs.Ytmkbnbpblhoekaa
