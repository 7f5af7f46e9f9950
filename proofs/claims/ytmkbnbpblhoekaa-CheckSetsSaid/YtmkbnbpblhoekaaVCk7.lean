/- May a step be? The program's answer. -/
import Derived.Test.YtmkbnbpblhoekaaVCk6
set_option linter.unusedSimpArgs false
set_option linter.unusedVariables false
set_option linter.unusedSectionVars false
namespace Go.Proofs.Ytmkbnbpblhoekaa
open Go.Xr

def hintFine (kind h : Int) : Bool := decide (h ≠ 0 ∧ -4611686018427387903 ≤ h ∧ h ≤ 4611686018427387903 ∧ ¬(h < 0 ∧ kind = 2))
def tailFine (kind id : Int) (n : Nat) : Bool := if kind = 1 then decide (1 ≤ id ∧ id ≤ 4611686018427387903) else if kind = 2 then decide (0 ≤ id ∧ id ≤ 4611686018427387903 ∧ n = 0) else false
def mayOf (kind id : Int) (lits hints : List Int) : Bool := lits.all litFine && hints.all (hintFine kind) && tailFine kind id lits.length

set_option maxHeartbeats 8000000 in
theorem may_ok {h : Heap} {kind id : Int} {lv hv : V} {lits hints : List Int} (hl : Sl h lv (lits.map (.int .i32))) (hh : Sl h hv (hints.map (.int .i64))) (h1 : lits.length ≤ 1000000) (h2 : hints.length ≤ 1000000) :
    EvCall xprog H0 32 [.agg [.int .u8 kind, .int .i64 id, lv, hv]] h fun v h' => v = .bool (mayOf kind id lits hints) ∧ Ext h h' := by
  refine s_call (fn := xf32) rfl (free _ rfl ..) ?_
  generalize hH1 : newCells h [.int .u8 kind, .int .i64 id, lv, hv] 1 false = H1
  have x1 : Ext h H1 := hH1 ▸ Ext.new ..
  have g1 : H1.get h.next = some (arr [.int .u8 kind, .int .i64 id, lv, hv] 1 false) := by rw [← hH1]; exact get_new ..
  have r0 := readCell (off := 0) g1 rfl
  have r1 := readCell (off := 1) g1 rfl
  have r2 := readCell (off := 2) g1 rfl
  have r3 := readCell (off := 3) g1 rfl
  have el := hl.len
  have rl := hl.row
  have eh := hh.len
  have rh := hh.row
  simp only [List.length_map] at el eh
  have hrl : ∀ (k : Nat), k < lits.length → readCells H1 (objS lv) (genS lv) (offS lv + k) 1 = some [.int .i32 (lits.getD k 0)] := fun k hk => (hl.ext x1).at (by simp [hk])
  have hrh : ∀ (k : Nat), k < hints.length → readCells H1 (objS hv) (genS hv) (offS hv + k) 1 = some [.int .i64 (hints.getD k 0)] := fun k hk => (hh.ext x1).at (by simp [hk])
  clear hl hh g1
  simp -implicitDefEqProofs only [xf32, argsFrom_cons, argsFrom_nil]
  repeat' ((first | refine s_line rfl ?_ | refine s_end rfl ?_ | refine s_seq ?_ | refine s_region ?_ | refine s_block ?_ | refine s_cond ?_ | refine s_ret ?_ | refine s_skip ?_ | refine s_exit ?_ | refine s_if (fun hif => ?_) (fun hif => ?_) | refine condB_dec (fun hif => ?_) (fun hif => ?_) | refine condB_of (fun hif => ?_) (fun hif => ?_) | (refine s_lelt ?_ ?_; omega) | (refine s_lt ?_ ?_; omega) | (refine s_le ?_ ?_; omega)) <;>
    (try simp -implicitDefEqProofs (disch := first | assumption | omega) only [sx, sb, sd, se, xwpStep, xwpOp, xwpInt, opEv, xres, oneOf, Nat.reduceAdd, Nat.reduceEqDiff, Nat.reduceSub, ↓reduceIte, reduceCtorEq, wrap_i64, Nat.zero_add, *]))
  refine s_while (fun n t d h' => ∃ i : Nat, i + n = lits.length ∧ slotOf t 10 = .int .i64 i ∧ slotOf t 9 = .int .i64 lits.length ∧ slotOf t 8 = lv ∧ slotOf t 1 = .ptr h.next 0 0 ∧ d = [] ∧ h' = H1 ∧ ∀ j, j < lits.length → j < i → litFine (lits.getD j 0) = true) (fun _ _ _ => free_code ..) lits.length ⟨0, by omega, by simp [slotOf_set], by simp [slotOf_set], by simp [slotOf_set], by simp [slotOf_set], rfl, rfl, fun j _ hj => by omega⟩ ?_
  rintro n t d h' ⟨i, a1, a2, a3, a4, a5, rfl, rfl, a7⟩
  have rx := hrl i
  have hno : i < lits.length → litFine (lits.getD i 0) = false → mayOf kind id lits hints = false := fun hi hf => by
    have : lits.all litFine = false := by
      rw [List.all_eq_false]
      exact ⟨_, List.getElem_mem hi, by simpa [hi] using hf⟩
    simp [mayOf, this]
  repeat' ((first | refine s_line rfl ?_ | refine s_end rfl ?_ | refine s_seq ?_ | refine s_region ?_ | refine s_block ?_ | refine s_cond ?_ | refine s_ret ?_ | refine s_skip ?_ | refine s_exit ?_ | refine s_if (fun hif => ?_) (fun hif => ?_) | refine condB_dec (fun hif => ?_) (fun hif => ?_) | refine condB_of (fun hif => ?_) (fun hif => ?_) | (refine s_lelt ?_ ?_; omega) | (refine s_lt ?_ ?_; omega) | (refine s_le ?_ ?_; omega)) <;>
    (try simp -implicitDefEqProofs (disch := first | assumption | omega) only [sx, sb, sd, se, xwpStep, xwpOp, xwpInt, opEv, xres, oneOf, Nat.reduceAdd, Nat.reduceEqDiff, Nat.reduceSub, ↓reduceIte, reduceCtorEq, wrap_i64, Nat.zero_add, Int.toNat_natCast, *]))
  · rw [hno (by omega) (decide_eq_false (by omega))]
  · rw [hno (by omega) (decide_eq_false (by simp only [Int.negSucc_eq] at *; omega))]
  · rw [hno (by omega) (decide_eq_false (by omega))]
  · refine ⟨n - 1, by omega, i + 1, by omega, by simp, fun j hj hlt => ?_⟩
    rcases Nat.lt_succ_iff_lt_or_eq.1 hlt with h | rfl
    · exact a7 j hj h
    · exact decide_eq_true (by simp only [Int.negSucc_eq] at *; omega)
  have hi : i = lits.length := by omega
  have hall : lits.all litFine = true := by
    rw [List.all_eq_true]
    intro x hx
    obtain ⟨j, hj, rfl⟩ := List.getElem_of_mem hx
    have := a7 j hj (by omega)
    simpa [hj] using this
  clear hno rx hrl a2 a3 a4 a7
  refine s_while (fun n2 t d h2 => ∃ k : Nat, k + n2 = hints.length ∧ slotOf t 28 = .int .i64 k ∧ slotOf t 27 = .int .i64 hints.length ∧ slotOf t 26 = hv ∧ slotOf t 1 = .ptr h.next 0 0 ∧ d = [] ∧ h2 = h' ∧ ∀ j, j < hints.length → j < k → hintFine kind (hints.getD j 0) = true) (fun _ _ _ => free_code ..) hints.length ⟨0, by omega, by simp [slotOf_set], by simp [slotOf_set], by simp [slotOf_set], by simp [slotOf_set, a5], rfl, rfl, fun j _ hj => by omega⟩ ?_
  rintro n2 t2 d2 h2 ⟨k, b1, b2, b3, b4, b5, rfl, rfl, b7⟩
  have rx := hrh k
  have hno : k < hints.length → hintFine kind (hints.getD k 0) = false → mayOf kind id lits hints = false := fun hi hf => by
    have : hints.all (hintFine kind) = false := by
      rw [List.all_eq_false]
      exact ⟨_, List.getElem_mem hi, by simpa [hi] using hf⟩
    simp [mayOf, this]
  clear hrh a5 a1
  repeat' ((first | refine s_line rfl ?_ | refine s_end rfl ?_ | refine s_seq ?_ | refine s_region ?_ | refine s_block ?_ | refine s_cond ?_ | refine s_ret ?_ | refine s_skip ?_ | refine s_exit ?_ | refine s_if (fun hif => ?_) (fun hif => ?_) | refine condB_dec (fun hif => ?_) (fun hif => ?_) | refine condB_of (fun hif => ?_) (fun hif => ?_) | (refine s_lelt ?_ ?_; omega) | (refine s_lt ?_ ?_; omega) | (refine s_le ?_ ?_; omega)) <;>
    (try simp -implicitDefEqProofs (disch := first | assumption | omega) only [sx, sb, sd, se, xwpStep, xwpOp, xwpInt, opEv, xres, oneOf, Nat.reduceAdd, Nat.reduceEqDiff, Nat.reduceSub, ↓reduceIte, reduceCtorEq, wrap_i64, Nat.zero_add, Int.toNat_natCast, *]))
  · rw [hno (by omega) (decide_eq_false (by omega))]
  · rw [hno (by omega) (decide_eq_false (by simp only [Int.negSucc_eq] at *; omega))]
  · rw [hno (by omega) (decide_eq_false (by omega))]
  · subst hif
    rw [hno (by omega) (decide_eq_false (by omega))]
  · refine ⟨n2 - 1, by omega, k + 1, by omega, by simp, fun j hj hlt => ?_⟩
    rcases Nat.lt_succ_iff_lt_or_eq.1 hlt with h | rfl
    · exact b7 j hj h
    · exact decide_eq_true (by simp only [Int.negSucc_eq] at *; omega)
  · refine ⟨n2 - 1, by omega, k + 1, by omega, by simp, fun j hj hlt => ?_⟩
    rcases Nat.lt_succ_iff_lt_or_eq.1 hlt with h | rfl
    · exact b7 j hj h
    · exact decide_eq_true (by simp only [Int.negSucc_eq] at *; omega)
  all_goals
    have hallh : hints.all (hintFine kind) = true := by
      rw [List.all_eq_true]
      intro x hx
      obtain ⟨j, hj, rfl⟩ := List.getElem_of_mem hx
      have := b7 j hj (by omega)
      simpa [hj] using this
    subst_vars
    simp only [mayOf, hall, hallh, tailFine, Bool.true_and]
    simp [*]
    try omega
end Go.Proofs.Ytmkbnbpblhoekaa
