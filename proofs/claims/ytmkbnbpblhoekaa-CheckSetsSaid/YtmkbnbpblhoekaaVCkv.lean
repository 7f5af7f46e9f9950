/- cnf.Normal once more: its row is new. -/
import Derived.Test.YtmkbnbpblhoekaaVCkt
set_option linter.unusedSimpArgs false
set_option linter.unusedVariables false
set_option linter.unusedSectionVars false
namespace Go.Proofs.Ytmkbnbpblhoekaa
open Go.Xr Go.Chk

theorem Clip2_ok {b : Nat} {h : Heap} {v : V} {ys : List V} (hv : OwnP b h v ys) : EvCall xprog H0 69 [v] h fun v' h' => Sl h v' ys ∧ (ys ≠ [] → ∀ x, rowObj v' = some x → b ≤ x) ∧ h' = h := by
  refine s_call (fn := xf69) rfl (free _ rfl ..) ?_
  rcases hv with ⟨rfl, rfl | ⟨o, g, off, rfl⟩⟩ | ⟨o, g, r, cs, hb, hlt, rfl, hg, ht, hle⟩
  · simp -implicitDefEqProofs only [xf69, argsFrom_cons, argsFrom_nil]
    repeat' ((first | refine s_line rfl ?_ | refine s_end rfl ?_ | refine s_seq ?_ | refine s_region ?_ | refine s_block ?_ | refine s_cond ?_ | refine s_ret ?_ | refine s_skip ?_ | refine s_exit ?_ | refine s_if (fun hif => ?_) (fun hif => ?_) | refine condB_dec (fun hif => ?_) (fun hif => ?_) | refine condB_of (fun hif => ?_) (fun hif => ?_) | (refine s_lelt ?_ ?_; omega) | (refine s_lt ?_ ?_; omega) | (refine s_le ?_ ?_; omega) | (refine x_slc_nil ?_)) <;>
      (try simp -implicitDefEqProofs (disch := first | assumption | omega) only [sx, sb, sd, se, xwpStep, xwpOp, xwpInt, opEv, xres, oneOf, Nat.reduceAdd, Nat.reduceEqDiff, Nat.reduceSub, ↓reduceIte, reduceCtorEq, rowS, lenS, List.length_nil, *]))
    exact ⟨.inl ⟨rfl, rfl⟩, fun q => by first | exact q.elim | exact absurd rfl q⟩
  · simp -implicitDefEqProofs only [xf69, argsFrom_cons, argsFrom_nil]
    repeat' ((first | refine s_line rfl ?_ | refine s_end rfl ?_ | refine s_seq ?_ | refine s_region ?_ | refine s_block ?_ | refine s_cond ?_ | refine s_ret ?_ | refine s_skip ?_ | refine s_exit ?_ | refine s_if (fun hif => ?_) (fun hif => ?_) | refine condB_dec (fun hif => ?_) (fun hif => ?_) | refine condB_of (fun hif => ?_) (fun hif => ?_) | (refine s_lelt ?_ ?_; omega) | (refine s_lt ?_ ?_; omega) | (refine s_le ?_ ?_; omega) | (refine x_slc_empty ?_)) <;>
      (try simp -implicitDefEqProofs (disch := first | assumption | omega) only [sx, sb, sd, se, xwpStep, xwpOp, xwpInt, opEv, xres, oneOf, Nat.reduceAdd, Nat.reduceEqDiff, Nat.reduceSub, ↓reduceIte, reduceCtorEq, rowS, lenS, List.length_nil, *]))
    exact ⟨.inr ⟨_, _, _, _, rfl, fun q => by cases q⟩, fun q => by first | exact q.elim | exact absurd rfl q⟩
  · simp -implicitDefEqProofs only [xf69, argsFrom_cons, argsFrom_nil]
    repeat' ((first | refine s_line rfl ?_ | refine s_end rfl ?_ | refine s_seq ?_ | refine s_region ?_ | refine s_block ?_ | refine s_cond ?_ | refine s_ret ?_ | refine s_skip ?_ | refine s_exit ?_ | refine s_if (fun hif => ?_) (fun hif => ?_) | refine condB_dec (fun hif => ?_) (fun hif => ?_) | refine condB_of (fun hif => ?_) (fun hif => ?_) | (refine s_lelt ?_ ?_; omega) | (refine s_lt ?_ ?_; omega) | (refine s_le ?_ ?_; omega) | (refine x_slc_clip ?_)) <;>
      (try simp -implicitDefEqProofs (disch := first | assumption | omega) only [sx, sb, sd, se, xwpStep, xwpOp, xwpInt, opEv, xres, oneOf, Nat.reduceAdd, Nat.reduceEqDiff, Nat.reduceSub, ↓reduceIte, reduceCtorEq, rowS, lenS, *]))
    exact ⟨.inr ⟨o, g, 0, _, rfl, fun _ => ⟨hlt, by rw [readCells_grown hg (by omega), List.drop_zero, ht]⟩⟩, fun _ x hx => by cases hx; exact hb⟩

set_option maxHeartbeats 4000000 in
theorem Normal2_ok {h : Heap} {c : V} {xs : List Int} (hc : Sl h c (xs.map (.int .i32))) (hx : ∀ x ∈ xs, I32ok x) (hl : xs.length ≤ 1000000000) :
    EvCall xprog H0 48 [c] h fun v h' => (∃ w, v = .tup [w, .bool (bothN (nrm xs) (nrm xs).length)] ∧ Sl h' w ((nrm xs).map (.int .i32)) ∧ ((nrm xs).map (V.int .i32) ≠ [] → ∀ x, rowObj w = some x → h.next ≤ x)) ∧ Ext h h' := by
  refine s_call (fn := xf48) rfl (free _ rfl ..) ?_
  have hsl : (sortLits xs).length = xs.length := (sortLits_perm xs).length_eq
  have hcl := Clone_ok hc (fun x hx => by obtain ⟨n, _, rfl⟩ := List.mem_map.1 hx; rfl) (by simp; omega)
  have hso : ∀ {v : V} {h1 : Heap}, Own h.next h1 v (xs.map (.int .i32)) → EvCall xprog H0 66 [v, .func 67 [] []] h1 fun _ h' => Own h.next h' v ((sortLits xs).map (.int .i32)) ∧ But (fun o => h.next ≤ o) h1 h' := fun hv => SortFunc_ok hv hx hl
  have hco : ∀ {v : V} {h1 : Heap}, Own h.next h1 v ((sortLits xs).map (.int .i32)) → EvCall xprog H0 68 [v] h1 fun v' h' => OwnP h.next h' v' ((nrm xs).map (.int .i32)) ∧ But (fun o => h.next ≤ o) h1 h' := fun hv => Compact_ok hv (by omega)
  simp -implicitDefEqProofs only [xf48, argsFrom_cons, argsFrom_nil]
  repeat' ((first | refine s_line rfl ?_ | refine s_end rfl ?_ | refine s_seq ?_ | refine s_region ?_ | refine s_block ?_ | refine s_cond ?_ | refine s_ret ?_ | refine s_skip ?_ | refine s_exit ?_ | refine s_if (fun hif => ?_) (fun hif => ?_) | refine condB_dec (fun hif => ?_) (fun hif => ?_) | refine condB_of (fun hif => ?_) (fun hif => ?_) | (refine s_lelt ?_ ?_; omega) | (refine s_lt ?_ ?_; omega) | (refine s_le ?_ ?_; omega) | ((refine evApply_call hcl ?_; rintro v1 h1 ⟨o1, x1⟩)) | ((refine evApply_call (hso (by assumption)) ?_; rintro _ h2 ⟨o2, x2⟩)) | ((refine evApply_call (hco (by assumption)) ?_; rintro v3 h3 ⟨o3, x3⟩; have hr3 := o3.row; have hl3 := o3.len))) <;>
    (try simp -implicitDefEqProofs (disch := first | assumption | omega) only [sx, sb, sd, se, xwpStep, xwpOp, xwpInt, opEv, xres, oneOf, Nat.reduceAdd, Nat.reduceEqDiff, Nat.reduceSub, ↓reduceIte, reduceCtorEq, wrap_i64, *]))
  have hym : ∀ y ∈ nrm xs, I32ok y := fun y hy => hx y (nrm_mem hy)
  have hyl : (nrm xs).length ≤ 1000000000 := Nat.le_trans (cpt_len _ _) (by omega)
  generalize hys : nrm xs = ys at *
  simp only [List.length_map] at hl3 ⊢
  have hsl3 := o3.sl
  have x23 : Ext h h3 := ext_but x1 (x2.trans x3)
  refine s_while (fun n t d h' => ∃ i : Nat, i + n = ys.length ∧ slotOf t 15 = .int .i64 i ∧ slotOf t 14 = .int .i64 ys.length ∧ slotOf t 4 = v3 ∧ slotOf t 5 = .bool (bothN ys i) ∧ d = [] ∧ h' = h3) (fun _ _ _ => free_code ..) ys.length ⟨0, by omega, by simp [slotOf_set], by simp [slotOf_set], by simp [slotOf_set], by simp [slotOf_set, bothN], rfl, rfl⟩ ?_
  rintro n t d h' ⟨i, a1, a2, a3, a4, a5, rfl, rfl⟩
  have rx : i < ys.length → readCells h' (objS v3) (genS v3) (offS v3 + i) 1 = some [.int .i32 (ys.getD i 0)] := fun hi => hsl3.at (by simp [hi])
  have rx2 : i < ys.length → readCells h' (objS v3) (genS v3) (offS v3 + (i - 1)) 1 = some [.int .i32 (ys.getD (i - 1) 0)] := fun hi => hsl3.at (by simp [show i - 1 < ys.length by omega])
  have et : ((i : Int) - 1).toNat = i - 1 := by omega
  clear hc hcl hso hco o1 o2 x1 x2 x3 hsl3
  cases hbb : bothN ys i
  · rw [hbb] at a5
    repeat' ((first | refine s_line rfl ?_ | refine s_end rfl ?_ | refine s_seq ?_ | refine s_region ?_ | refine s_block ?_ | refine s_cond ?_ | refine s_ret ?_ | refine s_skip ?_ | refine s_exit ?_ | refine s_if (fun hif => ?_) (fun hif => ?_) | refine condB_dec (fun hif => ?_) (fun hif => ?_) | refine condB_of (fun hif => ?_) (fun hif => ?_) | (refine s_lelt ?_ ?_; omega) | (refine s_lt ?_ ?_; omega) | (refine s_le ?_ ?_; omega) | ((refine evApply_call (Clip2_ok o3) ?_; rintro v4 h4 ⟨o4, o5, rfl⟩))) <;>
      (try simp -implicitDefEqProofs (disch := first | assumption | omega) only [sx, sb, sd, se, xwpStep, xwpOp, xwpInt, opEv, xres, oneOf, Nat.reduceAdd, Nat.reduceEqDiff, Nat.reduceSub, ↓reduceIte, reduceCtorEq, wrap_i64, Nat.zero_add, Int.toNat_natCast, et, *]))
    · refine ⟨n - 1, by omega, i + 1, by omega, by simp, ?_⟩
      rw [bothN_succ, hbb, Bool.false_or]
      have hi : i < ys.length := by omega
      have g1 : ys.getD i 0 = ys[i] := by simp [hi]
      have g2 : ys.getD (i - 1) 0 = ys[i - 1]'(by omega) := by simp [show i - 1 < ys.length by omega]
      have k1 := hym _ (List.getElem_mem hi)
      have k2 := hym _ (List.getElem_mem (show i - 1 < ys.length by omega))
      refine congrArg V.bool ?_
      unfold bothAt
      apply decide_eq_decide.2
      rw [← g1] at k1
      rw [← g2] at k2
      rw [wrap_neg k2 hif k1.2]
      constructor
      · intro e; exact ⟨by omega, hif, e⟩
      · intro e; exact e.2.2
    · refine ⟨n - 1, by omega, i + 1, by omega, by simp, ?_⟩
      rw [bothN_succ, hbb, Bool.false_or]
      exact congrArg V.bool (decide_eq_false fun q => hif q.2.1).symm
    · refine ⟨n - 1, by omega, i + 1, by omega, by simp, ?_⟩
      rw [bothN_succ, hbb, Bool.false_or]
      exact congrArg V.bool (decide_eq_false fun q => hif (by omega)).symm
    · have hi : i = ys.length := by omega
      rw [hi] at hbb
      exact ⟨v4, by rw [hbb], o4, o5⟩
  · rw [hbb] at a5
    repeat' ((first | refine s_line rfl ?_ | refine s_end rfl ?_ | refine s_seq ?_ | refine s_region ?_ | refine s_block ?_ | refine s_cond ?_ | refine s_ret ?_ | refine s_skip ?_ | refine s_exit ?_ | refine s_if (fun hif => ?_) (fun hif => ?_) | refine condB_dec (fun hif => ?_) (fun hif => ?_) | refine condB_of (fun hif => ?_) (fun hif => ?_) | (refine s_lelt ?_ ?_; omega) | (refine s_lt ?_ ?_; omega) | (refine s_le ?_ ?_; omega) | ((refine evApply_call (Clip2_ok o3) ?_; rintro v4 h4 ⟨o4, o5, rfl⟩))) <;>
      (try simp -implicitDefEqProofs (disch := first | assumption | omega) only [sx, sb, sd, se, xwpStep, xwpOp, xwpInt, opEv, xres, oneOf, Nat.reduceAdd, Nat.reduceEqDiff, Nat.reduceSub, ↓reduceIte, reduceCtorEq, wrap_i64, Nat.zero_add, Int.toNat_natCast, et, *]))
    · refine ⟨n - 1, by omega, i + 1, by omega, by simp, ?_⟩
      rw [bothN_succ, hbb, Bool.true_or]
    · have hi : i = ys.length := by omega
      rw [hi] at hbb
      exact ⟨v4, by rw [hbb], o4, o5⟩

theorem addKey_mem {n : Int} {v : V} : ∀ {es : List (Int × V)} {k : Int}, k ∈ (addKey n v es).map Prod.fst → k = n ∨ k ∈ es.map Prod.fst
  | [], k, h => by simpa [addKey] using h
  | (a, x) :: r, k, h => by
    unfold addKey at h
    by_cases h1 : n < a
    · rw [decide_eq_true h1] at h
      simpa using h
    · rw [decide_eq_false h1] at h
      simp only at h
      by_cases h2 : a < n
      · rw [decide_eq_true h2] at h
        simp only [List.map_cons, List.mem_cons] at h ⊢
        rcases h with h | h
        · exact .inr (.inl h)
        · exact (addKey_mem h).imp (fun q => q) .inr
      · rw [decide_eq_false h2] at h
        simp only [List.map_cons, List.mem_cons] at h ⊢
        exact h.imp (fun q => q) .inr
theorem addKey_rise {n : Int} {v : V} : ∀ {es : List (Int × V)}, (es.map Prod.fst).Pairwise (· < ·) → ((addKey n v es).map Prod.fst).Pairwise (· < ·)
  | [], _ => by simp [addKey]
  | (a, x) :: r, h => by
    rw [List.map_cons, List.pairwise_cons] at h
    unfold addKey
    by_cases h1 : n < a
    · rw [decide_eq_true h1]
      simp only [List.map_cons, List.pairwise_cons]
      refine ⟨fun z hz => ?_, h.1, h.2⟩
      rcases List.mem_cons.1 hz with rfl | hz
      · exact h1
      · have := h.1 z hz
        simp only at this
        omega
    · rw [decide_eq_false h1]
      simp only
      by_cases h2 : a < n
      · rw [decide_eq_true h2]
        simp only [List.map_cons, List.pairwise_cons]
        refine ⟨fun z hz => ?_, addKey_rise h.2⟩
        rcases addKey_mem hz with rfl | hz
        · exact h2
        · exact h.1 z hz
      · rw [decide_eq_false h2]
        simp only [List.map_cons, List.pairwise_cons]
        refine ⟨fun z hz => ?_, h.2⟩
        have := h.1 z hz
        simp only at this
        omega
end Go.Proofs.Ytmkbnbpblhoekaa
