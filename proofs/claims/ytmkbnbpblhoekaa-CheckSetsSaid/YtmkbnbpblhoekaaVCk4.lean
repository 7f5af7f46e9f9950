/- slices.Clip; cnf.Normal. -/
import Derived.Test.YtmkbnbpblhoekaaVCk3
set_option linter.unusedSimpArgs false
set_option linter.unusedVariables false
set_option linter.unusedSectionVars false
namespace Go.Proofs.Ytmkbnbpblhoekaa
open Go.Xr

theorem OwnP.len {b : Nat} {h : Heap} {v : V} {xs : List V} (hs : OwnP b h v xs) : lenS v = xs.length := by
  rcases hs with ⟨rfl, rfl | ⟨o, g, off, rfl⟩⟩ | ⟨o, g, r, cs, _, _, rfl, _⟩ <;> rfl
theorem OwnP.row {b : Nat} {h : Heap} {v : V} {xs : List V} (hs : OwnP b h v xs) : rowS v = true := by
  rcases hs with ⟨rfl, rfl | ⟨o, g, off, rfl⟩⟩ | ⟨o, g, r, cs, _, _, rfl, _⟩ <;> rfl
theorem OwnP.sl {b : Nat} {h : Heap} {v : V} {xs : List V} (hs : OwnP b h v xs) : Sl h v xs := by
  rcases hs with ⟨rfl, rfl | ⟨o, g, off, rfl⟩⟩ | ⟨o, g, r, cs, _, hlt, rfl, hg, ht, hle⟩
  · exact .inl ⟨rfl, rfl⟩
  · exact .inr ⟨_, _, _, _, rfl, fun q => by cases q⟩
  · exact .inr ⟨o, g, 0, _, rfl, fun _ => ⟨hlt, by rw [readCells_grown hg (by omega), List.drop_zero, ht]⟩⟩

theorem Clip_ok {b : Nat} {h : Heap} {v : V} {ys : List V} (hv : OwnP b h v ys) : EvCall xprog H0 69 [v] h fun v' h' => Sl h v' ys ∧ h' = h := by
  refine s_call (fn := xf69) rfl (free _ rfl ..) ?_
  rcases hv with ⟨rfl, rfl | ⟨o, g, off, rfl⟩⟩ | ⟨o, g, r, cs, hb, hlt, rfl, hg, ht, hle⟩
  · simp -implicitDefEqProofs only [xf69, argsFrom_cons, argsFrom_nil]
    repeat' ((first | refine s_line rfl ?_ | refine s_end rfl ?_ | refine s_seq ?_ | refine s_region ?_ | refine s_block ?_ | refine s_cond ?_ | refine s_ret ?_ | refine s_skip ?_ | refine s_exit ?_ | refine s_if (fun hif => ?_) (fun hif => ?_) | refine condB_dec (fun hif => ?_) (fun hif => ?_) | refine condB_of (fun hif => ?_) (fun hif => ?_) | (refine s_lelt ?_ ?_; omega) | (refine s_lt ?_ ?_; omega) | (refine s_le ?_ ?_; omega) | (refine x_slc_nil ?_)) <;>
      (try simp -implicitDefEqProofs (disch := first | assumption | omega) only [sx, sb, sd, se, xwpStep, xwpOp, xwpInt, opEv, xres, oneOf, Nat.reduceAdd, Nat.reduceEqDiff, Nat.reduceSub, ↓reduceIte, reduceCtorEq, rowS, lenS, List.length_nil, *]))
    exact .inl ⟨rfl, rfl⟩
  · simp -implicitDefEqProofs only [xf69, argsFrom_cons, argsFrom_nil]
    repeat' ((first | refine s_line rfl ?_ | refine s_end rfl ?_ | refine s_seq ?_ | refine s_region ?_ | refine s_block ?_ | refine s_cond ?_ | refine s_ret ?_ | refine s_skip ?_ | refine s_exit ?_ | refine s_if (fun hif => ?_) (fun hif => ?_) | refine condB_dec (fun hif => ?_) (fun hif => ?_) | refine condB_of (fun hif => ?_) (fun hif => ?_) | (refine s_lelt ?_ ?_; omega) | (refine s_lt ?_ ?_; omega) | (refine s_le ?_ ?_; omega) | (refine x_slc_empty ?_)) <;>
      (try simp -implicitDefEqProofs (disch := first | assumption | omega) only [sx, sb, sd, se, xwpStep, xwpOp, xwpInt, opEv, xres, oneOf, Nat.reduceAdd, Nat.reduceEqDiff, Nat.reduceSub, ↓reduceIte, reduceCtorEq, rowS, lenS, List.length_nil, *]))
    exact .inr ⟨_, _, _, _, rfl, fun q => by cases q⟩
  · simp -implicitDefEqProofs only [xf69, argsFrom_cons, argsFrom_nil]
    repeat' ((first | refine s_line rfl ?_ | refine s_end rfl ?_ | refine s_seq ?_ | refine s_region ?_ | refine s_block ?_ | refine s_cond ?_ | refine s_ret ?_ | refine s_skip ?_ | refine s_exit ?_ | refine s_if (fun hif => ?_) (fun hif => ?_) | refine condB_dec (fun hif => ?_) (fun hif => ?_) | refine condB_of (fun hif => ?_) (fun hif => ?_) | (refine s_lelt ?_ ?_; omega) | (refine s_lt ?_ ?_; omega) | (refine s_le ?_ ?_; omega) | (refine x_slc_clip ?_)) <;>
      (try simp -implicitDefEqProofs (disch := first | assumption | omega) only [sx, sb, sd, se, xwpStep, xwpOp, xwpInt, opEv, xres, oneOf, Nat.reduceAdd, Nat.reduceEqDiff, Nat.reduceSub, ↓reduceIte, reduceCtorEq, rowS, lenS, *]))
    exact .inr ⟨o, g, 0, _, rfl, fun _ => ⟨hlt, by rw [readCells_grown hg (by omega), List.drop_zero, ht]⟩⟩

theorem ext_but {a b c : Heap} (h1 : Ext a b) (h2 : But (fun o => a.next ≤ o) b c) : Ext a c := ⟨Nat.le_trans h1.next h2.next, fun o ho => (h2.get o (Nat.lt_of_lt_of_le ho h1.next) (by omega)).trans (h1.get o ho)⟩

/-- A clause's normal form. -/
def nrm (xs : List Int) : List Int := cpt (sortLits xs) (sortLits xs).length
/-- Has a row a literal behind its negation, at place i? -/
def bothAt (ys : List Int) (i : Nat) : Bool := decide (0 < i ∧ 0 < ys.getD i 0 ∧ ys.getD i 0 = -ys.getD (i - 1) 0)
def bothN (ys : List Int) (n : Nat) : Bool := (List.range n).any (bothAt ys)
theorem bothN_succ (ys : List Int) (n : Nat) : bothN ys (n + 1) = (bothN ys n || bothAt ys n) := by
  unfold bothN
  rw [List.range_succ, List.any_append]
  simp

theorem wrap_neg {x y : Int} (hx : I32ok x) (hy : 0 < y) (hy2 : y ≤ 2147483647) : (y = IntKind.i32.wrap (-x)) ↔ y = -x := by
  by_cases h : x = -2147483648
  · subst h
    have : IntKind.i32.wrap (-(-2147483648)) = -2147483648 := by decide
    rw [this]
    omega
  · rw [wrap_i32 (by have := hx.1; have := hx.2; omega) (by have := hx.1; omega)]

theorem mem_cpt {xs : List Int} : ∀ {p : Nat} {x : Int}, x ∈ cpt xs p → p ≤ xs.length → x ∈ xs
  | 0, x, h, _ => by cases h
  | p + 1, x, h, hp => by
    unfold cpt at h
    split at h
    · exact mem_cpt h (by omega)
    · rcases List.mem_append.1 h with h | h
      · exact mem_cpt h (by omega)
      · rw [List.mem_singleton.1 h, List.getD_eq_getElem?_getD, List.getElem?_eq_getElem (by omega)]
        exact List.getElem_mem _
theorem nrm_mem {xs : List Int} {x : Int} (h : x ∈ nrm xs) : x ∈ xs := (sortLits_perm xs).mem_iff.1 (mem_cpt h (Nat.le_refl _))

set_option maxHeartbeats 4000000 in
theorem Normal_ok {h : Heap} {c : V} {xs : List Int} (hc : Sl h c (xs.map (.int .i32))) (hx : ∀ x ∈ xs, I32ok x) (hl : xs.length ≤ 1000000000) :
    EvCall xprog H0 48 [c] h fun v h' => (∃ w, v = .tup [w, .bool (bothN (nrm xs) (nrm xs).length)] ∧ Sl h' w ((nrm xs).map (.int .i32))) ∧ Ext h h' := by
  refine s_call (fn := xf48) rfl (free _ rfl ..) ?_
  have hsl : (sortLits xs).length = xs.length := (sortLits_perm xs).length_eq
  have hcl := Clone_ok hc (fun x hx => by obtain ⟨n, _, rfl⟩ := List.mem_map.1 hx; rfl) (by simp; omega)
  have hso : ∀ {v : V} {h1 : Heap}, Own h.next h1 v (xs.map (.int .i32)) → EvCall xprog H0 66 [v, .func 67 [] []] h1 fun _ h' => Own h.next h' v ((sortLits xs).map (.int .i32)) ∧ But (fun o => h.next ≤ o) h1 h' := fun hv => SortFunc_ok hv hx hl
  have hco : ∀ {v : V} {h1 : Heap}, Own h.next h1 v ((sortLits xs).map (.int .i32)) → EvCall xprog H0 68 [v] h1 fun v' h' => OwnP h.next h' v' ((nrm xs).map (.int .i32)) ∧ But (fun o => h.next ≤ o) h1 h' := fun hv => Compact_ok hv (by omega)
  simp -implicitDefEqProofs only [xf48, argsFrom_cons, argsFrom_nil]
  repeat' ((first | refine s_line rfl ?_ | refine s_end rfl ?_ | refine s_seq ?_ | refine s_region ?_ | refine s_block ?_ | refine s_cond ?_ | refine s_ret ?_ | refine s_skip ?_ | refine s_exit ?_ | refine s_if (fun hif => ?_) (fun hif => ?_) | refine condB_dec (fun hif => ?_) (fun hif => ?_) | refine condB_of (fun hif => ?_) (fun hif => ?_) | (refine s_lelt ?_ ?_; omega) | (refine s_lt ?_ ?_; omega) | (refine s_le ?_ ?_; omega) | ((refine evApply_call hcl ?_; rintro v1 h1 ⟨o1, x1⟩)) | ((refine evApply_call (hso (by assumption)) ?_; rintro _ h2 ⟨o2, x2⟩)) | ((refine evApply_call (hco (by assumption)) ?_; rintro v3 h3 ⟨o3, x3⟩; have hr3 := o3.row; have hl3 := o3.len))) <;>
    (try simp -implicitDefEqProofs (disch := first | assumption | omega) only [sx, sb, sd, se, xwpStep, xwpOp, xwpInt, opEv, xres, oneOf, Nat.reduceAdd, Nat.reduceEqDiff, Nat.reduceSub, ↓reduceIte, reduceCtorEq, wrap_i64, *]))
  have hym : ∀ y ∈ nrm xs, I32ok y := fun y hy => hx y (nrm_mem hy)
  have hyl : (nrm xs).length ≤ 1000000000 := Nat.le_trans (cpt_len _ _) (by omega)
  generalize hys : nrm xs = ys at *
  simp only [List.length_map] at hl3 ⊢
  have hsl3 := o3.sl
  have x23 : Ext h h3 := ext_but x1 (x2.trans x3)
  refine s_while (fun n t d h' => ∃ i : Nat, i + n = ys.length ∧ slotOf t 15 = .int .i64 i ∧ slotOf t 14 = .int .i64 ys.length ∧ slotOf t 4 = v3 ∧ slotOf t 5 = .bool (bothN ys i) ∧ d = [] ∧ h' = h3) (fun _ _ _ => free_code ..) ys.length ⟨0, by omega, by simp [slotOf_set], by simp [slotOf_set], by simp [slotOf_set], by simp [slotOf_set, bothN], rfl, rfl⟩ ?_
  rintro n t d h' ⟨i, a1, a2, a3, a4, a5, rfl, rfl⟩
  have rx : i < ys.length → readCells h' (objS v3) (genS v3) (offS v3 + i) 1 = some [.int .i32 (ys.getD i 0)] := fun hi => hsl3.at (by simp [hi])
  have rx2 : i < ys.length → readCells h' (objS v3) (genS v3) (offS v3 + (i - 1)) 1 = some [.int .i32 (ys.getD (i - 1) 0)] := fun hi => hsl3.at (by simp [show i - 1 < ys.length by omega])
  have et : ((i : Int) - 1).toNat = i - 1 := by omega
  clear hc hcl hso hco o1 o2 x1 x2 x3 hsl3
  cases hbb : bothN ys i
  · rw [hbb] at a5
    repeat' ((first | refine s_line rfl ?_ | refine s_end rfl ?_ | refine s_seq ?_ | refine s_region ?_ | refine s_block ?_ | refine s_cond ?_ | refine s_ret ?_ | refine s_skip ?_ | refine s_exit ?_ | refine s_if (fun hif => ?_) (fun hif => ?_) | refine condB_dec (fun hif => ?_) (fun hif => ?_) | refine condB_of (fun hif => ?_) (fun hif => ?_) | (refine s_lelt ?_ ?_; omega) | (refine s_lt ?_ ?_; omega) | (refine s_le ?_ ?_; omega) | ((refine evApply_call (Clip_ok o3) ?_; rintro v4 h4 ⟨o4, rfl⟩))) <;>
      (try simp -implicitDefEqProofs (disch := first | assumption | omega) only [sx, sb, sd, se, xwpStep, xwpOp, xwpInt, opEv, xres, oneOf, Nat.reduceAdd, Nat.reduceEqDiff, Nat.reduceSub, ↓reduceIte, reduceCtorEq, wrap_i64, Nat.zero_add, Int.toNat_natCast, et, *]))
    · refine ⟨n - 1, by omega, i + 1, by omega, by simp, ?_⟩
      rw [bothN_succ, hbb, Bool.false_or]
      have hi : i < ys.length := by omega
      have g1 : ys.getD i 0 = ys[i] := by simp [hi]
      have g2 : ys.getD (i - 1) 0 = ys[i - 1]'(by omega) := by simp [show i - 1 < ys.length by omega]
      have k1 := hym _ (List.getElem_mem hi)
      have k2 := hym _ (List.getElem_mem (show i - 1 < ys.length by omega))
      refine congrArg V.bool ?_
      unfold bothAt
      apply decide_eq_decide.2
      rw [← g1] at k1
      rw [← g2] at k2
      rw [wrap_neg k2 hif k1.2]
      constructor
      · intro e; exact ⟨by omega, hif, e⟩
      · intro e; exact e.2.2
    · refine ⟨n - 1, by omega, i + 1, by omega, by simp, ?_⟩
      rw [bothN_succ, hbb, Bool.false_or]
      exact congrArg V.bool (decide_eq_false fun q => hif q.2.1).symm
    · refine ⟨n - 1, by omega, i + 1, by omega, by simp, ?_⟩
      rw [bothN_succ, hbb, Bool.false_or]
      exact congrArg V.bool (decide_eq_false fun q => hif (by omega)).symm
    · have hi : i = ys.length := by omega
      rw [hi] at hbb
      exact ⟨v4, by rw [hbb], o4⟩
  · rw [hbb] at a5
    repeat' ((first | refine s_line rfl ?_ | refine s_end rfl ?_ | refine s_seq ?_ | refine s_region ?_ | refine s_block ?_ | refine s_cond ?_ | refine s_ret ?_ | refine s_skip ?_ | refine s_exit ?_ | refine s_if (fun hif => ?_) (fun hif => ?_) | refine condB_dec (fun hif => ?_) (fun hif => ?_) | refine condB_of (fun hif => ?_) (fun hif => ?_) | (refine s_lelt ?_ ?_; omega) | (refine s_lt ?_ ?_; omega) | (refine s_le ?_ ?_; omega) | ((refine evApply_call (Clip_ok o3) ?_; rintro v4 h4 ⟨o4, rfl⟩))) <;>
      (try simp -implicitDefEqProofs (disch := first | assumption | omega) only [sx, sb, sd, se, xwpStep, xwpOp, xwpInt, opEv, xres, oneOf, Nat.reduceAdd, Nat.reduceEqDiff, Nat.reduceSub, ↓reduceIte, reduceCtorEq, wrap_i64, Nat.zero_add, Int.toNat_natCast, et, *]))
    · refine ⟨n - 1, by omega, i + 1, by omega, by simp, ?_⟩
      rw [bothN_succ, hbb, Bool.true_or]
    · have hi : i = ys.length := by omega
      rw [hi] at hbb
      exact ⟨v4, by rw [hbb], o4⟩
end Go.Proofs.Ytmkbnbpblhoekaa
