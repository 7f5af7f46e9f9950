/- Is a formula right? The document's answer. -/
import Derived.Test.YtmkbnbpblhoekaaVCk5
set_option linter.unusedSimpArgs false
set_option linter.unusedVariables false
set_option linter.unusedSectionVars false
namespace Go.Proofs.Ytmkbnbpblhoekaa
open Go.Xr

set_option maxHeartbeats 8000000 in
theorem rRight_ok {h : Heap} {vars : Int} {cv : V} {cs : List (List Int)} (hc : Cls h cv cs) (hx : ∀ c ∈ cs, ∀ x ∈ c, I32ok x) (hb : done cs cs.length ≤ 1000000) (hcl : cs.length ≤ 1000000) :
    EvCall xprog H0 42 [.agg [.int .i64 vars, cv]] h fun v h' => v = .int .i64 (rightOf vars cs) ∧ Ext h h' := by
  refine s_call (fn := xf42) rfl (free _ rfl ..) ?_
  generalize hH1 : newCells h [.int .i64 vars, cv] 1 false = H1
  have x1 : Ext h H1 := hH1 ▸ Ext.new ..
  have g1 : H1.get h.next = some (arr [.int .i64 vars, cv] 1 false) := by rw [← hH1]; exact get_new ..
  have r0 := readCell (off := 0) g1 rfl
  have r1 := readCell (off := 1) g1 rfl
  obtain ⟨vs, hs, hvl, hcs⟩ := hc.ext x1
  have hl := hs.len
  have hr := hs.row
  rw [hvl] at hl
  clear hc g1
  simp -implicitDefEqProofs only [xf42, argsFrom_cons, argsFrom_nil]
  repeat' ((first | refine s_line rfl ?_ | refine s_end rfl ?_ | refine s_seq ?_ | refine s_region ?_ | refine s_block ?_ | refine s_cond ?_ | refine s_ret ?_ | refine s_skip ?_ | refine s_exit ?_ | refine s_if (fun hif => ?_) (fun hif => ?_) | refine condB_dec (fun hif => ?_) (fun hif => ?_) | refine condB_of (fun hif => ?_) (fun hif => ?_) | (refine s_lelt ?_ ?_; omega) | (refine s_lt ?_ ?_; omega) | (refine s_le ?_ ?_; omega) | refine s_again rfl ?_ | (refine And.intro (a := stays _ _ _ = true) ?_ ?_; focus (simp -implicitDefEqProofs (disch := first | assumption | omega) only [sx, sb, sd, se, xwpStep, xwpOp, xwpInt, opEv, xres, oneOf, Nat.reduceAdd, Nat.reduceEqDiff, Nat.reduceSub, ↓reduceIte, reduceCtorEq, stays, wantedV, V.same_refl, Bool.and_self, Bool.and_true, beq_self_eq_true, Bool.true_beq, Bool.false_beq, wrap_i64, Nat.zero_add, *]; done))) <;>
    (try simp -implicitDefEqProofs (disch := first | assumption | omega) only [sx, sb, sd, se, xwpStep, xwpOp, xwpInt, opEv, xres, oneOf, Nat.reduceAdd, Nat.reduceEqDiff, Nat.reduceSub, ↓reduceIte, reduceCtorEq, wrap_i64, Nat.zero_add, *]))
  · rw [rightOf, if_pos (.inl (by assumption))]
  · rw [rightOf, if_pos (.inr (by assumption))]
  · exfalso; omega
  refine s_while (fun n t d h' => ∃ i : Nat, i + n = cs.length ∧ slotOf t 4 = .int .i64 i ∧ slotOf t 1 = .ptr h.next 0 0 ∧ slotOf t 3 = .int .i64 (done cs i : Nat) ∧ d = [] ∧ h' = H1 ∧ ∀ j (hj : j < cs.length), j < i → (cs[j]).any (bad vars) = false) (fun _ _ _ => free_code ..) cs.length ⟨0, by omega, by simp [slotOf_set], by simp [slotOf_set], by simp [slotOf_set, done], rfl, rfl, fun j _ hj => by omega⟩ ?_
  rintro n t d h' ⟨i, a1, a2, a5, a6, rfl, rfl, a7⟩
  have rc : i < cs.length → readCells h' (objS cv) (genS cv) (offS cv + i) 1 = some [vs.getD i .nils] := fun hi => hs.at (by simp [show i < vs.length by omega])
  have hlc : ∀ (hi : i < cs.length), lenS (vs.getD i .nils) = (cs[i]).length := fun hi => by rw [(hcs i hi).len, List.length_map]
  have hrc : i < cs.length → rowS (vs.getD i .nils) = true := fun hi => (hcs i hi).row
  repeat' ((first | refine s_line rfl ?_ | refine s_end rfl ?_ | refine s_seq ?_ | refine s_region ?_ | refine s_block ?_ | refine s_cond ?_ | refine s_ret ?_ | refine s_skip ?_ | refine s_exit ?_ | refine s_if (fun hif => ?_) (fun hif => ?_) | refine condB_dec (fun hif => ?_) (fun hif => ?_) | refine condB_of (fun hif => ?_) (fun hif => ?_) | (refine s_lelt ?_ ?_; omega) | (refine s_lt ?_ ?_; omega) | (refine s_le ?_ ?_; omega) | refine s_again rfl ?_ | (refine And.intro (a := stays _ _ _ = true) ?_ ?_; focus (simp -implicitDefEqProofs (disch := first | assumption | omega) only [sx, sb, sd, se, xwpStep, xwpOp, xwpInt, opEv, xres, oneOf, Nat.reduceAdd, Nat.reduceEqDiff, Nat.reduceSub, ↓reduceIte, reduceCtorEq, stays, wantedV, V.same_refl, Bool.and_self, Bool.and_true, beq_self_eq_true, Bool.true_beq, Bool.false_beq, wrap_i64, Nat.zero_add, Int.toNat_natCast, *]; done))) <;>
    (try simp -implicitDefEqProofs (disch := first | assumption | omega) only [sx, sb, sd, se, xwpStep, xwpOp, xwpInt, opEv, xres, oneOf, Nat.reduceAdd, Nat.reduceEqDiff, Nat.reduceSub, ↓reduceIte, reduceCtorEq, wrap_i64, Nat.zero_add, Int.toNat_natCast, *]))
  · have hi : i < cs.length := by omega
    have hcx : ∀ x ∈ cs[i], I32ok x := hx _ (List.getElem_mem hi)
    have hd1 : done cs i + (cs[i]).length ≤ 1000000 := by rw [← done_succ hi]; exact Nat.le_trans (done_le cs (i + 1)) hb
    have hrl : ∀ (k : Nat), k < (cs[i]).length → readCells h' (objS (vs.getD i .nils)) (genS (vs.getD i .nils)) (offS (vs.getD i .nils) + k) 1 = some [.int .i32 ((cs[i]).getD k 0)] := fun k hk => by
      have := (hcs i hi).at (i := k) (x := .int .i32 (cs[i][k])) (by simp [hk])
      rw [this]
      simp [hk]
    have hkx : ∀ (k : Nat), k < (cs[i]).length → I32ok ((cs[i]).getD k 0) := fun k hk => by
      have := hcx _ (List.getElem_mem hk)
      simpa [hk] using this
    have hlw := hlc hi
    have hrw := hrc hi
    have hrcw := rc hi
    have hany : ∀ k (hk : k < (cs[i]).length), bad vars ((cs[i]).getD k 0) = true → (cs.any fun c => c.any (bad vars)) = true := fun k hk hbk => by
      rw [List.any_eq_true]
      refine ⟨_, List.getElem_mem hi, ?_⟩
      rw [List.any_eq_true]
      exact ⟨_, List.getElem_mem hk, by simpa [hk] using hbk⟩
    have hdone := done_succ hi
    generalize hw : vs.getD i .nils = w at *
    generalize hc' : cs[i] = c at *
    clear rc hlc hrc hcs hs
    refine s_while (fun n2 t d h2 => ∃ k : Nat, k + n2 = c.length ∧ slotOf t 5 = .int .i64 k ∧ slotOf t 4 = .int .i64 i ∧ slotOf t 1 = .ptr h.next 0 0 ∧ slotOf t 3 = .int .i64 ((done cs i + k : Nat) : Int) ∧ d = [] ∧ h2 = h' ∧ ∀ j, j < c.length → j < k → bad vars (c.getD j 0) = false) (fun _ _ _ => free_code ..) c.length ⟨0, by omega, by simp [slotOf_set], by simp [slotOf_set, a2], by simp [slotOf_set, a5], by simp [slotOf_set, a6], rfl, rfl, fun j _ hj => by omega⟩ ?_
    rintro n2 t2 d2 h2 ⟨k, b1, b2, b5, b8, b9, rfl, rfl, b10⟩
    have rl := hrl k
    have kx := hkx k
    clear a2 a5 a6 hx hcx
    repeat' ((first | refine s_line rfl ?_ | refine s_end rfl ?_ | refine s_seq ?_ | refine s_region ?_ | refine s_block ?_ | refine s_cond ?_ | refine s_ret ?_ | refine s_skip ?_ | refine s_exit ?_ | refine s_if (fun hif => ?_) (fun hif => ?_) | refine condB_dec (fun hif => ?_) (fun hif => ?_) | refine condB_of (fun hif => ?_) (fun hif => ?_) | (refine s_lelt ?_ ?_; omega) | (refine s_lt ?_ ?_; omega) | (refine s_le ?_ ?_; omega) | refine s_again rfl ?_ | (refine And.intro (a := stays _ _ _ = true) ?_ ?_; focus (simp -implicitDefEqProofs (disch := first | assumption | omega) only [sx, sb, sd, se, xwpStep, xwpOp, xwpInt, opEv, xres, oneOf, Nat.reduceAdd, Nat.reduceEqDiff, Nat.reduceSub, ↓reduceIte, reduceCtorEq, stays, wantedV, V.same_refl, Bool.and_self, Bool.and_true, beq_self_eq_true, Bool.true_beq, Bool.false_beq, wrap_i64, Nat.zero_add, Int.toNat_natCast, *]; done)) | (refine (evCall_iff (rVar_ok _ (kx (by omega)).1 (kx (by omega)).2 _)).2 ?_)) <;>
      (try simp -implicitDefEqProofs (disch := first | assumption | omega) only [sx, sb, sd, se, xwpStep, xwpOp, xwpInt, opEv, xres, oneOf, Nat.reduceAdd, Nat.reduceEqDiff, Nat.reduceSub, ↓reduceIte, reduceCtorEq, wrap_i64, Nat.zero_add, Int.toNat_natCast, *]))
    · exfalso; omega
    · rw [rightOf, if_neg (by omega), if_pos (hany k (by omega) (decide_eq_true (.inl (by assumption))))]
    · rw [rightOf, if_neg (by omega), if_pos (hany k (by omega) (decide_eq_true (.inr (by assumption))))]
    · refine ⟨n2 - 1, by omega, k + 1, by omega, by simp, congrArg (V.int .i64) (by omega), fun j hj hlt => ?_⟩
      rcases Nat.lt_succ_iff_lt_or_eq.1 hlt with h | rfl
      · exact b10 j hj h
      · refine decide_eq_false ?_
        rintro (q | q)
        · exact absurd q (by assumption)
        · exact absurd q (by assumption)
    · have hk : k = c.length := by omega
      refine ⟨n - 1, by omega, i + 1, by omega, by simp, congrArg (V.int .i64) (by rw [hdone, hk]), fun j hj hlt => ?_⟩
      rcases Nat.lt_succ_iff_lt_or_eq.1 hlt with h | rfl
      · exact a7 j hj h
      · rw [hc', List.any_eq_false]
        intro x hx
        obtain ⟨p, hp, rfl⟩ := List.getElem_of_mem hx
        have := b10 p hp (by omega)
        simpa [hp] using this
  · rw [rightOf, if_neg (by omega), if_neg]
    rw [List.any_eq_true]
    rintro ⟨c, hcm, hcb⟩
    obtain ⟨j, hj, rfl⟩ := List.getElem_of_mem hcm
    rw [a7 j hj (by omega)] at hcb
    cases hcb
end Go.Proofs.Ytmkbnbpblhoekaa
