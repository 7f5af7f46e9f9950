/- The document's checker: a group. -/
import Derived.Test.YtmkbnbpblhoekaaVCkd
set_option linter.unusedSimpArgs false
set_option linter.unusedVariables false
set_option linter.unusedSectionVars false
namespace Go.Proofs.Ytmkbnbpblhoekaa
open Go.Xr Go.Chk

set_option maxHeartbeats 8000000 in
theorem rgroup_ok {b : Nat} {h : Heap} {o : Nat} {es : List (Int × List Int)} {last : Int} {ov : Bool} {lv yv hv : V} {l ys hints : List Int} {p : Int} (hc : RChk b h o es last ov) (hl : es.length ≤ 1000000) (hf : ∀ e ∈ es, Fine e.2 ∧ e.2.length ≤ 1000000) (hlv : Sl h lv (l.map (.int .i32))) (hfl : Fine l) (hll : l.length ≤ 1000000) (hp : -1048576 ≤ p ∧ p ≤ 1048576) (hy : Sl h yv (ys.map (.int .i32)))
    (hh : Sl h hv (hints.map (.int .i64))) (hn : ys.length + hints.length ≤ 10000000) :
    EvCall xprog H0 80 [.ptr o 0 0, lv, .int .i32 p, yv, hv] h fun v h' => v = .int .i64 (groupOf es l p ys hints) ∧ Ext h h' := by
  refine s_call (fn := xf80) rfl (free _ rfl ..) ?_
  have el := hlv.len
  have er := hlv.row
  simp only [List.length_map] at el
  have wp : IntKind.i32.wrap (-p) = -p := wneg hp.1 hp.2
  simp -implicitDefEqProofs only [xf80, argsFrom_cons, argsFrom_nil]
  repeat' ((first | refine s_line rfl ?_ | refine s_end rfl ?_ | refine s_seq ?_ | refine s_region ?_ | refine s_block ?_ | refine s_cond ?_ | refine s_ret ?_ | refine s_skip ?_ | refine s_exit ?_ | refine s_if (fun hif => ?_) (fun hif => ?_) | refine condB_dec (fun hif => ?_) (fun hif => ?_) | refine condB_of (fun hif => ?_) (fun hif => ?_) | (refine s_lelt ?_ ?_; omega) | (refine s_lt ?_ ?_; omega) | (refine s_le ?_ ?_; omega) | ((refine x_append_tk (Tk.nil h.next h) (Nat.le_refl _) hy (one_map _ _) (by simp; omega) ?_; rintro nv0 g0 u1 u2 u3; have y0 : Ext h g0 := (Ext.refl h).butI u2 (fun o ho q => by cases q)))) <;>
    (try simp -implicitDefEqProofs (disch := first | assumption | omega) only [sx, sb, sd, se, xwpStep, xwpOp, xwpInt, opEv, xres, oneOf, Nat.reduceAdd, Nat.reduceEqDiff, Nat.reduceSub, ↓reduceIte, reduceCtorEq, *]))
  refine s_while (fun n t d g => ∃ (i : Nat) (nv : V), i + n = l.length ∧ slotOf t 12 = .int .i64 i ∧ slotOf t 11 = nv ∧ slotOf t 0 = .ptr o 0 0 ∧ slotOf t 1 = lv ∧ slotOf t 2 = .int .i32 p ∧ slotOf t 3 = yv ∧ slotOf t 4 = hv ∧ d = [] ∧ Ext h g ∧ Tk h.next g nv ((ys ++ ((l.take i).filter fun x => decide (x ≠ -p)).map fun x => -x).map (.int .i32)) ∧ ∀ x ∈ l.take i, ¬ (x ≠ -p ∧ (x ∈ ys ∨ -x ∈ l))) (fun _ _ _ => free_code ..) l.length ⟨0, nv0, by omega, by simp [slotOf_set], by simp [slotOf_set], by simp [slotOf_set], by simp [slotOf_set], by simp [slotOf_set], by simp [slotOf_set], by simp [slotOf_set], rfl, y0, by simpa using u1, by simp⟩ ?_
  rintro n t d g ⟨i, nv, a1, a2, a3, a4, a5, a6, a7, a8, rfl, xg, k1, k2⟩
  have rl : ∀ (hi : i < l.length), readCells g (objS lv) (genS lv) (offS lv + i) 1 = some [.int .i32 (l[i])] := fun hi => (hlv.ext xg).at (by simp [hi])
  have hasY : ∀ x, EvCall xprog H0 37 [yv, .int .i32 x] g fun v h' => v = .bool (decide (x ∈ ys)) ∧ h' = g := fun x => Has_ok (hy.ext xg) (by omega) x
  have hasL : ∀ x, EvCall xprog H0 37 [lv, .int .i32 x] g fun v h' => v = .bool (decide (x ∈ l)) ∧ h' = g := fun x => Has_ok (hlv.ext xg) (by omega) x
  have wn : ∀ (hi : i < l.length), IntKind.i32.wrap (-(l[i])) = -(l[i]) := fun hi => wneg (hfl _ (List.getElem_mem hi)).2.1 (hfl _ (List.getElem_mem hi)).2.2
  have hth : ∀ {nv : V} {now : List Int}, Tk h.next g nv (now.map (.int .i32)) → now.length ≤ 20000000 → EvCall xprog H0 63 [.ptr o 0 0, nv, hv] g fun v h' => (∃ yv', v = .tup [yv', .bool (decide ((thr es now hints).2 = 1)), .bool (decide ((thr es now hints).2 = 2))] ∧ Tk h.next h' yv' ((thr es now hints).1.map (.int .i32)) ∧ (thr es now hints).1.length ≤ now.length + hints.length) ∧ Ext h h' := fun k hk => rthrough_ok hc hl hf xg k hh (by omega)
  have hnl : (ys ++ ((l.take i).filter fun x => decide (x ≠ -p)).map fun x => -x).length ≤ ys.length + i := by
    rw [List.length_append, List.length_map]
    have := List.length_filter_le (fun x => decide (x ≠ -p)) (l.take i)
    rw [List.length_take] at this
    omega
  repeat' ((first | refine s_line rfl ?_ | refine s_end rfl ?_ | refine s_seq ?_ | refine s_region ?_ | refine s_block ?_ | refine s_cond ?_ | refine s_ret ?_ | refine s_skip ?_ | refine s_exit ?_ | refine s_if (fun hif => ?_) (fun hif => ?_) | refine condB_dec (fun hif => ?_) (fun hif => ?_) | refine condB_of (fun hif => ?_) (fun hif => ?_) | (refine s_lelt ?_ ?_; omega) | (refine s_lt ?_ ?_; omega) | (refine s_le ?_ ?_; omega) | (refine (evCall_iff (hasY _)).2 ?_) | (refine (evCall_iff (hasL _)).2 ?_) | ((refine x_append_tk (k1.ext (Ext.new ..)) (Nat.le_succ_of_le xg.next) (sl_new (get_new ..) (by simp)) rfl (by simp only [List.length_map, List.length_cons, List.length_nil]; omega) ?_; rintro nv1 g1 u1 u2 u3)) | ((refine evApply_call (hth k1 (by omega)) ?_; rintro _ g1 ⟨⟨rv, rfl, _, _⟩, x2⟩))) <;>
    (try simp -implicitDefEqProofs (disch := first | assumption | omega) only [sx, sb, sd, se, xwpStep, xwpOp, xwpInt, opEv, xres, oneOf, Nat.reduceAdd, Nat.reduceEqDiff, Nat.reduceSub, ↓reduceIte, reduceCtorEq, wrap_i64, Nat.zero_add, Int.toNat_natCast, Int.toNat_zero, Nat.add_zero, fillV, parts, List.map_cons, List.map_nil, over, List.length_cons, List.length_nil, Nat.beq_refl, Nat.ble, List.getElem?_cons_zero, List.getElem?_cons_succ, *]))
  · have hi : i < l.length := by omega
    refine ⟨n - 1, by omega, i + 1, nv, by omega, by simp, rfl, ?_, fun x hx => ?_⟩
    · rw [take_at hi, List.filter_append, List.filter_cons, if_neg (by simp [hif]), List.filter_nil, List.append_nil]
      exact k1
    · rw [take_at hi, List.mem_append, List.mem_singleton] at hx
      rcases hx with hx | rfl
      · exact k2 x hx
      · exact fun q => q.1 hif
  · rw [group_any (List.getElem_mem (show i < l.length by omega)) (by assumption) (.inl (by assumption))]
  · rw [group_any (List.getElem_mem (show i < l.length by omega)) (by assumption) (.inr (by assumption))]
  · have hi : i < l.length := by omega
    have hne : l[i] ≠ -p := by assumption
    have hny : l[i] ∉ ys := by assumption
    have hnl : -l[i] ∉ l := by assumption
    refine ⟨n - 1, by omega, i + 1, nv1, by omega, by simp, rfl, (xg.trans (Ext.new ..)).butI u2 (fun o ho q => by have := k1.lt q; omega), ?_, fun x hx => ?_⟩
    · rw [take_at hi, List.filter_append, List.filter_cons, if_pos (decide_eq_true hne), List.filter_nil]
      simpa using u1
    · rw [take_at hi, List.mem_append, List.mem_singleton] at hx
      rcases hx with hx | rfl
      · exact k2 x hx
      · exact fun q => q.2.elim hny hnl
  all_goals
    have hi : i = l.length := by omega
    subst hi
    rw [List.take_length] at k2
    rw [group_thr k2]
    have hle := thr_le es hints (ys ++ (l.filter fun x => decide (x ≠ -p)).map (fun x => -x))
    simp only [List.take_length] at *
    generalize (thr es (ys ++ (l.filter fun x => decide (x ≠ -p)).map (fun x => -x)) hints).2 = code at *
  · subst hif; rfl
  · have : code = 0 := by simp at hif; omega
    subst this; rfl
  · have : code = 1 := by simpa using hif
    subst this; rfl
end Go.Proofs.Ytmkbnbpblhoekaa
