/- The document's checker: hints gone through. -/
import Derived.Test.YtmkbnbpblhoekaaVCkc
set_option linter.unusedSimpArgs false
set_option linter.unusedVariables false
set_option linter.unusedSectionVars false
namespace Go.Proofs.Ytmkbnbpblhoekaa
open Go.Xr Go.Chk

set_option maxHeartbeats 8000000 in
theorem rthrough_ok {b : Nat} {h0 h : Heap} {o : Nat} {es : List (Int × List Int)} {last : Int} {ov : Bool} {yv hv : V} {ys hints : List Int} (hc : RChk b h0 o es last ov) (hl : es.length ≤ 1000000) (hf : ∀ e ∈ es, Fine e.2 ∧ e.2.length ≤ 1000000) (x0 : Ext h0 h) (hy : Tk h0.next h yv (ys.map (.int .i32)))
    (hh : Sl h0 hv (hints.map (.int .i64))) (hn : ys.length + hints.length ≤ 100000000) :
    EvCall xprog H0 63 [.ptr o 0 0, yv, hv] h fun v h' => (∃ yv', v = .tup [yv', .bool (decide ((thr es ys hints).2 = 1)), .bool (decide ((thr es ys hints).2 = 2))] ∧ Tk h0.next h' yv' ((thr es ys hints).1.map (.int .i32)) ∧ (thr es ys hints).1.length ≤ ys.length + hints.length) ∧ Ext h0 h' := by
  refine s_call (fn := xf63) rfl (free _ rfl ..) ?_
  have el := hh.len
  have er := hh.row
  simp only [List.length_map] at el
  simp -implicitDefEqProofs only [xf63, argsFrom_cons, argsFrom_nil]
  repeat' ((first | refine s_line rfl ?_ | refine s_end rfl ?_ | refine s_seq ?_ | refine s_region ?_ | refine s_block ?_ | refine s_cond ?_ | refine s_ret ?_ | refine s_skip ?_ | refine s_exit ?_ | refine s_if (fun hif => ?_) (fun hif => ?_) | refine condB_dec (fun hif => ?_) (fun hif => ?_) | refine condB_of (fun hif => ?_) (fun hif => ?_) | (refine s_lelt ?_ ?_; omega) | (refine s_lt ?_ ?_; omega) | (refine s_le ?_ ?_; omega)) <;>
    (try simp -implicitDefEqProofs (disch := first | assumption | omega) only [sx, sb, sd, se, xwpStep, xwpOp, xwpInt, opEv, xres, oneOf, Nat.reduceAdd, Nat.reduceEqDiff, Nat.reduceSub, ↓reduceIte, reduceCtorEq, *]))
  refine s_while (fun n t d g => ∃ (i : Nat) (yv' : V) (ys' : List Int), i + n = hints.length ∧ slotOf t 9 = .int .i64 i ∧ slotOf t 0 = .ptr o 0 0 ∧ slotOf t 1 = yv' ∧ slotOf t 2 = hv ∧ d = [] ∧ Ext h0 g ∧ Tk h0.next g yv' (ys'.map (.int .i32)) ∧ thr es ys' (hints.drop i) = thr es ys hints ∧ ys'.length ≤ ys.length + i) (fun _ _ _ => free_code ..) hints.length ⟨0, yv, ys, by omega, by simp [slotOf_set], by simp [slotOf_set], by simp [slotOf_set], by simp [slotOf_set], rfl, x0, hy, by simp, by omega⟩ ?_
  rintro n t d g ⟨i, yv', ys', a1, a2, a3, a4, a5, rfl, a6, a7, a8, a9⟩
  have rx : ∀ (hi : i < hints.length), readCells g (objS hv) (genS hv) (offS hv + i) 1 = some [.int .i64 (hints[i])] := fun hi => (hh.ext a6).at (by simp [hi])
  obtain ⟨Lv, k2, k3, k1, k4⟩ := hc.clause
  replace k1 := k1 g a6
  have hfind : ∀ id, EvCall xprog H0 60 [.ptr o 0 0, .int .i64 id] g fun v h' => (∃ r : Int, v = .int .i64 r ∧ ((r < 0 ∧ find es id = none) ∨ ∃ (i : Nat) (l : List Int), r = i ∧ es[i]? = some (id, l) ∧ find es id = some l)) ∧ h' = g := fun id => rFind_ok (hc.ext a6) hl id
  have ylen := a7.len
  have yrow := a7.row
  simp only [List.length_map] at ylen
  refine s_cut1 (fun t d g1 => slotOf t 9 = .int .i64 i ∧ slotOf t 0 = .ptr o 0 0 ∧ slotOf t 1 = yv' ∧ slotOf t 2 = hv ∧ d = [] ∧ g1 = g ∧ i < hints.length) ?_ ?_
  · repeat' ((first | refine s_line rfl ?_ | refine s_end rfl ?_ | refine s_seq ?_ | refine s_region ?_ | refine s_block ?_ | refine s_cond ?_ | refine s_ret ?_ | refine s_skip ?_ | refine s_exit ?_ | refine s_if (fun hif => ?_) (fun hif => ?_) | refine condB_dec (fun hif => ?_) (fun hif => ?_) | refine condB_of (fun hif => ?_) (fun hif => ?_) | (refine s_lelt ?_ ?_; omega) | (refine s_lt ?_ ?_; omega) | (refine s_le ?_ ?_; omega)) <;>
      (try simp -implicitDefEqProofs (disch := first | assumption | omega) only [sx, sb, sd, se, xwpStep, xwpOp, xwpInt, opEv, xres, oneOf, Nat.reduceAdd, Nat.reduceEqDiff, Nat.reduceSub, ↓reduceIte, reduceCtorEq, wrap_i64, Nat.zero_add, Nat.add_zero, Int.toNat_natCast, *]))
    · omega
    · rw [List.drop_eq_nil_of_le (by omega)] at a8
      rw [← a8]
      exact ⟨yv', by simp [thr], a7, by simp [thr]; omega⟩
  clear a2 a3 a4 a5 t
  rintro t d g ⟨a2, a3, a4, a5, rfl, rfl, hi⟩
  replace rx := rx hi
  rw [drop_at hi] at a8
  generalize hints[i] = id at *
  repeat' ((first | refine s_line rfl ?_ | refine s_end rfl ?_ | refine s_seq ?_ | refine s_region ?_ | refine s_block ?_ | refine s_cond ?_ | refine s_ret ?_ | refine s_skip ?_ | refine s_exit ?_ | refine s_if (fun hif => ?_) (fun hif => ?_) | refine condB_dec (fun hif => ?_) (fun hif => ?_) | refine condB_of (fun hif => ?_) (fun hif => ?_) | (refine s_lelt ?_ ?_; omega) | (refine s_lt ?_ ?_; omega) | (refine s_le ?_ ?_; omega) | ((refine evApply_call (hfind _) ?_; rintro _ g ⟨⟨r, rfl, ⟨hr, hnone⟩ | ⟨p, l, rfl, hat, hsome⟩⟩, rfl⟩; rotate_left; (have hp := (List.getElem?_eq_some_iff.1 hat).1; have hpe := (List.getElem?_eq_some_iff.1 hat).2; obtain ⟨lv, k7, k5⟩ := k4 p hp; obtain ⟨k5, k6⟩ := k5 g a6; rw [hpe] at k7; have hfl := hf (id, l) (List.mem_of_getElem? hat); have ll := k7.len; have lr := k7.row; simp only [List.length_map] at ll hfl); rotate_left))) <;>
    (try simp -implicitDefEqProofs (disch := first | assumption | omega) only [sx, sb, sd, se, xwpStep, xwpOp, xwpInt, opEv, xres, oneOf, Nat.reduceAdd, Nat.reduceEqDiff, Nat.reduceSub, ↓reduceIte, reduceCtorEq, wrap_i64, Nat.zero_add, Nat.add_zero, Int.toNat_natCast, *]))
  · have e : thr es ys hints = (ys', 2) := by
      rw [← a8]
      unfold thr
      rw [hnone]
    rw [e]
    exact ⟨yv', rfl, a7, by simp; omega⟩
  clear rx hfind k1 k2 k3 k4 k5 k6
  have xg := a6
  have hfx : ∀ x ∈ l, -1048576 ≤ x ∧ x ≤ 1048576 := fun x hx => (hfl.1 x hx).2
  refine s_while (fun m t d g => ∃ (k : Nat) (pv : V) (op : List Int), k + m = l.length ∧ slotOf t 13 = .int .i64 k ∧ slotOf t 12 = lv ∧ slotOf t 11 = pv ∧ slotOf t 9 = .int .i64 i ∧ slotOf t 0 = .ptr o 0 0 ∧ slotOf t 1 = yv' ∧ slotOf t 2 = hv ∧ d = [] ∧ Ext h0 g ∧ Tk h0.next g yv' (ys'.map (.int .i32)) ∧ Tk h0.next g pv (op.map (.int .i32)) ∧ (∀ x, rowObj pv = some x → rowObj yv' ≠ some x) ∧ (∀ z, z ∈ op ↔ z ∈ l.take k ∧ -z ∉ ys') ∧ op.Nodup ∧ op.length ≤ k ∧ (∀ z ∈ l.take k, z ∉ ys')) (fun _ _ _ => free_code ..) l.length ⟨0, .nils, [], by omega, by simp [slotOf_set], by simp [slotOf_set], by simp [slotOf_set], by simp [slotOf_set, a2], by simp [slotOf_set, a3], by simp [slotOf_set, a4], by simp [slotOf_set, a5], rfl, a6, a7, Tk.nil _ _, (fun x hx => by cases hx), by simp, by simp, Nat.le_refl _, by simp⟩ ?_
  clear a2 a3 a4 a5 a6 a7 t xg
  rintro m t d g ⟨k, pv, op, c1, c2, c3, c4, a2, a3, a4, a5, rfl, a6, a7, c5, c6, c7, c8, c9, c10⟩
  have plen := c5.len
  have prow := c5.row
  simp only [List.length_map] at plen
  have hasY : ∀ x, EvCall xprog H0 37 [yv', .int .i32 x] g fun v h' => v = .bool (decide (x ∈ ys')) ∧ h' = g := fun x => Has_ok a7.sl (by omega) x
  have hasP : ∀ x, EvCall xprog H0 37 [pv, .int .i32 x] g fun v h' => v = .bool (decide (x ∈ op)) ∧ h' = g := fun x => Has_ok c5.sl (by omega) x
  have rl : ∀ (hk : k < l.length), readCells g (objS lv) (genS lv) (offS lv + k) 1 = some [.int .i32 (l[k])] := fun hk => (k7.ext a6).at (by simp [hk])
  have rp : ∀ (hk : 0 < op.length), readCells g (objS pv) (genS pv) (offS pv) 1 = some [.int .i32 (op[0])] := fun hk => by
    have := c5.sl.at (i := 0) (x := .int .i32 (op[0])) (by simp [hk])
    rwa [Nat.add_zero] at this
  have wn : ∀ (hk : k < l.length), IntKind.i32.wrap (-(l[k])) = -(l[k]) := fun hk => wneg (hfx _ (List.getElem_mem hk)).1 (hfx _ (List.getElem_mem hk)).2
  repeat' ((first | refine s_line rfl ?_ | refine s_end rfl ?_ | refine s_seq ?_ | refine s_region ?_ | refine s_block ?_ | refine s_cond ?_ | refine s_ret ?_ | refine s_skip ?_ | refine s_exit ?_ | refine s_if (fun hif => ?_) (fun hif => ?_) | refine condB_dec (fun hif => ?_) (fun hif => ?_) | refine condB_of (fun hif => ?_) (fun hif => ?_) | (refine s_lelt ?_ ?_; omega) | (refine s_lt ?_ ?_; omega) | (refine s_le ?_ ?_; omega) | (refine (evCall_iff (hasY _)).2 ?_) | (refine (evCall_iff (hasP _)).2 ?_) | ((refine x_append_tk (c5.ext (Ext.new ..)) (Nat.le_succ_of_le a6.next) (sl_new (get_new ..) (by simp)) rfl (by simp; omega) ?_; rintro pv1 g1 u1 u2 u3)) | ((refine x_append_tk (a7.ext (Ext.new ..)) (Nat.le_succ_of_le a6.next) (sl_new (get_new ..) (by simp)) rfl (by simp; omega) ?_; rintro yv1 g1 u1 u2 u3))) <;>
    (try simp -implicitDefEqProofs (disch := first | assumption | omega) only [sx, sb, sd, se, xwpStep, xwpOp, xwpInt, opEv, xres, oneOf, Nat.reduceAdd, Nat.reduceEqDiff, Nat.reduceSub, ↓reduceIte, reduceCtorEq, wrap_i64, Nat.zero_add, Int.toNat_natCast, Int.toNat_zero, Nat.add_zero, fillV, parts, List.map_cons, List.map_nil, over, List.length_cons, List.length_nil, Nat.beq_refl, Nat.ble, *]))
  · have hk : k < l.length := by omega
    have e : thr es ys hints = (ys', 2) := by
      rw [← a8]
      unfold thr
      rw [hsome]
      simp only [stepOf_wrong1 (List.getElem_mem hk) (by assumption)]
    rw [e]
    exact ⟨yv', rfl, a7, by simp; omega⟩
  · have hk : k < l.length := by omega
    refine ⟨m - 1, by omega, k + 1, pv, op, by omega, by simp, rfl, c5, c6, fun z => ?_, c8, by omega, fun z hz => ?_⟩
    · rw [take_at hk, c7, List.mem_append, List.mem_singleton]
      constructor
      · rintro ⟨q1, q2⟩; exact ⟨.inl q1, q2⟩
      · rintro ⟨q1 | rfl, q2⟩
        · exact ⟨q1, q2⟩
        · first
            | exact (c7 _).1 (by assumption)
            | exact absurd (by assumption) q2
            | exact ⟨by simpa using hif, q2⟩
    · rw [take_at hk, List.mem_append, List.mem_singleton] at hz
      rcases hz with hz | rfl
      · exact c10 z hz
      · assumption
  · have hk : k < l.length := by omega
    have hn1 : l[k] ∉ op := fun q => by have := (c7 _).1 q; simp_all
    have hn2 : -l[k] ∉ ys' := by assumption
    refine ⟨m - 1, by omega, k + 1, pv1, op ++ [l[k]], by omega, by simp, rfl, (a6.trans (Ext.new ..)).butI u2 (fun o ho q => by have := c5.lt q; omega), (a7.ext (Ext.new ..)).frame u2.next (fun x hx => u2.get x (Nat.lt_succ_of_lt (a7.lt hx).2) fun q => c6 x q hx), by rw [List.map_append]; exact u1, fun x hx => ?_, fun z => ?_, ?_, by simp; omega, fun z hz => ?_⟩
    · rcases u3 with rfl | e | e
      · exact c6 x hx
      · exact c6 x (e ▸ hx)
      · rw [hx] at e
        cases e
        intro q
        have := a7.lt q
        simp at this
        omega
    · rw [take_at hk, List.mem_append, List.mem_append, List.mem_singleton, c7]
      constructor
      · rintro (⟨q1, q2⟩ | rfl)
        · exact ⟨.inl q1, q2⟩
        · exact ⟨.inr rfl, hn2⟩
      · rintro ⟨q1 | rfl, q2⟩
        · exact .inl ⟨q1, q2⟩
        · exact .inr rfl
    · rw [List.nodup_append]
      refine ⟨c8, by simp, fun x hx y hy => ?_⟩
      rw [List.mem_singleton] at hy
      subst hy
      rintro rfl
      exact hn1 hx
    · rw [take_at hk, List.mem_append, List.mem_singleton] at hz
      rcases hz with hz | rfl
      · exact c10 z hz
      · assumption
  · have hk : k < l.length := by omega
    refine ⟨m - 1, by omega, k + 1, pv, op, by omega, by simp, rfl, c5, c6, fun z => ?_, c8, by omega, fun z hz => ?_⟩
    · rw [take_at hk, c7, List.mem_append, List.mem_singleton]
      constructor
      · rintro ⟨q1, q2⟩; exact ⟨.inl q1, q2⟩
      · rintro ⟨q1 | rfl, q2⟩
        · exact ⟨q1, q2⟩
        · first
            | exact (c7 _).1 (by assumption)
            | exact absurd (by assumption) q2
            | exact ⟨by simpa using hif, q2⟩
    · rw [take_at hk, List.mem_append, List.mem_singleton] at hz
      rcases hz with hz | rfl
      · exact c10 z hz
      · assumption
  all_goals
    have hk : k = l.length := by omega
    subst hk
    rw [List.take_length] at c10
    simp only [List.take_length] at c7
  · have e : thr es ys hints = (ys', 1) := by
      rw [← a8]
      unfold thr
      rw [hsome]
      have : op = [] := List.eq_nil_of_length_eq_zero (by omega)
      subst this
      simp only [stepOf_conflict fun x hx => ⟨c10 x hx, Classical.byContradiction fun hn => by have := (c7 x).2 ⟨hx, hn⟩; cases this⟩]
    rw [e]
    exact ⟨yv', rfl, a7, by simp; omega⟩
  · have e : thr es ys hints = (ys', 2) := by
      rw [← a8]
      unfold thr
      rw [hsome]
      have h1 : 1 < op.length := by omega
      have m0 := (c7 _).1 (List.getElem_mem (show 0 < op.length by omega))
      have m1 := (c7 _).1 (List.getElem_mem h1)
      simp only [stepOf_wrong2 m0.1 m1.1 (fun e => by have := (List.getElem_inj c8).1 e; omega) m0.2 m1.2]
    rw [e]
    exact ⟨yv', rfl, a7, by simp; omega⟩
  · have h1 : op.length = 1 := by omega
    have m0 := (c7 _).1 (List.getElem_mem (show 0 < op.length by omega))
    have hall : ∀ z ∈ op, z = op[0] := fun z hz => by
      obtain ⟨j, hj, rfl⟩ := List.getElem_of_mem hz
      have : j = 0 := by omega
      subst this
      rfl
    have e : thr es (ys' ++ [op[0]]) (hints.drop (i + 1)) = thr es ys hints := by
      rw [← a8]
      conv => rhs; unfold thr
      rw [hsome]
      simp only [stepOf_unit c10 m0.1 m0.2 fun y hy hn => hall y ((c7 y).2 ⟨hy, hn⟩)]
    refine ⟨n - 1, by omega, i + 1, yv1, ys' ++ [op[0]], by omega, by simp, rfl, (a6.trans (Ext.new ..)).butI u2 (fun o ho q => by have := a7.lt q; omega), by rw [List.map_append]; exact u1, e, by simp; omega⟩
end Go.Proofs.Ytmkbnbpblhoekaa
