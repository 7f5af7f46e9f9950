/- Has a clause a literal and its negation? The document's answer. -/
import Derived.Test.YtmkbnbpblhoekaaVCka
import Derived.Test.YtmkbnbpblhoekaaW3
set_option linter.unusedSimpArgs false
set_option linter.unusedVariables false
set_option linter.unusedSectionVars false
namespace Go.Proofs.Ytmkbnbpblhoekaa
open Go.Xr Go.Chk

def Fine (l : List Int) : Prop := ∀ x ∈ l, x ≠ 0 ∧ -1048576 ≤ x ∧ x ≤ 1048576
theorem Fine.ok {l : List Int} (h : Fine l) : ∀ x ∈ l, I32ok x := fun x hx => by have := h x hx; exact ⟨by omega, by omega⟩
theorem wneg {x : Int} (h1 : -1048576 ≤ x) (h2 : x ≤ 1048576) : IntKind.i32.wrap (-x) = -x := wrap_i32 (by omega) (by omega)
theorem one_map (k : IntKind) (xs : List Int) : (xs.map (V.int k)).all V.one = true := by
  rw [List.all_eq_true]
  intro x hx
  obtain ⟨n, _, rfl⟩ := List.mem_map.1 hx
  rfl
set_option maxHeartbeats 8000000 in
theorem rNormal_ok {h : Heap} {c : V} {xs : List Int} (hc : Sl h c (xs.map (.int .i32))) (hx : Fine xs) (hlen : xs.length ≤ 1000000) : EvCall xprog H0 79 [c] h fun v h' => (∃ w, v = .tup [w, .bool (both xs)]) ∧ Ext h h' := by
  refine s_call (fn := xf79) rfl (free _ rfl ..) ?_
  have hl := hc.len
  have hr := hc.row
  simp only [List.length_map] at hl
  simp -implicitDefEqProofs only [xf79, argsFrom_cons, argsFrom_nil]
  repeat' ((first | refine s_line rfl ?_ | refine s_end rfl ?_ | refine s_seq ?_ | refine s_region ?_ | refine s_block ?_ | refine s_cond ?_ | refine s_ret ?_ | refine s_skip ?_ | refine s_exit ?_ | refine s_if (fun hif => ?_) (fun hif => ?_) | refine condB_dec (fun hif => ?_) (fun hif => ?_) | refine condB_of (fun hif => ?_) (fun hif => ?_) | (refine s_lelt ?_ ?_; omega) | (refine s_lt ?_ ?_; omega) | (refine s_le ?_ ?_; omega)) <;>
    (try simp -implicitDefEqProofs (disch := first | assumption | omega) only [sx, sb, sd, se, xwpStep, xwpOp, xwpInt, opEv, xres, oneOf, Nat.reduceAdd, Nat.reduceEqDiff, Nat.reduceSub, ↓reduceIte, reduceCtorEq, wrap_i64, *]))
  refine s_while (fun n t d g => ∃ (i : Nat) (ov : V) (ys : List Int) (B : Bool), i + n = xs.length ∧ slotOf t 6 = .int .i64 i ∧ slotOf t 0 = c ∧ slotOf t 4 = ov ∧ slotOf t 5 = .bool B ∧ d = [] ∧ Ext h g ∧ Tk h.next g ov (ys.map (.int .i32)) ∧ Eqs ys (xs.take i) ∧ ys.length ≤ i ∧ (B = true ↔ ∃ x ∈ xs.take i, 0 < x ∧ -x ∈ xs)) (fun _ _ _ => free_code ..) xs.length ⟨0, .nils, [], false, by omega, by simp [slotOf_set], by simp [slotOf_set], by simp [slotOf_set], by simp [slotOf_set], rfl, Ext.refl _, Tk.nil _ _, by simp [Eqs.refl], Nat.le_refl _, by simp⟩ ?_
  rintro n t d g ⟨i, ov, ys, B, a1, a2, a3, a4, a5, rfl, a6, a7, a8, a9, a10⟩
  have rx : ∀ (hi : i < xs.length), readCells g (objS c) (genS c) (offS c + i) 1 = some [.int .i32 (xs[i])] := fun hi => (hc.ext a6).at (by simp [hi])
  have ol := a7.len
  have orow := a7.row
  simp only [List.length_map] at ol
  have hasO : ∀ x, EvCall xprog H0 37 [ov, .int .i32 x] g fun v h' => v = .bool (decide (x ∈ ys)) ∧ h' = g := fun x => Has_ok a7.sl (by omega) x
  have hasC : ∀ x, EvCall xprog H0 37 [c, .int .i32 x] g fun v h' => v = .bool (decide (x ∈ xs)) ∧ h' = g := fun x => Has_ok (hc.ext a6) (by omega) x
  have wn : ∀ (hi : i < xs.length), IntKind.i32.wrap (-(xs[i])) = -(xs[i]) := fun hi => by
    have := hx _ (List.getElem_mem hi)
    exact wneg (by omega) (by omega)
  refine s_cut1 (fun t d g1 => slotOf t 6 = .int .i64 i ∧ slotOf t 0 = c ∧ slotOf t 4 = ov ∧ slotOf t 5 = .bool B ∧ d = [] ∧ g1 = g ∧ i < xs.length) ?_ ?_
  · repeat' ((first | refine s_line rfl ?_ | refine s_end rfl ?_ | refine s_seq ?_ | refine s_region ?_ | refine s_block ?_ | refine s_cond ?_ | refine s_ret ?_ | refine s_skip ?_ | refine s_exit ?_ | refine s_if (fun hif => ?_) (fun hif => ?_) | refine condB_dec (fun hif => ?_) (fun hif => ?_) | refine condB_of (fun hif => ?_) (fun hif => ?_) | (refine s_lelt ?_ ?_; omega) | (refine s_lt ?_ ?_; omega) | (refine s_le ?_ ?_; omega)) <;>
      (try simp -implicitDefEqProofs (disch := first | assumption | omega) only [sx, sb, sd, se, xwpStep, xwpOp, xwpInt, opEv, xres, oneOf, Nat.reduceAdd, Nat.reduceEqDiff, Nat.reduceSub, ↓reduceIte, reduceCtorEq, wrap_i64, Nat.zero_add, Int.toNat_natCast, *]))
    · omega
    · have hi : i = xs.length := by omega
      subst hi
      rw [List.take_length] at a10
      refine ⟨ov, ?_⟩
      rw [show B = both xs from ?_]
      rw [Bool.eq_iff_iff, a10]
      unfold both
      rw [List.any_eq_true]
      constructor
      · rintro ⟨x, q1, q2, q3⟩
        exact ⟨x, q1, decide_eq_true q3⟩
      · rintro ⟨x, q1, q2⟩
        have q2 := of_decide_eq_true q2
        have q3 := hx x q1
        by_cases q4 : 0 < x
        · exact ⟨x, q1, q4, q2⟩
        · exact ⟨-x, q2, by omega, by rw [Int.neg_neg]; exact q1⟩
  clear a2 a3 a4 a5 t
  rintro t d g ⟨a2, a3, a4, a5, rfl, rfl, hi⟩
  replace rx := rx hi
  replace wn := wn hi
  have hxi := hx _ (List.getElem_mem hi)
  have etake : xs.take (i + 1) = xs.take i ++ [xs[i]] := by
    rw [List.take_add_one, List.getElem?_eq_getElem hi]
    rfl
  have hxm : xs[i] ∈ xs := List.getElem_mem hi
  have hrx : ∀ {g' : Heap}, Ext h g' → readCells g' (objS c) (genS c) (offS c + i) 1 = some [.int .i32 (xs[i])] := fun x1 => (hc.ext x1).at (by simp [hi])
  generalize xs[i] = x at *
  refine s_seq ?_
  refine s_block ?_
  refine s_cut2 (fun t d g1 => slotOf t 6 = .int .i64 i ∧ slotOf t 0 = c ∧ slotOf t 4 = ov ∧ slotOf t 5 = .bool (B || (decide (0 < x) && decide (-x ∈ xs))) ∧ d = [] ∧ g1 = g ∧ x ∉ ys) ?_ ?_
  · repeat' ((first | refine s_line rfl ?_ | refine s_end rfl ?_ | refine s_seq ?_ | refine s_region ?_ | refine s_block ?_ | refine s_cond ?_ | refine s_ret ?_ | refine s_skip ?_ | refine s_exit ?_ | refine s_if (fun hif => ?_) (fun hif => ?_) | refine condB_dec (fun hif => ?_) (fun hif => ?_) | refine condB_of (fun hif => ?_) (fun hif => ?_) | (refine s_lelt ?_ ?_; omega) | (refine s_lt ?_ ?_; omega) | (refine s_le ?_ ?_; omega) | (refine (evCall_iff (hasO _)).2 ?_) | (refine (evCall_iff (hasC _)).2 ?_)) <;>
      (try simp -implicitDefEqProofs (disch := first | assumption | omega) only [sx, sb, sd, se, xwpStep, xwpOp, xwpInt, opEv, xres, oneOf, Nat.reduceAdd, Nat.reduceEqDiff, Nat.reduceSub, ↓reduceIte, reduceCtorEq, wrap_i64, Nat.zero_add, Int.toNat_natCast, *]))
    · have hyt : x ∈ xs.take i := (a8 x).1 (by assumption)
      refine ⟨n - 1, by omega, i + 1, ov, ys, B, by omega, by simp, rfl, rfl, a7, ?_, by omega, ?_⟩
      · rw [etake]
        intro z
        rw [a8 z, List.mem_append, List.mem_singleton]
        exact ⟨.inl, fun q => q.elim id fun e => e ▸ hyt⟩
      · rw [a10, etake]
        constructor
        · rintro ⟨z, q1, q2⟩
          exact ⟨z, List.mem_append_left _ q1, q2⟩
        · rintro ⟨z, q1, q2⟩
          rcases List.mem_append.1 q1 with q1 | q1
          · exact ⟨z, q1, q2⟩
          · rw [List.mem_singleton] at q1
            subst q1
            exact ⟨z, hyt, q2⟩
    · simp
    · simp
    · simp
  clear a2 a3 a4 a5 t
  rintro t d g ⟨a2, a3, a4, a5, rfl, rfl, hny⟩
  repeat' ((first | refine s_line rfl ?_ | refine s_end rfl ?_ | refine s_seq ?_ | refine s_region ?_ | refine s_block ?_ | refine s_cond ?_ | refine s_ret ?_ | refine s_skip ?_ | refine s_exit ?_ | refine s_if (fun hif => ?_) (fun hif => ?_) | refine condB_dec (fun hif => ?_) (fun hif => ?_) | refine condB_of (fun hif => ?_) (fun hif => ?_) | (refine s_lelt ?_ ?_; omega) | (refine s_lt ?_ ?_; omega) | (refine s_le ?_ ?_; omega)) <;>
    (try simp -implicitDefEqProofs (disch := first | assumption | omega) only [sx, sb, sd, se, xwpStep, xwpOp, xwpInt, opEv, xres, oneOf, Nat.reduceAdd, Nat.reduceEqDiff, Nat.reduceSub, ↓reduceIte, reduceCtorEq, wrap_i64, Nat.zero_add, Int.toNat_natCast, *]))
  refine s_while (fun m t d g1 => ∃ k : Nat, k + m = ys.length ∧ slotOf t 7 = .int .i64 k ∧ slotOf t 6 = .int .i64 i ∧ slotOf t 0 = c ∧ slotOf t 4 = ov ∧ slotOf t 5 = .bool (B || (decide (0 < x) && decide (-x ∈ xs))) ∧ d = [] ∧ g1 = g) (fun _ _ _ => free_code ..) ys.length ⟨0, by omega, by simp [slotOf_set], by simp [slotOf_set, a2], by simp [slotOf_set, a3], by simp [slotOf_set, a4], by simp [slotOf_set, a5], rfl, rfl⟩ ?_
  clear a2 a3 a4 a5 t
  rintro m t d g ⟨k, b1, b2, a2, a3, a4, a5, rfl, rfl⟩
  have ry : ∀ (hk : k < ys.length), readCells g (objS ov) (genS ov) (offS ov + k) 1 = some [.int .i32 (ys[k])] := fun hk => a7.sl.at (by simp [hk])
  have hbf : ∀ (hk : k < ys.length), EvCall xprog H0 98 [.int .i32 (ys[k]), .int .i32 x] g fun v h' => v = .bool (litBefore (ys[k]) x) ∧ h' = g := fun hk => before_ok _ _ (hx.ok _ (List.mem_of_mem_take ((a8 _).1 (List.getElem_mem hk)))) (hx.ok _ hxm) g
  repeat' ((first | refine s_line rfl ?_ | refine s_end rfl ?_ | refine s_seq ?_ | refine s_region ?_ | refine s_block ?_ | refine s_cond ?_ | refine s_ret ?_ | refine s_skip ?_ | refine s_exit ?_ | refine s_if (fun hif => ?_) (fun hif => ?_) | refine condB_dec (fun hif => ?_) (fun hif => ?_) | refine condB_of (fun hif => ?_) (fun hif => ?_) | (refine s_lelt ?_ ?_; omega) | (refine s_lt ?_ ?_; omega) | (refine s_le ?_ ?_; omega) | (refine (evCall_iff (hbf (by omega))).2 ?_) | ((refine x_sw_hi a7.sw (by omega) (by simp; omega) ?_; intro r1 q1)) | ((refine x_append_tk (Tk.nil h.next g) a6.next q1.sl (by rw [← List.map_take]; exact one_map _ _) (by simp; omega) ?_; rintro v1 g1 k1 u1 e1; have y1 : Ext g g1 := (Ext.refl g).butI u1 (fun o _ q => by cases q); have z1 : Ext h g1 := a6.trans y1; have rx1 := hrx z1)) | ((refine x_append_tk (k1.ext (Ext.new ..)) (Nat.le_succ_of_le z1.next) (sl_new (get_new ..) (by simp)) rfl (by simp; omega) ?_; rintro v2 g2 k2 u2 e2; have y2 : Ext g g2 := (y1.trans (Ext.new ..)).butI u2 (fun o ho q => by rcases e1 with rfl | e1 | e1 <;> simp_all [rowObj]); have z2 : Ext h g2 := a6.trans y2)) | ((refine x_sw_lo (a7.sw.ext y2) (by omega) (by simp; omega) ?_; intro r3 q3)) | ((refine x_append_tk k2 z2.next q3.sl (by rw [← List.map_drop]; exact one_map _ _) (by simp; omega) ?_; rintro v3 g3 k3 u3 e3))) <;>
    (try simp -implicitDefEqProofs (disch := first | assumption | omega) only [sx, sb, sd, se, xwpStep, xwpOp, xwpInt, opEv, xres, oneOf, Nat.reduceAdd, Nat.reduceEqDiff, Nat.reduceSub, ↓reduceIte, reduceCtorEq, wrap_i64, Nat.zero_add, Int.toNat_natCast, Nat.add_zero, fillV, parts, List.map_cons, List.map_nil, over, List.length_cons, List.length_nil, Nat.beq_refl, Nat.ble, *]))
  · exact ⟨m - 1, by omega, k + 1, by omega, by simp⟩
  all_goals
    have z3 : Ext h g3 := z2.butI u3 (fun o ho q => by have := k2.lt q; omega)
    have el : (((([] ++ (ys.map (V.int .i32)).take (k : Int).toNat) ++ [.int .i32 x]) ++ (ys.map (V.int .i32)).drop (k : Int).toNat)) = ((ys.take k ++ [x]) ++ ys.drop k).map (V.int .i32) := by simp
    rw [el] at k3
    refine ⟨n - 1, by omega, i + 1, v3, _, _, by omega, by simp, rfl, rfl, z3, k3, ?_, by simp; omega, ?_⟩
    · rw [etake]
      intro z
      have ez : z ∈ ys ↔ z ∈ ys.take k ∨ z ∈ ys.drop k := by
        conv => lhs; rw [← List.take_append_drop k ys]
        exact List.mem_append
      simp only [List.mem_append, List.mem_singleton, ← a8 z, ez]
      constructor
      · rintro ((q | q) | q)
        · exact .inl (.inl q)
        · exact .inr q
        · exact .inl (.inr q)
      · rintro ((q | q) | q)
        · exact .inl (.inl q)
        · exact .inr q
        · exact .inl (.inr q)
    · rw [etake, Bool.or_eq_true, a10, Bool.and_eq_true]
      constructor
      · rintro (⟨z, q1, q2⟩ | ⟨q1, q2⟩)
        · exact ⟨z, List.mem_append_left _ q1, q2⟩
        · exact ⟨x, List.mem_append_right _ (by simp), of_decide_eq_true q1, of_decide_eq_true q2⟩
      · rintro ⟨z, q1, q2, q3⟩
        rcases List.mem_append.1 q1 with q1 | q1
        · exact .inl ⟨z, q1, q2, q3⟩
        · rw [List.mem_singleton] at q1
          subst q1
          exact .inr ⟨decide_eq_true q2, decide_eq_true q3⟩

theorem rboth_ok {h : Heap} {c : V} {xs : List Int} (hc : Sl h c (xs.map (.int .i32))) (hx : Fine xs) (hlen : xs.length ≤ 1000000) : EvCall xprog H0 61 [c] h fun v h' => v = .bool (both xs) ∧ Ext h h' := by
  refine s_call (fn := xf61) rfl (free _ rfl ..) ?_
  simp -implicitDefEqProofs only [xf61, argsFrom_cons, argsFrom_nil]
  repeat' ((first | refine s_line rfl ?_ | refine s_end rfl ?_ | refine s_seq ?_ | refine s_region ?_ | refine s_block ?_ | refine s_cond ?_ | refine s_ret ?_ | refine s_skip ?_ | refine s_exit ?_ | refine s_if (fun hif => ?_) (fun hif => ?_) | refine condB_dec (fun hif => ?_) (fun hif => ?_) | refine condB_of (fun hif => ?_) (fun hif => ?_) | (refine s_lelt ?_ ?_; omega) | (refine s_lt ?_ ?_; omega) | (refine s_le ?_ ?_; omega) | ((refine evApply_call (rNormal_ok hc hx hlen) ?_; rintro _ g ⟨⟨w, rfl⟩, x1⟩))) <;>
    (try simp -implicitDefEqProofs (disch := first | assumption | omega) only [sx, sb, sd, se, xwpStep, xwpOp, xwpInt, opEv, xres, oneOf, Nat.reduceAdd, Nat.reduceEqDiff, Nat.reduceSub, ↓reduceIte, reduceCtorEq, List.getElem?_cons_zero, List.getElem?_cons_succ, *]))
end Go.Proofs.Ytmkbnbpblhoekaa
