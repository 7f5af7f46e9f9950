/- The document's checker: groups, Follows. -/
import Derived.Test.YtmkbnbpblhoekaaVCke
set_option linter.unusedSimpArgs false
set_option linter.unusedVariables false
set_option linter.unusedSectionVars false
namespace Go.Proofs.Ytmkbnbpblhoekaa
open Go.Xr Go.Chk

theorem sl_new64 {h : Heap} {o : Nat} {v : V} {sp : Bool} (hg : h.get o = some (arr [v] 1 sp)) (ho : o < h.next) : Sl h (.slice o 0 0 1 (.exact 1)) [v] := sl_new hg ho
set_option maxHeartbeats 8000000 in
theorem rgroups_ok {b : Nat} {h : Heap} {o : Nat} {es : List (Int × List Int)} {last : Int} {ov : Bool} {lv yv hv : V} {l ys hints : List Int} {p : Int} (hc : RChk b h o es last ov) (hl : es.length ≤ 1000000) (hf : ∀ e ∈ es, Fine e.2 ∧ e.2.length ≤ 1000000) (hlv : Sl h lv ((p :: l).map (.int .i32))) (hp : -1048576 ≤ p ∧ p ≤ 1048576) (hy : Sl h yv (ys.map (.int .i32)))
    (hh : Sw h hv (hints.map (.int .i64))) (hn : ys.length + hints.length ≤ 10000000) (hz : ∀ x ∈ hints, x ≠ 0 ∧ -4611686018427387904 ≤ x ∧ x ≤ 4611686018427387904) (hneg : ∀ x r, hints = x :: r → x < 0) :
    EvCall xprog H0 64 [.ptr o 0 0, lv, yv, hv] h fun v h' => v = .int .i64 (groups es p ys hints 0 []) ∧ Ext h h' := by
  refine s_call (fn := xf64) rfl (free _ rfl ..) ?_
  have el := hlv.len
  have er := hlv.row
  simp only [List.length_map, List.length_cons] at el
  have eh := hh.sl.len
  have rh := hh.sl.row
  simp only [List.length_map] at eh
  have wp : IntKind.i32.wrap (-p) = -p := wneg hp.1 hp.2
  have rp : readCells h (objS lv) (genS lv) (offS lv) 1 = some [.int .i32 p] := by
    have := hlv.at (i := 0) (x := .int .i32 p) rfl
    rwa [Nat.add_zero] at this
  simp -implicitDefEqProofs only [xf64, argsFrom_cons, argsFrom_nil]
  repeat' ((first | refine s_line rfl ?_ | refine s_end rfl ?_ | refine s_seq ?_ | refine s_region ?_ | refine s_block ?_ | refine s_cond ?_ | refine s_ret ?_ | refine s_skip ?_ | refine s_exit ?_ | refine s_if (fun hif => ?_) (fun hif => ?_) | refine condB_dec (fun hif => ?_) (fun hif => ?_) | refine condB_of (fun hif => ?_) (fun hif => ?_) | (refine s_lelt ?_ ?_; omega) | (refine s_lt ?_ ?_; omega) | (refine s_le ?_ ?_; omega)) <;>
    (try simp -implicitDefEqProofs (disch := first | assumption | omega) only [sx, sb, sd, se, xwpStep, xwpOp, xwpInt, opEv, xres, oneOf, Nat.reduceAdd, Nat.reduceEqDiff, Nat.reduceSub, ↓reduceIte, reduceCtorEq, Int.toNat_zero, Nat.add_zero, *]))
  refine s_while (fun n t d g => ∃ (a : Nat) (mv : V) (ms met : List Int), a + n = hints.length ∧ slotOf t 11 = .int .i64 a ∧ slotOf t 10 = mv ∧ slotOf t 0 = .ptr o 0 0 ∧ slotOf t 1 = lv ∧ slotOf t 2 = yv ∧ slotOf t 3 = hv ∧ slotOf t 9 = .int .i32 p ∧ d = [] ∧ Ext h g ∧ Tk h.next g mv (ms.map (.int .i64)) ∧ Eqs met ms ∧ ms.length ≤ a ∧ (∀ x r, hints.drop a = x :: r → x < 0) ∧ groups es p ys (hints.drop a) (ms.getD (ms.length - 1) 0) met = groups es p ys hints 0 []) (fun _ _ _ => free_code ..) hints.length ⟨0, .nils, [], [], by omega, by simp [slotOf_set], by simp [slotOf_set], by simp [slotOf_set], by simp [slotOf_set], by simp [slotOf_set], by simp [slotOf_set], by simp [slotOf_set], rfl, Ext.refl _, Tk.nil _ _, Eqs.refl _, Nat.le_refl _, by simpa using hneg, by simp⟩ ?_
  rintro n t d g ⟨a, mv, ms, met, a1, a2, a3, a4, a5, a6, a7, a8, rfl, xg, k1, k2, k3, k4, k5⟩
  have ml := k1.len
  have mr := k1.row
  simp only [List.length_map] at ml
  refine s_cut1 (fun t d g1 => slotOf t 11 = .int .i64 a ∧ slotOf t 10 = mv ∧ slotOf t 0 = .ptr o 0 0 ∧ slotOf t 1 = lv ∧ slotOf t 2 = yv ∧ slotOf t 3 = hv ∧ slotOf t 9 = .int .i32 p ∧ d = [] ∧ g1 = g ∧ a < hints.length) ?_ ?_
  · repeat' ((first | refine s_line rfl ?_ | refine s_end rfl ?_ | refine s_seq ?_ | refine s_region ?_ | refine s_block ?_ | refine s_cond ?_ | refine s_ret ?_ | refine s_skip ?_ | refine s_exit ?_ | refine s_if (fun hif => ?_) (fun hif => ?_) | refine condB_dec (fun hif => ?_) (fun hif => ?_) | refine condB_of (fun hif => ?_) (fun hif => ?_) | (refine s_lelt ?_ ?_; omega) | (refine s_lt ?_ ?_; omega) | (refine s_le ?_ ?_; omega)) <;>
      (try simp -implicitDefEqProofs (disch := first | assumption | omega) only [sx, sb, sd, se, xwpStep, xwpOp, xwpInt, opEv, xres, oneOf, Nat.reduceAdd, Nat.reduceEqDiff, Nat.reduceSub, ↓reduceIte, reduceCtorEq, *]))
    · omega
    rw [List.drop_eq_nil_of_le (by omega), groups] at k5
    have kmem : ∀ z, z ∈ met ↔ z ∈ ms := k2
    have hmsl : ms.length ≤ 10000000 := by omega
    obtain ⟨Lv, c2, c3, c1, c4⟩ := hc.clause
    replace c1 := c1 g xg
    have hany : (∃ e ∈ es, -p ∈ e.2 ∧ e.1 ∉ ms) → groups es p ys hints 0 [] = 61 := fun ⟨e, q1, q2, q3⟩ => by
      rw [← k5, if_pos]
      rw [List.any_eq_true]
      exact ⟨e, q1, decide_eq_true ⟨q2, fun q => q3 ((kmem _).1 q)⟩⟩
    have hnone : (∀ e ∈ es, ¬ (-p ∈ e.2 ∧ e.1 ∉ ms)) → groups es p ys hints 0 [] = 0 := fun hn => by
      rw [← k5]
      refine if_neg ?_
      rw [List.any_eq_true]
      rintro ⟨e, q1, q2⟩
      have q2 := of_decide_eq_true q2
      exact hn e q1 ⟨q2.1, fun q => q2.2 ((kmem _).2 q)⟩
    refine s_while (fun n t d g1 => ∃ i : Nat, i + n = es.length ∧ slotOf t 16 = .int .i64 i ∧ slotOf t 10 = mv ∧ slotOf t 0 = .ptr o 0 0 ∧ slotOf t 9 = .int .i32 p ∧ d = [] ∧ g1 = g ∧ ∀ j (hj : j < es.length), j < i → ¬ (-p ∈ (es[j]).2 ∧ (es[j]).1 ∉ ms)) (fun _ _ _ => free_code ..) es.length ⟨0, by omega, by simp [slotOf_set], by simp [slotOf_set, a3], by simp [slotOf_set, a4], by simp [slotOf_set, a8], rfl, rfl, fun j _ hj => by omega⟩ ?_
    clear a1 a2 a3 a4 a5 a6 a7 a8 t k4 k5 n
    rintro n t d g ⟨i, b1, b2, b3, b4, b5, rfl, rfl, b6⟩
    refine s_cut1 (fun t d g1 => slotOf t 16 = .int .i64 i ∧ slotOf t 10 = mv ∧ slotOf t 0 = .ptr o 0 0 ∧ slotOf t 9 = .int .i32 p ∧ d = [] ∧ g1 = g ∧ i < es.length) ?_ ?_
    · repeat' ((first | refine s_line rfl ?_ | refine s_end rfl ?_ | refine s_seq ?_ | refine s_region ?_ | refine s_block ?_ | refine s_cond ?_ | refine s_ret ?_ | refine s_skip ?_ | refine s_exit ?_ | refine s_if (fun hif => ?_) (fun hif => ?_) | refine condB_dec (fun hif => ?_) (fun hif => ?_) | refine condB_of (fun hif => ?_) (fun hif => ?_) | (refine s_lelt ?_ ?_; omega) | (refine s_lt ?_ ?_; omega) | (refine s_le ?_ ?_; omega)) <;>
        (try simp -implicitDefEqProofs (disch := first | assumption | omega) only [sx, sb, sd, se, xwpStep, xwpOp, xwpInt, opEv, xres, oneOf, Nat.reduceAdd, Nat.reduceEqDiff, Nat.reduceSub, ↓reduceIte, reduceCtorEq, *]))
      · omega
      · rw [hnone fun e he => ?_]
        obtain ⟨j, hj, rfl⟩ := List.getElem_of_mem he
        exact b6 j hj (by omega)
    clear b2 b3 b4 b5 t
    rintro t d g ⟨b2, b3, b4, b5, rfl, rfl, hi⟩
    obtain ⟨lv', c7, c5⟩ := c4 i hi
    obtain ⟨c5, c6⟩ := c5 g xg
    have hfl := hf _ (List.getElem_mem hi)
    have hmem := List.getElem_mem hi
    have hasL : ∀ x, EvCall xprog H0 37 [lv', .int .i32 x] g fun v h' => v = .bool (decide (x ∈ (es[i]).2)) ∧ h' = g := fun x => Has_ok (c7.ext xg) (by have := hfl.2; omega) x
    repeat' ((first | refine s_line rfl ?_ | refine s_end rfl ?_ | refine s_seq ?_ | refine s_region ?_ | refine s_block ?_ | refine s_cond ?_ | refine s_ret ?_ | refine s_skip ?_ | refine s_exit ?_ | refine s_if (fun hif => ?_) (fun hif => ?_) | refine condB_dec (fun hif => ?_) (fun hif => ?_) | refine condB_of (fun hif => ?_) (fun hif => ?_) | (refine s_lelt ?_ ?_; omega) | (refine s_lt ?_ ?_; omega) | (refine s_le ?_ ?_; omega) | (refine (evCall_iff (hasL _)).2 ?_)) <;>
      (try simp -implicitDefEqProofs (disch := first | assumption | omega) only [sx, sb, sd, se, xwpStep, xwpOp, xwpInt, opEv, xres, oneOf, Nat.reduceAdd, Nat.reduceEqDiff, Nat.reduceSub, ↓reduceIte, reduceCtorEq, wrap_i64, Nat.zero_add, Nat.add_zero, Int.toNat_natCast, *]))
    · refine ⟨n - 1, by omega, i + 1, by omega, by simp, fun j hj hlt => ?_⟩
      rcases Nat.lt_succ_iff_lt_or_eq.1 hlt with h | rfl
      · exact b6 j hj h
      · exact fun q => absurd q.1 (by simpa using hif)
    have hpm : -p ∈ (es[i]).2 := by simpa using hif
    clear hasL c6 c7 hif
    refine s_while (fun m t d g1 => ∃ k : Nat, k + m = ms.length ∧ slotOf t 18 = .int .i64 k ∧ slotOf t 17 = .bool (decide ((es[i]).1 ∈ ms.take k)) ∧ slotOf t 16 = .int .i64 i ∧ slotOf t 10 = mv ∧ slotOf t 0 = .ptr o 0 0 ∧ slotOf t 9 = .int .i32 p ∧ d = [] ∧ g1 = g) (fun _ _ _ => free_code ..) ms.length ⟨0, by omega, by simp [slotOf_set], by simp [slotOf_set], by simp [slotOf_set, b2], by simp [slotOf_set, b3], by simp [slotOf_set, b4], by simp [slotOf_set, b5], rfl, rfl⟩ ?_
    clear b2 b3 b4 b5 t
    rintro m t d g ⟨k, e1, e2, e3, b2, b3, b4, b5, rfl, rfl⟩
    have rk : ∀ (hk : k < ms.length), readCells g (objS mv) (genS mv) (offS mv + k) 1 = some [.int .i64 (ms[k])] := fun hk => k1.sl.at (by simp [hk])
    generalize hee : es[i] = e at *
    cases hin : decide (e.1 ∈ ms.take k)
    · rw [hin] at e3
      have hin := of_decide_eq_false hin
      repeat' ((first | refine s_line rfl ?_ | refine s_end rfl ?_ | refine s_seq ?_ | refine s_region ?_ | refine s_block ?_ | refine s_cond ?_ | refine s_ret ?_ | refine s_skip ?_ | refine s_exit ?_ | refine s_if (fun hif => ?_) (fun hif => ?_) | refine condB_dec (fun hif => ?_) (fun hif => ?_) | refine condB_of (fun hif => ?_) (fun hif => ?_) | (refine s_lelt ?_ ?_; omega) | (refine s_lt ?_ ?_; omega) | (refine s_le ?_ ?_; omega)) <;>
        (try simp -implicitDefEqProofs (disch := first | assumption | omega) only [sx, sb, sd, se, xwpStep, xwpOp, xwpInt, opEv, xres, oneOf, Nat.reduceAdd, Nat.reduceEqDiff, Nat.reduceSub, ↓reduceIte, reduceCtorEq, wrap_i64, Nat.zero_add, Nat.add_zero, Int.toNat_natCast, *]))
      · have hk : k < ms.length := by omega
        refine ⟨m - 1, by omega, k + 1, by omega, by simp, congrArg V.bool (decide_eq_decide.2 ?_)⟩
        rw [take_at hk, List.mem_append, List.mem_singleton]
        exact ⟨fun q => .inr q.symm, fun q => q.elim (fun q => absurd q hin) fun q => q.symm⟩
      · have hk : k = ms.length := by omega
        subst hk
        rw [List.take_length] at hin
        rw [hany ⟨e, hmem, hpm, hin⟩]
    · rw [hin] at e3
      have hin := of_decide_eq_true hin
      repeat' ((first | refine s_line rfl ?_ | refine s_end rfl ?_ | refine s_seq ?_ | refine s_region ?_ | refine s_block ?_ | refine s_cond ?_ | refine s_ret ?_ | refine s_skip ?_ | refine s_exit ?_ | refine s_if (fun hif => ?_) (fun hif => ?_) | refine condB_dec (fun hif => ?_) (fun hif => ?_) | refine condB_of (fun hif => ?_) (fun hif => ?_) | (refine s_lelt ?_ ?_; omega) | (refine s_lt ?_ ?_; omega) | (refine s_le ?_ ?_; omega)) <;>
        (try simp -implicitDefEqProofs (disch := first | assumption | omega) only [sx, sb, sd, se, xwpStep, xwpOp, xwpInt, opEv, xres, oneOf, Nat.reduceAdd, Nat.reduceEqDiff, Nat.reduceSub, ↓reduceIte, reduceCtorEq, wrap_i64, Nat.zero_add, Nat.add_zero, Int.toNat_natCast, *]))
      · have hk : k < ms.length := by omega
        refine ⟨m - 1, by omega, k + 1, by omega, by simp, congrArg V.bool (decide_eq_true ?_).symm⟩
        rw [take_at hk]
        exact List.mem_append_left _ hin
      · refine ⟨n - 1, by omega, i + 1, by omega, by simp, fun j hj hlt => ?_⟩
        rcases Nat.lt_succ_iff_lt_or_eq.1 hlt with h | rfl
        · exact b6 j hj h
        · intro q
          rw [hee] at q
          exact q.2 (List.mem_of_mem_take hin)
  clear a2 a3 a4 a5 a6 a7 a8 t
  rintro t d g ⟨a2, a3, a4, a5, a6, a7, a8, rfl, rfl, ha⟩
  have rx : readCells g (objS hv) (genS hv) (offS hv + a) 1 = some [.int .i64 (hints[a])] := (hh.sl.ext xg).at (by simp [ha])
  rw [drop_at ha] at k4 k5
  have hzd := hz _ (List.getElem_mem ha)
  have hd0 := k4 _ _ rfl
  have hle := headN_le (hints.drop (a + 1))
  rw [List.length_drop] at hle
  have hrest : ∀ {rv : V}, Sw g rv ((hints.map (.int .i64)).drop (a + 1)) → EvCall xprog H0 62 [rv] g fun v h' => v = .int .i64 (headN (hints.drop (a + 1)) : Nat) ∧ h' = g := fun hs => rhead_ok (by rw [List.map_drop]; exact hs.sl) (by simp; omega)
  have hfind : ∀ id, EvCall xprog H0 60 [.ptr o 0 0, .int .i64 id] g fun v h' => (∃ r : Int, v = .int .i64 r ∧ ((r < 0 ∧ find es id = none) ∨ ∃ (i : Nat) (l : List Int), r = i ∧ es[i]? = some (id, l) ∧ find es id = some l)) ∧ h' = g := fun id => rFind_ok (hc.ext xg) hl id
  have wid : IntKind.i64.wrap (-(hints[a])) = -(hints[a]) := wrap_i64 (by omega) (by omega)
  generalize hints[a] = hd at *
  refine s_block ?_
  refine s_cut3 (fun t d g1 => slotOf t 11 = .int .i64 a ∧ slotOf t 10 = mv ∧ slotOf t 0 = .ptr o 0 0 ∧ slotOf t 1 = lv ∧ slotOf t 2 = yv ∧ slotOf t 3 = hv ∧ slotOf t 9 = .int .i32 p ∧ slotOf t 12 = .int .i64 (-hd) ∧ slotOf t 13 = .int .i64 (headN (hints.drop (a + 1)) : Nat) ∧ (∃ r : Int, slotOf t 14 = .int .i64 r ∧ ((r < 0 ∧ find es (-hd) = none) ∨ ∃ (i : Nat) (l : List Int), r = i ∧ es[i]? = some (-hd, l) ∧ find es (-hd) = some l)) ∧ d = [] ∧ g1 = g) ?_ ?_
  · repeat' ((first | refine s_line rfl ?_ | refine s_end rfl ?_ | refine s_seq ?_ | refine s_region ?_ | refine s_block ?_ | refine s_cond ?_ | refine s_ret ?_ | refine s_skip ?_ | refine s_exit ?_ | refine s_if (fun hif => ?_) (fun hif => ?_) | refine condB_dec (fun hif => ?_) (fun hif => ?_) | refine condB_of (fun hif => ?_) (fun hif => ?_) | (refine s_lelt ?_ ?_; omega) | (refine s_lt ?_ ?_; omega) | (refine s_le ?_ ?_; omega) | ((refine x_sw_lo (hh.ext xg) (by omega) (by simp; omega) ?_; intro r1 q1; have q1 : Sw g r1 ((hints.map (.int .i64)).drop (a + 1)) := q1)) | (refine (evCall_iff (hrest q1)).2 ?_) | ((refine evApply_call (hfind _) ?_; rintro _ g ⟨⟨r, rfl, hr⟩, rfl⟩))) <;>
      (try simp -implicitDefEqProofs (disch := first | assumption | omega) only [sx, sb, sd, se, xwpStep, xwpOp, xwpInt, opEv, xres, oneOf, Nat.reduceAdd, Nat.reduceEqDiff, Nat.reduceSub, ↓reduceIte, reduceCtorEq, wrap_i64, Nat.zero_add, Nat.add_zero, Int.toNat_natCast, *]))
    exact ⟨r, rfl, hr⟩
  clear a2 a3 a4 a5 a6 a7 a8 t rx hrest hfind wid
  rintro t d g ⟨a2, a3, a4, a5, a6, a7, a8, a9, a10, ⟨r, a11, hr⟩, rfl, rfl⟩
  rcases hr with ⟨hr, hnone⟩ | ⟨q, l', rfl, hq, hsome⟩
  · repeat' ((first | refine s_line rfl ?_ | refine s_end rfl ?_ | refine s_seq ?_ | refine s_region ?_ | refine s_block ?_ | refine s_cond ?_ | refine s_ret ?_ | refine s_skip ?_ | refine s_exit ?_ | refine s_if (fun hif => ?_) (fun hif => ?_) | refine condB_dec (fun hif => ?_) (fun hif => ?_) | refine condB_of (fun hif => ?_) (fun hif => ?_) | (refine s_lelt ?_ ?_; omega) | (refine s_lt ?_ ?_; omega) | (refine s_le ?_ ?_; omega)) <;>
      (try simp -implicitDefEqProofs (disch := first | assumption | omega) only [sx, sb, sd, se, xwpStep, xwpOp, xwpInt, opEv, xres, oneOf, Nat.reduceAdd, Nat.reduceEqDiff, Nat.reduceSub, ↓reduceIte, reduceCtorEq, wrap_i64, Nat.zero_add, Nat.add_zero, Int.toNat_natCast, *]))
    rw [← k5, groups, hnone]
  obtain ⟨Lv, c2, c3, c1, c4⟩ := hc.clause
  have hp' := (List.getElem?_eq_some_iff.1 hq).1
  have hpe := (List.getElem?_eq_some_iff.1 hq).2
  obtain ⟨lv', c7, c5⟩ := c4 q hp'
  obtain ⟨_, c6⟩ := c5 g xg
  replace c1 := c1 g xg
  rw [hpe] at c7
  replace c7 : Sl h lv' (l'.map (.int .i32)) := c7
  have hfl := hf (-hd, l') (List.mem_of_getElem? hq)
  simp only at hfl
  have hasL : ∀ x, EvCall xprog H0 37 [lv', .int .i32 x] g fun v h' => v = .bool (decide (x ∈ l')) ∧ h' = g := fun x => Has_ok (c7.ext xg) (by have := hfl.2; omega) x
  have rm : 0 < ms.length → readCells g (objS mv) (genS mv) (offS mv + (ms.length - 1)) 1 = some [.int .i64 (ms.getD (ms.length - 1) 0)] := fun hm => k1.sl.at (by simp [show ms.length - 1 < ms.length by omega])
  have et : ((ms.length : Int) - 1).toNat = ms.length - 1 := by omega
  clear c5 c4 hpe
  rw [groups, hsome] at k5
  simp only at k5
  refine s_cut1 (fun t d g1 => slotOf t 11 = .int .i64 a ∧ slotOf t 10 = mv ∧ slotOf t 0 = .ptr o 0 0 ∧ slotOf t 1 = lv ∧ slotOf t 2 = yv ∧ slotOf t 3 = hv ∧ slotOf t 9 = .int .i32 p ∧ slotOf t 12 = .int .i64 (-hd) ∧ slotOf t 13 = .int .i64 (headN (hints.drop (a + 1)) : Nat) ∧ slotOf t 14 = .int .i64 q ∧ -p ∈ l' ∧ ¬ (-hd ≤ ms.getD (ms.length - 1) 0) ∧ d = [] ∧ g1 = g) ?_ ?_
  · repeat' ((first | refine s_line rfl ?_ | refine s_end rfl ?_ | refine s_seq ?_ | refine s_region ?_ | refine s_block ?_ | refine s_cond ?_ | refine s_ret ?_ | refine s_skip ?_ | refine s_exit ?_ | refine s_if (fun hif => ?_) (fun hif => ?_) | refine condB_dec (fun hif => ?_) (fun hif => ?_) | refine condB_of (fun hif => ?_) (fun hif => ?_) | (refine s_lelt ?_ ?_; omega) | (refine s_lt ?_ ?_; omega) | (refine s_le ?_ ?_; omega) | (refine (evCall_iff (hasL _)).2 ?_)) <;>
      (try simp -implicitDefEqProofs (disch := first | assumption | omega) only [sx, sb, sd, se, xwpStep, xwpOp, xwpInt, opEv, xres, oneOf, Nat.reduceAdd, Nat.reduceEqDiff, Nat.reduceSub, ↓reduceIte, reduceCtorEq, wrap_i64, Nat.zero_add, Nat.add_zero, Int.toNat_natCast, et, *]))
    · exfalso; omega
    · exact congrArg (V.int .i64) ((if_pos (.inr (by assumption))).symm.trans k5)
    · first | exact ⟨by simpa using ‹(!decide (-p ∈ l')) = false›, by assumption⟩ | simpa using ‹(!decide (-p ∈ l')) = false›
    · refine ⟨by simpa using ‹(!decide (-p ∈ l')) = false›, ?_⟩
      have : ms = [] := List.eq_nil_of_length_eq_zero (by omega)
      subst this
      simp
      omega
    · exact congrArg (V.int .i64) ((if_pos (.inl (by simpa using hif))).symm.trans k5)
  clear a2 a3 a4 a5 a6 a7 a8 a9 a10 a11 t
  rintro t d g ⟨a2, a3, a4, a5, a6, a7, a8, a9, a10, a11, hpl, hlast, rfl, rfl⟩
  rw [if_neg (fun q => q.elim (fun q => q hpl) hlast)] at k5
  have hgrp : ∀ {rv : V}, Sw g rv (((hints.map (.int .i64)).take (a + 1 + headN (hints.drop (a + 1)))).drop (a + 1)) → EvCall xprog H0 80 [.ptr o 0 0, lv', .int .i32 p, yv, rv] g fun v h' => v = .int .i64 (groupOf es l' p ys ((hints.drop (a + 1)).take (headN (hints.drop (a + 1))))) ∧ Ext g h' := fun hs => by
    rw [List.drop_take, Nat.add_sub_cancel_left, ← List.map_drop, ← List.map_take] at hs
    exact rgroup_ok (hc.ext xg) hl hf (c7.ext xg) hfl.1 hfl.2 hp (hy.ext xg) hs.sl (by simp; omega)
  have e2 : ((a : Int) + 1 + (headN (hints.drop (a + 1)) : Nat)).toNat = a + 1 + headN (hints.drop (a + 1)) := by omega
  have e1 : ((a : Int) + 1).toNat = a + 1 := by omega
  repeat' ((first | refine s_line rfl ?_ | refine s_end rfl ?_ | refine s_seq ?_ | refine s_region ?_ | refine s_block ?_ | refine s_cond ?_ | refine s_ret ?_ | refine s_skip ?_ | refine s_exit ?_ | refine s_if (fun hif => ?_) (fun hif => ?_) | refine condB_dec (fun hif => ?_) (fun hif => ?_) | refine condB_of (fun hif => ?_) (fun hif => ?_) | (refine s_lelt ?_ ?_; omega) | (refine s_lt ?_ ?_; omega) | (refine s_le ?_ ?_; omega) | ((refine x_sw_lohi (hh.ext xg) (by omega) (by omega) (by simp; omega) ?_; intro r1 q1; rw [e1, e2] at q1)) | ((refine evApply_call (hgrp q1) ?_; rintro _ g1 ⟨rfl, x2⟩)) | ((refine x_append_tk (k1.ext (x2.trans (Ext.new ..))) (Nat.le_succ_of_le (xg.trans x2).next) (sl_new (get_new ..) (by simp)) rfl (by simp; omega) ?_; rintro mv1 g2 u1 u2 u3))) <;>
    (try simp -implicitDefEqProofs (disch := first | assumption | omega) only [sx, sb, sd, se, xwpStep, xwpOp, xwpInt, opEv, xres, oneOf, Nat.reduceAdd, Nat.reduceEqDiff, Nat.reduceSub, ↓reduceIte, reduceCtorEq, wrap_i64, Nat.zero_add, Nat.add_zero, Int.toNat_natCast, fillV, parts, List.map_cons, List.map_nil, over, List.length_cons, List.length_nil, Nat.beq_refl, Nat.ble, *]))
  · exact ⟨congrArg (V.int .i64) ((if_neg (by simpa using hif)).symm.trans k5), xg.trans x2⟩
  · rw [if_pos (by simpa using hif)] at k5
    have ed : hints.drop (a + 1 + headN (hints.drop (a + 1))) = (hints.drop (a + 1)).drop (headN (hints.drop (a + 1))) := by rw [List.drop_drop]
    refine ⟨hints.length - (a + 1 + headN (hints.drop (a + 1))), by omega, a + 1 + headN (hints.drop (a + 1)), mv1, ms ++ [-hd], -hd :: met, by omega, congrArg (V.int .i64) (by omega), rfl, ((xg.trans x2).trans (Ext.new ..)).butI u2 (fun o ho q => by have := k1.lt q; omega), by simpa using u1, fun z => ?_, by simp; omega, fun x r hx => ?_, ?_⟩
    · rw [List.mem_cons, List.mem_append, List.mem_singleton, k2 z]
      exact Or.comm
    · rw [ed] at hx
      have h1 := headN_drop hx
      have h2 : x ∈ hints.drop (a + 1) := List.mem_of_mem_drop (hx ▸ List.mem_cons_self)
      have h3 := hz x (List.mem_of_mem_drop h2)
      omega
    · rw [ed, ← k5]
      congr 1
      simp
end Go.Proofs.Ytmkbnbpblhoekaa
