/- The program's checker asked: Live; the clauses that stand, as a formula. -/
import Derived.Test.YtmkbnbpblhoekaaVEb
import Derived.Test.YtmkbnbpblhoekaaVDw
set_option linter.unusedSimpArgs false
set_option linter.unusedVariables false
set_option linter.unusedSectionVars false
namespace Go.Proofs.Ytmkbnbpblhoekaa
open Go.Xr Go.Chk

theorem keysOut_sl (es : List (Int × V)) (h : Heap) : Sl (keysOut es h).2 (keysOut es h).1 ((es.map Prod.fst).map (.int .i64)) ∧ Ext h (keysOut es h).2 ∧ ∀ x, rowObj (keysOut es h).1 = some x → h.next ≤ x ∧ x < (keysOut es h).2.next := by
  cases es with
  | nil => exact ⟨.inl ⟨rfl, rfl⟩, Ext.refl _, fun x q => by cases q⟩
  | cons a r =>
    refine ⟨.inr ⟨h.next, 0, 0, .rest 0 1, by simp [keysOut], fun _ => ⟨Nat.lt_succ_self _, ?_⟩⟩, Ext.new .., fun x q => by cases q; exact ⟨Nat.le_refl _, Nat.lt_succ_self _⟩⟩
    show readCells (newCells h ((a :: r).map fun p => .int .i64 p.1) 1 true) h.next 0 0 _ = _
    rw [readCells_arr (get_new ..) (by simp), List.drop_zero, List.take_of_length_le (by simp), List.map_map]
    rfl
theorem keysWf_all : ∀ {es : List (Int × V)}, (∀ k ∈ es.map Prod.fst, (Lit.int .i64 k).wf = true) → keysWf es = true
  | [], _ => rfl
  | (k, _) :: r, h => by
    unfold keysWf
    rw [h k List.mem_cons_self, keysWf_all fun x hx => h x (List.mem_cons_of_mem _ hx)]
    rfl
theorem Sorted_ok {h : Heap} {p mo ins : Nat} {ces : List (Int × V)} (hp : h.get p = some (arr [.map mo] 1 false)) (hm : h.get mo = some (.map .i64 ces ins)) (hw : keysWf ces = true) (hl : ces.length ≤ 1000000) :
    EvCall xprog H0 38 [.func 58 [] [.ptr p 0 0]] h fun v h' => Sl h' v ((ces.map Prod.fst).map (.int .i64)) ∧ Ext h h' ∧ ∀ x, rowObj v = some x → h.next ≤ x ∧ x < h'.next := by
  have hr : readCells h p 0 0 1 = some [.map mo] := readCells_arr hp (by simp)
  have e4 : sortedHook 38 58 (.call false 38 [.func 58 [] [.ptr p 0 0]] h) = some (.call (keysOut ces h).1 (keysOut ces h).2) := by
    unfold sortedHook
    have c1 : (Nat.beq 38 38 && Nat.beq 58 58) = true := rfl
    have c2 : (keysWf ces && Nat.ble (ces.length * 8) 140737488355328) = true := by
      rw [hw, Bool.true_and]
      exact Nat.ble_eq_true_of_le (by omega)
    simp only [c1, hp, arr, hr, hm, c2]
  have this : H0 (.call false 38 [.func 58 [] [.ptr p 0 0]] h) = some (.call (keysOut ces h).1 (keysOut ces h).2) := by
    refine H0_some ?_
    unfold Hb orElse
    have e2 : sortHook 81 67 (.call false 38 [.func 58 [] [.ptr p 0 0]] h) = none := rfl
    have e3 : bitsHook 78 (.call false 38 [.func 58 [] [.ptr p 0 0]] h) = none := rfl
    rw [e2]
    simp only
    rw [e3]
    simp only
    exact e4
  refine ⟨1, _, _, ?_, keysOut_sl ces h⟩
  simp only [ev, evStep, this]

theorem Live_ok {b : Nat} {h : Heap} {o : Nat} {es : List (Int × List Int)} {last : Int} {ov : Bool} {tr : List Int} (hc : ChkP b h o es last ov tr) (hr : Rise es last) (hw : ∀ e ∈ es, (Lit.int .i64 e.1).wf = true) (hl : es.length ≤ 1000000) : EvCall xprog H0 21 [.ptr o 0 0] h fun v h' => Sl h' v ((es.map Prod.fst).map (.int .i64)) ∧ Ext h h' ∧ ∀ x, rowObj v = some x → h.next ≤ x ∧ x < h'.next := by
  refine s_call (fn := xf21) rfl (free _ rfl ..) ?_
  obtain ⟨vs, mo, ces, ins, vv, tv, hm, _⟩ := hc
  have r0 := readCell (off := 0) hm.get rfl
  have hk := keys_eq hm.held hr hm.keys
  have hlen : ces.length = es.length := by rw [← List.length_map (f := Prod.fst), hk, List.length_map]
  have hs := Sorted_ok (h := newCells h [.map mo] 1 false) (mo := mo) (get_new ..) (((Ext.new ..).get mo hm.hm).trans hm.map) (keysWf_all fun k q => by rw [hk] at q; obtain ⟨e, he, rfl⟩ := List.mem_map.1 q; exact hw e he) (by omega)
  rw [hk] at hs
  simp -implicitDefEqProofs only [xf21, argsFrom_cons, argsFrom_nil]
  repeat' ((first | refine s_line rfl ?_ | refine s_end rfl ?_ | refine s_seq ?_ | refine s_region ?_ | refine s_block ?_ | refine s_cond ?_ | refine s_ret ?_ | refine s_skip ?_ | refine s_exit ?_ | refine s_if (fun hif => ?_) (fun hif => ?_) | refine condB_dec (fun hif => ?_) (fun hif => ?_) | refine condB_of (fun hif => ?_) (fun hif => ?_) | (refine s_lelt ?_ ?_; omega) | (refine s_lt ?_ ?_; omega) | (refine s_le ?_ ?_; omega) | ((refine evApply_call (Keys_ok _ _) ?_; rintro _ g1 ⟨rfl, rfl⟩)) | ((refine evApply_call hs ?_; rintro w g2 ⟨w1, x1, w2⟩))) <;>
    (try simp -implicitDefEqProofs (disch := first | assumption | omega) only [sx, sb, sd, se, xwpStep, xwpOp, xwpInt, opEv, xres, oneOf, Nat.reduceAdd, Nat.reduceEqDiff, Nat.reduceSub, ↓reduceIte, reduceCtorEq, binV, nilCmp, nilOf, Nat.zero_add, Nat.add_zero, *]))
  exact ⟨(Ext.new ..).trans x1, fun x q => ⟨by have := (w2 x q).1; rw [next_new] at this; omega, (w2 x q).2⟩⟩

/-- Clauses in memory that is no older than 'b'. -/
def ClsB (b : Nat) (h : Heap) (v : V) (cs : List (List Int)) : Prop := ∃ vs : List V, Sl h v vs ∧ (vs ≠ [] → ∀ x, rowObj v = some x → b ≤ x) ∧ vs.length = cs.length ∧ ∀ i (hi : i < cs.length), Sl h (vs.getD i .nils) ((cs[i]).map (.int .i32)) ∧ (cs[i] ≠ [] → ∀ x, rowObj (vs.getD i .nils) = some x → b ≤ x)
theorem ClsB.cls {b : Nat} {h : Heap} {v : V} {cs : List (List Int)} (hc : ClsB b h v cs) : Cls h v cs :=
  let ⟨vs, h1, _, h3, h4⟩ := hc
  ⟨vs, h1, h3, fun i hi => (h4 i hi).1⟩
theorem ClsB.row {b : Nat} {h : Heap} {v : V} {cs : List (List Int)} (hc : ClsB b h v cs) : rowS v = true :=
  let ⟨_, h1, _⟩ := hc
  h1.row
theorem ClsB.chg {b o : Nat} {h h' : Heap} {v : V} {cs : List (List Int)} (hc : ClsB b h v cs) (c : Chg o h h') (hm : ∀ x, Mut h o x → x < b) : ClsB b h' v cs := by
  obtain ⟨vs, h1, h2, h3, h4⟩ := hc
  refine ⟨vs, Sl.stayN h1 c.but.next fun hne x hx hlt => c.but.get x hlt fun q => by have := hm x q; have := h2 hne x hx; omega, h2, h3, fun i hi => ⟨Sl.stayN (h4 i hi).1 c.but.next fun hne x hx hlt => c.but.get x hlt fun q => by have := hm x q; have := (h4 i hi).2 (by simpa using hne) x hx; omega, (h4 i hi).2⟩⟩
theorem ClsB.ext {b : Nat} {h h' : Heap} {v : V} {cs : List (List Int)} (hc : ClsB b h v cs) (x : Ext h h') : ClsB b h' v cs := by
  obtain ⟨vs, h1, h2, h3, h4⟩ := hc
  exact ⟨vs, h1.ext x, h2, h3, fun i hi => ⟨(h4 i hi).1.ext x, (h4 i hi).2⟩⟩

set_option maxHeartbeats 8000000 in
theorem stands_ok {b : Nat} {h : Heap} {o : Nat} {es : List (Int × List Int)} {last : Int} {ov : Bool} {tr : List Int} (hc : ChkP b h o es last ov tr) (hr : Rise es last) (hw : ∀ e ∈ es, (Lit.int .i64 e.1).wf = true) (hl : es.length ≤ 1000000) (hll : ∀ e ∈ es, e.2.length ≤ 1000000) : EvCall xprog H0 25 [.ptr o 0 0] h fun v h' => (∃ cv, v = .agg [.int .i64 10, cv] ∧ ClsB h.next h' cv (es.map Prod.snd)) ∧ Ext h h' := by
  refine s_call (fn := xf25) rfl (free _ rfl ..) ?_
  have hli : ∀ {g}, Ext h g → EvCall xprog H0 21 [.ptr o 0 0] g fun v h' => Sl h' v ((es.map Prod.fst).map (.int .i64)) ∧ Ext g h' ∧ ∀ x, rowObj v = some x → g.next ≤ x ∧ x < h'.next := fun x => Live_ok (hc.ext x) hr hw hl
  simp -implicitDefEqProofs only [xf25, argsFrom_cons, argsFrom_nil]
  refine s_cut3 (fun t d g => slotOf t 0 = .ptr o 0 0 ∧ slotOf t 2 = .ptr h.next 0 0 ∧ slotOf t 3 = .ptr (h.next + 1) 0 0 ∧ d = [] ∧ Ext h g ∧ h.next + 2 ≤ g.next ∧ g.get h.next = some (arr [.int .i64 0, .nils] 1 false) ∧ g.get (h.next + 1) = some (arr [.int .i64 10, .nils] 1 false) ∧ ∃ lv, slotOf t 4 = lv ∧ Sl g lv ((es.map Prod.fst).map (.int .i64)) ∧ ∀ x, rowObj lv = some x → h.next + 2 ≤ x ∧ x < g.next) ?_ ?_
  · clear hw hll hr hl hc
    repeat' ((first | refine s_line rfl ?_ | refine s_end rfl ?_ | refine s_seq ?_ | refine s_region ?_ | refine s_block ?_ | refine s_cond ?_ | refine s_ret ?_ | refine s_skip ?_ | refine s_exit ?_ | refine s_if (fun hif => ?_) (fun hif => ?_) | refine condB_dec (fun hif => ?_) (fun hif => ?_) | refine condB_of (fun hif => ?_) (fun hif => ?_) | (refine s_lelt ?_ ?_; omega) | (refine s_lt ?_ ?_; omega) | (refine s_le ?_ ?_; omega) | ((refine ⟨_, writeAll (o := h.next + 1) (cs := [.int .i64 0, .nils]) (get_new ..) rfl rfl, ?_⟩)) | ((refine evApply_call (hli (((Ext.new ..).trans (Ext.new ..)).put _ (Nat.le_succ _))) ?_; rintro w g2 ⟨w1, x2, w3⟩))) <;>
      (try simp -implicitDefEqProofs (disch := first | assumption | omega) only [sx, sb, sd, se, xwpStep, xwpOp, xwpInt, opEv, xres, oneOf, Nat.reduceAdd, Nat.reduceEqDiff, Nat.reduceSub, ↓reduceIte, reduceCtorEq, cellsOf_slice, fillV, parts, List.map_cons, List.map_nil, over, List.length_cons, List.length_nil, Nat.beq_refl, Nat.ble, *]))
    refine ⟨(((Ext.new ..).trans (Ext.new ..)).put _ (Nat.le_succ _)).trans x2, by have := x2.next; simpa [Heap.put] using this, (x2.get _ (by simp [Heap.put]; omega)).trans ?_, (x2.get _ (by simp [Heap.put])).trans ?_, fun x q => ⟨by have := (w3 x q).1; simpa [Heap.put] using this, (w3 x q).2⟩⟩
    · rw [Heap.get_put, if_neg (by omega), newCells_eq, Heap.get_push, if_neg (by simp only [next_new]; omega)]
      exact get_new ..
    · rw [Heap.get_put, if_pos rfl]
  rintro t d g ⟨a1, a2, a3, rfl, x1, n1, g1, g2, lv, a4, sl, hlv'⟩
  have hlv : Kept (∀ x, rowObj lv = some x → h.next + 2 ≤ x ∧ x < g.next) := hlv'
  clear hlv'
  have hwk : Kept (∀ e ∈ es, (Lit.int .i64 e.1).wf = true) := hw
  have hllk : Kept (∀ e ∈ es, e.2.length ≤ 1000000) := hll
  clear hw hll
  have el := sl.len
  have er := sl.row
  simp only [List.length_map] at el
  repeat' ((first | refine s_line rfl ?_ | refine s_end rfl ?_ | refine s_seq ?_ | refine s_region ?_ | refine s_block ?_ | refine s_cond ?_ | refine s_ret ?_ | refine s_skip ?_ | refine s_exit ?_ | refine s_if (fun hif => ?_) (fun hif => ?_) | refine condB_dec (fun hif => ?_) (fun hif => ?_) | refine condB_of (fun hif => ?_) (fun hif => ?_) | (refine s_lelt ?_ ?_; omega) | (refine s_lt ?_ ?_; omega) | (refine s_le ?_ ?_; omega)) <;>
    (try simp -implicitDefEqProofs (disch := first | assumption | omega) only [sx, sb, sd, se, xwpStep, xwpOp, xwpInt, opEv, xres, oneOf, Nat.reduceAdd, Nat.reduceEqDiff, Nat.reduceSub, ↓reduceIte, reduceCtorEq, wrap_i64, *]))
  refine s_while (fun n t d g => ∃ (i : Nat) (ov' : V) (xs : List V), i + n = es.length ∧ slotOf t 5 = .int .i64 i ∧ slotOf t 4 = lv ∧ slotOf t 0 = .ptr o 0 0 ∧ slotOf t 2 = .ptr h.next 0 0 ∧ slotOf t 3 = .ptr (h.next + 1) 0 0 ∧ d = [] ∧ Ext h g ∧ h.next + 2 ≤ g.next ∧ g.get h.next = some (arr [.int .i64 0, .nils] 1 false) ∧ g.get (h.next + 1) = some (arr [.int .i64 10, ov'] 1 false) ∧ Sl g lv ((es.map Prod.fst).map (.int .i64)) ∧ (∀ x, rowObj lv = some x → h.next + 2 ≤ x ∧ rowObj ov' ≠ some x ∧ x < g.next) ∧ Tk (h.next + 2) g ov' xs ∧ xs.length = i ∧ ∀ j (hj : j < es.length), j < i → Sl g (xs.getD j .nils) ((es[j]).2.map (.int .i32)) ∧ ((es[j]).2 ≠ [] → ∀ x, rowObj (xs.getD j .nils) = some x → h.next + 2 ≤ x ∧ rowObj ov' ≠ some x ∧ x < g.next)) (fun _ _ _ => free_code ..) es.length ⟨0, .nils, [], by omega, by simp [slotOf_set], by simp [slotOf_set, a4], by simp [slotOf_set, a1], by simp [slotOf_set, a2], by simp [slotOf_set, a3], rfl, x1, n1, g1, g2, sl, (fun x q => have hlv : ∀ x, rowObj lv = some x → h.next + 2 ≤ x ∧ x < g.next := hlv; ⟨(hlv x q).1, by simp [rowObj], (hlv x q).2⟩), Tk.nil _ _, rfl, fun j _ hj => by omega⟩ ?_
  clear a1 a2 a3 a4 g1 g2 sl t x1 n1 hlv
  rintro n t d g ⟨i, ov', xs, b1, a5, a4, a1, a2, a3, rfl, x1, n1, g1, g2, sl, hlv', tk, hxl, hall'⟩
  have rl : ∀ (hi : i < es.length), readCells g (objS lv) (genS lv) (offS lv + i) 1 = some [.int .i64 (es[i]).1] := fun hi => sl.at (by simp [hi])
  have hget : ∀ (hi : i < es.length), EvCall xprog H0 41 [.ptr o 0 0, .int .i64 (es[i]).1] g fun v h' => (∃ w, v = .tup [w, .bool true] ∧ Own g.next h' w ((es[i]).2.map (.int .i32))) ∧ Ext g h' := fun hi => Get_ok (hc.ext x1) (find_at hi (fun j hj hlt e => by
    have := List.pairwise_iff_getElem.1 hr.1 j i (by simpa using hj) (by simpa using hi) hlt
    simp only [List.getElem_map] at this
    omega) rfl) ((show ∀ e ∈ es, e.2.length ≤ 1000000 from hllk) _ (List.getElem_mem hi))
  have rq := readCell (off := 1) g2 rfl
  have rq2 : readCells g (h.next + 1) 0 0 2 = some [.int .i64 10, ov'] := readCells_arr g2 (by simp)
  have hlv : Kept (∀ x, rowObj lv = some x → h.next + 2 ≤ x ∧ rowObj ov' ≠ some x ∧ x < g.next) := hlv'
  have hall : Kept (∀ j (hj : j < es.length), j < i → Sl g (xs.getD j .nils) ((es[j]).2.map (.int .i32)) ∧ ((es[j]).2 ≠ [] → ∀ x, rowObj (xs.getD j .nils) = some x → h.next + 2 ≤ x ∧ rowObj ov' ≠ some x ∧ x < g.next)) := hall'
  clear hlv' hall'
  repeat' ((first | refine s_line rfl ?_ | refine s_end rfl ?_ | refine s_seq ?_ | refine s_region ?_ | refine s_block ?_ | refine s_cond ?_ | refine s_ret ?_ | refine s_skip ?_ | refine s_exit ?_ | refine s_if (fun hif => ?_) (fun hif => ?_) | refine condB_dec (fun hif => ?_) (fun hif => ?_) | refine condB_of (fun hif => ?_) (fun hif => ?_) | (refine s_lelt ?_ ?_; omega) | (refine s_lt ?_ ?_; omega) | (refine s_le ?_ ?_; omega) | ((refine evApply_call (hget (by omega)) ?_; rintro _ g3 ⟨⟨w, rfl, w1⟩, x3⟩; have wr := w1.row; have rq3 := readCell (off := 1) ((x3.get _ (by omega)).trans g2) rfl)) | ((refine x_append_tk ((tk.ext x3).ext (Ext.new ..)) (by have := x3.next; simp only [next_new]; omega) (sl_new (get_new ..) (by simp)) (by simp [one_row wr]) (by simp; omega) ?_; rintro ov2 g4 k2 u2 e2; have rt := k2.row; have gq4 := (u2.get (h.next + 1) (by have := x3.next; simp only [next_new]; omega) (fun q => by have := tk.lt q; omega)).trans (((Ext.new ..).get (h.next + 1) (by have := x3.next; omega)).trans ((x3.get _ (by omega)).trans g2)))) | ((refine st_step (cs := [.int .i64 10, ov']) (sp := false) gq4 (by simp) (one_row rt) ?_; intro g5 gq5 n5 f5)) | ((refine ⟨_, writeAll (o := h.next) (cs := [.int .i64 0, .nils]) g1 rfl (by rw [List.all_cons, List.all_cons, one_row tk.row]; rfl), ?_⟩))) <;>
    (try simp -implicitDefEqProofs (disch := first | assumption | omega) only [sx, sb, sd, se, xwpStep, xwpOp, xwpInt, opEv, xres, oneOf, Nat.reduceAdd, Nat.reduceEqDiff, Nat.reduceSub, ↓reduceIte, reduceCtorEq, wrap_i64, Nat.zero_add, Int.toNat_natCast, Nat.add_zero, List.getElem?_cons_zero, List.getElem?_cons_succ, cellsOf_slice, fillV, parts, List.map_cons, List.map_nil, over, List.length_cons, List.length_nil, Nat.beq_refl, Nat.ble, *]))
  all_goals
    have hlv : ∀ x, rowObj lv = some x → h.next + 2 ≤ x ∧ rowObj ov' ≠ some x ∧ x < g.next := hlv
    have hall : ∀ j (hj : j < es.length), j < i → Sl g (xs.getD j .nils) ((es[j]).2.map (.int .i32)) ∧ ((es[j]).2 ≠ [] → ∀ x, rowObj (xs.getD j .nils) = some x → h.next + 2 ≤ x ∧ rowObj ov' ≠ some x ∧ x < g.next) := hall
  · have un := u2.next
    rw [next_new] at un
    have xn := x3.next
    have hG : ∀ y, y < g3.next → y ≠ h.next + 1 → rowObj ov' ≠ some y → g5.get y = g3.get y := fun y q1 q2 q3 => (f5 y q2).trans ((u2.get y (by rw [next_new]; omega) q3).trans ((Ext.new ..).get y q1))
    have tkl : ∀ x, rowObj ov' = some x → h.next + 2 ≤ x ∧ x < g.next := fun x q => tk.lt q
    have hnr : ∀ x, x < g3.next → rowObj ov' ≠ some x → rowObj ov2 ≠ some x := fun x q1 q2 q3 => by
      rcases e2 with e | e | e
      · exact q2 (e ▸ q3)
      · exact q2 (e ▸ q3)
      · rw [q3] at e
        cases e
        rw [next_new] at q1
        omega
    refine ⟨n - 1, by omega, i + 1, ov2, xs ++ [w], by omega, by simp, ⟨by have := x1.next; omega, fun y q => (hG y (by omega) (by omega) (fun e => by have := tkl y e; omega)).trans ((x3.get y (by omega)).trans (x1.get y q))⟩, by omega, (u2.get h.next (by rw [next_new]; omega) (fun q => by have := tkl _ q; omega)).trans (((Ext.new ..).get _ (by omega)).trans ((x3.get _ (by omega)).trans g1)), rfl, sl.stay (by omega) fun x hx hlt => (hG x (by omega) (by have := hlv x hx; omega) (hlv x hx).2.1).trans (x3.get x hlt), fun x hx => ⟨(hlv x hx).1, hnr x (by have := hlv x hx; omega) (hlv x hx).2.1, by have := hlv x hx; omega⟩, k2.frame (by omega) fun x hx => f5 x (by have := k2.lt hx; omega), by simp; omega, fun j hj hlt => ?_⟩
    rcases Nat.lt_succ_iff_lt_or_eq.1 hlt with hji | rfl
    · rw [show (xs ++ [w]).getD j .nils = xs.getD j .nils by simp [List.getD_eq_getElem?_getD, List.getElem?_append_left (show j < xs.length by omega)]]
      obtain ⟨q1, q2⟩ := hall j hj hji
      exact ⟨Sl.stayN q1 (by omega) fun hne x hx hlt => (hG x (by omega) (by have := q2 (by simpa using hne) x hx; omega) (q2 (by simpa using hne) x hx).2.1).trans (x3.get x hlt), fun hne x hx => ⟨(q2 hne x hx).1, hnr x (by have := (q2 hne x hx).2.2; omega) (q2 hne x hx).2.1, by have := (q2 hne x hx).2.2; omega⟩⟩
    · rw [show (xs ++ [w]).getD j .nils = w by simp [List.getD_eq_getElem?_getD, ← hxl]]
      have hob : (es[j]).2 ≠ [] → ∀ x, rowObj w = some x → g.next ≤ x ∧ x < g3.next := fun hne x hx => by
        rcases w1 with ⟨q, _⟩ | ⟨o', _, _, h1, h2, rfl, _⟩
        · exact absurd (by simpa using q) hne
        · cases hx
          exact ⟨h1, h2⟩
      exact ⟨Sl.stayN w1.sl (by omega) fun hne x hx hlt => hG x hlt (by have := hob (by simpa using hne) x hx; omega) (fun e => by have := tkl x e; have := hob (by simpa using hne) x hx; omega), fun hne x hx => ⟨by have := hob hne x hx; omega, hnr x (hob hne x hx).2 (fun e => by have := tkl x e; have := hob hne x hx; omega), by have := hob hne x hx; omega⟩⟩
  · have hp : ∀ x, x ≠ h.next → (g.put h.next (arr [.int .i64 10, ov'] 1 false)).get x = g.get x := fun x q => by rw [Heap.get_put, if_neg q]
    refine ⟨_, readCells_arr (by rw [Heap.get_put, if_pos rfl]) (by simp), ⟨ov', rfl, ⟨xs, tk.sl.stay (Nat.le_refl _) fun x hx _ => hp x (by have := tk.lt hx; omega), fun _ x hx => by have := tk.lt hx; omega, by simp; omega, fun j hj => ?_⟩⟩, x1.put _ (Nat.le_refl _)⟩
    rw [List.length_map] at hj
    rw [List.getElem_map]
    obtain ⟨q1, q2⟩ := hall j hj (by omega)
    exact ⟨Sl.stayN q1 (Nat.le_refl _) fun hne x hx _ => hp x (by have := q2 (by simpa using hne) x hx; omega), fun hne x hx => by have := q2 hne x hx; omega⟩
end Go.Proofs.Ytmkbnbpblhoekaa
