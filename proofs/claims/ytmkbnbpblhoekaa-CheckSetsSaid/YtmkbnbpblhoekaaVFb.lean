/- Doubled clauses: as words, and as the statement's function makes them. -/
import Derived.Test.YtmkbnbpblhoekaaVFa
import Derived.Test.YtmkbnbpblhoekaaVEl
import Derived.Test.YtmkbnbpblhoekaaVDx
import Derived.Test.YtmkbnbpblhoekaaW4
set_option linter.unusedSimpArgs false
set_option linter.unusedVariables false
set_option linter.unusedSectionVars false
namespace Go.Proofs.Ytmkbnbpblhoekaa
open Go.Xr Go.Chk

theorem mayOf_dbl (kind id : Int) (l hints : List Int) : mayOf kind id (dbl l) hints = mayOf kind id l hints := by
  unfold mayOf
  have e1 : (dbl l).all litFine = l.all litFine := by
    unfold dbl
    rw [List.all_append, Bool.and_self]
  have e2 : tailFine kind id (dbl l).length = tailFine kind id l.length := by
    unfold tailFine
    rw [dbl_len]
    have : decide (0 ≤ id ∧ id ≤ 4611686018427387903 ∧ 2 * l.length = 0) = decide (0 ≤ id ∧ id ≤ 4611686018427387903 ∧ l.length = 0) := decide_eq_decide.2 (by omega)
    rw [this]
  rw [e1, e2]
theorem rightOf_dbl (vars : Int) (cs : List (List Int)) : rightOf vars (cs.map dbl) = rightOf vars cs := by
  unfold rightOf
  have e : ((cs.map dbl).any fun c => c.any (bad vars)) = cs.any fun c => c.any (bad vars) := by
    rw [List.any_map]
    congr 1
    funext c
    show (dbl c).any (bad vars) = c.any (bad vars)
    unfold dbl
    rw [List.any_append, Bool.or_self]
  rw [e]
theorem done_dbl (cs : List (List Int)) : done (cs.map dbl) (cs.map dbl).length = 2 * done cs cs.length := by
  unfold done
  rw [List.take_length, List.take_length]
  induction cs with
  | nil => rfl
  | cons a r ih =>
    simp only [List.map_cons, List.sum_cons, ih, dbl_len]
    omega
theorem doubled_ok {h : Heap} {c : V} {xs : List Int} (hc : Sl h c (xs.map (.int .i32))) (hlen : xs.length ≤ 1000000) : EvCall xprog H0 20 [c] h fun v h' => Tk h.next h' v ((dbl xs).map (.int .i32)) ∧ Ext h h' := by
  refine s_call (fn := xf20) rfl (free _ rfl ..) ?_
  simp -implicitDefEqProofs only [xf20, argsFrom_cons, argsFrom_nil]
  repeat' ((first | refine s_line rfl ?_ | refine s_end rfl ?_ | refine s_seq ?_ | refine s_region ?_ | refine s_block ?_ | refine s_cond ?_ | refine s_ret ?_ | refine s_skip ?_ | refine s_exit ?_ | refine s_if (fun hif => ?_) (fun hif => ?_) | refine condB_dec (fun hif => ?_) (fun hif => ?_) | refine condB_of (fun hif => ?_) (fun hif => ?_) | (refine s_lelt ?_ ?_; omega) | (refine s_lt ?_ ?_; omega) | (refine s_le ?_ ?_; omega) | ((refine x_append_tk (Tk.nil h.next h) (Nat.le_refl _) hc (one_map _ _) (by simp; omega) ?_; rintro v1 g1 k1 u1 e1; have y1 : Ext h g1 := (Ext.refl h).butI u1 (fun o _ q => by cases q))) | ((refine x_append_tk k1 y1.next (hc.ext y1) (one_map _ _) (by simp; omega) ?_; rintro v2 g2 k2 u2 e2))) <;>
    (try simp -implicitDefEqProofs (disch := first | assumption | omega) only [sx, sb, sd, se, xwpStep, xwpOp, xwpInt, opEv, xres, oneOf, Nat.reduceAdd, Nat.reduceEqDiff, Nat.reduceSub, ↓reduceIte, reduceCtorEq, *]))
  refine ⟨?_, y1.butI u2 fun o ho q => by have := k1.lt q; omega⟩
  rw [show (dbl xs).map (V.int .i32) = ([] ++ xs.map (V.int .i32)) ++ xs.map (V.int .i32) by simp [dbl]]
  exact k2

theorem step_ids {P : Int → Prop} {s : Chs} {may : Bool} {kind id : Int} {l hints : List Int} (h : ∀ e ∈ s.es, P e.1) (hid : P id) : ∀ e ∈ (s.step may kind id l hints).2.es, P e.1 := by
  unfold Chs.step
  repeat' split
  all_goals first
    | exact h
    | exact fun e he => h e (List.mem_filter.1 he).1
    | (intro e he
       rcases List.mem_append.1 he with he | he
       · exact h e he
       · rw [List.mem_singleton] at he
         subst he
         exact hid)

set_option maxHeartbeats 8000000 in
theorem sets_ok {h : Heap} {vars : Int} {cv sv : V} {cs : List (List Int)} {l : List StV} (hc : Cls h cv cs) (hs : Stps h sv l) (hx : ∀ c ∈ cs, ∀ x ∈ c, I32ok x) (hids : ∀ s ∈ l, (Lit.int .i64 s.s.id).wf = true) :
    EvCall xprog H0 5 [.agg [.int .i64 vars, cv], sv] h fun v h' => v = .bool true ∧ Ext h h' := by
  refine s_call (fn := xf5) rfl (free _ rfl ..) ?_
  generalize hH1 : newCells h [.int .i64 vars, cv] 1 false = H1
  have x1 : Ext h H1 := hH1 ▸ Ext.new ..
  have g1 : H1.get h.next = some (arr [.int .i64 vars, cv] 1 false) := by rw [← hH1]; exact get_new ..
  have hlt1 : h.next < H1.next := by rw [← hH1]; simp
  have rA : ∀ {g}, Ext H1 g → readCells g h.next 0 0 2 = some [.int .i64 vars, cv] ∧ readCells g h.next 0 0 1 = some [.int .i64 vars] ∧ readCells g h.next 0 1 1 = some [cv] := fun x =>
    have q := (x.get h.next hlt1).trans g1
    ⟨readCells_arr q (by simp), readCell (off := 0) q rfl, readCell (off := 1) q rfl⟩
  obtain ⟨rA0, rA1, rA2⟩ := rA (Ext.refl H1)
  have el := hs.len
  have er := hs.sl.row
  have hla := large2_ok (vars := vars) (hc.ext x1) (hs.ext x1)
  simp -implicitDefEqProofs only [xf5, argsFrom_cons, argsFrom_nil]
  refine s_cut2 (fun t d g' => slotOf t 2 = .ptr h.next 0 0 ∧ slotOf t 1 = sv ∧ d = [] ∧ Ext H1 g' ∧ cs.length ≤ 200 ∧ done cs cs.length ≤ 1500 ∧ l.length ≤ 1500 ∧ ∀ s ∈ l, s.s.lits.length ≤ 1500 ∧ s.s.hints.length ≤ 1500) ?_ ?_
  · repeat' ((first | refine s_line rfl ?_ | refine s_end rfl ?_ | refine s_seq ?_ | refine s_region ?_ | refine s_block ?_ | refine s_cond ?_ | refine s_ret ?_ | refine s_skip ?_ | refine s_exit ?_ | refine s_if (fun hif => ?_) (fun hif => ?_) | refine condB_dec (fun hif => ?_) (fun hif => ?_) | refine condB_of (fun hif => ?_) (fun hif => ?_) | (refine s_lelt ?_ ?_; omega) | (refine s_lt ?_ ?_; omega) | (refine s_le ?_ ?_; omega) | refine s_again rfl ?_ | (refine And.intro (a := stays _ _ _ = true) ?_ ?_; focus (simp -implicitDefEqProofs (disch := first | assumption | omega) only [sx, sb, sd, se, xwpStep, xwpOp, xwpInt, opEv, xres, oneOf, Nat.reduceAdd, Nat.reduceEqDiff, Nat.reduceSub, ↓reduceIte, reduceCtorEq, stays, wantedV, V.same_refl, Bool.and_self, Bool.and_true, beq_self_eq_true, Bool.true_beq, Bool.false_beq, wrap_i64, Nat.zero_add, Nat.add_zero, *]; done)) | ((refine evApply_call hla ?_; rintro _ g2 ⟨⟨bl, rfl, hbl⟩, x2⟩; obtain ⟨rB0, rB1, rB2⟩ := rA x2; cases bl)) | ((refine evApply_call (works_ok _) ?_; rintro _ gw ⟨rfl, xw⟩))) <;>
      (try simp -implicitDefEqProofs (disch := first | assumption | omega) only [sx, sb, sd, se, xwpStep, xwpOp, xwpInt, opEv, xres, oneOf, Nat.reduceAdd, Nat.reduceEqDiff, Nat.reduceSub, ↓reduceIte, reduceCtorEq, wrap_i64, Nat.zero_add, Nat.add_zero, *]))
    · exact hbl rfl
    · exact x1.trans (x2.trans xw)
  clear rA0 rA1 rA2 hla
  rintro t d g ⟨a2, a1, rfl, xg, hcl, hdn, hl15, hll'⟩
  have hll : Kept (∀ s ∈ l, s.s.lits.length ≤ 1500 ∧ s.s.hints.length ≤ 1500) := hll'
  have hidk : Kept (∀ s ∈ l, (Lit.int .i64 s.s.id).wf = true) := hids
  clear hll' hids
  obtain ⟨rA0, rA1, rA2⟩ := rA xg
  refine s_cut1 (fun t d g' => slotOf t 2 = .ptr h.next 0 0 ∧ slotOf t 1 = sv ∧ slotOf t 5 = .ptr g.next 0 0 ∧ d = [] ∧ Ext g g' ∧ g.next < g'.next ∧ g'.get g.next = some (arr [.int .i64 vars, .nils] 1 false)) ?_ ?_
  · repeat' ((first | refine s_line rfl ?_ | refine s_end rfl ?_ | refine s_seq ?_ | refine s_region ?_ | refine s_block ?_ | refine s_cond ?_ | refine s_ret ?_ | refine s_skip ?_ | refine s_exit ?_ | refine s_if (fun hif => ?_) (fun hif => ?_) | refine condB_dec (fun hif => ?_) (fun hif => ?_) | refine condB_of (fun hif => ?_) (fun hif => ?_) | (refine s_lelt ?_ ?_; omega) | (refine s_lt ?_ ?_; omega) | (refine s_le ?_ ?_; omega) | refine s_again rfl ?_ | (refine And.intro (a := stays _ _ _ = true) ?_ ?_; focus (simp -implicitDefEqProofs (disch := first | assumption | omega) only [sx, sb, sd, se, xwpStep, xwpOp, xwpInt, opEv, xres, oneOf, Nat.reduceAdd, Nat.reduceEqDiff, Nat.reduceSub, ↓reduceIte, reduceCtorEq, stays, wantedV, V.same_refl, Bool.and_self, Bool.and_true, beq_self_eq_true, Bool.true_beq, Bool.false_beq, wrap_i64, Nat.zero_add, Nat.add_zero, cellsOf_slice, fillV, parts, List.map_cons, List.map_nil, over, List.length_cons, List.length_nil, Nat.beq_refl, Nat.ble, *]; done)) | ((refine ⟨_, writeAll (o := g.next) (cs := [.int .i64 0, .nils]) (get_new ..) rfl rfl, ?_⟩))) <;>
      (try simp -implicitDefEqProofs (disch := first | assumption | omega) only [sx, sb, sd, se, xwpStep, xwpOp, xwpInt, opEv, xres, oneOf, Nat.reduceAdd, Nat.reduceEqDiff, Nat.reduceSub, ↓reduceIte, reduceCtorEq, wrap_i64, Nat.zero_add, Nat.add_zero, cellsOf_slice, fillV, parts, List.map_cons, List.map_nil, over, List.length_cons, List.length_nil, Nat.beq_refl, Nat.ble, *]))
    exact ⟨(Ext.new ..).put _ (Nat.le_refl _), Nat.lt_succ_self _, by rw [Heap.get_put, if_pos rfl]⟩
  clear a1 a2 t rA0 rA1 rA2
  rintro t d g2 ⟨a2, a1, a5, rfl, x2, hq1, hq2⟩
  obtain ⟨vs, hs1, hvl, hcs⟩ := hc.ext x1
  have ecv := hs1.len
  have ercv := hs1.row
  rw [hvl] at ecv
  refine s_cut1 (fun t d g' => slotOf t 2 = .ptr h.next 0 0 ∧ slotOf t 1 = sv ∧ slotOf t 5 = .ptr g.next 0 0 ∧ d = [] ∧ Ext g g' ∧ g.next < g'.next ∧ ∃ dv, g'.get g.next = some (arr [.int .i64 vars, dv] 1 false) ∧ Cls g' dv (cs.map dbl)) ?_ ?_
  · repeat' ((first | refine s_line rfl ?_ | refine s_end rfl ?_ | refine s_seq ?_ | refine s_region ?_ | refine s_block ?_ | refine s_cond ?_ | refine s_ret ?_ | refine s_skip ?_ | refine s_exit ?_ | refine s_if (fun hif => ?_) (fun hif => ?_) | refine condB_dec (fun hif => ?_) (fun hif => ?_) | refine condB_of (fun hif => ?_) (fun hif => ?_) | (refine s_lelt ?_ ?_; omega) | (refine s_lt ?_ ?_; omega) | (refine s_le ?_ ?_; omega) | refine s_again rfl ?_ | (refine And.intro (a := stays _ _ _ = true) ?_ ?_; focus (simp -implicitDefEqProofs (disch := first | assumption | omega) only [sx, sb, sd, se, xwpStep, xwpOp, xwpInt, opEv, xres, oneOf, Nat.reduceAdd, Nat.reduceEqDiff, Nat.reduceSub, ↓reduceIte, reduceCtorEq, stays, wantedV, V.same_refl, Bool.and_self, Bool.and_true, beq_self_eq_true, Bool.true_beq, Bool.false_beq, wrap_i64, *]; done))) <;>
      (try simp -implicitDefEqProofs (disch := first | assumption | omega) only [sx, sb, sd, se, xwpStep, xwpOp, xwpInt, opEv, xres, oneOf, Nat.reduceAdd, Nat.reduceEqDiff, Nat.reduceSub, ↓reduceIte, reduceCtorEq, wrap_i64, *]))
    refine s_while (fun n t d g' => ∃ (i : Nat) (dv : V) (xs : List V), i + n = cs.length ∧ slotOf t 6 = .int .i64 i ∧ slotOf t 2 = .ptr h.next 0 0 ∧ slotOf t 1 = sv ∧ slotOf t 5 = .ptr g.next 0 0 ∧ d = [] ∧ Ext g g' ∧ g.next + 1 ≤ g'.next ∧ g'.get g.next = some (arr [.int .i64 vars, dv] 1 false) ∧ Tk (g.next + 1) g' dv xs ∧ xs.length = i ∧ ∀ j (hj : j < cs.length), j < i → Sl g' (xs.getD j .nils) ((dbl cs[j]).map (.int .i32)) ∧ (cs[j] ≠ [] → ∀ x, rowObj (xs.getD j .nils) = some x → g.next + 1 ≤ x ∧ rowObj dv ≠ some x ∧ x < g'.next)) (fun _ _ _ => free_code ..) cs.length ⟨0, .nils, [], by omega, by simp [slotOf_set], by simp [slotOf_set, a2], by simp [slotOf_set, a1], by simp [slotOf_set, a5], rfl, x2, hq1, hq2, Tk.nil _ _, rfl, fun j _ hj => by omega⟩ ?_
    clear a1 a2 a5 t x2 hq1 hq2
    rintro n t d g' ⟨i, dv, xs, b1, a6, a2, a1, a5, rfl, x2, n1, gq, tk, hxl, hall'⟩
    have hall : Kept (∀ j (hj : j < cs.length), j < i → Sl g' (xs.getD j .nils) ((dbl cs[j]).map (.int .i32)) ∧ (cs[j] ≠ [] → ∀ x, rowObj (xs.getD j .nils) = some x → g.next + 1 ≤ x ∧ rowObj dv ≠ some x ∧ x < g'.next)) := hall'
    clear hall'
    obtain ⟨rA0, rA1, rA2⟩ := rA (xg.trans x2)
    have rc : i < cs.length → readCells g' (objS cv) (genS cv) (offS cv + i) 1 = some [vs.getD i .nils] := fun hi => (hs1.ext (xg.trans x2)).at (by simp [show i < vs.length by omega])
    have hdb : ∀ (hi : i < cs.length), EvCall xprog H0 20 [vs.getD i .nils] g' fun v h' => Tk g'.next h' v ((dbl cs[i]).map (.int .i32)) ∧ Ext g' h' := fun hi => doubled_ok ((hcs i hi).ext (xg.trans x2)) (by have := done_mem (List.getElem_mem hi); omega)
    have rq := readCell (off := 1) gq rfl
    repeat' ((first | refine s_line rfl ?_ | refine s_end rfl ?_ | refine s_seq ?_ | refine s_region ?_ | refine s_block ?_ | refine s_cond ?_ | refine s_ret ?_ | refine s_skip ?_ | refine s_exit ?_ | refine s_if (fun hif => ?_) (fun hif => ?_) | refine condB_dec (fun hif => ?_) (fun hif => ?_) | refine condB_of (fun hif => ?_) (fun hif => ?_) | (refine s_lelt ?_ ?_; omega) | (refine s_lt ?_ ?_; omega) | (refine s_le ?_ ?_; omega) | refine s_again rfl ?_ | (refine And.intro (a := stays _ _ _ = true) ?_ ?_; focus (simp -implicitDefEqProofs (disch := first | assumption | omega) only [sx, sb, sd, se, xwpStep, xwpOp, xwpInt, opEv, xres, oneOf, Nat.reduceAdd, Nat.reduceEqDiff, Nat.reduceSub, ↓reduceIte, reduceCtorEq, stays, wantedV, V.same_refl, Bool.and_self, Bool.and_true, beq_self_eq_true, Bool.true_beq, Bool.false_beq, wrap_i64, Nat.zero_add, Int.toNat_natCast, Nat.add_zero, List.getElem?_cons_zero, List.getElem?_cons_succ, cellsOf_slice, fillV, parts, List.map_cons, List.map_nil, over, List.length_cons, List.length_nil, Nat.beq_refl, Nat.ble, *]; done)) | ((refine evApply_call (hdb (by omega)) ?_; rintro w g3 ⟨w1, x3⟩; have wr := w1.row; have rq3 := readCell (off := 1) ((x3.get _ (by omega)).trans gq) rfl; have rq4 := readCell (off := 1) (((Ext.new g3 [w] 1 false).get g.next (by have := x3.next; omega)).trans ((x3.get _ (by omega)).trans gq)) rfl)) | ((refine x_append_tk ((tk.ext x3).ext (Ext.new ..)) (by have := x3.next; simp only [next_new]; omega) (sl_new (get_new ..) (by simp)) (by simp [one_row wr]) (by simp; omega) ?_; rintro ov2 g4 k2 u2 e2; have rt := k2.row; have gq4 := (u2.get g.next (by have := x3.next; simp only [next_new]; omega) (fun q => by have := tk.lt q; omega)).trans (((Ext.new ..).get g.next (by have := x3.next; omega)).trans ((x3.get _ (by omega)).trans gq)))) | ((refine st_step (cs := [.int .i64 vars, dv]) (sp := false) gq4 (by simp) (one_row rt) ?_; intro g5 gq5 n5 f5))) <;>
      (try simp -implicitDefEqProofs (disch := first | assumption | omega) only [sx, sb, sd, se, xwpStep, xwpOp, xwpInt, opEv, xres, oneOf, Nat.reduceAdd, Nat.reduceEqDiff, Nat.reduceSub, ↓reduceIte, reduceCtorEq, wrap_i64, Nat.zero_add, Int.toNat_natCast, Nat.add_zero, List.getElem?_cons_zero, List.getElem?_cons_succ, cellsOf_slice, fillV, parts, List.map_cons, List.map_nil, over, List.length_cons, List.length_nil, Nat.beq_refl, Nat.ble, *]))
    all_goals
      have hall : ∀ j (hj : j < cs.length), j < i → Sl g' (xs.getD j .nils) ((dbl cs[j]).map (.int .i32)) ∧ (cs[j] ≠ [] → ∀ x, rowObj (xs.getD j .nils) = some x → g.next + 1 ≤ x ∧ rowObj dv ≠ some x ∧ x < g'.next) := hall
      have hne2 : ∀ {c : List Int}, (dbl c).map (V.int .i32) ≠ [] → c ≠ [] := fun q e => q (by rw [e]; rfl)
    · have un := u2.next
      rw [next_new] at un
      have xn := x3.next
      have hG : ∀ y, y < g3.next → y ≠ g.next → rowObj dv ≠ some y → g5.get y = g3.get y := fun y q1 q2 q3 => (f5 y q2).trans ((u2.get y (by rw [next_new]; omega) q3).trans ((Ext.new ..).get y q1))
      have tkl : ∀ x, rowObj dv = some x → g.next + 1 ≤ x ∧ x < g'.next := fun x q => tk.lt q
      have hnr : ∀ x, x < g3.next → rowObj dv ≠ some x → rowObj ov2 ≠ some x := fun x q1 q2 q3 => by
        rcases e2 with e | e | e
        · exact q2 (e ▸ q3)
        · exact q2 (e ▸ q3)
        · rw [q3] at e
          cases e
          rw [next_new] at q1
          omega
      refine ⟨n - 1, by omega, i + 1, ov2, xs ++ [w], by omega, by simp, ⟨by have := x2.next; omega, fun y q => (hG y (by omega) (by omega) (fun e => by have := tkl y e; omega)).trans ((x3.get y (by omega)).trans (x2.get y q))⟩, by omega, rfl, k2.frame (by omega) fun x hx => f5 x (by have := k2.lt hx; omega), by simp; omega, fun j hj hlt => ?_⟩
      rcases Nat.lt_succ_iff_lt_or_eq.1 hlt with hji | rfl
      · rw [show (xs ++ [w]).getD j .nils = xs.getD j .nils by simp [List.getD_eq_getElem?_getD, List.getElem?_append_left (show j < xs.length by omega)]]
        obtain ⟨q1, q2⟩ := hall j hj hji
        exact ⟨Sl.stayN q1 (by omega) fun hne x hx hlt => (hG x (by omega) (by have := q2 (hne2 hne) x hx; omega) (q2 (hne2 hne) x hx).2.1).trans (x3.get x hlt), fun hne x hx => ⟨(q2 hne x hx).1, hnr x (by have := (q2 hne x hx).2.2; omega) (q2 hne x hx).2.1, by have := (q2 hne x hx).2.2; omega⟩⟩
      · rw [show (xs ++ [w]).getD j .nils = w by simp [List.getD_eq_getElem?_getD, ← hxl]]
        have hob : ∀ x, rowObj w = some x → g'.next ≤ x ∧ x < g3.next := fun x hx => w1.lt hx
        exact ⟨Sl.stayN w1.sl (by omega) fun hne x hx hlt => hG x hlt (by have := hob x hx; omega) (fun e => by have := tkl x e; have := hob x hx; omega), fun hne x hx => ⟨by have := hob x hx; omega, hnr x (hob x hx).2 (fun e => by have := tkl x e; have := hob x hx; omega), by have := hob x hx; omega⟩⟩
    · exact ⟨by omega, dv, rfl, xs, tk.sl, by simp; omega, fun j hj => by
        rw [List.length_map] at hj
        rw [List.getElem_map]
        exact (hall j hj (by omega)).1⟩
  clear hs1 hvl hcs ecv ercv vs a1 a2 a5 x2 hq1 hq2 t
  rintro t d g3 ⟨a2, a1, a5, rfl, x3, n3, dv, gq, hcd⟩
  have xg3 := xg.trans x3
  obtain ⟨rA0, rA1, rA2⟩ := rA xg3
  have rD : ∀ {g'}, Ext g3 g' → readCells g' g.next 0 0 2 = some [.int .i64 vars, dv] := fun x => readCells_arr ((x.get _ n3).trans gq) (by simp)
  have hxd : ∀ c ∈ cs.map dbl, ∀ x ∈ c, I32ok x := fun c hm x hq => by
    obtain ⟨c', hc', rfl⟩ := List.mem_map.1 hm
    exact hx c' hc' x (dbl_mem.1 hq)
  have hdd : done (cs.map dbl) (cs.map dbl).length ≤ 3000 := by rw [done_dbl]; omega
  have hcld : (cs.map dbl).length ≤ 1000 := by rw [List.length_map]; omega
  have hnA := NewF_ok (vars := vars) ((hc.ext x1).ext xg3) hx (by omega) (by omega)
  have hnB : ∀ {g4}, Ext g3 g4 → _ := fun {g4} x => NewF_ok (vars := vars) (hcd.ext x) hxd hdd hcld
  rw [rightOf_dbl] at hnB
  by_cases hr : rightOf vars cs = 0
  · have hri : ∀ ds : List (List Int), ds.length ≤ 200 → (∀ c ∈ ds, Fine c ∧ c.length ≤ 3000) → Right6 0 (Chk.start ds ⟨[], 0, false⟩ 1) 200 := fun ds h1 h2 => by
      have := begun_right (b := 0) ds ⟨[], 0, false⟩ 1 0 ⟨⟨.nil, fun e he => by cases he⟩, (fun e he => by cases he), Nat.le_refl _, Nat.le_refl _⟩ h2 (by decide) (by decide)
      exact ⟨this.rise, this.fine, by have := this.len; omega, Nat.le_trans this.tot (Nat.mul_le_mul_right _ (by omega))⟩
    have hrA := hri cs hcl fun c hm => ⟨right_fine hr c hm, by have := done_mem hm; omega⟩
    have hrB := hri (cs.map dbl) (by rw [List.length_map]; exact hcl) fun c hm => by
      obtain ⟨c', hc', rfl⟩ := List.mem_map.1 hm
      exact ⟨fun x hq => right_fine hr c' hc' x (dbl_mem.1 hq), by have := done_mem hc'; rw [dbl_len]; omega⟩
    have htw := Chk.Twin.start cs (s := ⟨[], 0, false⟩) (s' := ⟨[], 0, false⟩) 1 ⟨rfl, rfl, rfl⟩
    have hla := begun_last cs ⟨[], 0, false⟩ 1 (by decide)
    have hidA : ∀ e ∈ (Chk.start cs ⟨[], 0, false⟩ 1).es, (Lit.int .i64 e.1).wf = true := fun e he => by
      have := hrA.rise.2 e he
      exact wf_i64 this.2 (by omega)
    generalize Chk.start cs ⟨[], 0, false⟩ 1 = sA at *
    generalize Chk.start (cs.map dbl) ⟨[], 0, false⟩ 1 = sB at *
    clear hri hla hxd hdd hcld
    have hnA : EvCall xprog H0 13 [.agg [.int .i64 vars, cv]] g3 fun v h' => (∃ o b, v = .tup [.ptr o 0 0, .int .i64 0] ∧ g3.next ≤ b ∧ ChkP b h' o sA.es sA.last sA.over [] ∧ ∀ x, Foot h' o x → g3.next ≤ x) ∧ Ext g3 h' := hnA.mono fun v g ⟨q1, q2⟩ => ⟨q1.elim (fun q => absurd hr q.1) fun q => q.2, q2⟩
    have hnB : ∀ {g4}, Ext g3 g4 → EvCall xprog H0 13 [.agg [.int .i64 vars, dv]] g4 fun v h' => (∃ o b, v = .tup [.ptr o 0 0, .int .i64 0] ∧ g4.next ≤ b ∧ ChkP b h' o sB.es sB.last sB.over [] ∧ ∀ x, Foot h' o x → g4.next ≤ x) ∧ Ext g4 h' := fun x => (hnB x).mono fun v g ⟨q1, q2⟩ => ⟨q1.elim (fun q => absurd hr q.1) fun q => q.2, q2⟩
    refine s_cut2 (fun t d g' => slotOf t 1 = sv ∧ slotOf t 8 = .int .i64 0 ∧ slotOf t 10 = .int .i64 0 ∧ d = [] ∧ ∃ o o' b b', slotOf t 7 = .ptr o 0 0 ∧ slotOf t 9 = .ptr o' 0 0 ∧ H1.next ≤ b ∧ H1.next ≤ b' ∧ Ext H1 g' ∧ ChkP b g' o sA.es sA.last sA.over [] ∧ ChkP b' g' o' sB.es sB.last sB.over [] ∧ Sep g' o o') ?_ ?_
    · repeat' ((first | refine s_line rfl ?_ | refine s_end rfl ?_ | refine s_seq ?_ | refine s_region ?_ | refine s_block ?_ | refine s_cond ?_ | refine s_ret ?_ | refine s_skip ?_ | refine s_exit ?_ | refine s_if (fun hif => ?_) (fun hif => ?_) | refine condB_dec (fun hif => ?_) (fun hif => ?_) | refine condB_of (fun hif => ?_) (fun hif => ?_) | (refine s_lelt ?_ ?_; omega) | (refine s_lt ?_ ?_; omega) | (refine s_le ?_ ?_; omega) | refine s_again rfl ?_ | (refine And.intro (a := stays _ _ _ = true) ?_ ?_; focus (simp -implicitDefEqProofs (disch := first | assumption | omega) only [sx, sb, sd, se, xwpStep, xwpOp, xwpInt, opEv, xres, oneOf, Nat.reduceAdd, Nat.reduceEqDiff, Nat.reduceSub, ↓reduceIte, reduceCtorEq, stays, wantedV, V.same_refl, Bool.and_self, Bool.and_true, beq_self_eq_true, Bool.true_beq, Bool.false_beq, wrap_i64, Nat.zero_add, Nat.add_zero, List.getElem?_cons_zero, List.getElem?_cons_succ, *]; done)) | ((refine evApply_call hnA ?_; rintro _ g4 ⟨⟨o, b, rfl, hb1, k1, f1⟩, x4⟩; have f1 : Kept (∀ x, Foot g4 o x → g3.next ≤ x) := f1; have rD4 := rD x4)) | ((refine evApply_call (hnB x4) ?_; rintro _ g5 ⟨⟨o', b', rfl, hb2, k2, f2⟩, x5⟩; have f2 : Kept (∀ x, Foot g5 o' x → g4.next ≤ x) := f2))) <;>
        (try simp -implicitDefEqProofs (disch := first | assumption | omega) only [sx, sb, sd, se, xwpStep, xwpOp, xwpInt, opEv, xres, oneOf, Nat.reduceAdd, Nat.reduceEqDiff, Nat.reduceSub, ↓reduceIte, reduceCtorEq, wrap_i64, Nat.zero_add, Nat.add_zero, List.getElem?_cons_zero, List.getElem?_cons_succ, *]))
      refine ⟨o, o', b, b', rfl, rfl, Nat.le_trans xg3.next hb1, Nat.le_trans (Nat.le_trans xg3.next x4.next) hb2, xg3.trans (x4.trans x5), k1.ext x5, k2, fun x q q' => ?_⟩
      have := k1.foot_lt (foot_stay (fun z r => x5.get z (k1.foot_lt r)) x q)
      have := (show ∀ x, Foot g5 o' x → g4.next ≤ x from f2) x q'
      omega
    clear hnA hnB a1 a2 a5 t rA0 rA1 rA2
    rintro t d g4 ⟨a1, a8, a10, rfl, o, o', b, b', a7, a9, hb1, hb2, xg4, k1, k2, sp⟩
    repeat' ((first | refine s_line rfl ?_ | refine s_end rfl ?_ | refine s_seq ?_ | refine s_region ?_ | refine s_block ?_ | refine s_cond ?_ | refine s_ret ?_ | refine s_skip ?_ | refine s_exit ?_ | refine s_if (fun hif => ?_) (fun hif => ?_) | refine condB_dec (fun hif => ?_) (fun hif => ?_) | refine condB_of (fun hif => ?_) (fun hif => ?_) | (refine s_lelt ?_ ?_; omega) | (refine s_lt ?_ ?_; omega) | (refine s_le ?_ ?_; omega) | refine s_again rfl ?_ | (refine And.intro (a := stays _ _ _ = true) ?_ ?_; focus (simp -implicitDefEqProofs (disch := first | assumption | omega) only [sx, sb, sd, se, xwpStep, xwpOp, xwpInt, opEv, xres, oneOf, Nat.reduceAdd, Nat.reduceEqDiff, Nat.reduceSub, ↓reduceIte, reduceCtorEq, stays, wantedV, V.same_refl, Bool.and_self, Bool.and_true, beq_self_eq_true, Bool.true_beq, Bool.false_beq, wrap_i64, *]; done))) <;>
      (try simp -implicitDefEqProofs (disch := first | assumption | omega) only [sx, sb, sd, se, xwpStep, xwpOp, xwpInt, opEv, xres, oneOf, Nat.reduceAdd, Nat.reduceEqDiff, Nat.reduceSub, ↓reduceIte, reduceCtorEq, wrap_i64, *]))
    refine s_while (fun w t d g => ∃ (i : Nat) (s s' : Chs), i + w = l.length ∧ slotOf t 11 = .int .i64 i ∧ slotOf t 7 = .ptr o 0 0 ∧ slotOf t 9 = .ptr o' 0 0 ∧ slotOf t 8 = .int .i64 0 ∧ slotOf t 1 = sv ∧ d = [] ∧ Ext H1 g ∧ ChkP b g o s.es s.last s.over [] ∧ ChkP b' g o' s'.es s'.last s'.over [] ∧ Sep g o o' ∧ Right6 0 s (200 + i) ∧ Right6 0 s' (200 + i) ∧ Chk.Twin s s' ∧ ∀ e ∈ s.es, (Lit.int .i64 e.1).wf = true) (fun _ _ _ => free_code ..) l.length ⟨0, sA, sB, by omega, by simp [slotOf_set], by simp [slotOf_set, a7], by simp [slotOf_set, a9], by simp [slotOf_set, a8], by simp [slotOf_set, a1], rfl, xg4, k1, k2, sp, hrA, hrB, htw, hidA⟩ ?_
    clear a1 a7 a8 a9 a10 t k1 k2 sp hrA hrB htw hidA xg4
    rintro w t d g ⟨i, s, s', c1, a11, a7, a9, a8, a1, rfl, xg, k1, k2, sp, r1, r2, tw, hid'⟩
    have hid : Kept (∀ e ∈ s.es, (Lit.int .i64 e.1).wf = true) := hid'
    clear hid'
    refine s_cut1 (fun t d g1 => slotOf t 11 = .int .i64 i ∧ slotOf t 7 = .ptr o 0 0 ∧ slotOf t 9 = .ptr o' 0 0 ∧ slotOf t 8 = .int .i64 0 ∧ slotOf t 1 = sv ∧ d = [] ∧ g1 = g ∧ i < l.length) ?_ ?_
    · repeat' ((first | refine s_line rfl ?_ | refine s_end rfl ?_ | refine s_seq ?_ | refine s_region ?_ | refine s_block ?_ | refine s_cond ?_ | refine s_ret ?_ | refine s_skip ?_ | refine s_exit ?_ | refine s_if (fun hif => ?_) (fun hif => ?_) | refine condB_dec (fun hif => ?_) (fun hif => ?_) | refine condB_of (fun hif => ?_) (fun hif => ?_) | (refine s_lelt ?_ ?_; omega) | (refine s_lt ?_ ?_; omega) | (refine s_le ?_ ?_; omega) | refine s_again rfl ?_ | (refine And.intro (a := stays _ _ _ = true) ?_ ?_; focus (simp -implicitDefEqProofs (disch := first | assumption | omega) only [sx, sb, sd, se, xwpStep, xwpOp, xwpInt, opEv, xres, oneOf, Nat.reduceAdd, Nat.reduceEqDiff, Nat.reduceSub, ↓reduceIte, reduceCtorEq, stays, wantedV, V.same_refl, Bool.and_self, Bool.and_true, beq_self_eq_true, Bool.true_beq, Bool.false_beq, wrap_i64, Nat.zero_add, Nat.add_zero, Int.toNat_natCast, *]; done)) | ((refine evApply_call (works_ok _) ?_; rintro _ gw ⟨rfl, xw⟩))) <;>
        (try simp -implicitDefEqProofs (disch := first | assumption | omega) only [sx, sb, sd, se, xwpStep, xwpOp, xwpInt, opEv, xres, oneOf, Nat.reduceAdd, Nat.reduceEqDiff, Nat.reduceSub, ↓reduceIte, reduceCtorEq, wrap_i64, Nat.zero_add, Nat.add_zero, Int.toNat_natCast, *]))
      · omega
      · exact x1.trans (xg.trans xw)
    clear a1 a7 a8 a9 a11 t
    rintro t d g ⟨a11, a7, a9, a8, a1, rfl, rfl, hi⟩
    have hm := List.getElem_mem hi
    have hq := (show ∀ s ∈ l, s.s.lits.length ≤ 1500 ∧ s.s.hints.length ≤ 1500 from hll) _ hm
    have hiw := (show ∀ s ∈ l, (Lit.int .i64 s.s.id).wf = true from hidk) _ hm
    have rs : ∀ {g2}, Ext H1 g2 → readCells g2 (objS sv) (genS sv) (offS sv + i * 4) 4 = some [.int .u8 (l[i]).s.kind, .int .i64 (l[i]).s.id, (l[i]).lv, (l[i]).hv] := fun x => (hs.ext (x1.trans x)).elem hi
    have hlit := (hs.lits _ hm).ext x1
    have hhin := (hs.hints _ hm).ext x1
    generalize l[i] = st at *
    have rs0 := rs xg
    have erl := hlit.sl.row
    have erh := hhin.sl.row
    have xG : Ext g ((newCells g [.int .u8 0, .int .i64 0, .nils, .nils] 1 false).put g.next (arr [.int .u8 st.s.kind, .int .i64 st.s.id, st.lv, st.hv] 1 false)) := (Ext.new ..).put _ (Nat.le_refl _)
    have gG : ((newCells g [.int .u8 0, .int .i64 0, .nils, .nils] 1 false).put g.next (arr [.int .u8 st.s.kind, .int .i64 st.s.id, st.lv, st.hv] 1 false)).get g.next = some (arr [.int .u8 st.s.kind, .int .i64 st.s.id, st.lv, st.hv] 1 false) := by rw [Heap.get_put, if_pos rfl]
    have nG : ((newCells g [.int .u8 0, .int .i64 0, .nils, .nils] 1 false).put g.next (arr [.int .u8 st.s.kind, .int .i64 st.s.id, st.lv, st.hv] 1 false)).next = g.next + 1 := rfl
    have rG := readCell (off := 2) gG rfl
    have hdb := doubled_ok (h := ((newCells g [.int .u8 0, .int .i64 0, .nils, .nils] 1 false).put g.next (arr [.int .u8 st.s.kind, .int .i64 st.s.id, st.lv, st.hv] 1 false))) (hlit.sl.ext (xg.trans xG)) (by omega)
    refine s_seq ?_
    refine s_block ?_
    refine s_cut2 (fun t d g1 => slotOf t 11 = .int .i64 i ∧ slotOf t 7 = .ptr o 0 0 ∧ slotOf t 9 = .ptr o' 0 0 ∧ slotOf t 8 = .int .i64 0 ∧ slotOf t 1 = sv ∧ slotOf t 12 = .ptr g.next 0 0 ∧ d = [] ∧ Ext g g1 ∧ g.next < g1.next ∧ ∃ wv, g1.get g.next = some (arr [.int .u8 st.s.kind, .int .i64 st.s.id, wv, st.hv] 1 false) ∧ Tk (g.next + 1) g1 wv ((dbl st.s.lits).map (.int .i32))) ?_ ?_
    · repeat' ((first | refine s_line rfl ?_ | refine s_end rfl ?_ | refine s_seq ?_ | refine s_region ?_ | refine s_block ?_ | refine s_cond ?_ | refine s_ret ?_ | refine s_skip ?_ | refine s_exit ?_ | refine s_if (fun hif => ?_) (fun hif => ?_) | refine condB_dec (fun hif => ?_) (fun hif => ?_) | refine condB_of (fun hif => ?_) (fun hif => ?_) | (refine s_lelt ?_ ?_; omega) | (refine s_lt ?_ ?_; omega) | (refine s_le ?_ ?_; omega) | refine s_again rfl ?_ | (refine And.intro (a := stays _ _ _ = true) ?_ ?_; focus (simp -implicitDefEqProofs (disch := first | assumption | omega) only [sx, sb, sd, se, xwpStep, xwpOp, xwpInt, opEv, xres, oneOf, Nat.reduceAdd, Nat.reduceEqDiff, Nat.reduceSub, ↓reduceIte, reduceCtorEq, stays, wantedV, V.same_refl, Bool.and_self, Bool.and_true, beq_self_eq_true, Bool.true_beq, Bool.false_beq, wrap_i64, Nat.zero_add, Nat.add_zero, Int.toNat_natCast, cellsOf_slice, fillV, parts, List.map_cons, List.map_nil, over, List.length_cons, List.length_nil, Nat.beq_refl, Nat.ble, *]; done)) | ((refine ⟨_, writeAll (o := g.next) (cs := [.int .u8 0, .int .i64 0, .nils, .nils]) (get_new ..) rfl (by rw [List.all_cons, List.all_cons, List.all_cons, List.all_cons, one_row erl, one_row erh]; rfl), ?_⟩)) | ((refine evApply_call hdb ?_; rintro wv g2 ⟨w1, x2⟩; have gq2 := (x2.get g.next (by rw [nG]; omega)).trans gG; have rw1 := w1.row)) | ((refine st_step (cs := [.int .u8 st.s.kind, .int .i64 st.s.id, st.lv, st.hv]) (sp := false) gq2 (by simp) (one_row rw1) ?_; intro g3 gq3 n3 f3))) <;>
        (try simp -implicitDefEqProofs (disch := first | assumption | omega) only [sx, sb, sd, se, xwpStep, xwpOp, xwpInt, opEv, xres, oneOf, Nat.reduceAdd, Nat.reduceEqDiff, Nat.reduceSub, ↓reduceIte, reduceCtorEq, wrap_i64, Nat.zero_add, Nat.add_zero, Int.toNat_natCast, cellsOf_slice, fillV, parts, List.map_cons, List.map_nil, over, List.length_cons, List.length_nil, Nat.beq_refl, Nat.ble, *]))
      have nx := x2.next
      rw [nG] at nx
      refine ⟨⟨by omega, fun y hy => (f3 y (by omega)).trans ((x2.get y (by rw [nG]; omega)).trans (xG.get y hy))⟩, by omega, wv, rfl, (w1.low (by rw [nG]; exact Nat.le_refl _)).frame (by omega) fun x hx => f3 x (by have := w1.lt hx; rw [nG] at this; omega)⟩
    clear a1 a7 a8 a9 a11 t hdb rG nG gG xG rs0
    rintro t d g1 ⟨a11, a7, a9, a8, a1, a12, rfl, xe, ng1, wv, gp, wt⟩
    have xg1 := xg.trans xe
    have k1' := k1.ext xe
    have k2' := k2.ext xe
    have sp' := sp.ext k1 k2 xe
    have rs1 := rs xg1
    have rp1 : readCells g1 g.next 0 0 4 = some [.int .u8 st.s.kind, .int .i64 st.s.id, wv, st.hv] := readCells_arr gp (by simp)
    have hstA := Step_ok (b := b) (h0 := H1) (kind := st.s.kind) (id := st.s.id) k1' (N := 200 + i) ⟨r1.rise, r1.fine, r1.len, r1.tot⟩ (by omega) xg1 hb1 (slo_of k1' xg1 hb1 hlit.sl) hhin (by omega) (by omega)
    have hml : ∀ x, Mut g1 o x → x < g.next := fun x q => k1.lt.2 x ((Mut.ext xe k1.lt.1).1 q)
    have htot1 := r1.tot
    have htot2 := r2.tot
    have hdl := dbl_len st.s.lits
    have htw := tw.step (mayOf st.s.kind st.s.id st.s.lits st.s.hints) st.s.kind st.s.id st.s.lits st.s.hints (by omega) (by omega)
    have hr1 := step_right (kind := st.s.kind) (id := st.s.id) (lits := st.s.lits) (hints := st.s.hints) r1 (by omega)
    have hr2 := step_right (kind := st.s.kind) (id := st.s.id) (lits := dbl st.s.lits) (hints := st.s.hints) r2 (by omega)
    have hid2 : Kept (∀ e ∈ (s.step (mayOf st.s.kind st.s.id st.s.lits st.s.hints) st.s.kind st.s.id st.s.lits st.s.hints).2.es, (Lit.int .i64 e.1).wf = true) := step_ids (P := fun k => (Lit.int .i64 k).wf = true) hid hiw
    rw [← mayOf_dbl] at htw
    have hB : ∀ {g2 : Heap}, Chg o g1 g2 → readCells g2 g.next 0 0 4 = some [.int .u8 st.s.kind, .int .i64 st.s.id, wv, st.hv] ∧ EvCall xprog H0 14 [.ptr o' 0 0, .agg [.int .u8 st.s.kind, .int .i64 st.s.id, wv, st.hv]] g2 fun v h' => v = .int .i64 (s'.step (mayOf st.s.kind st.s.id (dbl st.s.lits) st.s.hints) st.s.kind st.s.id (dbl st.s.lits) st.s.hints).1 ∧ ChkP b' h' o' (s'.step (mayOf st.s.kind st.s.id (dbl st.s.lits) st.s.hints) st.s.kind st.s.id (dbl st.s.lits) st.s.hints).2.es (s'.step (mayOf st.s.kind st.s.id (dbl st.s.lits) st.s.hints) st.s.kind st.s.id (dbl st.s.lits) st.s.hints).2.last (s'.step (mayOf st.s.kind st.s.id (dbl st.s.lits) st.s.hints) st.s.kind st.s.id (dbl st.s.lits) st.s.hints).2.over [] ∧ Chg o' g2 h' := fun {g2} cA => by
      obtain ⟨kB, spB⟩ := sp'.chg k1' k2' cA
      have hg2 : ∀ z, Foot g1 o' z → g2.get z = g1.get z := fun z r => cA.but.get z (k2'.foot_lt r) fun m => sp' z (.inl m) r
      have gp2 : g2.get g.next = some (arr [.int .u8 st.s.kind, .int .i64 st.s.id, wv, st.hv] 1 false) := (cA.but.get _ ng1 fun q => by have := hml _ q; omega).trans gp
      have wt2 : Tk (g.next + 1) g2 wv ((dbl st.s.lits).map (.int .i32)) := wt.frame cA.but.next fun x hx => cA.but.get x (wt.lt hx).2 fun q => by have := hml x q; have := wt.lt hx; omega
      refine ⟨readCells_arr gp2 (by simp), Step_ok (b := b') (h0 := H1) kB (N := 200 + i) ⟨r2.rise, r2.fine, r2.len, r2.tot⟩ (by omega) (xg1.butI (chg_but k1' cA) fun x hx q => by omega) hb2 ⟨wt2.sl, fun _ x hx q => ?_⟩ hhin (by omega) (by omega)⟩
      have h1 := wt.lt hx
      have := k2.foot_lt (foot_stay (fun z r => xe.get z (k2.foot_lt r)) x (foot_stay hg2 x (.inl q)))
      omega
    generalize hS : s.step (mayOf st.s.kind st.s.id st.s.lits st.s.hints) st.s.kind st.s.id st.s.lits st.s.hints = S at *
    rw [mayOf_dbl, hS] at htw
    rw [← mayOf_dbl] at htw
    generalize hS' : s'.step (mayOf st.s.kind st.s.id (dbl st.s.lits) st.s.hints) st.s.kind st.s.id (dbl st.s.lits) st.s.hints = S' at *
    obtain ⟨htw1, htw2⟩ := htw
    clear hS hS' rs htot1 htot2 hdl hml
    refine s_cut1 (fun t d g3 => slotOf t 11 = .int .i64 i ∧ slotOf t 7 = .ptr o 0 0 ∧ slotOf t 9 = .ptr o' 0 0 ∧ slotOf t 8 = .int .i64 0 ∧ slotOf t 1 = sv ∧ slotOf t 13 = .int .i64 S.1 ∧ slotOf t 14 = .int .i64 S'.1 ∧ d = [] ∧ Ext H1 g3 ∧ ChkP b g3 o S.2.es S.2.last S.2.over [] ∧ ChkP b' g3 o' S'.2.es S'.2.last S'.2.over [] ∧ Sep g3 o o') ?_ ?_
    · repeat' ((first | refine s_line rfl ?_ | refine s_end rfl ?_ | refine s_seq ?_ | refine s_region ?_ | refine s_block ?_ | refine s_cond ?_ | refine s_ret ?_ | refine s_skip ?_ | refine s_exit ?_ | refine s_if (fun hif => ?_) (fun hif => ?_) | refine condB_dec (fun hif => ?_) (fun hif => ?_) | refine condB_of (fun hif => ?_) (fun hif => ?_) | (refine s_lelt ?_ ?_; omega) | (refine s_lt ?_ ?_; omega) | (refine s_le ?_ ?_; omega) | refine s_again rfl ?_ | (refine And.intro (a := stays _ _ _ = true) ?_ ?_; focus (simp -implicitDefEqProofs (disch := first | assumption | omega) only [sx, sb, sd, se, xwpStep, xwpOp, xwpInt, opEv, xres, oneOf, Nat.reduceAdd, Nat.reduceEqDiff, Nat.reduceSub, ↓reduceIte, reduceCtorEq, stays, wantedV, V.same_refl, Bool.and_self, Bool.and_true, beq_self_eq_true, Bool.true_beq, Bool.false_beq, wrap_i64, Nat.zero_add, Nat.add_zero, Int.toNat_natCast, *]; done)) | ((refine evApply_call hstA ?_; rintro _ g2 ⟨rfl, kA, cA⟩; obtain ⟨rp2, hB2⟩ := hB cA)) | ((refine evApply_call hB2 ?_; rintro _ g3 ⟨rfl, kB, cB⟩))) <;>
        (try simp -implicitDefEqProofs (disch := first | assumption | omega) only [sx, sb, sd, se, xwpStep, xwpOp, xwpInt, opEv, xres, oneOf, Nat.reduceAdd, Nat.reduceEqDiff, Nat.reduceSub, ↓reduceIte, reduceCtorEq, wrap_i64, Nat.zero_add, Nat.add_zero, Int.toNat_natCast, *]))
      obtain ⟨kB2, sp2⟩ := sp'.chg k1' k2' cA
      obtain ⟨kA2, sp3⟩ := sp2.symm.chg kB2 kA cB
      exact ⟨(xg1.butI (chg_but k1' cA) fun x hx q => by omega).butI (chg_but kB2 cB) fun x hx q => by omega, kA2, sp3.symm⟩
    clear a1 a7 a8 a9 a11 a12 t hstA hB rs1 rp1 gp wt k1' k2' sp' k1 k2 sp
    rintro t d g3 ⟨a11, a7, a9, a8, a1, a13, a14, rfl, xg3, kA, kB, sp3⟩
    have hkeys : S'.2.es.map Prod.fst = S.2.es.map Prod.fst := by
      rw [htw2.es]
      unfold dblE
      rw [List.map_map]
      rfl
    have hid3 : ∀ e ∈ S.2.es, (Lit.int .i64 e.1).wf = true := hid2
    have hid4 : ∀ e ∈ S'.2.es, (Lit.int .i64 e.1).wf = true := fun e he => by
      have : e.1 ∈ S.2.es.map Prod.fst := by rw [← hkeys]; exact List.mem_map.2 ⟨e, he, rfl⟩
      obtain ⟨e', he', q⟩ := List.mem_map.1 this
      rw [← q]
      exact hid3 e' he'
    have hlA := Live_ok kA hr1.rise hid3 (by have := hr1.len; omega)
    have hlB : ∀ {g4}, Ext g3 g4 → _ := fun {g4} x => Live_ok (kB.ext x) hr2.rise hid4 (by have := hr2.len; omega)
    rw [hkeys] at hlB
    have hDA : ∀ {g4}, Ext g3 g4 → EvCall xprog H0 22 [.ptr o 0 0] g4 fun v h' => v = .bool S.2.over ∧ h' = g4 := fun x => Done_ok (kA.ext x)
    have hDB : ∀ {g4}, Ext g3 g4 → EvCall xprog H0 22 [.ptr o' 0 0] g4 fun v h' => v = .bool S'.2.over ∧ h' = g4 := fun x => Done_ok (kB.ext x)
    rw [htw2.over] at hDB
    rw [htw1] at a14
    have fin : ∀ {g5}, Ext g3 g5 → Ext H1 g5 ∧ ChkP b g5 o S.2.es S.2.last S.2.over [] ∧ ChkP b' g5 o' S'.2.es S'.2.last S'.2.over [] ∧ Sep g5 o o' ∧ Right6 0 S.2 (200 + (i + 1)) ∧ Right6 0 S'.2 (200 + (i + 1)) ∧ Chk.Twin S.2 S'.2 ∧ ∀ e ∈ S.2.es, (Lit.int .i64 e.1).wf = true := fun x => ⟨xg3.trans x, kA.ext x, kB.ext x, sp3.ext kA kB x, hr1, hr2, htw2, hid3⟩
    have hil : S.2.es.length ≤ 2000 := by have := hr1.len; omega
    clear hid3 hid4 hid2 hkeys kA kB sp3 hr1 hr2
    generalize hov : S.2.over = dn at hDA hDB
    generalize hids : S.2.es.map Prod.fst = ids at hlA hlB
    have hidl : ids.length ≤ 2000 := by rw [← hids, List.length_map]; exact hil
    clear hil hids
    refine s_cut1 (fun t d g5 => slotOf t 11 = .int .i64 i ∧ slotOf t 7 = .ptr o 0 0 ∧ slotOf t 9 = .ptr o' 0 0 ∧ slotOf t 8 = .int .i64 0 ∧ slotOf t 1 = sv ∧ slotOf t 13 = .int .i64 S.1 ∧ slotOf t 14 = .int .i64 S.1 ∧ d = [] ∧ Ext g3 g5 ∧ ∃ ma mb, slotOf t 15 = ma ∧ slotOf t 16 = mb ∧ Sl g5 ma (ids.map (.int .i64)) ∧ Sl g5 mb (ids.map (.int .i64))) ?_ ?_
    · repeat' ((first | refine s_line rfl ?_ | refine s_end rfl ?_ | refine s_seq ?_ | refine s_region ?_ | refine s_block ?_ | refine s_cond ?_ | refine s_ret ?_ | refine s_skip ?_ | refine s_exit ?_ | refine s_if (fun hif => ?_) (fun hif => ?_) | refine condB_dec (fun hif => ?_) (fun hif => ?_) | refine condB_of (fun hif => ?_) (fun hif => ?_) | (refine s_lelt ?_ ?_; omega) | (refine s_lt ?_ ?_; omega) | (refine s_le ?_ ?_; omega) | refine s_again rfl ?_ | (refine And.intro (a := stays _ _ _ = true) ?_ ?_; focus (simp -implicitDefEqProofs (disch := first | assumption | omega) only [sx, sb, sd, se, xwpStep, xwpOp, xwpInt, opEv, xres, oneOf, Nat.reduceAdd, Nat.reduceEqDiff, Nat.reduceSub, ↓reduceIte, reduceCtorEq, stays, wantedV, V.same_refl, Bool.and_self, Bool.and_true, beq_self_eq_true, Bool.true_beq, Bool.false_beq, wrap_i64, Nat.zero_add, Nat.add_zero, Int.toNat_natCast, *]; done)) | ((refine evApply_call hlA ?_; rintro ma g4 ⟨m1, x4, -⟩)) | ((refine evApply_call (hlB x4) ?_; rintro mb g5 ⟨m2, x5, -⟩))) <;>
        (try simp -implicitDefEqProofs (disch := first | assumption | omega) only [sx, sb, sd, se, xwpStep, xwpOp, xwpInt, opEv, xres, oneOf, Nat.reduceAdd, Nat.reduceEqDiff, Nat.reduceSub, ↓reduceIte, reduceCtorEq, wrap_i64, Nat.zero_add, Nat.add_zero, Int.toNat_natCast, *]))
      exact ⟨x4.trans x5, ma, mb, rfl, rfl, m1.ext x5, m2⟩
    clear hlA hlB a1 a7 a8 a9 a11 a13 a14 t
    rintro t d g5 ⟨a11, a7, a9, a8, a1, a13, a14, rfl, x5, ma, mb, a15, a16, m1, m2⟩
    have fin := fin x5
    have hDA := hDA x5
    have hDB := hDB x5
    have e1 := m1.len
    have e2 := m2.len
    have w1 := m1.row
    have w2 := m2.row
    rw [List.length_map] at e1 e2
    refine s_cut1 (fun t d g' => slotOf t 11 = .int .i64 i ∧ slotOf t 7 = .ptr o 0 0 ∧ slotOf t 9 = .ptr o' 0 0 ∧ slotOf t 8 = .int .i64 0 ∧ slotOf t 1 = sv ∧ slotOf t 15 = ma ∧ slotOf t 16 = mb ∧ d = [] ∧ g' = g5) ?_ ?_
    · cases dn
      all_goals
        repeat' ((first | refine s_line rfl ?_ | refine s_end rfl ?_ | refine s_seq ?_ | refine s_region ?_ | refine s_block ?_ | refine s_cond ?_ | refine s_ret ?_ | refine s_skip ?_ | refine s_exit ?_ | refine s_if (fun hif => ?_) (fun hif => ?_) | refine condB_dec (fun hif => ?_) (fun hif => ?_) | refine condB_of (fun hif => ?_) (fun hif => ?_) | (refine s_lelt ?_ ?_; omega) | (refine s_lt ?_ ?_; omega) | (refine s_le ?_ ?_; omega) | refine s_again rfl ?_ | (refine And.intro (a := stays _ _ _ = true) ?_ ?_; focus (simp -implicitDefEqProofs (disch := first | assumption | omega) only [sx, sb, sd, se, xwpStep, xwpOp, xwpInt, opEv, xres, oneOf, Nat.reduceAdd, Nat.reduceEqDiff, Nat.reduceSub, ↓reduceIte, reduceCtorEq, stays, wantedV, V.same_refl, Bool.and_self, Bool.and_true, beq_self_eq_true, Bool.true_beq, Bool.false_beq, wrap_i64, Nat.zero_add, Nat.add_zero, Int.toNat_natCast, bne_self_eq_false, *]; done)) | ((refine (evCall_iff hDA).2 ?_)) | ((refine (evCall_iff hDB).2 ?_))) <;>
          (try simp -implicitDefEqProofs (disch := first | assumption | omega) only [sx, sb, sd, se, xwpStep, xwpOp, xwpInt, opEv, xres, oneOf, Nat.reduceAdd, Nat.reduceEqDiff, Nat.reduceSub, ↓reduceIte, reduceCtorEq, wrap_i64, Nat.zero_add, Nat.add_zero, Int.toNat_natCast, bne_self_eq_false, *]))
    clear a1 a7 a8 a9 a11 a13 a14 a15 a16 t hDA hDB
    rintro t d g5 ⟨a11, a7, a9, a8, a1, a15, a16, rfl, rfl⟩
    repeat' ((first | refine s_line rfl ?_ | refine s_end rfl ?_ | refine s_seq ?_ | refine s_region ?_ | refine s_block ?_ | refine s_cond ?_ | refine s_ret ?_ | refine s_skip ?_ | refine s_exit ?_ | refine s_if (fun hif => ?_) (fun hif => ?_) | refine condB_dec (fun hif => ?_) (fun hif => ?_) | refine condB_of (fun hif => ?_) (fun hif => ?_) | (refine s_lelt ?_ ?_; omega) | (refine s_lt ?_ ?_; omega) | (refine s_le ?_ ?_; omega) | refine s_again rfl ?_ | (refine And.intro (a := stays _ _ _ = true) ?_ ?_; focus (simp -implicitDefEqProofs (disch := first | assumption | omega) only [sx, sb, sd, se, xwpStep, xwpOp, xwpInt, opEv, xres, oneOf, Nat.reduceAdd, Nat.reduceEqDiff, Nat.reduceSub, ↓reduceIte, reduceCtorEq, stays, wantedV, V.same_refl, Bool.and_self, Bool.and_true, beq_self_eq_true, Bool.true_beq, Bool.false_beq, wrap_i64, *]; done))) <;>
      (try simp -implicitDefEqProofs (disch := first | assumption | omega) only [sx, sb, sd, se, xwpStep, xwpOp, xwpInt, opEv, xres, oneOf, Nat.reduceAdd, Nat.reduceEqDiff, Nat.reduceSub, ↓reduceIte, reduceCtorEq, wrap_i64, *]))
    refine s_while (fun m t d g' => ∃ (k : Nat), k + m = ids.length ∧ slotOf t 17 = .int .i64 k ∧ slotOf t 11 = .int .i64 i ∧ slotOf t 7 = .ptr o 0 0 ∧ slotOf t 9 = .ptr o' 0 0 ∧ slotOf t 8 = .int .i64 0 ∧ slotOf t 1 = sv ∧ slotOf t 15 = ma ∧ slotOf t 16 = mb ∧ d = [] ∧ g' = g5) (fun _ _ _ => free_code ..) ids.length ⟨0, by omega, by simp [slotOf_set], by simp [slotOf_set, a11], by simp [slotOf_set, a7], by simp [slotOf_set, a9], by simp [slotOf_set, a8], by simp [slotOf_set, a1], by simp [slotOf_set, a15], by simp [slotOf_set, a16], rfl, rfl⟩ ?_
    clear a1 a7 a8 a9 a11 a15 a16 t
    rintro m t d g' ⟨k, b1, a17, a11, a7, a9, a8, a1, a15, a16, rfl, rfl⟩
    have ra : ∀ (hk : k < ids.length), readCells g' (objS ma) (genS ma) (offS ma + k) 1 = some [.int .i64 (ids[k])] := fun hk => m1.at (by simp [hk])
    have rb : ∀ (hk : k < ids.length), readCells g' (objS mb) (genS mb) (offS mb + k) 1 = some [.int .i64 (ids[k])] := fun hk => m2.at (by simp [hk])
    have fin : Kept _ := fin
    repeat' ((first | refine s_line rfl ?_ | refine s_end rfl ?_ | refine s_seq ?_ | refine s_region ?_ | refine s_block ?_ | refine s_cond ?_ | refine s_ret ?_ | refine s_skip ?_ | refine s_exit ?_ | refine s_if (fun hif => ?_) (fun hif => ?_) | refine condB_dec (fun hif => ?_) (fun hif => ?_) | refine condB_of (fun hif => ?_) (fun hif => ?_) | (refine s_lelt ?_ ?_; omega) | (refine s_lt ?_ ?_; omega) | (refine s_le ?_ ?_; omega) | refine s_again rfl ?_ | (refine And.intro (a := stays _ _ _ = true) ?_ ?_; focus (simp -implicitDefEqProofs (disch := first | assumption | omega) only [sx, sb, sd, se, xwpStep, xwpOp, xwpInt, opEv, xres, oneOf, Nat.reduceAdd, Nat.reduceEqDiff, Nat.reduceSub, ↓reduceIte, reduceCtorEq, stays, wantedV, V.same_refl, Bool.and_self, Bool.and_true, beq_self_eq_true, Bool.true_beq, Bool.false_beq, wrap_i64, Nat.zero_add, Nat.add_zero, Int.toNat_natCast, *]; done))) <;>
      (try simp -implicitDefEqProofs (disch := first | assumption | omega) only [sx, sb, sd, se, xwpStep, xwpOp, xwpInt, opEv, xres, oneOf, Nat.reduceAdd, Nat.reduceEqDiff, Nat.reduceSub, ↓reduceIte, reduceCtorEq, wrap_i64, Nat.zero_add, Nat.add_zero, Int.toNat_natCast, *]))
    · exact ⟨m - 1, by omega, k + 1, by omega, by simp⟩
    · unfold Kept at fin
      obtain ⟨_, f2, f3, f4, f5, f6, f7, f8⟩ := fin
      exact ⟨w - 1, by omega, i + 1, S.2, S'.2, by omega, by simp, f2, f3, f5, f6, f7, f8⟩
  · repeat' ((first | refine s_line rfl ?_ | refine s_end rfl ?_ | refine s_seq ?_ | refine s_region ?_ | refine s_block ?_ | refine s_cond ?_ | refine s_ret ?_ | refine s_skip ?_ | refine s_exit ?_ | refine s_if (fun hif => ?_) (fun hif => ?_) | refine condB_dec (fun hif => ?_) (fun hif => ?_) | refine condB_of (fun hif => ?_) (fun hif => ?_) | (refine s_lelt ?_ ?_; omega) | (refine s_lt ?_ ?_; omega) | (refine s_le ?_ ?_; omega) | refine s_again rfl ?_ | (refine And.intro (a := stays _ _ _ = true) ?_ ?_; focus (simp -implicitDefEqProofs (disch := first | assumption | omega) only [sx, sb, sd, se, xwpStep, xwpOp, xwpInt, opEv, xres, oneOf, Nat.reduceAdd, Nat.reduceEqDiff, Nat.reduceSub, ↓reduceIte, reduceCtorEq, stays, wantedV, V.same_refl, Bool.and_self, Bool.and_true, beq_self_eq_true, Bool.true_beq, Bool.false_beq, wrap_i64, Nat.zero_add, Nat.add_zero, List.getElem?_cons_zero, List.getElem?_cons_succ, *]; done)) | ((refine evApply_call hnA ?_; rintro _ g4 ⟨⟨_, rfl⟩ | ⟨hr2, _⟩, x4⟩; rotate_left; exact absurd hr2 hr; have rD4 := rD x4)) | ((refine evApply_call (hnB x4) ?_; rintro _ g5 ⟨⟨_, rfl⟩ | ⟨hr2, _⟩, x5⟩; rotate_left; exact absurd hr2 hr))) <;>
      (try simp -implicitDefEqProofs (disch := first | assumption | omega) only [sx, sb, sd, se, xwpStep, xwpOp, xwpInt, opEv, xres, oneOf, Nat.reduceAdd, Nat.reduceEqDiff, Nat.reduceSub, ↓reduceIte, reduceCtorEq, wrap_i64, Nat.zero_add, Nat.add_zero, List.getElem?_cons_zero, List.getElem?_cons_succ, *]))
    refine s_while (fun n t d g' => slotOf t 11 = .int .i64 0 ∧ slotOf t 8 = .int .i64 (rightOf vars cs) ∧ slotOf t 1 = sv ∧ d = [] ∧ Ext H1 g') (fun _ _ _ => free_code ..) 0 ⟨by simp [slotOf_set], by simp [slotOf_set], by simp [slotOf_set, a1], rfl, xg3.trans (x4.trans x5)⟩ ?_
    clear a1 a2 a5 t hnA hnB rA0 rA1 rA2
    rintro n t d g' ⟨a11, a8, a1, rfl, xg'⟩
    generalize rightOf vars cs = r at *
    repeat' ((first | refine s_line rfl ?_ | refine s_end rfl ?_ | refine s_seq ?_ | refine s_region ?_ | refine s_block ?_ | refine s_cond ?_ | refine s_ret ?_ | refine s_skip ?_ | refine s_exit ?_ | refine s_if (fun hif => ?_) (fun hif => ?_) | refine condB_dec (fun hif => ?_) (fun hif => ?_) | refine condB_of (fun hif => ?_) (fun hif => ?_) | (refine s_lelt ?_ ?_; omega) | (refine s_lt ?_ ?_; omega) | (refine s_le ?_ ?_; omega) | refine s_again rfl ?_ | (refine And.intro (a := stays _ _ _ = true) ?_ ?_; focus (simp -implicitDefEqProofs (disch := first | assumption | omega) only [sx, sb, sd, se, xwpStep, xwpOp, xwpInt, opEv, xres, oneOf, Nat.reduceAdd, Nat.reduceEqDiff, Nat.reduceSub, ↓reduceIte, reduceCtorEq, stays, wantedV, V.same_refl, Bool.and_self, Bool.and_true, beq_self_eq_true, Bool.true_beq, Bool.false_beq, wrap_i64, Nat.zero_add, Nat.add_zero, *]; done)) | ((refine evApply_call (works_ok _) ?_; rintro _ gw ⟨rfl, xw⟩))) <;>
      (try simp -implicitDefEqProofs (disch := first | assumption | omega) only [sx, sb, sd, se, xwpStep, xwpOp, xwpInt, opEv, xres, oneOf, Nat.reduceAdd, Nat.reduceEqDiff, Nat.reduceSub, ↓reduceIte, reduceCtorEq, wrap_i64, Nat.zero_add, Nat.add_zero, *]))
    all_goals exact x1.trans (xg'.trans xw)
end Go.Proofs.Ytmkbnbpblhoekaa
