/- The examples' proof; how large are a formula and a proof? -/
import Derived.Test.YtmkbnbpblhoekaaVDe
import Derived.Test.YtmkbnbpblhoekaaVDw
set_option linter.unusedSimpArgs false
set_option linter.unusedVariables false
set_option linter.unusedSectionVars false
namespace Go.Proofs.Ytmkbnbpblhoekaa
open Go.Xr Go.Chk

def worksSt (A B C : V) : List StV := [⟨⟨1, 5, [1], [1, 2]⟩, A, B⟩, ⟨⟨1, 6, [], [5, 3, 4]⟩, .nils, C⟩]
theorem runAll_works (A B C : V) : runAll 2 fourCs ((worksSt A B C).map StV.s) = (true, 2, 0) := by
  show runAll 2 [[1, 2], [1, -2], [-1, 2], [-1, -2]] [⟨1, 5, [1], [1, 2]⟩, ⟨1, 6, [], [5, 3, 4]⟩] = (true, 2, 0)
  decide +kernel

set_option maxHeartbeats 4000000 in
theorem works_ok (h : Heap) : EvCall xprog H0 8 [] h fun v h' => v = .bool true ∧ Ext h h' := by
  refine s_call (fn := xf8) rfl (free _ rfl ..) ?_
  simp -implicitDefEqProofs only [xf8, argsFrom_cons, argsFrom_nil]
  repeat' ((first | refine s_line rfl ?_ | refine s_end rfl ?_ | refine s_seq ?_ | refine s_region ?_ | refine s_block ?_ | refine s_cond ?_ | refine s_ret ?_ | refine s_skip ?_ | refine s_exit ?_ | refine s_if (fun hif => ?_) (fun hif => ?_) | refine condB_dec (fun hif => ?_) (fun hif => ?_) | refine condB_of (fun hif => ?_) (fun hif => ?_) | (refine s_lelt ?_ ?_; omega) | (refine s_lt ?_ ?_; omega) | (refine s_le ?_ ?_; omega) | ((refine evApply_call (four_ok _) ?_; rintro _ g1 ⟨⟨cv, rfl, s1⟩, x1⟩)) | ((refine evApply_call (add_ok 5 _ _ rfl rfl) ?_; rintro _ g2 ⟨rfl, x2⟩)) | ((refine evApply_call (add_ok 6 _ _ rfl rfl) ?_; rintro _ g3 ⟨rfl, x3⟩))) <;>
    (try simp -implicitDefEqProofs (disch := first | assumption | omega) only [sx, sb, sd, se, xwpStep, xwpOp, xwpInt, opEv, xres, oneOf, Nat.reduceAdd, Nat.reduceEqDiff, Nat.reduceSub, ↓reduceIte, reduceCtorEq, cellsOf_slice, fillV, parts, List.map_cons, List.map_nil, over, List.length_cons, List.length_nil, Nat.beq_refl, Nat.ble, *]))
  have xB := x2.trans ((Ext.new g2 [.int .i64 5, .int .i64 3, .int .i64 4] 1 false).trans (x3.trans (Ext.new g3 [.int .u8 1, .int .i64 5, .slice g1.next 0 0 1 (.exact 1), .slice (g1.next + 1) 0 0 2 (.exact 2), .int .u8 1, .int .i64 6, .nils, .slice g2.next 0 0 3 (.exact 3)] 4 false)))
  have xC := x3.trans (Ext.new g3 [.int .u8 1, .int .i64 5, .slice g1.next 0 0 1 (.exact 1), .slice (g1.next + 1) 0 0 2 (.exact 2), .int .u8 1, .int .i64 6, .nils, .slice g2.next 0 0 3 (.exact 3)] 4 false)
  have sA := (sw_new (o := g1.next) (vs := [V.int .i32 1]) (sp := false) (get_new g1 _ 1 false) (by simp) rfl).ext ((Ext.new _ [.int .i64 1, .int .i64 2] 1 false).trans xB)
  have sB := (sw_new (o := g1.next + 1) (vs := [V.int .i64 1, .int .i64 2]) (sp := false) (get_new (newCells g1 [.int .i32 1] 1 false) _ 1 false) (by simp) rfl).ext xB
  have sC := (sw_new (o := g2.next) (vs := [V.int .i64 5, .int .i64 3, .int .i64 4]) (sp := false) (get_new g2 _ 1 false) (by simp) rfl).ext xC
  have hG := get_new g3 [.int .u8 1, .int .i64 5, .slice g1.next 0 0 1 (.exact 1), .slice (g1.next + 1) 0 0 2 (.exact 2), .int .u8 1, .int .i64 6, .nils, .slice g2.next 0 0 3 (.exact 3)] 4 false
  have xall := x1.trans ((Ext.new g1 [.int .i32 1] 1 false).trans ((Ext.new _ [.int .i64 1, .int .i64 2] 1 false).trans xB))
  have hcls := s1.ext ((Ext.new g1 [.int .i32 1] 1 false).trans ((Ext.new _ [.int .i64 1, .int .i64 2] 1 false).trans xB))
  have hnx : g3.next < (newCells g3 [.int .u8 1, .int .i64 5, .slice g1.next 0 0 1 (.exact 1), .slice (g1.next + 1) 0 0 2 (.exact 2), .int .u8 1, .int .i64 6, .nils, .slice g2.next 0 0 3 (.exact 3)] 4 false).next := Nat.lt_succ_self _
  generalize newCells g3 [.int .u8 1, .int .i64 5, .slice g1.next 0 0 1 (.exact 1), .slice (g1.next + 1) 0 0 2 (.exact 2), .int .u8 1, .int .i64 6, .nils, .slice g2.next 0 0 3 (.exact 3)] 4 false = G at *
  have hst : Stps G (.slice g3.next 0 0 2 (.exact 2)) (worksSt (.slice g1.next 0 0 1 (.exact 1)) (.slice (g1.next + 1) 0 0 2 (.exact 2)) (.slice g2.next 0 0 3 (.exact 3))) := by
    refine ⟨⟨rfl, rfl, fun i hi => ?_⟩, fun s hs => ?_, fun s hs => ?_⟩
    · have hi2 : i = 0 ∨ i = 1 := by simp [worksSt] at hi; omega
      rcases hi2 with rfl | rfl
      · exact ⟨hnx, rfl, readCells_arr hG (by simp)⟩
      · exact ⟨hnx, rfl, readCells_arr hG (by simp)⟩
    · simp only [worksSt, List.mem_cons, List.not_mem_nil, or_false] at hs
      rcases hs with rfl | rfl
      · exact sA
      · exact .inl ⟨rfl, rfl⟩
    · simp only [worksSt, List.mem_cons, List.not_mem_nil, or_false] at hs
      rcases hs with rfl | rfl
      · exact sB
      · exact sC
  refine evApply_call (Run_ok (vars := 2) (cs := fourCs) hcls hst (by simp [fourCs, I32ok]) (by decide) (by decide) (by simp [worksSt]) (by simp [worksSt])) ?_
  rintro _ g4 ⟨rfl, x4⟩
  rw [runAll_works]
  clear hst sA sB sC hG xB xC hcls
  repeat' ((first | refine s_line rfl ?_ | refine s_end rfl ?_ | refine s_seq ?_ | refine s_region ?_ | refine s_block ?_ | refine s_cond ?_ | refine s_ret ?_ | refine s_skip ?_ | refine s_exit ?_ | refine s_if (fun hif => ?_) (fun hif => ?_) | refine condB_dec (fun hif => ?_) (fun hif => ?_) | refine condB_of (fun hif => ?_) (fun hif => ?_) | (refine s_lelt ?_ ?_; omega) | (refine s_lt ?_ ?_; omega) | (refine s_le ?_ ?_; omega)) <;>
    (try simp -implicitDefEqProofs (disch := first | assumption | omega) only [sx, sb, sd, se, xwpStep, xwpOp, xwpInt, opEv, xres, oneOf, Nat.reduceAdd, Nat.reduceEqDiff, Nat.reduceSub, ↓reduceIte, reduceCtorEq, tripV, List.getElem?_cons_zero, List.getElem?_cons_succ, *]))
  exact xall.trans x4

set_option maxHeartbeats 4000000 in
theorem Size2_ok {h : Heap} {v : V} {l : List StV} (hs : Stps h v l) :
    EvCall xprog H0 26 [v, .int .i64 1500] h fun r h' => (∃ n : Int, r = .int .i64 n ∧ (n ≤ 1500 → l.length ≤ 1500 ∧ ∀ s ∈ l, s.s.lits.length ≤ 1500 ∧ s.s.hints.length ≤ 1500)) ∧ h' = h := by
  refine s_call (fn := xf26) rfl (free _ rfl ..) ?_
  have el := hs.len
  have er := hs.sl.row
  simp -implicitDefEqProofs only [xf26, argsFrom_cons, argsFrom_nil]
  repeat' ((first | refine s_line rfl ?_ | refine s_end rfl ?_ | refine s_seq ?_ | refine s_region ?_ | refine s_block ?_ | refine s_cond ?_ | refine s_ret ?_ | refine s_skip ?_ | refine s_exit ?_ | refine s_if (fun hif => ?_) (fun hif => ?_) | refine condB_dec (fun hif => ?_) (fun hif => ?_) | refine condB_of (fun hif => ?_) (fun hif => ?_) | (refine s_lelt ?_ ?_; omega) | (refine s_lt ?_ ?_; omega) | (refine s_le ?_ ?_; omega)) <;>
    (try simp -implicitDefEqProofs (disch := first | assumption | omega) only [sx, sb, sd, se, xwpStep, xwpOp, xwpInt, opEv, xres, oneOf, Nat.reduceAdd, Nat.reduceEqDiff, Nat.reduceSub, ↓reduceIte, reduceCtorEq, wrap_i64, *]))
  refine s_while (fun n t d g => ∃ (i c : Nat), i + n = l.length ∧ slotOf t 6 = .int .i64 i ∧ slotOf t 5 = .int .i64 c ∧ slotOf t 0 = v ∧ slotOf t 1 = .int .i64 1500 ∧ d = [] ∧ g = h ∧ i ≤ c ∧ c ≤ 4501 ∧ ∀ j (hj : j < l.length), j < i → min (l[j]).s.lits.length 1500 + min (l[j]).s.hints.length 1500 < c) (fun _ _ _ => free_code ..) l.length ⟨0, 0, by omega, by simp [slotOf_set], by simp [slotOf_set], by simp [slotOf_set], by simp [slotOf_set], rfl, rfl, Nat.le_refl _, by omega, fun j _ hj => by omega⟩ ?_
  rintro n t d g ⟨i, c, a1, a2, a3, a4, a5, rfl, rfl, a6, a7, a8⟩
  have r2 : ∀ (hi : i < l.length), readCells g (objS v) (genS v) (offS v + i * 4 + 2) 1 = some [(l[i]).lv] := fun hi => hs.at hi rfl
  have r3 : ∀ (hi : i < l.length), readCells g (objS v) (genS v) (offS v + i * 4 + 3) 1 = some [(l[i]).hv] := fun hi => hs.at hi rfl
  have l2 : ∀ (hi : i < l.length), lenS (l[i]).lv = (l[i]).s.lits.length := fun hi => by rw [(hs.lits _ (List.getElem_mem hi)).sl.len, List.length_map]
  have l3 : ∀ (hi : i < l.length), lenS (l[i]).hv = (l[i]).s.hints.length := fun hi => by rw [(hs.hints _ (List.getElem_mem hi)).sl.len, List.length_map]
  have w2 : ∀ (hi : i < l.length), rowS (l[i]).lv = true := fun hi => (hs.lits _ (List.getElem_mem hi)).sl.row
  have w3 : ∀ (hi : i < l.length), rowS (l[i]).hv = true := fun hi => (hs.hints _ (List.getElem_mem hi)).sl.row
  repeat' ((first | refine s_line rfl ?_ | refine s_end rfl ?_ | refine s_seq ?_ | refine s_region ?_ | refine s_block ?_ | refine s_cond ?_ | refine s_ret ?_ | refine s_skip ?_ | refine s_exit ?_ | refine s_if (fun hif => ?_) (fun hif => ?_) | refine condB_dec (fun hif => ?_) (fun hif => ?_) | refine condB_of (fun hif => ?_) (fun hif => ?_) | (refine s_lelt ?_ ?_; omega) | (refine s_lt ?_ ?_; omega) | (refine s_le ?_ ?_; omega) | ((refine x_min rfl rfl ?_))) <;>
    (try simp -implicitDefEqProofs (disch := first | assumption | omega) only [sx, sb, sd, se, xwpStep, xwpOp, xwpInt, opEv, xres, oneOf, Nat.reduceAdd, Nat.reduceEqDiff, Nat.reduceSub, ↓reduceIte, reduceCtorEq, wrap_i64, Int.toNat_natCast, *]))
  · refine ⟨n - 1, by omega, i + 1, c + 1 + min (l[i]).s.lits.length 1500 + min (l[i]).s.hints.length 1500, by omega, by simp, congrArg (V.int .i64) ?_, by omega, by omega, fun j hj hlt => ?_⟩
    · split <;> split <;> omega
    · rcases Nat.lt_succ_iff_lt_or_eq.1 hlt with h | rfl
      · have := a8 j hj h
        omega
      · omega
  all_goals
    refine ⟨c, rfl, fun hc => ⟨by omega, fun s hm => ?_⟩⟩
    obtain ⟨j, hj, rfl⟩ := List.getElem_of_mem hm
    have := a8 j hj (by omega)
    omega

set_option maxHeartbeats 4000000 in
theorem large2_ok {h : Heap} {vars : Int} {cv v : V} {cs : List (List Int)} {l : List StV} (hc : Cls h cv cs) (hs : Stps h v l) :
    EvCall xprog H0 7 [.agg [.int .i64 vars, cv], v] h fun r h' => (∃ b : Bool, r = .bool b ∧ (b = false → cs.length ≤ 200 ∧ done cs cs.length ≤ 1500 ∧ l.length ≤ 1500 ∧ ∀ s ∈ l, s.s.lits.length ≤ 1500 ∧ s.s.hints.length ≤ 1500)) ∧ Ext h h' := by
  refine s_call (fn := xf7) rfl (free _ rfl ..) ?_
  generalize hH1 : newCells h [.int .i64 vars, cv] 1 false = H1
  have x1 : Ext h H1 := hH1 ▸ Ext.new ..
  have g1 : H1.get h.next = some (arr [.int .i64 vars, cv] 1 false) := by rw [← hH1]; exact get_new ..
  have r1 := readCell (off := 1) g1 rfl
  obtain ⟨vs, hsv, hvl, hcs⟩ := hc.ext x1
  have el := hsv.len
  have er := hsv.row
  rw [hvl] at el
  have hz := Size2_ok (hs.ext x1)
  clear hc g1
  simp -implicitDefEqProofs only [xf7, argsFrom_cons, argsFrom_nil]
  repeat' ((first | refine s_line rfl ?_ | refine s_end rfl ?_ | refine s_seq ?_ | refine s_region ?_ | refine s_block ?_ | refine s_cond ?_ | refine s_ret ?_ | refine s_skip ?_ | refine s_exit ?_ | refine s_if (fun hif => ?_) (fun hif => ?_) | refine condB_dec (fun hif => ?_) (fun hif => ?_) | refine condB_of (fun hif => ?_) (fun hif => ?_) | (refine s_lelt ?_ ?_; omega) | (refine s_lt ?_ ?_; omega) | (refine s_le ?_ ?_; omega)) <;>
    (try simp -implicitDefEqProofs (disch := first | assumption | omega) only [sx, sb, sd, se, xwpStep, xwpOp, xwpInt, opEv, xres, oneOf, Nat.reduceAdd, Nat.reduceEqDiff, Nat.reduceSub, ↓reduceIte, reduceCtorEq, wrap_i64, Nat.zero_add, *]))
  refine s_while (fun n t d g => ∃ (i c : Nat), i + n = cs.length ∧ slotOf t 6 = .int .i64 i ∧ slotOf t 5 = .int .i64 c ∧ slotOf t 2 = .ptr h.next 0 0 ∧ slotOf t 1 = v ∧ d = [] ∧ g = H1 ∧ c ≤ 3001 ∧ (c ≤ 1500 → done cs i + i ≤ c)) (fun _ _ _ => free_code ..) cs.length ⟨0, 0, by omega, by simp [slotOf_set], by simp [slotOf_set], by simp [slotOf_set], by simp [slotOf_set], rfl, rfl, by omega, fun _ => by simp [done]⟩ ?_
  rintro n t d g ⟨i, c, a1, a2, a3, a4, a5, rfl, rfl, a7, a8⟩
  have rc : i < cs.length → readCells g (objS cv) (genS cv) (offS cv + i) 1 = some [vs.getD i .nils] := fun hi => hsv.at (by simp [show i < vs.length by omega])
  have hlc : ∀ (hi : i < cs.length), lenS (vs.getD i .nils) = (cs[i]).length := fun hi => by rw [(hcs i hi).len, List.length_map]
  have hrc : i < cs.length → rowS (vs.getD i .nils) = true := fun hi => (hcs i hi).row
  have hd : ∀ (hi : i < cs.length), done cs (i + 1) = done cs i + (cs[i]).length := fun hi => done_succ hi
  repeat' ((first | refine s_line rfl ?_ | refine s_end rfl ?_ | refine s_seq ?_ | refine s_region ?_ | refine s_block ?_ | refine s_cond ?_ | refine s_ret ?_ | refine s_skip ?_ | refine s_exit ?_ | refine s_if (fun hif => ?_) (fun hif => ?_) | refine condB_dec (fun hif => ?_) (fun hif => ?_) | refine condB_of (fun hif => ?_) (fun hif => ?_) | (refine s_lelt ?_ ?_; omega) | (refine s_lt ?_ ?_; omega) | (refine s_le ?_ ?_; omega) | ((refine evApply_call hz ?_; rintro _ _ ⟨⟨sz, rfl, hsz⟩, rfl⟩))) <;>
    (try simp -implicitDefEqProofs (disch := first | assumption | omega) only [sx, sb, sd, se, xwpStep, xwpOp, xwpInt, opEv, xres, oneOf, Nat.reduceAdd, Nat.reduceEqDiff, Nat.reduceSub, ↓reduceIte, reduceCtorEq, wrap_i64, Nat.zero_add, Int.toNat_natCast, *]))
  · refine ⟨n - 1, by omega, i + 1, c + 1 + min (cs[i]).length 1500, by omega, by simp, congrArg (V.int .i64) ?_, by omega, fun hlt => ?_⟩
    · split <;> omega
    · have := hd (by omega)
      omega
  all_goals first
    | exact ⟨true, rfl, fun e => by cases e⟩
    | (exfalso; omega)
    | (refine ⟨_, rfl, fun hb => ?_⟩
       have hb := of_decide_eq_false hb
       obtain ⟨z1, z2⟩ := hsz (by omega)
       have hi : i = cs.length := by omega
       subst hi
       exact ⟨by omega, by omega, z1, z2⟩)

end Go.Proofs.Ytmkbnbpblhoekaa
