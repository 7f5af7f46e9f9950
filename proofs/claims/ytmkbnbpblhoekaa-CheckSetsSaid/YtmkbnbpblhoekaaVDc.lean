/- The program's checker: New. -/
import Derived.Test.YtmkbnbpblhoekaaVDb
set_option linter.unusedSimpArgs false
set_option linter.unusedVariables false
set_option linter.unusedSectionVars false
namespace Go.Proofs.Ytmkbnbpblhoekaa
open Go.Xr Go.Chk

theorem chg_but {b : Nat} {h h' : Heap} {o : Nat} {es : List (Int × List Int)} {last : Int} {ov : Bool} {tr : List Int} (hc : ChkP b h o es last ov tr) (c : Chg o h h') : But (fun x => b ≤ x) h h' := c.but.mono fun x _ q => Mut.low hc q
theorem ChkP.wf {b : Nat} {h : Heap} {o : Nat} {es : List (Int × List Int)} {last : Int} {ov : Bool} {tr : List Int} (hc : ChkP b h o es last ov tr) : WFo h o :=
  let ⟨_, _, _, _, _, _, hm, _⟩ := hc
  hm.wf
theorem begun_last : ∀ (cs : List (List Int)) (s : Chs) (n : Int), s.last < n → (Chk.start cs s n).last < n + cs.length
  | [], s, n, h => by simpa [Chk.start] using h
  | c :: r, s, n, h => by
    have := begun_last r (s.put n c) (n + 1) (by show n < n + 1; omega)
    rw [Chk.start, List.length_cons]
    omega

set_option maxHeartbeats 8000000 in
theorem NewF_ok {h : Heap} {vars : Int} {cv : V} {cs : List (List Int)} (hc : Cls h cv cs) (hx : ∀ c ∈ cs, ∀ x ∈ c, I32ok x) (hb : done cs cs.length ≤ 3000) (hcl : cs.length ≤ 1000) :
    EvCall xprog H0 13 [.agg [.int .i64 vars, cv]] h fun v h' => ((rightOf vars cs ≠ 0 ∧ v = .tup [.nilp, .int .i64 (rightOf vars cs)]) ∨ (rightOf vars cs = 0 ∧ ∃ o b, v = .tup [.ptr o 0 0, .int .i64 0] ∧ h.next ≤ b ∧ ChkP b h' o (Chk.start cs ⟨[], 0, false⟩ 1).es (Chk.start cs ⟨[], 0, false⟩ 1).last (Chk.start cs ⟨[], 0, false⟩ 1).over [] ∧ ∀ x, Foot h' o x → h.next ≤ x)) ∧ Ext h h' := by
  refine s_call (fn := xf13) rfl (free _ rfl ..) ?_
  generalize hH1 : newCells h [.int .i64 vars, cv] 1 false = H1
  have x1 : Ext h H1 := hH1 ▸ Ext.new ..
  have g1 : H1.get h.next = some (arr [.int .i64 vars, cv] 1 false) := by rw [← hH1]; exact get_new ..
  have r0 : readCells H1 h.next 0 0 2 = some [.int .i64 vars, cv] := readCells_arr g1 (by simp)
  have r1 : ∀ {g}, Ext H1 g → readCells g h.next 0 1 1 = some [cv] := fun x => readCell (off := 1) ((x.get h.next (by rw [← hH1]; simp)).trans g1) rfl
  have hr := Right_ok (vars := vars) (hc.ext x1) hx (by omega) (by omega)
  obtain ⟨vs, hs, hvl, hcs⟩ := hc
  have hl := hs.len
  have hr' := hs.row
  rw [hvl] at hl
  simp -implicitDefEqProofs only [xf13, argsFrom_cons, argsFrom_nil]
  refine s_cut2 (fun t d g => slotOf t 1 = .ptr h.next 0 0 ∧ d = [] ∧ Ext H1 g ∧ rightOf vars cs = 0) ?_ ?_
  · repeat' ((first | refine s_line rfl ?_ | refine s_end rfl ?_ | refine s_seq ?_ | refine s_region ?_ | refine s_block ?_ | refine s_cond ?_ | refine s_ret ?_ | refine s_skip ?_ | refine s_exit ?_ | refine s_if (fun hif => ?_) (fun hif => ?_) | refine condB_dec (fun hif => ?_) (fun hif => ?_) | refine condB_of (fun hif => ?_) (fun hif => ?_) | (refine s_lelt ?_ ?_; omega) | (refine s_lt ?_ ?_; omega) | (refine s_le ?_ ?_; omega) | ((refine evApply_call hr ?_; rintro _ g2 ⟨rfl, x2⟩))) <;>
      (try simp -implicitDefEqProofs (disch := first | assumption | omega) only [sx, sb, sd, se, xwpStep, xwpOp, xwpInt, opEv, xres, oneOf, Nat.reduceAdd, Nat.reduceEqDiff, Nat.reduceSub, ↓reduceIte, reduceCtorEq, wrap_i64, *]))
    · exact ⟨.inl (by simpa using hif), x1.trans x2⟩
    · simpa using hif
  rintro t d g2 ⟨a0, rfl, x2, hright⟩
  have hri : ∀ i, Right6 H1.next (Chk.start (cs.take i) ⟨[], 0, false⟩ 1) (0 + (cs.take i).length) := fun i => begun_right _ _ _ 0 ⟨⟨.nil, fun e he => by cases he⟩, (fun e he => by cases he), Nat.le_refl _, Nat.le_refl _⟩ (fun c hm => ⟨right_fine hright c (List.mem_of_mem_take hm), Nat.le_trans (done_mem (List.mem_of_mem_take hm)) hb⟩) (by decide) (by decide)
  have e0 : ChkP H1.next (newCells (g2.push (.map .i64 [] 0)) [.map g2.next, .int .i64 0, .int .i64 0, .bool false, .nils, .nils] 1 false) (g2.next + 1) [] 0 false [] := by
    have n2 := x2.next
    refine ⟨[], g2.next, [], 0, .nils, .nils, ⟨get_new .., by omega, by simp [Heap.push], by omega, by simp [Heap.push]; omega, by omega, ?_, Tk.nil _ _, Tk.nil _ _, (fun x hx => by cases hx), (fun x hx => by cases hx), (fun x hx => by cases hx), fun id => .inl ⟨rfl, rfl⟩, .nil⟩, ⟨fun v hv => by simp at hv, (fun x hx => by cases hx), (fun x hx => by cases hx), .nil, by simp⟩⟩
    rw [(Ext.new ..).get g2.next (Nat.lt_succ_self _), Heap.get_push, if_pos rfl]
  have f0 : ∀ x, Foot (newCells (g2.push (.map .i64 [] 0)) [.map g2.next, .int .i64 0, .int .i64 0, .bool false, .nils, .nils] 1 false) (g2.next + 1) x → H1.next ≤ x := fun x q => by
    have n2 := x2.next
    obtain ⟨vs0, mo0, ces0, ins0, vv0, tv0, hm0, _⟩ := id e0
    rcases q with q | ⟨ho, q, _⟩
    · rcases (mut_iff (get_new (g2.push (.map .i64 [] 0)) [.map g2.next, .int .i64 0, .int .i64 0, .bool false, .nils, .nils] 1 false)).1 q with q | q | q | q
      · subst q; show H1.next ≤ g2.next + 1; omega
      · subst q; exact n2
      · cases q
      · cases q
    · obtain ⟨_, _, _, _, q, _⟩ := hm0.hobj q
      cases q
  have xe : Ext H1 (newCells (g2.push (.map .i64 [] 0)) [.map g2.next, .int .i64 0, .int .i64 0, .bool false, .nils, .nils] 1 false) := x2.trans ((Ext.push _ _).trans (Ext.new ..))
  have r12 := r1 xe
  generalize hE : newCells (g2.push (.map .i64 [] 0)) [.map g2.next, .int .i64 0, .int .i64 0, .bool false, .nils, .nils] 1 false = E at *
  have hpn : (g2.push (.map .i64 [] 0)).next = g2.next + 1 := rfl
  repeat' ((first | refine s_line rfl ?_ | refine s_end rfl ?_ | refine s_seq ?_ | refine s_region ?_ | refine s_block ?_ | refine s_cond ?_ | refine s_ret ?_ | refine s_skip ?_ | refine s_exit ?_ | refine s_if (fun hif => ?_) (fun hif => ?_) | refine condB_dec (fun hif => ?_) (fun hif => ?_) | refine condB_of (fun hif => ?_) (fun hif => ?_) | (refine s_lelt ?_ ?_; omega) | (refine s_lt ?_ ?_; omega) | (refine s_le ?_ ?_; omega)) <;>
    (try simp -implicitDefEqProofs (disch := first | assumption | omega) only [sx, sb, sd, se, xwpStep, xwpOp, xwpInt, opEv, xres, oneOf, Nat.reduceAdd, Nat.reduceEqDiff, Nat.reduceSub, ↓reduceIte, reduceCtorEq, wrap_i64, fillV, parts, List.map_cons, List.map_nil, over, List.length_cons, List.length_nil, Nat.beq_refl, Nat.ble, hE, hpn, *]))
  refine s_while (fun n t d g => ∃ (i : Nat), i + n = cs.length ∧ slotOf t 19 = .int .i64 i ∧ slotOf t 18 = .int .i64 cs.length ∧ slotOf t 17 = cv ∧ slotOf t 5 = .ptr (g2.next + 1) 0 0 ∧ d = [] ∧ Ext H1 g ∧ ChkP H1.next g (g2.next + 1) (Chk.start (cs.take i) ⟨[], 0, false⟩ 1).es (Chk.start (cs.take i) ⟨[], 0, false⟩ 1).last (Chk.start (cs.take i) ⟨[], 0, false⟩ 1).over [] ∧ ∀ x, Foot g (g2.next + 1) x → H1.next ≤ x) (fun _ _ _ => free_code ..) cs.length ⟨0, by omega, by simp [slotOf_set], by simp [slotOf_set], by simp [slotOf_set], by simp [slotOf_set], rfl, xe, e0, f0⟩ ?_
  clear e0 f0 xe r12 hE E
  rintro n t d g ⟨i, b1, a1, a2, a3, a4, rfl, xg, k1, f1⟩
  have f1 : Kept (∀ x, Foot g (g2.next + 1) x → H1.next ≤ x) := f1
  have rc : i < cs.length → readCells g (objS cv) (genS cv) (offS cv + i) 1 = some [vs.getD i .nils] := fun hi => (hs.ext (x1.trans xg)).at (by simp [show i < vs.length by omega])
  have hput : ∀ (hi : i < cs.length), EvCall xprog H0 31 [.ptr (g2.next + 1) 0 0, .int .i64 ((i : Int) + 1), vs.getD i .nils] g fun v h' => ChkP H1.next h' (g2.next + 1) (Chk.start (cs.take (i + 1)) ⟨[], 0, false⟩ 1).es (Chk.start (cs.take (i + 1)) ⟨[], 0, false⟩ 1).last (Chk.start (cs.take (i + 1)) ⟨[], 0, false⟩ 1).over [] ∧ Chg (g2.next + 1) g h' := fun hi => by
    have et : cs.take (i + 1) = cs.take i ++ [cs[i]] := by
      rw [List.take_add_one, List.getElem?_eq_getElem hi]
      rfl
    have hm := List.getElem_mem hi
    have hri := hri i
    have hla := begun_last (cs.take i) ⟨[], 0, false⟩ 1 (by decide)
    have htl : (cs.take i).length = i := by rw [List.length_take]; omega
    rw [htl] at hri hla
    have htt := hri.tot
    rw [et, begun_snoc, htl, Int.add_comm 1]
    exact (put_ok k1 hri.rise (by omega) ((hcs i hi).ext (x1.trans xg)) (right_fine hright _ hm) (by have := done_mem hm; omega) (by omega))
  repeat' ((first | refine s_line rfl ?_ | refine s_end rfl ?_ | refine s_seq ?_ | refine s_region ?_ | refine s_block ?_ | refine s_cond ?_ | refine s_ret ?_ | refine s_skip ?_ | refine s_exit ?_ | refine s_if (fun hif => ?_) (fun hif => ?_) | refine condB_dec (fun hif => ?_) (fun hif => ?_) | refine condB_of (fun hif => ?_) (fun hif => ?_) | (refine s_lelt ?_ ?_; omega) | (refine s_lt ?_ ?_; omega) | (refine s_le ?_ ?_; omega) | ((refine evApply_call (hput (by omega)) ?_; rintro _ g3 ⟨k2, y2⟩))) <;>
    (try simp -implicitDefEqProofs (disch := first | assumption | omega) only [sx, sb, sd, se, xwpStep, xwpOp, xwpInt, opEv, xres, oneOf, Nat.reduceAdd, Nat.reduceEqDiff, Nat.reduceSub, ↓reduceIte, reduceCtorEq, wrap_i64, Nat.zero_add, Int.toNat_natCast, Int.toNat_zero, Nat.add_zero, *]))
  · exact ⟨n - 1, by omega, i + 1, by omega, by simp, xg.butI (chg_but k1 y2) (fun o ho q => by omega), k2, fun x q => ((y2.foot k1.wf).2 x q).elim ((show ∀ x, Foot g (g2.next + 1) x → H1.next ≤ x from f1) x) fun q => Nat.le_trans xg.next q⟩
  · have hi : i = cs.length := by omega
    subst hi
    rw [List.take_length] at k1
    exact ⟨.inr ⟨_, H1.next, rfl, x1.next, k1, fun x q => Nat.le_trans x1.next ((show ∀ x, Foot g (g2.next + 1) x → H1.next ≤ x from f1) x q)⟩, x1.trans xg⟩
theorem New_ok {h : Heap} {vars : Int} {cv : V} {cs : List (List Int)} (hc : Cls h cv cs) (hx : ∀ c ∈ cs, ∀ x ∈ c, I32ok x) (hb : done cs cs.length ≤ 3000) (hcl : cs.length ≤ 1000) :
    EvCall xprog H0 13 [.agg [.int .i64 vars, cv]] h fun v h' => ((rightOf vars cs ≠ 0 ∧ v = .tup [.nilp, .int .i64 (rightOf vars cs)]) ∨ (rightOf vars cs = 0 ∧ ∃ o b, v = .tup [.ptr o 0 0, .int .i64 0] ∧ h.next ≤ b ∧ ChkP b h' o (Chk.start cs ⟨[], 0, false⟩ 1).es (Chk.start cs ⟨[], 0, false⟩ 1).last (Chk.start cs ⟨[], 0, false⟩ 1).over [])) ∧ Ext h h' :=
  (NewF_ok hc hx hb hcl).mono fun _ _ ⟨q1, q2⟩ => ⟨q1.imp id fun ⟨h1, o, b, e, h2, h3, _⟩ => ⟨h1, o, b, e, h2, h3⟩, q2⟩
end Go.Proofs.Ytmkbnbpblhoekaa
