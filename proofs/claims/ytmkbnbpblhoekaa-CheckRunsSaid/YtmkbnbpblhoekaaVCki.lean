/- The document's checker: New. -/
import Derived.Test.YtmkbnbpblhoekaaVCkh
set_option linter.unusedSimpArgs false
set_option linter.unusedVariables false
set_option linter.unusedSectionVars false
namespace Go.Proofs.Ytmkbnbpblhoekaa
open Go.Xr Go.Chk

theorem RChk.low {b b' : Nat} {h : Heap} {o : Nat} {es : List (Int × List Int)} {last : Int} {ov : Bool} (hr : RChk b h o es last ov) (hb : b' ≤ b) : RChk b' h o es last ov :=
  let ⟨Lv, cs, h1, h2, h3, h4, h5⟩ := hr
  ⟨Lv, cs, h1, Nat.le_trans hb h2, h3, h4.imp (fun q => q) fun ⟨o, g, r, q1, q2⟩ => ⟨o, g, r, Nat.le_trans hb q1, q2⟩, h5⟩
theorem done_le' (cs : List (List Int)) (i : Nat) : (List.map List.length (List.take i cs)).sum ≤ done cs cs.length := done_le cs i
/-- The ids and the clauses of a formula's checker. -/
theorem begun_es : ∀ (cs : List (List Int)) (s : Chs) (n : Int), (Chk.start cs s n).es.length = s.es.length + cs.length ∧ Chk.total (Chk.start cs s n).es = Chk.total s.es + (cs.map List.length).sum
  | [], s, n => by simp [Chk.start]
  | c :: r, s, n => by
    obtain ⟨h1, h2⟩ := begun_es r (s.put n c) (n + 1)
    rw [Chk.start, h1, h2]
    have ht : Chk.total (s.es ++ [(n, c)]) = Chk.total s.es + c.length := by
      rw [total_append]
      simp [Chk.total]
    simp only [Chs.put, List.length_append, List.length_cons, List.length_nil, List.map_cons, List.sum_cons, ht]
    omega
set_option maxHeartbeats 8000000 in
theorem rNew_ok {h : Heap} {vars : Int} {cv : V} {cs : List (List Int)} (hc : Cls h cv cs) (hx : ∀ c ∈ cs, ∀ x ∈ c, I32ok x) (hb : done cs cs.length ≤ 1000000) (hcl : cs.length ≤ 1000) :
    EvCall xprog H0 28 [.agg [.int .i64 vars, cv]] h fun v h' => ((rightOf vars cs ≠ 0 ∧ v = .tup [.nilp, .int .i64 (rightOf vars cs)]) ∨ (rightOf vars cs = 0 ∧ ∃ o, v = .tup [.ptr o 0 0, .int .i64 0] ∧ RChk h.next h' o (Chk.start cs ⟨[], 0, false⟩ 1).es (Chk.start cs ⟨[], 0, false⟩ 1).last (Chk.start cs ⟨[], 0, false⟩ 1).over)) ∧ Ext h h' := by
  refine s_call (fn := xf28) rfl (free _ rfl ..) ?_
  generalize hH1 : newCells h [.int .i64 vars, cv] 1 false = H1
  have x1 : Ext h H1 := hH1 ▸ Ext.new ..
  have g1 : H1.get h.next = some (arr [.int .i64 vars, cv] 1 false) := by rw [← hH1]; exact get_new ..
  have r0 : readCells H1 h.next 0 0 2 = some [.int .i64 vars, cv] := readCells_arr g1 (by simp)
  have hr := rRight_ok (vars := vars) (hc.ext x1) hx hb (by omega)
  have hlt : h.next < H1.next := by rw [← hH1]; simp
  simp -implicitDefEqProofs only [xf28, argsFrom_cons, argsFrom_nil]
  repeat' ((first | refine s_line rfl ?_ | refine s_end rfl ?_ | refine s_seq ?_ | refine s_region ?_ | refine s_block ?_ | refine s_cond ?_ | refine s_ret ?_ | refine s_skip ?_ | refine s_exit ?_ | refine s_if (fun hif => ?_) (fun hif => ?_) | refine condB_dec (fun hif => ?_) (fun hif => ?_) | refine condB_of (fun hif => ?_) (fun hif => ?_) | (refine s_lelt ?_ ?_; omega) | (refine s_lt ?_ ?_; omega) | (refine s_le ?_ ?_; omega) | ((refine evApply_call hr ?_; rintro _ g2 ⟨rfl, x2⟩))) <;>
    (try simp -implicitDefEqProofs (disch := first | assumption | omega) only [sx, sb, sd, se, xwpStep, xwpOp, xwpInt, opEv, xres, oneOf, Nat.reduceAdd, Nat.reduceEqDiff, Nat.reduceSub, ↓reduceIte, reduceCtorEq, wrap_i64, Nat.zero_add, Int.toNat_natCast, Int.toNat_zero, Nat.add_zero, fillV, parts, List.map_cons, List.map_nil, over, List.length_cons, List.length_nil, Nat.beq_refl, Nat.ble, *]))
  · exact ⟨.inl (by simpa using hif), x1.trans x2⟩
  have hright : rightOf vars cs = 0 := by simpa using hif
  obtain ⟨vs, hs, hvl, hcs⟩ := hc
  have hl := hs.len
  have hr' := hs.row
  rw [hvl] at hl
  clear r0 hr hif
  have e0 : RChk H1.next (newCells g2 [.nils, .int .i64 0, .bool false, .int .i64 0] 1 false) g2.next [] 0 false := ⟨.nils, [], get_new .., x2.next, by simp, .inl ⟨rfl, rfl, rfl⟩, by simp [rowObj], fun i hi => by simp at hi, rfl⟩
  refine s_while (fun n t d g => ∃ (i : Nat), i + n = cs.length ∧ slotOf t 6 = .int .i64 i ∧ slotOf t 5 = .ptr g2.next 0 0 ∧ slotOf t 1 = .ptr h.next 0 0 ∧ d = [] ∧ Ext H1 g ∧ RChk H1.next g g2.next (Chk.start (cs.take i) ⟨[], 0, false⟩ 1).es (Chk.start (cs.take i) ⟨[], 0, false⟩ 1).last (Chk.start (cs.take i) ⟨[], 0, false⟩ 1).over) (fun _ _ _ => free_code ..) cs.length ⟨0, by omega, by simp [slotOf_set], by simp [slotOf_set], by simp [slotOf_set], rfl, x2.trans (Ext.new ..), e0⟩ ?_
  rintro n t d g ⟨i, a1, a2, a3, a4, rfl, xg, k1⟩
  have r1 : readCells g h.next 0 1 1 = some [cv] := readCell (off := 1) (by rw [xg.get _ hlt]; exact g1) rfl
  have rc : i < cs.length → readCells g (objS cv) (genS cv) (offS cv + i) 1 = some [vs.getD i .nils] := fun hi => (hs.ext (x1.trans xg)).at (by simp [show i < vs.length by omega])
  obtain ⟨se, st⟩ := begun_es (cs.take i) ⟨[], 0, false⟩ 1
  have hd : (List.map List.length (List.take i cs)).sum ≤ 1000000 := Nat.le_trans (done_le' cs i) hb
  simp only [List.length_nil, List.length_take, Nat.zero_add] at se
  have hput : ∀ (hi : i < cs.length), EvCall xprog H0 43 [.ptr g2.next 0 0, .int .i64 ((i : Int) + 1), vs.getD i .nils] g fun v h' => RChk H1.next h' g2.next (Chk.start (cs.take (i + 1)) ⟨[], 0, false⟩ 1).es (Chk.start (cs.take (i + 1)) ⟨[], 0, false⟩ 1).last (Chk.start (cs.take (i + 1)) ⟨[], 0, false⟩ 1).over ∧ But (fun x => H1.next ≤ x) g h' := fun hi => by
    have et : cs.take (i + 1) = cs.take i ++ [cs[i]] := by
      rw [List.take_add_one, List.getElem?_eq_getElem hi]
      rfl
    have hll : (cs[i]).length ≤ 1000000 := by
      have h1 := done_succ hi
      have h2 := done_le cs (i + 1)
      omega
    rw [et, begun_snoc, List.length_take, Nat.min_eq_left (by omega), Int.add_comm 1]
    exact rput_ok k1 (by omega) (by rw [st]; show Chk.total [] + _ ≤ _; have : Chk.total [] = 0 := rfl; omega) ((hcs i hi).ext (x1.trans xg)) hll
  repeat' ((first | refine s_line rfl ?_ | refine s_end rfl ?_ | refine s_seq ?_ | refine s_region ?_ | refine s_block ?_ | refine s_cond ?_ | refine s_ret ?_ | refine s_skip ?_ | refine s_exit ?_ | refine s_if (fun hif => ?_) (fun hif => ?_) | refine condB_dec (fun hif => ?_) (fun hif => ?_) | refine condB_of (fun hif => ?_) (fun hif => ?_) | (refine s_lelt ?_ ?_; omega) | (refine s_lt ?_ ?_; omega) | (refine s_le ?_ ?_; omega) | ((refine evApply_call (hput (by omega)) ?_; rintro _ g3 ⟨k2, y2⟩))) <;>
    (try simp -implicitDefEqProofs (disch := first | assumption | omega) only [sx, sb, sd, se, xwpStep, xwpOp, xwpInt, opEv, xres, oneOf, Nat.reduceAdd, Nat.reduceEqDiff, Nat.reduceSub, ↓reduceIte, reduceCtorEq, wrap_i64, Nat.zero_add, Int.toNat_natCast, Int.toNat_zero, Nat.add_zero, *]))
  · exact ⟨n - 1, by omega, i + 1, by omega, by simp, xg.butI y2 (fun o ho q => by omega), k2⟩
  · have hi : i = cs.length := by omega
    subst hi
    rw [List.take_length] at k1
    exact ⟨.inr ⟨_, rfl, k1.low (by omega)⟩, x1.trans xg⟩
end Go.Proofs.Ytmkbnbpblhoekaa
