/- CheckImplies: the law, whatever the formula, the clause and the hints. -/
import Derived.Test.YtmkbnbpblhoekaaVDx
import Derived.Test.YtmkbnbpblhoekaaVDh
set_option linter.unusedSimpArgs false
set_option linter.unusedVariables false
set_option linter.unusedSectionVars false
namespace Go.Proofs.Ytmkbnbpblhoekaa
open Go.Xr Go.Chk

/-- The law's heart: what follows without groups is true, or fresh. -/
theorem implies_plain {vars : Int} {cs : List (List Int)} {l hints : List Int} {id : Int} {n k : Nat} (hr : rightOf vars cs = 0) (hn : vars = n) (hh : ∀ x ∈ hints, 0 ≤ x) (hrise : Rise (Chk.start cs ⟨[], 0, false⟩ 1).es (Chk.start cs ⟨[], 0, false⟩ 1).last)
    (hs : ((Chk.start cs ⟨[], 0, false⟩ 1).step (mayOf 1 id l hints) 1 id l hints).1 = 0)
    (h1 : (cs.all fun c => c.any (litIn ((List.range n).map k.testBit))) = true) (h2 : l.any (litIn ((List.range n).map k.testBit)) = false) (h3 : (l.all fun x => decide (litVar x ≤ vars)) = true) : ∃ p r, l = p :: r ∧ ∀ c ∈ cs, -p ∉ c := by
  obtain ⟨_, hlit⟩ := right_lits hr
  obtain ⟨hmay, _, hf, _⟩ := step_add hs
  obtain ⟨hfl, _, _⟩ := may_fine hmay
  have hz : NoZs (Chk.start cs ⟨[], 0, false⟩ 1).es := fun e he x hx => by
    rcases (start_es cs ⟨[], 0, false⟩ 1).1 e he with q | q
    · cases q
    · exact (hlit _ q x hx).1
  have hall : (asgOf k).All (Chk.start cs ⟨[], 0, false⟩ 1).es := start_all.2 fun c hc => by
    rw [List.all_eq_true] at h1
    have := h1 c hc
    rw [List.any_eq_true] at this
    obtain ⟨x, hx, hv⟩ := this
    obtain ⟨q1, q2⟩ := hlit c hc x hx
    rw [litIn_bits q1 (by omega)] at hv
    exact ⟨x, hx, hv⟩
  rcases follows_plain hall hz hrise (fun x hx => (hfl x hx).1) hh hf with q | ⟨p, r, e, q⟩
  · obtain ⟨x, hx, hv⟩ := q
    rw [List.all_eq_true] at h3
    have h3 := of_decide_eq_true (h3 x hx)
    rw [litVar_nat] at h3
    rw [List.any_eq_false] at h2
    have := h2 x hx
    rw [litIn_bits (hfl x hx).1 (by omega)] at this
    exact absurd hv this
  · refine ⟨p, r, e, fun c hc => ?_⟩
    obtain ⟨e, he, rfl⟩ := (start_es cs ⟨[], 0, false⟩ 1).2.2 c hc
    exact q e he

set_option maxHeartbeats 8000000 in
theorem implies_ok {h : Heap} {vars : Int} {cv lv hv : V} {cs : List (List Int)} {l hints : List Int} (hc : Cls h cv cs) (hl : Sw h lv (l.map (.int .i32))) (hh : Sw h hv (hints.map (.int .i64))) (hx : ∀ c ∈ cs, ∀ x ∈ c, I32ok x) (hxl : ∀ x ∈ l, I32ok x) :
    EvCall xprog H0 4 [.agg [.int .i64 vars, cv], lv, hv] h fun v h' => v = .bool true ∧ Ext h h' := by
  refine s_call (fn := xf4) rfl (free _ rfl ..) ?_
  generalize hH1 : newCells h [.int .i64 vars, cv] 1 false = H1
  have x1 : Ext h H1 := hH1 ▸ Ext.new ..
  have g1 : H1.get h.next = some (arr [.int .i64 vars, cv] 1 false) := by rw [← hH1]; exact get_new ..
  have hlt1 : h.next < H1.next := by rw [← hH1]; simp
  have rA : ∀ {g}, Ext H1 g → readCells g h.next 0 0 2 = some [.int .i64 vars, cv] ∧ readCells g h.next 0 0 1 = some [.int .i64 vars] ∧ readCells g h.next 0 1 1 = some [cv] := fun x =>
    have q := (x.get h.next hlt1).trans g1
    ⟨readCells_arr q (by simp), readCell (off := 0) q rfl, readCell (off := 1) q rfl⟩
  obtain ⟨rA0, rA1, rA2⟩ := rA (Ext.refl H1)
  obtain ⟨vs, hs1, hvl, _⟩ := id hc
  have ecv := hs1.len
  have ercv := hs1.row
  rw [hvl] at ecv
  clear hs1 hvl
  have erl := hl.sl.row
  have erh := hh.sl.row
  simp -implicitDefEqProofs only [xf4, argsFrom_cons, argsFrom_nil]
  refine s_cut2 (fun t d g => slotOf t 3 = .ptr h.next 0 0 ∧ slotOf t 1 = lv ∧ slotOf t 2 = hv ∧ d = [] ∧ ∃ sv A, slotOf t 7 = sv ∧ Ext H1 g ∧ readCells g (objS sv) (genS sv) (offS sv) 4 = some [.int .u8 1, .int .i64 A, lv, hv] ∧ rowS sv = true ∧ lenS sv = 1 ∧ Stps g sv [⟨⟨1, A, l, hints⟩, lv, hv⟩]) ?_ ?_
  · repeat' ((first | refine s_line rfl ?_ | refine s_end rfl ?_ | refine s_seq ?_ | refine s_region ?_ | refine s_block ?_ | refine s_cond ?_ | refine s_ret ?_ | refine s_skip ?_ | refine s_exit ?_ | refine s_if (fun hif => ?_) (fun hif => ?_) | refine condB_dec (fun hif => ?_) (fun hif => ?_) | refine condB_of (fun hif => ?_) (fun hif => ?_) | (refine s_lelt ?_ ?_; omega) | (refine s_lt ?_ ?_; omega) | (refine s_le ?_ ?_; omega) | ((refine evApply_call (add_ok _ _ _ erl erh) ?_; rintro _ g2 ⟨rfl, x2⟩))) <;>
      (try simp -implicitDefEqProofs (disch := first | assumption | omega) only [sx, sb, sd, se, xwpStep, xwpOp, xwpInt, opEv, xres, oneOf, Nat.reduceAdd, Nat.reduceEqDiff, Nat.reduceSub, ↓reduceIte, reduceCtorEq, wrap_i64, Nat.zero_add, Nat.add_zero, cellsOf_slice, fillV, parts, List.map_cons, List.map_nil, over, List.length_cons, List.length_nil, Nat.beq_refl, Nat.ble, *]))
    exact ⟨_, _, rfl, x2.trans (Ext.new ..), readCells_arr (get_new ..) (by simp), rfl, rfl, ⟨⟨rfl, rfl, fun i hi => by
      have : i = 0 := by simp at hi; omega
      subst this
      exact ⟨Nat.lt_succ_self _, rfl, readCells_arr (get_new ..) (by simp)⟩⟩, fun s hs => by
      rw [List.mem_singleton] at hs
      subst hs
      exact hl.ext (x1.trans (x2.trans (Ext.new ..))), fun s hs => by
      rw [List.mem_singleton] at hs
      subst hs
      exact hh.ext (x1.trans (x2.trans (Ext.new ..)))⟩⟩
  clear rA0 rA1 rA2
  rintro t d g ⟨a1, a2, a3, rfl, sv, A, a4, xg, rs, ers, els, hst⟩
  obtain ⟨rA0, rA1, rA2⟩ := rA xg
  have hla := large2_ok (vars := vars) ((hc.ext x1).ext xg) hst
  refine s_cut1 (fun t d g' => slotOf t 3 = .ptr h.next 0 0 ∧ slotOf t 1 = lv ∧ slotOf t 2 = hv ∧ slotOf t 7 = sv ∧ d = [] ∧ Ext g g' ∧ vars ≤ 8 ∧ cs.length ≤ 60 ∧ done cs cs.length ≤ 1500 ∧ l.length ≤ 1500 ∧ hints.length ≤ 1500 ∧ ∀ x ∈ hints, 0 ≤ x) ?_ ?_
  · repeat' ((first | refine s_line rfl ?_ | refine s_end rfl ?_ | refine s_seq ?_ | refine s_region ?_ | refine s_block ?_ | refine s_cond ?_ | refine s_ret ?_ | refine s_skip ?_ | refine s_exit ?_ | refine s_if (fun hif => ?_) (fun hif => ?_) | refine condB_dec (fun hif => ?_) (fun hif => ?_) | refine condB_of (fun hif => ?_) (fun hif => ?_) | (refine s_lelt ?_ ?_; omega) | (refine s_lt ?_ ?_; omega) | (refine s_le ?_ ?_; omega) | ((refine evApply_call hla ?_; rintro _ g2 ⟨⟨bl, rfl, hbl⟩, x2⟩; obtain ⟨rB0, rB1, rB2⟩ := rA (xg.trans x2); have hbm := fun e => (hbl e).2.2.2 _ List.mem_cons_self; cases bl)) | ((refine evApply_call (works_ok _) ?_; rintro _ gw ⟨rfl, xw⟩)) | ((refine (evCall_iff (plain_ok (hh.sl.ext (x1.trans (xg.trans x2))) (by have := (hbm rfl).2; simp only at this; omega))).2 ?_))) <;>
      (try simp -implicitDefEqProofs (disch := first | assumption | omega) only [sx, sb, sd, se, xwpStep, xwpOp, xwpInt, opEv, xres, oneOf, Nat.reduceAdd, Nat.reduceEqDiff, Nat.reduceSub, ↓reduceIte, reduceCtorEq, wrap_i64, Nat.zero_add, Nat.add_zero, *]))
    · exact x1.trans (xg.trans (x2.trans xw))
    · exact x1.trans (xg.trans (x2.trans xw))
    · exact x1.trans (xg.trans (x2.trans xw))
    · have hb := hbl rfl
      have hb2 := hbm rfl
      simp only at hb2
      have hpl : (hints.all fun x => decide (0 ≤ x)) = true := by simpa using ‹(!hints.all fun x => decide (0 ≤ x)) = false›
      rw [List.all_eq_true] at hpl
      exact ⟨by omega, by omega, by omega, by omega, fun x hx => of_decide_eq_true (hpl x hx)⟩
    · exact x1.trans (xg.trans (x2.trans xw))
  clear rA0 rA1 rA2 hla a1 a2 a3 a4
  rintro t d g2 ⟨a1, a2, a3, a4, rfl, x2, hv8, hc60, hdn, hll, hhl, hpl⟩
  have xg2 := xg.trans x2
  obtain ⟨rA0, rA1, rA2⟩ := rA xg2
  have hs0 := (hst.ext x2)
  have rs2 : readCells g2 (objS sv) (genS sv) (offS sv) 4 = some [.int .u8 1, .int .i64 A, lv, hv] := hs0.elem (i := 0) (by simp)
  clear rs hst
  have hnew := New_ok (vars := vars) ((hc.ext x1).ext xg2) hx (by omega) (by omega)
  by_cases hr : rightOf vars cs = 0
  · obtain ⟨n, rfl⟩ : ∃ n : Nat, vars = n := ⟨vars.toNat, by have := (right_lits hr).1; omega⟩
    have hri : Right6 0 (Chk.start cs ⟨[], 0, false⟩ 1) (0 + cs.length) := begun_right cs _ _ 0 ⟨⟨.nil, fun e he => by cases he⟩, (fun e he => by cases he), Nat.le_refl _, Nat.le_refl _⟩ (fun c hm => ⟨right_fine hr c hm, by have := done_mem hm; omega⟩) (by decide) (by decide)
    have heart := fun hs k => implies_plain (k := k) (id := A) (l := l) hr rfl hpl hri.rise hs
    generalize Chk.start cs ⟨[], 0, false⟩ 1 = s0 at *
    have hnew : EvCall xprog H0 13 [.agg [.int .i64 n, cv]] g2 fun v h' => (∃ o b, v = .tup [.ptr o 0 0, .int .i64 0] ∧ g2.next ≤ b ∧ ChkP b h' o s0.es s0.last s0.over []) ∧ Ext g2 h' := hnew.mono fun v g ⟨q1, q2⟩ => ⟨q1.elim (fun q => absurd hr q.1) fun q => q.2, q2⟩
    refine s_cut2 (fun t d g' => slotOf t 3 = .ptr h.next 0 0 ∧ slotOf t 1 = lv ∧ d = [] ∧ Ext g2 g' ∧ (s0.step (mayOf 1 A l hints) 1 A l hints).1 = 0) ?_ ?_
    · repeat' ((first | refine s_line rfl ?_ | refine s_end rfl ?_ | refine s_seq ?_ | refine s_region ?_ | refine s_block ?_ | refine s_cond ?_ | refine s_ret ?_ | refine s_skip ?_ | refine s_exit ?_ | refine s_if (fun hif => ?_) (fun hif => ?_) | refine condB_dec (fun hif => ?_) (fun hif => ?_) | refine condB_of (fun hif => ?_) (fun hif => ?_) | (refine s_lelt ?_ ?_; omega) | (refine s_lt ?_ ?_; omega) | (refine s_le ?_ ?_; omega) | ((refine evApply_call hnew ?_; rintro _ g3 ⟨⟨o, b, rfl, hbb, k1⟩, x3⟩; have rs3 := (hs0.ext x3).elem (i := 0) (by simp))) | ((refine evApply_call (works_ok _) ?_; rintro _ gw ⟨rfl, xw⟩)) | ((refine evApply_call (Step_ok (b := b) (h0 := g2) k1 (N := 60) ⟨hri.rise, hri.fine, by have := hri.len; omega, Nat.le_trans hri.tot (Nat.mul_le_mul_right _ (by omega))⟩ (by omega) x3 hbb (slo_of k1 x3 hbb (hl.sl.ext (x1.trans xg2))) (hh.ext (x1.trans xg2)) (by omega) (by omega)) ?_; rintro _ g4 ⟨rfl, k2, k3⟩))) <;>
        (try simp -implicitDefEqProofs (disch := first | assumption | omega) only [sx, sb, sd, se, xwpStep, xwpOp, xwpInt, opEv, xres, oneOf, Nat.reduceAdd, Nat.reduceEqDiff, Nat.reduceSub, ↓reduceIte, reduceCtorEq, wrap_i64, Nat.zero_add, Nat.add_zero, List.getElem?_cons_zero, List.getElem?_cons_succ, Int.toNat_zero, *]))
      all_goals have x34 : Ext g2 g4 := x3.butI (chg_but k1 k3) (fun o ho q => by omega)
      · exact x1.trans (xg2.trans (x34.trans xw))
      · exact ⟨x34, by simpa using hif⟩
    clear hnew a1 a2 a3 a4 rA0 rA1 rA2 rs2
    rintro t d g3 ⟨a1, a2, rfl, x3, hstep⟩
    have heart := heart hstep
    have xg3 := xg2.trans x3
    have hlf : ∀ x ∈ l, -1048576 ≤ x ∧ x ≤ 1048576 := fun x hx => by
      obtain ⟨hmay, _⟩ := step_add hstep
      have := (may_fine hmay).1 x hx
      omega
    have s0' := shl_v 3 (n := n) (by omega)
    have hp : 2 ^ n ≤ 2 ^ 8 := Nat.pow_le_pow_right (by decide) (by omega)
    have hlc : ∀ c ∈ cs, c.length ≤ 1000000 := fun c hm => by have := done_mem hm; omega
    repeat' ((first | refine s_line rfl ?_ | refine s_end rfl ?_ | refine s_seq ?_ | refine s_region ?_ | refine s_block ?_ | refine s_cond ?_ | refine s_ret ?_ | refine s_skip ?_ | refine s_exit ?_ | refine s_if (fun hif => ?_) (fun hif => ?_) | refine condB_dec (fun hif => ?_) (fun hif => ?_) | refine condB_of (fun hif => ?_) (fun hif => ?_) | (refine s_lelt ?_ ?_; omega) | (refine s_lt ?_ ?_; omega) | (refine s_le ?_ ?_; omega)) <;>
      (try simp -implicitDefEqProofs (disch := first | assumption | omega) only [sx, sb, sd, se, xwpStep, xwpOp, xwpInt, opEv, xres, oneOf, Nat.reduceAdd, Nat.reduceEqDiff, Nat.reduceSub, ↓reduceIte, reduceCtorEq, wrap_i64, *]))
    refine s_while (fun w t d g => ∃ (k : Nat), k + w = 2 ^ n ∧ slotOf t 10 = .int .i64 k ∧ slotOf t 3 = .ptr h.next 0 0 ∧ slotOf t 1 = lv ∧ d = [] ∧ Ext H1 g) (fun _ _ _ => free_code ..) (2 ^ n) ⟨0, by omega, by simp [slotOf_set], by simp [slotOf_set, a1], by simp [slotOf_set, a2], rfl, xg3⟩ ?_
    clear a1 a2 t
    rintro w t d g4 ⟨k, b1, b2, a1, a2, rfl, x4⟩
    obtain ⟨rB0, rB1, rB2⟩ := rA x4
    have hmo := Model_ok g4 (n := n) (k := k) (by omega) (by omega)
    have heart := heart k
    have hho : ∀ {g mv}, Ext H1 g → Sl g mv (((List.range n).map k.testBit).map V.bool) → EvCall xprog H0 16 [.agg [.int .i64 n, cv], mv] g fun v h' => v = .bool (cs.all fun c => c.any (litIn ((List.range n).map k.testBit))) ∧ Ext g h' := fun x m1 => Holds_ok ((hc.ext x1).ext x) hx hlc (by omega) m1 (by simp; omega)
    have hva : ∀ {g mv}, Ext H1 g → Sl g mv (((List.range n).map k.testBit).map V.bool) → EvCall xprog H0 17 [lv, mv] g fun v h' => v = .bool (l.any (litIn ((List.range n).map k.testBit))) ∧ h' = g := fun x m1 => Value_ok ((hl.sl.ext x1).ext x) hxl (by omega) m1 (by simp; omega)
    have hov : ∀ {g}, Ext H1 g → EvCall xprog H0 18 [lv, .int .i64 n] g fun v h' => v = .bool (l.all fun x => decide (litVar x ≤ n)) ∧ h' = g := fun x => over_ok ((hl.sl.ext x1).ext x) hxl (by omega) n
    have hfr : ∀ {g}, Ext H1 g → EvCall xprog H0 19 [.agg [.int .i64 n, cv], lv] g fun v h' => (∃ b : Bool, v = .bool b ∧ ((∃ p r, l = p :: r ∧ ∀ c ∈ cs, -p ∉ c) → b = true)) ∧ Ext g h' := fun x => fresh_ok ((hc.ext x1).ext x) hlc (by omega) ((hl.sl.ext x1).ext x) (by omega) hlf
    generalize (cs.all fun c => c.any (litIn ((List.range n).map k.testBit))) = B1 at *
    generalize l.any (litIn ((List.range n).map k.testBit)) = B2 at *
    generalize (l.all fun x => decide (litVar x ≤ (n : Int))) = B3 at *
    repeat' ((first | refine s_line rfl ?_ | refine s_end rfl ?_ | refine s_seq ?_ | refine s_region ?_ | refine s_block ?_ | refine s_cond ?_ | refine s_ret ?_ | refine s_skip ?_ | refine s_exit ?_ | refine s_if (fun hif => ?_) (fun hif => ?_) | refine condB_dec (fun hif => ?_) (fun hif => ?_) | refine condB_of (fun hif => ?_) (fun hif => ?_) | (refine s_lelt ?_ ?_; omega) | (refine s_lt ?_ ?_; omega) | (refine s_le ?_ ?_; omega) | ((refine evApply_call hmo ?_; rintro mv g5 ⟨m1, x5⟩; have x45 := x4.trans x5; obtain ⟨rC0, rC1, rC2⟩ := rA x45)) | ((refine evApply_call (hho x45 m1) ?_; rintro _ g6 ⟨rfl, x6⟩; have x46 := x45.trans x6; have m2 := m1.ext x6; obtain ⟨rD0, rD1, rD2⟩ := rA x46; cases B1)) | ((refine (evCall_iff (hva x46 m2)).2 ?_; cases B2)) | ((refine (evCall_iff (hov x46)).2 ?_; cases B3)) | ((refine evApply_call (hfr x46) ?_; rintro _ g7 ⟨⟨bf, rfl, hbf⟩, x7⟩)) | ((refine evApply_call (works_ok _) ?_; rintro _ gw ⟨rfl, xw⟩))) <;>
      (try simp -implicitDefEqProofs (disch := first | assumption | omega) only [sx, sb, sd, se, xwpStep, xwpOp, xwpInt, opEv, xres, oneOf, Nat.reduceAdd, Nat.reduceEqDiff, Nat.reduceSub, ↓reduceIte, reduceCtorEq, wrap_i64, Nat.zero_add, Int.toNat_natCast, *]))
    · exact ⟨w - 1, by omega, k + 1, by omega, by simp⟩
    · exact ⟨w - 1, by omega, k + 1, by omega, by simp⟩
    · have := hbf (heart rfl rfl rfl)
      rw [this] at hif
      cases hif
    · exact ⟨w - 1, by omega, k + 1, by omega, by simp, x46.trans x7⟩
    · exact ⟨w - 1, by omega, k + 1, by omega, by simp⟩
    · exact x1.trans (x4.trans xw)
  · repeat' ((first | refine s_line rfl ?_ | refine s_end rfl ?_ | refine s_seq ?_ | refine s_region ?_ | refine s_block ?_ | refine s_cond ?_ | refine s_ret ?_ | refine s_skip ?_ | refine s_exit ?_ | refine s_if (fun hif => ?_) (fun hif => ?_) | refine condB_dec (fun hif => ?_) (fun hif => ?_) | refine condB_of (fun hif => ?_) (fun hif => ?_) | (refine s_lelt ?_ ?_; omega) | (refine s_lt ?_ ?_; omega) | (refine s_le ?_ ?_; omega) | ((refine evApply_call hnew ?_; rintro _ g3 ⟨⟨_, rfl⟩ | ⟨hr2, _⟩, x3⟩; rotate_left; exact absurd hr2 hr)) | ((refine evApply_call (works_ok _) ?_; rintro _ gw ⟨rfl, xw⟩))) <;>
      (try simp -implicitDefEqProofs (disch := first | assumption | omega) only [sx, sb, sd, se, xwpStep, xwpOp, xwpInt, opEv, xres, oneOf, Nat.reduceAdd, Nat.reduceEqDiff, Nat.reduceSub, ↓reduceIte, reduceCtorEq, wrap_i64, Nat.zero_add, Nat.add_zero, List.getElem?_cons_zero, List.getElem?_cons_succ, *]))
    exact x1.trans (xg2.trans (x3.trans xw))
end Go.Proofs.Ytmkbnbpblhoekaa
