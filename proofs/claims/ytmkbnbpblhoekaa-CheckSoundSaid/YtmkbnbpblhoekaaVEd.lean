/- CheckSound: the law, whatever the formula and the steps. -/
import Derived.Test.YtmkbnbpblhoekaaVDx
import Derived.Test.YtmkbnbpblhoekaaVEc
set_option linter.unusedSimpArgs false
set_option linter.unusedVariables false
set_option linter.unusedSectionVars false
namespace Go.Proofs.Ytmkbnbpblhoekaa
open Go.Xr Go.Chk

def Ten (es : List (Int × List Int)) : Prop := ∀ e ∈ es, ∀ x ∈ e.2, x ≠ 0 ∧ x.natAbs ≤ 10
theorem right_ten {cs : List (List Int)} (h : ∀ c ∈ cs, ∀ x ∈ c, x ≠ 0 ∧ x.natAbs ≤ 10) : rightOf 10 cs = 0 := by
  unfold rightOf
  rw [if_neg (by decide), if_neg]
  intro q
  rw [List.any_eq_true] at q
  obtain ⟨c, hc, q⟩ := q
  rw [List.any_eq_true] at q
  obtain ⟨x, hx, q⟩ := q
  have q := of_decide_eq_true q
  rw [litVar_nat] at q
  have := h c hc x hx
  omega
theorem Ten.cls {es : List (Int × List Int)} (h : Ten es) : ∀ c ∈ es.map Prod.snd, ∀ x ∈ c, x ≠ 0 ∧ x.natAbs ≤ 10 := fun c hc => by
  obtain ⟨e, he, rfl⟩ := List.mem_map.1 hc
  exact h e he
theorem hasMod_es {es : List (Int × List Int)} (h : Ten es) : hasMod 10 (es.map Prod.snd) = true ↔ Mod es := by
  rw [hasMod_iff h.cls]
  refine exists_congr fun m => ⟨fun q e he => q _ (List.mem_map.2 ⟨e, he, rfl⟩), fun q c hc => ?_⟩
  obtain ⟨e, he, rfl⟩ := List.mem_map.1 hc
  exact q e he
theorem done_total (es : List (Int × List Int)) : done (es.map Prod.snd) (es.map Prod.snd).length = Chk.total es := by
  unfold done Chk.total
  rw [List.take_length, List.map_map]
  rfl
theorem wf_i64 {k : Int} (h1 : 0 < k) (h2 : k ≤ 1000000) : (Lit.int .i64 k).wf = true := by
  have e1 : IntKind.i64.min = -9223372036854775808 := by decide
  have e2 : IntKind.i64.max = 9223372036854775807 := by decide
  simp only [Lit.wf, e1, e2, Bool.and_eq_true, decide_eq_true_eq]
  omega

/-- What holds between the steps. -/
structure SInv (s : Chs) (N : Nat) (has : Bool) : Prop where
  r6 : Right6 0 s N
  ten : Ten s.es
  ids : ∀ e ∈ s.es, (Lit.int .i64 e.1).wf = true
  mod : has = true → Mod s.es
  ovr : s.over = true → ¬ Mod s.es
theorem NoZs.of_ten {es : List (Int × List Int)} (h : Ten es) : NoZs es := fun e he x hx => (h e he x hx).1
theorem SInv.ok {s : Chs} {N : Nat} {has : Bool} {kind id : Int} {lits hints : List Int} (hs : SInv s N has) (hl : ∀ x ∈ lits, litVar x ≤ 10) (hid : (Lit.int .i64 id).wf = true) (h1 : lits.length ≤ 3000) (h0 : (s.step (mayOf kind id lits hints) kind id lits hints).1 = 0) :
    ((s.step (mayOf kind id lits hints) kind id lits hints).2.over = true → ¬ Mod s.es) ∧ ((s.step (mayOf kind id lits hints) kind id lits hints).2.over = false → SInv (s.step (mayOf kind id lits hints) kind id lits hints).2 (N + 1) has) := by
  have hk : mayOf kind id lits hints = true → kind = 1 ∨ kind = 2 := fun q => (may_fine q).2.2.elim .inr fun q => .inl q.1
  refine ⟨fun q => step_ends hk (NoZs.of_ten hs.ten) hs.ovr h0 q, fun q => ?_⟩
  have hmay : mayOf kind id lits hints = true := by
    cases hm : mayOf kind id lits hints with
    | true => rfl
    | false => rw [hm] at h0; simp [Chs.step] at h0
  have hf := (may_fine hmay).1
  refine ⟨step_right hs.r6 h1, ?_, ?_, fun e => step_keeps hk (NoZs.of_ten hs.ten) hs.r6.rise (fun _ x hx => (hf x hx).1) h0 (hs.mod e), fun e => by rw [q] at e; cases e⟩
  · rcases hk hmay with rfl | rfl
    · obtain ⟨_, _, _, e⟩ := step_add h0
      rw [e]
      intro x hx
      rcases List.mem_append.1 hx with hx | hx
      · exact hs.ten x hx
      · rw [List.mem_singleton] at hx
        subst hx
        intro y hy
        have := hl y hy
        rw [litVar_nat] at this
        exact ⟨(hf y hy).1, by omega⟩
    · rw [step_del h0]
      exact fun x hx => hs.ten x (List.mem_filter.1 hx).1
  · rcases hk hmay with rfl | rfl
    · obtain ⟨_, _, _, e⟩ := step_add h0
      rw [e]
      intro x hx
      rcases List.mem_append.1 hx with hx | hx
      · exact hs.ids x hx
      · rw [List.mem_singleton] at hx
        subst hx
        exact hid
    · rw [step_del h0]
      exact fun x hx => hs.ids x (List.mem_filter.1 hx).1
theorem SInv.not {s : Chs} {N : Nat} {has : Bool} {kind id : Int} {lits hints : List Int} (hs : SInv s N has) (h0 : (s.step (mayOf kind id lits hints) kind id lits hints).1 ≠ 0) : SInv (s.step (mayOf kind id lits hints) kind id lits hints).2 (N + 1) has := by
  rw [step_not h0]
  exact ⟨⟨hs.r6.rise, hs.r6.fine, by have := hs.r6.len; omega, Nat.le_trans hs.r6.tot (Nat.mul_le_mul_right _ (Nat.le_succ _))⟩, hs.ten, hs.ids, hs.mod, hs.ovr⟩
theorem SInv.start {n : Nat} {cs : List (List Int)} (hr : rightOf n cs = 0) (hn : n ≤ 8) (hcl : cs.length ≤ 60) (hd : done cs cs.length ≤ 1500) : SInv (Chk.start cs ⟨[], 0, false⟩ 1) 60 (hasMod n cs) := by
  have hlit := (right_lits hr).2
  have hri : Right6 0 (Chk.start cs ⟨[], 0, false⟩ 1) (0 + cs.length) := begun_right cs _ _ 0 ⟨⟨.nil, fun e he => by cases he⟩, (fun e he => by cases he), Nat.le_refl _, Nat.le_refl _⟩ (fun c hm => ⟨right_fine hr c hm, by have := done_mem hm; omega⟩) (by decide) (by decide)
  have hla := begun_last cs ⟨[], 0, false⟩ 1 (by decide)
  refine ⟨⟨hri.rise, hri.fine, by have := hri.len; omega, Nat.le_trans hri.tot (Nat.mul_le_mul_right _ (by omega))⟩, fun e he x hx => ?_, fun e he => ?_, fun q => ?_, start_ends⟩
  · rcases (start_es cs ⟨[], 0, false⟩ 1).1 e he with q | q
    · cases q
    · have := hlit _ q x hx
      exact ⟨this.1, by omega⟩
  · have := hri.rise.2 e he
    exact wf_i64 this.2 (by omega)
  · obtain ⟨m, hm⟩ := (hasMod_iff fun c hc x hx => ⟨(hlit c hc x hx).1, by have := (hlit c hc x hx).2; omega⟩).1 q
    exact ⟨m, start_all.2 hm⟩

set_option maxHeartbeats 8000000 in
theorem sound_ok {h : Heap} {vars : Int} {cv sv : V} {cs : List (List Int)} {l : List StV} (hc : Cls h cv cs) (hs : Stps h sv l) (hx : ∀ c ∈ cs, ∀ x ∈ c, I32ok x) (hxl : ∀ s ∈ l, ∀ x ∈ s.s.lits, I32ok x) (hids : ∀ s ∈ l, (Lit.int .i64 s.s.id).wf = true) :
    EvCall xprog H0 6 [.agg [.int .i64 vars, cv], sv] h fun v h' => v = .bool true ∧ Ext h h' := by
  refine s_call (fn := xf6) rfl (free _ rfl ..) ?_
  generalize hH1 : newCells h [.int .i64 vars, cv] 1 false = H1
  have x1 : Ext h H1 := hH1 ▸ Ext.new ..
  have g1 : H1.get h.next = some (arr [.int .i64 vars, cv] 1 false) := by rw [← hH1]; exact get_new ..
  have hlt1 : h.next < H1.next := by rw [← hH1]; simp
  have rA : ∀ {g}, Ext H1 g → readCells g h.next 0 0 2 = some [.int .i64 vars, cv] ∧ readCells g h.next 0 0 1 = some [.int .i64 vars] ∧ readCells g h.next 0 1 1 = some [cv] := fun x =>
    have q := (x.get h.next hlt1).trans g1
    ⟨readCells_arr q (by simp), readCell (off := 0) q rfl, readCell (off := 1) q rfl⟩
  obtain ⟨rA0, rA1, rA2⟩ := rA (Ext.refl H1)
  obtain ⟨vs, hs1, hvl, _⟩ := id hc
  have ecv := hs1.len
  have ercv := hs1.row
  rw [hvl] at ecv
  clear hs1 hvl
  have el := hs.len
  have er := hs.sl.row
  have hla := large2_ok (vars := vars) (hc.ext x1) (hs.ext x1)
  simp -implicitDefEqProofs only [xf6, argsFrom_cons, argsFrom_nil]
  refine s_cut2 (fun t d g' => slotOf t 2 = .ptr h.next 0 0 ∧ slotOf t 1 = sv ∧ d = [] ∧ Ext H1 g' ∧ vars ≤ 8 ∧ cs.length ≤ 60 ∧ done cs cs.length ≤ 1500 ∧ l.length ≤ 60 ∧ (∀ s ∈ l, s.s.lits.length ≤ 1500 ∧ s.s.hints.length ≤ 1500) ∧ ∀ s ∈ l, ∀ x ∈ s.s.lits, litVar x ≤ 10) ?_ ?_
  · repeat' ((first | refine s_line rfl ?_ | refine s_end rfl ?_ | refine s_seq ?_ | refine s_region ?_ | refine s_block ?_ | refine s_cond ?_ | refine s_ret ?_ | refine s_skip ?_ | refine s_exit ?_ | refine s_if (fun hif => ?_) (fun hif => ?_) | refine condB_dec (fun hif => ?_) (fun hif => ?_) | refine condB_of (fun hif => ?_) (fun hif => ?_) | (refine s_lelt ?_ ?_; omega) | (refine s_lt ?_ ?_; omega) | (refine s_le ?_ ?_; omega) | ((refine evApply_call hla ?_; rintro _ g2 ⟨⟨bl, rfl, hbl⟩, x2⟩; obtain ⟨rB0, rB1, rB2⟩ := rA x2; cases bl)) | ((refine evApply_call (works_ok _) ?_; rintro _ gw ⟨rfl, xw⟩)) | ((refine evApply_call (small_ok (vars := vars) (cv := cv) (hs.ext (x1.trans x2)) (by have := (hbl rfl).2.2.1; omega) (fun s hm => by have := (hbl rfl).2.2.2 s hm; omega) hxl) ?_; rintro _ g3 ⟨⟨bs, rfl, hbs⟩, x3⟩; obtain ⟨rC0, rC1, rC2⟩ := rA (x2.trans x3); cases bs))) <;>
      (try simp -implicitDefEqProofs (disch := first | assumption | omega) only [sx, sb, sd, se, xwpStep, xwpOp, xwpInt, opEv, xres, oneOf, Nat.reduceAdd, Nat.reduceEqDiff, Nat.reduceSub, ↓reduceIte, reduceCtorEq, wrap_i64, Nat.zero_add, Nat.add_zero, *]))
    · exact x1.trans (x2.trans (x3.trans xw))
    · exact x1.trans (x2.trans (x3.trans xw))
    · exact x1.trans (x2.trans (x3.trans xw))
    · have hb := hbl rfl
      have hb2 := hbs rfl
      exact ⟨x2.trans x3, by omega, by omega, by omega, by omega, hb.2.2.2, hb2.2⟩
    · exact x1.trans (x2.trans xw)
  clear rA0 rA1 rA2 hla
  rintro t d g ⟨a2, a1, rfl, xg, hv8, hc60, hdn, hl60, hll', hl10'⟩
  have hll : Kept (∀ s ∈ l, s.s.lits.length ≤ 1500 ∧ s.s.hints.length ≤ 1500) := hll'
  have hl10 : Kept (∀ s ∈ l, ∀ x ∈ s.s.lits, litVar x ≤ 10) := hl10'
  have hidk : Kept (∀ s ∈ l, (Lit.int .i64 s.s.id).wf = true) := hids
  clear hll' hl10' hids hxl
  obtain ⟨rA0, rA1, rA2⟩ := rA xg
  have hnew := New_ok (vars := vars) ((hc.ext x1).ext xg) hx (by omega) (by omega)
  by_cases hr : rightOf vars cs = 0
  · obtain ⟨n, rfl⟩ : ∃ n : Nat, vars = n := ⟨vars.toNat, by have := (right_lits hr).1; omega⟩
    have hinv := SInv.start hr (by omega) hc60 hdn
    generalize Chk.start cs ⟨[], 0, false⟩ 1 = s0 at *
    have hnew : EvCall xprog H0 13 [.agg [.int .i64 n, cv]] g fun v h' => (∃ o b, v = .tup [.ptr o 0 0, .int .i64 0] ∧ g.next ≤ b ∧ ChkP b h' o s0.es s0.last s0.over []) ∧ Ext g h' := hnew.mono fun v g ⟨q1, q2⟩ => ⟨q1.elim (fun q => absurd hr q.1) fun q => q.2, q2⟩
    have hfi : ∀ {g2}, Ext H1 g2 → EvCall xprog H0 24 [.agg [.int .i64 n, cv]] g2 fun v h' => (∃ mv, v = .tup [mv, .bool (hasMod n cs), .int .i64 0]) ∧ Ext g2 h' := fun x => Find_ok ((hc.ext x1).ext x) hx (by omega) (by omega) (by omega) hr
    generalize hasMod n cs = has at *
    refine s_cut2 (fun t d g' => slotOf t 2 = .ptr h.next 0 0 ∧ slotOf t 1 = sv ∧ d = [] ∧ ∃ o b, slotOf t 5 = .ptr o 0 0 ∧ g.next ≤ b ∧ Ext g g' ∧ ChkP b g' o s0.es s0.last s0.over []) ?_ ?_
    · repeat' ((first | refine s_line rfl ?_ | refine s_end rfl ?_ | refine s_seq ?_ | refine s_region ?_ | refine s_block ?_ | refine s_cond ?_ | refine s_ret ?_ | refine s_skip ?_ | refine s_exit ?_ | refine s_if (fun hif => ?_) (fun hif => ?_) | refine condB_dec (fun hif => ?_) (fun hif => ?_) | refine condB_of (fun hif => ?_) (fun hif => ?_) | (refine s_lelt ?_ ?_; omega) | (refine s_lt ?_ ?_; omega) | (refine s_le ?_ ?_; omega) | ((refine evApply_call hnew ?_; rintro _ g3 ⟨⟨o, b, rfl, hbb, k1⟩, x3⟩))) <;>
        (try simp -implicitDefEqProofs (disch := first | assumption | omega) only [sx, sb, sd, se, xwpStep, xwpOp, xwpInt, opEv, xres, oneOf, Nat.reduceAdd, Nat.reduceEqDiff, Nat.reduceSub, ↓reduceIte, reduceCtorEq, wrap_i64, Nat.zero_add, Nat.add_zero, List.getElem?_cons_zero, List.getElem?_cons_succ, *]))
      exact ⟨o, b, rfl, hbb, k1⟩
    clear hnew a1 a2 t rA0 rA1 rA2
    rintro t d g2 ⟨a2, a1, rfl, o, b, a5, hbb, x2, k1⟩
    have xg2 := xg.trans x2
    obtain ⟨rA0, rA1, rA2⟩ := rA xg2
    refine s_cut2 (fun t d g' => slotOf t 2 = .ptr h.next 0 0 ∧ slotOf t 1 = sv ∧ slotOf t 5 = .ptr o 0 0 ∧ slotOf t 8 = .bool has ∧ d = [] ∧ Ext g2 g') ?_ ?_
    · repeat' ((first | refine s_line rfl ?_ | refine s_end rfl ?_ | refine s_seq ?_ | refine s_region ?_ | refine s_block ?_ | refine s_cond ?_ | refine s_ret ?_ | refine s_skip ?_ | refine s_exit ?_ | refine s_if (fun hif => ?_) (fun hif => ?_) | refine condB_dec (fun hif => ?_) (fun hif => ?_) | refine condB_of (fun hif => ?_) (fun hif => ?_) | (refine s_lelt ?_ ?_; omega) | (refine s_lt ?_ ?_; omega) | (refine s_le ?_ ?_; omega) | ((refine evApply_call (hfi xg2) ?_; rintro _ g3 ⟨⟨mv, rfl⟩, x3⟩))) <;>
        (try simp -implicitDefEqProofs (disch := first | assumption | omega) only [sx, sb, sd, se, xwpStep, xwpOp, xwpInt, opEv, xres, oneOf, Nat.reduceAdd, Nat.reduceEqDiff, Nat.reduceSub, ↓reduceIte, reduceCtorEq, wrap_i64, Nat.zero_add, Nat.add_zero, List.getElem?_cons_zero, List.getElem?_cons_succ, *]))
    clear hfi a1 a2 a5 t rA0 rA1 rA2
    rintro t d g3 ⟨a2, a1, a5, a8, rfl, x3⟩
    have k1 := k1.ext x3
    have xg3 := xg2.trans x3
    have hbH : H1.next ≤ b := Nat.le_trans xg.next hbb
    clear xg x2 xg2 x3 hbb
    repeat' ((first | refine s_line rfl ?_ | refine s_end rfl ?_ | refine s_seq ?_ | refine s_region ?_ | refine s_block ?_ | refine s_cond ?_ | refine s_ret ?_ | refine s_skip ?_ | refine s_exit ?_ | refine s_if (fun hif => ?_) (fun hif => ?_) | refine condB_dec (fun hif => ?_) (fun hif => ?_) | refine condB_of (fun hif => ?_) (fun hif => ?_) | (refine s_lelt ?_ ?_; omega) | (refine s_lt ?_ ?_; omega) | (refine s_le ?_ ?_; omega)) <;>
      (try simp -implicitDefEqProofs (disch := first | assumption | omega) only [sx, sb, sd, se, xwpStep, xwpOp, xwpInt, opEv, xres, oneOf, Nat.reduceAdd, Nat.reduceEqDiff, Nat.reduceSub, ↓reduceIte, reduceCtorEq, wrap_i64, *]))
    refine s_while (fun w t d g => ∃ (i : Nat) (s : Chs), i + w = l.length ∧ slotOf t 10 = .int .i64 i ∧ slotOf t 5 = .ptr o 0 0 ∧ slotOf t 2 = .ptr h.next 0 0 ∧ slotOf t 1 = sv ∧ slotOf t 8 = .bool has ∧ d = [] ∧ Ext H1 g ∧ ChkP b g o s.es s.last s.over [] ∧ SInv s (60 + i) has) (fun _ _ _ => free_code ..) l.length ⟨0, s0, by omega, by simp [slotOf_set], by simp [slotOf_set, a5], by simp [slotOf_set, a2], by simp [slotOf_set, a1], by simp [slotOf_set, a8], rfl, xg3, k1, hinv⟩ ?_
    clear a1 a2 a5 a8 t k1 xg3 hinv
    rintro w t d g ⟨i, s, b1, a10, a5, a2, a1, a8, rfl, xg, k1, k2⟩
    have hten := k2.ten
    have hlen := k2.r6.len
    have htot := k2.r6.tot
    have hfl : ∀ e ∈ s.es, e.2.length ≤ 1000000 := fun e he => by have := (k2.r6.fine e he).2; omega
    have hst : EvCall xprog H0 25 [.ptr o 0 0] g fun v h' => (∃ cv, v = .agg [.int .i64 10, cv] ∧ ClsB g.next h' cv (s.es.map Prod.snd)) ∧ Ext g h' := stands_ok k1 k2.r6.rise k2.ids (by omega) hfl
    have hfind : ∀ {g2 cv'}, Cls g2 cv' (s.es.map Prod.snd) → EvCall xprog H0 24 [.agg [.int .i64 10, cv']] g2 fun v h' => (∃ mv, v = .tup [mv, .bool (hasMod 10 (s.es.map Prod.snd)), .int .i64 0]) ∧ Ext g2 h' := fun hc => Find_ok (n := 10) hc (fun c hm x hx => by have := hten.cls c hm x hx; exact ⟨by omega, by omega⟩) (by rw [done_total]; omega) (by rw [List.length_map]; omega) (by decide) (right_ten hten.cls)
    have hmod := hasMod_es hten
    clear hfl
    generalize hasMod 10 (s.es.map Prod.snd) = st at *
    refine s_cut1 (fun t d g1 => slotOf t 10 = .int .i64 i ∧ slotOf t 5 = .ptr o 0 0 ∧ slotOf t 2 = .ptr h.next 0 0 ∧ slotOf t 1 = sv ∧ slotOf t 8 = .bool has ∧ d = [] ∧ g1 = g ∧ i < l.length) ?_ ?_
    · have hhs : has = true → st = true := fun q => hmod.2 (k2.mod q)
      clear hmod
      cases has
      · repeat' ((first | refine s_line rfl ?_ | refine s_end rfl ?_ | refine s_seq ?_ | refine s_region ?_ | refine s_block ?_ | refine s_cond ?_ | refine s_ret ?_ | refine s_skip ?_ | refine s_exit ?_ | refine s_if (fun hif => ?_) (fun hif => ?_) | refine condB_dec (fun hif => ?_) (fun hif => ?_) | refine condB_of (fun hif => ?_) (fun hif => ?_) | (refine s_lelt ?_ ?_; omega) | (refine s_lt ?_ ?_; omega) | (refine s_le ?_ ?_; omega) | ((refine evApply_call hst ?_; rintro _ g2 ⟨⟨cv', rfl, hcb⟩, x2⟩)) | ((refine evApply_call (hfind hcb.cls) ?_; rintro _ g3 ⟨⟨mv, rfl⟩, x3⟩)) | ((refine evApply_call (works_ok _) ?_; rintro _ gw ⟨rfl, xw⟩))) <;>
          (try simp -implicitDefEqProofs (disch := first | assumption | omega) only [sx, sb, sd, se, xwpStep, xwpOp, xwpInt, opEv, xres, oneOf, Nat.reduceAdd, Nat.reduceEqDiff, Nat.reduceSub, ↓reduceIte, reduceCtorEq, wrap_i64, Nat.zero_add, Nat.add_zero, Int.toNat_natCast, List.getElem?_cons_zero, List.getElem?_cons_succ, *]))
        · omega
        · exact x1.trans (xg.trans (x2.trans (x3.trans xw)))
      · have := hhs rfl
        subst this
        repeat' ((first | refine s_line rfl ?_ | refine s_end rfl ?_ | refine s_seq ?_ | refine s_region ?_ | refine s_block ?_ | refine s_cond ?_ | refine s_ret ?_ | refine s_skip ?_ | refine s_exit ?_ | refine s_if (fun hif => ?_) (fun hif => ?_) | refine condB_dec (fun hif => ?_) (fun hif => ?_) | refine condB_of (fun hif => ?_) (fun hif => ?_) | (refine s_lelt ?_ ?_; omega) | (refine s_lt ?_ ?_; omega) | (refine s_le ?_ ?_; omega) | ((refine evApply_call hst ?_; rintro _ g2 ⟨⟨cv', rfl, hcb⟩, x2⟩)) | ((refine evApply_call (hfind hcb.cls) ?_; rintro _ g3 ⟨⟨mv, rfl⟩, x3⟩)) | ((refine evApply_call (works_ok _) ?_; rintro _ gw ⟨rfl, xw⟩))) <;>
          (try simp -implicitDefEqProofs (disch := first | assumption | omega) only [sx, sb, sd, se, xwpStep, xwpOp, xwpInt, opEv, xres, oneOf, Nat.reduceAdd, Nat.reduceEqDiff, Nat.reduceSub, ↓reduceIte, reduceCtorEq, wrap_i64, Nat.zero_add, Nat.add_zero, Int.toNat_natCast, List.getElem?_cons_zero, List.getElem?_cons_succ, *]))
        · omega
        · exact x1.trans (xg.trans (x2.trans (x3.trans xw)))
    clear a1 a2 a5 a8 a10 t
    rintro t d g ⟨a10, a5, a2, a1, a8, rfl, rfl, hi⟩
    refine s_seq ?_
    refine s_block ?_
    refine s_cut1 (fun t d g1 => slotOf t 10 = .int .i64 i ∧ slotOf t 5 = .ptr o 0 0 ∧ slotOf t 2 = .ptr h.next 0 0 ∧ slotOf t 1 = sv ∧ slotOf t 8 = .bool has ∧ d = [] ∧ ∃ p cv', slotOf t 11 = .ptr p 0 0 ∧ Ext g g1 ∧ p < g1.next ∧ g.next ≤ p ∧ g1.get p = some (arr [.int .i64 10, cv'] 1 false) ∧ ClsB g.next g1 cv' (s.es.map Prod.snd)) ?_ ?_
    · repeat' ((first | refine s_line rfl ?_ | refine s_end rfl ?_ | refine s_seq ?_ | refine s_region ?_ | refine s_block ?_ | refine s_cond ?_ | refine s_ret ?_ | refine s_skip ?_ | refine s_exit ?_ | refine s_if (fun hif => ?_) (fun hif => ?_) | refine condB_dec (fun hif => ?_) (fun hif => ?_) | refine condB_of (fun hif => ?_) (fun hif => ?_) | (refine s_lelt ?_ ?_; omega) | (refine s_lt ?_ ?_; omega) | (refine s_le ?_ ?_; omega) | ((refine evApply_call hst ?_; rintro _ g2 ⟨⟨cv', rfl, hcb⟩, x2⟩)) | ((refine ⟨_, writeAll (o := g2.next) (cs := [.int .i64 0, .nils]) (get_new ..) rfl (by rw [List.all_cons, List.all_cons, one_row hcb.row]; rfl), ?_⟩))) <;>
        (try simp -implicitDefEqProofs (disch := first | assumption | omega) only [sx, sb, sd, se, xwpStep, xwpOp, xwpInt, opEv, xres, oneOf, Nat.reduceAdd, Nat.reduceEqDiff, Nat.reduceSub, ↓reduceIte, reduceCtorEq, wrap_i64, Nat.zero_add, Nat.add_zero, cellsOf_slice, List.length_cons, List.length_nil, List.getElem?_cons_zero, List.getElem?_cons_succ, *]))
      have hp : ∀ x, x < g2.next → ((newCells g2 [.int .i64 0, .nils] 1 false).put g2.next (arr [.int .i64 10, cv'] 1 false)).get x = g2.get x := fun x q => by
        rw [Heap.get_put, if_neg (by omega)]
        exact (Ext.new ..).get x q
      have xp : Ext g2 ((newCells g2 [.int .i64 0, .nils] 1 false).put g2.next (arr [.int .i64 10, cv'] 1 false)) := (Ext.new ..).put _ (Nat.le_refl _)
      exact ⟨g2.next, cv', rfl, x2.trans xp, Nat.lt_succ_self _, x2.next, by rw [Heap.get_put, if_pos rfl], hcb.ext xp⟩
    clear a1 a2 a5 a8 a10 t hst
    rintro t d g1 ⟨a10, a5, a2, a1, a8, rfl, p, cv', a11, x2, hp1, hp2, gp, hcb⟩
    have xg1 := xg.trans x2
    have k3 := k1.ext x2
    have hm := List.getElem_mem hi
    have hq := (show ∀ s ∈ l, s.s.lits.length ≤ 1500 ∧ s.s.hints.length ≤ 1500 from hll) _ hm
    have hsi := k2.ok (kind := (l[i]).s.kind) (id := (l[i]).s.id) (lits := (l[i]).s.lits) (hints := (l[i]).s.hints) ((show ∀ s ∈ l, ∀ x ∈ s.s.lits, litVar x ≤ 10 from hl10) _ hm) ((show ∀ s ∈ l, (Lit.int .i64 s.s.id).wf = true from hidk) _ hm) (by omega)
    have hsn := k2.not (kind := (l[i]).s.kind) (id := (l[i]).s.id) (lits := (l[i]).s.lits) (hints := (l[i]).s.hints)
    have rs : readCells g1 (objS sv) (genS sv) (offS sv + i * 4) 4 = some [.int .u8 (l[i]).s.kind, .int .i64 (l[i]).s.id, (l[i]).lv, (l[i]).hv] := (hs.ext (x1.trans xg1)).elem hi
    have rs0 : ∀ {g2}, Ext H1 g2 → readCells g2 (objS sv) (genS sv) (offS sv + i * 4) 1 = some [.int .u8 (l[i]).s.kind] ∧ readCells g2 (objS sv) (genS sv) (offS sv + i * 4 + 3) 1 = some [(l[i]).hv] := fun x => ⟨(hs.ext (x1.trans x)).at (j := 0) hi rfl, (hs.ext (x1.trans x)).at (j := 3) hi rfl⟩
    have hstep := Step_ok (b := b) (h0 := H1) (kind := (l[i]).s.kind) (id := (l[i]).s.id) k3 (N := 60 + i) ⟨k2.r6.rise, k2.r6.fine, k2.r6.len, k2.r6.tot⟩ (by omega) xg1 hbH (slo_of k3 xg1 hbH ((hs.lits _ hm).sl.ext x1)) ((hs.hints _ hm).ext x1) (by omega) (by omega)
    have hpl : ∀ {g2}, Ext H1 g2 → EvCall xprog H0 12 [(l[i]).hv] g2 fun v h' => v = .bool ((l[i]).s.hints.all fun x => decide (0 ≤ x)) ∧ h' = g2 := fun x => plain_ok (((hs.hints _ hm).sl.ext x1).ext x) (by omega)
    have hlh : lenS (l[i]).hv = (l[i]).s.hints.length := by rw [(hs.hints _ hm).sl.len, List.length_map]
    have hrh : rowS (l[i]).hv = true := (hs.hints _ hm).sl.row
    generalize l[i] = sp at *
    generalize (sp.s.hints.all fun x => decide (0 ≤ x)) = pb at *
    generalize hS : s.step (mayOf sp.s.kind sp.s.id sp.s.lits sp.s.hints) sp.s.kind sp.s.id sp.s.lits sp.s.hints = S at *
    refine s_cut1 (fun t d g2 => slotOf t 10 = .int .i64 i ∧ slotOf t 5 = .ptr o 0 0 ∧ slotOf t 2 = .ptr h.next 0 0 ∧ slotOf t 1 = sv ∧ slotOf t 8 = .bool has ∧ slotOf t 11 = .ptr p 0 0 ∧ d = [] ∧ Chg o g1 g2 ∧ ChkP b g2 o S.2.es S.2.last S.2.over [] ∧ S.1 = 0) ?_ ?_
    · repeat' ((first | refine s_line rfl ?_ | refine s_end rfl ?_ | refine s_seq ?_ | refine s_region ?_ | refine s_block ?_ | refine s_cond ?_ | refine s_ret ?_ | refine s_skip ?_ | refine s_exit ?_ | refine s_if (fun hif => ?_) (fun hif => ?_) | refine condB_dec (fun hif => ?_) (fun hif => ?_) | refine condB_of (fun hif => ?_) (fun hif => ?_) | (refine s_lelt ?_ ?_; omega) | (refine s_lt ?_ ?_; omega) | (refine s_le ?_ ?_; omega) | ((refine evApply_call hstep ?_; rintro _ g2 ⟨rfl, k4, c4⟩))) <;>
        (try simp -implicitDefEqProofs (disch := first | assumption | omega) only [sx, sb, sd, se, xwpStep, xwpOp, xwpInt, opEv, xres, oneOf, Nat.reduceAdd, Nat.reduceEqDiff, Nat.reduceSub, ↓reduceIte, reduceCtorEq, wrap_i64, Nat.zero_add, Nat.add_zero, Int.toNat_natCast, *]))
      · exact ⟨w - 1, by omega, i + 1, S.2, by omega, by simp, xg1.butI (chg_but k3 c4) fun o ho q => by omega, k4, hsn (by simpa using hif)⟩
      · simpa using hif
    clear a1 a2 a5 a8 a10 a11 t hsn rs hstep
    rintro t d g2 ⟨a10, a5, a2, a1, a8, a11, rfl, c4, k4, hS0⟩
    obtain ⟨hs1, hs2⟩ := hsi hS0
    have xg2 : Ext H1 g2 := xg1.butI (chg_but k3 c4) fun o ho q => by omega
    obtain ⟨rs1, rs2⟩ := rs0 xg2
    have hmp : ∀ x, Mut g1 o x → x < g.next := fun x q => k1.lt.2 x ((Mut.ext x2 k1.lt.1).1 q)
    have gp2 : g2.get p = some (arr [.int .i64 10, cv'] 1 false) := (c4.but.get p hp1 fun q => by have := hmp p q; omega).trans gp
    have rp : readCells g2 p 0 0 2 = some [.int .i64 10, cv'] := readCells_arr gp2 (by simp)
    have hcb2 := (hcb.chg c4 hmp).cls
    clear hcb gp rs0
    cases hov : S.2.over with
    | true =>
      have hnm := hs1 hov
      have hhf : has = false := by
        cases hh : has with
        | false => rfl
        | true => exact absurd (k2.mod hh) hnm
      have hsf : st = false := by
        cases hh : st with
        | false => rfl
        | true => exact absurd (hmod.1 hh) hnm
      subst hhf hsf
      rw [hov] at k4
      clear hmod hs2 hs1
      repeat' ((first | refine s_line rfl ?_ | refine s_end rfl ?_ | refine s_seq ?_ | refine s_region ?_ | refine s_block ?_ | refine s_cond ?_ | refine s_ret ?_ | refine s_skip ?_ | refine s_exit ?_ | refine s_if (fun hif => ?_) (fun hif => ?_) | refine condB_dec (fun hif => ?_) (fun hif => ?_) | refine condB_of (fun hif => ?_) (fun hif => ?_) | (refine s_lelt ?_ ?_; omega) | (refine s_lt ?_ ?_; omega) | (refine s_le ?_ ?_; omega) | ((refine (evCall_iff (hpl xg2)).2 ?_)) | ((refine (evCall_iff (Done_ok k4)).2 ?_)) | ((refine evApply_call (hfind hcb2) ?_; rintro _ g3 ⟨⟨mv, rfl⟩, x3⟩; have k5 := k4.ext x3)) | ((refine (evCall_iff (Done_ok k5)).2 ?_)) | ((refine evApply_call (works_ok _) ?_; rintro _ gw ⟨rfl, xw⟩))) <;>
        (try simp -implicitDefEqProofs (disch := first | assumption | omega) only [sx, sb, sd, se, xwpStep, xwpOp, xwpInt, opEv, xres, oneOf, Nat.reduceAdd, Nat.reduceEqDiff, Nat.reduceSub, ↓reduceIte, reduceCtorEq, wrap_i64, Nat.zero_add, Nat.add_zero, Int.toNat_natCast, List.getElem?_cons_zero, List.getElem?_cons_succ, *]))
      · exact x1.trans (xg2.trans (x3.trans xw))
      all_goals exact x1.trans (xg2.trans xw)
    | false =>
      have hs3 := hs2 hov
      rw [hov] at k4
      repeat' ((first | refine s_line rfl ?_ | refine s_end rfl ?_ | refine s_seq ?_ | refine s_region ?_ | refine s_block ?_ | refine s_cond ?_ | refine s_ret ?_ | refine s_skip ?_ | refine s_exit ?_ | refine s_if (fun hif => ?_) (fun hif => ?_) | refine condB_dec (fun hif => ?_) (fun hif => ?_) | refine condB_of (fun hif => ?_) (fun hif => ?_) | (refine s_lelt ?_ ?_; omega) | (refine s_lt ?_ ?_; omega) | (refine s_le ?_ ?_; omega) | ((refine (evCall_iff (hpl xg2)).2 ?_)) | ((refine (evCall_iff (Done_ok k4)).2 ?_))) <;>
        (try simp -implicitDefEqProofs (disch := first | assumption | omega) only [sx, sb, sd, se, xwpStep, xwpOp, xwpInt, opEv, xres, oneOf, Nat.reduceAdd, Nat.reduceEqDiff, Nat.reduceSub, ↓reduceIte, reduceCtorEq, wrap_i64, Nat.zero_add, Nat.add_zero, Int.toNat_natCast, List.getElem?_cons_zero, List.getElem?_cons_succ, *]))
      all_goals exact ⟨w - 1, by omega, i + 1, S.2, by omega, by simp, by rw [hov]; exact k4, hs3⟩
  · repeat' ((first | refine s_line rfl ?_ | refine s_end rfl ?_ | refine s_seq ?_ | refine s_region ?_ | refine s_block ?_ | refine s_cond ?_ | refine s_ret ?_ | refine s_skip ?_ | refine s_exit ?_ | refine s_if (fun hif => ?_) (fun hif => ?_) | refine condB_dec (fun hif => ?_) (fun hif => ?_) | refine condB_of (fun hif => ?_) (fun hif => ?_) | (refine s_lelt ?_ ?_; omega) | (refine s_lt ?_ ?_; omega) | (refine s_le ?_ ?_; omega) | ((refine evApply_call hnew ?_; rintro _ g3 ⟨⟨_, rfl⟩ | ⟨hr2, _⟩, x3⟩; rotate_left; exact absurd hr2 hr)) | ((refine evApply_call (works_ok _) ?_; rintro _ gw ⟨rfl, xw⟩))) <;>
      (try simp -implicitDefEqProofs (disch := first | assumption | omega) only [sx, sb, sd, se, xwpStep, xwpOp, xwpInt, opEv, xres, oneOf, Nat.reduceAdd, Nat.reduceEqDiff, Nat.reduceSub, ↓reduceIte, reduceCtorEq, wrap_i64, Nat.zero_add, Nat.add_zero, List.getElem?_cons_zero, List.getElem?_cons_succ, *]))
    exact x1.trans (xg.trans (x3.trans xw))
end Go.Proofs.Ytmkbnbpblhoekaa
