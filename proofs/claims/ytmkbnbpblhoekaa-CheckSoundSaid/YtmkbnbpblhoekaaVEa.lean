/- The document's answer: has a formula a model? What CheckSound looks at. -/
import Derived.Test.YtmkbnbpblhoekaaVDh
import Derived.Test.YtmkbnbpblhoekaaVCk6
import Derived.Test.YtmkbnbpblhoekaaVCkS
set_option linter.unusedSimpArgs false
set_option linter.unusedVariables false
set_option linter.unusedSectionVars false
namespace Go.Proofs.Ytmkbnbpblhoekaa
open Go.Xr Go.Chk

set_option maxHeartbeats 4000000 in
theorem small_ok {h : Heap} {vars : Int} {cv v : V} {l : List StV} (hs : Stps h v l) (hl : l.length ≤ 1000000) (hll : ∀ s ∈ l, s.s.lits.length ≤ 1000000) (hx : ∀ s ∈ l, ∀ x ∈ s.s.lits, I32ok x) :
    EvCall xprog H0 23 [.agg [.int .i64 vars, cv], v] h fun r h' => (∃ b : Bool, r = .bool b ∧ (b = true → vars ≤ 8 ∧ ∀ s ∈ l, ∀ x ∈ s.s.lits, litVar x ≤ 10)) ∧ Ext h h' := by
  refine s_call (fn := xf23) rfl (free _ rfl ..) ?_
  generalize hH1 : newCells h [.int .i64 vars, cv] 1 false = H1
  have x1 : Ext h H1 := hH1 ▸ Ext.new ..
  have g1 : H1.get h.next = some (arr [.int .i64 vars, cv] 1 false) := by rw [← hH1]; exact get_new ..
  have r0 := readCell (off := 0) g1 rfl
  have hs := hs.ext x1
  have el := hs.len
  have er := hs.sl.row
  clear g1
  simp -implicitDefEqProofs only [xf23, argsFrom_cons, argsFrom_nil]
  repeat' ((first | refine s_line rfl ?_ | refine s_end rfl ?_ | refine s_seq ?_ | refine s_region ?_ | refine s_block ?_ | refine s_cond ?_ | refine s_ret ?_ | refine s_skip ?_ | refine s_exit ?_ | refine s_if (fun hif => ?_) (fun hif => ?_) | refine condB_dec (fun hif => ?_) (fun hif => ?_) | refine condB_of (fun hif => ?_) (fun hif => ?_) | (refine s_lelt ?_ ?_; omega) | (refine s_lt ?_ ?_; omega) | (refine s_le ?_ ?_; omega)) <;>
    (try simp -implicitDefEqProofs (disch := first | assumption | omega) only [sx, sb, sd, se, xwpStep, xwpOp, xwpInt, opEv, xres, oneOf, Nat.reduceAdd, Nat.reduceEqDiff, Nat.reduceSub, ↓reduceIte, reduceCtorEq, wrap_i64, Nat.zero_add, *]))
  refine s_while (fun n t d g => ∃ (i : Nat), i + n = l.length ∧ slotOf t 5 = .int .i64 i ∧ slotOf t 1 = v ∧ slotOf t 2 = .ptr h.next 0 0 ∧ d = [] ∧ g = H1 ∧ ∀ j (hj : j < l.length), j < i → ∀ x ∈ (l[j]).s.lits, litVar x ≤ 10) (fun _ _ _ => free_code ..) l.length ⟨0, by omega, by simp [slotOf_set], by simp [slotOf_set], by simp [slotOf_set], rfl, rfl, fun j _ hj => by omega⟩ ?_
  rintro n t d g ⟨i, a1, a2, a3, a4, rfl, rfl, a5⟩
  refine s_cut1 (fun t d g1 => slotOf t 5 = .int .i64 i ∧ slotOf t 1 = v ∧ slotOf t 2 = .ptr h.next 0 0 ∧ d = [] ∧ g1 = g ∧ i < l.length) ?_ ?_
  · repeat' ((first | refine s_line rfl ?_ | refine s_end rfl ?_ | refine s_seq ?_ | refine s_region ?_ | refine s_block ?_ | refine s_cond ?_ | refine s_ret ?_ | refine s_skip ?_ | refine s_exit ?_ | refine s_if (fun hif => ?_) (fun hif => ?_) | refine condB_dec (fun hif => ?_) (fun hif => ?_) | refine condB_of (fun hif => ?_) (fun hif => ?_) | (refine s_lelt ?_ ?_; omega) | (refine s_lt ?_ ?_; omega) | (refine s_le ?_ ?_; omega)) <;>
      (try simp -implicitDefEqProofs (disch := first | assumption | omega) only [sx, sb, sd, se, xwpStep, xwpOp, xwpInt, opEv, xres, oneOf, Nat.reduceAdd, Nat.reduceEqDiff, Nat.reduceSub, ↓reduceIte, reduceCtorEq, wrap_i64, Nat.zero_add, Nat.add_zero, Int.toNat_natCast, *]))
    · omega
    · refine ⟨_, rfl, fun hb => ⟨of_decide_eq_true hb, fun s hm => ?_⟩⟩
      obtain ⟨j, hj, rfl⟩ := List.getElem_of_mem hm
      exact a5 j hj (by omega)
  clear a2 a3 a4 t
  rintro t d g ⟨a2, a3, a4, rfl, rfl, hi⟩
  have hm := List.getElem_mem hi
  have rl : readCells g (objS v) (genS v) (offS v + i * 4 + 2) 1 = some [(l[i]).lv] := hs.at hi rfl
  have hlit := (hs.lits _ hm).sl
  have hx := hx _ hm
  have hll := hll _ hm
  have ell := hlit.len
  have erl := hlit.row
  simp only [List.length_map] at ell
  have hlast : (∀ x ∈ (l[i]).s.lits, litVar x ≤ 10) → ∀ j (hj : j < l.length), j < i + 1 → ∀ x ∈ (l[j]).s.lits, litVar x ≤ 10 := fun q j hj hlt => by
    rcases Nat.lt_succ_iff_lt_or_eq.1 hlt with h | rfl
    · exact a5 j hj h
    · exact q
  generalize (l[i]).s.lits = xs at *
  generalize (l[i]).lv = lv at *
  clear a5
  repeat' ((first | refine s_line rfl ?_ | refine s_end rfl ?_ | refine s_seq ?_ | refine s_region ?_ | refine s_block ?_ | refine s_cond ?_ | refine s_ret ?_ | refine s_skip ?_ | refine s_exit ?_ | refine s_if (fun hif => ?_) (fun hif => ?_) | refine condB_dec (fun hif => ?_) (fun hif => ?_) | refine condB_of (fun hif => ?_) (fun hif => ?_) | (refine s_lelt ?_ ?_; omega) | (refine s_lt ?_ ?_; omega) | (refine s_le ?_ ?_; omega)) <;>
    (try simp -implicitDefEqProofs (disch := first | assumption | omega) only [sx, sb, sd, se, xwpStep, xwpOp, xwpInt, opEv, xres, oneOf, Nat.reduceAdd, Nat.reduceEqDiff, Nat.reduceSub, ↓reduceIte, reduceCtorEq, wrap_i64, Nat.zero_add, Nat.add_zero, Int.toNat_natCast, *]))
  refine s_while (fun m t d g1 => ∃ k : Nat, k + m = xs.length ∧ slotOf t 6 = .int .i64 k ∧ slotOf t 5 = .int .i64 i ∧ slotOf t 1 = v ∧ slotOf t 2 = .ptr h.next 0 0 ∧ d = [] ∧ g1 = g ∧ ∀ j (hj : j < xs.length), j < k → litVar xs[j] ≤ 10) (fun _ _ _ => free_code ..) xs.length ⟨0, by omega, by simp [slotOf_set], by simp [slotOf_set, a2], by simp [slotOf_set, a3], by simp [slotOf_set, a4], rfl, rfl, fun j _ hj => by omega⟩ ?_
  clear a2 a3 a4 t
  rintro m t d g ⟨k, b1, b2, a2, a3, a4, rfl, rfl, b5⟩
  have rx : ∀ (hk : k < xs.length), readCells g (objS lv) (genS lv) (offS lv + k) 1 = some [.int .i32 (xs[k])] := fun hk => Sl.lit hlit hk
  have ht : ∀ (hk : k < xs.length), EvCall xprog H0 36 [.int .i32 (xs[k])] g fun v h2 => v = .int .i64 (litVar xs[k]) ∧ h2 = g := fun hk => rVar_ok _ (hx _ (List.getElem_mem hk)).1 (hx _ (List.getElem_mem hk)).2 g
  repeat' ((first | refine s_line rfl ?_ | refine s_end rfl ?_ | refine s_seq ?_ | refine s_region ?_ | refine s_block ?_ | refine s_cond ?_ | refine s_ret ?_ | refine s_skip ?_ | refine s_exit ?_ | refine s_if (fun hif => ?_) (fun hif => ?_) | refine condB_dec (fun hif => ?_) (fun hif => ?_) | refine condB_of (fun hif => ?_) (fun hif => ?_) | (refine s_lelt ?_ ?_; omega) | (refine s_lt ?_ ?_; omega) | (refine s_le ?_ ?_; omega) | (refine (evCall_iff (ht (by omega))).2 ?_)) <;>
    (try simp -implicitDefEqProofs (disch := first | assumption | omega) only [sx, sb, sd, se, xwpStep, xwpOp, xwpInt, opEv, xres, oneOf, Nat.reduceAdd, Nat.reduceEqDiff, Nat.reduceSub, ↓reduceIte, reduceCtorEq, wrap_i64, Nat.zero_add, Nat.add_zero, Int.toNat_natCast, *]))
  · exact ⟨false, rfl, fun e => by cases e⟩
  · refine ⟨m - 1, by omega, k + 1, by omega, by simp, fun j hj hlt => ?_⟩
    rcases Nat.lt_succ_iff_lt_or_eq.1 hlt with h | rfl
    · exact b5 j hj h
    · omega
  · refine ⟨n - 1, by omega, i + 1, by omega, by simp, hlast fun x hm => ?_⟩
    obtain ⟨j, hj, rfl⟩ := List.getElem_of_mem hm
    exact b5 j hj (by omega)

theorem Taken_ok {h : Heap} {vars : Int} {cv : V} {cs : List (List Int)} (hc : Cls h cv cs) (hx : ∀ c ∈ cs, ∀ x ∈ c, I32ok x) (hb : done cs cs.length ≤ 1000000) (hcl : cs.length ≤ 1000000) (hv : vars ≤ 16) :
    EvCall xprog H0 40 [.agg [.int .i64 vars, cv]] h fun v h' => v = .int .i64 (rightOf vars cs) ∧ Ext h h' := by
  refine s_call (fn := xf40) rfl (free _ rfl ..) ?_
  generalize hH1 : newCells h [.int .i64 vars, cv] 1 false = H1
  have x1 : Ext h H1 := hH1 ▸ Ext.new ..
  have g1 : H1.get h.next = some (arr [.int .i64 vars, cv] 1 false) := by rw [← hH1]; exact get_new ..
  have hlt1 : h.next < H1.next := by rw [← hH1]; simp
  have rA : readCells H1 h.next 0 0 2 = some [.int .i64 vars, cv] := readCells_arr g1 (by simp)
  have r0 : ∀ {g}, Ext H1 g → readCells g h.next 0 0 1 = some [.int .i64 vars] := fun x => readCell (off := 0) ((x.get h.next hlt1).trans g1) rfl
  have hr := rRight_ok (vars := vars) (hc.ext x1) hx hb hcl
  simp -implicitDefEqProofs only [xf40, argsFrom_cons, argsFrom_nil]
  repeat' ((first | refine s_line rfl ?_ | refine s_end rfl ?_ | refine s_seq ?_ | refine s_region ?_ | refine s_block ?_ | refine s_cond ?_ | refine s_ret ?_ | refine s_skip ?_ | refine s_exit ?_ | refine s_if (fun hif => ?_) (fun hif => ?_) | refine condB_dec (fun hif => ?_) (fun hif => ?_) | refine condB_of (fun hif => ?_) (fun hif => ?_) | (refine s_lelt ?_ ?_; omega) | (refine s_lt ?_ ?_; omega) | (refine s_le ?_ ?_; omega) | ((refine evApply_call hr ?_; rintro _ g2 ⟨rfl, x2⟩; have r02 := r0 x2))) <;>
    (try simp -implicitDefEqProofs (disch := first | assumption | omega) only [sx, sb, sd, se, xwpStep, xwpOp, xwpInt, opEv, xres, oneOf, Nat.reduceAdd, Nat.reduceEqDiff, Nat.reduceSub, ↓reduceIte, reduceCtorEq, wrap_i64, *]))
  · exfalso; omega
  all_goals exact x1.trans x2

theorem holds_bits {n k : Nat} {cs : List (List Int)} (h : ∀ c ∈ cs, ∀ x ∈ c, x ≠ 0 ∧ x.natAbs ≤ n) : (cs.all fun c => c.any (litIn ((List.range n).map k.testBit))) = cs.all fun c => c.any (bitV k) := by
  rw [Bool.eq_iff_iff, List.all_eq_true, List.all_eq_true]
  refine forall_congr' fun c => ?_
  refine imp_congr_right fun hc => ?_
  rw [List.any_eq_true, List.any_eq_true]
  constructor
  · rintro ⟨x, hx, q⟩
    exact ⟨x, hx, by rw [← litIn_bits (h c hc x hx).1 (h c hc x hx).2]; exact q⟩
  · rintro ⟨x, hx, q⟩
    exact ⟨x, hx, by rw [litIn_bits (h c hc x hx).1 (h c hc x hx).2]; exact q⟩

set_option maxHeartbeats 8000000 in
theorem Find_ok {h : Heap} {n : Nat} {cv : V} {cs : List (List Int)} (hc : Cls h cv cs) (hx : ∀ c ∈ cs, ∀ x ∈ c, I32ok x) (hb : done cs cs.length ≤ 1000000) (hcl : cs.length ≤ 1000000) (hn : n ≤ 16) (hr : rightOf n cs = 0) :
    EvCall xprog H0 24 [.agg [.int .i64 n, cv]] h fun v h' => (∃ mv, v = .tup [mv, .bool (hasMod n cs), .int .i64 0]) ∧ Ext h h' := by
  refine s_call (fn := xf24) rfl (free _ rfl ..) ?_
  generalize hH1 : newCells h [.int .i64 n, cv] 1 false = H1
  have x1 : Ext h H1 := hH1 ▸ Ext.new ..
  have g1 : H1.get h.next = some (arr [.int .i64 n, cv] 1 false) := by rw [← hH1]; exact get_new ..
  have hlt1 : h.next < H1.next := by rw [← hH1]; simp
  have rA : ∀ {g}, Ext H1 g → readCells g h.next 0 0 2 = some [.int .i64 n, cv] ∧ readCells g h.next 0 0 1 = some [.int .i64 n] := fun x =>
    have q := (x.get h.next hlt1).trans g1
    ⟨readCells_arr q (by simp), readCell (off := 0) q rfl⟩
  obtain ⟨rA0, rA1⟩ := rA (Ext.refl H1)
  have ht := Taken_ok (vars := n) (hc.ext x1) hx hb hcl (by omega)
  rw [hr] at ht
  have hlit := (right_lits hr).2
  have hlit' : ∀ c ∈ cs, ∀ x ∈ c, x ≠ 0 ∧ x.natAbs ≤ n := fun c hc x hx => ⟨(hlit c hc x hx).1, by have := (hlit c hc x hx).2; omega⟩
  have hlc : ∀ c ∈ cs, c.length ≤ 1000000 := fun c hm => Nat.le_trans (done_mem hm) hb
  have s0 := shl_v 3 (n := n) (by omega)
  have hp : 2 ^ n ≤ 2 ^ 16 := Nat.pow_le_pow_right (by decide) hn
  simp -implicitDefEqProofs only [xf24, argsFrom_cons, argsFrom_nil]
  repeat' ((first | refine s_line rfl ?_ | refine s_end rfl ?_ | refine s_seq ?_ | refine s_region ?_ | refine s_block ?_ | refine s_cond ?_ | refine s_ret ?_ | refine s_skip ?_ | refine s_exit ?_ | refine s_if (fun hif => ?_) (fun hif => ?_) | refine condB_dec (fun hif => ?_) (fun hif => ?_) | refine condB_of (fun hif => ?_) (fun hif => ?_) | (refine s_lelt ?_ ?_; omega) | (refine s_lt ?_ ?_; omega) | (refine s_le ?_ ?_; omega) | ((refine evApply_call ht ?_; rintro _ g2 ⟨rfl, x2⟩))) <;>
    (try simp -implicitDefEqProofs (disch := first | assumption | omega) only [sx, sb, sd, se, xwpStep, xwpOp, xwpInt, opEv, xres, oneOf, Nat.reduceAdd, Nat.reduceEqDiff, Nat.reduceSub, ↓reduceIte, reduceCtorEq, wrap_i64, *]))
  refine s_while (fun w t d g => ∃ (k : Nat), k + w = 2 ^ n ∧ slotOf t 6 = .int .i64 k ∧ slotOf t 1 = .ptr h.next 0 0 ∧ d = [] ∧ Ext H1 g ∧ ∀ j, j < k → (cs.all fun c => c.any (bitV j)) = false) (fun _ _ _ => free_code ..) (2 ^ n) ⟨0, by omega, by simp [slotOf_set], by simp [slotOf_set], rfl, x2, fun j hj => by omega⟩ ?_
  rintro w t d g ⟨k, a1, a2, a3, rfl, xg, a5⟩
  obtain ⟨rB0, rB1⟩ := rA xg
  have hmo := Model_ok g (n := n) (k := k) (by omega) (by omega)
  repeat' ((first | refine s_line rfl ?_ | refine s_end rfl ?_ | refine s_seq ?_ | refine s_region ?_ | refine s_block ?_ | refine s_cond ?_ | refine s_ret ?_ | refine s_skip ?_ | refine s_exit ?_ | refine s_if (fun hif => ?_) (fun hif => ?_) | refine condB_dec (fun hif => ?_) (fun hif => ?_) | refine condB_of (fun hif => ?_) (fun hif => ?_) | (refine s_lelt ?_ ?_; omega) | (refine s_lt ?_ ?_; omega) | (refine s_le ?_ ?_; omega) | ((refine evApply_call hmo ?_; rintro mv g3 ⟨m1, x3⟩; obtain ⟨rC0, rC1⟩ := rA (xg.trans x3); have hho := Holds_ok (vars := n) (hc.ext (x1.trans (xg.trans x3))) hx hlc hcl m1 (by simp; omega); rw [holds_bits hlit'] at hho)) | ((refine evApply_call hho ?_; rintro _ g4 ⟨rfl, x4⟩))) <;>
    (try simp -implicitDefEqProofs (disch := first | assumption | omega) only [sx, sb, sd, se, xwpStep, xwpOp, xwpInt, opEv, xres, oneOf, Nat.reduceAdd, Nat.reduceEqDiff, Nat.reduceSub, ↓reduceIte, reduceCtorEq, wrap_i64, Nat.zero_add, Int.toNat_natCast, *]))
  · refine ⟨⟨mv, ?_⟩, x1.trans (xg.trans (x3.trans x4))⟩
    rw [show hasMod n cs = true from ?_]
    unfold hasMod
    rw [List.any_eq_true]
    exact ⟨k, List.mem_range.2 (by omega), hif⟩
  · refine ⟨w - 1, by omega, k + 1, by omega, by simp, xg.trans (x3.trans x4), fun j hj => ?_⟩
    rcases Nat.lt_succ_iff_lt_or_eq.1 hj with h | rfl
    · exact a5 j h
    · exact hif
  · refine ⟨⟨.nils, ?_⟩, x1.trans xg⟩
    rw [show hasMod n cs = false from ?_]
    unfold hasMod
    rw [List.any_eq_false]
    intro j hj
    rw [a5 j (by have := List.mem_range.1 hj; omega)]
    decide
end Go.Proofs.Ytmkbnbpblhoekaa
