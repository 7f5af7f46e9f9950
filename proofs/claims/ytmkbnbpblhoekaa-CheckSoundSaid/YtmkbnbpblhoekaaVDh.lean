/- Clauses and models: the document's True, Value, Holds, Model; over, fresh, plain. -/
import Derived.Test.YtmkbnbpblhoekaaVCk5
import Derived.Test.YtmkbnbpblhoekaaW4
import Derived.Test.YtmkbnbpblhoekaaW3
set_option linter.unusedSimpArgs false
set_option linter.unusedVariables false
set_option linter.unusedSectionVars false
namespace Go.Proofs.Ytmkbnbpblhoekaa
open Go.Xr Go.Chk

def litIn (bs : List Bool) (x : Int) : Bool := decide (1 ≤ x.natAbs ∧ x.natAbs ≤ bs.length) && (bs.getD (x.natAbs - 1) false == decide (0 < x))
theorem litVar_nat (l : Int) : litVar l = (l.natAbs : Int) := by
  unfold litVar
  split <;> omega
theorem litIn_bits {n k : Nat} {x : Int} (h0 : x ≠ 0) (h1 : x.natAbs ≤ n) : litIn ((List.range n).map k.testBit) x = bitV k x := by
  unfold litIn bitV
  rw [decide_eq_true (by simp; omega), Bool.true_and, List.getD_eq_getElem?_getD, List.getElem?_map, List.getElem?_range (by omega)]
  simp only [Option.map_some, Option.getD_some]
  by_cases h : 0 < x
  · rw [if_pos h, decide_eq_true h, show x.toNat = x.natAbs by omega]
    simp
  · rw [if_neg h, decide_eq_false h, show (-x).toNat = x.natAbs by omega]
    cases k.testBit (x.natAbs - 1) <;> rfl
theorem right_lits {vars : Int} {cs : List (List Int)} (h : rightOf vars cs = 0) : (0 ≤ vars ∧ vars ≤ 1048576) ∧ ∀ c ∈ cs, ∀ x ∈ c, x ≠ 0 ∧ (x.natAbs : Int) ≤ vars := by
  unfold rightOf at h
  split at h
  · cases h
  · rename_i hv
    split at h
    · cases h
    · rename_i ha
      refine ⟨by omega, fun c hc x hx => ?_⟩
      rw [List.any_eq_true] at ha
      have hb : bad vars x = false := by
        cases hb : bad vars x with
        | false => rfl
        | true => exact absurd ⟨c, hc, List.any_eq_true.2 ⟨x, hx, hb⟩⟩ ha
      have hb := of_decide_eq_false hb
      rw [litVar_nat] at hb
      omega
theorem True_ok {h : Heap} {m : V} {bs : List Bool} (hm : Sl h m (bs.map V.bool)) (hl : bs.length ≤ 1000000) {x : Int} (hx : I32ok x) : EvCall xprog H0 35 [.int .i32 x, m] h fun v h' => v = .bool (litIn bs x) ∧ h' = h := by
  refine s_call (fn := xf35) rfl (free _ rfl ..) ?_
  have el := hm.len
  have er := hm.row
  simp only [List.length_map] at el
  have hv := rVar_ok x hx.1 hx.2 h
  rw [litVar_nat] at hv
  have rx : 1 ≤ x.natAbs → x.natAbs ≤ bs.length → readCells h (objS m) (genS m) (offS m + (x.natAbs - 1)) 1 = some [.bool (bs.getD (x.natAbs - 1) false)] := fun h1 h2 => hm.at (by simp [show x.natAbs - 1 < bs.length by omega])
  have e1 : 1 ≤ x.natAbs → ((x.natAbs : Int) - 1).toNat = x.natAbs - 1 := fun h1 => by omega
  simp -implicitDefEqProofs only [xf35, argsFrom_cons, argsFrom_nil]
  repeat' ((first | refine s_line rfl ?_ | refine s_end rfl ?_ | refine s_seq ?_ | refine s_region ?_ | refine s_block ?_ | refine s_cond ?_ | refine s_ret ?_ | refine s_skip ?_ | refine s_exit ?_ | refine s_if (fun hif => ?_) (fun hif => ?_) | refine condB_dec (fun hif => ?_) (fun hif => ?_) | refine condB_of (fun hif => ?_) (fun hif => ?_) | (refine s_lelt ?_ ?_; omega) | (refine s_lt ?_ ?_; omega) | (refine s_le ?_ ?_; omega) | (refine (evCall_iff hv).2 ?_)) <;>
    (try simp -implicitDefEqProofs (disch := first | assumption | omega) only [sx, sb, sd, se, xwpStep, xwpOp, xwpInt, opEv, xres, oneOf, Nat.reduceAdd, Nat.reduceEqDiff, Nat.reduceSub, ↓reduceIte, reduceCtorEq, wrap_i64, Nat.zero_add, *]))
  · unfold litIn
    rw [show decide (1 ≤ x.natAbs ∧ x.natAbs ≤ bs.length) = true from decide_eq_true (by omega), Bool.true_and]
  all_goals
    unfold litIn
    rw [show decide (1 ≤ x.natAbs ∧ x.natAbs ≤ bs.length) = false from decide_eq_false (by omega)]
    rfl

theorem Value_ok {h : Heap} {c m : V} {bs : List Bool} {xs : List Int} (hc : Sl h c (xs.map (.int .i32))) (hx : ∀ x ∈ xs, I32ok x) (hlen : xs.length ≤ 1000000) (hm : Sl h m (bs.map V.bool)) (hl : bs.length ≤ 1000000) : EvCall xprog H0 17 [c, m] h fun v h' => v = .bool (xs.any (litIn bs)) ∧ h' = h := by
  refine s_call (fn := xf17) rfl (free _ rfl ..) ?_
  have el := hc.len
  have er := hc.row
  simp only [List.length_map] at el
  simp -implicitDefEqProofs only [xf17, argsFrom_cons, argsFrom_nil]
  repeat' ((first | refine s_line rfl ?_ | refine s_end rfl ?_ | refine s_seq ?_ | refine s_region ?_ | refine s_block ?_ | refine s_cond ?_ | refine s_ret ?_ | refine s_skip ?_ | refine s_exit ?_ | refine s_if (fun hif => ?_) (fun hif => ?_) | refine condB_dec (fun hif => ?_) (fun hif => ?_) | refine condB_of (fun hif => ?_) (fun hif => ?_) | (refine s_lelt ?_ ?_; omega) | (refine s_lt ?_ ?_; omega) | (refine s_le ?_ ?_; omega)) <;>
    (try simp -implicitDefEqProofs (disch := first | assumption | omega) only [sx, sb, sd, se, xwpStep, xwpOp, xwpInt, opEv, xres, oneOf, Nat.reduceAdd, Nat.reduceEqDiff, Nat.reduceSub, ↓reduceIte, reduceCtorEq, wrap_i64, *]))
  refine s_while (fun n t d h' => ∃ i : Nat, i + n = xs.length ∧ slotOf t 5 = .int .i64 i ∧ slotOf t 0 = c ∧ slotOf t 1 = m ∧ d = [] ∧ h' = h ∧ ∀ j (hj : j < xs.length), j < i → litIn bs xs[j] = false) (fun _ _ _ => free_code ..) xs.length ⟨0, by omega, by simp [slotOf_set], by simp [slotOf_set], by simp [slotOf_set], rfl, rfl, fun j _ hj => by omega⟩ ?_
  rintro n t d h' ⟨i, a1, a2, a3, a4, rfl, rfl, a5⟩
  have rx : ∀ (hi : i < xs.length), readCells h' (objS c) (genS c) (offS c + i) 1 = some [.int .i32 (xs[i])] := fun hi => Sl.lit hc hi
  have ht : ∀ (hi : i < xs.length), EvCall xprog H0 35 [.int .i32 (xs[i]), m] h' fun v h2 => v = .bool (litIn bs xs[i]) ∧ h2 = h' := fun hi => True_ok hm hl (hx _ (List.getElem_mem hi))
  repeat' ((first | refine s_line rfl ?_ | refine s_end rfl ?_ | refine s_seq ?_ | refine s_region ?_ | refine s_block ?_ | refine s_cond ?_ | refine s_ret ?_ | refine s_skip ?_ | refine s_exit ?_ | refine s_if (fun hif => ?_) (fun hif => ?_) | refine condB_dec (fun hif => ?_) (fun hif => ?_) | refine condB_of (fun hif => ?_) (fun hif => ?_) | (refine s_lelt ?_ ?_; omega) | (refine s_lt ?_ ?_; omega) | (refine s_le ?_ ?_; omega) | (refine (evCall_iff (ht (by omega))).2 ?_)) <;>
    (try simp -implicitDefEqProofs (disch := first | assumption | omega) only [sx, sb, sd, se, xwpStep, xwpOp, xwpInt, opEv, xres, oneOf, Nat.reduceAdd, Nat.reduceEqDiff, Nat.reduceSub, ↓reduceIte, reduceCtorEq, wrap_i64, Nat.zero_add, Int.toNat_natCast, *]))
  · refine congrArg V.bool (Eq.symm ?_)
    rw [List.any_eq_true]
    exact ⟨_, List.getElem_mem _, hif⟩
  · refine ⟨n - 1, by omega, i + 1, by omega, by simp, fun j hj hlt => ?_⟩
    rcases Nat.lt_succ_iff_lt_or_eq.1 hlt with h | rfl
    · exact a5 j hj h
    · exact hif
  · refine congrArg V.bool (Eq.symm ?_)
    rw [List.any_eq_false]
    intro x hm
    obtain ⟨j, hj, rfl⟩ := List.getElem_of_mem hm
    rw [a5 j hj (by omega)]
    decide

theorem Holds_ok {h : Heap} {vars : Int} {cv m : V} {bs : List Bool} {cs : List (List Int)} (hc : Cls h cv cs) (hx : ∀ c ∈ cs, ∀ x ∈ c, I32ok x) (hlen : ∀ c ∈ cs, c.length ≤ 1000000) (hcl : cs.length ≤ 1000000) (hm : Sl h m (bs.map V.bool)) (hl : bs.length ≤ 1000000) :
    EvCall xprog H0 16 [.agg [.int .i64 vars, cv], m] h fun v h' => v = .bool (cs.all fun c => c.any (litIn bs)) ∧ Ext h h' := by
  refine s_call (fn := xf16) rfl (free _ rfl ..) ?_
  generalize hH1 : newCells h [.int .i64 vars, cv] 1 false = H1
  have x1 : Ext h H1 := hH1 ▸ Ext.new ..
  have g1 : H1.get h.next = some (arr [.int .i64 vars, cv] 1 false) := by rw [← hH1]; exact get_new ..
  have r1 := readCell (off := 1) g1 rfl
  have hm1 := hm.ext x1
  obtain ⟨vs, hs, hvl, hcs⟩ := hc.ext x1
  have el := hs.len
  have er := hs.row
  rw [hvl] at el
  clear hc g1 hm
  simp -implicitDefEqProofs only [xf16, argsFrom_cons, argsFrom_nil]
  repeat' ((first | refine s_line rfl ?_ | refine s_end rfl ?_ | refine s_seq ?_ | refine s_region ?_ | refine s_block ?_ | refine s_cond ?_ | refine s_ret ?_ | refine s_skip ?_ | refine s_exit ?_ | refine s_if (fun hif => ?_) (fun hif => ?_) | refine condB_dec (fun hif => ?_) (fun hif => ?_) | refine condB_of (fun hif => ?_) (fun hif => ?_) | (refine s_lelt ?_ ?_; omega) | (refine s_lt ?_ ?_; omega) | (refine s_le ?_ ?_; omega)) <;>
    (try simp -implicitDefEqProofs (disch := first | assumption | omega) only [sx, sb, sd, se, xwpStep, xwpOp, xwpInt, opEv, xres, oneOf, Nat.reduceAdd, Nat.reduceEqDiff, Nat.reduceSub, ↓reduceIte, reduceCtorEq, wrap_i64, Nat.zero_add, *]))
  refine s_while (fun n t d h' => ∃ i : Nat, i + n = cs.length ∧ slotOf t 5 = .int .i64 i ∧ slotOf t 2 = .ptr h.next 0 0 ∧ slotOf t 1 = m ∧ d = [] ∧ h' = H1 ∧ ∀ j (hj : j < cs.length), j < i → (cs[j]).any (litIn bs) = true) (fun _ _ _ => free_code ..) cs.length ⟨0, by omega, by simp [slotOf_set], by simp [slotOf_set], by simp [slotOf_set], rfl, rfl, fun j _ hj => by omega⟩ ?_
  rintro n t d h' ⟨i, a1, a2, a3, a4, rfl, rfl, a5⟩
  have rc : i < cs.length → readCells h' (objS cv) (genS cv) (offS cv + i) 1 = some [vs.getD i .nils] := fun hi => hs.at (by simp [show i < vs.length by omega])
  have hv : ∀ (hi : i < cs.length), EvCall xprog H0 17 [vs.getD i .nils, m] h' fun v h2 => v = .bool ((cs[i]).any (litIn bs)) ∧ h2 = h' := fun hi => Value_ok (hcs i hi) (hx _ (List.getElem_mem hi)) (hlen _ (List.getElem_mem hi)) hm1 hl
  repeat' ((first | refine s_line rfl ?_ | refine s_end rfl ?_ | refine s_seq ?_ | refine s_region ?_ | refine s_block ?_ | refine s_cond ?_ | refine s_ret ?_ | refine s_skip ?_ | refine s_exit ?_ | refine s_if (fun hif => ?_) (fun hif => ?_) | refine condB_dec (fun hif => ?_) (fun hif => ?_) | refine condB_of (fun hif => ?_) (fun hif => ?_) | (refine s_lelt ?_ ?_; omega) | (refine s_lt ?_ ?_; omega) | (refine s_le ?_ ?_; omega) | (refine (evCall_iff (hv (by omega))).2 ?_)) <;>
    (try simp -implicitDefEqProofs (disch := first | assumption | omega) only [sx, sb, sd, se, xwpStep, xwpOp, xwpInt, opEv, xres, oneOf, Nat.reduceAdd, Nat.reduceEqDiff, Nat.reduceSub, ↓reduceIte, reduceCtorEq, wrap_i64, Nat.zero_add, Int.toNat_natCast, *]))
  · refine congrArg V.bool (Eq.symm ?_)
    rw [List.all_eq_false]
    exact ⟨_, List.getElem_mem _, by simpa using hif⟩
  · refine ⟨n - 1, by omega, i + 1, by omega, by simp, fun j hj hlt => ?_⟩
    rcases Nat.lt_succ_iff_lt_or_eq.1 hlt with h | rfl
    · exact a5 j hj h
    · simpa using hif
  · refine congrArg V.bool (Eq.symm ?_)
    rw [List.all_eq_true]
    intro x hm
    obtain ⟨j, hj, rfl⟩ := List.getElem_of_mem hm
    exact a5 j hj (by omega)

theorem and_v (t : Nat) {k : Nat} (hk : k < 2 ^ 40) : intBin .and t .i64 k (.int .i64 1) = some (.int .i64 (k % 2 : Nat)) := by
  have h1 : ((BitVec.ofInt 64 (k : Int)) &&& (BitVec.ofInt 64 1)).toNat = k % 2 := by
    rw [BitVec.toNat_and, BitVec.ofInt_natCast, BitVec.toNat_ofNat]
    show k % 2 ^ 64 &&& 1 = _
    rw [Nat.and_one_is_mod]
    omega
  show some (V.int .i64 (IntKind.i64.wrap (((BitVec.ofInt 64 (k : Int)) &&& (BitVec.ofInt 64 1)).toNat : Int))) = _
  rw [h1, wrap_i64 (by omega) (by omega)]
theorem shl_v (t : Nat) {n : Nat} (hn : n ≤ 40) : intBin .shl t .i64 1 (.int .i64 n) = some (.int .i64 (2 ^ n : Nat)) := by
  have h1 : ¬ (n : Int) < 0 := by omega
  have h2 : min (n : Int).toNat 64 = n := by omega
  have h3 : 2 ^ n ≤ 2 ^ 40 := Nat.pow_le_pow_right (by decide) hn
  have h4 : IntKind.i64.wrap (1 * 2 ^ n) = ((2 ^ n : Nat) : Int) := by
    rw [Int.one_mul]
    have : ((2 : Int) ^ n) = ((2 ^ n : Nat) : Int) := by simp
    rw [this]
    generalize 2 ^ n = a at h3
    exact wrap_i64 (by omega) (by omega)
  unfold intBin
  simp only [binOp, Op.shift, if_neg h1]
  show some (V.int .i64 (IntKind.i64.wrap (1 * 2 ^ min (n : Int).toNat 64))) = _
  rw [h2, h4]
theorem shr_v (t : Nat) {k n : Nat} (hn : n ≤ 40) : intBin .shr t .i64 k (.int .i64 n) = some (.int .i64 (k / 2 ^ n : Nat)) := by
  have h1 : ¬ (n : Int) < 0 := by omega
  have h2 : min (n : Int).toNat 64 = n := by omega
  unfold intBin
  simp only [binOp, Op.shift, if_neg h1]
  show some (V.int .i64 ((k : Int).fdiv (2 ^ min (n : Int).toNat 64))) = _
  rw [h2]
  congr 2
  rw [Int.fdiv_eq_ediv_of_nonneg _ (by exact_mod_cast Nat.zero_le (2 ^ n))]
  simp
theorem bit_v (k i : Nat) : decide ((((k / 2 ^ i) % 2 : Nat) : Int) = 1) = k.testBit i := by
  rw [Nat.testBit_eq_decide_div_mod_eq]
  congr 1
  simp only [eq_iff_iff]
  omega

theorem Model_ok (h : Heap) {n k : Nat} (hn : n ≤ 40) (hk : k < 2 ^ 40) : EvCall xprog H0 15 [.int .i64 n, .int .i64 k] h fun v h' => Sl h' v (((List.range n).map k.testBit).map V.bool) ∧ Ext h h' := by
  refine s_call (fn := xf15) rfl (free _ rfl ..) ?_
  simp -implicitDefEqProofs only [xf15, argsFrom_cons, argsFrom_nil]
  repeat' ((first | refine s_line rfl ?_ | refine s_end rfl ?_ | refine s_seq ?_ | refine s_region ?_ | refine s_block ?_ | refine s_cond ?_ | refine s_ret ?_ | refine s_skip ?_ | refine s_exit ?_ | refine s_if (fun hif => ?_) (fun hif => ?_) | refine condB_dec (fun hif => ?_) (fun hif => ?_) | refine condB_of (fun hif => ?_) (fun hif => ?_) | (refine s_lelt ?_ ?_; omega) | (refine s_lt ?_ ?_; omega) | (refine s_le ?_ ?_; omega)) <;>
    (try simp -implicitDefEqProofs (disch := first | assumption | omega) only [sx, sb, sd, se, xwpStep, xwpOp, xwpInt, opEv, xres, oneOf, Nat.reduceAdd, Nat.reduceEqDiff, Nat.reduceSub, ↓reduceIte, reduceCtorEq, wrap_i64, *]))
  refine s_while (fun w t d g => ∃ (i : Nat) (ov : V), i + w = n ∧ slotOf t 6 = .int .i64 i ∧ slotOf t 5 = ov ∧ slotOf t 0 = .int .i64 n ∧ slotOf t 1 = .int .i64 k ∧ d = [] ∧ Ext h g ∧ Tk h.next g ov (((List.range i).map k.testBit).map V.bool)) (fun _ _ _ => free_code ..) n ⟨0, .nils, by omega, by simp [slotOf_set], by simp [slotOf_set], by simp [slotOf_set], by simp [slotOf_set], rfl, Ext.refl _, Tk.nil _ _⟩ ?_
  rintro w t d g ⟨i, ov, a1, a2, a3, a4, a5, rfl, a6, a7⟩
  have s1 := shr_v 3 (k := k) (n := i) (by omega)
  have s2 := and_v 3 (k := k / 2 ^ i) (Nat.lt_of_le_of_lt (Nat.div_le_self _ _) hk)
  repeat' ((first | refine s_line rfl ?_ | refine s_end rfl ?_ | refine s_seq ?_ | refine s_region ?_ | refine s_block ?_ | refine s_cond ?_ | refine s_ret ?_ | refine s_skip ?_ | refine s_exit ?_ | refine s_if (fun hif => ?_) (fun hif => ?_) | refine condB_dec (fun hif => ?_) (fun hif => ?_) | refine condB_of (fun hif => ?_) (fun hif => ?_) | (refine s_lelt ?_ ?_; omega) | (refine s_lt ?_ ?_; omega) | (refine s_le ?_ ?_; omega) | ((refine x_append_tk (a7.ext (Ext.new ..)) (Nat.le_succ_of_le a6.next) (sl_new (get_new ..) (by simp)) rfl (by simp; omega) ?_; rintro v2 g2 k2 u2 e2))) <;>
    (try simp -implicitDefEqProofs (disch := first | assumption | omega) only [sx, sb, sd, se, xwpStep, xwpOp, xwpInt, opEv, xres, oneOf, Nat.reduceAdd, Nat.reduceEqDiff, Nat.reduceSub, ↓reduceIte, reduceCtorEq, wrap_i64, Nat.zero_add, Int.toNat_natCast, Nat.add_zero, fillV, parts, List.map_cons, List.map_nil, over, List.length_cons, List.length_nil, Nat.beq_refl, Nat.ble, *]))
  · have z2 : Ext h g2 := (a6.trans (Ext.new ..)).butI u2 (fun o ho q => by have := (a7.lt q).1; omega)
    refine ⟨w - 1, by omega, i + 1, v2, by omega, by simp, rfl, z2, ?_⟩
    rw [List.range_succ, List.map_append, List.map_append, List.map_cons, List.map_nil, List.map_cons, List.map_nil, ← bit_v k i]
    exact k2
  · rw [show n = i by omega]
    exact a7.sl

theorem over_ok {h : Heap} {c : V} {xs : List Int} (hc : Sl h c (xs.map (.int .i32))) (hx : ∀ x ∈ xs, I32ok x) (hlen : xs.length ≤ 1000000) (vars : Int) : EvCall xprog H0 18 [c, .int .i64 vars] h fun v h' => v = .bool (xs.all fun x => decide (litVar x ≤ vars)) ∧ h' = h := by
  refine s_call (fn := xf18) rfl (free _ rfl ..) ?_
  have el := hc.len
  have er := hc.row
  simp only [List.length_map] at el
  simp -implicitDefEqProofs only [xf18, argsFrom_cons, argsFrom_nil]
  repeat' ((first | refine s_line rfl ?_ | refine s_end rfl ?_ | refine s_seq ?_ | refine s_region ?_ | refine s_block ?_ | refine s_cond ?_ | refine s_ret ?_ | refine s_skip ?_ | refine s_exit ?_ | refine s_if (fun hif => ?_) (fun hif => ?_) | refine condB_dec (fun hif => ?_) (fun hif => ?_) | refine condB_of (fun hif => ?_) (fun hif => ?_) | (refine s_lelt ?_ ?_; omega) | (refine s_lt ?_ ?_; omega) | (refine s_le ?_ ?_; omega)) <;>
    (try simp -implicitDefEqProofs (disch := first | assumption | omega) only [sx, sb, sd, se, xwpStep, xwpOp, xwpInt, opEv, xres, oneOf, Nat.reduceAdd, Nat.reduceEqDiff, Nat.reduceSub, ↓reduceIte, reduceCtorEq, wrap_i64, *]))
  refine s_while (fun n t d h' => ∃ i : Nat, i + n = xs.length ∧ slotOf t 5 = .int .i64 i ∧ slotOf t 0 = c ∧ slotOf t 1 = .int .i64 vars ∧ d = [] ∧ h' = h ∧ ∀ j (hj : j < xs.length), j < i → litVar xs[j] ≤ vars) (fun _ _ _ => free_code ..) xs.length ⟨0, by omega, by simp [slotOf_set], by simp [slotOf_set], by simp [slotOf_set], rfl, rfl, fun j _ hj => by omega⟩ ?_
  rintro n t d h' ⟨i, a1, a2, a3, a4, rfl, rfl, a5⟩
  have rx : ∀ (hi : i < xs.length), readCells h' (objS c) (genS c) (offS c + i) 1 = some [.int .i32 (xs[i])] := fun hi => Sl.lit hc hi
  have ht : ∀ (hi : i < xs.length), EvCall xprog H0 36 [.int .i32 (xs[i])] h' fun v h2 => v = .int .i64 (litVar xs[i]) ∧ h2 = h' := fun hi => rVar_ok _ (hx _ (List.getElem_mem hi)).1 (hx _ (List.getElem_mem hi)).2 h'
  repeat' ((first | refine s_line rfl ?_ | refine s_end rfl ?_ | refine s_seq ?_ | refine s_region ?_ | refine s_block ?_ | refine s_cond ?_ | refine s_ret ?_ | refine s_skip ?_ | refine s_exit ?_ | refine s_if (fun hif => ?_) (fun hif => ?_) | refine condB_dec (fun hif => ?_) (fun hif => ?_) | refine condB_of (fun hif => ?_) (fun hif => ?_) | (refine s_lelt ?_ ?_; omega) | (refine s_lt ?_ ?_; omega) | (refine s_le ?_ ?_; omega) | (refine (evCall_iff (ht (by omega))).2 ?_)) <;>
    (try simp -implicitDefEqProofs (disch := first | assumption | omega) only [sx, sb, sd, se, xwpStep, xwpOp, xwpInt, opEv, xres, oneOf, Nat.reduceAdd, Nat.reduceEqDiff, Nat.reduceSub, ↓reduceIte, reduceCtorEq, wrap_i64, Nat.zero_add, Int.toNat_natCast, *]))
  · refine congrArg V.bool (Eq.symm ?_)
    rw [List.all_eq_false]
    exact ⟨_, List.getElem_mem _, by simp; omega⟩
  · refine ⟨n - 1, by omega, i + 1, by omega, by simp, fun j hj hlt => ?_⟩
    rcases Nat.lt_succ_iff_lt_or_eq.1 hlt with h | rfl
    · exact a5 j hj h
    · omega
  · refine congrArg V.bool (Eq.symm ?_)
    rw [List.all_eq_true]
    intro x hm
    obtain ⟨j, hj, rfl⟩ := List.getElem_of_mem hm
    exact decide_eq_true (a5 j hj (by omega))

theorem plain_ok {h : Heap} {c : V} {xs : List Int} (hc : Sl h c (xs.map (.int .i64))) (hlen : xs.length ≤ 1000000) : EvCall xprog H0 12 [c] h fun v h' => v = .bool (xs.all fun x => decide (0 ≤ x)) ∧ h' = h := by
  refine s_call (fn := xf12) rfl (free _ rfl ..) ?_
  have el := hc.len
  have er := hc.row
  simp only [List.length_map] at el
  simp -implicitDefEqProofs only [xf12, argsFrom_cons, argsFrom_nil]
  repeat' ((first | refine s_line rfl ?_ | refine s_end rfl ?_ | refine s_seq ?_ | refine s_region ?_ | refine s_block ?_ | refine s_cond ?_ | refine s_ret ?_ | refine s_skip ?_ | refine s_exit ?_ | refine s_if (fun hif => ?_) (fun hif => ?_) | refine condB_dec (fun hif => ?_) (fun hif => ?_) | refine condB_of (fun hif => ?_) (fun hif => ?_) | (refine s_lelt ?_ ?_; omega) | (refine s_lt ?_ ?_; omega) | (refine s_le ?_ ?_; omega)) <;>
    (try simp -implicitDefEqProofs (disch := first | assumption | omega) only [sx, sb, sd, se, xwpStep, xwpOp, xwpInt, opEv, xres, oneOf, Nat.reduceAdd, Nat.reduceEqDiff, Nat.reduceSub, ↓reduceIte, reduceCtorEq, wrap_i64, *]))
  refine s_while (fun n t d h' => ∃ i : Nat, i + n = xs.length ∧ slotOf t 3 = .int .i64 i ∧ slotOf t 0 = c ∧ d = [] ∧ h' = h ∧ ∀ j (hj : j < xs.length), j < i → 0 ≤ xs[j]) (fun _ _ _ => free_code ..) xs.length ⟨0, by omega, by simp [slotOf_set], by simp [slotOf_set], rfl, rfl, fun j _ hj => by omega⟩ ?_
  rintro n t d h' ⟨i, a1, a2, a3, rfl, rfl, a5⟩
  have rx : ∀ (hi : i < xs.length), readCells h' (objS c) (genS c) (offS c + i) 1 = some [.int .i64 (xs[i])] := fun hi => hc.at (by simp [hi])
  repeat' ((first | refine s_line rfl ?_ | refine s_end rfl ?_ | refine s_seq ?_ | refine s_region ?_ | refine s_block ?_ | refine s_cond ?_ | refine s_ret ?_ | refine s_skip ?_ | refine s_exit ?_ | refine s_if (fun hif => ?_) (fun hif => ?_) | refine condB_dec (fun hif => ?_) (fun hif => ?_) | refine condB_of (fun hif => ?_) (fun hif => ?_) | (refine s_lelt ?_ ?_; omega) | (refine s_lt ?_ ?_; omega) | (refine s_le ?_ ?_; omega)) <;>
    (try simp -implicitDefEqProofs (disch := first | assumption | omega) only [sx, sb, sd, se, xwpStep, xwpOp, xwpInt, opEv, xres, oneOf, Nat.reduceAdd, Nat.reduceEqDiff, Nat.reduceSub, ↓reduceIte, reduceCtorEq, wrap_i64, Nat.zero_add, Int.toNat_natCast, *]))
  · refine congrArg V.bool (Eq.symm ?_)
    rw [List.all_eq_false]
    exact ⟨_, List.getElem_mem _, by simp; omega⟩
  · refine ⟨n - 1, by omega, i + 1, by omega, by simp, fun j hj hlt => ?_⟩
    rcases Nat.lt_succ_iff_lt_or_eq.1 hlt with h | rfl
    · exact a5 j hj h
    · omega
  · refine congrArg V.bool (Eq.symm ?_)
    rw [List.all_eq_true]
    intro x hm
    obtain ⟨j, hj, rfl⟩ := List.getElem_of_mem hm
    exact decide_eq_true (a5 j hj (by omega))

theorem fresh_ok {h : Heap} {vars : Int} {cv lv : V} {cs : List (List Int)} {l : List Int} (hc : Cls h cv cs) (hlen : ∀ c ∈ cs, c.length ≤ 1000000) (hcl : cs.length ≤ 1000000) (hs : Sl h lv (l.map (.int .i32))) (hl : l.length ≤ 1000000) (hx : ∀ x ∈ l, -1048576 ≤ x ∧ x ≤ 1048576) :
    EvCall xprog H0 19 [.agg [.int .i64 vars, cv], lv] h fun v h' => (∃ b : Bool, v = .bool b ∧ ((∃ p r, l = p :: r ∧ ∀ c ∈ cs, -p ∉ c) → b = true)) ∧ Ext h h' := by
  refine s_call (fn := xf19) rfl (free _ rfl ..) ?_
  generalize hH1 : newCells h [.int .i64 vars, cv] 1 false = H1
  have x1 : Ext h H1 := hH1 ▸ Ext.new ..
  have g1 : H1.get h.next = some (arr [.int .i64 vars, cv] 1 false) := by rw [← hH1]; exact get_new ..
  have r1 := readCell (off := 1) g1 rfl
  have hs1 := hs.ext x1
  have el2 := hs1.len
  have er2 := hs1.row
  simp only [List.length_map] at el2
  obtain ⟨vs, hv, hvl, hcs⟩ := hc.ext x1
  have el := hv.len
  have er := hv.row
  rw [hvl] at el
  clear hc g1 hs
  simp -implicitDefEqProofs only [xf19, argsFrom_cons, argsFrom_nil]
  repeat' ((first | refine s_line rfl ?_ | refine s_end rfl ?_ | refine s_seq ?_ | refine s_region ?_ | refine s_block ?_ | refine s_cond ?_ | refine s_ret ?_ | refine s_skip ?_ | refine s_exit ?_ | refine s_if (fun hif => ?_) (fun hif => ?_) | refine condB_dec (fun hif => ?_) (fun hif => ?_) | refine condB_of (fun hif => ?_) (fun hif => ?_) | (refine s_lelt ?_ ?_; omega) | (refine s_lt ?_ ?_; omega) | (refine s_le ?_ ?_; omega)) <;>
    (try simp -implicitDefEqProofs (disch := first | assumption | omega) only [sx, sb, sd, se, xwpStep, xwpOp, xwpInt, opEv, xres, oneOf, Nat.reduceAdd, Nat.reduceEqDiff, Nat.reduceSub, ↓reduceIte, reduceCtorEq, wrap_i64, Nat.zero_add, *]))
  refine s_while (fun n t d h' => ∃ i : Nat, i + n = cs.length ∧ slotOf t 5 = .int .i64 i ∧ slotOf t 2 = .ptr h.next 0 0 ∧ slotOf t 1 = lv ∧ d = [] ∧ h' = H1) (fun _ _ _ => free_code ..) cs.length ⟨0, by omega, by simp [slotOf_set], by simp [slotOf_set], by simp [slotOf_set], rfl, rfl⟩ ?_
  rintro n t d h' ⟨i, a1, a2, a3, a4, rfl, rfl⟩
  have rc : i < cs.length → readCells h' (objS cv) (genS cv) (offS cv + i) 1 = some [vs.getD i .nils] := fun hi => hv.at (by simp [show i < vs.length by omega])
  have rl : ∀ (hl : 0 < l.length), readCells h' (objS lv) (genS lv) (offS lv) 1 = some [.int .i32 (l[0])] := fun hl => Sl.lit hs1 hl
  have wn : ∀ (hl : 0 < l.length), IntKind.i32.wrap (-(l[0])) = -(l[0]) := fun hl => by
    have := hx _ (List.getElem_mem hl)
    exact wrap_i32 (by omega) (by omega)
  have hv : ∀ (hi : i < cs.length) (hl : 0 < l.length), EvCall xprog H0 37 [vs.getD i .nils, .int .i32 (-l[0])] h' fun v h2 => v = .bool (decide (-l[0] ∈ cs[i])) ∧ h2 = h' := fun hi _ => Has_ok (hcs i hi) (by have := hlen _ (List.getElem_mem hi); omega) _
  repeat' ((first | refine s_line rfl ?_ | refine s_end rfl ?_ | refine s_seq ?_ | refine s_region ?_ | refine s_block ?_ | refine s_cond ?_ | refine s_ret ?_ | refine s_skip ?_ | refine s_exit ?_ | refine s_if (fun hif => ?_) (fun hif => ?_) | refine condB_dec (fun hif => ?_) (fun hif => ?_) | refine condB_of (fun hif => ?_) (fun hif => ?_) | (refine s_lelt ?_ ?_; omega) | (refine s_lt ?_ ?_; omega) | (refine s_le ?_ ?_; omega) | (refine (evCall_iff (hv (by omega) (by omega))).2 ?_)) <;>
    (try simp -implicitDefEqProofs (disch := first | assumption | omega) only [sx, sb, sd, se, xwpStep, xwpOp, xwpInt, opEv, xres, oneOf, Nat.reduceAdd, Nat.reduceEqDiff, Nat.reduceSub, ↓reduceIte, reduceCtorEq, wrap_i64, Nat.zero_add, Int.toNat_natCast, Int.toNat_zero, Nat.add_zero, *]))
  · refine ⟨false, rfl, ?_⟩
    rintro ⟨p, r, rfl, q⟩
    exact absurd (by simpa using hif) (q _ (List.getElem_mem _))
  · exact ⟨n - 1, by omega, i + 1, by omega, by simp⟩
  · refine ⟨false, rfl, ?_⟩
    rintro ⟨p, r, rfl, q⟩
    exfalso
    simp at hif
  · refine ⟨_, rfl, ?_⟩
    rintro ⟨p, r, rfl, q⟩
    exact decide_eq_true (by simp)
end Go.Proofs.Ytmkbnbpblhoekaa
