/- cnf.Normal: sorted, each once. -/
import Derived.Test.YtmkbnbpblhoekaaVCk1
set_option linter.unusedSimpArgs false
set_option linter.unusedVariables false
set_option linter.unusedSectionVars false
namespace Go.Proofs.Ytmkbnbpblhoekaa
open Go.Xr

/-- A row of one's own: its object is new (at or behind b), and is what the row says. -/
def Own (b : Nat) (h : Heap) (v : V) (xs : List V) : Prop := (xs = [] ∧ (v = .nils ∨ ∃ o g off, v = .slice o g off 0 (.exact 0))) ∨ ∃ o g r, b ≤ o ∧ o < h.next ∧ v = .slice o g 0 xs.length (.rest 0 1) ∧ h.get o = some (grownObj xs g r 1)

theorem Own.len {b : Nat} {h : Heap} {v : V} {xs : List V} (hs : Own b h v xs) : lenS v = xs.length := by
  rcases hs with ⟨rfl, rfl | ⟨o, g, off, rfl⟩⟩ | ⟨o, g, r, _, _, rfl, _⟩ <;> rfl
theorem Own.row {b : Nat} {h : Heap} {v : V} {xs : List V} (hs : Own b h v xs) : rowS v = true := by
  rcases hs with ⟨rfl, rfl | ⟨o, g, off, rfl⟩⟩ | ⟨o, g, r, _, _, rfl, _⟩ <;> rfl
theorem Own.sl {b : Nat} {h : Heap} {v : V} {xs : List V} (hs : Own b h v xs) : Sl h v xs := by
  rcases hs with ⟨rfl, rfl | ⟨o, g, off, rfl⟩⟩ | ⟨o, g, r, _, hlt, rfl, hg⟩
  · exact .inl ⟨rfl, rfl⟩
  · exact .inr ⟨_, _, _, _, rfl, fun q => by cases q⟩
  · exact .inr ⟨o, g, 0, _, rfl, fun _ => ⟨hlt, by rw [readCells_grown hg (by omega)]; simp⟩⟩

theorem Clone_ok {h : Heap} {c : V} {xs : List V} (hc : Sl h c xs) (h1 : ∀ x ∈ xs, x.one = true) (hb : xs.length * 4 ≤ 140737488355328) : EvCall xprog H0 49 [c] h fun v h' => Own h.next h' v xs ∧ Ext h h' := by
  refine s_call (fn := xf49) rfl (free _ rfl ..) ?_
  rcases hc with ⟨rfl, rfl⟩ | ⟨o, g, off, cap, rfl, h2⟩
  · simp -implicitDefEqProofs only [xf49, argsFrom_cons, argsFrom_nil]
    repeat' ((first | refine s_line rfl ?_ | refine s_end rfl ?_ | refine s_seq ?_ | refine s_region ?_ | refine s_block ?_ | refine s_cond ?_ | refine s_ret ?_ | refine s_skip ?_ | refine s_exit ?_ | refine s_if (fun hif => ?_) (fun hif => ?_) | refine condB_dec (fun hif => ?_) (fun hif => ?_) | refine condB_of (fun hif => ?_) (fun hif => ?_) | (refine s_lelt ?_ ?_; omega) | (refine s_lt ?_ ?_; omega) | (refine s_le ?_ ?_; omega)) <;>
      (try simp -implicitDefEqProofs (disch := first | assumption | omega) only [sx, sb, sd, se, xwpStep, xwpOp, xwpInt, opEv, xres, oneOf, Nat.reduceAdd, Nat.reduceEqDiff, Nat.reduceSub, ↓reduceIte, reduceCtorEq, nilS, rowS, *]))
    exact ⟨.inl ⟨rfl, .inl rfl⟩, Ext.refl _⟩
  · have hc : Sl (newCells h [] 1 false) (.slice o g off xs.length cap) xs := .inr ⟨o, g, off, cap, rfl, fun hp => ⟨Nat.lt_succ_of_lt (h2 hp).1, by rw [readCells_get ((Ext.new h [] 1 false).get o (h2 hp).1)]; exact (h2 hp).2⟩⟩
    simp -implicitDefEqProofs only [xf49, argsFrom_cons, argsFrom_nil]
    repeat' ((first | refine s_line rfl ?_ | refine s_end rfl ?_ | refine s_seq ?_ | refine s_region ?_ | refine s_block ?_ | refine s_cond ?_ | refine s_ret ?_ | refine s_skip ?_ | refine s_exit ?_ | refine s_if (fun hif => ?_) (fun hif => ?_) | refine condB_dec (fun hif => ?_) (fun hif => ?_) | refine condB_of (fun hif => ?_) (fun hif => ?_) | (refine s_lelt ?_ ?_; omega) | (refine s_lt ?_ ?_; omega) | (refine s_le ?_ ?_; omega) | ((refine x_append_new hc ⟨_, get_new .., _, rfl, Nat.le_refl _⟩ hb ?_ ?_ <;> intro hne))) <;>
      (try simp -implicitDefEqProofs (disch := first | assumption | omega) only [sx, sb, sd, se, xwpStep, xwpOp, xwpInt, opEv, xres, oneOf, Nat.reduceAdd, Nat.reduceEqDiff, Nat.reduceSub, ↓reduceIte, reduceCtorEq, nilS, rowS, *]))
    · exact ⟨.inl ⟨rfl, .inr ⟨_, _, _, rfl⟩⟩, Ext.new ..⟩
    · exact ⟨.inr ⟨h.next + 1, 0, [], by omega, Nat.lt_succ_self _, rfl, by rw [Heap.get_push]; exact if_pos rfl⟩, (Ext.new ..).trans (Ext.push ..)⟩

/-- bits.Len, as the library's contract has it. -/
theorem bits_ok (n : Nat) (hn : n ≤ 9223372036854775807) (h : Heap) : EvCall xprog H0 78 [.int .u64 n] h fun v h' => v = .int .i64 (Lib.bitLen n) ∧ h' = h := by
  refine ⟨1, .int .i64 (Lib.bitLen n), h, ?_, rfl, rfl⟩
  have : H0 (.call false 78 [.int .u64 n] h) = some (.call (.int .i64 (Lib.bitLen n)) h) := by
    refine H0_some ?_
    have e : bitsHook 78 (.call false 78 [.int .u64 n] h) = some (.call (.int .i64 (Lib.bitLen n)) h) := by
      unfold bitsHook
      have : (Nat.beq 78 78 && decide ((0 : Int) ≤ (n : Int) ∧ (n : Int) ≤ 18446744073709551615)) = true := by
        rw [Nat.beq_refl, Bool.true_and, decide_eq_true_eq]
        omega
      simp only [this, Int.toNat_natCast]
    unfold Hb orElse
    have e2 : sortHook 81 67 (.call false 78 [.int .u64 n] h) = none := rfl
    rw [e2]
    simp only
    first
      | exact e
      | rw [e]
  simp only [ev, evStep, this]

/-- A comparison sort of nothing. -/
theorem insertion_none (x : V) (f : V) (h : Heap) : EvCall xprog H0 99 [x, .int .i64 0, .int .i64 0, f] h fun v h' => h' = h := by
  refine s_call (fn := xf99) rfl (free _ rfl ..) ?_
  simp -implicitDefEqProofs only [xf99, argsFrom_cons, argsFrom_nil]
  repeat' ((first | refine s_line rfl ?_ | refine s_end rfl ?_ | refine s_seq ?_ | refine s_region ?_ | refine s_block ?_ | refine s_cond ?_ | refine s_ret ?_ | refine s_skip ?_ | refine s_exit ?_ | refine s_if (fun hif => ?_) (fun hif => ?_) | refine condB_dec (fun hif => ?_) (fun hif => ?_) | refine condB_of (fun hif => ?_) (fun hif => ?_) | (refine s_lelt ?_ ?_; omega) | (refine s_lt ?_ ?_; omega) | (refine s_le ?_ ?_; omega)) <;>
    (try simp -implicitDefEqProofs (disch := first | assumption | omega) only [sx, sb, sd, se, xwpStep, xwpOp, xwpInt, opEv, xres, oneOf, Nat.reduceAdd, Nat.reduceEqDiff, Nat.reduceSub, ↓reduceIte, reduceCtorEq, wrap_i64, *]))
  refine s_while (fun n t d h' => slotOf t 8 = .int .i64 1 ∧ slotOf t 2 = .int .i64 0 ∧ d = [] ∧ h' = h) (fun _ _ _ => free_code ..) 0 ⟨by simp [slotOf_set], by simp [slotOf_set], rfl, rfl⟩ ?_
  rintro n t d h' ⟨a1, a2, rfl, rfl⟩
  repeat' ((first | refine s_line rfl ?_ | refine s_end rfl ?_ | refine s_seq ?_ | refine s_region ?_ | refine s_block ?_ | refine s_cond ?_ | refine s_ret ?_ | refine s_skip ?_ | refine s_exit ?_ | refine s_if (fun hif => ?_) (fun hif => ?_) | refine condB_dec (fun hif => ?_) (fun hif => ?_) | refine condB_of (fun hif => ?_) (fun hif => ?_) | (refine s_lelt ?_ ?_; omega) | (refine s_lt ?_ ?_; omega) | (refine s_le ?_ ?_; omega)) <;>
    (try simp -implicitDefEqProofs (disch := first | assumption | omega) only [sx, sb, sd, se, xwpStep, xwpOp, xwpInt, opEv, xres, oneOf, Nat.reduceAdd, Nat.reduceEqDiff, Nat.reduceSub, ↓reduceIte, reduceCtorEq, wrap_i64, *]))

theorem sort_none (x : V) (lim : Int) (f : V) (h : Heap) : EvCall xprog H0 81 [x, .int .i64 0, .int .i64 0, .int .i64 lim, f] h fun v h' => h' = h := by
  refine s_call (fn := xf81) rfl (H0_call ?_) ?_
  · have e2 : sortHook 81 67 (.call false 81 [x, .int .i64 0, .int .i64 0, .int .i64 lim, f] h) = none := by
      unfold sortHook
      split
      · rename_i heq
        cases heq
        split
        · rfl
        · rename_i hb
          simp only [Bool.and_eq_true, decide_eq_true_eq] at hb
          omega
      · rfl
    have e3 : bitsHook 78 (.call false 81 [x, .int .i64 0, .int .i64 0, .int .i64 lim, f] h) = none := by
      unfold bitsHook
      split
      · rename_i heq; cases heq
      · rfl
    unfold Hb orElse
    rw [e2]
    first
      | exact e3
      | (simp only; rw [e3]; exact sorted_off rfl ..)
  simp -implicitDefEqProofs only [xf81, argsFrom_cons, argsFrom_nil]
  repeat' ((first | refine s_line rfl ?_ | refine s_end rfl ?_ | refine s_seq ?_ | refine s_region ?_ | refine s_block ?_ | refine s_cond ?_ | refine s_ret ?_ | refine s_skip ?_ | refine s_exit ?_ | refine s_if (fun hif => ?_) (fun hif => ?_) | refine condB_dec (fun hif => ?_) (fun hif => ?_) | refine condB_of (fun hif => ?_) (fun hif => ?_) | (refine s_lelt ?_ ?_; omega) | (refine s_lt ?_ ?_; omega) | (refine s_le ?_ ?_; omega)) <;>
    (try simp -implicitDefEqProofs (disch := first | assumption | omega) only [sx, sb, sd, se, xwpStep, xwpOp, xwpInt, opEv, xres, oneOf, Nat.reduceAdd, Nat.reduceEqDiff, Nat.reduceSub, ↓reduceIte, reduceCtorEq, wrap_i64, *]))
  refine s_while (fun n t d h' => slotOf t 0 = x ∧ slotOf t 1 = .int .i64 0 ∧ slotOf t 2 = .int .i64 0 ∧ slotOf t 4 = f ∧ d = [] ∧ h' = h) (fun _ _ _ => free_code ..) 0 ⟨by simp [slotOf_set], by simp [slotOf_set], by simp [slotOf_set], by simp [slotOf_set], rfl, rfl⟩ ?_
  rintro n t d h' ⟨a1, a2, a3, a4, rfl, rfl⟩
  repeat' ((first | refine s_line rfl ?_ | refine s_end rfl ?_ | refine s_seq ?_ | refine s_region ?_ | refine s_block ?_ | refine s_cond ?_ | refine s_ret ?_ | refine s_skip ?_ | refine s_exit ?_ | refine s_if (fun hif => ?_) (fun hif => ?_) | refine condB_dec (fun hif => ?_) (fun hif => ?_) | refine condB_of (fun hif => ?_) (fun hif => ?_) | (refine s_lelt ?_ ?_; omega) | (refine s_lt ?_ ?_; omega) | (refine s_le ?_ ?_; omega) | ((refine evApply_call (insertion_none _ _ _) ?_; rintro _ _ rfl))) <;>
    (try simp -implicitDefEqProofs (disch := first | assumption | omega) only [sx, sb, sd, se, xwpStep, xwpOp, xwpInt, opEv, xres, oneOf, Nat.reduceAdd, Nat.reduceEqDiff, Nat.reduceSub, ↓reduceIte, reduceCtorEq, wrap_i64, *]))

theorem litsOf_own {xs : List Int} (hx : ∀ x ∈ xs, I32ok x) : litsOf (xs.map (.int .i32)) = some xs := litsOf_map hx

theorem ones_ints {k : IntKind} (xs : List Int) : (xs.map (V.int k)).all V.one = true := by
  rw [List.all_eq_true]
  intro x hx
  obtain ⟨n, _, rfl⟩ := List.mem_map.1 hx
  rfl

theorem sort_some {h : Heap} {o g : Nat} {r : List Nat} {xs : List Int} (hg : h.get o = some (grownObj (xs.map (.int .i32)) g r 1)) (hx : ∀ x ∈ xs, I32ok x) (hp : 0 < xs.length) (hl : xs.length ≤ 1000000000) (lim : Nat) (hlim : lim ≤ 4611686018427387903) :
    EvCall xprog H0 81 [.slice o g 0 xs.length (.rest 0 1), .int .i64 0, .int .i64 xs.length, .int .i64 lim, .func 67 [] []] h fun v h' => h' = h.put o (grownObj ((sortLits xs).map (.int .i32)) g [] 1) := by
  obtain ⟨k, hk⟩ : ∃ k, xs.length = k + 1 := ⟨xs.length - 1, by omega⟩
  have hsl : (sortLits xs).length = xs.length := (sortLits_perm xs).length_eq
  have hrd : readCells h o g 0 (k + 1) = some (xs.map (.int .i32)) := by
    rw [readCells_grown hg (by simp; omega), List.drop_zero, List.take_of_length_le (by simp; omega)]
  have hwr : writeCells h o g 0 ((sortLits xs).map (.int .i32)) = some (h.put o (grownObj ((sortLits xs).map (.int .i32)) g [] 1)) := writeCells_grown hg (by simp [hsl]) (ones_ints _)
  rw [hk]
  have e2 : sortHook 81 67 (.call false 81 [.slice o g 0 (k + 1) (.rest 0 1), .int .i64 0, .int .i64 ((k + 1 : Nat) : Int), .int .i64 (lim : Int), .func 67 [] []] h) = some (.call (.tup []) (h.put o (grownObj ((sortLits xs).map (.int .i32)) g [] 1))) := by
    have c1 : (Nat.beq 81 81 && Nat.beq 67 67 && decide ((0 : Int) = 0) && decide (((k + 1 : Nat) : Int) = ((k + 1 : Nat) : Int)) && Nat.ble lim 4611686018427387903) = true := by
      simp [Nat.ble_eq_true_of_le hlim]
    show (match (Nat.beq _ _ && Nat.beq _ _ && decide _ && decide _ && Nat.ble lim 4611686018427387903) with | false => none | true => _) = _
    rw [c1]
    simp only
    rw [hrd]
    simp only
    rw [litsOf_map hx]
    have c2 : Nat.ble (k + 1) 4611686018427387903 = true := Nat.ble_eq_true_of_le (by omega)
    rw [c2]
    simp only
    rw [hwr]
  refine ⟨1, .tup [], _, ?_, rfl⟩
  have : H0 (.call false 81 [.slice o g 0 (k + 1) (.rest 0 1), .int .i64 0, .int .i64 ((k + 1 : Nat) : Int), .int .i64 (lim : Int), .func 67 [] []] h) = some (.call (.tup []) (h.put o (grownObj ((sortLits xs).map (.int .i32)) g [] 1))) := by
    refine H0_some ?_
    unfold Hb orElse
    rw [e2]
  simp only [ev, evStep, this]

/-- slices.SortFunc of a row of one's own. -/
theorem SortFunc_ok {b : Nat} {h : Heap} {v : V} {xs : List Int} (hv : Own b h v (xs.map (.int .i32))) (hx : ∀ x ∈ xs, I32ok x) (hl : xs.length ≤ 1000000000) :
    EvCall xprog H0 66 [v, .func 67 [] []] h fun _ h' => Own b h' v ((sortLits xs).map (.int .i32)) ∧ But (fun o => b ≤ o) h h' := by
  refine s_call (fn := xf66) rfl (free _ rfl ..) ?_
  have hsl : (sortLits xs).length = xs.length := (sortLits_perm xs).length_eq
  have hrow := hv.row
  have hlen := hv.len
  simp only [List.length_map] at hlen
  have hwrap : IntKind.u64.wrap (xs.length : Int) = xs.length := by simp [IntKind.wrap, IntKind.bits, IntKind.signed]; omega
  have bl := bits_ok xs.length (by omega)
  rcases hv with ⟨h0, h1⟩ | ⟨o, g, r, hb, hlt, rfl, hg⟩
  · have : xs = [] := by simpa using h0
    subst this
    simp -implicitDefEqProofs only [xf66, argsFrom_cons, argsFrom_nil]
    repeat' ((first | refine s_line rfl ?_ | refine s_end rfl ?_ | refine s_seq ?_ | refine s_region ?_ | refine s_block ?_ | refine s_cond ?_ | refine s_ret ?_ | refine s_skip ?_ | refine s_exit ?_ | refine s_if (fun hif => ?_) (fun hif => ?_) | refine condB_dec (fun hif => ?_) (fun hif => ?_) | refine condB_of (fun hif => ?_) (fun hif => ?_) | (refine s_lelt ?_ ?_; omega) | (refine s_lt ?_ ?_; omega) | (refine s_le ?_ ?_; omega) | (refine (evCall_iff (bl _)).2 ?_) | ((refine evApply_call (sort_none _ _ _ _) ?_; rintro _ _ rfl))) <;>
      (try simp -implicitDefEqProofs (disch := first | assumption | omega) only [sx, sb, sd, se, xwpStep, xwpOp, xwpInt, opEv, xres, oneOf, Nat.reduceAdd, Nat.reduceEqDiff, Nat.reduceSub, ↓reduceIte, reduceCtorEq, hwrap, *]))
    exact ⟨.inl ⟨rfl, h1⟩, But.refl _ _⟩
  · have hlm : (xs.map (V.int .i32)).length = xs.length := by simp
    have hls : ((sortLits xs).map (V.int .i32)).length = xs.length := by simp [hsl]
    rw [hlm] at hrow hlen ⊢
    have hpos : 0 < xs.length → EvCall xprog H0 81 [.slice o g 0 xs.length (.rest 0 1), .int .i64 0, .int .i64 xs.length, .int .i64 (Lib.bitLen xs.length), .func 67 [] []] h fun v h' => h' = h.put o (grownObj ((sortLits xs).map (.int .i32)) g [] 1) := fun hp => sort_some hg hx hp hl _ (by
      have := Lib.bitLen_le xs.length 62 (by omega) (by omega)
      omega)
    by_cases hp : 0 < xs.length
    · have hs := hpos hp
      simp -implicitDefEqProofs only [xf66, argsFrom_cons, argsFrom_nil]
      repeat' ((first | refine s_line rfl ?_ | refine s_end rfl ?_ | refine s_seq ?_ | refine s_region ?_ | refine s_block ?_ | refine s_cond ?_ | refine s_ret ?_ | refine s_skip ?_ | refine s_exit ?_ | refine s_if (fun hif => ?_) (fun hif => ?_) | refine condB_dec (fun hif => ?_) (fun hif => ?_) | refine condB_of (fun hif => ?_) (fun hif => ?_) | (refine s_lelt ?_ ?_; omega) | (refine s_lt ?_ ?_; omega) | (refine s_le ?_ ?_; omega) | (refine (evCall_iff (bl _)).2 ?_) | ((refine evApply_call hs ?_; rintro _ _ rfl))) <;>
        (try simp -implicitDefEqProofs (disch := first | assumption | omega) only [sx, sb, sd, se, xwpStep, xwpOp, xwpInt, opEv, xres, oneOf, Nat.reduceAdd, Nat.reduceEqDiff, Nat.reduceSub, ↓reduceIte, reduceCtorEq, hwrap, *]))
      refine ⟨.inr ⟨o, g, [], hb, hlt, by rw [hls], by rw [Heap.get_put, if_pos rfl]⟩, Nat.le_refl _, fun o' ho' hq => ?_⟩
      rw [Heap.get_put, if_neg]
      rintro rfl
      exact hq hb
    · have : xs = [] := List.eq_nil_of_length_eq_zero (by omega)
      subst this
      simp -implicitDefEqProofs only [xf66, argsFrom_cons, argsFrom_nil]
      repeat' ((first | refine s_line rfl ?_ | refine s_end rfl ?_ | refine s_seq ?_ | refine s_region ?_ | refine s_block ?_ | refine s_cond ?_ | refine s_ret ?_ | refine s_skip ?_ | refine s_exit ?_ | refine s_if (fun hif => ?_) (fun hif => ?_) | refine condB_dec (fun hif => ?_) (fun hif => ?_) | refine condB_of (fun hif => ?_) (fun hif => ?_) | (refine s_lelt ?_ ?_; omega) | (refine s_lt ?_ ?_; omega) | (refine s_le ?_ ?_; omega) | (refine (evCall_iff (bl _)).2 ?_) | ((refine evApply_call (sort_none _ _ _ _) ?_; rintro _ _ rfl))) <;>
        (try simp -implicitDefEqProofs (disch := first | assumption | omega) only [sx, sb, sd, se, xwpStep, xwpOp, xwpInt, opEv, xres, oneOf, Nat.reduceAdd, Nat.reduceEqDiff, Nat.reduceSub, ↓reduceIte, reduceCtorEq, hwrap, *]))
      exact ⟨.inr ⟨o, g, r, hb, hlt, rfl, hg⟩, But.refl _ _⟩
end Go.Proofs.Ytmkbnbpblhoekaa
