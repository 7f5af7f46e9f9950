/- slices.Compact, slices.Clip; cnf.Normal. -/
import Derived.Test.YtmkbnbpblhoekaaVCk2
set_option linter.unusedSimpArgs false
set_option linter.unusedVariables false
set_option linter.unusedSectionVars false
namespace Go.Proofs.Ytmkbnbpblhoekaa
open Go.Xr

/-- What is left of the first p of a row where of equal ones that stand together one stays. -/
def cpt (xs : List Int) : Nat → List Int
  | 0 => []
  | p + 1 => if p ≠ 0 ∧ xs.getD p 0 = xs.getD (p - 1) 0 then cpt xs p else cpt xs p ++ [xs.getD p 0]

/-- A fact that simp leaves alone. -/
def Kept (p : Prop) : Prop := p

theorem cpt_len (xs : List Int) : ∀ p, (cpt xs p).length ≤ p
  | 0 => Nat.le_refl _
  | p + 1 => by
    have := cpt_len xs p
    unfold cpt
    split
    · omega
    · simp; omega

/-- A row of one's own, or what is ahead in one. -/
def OwnP (b : Nat) (h : Heap) (v : V) (ys : List V) : Prop := (ys = [] ∧ (v = .nils ∨ ∃ o g off, v = .slice o g off 0 (.exact 0))) ∨ ∃ o g r cs, b ≤ o ∧ o < h.next ∧ v = .slice o g 0 ys.length (.rest 0 1) ∧ h.get o = some (grownObj cs g r 1) ∧ cs.take ys.length = ys ∧ ys.length ≤ cs.length

set_option maxHeartbeats 4000000 in
theorem Compact_ok {b : Nat} {h : Heap} {v : V} {xs : List Int} (hv : Own b h v (xs.map (.int .i32))) (hl : xs.length ≤ 1000000000) :
    EvCall xprog H0 68 [v] h fun v' h' => OwnP b h' v' ((cpt xs xs.length).map (.int .i32)) ∧ But (fun o => b ≤ o) h h' := by
  refine s_call (fn := xf68) rfl (free _ rfl ..) ?_
  have hrow := hv.row
  have hlen := hv.len
  simp only [List.length_map] at hlen
  by_cases h2 : xs.length < 2
  · have hsame : cpt xs xs.length = xs := by
      match xs, h2 with
      | [], _ => rfl
      | [x], _ => rfl
    simp -implicitDefEqProofs only [xf68, argsFrom_cons, argsFrom_nil]
    repeat' ((first | refine s_line rfl ?_ | refine s_end rfl ?_ | refine s_seq ?_ | refine s_region ?_ | refine s_block ?_ | refine s_cond ?_ | refine s_ret ?_ | refine s_skip ?_ | refine s_exit ?_ | refine s_if (fun hif => ?_) (fun hif => ?_) | refine condB_dec (fun hif => ?_) (fun hif => ?_) | refine condB_of (fun hif => ?_) (fun hif => ?_) | (refine s_lelt ?_ ?_; omega) | (refine s_lt ?_ ?_; omega) | (refine s_le ?_ ?_; omega)) <;>
      (try simp -implicitDefEqProofs (disch := first | assumption | omega) only [sx, sb, sd, se, xwpStep, xwpOp, xwpInt, opEv, xres, oneOf, Nat.reduceAdd, Nat.reduceEqDiff, Nat.reduceSub, ↓reduceIte, reduceCtorEq, *]))
    · refine ⟨?_, But.refl _ _⟩
      rcases hv with ⟨h0, h1⟩ | ⟨o, g, r, hb, hlt, rfl, hg⟩
      · exact .inl ⟨h0, h1⟩
      · exact .inr ⟨o, g, r, _, hb, hlt, rfl, hg, List.take_of_length_le (Nat.le_refl _), Nat.le_refl _⟩
    · exfalso; omega
  · rcases hv with ⟨h0, h1⟩ | ⟨o, g, r, hb, hlt, rfl, hg⟩
    · simp at h0; subst h0; simp at h2
    · have hlm : (xs.map (V.int .i32)).length = xs.length := by simp
      rw [hlm] at hrow hlen ⊢
      simp -implicitDefEqProofs only [xf68, argsFrom_cons, argsFrom_nil]
      repeat' ((first | refine s_line rfl ?_ | refine s_end rfl ?_ | refine s_seq ?_ | refine s_region ?_ | refine s_block ?_ | refine s_cond ?_ | refine s_ret ?_ | refine s_skip ?_ | refine s_exit ?_ | refine s_if (fun hif => ?_) (fun hif => ?_) | refine condB_dec (fun hif => ?_) (fun hif => ?_) | refine condB_of (fun hif => ?_) (fun hif => ?_) | (refine s_lelt ?_ ?_; omega) | (refine s_lt ?_ ?_; omega) | (refine s_le ?_ ?_; omega)) <;>
        (try simp -implicitDefEqProofs (disch := first | assumption | omega) only [sx, sb, sd, se, xwpStep, xwpOp, xwpInt, opEv, xres, oneOf, Nat.reduceAdd, Nat.reduceEqDiff, Nat.reduceSub, ↓reduceIte, reduceCtorEq, *]))
      · exfalso; omega
      refine s_while (fun n t d h' => ∃ i : Nat, i + n = xs.length ∧ 1 ≤ i ∧ slotOf t 3 = .int .i64 i ∧ slotOf t 0 = .slice o g 0 xs.length (.rest 0 1) ∧ d = [] ∧ h' = h ∧ cpt xs i = xs.take i) (fun _ _ _ => free_code ..) (xs.length - 1) ⟨1, by omega, by omega, by simp [slotOf_set], by simp [slotOf_set], rfl, rfl, by
        match xs, h2 with
        | [], h2 => simp at h2
        | x :: xs, _ => rfl⟩ ?_
      rintro n t d h' ⟨i, a1, a1', a2, a3, rfl, rfl, a4⟩
      have rx : ∀ (j : Nat) (hj : j < xs.length), readCells h' o g j 1 = some [.int .i32 (xs[j])] := fun j hj => by
        rw [readCells_grown hg (by simp; omega), List.drop_eq_getElem_cons (by simpa using hj)]
        simp
      have rx1 : i < xs.length → readCells h' o g i 1 = some [.int .i32 (xs.getD i 0)] := fun hi => by rw [rx i hi]; simp [hi]
      have rx2 : i < xs.length → readCells h' o g (i - 1) 1 = some [.int .i32 (xs.getD (i - 1) 0)] := fun hi => by rw [rx (i - 1) (by omega)]; simp [show i - 1 < xs.length by omega]
      have et : ((i : Int) - 1).toNat = i - 1 := by omega
      repeat' ((first | refine s_line rfl ?_ | refine s_end rfl ?_ | refine s_seq ?_ | refine s_region ?_ | refine s_block ?_ | refine s_cond ?_ | refine s_ret ?_ | refine s_skip ?_ | refine s_exit ?_ | refine s_if (fun hif => ?_) (fun hif => ?_) | refine condB_dec (fun hif => ?_) (fun hif => ?_) | refine condB_of (fun hif => ?_) (fun hif => ?_) | (refine s_lelt ?_ ?_; omega) | (refine s_lt ?_ ?_; omega) | (refine s_le ?_ ?_; omega) | (refine x_slc_lo (by omega) (by omega) ?_)) <;>
        (try simp -implicitDefEqProofs (disch := first | assumption | omega) only [sx, sb, sd, se, xwpStep, xwpOp, xwpInt, opEv, xres, oneOf, Nat.reduceAdd, Nat.reduceEqDiff, Nat.reduceSub, ↓reduceIte, reduceCtorEq, wrap_i64, Nat.zero_add, Int.toNat_natCast, et, objS, genS, offS, lenS, rowS, *]))
      · have hi : i < xs.length := by omega
        have hd : xs.getD i 0 = xs.getD (i - 1) 0 := by simpa [hi, show i - 1 < xs.length by omega] using hif
        have hc1 : cpt xs (i + 1) = cpt xs i := by
          rw [cpt, if_pos ⟨by omega, hd⟩]
        have hlx : (xs.take i).length = i := by simp; omega
        refine s_while (fun n t d h2 => ∃ (q k : Nat) (cs : List Int) (r2 : List Nat), i + q + n = xs.length ∧ 1 ≤ q ∧ slotOf t 5 = .int .i64 q ∧ slotOf t 3 = .int .i64 k ∧ slotOf t 0 = .slice o g 0 xs.length (.rest 0 1) ∧ slotOf t 4 = .slice o g i (xs.length - i) (.rest i 1) ∧ d = [] ∧ h2.next = h'.next ∧ (∀ o', o' ≠ o → h2.get o' = h'.get o') ∧ h2.get o = some (grownObj (cs.map (.int .i32)) g r2 1) ∧ cs.length = xs.length ∧ k + 1 ≤ i + q ∧ k = (cpt xs (i + q)).length ∧ cs.take k = cpt xs (i + q) ∧ ∀ j, i + q ≤ j + 1 → cs.getD j 0 = xs.getD j 0) (fun _ _ _ => free_code ..) (xs.length - (i + 1))
          ⟨1, i, xs, r, by omega, by omega, by simp [slotOf_set], by simp [slotOf_set, a2], by simp [slotOf_set, a3], by simp [slotOf_set], rfl, rfl, fun _ _ => rfl, hg, rfl, by omega, by rw [hc1, a4, hlx], by rw [hc1, a4], fun _ _ => rfl⟩ ?_
        rintro n2 t2 d2 h2 ⟨q, k, cs, r2, b1, b2, b3, b4, b5, b6, rfl, b7, b8, b9, b10, b11, b12, b13, b14⟩
        have ry : ∀ (j : Nat), j < xs.length → readCells h2 o g j 1 = some [.int .i32 (cs.getD j 0)] := fun j hj => by
          rw [readCells_grown b9 (by simp; omega), List.drop_eq_getElem_cons (by simp; omega)]
          simp [show j < cs.length by omega]
        have ry1 : i + q < xs.length → readCells h2 o g (i + q) 1 = some [.int .i32 (xs.getD (i + q) 0)] := fun hq => by rw [ry _ hq, b14 _ (by omega)]
        have ry2 : i + q < xs.length → readCells h2 o g (i + (q - 1)) 1 = some [.int .i32 (xs.getD (i + q - 1) 0)] := fun hq => by rw [ry _ (by omega), b14 _ (by omega), show i + (q - 1) = i + q - 1 by omega]
        have ew : i + q < xs.length → writeCells h2 o g k [.int .i32 (xs.getD (i + q) 0)] = some (h2.put o (grownObj ((cs.map (V.int .i32)).set k (.int .i32 (xs.getD (i + q) 0))) g [] 1)) := fun hq => writeCell_grown b9 (by simp; omega) rfl
        have hrl : (repl (xs.length - k) [V.int .i32 0]).length = xs.length - k := by simp [repl]
        have hro : (repl (xs.length - k) [V.int .i32 0]).all V.one = true := by
          rw [List.all_eq_true]
          intro x hx
          simp only [repl, List.mem_flatten, List.mem_replicate] at hx
          obtain ⟨l, ⟨_, rfl⟩, hx⟩ := hx
          rw [List.mem_singleton.1 hx]
          rfl
        have hclr : writeCells h2 o g k (repl (xs.length - k) [V.int .i32 0]) = some (h2.put o (grownObj ((cs.map (V.int .i32)).take k ++ repl (xs.length - k) [V.int .i32 0]) g [] 1)) := writeTail_grown b9 (by rw [hrl]; simp; omega) hro
        have et2 : ((q : Int) - 1).toNat = q - 1 := by omega
        have kb : Kept (k = (cpt xs (i + q)).length ∧ cs.take k = cpt xs (i + q) ∧ ∀ j, i + q ≤ j + 1 → cs.getD j 0 = xs.getD j 0) := ⟨b12, b13, b14⟩
        clear b12 b13 b14 ry
        repeat' ((first | refine s_line rfl ?_ | refine s_end rfl ?_ | refine s_seq ?_ | refine s_region ?_ | refine s_block ?_ | refine s_cond ?_ | refine s_ret ?_ | refine s_skip ?_ | refine s_exit ?_ | refine s_if (fun hif => ?_) (fun hif => ?_) | refine condB_dec (fun hif => ?_) (fun hif => ?_) | refine condB_of (fun hif => ?_) (fun hif => ?_) | (refine s_lelt ?_ ?_; omega) | (refine s_lt ?_ ?_; omega) | (refine s_le ?_ ?_; omega) | (refine x_slc_lo (by omega) (by omega) ?_) | (refine x_slc_hi (by omega) (by omega) ?_) | (refine x_clear (fun h0 => absurd h0 (by omega)) (fun _ => ⟨_, hclr, ?_⟩))) <;>
          (try simp -implicitDefEqProofs (disch := first | assumption | omega) only [sx, sb, sd, se, xwpStep, xwpOp, xwpInt, opEv, xres, oneOf, Nat.reduceAdd, Nat.reduceEqDiff, Nat.reduceSub, ↓reduceIte, reduceCtorEq, wrap_i64, Nat.zero_add, Int.toNat_natCast, et2, objS, genS, offS, lenS, rowS, List.length_cons, List.length_nil, *]))
        · obtain ⟨c1, c2, c3⟩ := kb
          have hq : i + q < xs.length := by omega
          have hst : cpt xs (i + q + 1) = cpt xs (i + q) ++ [xs.getD (i + q) 0] := by
            rw [cpt, if_neg]
            rintro ⟨_, h⟩
            simp only [Bool.not_eq_true', decide_eq_false_iff_not] at hif
            exact hif h
          refine ⟨n2 - 1, by omega, q + 1, k + 1, cs.set k (xs.getD (i + q) 0), [], by omega, by omega, by simp, by simp, b7, fun o' ho' => by rw [Heap.get_put, if_neg ho']; exact b8 o' ho', by rw [Heap.get_put, if_pos rfl, List.map_set], by simpa using b10, by omega, ?_, ?_, fun j hj => ?_⟩
          · rw [← Nat.add_assoc, hst, List.length_append, ← c1]; rfl
          · rw [← Nat.add_assoc, hst, List.take_add_one, List.take_set, List.set_eq_of_length_le (by simp; omega), c2, List.getElem?_set_self (by omega)]
            rfl
          · rw [← c3 j (by omega), List.getD_eq_getElem?_getD, List.getElem?_set_ne (by omega), List.getD_eq_getElem?_getD]
        · obtain ⟨c1, c2, c3⟩ := kb
          have hq : i + q < xs.length := by omega
          have hst : cpt xs (i + q + 1) = cpt xs (i + q) := by
            simp only [Bool.not_eq_false', decide_eq_true_eq] at hif
            rw [cpt, if_pos ⟨by omega, hif⟩]
          exact ⟨n2 - 1, by omega, q + 1, k, cs, r2, by omega, by omega, by simp, rfl, b8, rfl, b10, by omega, by rw [← Nat.add_assoc, hst]; exact c1, by rw [← Nat.add_assoc, hst]; exact c2, fun j hj => c3 j (by omega)⟩
        · obtain ⟨c1, c2, c3⟩ := kb
          have hq : i + q = xs.length := by omega
          rw [hq] at c1 c2
          have hly : ((cpt xs xs.length).map (V.int .i32)).length = k := by simp [c1]
          have hkl : k ≤ cs.length := by omega
          refine ⟨.inr ⟨o, g, [], _, hb, ?_, by rw [hly], by rw [Heap.get_put, if_pos rfl], ?_, ?_⟩, ?_, fun o' ho' hs => ?_⟩
          · show o < h2.next
            omega
          · rw [hly, List.take_append_of_le_length (by simp; omega), List.take_take, Nat.min_self, ← List.map_take, c2]
          · rw [hly]
            simp
            omega
          · show h'.next ≤ h2.next
            omega
          · have hne : o' ≠ o := by rintro rfl; exact hs hb
            rw [Heap.get_put, if_neg hne]
            exact b8 o' hne
      · have hi : i < xs.length := by omega
        have hst : cpt xs (i + 1) = cpt xs i ++ [xs.getD i 0] := by
          rw [cpt, if_neg]
          rintro ⟨_, h⟩
          refine hif ?_
          simpa [hi, show i - 1 < xs.length by omega] using h
        refine ⟨n - 1, by omega, i + 1, by omega, by omega, by simp, ?_⟩
        rw [hst, a4, List.take_add_one]
        simp [hi]
      · have hi : i = xs.length := by omega
        rw [hi, List.take_length] at a4
        rw [a4]
        exact ⟨.inr ⟨o, g, r, _, hb, hlt, by rw [hlm], hg, List.take_of_length_le (Nat.le_refl _), Nat.le_refl _⟩, But.refl _ _⟩
end Go.Proofs.Ytmkbnbpblhoekaa
