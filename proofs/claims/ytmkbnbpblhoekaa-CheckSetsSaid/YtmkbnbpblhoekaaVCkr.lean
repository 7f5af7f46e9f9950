/- In ranges over maps: Contains; slots of which less is told. -/
import Derived.Test.YtmkbnbpblhoekaaVCkq
set_option linter.unusedSimpArgs false
set_option linter.unusedVariables false
set_option linter.unusedSectionVars false
namespace Go.Proofs.Ytmkbnbpblhoekaa
open Go.Xr Go.Chk

/-- slices.Index: at or above 0 just where it is in the row. -/
theorem Index_okb {h : Heap} {c : V} {xs : List Int} (hc : Sl h c (xs.map (.int .i32))) (hlen : xs.length ≤ 9223372036854775806) (l : Int) : EvCall xprog Hb 85 [c, .int .i32 l] h fun v h' => (∃ r : Int, v = .int .i64 r ∧ (0 ≤ r ↔ l ∈ xs)) ∧ h' = h := by
  refine s_call (fn := xf85) rfl (freeb _ rfl ..) ?_
  have hl := hc.len
  have hr := hc.row
  simp only [List.length_map] at hl
  simp -implicitDefEqProofs only [xf85, argsFrom_cons, argsFrom_nil]
  repeat' ((first | refine s_line rfl ?_ | refine s_end rfl ?_ | refine s_seq ?_ | refine s_region ?_ | refine s_block ?_ | refine s_cond ?_ | refine s_ret ?_ | refine s_skip ?_ | refine s_exit ?_ | refine s_if (fun hif => ?_) (fun hif => ?_) | refine condB_dec (fun hif => ?_) (fun hif => ?_) | refine condB_of (fun hif => ?_) (fun hif => ?_) | (refine s_lelt ?_ ?_; omega) | (refine s_lt ?_ ?_; omega) | (refine s_le ?_ ?_; omega)) <;>
    (try simp -implicitDefEqProofs (disch := first | assumption | omega) only [sx, sb, sd, se, xwpStep, xwpOp, xwpInt, opEv, xres, oneOf, Nat.reduceAdd, Nat.reduceEqDiff, Nat.reduceSub, ↓reduceIte, reduceCtorEq, wrap_i64, *]))
  refine s_while (fun n t d h' => ∃ i : Nat, i + n = xs.length ∧ slotOf t 8 = .int .i64 i ∧ slotOf t 7 = .int .i64 xs.length ∧ slotOf t 0 = c ∧ slotOf t 1 = .int .i32 l ∧ d = [] ∧ h' = h ∧ ∀ j (hj : j < xs.length), j < i → xs[j] ≠ l) (fun _ _ _ => freeb_code ..) xs.length ⟨0, by omega, by simp [slotOf_set], by simp [slotOf_set], by simp [slotOf_set], by simp [slotOf_set], rfl, rfl, fun j _ hj => by omega⟩ ?_
  rintro n t d h' ⟨i, a1, a2, a2', a3, a4, rfl, rfl, a5⟩
  have rx : ∀ (hi : i < xs.length), readCells h' (objS c) (genS c) (offS c + i) 1 = some [.int .i32 (xs[i])] := fun hi => Sl.lit hc hi
  repeat' ((first | refine s_line rfl ?_ | refine s_end rfl ?_ | refine s_seq ?_ | refine s_region ?_ | refine s_block ?_ | refine s_cond ?_ | refine s_ret ?_ | refine s_skip ?_ | refine s_exit ?_ | refine s_if (fun hif => ?_) (fun hif => ?_) | refine condB_dec (fun hif => ?_) (fun hif => ?_) | refine condB_of (fun hif => ?_) (fun hif => ?_) | (refine s_lelt ?_ ?_; omega) | (refine s_lt ?_ ?_; omega) | (refine s_le ?_ ?_; omega)) <;>
    (try simp -implicitDefEqProofs (disch := first | assumption | omega) only [sx, sb, sd, se, xwpStep, xwpOp, xwpInt, opEv, xres, oneOf, Nat.reduceAdd, Nat.reduceEqDiff, Nat.reduceSub, ↓reduceIte, reduceCtorEq, wrap_i64, Nat.zero_add, Int.toNat_natCast, *]))
  · exact ⟨_, rfl, fun _ => by subst hif; exact List.getElem_mem _, fun _ => by omega⟩
  · refine ⟨n - 1, by omega, i + 1, by omega, by simp, fun j hj hlt => ?_⟩
    rcases Nat.lt_succ_iff_lt_or_eq.1 hlt with h | rfl
    · exact a5 j hj h
    · exact fun e => hif e.symm
  · refine ⟨_, rfl, fun h => by omega, fun hm => ?_⟩
    obtain ⟨j, hj, e⟩ := List.getElem_of_mem hm
    exact absurd e (a5 j hj (by omega))

theorem Contains_okb {h : Heap} {c : V} {xs : List Int} (hc : Sl h c (xs.map (.int .i32))) (hlen : xs.length ≤ 9223372036854775806) (l : Int) : EvCall xprog Hb 74 [c, .int .i32 l] h fun v h' => v = .bool (decide (l ∈ xs)) ∧ h' = h := by
  refine s_call (fn := xf74) rfl (freeb _ rfl ..) ?_
  have hr := hc.row
  simp -implicitDefEqProofs only [xf74, argsFrom_cons, argsFrom_nil]
  repeat' ((first | refine s_line rfl ?_ | refine s_end rfl ?_ | refine s_seq ?_ | refine s_region ?_ | refine s_block ?_ | refine s_cond ?_ | refine s_ret ?_ | refine s_skip ?_ | refine s_exit ?_ | refine s_if (fun hif => ?_) (fun hif => ?_) | refine condB_dec (fun hif => ?_) (fun hif => ?_) | refine condB_of (fun hif => ?_) (fun hif => ?_) | (refine s_lelt ?_ ?_; omega) | (refine s_lt ?_ ?_; omega) | (refine s_le ?_ ?_; omega) | ((refine evApply_call (Index_okb hc hlen l) ?_; rintro _ _ ⟨⟨r, rfl, hr⟩, rfl⟩))) <;>
    (try simp -implicitDefEqProofs (disch := first | assumption | omega) only [sx, sb, sd, se, xwpStep, xwpOp, xwpInt, opEv, xres, oneOf, Nat.reduceAdd, Nat.reduceEqDiff, Nat.reduceSub, ↓reduceIte, reduceCtorEq, *]))


theorem slotOf_anyAll (l : List Nat) : ∀ (t : Tr V) (i : Nat), slotOf (anyAll t l) i = if i ∈ l then .any else slotOf t i := by
  induction l with
  | nil => intro t i; rfl
  | cons a l ih =>
    intro t i
    rw [anyAll, ih, slotOf_set]
    by_cases h1 : i ∈ l
    · rw [if_pos h1, if_pos (List.mem_cons_of_mem _ h1)]
    · rw [if_neg h1]
      by_cases h2 : i = a
      · rw [if_pos h2, if_pos (h2 ▸ List.mem_cons_self)]
      · rw [if_neg h2, if_neg (by rw [List.mem_cons]; exact fun q => q.elim h2 h1)]
theorem tfits_any {t t' : Tr V} {l : List Nat} (h1 : ∀ i, i ∉ l → slotOf t' i = slotOf t i) (h2 : ∀ i ∈ l, vFits (slotOf t' i) .any = true) : TFits t' (anyAll t l) := fun i => by
  rw [slotOf_anyAll]
  by_cases h : i ∈ l
  · rw [if_pos h]; exact h2 i h
  · rw [if_neg h, h1 i h]; exact vFits_refl _
theorem hfits_dead {g h : Heap} {oi : Nat} (h1 : ∀ x, x ≠ oi → h.get x = g.get x) (h2 : h.next = g.next) (h3 : oi < g.next) : HFits h (g.put oi (.dead true)) := ⟨by rw [h2]; exact Nat.le_refl _, fun o => by
  by_cases ho : o = oi
  · subst ho
    exact .inr (.inr ⟨by rw [Heap.get_put, if_pos rfl], h3⟩)
  · exact .inl (by rw [Heap.get_put, if_neg ho, h1 o ho])⟩
theorem find_mem : ∀ {es : List (Int × List Int)}, (es.map Prod.fst).Pairwise (· < ·) → ∀ {id : Int} {l : List Int}, (id, l) ∈ es → find es id = some l
  | [], _, _, _, h => by cases h
  | (i, k) :: r, hp, id, l, h => by
    rw [List.map_cons, List.pairwise_cons] at hp
    unfold find
    rcases List.mem_cons.1 h with e | h
    · cases e
      rw [if_pos rfl]
    · have := hp.1 id (List.mem_map.2 ⟨_, h, rfl⟩)
      simp only at this
      rw [if_neg (by omega)]
      exact find_mem hp.2 h
theorem hasKey_mem : ∀ {ces : List (Int × V)} {k : Int} {v : V}, hasKey k ces = some v → (k, v) ∈ ces
  | [], _, _, h => by cases h
  | (a, x) :: r, k, v, h => by
    unfold hasKey at h
    by_cases e : a = k
    · rw [decide_eq_true e] at h
      cases h
      subst e
      exact List.mem_cons_self
    · rw [decide_eq_false e] at h
      exact List.mem_cons_of_mem _ (hasKey_mem h)
end Go.Proofs.Ytmkbnbpblhoekaa
