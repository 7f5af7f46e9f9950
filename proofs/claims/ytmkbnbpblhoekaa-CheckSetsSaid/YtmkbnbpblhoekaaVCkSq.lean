/- A clause's normal form is the same set; has it a literal and its negation? -/
import Derived.Test.YtmkbnbpblhoekaaVCk8
import Derived.Test.YtmkbnbpblhoekaaW3
set_option linter.unusedSimpArgs false
set_option linter.unusedVariables false
set_option linter.unusedSectionVars false
namespace Go.Proofs.Ytmkbnbpblhoekaa
open Go.Xr Go.Chk

theorem cpt_last {xs : List Int} : ∀ {p : Nat}, 0 < p → p ≤ xs.length → xs.getD (p - 1) 0 ∈ cpt xs p
  | 0, h, _ => absurd h (Nat.lt_irrefl _)
  | p + 1, _, hp => by
    unfold cpt
    split
    · rename_i h
      rw [Nat.add_sub_cancel, h.2]
      exact cpt_last (by omega) (by omega)
    · exact List.mem_append_right _ (by simp)
theorem cpt_all {xs : List Int} : ∀ {p i : Nat}, i < p → p ≤ xs.length → xs.getD i 0 ∈ cpt xs p
  | 0, _, h, _ => absurd h (Nat.not_lt_zero _)
  | p + 1, i, hi, hp => by
    by_cases h : i = p
    · subst h
      exact cpt_last (p := i + 1) (by omega) hp
    · have := cpt_all (xs := xs) (p := p) (i := i) (by omega) (by omega)
      unfold cpt
      split
      · exact this
      · exact List.mem_append_left _ this
theorem nrm_alike (xs : List Int) : Eqs (nrm xs) xs := fun x => ⟨nrm_mem, fun h => by
  have h := (sortLits_perm xs).mem_iff.2 h
  obtain ⟨i, hi, rfl⟩ := List.getElem_of_mem h
  have := cpt_all (xs := sortLits xs) hi (Nat.le_refl _)
  rw [List.getD_eq_getElem?_getD, List.getElem?_eq_getElem hi] at this
  exact this⟩

theorem cpt_rising {xs : List Int} (hr : Rising xs) : ∀ {p : Nat}, p ≤ xs.length → (cpt xs p).Pairwise (fun a b => litBefore a b = true)
  | 0, _ => .nil
  | p + 1, hp => by
    have ih := cpt_rising hr (p := p) (by omega)
    unfold cpt
    split
    · exact ih
    · rename_i hn
      rw [List.pairwise_append]
      refine ⟨ih, by simp, fun a ha b hb => ?_⟩
      rw [List.mem_singleton] at hb
      subst hb
      have key : ∀ {q : Nat}, q ≤ p → ∀ a ∈ cpt xs q, ∃ i, i < q ∧ a = xs.getD i 0 := by
        intro q
        induction q with
        | zero => intro _ a ha; cases ha
        | succ q ih =>
          intro hq a ha
          unfold cpt at ha
          split at ha
          · obtain ⟨i, h1, h2⟩ := ih (by omega) a ha
            exact ⟨i, by omega, h2⟩
          · rcases List.mem_append.1 ha with ha | ha
            · obtain ⟨i, h1, h2⟩ := ih (by omega) a ha
              exact ⟨i, by omega, h2⟩
            · exact ⟨q, by omega, by simpa using ha⟩
      obtain ⟨i, hi, rfl⟩ := key (Nat.le_refl _) a ha
      have pw := List.pairwise_iff_getElem.1 hr
      have g : ∀ (j k : Nat), j < k → k ≤ p → litBefore (xs.getD k 0) (xs.getD j 0) = false := fun j k h1 h2 => by
        have := pw j k (by omega) (by omega) h1
        rw [List.getD_eq_getElem?_getD, List.getD_eq_getElem?_getD, List.getElem?_eq_getElem (by omega), List.getElem?_eq_getElem (by omega)]
        exact this
      have hp0 : p ≠ 0 := by omega
      have hne : xs.getD p 0 ≠ xs.getD (p - 1) 0 := fun e => hn ⟨hp0, e⟩
      rcases litBefore_total (xs.getD i 0) (xs.getD p 0) with h | h | h
      · exact h
      · by_cases hip : i = p - 1
        · subst hip; exact absurd h.symm hne
        · have g1 := g i (p - 1) (by omega) (by omega)
          have g2 := g (p - 1) p (by omega) (by omega)
          rcases litBefore_total (xs.getD (p - 1) 0) (xs.getD p 0) with q | q | q
          · rw [← h] at q; rw [q] at g1; cases g1
          · exact absurd q.symm hne
          · rw [q] at g2; cases g2
      · rw [g i p hi (Nat.le_refl _)] at h; cases h
theorem nrm_rising (xs : List Int) : (nrm xs).Pairwise (fun a b => litBefore a b = true) := cpt_rising (sortLits_rising xs) (Nat.le_refl _)
theorem nrm_nodup (xs : List Int) : (nrm xs).Nodup := (nrm_rising xs).imp fun {a b} h e => by subst e; rw [litBefore_irrefl] at h; cases h

theorem lb {a b : Int} (h : litBefore a b = true) : litVar a < litVar b ∨ (litVar a = litVar b ∧ a < b) := of_decide_eq_true h
theorem lv (l : Int) : (0 ≤ l ∧ litVar l = l) ∨ (l < 0 ∧ litVar l = -l) := by
  unfold litVar
  split <;> omega
theorem bothN_nrm {xs : List Int} (h0 : ∀ x ∈ xs, x ≠ 0) : bothN (nrm xs) (nrm xs).length = both xs := by
  rw [← both_alike (nrm_alike xs)]
  have hr := nrm_rising xs
  have h0 : ∀ x ∈ nrm xs, x ≠ 0 := fun x hx => h0 x (nrm_mem hx)
  generalize nrm xs = ys at *
  rw [Bool.eq_iff_iff]
  unfold bothN both
  rw [List.any_eq_true, List.any_eq_true]
  have pw := List.pairwise_iff_getElem.1 hr
  constructor
  · rintro ⟨i, hi, hb⟩
    rw [List.mem_range] at hi
    unfold bothAt at hb
    obtain ⟨b1, b2, b3⟩ := of_decide_eq_true hb
    rw [List.getD_eq_getElem?_getD, List.getD_eq_getElem?_getD, List.getElem?_eq_getElem (by omega), List.getElem?_eq_getElem (by omega)] at b3
    simp only [Option.getD_some] at b3
    refine ⟨ys[i], List.getElem_mem _, decide_eq_true ?_⟩
    rw [b3, Int.neg_neg]
    exact List.getElem_mem _
  · rintro ⟨x, hx, hn⟩
    have hn := of_decide_eq_true hn
    obtain ⟨x, hp, hx, hn⟩ : ∃ x, 0 < x ∧ x ∈ ys ∧ -x ∈ ys := by
      by_cases h : 0 < x
      · exact ⟨x, h, hx, hn⟩
      · have := h0 x hx
        exact ⟨-x, by omega, hn, by rw [Int.neg_neg]; exact hx⟩
    obtain ⟨i, hi, rfl⟩ := List.getElem_of_mem hx
    obtain ⟨j, hj, ej⟩ := List.getElem_of_mem hn
    have hji : j < i := by
      rcases Nat.lt_trichotomy j i with h | h | h
      · exact h
      · subst h; omega
      · have := pw i j hi hj h
        rw [ej] at this
        have := lb this
        have := lv ys[i]
        have := lv (-ys[i])
        omega
    have hj1 : j = i - 1 := by
      rcases Nat.lt_or_ge j (i - 1) with h | h
      · have q1 := pw j (i - 1) hj (by omega) h
        have q2 := pw (i - 1) i (by omega) hi (by omega)
        rw [ej] at q1
        have := lb q1
        have := lb q2
        have := lv ys[i]
        have := lv (-ys[i])
        have := lv ys[i - 1]
        omega
      · omega
    subst hj1
    refine ⟨i, List.mem_range.2 hi, decide_eq_true ⟨by omega, ?_, ?_⟩⟩
    · rw [List.getD_eq_getElem?_getD, List.getElem?_eq_getElem hi]; exact hp
    · rw [List.getD_eq_getElem?_getD, List.getD_eq_getElem?_getD, List.getElem?_eq_getElem hi, List.getElem?_eq_getElem hj]
      simp only [Option.getD_some]
      omega
end Go.Proofs.Ytmkbnbpblhoekaa
