/- The program's checker: drop's range over what is deleted, in any order. -/
import Derived.Test.YtmkbnbpblhoekaaVCkx
set_option linter.unusedSimpArgs false
set_option linter.unusedVariables false
set_option linter.unusedSectionVars false
namespace Go.Proofs.Ytmkbnbpblhoekaa
open Go.Xr Go.Chk

def mD : MapLoop := ⟨.slot 32, 33, 34, 2, 3, r33_11, .seq (.region true r33_12) (.region false r33_13)⟩

theorem dropKey_filter : ∀ {es : List (Int × V)} (k : Int), (es.map Prod.fst).Pairwise (· < ·) → dropKey k es = es.filter fun p => decide (p.1 ≠ k)
  | [], k, _ => rfl
  | (a, x) :: r, k, h => by
    rw [List.map_cons, List.pairwise_cons] at h
    unfold dropKey
    by_cases e : a = k
    · subst e
      rw [decide_eq_true rfl, List.filter_cons, if_neg (by simp)]
      simp only
      rw [eq_comm, List.filter_eq_self]
      intro p hp
      have := h.1 p.1 (List.mem_map.2 ⟨p, hp, rfl⟩)
      simp only at this
      exact decide_eq_true (by omega)
    · rw [decide_eq_false e, List.filter_cons, if_pos (decide_eq_true e)]
      simp only
      rw [dropKey_filter k h.2]
theorem hasKey_filter {q : Int → Bool} : ∀ {es : List (Int × V)} {k : Int}, hasKey k (es.filter fun p => q p.1) = if q k = true then hasKey k es else none
  | [], k => by simp [hasKey]
  | (a, x) :: r, k => by
    rw [List.filter_cons]
    by_cases ha : q a = true
    · rw [if_pos ha]
      unfold hasKey
      by_cases e : a = k
      · subst e
        rw [decide_eq_true rfl, if_pos ha]
      · rw [decide_eq_false e]
        exact hasKey_filter
    · rw [if_neg ha, hasKey_filter]
      conv => rhs; unfold hasKey
      by_cases e : a = k
      · subst e
        rw [if_neg ha, if_neg ha]
      · rw [decide_eq_false e]
theorem filter_rise {es : List (Int × V)} (h : (es.map Prod.fst).Pairwise (· < ·)) (q : Int × V → Bool) : ((es.filter q).map Prod.fst).Pairwise (· < ·) := h.sublist (List.Sublist.map _ List.filter_sublist)
theorem perm_keys {l l' : List Int} (h1 : l.Nodup) (h2 : l'.Nodup) (h : ∀ x, x ∈ l ↔ x ∈ l') : l.Perm l' := (List.perm_ext_iff_of_nodup h1 h2).2 h
theorem sum_perm {f : Int → Nat} {l l' : List Int} (h : l.Perm l') : (l.map f).sum = (l'.map f).sum := (h.map f).sum_nat

def lenOf (es : List (Int × List Int)) (k : Int) : Nat := match find es k with
  | some l => l.length
  | none => 0
theorem find_idx : ∀ {es : List (Int × List Int)} {id : Int} {l : List Int}, find es id = some l → ∃ p : Nat, es[p]? = some (id, l)
  | es, id, l, h => by
    obtain ⟨p, hp, e⟩ := List.getElem_of_mem (find_some h)
    exact ⟨p, by rw [List.getElem?_eq_getElem hp, e]⟩
theorem total_drop {es : List (Int × List Int)} (hr : (es.map Prod.fst).Pairwise (· < ·)) : ∀ (ids : List Int), ids.Nodup → (∀ id ∈ ids, find es id ≠ none) → Chk.total es = Chk.total (es.filter fun e => decide (e.1 ∉ ids)) + (ids.map (lenOf es)).sum
  | [], _, _ => by
    rw [show es.filter (fun e => decide (e.1 ∉ ([] : List Int))) = es by rw [List.filter_eq_self]; intro x _; simp]
    simp
  | id :: r, hn, hf => by
    rw [List.nodup_cons] at hn
    have ih := total_drop hr r hn.2 fun x hx => hf x (List.mem_cons_of_mem _ hx)
    have e1 : es.filter (fun e => decide (e.1 ∉ id :: r)) = (es.filter fun e => decide (e.1 ∉ r)).filter fun e => decide (e.1 ≠ id) := by
      rw [List.filter_filter]
      congr 1
      funext e
      rw [Bool.eq_iff_iff, Bool.and_eq_true, decide_eq_true_eq, decide_eq_true_eq, decide_eq_true_eq, List.mem_cons, not_or]
    have hf1 := find_filter (es := es) (id := id) (fun k => decide (k ∉ r))
    rw [if_pos (decide_eq_true hn.1)] at hf1
    cases hfi : find es id with
    | none => exact absurd hfi (hf id List.mem_cons_self)
    | some l =>
      rw [hfi] at hf1
      obtain ⟨p, hp⟩ := find_idx hf1
      have hr1 : ((es.filter fun e => decide (e.1 ∉ r)).map Prod.fst).Pairwise (· < ·) := hr.sublist (List.Sublist.map _ List.filter_sublist)
      have e2 := filt_erase hr1 hp
      have e3 := total_split hp
      rw [← e2, ← e1] at e3
      rw [List.map_cons, List.sum_cons, show lenOf es id = l.length by unfold lenOf; rw [hfi]]
      omega
end Go.Proofs.Ytmkbnbpblhoekaa
