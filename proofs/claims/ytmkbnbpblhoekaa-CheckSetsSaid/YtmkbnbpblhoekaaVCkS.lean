/- Words that the document's checker and the program's share. -/
import Derived.Test.YtmkbnbpblhoekaaVCkb
set_option linter.unusedSimpArgs false
set_option linter.unusedVariables false
set_option linter.unusedSectionVars false
namespace Go.Proofs.Ytmkbnbpblhoekaa
open Go.Xr Go.Chk

theorem drop_at {l : List Int} {i : Nat} (hi : i < l.length) : l.drop i = l[i] :: l.drop (i + 1) := List.drop_eq_getElem_cons hi
theorem take_at {l : List Int} {i : Nat} (hi : i < l.length) : l.take (i + 1) = l.take i ++ [l[i]] := by
  rw [List.take_add_one, List.getElem?_eq_getElem hi]
  rfl
theorem thr_le (es : List (Int × List Int)) : ∀ (hints yes : List Int), (thr es yes hints).2 ≤ 2
  | [], _ => Nat.zero_le _
  | id :: r, yes => by
    unfold thr
    cases find es id with
    | none => exact Nat.le_refl _
    | some l =>
      simp only
      cases stepOf yes l with
      | wrong => exact Nat.le_refl _
      | conflict => exact Nat.le_succ _
      | unit x => exact thr_le es r _
theorem group_any {es : List (Int × List Int)} {l : List Int} {p : Int} {ys hints : List Int} {x : Int} (hx : x ∈ l) (h1 : x ≠ -p) (h2 : x ∈ ys ∨ -x ∈ l) : groupOf es l p ys hints = 0 := by
  unfold groupOf
  rw [if_pos]
  rw [List.any_eq_true]
  exact ⟨x, hx, decide_eq_true ⟨h1, h2⟩⟩
theorem group_thr {es : List (Int × List Int)} {l : List Int} {p : Int} {ys hints : List Int} (h : ∀ x ∈ l, ¬ (x ≠ -p ∧ (x ∈ ys ∨ -x ∈ l))) : groupOf es l p ys hints = match (thr es (ys ++ (l.filter fun x => decide (x ≠ -p)).map (fun x => -x)) hints).2 with | 0 => 61 | 1 => 0 | _ => 60 := by
  unfold groupOf
  exact if_neg (by
    rw [List.any_eq_true]
    rintro ⟨x, h1, h2⟩
    exact h x h1 (of_decide_eq_true h2))
theorem headN_drop : ∀ {l : List Int} {x : Int} {r : List Int}, l.drop (headN l) = x :: r → ¬ 0 < x
  | [], _, _, h => by simp at h
  | a :: l, x, r, h => by
    unfold headN at h
    split at h
    · rw [List.drop_succ_cons] at h
      exact headN_drop h
    · rw [List.drop_zero] at h
      cases h
      assumption
/-- Hints that may be. -/
def HFine (hints : List Int) : Prop := ∀ x ∈ hints, x ≠ 0 ∧ -4611686018427387904 ≤ x ∧ x ≤ 4611686018427387904
theorem HFine.drop {l : List Int} (h : HFine l) : ∀ x r, l.drop (headN l) = x :: r → x < 0 := fun x r e => by
  have h1 := headN_drop e
  have h2 := h x (List.mem_of_mem_drop (e ▸ List.mem_cons_self))
  omega
def grpOf (es : List (Int × List Int)) (l ys hints : List Int) : Int := match l with
  | [] => 61
  | p :: _ => groups es p ys hints 0 []
theorem begun_snoc : ∀ (cs : List (List Int)) (c : List Int) (s : Chs) (n : Int), Chk.start (cs ++ [c]) s n = (Chk.start cs s n).put (n + cs.length) c
  | [], c, s, n => by simp [Chk.start]
  | a :: r, c, s, n => by
    rw [List.cons_append, Chk.start, begun_snoc r c, Chk.start]
    congr 1
    simp
    omega
theorem split_at {es : List (Int × List Int)} {p : Nat} {e : Int × List Int} (hp : es[p]? = some e) : es = es.take p ++ e :: es.drop (p + 1) := by
  obtain ⟨hlt, rfl⟩ := List.getElem?_eq_some_iff.1 hp
  conv => lhs; rw [← List.take_append_drop p es, List.drop_eq_getElem_cons hlt]
theorem filt_erase {es : List (Int × List Int)} {p : Nat} {id : Int} {l : List Int} (hr : (es.map Prod.fst).Pairwise (· < ·)) (hp : es[p]? = some (id, l)) : es.filter (fun e => decide (e.1 ≠ id)) = es.take p ++ es.drop (p + 1) := by
  have hs := split_at hp
  generalize es.take p = a at *
  generalize es.drop (p + 1) = c at *
  subst hs
  rw [List.map_append, List.pairwise_append, List.map_cons, List.pairwise_cons] at hr
  obtain ⟨_, ⟨h1, _⟩, h2⟩ := hr
  rw [List.filter_append, List.filter_cons, if_neg (by simp)]
  congr 1
  · rw [List.filter_eq_self]
    intro x hx
    have := h2 x.1 (List.mem_map.2 ⟨x, hx, rfl⟩) id List.mem_cons_self
    exact decide_eq_true (by omega)
  · rw [List.filter_eq_self]
    intro x hx
    have := h1 x.1 (List.mem_map.2 ⟨x, hx, rfl⟩)
    exact decide_eq_true (by omega)
theorem total_split {es : List (Int × List Int)} {p : Nat} {id : Int} {l : List Int} (hp : es[p]? = some (id, l)) : Chk.total es = Chk.total (es.take p ++ es.drop (p + 1)) + l.length := by
  conv => lhs; rw [split_at hp]
  rw [total_append, total_append]
  show _ + (l.length + Chk.total _) = _
  omega
/-- What a checker may be. -/
structure Right6 (b : Nat) (s : Chs) (N : Nat) : Prop where
  rise : Rise s.es s.last
  fine : ∀ e ∈ s.es, Fine e.2 ∧ e.2.length ≤ 3000
  len : s.es.length ≤ N
  tot : Chk.total s.es ≤ N * 3000
theorem may_fine {kind id : Int} {lits hints : List Int} (h : mayOf kind id lits hints = true) : Fine lits ∧ HFine hints ∧ (kind = 2 ∨ (kind = 1 ∧ 1 ≤ id)) := by
  unfold mayOf at h
  rw [Bool.and_eq_true, Bool.and_eq_true, List.all_eq_true, List.all_eq_true] at h
  obtain ⟨⟨h1, h2⟩, h3⟩ := h
  refine ⟨fun x hx => ?_, fun x hx => ?_, ?_⟩
  · have := of_decide_eq_true (h1 x hx)
    exact this
  · have := of_decide_eq_true (h2 x hx)
    exact ⟨this.1, by omega, by omega⟩
  · unfold tailFine at h3
    split at h3
    · rename_i e
      have := of_decide_eq_true h3
      exact .inr ⟨e, this.1⟩
    · split at h3
      · rename_i e
        exact .inl e
      · cases h3
theorem step_right {b : Nat} {s : Chs} {N : Nat} {kind id : Int} {lits hints : List Int} (hs : Right6 b s N) (h1 : lits.length ≤ 3000) : Right6 b (s.step (mayOf kind id lits hints) kind id lits hints).2 (N + 1) := by
  have up : Right6 b s (N + 1) := ⟨hs.rise, hs.fine, Nat.le_succ_of_le hs.len, Nat.le_trans hs.tot (Nat.mul_le_mul_right _ (Nat.le_succ _))⟩
  unfold Chs.step
  cases hm : mayOf kind id lits hints with
  | false => exact up
  | true =>
    obtain ⟨hfl, hfh, hk⟩ := may_fine hm
    rw [if_neg (by simp)]
    split
    · split
      · exact up
      · exact ⟨up.rise.filter _, fun e he => up.fine e (List.mem_filter.1 he).1, Nat.le_trans (List.length_filter_le _ _) up.len, Nat.le_trans (total_filter_le _ _) up.tot⟩
    · rename_i hk2
      split
      · exact up
      · split
        · exact up
        · split
          · exact up
          · rename_i hid _ _
            have hid0 : 0 < id := by
              rcases hk with e | ⟨_, e⟩
              · exact absurd e hk2
              · omega
            refine ⟨hs.rise.put (by omega) hid0 _, fun e he => ?_, ?_, ?_⟩
            · rcases List.mem_append.1 he with he | he
              · exact hs.fine e he
              · rw [List.mem_singleton] at he
                subst he
                exact ⟨hfl, h1⟩
            · have := hs.len
              simp [Chs.put]
              omega
            · have := hs.tot
              have ht : Chk.total (s.es ++ [(id, lits)]) = Chk.total s.es + lits.length := by
                rw [total_append]
                simp [Chk.total]
              show Chk.total (s.es ++ [(id, lits)]) ≤ _
              rw [ht, Nat.add_mul]
              omega
theorem right_fine {vars : Int} {cs : List (List Int)} (h : rightOf vars cs = 0) : ∀ c ∈ cs, Fine c := by
  unfold rightOf at h
  split at h
  · cases h
  · rename_i hv
    split at h
    · cases h
    · rename_i ha
      intro c hc x hx
      rw [List.any_eq_true] at ha
      have hb : bad vars x = false := by
        cases hb : bad vars x with
        | false => rfl
        | true => exact absurd ⟨c, hc, List.any_eq_true.2 ⟨x, hx, hb⟩⟩ ha
      have hb := of_decide_eq_false hb
      have := lv x
      omega
theorem begun_right {b : Nat} : ∀ (cs : List (List Int)) (s : Chs) (n : Int) (N : Nat), Right6 b s N → (∀ c ∈ cs, Fine c ∧ c.length ≤ 3000) → s.last < n → 0 < n → Right6 b (Chk.start cs s n) (N + cs.length)
  | [], s, n, N, hs, _, _, _ => hs
  | c :: r, s, n, N, hs, hc, hn, h0 => by
    rw [Chk.start, List.length_cons, show N + (r.length + 1) = (N + 1) + r.length by omega]
    refine begun_right r (s.put n c) (n + 1) (N + 1) ?_ (fun x hx => hc x (List.mem_cons_of_mem _ hx)) (by show n < n + 1; omega) (by omega)
    have hcc := hc c List.mem_cons_self
    refine ⟨hs.rise.put hn h0 _, fun e he => ?_, ?_, ?_⟩
    · rcases List.mem_append.1 he with he | he
      · exact hs.fine e he
      · rw [List.mem_singleton] at he
        subst he
        exact hcc
    · have := hs.len
      simp [Chs.put]
      omega
    · have := hs.tot
      have ht : Chk.total (s.es ++ [(n, c)]) = Chk.total s.es + c.length := by
        rw [total_append]
        simp [Chk.total]
      show Chk.total (s.es ++ [(n, c)]) ≤ _
      rw [ht, Nat.add_mul]
      have := hcc.2
      omega
def mayS (x : Stp) : Bool := mayOf x.kind x.id x.lits x.hints
/-- All of a proof. -/
def runAll (vars : Int) (cs : List (List Int)) (l : List Stp) : Bool × Int × Int := if rightOf vars cs ≠ 0 then (false, 0, rightOf vars cs) else runOf mayS (Chk.start cs ⟨[], 0, false⟩ 1) l 0
theorem runOf_over {may : Stp → Bool} {s : Chs} (h : s.over = true) : ∀ (l : List Stp) (n : Int), runOf may s l n = (true, n, 0)
  | [], n => by rw [runOf, h]
  | x :: r, n => by rw [runOf, if_pos h]
def tripV (r : Bool × Int × Int) : V := .tup [.bool r.1, .int .i64 r.2.1, .int .i64 r.2.2]
theorem done_mem {cs : List (List Int)} {c : List Int} (h : c ∈ cs) : c.length ≤ done cs cs.length := by
  obtain ⟨i, hi, rfl⟩ := List.getElem_of_mem h
  have := done_succ hi
  have := done_le cs (i + 1)
  omega
theorem Stps.elem {h : Heap} {v : V} {l : List StV} (hs : Stps h v l) {i : Nat} (hi : i < l.length) : readCells h (objS v) (genS v) (offS v + i * 4) 4 = some (l[i]).cells := by
  have := (hs.sl.elem i (by simpa using hi)).2.2
  simpa using this
end Go.Proofs.Ytmkbnbpblhoekaa
