/- The program's checker asked: Done, Get; its keys. -/
import Derived.Test.YtmkbnbpblhoekaaVDd
set_option linter.unusedSimpArgs false
set_option linter.unusedVariables false
set_option linter.unusedSectionVars false
namespace Go.Proofs.Ytmkbnbpblhoekaa
open Go.Xr Go.Chk

theorem Done_ok {b : Nat} {h : Heap} {o : Nat} {es : List (Int × List Int)} {last : Int} {ov : Bool} {tr : List Int} (hc : ChkP b h o es last ov tr) : EvCall xprog H0 22 [.ptr o 0 0] h fun v h' => v = .bool ov ∧ h' = h := by
  refine s_call (fn := xf22) rfl (free _ rfl ..) ?_
  obtain ⟨_, _, r3⟩ := hc.reads
  simp -implicitDefEqProofs only [xf22, argsFrom_cons, argsFrom_nil]
  repeat' ((first | refine s_line rfl ?_ | refine s_end rfl ?_ | refine s_seq ?_ | refine s_region ?_ | refine s_block ?_ | refine s_cond ?_ | refine s_ret ?_ | refine s_skip ?_ | refine s_exit ?_ | refine s_if (fun hif => ?_) (fun hif => ?_) | refine condB_dec (fun hif => ?_) (fun hif => ?_) | refine condB_of (fun hif => ?_) (fun hif => ?_) | (refine s_lelt ?_ ?_; omega) | (refine s_lt ?_ ?_; omega) | (refine s_le ?_ ?_; omega)) <;>
    (try simp -implicitDefEqProofs (disch := first | assumption | omega) only [sx, sb, sd, se, xwpStep, xwpOp, xwpInt, opEv, xres, oneOf, Nat.reduceAdd, Nat.reduceEqDiff, Nat.reduceSub, ↓reduceIte, reduceCtorEq, binV, nilCmp, nilOf, Nat.zero_add, Nat.add_zero, *]))

theorem Get_ok {b : Nat} {h : Heap} {o : Nat} {es : List (Int × List Int)} {last : Int} {ov : Bool} {tr : List Int} (hc : ChkP b h o es last ov tr) {id : Int} {l : List Int} (hf : find es id = some l) (hl : l.length ≤ 1000000) : EvCall xprog H0 41 [.ptr o 0 0, .int .i64 id] h fun v h' => (∃ w, v = .tup [w, .bool true] ∧ Own h.next h' w (l.map (.int .i32))) ∧ Ext h h' := by
  refine s_call (fn := xf41) rfl (free _ rfl ..) ?_
  obtain ⟨vs, mo, ces, ins, vv, tv, hm, _⟩ := hc
  have r0 := readCell (off := 0) hm.get rfl
  have gm := hm.map
  obtain ⟨ho, lv, sv, hk, hh⟩ : ∃ ho lv sv, hasKey id ces = some (.ptr ho 0 0) ∧ HeldAt h o ho lv sv l := by
    rcases hm.held id with ⟨q, _⟩ | ⟨k, ho, lv, sv, q1, q2, q3⟩
    · rw [hf] at q; cases q
    · rw [hf] at q1; cases q1
      exact ⟨ho, lv, sv, q2, q3⟩
  have rl := readCell (off := 0) hh.get rfl
  have hcl := Clone_ok hh.lits.1 (fun x hx => by obtain ⟨n, _, rfl⟩ := List.mem_map.1 hx; rfl) (by simp; omega)
  simp -implicitDefEqProofs only [xf41, argsFrom_cons, argsFrom_nil]
  repeat' ((first | refine s_line rfl ?_ | refine s_end rfl ?_ | refine s_seq ?_ | refine s_region ?_ | refine s_block ?_ | refine s_cond ?_ | refine s_ret ?_ | refine s_skip ?_ | refine s_exit ?_ | refine s_if (fun hif => ?_) (fun hif => ?_) | refine condB_dec (fun hif => ?_) (fun hif => ?_) | refine condB_of (fun hif => ?_) (fun hif => ?_) | (refine s_lelt ?_ ?_; omega) | (refine s_lt ?_ ?_; omega) | (refine s_le ?_ ?_; omega) | ((refine evApply_call hcl ?_; rintro w g1 ⟨w1, x1⟩))) <;>
    (try simp -implicitDefEqProofs (disch := first | assumption | omega) only [sx, sb, sd, se, xwpStep, xwpOp, xwpInt, opEv, xres, oneOf, Nat.reduceAdd, Nat.reduceEqDiff, Nat.reduceSub, ↓reduceIte, reduceCtorEq, binV, nilCmp, nilOf, Nat.zero_add, Nat.add_zero, kindEq, tellV, List.getElem?_cons_zero, List.getElem?_cons_succ, *]))
  exact ⟨w, rfl, w1⟩

theorem sorted_ext : ∀ {l l' : List Int}, l.Pairwise (· < ·) → l'.Pairwise (· < ·) → (∀ x, x ∈ l ↔ x ∈ l') → l = l'
  | [], [], _, _, _ => rfl
  | [], b :: r', _, _, h => absurd ((h b).2 List.mem_cons_self) (by simp)
  | a :: r, [], _, _, h => absurd ((h a).1 List.mem_cons_self) (by simp)
  | a :: r, b :: r', h1, h2, h => by
    rw [List.pairwise_cons] at h1 h2
    have e : a = b := by
      rcases List.mem_cons.1 ((h a).1 List.mem_cons_self) with q | q
      · exact q
      · rcases List.mem_cons.1 ((h b).2 List.mem_cons_self) with q' | q'
        · exact q'.symm
        · have := h1.1 b q'
          have := h2.1 a q
          omega
    subst e
    rw [sorted_ext h1.2 h2.2 fun x => ⟨fun q => ?_, fun q => ?_⟩]
    · rcases List.mem_cons.1 ((h x).1 (List.mem_cons_of_mem _ q)) with e | e
      · subst e
        have := h1.1 x q
        omega
      · exact e
    · rcases List.mem_cons.1 ((h x).2 (List.mem_cons_of_mem _ q)) with e | e
      · subst e
        have := h2.1 x q
        omega
      · exact e
theorem hasKey_nil {k : Int} : ∀ {ces : List (Int × V)}, hasKey k ces = none → k ∉ ces.map Prod.fst
  | [], _, q => by cases q
  | (a, x) :: r, h, q => by
    unfold hasKey at h
    split at h
    · cases h
    · rename_i e
      rcases List.mem_cons.1 q with q | q
      · exact of_decide_eq_false e q.symm
      · exact hasKey_nil h q
theorem keys_eq {h : Heap} {o : Nat} {es : List (Int × List Int)} {ces : List (Int × V)} {last : Int} (hh : HeldAll h o es ces) (hr : Rise es last) (hk : (ces.map Prod.fst).Pairwise (· < ·)) : ces.map Prod.fst = es.map Prod.fst := by
  refine sorted_ext hk hr.1 fun x => ?_
  rcases hh x with ⟨q1, q2⟩ | ⟨l, ho, lv, sv, q1, q2, _⟩
  · refine ⟨fun q => absurd q (hasKey_nil q2), fun q => ?_⟩
    obtain ⟨e, he, rfl⟩ := List.mem_map.1 q
    exact absurd rfl (find_none.1 q1 e he)
  · exact ⟨fun _ => List.mem_map.2 ⟨_, find_some q1, rfl⟩, fun _ => List.mem_map.2 ⟨_, hasKey_mem q2, rfl⟩⟩
theorem Keys_ok (h : Heap) (mo : Nat) : EvCall xprog H0 39 [.map mo] h fun v h' => v = .func 58 [] [.ptr h.next 0 0] ∧ h' = newCells h [.map mo] 1 false := by
  refine s_call (fn := xf39) rfl (free _ rfl ..) ?_
  simp -implicitDefEqProofs only [xf39, argsFrom_cons, argsFrom_nil]
  repeat' ((first | refine s_line rfl ?_ | refine s_end rfl ?_ | refine s_seq ?_ | refine s_region ?_ | refine s_block ?_ | refine s_cond ?_ | refine s_ret ?_ | refine s_skip ?_ | refine s_exit ?_ | refine s_if (fun hif => ?_) (fun hif => ?_) | refine condB_dec (fun hif => ?_) (fun hif => ?_) | refine condB_of (fun hif => ?_) (fun hif => ?_) | (refine s_lelt ?_ ?_; omega) | (refine s_lt ?_ ?_; omega) | (refine s_le ?_ ?_; omega)) <;>
    (try simp -implicitDefEqProofs (disch := first | assumption | omega) only [sx, sb, sd, se, xwpStep, xwpOp, xwpInt, opEv, xres, oneOf, Nat.reduceAdd, Nat.reduceEqDiff, Nat.reduceSub, ↓reduceIte, reduceCtorEq, *]))
end Go.Proofs.Ytmkbnbpblhoekaa
