/- The document's checker: clauses under ids; Find. -/
import Derived.Test.YtmkbnbpblhoekaaVCkS
set_option linter.unusedSimpArgs false
set_option linter.unusedVariables false
set_option linter.unusedSectionVars false
namespace Go.Proofs.Ytmkbnbpblhoekaa
open Go.Xr Go.Chk

/-- The document's checker in memory: clauses under their ids. -/
def RRows (h : Heap) (o : Nat) (Lv : V) (cs : List V) (es : List (Int × List Int)) : Prop :=
  ∀ i (hi : i < es.length), cs[i * 2]? = some (.int .i64 (es[i]).1) ∧ ∃ lv, cs[i * 2 + 1]? = some lv ∧ Sl h lv ((es[i]).2.map (.int .i32)) ∧ ∀ x, rowObj lv = some x → x ≠ o ∧ rowObj Lv ≠ some x ∧ x < h.next
def RChk (b : Nat) (h : Heap) (o : Nat) (es : List (Int × List Int)) (last : Int) (ov : Bool) : Prop :=
  ∃ Lv cs, h.get o = some (arr [Lv, .int .i64 last, .bool ov, .int .i64 (total es : Nat)] 1 false) ∧ b ≤ o ∧ o < h.next ∧ GrN 2 b h Lv cs es.length ∧ rowObj Lv ≠ some o ∧ RRows h o Lv cs es ∧ cs.all V.one = true
theorem RRows.ext {h h' : Heap} {o : Nat} {Lv : V} {cs : List V} {es : List (Int × List Int)} (hr : RRows h o Lv cs es) (x : Ext h h') : RRows h' o Lv cs es := fun i hi =>
  let ⟨h1, lv, h2, h3, h4⟩ := hr i hi
  ⟨h1, lv, h2, h3.ext x, fun y hy => let ⟨q1, q2, q3⟩ := h4 y hy; ⟨q1, q2, Nat.lt_of_lt_of_le q3 x.next⟩⟩
theorem RChk.ext {b : Nat} {h h' : Heap} {o : Nat} {es : List (Int × List Int)} {last : Int} {ov : Bool} (hr : RChk b h o es last ov) (x : Ext h h') : RChk b h' o es last ov :=
  let ⟨Lv, cs, h1, h2, h3, h4, h5, h6, h7⟩ := hr
  ⟨Lv, cs, by rw [x.get o h3]; exact h1, h2, Nat.lt_of_lt_of_le h3 x.next, h4.ext x, h5, h6.ext x, h7⟩

set_option maxHeartbeats 4000000 in
theorem rFind_ok {b : Nat} {h : Heap} {o : Nat} {es : List (Int × List Int)} {last : Int} {ov : Bool} (hc : RChk b h o es last ov) (hl : es.length ≤ 1000000) (id : Int) : EvCall xprog H0 60 [.ptr o 0 0, .int .i64 id] h fun v h' => (∃ r : Int, v = .int .i64 r ∧ ((r < 0 ∧ find es id = none) ∨ ∃ (i : Nat) (l : List Int), r = i ∧ es[i]? = some (id, l) ∧ find es id = some l)) ∧ h' = h := by
  refine s_call (fn := xf60) rfl (free _ rfl ..) ?_
  obtain ⟨Lv, cs, g1, _, _, q1, _, q2, _⟩ := hc
  have r0 := readCell (off := 0) g1 rfl
  have el := q1.len
  have er := q1.row
  simp -implicitDefEqProofs only [xf60, argsFrom_cons, argsFrom_nil]
  repeat' ((first | refine s_line rfl ?_ | refine s_end rfl ?_ | refine s_seq ?_ | refine s_region ?_ | refine s_block ?_ | refine s_cond ?_ | refine s_ret ?_ | refine s_skip ?_ | refine s_exit ?_ | refine s_if (fun hif => ?_) (fun hif => ?_) | refine condB_dec (fun hif => ?_) (fun hif => ?_) | refine condB_of (fun hif => ?_) (fun hif => ?_) | (refine s_lelt ?_ ?_; omega) | (refine s_lt ?_ ?_; omega) | (refine s_le ?_ ?_; omega)) <;>
    (try simp -implicitDefEqProofs (disch := first | assumption | omega) only [sx, sb, sd, se, xwpStep, xwpOp, xwpInt, opEv, xres, oneOf, Nat.reduceAdd, Nat.reduceEqDiff, Nat.reduceSub, ↓reduceIte, reduceCtorEq, *]))
  refine s_while (fun n t d g => ∃ i : Nat, i + n = es.length ∧ slotOf t 5 = .int .i64 i ∧ slotOf t 0 = .ptr o 0 0 ∧ slotOf t 1 = .int .i64 id ∧ d = [] ∧ g = h ∧ ∀ j (hj : j < es.length), j < i → (es[j]).1 ≠ id) (fun _ _ _ => free_code ..) es.length ⟨0, by omega, by simp [slotOf_set], by simp [slotOf_set], by simp [slotOf_set], rfl, rfl, fun j _ hj => by omega⟩ ?_
  rintro n t d g ⟨i, a1, a2, a3, a4, rfl, rfl, a5⟩
  have rx : ∀ (hi : i < es.length), readCells g (objS Lv) (genS Lv) (offS Lv + i * 2) 1 = some [.int .i64 (es[i]).1] := fun hi => by
    have := q1.at (j := 0) hi (q2 i hi).1
    rwa [Nat.add_zero] at this
  repeat' ((first | refine s_line rfl ?_ | refine s_end rfl ?_ | refine s_seq ?_ | refine s_region ?_ | refine s_block ?_ | refine s_cond ?_ | refine s_ret ?_ | refine s_skip ?_ | refine s_exit ?_ | refine s_if (fun hif => ?_) (fun hif => ?_) | refine condB_dec (fun hif => ?_) (fun hif => ?_) | refine condB_of (fun hif => ?_) (fun hif => ?_) | (refine s_lelt ?_ ?_; omega) | (refine s_lt ?_ ?_; omega) | (refine s_le ?_ ?_; omega)) <;>
    (try simp -implicitDefEqProofs (disch := first | assumption | omega) only [sx, sb, sd, se, xwpStep, xwpOp, xwpInt, opEv, xres, oneOf, Nat.reduceAdd, Nat.reduceEqDiff, Nat.reduceSub, ↓reduceIte, reduceCtorEq, wrap_i64, Nat.zero_add, Nat.add_zero, Int.toNat_natCast, *]))
  · exact ⟨i, rfl, .inr ⟨i, (es[i]).2, rfl, by rw [List.getElem?_eq_getElem (by omega), ← hif], find_at (by omega) a5 hif⟩⟩
  · refine ⟨n - 1, by omega, i + 1, by omega, by simp, fun j hj hlt => ?_⟩
    rcases Nat.lt_succ_iff_lt_or_eq.1 hlt with h | rfl
    · exact a5 j hj h
    · exact hif
  · refine ⟨_, rfl, .inl ⟨by decide, find_none.2 fun e he => ?_⟩⟩
    obtain ⟨j, hj, rfl⟩ := List.getElem_of_mem he
    exact a5 j hj (by omega)

/-- A clause of the document's checker. -/
theorem RChk.clause {b : Nat} {h : Heap} {o : Nat} {es : List (Int × List Int)} {last : Int} {ov : Bool} (hc : RChk b h o es last ov) : ∃ Lv, rowS Lv = true ∧ lenS Lv = es.length ∧ (∀ g, Ext h g → readCells g o 0 0 1 = some [Lv]) ∧ ∀ (i : Nat) (hi : i < es.length), ∃ lv, Sl h lv ((es[i]).2.map (.int .i32)) ∧ ∀ g, Ext h g → readCells g (objS Lv) (genS Lv) (offS Lv + i * 2) 1 = some [.int .i64 (es[i]).1] ∧ readCells g (objS Lv) (genS Lv) (offS Lv + i * 2 + 1) 1 = some [lv] := by
  obtain ⟨Lv, cs, g1, _, hlt, q1, _, q2, _⟩ := hc
  refine ⟨Lv, q1.row, q1.len, fun g x => readCell (off := 0) (by rw [x.get o hlt]; exact g1) rfl, fun i hi => ?_⟩
  obtain ⟨h1, lv, h2, h3, _⟩ := q2 i hi
  refine ⟨lv, h3, fun g x => ?_⟩
  have := (q1.ext x).at (j := 0) hi h1
  rw [Nat.add_zero] at this
  exact ⟨this, (q1.ext x).at hi h2⟩
end Go.Proofs.Ytmkbnbpblhoekaa
