/- The program's checker: hints gone through. -/
import Derived.Test.YtmkbnbpblhoekaaVCko
set_option linter.unusedSimpArgs false
set_option linter.unusedVariables false
set_option linter.unusedSectionVars false
namespace Go.Proofs.Ytmkbnbpblhoekaa
open Go.Xr Go.Chk

theorem thr_one (es : List (Int × List Int)) (yes : List Int) (id : Int) : thr es yes [id] = match find es id with | none => (yes, 2) | some l => match stepOf yes l with | .wrong => (yes, 2) | .conflict => (yes, 1) | .unit x => (yes ++ [x], 0) := by
  rw [thr]
  cases find es id with
  | none => rfl
  | some l =>
    simp only
    cases stepOf yes l <;> rfl
theorem thr_cons (es : List (Int × List Int)) (yes : List Int) (id : Int) (r : List Int) : thr es yes (id :: r) = if (thr es yes [id]).2 = 0 then thr es (thr es yes [id]).1 r else thr es yes [id] := by
  rw [thr_one, thr]
  cases find es id with
  | none => rfl
  | some l =>
    simp only
    cases stepOf yes l <;> rfl
theorem thr_len (es : List (Int × List Int)) : ∀ (hints yes : List Int), (thr es yes hints).1.length ≤ yes.length + hints.length
  | [], yes => Nat.le_refl _
  | id :: r, yes => by
    unfold thr
    cases find es id with
    | none => simp
    | some l =>
      simp only
      cases stepOf yes l with
      | wrong => simp
      | conflict => simp
      | unit x =>
        have := thr_len es r (yes ++ [x])
        simp at this ⊢
        omega
theorem evApply_cap {X : XProg} {hook : Task → Option Out} {f : Nat} {args caps : List V} {h : Heap} {Q K : V → Heap → Prop} (hc : EvCall X hook f (args ++ caps) h Q) (hk : ∀ v h', Q v h' → K v h') : EvApply X hook (.func f [] caps) args h K :=
  evApply_func (by simpa using hc.mono hk)
theorem ChkP.lt {b : Nat} {h : Heap} {o : Nat} {es : List (Int × List Int)} {last : Int} {ov : Bool} {tr : List Int} (hc : ChkP b h o es last ov tr) : o < h.next ∧ ∀ x, Mut h o x → x < h.next := by
  obtain ⟨vs, mo, ces, ins, vv, tv, hm, hg⟩ := hc
  refine ⟨hm.ho, fun x hx => ?_⟩
  rcases (mut_iff hm.get).1 hx with rfl | rfl | q | q
  · exact hm.ho
  · exact hm.hm
  · exact (hm.val.lt q).2
  · exact (hm.trl.lt q).2
theorem Cell.new {b : Nat} {h : Heap} {o : Nat} {es : List (Int × List Int)} {last : Int} {ov : Bool} {tr : List Int} (hc : ChkP b h o es last ov tr) (v : V) : Cell (newCells h [v] 1 false) o h.next v :=
  ⟨get_new .., by simp, fun q => by
    have := hc.lt.2 h.next ((Mut.ext (Ext.new ..) hc.lt.1).1 q)
    omega⟩

set_option maxHeartbeats 8000000 in
theorem through_ok {b : Nat} {h : Heap} {o : Nat} {es : List (Int × List Int)} {last : Int} {ov : Bool} {tr hints : List Int} {hv : V} (hc : ChkP b h o es last ov tr) (hf : ∀ e ∈ es, Fine e.2 ∧ e.2.length ≤ 1000000) (hh : SlO .i64 h o hv hints) (htl : tr.length + hints.length ≤ 10000000) :
    EvCall xprog H0 54 [.ptr o 0 0, hv] h fun v h' => v = .int .i64 ((thr es tr hints).2 : Nat) ∧ ChkP b h' o es last ov (thr es tr hints).1 ∧ Chg o h h' := by
  refine s_call (fn := xf54) rfl (free _ rfl ..) ?_
  have el := hh.1.len
  have er := hh.1.row
  simp only [List.length_map] at el
  have hbo := Cell.new hc (.ptr o 0 0)
  have c0 : Chg o h (newCells h [.ptr o 0 0] 1 false) := Chg.ext (Ext.new ..) hc.lt.1
  have hc0 := hc.ext (Ext.new h [.ptr o 0 0] 1 false)
  generalize hbn : h.next = bo at *
  generalize hH : newCells h [.ptr o 0 0] 1 false = H at *
  simp -implicitDefEqProofs only [xf54, argsFrom_cons, argsFrom_nil]
  repeat' ((first | refine s_line rfl ?_ | refine s_end rfl ?_ | refine s_seq ?_ | refine s_region ?_ | refine s_block ?_ | refine s_cond ?_ | refine s_ret ?_ | refine s_skip ?_ | refine s_exit ?_ | refine s_if (fun hif => ?_) (fun hif => ?_) | refine condB_dec (fun hif => ?_) (fun hif => ?_) | refine condB_of (fun hif => ?_) (fun hif => ?_) | (refine s_lelt ?_ ?_; omega) | (refine s_lt ?_ ?_; omega) | (refine s_le ?_ ?_; omega)) <;>
    (try simp -implicitDefEqProofs (disch := first | assumption | omega) only [sx, sb, sd, se, xwpStep, xwpOp, xwpInt, opEv, xres, oneOf, Nat.reduceAdd, Nat.reduceEqDiff, Nat.reduceSub, ↓reduceIte, reduceCtorEq, *]))
  refine s_while (fun n t d g => ∃ (i : Nat) (tr' : List Int), i + n = hints.length ∧ slotOf t 12 = .int .i64 i ∧ slotOf t 11 = .int .i64 hints.length ∧ slotOf t 10 = hv ∧ slotOf t 5 = .func 72 [] [.ptr bo 0 0] ∧ d = [] ∧ Chg o h g ∧ ChkP b g o es last ov tr' ∧ Cell g o bo (.ptr o 0 0) ∧ thr es tr' (hints.drop i) = thr es tr hints ∧ tr'.length ≤ tr.length + i) (fun _ _ _ => free_code ..) hints.length ⟨0, tr, by omega, by simp [slotOf_set], by simp [slotOf_set], by simp [slotOf_set], by simp [slotOf_set], rfl, c0, hc0, hbo, by simp, by omega⟩ ?_
  clear hc0 c0 hbo hH hc H
  rintro n t d g ⟨i, tr', a1, a2, a3, a4, a5, rfl, c1, k1, k2, k3, k4⟩
  by_cases hi : i < hints.length
  · have rx : readCells g (objS hv) (genS hv) (offS hv + i) 1 = some [.int .i64 (hints[i])] := (hh.chg c1).1.at (by simp [hi])
    have hone := one_ok k1 k2 hf (by omega) hints[i]
    rw [drop_at hi, thr_cons] at k3
    have hlen := thr_len es [hints[i]] tr'
    have hle := thr_le es [hints[i]] tr'
    generalize hints[i] = id at *
    generalize thr es tr' [id] = r at *
    repeat' ((first | refine s_line rfl ?_ | refine s_end rfl ?_ | refine s_seq ?_ | refine s_region ?_ | refine s_block ?_ | refine s_cond ?_ | refine s_ret ?_ | refine s_skip ?_ | refine s_exit ?_ | refine s_if (fun hif => ?_) (fun hif => ?_) | refine condB_dec (fun hif => ?_) (fun hif => ?_) | refine condB_of (fun hif => ?_) (fun hif => ?_) | (refine s_lelt ?_ ?_; omega) | (refine s_lt ?_ ?_; omega) | (refine s_le ?_ ?_; omega) | ((refine evApply_cap hone ?_; rintro _ g2 ⟨rfl, k5, k6⟩))) <;>
      (try simp -implicitDefEqProofs (disch := first | assumption | omega) only [sx, sb, sd, se, xwpStep, xwpOp, xwpInt, opEv, xres, oneOf, Nat.reduceAdd, Nat.reduceEqDiff, Nat.reduceSub, ↓reduceIte, reduceCtorEq, wrap_i64, Nat.zero_add, Int.toNat_natCast, *]))
    all_goals first
      | (exfalso; omega)
      | skip
    · have hz : ¬ r.2 = 0 := by simpa using hif
      rw [if_neg hz] at k3
      rw [← k3]
      exact ⟨rfl, k5, c1.trans k6⟩
    · have hz : r.2 = 0 := by simpa using hif
      rw [if_pos hz] at k3
      simp only [List.length_cons, List.length_nil] at hlen
      exact ⟨n - 1, by omega, i + 1, r.1, by omega, by simp, c1.trans k6, k5, k2.chg k6, k3, by omega⟩
  · rw [List.drop_eq_nil_of_le (by omega)] at k3
    repeat' ((first | refine s_line rfl ?_ | refine s_end rfl ?_ | refine s_seq ?_ | refine s_region ?_ | refine s_block ?_ | refine s_cond ?_ | refine s_ret ?_ | refine s_skip ?_ | refine s_exit ?_ | refine s_if (fun hif => ?_) (fun hif => ?_) | refine condB_dec (fun hif => ?_) (fun hif => ?_) | refine condB_of (fun hif => ?_) (fun hif => ?_) | (refine s_lelt ?_ ?_; omega) | (refine s_lt ?_ ?_; omega) | (refine s_le ?_ ?_; omega)) <;>
      (try simp -implicitDefEqProofs (disch := first | assumption | omega) only [sx, sb, sd, se, xwpStep, xwpOp, xwpInt, opEv, xres, oneOf, Nat.reduceAdd, Nat.reduceEqDiff, Nat.reduceSub, ↓reduceIte, reduceCtorEq, wrap_i64, Nat.zero_add, Int.toNat_natCast, *]))
    all_goals first
      | (exfalso; omega)
      | skip
    rw [thr] at k3
    rw [← k3]
    exact ⟨rfl, k1⟩

theorem ChkP.fine {b : Nat} {h : Heap} {o : Nat} {es : List (Int × List Int)} {last : Int} {ov : Bool} {tr : List Int} (hc : ChkP b h o es last ov tr) : Fine tr := by
  obtain ⟨vs, mo, ces, ins, vv, tv, hm, hg⟩ := hc
  intro x hx
  have h1 := hg.lt x hx
  have h2 := hg.len
  omega
theorem thr_more (es : List (Int × List Int)) : ∀ (hints yes : List Int), ∃ w, (thr es yes hints).1 = yes ++ w
  | [], yes => ⟨[], by simp [thr]⟩
  | id :: r, yes => by
    rw [thr]
    cases find es id with
    | none => exact ⟨[], by simp⟩
    | some l =>
      simp only
      cases stepOf yes l with
      | wrong => exact ⟨[], by simp⟩
      | conflict => exact ⟨[], by simp⟩
      | unit x =>
        obtain ⟨w, e⟩ := thr_more es r (yes ++ [x])
        exact ⟨[x] ++ w, by rw [← List.append_assoc]; exact e⟩
theorem EvDCall.mono {X : XProg} {hook : Task → Option Out} {f : Nat} {args : List V} {h : Heap} {Q Q' : Heap → Prop} (he : EvDCall X hook f args h Q) (hq : ∀ h, Q h → Q' h) : EvDCall X hook f args h Q' :=
  let ⟨n, v, h', h1, h2⟩ := he
  ⟨n, v, h', h1, hq _ h2⟩

theorem gback_ok {b : Nat} {h : Heap} {o b4 b9 : Nat} {es : List (Int × List Int)} {last : Int} {ov : Bool} {tr : List Int} {n : Nat} (hc : ChkP b h o es last ov tr) (h4 : Cell h o b4 (.ptr o 0 0)) (h9 : Cell h o b9 (.int .i64 n)) (hn : n ≤ tr.length) (htl : tr.length ≤ 100000000) :
    EvDCall xprog H0 86 [.ptr b4 0 0, .ptr b9 0 0] h fun h' => ChkP b h' o es last ov (tr.take n) ∧ Chg o h h' := by
  refine s_dcall (fn := xf86) rfl (free _ rfl ..) rfl ?_
  have r4 := readCell (off := 0) h4.get rfl
  have r9 := readCell (off := 0) h9.get rfl
  have hb := back_ok hc hn htl fun x hx => (hc.fine x hx).2
  simp -implicitDefEqProofs only [xf86, argsFrom_cons, argsFrom_nil]
  repeat' ((first | refine s_line rfl ?_ | refine s_end rfl ?_ | refine s_seq ?_ | refine s_region ?_ | refine s_block ?_ | refine s_cond ?_ | refine s_ret ?_ | refine s_skip ?_ | refine s_exit ?_ | refine s_if (fun hif => ?_) (fun hif => ?_) | refine condB_dec (fun hif => ?_) (fun hif => ?_) | refine condB_of (fun hif => ?_) (fun hif => ?_) | (refine s_lelt ?_ ?_; omega) | (refine s_lt ?_ ?_; omega) | (refine s_le ?_ ?_; omega) | ((refine evApply_call hb ?_; rintro _ g ⟨k1, k2⟩))) <;>
    (try simp -implicitDefEqProofs (disch := first | assumption | omega) only [sx, sb, sd, se, xwpStep, xwpOp, xwpInt, opEv, xres, oneOf, Nat.reduceAdd, Nat.reduceEqDiff, Nat.reduceSub, ↓reduceIte, reduceCtorEq, *]))
  all_goals exact ⟨k1, k2⟩
theorem fback_ok {b : Nat} {h : Heap} {o b4 : Nat} {es : List (Int × List Int)} {last : Int} {ov : Bool} {tr : List Int} (hc : ChkP b h o es last ov tr) (h4 : Cell h o b4 (.ptr o 0 0)) (htl : tr.length ≤ 100000000) :
    EvDCall xprog H0 50 [.ptr b4 0 0] h fun h' => ChkP b h' o es last ov [] ∧ Chg o h h' := by
  refine s_dcall (fn := xf50) rfl (free _ rfl ..) rfl ?_
  have r4 := readCell (off := 0) h4.get rfl
  have hb : EvCall xprog H0 51 [.ptr o 0 0, .int .i64 0] h fun v h' => ChkP b h' o es last ov [] ∧ Chg o h h' := back_ok (n := 0) hc (Nat.zero_le _) htl fun x hx => (hc.fine x hx).2
  simp -implicitDefEqProofs only [xf50, argsFrom_cons, argsFrom_nil]
  repeat' ((first | refine s_line rfl ?_ | refine s_end rfl ?_ | refine s_seq ?_ | refine s_region ?_ | refine s_block ?_ | refine s_cond ?_ | refine s_ret ?_ | refine s_skip ?_ | refine s_exit ?_ | refine s_if (fun hif => ?_) (fun hif => ?_) | refine condB_dec (fun hif => ?_) (fun hif => ?_) | refine condB_of (fun hif => ?_) (fun hif => ?_) | (refine s_lelt ?_ ?_; omega) | (refine s_lt ?_ ?_; omega) | (refine s_le ?_ ?_; omega) | ((refine evApply_call hb ?_; rintro _ g ⟨k1, k2⟩))) <;>
    (try simp -implicitDefEqProofs (disch := first | assumption | omega) only [sx, sb, sd, se, xwpStep, xwpOp, xwpInt, opEv, xres, oneOf, Nat.reduceAdd, Nat.reduceEqDiff, Nat.reduceSub, ↓reduceIte, reduceCtorEq, *]))
  all_goals exact ⟨k1, k2⟩
end Go.Proofs.Ytmkbnbpblhoekaa
