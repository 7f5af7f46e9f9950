/- The program's checker: is each clause with the negation met? A range over the clauses in any order. -/
import Derived.Test.YtmkbnbpblhoekaaVCkr
set_option linter.unusedSimpArgs false
set_option linter.unusedVariables false
set_option linter.unusedSectionVars false
namespace Go.Proofs.Ytmkbnbpblhoekaa
open Go.Xr Go.Chk

def mG : MapLoop := ⟨.slot 73, 74, 75, 2, 3, r55_15, .seq (.region false r55_16) (.cond (.slot 91) (.seq (.region false r55_17) .ret) .skip)⟩
def miss (es : List (Int × List Int)) (p : Int) (met : List Int) : Bool := es.any fun e => decide (-p ∈ e.2 ∧ e.1 ∉ met)

theorem leftOf_le {seen : List Int} : ∀ (es : List (Int × V)), (Xr.leftOf seen es).length ≤ es.length
  | [] => Nat.le_refl _
  | (a, v) :: r => by
    have := leftOf_le (seen := seen) r
    unfold Xr.leftOf
    cases seen.any fun b => decide (b = a)
    · simp; omega
    · simp; omega

set_option maxHeartbeats 8000000 in
theorem grange {b : Nat} {g0 : Heap} {o : Nat} {es : List (Int × List Int)} {last : Int} {ov : Bool} {vs tr : List Int} {mo : Nat} {ces : List (Int × V)} {ins : Nat} {vv tv : V} (hm : ChkM b g0 o es last ov vs tr mo ces ins vv tv) (hr : Rise es last) (hf : ∀ e ∈ es, Fine e.2 ∧ e.2.length ≤ 1000000) {mm : Nat} {mes : List (Int × V)} {mins : Nat} {met : List Int} {p : Int}
    (hmm : g0.get mm = some (.map .i64 mes mins)) (hml : mm < g0.next) (hmet : ∀ k, hasKey k mes = if k ∈ met then some (.bool true) else none) (hp : -1048576 ≤ p ∧ p ≤ 1048576) {t : Tr V} {d : List XDef} (h73 : slotOf t 73 = .iter g0.next) (h7 : slotOf t 7 = .map mm) (h1 : slotOf t 1 = .int .i32 p) (hu : ∀ i ∈ slotsG, vFits (slotOf t i) .any = true)
    {eM : XExit} {tM : Tr V} (he : (miss es p met = true ∧ eM = .ret ∧ tM = (anyAll t slotsG).set 6 (.int .i64 61)) ∨ (miss es p met = false ∧ eM = .exit 2 ∧ tM = anyAll t slotsG)) :
    ∃ n, AllTo xprog Hb mG none eM tM d ((g0.push (.miter (some mo) ins [] none)).put g0.next (.dead true)) n t d (g0.push (.miter (some mo) ins [] none)) := by
  have hms : miss es p met = true ↔ ∃ k l, find es k = some l ∧ -p ∈ l ∧ k ∉ met := by
    unfold miss
    rw [List.any_eq_true]
    constructor
    · rintro ⟨⟨k, l⟩, q1, q2⟩
      have q2 := of_decide_eq_true q2
      exact ⟨k, l, find_mem hr.1 q1, q2.1, q2.2⟩
    · rintro ⟨k, l, q1, q2, q3⟩
      exact ⟨(k, l), find_some q1, decide_eq_true ⟨q2, q3⟩⟩
  have wp : IntKind.i32.wrap (-p) = -p := wneg hp.1 hp.2
  have hget : ∀ {h : Heap}, Ext g0 h → h.get mo = some (.map .i64 ces ins) ∧ h.get mm = some (.map .i64 mes mins) := fun x => ⟨(x.get mo hm.hm).trans hm.map, (x.get mm hml).trans hmm⟩
  have hext : ∀ {h : Heap}, (∀ x, x ≠ g0.next → h.get x = (g0.push (.miter (some mo) ins [] none)).get x) → h.next = g0.next + 1 → Ext g0 h := fun q1 q2 => ⟨by omega, fun x hx => (q1 x (by omega)).trans ((Ext.push _ _).get x hx)⟩
  have hG : (g0.push (.miter (some mo) ins [] none)).next = g0.next + 1 := rfl
  refine ⟨ces.length + 1, allTo_of (ins := ins) (kd := .i64) (es := ces) (oi := g0.next) (mo := mo) (fun seen t' d' h => slotOf t' 73 = .iter g0.next ∧ slotOf t' 7 = .map mm ∧ slotOf t' 1 = .int .i32 p ∧ (∃ cur, h.get g0.next = some (.miter (some mo) ins seen cur)) ∧ (∀ x, x ≠ g0.next → h.get x = (g0.push (.miter (some mo) ins [] none)).get x) ∧ h.next = g0.next + 1 ∧ d' = d ∧ (∀ i, i ∉ slotsG → slotOf t' i = slotOf t i) ∧ (∀ i ∈ slotsG, vFits (slotOf t' i) .any = true) ∧ ∀ k ∈ seen, ∀ l, find es k = some l → -p ∈ l → k ∈ met) ?_ ?_ ?_ _ [] t d _ ?_ ⟨h73, h7, h1, ⟨none, by rw [Heap.get_push, if_pos rfl]⟩, fun _ _ => rfl, rfl, rfl, fun _ _ => rfl, hu, fun k hk => by cases hk⟩⟩
  · rintro seen t' d' h ⟨q1, q2, q3, q4, q5, q6, q7, q8, q9, q10⟩
    exact ⟨q1, q4, (hget (hext q5 q6)).1⟩
  · rintro seen t' d' h ⟨q1, q2, q3, q4, q5, q6, q7, q8, q9, q10⟩ hall
    rcases he with ⟨e1, _, _⟩ | ⟨e1, rfl, rfl⟩
    · obtain ⟨k, l, f1, f2, f3⟩ := hms.1 e1
      rcases hm.held k with ⟨f4, _⟩ | ⟨l', ho, lv, sv, f4, f5, _⟩
      · rw [f4] at f1; cases f1
      · exact absurd (q10 k (hall _ (hasKey_mem f5)) l f1 f2) f3
    · refine ⟨rfl, tfits_any (fun i hi => ?_) fun i hi => ?_, q7, hfits_dead q5 (by rw [q6, hG]) (by rw [hG]; exact Nat.lt_succ_self _)⟩
      · have hi2 := hi
        simp only [slotsG, List.mem_cons, List.not_mem_nil, or_false, not_or] at hi2
        simp only [mG, slotOf_set]
        rw [if_neg (by omega), if_neg (by omega)]
        exact q8 i hi
      · simp only [mG, slotOf_set]
        split
        · rfl
        · split
          · rfl
          · exact q9 i hi
  · rintro seen t' d' h k v ⟨q1, q2, q3, q4, q5, q6, q7, q8, q9, q10⟩ hk hns
    obtain ⟨l, ho, lv, sv, f1, f2, hh⟩ : ∃ l ho lv sv, find es k = some l ∧ hasKey k ces = some (.ptr ho 0 0) ∧ HeldAt g0 o ho lv sv l := by
      have := mem_hasKey (keysND hm.keys) hk
      rcases hm.held k with ⟨_, f5⟩ | q
      · rw [f5] at this; cases this
      · exact q
    have hv : v = .ptr ho 0 0 := by
      have := mem_hasKey (keysND hm.keys) hk
      rw [f2] at this
      exact (Option.some.inj this).symm
    subst hv
    have hH1 : ∀ x, x ≠ g0.next → (h.put g0.next (.miter (some mo) ins (k :: seen) (some k))).get x = (g0.push (.miter (some mo) ins [] none)).get x := fun x hx => by rw [Heap.get_put, if_neg hx]; exact q5 x hx
    have hH2 : (h.put g0.next (.miter (some mo) ins (k :: seen) (some k))).get g0.next = some (.miter (some mo) ins (k :: seen) (some k)) := by rw [Heap.get_put, if_pos rfl]
    have hH3 : (h.put g0.next (.miter (some mo) ins (k :: seen) (some k))).next = g0.next + 1 := q6
    generalize h.put g0.next (.miter (some mo) ins (k :: seen) (some k)) = H at *
    have hx := hext hH1 hH3
    obtain ⟨gmo, gmm⟩ := hget hx
    have r1 := readCell (off := 1) ((hx.get ho hh.lt).trans hh.get) rfl
    have hfl := (hf (k, l) (find_some f1)).2
    have hnl := lenNrm l
    have hcon : ∀ z, EvCall xprog Hb 74 [sv, .int .i32 z] H fun v h' => v = .bool (decide (z ∈ l)) ∧ h' = H := fun z => (Contains_okb ((hh.set.1).ext hx) (by simp only at hfl; omega) z).mono fun v h' q => by rw [q.1, q.2]; exact ⟨by simp only [nrm_alike l _], rfl⟩
    have hmk := hmet k
    have hH1k : Kept (∀ x, x ≠ g0.next → H.get x = (g0.push (.miter (some mo) ins [] none)).get x) := hH1
    clear hmet hget hext hk q4 q5 q6 hfl hnl hH1
    unfold MapLoop.rest
    simp only [mG]
    by_cases hkm : k ∈ met
    · rw [if_pos hkm] at hmk
      repeat' ((first | refine s_line rfl ?_ | refine s_end rfl ?_ | refine s_seq ?_ | refine s_region ?_ | refine s_block ?_ | refine s_cond ?_ | refine s_ret ?_ | refine s_skip ?_ | refine s_exit ?_ | refine s_if (fun hif => ?_) (fun hif => ?_) | refine condB_dec (fun hif => ?_) (fun hif => ?_) | refine condB_of (fun hif => ?_) (fun hif => ?_) | (refine s_lelt ?_ ?_; omega) | (refine s_lt ?_ ?_; omega) | (refine s_le ?_ ?_; omega) | refine s_again rfl ?_ | (refine And.intro (a := stays _ _ _ = true) ?_ ?_; focus (simp -implicitDefEqProofs (disch := first | assumption | omega) only [sx, sb, sd, se, xwpStep, xwpOp, xwpInt, opEv, xres, oneOf, Nat.reduceAdd, Nat.reduceEqDiff, Nat.reduceSub, ↓reduceIte, reduceCtorEq, stays, wantedV, V.same_refl, Bool.and_self, Bool.and_true, beq_self_eq_true, Bool.true_beq, Bool.false_beq, kindEq, tellV, List.getElem?_cons_zero, List.getElem?_cons_succ, Nat.beq_refl, *]; done)) | (refine (evCall_iff (hcon _)).2 ?_)) <;>
        (try simp -implicitDefEqProofs (disch := first | assumption | omega) only [sx, sb, sd, se, xwpStep, xwpOp, xwpInt, opEv, xres, oneOf, Nat.reduceAdd, Nat.reduceEqDiff, Nat.reduceSub, ↓reduceIte, reduceCtorEq, kindEq, tellV, List.getElem?_cons_zero, List.getElem?_cons_succ, Nat.beq_refl, *]))
      simp only [outOf_normal]
      refine ⟨by simp [slotOf_set, q1], by simp [slotOf_set, q2], by simp [slotOf_set, q3], ⟨_, hH2⟩, hH1k, hH3, by first | exact q7 | trivial, fun i hi => ?_, ?_, fun k' hk' l' f1' f2' => ?_⟩
      · have hi2 := hi
        simp only [slotsG, List.mem_cons, List.not_mem_nil, or_false, not_or] at hi2
        simp only [slotOf_set]
        simp [hi2]
        exact q8 i hi
      · simp [slotsG, slotOf_set, vFits, V.undef]
      · rcases List.mem_cons.1 hk' with rfl | hk'
        · exact hkm
        · exact q10 k' hk' l' f1' f2'
    · rw [if_neg hkm] at hmk
      repeat' ((first | refine s_line rfl ?_ | refine s_end rfl ?_ | refine s_seq ?_ | refine s_region ?_ | refine s_block ?_ | refine s_cond ?_ | refine s_ret ?_ | refine s_skip ?_ | refine s_exit ?_ | refine s_if (fun hif => ?_) (fun hif => ?_) | refine condB_dec (fun hif => ?_) (fun hif => ?_) | refine condB_of (fun hif => ?_) (fun hif => ?_) | (refine s_lelt ?_ ?_; omega) | (refine s_lt ?_ ?_; omega) | (refine s_le ?_ ?_; omega) | refine s_again rfl ?_ | (refine And.intro (a := stays _ _ _ = true) ?_ ?_; focus (simp -implicitDefEqProofs (disch := first | assumption | omega) only [sx, sb, sd, se, xwpStep, xwpOp, xwpInt, opEv, xres, oneOf, Nat.reduceAdd, Nat.reduceEqDiff, Nat.reduceSub, ↓reduceIte, reduceCtorEq, stays, wantedV, V.same_refl, Bool.and_self, Bool.and_true, beq_self_eq_true, Bool.true_beq, Bool.false_beq, kindEq, tellV, List.getElem?_cons_zero, List.getElem?_cons_succ, Nat.beq_refl, *]; done)) | (refine (evCall_iff (hcon _)).2 ?_)) <;>
        (try simp -implicitDefEqProofs (disch := first | assumption | omega) only [sx, sb, sd, se, xwpStep, xwpOp, xwpInt, opEv, xres, oneOf, Nat.reduceAdd, Nat.reduceEqDiff, Nat.reduceSub, ↓reduceIte, reduceCtorEq, kindEq, tellV, List.getElem?_cons_zero, List.getElem?_cons_succ, Nat.beq_refl, *]))
      · rcases he with ⟨_, rfl, rfl⟩ | ⟨e1, _, _⟩
        · have hfd := hfits_dead hH1k (by rw [hH3, hG]) (by rw [hG]; exact Nat.lt_succ_self _)
          refine ⟨rfl, fun i => ?_, by first | exact hfd | exact ⟨q7, hfd⟩ | exact ⟨trivial, hfd⟩⟩
          by_cases h6 : i = 6
          · subst h6
            simp [slotOf_set, vFits_refl]
          have h6' : ∀ t : Tr V, slotOf (t.set 6 (.int .i64 61)) i = slotOf t i := fun t => by rw [slotOf_set, if_neg h6]
          simp only [h6', slotOf_anyAll]
          by_cases hi : i ∈ slotsG
          · rw [if_pos hi]
            clear h6 h6'
            revert hi
            revert i
            simp [slotsG, slotOf_set, vFits, V.undef]
            all_goals (have hrw := hh.set.1.row; cases sv <;> first | rfl | cases hrw)
          · rw [if_neg hi]
            have hi2 := hi
            simp only [slotsG, List.mem_cons, List.not_mem_nil, or_false, not_or] at hi2
            simp only [slotOf_set]
            simp [hi2]
            rw [q8 i hi]
            exact vFits_refl _
        · exfalso
          have := hms.2 ⟨k, l, f1, by assumption, hkm⟩
          rw [e1] at this
          cases this
      · simp only [outOf_normal]
        refine ⟨by simp [slotOf_set, q1], by simp [slotOf_set, q2], by simp [slotOf_set, q3], ⟨_, hH2⟩, hH1k, hH3, by first | exact q7 | trivial, fun i hi => ?_, ?_, fun k' hk' l' f1' f2' => ?_⟩
        · have hi2 := hi
          simp only [slotsG, List.mem_cons, List.not_mem_nil, or_false, not_or] at hi2
          simp only [slotOf_set]
          simp [hi2]
          exact q8 i hi
        · simp [slotsG, slotOf_set, vFits, V.undef]
          all_goals (have hrw := hh.set.1.row; cases sv <;> first | rfl | cases hrw)
        · rcases List.mem_cons.1 hk' with rfl | hk'
          · rw [f1] at f1'
            cases f1'
            exact absurd f2' (by assumption)
          · exact q10 k' hk' l' f1' f2'
  · exact Nat.lt_succ_of_le (leftOf_le _)
end Go.Proofs.Ytmkbnbpblhoekaa
