/- The program's checker: drop's range. -/
import Derived.Test.YtmkbnbpblhoekaaVCky
set_option linter.unusedSimpArgs false
set_option linter.unusedVariables false
set_option linter.unusedSectionVars false
namespace Go.Proofs.Ytmkbnbpblhoekaa
open Go.Xr Go.Chk

theorem inD {i : Nat} (h : i ∈ slotsD) : i = 8 ∨ (33 ≤ i ∧ i ≤ 58) := by
  simp only [slotsD, List.mem_cons, List.not_mem_nil, or_false] at h
  omega
theorem notD {i : Nat} (h : i ∉ slotsD) : i ≠ 8 ∧ (i < 33 ∨ 58 < i) := by
  simp only [slotsD, List.mem_cons, List.not_mem_nil, or_false, not_or] at h
  omega

set_option maxHeartbeats 8000000 in
theorem drange {b : Nat} {g0 : Heap} {o : Nat} {es : List (Int × List Int)} {last : Int} {ov : Bool} {vs tr : List Int} {mo : Nat} {ces : List (Int × V)} {ins : Nat} {vv tv : V} (hm : ChkM b g0 o es last ov vs tr mo ces ins vv tv) (hf : ∀ e ∈ es, e.2.length ≤ 1000000) (htot : Chk.total es ≤ 1000000000) {mm : Nat} {mes : List (Int × V)} {mins : Nat}
    (hmm : g0.get mm = some (.map .i64 mes mins)) (hml : mm < g0.next) (hmo : mm ≠ o ∧ mm ≠ mo) (hks : (mes.map Prod.fst).Pairwise (· < ·)) (hkf : ∀ k ∈ mes.map Prod.fst, find es k ≠ none) (hlen : mes.length ≤ 1000000) {t : Tr V} {d : List XDef} (h32 : slotOf t 32 = .iter g0.next) (ht0 : slotOf t 0 = .ptr o 0 0) (hu : ∀ i ∈ slotsD, vFits (slotOf t i) .any = true)
    {hM : Heap} (hM1 : hM.get g0.next = some (.dead true)) (hM2 : hM.get o = some (arr [.map mo, .int .i64 last, .int .i64 ((Chk.total es : Nat) - (((mes.map Prod.fst).map (lenOf es)).sum : Nat) : Int), .bool ov, vv, tv] 1 false)) (hM3 : hM.get mo = some (.map .i64 (ces.filter fun p => !decide (p.1 ∈ mes.map Prod.fst)) ins)) (hM4 : ∀ x, x ≠ g0.next → x ≠ o → x ≠ mo → hM.get x = (g0.push (.miter (some mm) mins [] none)).get x) (hM5 : hM.next = g0.next + 1) :
    ∃ n, AllTo xprog Hb mD none (.exit 2) (anyAll t slotsD) d hM n t d (g0.push (.miter (some mm) mins [] none)) := by
  have hoo := hm.ho
  have hmmo := hm.hm
  have hom := hm.om
  have hpg : ∀ x, x < g0.next → (g0.push (.miter (some mm) mins [] none)).get x = g0.get x := fun x hx => (Ext.push _ _).get x hx
  refine ⟨mes.length + 1, allTo_of (ins := mins) (kd := .i64) (es := mes) (oi := g0.next) (mo := mm) (fun seen t' d' h => slotOf t' 32 = .iter g0.next ∧ slotOf t' 0 = .ptr o 0 0 ∧ (∃ cur, h.get g0.next = some (.miter (some mm) mins seen cur)) ∧
      h.get o = some (arr [.map mo, .int .i64 last, .int .i64 ((Chk.total es : Nat) - ((seen.map (lenOf es)).sum : Nat) : Int), .bool ov, vv, tv] 1 false) ∧ h.get mo = some (.map .i64 (ces.filter fun p => !decide (p.1 ∈ seen)) ins) ∧ Kept (∀ x, x ≠ g0.next → x ≠ o → x ≠ mo → h.get x = (g0.push (.miter (some mm) mins [] none)).get x) ∧ h.next = g0.next + 1 ∧ d' = d ∧ (∀ i, i ∉ slotsD → slotOf t' i = slotOf t i) ∧ (∀ i ∈ slotsD, vFits (slotOf t' i) .any = true) ∧ seen.Nodup ∧ (∀ k ∈ seen, k ∈ mes.map Prod.fst) ∧ (seen.map (lenOf es)).sum + (Xr.leftOf seen mes).length * 1000000 ≤ mes.length * 1000000) ?_ ?_ ?_ _ [] t d _ (Nat.lt_succ_of_le (leftOf_le _)) ⟨h32, ht0, ⟨none, by rw [Heap.get_push, if_pos rfl]⟩, ?_, ?_, fun _ _ _ _ => rfl, rfl, rfl, fun _ _ => rfl, hu, List.nodup_nil, (fun k hk => by cases hk), ?_⟩⟩
  · rintro seen t' d' h ⟨q1, q2, q3, q4, q5, q6, q7, q8⟩
    exact ⟨q1, q3, (q6 mm (by omega) hmo.1 hmo.2).trans ((hpg mm hml).trans hmm)⟩
  · rintro seen t' d' h ⟨q1, q2, q3, q4, q5, q6, q7, q8, q9, q10, q11, q12, q13⟩ hall
    have hsk : ∀ k, k ∈ seen ↔ k ∈ mes.map Prod.fst := fun k => ⟨q12 k, fun hk => by
      obtain ⟨p, hp, rfl⟩ := List.mem_map.1 hk
      exact hall p hp⟩
    have hperm := perm_keys q11 (keysND hks) hsk
    refine ⟨rfl, tfits_any (fun i hi => ?_) fun i hi => ?_, q8, ⟨by omega, fun x => ?_⟩⟩
    · have := notD hi
      simp only [mD, slotOf_set]
      rw [if_neg (by omega), if_neg (by omega)]
      exact q9 i hi
    · simp only [mD, slotOf_set]
      split
      · rfl
      · split
        · rfl
        · exact q10 i hi
    · by_cases hx1 : x = g0.next
      · subst hx1
        exact .inr (.inr ⟨hM1, by omega⟩)
      · by_cases hx2 : x = o
        · subst hx2
          rw [hM2, q4, sum_perm hperm]
          exact .inl rfl
        · by_cases hx3 : x = mo
          · subst hx3
            rw [hM3, q5]
            refine .inl ?_
            congr 3
            funext p
            simp only [hsk]
          · rw [hM4 x hx1 hx2 hx3, q6 x hx1 hx2 hx3]
            exact .inl rfl
  · rintro seen t' d' h k v ⟨q1, q2, q3, q4, q5, q6, q7, q8, q9, q10, q11, q12, q13⟩ hk hns
    have hkm : k ∈ mes.map Prod.fst := List.mem_map.2 ⟨_, hk, rfl⟩
    obtain ⟨l, ho, lv, sv, f1, f2, hh⟩ : ∃ l ho lv sv, find es k = some l ∧ hasKey k ces = some (.ptr ho 0 0) ∧ HeldAt g0 o ho lv sv l := (hm.held k).elim (fun q => absurd q.1 (hkf k hkm)) fun q => q
    have hoff := hh.off
    rw [mut_iff hm.get] at hoff
    have hholt := hh.lt
    have hlt2 := leftOf_lt (leftOf_mem.2 ⟨hk, hns⟩)
    have hfl : l.length ≤ 1000000 := hf _ (find_some f1)
    have hlo : lenOf es k = l.length := by unfold lenOf; rw [f1]
    have hH2 : (h.put g0.next (.miter (some mm) mins (k :: seen) (some k))).get g0.next = some (.miter (some mm) mins (k :: seen) (some k)) := by rw [Heap.get_put, if_pos rfl]
    have hH1 : ∀ x, x ≠ g0.next → (h.put g0.next (.miter (some mm) mins (k :: seen) (some k))).get x = h.get x := fun x hx => by rw [Heap.get_put, if_neg hx]
    have hH3 : (h.put g0.next (.miter (some mm) mins (k :: seen) (some k))).next = g0.next + 1 := q7
    generalize h.put g0.next (.miter (some mm) mins (k :: seen) (some k)) = H at *
    have go := (hH1 o (by omega)).trans q4
    have gm := (hH1 mo (by omega)).trans q5
    have gmm := (hH1 mm (by omega)).trans ((q6 mm (by omega) hmo.1 hmo.2).trans ((hpg mm hml).trans hmm))
    have gho := (hH1 ho (by omega)).trans ((q6 ho (by omega) (fun e => hoff (.inl e)) (fun e => hoff (.inr (.inl e)))).trans ((hpg ho hholt).trans hh.get))
    have r0 := readCell (off := 0) go rfl
    have r2 := readCell (off := 2) go rfl
    have rl := readCell (off := 0) gho rfl
    have ll := hh.lits.1.len
    have lr := hh.lits.1.row
    simp only [List.length_map] at ll
    have hkk : hasKey k (ces.filter fun p => !decide (p.1 ∈ seen)) = some (.ptr ho 0 0) := by
      rw [hasKey_filter (q := fun x => !decide (x ∈ seen)), if_pos (by simp [hns]), f2]
    have hmk := mem_hasKey (keysND hks) hk
    have hdk : dropKey k (ces.filter fun p => !decide (p.1 ∈ seen)) = ces.filter fun p => !decide (p.1 ∈ k :: seen) := by
      rw [dropKey_filter k (filter_rise hm.keys _), List.filter_filter]
      congr 1
      funext p
      rw [Bool.eq_iff_iff]
      simp [not_or]
    have hI6 : Kept (∀ x, x ≠ g0.next → x ≠ o → x ≠ mo → H.get x = (g0.push (.miter (some mm) mins [] none)).get x) := fun x h1 h2 h3 => (hH1 x h1).trans (q6 x h1 h2 h3)
    have hsum : ((k :: seen).map (lenOf es)).sum = (seen.map (lenOf es)).sum + l.length := by rw [List.map_cons, List.sum_cons, hlo]; omega
    generalize (seen.map (lenOf es)).sum = s at *
    clear hH1 q3 q4 q5 q6 q7 hh hM1 hM2 hM3 hM4 hM5 hkf hpg hu hoff
    unfold MapLoop.rest
    simp only [mD]
    repeat' ((first | refine s_line rfl ?_ | refine s_end rfl ?_ | refine s_seq ?_ | refine s_region ?_ | refine s_block ?_ | refine s_cond ?_ | refine s_ret ?_ | refine s_skip ?_ | refine s_exit ?_ | refine s_if (fun hif => ?_) (fun hif => ?_) | refine condB_dec (fun hif => ?_) (fun hif => ?_) | refine condB_of (fun hif => ?_) (fun hif => ?_) | (refine s_lelt ?_ ?_; omega) | (refine s_lt ?_ ?_; omega) | (refine s_le ?_ ?_; omega) | refine s_again rfl ?_ | (refine And.intro (a := stays _ _ _ = true) ?_ ?_; focus (simp -implicitDefEqProofs (disch := first | assumption | omega) only [sx, sb, sd, se, xwpStep, xwpOp, xwpInt, opEv, xres, oneOf, Nat.reduceAdd, Nat.reduceEqDiff, Nat.reduceSub, ↓reduceIte, reduceCtorEq, stays, wantedV, V.same_refl, Bool.and_self, Bool.and_true, beq_self_eq_true, Bool.true_beq, Bool.false_beq, wrap_i64, kindEq, tellV, List.getElem?_cons_zero, List.getElem?_cons_succ, Nat.beq_refl, List.length_cons, List.length_nil, *]; done)) | ((refine st_step go (by simp) rfl ?_; intro H2 go2 n2 f2'; have gm2 := (f2' mo hom).trans gm; have r02 := readCell (off := 0) go2 rfl))) <;>
      (try simp -implicitDefEqProofs (disch := first | assumption | omega) only [sx, sb, sd, se, xwpStep, xwpOp, xwpInt, opEv, xres, oneOf, Nat.reduceAdd, Nat.reduceEqDiff, Nat.reduceSub, ↓reduceIte, reduceCtorEq, wrap_i64, kindEq, tellV, List.getElem?_cons_zero, List.getElem?_cons_succ, Nat.beq_refl, List.length_cons, List.length_nil, *]))
    refine ⟨by simp [slotOf_set, q1], by simp [slotOf_set, q2], ⟨some k, ?_⟩, ?_, ?_, fun x h1 h2 h3 => ?_, ?_, by first | exact q8 | trivial, fun i hi => ?_, fun i hi => ?_, ?_, ?_, ?_⟩
    · rw [Heap.get_put, if_neg (by omega), f2' _ (by omega)]
      exact hH2
    · rw [Heap.get_put, if_neg (fun e => hom e.symm), go2, show ((Chk.total es : Nat) : Int) - ((s + l.length : Nat) : Int) = (Chk.total es : Nat) - (s : Nat) - (l.length : Nat) by omega]
      simp [List.set]
    · rw [Heap.get_put, if_pos rfl]
    · rw [Heap.get_put, if_neg h3, f2' x h2]
      exact hI6 x h1 h2 h3
    · exact n2.trans hH3
    · have := notD hi
      simp only [slotOf_set]
      repeat rw [if_neg (by omega)]
      exact q9 i hi
    · revert hi
      revert i
      simp [slotsD, slotOf_set, vFits, V.undef]
      all_goals (cases lv <;> first | rfl | cases lr)
    · rw [List.nodup_cons]
      exact ⟨hns, q11⟩
    · intro x hx
      rcases List.mem_cons.1 hx with rfl | hx
      · exact hkm
      · exact q12 x hx
    · omega
  · rw [hpg o hoo]
    simpa using hm.get
  · rw [hpg mo hmmo, hm.map]
    congr 2
    rw [eq_comm, List.filter_eq_self]
    intro x _
    simp
  · have := leftOf_le (seen := []) mes
    simp
    omega
end Go.Proofs.Ytmkbnbpblhoekaa
