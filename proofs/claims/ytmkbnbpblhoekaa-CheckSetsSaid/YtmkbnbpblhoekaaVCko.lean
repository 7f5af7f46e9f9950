/- The program's checker: one hint. -/
import Derived.Test.YtmkbnbpblhoekaaVCkn
set_option linter.unusedSimpArgs false
set_option linter.unusedVariables false
set_option linter.unusedSectionVars false
namespace Go.Proofs.Ytmkbnbpblhoekaa
open Go.Xr Go.Chk

theorem Sl.chgO {h h' : Heap} {o : Nat} {v : V} {k : IntKind} {xs : List Int} (hs : SlO k h o v xs) (c : Chg o h h') : Sl h' v (xs.map (.int k)) := (hs.chg c).1
/-- A cell of one's own that no method writes. -/
structure Cell (h : Heap) (o bo : Nat) (v : V) : Prop where
  get : h.get bo = some (arr [v] 1 false)
  lt : bo < h.next
  off : ¬ Mut h o bo
theorem Cell.chg {h h' : Heap} {o bo : Nat} {v : V} (hc : Cell h o bo v) (c : Chg o h h') : Cell h' o bo v := ⟨(c.but.get _ hc.lt hc.off).trans hc.get, Nat.lt_of_lt_of_le hc.lt c.but.next, fun q => hc.off (c.back _ hc.lt q)⟩
theorem lenNrm (l : List Int) : (nrm l).length ≤ l.length := by
  have h1 := cpt_len (sortLits l) (sortLits l).length
  have h2 := (sortLits_perm l).length_eq
  exact Nat.le_trans h1 (Nat.le_of_eq h2)
theorem litVal_cases (tr : List Int) (x : Int) : (x ∈ tr ∧ litVal tr x = 1) ∨ (x ∉ tr ∧ -x ∈ tr ∧ litVal tr x = -1) ∨ (x ∉ tr ∧ -x ∉ tr ∧ litVal tr x = 0) := by
  unfold litVal
  by_cases h1 : x ∈ tr
  · exact .inl ⟨h1, if_pos h1⟩
  · by_cases h2 : -x ∈ tr
    · exact .inr (.inl ⟨h1, h2, by rw [if_neg h1, if_pos h2]⟩)
    · exact .inr (.inr ⟨h1, h2, by rw [if_neg h1, if_neg h2]⟩)

set_option maxHeartbeats 8000000 in
theorem one_ok {b : Nat} {h : Heap} {o bo : Nat} {es : List (Int × List Int)} {last : Int} {ov : Bool} {tr : List Int} (hc : ChkP b h o es last ov tr) (hbo : Cell h o bo (.ptr o 0 0)) (hf : ∀ e ∈ es, Fine e.2 ∧ e.2.length ≤ 1000000) (htl : tr.length ≤ 10000000) (id : Int) :
    EvCall xprog H0 72 [.int .i64 id, .ptr bo 0 0] h fun v h' => v = .int .i64 ((thr es tr [id]).2 : Nat) ∧ ChkP b h' o es last ov (thr es tr [id]).1 ∧ Chg o h h' := by
  refine s_call (fn := xf72) rfl (free _ rfl ..) ?_
  have hcp := hc
  obtain ⟨vs, mo, ces, ins, vv, tv, hm, hg⟩ := hc
  have rb := readCell (off := 0) hbo.get rfl
  have r0 := readCell (off := 0) hm.get rfl
  have gm := hm.map
  rcases hm.held id with ⟨e1, e2⟩ | ⟨l, ho, lv, sv, e1, e2, hh⟩
  · have e : thr es tr [id] = (tr, 2) := by
      unfold thr
      rw [e1]
    rw [e]
    simp -implicitDefEqProofs only [xf72, argsFrom_cons, argsFrom_nil]
    repeat' ((first | refine s_line rfl ?_ | refine s_end rfl ?_ | refine s_seq ?_ | refine s_region ?_ | refine s_block ?_ | refine s_cond ?_ | refine s_ret ?_ | refine s_skip ?_ | refine s_exit ?_ | refine s_if (fun hif => ?_) (fun hif => ?_) | refine condB_dec (fun hif => ?_) (fun hif => ?_) | refine condB_of (fun hif => ?_) (fun hif => ?_) | (refine s_lelt ?_ ?_; omega) | (refine s_lt ?_ ?_; omega) | (refine s_le ?_ ?_; omega)) <;>
      (try simp -implicitDefEqProofs (disch := first | assumption | omega) only [sx, sb, sd, se, xwpStep, xwpOp, xwpInt, opEv, xres, oneOf, Nat.reduceAdd, Nat.reduceEqDiff, Nat.reduceSub, ↓reduceIte, reduceCtorEq, kindEq, tellV, List.getElem?_cons_zero, List.getElem?_cons_succ, *]))
    exact Chg.refl _ _
  have r1 := readCell (off := 1) hh.get rfl
  have hfl := hf (id, l) (find_some e1)
  have hnl := lenNrm l
  simp only at hfl
  have sl := hh.set.1.len
  have sr := hh.set.1.row
  simp only [List.length_map] at sl
  have hnf : Fine (nrm l) := fun x hx => hfl.1 x (nrm_mem hx)
  have hnod := nrm_nodup l
  have hst : stepOf tr (nrm l) = stepOf tr l := stepOf_alike (Eqs.refl _) (nrm_alike l)
  have hthr : thr es tr [id] = match stepOf tr (nrm l) with | .wrong => (tr, 2) | .conflict => (tr, 1) | .unit x => (tr ++ [x], 0) := by
    unfold thr
    rw [e1, hst]
    simp only
    cases stepOf tr l <;> rfl
  rw [hthr]
  have hrx : ∀ (i : Nat) (hi : i < (nrm l).length), readCells h (objS sv) (genS sv) (offS sv + i) 1 = some [.int .i32 ((nrm l)[i])] := fun i hi => hh.set.1.at (by simp [hi])
  have hnl2 : (nrm l).length ≤ 1000000 := by omega
  clear hthr hst hnl hh hm
  simp -implicitDefEqProofs only [xf72, argsFrom_cons, argsFrom_nil]
  repeat' ((first | refine s_line rfl ?_ | refine s_end rfl ?_ | refine s_seq ?_ | refine s_region ?_ | refine s_block ?_ | refine s_cond ?_ | refine s_ret ?_ | refine s_skip ?_ | refine s_exit ?_ | refine s_if (fun hif => ?_) (fun hif => ?_) | refine condB_dec (fun hif => ?_) (fun hif => ?_) | refine condB_of (fun hif => ?_) (fun hif => ?_) | (refine s_lelt ?_ ?_; omega) | (refine s_lt ?_ ?_; omega) | (refine s_le ?_ ?_; omega)) <;>
    (try simp -implicitDefEqProofs (disch := first | assumption | omega) only [sx, sb, sd, se, xwpStep, xwpOp, xwpInt, opEv, xres, oneOf, Nat.reduceAdd, Nat.reduceEqDiff, Nat.reduceSub, ↓reduceIte, reduceCtorEq, kindEq, tellV, List.getElem?_cons_zero, List.getElem?_cons_succ, *]))
  generalize nrm l = ns at *
  refine s_while (fun n t d g => ∃ (i : Nat) (left : Int), i + n = ns.length ∧ slotOf t 26 = .int .i64 i ∧ slotOf t 25 = .int .i64 ns.length ∧ slotOf t 24 = sv ∧ slotOf t 6 = .int .i32 left ∧ slotOf t 1 = .ptr bo 0 0 ∧ d = [] ∧ g = h ∧ (∀ x ∈ ns.take i, x ∉ tr) ∧ (left = 0 → ∀ x ∈ ns.take i, -x ∈ tr) ∧ Kept (left ≠ 0 → left ∈ ns.take i ∧ -left ∉ tr ∧ ∀ x ∈ ns.take i, -x ∉ tr → x = left)) (fun _ _ _ => free_code ..) ns.length ⟨0, 0, by omega, by simp [slotOf_set], by simp [slotOf_set], by simp [slotOf_set], by simp [slotOf_set], by simp [slotOf_set], rfl, rfl, by simp, by simp, fun q => absurd rfl q⟩ ?_
  rintro n t d g ⟨i, left, a1, a2, a3, a4, a5, a6, rfl, rfl, a7, a8, a9⟩
  by_cases hi : i < ns.length
  · have rx := hrx i hi
    have hfx := hnf _ (List.getElem_mem hi)
    have hof := of_ok hcp (l := ns[i]) ⟨hfx.2.1, hfx.2.2⟩
    have et : ns.take (i + 1) = ns.take i ++ [ns[i]] := take_at hi
    have hmi : ns[i] ∈ ns := List.getElem_mem hi
    have hnt : ns[i] ∉ ns.take i := fun q => by
      obtain ⟨j, hj, e⟩ := List.getElem_of_mem q
      rw [List.length_take] at hj
      rw [List.getElem_take] at e
      have := (List.getElem_inj hnod).1 e
      omega
    obtain ⟨x, hx⟩ : ∃ x, x = ns[i] := ⟨_, rfl⟩
    rw [← hx] at rx hfx hof et hmi hnt
    clear hx hrx
    rcases litVal_cases tr x with ⟨hv, hlv⟩ | ⟨hv, hv2, hlv⟩ | ⟨hv, hv2, hlv⟩
    all_goals rw [hlv] at hof
    · repeat' ((first | refine s_line rfl ?_ | refine s_end rfl ?_ | refine s_seq ?_ | refine s_region ?_ | refine s_block ?_ | refine s_cond ?_ | refine s_ret ?_ | refine s_skip ?_ | refine s_exit ?_ | refine s_if (fun hif => ?_) (fun hif => ?_) | refine condB_dec (fun hif => ?_) (fun hif => ?_) | refine condB_of (fun hif => ?_) (fun hif => ?_) | (refine s_lelt ?_ ?_; omega) | (refine s_lt ?_ ?_; omega) | (refine s_le ?_ ?_; omega) | (refine (evCall_iff hof).2 ?_)) <;>
        (try simp -implicitDefEqProofs (disch := first | assumption | omega) only [sx, sb, sd, se, xwpStep, xwpOp, xwpInt, opEv, xres, oneOf, Nat.reduceAdd, Nat.reduceEqDiff, Nat.reduceSub, ↓reduceIte, reduceCtorEq, wrap_i64, Nat.zero_add, Int.toNat_natCast, *]))
      all_goals first
        | (exfalso; omega)
        | skip
      rw [stepOf_wrong1 hmi hv]
      exact ⟨rfl, hcp, Chg.refl _ _⟩
    · repeat' ((first | refine s_line rfl ?_ | refine s_end rfl ?_ | refine s_seq ?_ | refine s_region ?_ | refine s_block ?_ | refine s_cond ?_ | refine s_ret ?_ | refine s_skip ?_ | refine s_exit ?_ | refine s_if (fun hif => ?_) (fun hif => ?_) | refine condB_dec (fun hif => ?_) (fun hif => ?_) | refine condB_of (fun hif => ?_) (fun hif => ?_) | (refine s_lelt ?_ ?_; omega) | (refine s_lt ?_ ?_; omega) | (refine s_le ?_ ?_; omega) | (refine (evCall_iff hof).2 ?_)) <;>
        (try simp -implicitDefEqProofs (disch := first | assumption | omega) only [sx, sb, sd, se, xwpStep, xwpOp, xwpInt, opEv, xres, oneOf, Nat.reduceAdd, Nat.reduceEqDiff, Nat.reduceSub, ↓reduceIte, reduceCtorEq, wrap_i64, Nat.zero_add, Int.toNat_natCast, *]))
      all_goals first
        | (exfalso; omega)
        | skip
      refine ⟨n - 1, by omega, i + 1, left, by omega, by simp, rfl, fun z hz => ?_, fun h0 z hz => ?_, fun h0 => ?_⟩
      · rw [et, List.mem_append, List.mem_singleton] at hz
        rcases hz with hz | rfl
        · exact a7 z hz
        · exact hv
      · rw [et, List.mem_append, List.mem_singleton] at hz
        rcases hz with hz | rfl
        · exact a8 h0 z hz
        · exact hv2
      · obtain ⟨b1, b2, b3⟩ := a9 h0
        rw [et]
        refine ⟨List.mem_append_left _ b1, b2, fun z hz hn => ?_⟩
        rw [List.mem_append, List.mem_singleton] at hz
        rcases hz with hz | rfl
        · exact b3 z hz hn
        · exact absurd hv2 hn
    · repeat' ((first | refine s_line rfl ?_ | refine s_end rfl ?_ | refine s_seq ?_ | refine s_region ?_ | refine s_block ?_ | refine s_cond ?_ | refine s_ret ?_ | refine s_skip ?_ | refine s_exit ?_ | refine s_if (fun hif => ?_) (fun hif => ?_) | refine condB_dec (fun hif => ?_) (fun hif => ?_) | refine condB_of (fun hif => ?_) (fun hif => ?_) | (refine s_lelt ?_ ?_; omega) | (refine s_lt ?_ ?_; omega) | (refine s_le ?_ ?_; omega) | (refine (evCall_iff hof).2 ?_)) <;>
        (try simp -implicitDefEqProofs (disch := first | assumption | omega) only [sx, sb, sd, se, xwpStep, xwpOp, xwpInt, opEv, xres, oneOf, Nat.reduceAdd, Nat.reduceEqDiff, Nat.reduceSub, ↓reduceIte, reduceCtorEq, wrap_i64, Nat.zero_add, Int.toNat_natCast, *]))
      all_goals first
        | (exfalso; omega)
        | skip
      · have h0 : left ≠ 0 := by simpa using ‹(!decide (left = 0)) = true›
        obtain ⟨b1, b2, b3⟩ := a9 h0
        rw [stepOf_wrong2 hmi (List.mem_of_mem_take b1) (fun e => hnt (e ▸ b1)) hv2 b2]
        exact ⟨rfl, hcp, Chg.refl _ _⟩
      · have h0 : left = 0 := by simpa using ‹(!decide (left = 0)) = false›
        refine ⟨n - 1, by omega, i + 1, x, by omega, by simp, rfl, fun z hz => ?_, fun h0 => absurd h0 hfx.1, fun _ => ?_⟩
        · rw [et, List.mem_append, List.mem_singleton] at hz
          rcases hz with hz | rfl
          · exact a7 z hz
          · exact hv
        · rw [et]
          refine ⟨List.mem_append_right _ (by simp), hv2, fun z hz hn => ?_⟩
          rw [List.mem_append, List.mem_singleton] at hz
          rcases hz with hz | rfl
          · exact absurd (a8 h0 z hz) hn
          · rfl
  have hie : i = ns.length := by omega
  subst hie
  rw [List.take_length] at a7 a8 a9
  by_cases h0 : left = 0
  · repeat' ((first | refine s_line rfl ?_ | refine s_end rfl ?_ | refine s_seq ?_ | refine s_region ?_ | refine s_block ?_ | refine s_cond ?_ | refine s_ret ?_ | refine s_skip ?_ | refine s_exit ?_ | refine s_if (fun hif => ?_) (fun hif => ?_) | refine condB_dec (fun hif => ?_) (fun hif => ?_) | refine condB_of (fun hif => ?_) (fun hif => ?_) | (refine s_lelt ?_ ?_; omega) | (refine s_lt ?_ ?_; omega) | (refine s_le ?_ ?_; omega)) <;>
      (try simp -implicitDefEqProofs (disch := first | assumption | omega) only [sx, sb, sd, se, xwpStep, xwpOp, xwpInt, opEv, xres, oneOf, Nat.reduceAdd, Nat.reduceEqDiff, Nat.reduceSub, ↓reduceIte, reduceCtorEq, wrap_i64, Nat.zero_add, Int.toNat_natCast, *]))
    all_goals first
      | (exfalso; omega)
      | skip
    rw [stepOf_conflict fun x hx => ⟨a7 x hx, a8 h0 x hx⟩]
    exact ⟨rfl, hcp, Chg.refl _ _⟩
  · obtain ⟨b1, b2, b3⟩ := a9 h0
    have hst := stepOf_unit a7 b1 b2 b3
    have hset := set_ok hcp h0 (hnf left b1).2 (a7 left b1) b2 (by omega)
    clear b3 a9
    repeat' ((first | refine s_line rfl ?_ | refine s_end rfl ?_ | refine s_seq ?_ | refine s_region ?_ | refine s_block ?_ | refine s_cond ?_ | refine s_ret ?_ | refine s_skip ?_ | refine s_exit ?_ | refine s_if (fun hif => ?_) (fun hif => ?_) | refine condB_dec (fun hif => ?_) (fun hif => ?_) | refine condB_of (fun hif => ?_) (fun hif => ?_) | (refine s_lelt ?_ ?_; omega) | (refine s_lt ?_ ?_; omega) | (refine s_le ?_ ?_; omega) | ((refine evApply_call hset ?_; rintro _ g1 ⟨k1, k2⟩))) <;>
      (try simp -implicitDefEqProofs (disch := first | assumption | omega) only [sx, sb, sd, se, xwpStep, xwpOp, xwpInt, opEv, xres, oneOf, Nat.reduceAdd, Nat.reduceEqDiff, Nat.reduceSub, ↓reduceIte, reduceCtorEq, wrap_i64, Nat.zero_add, Int.toNat_natCast, *]))
    all_goals first
      | (exfalso; omega)
      | exact ⟨k1, k2⟩
end Go.Proofs.Ytmkbnbpblhoekaa
