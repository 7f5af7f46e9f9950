/- The document's checker: drop. -/
import Derived.Test.YtmkbnbpblhoekaaVCki
set_option linter.unusedSimpArgs false
set_option linter.unusedVariables false
set_option linter.unusedSectionVars false
namespace Go.Proofs.Ytmkbnbpblhoekaa
open Go.Xr Go.Chk

theorem filt_next (es : List (Int × List Int)) {ids : List Int} {i : Nat} (hi : i < ids.length) : es.filter (fun e => decide (e.1 ∉ ids.take (i + 1))) = (es.filter fun e => decide (e.1 ∉ ids.take i)).filter fun e => decide (e.1 ≠ ids[i]) := by
  rw [List.filter_filter]
  congr 1
  funext e
  rw [take_at hi, Bool.eq_iff_iff, Bool.and_eq_true, decide_eq_true_eq, decide_eq_true_eq, decide_eq_true_eq, List.mem_append, List.mem_singleton]
  constructor
  · exact fun h => ⟨fun q => h (.inr q), fun q => h (.inl q)⟩
  · rintro ⟨h1, h2⟩ (q | q)
    · exact h2 q
    · exact h1 q
theorem rrows_cut {h H : Heap} {o : Nat} {Lv L1 : V} {cs : List V} {es : List (Int × List Int)} {p : Nat} (hr : RRows h o Lv cs es) (hcs : cs.length = es.length * 2) (hp : p < es.length) (hn : h.next ≤ H.next) (hg : ∀ x, x < h.next → x ≠ o → H.get x = h.get x)
    (hL : ∀ x, rowObj L1 = some x → h.next ≤ x) : RRows H o L1 (cs.take (p * 2) ++ cs.drop ((p + 1) * 2)) (es.take p ++ es.drop (p + 1)) := by
  have main : ∀ (j : Nat) (hj : j < es.length) (c1 c2 : Option V) (e : Int × List Int), c1 = cs[j * 2]? → c2 = cs[j * 2 + 1]? → e = es[j] → c1 = some (.int .i64 e.1) ∧ ∃ lv, c2 = some lv ∧ Sl H lv (e.2.map (.int .i32)) ∧ ∀ x, rowObj lv = some x → x ≠ o ∧ rowObj L1 ≠ some x ∧ x < H.next := by
    rintro j hj c1 c2 e rfl rfl rfl
    obtain ⟨h1, lv, h2, h3, h4⟩ := hr j hj
    refine ⟨h1, lv, h2, h3.stay hn fun x hx hlt => hg x (h4 x hx).2.2 (h4 x hx).1, fun x hx => ?_⟩
    obtain ⟨q1, q2, q3⟩ := h4 x hx
    exact ⟨q1, fun q => by have := hL x q; omega, Nat.lt_of_lt_of_le q3 hn⟩
  intro i hi
  have hlen : (es.take p ++ es.drop (p + 1)).length = es.length - 1 := by simp; omega
  have hct : (cs.take (p * 2)).length = p * 2 := by simp; omega
  have het : (es.take p).length = p := by simp; omega
  rw [hlen] at hi
  by_cases hip : i < p
  · refine main i (by omega) _ _ _ ?_ ?_ ?_
    · rw [List.getElem?_append_left (by omega), List.getElem?_take, if_pos (by omega)]
    · rw [List.getElem?_append_left (by omega), List.getElem?_take, if_pos (by omega)]
    · rw [List.getElem_append_left (by omega), List.getElem_take]
  · refine main (i + 1) (by omega) _ _ _ ?_ ?_ ?_
    · rw [List.getElem?_append_right (by omega), List.getElem?_drop, hct]
      congr 1
      omega
    · rw [List.getElem?_append_right (by omega), List.getElem?_drop, hct]
      congr 1
      omega
    · rw [List.getElem_append_right (by omega), List.getElem_drop]
      congr 1
      omega

set_option maxHeartbeats 8000000 in
theorem rdrop_ok {b : Nat} {h : Heap} {o : Nat} {es : List (Int × List Int)} {last : Int} {ov : Bool} {hv : V} {ids : List Int} (hc : RChk b h o es last ov) (hl : es.length ≤ 1000000) (hr : Rise es last) (hf : ∀ e ∈ es, e.2.length ≤ 1000000) (htot : Chk.total es ≤ 1000000000) (hh : Sl h hv (ids.map (.int .i64))) (hhb : ∀ x, rowObj hv = some x → x < b) (hhl : ids.length ≤ 1000000) :
    EvCall xprog H0 45 [.ptr o 0 0, hv] h fun v h' => v = .int .i64 (if none5 es ids = true then 5 else 0) ∧ RChk b h' o (if none5 es ids = true then es else es.filter fun e => decide (e.1 ∉ ids)) last ov ∧ But (fun x => b ≤ x) h h' := by
  refine s_call (fn := xf45) rfl (free _ rfl ..) ?_
  have el := hh.len
  have er := hh.row
  simp only [List.length_map] at el
  have hids : ∀ {g}, But (fun x => b ≤ x) h g → Sl g hv (ids.map (.int .i64)) := fun x => hh.stay x.next fun o ho hlt => x.get o hlt (by have := hhb o ho; omega)
  have hids2 : ∀ {g}, But (fun x => b ≤ x) h g → ∀ (k : Nat) (hk : k < ids.length), readCells g (objS hv) (genS hv) (offS hv + k) 1 = some [.int .i64 (ids[k])] := fun x k hk => (hids x).at (by simp [hk])
  have hbad1 : ∀ (k : Nat) (hk : k < ids.length), find es ids[k] = none → none5 es ids = true := fun k hk q => by
    unfold none5
    rw [Bool.or_eq_true, List.any_eq_true]
    exact .inl ⟨_, List.getElem_mem hk, by rw [q]; rfl⟩
  have hbad2 : ¬ ids.Nodup → none5 es ids = true := fun q => by
    unfold none5
    rw [Bool.or_eq_true]
    exact .inr (by simp [q])
  have hgood : (∀ (k : Nat) (hk : k < ids.length), find es ids[k] ≠ none) → ids.Nodup → none5 es ids = false := fun q1 q2 => by
    unfold none5
    rw [Bool.or_eq_false_iff, List.any_eq_false]
    refine ⟨fun x hx => ?_, by simp [q2]⟩
    obtain ⟨k, hk, rfl⟩ := List.getElem_of_mem hx
    have := q1 k hk
    cases hfx : find es ids[k] with
    | none => exact absurd hfx this
    | some l => simp
  simp -implicitDefEqProofs only [xf45, argsFrom_cons, argsFrom_nil]
  repeat' ((first | refine s_line rfl ?_ | refine s_end rfl ?_ | refine s_seq ?_ | refine s_region ?_ | refine s_block ?_ | refine s_cond ?_ | refine s_ret ?_ | refine s_skip ?_ | refine s_exit ?_ | refine s_if (fun hif => ?_) (fun hif => ?_) | refine condB_dec (fun hif => ?_) (fun hif => ?_) | refine condB_of (fun hif => ?_) (fun hif => ?_) | (refine s_lelt ?_ ?_; omega) | (refine s_lt ?_ ?_; omega) | (refine s_le ?_ ?_; omega)) <;>
    (try simp -implicitDefEqProofs (disch := first | assumption | omega) only [sx, sb, sd, se, xwpStep, xwpOp, xwpInt, opEv, xres, oneOf, Nat.reduceAdd, Nat.reduceEqDiff, Nat.reduceSub, ↓reduceIte, reduceCtorEq, *]))
  refine s_while (fun n t d g => ∃ (i : Nat), i + n = ids.length ∧ slotOf t 5 = .int .i64 i ∧ slotOf t 0 = .ptr o 0 0 ∧ slotOf t 1 = hv ∧ d = [] ∧ g = h ∧ (∀ (k : Nat) (hk : k < ids.length), k < i → find es ids[k] ≠ none) ∧ (ids.take i).Nodup) (fun _ _ _ => free_code ..) ids.length ⟨0, by omega, by simp [slotOf_set], by simp [slotOf_set], by simp [slotOf_set], rfl, rfl, fun k _ hk => by omega, by simp⟩ ?_
  rintro n t d g ⟨i, a1, a2, a3, a4, rfl, rfl, a5, a6⟩
  have rx := hids2 (But.refl _ g)
  refine s_cut1 (fun t d g1 => slotOf t 5 = .int .i64 i ∧ slotOf t 0 = .ptr o 0 0 ∧ slotOf t 1 = hv ∧ d = [] ∧ g1 = g ∧ i < ids.length) ?_ ?_
  · repeat' ((first | refine s_line rfl ?_ | refine s_end rfl ?_ | refine s_seq ?_ | refine s_region ?_ | refine s_block ?_ | refine s_cond ?_ | refine s_ret ?_ | refine s_skip ?_ | refine s_exit ?_ | refine s_if (fun hif => ?_) (fun hif => ?_) | refine condB_dec (fun hif => ?_) (fun hif => ?_) | refine condB_of (fun hif => ?_) (fun hif => ?_) | (refine s_lelt ?_ ?_; omega) | (refine s_lt ?_ ?_; omega) | (refine s_le ?_ ?_; omega)) <;>
      (try simp -implicitDefEqProofs (disch := first | assumption | omega) only [sx, sb, sd, se, xwpStep, xwpOp, xwpInt, opEv, xres, oneOf, Nat.reduceAdd, Nat.reduceEqDiff, Nat.reduceSub, ↓reduceIte, reduceCtorEq, *]))
    · omega
    have hi : i = ids.length := by omega
    subst hi
    rw [List.take_length] at a6
    have hg5 := hgood (fun k hk => a5 k hk hk) a6
    rw [hg5]
    simp only [Bool.false_eq_true, if_false]
    have hall := a5
    clear a1 a5 rx hbad1 hbad2 hgood
    refine s_while (fun n t d g1 => ∃ (i : Nat), i + n = ids.length ∧ slotOf t 7 = .int .i64 i ∧ slotOf t 0 = .ptr o 0 0 ∧ slotOf t 1 = hv ∧ d = [] ∧ But (fun x => b ≤ x) g g1 ∧ RChk b g1 o (es.filter fun e => decide (e.1 ∉ ids.take i)) last ov) (fun _ _ _ => free_code ..) ids.length ⟨0, by omega, by simp [slotOf_set], by simp [slotOf_set, a3], by simp [slotOf_set, a4], rfl, But.refl _ _, by rw [show es.filter (fun e => decide (e.1 ∉ ids.take 0)) = es by rw [List.filter_eq_self]; intro x _; simp]; exact hc⟩ ?_
    clear a2 a3 a4 t n
    rintro n t d g1 ⟨i, a1, a2, a3, a4, rfl, xg, k1⟩
    have hfl : (es.filter fun e => decide (e.1 ∉ ids.take i)).length ≤ 1000000 := Nat.le_trans (List.length_filter_le _ _) hl
    refine s_cut1 (fun t d g2 => slotOf t 7 = .int .i64 i ∧ slotOf t 0 = .ptr o 0 0 ∧ slotOf t 1 = hv ∧ d = [] ∧ g2 = g1 ∧ i < ids.length) ?_ ?_
    · repeat' ((first | refine s_line rfl ?_ | refine s_end rfl ?_ | refine s_seq ?_ | refine s_region ?_ | refine s_block ?_ | refine s_cond ?_ | refine s_ret ?_ | refine s_skip ?_ | refine s_exit ?_ | refine s_if (fun hif => ?_) (fun hif => ?_) | refine condB_dec (fun hif => ?_) (fun hif => ?_) | refine condB_of (fun hif => ?_) (fun hif => ?_) | (refine s_lelt ?_ ?_; omega) | (refine s_lt ?_ ?_; omega) | (refine s_le ?_ ?_; omega)) <;>
        (try simp -implicitDefEqProofs (disch := first | assumption | omega) only [sx, sb, sd, se, xwpStep, xwpOp, xwpInt, opEv, xres, oneOf, Nat.reduceAdd, Nat.reduceEqDiff, Nat.reduceSub, ↓reduceIte, reduceCtorEq, *]))
      · omega
      · have hi : i = ids.length := by omega
        subst hi
        rw [List.take_length] at k1
        exact k1
    clear a2 a3 a4 t
    rintro t d g1 ⟨a2, a3, a4, rfl, rfl, hi⟩
    have rx := hids2 xg i hi
    have hfind : ∀ id, EvCall xprog H0 60 [.ptr o 0 0, .int .i64 id] g1 fun v h' => (∃ r : Int, v = .int .i64 r ∧ ((r < 0 ∧ find (es.filter fun e => decide (e.1 ∉ ids.take i)) id = none) ∨ ∃ (p : Nat) (l : List Int), r = p ∧ (es.filter fun e => decide (e.1 ∉ ids.take i))[p]? = some (id, l) ∧ find (es.filter fun e => decide (e.1 ∉ ids.take i)) id = some l)) ∧ h' = g1 := fun id => rFind_ok k1 hfl id
    have hnn : find (es.filter fun e => decide (e.1 ∉ ids.take i)) ids[i] ≠ none := by
      have e := find_filter (es := es) (id := ids[i]) (fun id => decide (id ∉ ids.take i))
      rw [e, if_pos]
      · exact hall i hi hi
      · refine decide_eq_true fun hm => ?_
        obtain ⟨j, hj, e⟩ := List.getElem_of_mem hm
        rw [List.length_take] at hj
        rw [List.getElem_take] at e
        have := (List.getElem_inj a6).1 e
        omega
    have hnext := filt_next es hi
    have hr1 : Rise (es.filter fun e => decide (e.1 ∉ ids.take i)) last := hr.filter _
    have htot1 : Chk.total (es.filter fun e => decide (e.1 ∉ ids.take i)) ≤ 1000000000 := Nat.le_trans (total_filter_le _ _) htot
    have hf1 : ∀ e ∈ es.filter (fun e => decide (e.1 ∉ ids.take i)), e.2.length ≤ 1000000 := fun e he => hf e (List.mem_filter.1 he).1
    generalize es.filter (fun e => decide (e.1 ∉ ids.take i)) = es1 at *
    obtain ⟨id, hid⟩ : ∃ id, id = ids[i] := ⟨_, rfl⟩
    rw [← hid] at rx hnn hnext
    clear hid hids hids2
    obtain ⟨Lv, cs, go1, hbo, holt, q1, q5, q2, q6⟩ := k1
    have s10 := readCell (off := 0) go1 rfl
    have s13 := readCell (off := 3) go1 rfl
    have eL := q1.len
    have rL := q1.row
    repeat' ((first | refine s_line rfl ?_ | refine s_end rfl ?_ | refine s_seq ?_ | refine s_region ?_ | refine s_block ?_ | refine s_cond ?_ | refine s_ret ?_ | refine s_skip ?_ | refine s_exit ?_ | refine s_if (fun hif => ?_) (fun hif => ?_) | refine condB_dec (fun hif => ?_) (fun hif => ?_) | refine condB_of (fun hif => ?_) (fun hif => ?_) | (refine s_lelt ?_ ?_; omega) | (refine s_lt ?_ ?_; omega) | (refine s_le ?_ ?_; omega) | ((refine evApply_call (hfind _) ?_; rintro _ g1 ⟨⟨r, rfl, ⟨hr0, hnone⟩ | ⟨p, l, rfl, hat, hsome⟩⟩, rfl⟩; exact absurd hnone hnn; have hp := (List.getElem?_eq_some_iff.1 hat).1; obtain ⟨hc1, lw, hc2, hsl, hobj⟩ := q2 p hp; have hpe := (List.getElem?_eq_some_iff.1 hat).2; rw [hpe] at hsl; have rlw := q1.at hp hc2; have rowlw := hsl.row; have lenlw := hsl.len; simp only [List.length_map] at lenlw; have hll := hf1 _ (List.mem_of_getElem? hat))) | ((refine st_step go1 (by simp) rfl ?_; intro g3 go3 n3 f3; have s30 := readCell (off := 0) go3 rfl; have q13 : GrN 2 b g3 Lv cs es1.length := q1.frame (by omega) fun x hx => f3 x fun e => q5 (e ▸ hx))) | ((refine q13.hi (by omega) (by omega) ?_; intro w1 e1; rw [Int.toNat_natCast] at e1)) | ((refine x_append_grn (b := g3.next) (by decide) (.inl ⟨rfl, rfl, rfl⟩) (Nat.le_refl _) e1 (List.all_eq_true.2 fun x hx => List.all_eq_true.1 q6 x (List.mem_of_mem_take hx)) (by omega) ?_; rintro L2 g4 v1 v2 v3; have y4 : Ext g3 g4 := (Ext.refl g3).butI v2 (fun o ho q => by cases q); have go4 : g4.get o = _ := (y4.get o (by omega)).trans go3; have s40 := readCell (off := 0) go4 rfl)) | ((refine (q13.ext y4).lo (by omega) (by omega) ?_; intro w2 e2; rw [show ((p : Int) + 1).toNat = p + 1 by omega] at e2)) | ((refine x_append_grn (by decide) v1 y4.next e2 (List.all_eq_true.2 fun x hx => List.all_eq_true.1 q6 x (List.mem_of_mem_drop hx)) (by omega) ?_; rintro L3 g5 v4 v5 v6; have go5 : g5.get o = _ := (v5.get o (by have := y4.next; omega) fun q => by have := (v1.lt q).1; omega).trans go4; have rL3 := v4.row)) | ((refine st_step go5 (by simp) (one_row rL3) ?_; intro g6 go6 n6 f6))) <;>
      (try simp -implicitDefEqProofs (disch := first | assumption | omega) only [sx, sb, sd, se, xwpStep, xwpOp, xwpInt, opEv, xres, oneOf, Nat.reduceAdd, Nat.reduceEqDiff, Nat.reduceSub, ↓reduceIte, reduceCtorEq, wrap_i64, Nat.zero_add, Nat.add_zero, Int.toNat_natCast, List.length_cons, List.length_nil, *]))
    have hts := total_split hat
    have hL2 : ∀ x, rowObj L2 = some x → x = g3.next := fun x hx => v3.elim (fun e => by rw [hx] at e; cases e) fun e => by rw [hx] at e; exact Option.some.inj e
    have hL3 : ∀ x, rowObj L3 = some x → g3.next ≤ x := fun x hx => v6.elim (fun e => by have := hL2 x (e ▸ hx); omega) fun e => by rw [hx] at e; cases e; exact y4.next
    have hch : ∀ x, x < g1.next → x ≠ o → g6.get x = g1.get x := fun x h1 h2 => (f6 x h2).trans ((v5.get x (by have := y4.next; omega) fun q => by have := hL2 x q; omega).trans ((y4.get x (by omega)).trans (f3 x h2)))
    have hlen : (es1.take p ++ es1.drop (p + 1)).length = 0 + p + (es1.length - (p + 1)) := by simp; omega
    have hn6 : g1.next ≤ g6.next := by have := y4.next; have := v5.next; omega
    refine ⟨n - 1, by omega, i + 1, by omega, by simp, ⟨Nat.le_trans xg.next hn6, fun x h1 h2 => ?_⟩, ?_⟩
    · exact (hch x (Nat.lt_of_lt_of_le h1 xg.next) (by omega)).trans (xg.get x h1 h2)
    rw [hnext, filt_erase hr1.1 hat]
    refine ⟨L3, _, ?_, hbo, by omega, ?_, fun q => by have := hL3 o q; omega, rrows_cut q2 q1.size hp hn6 hch fun x hx => by have := hL3 x hx; omega, ?_⟩
    · rw [go6, show (Chk.total (es1.take p ++ es1.drop (p + 1)) : Int) = Chk.total es1 - l.length by omega]
      have hll' : l.length ≤ 1000000 := hll
      rw [wrap_i64 (show -9223372036854775808 ≤ (Chk.total es1 : Int) - l.length by omega) (by omega)]
      simp [List.set]
    · rw [hlen]
      have := v4.frame (h' := g6) (by omega) fun x hx => f6 x fun e => by have := hL3 x hx; omega
      refine this.imp (fun q => q) ?_
      rintro ⟨o1, g, r, q1, q2, q3⟩
      exact ⟨o1, g, r, by omega, q2, q3⟩
    · rw [List.all_append, Bool.and_eq_true]
      exact ⟨List.all_eq_true.2 fun x hx => List.all_eq_true.1 q6 x (List.mem_of_mem_take hx), List.all_eq_true.2 fun x hx => List.all_eq_true.1 q6 x (List.mem_of_mem_drop hx)⟩
  clear a2 a3 a4 t
  rintro t d g ⟨a2, a3, a4, rfl, rfl, hi⟩
  have hfind : ∀ id, EvCall xprog H0 60 [.ptr o 0 0, .int .i64 id] g fun v h' => (∃ r : Int, v = .int .i64 r ∧ ((r < 0 ∧ find es id = none) ∨ ∃ (i : Nat) (l : List Int), r = i ∧ es[i]? = some (id, l) ∧ find es id = some l)) ∧ h' = g := fun id => rFind_ok hc hl id
  replace rx := fun k hk => rx k hk
  have rxi := rx i hi
  repeat' ((first | refine s_line rfl ?_ | refine s_end rfl ?_ | refine s_seq ?_ | refine s_region ?_ | refine s_block ?_ | refine s_cond ?_ | refine s_ret ?_ | refine s_skip ?_ | refine s_exit ?_ | refine s_if (fun hif => ?_) (fun hif => ?_) | refine condB_dec (fun hif => ?_) (fun hif => ?_) | refine condB_of (fun hif => ?_) (fun hif => ?_) | (refine s_lelt ?_ ?_; omega) | (refine s_lt ?_ ?_; omega) | (refine s_le ?_ ?_; omega) | ((refine evApply_call (hfind _) ?_; rintro _ g ⟨⟨r, rfl, ⟨hr0, hnone⟩ | ⟨p, l, rfl, hat, hsome⟩⟩, rfl⟩; rotate_left))) <;>
    (try simp -implicitDefEqProofs (disch := first | assumption | omega) only [sx, sb, sd, se, xwpStep, xwpOp, xwpInt, opEv, xres, oneOf, Nat.reduceAdd, Nat.reduceEqDiff, Nat.reduceSub, ↓reduceIte, reduceCtorEq, wrap_i64, Nat.zero_add, Nat.add_zero, Int.toNat_natCast, *]))
  · refine s_while (fun m t d g1 => ∃ (k : Nat), k + m = i ∧ slotOf t 6 = .int .i64 k ∧ slotOf t 5 = .int .i64 i ∧ slotOf t 0 = .ptr o 0 0 ∧ slotOf t 1 = hv ∧ d = [] ∧ g1 = g ∧ ∀ (j : Nat) (hj : j < ids.length), j < k → ids[j] ≠ ids[i]) (fun _ _ _ => free_code ..) i ⟨0, by omega, by simp [slotOf_set], by simp [slotOf_set, a2], by simp [slotOf_set, a3], by simp [slotOf_set, a4], rfl, rfl, fun k _ hk => by omega⟩ ?_
    clear a2 a3 a4 t
    rintro m t d g ⟨k, c1, c2, a2, a3, a4, rfl, rfl, c3⟩
    have rxk := rx k
    repeat' ((first | refine s_line rfl ?_ | refine s_end rfl ?_ | refine s_seq ?_ | refine s_region ?_ | refine s_block ?_ | refine s_cond ?_ | refine s_ret ?_ | refine s_skip ?_ | refine s_exit ?_ | refine s_if (fun hif => ?_) (fun hif => ?_) | refine condB_dec (fun hif => ?_) (fun hif => ?_) | refine condB_of (fun hif => ?_) (fun hif => ?_) | (refine s_lelt ?_ ?_; omega) | (refine s_lt ?_ ?_; omega) | (refine s_le ?_ ?_; omega)) <;>
      (try simp -implicitDefEqProofs (disch := first | assumption | omega) only [sx, sb, sd, se, xwpStep, xwpOp, xwpInt, opEv, xres, oneOf, Nat.reduceAdd, Nat.reduceEqDiff, Nat.reduceSub, ↓reduceIte, reduceCtorEq, wrap_i64, Nat.zero_add, Nat.add_zero, Int.toNat_natCast, *]))
    · have hb := hbad2 fun q => by have := (List.getElem_inj q).1 hif; omega
      simp only [hb, if_true]
      exact ⟨trivial, hc, But.refl _ _⟩
    · refine ⟨m - 1, by omega, k + 1, by omega, by simp, fun j hj hlt => ?_⟩
      rcases Nat.lt_succ_iff_lt_or_eq.1 hlt with h | rfl
      · exact c3 j hj h
      · exact hif
    · refine ⟨n - 1, by omega, i + 1, by omega, by simp, fun j hj hlt => ?_, ?_⟩
      · rcases Nat.lt_succ_iff_lt_or_eq.1 hlt with h | rfl
        · exact a5 j hj h
        · rw [hsome]
          simp
      · rw [take_at hi, List.nodup_append]
        refine ⟨a6, by simp, fun x hx y hy => ?_⟩
        rw [List.mem_singleton] at hy
        subst hy
        rintro rfl
        obtain ⟨j, hj, e⟩ := List.getElem_of_mem hx
        rw [List.length_take] at hj
        rw [List.getElem_take] at e
        exact c3 j (by omega) (by omega) e
  · exact But.refl _ _
end Go.Proofs.Ytmkbnbpblhoekaa
