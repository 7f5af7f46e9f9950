/- The program's checker: literals taken back. -/
import Derived.Test.YtmkbnbpblhoekaaVCkm
set_option linter.unusedSimpArgs false
set_option linter.unusedVariables false
set_option linter.unusedSectionVars false
namespace Go.Proofs.Ytmkbnbpblhoekaa
open Go.Xr Go.Chk

theorem Tk.rest {b : Nat} {h : Heap} {v : V} {xs : List V} (hv : Tk b h v xs) {k : IntKind} {i : Int} {K : V → Heap → Prop} (h0 : 0 ≤ i) (h1 : i ≤ xs.length) (hk : ∀ r, Sl h r (xs.drop i.toNat) → (∀ x, rowObj r = some x → rowObj v = some x) → K r h) : XSlc h 1 v (some (.int k i)) none none K := by
  rcases hv with ⟨rfl, rfl⟩ | ⟨o, g, r, cs, h2, h3, rfl, hg, ht, hle⟩
  · have : i = 0 := by simp at h1; omega
    subst this
    exact slc_eq (lo := some 0) (hi := none) (k' := k) (fun x hx => by cases hx; omega) (fun x hx => by cases hx) (r := .nils) rfl (hk _ (.inl ⟨rfl, by simp⟩) fun x hx => by cases hx)
  · refine x_slc_lo h0 h1 (hk _ (.inr ⟨o, g, _, _, by rw [List.length_drop], fun hp => ⟨h3, ?_⟩⟩) fun x hx => hx)
    have hr : readCells h o g 0 xs.length = some xs := by rw [readCells_grown hg (by omega), List.drop_zero, ht]
    rw [List.length_drop] at hp ⊢
    rw [readCells_part hr (by omega), List.take_of_length_le (by simp)]

set_option maxHeartbeats 8000000 in
theorem back_ok {b : Nat} {h : Heap} {o : Nat} {es : List (Int × List Int)} {last : Int} {ov : Bool} {tr : List Int} (hc : ChkP b h o es last ov tr) {n : Nat} (hn : n ≤ tr.length) (htl : tr.length ≤ 100000000) (hfl : ∀ x ∈ tr, -1048576 ≤ x ∧ x ≤ 1048576) : EvCall xprog H0 51 [.ptr o 0 0, .int .i64 (n : Nat)] h fun v h' => ChkP b h' o es last ov (tr.take n) ∧ Chg o h h' := by
  refine s_call (fn := xf51) rfl (free _ rfl ..) ?_
  obtain ⟨vs, mo, ces, ins, vv, tv, hm, hg⟩ := hc
  obtain ⟨r4, r5, q1, q2, q3, q4⟩ := hm.reads
  simp -implicitDefEqProofs only [xf51, argsFrom_cons, argsFrom_nil]
  repeat' ((first | refine s_line rfl ?_ | refine s_end rfl ?_ | refine s_seq ?_ | refine s_region ?_ | refine s_block ?_ | refine s_cond ?_ | refine s_ret ?_ | refine s_skip ?_ | refine s_exit ?_ | refine s_if (fun hif => ?_) (fun hif => ?_) | refine condB_dec (fun hif => ?_) (fun hif => ?_) | refine condB_of (fun hif => ?_) (fun hif => ?_) | (refine s_lelt ?_ ?_; omega) | (refine s_lt ?_ ?_; omega) | (refine s_le ?_ ?_; omega) | refine s_again rfl ?_ | (refine And.intro (a := stays _ _ _ = true) ?_ ?_; focus (simp -implicitDefEqProofs (disch := first | assumption | omega) only [sx, sb, sd, se, xwpStep, xwpOp, xwpInt, opEv, xres, oneOf, Nat.reduceAdd, Nat.reduceEqDiff, Nat.reduceSub, ↓reduceIte, reduceCtorEq, stays, wantedV, V.same_refl, Bool.and_self, Bool.and_true, beq_self_eq_true, Bool.true_beq, Bool.false_beq, wrap_i64, Int.toNat_natCast, *]; done)) | ((refine Tk.rest hm.trl (by omega) (by simp; omega) ?_; intro rv k1 k2; rw [Int.toNat_natCast, ← List.map_drop] at k1; have kl := k1.len; have kr := k1.row; simp only [List.length_map, List.length_drop] at kl))) <;>
    (try simp -implicitDefEqProofs (disch := first | assumption | omega) only [sx, sb, sd, se, xwpStep, xwpOp, xwpInt, opEv, xres, oneOf, Nat.reduceAdd, Nat.reduceEqDiff, Nat.reduceSub, ↓reduceIte, reduceCtorEq, wrap_i64, Int.toNat_natCast, *]))
  refine s_while (fun m t d g => ∃ (i : Nat) (vs' : List Int), i + m = tr.length - n ∧ slotOf t 13 = .int .i64 i ∧ slotOf t 12 = .int .i64 (tr.length - n : Nat) ∧ slotOf t 11 = rv ∧ slotOf t 0 = .ptr o 0 0 ∧ slotOf t 1 = .int .i64 n ∧ d = [] ∧ Chg o h g ∧ ChkM b g o es last ov vs' tr mo ces ins vv tv ∧ Taken vs' tr n i ∧ vs'.length = vs.length ∧ Sl g rv ((tr.drop n).map (.int .i32))) (fun _ _ _ => free_code ..) (tr.length - n) ⟨0, vs, by omega, by simp [slotOf_set], by simp [slotOf_set], by simp [slotOf_set], by simp [slotOf_set], by simp [slotOf_set], rfl, Chg.refl _ _, hm, hg.taken n, rfl, k1⟩ ?_
  clear r4 r5 q1 q2 q3 q4 k1 hm
  rintro m t d g ⟨i, vs', a1, a2, a3, a4, a5, a6, rfl, hch, hm, ht, hvl, k1⟩
  obtain ⟨r4, r5, q1, q2, q3, q4⟩ := hm.reads
  have rx : ∀ (hi : n + i < tr.length), readCells g (objS rv) (genS rv) (offS rv + i) 1 = some [.int .i32 (tr[n + i])] := fun hi => k1.at (by simp [hi])
  refine s_cut1 (fun t d g1 => slotOf t 13 = .int .i64 i ∧ slotOf t 12 = .int .i64 (tr.length - n : Nat) ∧ slotOf t 11 = rv ∧ slotOf t 0 = .ptr o 0 0 ∧ slotOf t 1 = .int .i64 n ∧ slotOf t 14 = .bool (decide (i < tr.length - n)) ∧ d = [] ∧ g1 = g) ?_ ?_
  · repeat' ((first | refine s_line rfl ?_ | refine s_end rfl ?_ | refine s_seq ?_ | refine s_region ?_ | refine s_block ?_ | refine s_cond ?_ | refine s_ret ?_ | refine s_skip ?_ | refine s_exit ?_ | refine s_if (fun hif => ?_) (fun hif => ?_) | refine condB_dec (fun hif => ?_) (fun hif => ?_) | refine condB_of (fun hif => ?_) (fun hif => ?_) | (refine s_lelt ?_ ?_; omega) | (refine s_lt ?_ ?_; omega) | (refine s_le ?_ ?_; omega) | refine s_again rfl ?_ | (refine And.intro (a := stays _ _ _ = true) ?_ ?_; focus (simp -implicitDefEqProofs (disch := first | assumption | omega) only [sx, sb, sd, se, xwpStep, xwpOp, xwpInt, opEv, xres, oneOf, Nat.reduceAdd, Nat.reduceEqDiff, Nat.reduceSub, ↓reduceIte, reduceCtorEq, stays, wantedV, V.same_refl, Bool.and_self, Bool.and_true, beq_self_eq_true, Bool.true_beq, Bool.false_beq, *]; done))) <;>
      (try simp -implicitDefEqProofs (disch := first | assumption | omega) only [sx, sb, sd, se, xwpStep, xwpOp, xwpInt, opEv, xres, oneOf, Nat.reduceAdd, Nat.reduceEqDiff, Nat.reduceSub, ↓reduceIte, reduceCtorEq, *]))
    exact congrArg V.bool (decide_eq_decide.2 (by omega))
  clear a2 a3 a4 a5 a6 t
  rintro t d g ⟨a2, a3, a4, a5, a6, a7, rfl, rfl⟩
  by_cases hi : n + i < tr.length
  · replace rx := rx hi
    have hlt := hg.lt _ (List.getElem_mem hi)
    have hfx := hfl _ (List.getElem_mem hi)
    have hvar := Var_ok tr[n + i] (by omega) (by omega) g
    have hnx := ht.next hi
    obtain ⟨x, hx⟩ : ∃ x, x = tr[n + i] := ⟨_, rfl⟩
    rw [← hx] at rx hlt hfx hvar hnx
    clear hx
    rw [litVar_abs] at hvar
    rw [decide_eq_true (by omega)] at a7
    obtain ⟨g3, w1, w2, w3, w4⟩ := hm.val.write (k := x.natAbs) (y := .int .i8 0) (by simp; omega) rfl
    repeat' ((first | refine s_line rfl ?_ | refine s_end rfl ?_ | refine s_seq ?_ | refine s_region ?_ | refine s_block ?_ | refine s_cond ?_ | refine s_ret ?_ | refine s_skip ?_ | refine s_exit ?_ | refine s_if (fun hif => ?_) (fun hif => ?_) | refine condB_dec (fun hif => ?_) (fun hif => ?_) | refine condB_of (fun hif => ?_) (fun hif => ?_) | (refine s_lelt ?_ ?_; omega) | (refine s_lt ?_ ?_; omega) | (refine s_le ?_ ?_; omega) | refine s_again rfl ?_ | (refine And.intro (a := stays _ _ _ = true) ?_ ?_; focus (simp -implicitDefEqProofs (disch := first | assumption | omega) only [sx, sb, sd, se, xwpStep, xwpOp, xwpInt, opEv, xres, oneOf, Nat.reduceAdd, Nat.reduceEqDiff, Nat.reduceSub, ↓reduceIte, reduceCtorEq, stays, wantedV, V.same_refl, Bool.and_self, Bool.and_true, beq_self_eq_true, Bool.true_beq, Bool.false_beq, wrap_i64, Int.toNat_natCast, List.length_cons, List.length_nil, *]; done)) | (refine (evCall_iff hvar).2 ?_)) <;>
      (try simp -implicitDefEqProofs (disch := first | assumption | omega) only [sx, sb, sd, se, xwpStep, xwpOp, xwpInt, opEv, xres, oneOf, Nat.reduceAdd, Nat.reduceEqDiff, Nat.reduceSub, ↓reduceIte, reduceCtorEq, wrap_i64, Int.toNat_natCast, List.length_cons, List.length_nil, *]))
    have go3 := (w3.get o hm.ho fun q => (hm.voff o q).1 rfl).trans hm.get
    obtain ⟨c1, c2⟩ := chk_next (vs' := vs'.set x.natAbs 0) (tr' := tr) hm (by omega) (fun y y1 y2 y3 y4 => w3.get y y1 y3) go3 (by rw [List.map_set]; exact w2) (hm.trl.frame (by omega) fun y hy => w3.get y (hm.trl.lt hy).2 fun q => hm.two y q hy) (fun _ q => .inl q) (fun _ q => .inl q) hm.two
    exact ⟨m - 1, by omega, i + 1, _, by omega, by simp, hch.trans c2, c1, hnx, by simpa using hvl, k1.stay (by omega) fun y hy hyl => w3.get y hyl fun q => hm.two y q (k2 y hy)⟩
  · rw [decide_eq_false (by omega)] at a7
    have hcut : ∀ {K : V → Heap → Prop}, (∀ r, Tk b g r ((tr.take n).map (.int .i32)) → rowObj r = rowObj tv → K r g) → XSlc g 1 tv none (some (.int .i64 (n : Int))) none K := fun hk => Tk.cut hm.trl (by omega) (by simp; omega) fun r q1 q2 => hk r (by rw [List.map_take]; exact q1) q2
    have go1 := hm.get
    repeat' ((first | refine s_line rfl ?_ | refine s_end rfl ?_ | refine s_seq ?_ | refine s_region ?_ | refine s_block ?_ | refine s_cond ?_ | refine s_ret ?_ | refine s_skip ?_ | refine s_exit ?_ | refine s_if (fun hif => ?_) (fun hif => ?_) | refine condB_dec (fun hif => ?_) (fun hif => ?_) | refine condB_of (fun hif => ?_) (fun hif => ?_) | (refine s_lelt ?_ ?_; omega) | (refine s_lt ?_ ?_; omega) | (refine s_le ?_ ?_; omega) | refine s_again rfl ?_ | (refine And.intro (a := stays _ _ _ = true) ?_ ?_; focus (simp -implicitDefEqProofs (disch := first | assumption | omega) only [sx, sb, sd, se, xwpStep, xwpOp, xwpInt, opEv, xres, oneOf, Nat.reduceAdd, Nat.reduceEqDiff, Nat.reduceSub, ↓reduceIte, reduceCtorEq, stays, wantedV, V.same_refl, Bool.and_self, Bool.and_true, beq_self_eq_true, Bool.true_beq, Bool.false_beq, wrap_i64, Int.toNat_natCast, List.length_cons, List.length_nil, *]; done)) | ((refine hcut ?_; intro t1 k3 k4; have t1r := k3.row)) | ((refine st_step go1 (by simp) (one_row t1r) ?_; intro g3 go3 n3 f3))) <;>
      (try simp -implicitDefEqProofs (disch := first | assumption | omega) only [sx, sb, sd, se, xwpStep, xwpOp, xwpInt, opEv, xres, oneOf, Nat.reduceAdd, Nat.reduceEqDiff, Nat.reduceSub, ↓reduceIte, reduceCtorEq, wrap_i64, Int.toNat_natCast, List.length_cons, List.length_nil, *]))
    have hie : i = tr.length - n := by omega
    subst hie
    have ho1 : ∀ x, rowObj t1 = some x → x ≠ o := fun x hx => (hm.toff x (k4 ▸ hx)).1
    obtain ⟨c1, c2⟩ := chk_next (vs' := vs') (tr' := tr.take n) hm (by omega) (fun y y1 y2 y3 y4 => f3 y y2) go3 (hm.val.frame (by omega) fun y hy => f3 y (hm.voff y hy).1) (k3.frame (by omega) fun y hy => f3 y (ho1 y hy)) (fun _ q => .inl q) (fun y q => .inl (k4 ▸ q)) (fun y q q' => hm.two y q (k4 ▸ q'))
    exact ⟨⟨_, mo, ces, ins, vv, t1, c1, ht.good hg hvl⟩, hch.trans c2⟩
end Go.Proofs.Ytmkbnbpblhoekaa
