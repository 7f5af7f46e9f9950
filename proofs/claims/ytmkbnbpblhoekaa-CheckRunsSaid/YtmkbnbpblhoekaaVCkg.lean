/- The document's checker: Follows. -/
import Derived.Test.YtmkbnbpblhoekaaVCkf
import Derived.Test.YtmkbnbpblhoekaaW3
set_option linter.unusedSimpArgs false
set_option linter.unusedVariables false
set_option linter.unusedSectionVars false
namespace Go.Proofs.Ytmkbnbpblhoekaa
open Go.Xr Go.Chk

theorem rgroupsA_ok {b : Nat} {h : Heap} {o : Nat} {es : List (Int × List Int)} {last : Int} {ov : Bool} {lv yv hv : V} {l ys hints : List Int} (hc : RChk b h o es last ov) (hl : es.length ≤ 1000000) (hf : ∀ e ∈ es, Fine e.2 ∧ e.2.length ≤ 1000000) (hlv : Sl h lv (l.map (.int .i32))) (hp : Fine l) (hy : Sl h yv (ys.map (.int .i32)))
    (hh : Sw h hv (hints.map (.int .i64))) (hn : ys.length + hints.length ≤ 10000000) (hz : HFine hints) (hneg : ∀ x r, hints = x :: r → x < 0) :
    EvCall xprog H0 64 [.ptr o 0 0, lv, yv, hv] h fun v h' => v = .int .i64 (grpOf es l ys hints) ∧ Ext h h' := by
  cases l with
  | cons p l => exact rgroups_ok hc hl hf hlv ⟨(hp p List.mem_cons_self).2.1, (hp p List.mem_cons_self).2.2⟩ hy hh hn hz hneg
  | nil =>
    refine s_call (fn := xf64) rfl (free _ rfl ..) ?_
    have el := hlv.len
    have er := hlv.row
    simp only [List.map_nil, List.length_nil] at el
    have x1 := Ext.refl h
    simp -implicitDefEqProofs only [xf64, argsFrom_cons, argsFrom_nil]
    repeat' ((first | refine s_line rfl ?_ | refine s_end rfl ?_ | refine s_seq ?_ | refine s_region ?_ | refine s_block ?_ | refine s_cond ?_ | refine s_ret ?_ | refine s_skip ?_ | refine s_exit ?_ | refine s_if (fun hif => ?_) (fun hif => ?_) | refine condB_dec (fun hif => ?_) (fun hif => ?_) | refine condB_of (fun hif => ?_) (fun hif => ?_) | (refine s_lelt ?_ ?_; omega) | (refine s_lt ?_ ?_; omega) | (refine s_le ?_ ?_; omega)) <;>
      (try simp -implicitDefEqProofs (disch := first | assumption | omega) only [sx, sb, sd, se, xwpStep, xwpOp, xwpInt, opEv, xres, oneOf, Nat.reduceAdd, Nat.reduceEqDiff, Nat.reduceSub, ↓reduceIte, reduceCtorEq, Int.toNat_zero, Nat.add_zero, *]))
    rfl

set_option maxHeartbeats 8000000 in
theorem rFollows_ok {b : Nat} {h : Heap} {o : Nat} {es : List (Int × List Int)} {last : Int} {ov : Bool} {lv hv : V} {l hints : List Int} (hc : RChk b h o es last ov) (hl : es.length ≤ 1000000) (hf : ∀ e ∈ es, Fine e.2 ∧ e.2.length ≤ 1000000) (hlv : Sl h lv (l.map (.int .i32))) (hp : Fine l)
    (hh : Sw h hv (hints.map (.int .i64))) (hn : l.length ≤ 1000000 ∧ hints.length ≤ 1000000) (hz : HFine hints) :
    EvCall xprog H0 46 [.ptr o 0 0, lv, hv] h fun v h' => v = .int .i64 (follows es l hints) ∧ Ext h h' := by
  refine s_call (fn := xf46) rfl (free _ rfl ..) ?_
  have el := hlv.len
  have er := hlv.row
  simp only [List.length_map] at el
  have eh := hh.sl.len
  have rh := hh.sl.row
  simp only [List.length_map] at eh
  have hle := headN_le hints
  simp -implicitDefEqProofs only [xf46, argsFrom_cons, argsFrom_nil]
  repeat' ((first | refine s_line rfl ?_ | refine s_end rfl ?_ | refine s_seq ?_ | refine s_region ?_ | refine s_block ?_ | refine s_cond ?_ | refine s_ret ?_ | refine s_skip ?_ | refine s_exit ?_ | refine s_if (fun hif => ?_) (fun hif => ?_) | refine condB_dec (fun hif => ?_) (fun hif => ?_) | refine condB_of (fun hif => ?_) (fun hif => ?_) | (refine s_lelt ?_ ?_; omega) | (refine s_lt ?_ ?_; omega) | (refine s_le ?_ ?_; omega) | ((refine evApply_call (rboth_ok hlv hp hn.1) ?_; rintro _ g0 ⟨rfl, x0⟩))) <;>
    (try simp -implicitDefEqProofs (disch := first | assumption | omega) only [sx, sb, sd, se, xwpStep, xwpOp, xwpInt, opEv, xres, oneOf, Nat.reduceAdd, Nat.reduceEqDiff, Nat.reduceSub, ↓reduceIte, reduceCtorEq, *]))
  · unfold follows
    rw [if_pos (by assumption)]
  have hb : both l = false := by assumption
  refine s_while (fun n t d g => ∃ (i : Nat) (yv : V), i + n = l.length ∧ slotOf t 8 = .int .i64 i ∧ slotOf t 7 = yv ∧ slotOf t 0 = .ptr o 0 0 ∧ slotOf t 1 = lv ∧ slotOf t 2 = hv ∧ d = [] ∧ Ext h g ∧ Tk h.next g yv (((l.take i).map fun x => -x).map (.int .i32))) (fun _ _ _ => free_code ..) l.length ⟨0, .nils, by omega, by simp [slotOf_set], by simp [slotOf_set], by simp [slotOf_set], by simp [slotOf_set], by simp [slotOf_set], rfl, x0, by simpa using Tk.nil _ _⟩ ?_
  rintro n t d g ⟨i, yv, a1, a2, a3, a4, a5, a6, rfl, xg, k1⟩
  have rl : ∀ (hi : i < l.length), readCells g (objS lv) (genS lv) (offS lv + i) 1 = some [.int .i32 (l[i])] := fun hi => (hlv.ext xg).at (by simp [hi])
  have wn : ∀ (hi : i < l.length), IntKind.i32.wrap (-(l[i])) = -(l[i]) := fun hi => wneg (hp _ (List.getElem_mem hi)).2.1 (hp _ (List.getElem_mem hi)).2.2
  have hhd : EvCall xprog H0 62 [hv] g fun v h' => v = .int .i64 (headN hints : Nat) ∧ h' = g := rhead_ok (hh.ext xg).sl (by omega)
  have hth : ∀ {rv : V}, Sw h rv ((hints.map (.int .i64)).take (headN hints)) → i = l.length → EvCall xprog H0 63 [.ptr o 0 0, yv, rv] g fun v h' => (∃ yv', v = .tup [yv', .bool (decide ((thr es (l.map fun x => -x) (hints.take (headN hints))).2 = 1)), .bool (decide ((thr es (l.map fun x => -x) (hints.take (headN hints))).2 = 2))] ∧ Tk h.next h' yv' ((thr es (l.map fun x => -x) (hints.take (headN hints))).1.map (.int .i32)) ∧ (thr es (l.map fun x => -x) (hints.take (headN hints))).1.length ≤ (l.map fun x => -x).length + (hints.take (headN hints)).length) ∧ Ext h h' := fun k hk => by
    subst hk
    rw [List.take_length] at k1
    rw [← List.map_take] at k
    exact rthrough_ok hc hl hf xg k1 k.sl (by simp; omega)
  have hgr : ∀ {g' : Heap} {nv rv : V} {now : List Int}, Ext h g' → Tk h.next g' nv (now.map (.int .i32)) → Sw h rv ((hints.map (.int .i64)).drop (headN hints)) → now.length ≤ (l.map fun x => -x).length + (hints.take (headN hints)).length → EvCall xprog H0 64 [.ptr o 0 0, lv, nv, rv] g' fun v h' => v = .int .i64 (grpOf es l now (hints.drop (headN hints))) ∧ Ext g' h' := fun x k1 k2 k3 => by
    rw [← List.map_drop] at k2
    rw [List.length_map, List.length_take] at k3
    exact rgroupsA_ok (hc.ext x) hl hf (hlv.ext x) hp k1.sl (k2.ext x) (by simp; omega) (fun z hm => hz z (List.mem_of_mem_drop hm)) (HFine.drop hz)
  have hcode : follows es l hints = match (thr es (l.map fun x => -x) (hints.take (headN hints))).2 with | 0 => grpOf es l (thr es (l.map fun x => -x) (hints.take (headN hints))).1 (hints.drop (headN hints)) | 1 => 0 | _ => 60 := by
    unfold follows
    rw [hb]
    rfl
  have hle2 := thr_le es (hints.take (headN hints)) (l.map fun x => -x)
  repeat' ((first | refine s_line rfl ?_ | refine s_end rfl ?_ | refine s_seq ?_ | refine s_region ?_ | refine s_block ?_ | refine s_cond ?_ | refine s_ret ?_ | refine s_skip ?_ | refine s_exit ?_ | refine s_if (fun hif => ?_) (fun hif => ?_) | refine condB_dec (fun hif => ?_) (fun hif => ?_) | refine condB_of (fun hif => ?_) (fun hif => ?_) | (refine s_lelt ?_ ?_; omega) | (refine s_lt ?_ ?_; omega) | (refine s_le ?_ ?_; omega) | ((refine x_append_tk (k1.ext (Ext.new ..)) (Nat.le_succ_of_le xg.next) (sl_new (get_new ..) (by simp)) rfl (by simp; omega) ?_; rintro yv1 g1 u1 u2 u3)) | (refine (evCall_iff hhd).2 ?_) | ((refine x_sw_hiX hh (by omega) (by simp; omega) ?_; intro r1 q1; rw [Int.toNat_natCast] at q1)) | ((refine evApply_call (hth q1 (by omega)) ?_; rintro _ g1 ⟨⟨nv, rfl, k3, k4⟩, x1⟩)) | ((refine x_sw_loX hh (by omega) (by simp; omega) ?_; intro r2 q2; rw [Int.toNat_natCast] at q2)) | ((refine evApply_call (hgr x1 k3 q2 k4) ?_; rintro _ g2 ⟨rfl, x2⟩))) <;>
    (try simp -implicitDefEqProofs (disch := first | assumption | omega) only [sx, sb, sd, se, xwpStep, xwpOp, xwpInt, opEv, xres, oneOf, Nat.reduceAdd, Nat.reduceEqDiff, Nat.reduceSub, ↓reduceIte, reduceCtorEq, wrap_i64, Nat.zero_add, Int.toNat_natCast, Int.toNat_zero, Nat.add_zero, fillV, parts, List.map_cons, List.map_nil, over, List.length_cons, List.length_nil, Nat.beq_refl, Nat.ble, List.getElem?_cons_zero, List.getElem?_cons_succ, *]))
  · have hi : i < l.length := by omega
    refine ⟨n - 1, by omega, i + 1, yv1, by omega, by simp, rfl, (xg.trans (Ext.new ..)).butI u2 (fun o ho q => by have := k1.lt q; omega), ?_⟩
    rw [take_at hi, List.map_append, List.map_append]
    exact u1
  all_goals
    have hc0 : (thr es (l.map fun x => -x) (hints.take (headN hints))).2 = 0 := by omega
    rw [hc0]
  · have : l = [] := List.eq_nil_of_length_eq_zero (by omega)
    subst this
    rfl
  all_goals exact ⟨rfl, x1.trans x2⟩
end Go.Proofs.Ytmkbnbpblhoekaa
