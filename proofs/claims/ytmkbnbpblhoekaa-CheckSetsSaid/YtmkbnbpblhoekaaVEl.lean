/- The program's checker asked: Live. -/
import Derived.Test.YtmkbnbpblhoekaaVEb
set_option linter.unusedSimpArgs false
set_option linter.unusedVariables false
set_option linter.unusedSectionVars false
namespace Go.Proofs.Ytmkbnbpblhoekaa
open Go.Xr Go.Chk

theorem keysOut_sl (es : List (Int × V)) (h : Heap) : Sl (keysOut es h).2 (keysOut es h).1 ((es.map Prod.fst).map (.int .i64)) ∧ Ext h (keysOut es h).2 ∧ ∀ x, rowObj (keysOut es h).1 = some x → h.next ≤ x ∧ x < (keysOut es h).2.next := by
  cases es with
  | nil => exact ⟨.inl ⟨rfl, rfl⟩, Ext.refl _, fun x q => by cases q⟩
  | cons a r =>
    refine ⟨.inr ⟨h.next, 0, 0, .rest 0 1, by simp [keysOut], fun _ => ⟨Nat.lt_succ_self _, ?_⟩⟩, Ext.new .., fun x q => by cases q; exact ⟨Nat.le_refl _, Nat.lt_succ_self _⟩⟩
    show readCells (newCells h ((a :: r).map fun p => .int .i64 p.1) 1 true) h.next 0 0 _ = _
    rw [readCells_arr (get_new ..) (by simp), List.drop_zero, List.take_of_length_le (by simp), List.map_map]
    rfl
theorem keysWf_all : ∀ {es : List (Int × V)}, (∀ k ∈ es.map Prod.fst, (Lit.int .i64 k).wf = true) → keysWf es = true
  | [], _ => rfl
  | (k, _) :: r, h => by
    unfold keysWf
    rw [h k List.mem_cons_self, keysWf_all fun x hx => h x (List.mem_cons_of_mem _ hx)]
    rfl
theorem wf_i64 {k : Int} (h1 : 0 < k) (h2 : k ≤ 1000000) : (Lit.int .i64 k).wf = true := by
  have e1 : IntKind.i64.min = -9223372036854775808 := by decide
  have e2 : IntKind.i64.max = 9223372036854775807 := by decide
  simp only [Lit.wf, e1, e2, Bool.and_eq_true, decide_eq_true_eq]
  omega
theorem Sorted_ok {h : Heap} {p mo ins : Nat} {ces : List (Int × V)} (hp : h.get p = some (arr [.map mo] 1 false)) (hm : h.get mo = some (.map .i64 ces ins)) (hw : keysWf ces = true) (hl : ces.length ≤ 1000000) :
    EvCall xprog H0 38 [.func 58 [] [.ptr p 0 0]] h fun v h' => Sl h' v ((ces.map Prod.fst).map (.int .i64)) ∧ Ext h h' ∧ ∀ x, rowObj v = some x → h.next ≤ x ∧ x < h'.next := by
  have hr : readCells h p 0 0 1 = some [.map mo] := readCells_arr hp (by simp)
  have e4 : sortedHook 38 58 (.call false 38 [.func 58 [] [.ptr p 0 0]] h) = some (.call (keysOut ces h).1 (keysOut ces h).2) := by
    unfold sortedHook
    have c1 : (Nat.beq 38 38 && Nat.beq 58 58) = true := rfl
    have c2 : (keysWf ces && Nat.ble (ces.length * 8) 140737488355328) = true := by
      rw [hw, Bool.true_and]
      exact Nat.ble_eq_true_of_le (by omega)
    simp only [c1, hp, arr, hr, hm, c2]
  have this : H0 (.call false 38 [.func 58 [] [.ptr p 0 0]] h) = some (.call (keysOut ces h).1 (keysOut ces h).2) := by
    refine H0_some ?_
    unfold Hb orElse
    have e2 : sortHook 81 67 (.call false 38 [.func 58 [] [.ptr p 0 0]] h) = none := rfl
    have e3 : bitsHook 78 (.call false 38 [.func 58 [] [.ptr p 0 0]] h) = none := rfl
    rw [e2]
    simp only
    rw [e3]
    simp only
    exact e4
  refine ⟨1, _, _, ?_, keysOut_sl ces h⟩
  simp only [ev, evStep, this]

theorem Live_ok {b : Nat} {h : Heap} {o : Nat} {es : List (Int × List Int)} {last : Int} {ov : Bool} {tr : List Int} (hc : ChkP b h o es last ov tr) (hr : Rise es last) (hw : ∀ e ∈ es, (Lit.int .i64 e.1).wf = true) (hl : es.length ≤ 1000000) : EvCall xprog H0 21 [.ptr o 0 0] h fun v h' => Sl h' v ((es.map Prod.fst).map (.int .i64)) ∧ Ext h h' ∧ ∀ x, rowObj v = some x → h.next ≤ x ∧ x < h'.next := by
  refine s_call (fn := xf21) rfl (free _ rfl ..) ?_
  obtain ⟨vs, mo, ces, ins, vv, tv, hm, _⟩ := hc
  have r0 := readCell (off := 0) hm.get rfl
  have hk := keys_eq hm.held hr hm.keys
  have hlen : ces.length = es.length := by rw [← List.length_map (f := Prod.fst), hk, List.length_map]
  have hs := Sorted_ok (h := newCells h [.map mo] 1 false) (mo := mo) (get_new ..) (((Ext.new ..).get mo hm.hm).trans hm.map) (keysWf_all fun k q => by rw [hk] at q; obtain ⟨e, he, rfl⟩ := List.mem_map.1 q; exact hw e he) (by omega)
  rw [hk] at hs
  simp -implicitDefEqProofs only [xf21, argsFrom_cons, argsFrom_nil]
  repeat' ((first | refine s_line rfl ?_ | refine s_end rfl ?_ | refine s_seq ?_ | refine s_region ?_ | refine s_block ?_ | refine s_cond ?_ | refine s_ret ?_ | refine s_skip ?_ | refine s_exit ?_ | refine s_if (fun hif => ?_) (fun hif => ?_) | refine condB_dec (fun hif => ?_) (fun hif => ?_) | refine condB_of (fun hif => ?_) (fun hif => ?_) | (refine s_lelt ?_ ?_; omega) | (refine s_lt ?_ ?_; omega) | (refine s_le ?_ ?_; omega) | ((refine evApply_call (Keys_ok _ _) ?_; rintro _ g1 ⟨rfl, rfl⟩)) | ((refine evApply_call hs ?_; rintro w g2 ⟨w1, x1, w2⟩))) <;>
    (try simp -implicitDefEqProofs (disch := first | assumption | omega) only [sx, sb, sd, se, xwpStep, xwpOp, xwpInt, opEv, xres, oneOf, Nat.reduceAdd, Nat.reduceEqDiff, Nat.reduceSub, ↓reduceIte, reduceCtorEq, binV, nilCmp, nilOf, Nat.zero_add, Nat.add_zero, *]))
  exact ⟨(Ext.new ..).trans x1, fun x q => ⟨by have := (w2 x q).1; rw [next_new] at this; omega, (w2 x q).2⟩⟩
end Go.Proofs.Ytmkbnbpblhoekaa
