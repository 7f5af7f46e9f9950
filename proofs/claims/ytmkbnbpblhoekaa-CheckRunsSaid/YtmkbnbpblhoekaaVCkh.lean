/- The document's checker: put, New. -/
import Derived.Test.YtmkbnbpblhoekaaVCkg
set_option linter.unusedSimpArgs false
set_option linter.unusedVariables false
set_option linter.unusedSectionVars false
namespace Go.Proofs.Ytmkbnbpblhoekaa
open Go.Xr Go.Chk

theorem Ext.btw {b : Nat} {a c : Heap} (x : Ext a c) : But (fun o => b ≤ o) a c := x.but _
theorem rrows_put {h H : Heap} {o : Nat} {Lv Lv' : V} {cs : List V} {es : List (Int × List Int)} {id : Int} {l : List Int} {w : V} (hr : RRows h o Lv cs es) (hcs : cs.length = es.length * 2) (hn : h.next ≤ H.next) (hg : ∀ x, x < h.next → x ≠ o → rowObj Lv ≠ some x → H.get x = h.get x)
    (hL : ∀ x, rowObj Lv' = some x → rowObj Lv = some x ∨ h.next ≤ x) (ho : o < h.next) (hw : Sl H w (l.map (.int .i32))) (hw2 : ∀ x, rowObj w = some x → x ≠ o ∧ rowObj Lv' ≠ some x ∧ x < H.next) : RRows H o Lv' (cs ++ [.int .i64 id, w]) (es ++ [(id, l)]) := by
  intro i hi
  rw [List.length_append, List.length_singleton] at hi
  by_cases hlt : i < es.length
  · obtain ⟨h1, lv, h2, h3, h4⟩ := hr i hlt
    rw [List.getElem_append_left hlt, List.getElem?_append_left (by omega), List.getElem?_append_left (by omega)]
    refine ⟨h1, lv, h2, h3.stay hn fun x hx hlt => ?_, fun x hx => ?_⟩
    · obtain ⟨q1, q2, q3⟩ := h4 x hx
      exact hg x q3 q1 q2
    · obtain ⟨q1, q2, q3⟩ := h4 x hx
      exact ⟨q1, fun q => (hL x q).elim q2 fun q => by omega, Nat.lt_of_lt_of_le q3 hn⟩
  · have : i = es.length := by omega
    subst this
    rw [List.getElem_append_right (by omega), List.getElem?_append_right (by omega), List.getElem?_append_right (by omega)]
    rw [show es.length * 2 - cs.length = 0 by omega, show es.length * 2 + 1 - cs.length = 1 by omega]
    simp only [Nat.sub_self, List.getElem_cons_zero]
    exact ⟨rfl, w, rfl, hw, hw2⟩

set_option maxHeartbeats 8000000 in
theorem rput_ok {b : Nat} {h : Heap} {o : Nat} {es : List (Int × List Int)} {last : Int} {ov : Bool} {lv : V} {l : List Int} {id : Int} (hc : RChk b h o es last ov) (hl : es.length ≤ 1000000) (htot : total es ≤ 1000000000) (hlv : Sl h lv (l.map (.int .i32))) (hll : l.length ≤ 1000000) :
    EvCall xprog H0 43 [.ptr o 0 0, .int .i64 id, lv] h fun v h' => RChk b h' o (es ++ [(id, l)]) id (ov || l.isEmpty) ∧ But (fun x => b ≤ x) h h' := by
  refine s_call (fn := xf43) rfl (free _ rfl ..) ?_
  obtain ⟨Lv, cs, g1, hbo, holt, q1, q5, q2, q6⟩ := hc
  have el := hlv.len
  have er := hlv.row
  simp only [List.length_map] at el
  have eL := q1.len
  have rL := q1.row
  have r0 : ∀ {g : Heap}, Ext h g → readCells g o 0 0 1 = some [Lv] := fun x => readCell (off := 0) (by rw [x.get o holt]; exact g1) rfl
  simp -implicitDefEqProofs only [xf43, argsFrom_cons, argsFrom_nil]
  repeat' ((first | refine s_line rfl ?_ | refine s_end rfl ?_ | refine s_seq ?_ | refine s_region ?_ | refine s_block ?_ | refine s_cond ?_ | refine s_ret ?_ | refine s_skip ?_ | refine s_exit ?_ | refine s_if (fun hif => ?_) (fun hif => ?_) | refine condB_dec (fun hif => ?_) (fun hif => ?_) | refine condB_of (fun hif => ?_) (fun hif => ?_) | (refine s_lelt ?_ ?_; omega) | (refine s_lt ?_ ?_; omega) | (refine s_le ?_ ?_; omega) | ((refine x_append_tk (Tk.nil h.next h) (Nat.le_refl _) hlv (one_map _ _) (by simp; omega) ?_; rintro w g2 u1 u2 u3; have x2 : Ext h g2 := (Ext.refl h).butI u2 (fun o ho q => by cases q); have r02 := r0 x2; have wr := u1.row)) | ((refine x_append_grn (by decide) (q1.ext (x2.trans (Ext.new ..))) (by have := x2.next; simp; omega) (El.new (get_new ..) rfl) (by rw [List.all_cons, List.all_cons, one_row wr]; rfl) (by omega) ?_; rintro L1 g3 v1 v2 v3; have go3 : g3.get o = some (arr [Lv, .int .i64 last, .bool ov, .int .i64 (total es : Nat)] 1 false) := by { rw [v2.get o (by have := x2.next; simp; omega) q5, (x2.trans (Ext.new ..)).get o holt]; exact g1 }; have wL := v1.row)) | ((refine st_step go3 (by simp) (one_row wL) ?_; intro g4 go4 n4 f4)) | ((refine st_step go4 (by simp) rfl ?_; intro g5 go5 n5 f5; have s53 := readCell (off := 3) go5 rfl)) | ((refine st_step go5 (by simp) rfl ?_; intro g6 go6 n6 f6; have s62 := readCell (off := 2) go6 rfl)) | ((refine st_step go6 (by simp) rfl ?_; intro g7 go7 n7 f7))) <;>
    (try simp -implicitDefEqProofs (disch := first | assumption | omega) only [sx, sb, sd, se, xwpStep, xwpOp, xwpInt, opEv, xres, oneOf, Nat.reduceAdd, Nat.reduceEqDiff, Nat.reduceSub, ↓reduceIte, reduceCtorEq, wrap_i64, Nat.zero_add, Int.toNat_natCast, Int.toNat_zero, Nat.add_zero, fillV, parts, List.map_cons, List.map_nil, over, List.length_cons, List.length_nil, Nat.beq_refl, Nat.ble, *]))
  all_goals
    have ht : total (es ++ [(id, l)]) = total es + l.length := by
      rw [total_append]
      simp [Chk.total]
    have hem : l.isEmpty = decide ((l.length : Int) = 0) := by
      cases l
      · rfl
      · exact (decide_eq_false (by simp; omega)).symm
    have hch : ∀ x, x ≠ o → g7.get x = g3.get x := fun x hx => (f7 x hx).trans ((f6 x hx).trans ((f5 x hx).trans (f4 x hx)))
    have hnx : g7.next = g3.next := by omega
    have n2 := x2.next
    have n3 := v2.next
    rw [next_new] at n3 v3
    have hLv : ∀ x, rowObj Lv = some x → x < h.next := fun x hx => (q1.lt hx).2
    have hL1 : ∀ x, rowObj L1 = some x → rowObj Lv = some x ∨ x = g2.next + 1 := fun x hx => v3.elim (fun e => .inl (e ▸ hx)) fun e => .inr (by rw [hx] at e; exact Option.some.inj e)
    have hw1 : ∀ x, rowObj w = some x → h.next ≤ x ∧ x < g2.next := fun x hx => u1.lt hx
    have q5' : rowObj L1 ≠ some o := fun hx => (hL1 o hx).elim q5 fun e => by omega
    have hget : ∀ x, x < g2.next → x ≠ o → rowObj Lv ≠ some x → g7.get x = g2.get x := fun x h1 h2 h3 => (hch x h2).trans ((v2.get x (by simp; omega) h3).trans ((Ext.new ..).get x h1))
    refine ⟨⟨L1, cs ++ [.int .i64 id, w], ?_, hbo, by omega, ?_, q5', ?_, ?_⟩, ⟨by omega, fun x h1 h2 => ?_⟩⟩
    · rw [go7, ht, hem]
      simp [List.set]
    · rw [List.length_append]
      exact v1.frame (by omega) fun x hx => hch x fun e => q5' (e ▸ hx)
    · refine rrows_put q2 q1.size (by omega) (fun x h1 h2 h3 => (hget x (by omega) h2 h3).trans (x2.get x h1)) (fun x hx => (hL1 x hx).imp (fun q => q) fun e => by omega) holt ?_ fun x hx => ?_
      · have := u1.frame (h' := g7) (by omega) fun x hx => hget x (hw1 x hx).2 (by have := hw1 x hx; omega) fun e => by have := hLv x e; have := hw1 x hx; omega
        simpa using this.sl
      · have := hw1 x hx
        refine ⟨by omega, fun e => ?_, by omega⟩
        rcases hL1 x e with e | e
        · have := hLv x e; omega
        · omega
    · rw [List.all_append, q6, List.all_cons, List.all_cons, one_row wr]
      rfl
    · exact (hget x (by omega) (by omega) fun e => by have := (q1.lt e).1; omega).trans (x2.get x h1)
end Go.Proofs.Ytmkbnbpblhoekaa
