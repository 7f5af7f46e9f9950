/- The program's checker: put. -/
import Derived.Test.YtmkbnbpblhoekaaVCkv
set_option linter.unusedSimpArgs false
set_option linter.unusedVariables false
set_option linter.unusedSectionVars false
namespace Go.Proofs.Ytmkbnbpblhoekaa
open Go.Xr Go.Chk

theorem Own.obj {b : Nat} {h : Heap} {v : V} {xs : List V} (hs : Own b h v xs) (hne : xs ≠ []) {x : Nat} (hx : rowObj v = some x) : b ≤ x := by
  rcases hs with ⟨q, _⟩ | ⟨o, g, r, h1, _, rfl, _⟩
  · exact absurd q hne
  · cases hx; exact h1

theorem Sl.stayN {h h' : Heap} {v : V} {vs : List V} (hs : Sl h v vs) (hn : h.next ≤ h'.next) (hg : vs ≠ [] → ∀ o, rowObj v = some o → o < h.next → h'.get o = h.get o) : Sl h' v vs := by
  by_cases hne : vs = []
  · subst hne
    rcases hs with h1 | ⟨o', g, off, cap, h1, _⟩
    · exact .inl h1
    · exact .inr ⟨o', g, off, cap, h1, fun q => by simp at q⟩
  · exact hs.stay hn (hg hne)

theorem mem_addKey {n : Int} {v : V} : ∀ {es : List (Int × V)} {p : Int × V}, p ∈ addKey n v es → p = (n, v) ∨ p ∈ es
  | [], p, h => by simpa [addKey] using h
  | (a, x) :: r, p, h => by
    unfold addKey at h
    by_cases h1 : n < a
    · rw [decide_eq_true h1] at h
      simpa using h
    · rw [decide_eq_false h1] at h
      simp only at h
      by_cases h2 : a < n
      · rw [decide_eq_true h2] at h
        rcases List.mem_cons.1 h with e | h
        · exact .inr (e ▸ List.mem_cons_self)
        · exact (mem_addKey h).imp (fun q => q) (List.mem_cons_of_mem _)
      · rw [decide_eq_false h2] at h
        rcases List.mem_cons.1 h with e | h
        · exact .inl e
        · exact .inr (List.mem_cons_of_mem _ h)
set_option maxHeartbeats 8000000 in
theorem put_ok {b : Nat} {h : Heap} {o : Nat} {es : List (Int × List Int)} {last : Int} {ov : Bool} {tr : List Int} {lv : V} {l : List Int} {id : Int} (hc : ChkP b h o es last ov tr) (hr : Rise es last) (hid : last < id) (hlv : Sl h lv (l.map (.int .i32))) (hfl : Fine l) (hll : l.length ≤ 1000000) (htot : Chk.total es ≤ 1000000000) :
    EvCall xprog H0 31 [.ptr o 0 0, .int .i64 id, lv] h fun v h' => ChkP b h' o (es ++ [(id, l)]) id (ov || l.isEmpty) tr ∧ Chg o h h' := by
  refine s_call (fn := xf31) rfl (free _ rfl ..) ?_
  obtain ⟨vs, mo, ces, ins, vv, tv, hm, hg⟩ := hc
  have el := hlv.len
  have er := hlv.row
  simp only [List.length_map] at el
  have hnf : find es id = none := find_none.2 fun e he => by have := (hr.2 e he).1; omega
  have hnk : hasKey id ces = none := by
    rcases hm.held id with ⟨_, q⟩ | ⟨l', _, _, _, q, _⟩
    · exact q
    · rw [hnf] at q; cases q
  have hn := Normal2_ok hlv hfl.ok (by omega)
  rw [bothN_nrm fun x hx => (hfl x hx).1] at hn
  have hcl : ∀ {g}, Ext h g → EvCall xprog H0 49 [lv] g fun v h' => Own g.next h' v (l.map (.int .i32)) ∧ Ext g h' := fun x => Clone_ok (hlv.ext x) (fun x hx => by obtain ⟨n, _, rfl⟩ := List.mem_map.1 hx; rfl) (by simp; omega)
  have r0 : ∀ {g}, Ext h g → readCells g o 0 0 1 = some [.map mo] := fun x => readCell (off := 0) ((x.get o hm.ho).trans hm.get) rfl
  have gm : ∀ {g}, Ext h g → g.get mo = some (.map .i64 ces ins) := fun x => (x.get mo hm.hm).trans hm.map
  have hoo := hm.ho
  have hmm := hm.hm
  have hom := hm.om
  simp -implicitDefEqProofs only [xf31, argsFrom_cons, argsFrom_nil]
  repeat' ((first | refine s_line rfl ?_ | refine s_end rfl ?_ | refine s_seq ?_ | refine s_region ?_ | refine s_block ?_ | refine s_cond ?_ | refine s_ret ?_ | refine s_skip ?_ | refine s_exit ?_ | refine s_if (fun hif => ?_) (fun hif => ?_) | refine condB_dec (fun hif => ?_) (fun hif => ?_) | refine condB_of (fun hif => ?_) (fun hif => ?_) | (refine s_lelt ?_ ?_; omega) | (refine s_lt ?_ ?_; omega) | (refine s_le ?_ ?_; omega) | refine s_again rfl ?_ | (refine And.intro (a := stays _ _ _ = true) ?_ ?_; focus (simp -implicitDefEqProofs (disch := first | assumption | omega) only [sx, sb, sd, se, xwpStep, xwpOp, xwpInt, opEv, xres, oneOf, Nat.reduceAdd, Nat.reduceEqDiff, Nat.reduceSub, ↓reduceIte, reduceCtorEq, stays, wantedV, V.same_refl, Bool.and_self, Bool.and_true, beq_self_eq_true, Bool.true_beq, Bool.false_beq, wrap_i64, kindEq, V.whole, Nat.succ_eq_add_one, List.getElem?_cons_zero, List.getElem?_cons_succ, fillV, parts, List.map_cons, List.map_nil, over, List.length_cons, List.length_nil, Nat.beq_refl, Nat.ble, *]; done)) | ((refine evApply_call hn ?_; rintro _ g1 ⟨⟨w, rfl, s1, s2⟩, x1⟩; have wr := s1.row)) | ((refine evApply_call (hcl x1) ?_; rintro lv1 g2 ⟨o1, x2⟩; have x12 := x1.trans x2; have lr := o1.row; have x3 : Ext h (newCells g2 [lv1, w, .bool (both l)] 1 false) := x12.trans (Ext.new ..))) | ((refine st_step (cs := [.map mo, .int .i64 last, .int .i64 (Chk.total es : Nat), .bool ov, vv, tv]) (sp := false) (by rw [Heap.get_put, if_neg (fun e => hom e.symm), x3.get o hoo]; exact hm.get) (by simp) rfl ?_; intro g4 go4 n4 f4; have s42 := readCell (off := 2) go4 rfl)) | ((refine st_step go4 (by simp) rfl ?_; intro g5 go5 n5 f5; have s53 := readCell (off := 3) go5 rfl)) | ((refine st_step go5 (by simp) rfl ?_; intro g6 go6 n6 f6))) <;>
    (try simp -implicitDefEqProofs (disch := first | assumption | omega) only [sx, sb, sd, se, xwpStep, xwpOp, xwpInt, opEv, xres, oneOf, Nat.reduceAdd, Nat.reduceEqDiff, Nat.reduceSub, ↓reduceIte, reduceCtorEq, wrap_i64, kindEq, V.whole, Nat.succ_eq_add_one, List.getElem?_cons_zero, List.getElem?_cons_succ, fillV, parts, List.map_cons, List.map_nil, over, List.length_cons, List.length_nil, Nat.beq_refl, Nat.ble, *]))
  · have ht : Chk.total (es ++ [(id, l)]) = Chk.total es + l.length := by
      rw [total_append]
      simp [Chk.total]
    have hem : l.isEmpty = decide ((l.length : Int) = 0) := by
      cases l
      · rfl
      · exact (decide_eq_false (by simp; omega)).symm
    have nx2 := x12.next
    have nx1 := x1.next
    have nx2' := x2.next
    have hN : g6.next = g2.next + 1 := by rw [n6, n5, n4]; rfl
    have hP : ∀ x, x ≠ o → x ≠ mo → g6.get x = (newCells g2 [lv1, w, .bool (both l)] 1 false).get x := fun x h1 h2 => (f6 x h1).trans ((f5 x h1).trans ((f4 x h1).trans (by rw [Heap.get_put, if_neg h2])))
    have hP2 : ∀ x, x < g2.next → x ≠ o → x ≠ mo → g6.get x = g2.get x := fun x h0 h1 h2 => (hP x h1 h2).trans ((Ext.new ..).get x h0)
    have hget : ∀ x, x < h.next → x ≠ o → x ≠ mo → g6.get x = h.get x := fun x h0 h1 h2 => (hP2 x (by omega) h1 h2).trans (x12.get x h0)
    have hmo : g6.get mo = some (.map .i64 (addKey id (.ptr g2.next 0 0) ces) (ins + 1)) := (f6 mo hom).trans ((f5 mo hom).trans ((f4 mo hom).trans (by rw [Heap.get_put, if_pos rfl])))
    have goo : g6.get o = some (arr [.map mo, .int .i64 id, .int .i64 (Chk.total (es ++ [(id, l)]) : Nat), .bool (false || l.isEmpty), vv, tv] 1 false) := by
      rw [go6, ht, hem]
      simp [List.set]
    have hmut : ∀ x, Mut g6 o x ↔ Mut h o x := fun x => by rw [mut_iff goo, mut_iff hm.get]
    have hml : ∀ x, Mut h o x → x < h.next := fun x hx => ChkP.lt (b := b) ⟨vs, mo, ces, ins, vv, tv, hm, hg⟩ |>.2 x hx
    have chg : Chg o h g6 := ⟨⟨by omega, fun x h0 h1 => by
      rw [mut_iff hm.get] at h1
      exact hget x h0 (fun e => h1 (.inl e)) fun e => h1 (.inr (.inl e))⟩, fun x _ q => (hmut x).1 q, grows_map hm.get rfl goo rfl hm.map hmo (by omega) (fun x q => (hmut x).1 q) fun k ho q => by
      rcases mem_addKey q with e | q
      · cases e
        refine .inr ⟨by omega, by omega, fun hs v x r1 r2 r3 r4 => ?_⟩
        rw [(hP g2.next (by omega) (by omega)).trans (get_new ..)] at r1
        rw [← arr_inj r1] at r2
        simp only [List.mem_cons, List.not_mem_nil, or_false] at r2
        rcases r2 with rfl | rfl | rfl
        · rw [o1.len] at r3
          have := o1.obj (fun e => r3 (by rw [e]; rfl)) r4
          omega
        · rw [s1.len] at r3
          have := s2 (fun e => r3 (by rw [e]; rfl)) x r4
          omega
        · cases r4
      · have q' := hm.held_off ⟨_, mo, _, ces, ins, k, hm.get, rfl, hm.map, q⟩
        rw [mut_iff hm.get] at q'
        obtain ⟨_, _, _, _, _, _, q3⟩ := hm.hobj ⟨_, mo, _, ces, ins, k, hm.get, rfl, hm.map, q⟩
        exact .inl ⟨⟨k, q⟩, hget ho q3.lt (fun e => q' (.inl e)) fun e => q' (.inr (.inl e))⟩⟩
    have hnew : HeldAt g6 o g2.next lv1 w l := by
      refine ⟨(hP g2.next (by omega) (by omega)).trans (get_new ..), by omega, fun q => by have := hml _ ((hmut _).1 q); omega, ⟨Sl.stayN o1.sl (by omega) fun hne x hx hlt => hP2 x hlt (by have := o1.obj hne hx; omega) (by have := o1.obj hne hx; omega), fun hne x hx q => ?_⟩, ⟨Sl.stayN s1 (by omega) fun hne x hx hlt => (hP2 x (by omega) (by have := s2 hne x hx; omega) (by have := s2 hne x hx; omega)).trans (x2.get x hlt), fun hne x hx q => ?_⟩⟩
      · have := o1.obj (by simpa using hne) hx
        have := hml _ ((hmut _).1 q)
        omega
      · have := s2 (by simpa using hne) x hx
        have := hml _ ((hmut _).1 q)
        omega
    refine ⟨⟨vs, mo, _, _, vv, tv, ⟨goo, hm.bo, by omega, hm.bm, by omega, hom, hmo, hm.val.frame (by omega) fun x hx => hget x (hm.val.lt hx).2 (hm.voff x hx).1 (hm.voff x hx).2, hm.trl.frame (by omega) fun x hx => hget x (hm.trl.lt hx).2 (hm.toff x hx).1 (hm.toff x hx).2, hm.voff, hm.toff, hm.two, fun k => ?_, addKey_rise hm.keys⟩, hg⟩, chg⟩
    rw [find_append, hasKey_addKey]
    by_cases hk : k = id
    · subst hk
      rw [hnf]
      exact .inr ⟨l, g2.next, lv1, w, by simp, by simp, hnew⟩
    · rw [if_neg hk]
      rcases hm.held k with ⟨q1, q2⟩ | ⟨l', ho, lv', sv', q1, q2, q3⟩
      · rw [q1]
        exact .inl ⟨if_neg (fun e => hk e.symm), q2⟩
      · rw [q1]
        exact .inr ⟨l', ho, lv', sv', rfl, q2, q3.chg chg⟩
  · have ht : Chk.total (es ++ [(id, l)]) = Chk.total es + l.length := by
      rw [total_append]
      simp [Chk.total]
    have hem : l.isEmpty = decide ((l.length : Int) = 0) := by
      cases l
      · rfl
      · exact (decide_eq_false (by simp; omega)).symm
    have nx2 := x12.next
    have nx1 := x1.next
    have nx2' := x2.next
    have hN : g6.next = g2.next + 1 := by rw [n6, n5, n4]; rfl
    have hP : ∀ x, x ≠ o → x ≠ mo → g6.get x = (newCells g2 [lv1, w, .bool (both l)] 1 false).get x := fun x h1 h2 => (f6 x h1).trans ((f5 x h1).trans ((f4 x h1).trans (by rw [Heap.get_put, if_neg h2])))
    have hP2 : ∀ x, x < g2.next → x ≠ o → x ≠ mo → g6.get x = g2.get x := fun x h0 h1 h2 => (hP x h1 h2).trans ((Ext.new ..).get x h0)
    have hget : ∀ x, x < h.next → x ≠ o → x ≠ mo → g6.get x = h.get x := fun x h0 h1 h2 => (hP2 x (by omega) h1 h2).trans (x12.get x h0)
    have hmo : g6.get mo = some (.map .i64 (addKey id (.ptr g2.next 0 0) ces) (ins + 1)) := (f6 mo hom).trans ((f5 mo hom).trans ((f4 mo hom).trans (by rw [Heap.get_put, if_pos rfl])))
    have goo : g6.get o = some (arr [.map mo, .int .i64 id, .int .i64 (Chk.total (es ++ [(id, l)]) : Nat), .bool (true || l.isEmpty), vv, tv] 1 false) := by
      rw [go6, ht, hem]
      simp [List.set]
    have hmut : ∀ x, Mut g6 o x ↔ Mut h o x := fun x => by rw [mut_iff goo, mut_iff hm.get]
    have hml : ∀ x, Mut h o x → x < h.next := fun x hx => ChkP.lt (b := b) ⟨vs, mo, ces, ins, vv, tv, hm, hg⟩ |>.2 x hx
    have chg : Chg o h g6 := ⟨⟨by omega, fun x h0 h1 => by
      rw [mut_iff hm.get] at h1
      exact hget x h0 (fun e => h1 (.inl e)) fun e => h1 (.inr (.inl e))⟩, fun x _ q => (hmut x).1 q, grows_map hm.get rfl goo rfl hm.map hmo (by omega) (fun x q => (hmut x).1 q) fun k ho q => by
      rcases mem_addKey q with e | q
      · cases e
        refine .inr ⟨by omega, by omega, fun hs v x r1 r2 r3 r4 => ?_⟩
        rw [(hP g2.next (by omega) (by omega)).trans (get_new ..)] at r1
        rw [← arr_inj r1] at r2
        simp only [List.mem_cons, List.not_mem_nil, or_false] at r2
        rcases r2 with rfl | rfl | rfl
        · rw [o1.len] at r3
          have := o1.obj (fun e => r3 (by rw [e]; rfl)) r4
          omega
        · rw [s1.len] at r3
          have := s2 (fun e => r3 (by rw [e]; rfl)) x r4
          omega
        · cases r4
      · have q' := hm.held_off ⟨_, mo, _, ces, ins, k, hm.get, rfl, hm.map, q⟩
        rw [mut_iff hm.get] at q'
        obtain ⟨_, _, _, _, _, _, q3⟩ := hm.hobj ⟨_, mo, _, ces, ins, k, hm.get, rfl, hm.map, q⟩
        exact .inl ⟨⟨k, q⟩, hget ho q3.lt (fun e => q' (.inl e)) fun e => q' (.inr (.inl e))⟩⟩
    have hnew : HeldAt g6 o g2.next lv1 w l := by
      refine ⟨(hP g2.next (by omega) (by omega)).trans (get_new ..), by omega, fun q => by have := hml _ ((hmut _).1 q); omega, ⟨Sl.stayN o1.sl (by omega) fun hne x hx hlt => hP2 x hlt (by have := o1.obj hne hx; omega) (by have := o1.obj hne hx; omega), fun hne x hx q => ?_⟩, ⟨Sl.stayN s1 (by omega) fun hne x hx hlt => (hP2 x (by omega) (by have := s2 hne x hx; omega) (by have := s2 hne x hx; omega)).trans (x2.get x hlt), fun hne x hx q => ?_⟩⟩
      · have := o1.obj (by simpa using hne) hx
        have := hml _ ((hmut _).1 q)
        omega
      · have := s2 (by simpa using hne) x hx
        have := hml _ ((hmut _).1 q)
        omega
    refine ⟨⟨vs, mo, _, _, vv, tv, ⟨goo, hm.bo, by omega, hm.bm, by omega, hom, hmo, hm.val.frame (by omega) fun x hx => hget x (hm.val.lt hx).2 (hm.voff x hx).1 (hm.voff x hx).2, hm.trl.frame (by omega) fun x hx => hget x (hm.trl.lt hx).2 (hm.toff x hx).1 (hm.toff x hx).2, hm.voff, hm.toff, hm.two, fun k => ?_, addKey_rise hm.keys⟩, hg⟩, chg⟩
    rw [find_append, hasKey_addKey]
    by_cases hk : k = id
    · subst hk
      rw [hnf]
      exact .inr ⟨l, g2.next, lv1, w, by simp, by simp, hnew⟩
    · rw [if_neg hk]
      rcases hm.held k with ⟨q1, q2⟩ | ⟨l', ho, lv', sv', q1, q2, q3⟩
      · rw [q1]
        exact .inl ⟨if_neg (fun e => hk e.symm), q2⟩
      · rw [q1]
        exact .inr ⟨l', ho, lv', sv', rfl, q2, q3.chg chg⟩
end Go.Proofs.Ytmkbnbpblhoekaa
