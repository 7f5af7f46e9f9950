/- The document's checker: Step. -/
import Derived.Test.YtmkbnbpblhoekaaVCkj
set_option linter.unusedSimpArgs false
set_option linter.unusedVariables false
set_option linter.unusedSectionVars false
namespace Go.Proofs.Ytmkbnbpblhoekaa
open Go.Xr Go.Chk

theorem RChk.reads {b : Nat} {h : Heap} {o : Nat} {es : List (Int × List Int)} {last : Int} {ov : Bool} (hc : RChk b h o es last ov) : readCells h o 0 1 1 = some [.int .i64 last] ∧ readCells h o 0 2 1 = some [.bool ov] ∧ readCells h o 0 3 1 = some [.int .i64 (Chk.total es : Nat)] :=
  let ⟨_, _, q1, _⟩ := hc
  ⟨readCell (off := 1) q1 rfl, readCell (off := 2) q1 rfl, readCell (off := 3) q1 rfl⟩

set_option maxHeartbeats 8000000 in
theorem rStep_ok {b : Nat} {h : Heap} {o : Nat} {s : Chs} {N : Nat} {kind id : Int} {lv hv : V} {lits hints : List Int} (hc : RChk b h o s.es s.last s.over) (hs : Right6 b s N) (hN : N ≤ 5000) (hl : Sl h lv (lits.map (.int .i32))) (hh : Sw h hv (hints.map (.int .i64))) (h1 : lits.length ≤ 1500) (h2 : hints.length ≤ 1500) (hhb : ∀ x, rowObj hv = some x → x < b) :
    EvCall xprog H0 29 [.ptr o 0 0, .agg [.int .u8 kind, .int .i64 id, lv, hv]] h fun v h' => v = .int .i64 (s.step (mayOf kind id lits hints) kind id lits hints).1 ∧ RChk b h' o (s.step (mayOf kind id lits hints) kind id lits hints).2.es (s.step (mayOf kind id lits hints) kind id lits hints).2.last (s.step (mayOf kind id lits hints) kind id lits hints).2.over ∧ But (fun x => b ≤ x) h h' := by
  refine s_call (fn := xf29) rfl (free _ rfl ..) ?_
  have hb : b ≤ h.next := by
    obtain ⟨Lv, cs, q1, q2, q3, _⟩ := hc
    omega
  generalize hH1 : newCells h [.int .u8 kind, .int .i64 id, lv, hv] 1 false = H1
  have x1 : Ext h H1 := hH1 ▸ Ext.new ..
  have g1 : H1.get h.next = some (arr [.int .u8 kind, .int .i64 id, lv, hv] 1 false) := by rw [← hH1]; exact get_new ..
  have rA : readCells H1 h.next 0 0 4 = some [.int .u8 kind, .int .i64 id, lv, hv] := readCells_arr g1 (by simp)
  have hmay := rMay_ok (kind := kind) (id := id) (hl.ext x1) (hh.sl.ext x1) (by omega) (by omega)
  have hx : ∀ {g}, Ext h g → But (fun x => b ≤ x) h g := fun x => x.but _
  cases hm : mayOf kind id lits hints with
  | false =>
    rw [hm] at hmay
    simp -implicitDefEqProofs only [xf29, argsFrom_cons, argsFrom_nil]
    repeat' ((first | refine s_line rfl ?_ | refine s_end rfl ?_ | refine s_seq ?_ | refine s_region ?_ | refine s_block ?_ | refine s_cond ?_ | refine s_ret ?_ | refine s_skip ?_ | refine s_exit ?_ | refine s_if (fun hif => ?_) (fun hif => ?_) | refine condB_dec (fun hif => ?_) (fun hif => ?_) | refine condB_of (fun hif => ?_) (fun hif => ?_) | (refine s_lelt ?_ ?_; omega) | (refine s_lt ?_ ?_; omega) | (refine s_le ?_ ?_; omega) | ((refine evApply_call hmay ?_; rintro _ g2 ⟨rfl, x2⟩))) <;>
      (try simp -implicitDefEqProofs (disch := first | assumption | omega) only [sx, sb, sd, se, xwpStep, xwpOp, xwpInt, opEv, xres, oneOf, Nat.reduceAdd, Nat.reduceEqDiff, Nat.reduceSub, ↓reduceIte, reduceCtorEq, wrap_i64, Nat.zero_add, Nat.add_zero, *]))
    exact ⟨rfl, hc.ext (x1.trans x2), hx (x1.trans x2)⟩
  | true =>
    rw [hm] at hmay
    obtain ⟨hfl, hfh, hk⟩ := may_fine hm
    have rd : ∀ {g}, Ext H1 g → readCells g h.next 0 0 1 = some [.int .u8 kind] ∧ readCells g h.next 0 1 1 = some [.int .i64 id] ∧ readCells g h.next 0 2 1 = some [lv] ∧ readCells g h.next 0 3 1 = some [hv] := fun x => by
      have g1' := (x.get h.next (by rw [← hH1]; simp)).trans g1
      exact ⟨readCell (off := 0) g1' rfl, readCell (off := 1) g1' rfl, readCell (off := 2) g1' rfl, readCell (off := 3) g1' rfl⟩
    have el := hl.len
    have er := hl.row
    simp only [List.length_map] at el
    rcases hk with rfl | ⟨rfl, hid⟩
    · have hdr : ∀ {g}, Ext h g → EvCall xprog H0 45 [.ptr o 0 0, hv] g fun v h' => v = .int .i64 (if none5 s.es hints = true then 5 else 0) ∧ RChk b h' o (if none5 s.es hints = true then s.es else s.es.filter fun e => decide (e.1 ∉ hints)) s.last s.over ∧ But (fun x => b ≤ x) g h' := fun x => rdrop_ok (hc.ext x) (by have := hs.len; omega) hs.rise (fun e he => by have := (hs.fine e he).2; omega) (by have := hs.tot; omega) (hh.sl.ext x) hhb (by omega)
      have hst : s.step true 2 id lits hints = if none5 s.es hints = true then (5, s) else (0, { s with es := s.es.filter fun e => decide (e.1 ∉ hints) }) := by
        unfold Chs.step
        rw [if_neg (by simp), if_pos rfl]
      rw [hst]
      clear hst
      cases hn : none5 s.es hints
      all_goals
        simp only [hn, if_true, if_false, Bool.false_eq_true] at hdr ⊢
        simp -implicitDefEqProofs only [xf29, argsFrom_cons, argsFrom_nil]
        repeat' ((first | refine s_line rfl ?_ | refine s_end rfl ?_ | refine s_seq ?_ | refine s_region ?_ | refine s_block ?_ | refine s_cond ?_ | refine s_ret ?_ | refine s_skip ?_ | refine s_exit ?_ | refine s_if (fun hif => ?_) (fun hif => ?_) | refine condB_dec (fun hif => ?_) (fun hif => ?_) | refine condB_of (fun hif => ?_) (fun hif => ?_) | (refine s_lelt ?_ ?_; omega) | (refine s_lt ?_ ?_; omega) | (refine s_le ?_ ?_; omega) | ((refine evApply_call hmay ?_; rintro _ g2 ⟨rfl, x2⟩; obtain ⟨d0, d1, d2, d3⟩ := rd x2)) | ((refine evApply_call (hdr (x1.trans x2)) ?_; rintro _ g3 ⟨rfl, k1, k2⟩))) <;>
          (try simp -implicitDefEqProofs (disch := first | assumption | omega) only [sx, sb, sd, se, xwpStep, xwpOp, xwpInt, opEv, xres, oneOf, Nat.reduceAdd, Nat.reduceEqDiff, Nat.reduceSub, ↓reduceIte, reduceCtorEq, wrap_i64, Nat.zero_add, Nat.add_zero, *]))
        first
          | exact ⟨k1, (hx (x1.trans x2)).trans k2⟩
          | exact (hx (x1.trans x2)).trans k2
    · have hfo : ∀ {g}, Ext h g → EvCall xprog H0 46 [.ptr o 0 0, lv, hv] g fun v h' => v = .int .i64 (follows s.es lits hints) ∧ Ext g h' := fun x => rFollows_ok (hc.ext x) (by have := hs.len; omega) (fun e he => ⟨(hs.fine e he).1, by have := (hs.fine e he).2; omega⟩) (hl.ext x) hfl (hh.ext x) ⟨by omega, by omega⟩ hfh
      have hpu : ∀ {g}, Ext h g → EvCall xprog H0 43 [.ptr o 0 0, .int .i64 id, lv] g fun v h' => RChk b h' o (s.es ++ [(id, lits)]) id (s.over || lits.isEmpty) ∧ But (fun x => b ≤ x) g h' := fun x => rput_ok (hc.ext x) (by have := hs.len; omega) (by have := hs.tot; omega) (hl.ext x) (by omega)
      have htt := hs.tot
      have hst : s.step true 1 id lits hints = if id ≤ s.last then (62, s) else if follows s.es lits hints ≠ 0 then (follows s.es lits hints, s) else if 16777216 < Chk.total s.es + lits.length then (3, s) else (0, s.put id lits) := by
        unfold Chs.step
        rw [if_neg (by simp), if_neg (by decide)]
      simp -implicitDefEqProofs only [xf29, argsFrom_cons, argsFrom_nil]
      repeat' ((first | refine s_line rfl ?_ | refine s_end rfl ?_ | refine s_seq ?_ | refine s_region ?_ | refine s_block ?_ | refine s_cond ?_ | refine s_ret ?_ | refine s_skip ?_ | refine s_exit ?_ | refine s_if (fun hif => ?_) (fun hif => ?_) | refine condB_dec (fun hif => ?_) (fun hif => ?_) | refine condB_of (fun hif => ?_) (fun hif => ?_) | (refine s_lelt ?_ ?_; omega) | (refine s_lt ?_ ?_; omega) | (refine s_le ?_ ?_; omega) | ((refine evApply_call hmay ?_; rintro _ g2 ⟨rfl, x2⟩; obtain ⟨d0, d1, d2, d3⟩ := rd x2; obtain ⟨c1, c2, c3⟩ := (hc.ext (x1.trans x2)).reads)) | ((refine evApply_call (hfo (x1.trans x2)) ?_; rintro _ g3 ⟨rfl, x3⟩; obtain ⟨d0, d1, d2, d3⟩ := rd (x2.trans x3); obtain ⟨c1, c2, c3⟩ := (hc.ext (x1.trans (x2.trans x3))).reads)) | ((refine evApply_call (hpu (x1.trans (x2.trans x3))) ?_; rintro _ g4 ⟨k1, k2⟩))) <;>
        (try simp -implicitDefEqProofs (disch := first | assumption | omega) only [sx, sb, sd, se, xwpStep, xwpOp, xwpInt, opEv, xres, oneOf, Nat.reduceAdd, Nat.reduceEqDiff, Nat.reduceSub, ↓reduceIte, reduceCtorEq, wrap_i64, Nat.zero_add, Nat.add_zero, *]))
      · exact ⟨hc.ext (x1.trans x2), hx (x1.trans x2)⟩
      · have hz : ¬ follows s.es lits hints = 0 := by simpa using hif
        rw [if_neg hz]
        exact ⟨rfl, hc.ext (x1.trans (x2.trans x3)), hx (x1.trans (x2.trans x3))⟩
      · exfalso; omega
      · have hz : follows s.es lits hints = 0 := by simpa using ‹(!decide (follows s.es lits hints = 0)) = false›
        rw [if_pos hz, if_neg (by omega)]
        exact ⟨rfl, k1, (hx (x1.trans (x2.trans x3))).trans k2⟩
end Go.Proofs.Ytmkbnbpblhoekaa
