/- The program's checker: Step. -/
import Derived.Test.YtmkbnbpblhoekaaVDc
set_option linter.unusedSimpArgs false
set_option linter.unusedVariables false
set_option linter.unusedSectionVars false
namespace Go.Proofs.Ytmkbnbpblhoekaa
open Go.Xr Go.Chk

theorem ChkP.reads {b : Nat} {h : Heap} {o : Nat} {es : List (Int × List Int)} {last : Int} {ov : Bool} {tr : List Int} (hc : ChkP b h o es last ov tr) : readCells h o 0 1 1 = some [.int .i64 last] ∧ readCells h o 0 2 1 = some [.int .i64 (Chk.total es : Nat)] ∧ readCells h o 0 3 1 = some [.bool ov] :=
  let ⟨_, _, _, _, _, _, hm, _⟩ := hc
  ⟨readCell (off := 1) hm.get rfl, readCell (off := 2) hm.get rfl, readCell (off := 3) hm.get rfl⟩

set_option maxHeartbeats 8000000 in
theorem Step_ok {b : Nat} {h0 h : Heap} {o : Nat} {s : Chs} {N : Nat} {kind id : Int} {lv hv : V} {lits hints : List Int} (hc : ChkP b h o s.es s.last s.over []) (hs : Right6 b s N) (hN : N ≤ 5000) (x0 : Ext h0 h) (hb : h0.next ≤ b) (hl : SlO .i32 h o lv lits) (hh : Sw h0 hv (hints.map (.int .i64))) (h1 : lits.length ≤ 3000) (h2 : hints.length ≤ 3000) :
    EvCall xprog H0 14 [.ptr o 0 0, .agg [.int .u8 kind, .int .i64 id, lv, hv]] h fun v h' => v = .int .i64 (s.step (mayOf kind id lits hints) kind id lits hints).1 ∧ ChkP b h' o (s.step (mayOf kind id lits hints) kind id lits hints).2.es (s.step (mayOf kind id lits hints) kind id lits hints).2.last (s.step (mayOf kind id lits hints) kind id lits hints).2.over [] ∧ Chg o h h' := by
  refine s_call (fn := xf14) rfl (free _ rfl ..) ?_
  have hlt := hc.lt.1
  generalize hH1 : newCells h [.int .u8 kind, .int .i64 id, lv, hv] 1 false = H1
  have x1 : Ext h H1 := hH1 ▸ Ext.new ..
  have g1 : H1.get h.next = some (arr [.int .u8 kind, .int .i64 id, lv, hv] 1 false) := by rw [← hH1]; exact get_new ..
  have rA : readCells H1 h.next 0 0 4 = some [.int .u8 kind, .int .i64 id, lv, hv] := readCells_arr g1 (by simp)
  have hhs : ∀ {g}, Ext h g → Sl g hv (hints.map (.int .i64)) := fun x => hh.sl.ext (x0.trans x)
  have hmay := may_ok (kind := kind) (id := id) (hl.1.ext x1) (hhs x1) (by omega) (by omega)
  have hx : ∀ {g}, Ext h g → Chg o h g := fun x => Chg.ext x hlt
  have c1 : Chg o h H1 := Chg.ext x1 hlt
  cases hm : mayOf kind id lits hints with
  | false =>
    rw [hm] at hmay
    simp -implicitDefEqProofs only [xf14, argsFrom_cons, argsFrom_nil]
    repeat' ((first | refine s_line rfl ?_ | refine s_end rfl ?_ | refine s_seq ?_ | refine s_region ?_ | refine s_block ?_ | refine s_cond ?_ | refine s_ret ?_ | refine s_skip ?_ | refine s_exit ?_ | refine s_if (fun hif => ?_) (fun hif => ?_) | refine condB_dec (fun hif => ?_) (fun hif => ?_) | refine condB_of (fun hif => ?_) (fun hif => ?_) | (refine s_lelt ?_ ?_; omega) | (refine s_lt ?_ ?_; omega) | (refine s_le ?_ ?_; omega) | ((refine evApply_call hmay ?_; rintro _ g2 ⟨rfl, x2⟩))) <;>
      (try simp -implicitDefEqProofs (disch := first | assumption | omega) only [sx, sb, sd, se, xwpStep, xwpOp, xwpInt, opEv, xres, oneOf, Nat.reduceAdd, Nat.reduceEqDiff, Nat.reduceSub, ↓reduceIte, reduceCtorEq, wrap_i64, Nat.zero_add, Nat.add_zero, binV, nilCmp, nilOf, *]))
    exact ⟨rfl, hc.ext (x1.trans x2), hx (x1.trans x2)⟩
  | true =>
    rw [hm] at hmay
    obtain ⟨hfl, hfh, hk⟩ := may_fine hm
    have hb2 : h.next ≤ H1.next := x1.next
    have hH1n : h.next < H1.next := by rw [← hH1]; simp
    have rd : ∀ {g}, g.get h.next = some (arr [.int .u8 kind, .int .i64 id, lv, hv] 1 false) → readCells g h.next 0 0 1 = some [.int .u8 kind] ∧ readCells g h.next 0 1 1 = some [.int .i64 id] ∧ readCells g h.next 0 2 1 = some [lv] ∧ readCells g h.next 0 3 1 = some [hv] := fun g1' =>
      ⟨readCell (off := 0) g1' rfl, readCell (off := 1) g1' rfl, readCell (off := 2) g1' rfl, readCell (off := 3) g1' rfl⟩
    have el := hl.1.len
    have er := hl.1.row
    simp only [List.length_map] at el
    rcases hk with rfl | ⟨rfl, hid⟩
    · have hst : s.step true 2 id lits hints = if none5 s.es hints = true then (5, s) else (0, { s with es := s.es.filter fun e => decide (e.1 ∉ hints) }) := by
        unfold Chs.step
        rw [if_neg (by simp), if_pos rfl]
      have hdr : ∀ {g}, Ext h g → EvCall xprog H0 33 [.ptr o 0 0, hv] g fun v h' => v = .int .i64 (if none5 s.es hints = true then 5 else 0) ∧ ChkP b h' o (if none5 s.es hints = true then s.es else s.es.filter fun e => decide (e.1 ∉ hints)) s.last s.over [] ∧ Chg o g h' := fun x => drop_ok (hc.ext x) hs.rise (fun e he => by have := (hs.fine e he).2; omega) (by have := hs.tot; omega) (x0.trans x) hb hh.sl (by omega)
      rw [hst]
      clear hst
      cases hn : none5 s.es hints
      all_goals
        simp only [hn, if_true, if_false, Bool.false_eq_true] at hdr ⊢
        simp -implicitDefEqProofs only [xf14, argsFrom_cons, argsFrom_nil]
        repeat' ((first | refine s_line rfl ?_ | refine s_end rfl ?_ | refine s_seq ?_ | refine s_region ?_ | refine s_block ?_ | refine s_cond ?_ | refine s_ret ?_ | refine s_skip ?_ | refine s_exit ?_ | refine s_if (fun hif => ?_) (fun hif => ?_) | refine condB_dec (fun hif => ?_) (fun hif => ?_) | refine condB_of (fun hif => ?_) (fun hif => ?_) | (refine s_lelt ?_ ?_; omega) | (refine s_lt ?_ ?_; omega) | (refine s_le ?_ ?_; omega) | ((refine evApply_call hmay ?_; rintro _ g2 ⟨rfl, x2⟩; obtain ⟨d0, d1, d2, d3⟩ := rd ((x2.get _ hH1n).trans g1))) | ((refine evApply_call (hdr (x1.trans x2)) ?_; rintro _ g3 ⟨rfl, k1, k2⟩))) <;>
          (try simp -implicitDefEqProofs (disch := first | assumption | omega) only [sx, sb, sd, se, xwpStep, xwpOp, xwpInt, opEv, xres, oneOf, Nat.reduceAdd, Nat.reduceEqDiff, Nat.reduceSub, ↓reduceIte, reduceCtorEq, wrap_i64, Nat.zero_add, Nat.add_zero, binV, nilCmp, nilOf, *]))
        first
          | exact ⟨k1, (hx (x1.trans x2)).trans k2⟩
          | exact (hx (x1.trans x2)).trans k2
    · have hfo : ∀ {g}, Ext h g → EvCall xprog H0 34 [.ptr o 0 0, lv, hv] g fun v h' => v = .int .i64 (follows s.es lits hints) ∧ ChkP b h' o s.es s.last s.over [] ∧ Chg o g h' := fun x => follows_ok (hc.ext x) hs.rise (fun e he => ⟨(hs.fine e he).1, by have := (hs.fine e he).2; omega⟩) (x0.trans x) hb (hl.ext x hlt) hfl hh hfh (by omega) (by omega)
      have hpu : ∀ {g}, ChkP b g o s.es s.last s.over [] → SlO .i32 g o lv lits → s.last < id → EvCall xprog H0 31 [.ptr o 0 0, .int .i64 id, lv] g fun v h' => ChkP b h' o (s.es ++ [(id, lits)]) id (s.over || lits.isEmpty) [] ∧ Chg o g h' := fun q1 q2 q3 => put_ok q1 hs.rise q3 q2.1 hfl (by omega) (by have := hs.tot; omega)
      have htt := hs.tot
      have hst : s.step true 1 id lits hints = if id ≤ s.last then (62, s) else if follows s.es lits hints ≠ 0 then (follows s.es lits hints, s) else if 16777216 < Chk.total s.es + lits.length then (3, s) else (0, s.put id lits) := by
        unfold Chs.step
        rw [if_neg (by simp), if_neg (by decide)]
      have hmu : ∀ {g}, Ext H1 g → ¬ Mut g o h.next := fun x q => by
        have := hc.lt.2 h.next ((Mut.ext (x1.trans x) hlt).1 q)
        omega
      simp -implicitDefEqProofs only [xf14, argsFrom_cons, argsFrom_nil]
      repeat' ((first | refine s_line rfl ?_ | refine s_end rfl ?_ | refine s_seq ?_ | refine s_region ?_ | refine s_block ?_ | refine s_cond ?_ | refine s_ret ?_ | refine s_skip ?_ | refine s_exit ?_ | refine s_if (fun hif => ?_) (fun hif => ?_) | refine condB_dec (fun hif => ?_) (fun hif => ?_) | refine condB_of (fun hif => ?_) (fun hif => ?_) | (refine s_lelt ?_ ?_; omega) | (refine s_lt ?_ ?_; omega) | (refine s_le ?_ ?_; omega) | ((refine evApply_call hmay ?_; rintro _ g2 ⟨rfl, x2⟩; obtain ⟨d0, d1, d2, d3⟩ := rd ((x2.get _ hH1n).trans g1); obtain ⟨c1', c2, c3⟩ := (hc.ext (x1.trans x2)).reads)) | ((refine evApply_call (hfo (x1.trans x2)) ?_; rintro _ g3 ⟨rfl, k3, x3⟩; obtain ⟨d0, d1, d2, d3⟩ := rd ((x3.but.get _ (Nat.lt_of_lt_of_le hH1n x2.next) (hmu x2)).trans ((x2.get _ hH1n).trans g1)); obtain ⟨c1', c2, c3⟩ := k3.reads; have k4 := (hl.ext (x1.trans x2) hlt).chg x3)) | ((refine evApply_call (hpu k3 k4 (by omega)) ?_; rintro _ g4 ⟨k1, k2⟩))) <;>
        (try simp -implicitDefEqProofs (disch := first | assumption | omega) only [sx, sb, sd, se, xwpStep, xwpOp, xwpInt, opEv, xres, oneOf, Nat.reduceAdd, Nat.reduceEqDiff, Nat.reduceSub, ↓reduceIte, reduceCtorEq, wrap_i64, Nat.zero_add, Nat.add_zero, binV, nilCmp, nilOf, *]))
      · exact ⟨hc.ext (x1.trans x2), hx (x1.trans x2)⟩
      · have hz : ¬ follows s.es lits hints = 0 := by simpa using hif
        rw [if_neg hz]
        exact ⟨rfl, k3, (hx (x1.trans x2)).trans x3⟩
      · exfalso; omega
      · have hz : follows s.es lits hints = 0 := by simpa using ‹(!decide (follows s.es lits hints = 0)) = false›
        rw [if_pos hz, if_neg (by omega)]
        exact ⟨rfl, k1, ((hx (x1.trans x2)).trans x3).trans k2⟩
end Go.Proofs.Ytmkbnbpblhoekaa
