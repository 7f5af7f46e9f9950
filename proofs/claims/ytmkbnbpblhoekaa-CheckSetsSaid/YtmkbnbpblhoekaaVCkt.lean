/- The program's checker: what groups needs. -/
import Derived.Test.YtmkbnbpblhoekaaVCks
set_option linter.unusedSimpArgs false
set_option linter.unusedVariables false
set_option linter.unusedSectionVars false
namespace Go.Proofs.Ytmkbnbpblhoekaa
open Go.Xr Go.Chk

theorem hasKey_addKey {n : Int} {v : V} : ∀ {es : List (Int × V)} {k : Int}, hasKey k (addKey n v es) = if k = n then some v else hasKey k es
  | [], k => by
    unfold addKey hasKey
    by_cases h : k = n
    · rw [if_pos h, decide_eq_true h.symm]
    · rw [if_neg h, decide_eq_false (fun e => h e.symm)]
      rfl
  | (a, x) :: r, k => by
    unfold addKey
    by_cases h1 : n < a
    · rw [decide_eq_true h1]
      simp only
      rw [hasKey]
      by_cases h : k = n
      · rw [if_pos h, decide_eq_true h.symm]
      · rw [if_neg h, decide_eq_false (fun e => h e.symm)]
    · rw [decide_eq_false h1]
      simp only
      by_cases h2 : a < n
      · rw [decide_eq_true h2]
        simp only
        unfold hasKey
        by_cases hk : a = k
        · rw [decide_eq_true hk, if_neg (by omega)]
        · rw [decide_eq_false hk]
          exact hasKey_addKey
      · rw [decide_eq_false h2]
        simp only
        unfold hasKey
        by_cases h : k = n
        · rw [if_pos h, decide_eq_true h.symm]
        · rw [if_neg h, decide_eq_false (fun e => h e.symm), decide_eq_false (by omega)]

theorem Mut.low {b : Nat} {h : Heap} {o x : Nat} {es : List (Int × List Int)} {last : Int} {ov : Bool} {tr : List Int} (hc : ChkP b h o es last ov tr) (hx : Mut h o x) : b ≤ x := by
  obtain ⟨vs, mo, ces, ins, vv, tv, hm, hg⟩ := hc
  rcases (mut_iff hm.get).1 hx with rfl | rfl | q | q
  · exact hm.bo
  · exact hm.bm
  · exact (hm.val.lt q).1
  · exact (hm.trl.lt q).1
theorem ext_chg {b : Nat} {h0 h h' : Heap} {o : Nat} {es : List (Int × List Int)} {last : Int} {ov : Bool} {tr : List Int} (hc : ChkP b h o es last ov tr) (x : Ext h0 h) (hb : h0.next ≤ b) (c : Chg o h h') : Ext h0 h' :=
  ⟨Nat.le_trans x.next c.but.next, fun y hy => (c.but.get y (Nat.lt_of_lt_of_le hy x.next) fun q => by have := Mut.low hc q; omega).trans (x.get y hy)⟩
theorem slo_of {k : IntKind} {b : Nat} {h0 h : Heap} {o : Nat} {es : List (Int × List Int)} {last : Int} {ov : Bool} {tr : List Int} {v : V} {xs : List Int} (hc : ChkP b h o es last ov tr) (x : Ext h0 h) (hb : h0.next ≤ b) (hs : Sl h0 v (xs.map (.int k))) : SlO k h o v xs := by
  refine ⟨hs.ext x, fun hne y hy q => ?_⟩
  have := Mut.low hc q
  rcases hs with ⟨rfl, _⟩ | ⟨o', g, off, cap, rfl, h2⟩
  · cases hy
  · cases hy
    have := (h2 (by simp; exact List.length_pos_iff.2 hne)).1
    omega

theorem sl_cells {h : Heap} {v : V} {vs : List V} (hs : Sl h v vs) (hne : vs ≠ []) {x : Nat} (hx : rowObj v = some x) : ∃ c, h.get x = some (.cells c) := by
  rcases hs with ⟨rfl, _⟩ | ⟨o, g, off, cap, rfl, h2⟩
  · cases hx
  · cases hx
    have := (h2 (List.length_pos_iff.2 hne)).2
    unfold readCells Heap.cells? at this
    cases hg : h.get x with
    | none => rw [hg] at this; cases this
    | some y =>
      rw [hg] at this
      cases y <;> first | exact ⟨_, rfl⟩ | cases this
theorem mut_put {h : Heap} {o mm x : Nat} {y : XObj} (hn : mm ≠ o) : Mut (h.put mm y) o x ↔ Mut h o x := by
  unfold Mut
  rw [Heap.get_put, if_neg (fun e => hn e.symm)]
/-- A map of one's own is written: the checker stays. -/
theorem chk_mapput {b : Nat} {g : Heap} {o mm : Nat} {es : List (Int × List Int)} {last : Int} {ov : Bool} {tr : List Int} {kd : IntKind} {mes : List (Int × V)} {mins : Nat} (hc : ChkP b g o es last ov tr) (hmm : g.get mm = some (.map kd mes mins)) (hoff : ¬ Mut g o mm) (hlt : mm < g.next) (y : XObj) : ChkP b (g.put mm y) o es last ov tr := by
  obtain ⟨vs, mo, ces, ins, vv, tv, hm, hg⟩ := hc
  have ho : mm ≠ o := fun e => hoff (.inl e)
  have hget : ∀ x, x ≠ mm → (g.put mm y).get x = g.get x := fun x hx => by rw [Heap.get_put, if_neg hx]
  rw [mut_iff hm.get] at hoff
  have hslo : ∀ {v : V} {xs : List Int}, SlO .i32 g o v xs → SlO .i32 (g.put mm y) o v xs := fun {v xs} hs => by
    by_cases hne : xs = []
    · subst hne
      refine ⟨?_, fun q => absurd rfl q⟩
      rcases hs.1 with h1 | ⟨o', g', off, cap, h1, _⟩
      · exact .inl h1
      · exact .inr ⟨o', g', off, cap, h1, fun q => by simp at q⟩
    · refine ⟨hs.1.stay (Nat.le_refl _) fun x hx _ => hget x ?_, fun _ x hx q => hs.2 hne x hx ((mut_put ho).1 q)⟩
      rintro rfl
      obtain ⟨c, e⟩ := sl_cells hs.1 (by simpa using hne) hx
      rw [hmm] at e
      cases e
  refine ⟨vs, mo, ces, ins, vv, tv, ⟨(hget o (fun e => ho e.symm)).trans hm.get, hm.bo, hm.ho, hm.bm, hm.hm, hm.om, (hget mo fun e => hoff (.inr (.inl e.symm))).trans hm.map, hm.val.frame (Nat.le_refl _) fun x hx => hget x fun e => hoff (.inr (.inr (.inl (e ▸ hx)))), hm.trl.frame (Nat.le_refl _) fun x hx => hget x fun e => hoff (.inr (.inr (.inr (e ▸ hx)))), hm.voff, hm.toff, hm.two, fun id => (hm.held id).imp (fun q => q) ?_, hm.keys⟩, hg⟩
  rintro ⟨l, ho', lv, sv, h1, h2, h3⟩
  refine ⟨l, ho', lv, sv, h1, h2, ⟨(hget ho' fun e => ?_).trans h3.get, h3.lt, fun q => h3.off ((mut_put ho).1 q), hslo h3.lits, hslo h3.set⟩⟩
  have := h3.get
  rw [e, hmm] at this
  cases this
theorem ChkP.no_hobj {b : Nat} {h : Heap} {o mm mins : Nat} {es : List (Int × List Int)} {last : Int} {ov : Bool} {tr : List Int} {kd : IntKind} {mes : List (Int × V)} (hc : ChkP b h o es last ov tr) (hmm : h.get mm = some (.map kd mes mins)) : ¬ HObj h o mm := fun q => by
  obtain ⟨vs, mo, ces, ins, vv, tv, hm, _⟩ := hc
  obtain ⟨_, _, _, _, _, _, e⟩ := hm.hobj q
  have := e.get
  rw [hmm] at this
  cases this
theorem chg_mapput {h g : Heap} {o mm : Nat} (c : Chg o h g) (hm : h.next ≤ mm) (ho : mm ≠ o) (n1 : ¬ Mut g o mm) (n2 : ¬ HObj g o mm) (y : XObj) : Chg o h (g.put mm y) :=
  ⟨⟨c.but.next, fun x hx q => by rw [Heap.get_put, if_neg (by omega)]; exact c.but.get x hx q⟩, fun x hx q => c.back x hx ((mut_put ho).1 q), fun w => by
    obtain ⟨w1, f1⟩ := c.foot w
    obtain ⟨w2, f2⟩ := foot_same (h' := g.put mm y) w1 (Nat.le_refl _) (fun x q => .inl ((mut_put ho).1 q)) (fun cs mo q1 q2 => ⟨cs, by rw [Heap.get_put, if_neg (fun e => ho e.symm)] at q1; exact q1, q2⟩)
      (fun mo cs q1 q2 => by
        rw [Heap.get_put, if_neg]
        rintro rfl
        exact n1 (.inr ⟨cs, q1, .inl q2⟩)) fun x q => by
        rw [Heap.get_put, if_neg]
        rintro rfl
        exact n2 q
    exact ⟨w2, fun x q => (f2 x q).elim (f1 x) fun q => .inr (Nat.le_trans c.but.next q)⟩⟩

/-- What is held is as it was, or new. -/
theorem grows_map {o mo : Nat} {h h' : Heap} {cs cs' : List V} {kd kd' : IntKind} {ces ces' : List (Int × V)} {ins ins' : Nat} (g1 : h.get o = some (arr cs 1 false)) (e1 : cs[0]? = some (.map mo)) (g2 : h'.get o = some (arr cs' 1 false)) (e2 : cs'[0]? = some (.map mo)) (m1 : h.get mo = some (.map kd ces ins)) (m2 : h'.get mo = some (.map kd' ces' ins')) (hn : h.next ≤ h'.next) (hm : ∀ x, Mut h' o x → Mut h o x)
    (hall : ∀ id ho, (id, V.ptr ho 0 0) ∈ ces' → ((∃ id', (id', V.ptr ho 0 0) ∈ ces) ∧ h'.get ho = h.get ho) ∨ (h.next ≤ ho ∧ ho < h'.next ∧ ∀ hs v x, h'.get ho = some (arr hs 1 false) → v ∈ hs → lenS v ≠ 0 → rowObj v = some x → h.next ≤ x)) : Grows o h h' := fun w => by
  have hob : ∀ ho, HObj h' o ho → ∃ id, (id, V.ptr ho 0 0) ∈ ces' := by
    rintro ho ⟨cs2, mo2, kd2, ces2, ins2, id, q1, q2, q3, q4⟩
    rw [g2] at q1
    rw [← arr_inj q1, e2] at q2
    cases q2
    rw [m2] at q3
    cases q3
    exact ⟨id, q4⟩
  have hold : ∀ ho, (∃ id', (id', V.ptr ho 0 0) ∈ ces) → HObj h o ho := fun ho ⟨id', q⟩ => ⟨cs, mo, kd, ces, ins, id', g1, e1, m1, q⟩
  refine ⟨⟨fun cs2 mo2 q1 q2 => ?_, fun ho q => ?_⟩, ?_⟩
  · rw [g2] at q1
    rw [← arr_inj q1, e2] at q2
    cases q2
    exact Nat.lt_of_lt_of_le (w.1 cs mo g1 e1) hn
  · obtain ⟨id, q⟩ := hob ho q
    rcases hall id ho q with ⟨q1, _⟩ | ⟨_, q2, _⟩
    · exact Nat.lt_of_lt_of_le (w.2 ho (hold ho q1)) hn
    · exact q2
  · rintro x (q | ⟨ho, q, q2⟩)
    · exact .inl (.inl (hm x q))
    · obtain ⟨id, q⟩ := hob ho q
      rcases hall id ho q with ⟨q1, q3⟩ | ⟨q1, _, q3⟩
      · refine .inl (.inr ⟨ho, hold ho q1, q2.imp (fun q => q) ?_⟩)
        rintro ⟨hs, v, e, r⟩
        exact ⟨hs, v, by rw [← q3]; exact e, r⟩
      · rcases q2 with rfl | ⟨hs, v, r1, r2, r3, r4⟩
        · exact .inr q1
        · exact .inr (q3 hs v x r1 r2 r3 r4)

theorem headX_ok {h0 h : Heap} {c : V} {xs : List Int} (hc : Sw h0 c (xs.map (.int .i64))) (x0 : Ext h0 h) (hlen : xs.length ≤ 9223372036854775806) (hx : ∀ x ∈ xs, x ≠ 0) : EvCall xprog H0 53 [c] h fun v h' => (∃ a b, v = .tup [a, b] ∧ Sw h0 a ((xs.take (headN xs)).map (.int .i64)) ∧ Sw h0 b ((xs.drop (headN xs)).map (.int .i64))) ∧ h' = h := by
  refine s_call (fn := xf53) rfl (free _ rfl ..) ?_
  have hl := hc.sl.len
  have hr := hc.sl.row
  have hn := headN_le xs
  simp only [List.length_map] at hl
  have hi := IndexFunc_ok (hc.ext x0).sl hlen hx
  by_cases hh : headN xs < xs.length
  · rw [if_pos hh] at hi
    simp -implicitDefEqProofs only [xf53, argsFrom_cons, argsFrom_nil]
    repeat' ((first | refine s_line rfl ?_ | refine s_end rfl ?_ | refine s_seq ?_ | refine s_region ?_ | refine s_block ?_ | refine s_cond ?_ | refine s_ret ?_ | refine s_skip ?_ | refine s_exit ?_ | refine s_if (fun hif => ?_) (fun hif => ?_) | refine condB_dec (fun hif => ?_) (fun hif => ?_) | refine condB_of (fun hif => ?_) (fun hif => ?_) | (refine s_lelt ?_ ?_; omega) | (refine s_lt ?_ ?_; omega) | (refine s_le ?_ ?_; omega) | (refine (evCall_iff hi).2 ?_) | ((refine x_sw_hiX hc (by omega) (by simp; omega) ?_; intro ra qa)) | ((refine x_sw_loX hc (by omega) (by simp; omega) ?_; intro rb qb))) <;>
      (try simp -implicitDefEqProofs (disch := first | assumption | omega) only [sx, sb, sd, se, xwpStep, xwpOp, xwpInt, opEv, xres, oneOf, Nat.reduceAdd, Nat.reduceEqDiff, Nat.reduceSub, ↓reduceIte, reduceCtorEq, Int.toNat_natCast, *]))
    · rw [Int.toNat_natCast, ← List.map_take] at qa
      rw [Int.toNat_natCast, ← List.map_drop] at qb
      exact ⟨ra, rb, rfl, qa, qb⟩
  · rw [if_neg hh] at hi
    have he : headN xs = xs.length := by omega
    simp -implicitDefEqProofs only [xf53, argsFrom_cons, argsFrom_nil]
    repeat' ((first | refine s_line rfl ?_ | refine s_end rfl ?_ | refine s_seq ?_ | refine s_region ?_ | refine s_block ?_ | refine s_cond ?_ | refine s_ret ?_ | refine s_skip ?_ | refine s_exit ?_ | refine s_if (fun hif => ?_) (fun hif => ?_) | refine condB_dec (fun hif => ?_) (fun hif => ?_) | refine condB_of (fun hif => ?_) (fun hif => ?_) | (refine s_lelt ?_ ?_; omega) | (refine s_lt ?_ ?_; omega) | (refine s_le ?_ ?_; omega) | (refine (evCall_iff hi).2 ?_) | ((refine x_sw_hiX hc (by omega) (by simp) ?_; intro ra qa)) | ((refine x_sw_loX hc (by omega) (by simp) ?_; intro rb qb))) <;>
      (try simp -implicitDefEqProofs (disch := first | assumption | omega) only [sx, sb, sd, se, xwpStep, xwpOp, xwpInt, opEv, xres, oneOf, Nat.reduceAdd, Nat.reduceEqDiff, Nat.reduceSub, ↓reduceIte, reduceCtorEq, Int.toNat_natCast, *]))
    · rw [Int.toNat_natCast, ← List.map_take] at qa
      rw [Int.toNat_natCast, ← List.map_drop] at qb
      exact ⟨ra, rb, rfl, qa, qb⟩
end Go.Proofs.Ytmkbnbpblhoekaa
