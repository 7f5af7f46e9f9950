/- The program's checker in memory; a literal's value. -/
import Derived.Test.YtmkbnbpblhoekaaVCkS
import Derived.Test.YtmkbnbpblhoekaaW3
set_option linter.unusedSimpArgs false
set_option linter.unusedVariables false
set_option linter.unusedSectionVars false
namespace Go.Proofs.Ytmkbnbpblhoekaa
open Go.Xr Go.Chk

theorem repl_one (n : Nat) (v : V) : repl n [v] = List.replicate n v := by
  unfold repl
  induction n with
  | zero => rfl
  | succ n ih => rw [List.replicate_succ, List.flatten_cons, ih, List.replicate_succ]; rfl
theorem appendZ_tk {b : Nat} {h : Heap} {v : V} {xs : List V} {n : Nat} {z : V} (hv : Tk b h v xs) (hn : b ≤ h.next) (h1 : z.one = true) (hb : xs.length + n ≤ 140737488355328) :
    ∃ v' h', appendV h 1 1 v (repl n [z]) n = some (v', h') ∧ Tk b h' v' (xs ++ List.replicate n z) ∧ But (fun o => rowObj v = some o) h h' ∧ (v' = v ∨ rowObj v' = rowObj v ∨ rowObj v' = some h.next) := by
  obtain ⟨v', h', e, a1, a2, a3⟩ := append_tk (bytes := 1) (ys := List.replicate n z) hv hn (by rw [List.all_eq_true]; intro x hx; rw [List.eq_of_mem_replicate hx]; exact h1) (by rw [List.length_replicate, Nat.mul_one]; exact hb)
  rw [List.length_replicate] at e
  exact ⟨v', h', by rw [repl_one]; exact e, a1, a2, a3⟩

/-- What a checker's methods may write. -/
def Mut (h : Heap) (o x : Nat) : Prop := x = o ∨ ∃ cs, h.get o = some (arr cs 1 false) ∧ (cs[0]? = some (.map x) ∨ ∃ v, (cs[4]? = some v ∨ cs[5]? = some v) ∧ rowObj v = some x)
theorem arr_inj {cs cs' : List V} (h : some (arr cs 1 false) = some (arr cs' 1 false)) : cs = cs' := by
  have := Option.some.inj h
  unfold arr at this
  cases this
  rfl
theorem mut_iff {h : Heap} {o mo x : Nat} {a b c vv tv : V} (hg : h.get o = some (arr [.map mo, a, b, c, vv, tv] 1 false)) : Mut h o x ↔ x = o ∨ x = mo ∨ rowObj vv = some x ∨ rowObj tv = some x := by
  unfold Mut
  constructor
  · rintro (q | ⟨cs, q1, q2⟩)
    · exact .inl q
    · rw [hg] at q1
      have := arr_inj q1
      subst this
      rcases q2 with q2 | ⟨v, q2 | q2, q3⟩
      · cases q2; exact .inr (.inl rfl)
      · cases q2; exact .inr (.inr (.inl q3))
      · cases q2; exact .inr (.inr (.inr q3))
  · rintro (q | rfl | q | q)
    · exact .inl q
    · exact .inr ⟨_, hg, .inl rfl⟩
    · exact .inr ⟨_, hg, .inr ⟨_, .inl rfl, q⟩⟩
    · exact .inr ⟨_, hg, .inr ⟨_, .inr rfl, q⟩⟩
/-- A clause that a checker holds. -/
def HObj (h : Heap) (o ho : Nat) : Prop := ∃ cs mo kd ces ins id, h.get o = some (arr cs 1 false) ∧ cs[0]? = some (.map mo) ∧ h.get mo = some (.map kd ces ins) ∧ (id, V.ptr ho 0 0) ∈ ces
/-- All that a checker's answers hang on. -/
def Foot (h : Heap) (o x : Nat) : Prop := Mut h o x ∨ ∃ ho, HObj h o ho ∧ (x = ho ∨ ∃ hs v, h.get ho = some (arr hs 1 false) ∧ v ∈ hs ∧ lenS v ≠ 0 ∧ rowObj v = some x)
/-- What is held is there. -/
def WFo (h : Heap) (o : Nat) : Prop := (∀ cs mo, h.get o = some (arr cs 1 false) → cs[0]? = some (.map mo) → mo < h.next) ∧ ∀ ho, HObj h o ho → ho < h.next
/-- Nothing old comes to what a checker's answers hang on. -/
def Grows (o : Nat) (h h' : Heap) : Prop := WFo h o → WFo h' o ∧ ∀ x, Foot h' o x → Foot h o x ∨ h.next ≤ x
/-- What a method of a checker does to the heap. -/
structure Chg (o : Nat) (h h' : Heap) : Prop where
  but : But (Mut h o) h h'
  back : ∀ x, x < h.next → Mut h' o x → Mut h o x
  foot : Grows o h h'
theorem Chg.refl (o : Nat) (h : Heap) : Chg o h h := ⟨But.refl _ _, fun _ _ q => q, fun w => ⟨w, fun _ q => .inl q⟩⟩
theorem Chg.trans {o : Nat} {a b c : Heap} (h1 : Chg o a b) (h2 : Chg o b c) : Chg o a c :=
  ⟨⟨Nat.le_trans h1.but.next h2.but.next, fun x hx hm => (h2.but.get x (Nat.lt_of_lt_of_le hx h1.but.next) fun q => hm (h1.back x hx q)).trans (h1.but.get x hx hm)⟩, fun x hx q => h1.back x hx (h2.back x (Nat.lt_of_lt_of_le hx h1.but.next) q),
   fun w => ⟨(h2.foot (h1.foot w).1).1, fun x q => ((h2.foot (h1.foot w).1).2 x q).elim (fun q => (h1.foot w).2 x q) fun q => .inr (Nat.le_trans h1.but.next q)⟩⟩
theorem Mut.ext {h h' : Heap} {o x : Nat} (e : Ext h h') (ho : o < h.next) : Mut h' o x ↔ Mut h o x := by
  unfold Mut
  rw [e.get o ho]
/-- Where the checker, its map and what is held are as they were. -/
theorem foot_same {o : Nat} {h h' : Heap} (w : WFo h o) (hn : h.next ≤ h'.next) (hm : ∀ x, Mut h' o x → Mut h o x ∨ h.next ≤ x) (h0 : ∀ cs mo, h'.get o = some (arr cs 1 false) → cs[0]? = some (.map mo) → ∃ cs', h.get o = some (arr cs' 1 false) ∧ cs'[0]? = some (.map mo))
    (h1 : ∀ mo cs, h.get o = some (arr cs 1 false) → cs[0]? = some (.map mo) → h'.get mo = h.get mo) (h2 : ∀ ho, HObj h o ho → h'.get ho = h.get ho) : WFo h' o ∧ ∀ x, Foot h' o x → Foot h o x ∨ h.next ≤ x := by
  have hh : ∀ ho, HObj h' o ho → HObj h o ho := by
    rintro ho ⟨cs, mo, kd, ces, ins, id, q1, q2, q3, q4⟩
    obtain ⟨cs', q5, q6⟩ := h0 cs mo q1 q2
    exact ⟨cs', mo, kd, ces, ins, id, q5, q6, by rw [← h1 mo cs' q5 q6]; exact q3, q4⟩
  refine ⟨⟨fun cs mo q1 q2 => ?_, fun ho q => Nat.lt_of_lt_of_le (w.2 ho (hh ho q)) hn⟩, ?_⟩
  · obtain ⟨cs', q5, q6⟩ := h0 cs mo q1 q2
    exact Nat.lt_of_lt_of_le (w.1 cs' mo q5 q6) hn
  · rintro x (q | ⟨ho, q1, q2⟩)
    · exact (hm x q).imp .inl id
    · have q3 := hh ho q1
      refine .inl (.inr ⟨ho, q3, q2.imp id ?_⟩)
      rintro ⟨hs, v, e, r⟩
      exact ⟨hs, v, by rw [← h2 ho q3]; exact e, r⟩
theorem Chg.ext {o : Nat} {h h' : Heap} (e : Ext h h') (ho : o < h.next) : Chg o h h' := ⟨e.but _, fun x hx q => (Mut.ext e ho).1 q, fun w => foot_same w e.next (fun x q => .inl ((Mut.ext e ho).1 q)) (fun cs mo q1 q2 => ⟨cs, by rw [← e.get o ho]; exact q1, q2⟩) (fun mo cs q1 q2 => e.get mo (w.1 cs mo q1 q2)) fun x q => e.get x (w.2 x q)⟩
/-- A slice that no method writes. -/
def SlO (k : IntKind) (h : Heap) (o : Nat) (v : V) (xs : List Int) : Prop := Sl h v (xs.map (.int k)) ∧ (xs ≠ [] → ∀ x, rowObj v = some x → ¬ Mut h o x)
theorem SlO.lt {k : IntKind} {h : Heap} {o : Nat} {v : V} {xs : List Int} (hs : SlO k h o v xs) (hne : xs ≠ []) {x : Nat} (hx : rowObj v = some x) : x < h.next := by
  rcases hs.1 with ⟨rfl, _⟩ | ⟨o', g, off, cap, rfl, h2⟩
  · cases hx
  · cases hx
    exact (h2 (by simp; exact List.length_pos_iff.2 hne)).1
theorem SlO.chg {k : IntKind} {h h' : Heap} {o : Nat} {v : V} {xs : List Int} (hs : SlO k h o v xs) (c : Chg o h h') : SlO k h' o v xs := by
  by_cases hne : xs = []
  · subst hne
    refine ⟨?_, fun q => absurd rfl q⟩
    rcases hs.1 with h1 | ⟨o', g, off, cap, h1, _⟩
    · exact .inl h1
    · exact .inr ⟨o', g, off, cap, h1, fun q => by simp at q⟩
  · exact ⟨hs.1.stay c.but.next fun x hx hlt => c.but.get x hlt (hs.2 hne x hx), fun _ x hx q => hs.2 hne x hx (c.back x (hs.lt hne hx) q)⟩
theorem SlO.ext {k : IntKind} {h h' : Heap} {o : Nat} {v : V} {xs : List Int} (hs : SlO k h o v xs) (e : Ext h h') (ho : o < h.next) : SlO k h' o v xs := hs.chg (Chg.ext e ho)
/-- A clause that is held. -/
structure HeldAt (h : Heap) (o ho : Nat) (lv sv : V) (l : List Int) : Prop where
  get : h.get ho = some (arr [lv, sv, .bool (both l)] 1 false)
  lt : ho < h.next
  off : ¬ Mut h o ho
  lits : SlO .i32 h o lv l
  set : SlO .i32 h o sv (nrm l)
theorem HeldAt.chg {h h' : Heap} {o ho : Nat} {lv sv : V} {l : List Int} (hh : HeldAt h o ho lv sv l) (c : Chg o h h') : HeldAt h' o ho lv sv l :=
  ⟨(c.but.get _ hh.lt hh.off).trans hh.get, Nat.lt_of_lt_of_le hh.lt c.but.next, fun q => hh.off (c.back _ hh.lt q), hh.lits.chg c, hh.set.chg c⟩
def HeldAll (h : Heap) (o : Nat) (es : List (Int × List Int)) (ces : List (Int × V)) : Prop := ∀ id, (find es id = none ∧ hasKey id ces = none) ∨ ∃ l ho lv sv, find es id = some l ∧ hasKey id ces = some (.ptr ho 0 0) ∧ HeldAt h o ho lv sv l
theorem HeldAll.chg {h h' : Heap} {o : Nat} {es : List (Int × List Int)} {ces : List (Int × V)} (hh : HeldAll h o es ces) (c : Chg o h h') : HeldAll h' o es ces := fun id =>
  (hh id).imp (fun q => q) fun ⟨l, ho, lv, sv, h1, h2, h3⟩ => ⟨l, ho, lv, sv, h1, h2, h3.chg c⟩
/-- The checker in memory. -/
structure ChkM (b : Nat) (h : Heap) (o : Nat) (es : List (Int × List Int)) (last : Int) (ov : Bool) (vs tr : List Int) (mo : Nat) (ces : List (Int × V)) (ins : Nat) (vv tv : V) : Prop where
  get : h.get o = some (arr [.map mo, .int .i64 last, .int .i64 (Chk.total es : Nat), .bool ov, vv, tv] 1 false)
  bo : b ≤ o
  ho : o < h.next
  bm : b ≤ mo
  hm : mo < h.next
  om : mo ≠ o
  map : h.get mo = some (.map .i64 ces ins)
  val : Tk b h vv (vs.map (.int .i8))
  trl : Tk b h tv (tr.map (.int .i32))
  voff : ∀ x, rowObj vv = some x → x ≠ o ∧ x ≠ mo
  toff : ∀ x, rowObj tv = some x → x ≠ o ∧ x ≠ mo
  two : ∀ x, rowObj vv = some x → rowObj tv ≠ some x
  held : HeldAll h o es ces
  keys : (ces.map Prod.fst).Pairwise (· < ·)
def ChkP (b : Nat) (h : Heap) (o : Nat) (es : List (Int × List Int)) (last : Int) (ov : Bool) (tr : List Int) : Prop := ∃ vs mo ces ins vv tv, ChkM b h o es last ov vs tr mo ces ins vv tv ∧ Goodly vs tr

theorem mem_hasKey : ∀ {ces : List (Int × V)} {k : Int} {v : V}, (ces.map Prod.fst).Nodup → (k, v) ∈ ces → hasKey k ces = some v
  | [], _, _, _, h => by cases h
  | (a, x) :: r, k, v, hn, h => by
    rw [List.map_cons, List.nodup_cons] at hn
    unfold hasKey
    rcases List.mem_cons.1 h with e | h
    · cases e
      rw [decide_eq_true rfl]
    · rw [decide_eq_false]
      · exact mem_hasKey hn.2 h
      · rintro rfl
        exact hn.1 (List.mem_map.2 ⟨_, h, rfl⟩)
theorem keysND {l : List Int} (h : l.Pairwise (· < ·)) : l.Nodup := h.imp fun {a b} h e => by omega
theorem ChkM.hobj {b : Nat} {h : Heap} {o ho : Nat} {es : List (Int × List Int)} {last : Int} {ov : Bool} {vs tr : List Int} {mo : Nat} {ces : List (Int × V)} {ins : Nat} {vv tv : V} (hc : ChkM b h o es last ov vs tr mo ces ins vv tv) (q : HObj h o ho) : ∃ id lv sv l, find es id = some l ∧ hasKey id ces = some (.ptr ho 0 0) ∧ HeldAt h o ho lv sv l := by
  obtain ⟨cs, mo', kd, ces', ins', id, q1, q2, q3, q4⟩ := q
  rw [hc.get] at q1
  rw [← arr_inj q1] at q2
  cases q2
  rw [hc.map] at q3
  cases q3
  have hk := mem_hasKey (keysND hc.keys) q4
  rcases hc.held id with ⟨_, e⟩ | ⟨l, ho', lv, sv, e1, e2, e3⟩
  · rw [hk] at e; cases e
  · rw [hk] at e2
    cases e2
    exact ⟨id, lv, sv, l, e1, hk, e3⟩
theorem ChkM.held_off {b : Nat} {h : Heap} {o ho : Nat} {es : List (Int × List Int)} {last : Int} {ov : Bool} {vs tr : List Int} {mo : Nat} {ces : List (Int × V)} {ins : Nat} {vv tv : V} (hc : ChkM b h o es last ov vs tr mo ces ins vv tv) (q : HObj h o ho) : ¬ Mut h o ho :=
  let ⟨_, _, _, _, _, _, e⟩ := hc.hobj q
  e.off
/-- A checker in memory is whole. -/
theorem ChkM.wf {b : Nat} {h : Heap} {o : Nat} {es : List (Int × List Int)} {last : Int} {ov : Bool} {vs tr : List Int} {mo : Nat} {ces : List (Int × V)} {ins : Nat} {vv tv : V} (hc : ChkM b h o es last ov vs tr mo ces ins vv tv) : WFo h o :=
  ⟨fun cs mo' q1 q2 => by
    rw [hc.get] at q1
    rw [← arr_inj q1] at q2
    cases q2
    exact hc.hm, fun ho q => let ⟨_, _, _, _, _, _, e⟩ := hc.hobj q; e.lt⟩
theorem chk_next {b : Nat} {g g' : Heap} {o : Nat} {es : List (Int × List Int)} {last : Int} {ov : Bool} {vs tr vs' tr' : List Int} {mo : Nat} {ces : List (Int × V)} {ins : Nat} {vv tv vv' tv' : V} (hc : ChkM b g o es last ov vs tr mo ces ins vv tv) (hn : g.next ≤ g'.next)
    (hg : ∀ x, x < g.next → x ≠ o → rowObj vv ≠ some x → rowObj tv ≠ some x → g'.get x = g.get x) (ho : g'.get o = some (arr [.map mo, .int .i64 last, .int .i64 (Chk.total es : Nat), .bool ov, vv', tv'] 1 false)) (hv : Tk b g' vv' (vs'.map (.int .i8))) (ht : Tk b g' tv' (tr'.map (.int .i32)))
    (h1 : ∀ x, rowObj vv' = some x → rowObj vv = some x ∨ g.next ≤ x) (h2 : ∀ x, rowObj tv' = some x → rowObj tv = some x ∨ g.next ≤ x) (h3 : ∀ x, rowObj vv' = some x → rowObj tv' ≠ some x) : ChkM b g' o es last ov vs' tr' mo ces ins vv' tv' ∧ Chg o g g' := by
  have hmm := hc.hm
  have hoo := hc.ho
  have chg : Chg o g g' := by
    refine ⟨⟨hn, fun x hx hm => ?_⟩, fun x hx q => ?_, ?_⟩
    · rw [mut_iff hc.get] at hm
      exact hg x hx (fun e => hm (.inl e)) (fun e => hm (.inr (.inr (.inl e)))) fun e => hm (.inr (.inr (.inr e)))
    · rw [mut_iff hc.get]
      rcases (mut_iff ho).1 q with q | q | q | q
      · exact .inl q
      · exact .inr (.inl q)
      · rcases h1 x q with q | q
        · exact .inr (.inr (.inl q))
        · omega
      · rcases h2 x q with q | q
        · exact .inr (.inr (.inr q))
        · omega
    · refine fun w => foot_same w hn (fun x q => ?_) (fun cs mo' q1 q2 => ?_) (fun mo' cs q1 q2 => ?_) fun x q => ?_
      · rw [mut_iff hc.get]
        rcases (mut_iff ho).1 q with q | q | q | q
        · exact .inl (.inl q)
        · exact .inl (.inr (.inl q))
        · exact (h1 x q).imp (fun q => .inr (.inr (.inl q))) fun q => q
        · exact (h2 x q).imp (fun q => .inr (.inr (.inr q))) fun q => q
      · rw [ho] at q1
        rw [← arr_inj q1] at q2
        exact ⟨_, hc.get, q2⟩
      · rw [hc.get] at q1
        rw [← arr_inj q1] at q2
        cases q2
        exact hg mo hmm hc.om (fun q => (hc.voff _ q).2 rfl) fun q => (hc.toff _ q).2 rfl
      · have q' := hc.held_off q
        rw [mut_iff hc.get] at q'
        exact hg x (w.2 x q) (fun e => q' (.inl e)) (fun e => q' (.inr (.inr (.inl e)))) fun e => q' (.inr (.inr (.inr e)))
  refine ⟨⟨ho, hc.bo, by omega, hc.bm, by omega, hc.om, ?_, hv, ht, fun x hx => ?_, fun x hx => ?_, h3, hc.held.chg chg, hc.keys⟩, chg⟩
  · rw [hg mo hmm hc.om (fun q => (hc.voff _ q).2 rfl) fun q => (hc.toff _ q).2 rfl]
    exact hc.map
  · rcases h1 x hx with q | q
    · exact hc.voff x q
    · exact ⟨by omega, by omega⟩
  · rcases h2 x hx with q | q
    · exact hc.toff x q
    · exact ⟨by omega, by omega⟩
theorem ChkM.ext {b : Nat} {h h' : Heap} {o : Nat} {es : List (Int × List Int)} {last : Int} {ov : Bool} {vs tr : List Int} {mo : Nat} {ces : List (Int × V)} {ins : Nat} {vv tv : V} (hc : ChkM b h o es last ov vs tr mo ces ins vv tv) (x : Ext h h') : ChkM b h' o es last ov vs tr mo ces ins vv tv :=
  (chk_next hc x.next (fun y hy _ _ _ => x.get y hy) ((x.get o hc.ho).trans hc.get) (hc.val.ext x) (hc.trl.ext x) (fun _ q => .inl q) (fun _ q => .inl q) hc.two).1
theorem ChkP.ext {b : Nat} {h h' : Heap} {o : Nat} {es : List (Int × List Int)} {last : Int} {ov : Bool} {tr : List Int} (hc : ChkP b h o es last ov tr) (x : Ext h h') : ChkP b h' o es last ov tr :=
  let ⟨vs, mo, ces, ins, vv, tv, h1, h2⟩ := hc
  ⟨vs, mo, ces, ins, vv, tv, h1.ext x, h2⟩
theorem litVar_abs (l : Int) : litVar l = (l.natAbs : Int) := by
  unfold litVar
  split <;> omega

theorem of_ok {b : Nat} {h : Heap} {o : Nat} {es : List (Int × List Int)} {last : Int} {ov : Bool} {tr : List Int} (hc : ChkP b h o es last ov tr) {l : Int} (hl : -1048576 ≤ l ∧ l ≤ 1048576) : EvCall xprog H0 73 [.ptr o 0 0, .int .i32 l] h fun v h' => v = .int .i8 (litVal tr l) ∧ h' = h := by
  refine s_call (fn := xf73) rfl (free _ rfl ..) ?_
  obtain ⟨vs, mo, ces, ins, vv, tv, hm, hg⟩ := hc
  have r4 := readCell (off := 4) hm.get rfl
  have el := hm.val.len
  have er := hm.val.row
  simp only [List.length_map] at el
  have hvar := Var_ok l (by omega) (by omega) h
  rw [litVar_abs] at hvar
  have rv : ∀ (hi : l.natAbs < vs.length), readCells h (objS vv) (genS vv) (offS vv + l.natAbs) 1 = some [.int .i8 (vs[l.natAbs])] := fun hi => hm.val.sl.at (by simp [hi])
  simp -implicitDefEqProofs only [xf73, argsFrom_cons, argsFrom_nil]
  repeat' ((first | refine s_line rfl ?_ | refine s_end rfl ?_ | refine s_seq ?_ | refine s_region ?_ | refine s_block ?_ | refine s_cond ?_ | refine s_ret ?_ | refine s_skip ?_ | refine s_exit ?_ | refine s_if (fun hif => ?_) (fun hif => ?_) | refine condB_dec (fun hif => ?_) (fun hif => ?_) | refine condB_of (fun hif => ?_) (fun hif => ?_) | (refine s_lelt ?_ ?_; omega) | (refine s_lt ?_ ?_; omega) | (refine s_le ?_ ?_; omega) | (refine (evCall_iff hvar).2 ?_)) <;>
    (try simp -implicitDefEqProofs (disch := first | assumption | omega) only [sx, sb, sd, se, xwpStep, xwpOp, xwpInt, opEv, xres, oneOf, Nat.reduceAdd, Nat.reduceEqDiff, Nat.reduceSub, ↓reduceIte, reduceCtorEq, Int.toNat_natCast, *]))
  · rw [hg.none (by omega)]
  · rw [hg.neg (by assumption) (by omega)]
    refine congrArg (V.int .i8) ?_
    unfold litVal
    split
    · decide
    · split <;> decide
  · rw [hg.pos (by omega) (by omega)]

theorem ChkM.reads {b : Nat} {h : Heap} {o : Nat} {es : List (Int × List Int)} {last : Int} {ov : Bool} {vs tr : List Int} {mo : Nat} {ces : List (Int × V)} {ins : Nat} {vv tv : V} (hm : ChkM b h o es last ov vs tr mo ces ins vv tv) : readCells h o 0 4 1 = some [vv] ∧ readCells h o 0 5 1 = some [tv] ∧ rowS vv = true ∧ lenS vv = vs.length ∧ rowS tv = true ∧ lenS tv = tr.length :=
  ⟨readCell (off := 4) hm.get rfl, readCell (off := 5) hm.get rfl, hm.val.row, by rw [hm.val.len, List.length_map], hm.trl.row, by rw [hm.trl.len, List.length_map]⟩

set_option maxHeartbeats 8000000 in
theorem set_ok {b : Nat} {h : Heap} {o : Nat} {es : List (Int × List Int)} {last : Int} {ov : Bool} {tr : List Int} (hc : ChkP b h o es last ov tr) {l : Int} (h0 : l ≠ 0) (hl : -1048576 ≤ l ∧ l ≤ 1048576) (h1 : l ∉ tr) (h2 : -l ∉ tr) (htl : tr.length ≤ 100000000) : EvCall xprog H0 52 [.ptr o 0 0, .int .i32 l] h fun v h' => ChkP b h' o es last ov (tr ++ [l]) ∧ Chg o h h' := by
  refine s_call (fn := xf52) rfl (free _ rfl ..) ?_
  obtain ⟨vs, mo, ces, ins, vv, tv, hm, hg⟩ := hc
  have hvar := Var_ok l (by omega) (by omega) h
  rw [litVar_abs] at hvar
  have hvl := hg.len
  have hbn : b ≤ h.next := Nat.le_trans hm.bo (Nat.le_of_lt hm.ho)
  obtain ⟨r4, r5, q1, q2, q3, q4⟩ := hm.reads
  simp -implicitDefEqProofs only [xf52, argsFrom_cons, argsFrom_nil]
  refine s_cut2 (fun t d g => slotOf t 0 = .ptr o 0 0 ∧ slotOf t 1 = .int .i32 l ∧ slotOf t 4 = .int .i64 (l.natAbs : Nat) ∧ d = [] ∧ Chg o h g ∧ ∃ vs vv, ChkM b g o es last ov vs tr mo ces ins vv tv ∧ Goodly vs tr ∧ l.natAbs < vs.length) ?_ ?_
  · by_cases hcase : vs.length ≤ l.natAbs
    · obtain ⟨v1, g1, e1, k1, k2, k3⟩ := appendZ_tk (z := .int .i8 0) (n := l.natAbs + 1 - vs.length) hm.val hbn rfl (by simp; omega)
      have e2 : asNat (.int .i64 ((l.natAbs : Int) + 1 - vs.length)) = some (l.natAbs + 1 - vs.length) := by
        rw [asNat_int (by omega)]
        congr 1
        omega
      have e3 : Nat.ble (l.natAbs + 1 - vs.length) 140737488355328 = true := Nat.ble_eq_true_of_le (by omega)
      have go1 := (k2.get o hm.ho fun q => (hm.voff o q).1 rfl).trans hm.get
      have kr := k1.row
      repeat' ((first | refine s_line rfl ?_ | refine s_end rfl ?_ | refine s_seq ?_ | refine s_region ?_ | refine s_block ?_ | refine s_cond ?_ | refine s_ret ?_ | refine s_skip ?_ | refine s_exit ?_ | refine s_if (fun hif => ?_) (fun hif => ?_) | refine condB_dec (fun hif => ?_) (fun hif => ?_) | refine condB_of (fun hif => ?_) (fun hif => ?_) | (refine s_lelt ?_ ?_; omega) | (refine s_lt ?_ ?_; omega) | (refine s_le ?_ ?_; omega) | (refine (evCall_iff hvar).2 ?_) | ((refine st_step go1 (by simp) (one_row kr) ?_; intro g2 go2 n2 f2))) <;>
        (try simp -implicitDefEqProofs (disch := first | assumption | omega) only [sx, sb, sd, se, xwpStep, xwpOp, xwpInt, opEv, xres, oneOf, Nat.reduceAdd, Nat.reduceEqDiff, Nat.reduceSub, ↓reduceIte, reduceCtorEq, wrap_i64, Int.toNat_natCast, List.length_cons, List.length_nil, *]))
      · have hv1 : ∀ x, rowObj v1 = some x → rowObj vv = some x ∨ h.next ≤ x := fun x hx => by
          rcases k3 with rfl | e | e
          · exact .inl hx
          · exact .inl (e ▸ hx)
          · rw [hx] at e
            cases e
            exact .inr (Nat.le_refl _)
        have hvo : ∀ x, rowObj v1 = some x → x ≠ o := fun x hx e => by
          have := hm.ho
          rcases hv1 x hx with q | q
          · exact (hm.voff x q).1 e
          · omega
        have hto : ∀ x, rowObj tv = some x → g2.get x = h.get x := fun x hx => (f2 x (hm.toff x hx).1).trans (k2.get x (hm.trl.lt hx).2 fun q => hm.two x q hx)
        obtain ⟨c1, c2⟩ := chk_next (vs' := vs ++ List.replicate (l.natAbs + 1 - vs.length) 0) (tr' := tr) hm (by have := k2.next; omega) (fun x q1 q2 q3 q4 => (f2 x q2).trans (k2.get x q1 q3)) go2 ((k1.frame (by omega) fun x hx => f2 x (hvo x hx)) |> fun q => by simpa using q) (hm.trl.frame (by have := k2.next; omega) hto) hv1 (fun _ q => .inl q) (fun x hx q => (hv1 x hx).elim (fun e => hm.two x e q) fun e => by have := (hm.trl.lt q).2; omega)
        exact ⟨c2, _, _, c1, hg.grow (by omega), by simp; omega⟩
      · exfalso; omega
    · repeat' ((first | refine s_line rfl ?_ | refine s_end rfl ?_ | refine s_seq ?_ | refine s_region ?_ | refine s_block ?_ | refine s_cond ?_ | refine s_ret ?_ | refine s_skip ?_ | refine s_exit ?_ | refine s_if (fun hif => ?_) (fun hif => ?_) | refine condB_dec (fun hif => ?_) (fun hif => ?_) | refine condB_of (fun hif => ?_) (fun hif => ?_) | (refine s_lelt ?_ ?_; omega) | (refine s_lt ?_ ?_; omega) | (refine s_le ?_ ?_; omega) | (refine (evCall_iff hvar).2 ?_)) <;>
        (try simp -implicitDefEqProofs (disch := first | assumption | omega) only [sx, sb, sd, se, xwpStep, xwpOp, xwpInt, opEv, xres, oneOf, Nat.reduceAdd, Nat.reduceEqDiff, Nat.reduceSub, ↓reduceIte, reduceCtorEq, wrap_i64, Int.toNat_natCast, *]))
      · exfalso; omega
      exact ⟨Chg.refl _ _, vs, vv, hm, hg, by omega⟩
  clear r4 r5 q1 q2 hm hg hvl hvar
  rintro t d g ⟨a1, a2, a3, rfl, hch, vs, vv, hm, hg, hlt⟩
  obtain ⟨r4, r5, q1, q2, _, _⟩ := hm.reads
  obtain ⟨g3, w1, w2, w3, w4⟩ := hm.val.write (k := l.natAbs) (y := .int .i8 1) (by simp; exact hlt) rfl
  have go3 := (w3.get o hm.ho fun q => (hm.voff o q).1 rfl).trans hm.get
  have s4 := readCell (off := 4) go3 rfl
  have s5 := readCell (off := 5) go3 rfl
  obtain ⟨g4, w5, w6, w7, w8⟩ := w2.write (k := l.natAbs) (y := .int .i8 (Int.negSucc 0)) (by simp; exact hlt) rfl
  have go4 := (w7.get o (by have := hm.ho; omega) fun q => (hm.voff o q).1 rfl).trans go3
  have u5 := readCell (off := 5) go4 rfl
  refine s_cut2 (fun t d g' => slotOf t 0 = .ptr o 0 0 ∧ slotOf t 1 = .int .i32 l ∧ d = [] ∧ (g.next ≤ g'.next ∧ g'.next ≤ g.next) ∧ (∀ x, x < g.next → rowObj vv ≠ some x → g'.get x = g.get x) ∧ Tk b g' vv ((vs.set l.natAbs (if l < 0 then -1 else 1)).map (.int .i8))) ?_ ?_
  · repeat' ((first | refine s_line rfl ?_ | refine s_end rfl ?_ | refine s_seq ?_ | refine s_region ?_ | refine s_block ?_ | refine s_cond ?_ | refine s_ret ?_ | refine s_skip ?_ | refine s_exit ?_ | refine s_if (fun hif => ?_) (fun hif => ?_) | refine condB_dec (fun hif => ?_) (fun hif => ?_) | refine condB_of (fun hif => ?_) (fun hif => ?_) | (refine s_lelt ?_ ?_; omega) | (refine s_lt ?_ ?_; omega) | (refine s_le ?_ ?_; omega)) <;>
      (try simp -implicitDefEqProofs (disch := first | assumption | omega) only [sx, sb, sd, se, xwpStep, xwpOp, xwpInt, opEv, xres, oneOf, Nat.reduceAdd, Nat.reduceEqDiff, Nat.reduceSub, ↓reduceIte, reduceCtorEq, wrap_i64, Int.toNat_natCast, List.length_cons, List.length_nil, *]))
    · refine ⟨by omega, fun x q1 q2 => (w7.get x (by omega) q2).trans (w3.get x q1 q2), ?_⟩
      have := w6
      rw [List.set_set] at this
      rw [List.map_set]
      exact this
    · refine ⟨by omega, fun x q1 q2 => w3.get x q1 q2, ?_⟩
      rw [List.map_set]
      exact w2
  clear a1 a2 a3 t r4 r5 q1 q2 w1 w2 w3 w4 w5 w6 w7 w8 go3 go4 s4 s5 u5
  rintro t d g5 ⟨a1, a2, rfl, ⟨n5, n5'⟩, f5, k5⟩
  have hoo := hm.ho
  have go5 := (f5 o hoo fun q => (hm.voff o q).1 rfl).trans hm.get
  have s5 := readCell (off := 5) go5 rfl
  have t5 : Tk b g5 tv (tr.map (.int .i32)) := hm.trl.frame (by omega) fun x hx => f5 x (hm.trl.lt hx).2 fun q => hm.two x q hx
  have hbo := hm.bo
  repeat' ((first | refine s_line rfl ?_ | refine s_end rfl ?_ | refine s_seq ?_ | refine s_region ?_ | refine s_block ?_ | refine s_cond ?_ | refine s_ret ?_ | refine s_skip ?_ | refine s_exit ?_ | refine s_if (fun hif => ?_) (fun hif => ?_) | refine condB_dec (fun hif => ?_) (fun hif => ?_) | refine condB_of (fun hif => ?_) (fun hif => ?_) | (refine s_lelt ?_ ?_; omega) | (refine s_lt ?_ ?_; omega) | (refine s_le ?_ ?_; omega) | ((refine x_append_tk (t5.ext (Ext.new ..)) (by simp; omega) (sl_new (get_new ..) (by simp)) rfl (by simp; omega) ?_; rintro tv1 g6 m1 m2 m3; have go6 := (m2.get o (by simp; omega) fun q => (hm.toff o q).1 rfl).trans (((Ext.new ..).get o (by omega)).trans go5); have rt := m1.row)) | ((refine st_step go6 (by simp) (one_row rt) ?_; intro g7 go7 n7 f7))) <;>
    (try simp -implicitDefEqProofs (disch := first | assumption | omega) only [sx, sb, sd, se, xwpStep, xwpOp, xwpInt, opEv, xres, oneOf, Nat.reduceAdd, Nat.reduceEqDiff, Nat.reduceSub, ↓reduceIte, reduceCtorEq, wrap_i64, Int.toNat_natCast, Nat.zero_add, Nat.add_zero, fillV, parts, List.map_cons, List.map_nil, over, List.length_cons, List.length_nil, Nat.beq_refl, Nat.ble, *]))
  have n6 := m2.next
  rw [next_new] at n6 m3
  have ht1 : ∀ x, rowObj tv1 = some x → rowObj tv = some x ∨ g.next ≤ x := fun x hx => by
    rcases m3 with rfl | e | e
    · exact .inl hx
    · exact .inl (e ▸ hx)
    · rw [hx] at e
      cases e
      exact .inr (by omega)
  have hto : ∀ x, rowObj tv1 = some x → x ≠ o := fun x hx e => by
    rcases ht1 x hx with q | q
    · exact (hm.toff x q).1 e
    · omega
  have hget : ∀ x, x < g.next → x ≠ o → rowObj tv ≠ some x → g7.get x = g5.get x := fun x h1 h2 h3 => (f7 x h2).trans ((m2.get x (by simp; omega) h3).trans ((Ext.new ..).get x (by omega)))
  obtain ⟨c1, c2⟩ := chk_next (vs' := vs.set l.natAbs (if l < 0 then -1 else 1)) (tr' := tr ++ [l]) hm (by omega) (fun x q1 q2 q3 q4 => (hget x q1 q2 q4).trans (f5 x q1 q3)) go7 (k5.frame (by omega) fun x hx => hget x (hm.val.lt hx).2 (hm.voff x hx).1 (hm.two x hx)) (by rw [List.map_append]; exact m1.frame (by omega) fun x hx => f7 x (hto x hx)) (fun _ q => .inl q) ht1 (fun x hx q => (ht1 x q).elim (fun e => hm.two x hx e) fun e => by have := (hm.val.lt hx).2; omega)
  exact ⟨⟨_, mo, ces, ins, vv, tv1, c1, hg.set h0 hlt h1 h2⟩, hch.trans c2⟩
end Go.Proofs.Ytmkbnbpblhoekaa
