/- The rules for regions, deferred calls and functions, in X's words. -/
import Derived.Test.YtdegagpgjejomaaGreatYb
namespace Go.Xr
open Go.RowKit
section
variable [RoLim] {P : Program} {rnd : Option Nat} {t : Tr V} {d : List XDef} {h : Heap}

theorem StepWP.mono {s : XStep} {Q Q' : V → List XDef → Heap → Prop} (hw : StepWP P s rnd t d h Q) (hq : ∀ v d h, Q v d h → Q' v d h) : StepWP P s rnd t d h Q' := by
  intro K w0 μ w b a k cs ops i rest o n hc ho hr R hn hd
  obtain ⟨v, d', h', μ', ds, x, w', q, r⟩ := hw K w0 μ w b a k cs ops i rest o n hc ho hr R hn hd
  exact ⟨v, d', h', μ', ds, x, w', hq _ _ _ q, r⟩

theorem steps_of_lines {ih : Task → Option Out} (HS : StepsOk P ih) {t2 : Tr V} {d2 : List XDef} {h2 : Heap} : ∀ {ss : List XStep} {t : Tr V} {d : List XDef} {h : Heap},
    runLines ih rnd (ss.map fun s => { step := s, again := [] }) t d h = some (t2, d2, h2) → StepsWP P rnd ss t d h fun t d h => t = t2 ∧ d = d2 ∧ h = h2
  | [], t, d, h, hr => by
    simp only [List.map_nil, runLines, Option.some.injEq, Prod.mk.injEq] at hr
    exact hr
  | s :: ss, t, d, h, hr => by
    simp only [List.map_cons, runLines] at hr
    split at hr <;> try (cases hr; done)
    rename_i v d1 h1 hs
    simp only [stays] at hr
    exact (HS _ _ _ _ _ _ _ _ hs).mono fun v' d' h' ⟨e1, e2, e3⟩ => by subst e1; subst e2; subst e3; exact steps_of_lines HS hr

omit [RoLim] in
theorem reg_of {n : Nat} {ops : Array Oper} {ss : List XStep} (hss : compSteps P n ops ops.toList = some ss) {b : List Nat} (hb : b = (Region.before ops).toList) {l : List Info} (hl : l = infos ops 0 ops.toList ss) {o : List Info} (ho : o = orderFrom b l.length l)
    (h1 : slotsOk b l = true) (h2 : readsOk b l = true) (h3 : pairsOk b o o = true) (h4 : edgesOk ops.size 0 ops.toList = true) (h5 : o.length = l.length) : Reg P n ops b o := by
  obtain ⟨a1, a2, a3, a4⟩ := infos_spec (n := n) (ops := ops) 0 hss (fun i o ho => by simpa using ho)
  rw [← hl] at a1 a2 a3 a4
  obtain ⟨c1, c2⟩ := order_spec (b := b) l.length l a2
  rw [← ho] at c1 c2
  refine ⟨fun I hI => (a1 I (c1 I hI)).2, fun i hi => ?_, pairs_spec h3, fun i hi j hj d hd hx => slots_spec h1 (c1 i hi) (c1 j hj) hd hx, fun r hr hs j hj d hd => reads_spec h2 (c1 r hr) hs (c1 j hj) hd, fun j op hop e he hb' => ?_, fun i j op hop hij => ?_⟩
  · obtain ⟨I, hI, e⟩ := a3 i (Nat.zero_le _) (by simpa using hi)
    exact ⟨I, c2 rfl h5 I hI, e⟩
  · obtain ⟨q1, q2⟩ := edges_spec h4 j op (by simpa using hop) e he hb'
    exact ⟨q1, by simpa using q2, by rw [hb]; exact before_edge hop he hb'⟩
  · rw [hb] at hij ⊢
    exact before_spec hop hij

theorem code_region {ih : Task → Option Out} (HS : StepsOk P ih) (hmix : P.follows .mixedOrders = true) {dr : Bool} {ls : List XLine} {t2 : Tr V} {d2 : List XDef} {h2 : Heap} (hr : runLines ih rnd ls t d h = some (t2, d2, h2)) {Q : XExit → Tr V → List XDef → Heap → Prop} (q : Q .normal t2 d2 h2) :
    CodeWP P (.region dr ls) rnd t d h Q := by
  intro K w0 μ w b a k cs n c' hc hn hrr R hs hd
  have hx : ∃ id ops draw, c' = .region id ops draw ∧ compRegion P n ops draw = some (.region dr ls) := by
    cases c' <;> simp only [compCode] at hc
    case region id ops draw => exact ⟨_, _, _, rfl, hc⟩
    all_goals (exfalso; (repeat' (split at hc)) <;> first | (simp at hc; done))
  obtain ⟨id, ops, draw, rfl, hcr⟩ := hx
  unfold compRegion at hcr
  split at hcr
  · cases hcr
  · rename_i ss hss
    split at hcr
    · -- plain
      simp only [Option.some.injEq, XCode.region.injEq] at hcr
      obtain ⟨rfl, hcr⟩ := hcr
      subst hcr
      have hw := steps_of_lines HS hr
      obtain ⟨t', d', h', μ', a', w', ⟨rfl, rfl, rfl⟩, p2, p3⟩ := steps_run ops.toList ss 0 hss (fun i o ho => by simpa using ho) hw K w0 μ w b a k cs hn hrr R hs hd
      refine ⟨.normal, t', d', h', μ', a', w', q, p2, .head fat_region ?_⟩
      rw [List.range_eq_range']
      simpa using p3
    · simp only at hcr
      split at hcr
      · rename_i hck
        simp only [Option.some.injEq, XCode.region.injEq] at hcr
        obtain ⟨rfl, hcr⟩ := hcr
        simp only [Bool.and_eq_true] at hck
        obtain ⟨⟨⟨⟨k1, k2⟩, k3⟩, k4⟩, k5⟩ := hck
        have G := reg_of hss rfl rfl rfl k1 k2 k3 k4 (Nat.eq_of_beq_eq_true k5)
        subst hcr
        obtain ⟨T, e1, hT⟩ := tra_of_lines (fun I hI => by
          obtain ⟨op, hop⟩ := G.of I hI
          rw [hop.dst]
          exact (compStep_some hop.comp).2.2.1) hr
        have hnone : ∀ i, has (Array.replicate ops.size false) i = false := by
          intro i
          unfold has
          by_cases hi : i < ops.size <;> simp [hi]
        have V0 : Inv P n ops (Region.before ops).toList (orderFrom (Region.before ops).toList (infos ops 0 ops.toList ss).length (infos ops 0 ops.toList ss)) ih rnd t t2 d2 h2 (Array.replicate ops.size false) [] T d h := by
          refine ⟨?_, ?_, hT, ?_, ?_, ?_, ?_⟩
          · simpa using e1
          · simp
          · intro p hp; cases hp
          · intro p _ _; exact hnone _
          · intro j hj; rw [hnone] at hj; cases hj
          · intro A p B e; simp at e
        have hfull : (orderFrom (Region.before ops).toList (infos ops 0 ops.toList ss).length (infos ops 0 ops.toList ss)).length = ops.size := by
          rw [Nat.eq_of_beq_eq_true k5]
          have := (infos_spec (n := n) (ops := ops) 0 hss (fun i o ho => by simpa using ho)).2.2.2
          simpa using this
        have hd0 : doneL (Array.replicate ops.size false) ([] ++ T) = [] := by
          unfold doneL
          rw [List.filter_eq_nil_iff]
          intro p _
          rw [hnone]
          simp
        obtain ⟨μ', a', w', p1, p2⟩ := drawn_go G HS ops.size (w.tape w.drawn (.order b.fn id)) _ [] T d h V0 (by
          rw [List.filter_eq_self.2 (fun I _ => by rw [hnone]; rfl)]
          exact hfull) K w0 μ { w with drawn := w.drawn + 1 } b a k cs hn hrr (R.drawn rfl rfl rfl rfl) (by rw [hd0]; exact hs) hd
        refine ⟨.normal, t2, d2, h2, μ', a', w', q, p1, .head fat_region_draw ?_⟩
        simp only [Region.schedule, hmix, Bool.true_or, if_true]
        exact p2
      · cases hcr

/-- A region that is not drawn goes step by step. -/
theorem code_plain {ss : List XStep} {Q : XExit → Tr V → List XDef → Heap → Prop} (hw : StepsWP P rnd ss t d h fun t d h => Q .normal t d h) : CodeWP P (.region false (ss.map fun s => { step := s, again := [] })) rnd t d h Q := by
  intro K w0 μ w b a k cs n c' hc hn hrr R hs hd
  have hx : ∃ id ops draw, c' = .region id ops draw ∧ compRegion P n ops draw = some (.region false (ss.map fun s => { step := s, again := [] })) := by
    cases c' <;> simp only [compCode] at hc
    case region id ops draw => exact ⟨_, _, _, rfl, hc⟩
    all_goals (exfalso; (repeat' (split at hc)) <;> first | (simp at hc; done))
  obtain ⟨id, ops, draw, rfl, hcr⟩ := hx
  unfold compRegion at hcr
  split at hcr
  · cases hcr
  · rename_i ss' hss
    split at hcr
    · simp only [Option.some.injEq, XCode.region.injEq, true_and] at hcr
      have hinj : ss' = ss := by
        have := congrArg (List.map (·.step)) hcr
        simpa [List.map_map, Function.comp_def] using this
      subst hinj
      obtain ⟨t', d', h', μ', a', w', q, p2, p3⟩ := steps_run ops.toList ss' 0 hss (fun i o ho => by simpa using ho) hw K w0 μ w b a k cs hn hrr R hs hd
      refine ⟨.normal, t', d', h', μ', a', w', q, p2, .head fat_region ?_⟩
      rw [List.range_eq_range']
      simpa using p3
    · simp only at hcr
      split at hcr
      · simp only [Option.some.injEq, XCode.region.injEq] at hcr
        exact absurd hcr.1 (by simp)
      · cases hcr

/-! ### Deferred calls -/
def DefersWP (P : Program) (d : List XDef) (h : Heap) (Q : Heap → Prop) : Prop :=
  ∀ (K : Nat → Prop) (w0 : World) (μ : Mu) (w : World) (fr : Frame) (cs : List Frame), fr.mode = .returning → Rel P K w0 μ h w → DRs μ d fr.defers →
    ∃ h' μ' w', Q h' ∧ μ.le μ' ∧ Rel P K w0 μ' h' w' ∧ Steps P (lone fr cs w) (lone { fr with defers := [] } cs w')

theorem defers_nil {Q : Heap → Prop} (q : Q h) : DefersWP P [] h Q := by
  intro K w0 μ w fr cs hm R hd
  generalize hds : fr.defers = ds at hd
  cases hd
  refine ⟨h, μ, w, q, Mu.le_refl μ, R, ?_⟩
  rw [← hds]
  exact Steps.refl P _

theorem defers_call {f : Nat} {args : List V} {D : List XDef} {Q : Heap → Prop} (hw : CallWP P true f args h fun _ h' => DefersWP P D h' Q) : DefersWP P (.call f args :: D) h Q := by
  intro K w0 μ w fr cs hm R hd
  obtain ⟨fn, f1, f2, f3⟩ := hw
  generalize hds : fr.defers = ds at hd
  cases hd with
  | @call _ _ caps xs _ ds' hargs hr =>
    obtain ⟨v, h1, μ1, w1, fr1, x, q, r1, r2, r3, r4, r5, r6, r7⟩ := f3 K w0 μ w (xs.toList ++ caps.toList) ({ fr with defers := ds' } :: cs) R hargs
    have hinv : (invoke (.fn (.func f) caps) xs).run P w = .ok (.enter f (xs.toList ++ caps.toList).toArray) w := by
      have : xs ++ caps = (xs.toList ++ caps.toList).toArray := by apply Array.ext'; simp
      rw [← this]
      simp [invoke, run_callFunc f1 f2]
    have s1 := step_defer (P := P) (cs := cs) (by rw [hm]; simp) hds rfl hinv
    have s2 := step_going_returned (P := P) (c := { fr with defers := ds' }) (cs := cs) r6 (v := x) ⟨r4, r5, fn, by rw [r3]; exact f1, r7⟩
    have e : ({ { fr with defers := ds' } with mode := settle ({ fr with defers := ds' } : Frame).mode } : Frame) = { fr with defers := ds' } := by
      simp [hm, settle]
    rw [e] at s2
    obtain ⟨h2, μ2, w2, p1, p2, p3, p4⟩ := q K w0 μ1 w1 { fr with defers := ds' } cs hm r1.rel (hr.mono r1.le)
    exact ⟨h2, μ2, w2, p1, Mu.le_trans r1.le p2, p3, .head s1 (Steps.trans r2 (.head s2 p4))⟩

theorem defers_coll {o : Nat} {D : List XDef} {Q : Heap → Prop} (hg : h.get o = some (.deferred false)) (hw : DefersWP P D (h.put o (.deferred true)) Q) : DefersWP P (.collected o :: D) h Q := by
  intro K w0 μ w fr cs hm R hd
  generalize hds : fr.defers = ds at hd
  cases hd with
  | @coll _ l _ ds' hl hr =>
    obtain ⟨l', hl', hb⟩ := (R.obj o _ hg).2
    rw [hl] at hl'
    cases hl'
    have hlt := (R.dom o 0 l hl).2
    have h1 : (getObj l.blk).run P w = .ok (.deferred (some [])) w := run_getObj hb (fun _ _ _ q => by cases q)
    have h2 : (setObj l.blk (.deferred none)).run P w = .ok () { w with heap := w.heap.setIfInBounds l.blk (.deferred none) } := run_setObj hb (fun _ _ _ q => by cases q)
    have h3 : (Instr.takeDeferred l.blk).run P w = .ok [] { w with heap := w.heap.setIfInBounds l.blk (.deferred none) } := by
      simp only [Instr.takeDeferred, Sem.run_bind, h1, Result.andThen_ok, h2, Sem.run_pure]
    have s1 : step P (lone fr cs w) = .next (lone { fr with defers := ds' } cs { w with heap := w.heap.setIfInBounds l.blk (.deferred none) }) := by
      refine step_lone_go ?_
      simp only [stepG, unwind, hm, hds, Sem.runT_eq, h3]
      simp
    have R1 : Rel P K w0 μ (h.put o (.deferred true)) { w with heap := w.heap.setIfInBounds l.blk (.deferred none) } := by
      refine R.turn hg rfl (fun q => q) (fun g q => q) (fun g q => q) hl ⟨l, hl, set_at hlt⟩ (fun oi mo ins seen cur kd es ins' e1 e2 e3 => ?_)
      rw [Heap.get_put] at e1 e2
      rcases e3 with rfl | rfl
      · simp at e1
      · simp at e2
    obtain ⟨h2', μ2, w2, p1, p2, p3, p4⟩ := hw K w0 μ _ { fr with defers := ds' } cs hm R1 hr
    exact ⟨h2', μ2, w2, p1, p2, p3, .head s1 p4⟩

/-! ### Functions -/
omit [RoLim] in
theorem argsFrom_get : ∀ (args : List V) (i : Nat) (t : Tr V) (j : Nat), slotOf (argsFrom t i args) j = if i ≤ j ∧ j < i + args.length then args.getD (j - i) .undef else slotOf t j
  | [], i, t, j => by
    show slotOf t j = _
    rw [if_neg (by simp only [List.length_nil]; omega)]
  | v :: args, i, t, j => by
    show slotOf (argsFrom (t.set i v) (Nat.succ i) args) j = _
    rw [argsFrom_get, slotOf_set]
    simp only [List.length_cons]
    by_cases h1 : j = i
    · subst h1
      rw [if_neg (by omega), if_pos rfl, if_pos (by omega)]
      simp
    · by_cases h2 : Nat.succ i ≤ j ∧ j < Nat.succ i + args.length
      · rw [if_pos h2, if_pos (by omega)]
        have : j - i = (j - Nat.succ i) + 1 := by omega
        rw [this]
        simp
      · rw [if_neg h2, if_neg h1, if_neg (by omega)]

omit [RoLim] in
theorem args_SR {μ : Mu} {args : List V} {args' : List Value} (hv : VRs μ args args') (n : Nat) : SR μ (argsFrom .lf 0 args) (args'.toArray ++ Array.replicate (n - args'.toArray.size) undef) := by
  intro j
  rw [argsFrom_get]
  have hl := hv.length
  by_cases h1 : j < args.length
  · rw [if_pos (by omega)]
    obtain ⟨x, hx, hvx⟩ := hv.get (i := j) (v := args[j]) (List.getElem?_eq_getElem h1)
    have e1 : args.getD (j - 0) .undef = args[j] := by simp [h1]
    rw [e1]
    have hj : j < args'.length := by omega
    have : (args'.toArray ++ Array.replicate (n - args'.toArray.size) undef).getD j undef = x := by
      simp only [Array.getD_eq_getD_getElem?]
      rw [Array.getElem?_append_left (by simpa using hj)]
      simp [hx]
    rw [this]
    exact hvx
  · rw [if_neg (by omega)]
    have e1 : slotOf (Tr.lf : Tr V) j = V.undef := by unfold slotOf; rw [Tr.get_lf]
    rw [e1]
    have : (args'.toArray ++ Array.replicate (n - args'.toArray.size) undef).getD j undef = undef := by
      simp only [Array.getD_eq_getD_getElem?]
      rw [Array.getElem?_append_right (by simp; omega)]
      by_cases h2 : j - args'.toArray.size < n - args'.toArray.size <;> simp [Array.getElem?_replicate]
      all_goals (split <;> rfl)
    rw [this]
    exact VR.undef μ

def resOne (tmps : Array Value) : ResultVar → Sem Value
  | .tmp t => pure (tmps.getD t undef)
  | .cell a t => do loadVar t (← asAddr (tmps.getD a undef))

theorem run_results {μ : Mu} {K : Nat → Prop} {w0 w : World} {tmps : Array Value} (R : Rel P K w0 μ h w) (hs : SR μ t tmps) : ∀ {rs : List ResultVar} {res : List XRes} {vs : List V}, compRes P rs = some res → resultsOf t h res = some vs →
    ∃ xs, VRs μ vs xs ∧ (rs.mapM (resOne tmps)).run P w = .ok xs w
  | [], res, vs, hc, hr => by
    simp [compRes] at hc
    subst hc
    simp [resultsOf] at hr
    subst hr
    exact ⟨[], .nil, by simp⟩
  | .tmp i :: rs, res, vs, hc, hr => by
    simp only [compRes] at hc
    split at hc <;> simp at hc
    rename_i r hcr
    subst hc
    simp only [resultsOf] at hr
    split at hr <;> simp at hr
    rename_i vs' hrr
    subst hr
    obtain ⟨xs, h1, h2⟩ := run_results R hs hcr hrr
    refine ⟨_, .cons (hs i) h1, ?_⟩
    simp only [List.mapM_cons, resOne, Sem.run_bind, Sem.run_pure, Result.andThen_ok, h2]
  | .cell a ty :: rs, res, vs, hc, hr => by
    simp only [compRes] at hc
    split at hc <;> simp at hc
    rename_i g n r hg hn hcr
    subst hc
    simp only [resultsOf] at hr
    split at hr <;> simp at hr
    rename_i v h' vs' he hrr
    subst hr
    obtain ⟨xs, h1, h2⟩ := run_results R hs hcr hrr
    have hx := hs a
    simp only [opEv, rd] at he
    split at he <;> try (simp at he; done)
    rename_i o1 g1 off hp
    rw [hp] at hx
    have hld : ∃ x, VR μ v x ∧ (resOne tmps (.cell a ty)).run P w = .ok x w := by
      show ∃ x, VR μ v x ∧ (do loadVar ty (← asAddr (tmps.getD a undef)) : Sem Value).run P w = .ok x w
      generalize tmps.getD a undef = y at hx
      cases hx with
      | @ptr _ _ _ l hm =>
        split at he <;> simp at he
        · rename_i ws q1
          obtain ⟨rfl, rfl⟩ := he
          obtain ⟨ys, p1, p2, p3, p4⟩ := R.read q1 hm
          refine ⟨.agg ys.toArray, .agg p1, ?_⟩
          have := run_loadCells_read (P := P) p4
          rw [p3] at this
          simp [asAddr, loadVar, run_isAgg hg, run_sizeOf hn, this]
        · rename_i v1 q1
          obtain ⟨rfl, rfl⟩ := he
          obtain ⟨ys, p1, p2, p3, p4⟩ := R.read q1 hm
          cases p1 with
          | @cons _ x _ _ hv hr =>
            cases hr
            refine ⟨x, hv, ?_⟩
            have := p4 0 x rfl
            simp only [Nat.add_zero] at this
            simp [asAddr, loadVar, run_isAgg hg, this]
    obtain ⟨x, q1, q2⟩ := hld
    refine ⟨x :: xs, .cons q1 h1, ?_⟩
    simp only [List.mapM_cons]
    rw [Sem.run_bind, q2]
    simp [h2]

omit [RoLim] in
theorem VRs.one {μ : Mu} {vs : List V} {xs : List Value} (hv : VRs μ vs xs) : VR μ (oneOf vs) (if h : xs.toArray.size = 1 then xs.toArray[0] else .tuple xs.toArray) := by
  cases hv with
  | nil => exact .tup .nil
  | cons h1 h2 =>
    cases h2 with
    | nil => exact h1
    | cons h2 h3 => exact .tup (.cons h1 (.cons h2 h3))

theorem call_of_code {dk : Bool} {f : Nat} {fn : Func} {xf : XFunc} {args : List V} {Q : V → Heap → Prop} (hf : P.funcs[f]? = some fn) (hname : fn.name ≠ "runtime.NumGoroutine") (hc : compFunc P fn = some xf)
    (hw : CodeWP P xf.code none (argsFrom .lf 0 args) [] h fun e t d h' => (∀ id, e ≠ .exit id) ∧ DefersWP P d h' fun h'' => ∃ vs, resultsOf t h'' xf.results = some vs ∧ Q (oneOf vs) h'') : CallWP P dk f args h Q := by
  unfold compFunc at hc
  split at hc
  · cases hc
  · rename_i c hb
    split at hc <;> simp at hc
    rename_i code res hcode hres
    subst hc
    refine ⟨fn, hf, ⟨hname, by rw [hb]; rfl⟩, fun K w0 μ w args' cs R hv => ?_⟩
    let b : Frame := { (default : Frame) with fn := f, kind := kindOf dk }
    let a : Act := { tmps := args'.toArray ++ Array.replicate (fn.ntmps - args'.toArray.size) undef, defers := [] }
    have henter : Frame.enter P f args'.toArray (kindOf dk) = fat b a [.code c] := by
      simp [Frame.enter, fat, hf, hb, b, a]
      rfl
    have hn : fn.ntmps ≤ a.tmps.size := by simp [a]; omega
    obtain ⟨e, t1, d1, h1, μ1, a1, w1, ⟨q1, q2⟩, r1, r2⟩ := hw K w0 μ w b a [] cs fn.ntmps c hcode hn trivial R (args_SR hv fn.ntmps) .nil
    have key : ∃ todo, Steps P (lone (Frame.enter P f args'.toArray (kindOf dk)) cs w) (lone { fat b a1 todo with mode := .returning } cs w1) := by
      rw [henter]
      cases e with
      | normal => exact ⟨[], Steps.trans r2 (.one (fat_end rfl))⟩
      | exit id => exact absurd rfl (q1 id)
      | ret => obtain ⟨k0, r2⟩ := r2; exact ⟨_, Steps.trans r2 (.one (fat_ret rfl))⟩
    obtain ⟨todo, hst⟩ := key
    obtain ⟨h2, μ2, w2, ⟨vs, hvs, q⟩, p2, p3, p4⟩ := q2 K w0 μ1 w1 { fat b a1 todo with mode := .returning } cs rfl r1.rel r1.dr
    obtain ⟨xs, hxs, hrun⟩ := run_results (P := P) p3 (r1.sr.mono p2) hres hvs
    refine ⟨oneOf vs, h2, μ2, w2, _, _, q, ⟨Mu.le_trans r1.le p2, p3, hxs.one⟩, Steps.trans hst p4, rfl, rfl, rfl, rfl, ?_⟩
    have e1 : (fn.results.mapM (resOne a1.tmps)).run P w2 = .ok xs.toArray w2 := by
      rw [Array.mapM_eq_mapM_toList]
      simp only [Sem.run_map, hrun]
      rfl
    show (do let vs ← fn.results.mapM (resOne a1.tmps); pure (if h : vs.size = 1 then vs[0] else .tuple vs) : Sem Value).run P w2 = _
    rw [Sem.run_bind, e1]
    rfl
end
end Go.Xr
