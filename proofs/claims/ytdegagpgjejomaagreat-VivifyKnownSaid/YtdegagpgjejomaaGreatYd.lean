/- The rules for ranges over functions; and X's executor as a whole. -/
import Derived.Test.YtdegagpgjejomaaGreatYc
namespace Go.Xr
open Go.RowKit
section
variable [RoLim] {P : Program} {rnd : Option Nat} {t : Tr V} {d : List XDef} {h : Heap}

omit [RoLim] in
theorem sr_setAll {μ : Mu} : ∀ {ps : List Nat} {args : List V} {args' : List Value} {t : Tr V} {tmps : Array Value}, SR μ t tmps → VRs μ args args' → (∀ p ∈ ps, p < tmps.size) →
    SR μ (setAll t ps args) ((ps.zip args').foldl (fun tmps (t, a) => tmps.setIfInBounds t a) tmps)
  | [], args, args', t, tmps, hs, _, _ => by
    show SR μ (setAll t [] args) tmps
    have : setAll t [] args = t := by cases args <;> rfl
    rw [this]
    exact hs
  | p :: ps, [], _, t, tmps, hs, hv, _ => by
    cases hv
    exact hs
  | p :: ps, v :: args, _, t, tmps, hs, hv, hp => by
    cases hv with
    | cons h1 h2 =>
      show SR μ (setAll (t.set p v) ps args) _
      refine sr_setAll (t := t.set p v) (tmps := tmps.setIfInBounds p _) ?_ h2 (fun q hq => by rw [Array.size_setIfInBounds]; exact hp q (List.mem_cons_of_mem _ hq))
      exact SR.put (a := { tmps := tmps, defers := [] }) (dst := some p) hs h1 (fun i hi => by cases hi; exact hp p (List.mem_cons_self ..))

omit [RoLim] in
theorem foldl_zip_size : ∀ (l : List (Nat × Value)) (tmps : Array Value), (l.foldl (fun tmps (t, a) => tmps.setIfInBounds t a) tmps).size = tmps.size
  | [], _ => rfl
  | (p, x) :: l, tmps => by
    show (l.foldl (fun tmps (t, a) => tmps.setIfInBounds t a) (tmps.setIfInBounds p x)).size = _
    rw [foldl_zip_size l, Array.size_setIfInBounds]

theorem round_of_code {o : Nat} {args : List V} {jump : Option (Option Nat)} {ps : List Nat} {as bo : XCode} {kk : Nat} {Q : V → Heap → Prop} (hg : h.get o = some (.loop .ready jump t ps as bo kk)) (hlen : args.length = ps.length)
    (hw : CodeWP P as (some o) (setAll t ps args) [] h fun e t1 d1 h1 => e = .normal ∧ d1 = [] ∧ ∃ j1 t0 ps0 as0 bo0 k0, h1.get o = some (.loop .ready j1 t0 ps0 as0 bo0 k0) ∧
      CodeWP P bo (some o) t1 [] (h1.put o (.loop .busy j1 t0 ps0 as0 bo0 k0)) fun e _ _ h2 => ∃ s2 j2 t3 ps3 as3 bo3 k3, h2.get o = some (.loop s2 j2 t3 ps3 as3 bo3 k3) ∧
        Q (.bool (isNorm e)) (h2.put o (.loop (stateOf e) (jumpOf e) t3 ps3 as3 bo3 k3))) : RoundWP P o args h Q := by
  intro K w0 μ w args' l c cs R hv hl
  obtain ⟨l', hl', r, hb, hr⟩ := (R.obj o _ hg).2
  rw [hl] at hl'
  cases hl'
  obtain ⟨n, n1, n2, n3, n4⟩ := hr.code
  have hobj : (getObj l.blk).run P w = .ok (.loop r) w := run_getObj hb (fun _ _ _ q => by cases q)
  have hsz : args'.toArray.size = r.params.size := by
    have e1 := hv.length
    have e2 := congrArg List.length hr.params
    simp only [Array.length_toList] at e2
    simp
    omega
  let tm := (ps.zip args').foldl (fun tmps (t, a) => tmps.setIfInBounds t a) r.tmps
  have hy : (Instr.yield l.blk args'.toArray).run P w = .ok (.round l.blk r.fn tm r.assign r.body) w := by
    have e3 : (r.params.zip args'.toArray).foldl (fun tmps (t, a) => tmps.setIfInBounds t a) r.tmps = tm := by
      rw [← Array.foldl_toList]
      simp only [Array.toList_zip, hr.params]
      rfl
    have e4 : ¬ (args'.length ≠ r.params.size) := fun q => q (by simpa using hsz)
    unfold Instr.yield Instr.getLoop
    simp only [Sem.run_bind, hobj, Result.andThen_ok, Sem.run_pure, List.size_toArray, if_neg e4]
    rw [e3]
  refine ⟨r.fn, tm, r.assign, r.body, hy, ?_⟩
  let b : Frame := { (default : Frame) with fn := r.fn, kind := .normal, roundOf := some l.blk }
  have hfr : Frame.round l.blk r.fn tm r.assign r.body .normal = fat b { tmps := tm, defers := [] } [.code r.assign, .beginRound, .code r.body] := by simp [Frame.round, fat, b]
  rw [hfr]
  have htm : tm.size = r.tmps.size := foldl_zip_size _ _
  have hp : ∀ p ∈ ps, p < r.tmps.size := fun p hp => Nat.lt_of_lt_of_le (n4 p hp) n1
  obtain ⟨e, t1, d1, h1, μ1, a1, w1, ⟨rfl, rfl, j1, t0, ps0, as0, bo0, k0, hg1, hw2⟩, r1, r2⟩ := hw K w0 μ w b { tmps := tm, defers := [] } [.beginRound, .code r.body] (c :: cs) n r.assign n2 (by rw [htm]; exact n1) ⟨l, hl, rfl⟩ R (sr_setAll hr.tmps hv hp) .nil
  -- the round begins
  obtain ⟨l1, hl1, r', hb1, hr1⟩ := (r1.rel.obj o _ hg1).2
  have hl1' := r1.le _ _ _ hl
  rw [hl1'] at hl1
  cases hl1
  have hlt1 := (r1.rel.dom o 0 l hl1').2
  have s1 := fat_beginRound (P := P) (b := b) (a := a1) (k := [.code r.body]) (cs := c :: cs) rfl hb1 hr1.state
  have R1 : Rel P K w0 μ1 (h1.put o (.loop .busy j1 t0 ps0 as0 bo0 k0)) { w1 with heap := w1.heap.setIfInBounds l.blk (.loop { r' with state := .busy }) } := by
    refine r1.rel.turn hg1 rfl (fun q => q) (fun g q => q) (fun g q => q) hl1' ⟨l, hl1', _, set_at hlt1, ⟨rfl, hr1.jump, hr1.tmps, hr1.code, hr1.params, hr1.defers⟩⟩ (fun oi mo ins seen cur kd es ins' e1 e2 e3 => ?_)
    rw [Heap.get_put] at e1 e2
    rcases e3 with rfl | rfl
    · simp at e1
    · simp at e2
  obtain ⟨e, t2, d2, h2, μ2, a2, w2, ⟨s2, j2, t3, ps3, as3, bo3, k3, hg2, q⟩, p1, p2⟩ := hw2 K w0 μ1 _ b a1 [] (c :: cs) n r.body n3 (by rw [r1.size, htm]; exact n1) ⟨l, hl1', rfl⟩ R1 r1.sr r1.dr
  obtain ⟨l2, hl2, r'', hb2, hr2⟩ := (p1.rel.obj o _ hg2).2
  have hl2' := p1.le _ _ _ hl1'
  rw [hl2'] at hl2
  cases hl2
  have hlt2 := (p1.rel.dom o 0 l hl2').2
  have fin : ∀ (todo : List Item) (jmp : Option Code), Ends todo jmp → jumpR (jumpOf e) jmp → (stateOf e = if jmp.isNone then .ready else .done) → (isNorm e = jmp.isNone) →
      Steps P (lone (fat b a1 [.code r.body]) (c :: cs) { w1 with heap := w1.heap.setIfInBounds l.blk (.loop { r' with state := .busy }) }) (lone (fat b a2 todo) (c :: cs) w2) →
      ∃ v h' μ' w' x, Q v h' ∧ Aft P K w0 μ μ' v h' x w' ∧ Steps P (lone (fat b { tmps := tm, defers := [] } [.code r.assign, .beginRound, .code r.body]) (c :: cs) w) (lone (c.finish x) cs w') := by
    intro todo jmp he hj hst hbo hsteps
    have s3 := fat_endRound (P := P) (b := b) (a := a2) (cs := cs) (c := c) rfl rfl hb2 he
    have R2 : Rel P K w0 μ2 (h2.put o (.loop (stateOf e) (jumpOf e) t3 ps3 as3 bo3 k3)) { w2 with heap := w2.heap.setIfInBounds l.blk (.loop { r'' with state := if jmp.isNone then .ready else .done, pending := jmp }) } := by
      refine p1.rel.turn hg2 rfl (fun q => q) (fun g q => q) (fun g q => q) hl2' ⟨l, hl2', _, set_at hlt2, ⟨hst.symm, hj, hr2.tmps, hr2.code, hr2.params, hr2.defers⟩⟩ (fun oi mo ins seen cur kd es ins' e1 e2 e3 => ?_)
      rw [Heap.get_put] at e1 e2
      rcases e3 with rfl | rfl
      · simp at e1
      · simp at e2
    exact ⟨_, _, μ2, _, .bool jmp.isNone, q, ⟨Mu.le_trans r1.le p1.le, R2, by rw [hbo]; exact .bool _⟩, Steps.trans r2 (.head s1 (Steps.trans hsteps (.one s3)))⟩
  cases e with
  | normal => exact fin [] none .nil trivial rfl rfl p2
  | ret =>
    obtain ⟨k0', p2⟩ := p2
    exact fin _ (some .ret) (.ret k0') trivial rfl rfl p2
  | exit id =>
    obtain ⟨k0', p3, p2⟩ := p2
    exact fin _ (some (.exit id)) (.exit id k0' (by rw [p3]; rfl)) rfl rfl rfl p2

theorem code_rangeFunc {f : Opd} {ps : List Nat} {as bo : XCode} {h1 : Heap} {d1 : List XDef} {kk : Nat} {Q : XExit → Tr V → List XDef → Heap → Prop} (hbeg : begunV rnd d h = some (h1, d1, kk))
    (hw : ApplyWP P (rd t f) [.yield h1.next] (h1.push (.loop .ready none t ps as bo kk)) fun _ h2 => ∃ s jump t' ps' as' bo' k', h2.get h1.next = some (.loop s jump t' ps' as' bo' k') ∧ s ≠ .busy ∧
      match jump with
      | none => Q .normal t d1 (h2.put h1.next (.dead false))
      | some none => Q .ret t d1 (h2.put h1.next (.dead false))
      | some (some id) => Q (.exit id) t d1 (h2.put h1.next (.dead false))) : CodeWP P (.rangeFunc f ps as bo) rnd t d h Q := by
  intro K w0 μ w b a k cs n c' hc hn hr R hs hd
  have hx : ∃ f' ps' as' bo', c' = .rangeFunc f' ps' as' bo' ∧ opd f' = some f ∧ ps'.toList = ps ∧ compCode P n as' = some as ∧ compCode P n bo' = some bo ∧ ∀ p ∈ ps, p < n := by
    cases c' <;> simp only [compCode] at hc
    case rangeFunc f' ps' as' bo' =>
      split at hc <;> try (simp at hc; done)
      rename_i f1 as1 bo1 e1 e2 e3
      split at hc <;> simp at hc
      rename_i e4
      obtain ⟨rfl, rfl, rfl, rfl⟩ := hc
      refine ⟨f', ps', as', bo', rfl, e1, rfl, e2, e3, fun p hp => ?_⟩
      rw [List.all_eq_true] at e4
      exact Nat.le_of_ble_eq_true (e4 p hp)
    all_goals (exfalso; (repeat' (split at hc)) <;> first | (simp at hc; done) | (obtain ⟨ls, hls⟩ := compRegion_form hc; cases hls))
  obtain ⟨f', ps', as', bo', rfl, e1, rfl, e2, e3, e4⟩ := hx
  -- the block for deferred calls
  have B : ∃ μ1 w1 mark lk, μ.le μ1 ∧ Rel P K w0 μ1 h1 w1 ∧ DRs μ1 d1 (mark ++ a.defers) ∧ μ1 kk 0 = some lk ∧
      (Instr.enterLoop b.fn a.tmps ps' as' bo' b.roundOf).run P w = .ok (w1.heap.size, mark) (w1.alloc (.loop { state := .ready, pending := none, fn := b.fn, tmps := a.tmps, params := ps', assign := as', body := bo', defers := lk.blk })) := by
    cases rnd with
    | none =>
      simp only [begunV, Option.some.injEq, Prod.mk.injEq] at hbeg
      obtain ⟨rfl, rfl, rfl⟩ := hbeg
      have hro : b.roundOf = none := by cases hb : b.roundOf with | none => rfl | some l => rw [hb] at hr; exact hr.elim
      refine ⟨μ.put h.next 0 ⟨w.heap.size, 0, 0, 1⟩, w.alloc (.deferred (some [])), [{ target := .collected w.heap.size, args := #[] }], ⟨w.heap.size, 0, 0, 1⟩, Mu.le_put _ (R.fresh 0), ?_, ?_, Mu.put_same .., ?_⟩
      · exact R.push (w' := w.alloc (.deferred (some []))) (.deferred false) ⟨w.heap.size, 0, 0, 1⟩ rfl rfl rfl rfl rfl rfl ⟨_, Mu.put_same .., (by show (w.heap.push _)[w.heap.size]? = _; simp)⟩ (fun _ _ _ _ _ _ _ q => by cases q)
      · exact .coll (Mu.put_same ..) (hd.mono (Mu.le_put _ (R.fresh 0)))
      · rw [hro]
        simp only [Instr.enterLoop, Sem.run_bind]
        rfl
    | some o =>
      simp only [begunV] at hbeg
      split at hbeg <;> simp at hbeg
      rename_i s j t0 p0 a0 b0 k0 hg
      obtain ⟨rfl, rfl, rfl⟩ := hbeg
      cases hb : b.roundOf with
      | none => rw [hb] at hr; exact hr.elim
      | some blk =>
        rw [hb] at hr
        obtain ⟨l, hl, rfl⟩ := hr
        obtain ⟨l', hl', r, hbk, hrr⟩ := (R.obj o _ hg).2
        rw [hl] at hl'
        cases hl'
        obtain ⟨lk, hlk, hdef⟩ := hrr.defers
        refine ⟨μ, w, [], lk, Mu.le_refl μ, R, hd, hlk, ?_⟩
        have hobj : (getObj l.blk).run P w = .ok (.loop r) w := run_getObj hbk (fun _ _ _ q => by cases q)
        simp only [Instr.enterLoop, Instr.getLoop, Sem.run_bind, hobj, Result.andThen_ok, Sem.run_pure, hdef]
        rfl
  obtain ⟨μ1, w1, mark, lk, m1, R1, D1, hk1, hrun⟩ := B
  let μ2 := μ1.put h1.next 0 ⟨w1.heap.size, 0, 0, 1⟩
  have m2 : μ1.le μ2 := Mu.le_put _ (R1.fresh 0)
  have R2 : Rel P K w0 μ2 (h1.push (.loop .ready none t ps'.toList as bo kk)) (w1.alloc (.loop { state := .ready, pending := none, fn := b.fn, tmps := a.tmps, params := ps', assign := as', body := bo', defers := lk.blk })) := by
    refine R1.push (w' := w1.alloc _) _ ⟨w1.heap.size, 0, 0, 1⟩ rfl rfl rfl rfl rfl rfl ?_ (fun _ _ _ _ _ _ _ q => by cases q)
    refine ⟨_, Mu.put_same .., { state := .ready, pending := none, fn := b.fn, tmps := a.tmps, params := ps', assign := as', body := bo', defers := lk.blk }, (by show (w1.heap.push _)[w1.heap.size]? = _; simp), ⟨rfl, trivial, (hs.mono m1).mono m2, ⟨n, hn, e2, e3, e4⟩, rfl, ⟨lk, m2 _ _ _ hk1, rfl⟩⟩⟩
  have hfv : VR μ2 (rd t f) (a.eval f') := (opd_VR hs e1).mono (Mu.le_trans m1 m2)
  obtain ⟨nx, fr, q1, q2, v, h2, μ3, w3, x, ⟨s, jump, t', ps2, as2, bo2, k2, hg2, hsb, hQ⟩, r1, r2⟩ := hw K w0 μ2 _ (a.eval f') #[.func (.yield w1.heap.size) #[] #[]] (fat b { a with defers := mark ++ a.defers } (.inRangeFunc w1.heap.size :: k)) cs R2 hfv
    (by
      have : VR μ2 (.yield h1.next) (.func (.yield w1.heap.size) #[] #[]) := VR.yield (l := ⟨w1.heap.size, 0, 0, 1⟩) (Mu.put_same ..)
      exact .cons this .nil)
  have s1 := fat_rangeFunc (P := P) (b := b) (a := a) (k := k) (cs := cs) hrun q1 q2
  rw [finish_rangeFunc] at r2
  obtain ⟨l3, hl3, r, hb3, hr3⟩ := (r1.rel.obj h1.next _ hg2).2
  have hl3' : μ3 h1.next 0 = some ⟨w1.heap.size, 0, 0, 1⟩ := r1.le _ _ _ (Mu.put_same ..)
  rw [hl3'] at hl3
  cases hl3
  have hlt3 := (r1.rel.dom h1.next 0 _ hl3').2
  have s2 := fat_endLoop (P := P) (b := b) (a := { a with defers := mark ++ a.defers }) (k := k) (cs := cs) hb3 (by rw [hr3.state]; exact hsb)
  have R3 : Rel P K w0 μ3 (h2.put h1.next (.dead false)) { w3 with heap := w3.heap.setIfInBounds w1.heap.size (.loop { r with state := .exhausted }) } := by
    refine r1.rel.turn (x1 := .dead false) (obj := .loop { r with state := .exhausted }) hg2 rfl (fun q => q) (fun g q => q.elim) (fun g q => q) hl3' trivial (fun oi mo ins seen cur kd es ins' e1 e2 e3 => ?_)
    rw [Heap.get_put] at e1 e2
    rcases e3 with rfl | rfl
    · simp at e1
    · simp at e2
  have m3 : μ.le μ3 := Mu.le_trans m1 (Mu.le_trans m2 r1.le)
  have E : Env P K w0 μ μ3 t d1 (h2.put h1.next (.dead false)) a.tmps.size { a with defers := mark ++ a.defers } { w3 with heap := w3.heap.setIfInBounds w1.heap.size (.loop { r with state := .exhausted }) } :=
    ⟨m3, R3, hs.mono m3, D1.mono (Mu.le_trans m2 r1.le), rfl⟩
  have hst := Steps.head s1 (Steps.trans r2 (.one s2))
  have hj := hr3.jump
  cases jump with
  | none =>
    cases hp : r.pending with
    | some _ => rw [hp] at hj; exact hj.elim
    | none =>
      rw [show (r.pending.map Item.code).toList ++ k = k by rw [hp]; rfl] at hst
      exact ⟨.normal, t, d1, _, μ3, _, _, hQ, E, hst⟩
  | some j =>
    cases j with
    | none =>
      cases hp : r.pending with
      | none => rw [hp] at hj; exact hj.elim
      | some c =>
        rw [hp] at hj
        cases c <;> simp only [jumpR] at hj
        rw [show (r.pending.map Item.code).toList ++ k = .code .ret :: k by rw [hp]; rfl] at hst
        exact ⟨.ret, t, d1, _, μ3, _, _, hQ, E, k, hst⟩
    | some id =>
      cases hp : r.pending with
      | none => rw [hp] at hj; exact hj.elim
      | some c =>
        rw [hp] at hj
        cases c <;> simp only [jumpR] at hj
        subst hj
        rw [show (r.pending.map Item.code).toList ++ k = .code (.exit id) :: k by rw [hp]; rfl] at hst
        exact ⟨.exit id, t, d1, _, μ3, _, _, hQ, E, k, rfl, hst⟩
end
end Go.Xr
