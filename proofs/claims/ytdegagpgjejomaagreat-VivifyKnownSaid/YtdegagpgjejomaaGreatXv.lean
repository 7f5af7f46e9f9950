/- The machine's steps, in frames of functions and of rounds. -/
import Derived.Test.YtdegagpgjejomaaGreatXu
namespace Go.Xr
open Go.RowKit

def fat (b : Frame) (a : Act) (todo : List Item) : Frame :=
  { fn := b.fn, tmps := a.tmps, todo, defers := a.defers, mode := .run, kind := b.kind, roundOf := b.roundOf }

theorem eval_fat (b : Frame) (a : Act) (todo : List Item) : (fat b a todo).eval = a.eval := by
  funext x; cases x <;> rfl

theorem finish_fat (b : Frame) (a : Act) (ops : Array Oper) (i : Nat) (rest : List Nat) (k : List Item) (v : Value) :
    (fat b a (.inRegion ops (i :: rest) :: k)).finish v = fat b (a.put ((ops[i]?).bind (·.dst)) v) (.inRegion ops rest :: k) := by
  cases h : (ops[i]?).bind (·.dst) <;> simp [Frame.finish, fat, Act.put, h]

section
variable [RoLim] {P : Program} {b : Frame} {a : Act} {k : List Item} {cs : List Frame} {w : World}

omit [RoLim] in
theorem fat_skip : step P (lone (fat b a (.code .skip :: k)) cs w) = .next (lone (fat b a k) cs w) :=
  step_lone_go (by simp [stepG, stepG.exec, fat])
omit [RoLim] in
theorem fat_label {l : Nat} : step P (lone (fat b a (.code (.label l) :: k)) cs w) = .next (lone (fat b a k) cs w) :=
  step_lone_go (by simp [stepG, stepG.exec, fat])
omit [RoLim] in
theorem fat_scope {c : Code} : step P (lone (fat b a (.code (.scope c) :: k)) cs w) = .next (lone (fat b a (.code c :: .inScope c :: k)) cs w) :=
  step_lone_go (by simp [stepG, stepG.exec, fat])
omit [RoLim] in
theorem fat_inScope {c : Code} : step P (lone (fat b a (.inScope c :: k)) cs w) = .next (lone (fat b a k) cs w) :=
  step_lone_go (by simp [stepG, stepG.exec, fat])
omit [RoLim] in
theorem fat_inBlock {id : Nat} : step P (lone (fat b a (.inBlock id :: k)) cs w) = .next (lone (fat b a k) cs w) :=
  step_lone_go (by simp [stepG, stepG.exec, fat])
omit [RoLim] in
theorem fat_seq {x y : Code} : step P (lone (fat b a (.code (.seq x y) :: k)) cs w) = .next (lone (fat b a (.code x :: .code y :: k)) cs w) :=
  step_lone_go (by simp [stepG, stepG.exec, fat])
omit [RoLim] in
theorem fat_cond {c : Operand} {x y : Code} {t : Bool} (h : a.eval c = .bool t) :
    step P (lone (fat b a (.code (.cond c x y) :: k)) cs w) = .next (lone (fat b a (.code (if t then x else y) :: k)) cs w) :=
  step_lone_go (by
    have := eval_fat b a (.code (.cond c x y) :: k)
    simp only [fat] at this
    simp [stepG, stepG.exec, fat, this, h])
omit [RoLim] in
theorem fat_block {id : Nat} {c : Code} : step P (lone (fat b a (.code (.block id c) :: k)) cs w) = .next (lone (fat b a (.code c :: .inBlock id :: k)) cs w) :=
  step_lone_go (by simp [stepG, stepG.exec, fat])
omit [RoLim] in
theorem fat_loop {c : Code} : step P (lone (fat b a (.code (.loop c) :: k)) cs w) = .next (lone (fat b a (.code c :: .inLoop c :: k)) cs w) :=
  step_lone_go (by simp [stepG, stepG.exec, fat])
omit [RoLim] in
theorem fat_inLoop {c : Code} : step P (lone (fat b a (.inLoop c :: k)) cs w) = .next (lone (fat b a (.code c :: .inLoop c :: k)) cs w) :=
  step_lone_go (by simp [stepG, stepG.exec, fat])
omit [RoLim] in
theorem fat_exit {id : Nat} {k' : List Item} (h : exitTo id k = some k') : step P (lone (fat b a (.code (.exit id) :: k)) cs w) = .next (lone (fat b a k') cs w) :=
  step_lone_go (by simp [stepG, stepG.exec, fat, h])
omit [RoLim] in
theorem fat_ret (hb : b.roundOf = none) : step P (lone (fat b a (.code .ret :: k)) cs w) = .next (lone { fat b a (.code .ret :: k) with mode := .returning } cs w) :=
  step_lone_go (by simp [stepG, stepG.exec, fat, hb])
omit [RoLim] in
theorem fat_end (hb : b.roundOf = none) : step P (lone (fat b a []) cs w) = .next (lone { fat b a [] with mode := .returning } cs w) :=
  step_lone_go (by simp [stepG, stepG.exec, fat, hb])
omit [RoLim] in
theorem fat_region {id : Nat} {ops : Array Oper} : step P (lone (fat b a (.code (.region id ops false) :: k)) cs w) = .next (lone (fat b a (.inRegion ops (List.range ops.size) :: k)) cs w) :=
  step_lone_go (by simp [stepG, stepG.exec, fat])
omit [RoLim] in
theorem fat_region_draw {id : Nat} {ops : Array Oper} :
    step P (lone (fat b a (.code (.region id ops true) :: k)) cs w) =
      .next (lone (fat b a (.inRegion ops (Region.schedule (P.follows .mixedOrders) ops (w.tape w.drawn (.order b.fn id))) :: k)) cs { w with drawn := w.drawn + 1 }) :=
  step_lone_go (by simp [stepG, stepG.exec, fat, choose, Sem.run, Question.forced, Question.cut])
omit [RoLim] in
theorem fat_region_end {ops : Array Oper} : step P (lone (fat b a (.inRegion ops [] :: k)) cs w) = .next (lone (fat b a k) cs w) :=
  step_lone_go (by simp [stepG, stepG.exec, fat])

variable {ops : Array Oper}

omit [RoLim] in
theorem fat_op_skip {i : Nat} {rest : List Nat} {o : Oper} (ho : ops[i]? = some o) (h : Region.wanted o (yielded ops a.tmps) = false) :
    step P (lone (fat b a (.inRegion ops (i :: rest) :: k)) cs w) = .next (lone (fat b (a.put o.dst undef) (.inRegion ops rest :: k)) cs w) := by
  have := finish_fat b a ops i rest k undef
  rw [ho] at this
  rw [show (Option.bind (some o) fun x => x.dst) = o.dst from rfl] at this
  rw [← this]
  exact step_lone_go (by simp only [fat] at *; simp [stepG, stepG.exec, ho, h])

omit [RoLim] in
theorem stepG_fat_op {i : Nat} {rest : List Nat} {o : Oper} (ho : ops[i]? = some o) (hw : Region.wanted o (yielded ops a.tmps) = true) (hr : b.roundOf = none ∨ ∀ c, o.op ≠ .defer c) :
    stepG P true { frame := fat b a (.inRegion ops (i :: rest) :: k), callers := cs, status := .running, dying := none } w =
      stepG.apply P true (fat b a (.inRegion ops (i :: rest) :: k)) cs none (execOp a.eval o) w := by
  have he := eval_fat b a (.inRegion ops (i :: rest) :: k)
  simp only [fat] at he
  rcases hr with hr | hr
  · simp [stepG, stepG.exec, stepG.oper, Frame.oper?, fat, ho, hw, hr]
    simp only [hr] at he
    rw [he]
  · simp only [stepG, stepG.exec, stepG.oper, Frame.oper?, fat, ho, hw, Option.map_some, Option.getD_some, if_true]
    rw [he]
    split
    · rename_i l c h1 h2
      exact absurd h2 (hr c)
    · rfl

omit [RoLim] in
theorem fat_op_value {i : Nat} {rest : List Nat} {o : Oper} (ho : ops[i]? = some o) (hw : Region.wanted o (yielded ops a.tmps) = true) (hr : b.roundOf = none ∨ ∀ c, o.op ≠ .defer c) {v : Value} {w' : World} {n : Next} (hx : (execOp a.eval o).run P w = .ok n w')
    (hn : n = .value v ∨ (n = .skip ∧ v = undef)) :
    step P (lone (fat b a (.inRegion ops (i :: rest) :: k)) cs w) = .next (lone (fat b (a.put o.dst v) (.inRegion ops rest :: k)) cs w') := by
  have := finish_fat b a ops i rest k v
  rw [ho] at this
  rw [show (Option.bind (some o) fun x => x.dst) = o.dst from rfl] at this
  rw [← this]
  refine step_lone_go ?_
  rw [stepG_fat_op ho hw hr]
  rcases hn with rfl | ⟨rfl, rfl⟩ <;> simp [stepG.apply, hx]

omit [RoLim] in
theorem fat_op_defer {i : Nat} {rest : List Nat} {o : Oper} (ho : ops[i]? = some o) (hw : Region.wanted o (yielded ops a.tmps) = true) (hr : b.roundOf = none) {d : Deferred} {w' : World} (hx : (execOp a.eval o).run P w = .ok (.defer d) w') :
    step P (lone (fat b a (.inRegion ops (i :: rest) :: k)) cs w) = .next (lone (fat b (({ a with defers := d :: a.defers } : Act).put o.dst undef) (.inRegion ops rest :: k)) cs w') := by
  have := finish_fat b { a with defers := d :: a.defers } ops i rest k undef
  rw [ho] at this
  rw [show (Option.bind (some o) fun x => x.dst) = o.dst from rfl] at this
  rw [← this]
  refine step_lone_go ?_
  rw [stepG_fat_op ho hw (.inl hr)]
  simp [stepG.apply, hx, fat]

/-- A frame that an operation enters. -/
def Entered (P : Program) : Next → Frame → Prop
  | .enter f args, fr => fr = Frame.enter P f args .normal
  | .round l f tmps assign body, fr => fr = Frame.round l f tmps assign body .normal
  | _, _ => False

omit [RoLim] in
theorem fat_op_enter {i : Nat} {rest : List Nat} {o : Oper} (ho : ops[i]? = some o) (hw : Region.wanted o (yielded ops a.tmps) = true) (hr : b.roundOf = none ∨ ∀ c, o.op ≠ .defer c) {n : Next} {fr : Frame} {w' : World}
    (hx : (execOp a.eval o).run P w = .ok n w') (hn : Entered P n fr) :
    step P (lone (fat b a (.inRegion ops (i :: rest) :: k)) cs w) = .next (lone fr (fat b a (.inRegion ops (i :: rest) :: k) :: cs) w') := by
  refine step_lone_go ?_
  rw [stepG_fat_op ho hw hr]
  cases n <;> simp only [Entered] at hn <;> subst hn <;> simp [stepG.apply, hx, fat]

/-! ### Rounds -/
omit [RoLim] in
theorem fat_beginRound {l : Nat} {r : Loop} (hb : b.roundOf = some l) (hl : w.heap[l]? = some (.loop r)) (hs : r.state = .ready) :
    step P (lone (fat b a (.beginRound :: k)) cs w) = .next (lone (fat b a k) cs { w with heap := w.heap.setIfInBounds l (.loop { r with state := .busy }) }) := by
  refine step_lone_go ?_
  have h1 : (getObj l).run P w = .ok (.loop r) w := run_getObj hl (fun _ _ _ q => by cases q)
  have h2 : (setObj l (.loop { r with state := .busy })).run P w = .ok () { w with heap := w.heap.setIfInBounds l (.loop { r with state := .busy }) } := run_setObj hl (fun _ _ _ q => by cases q)
  have h3 : (Instr.beginRound l).run P w = .ok () { w with heap := w.heap.setIfInBounds l (.loop { r with state := .busy }) } := by
    simp only [Sem.run_bind, Instr.beginRound, Instr.getLoop, h1, Result.andThen_ok, Sem.run_pure, h2, hs]
  simp only [stepG, stepG.exec, fat]
  simp [stepG.apply, hb, h3, Frame.finish]

/-- How a round ends. -/
inductive Ends : List Item → Option Code → Prop
  | nil : Ends [] none
  | ret (k : List Item) : Ends (.code .ret :: k) (some .ret)
  | exit (id : Nat) (k : List Item) (h : exitTo id k = none) : Ends (.code (.exit id) :: k) (some (.exit id))

omit [RoLim] in
theorem fat_endRound {l : Nat} {r : Loop} {jump : Option Code} {todo : List Item} {c : Frame} (hb : b.roundOf = some l) (hk : b.kind = .normal) (hl : w.heap[l]? = some (.loop r)) (he : Ends todo jump) :
    step P (lone (fat b a todo) (c :: cs) w) =
      .next (lone (c.finish (.bool jump.isNone)) cs { w with heap := w.heap.setIfInBounds l (.loop { r with state := if jump.isNone then .ready else .done, pending := jump }) }) := by
  refine step_lone_go ?_
  have h1 : (getObj l).run P w = .ok (.loop r) w := run_getObj hl (fun _ _ _ q => by cases q)
  have h2 : (setObj l (.loop { r with state := if jump.isNone then .ready else .done, pending := jump })).run P w = .ok () { w with heap := w.heap.setIfInBounds l (.loop { r with state := if jump.isNone then .ready else .done, pending := jump }) } := run_setObj hl (fun _ _ _ q => by cases q)
  have h3 : (Instr.endRound l jump).run P w = .ok (.bool jump.isNone) { w with heap := w.heap.setIfInBounds l (.loop { r with state := if jump.isNone then .ready else .done, pending := jump }) } := by
    simp only [Sem.run_bind, Instr.endRound, Instr.getLoop, h1, Result.andThen_ok, Sem.run_pure, h2]
  cases he with
  | nil => simp only [stepG, stepG.exec, fat, hb, Sem.runT_eq, h3]; simp [doReturn, hk]
  | ret k => simp only [stepG, stepG.exec, fat, hb, Sem.runT_eq, h3]; simp [doReturn, hk]
  | exit id k h => simp only [stepG, stepG.exec, fat, hb, h, Option.elim_none, Sem.runT_eq, h3]; simp [doReturn, hk]

omit [RoLim] in
theorem fat_endLoop {l : Nat} {r : Loop} (hl : w.heap[l]? = some (.loop r)) (hs : r.state ≠ .busy) :
    step P (lone (fat b a (.endRangeFunc l :: k)) cs w) = .next (lone (fat b a ((r.pending.map Item.code).toList ++ k)) cs { w with heap := w.heap.setIfInBounds l (.loop { r with state := .exhausted }) }) := by
  refine step_lone_go ?_
  have h1 : (getObj l).run P w = .ok (.loop r) w := run_getObj hl (fun _ _ _ q => by cases q)
  have h2 : (setObj l (.loop { r with state := .exhausted })).run P w = .ok () { w with heap := w.heap.setIfInBounds l (.loop { r with state := .exhausted }) } := run_setObj hl (fun _ _ _ q => by cases q)
  have hs' : (r.state == .busy) = false := by cases hr : r.state <;> first | rfl | (exact absurd hr hs)
  have h3 : (Instr.endLoop l).run P w = .ok r.pending { w with heap := w.heap.setIfInBounds l (.loop { r with state := .exhausted }) } := by
    simp only [Sem.run_bind, Instr.endLoop, Instr.getLoop, h1, Result.andThen_ok, Sem.run_pure, hs', Bool.false_eq_true, if_false, h2]
  simp only [stepG, stepG.exec, fat, Sem.runT_eq, h3]
  simp

omit [RoLim] in
theorem fat_rangeFunc {f : Operand} {params : Array Tmp} {as bo : Code} {l : Nat} {mark : List Deferred} {w1 w2 : World} {n : Next} {fr : Frame}
    (h1 : (Instr.enterLoop b.fn a.tmps params as bo b.roundOf).run P w = .ok (l, mark) w1)
    (h2 : (do let d ← Deferred.ofValue (a.eval f) #[.func (.yield l) #[] #[]]; invoke d.target d.args : Sem Next).run P w1 = .ok n w2) (hn : Entered P n fr) :
    step P (lone (fat b a (.code (.rangeFunc f params as bo) :: k)) cs w) = .next (lone fr (fat b { a with defers := mark ++ a.defers } (.inRangeFunc l :: k) :: cs) w2) := by
  refine step_lone_go ?_
  have he := eval_fat b { a with defers := mark ++ a.defers } (.inRangeFunc l :: k)
  have h2' : (do let d ← resolve (fat b { a with defers := mark ++ a.defers } (.inRangeFunc l :: k)).eval { callee := .value f, args := #[.const (.func (.yield l) #[] #[])], argTypes := #[] } 0; invoke d.target d.args : Sem Next).run P w1 = .ok n w2 := by
    rw [he]
    have e1 : (({ a with defers := mark ++ a.defers } : Act).eval f) = a.eval f := by cases f <;> rfl
    simpa [resolve, e1, Act.eval] using h2
  simp only [fat] at h2'
  simp only [stepG, stepG.exec, fat, Sem.runT_eq, h1]
  cases n <;> simp only [Entered] at hn <;> subst hn <;> simp [stepG.apply, h2']

omit [RoLim] in
theorem finish_rangeFunc {l : Nat} {v : Value} : (fat b a (.inRangeFunc l :: k)).finish v = fat b a (.endRangeFunc l :: k) := by simp [Frame.finish, fat]

end
end Go.Xr
