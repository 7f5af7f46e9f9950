/- X's operations are the machine's: comparisons, fields, indexes, bounds. -/
import Derived.Test.YtdegagpgjejomaaGreatXg
namespace Go.Xr
open Go.RowKit
section
variable [RoLim] {P : Program} {K : Nat → Prop} {w0 : World} {μ μ' : Mu} {h h' : Heap} {w w' : World} {ρ : Rd} {ρ' : Operand → Value}

omit [RoLim] in
theorem clsOf_some {t : TypeId} {c : Cls} (hc : clsOf P t = some c) : ∃ d, P.underlying t = some d ∧ (match c with
    | .num => ∃ k, d = .int k
    | .bool => d = .bool
    | .str => d = .string
    | .ptr => ∃ e, d = .pointer e
    | .slice => ∃ e, d = .slice e
    | .map => ∃ k e, d = .map k e
    | .func => ∃ a b c, d = .func a b c
    | .iface => ∃ m, d = .interface m) := by
  unfold clsOf at hc
  split at hc <;> try (cases hc; done)
  all_goals (rename_i hd; injection hc with hc; subst hc; exact ⟨_, hd, by simp⟩)

omit [RoLim] in
theorem run_eqGuard_num {op : BinOp} {t : TypeId} {x y : Operand} {k k' : IntKind} {a b : Int} : (eqGuard op t x y (.int k a) (.int k' b)).run P w = .ok () w := by
  unfold eqGuard
  split <;> simp

theorem op_bin_num (R : Rel P K w0 μ h w) {op : BinOp} {t u : TypeId} {x' y' : Operand} {k k' : IntKind} {a b : Int} {v : V} {r : Value} (hx : ρ' x' = .int k a) (hy : ρ' y' = .int k' b)
    (hb : binOp op t (.int k a) (.int k' b) = .pure r) (hv : VR μ v r) {o : Oper} (ho : o.op = .binOp op t x' y' u) : Res P K w0 μ ((execOp ρ' o).run P w) v h :=
  Res.same (by simp [execOp, ho, hx, hy, run_eqGuard_num, hb]) R hv

theorem op_bin_str (R : Rel P K w0 μ h w) {op : BinOp} {t u : TypeId} {x' y' : Operand} {a b : ByteArray} {v : V} {r : Value} (hx : ρ' x' = .string a) (hy : ρ' y' = .string b)
    (hb : binOp op t (.string a) (.string b) = .pure r) (hv : VR μ v r) {o : Oper} (ho : o.op = .binOp op t x' y' u) : Res P K w0 μ ((execOp ρ' o).run P w) v h := by
  refine Res.same (x := r) ?_ R hv
  have hg : (eqGuard op t x' y' (.string a) (.string b)).run P w = .ok () w := by unfold eqGuard; split <;> simp
  simp [execOp, ho, hx, hy, hg, hb]

omit [RoLim] in
theorem eqIn_bool {d : Nat} {t : TypeId} (ht : P.underlying t = some .bool) (a b : Bool) : (Op.equalIn (d + 1) t (.bool a) (.bool b)).run P w = .ok (a == b) w := by
  simp [Op.equalIn, run_und ht]

omit [RoLim] in
theorem run_eq_bool {t : TypeId} (ht : P.underlying t = some .bool) (a b : Bool) : (Op.equal t (.bool a) (.bool b)).run P w = .ok (a == b) w := eqIn_bool (d := 9999) ht a b

omit [RoLim] in
theorem run_binOp_eql {t : TypeId} {x y : Value} {a : Bool} (h1 : binOp .eql t x y = do pure (.bool (← Op.equal t x y))) (h2 : (Op.equal t x y).run P w = .ok a w) : (binOp .eql t x y).run P w = .ok (.bool a) w := by
  rw [h1, Sem.run_bind, h2]; rfl

omit [RoLim] in
theorem run_binOp_neq {t : TypeId} {x y : Value} {a : Bool} (h1 : binOp .neq t x y = do pure (.bool (!(← Op.equal t x y)))) (h2 : (Op.equal t x y).run P w = .ok a w) : (binOp .neq t x y).run P w = .ok (.bool !a) w := by
  rw [h1, Sem.run_bind, h2]; rfl

omit [RoLim] in
theorem exec_bin {op : BinOp} {t u : TypeId} {xo yo : Operand} {o : Oper} (ho : o.op = .binOp op t xo yo u) {r : Value} (hg : (eqGuard op t xo yo (ρ' xo) (ρ' yo)).run P w = .ok () w) (hb : (binOp op t (ρ' xo) (ρ' yo)).run P w = .ok r w) :
    (execOp ρ' o).run P w = .ok (.value r) w := by
  unfold execOp
  rw [ho]
  simp only [Sem.run_bind, hg, Result.andThen_ok, hb]
  rfl

theorem op_bin_bool (R : Rel P K w0 μ h w) {t u : TypeId} {x' y' : Operand} {a b : Bool} (ht : P.underlying t = some .bool) (hx : ρ' x' = .bool a) (hy : ρ' y' = .bool b) {o : Oper} :
    (o.op = .binOp .eql t x' y' u → Res P K w0 μ ((execOp ρ' o).run P w) (.bool (a == b)) h) ∧ (o.op = .binOp .neq t x' y' u → Res P K w0 μ ((execOp ρ' o).run P w) (.bool (a != b)) h) := by
  refine ⟨fun ho => Res.same (x := .bool (a == b)) ?_ R (.bool _), fun ho => Res.same (x := .bool (a != b)) ?_ R (.bool _)⟩
  · refine exec_bin ho ?_ ?_
    · rw [hx, hy]; rfl
    · rw [hx, hy]; exact run_binOp_eql rfl (run_eq_bool ht a b)
  · refine exec_bin ho ?_ ?_
    · rw [hx, hy]; rfl
    · rw [hx, hy]
      have := run_binOp_neq (P := P) (w := w) (t := t) (x := .bool a) (y := .bool b) rfl (run_eq_bool ht a b)
      rw [this]
      cases a <;> cases b <;> rfl

/-- What a nil, or what is none, is at the machine. -/
def NilVal : Cls → Value → Bool → Prop
  | .ptr, x, a => (a = true ∧ x = .pointer none) ∨ (a = false ∧ ∃ p, x = .pointer (some p))
  | .slice, x, a => (a = true ∧ x = .slice none 0 0) ∨ (a = false ∧ ∃ p n m, x = .slice (some p) n m)
  | .map, x, a => (a = true ∧ x = .map none) ∨ (a = false ∧ ∃ p, x = .map (some p))
  | .func, x, a => (a = true ∧ x = .nilFunc) ∨ (a = false ∧ ∃ f p q, x = .func f p q)
  | .iface, x, a => (a = true ∧ x = .nilIface) ∨ (a = false ∧ ∃ t v, x = .iface t v)
  | _, _, _ => False

omit [RoLim] in
theorem nilVal {c : Cls} {x : V} {x' : Value} (hx : VR μ x x') {a : Bool} (ha : nilOf c x = some a) : NilVal c x' a := by
  unfold nilOf at ha
  split at ha <;> try (cases ha; done)
  all_goals
    injection ha with ha
    subst ha
    cases hx
    first
      | exact .inl ⟨rfl, rfl⟩
      | exact .inr ⟨rfl, _, rfl⟩
      | exact .inr ⟨rfl, _, _, rfl⟩
      | exact .inr ⟨rfl, _, _, _, rfl⟩
      | skip
  all_goals exact .inr ⟨rfl, _, _, _, rfl⟩

omit [RoLim] in
theorem eqIn_nil {n : Nat} {t : TypeId} {c : Cls} (hc : clsOf P t = some c) {x' y' : Value} {a b : Bool} (hx : NilVal c x' a) (hy : NilVal c y' b) (hab : a = true ∨ b = true) :
    (Op.equalIn (n + 1) t x' y').run P w = .ok (a && b) w := by
  obtain ⟨d, hd, hk⟩ := clsOf_some hc
  cases c <;> simp only [NilVal] at hx hy
  · obtain ⟨e, rfl⟩ := hk
    rcases hx with ⟨rfl, rfl⟩ | ⟨rfl, p, rfl⟩ <;> rcases hy with ⟨rfl, rfl⟩ | ⟨rfl, q, rfl⟩ <;> first | (simp at hab; done) | simp [Op.equalIn, run_und hd]
  · obtain ⟨e, rfl⟩ := hk
    rcases hx with ⟨rfl, rfl⟩ | ⟨rfl, p, n, m, rfl⟩ <;> rcases hy with ⟨rfl, rfl⟩ | ⟨rfl, q, n', m', rfl⟩ <;> first | (simp at hab; done) | simp [Op.equalIn, run_und hd]
  · obtain ⟨k, e, rfl⟩ := hk
    rcases hx with ⟨rfl, rfl⟩ | ⟨rfl, p, rfl⟩ <;> rcases hy with ⟨rfl, rfl⟩ | ⟨rfl, q, rfl⟩ <;> first | (simp at hab; done) | simp [Op.equalIn, run_und hd]
  · obtain ⟨k, e, f, rfl⟩ := hk
    rcases hx with ⟨rfl, rfl⟩ | ⟨rfl, f, p, q, rfl⟩ <;> rcases hy with ⟨rfl, rfl⟩ | ⟨rfl, f', p', q', rfl⟩ <;> first | (simp at hab; done) | simp [Op.equalIn, run_und hd]
  · obtain ⟨m, rfl⟩ := hk
    rcases hx with ⟨rfl, rfl⟩ | ⟨rfl, p, n, rfl⟩ <;> rcases hy with ⟨rfl, rfl⟩ | ⟨rfl, q, n', rfl⟩ <;> first | (simp at hab; done) | simp [Op.equalIn, run_und hd]

omit [RoLim] in
theorem run_equal_nil {t : TypeId} {c : Cls} (hc : clsOf P t = some c) {x' y' : Value} {a b : Bool} (hx : NilVal c x' a) (hy : NilVal c y' b) (hab : a = true ∨ b = true) :
    (Op.equal t x' y').run P w = .ok (a && b) w := eqIn_nil (n := 9999) hc hx hy hab

omit [RoLim] in
theorem run_eqGuard_nil {op : BinOp} {t : TypeId} {c : Cls} {xo yo : Operand} {x' y' : Value} {a b : Bool} (hx : NilVal c x' a) (hy : NilVal c y' b)
    (hi : c = .iface → (isConst xo || isConst yo) = true) : (eqGuard op t xo yo x' y').run P w = .ok () w := by
  cases c <;> simp only [NilVal] at hx hy
  · rcases hx with ⟨rfl, rfl⟩ | ⟨rfl, p, rfl⟩ <;> cases op <;> rfl
  · rcases hx with ⟨rfl, rfl⟩ | ⟨rfl, p, n, m, rfl⟩ <;> cases op <;> rfl
  · rcases hx with ⟨rfl, rfl⟩ | ⟨rfl, p, rfl⟩ <;> cases op <;> rfl
  · rcases hx with ⟨rfl, rfl⟩ | ⟨rfl, f, p, q, rfl⟩ <;> cases op <;> rfl
  · have := hi rfl
    rcases hx with ⟨rfl, rfl⟩ | ⟨rfl, p, n, rfl⟩ <;> rcases hy with ⟨rfl, rfl⟩ | ⟨rfl, q, n', rfl⟩ <;> cases op <;> first
      | rfl
      | (cases xo <;> cases yo <;> first | rfl | (simp [isConst] at this))

omit [RoLim] in
theorem binOp_nil {op : BinOp} {t : TypeId} {c : Cls} {x' y' : Value} {a b : Bool} (hx : NilVal c x' a) (hy : NilVal c y' b) :
    (op = .eql → binOp op t x' y' = do pure (.bool (← Op.equal t x' y'))) ∧ (op = .neq → binOp op t x' y' = do pure (.bool (!(← Op.equal t x' y')))) := by
  cases c <;> simp only [NilVal] at hx hy
  · rcases hx with ⟨rfl, rfl⟩ | ⟨rfl, p, rfl⟩ <;> rcases hy with ⟨rfl, rfl⟩ | ⟨rfl, q, rfl⟩ <;> exact ⟨fun e => by subst e; rfl, fun e => by subst e; rfl⟩
  · rcases hx with ⟨rfl, rfl⟩ | ⟨rfl, p, n, m, rfl⟩ <;> rcases hy with ⟨rfl, rfl⟩ | ⟨rfl, q, n', m', rfl⟩ <;> exact ⟨fun e => by subst e; rfl, fun e => by subst e; rfl⟩
  · rcases hx with ⟨rfl, rfl⟩ | ⟨rfl, p, rfl⟩ <;> rcases hy with ⟨rfl, rfl⟩ | ⟨rfl, q, rfl⟩ <;> exact ⟨fun e => by subst e; rfl, fun e => by subst e; rfl⟩
  · rcases hx with ⟨rfl, rfl⟩ | ⟨rfl, f, p, q, rfl⟩ <;> rcases hy with ⟨rfl, rfl⟩ | ⟨rfl, f', p', q', rfl⟩ <;> exact ⟨fun e => by subst e; rfl, fun e => by subst e; rfl⟩
  · rcases hx with ⟨rfl, rfl⟩ | ⟨rfl, p, n, rfl⟩ <;> rcases hy with ⟨rfl, rfl⟩ | ⟨rfl, q, n', rfl⟩ <;> exact ⟨fun e => by subst e; rfl, fun e => by subst e; rfl⟩

theorem op_bin_nil (R : Rel P K w0 μ h w) {op : BinOp} {t u : TypeId} {c : Cls} (hc : clsOf P t = some c) {x y : V} {xo yo : Operand} (hx : VR μ x (ρ' xo)) (hy : VR μ y (ρ' yo)) {a b : Bool} (ha : nilOf c x = some a) (hb : nilOf c y = some b)
    (hab : a = true ∨ b = true) (hi : c = .iface → (isConst xo || isConst yo) = true) {o : Oper} (ho : o.op = .binOp op t xo yo u) :
    (op = .eql → Res P K w0 μ ((execOp ρ' o).run P w) (.bool (a && b)) h) ∧ (op = .neq → Res P K w0 μ ((execOp ρ' o).run P w) (.bool !(a && b)) h) := by
  have hx := nilVal hx ha
  have hy := nilVal hy hb
  have hg := run_eqGuard_nil (P := P) (w := w) (op := op) (t := t) hx hy hi
  have he := run_equal_nil (w := w) hc hx hy hab
  have hbin := binOp_nil (op := op) (t := t) hx hy
  refine ⟨fun e => Res.same (x := .bool (a && b)) ?_ R (.bool _), fun e => Res.same (x := .bool !(a && b)) ?_ R (.bool _)⟩
  · subst e; exact exec_bin ho hg (run_binOp_eql (hbin.1 rfl) he)
  · subst e; exact exec_bin ho hg (run_binOp_neq (hbin.2 rfl) he)

theorem op_nilCmp (R : Rel P K w0 μ h w) {op : BinOp} {t u : TypeId} {c : Cls} (hc : clsOf P t = some c) {x y : V} {xo yo : Operand} (hx : VR μ x (ρ' xo)) (hy : VR μ y (ρ' yo))
    (hi : c = .iface → (isConst xo || isConst yo) = true) {v : V} (hv : nilCmp op c x y = some v) {o : Oper} (ho : o.op = .binOp op t xo yo u) : Res P K w0 μ ((execOp ρ' o).run P w) v h := by
  unfold nilCmp at hv
  split at hv <;> try (cases hv; done)
  all_goals (injection hv with hv; subst hv; rename_i h1 h2)
  · simpa using (op_bin_nil R hc hx hy h1 h2 (.inl rfl) hi ho).1 rfl
  · simpa using (op_bin_nil R hc hx hy h1 h2 (.inl rfl) hi ho).2 rfl
  · simpa using (op_bin_nil R hc hx hy h1 h2 (.inr rfl) hi ho).1 rfl
  · simpa using (op_bin_nil R hc hx hy h1 h2 (.inr rfl) hi ho).2 rfl

/-- Comparisons and arithmetic. -/
theorem op_bin (R : Rel P K w0 μ h w) {op : BinOp} {t u : TypeId} {c : Cls} (hc : clsOf P t = some c) {x y : V} {xo yo : Operand} (hx : VR μ x (ρ' xo)) (hy : VR μ y (ρ' yo))
    (hi : c = .iface → (isConst xo || isConst yo) = true) {v : V} (hv : binV op t c x y = some v) {o : Oper} (ho : o.op = .binOp op t xo yo u) : Res P K w0 μ ((execOp ρ' o).run P w) v h := by
  unfold binV at hv
  split at hv
  · unfold intBin at hv
    split at hv <;> try (cases hv; done)
    generalize hx' : ρ' xo = x' at hx; generalize hy' : ρ' yo = y' at hy
    cases hx; cases hy
    split at hv <;> try (cases hv; done)
    · rename_i hb; injection hv with hv; subst hv; exact op_bin_num R hx' hy' hb (.int ..) ho
    · rename_i hb; injection hv with hv; subst hv; exact op_bin_num R hx' hy' hb (.bool ..) ho
  · unfold boolBin at hv
    split at hv <;> try (cases hv; done)
    generalize hx' : ρ' xo = x' at hx; generalize hy' : ρ' yo = y' at hy
    cases hx; cases hy
    split at hv <;> try (cases hv; done)
    all_goals
      injection hv with hv; subst hv
      obtain ⟨d, hd, hk⟩ := clsOf_some hc
      simp only at hk
      subst hk
    · exact (op_bin_bool R hd hx' hy').1 ho
    · exact (op_bin_bool R hd hx' hy').2 ho
  · unfold strBin at hv
    split at hv <;> try (cases hv; done)
    generalize hx' : ρ' xo = x' at hx; generalize hy' : ρ' yo = y' at hy
    cases hx; cases hy
    split at hv <;> try (cases hv; done)
    · rename_i hb; injection hv with hv; subst hv; exact op_bin_str R hx' hy' hb (.str ..) ho
    · rename_i hb; injection hv with hv; subst hv; exact op_bin_str R hx' hy' hb (.bool ..) ho
  · exact op_nilCmp R hc hx hy hi hv ho

theorem op_un (R : Rel P K w0 μ h w) {op : UnOp} {t : TypeId} {x : V} {xo : Operand} (hx : VR μ x (ρ' xo)) {v : V} (hv : unV op x = some v) {o : Oper} (ho : o.op = .unOp op t xo) : Res P K w0 μ ((execOp ρ' o).run P w) v h := by
  unfold unV at hv
  generalize hx' : ρ' xo = x' at hx
  split at hv <;> try (cases hv; done)
  · cases hx
    split at hv <;> try (cases hv; done)
    rename_i hu
    injection hv with hv; subst hv
    exact Res.same (by simp [execOp, ho, hx', hu]) R (.int ..)
  · cases hx
    split at hv <;> try (cases hv; done)
    injection hv with hv; subst hv
    exact Res.same (by simp [execOp, ho, hx', Op.unary]) R (.bool ..)

theorem op_mkif (R : Rel P K w0 μ h w) {t : TypeId} {d : TypeDesc} (hd : P.underlying t = some d) (hn : ∀ m, d ≠ .interface m) {x : V} {xo : Operand} (hx : VR μ x (ρ' xo)) {o : Oper} (ho : o.op = .makeInterface t xo) :
    Res P K w0 μ ((execOp ρ' o).run P w) (.iface t x) h := by
  refine Res.same (x := .iface t (ρ' xo)) ?_ R (.iface hx)
  cases d <;> first | (exact absurd rfl (hn _)) | simp [execOp, ho, Instr.makeInterface, run_und hd]

theorem op_mkmap (R : Rel P K w0 μ h w) {t : TypeId} {r : Option Operand} {kd : IntKind} {e : TypeId} (hm : mapOf P t = some (kd, e)) (hr : r = none ∨ ∃ k n, r = some (.const (.int k n))) (hρ : ∀ v, ρ' (.const v) = v) {o : Oper} (ho : o.op = .makeMap t r) :
    Res P K w0 μ ((execOp ρ' o).run P w) (.map h.next) (h.push (.map kd [] 0)) := by
  obtain ⟨k, hk, _⟩ := mapOf_some hm
  refine ⟨_, _, w.alloc (.map #[] 0), _, ?_, .inl rfl, Mu.le_put ⟨w.heap.size, 0, 0, 1⟩ (R.fresh 0), R.push (w' := w.alloc (.map #[] 0)) (.map kd [] 0) ⟨w.heap.size, 0, 0, 1⟩ rfl rfl rfl rfl rfl rfl ?_ (fun _ _ _ _ _ _ _ q => by cases q), VR.map (Mu.put_same ..)⟩
  · rcases hr with rfl | ⟨k', n, rfl⟩
    · unfold execOp; rw [ho]; rfl
    · unfold execOp; rw [ho]
      simp only [Option.map_some, hρ, Instr.makeMap, Sem.run_bind, run_und hk, Result.andThen_ok, asInt, asIntOf]
      rfl
  · refine ⟨_, #[], 0, Mu.put_same .., (by show (w.heap.push (Obj.map #[] 0))[w.heap.size]? = _; simp), ?_⟩
    exact ⟨by simp, fun n v q => by simp [hasKey] at q, rfl, by simp, by simp, by simp, by simp, by simp⟩

theorem op_faddr (R : Rel P K w0 μ h w) {s : TypeId} {fs : Array Field} {f : Nat} {fd : Field} {n : Nat} (hs : P.underlying s = some (.struct fs)) (hf : fs[f]? = some fd) (hn : sizOf P fd.type = some (n + 1)) {o1 g1 off : Nat} {xo : Operand}
    (hx : VR μ (.ptr o1 g1 off) (ρ' xo)) {o : Oper} (ho : o.op = .fieldAddr s xo f) : Res P K w0 μ ((execOp ρ' o).run P w) (.ptr o1 g1 (off + fd.offset)) h := by
  generalize hx' : ρ' xo = x' at hx
  cases hx with
  | @ptr _ _ _ l hm =>
    refine Res.same (x := .pointer (some ⟨l.blk, l.base + (off + fd.offset), none⟩)) ?_ R (.ptr hm)
    simp [execOp, ho, hx', Instr.fieldAt, run_und hs, hf, Instr.sureAddr, fieldPlace, run_sizeOf hn, addr_add, Nat.add_assoc]

omit [RoLim] in
theorem run_part {t : TypeId} {g : Bool} {n off : Nat} {cs : List V} {cs' : List Value} (hg : aggOf P t = some g) (hn : sizOf P t = some n) (hcs : VRs μ cs cs') {v : V}
    (hv : (g = true → off + n ≤ cs.length ∧ v = .agg ((cs.drop off).take n)) ∧ (g = false → (cs.drop off).take 1 = [v])) : ∃ x, (part t cs'.toArray off).run P w = .ok x w ∧ VR μ v x := by
  cases g with
  | true =>
    obtain ⟨h1, rfl⟩ := hv.1 rfl
    refine ⟨.agg ((cs'.drop off).take n).toArray, ?_, .agg ((hcs.drop off).take n)⟩
    simp [part, run_isAgg hg, run_sizeOf hn]
  | false =>
    have hv' : (cs.drop off).take 1 = [v] := hv.2 rfl
    have h1 : cs[off]? = some v := by
      have : ((cs.drop off).take 1)[0]? = some v := by rw [hv']; rfl
      simpa using this
    obtain ⟨x, h2, h3⟩ := hcs.get h1
    refine ⟨x, ?_, h3⟩
    simp [part, run_isAgg hg, h2]

theorem op_fld (R : Rel P K w0 μ h w) {s : TypeId} {fs : Array Field} {f : Nat} {fd : Field} {n : Nat} {g : Bool} (hs : P.underlying s = some (.struct fs)) (hf : fs[f]? = some fd) (hn : sizOf P fd.type = some n) (hg : aggOf P fd.type = some g) {cs : List V} {xo : Operand}
    (hx : VR μ (.agg cs) (ρ' xo)) {v : V} (hv : (g = true → fd.offset + n ≤ cs.length ∧ v = .agg ((cs.drop fd.offset).take n)) ∧ (g = false → (cs.drop fd.offset).take 1 = [v])) {o : Oper} (ho : o.op = .field s xo f) :
    Res P K w0 μ ((execOp ρ' o).run P w) v h := by
  generalize hx' : ρ' xo = x' at hx
  cases hx with
  | agg hcs =>
    obtain ⟨x, h1, h2⟩ := run_part (w := w) hg hn hcs hv
    refine Res.same (x := x) ?_ R h2
    simp [execOp, ho, hx', Instr.field, run_und hs, hf, asAgg, h1]

omit [RoLim] in
theorem natOf_some {n : Int} {m : Nat} (hn : natOf n = some m) : n = (m : Int) := by
  cases n with
  | ofNat k => simp [natOf] at hn; subst hn; rfl
  | negSucc k => simp [natOf] at hn

omit [RoLim] in
theorem asNat_VR {v : V} {x : Value} {m : Nat} (hv : VR μ v x) (hm : asNat v = some m) : ∃ k, x = .int k (m : Int) := by
  cases hv <;> simp [asNat] at hm
  rename_i k n
  exact ⟨k, by rw [natOf_some hm]⟩

theorem op_iaddr (R : Rel P K w0 μ h w) {t e : TypeId} {n : Nat} (ht : P.underlying t = some (.slice e)) (hn : sizOf P e = some n) {o1 g1 off len : Nat} {cap : Cap} {xo io : Operand} {i : Nat} {iv : V}
    (hx : VR μ (.slice o1 g1 off len cap) (ρ' xo)) (hi : VR μ iv (ρ' io)) (hin : asNat iv = some i) (hlt : i < len) {o : Oper} (ho : o.op = .indexAddr t xo io) :
    Res P K w0 μ ((execOp ρ' o).run P w) (.ptr o1 g1 (off + i * n)) h := by
  obtain ⟨k, hk⟩ := asNat_VR hi hin
  generalize hx' : ρ' xo = x' at hx
  have fin : ∀ (l : Loc) (cap' : Nat), μ o1 g1 = some l → x' = .slice (some ⟨l.blk, l.base + off, none⟩) len cap' → Res P K w0 μ ((execOp ρ' o).run P w) (.ptr o1 g1 (off + i * n)) h := by
    intro l cap' hm e'
    refine Res.same (x := .pointer (some ⟨l.blk, l.base + (off + i * n), none⟩)) ?_ R (.ptr hm)
    have hlt' : (0 : Int) ≤ (i : Int) ∧ (i : Int) < (len : Int) := by omega
    simp [execOp, ho, hx', e', hk, Instr.indexAt, asIntOf, run_und ht, hlt, run_sizeOf hn, addr_add, Nat.add_assoc]
  cases hx with
  | @exact _ _ _ _ c l hm a ha hc =>
    rcases ha with rfl | ⟨h0, _⟩
    · exact fin l _ hm rfl
    · omega
  | @rest _ _ _ _ m _ l hm a ha hc hoff _ =>
    rcases ha with rfl | ⟨h0, _⟩
    · exact fin l _ hm rfl
    · omega

theorem op_iaddrA (R : Rel P K w0 μ h w) {t e : TypeId} {n len : Nat} (ht : P.underlying t = some (.array len e)) (hn : sizOf P e = some n) {o1 g1 off : Nat} {xo io : Operand} {i : Nat} {iv : V}
    (hx : VR μ (.ptr o1 g1 off) (ρ' xo)) (hi : VR μ iv (ρ' io)) (hin : asNat iv = some i) (hlt : i < len) {o : Oper} (ho : o.op = .indexAddr t xo io) :
    Res P K w0 μ ((execOp ρ' o).run P w) (.ptr o1 g1 (off + i * n)) h := by
  obtain ⟨k, hk⟩ := asNat_VR hi hin
  generalize hx' : ρ' xo = x' at hx
  cases hx with
  | @ptr _ _ _ l hm =>
    refine Res.same (x := .pointer (some ⟨l.blk, l.base + (off + i * n), none⟩)) ?_ R (.ptr hm)
    simp [execOp, ho, hx', hk, Instr.indexAt, asIntOf, run_und ht, hlt, run_sizeOf hn, addr_add, Nat.add_assoc, Instr.sureAddr]

theorem op_extract (R : Rel P K w0 μ h w) {vs : List V} {i : Nat} {xo : Operand} (hx : VR μ (.tup vs) (ρ' xo)) {v : V} (hv : vs[i]? = some v) {o : Oper} (ho : o.op = .extract xo i) : Res P K w0 μ ((execOp ρ' o).run P w) v h := by
  generalize hx' : ρ' xo = x' at hx
  cases hx with
  | tup hvs =>
    obtain ⟨x, h1, h2⟩ := hvs.get hv
    exact Res.same (x := x) (by simp [execOp, ho, hx', Instr.extract, h1]) R h2

theorem op_pick (R : Rel P K w0 μ h w) {co ao bo : Operand} {c : Bool} (hc : VR μ (.bool c) (ρ' co)) {v : V} (hv : VR μ v (if c then ρ' ao else ρ' bo)) {o : Oper} (ho : o.op = .pick co ao bo) : Res P K w0 μ ((execOp ρ' o).run P w) v h := by
  generalize hc' : ρ' co = x' at hc
  cases hc
  exact Res.same (x := if c then ρ' ao else ρ' bo) (by simp [execOp, ho, hc', asBool]) R hv

theorem op_sidx (R : Rel P K w0 μ h w) {t : TypeId} (ht : P.underlying t = some .string) {s : ByteArray} {xo io : Operand} {i : Nat} {iv : V} (hx : VR μ (.str s) (ρ' xo)) (hi : VR μ iv (ρ' io)) (hin : asNat iv = some i)
    {b : UInt8} (hb : s.data.toList[i]? = some b) {o : Oper} (ho : o.op = .index t xo io) : Res P K w0 μ ((execOp ρ' o).run P w) (.int .u8 (.ofNat b.toNat)) h := by
  obtain ⟨k, hk⟩ := asNat_VR hi hin
  generalize hx' : ρ' xo = x' at hx
  cases hx
  have hb' : s[i]? = some b := by
    have hlt := (List.getElem?_eq_some_iff.1 hb).1
    have hlt' : i < s.size := by simpa using hlt
    have hg := (List.getElem?_eq_some_iff.1 hb).2
    rw [getElem?_pos s i hlt']
    congr 1
  exact Res.same (x := .int .u8 (b.toNat : Int)) (by simp [execOp, ho, hx', hk, Instr.index, asIntOf, run_und ht, hb']) R (.int ..)
end
end Go.Xr
