/- X's operations are the machine's: the plain ones. -/
import Derived.Test.YtdegagpgjejomaaGreatXf
namespace Go.Xr
open Go.RowKit

/-- What a run of an operation came to, told by X. -/
def Res [RoLim] (P : Program) (K : Nat → Prop) (w0 : World) (μ : Mu) (r : Result Next) (v : V) (h' : Heap) : Prop :=
  ∃ μ' x w' n, r = .ok n w' ∧ (n = .value x ∨ (n = .skip ∧ x = undef)) ∧ μ.le μ' ∧ Rel P K w0 μ' h' w' ∧ VR μ' v x

/-- An operand's two values. -/
def Op2 (μ : Mu) (ρ : Rd) (ρ' : Operand → Value) (x' : Operand) : Prop := ∀ x, opd x' = some x → VR μ (ρ x) (ρ' x')

section
variable [RoLim] {P : Program} {K : Nat → Prop} {w0 : World} {μ μ' : Mu} {h h' : Heap} {w w' : World} {ρ : Rd} {ρ' : Operand → Value}

theorem Res.same {v : V} {x : Value} {r : Result Next} (hr : r = .ok (.value x) w) (R : Rel P K w0 μ h w) (hv : VR μ v x) : Res P K w0 μ r v h :=
  ⟨μ, x, w, _, hr, .inl rfl, Mu.le_refl μ, R, hv⟩

/-! ### What the types tell -/
omit [RoLim] in
theorem run_typeInfo {t : TypeId} {i : TypeInfo} (hi : P.info? t = some i) : (typeInfo t).run P w = .ok i w := by simp [typeInfo, hi]
omit [RoLim] in
theorem run_und {t : TypeId} {d : TypeDesc} (hd : P.underlying t = some d) : (underlying t).run P w = .ok d w := run_underlying hd w
omit [RoLim] in
theorem run_sizeOf {t : TypeId} {n : Nat} (hn : sizOf P t = some n) : (sizeOf t).run P w = .ok n w := by
  unfold sizOf at hn
  cases hi : P.info? t with
  | none => simp [hi] at hn
  | some i => simp [hi] at hn; subst hn; simp [sizeOf, run_typeInfo hi]
omit [RoLim] in
theorem run_bytes {t : TypeId} {n : Nat} (hn : bytOf P t = some n) : ∃ i, P.info? t = some i ∧ i.bytes = n := by
  unfold bytOf at hn
  cases hi : P.info? t with
  | none => simp [hi] at hn
  | some i => simp [hi] at hn; exact ⟨i, rfl, hn⟩
omit [RoLim] in
theorem run_isAgg {t : TypeId} {g : Bool} (hg : aggOf P t = some g) : (isAgg t).run P w = .ok g w := by
  unfold aggOf at hg
  cases hd : P.underlying t with
  | none => simp [hd] at hg
  | some d => cases d <;> simp [hd] at hg <;> subst hg <;> simp [isAgg, run_und hd]

omit [RoLim] in
theorem scalar_VR : ∀ {x : Value} {v : V}, scalarV x = some v → VR μ v x := by
  intro x v hx
  unfold scalarV at hx
  split at hx <;> try (first | (injection hx with hx; subst hx; constructor; done) | (cases hx; done))
  rename_i f first caps
  split at hx <;> try (cases hx; done)
  rename_i h1 h2
  injection hx with hx
  subst hx
  have e1 : first = #[] := by simpa using h1
  have e2 : caps = #[] := by simpa using h2
  subst e1; subst e2
  exact VR.func .nil .nil

omit [RoLim] in
theorem scalars_VRs : ∀ {xs : List Value} {vs : List V}, scalars xs = some vs → VRs μ vs xs
  | [], vs, hx => by simp [scalars] at hx; subst hx; exact .nil
  | x :: xs, vs, hx => by
    simp only [scalars] at hx
    split at hx <;> simp at hx
    rename_i v vs' h1 h2
    subst hx
    exact .cons (scalar_VR h1) (scalars_VRs h2)

omit [RoLim] in
theorem const_VR {x : Value} {v : V} (hx : constV x = some v) : VR μ v x := by
  unfold constV at hx
  split at hx
  · rename_i cs
    split at hx <;> simp at hx
    rename_i vs h1
    subst hx
    have := VR.agg (μ := μ) (scalars_VRs h1)
    simpa using this
  · exact scalar_VR hx

omit [RoLim] in
theorem zeroOf_some {t : TypeId} {z : V} (hz : zeroOf P t = some z) : ∃ i x, P.info? t = some i ∧ i.zero = some x ∧ ∀ μ, VR μ z x := by
  unfold zeroOf at hz
  cases hi : P.info? t with
  | none => simp [hi] at hz
  | some i =>
    cases hx : i.zero with
    | none => simp [hi, hx] at hz
    | some x => simp [hi, hx] at hz; exact ⟨i, x, rfl, hx, fun μ => const_VR hz⟩

omit [RoLim] in
theorem run_zeroValue {t : TypeId} {i : TypeInfo} {x : Value} (hi : P.info? t = some i) (hx : i.zero = some x) : (zeroValue t).run P w = .ok x w := by
  simp [zeroValue, run_typeInfo hi, hx]

omit [RoLim] in
theorem elemOfSlice_some {t e : TypeId} (he : elemOfSlice P t = some e) : P.underlying t = some (.slice e) := by
  unfold elemOfSlice at he
  split at he <;> simp at he
  subst he
  assumption

omit [RoLim] in
theorem mapOf_some {t e : TypeId} {kd : IntKind} (he : mapOf P t = some (kd, e)) : ∃ k, P.underlying t = some (.map k e) ∧ P.underlying k = some (.int kd) := by
  unfold mapOf at he
  split at he <;> try (cases he; done)
  rename_i k e' hk
  split at he <;> try (cases he; done)
  cases he
  exact ⟨k, hk, by assumption⟩

/-! ### Operands -/
omit [RoLim] in
theorem opds_VRs : ∀ {xs' : List Operand} {xs : List Opd}, opds xs' = some xs → (∀ x' ∈ xs', Op2 μ ρ ρ' x') → VRs μ (vals ρ xs) (xs'.map ρ')
  | [], xs, hx, _ => by simp [opds] at hx; subst hx; exact .nil
  | x' :: xs', xs, hx, ho => by
    simp only [opds] at hx
    split at hx <;> simp at hx
    rename_i x r h1 h2
    subst hx
    exact .cons (ho x' (List.mem_cons_self ..) x h1) (opds_VRs h2 fun y hy => ho y (List.mem_cons_of_mem _ hy))

/-! ### One by one -/
theorem op_alloc (R : Rel P K w0 μ h w) {e : TypeId} {z : V} (hz : zeroOf P e = some z) {o : Oper} (ho : o.op = .alloc e) :
    Res P K w0 μ ((execOp ρ' o).run P w) (.ptr h.next 0 0) (newCells h z.cellsOf 1 false) := by
  obtain ⟨i, x, hi, hx, hv⟩ := zeroOf_some hz
  refine ⟨_, _, w.alloc (.cells x.cells e), _, ?_, .inl rfl, Mu.le_put _ (R.fresh 0), R.pushCells (w' := w.alloc (.cells x.cells e)) z.cellsOf 1 0 false x.cells e rfl rfl rfl rfl (fun i v hg => ?_) (fun q => by cases q), VR.ptr (Mu.put_same ..)⟩
  · simp [execOp, ho, Instr.alloc, run_zeroValue hi hx, newVar, newRow]
  · obtain ⟨y, h1, h2⟩ := (hv μ).cells.get hg
    exact ⟨y, by simpa using h1, h2⟩

theorem op_box (R : Rel P K w0 μ h w) {e : TypeId} {v : V} {x' : Operand} (hv : VR μ v (ρ' x')) {o : Oper} (ho : o.op = .box e x') :
    Res P K w0 μ ((execOp ρ' o).run P w) (.ptr h.next 0 0) (newCells h v.cellsOf 1 false) := by
  refine ⟨_, _, w.alloc (.cells (ρ' x').cells e), _, ?_, .inl rfl, Mu.le_put _ (R.fresh 0), R.pushCells (w' := w.alloc (.cells (ρ' x').cells e)) v.cellsOf 1 0 false (ρ' x').cells e rfl rfl rfl rfl (fun i v hg => ?_) (fun q => by cases q), VR.ptr (Mu.put_same ..)⟩
  · simp [execOp, ho, Instr.box, newVar, newRow]
  · obtain ⟨y, h1, h2⟩ := hv.cells.get hg
    exact ⟨y, by simpa using h1, h2⟩

theorem op_load (R : Rel P K w0 μ h w) {t : TypeId} {g : Bool} {n : Nat} {x' : Operand} {o1 g1 off : Nat} {vs : List V} (hag : aggOf P t = some g) (hn : sizOf P t = some n)
    (hx : VR μ (.ptr o1 g1 off) (ρ' x')) (hr : readCells h o1 g1 off (match g with | true => n | false => 1) = some vs) {v : V} (hv : match g with | true => v = .agg vs | false => vs = [v]) {o : Oper} (ho : o.op = .load t x') :
    Res P K w0 μ ((execOp ρ' o).run P w) v h := by
  generalize hx' : ρ' x' = val at hx
  cases hx with
  | @ptr _ _ _ l hm =>
    obtain ⟨xs, h1, h2, h3, h4⟩ := R.read hr hm
    cases g with
    | true =>
      have hv' : v = .agg vs := hv
      subst hv'
      refine Res.same (x := .agg xs.toArray) ?_ R (.agg h1)
      have := run_loadCells_read (P := P) h4
      rw [h3] at this
      simp [execOp, ho, Instr.loadAt, Instr.sureAddr, hx', loadVar, run_isAgg hag, run_sizeOf hn, this]
    | false =>
      have hv' : vs = [v] := hv
      subst hv'
      cases h1 with
      | @cons _ x _ _ hv hr =>
        cases hr
        refine Res.same (x := x) ?_ R hv
        have := h4 0 x rfl
        simp only [Nat.add_zero] at this
        simp [execOp, ho, Instr.loadAt, Instr.sureAddr, hx', loadVar, run_isAgg hag, this]

theorem op_store (R : Rel P K w0 μ h w) {t : TypeId} {n : Nat} {x' y' : Operand} {o1 g1 off : Nat} {v : V} (hn : sizOf P t = some n) (hx : VR μ (.ptr o1 g1 off) (ρ' x')) (hy : VR μ v (ρ' y'))
    (hl : v.cellsOf.length = n) (hw : writeCells h o1 g1 off v.cellsOf = some h') {o : Oper} (ho : o.op = .store t x' y') : Res P K w0 μ ((execOp ρ' o).run P w) .undef h' := by
  generalize hx' : ρ' x' = val at hx
  cases hx with
  | @ptr _ _ _ l hm =>
    obtain ⟨w', h1, h2⟩ := R.write hw hy.cells hm
    have h3 := hy.cells.length
    refine ⟨μ, undef, w', .skip, ?_, .inr ⟨rfl, rfl⟩, Mu.le_refl μ, h2, VR.undef μ⟩
    simp only [Array.length_toList] at h3
    simp [execOp, ho, Instr.storeAt, Instr.sureAddr, hx', storeVar, run_sizeOf hn, ← h3, hl, h1]

theorem op_nilCheck (R : Rel P K w0 μ h w) {v : V} {x' : Operand} (hv : VR μ v (ρ' x')) (hn : v ≠ .nilp ∧ v ≠ .nili ∧ v ≠ .nilf ∧ v ≠ .any ∧ ∀ o, v ≠ .hole o) {o : Oper} (ho : o.op = .nilCheck x') : Res P K w0 μ ((execOp ρ' o).run P w) v h := by
  refine Res.same (x := ρ' x') ?_ R hv
  have hrun : ∀ val, ρ' x' = val → VR μ v val → (execOp ρ' o).run P w = .ok (.value val) w := by
    intro val hx' hv
    cases hv <;> first | (simp at hn; done) | (simp [execOp, ho, hx'])
  exact hrun _ rfl hv

theorem op_conv (R : Rel P K w0 μ h w) {s d : TypeId} {k k0 : IntKind} {n : Int} {x' : Operand} {sd : TypeDesc} (hs : P.underlying s = some sd) (hd : P.underlying d = some (.int k)) (hv : VR μ (.int k0 n) (ρ' x')) {o : Oper} (ho : o.op = .convert s d x') :
    Res P K w0 μ ((execOp ρ' o).run P w) (.int k (k.wrap n)) h := by
  generalize hx' : ρ' x' = val at hv
  cases hv
  exact Res.same (by simp [execOp, ho, hx', convert, run_und hs, run_und hd, Conv.intToInt]) R (.int ..)
end
end Go.Xr
