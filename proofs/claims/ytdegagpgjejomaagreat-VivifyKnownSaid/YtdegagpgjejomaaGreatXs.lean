/- X's copies, assertions and functions made are the machine's. -/
import Derived.Test.YtdegagpgjejomaaGreatXr
namespace Go.Xr
open Go.RowKit
section
variable [RoLim] {P : Program} {K : Nat → Prop} {w0 : World} {μ μ' : Mu} {h h' : Heap} {w w' : World} {ρ : Rd} {ρ' : Operand → Value}

theorem op_mkfunc (R : Rel P K w0 μ h w) {f : Nat} {fs cs : Array Operand} {a b : List V} (ha : VRs μ a (fs.toList.map ρ')) (hb : VRs μ b (cs.toList.map ρ')) {o : Oper} (ho : o.op = .makeFunc (.func f) fs cs) :
    Res P K w0 μ ((execOp ρ' o).run P w) (.func f a b) h := by
  refine Res.same (x := .func (.func f) (fs.map ρ') (cs.map ρ')) ?_ R ?_
  · simp [execOp, ho, Instr.makeFunc]
  · have := VR.func (f := f) ha hb
    have e1 : (fs.toList.map ρ').toArray = fs.map ρ' := by apply Array.ext'; simp
    have e2 : (cs.toList.map ρ').toArray = cs.map ρ' := by apply Array.ext'; simp
    rw [e1, e2] at this
    exact this

theorem op_tassert (R : Rel P K w0 μ h w) {t xt : TypeId} {d : TypeDesc} {z x : V} {ok : Bool} {xo : Operand} (hd : P.underlying t = some d) (hn : ∀ m, d ≠ .interface m) (hz : zeroOf P t = some z) (hx : VR μ x (ρ' xo)) {v : V}
    (hv : (∃ t' y, x = .iface t' y ∧ ((t = t' ∧ v = (match ok with | true => .tup [y, .bool true] | false => y)) ∨ (t ≠ t' ∧ ok = true ∧ v = .tup [z, .bool false]))) ∨ (x = .nili ∧ ok = true ∧ v = .tup [z, .bool false])) {o : Oper} (ho : o.op = .typeAssert xo xt t ok) :
    Res P K w0 μ ((execOp ρ' o).run P w) v h := by
  obtain ⟨i, zx, hi, hzx, hzv⟩ := zeroOf_some hz
  have hex : (execOp ρ' o).run P w = (do pure (Next.value (← Instr.typeAssert (ρ' xo) xt t ok)) : Sem Next).run P w := by simp [execOp, ho]
  rw [hex]
  generalize ρ' xo = x' at hx
  have hfail : ∀ x', (x' = .nilIface ∨ ∃ t' y', x' = .iface t' y' ∧ t' ≠ t) → (Instr.typeAssert x' xt t true).run P w = .ok (.tuple #[zx, .bool false]) w := by
    intro x' hx'
    unfold Instr.typeAssert
    simp only [Sem.run_bind, run_und hd, Result.andThen_ok]
    rcases hx' with rfl | ⟨t', y', rfl, hne⟩
    · cases d <;> first | (exact absurd rfl (hn _)) | simp [run_zeroValue hi hzx]
    · cases d <;> first | (exact absurd rfl (hn _)) | simp [hne, run_zeroValue hi hzx]
  have hhold : ∀ y', (Instr.typeAssert (.iface t y') xt t ok).run P w = .ok (if ok then .tuple #[y', .bool true] else y') w := by
    intro y'
    unfold Instr.typeAssert
    simp only [Sem.run_bind, run_und hd, Result.andThen_ok]
    cases d <;> first | (exact absurd rfl (hn _)) | (simp only [if_true]; rfl)
  rcases hv with ⟨t', y, rfl, ⟨rfl, rfl⟩ | ⟨hne, rfl, rfl⟩⟩ | ⟨rfl, rfl, rfl⟩
  · cases hx with
    | @iface _ _ y' hy =>
      cases ok with
      | true => exact Res.same (x := .tuple #[y', .bool true]) (by rw [Sem.run_bind, hhold]; rfl) R (.tup (.cons hy (.cons (.bool _) .nil)))
      | false => exact Res.same (x := y') (by rw [Sem.run_bind, hhold]; rfl) R hy
  · cases hx with
    | @iface _ _ y' hy =>
      exact Res.same (x := .tuple #[zx, .bool false]) (by rw [Sem.run_bind, hfail _ (.inr ⟨_, _, rfl, fun e => hne e.symm⟩)]; rfl) R (.tup (.cons (hzv μ) (.cons (.bool _) .nil)))
  · cases hx
    exact Res.same (x := .tuple #[zx, .bool false]) (by rw [Sem.run_bind, hfail _ (.inl rfl)]; rfl) R (.tup (.cons (hzv μ) (.cons (.bool _) .nil)))

/-- A write at a slice's beginning. -/
theorem Rel.writeAt (R : Rel P K w0 μ h w) {o g off len : Nat} {cap : Cap} {x' : Value} {vs : List V} {xs : List Value} (hx : VR μ (.slice o g off len cap) x') (hw : writeCells h o g off vs = some h') (hv : VRs μ vs xs) (hlen : len = 0 → vs = []) :
    ∃ a w', (∃ sc, x' = .slice (some a) len sc) ∧ (storeCells a xs).run P w = .ok () w' ∧ Rel P K w0 μ h' w' := by
  have main : ∀ (l : Loc) (a : Addr), μ o g = some l → (a = ⟨l.blk, l.base + off, none⟩ ∨ len = 0) → ∃ w', (storeCells a xs).run P w = .ok () w' ∧ Rel P K w0 μ h' w' := by
    intro l a hm ha
    obtain ⟨w', h1, h2⟩ := R.write hw hv hm
    rcases ha with rfl | h0
    · exact ⟨w', h1, h2⟩
    · have e1 := hlen h0
      subst e1
      have e2 : xs = [] := by have := hv.length; cases xs <;> simp at this ⊢
      subst e2
      have : w' = w := by
        have h1' : (storeCells ⟨l.blk, l.base + off, none⟩ []).run P w = .ok () w := rfl
        rw [h1'] at h1
        cases h1
        rfl
      subst this
      exact ⟨w', rfl, h2⟩
  cases hx with
  | @exact _ _ _ _ c l hm a ha hlc =>
    obtain ⟨w', h1, h2⟩ := main l a hm (ha.imp id fun q => q.1)
    exact ⟨a, w', ⟨_, rfl⟩, h1, h2⟩
  | @rest _ _ _ _ _ _ l hm a ha hln ho he =>
    obtain ⟨w', h1, h2⟩ := main l a hm (ha.imp id fun q => q.1)
    exact ⟨a, w', ⟨_, rfl⟩, h1, h2⟩

omit [RoLim] in
theorem elemsOf_zero {esz : Nat} {y : V} {xs : List V} (hx : elemsOf h esz 0 y = some xs) : xs = [] := by
  unfold elemsOf at hx
  split at hx
  · injection hx with hx; exact hx.symm
  · obtain ⟨c, L, _, _, _, rfl⟩ := readCells_some hx
    simp
  · injection hx with hx; rw [← hx]; simp
  · cases hx

theorem op_copy (R : Rel P K w0 μ h w) {c : Call} {xo yo : Operand} {t e : TypeId} {esz a b : Nat} {x y : V} {xs : List V} (hb : c.callee = .builtin .copy) (ha : c.args.toList = [xo, yo]) (ht0 : c.argTypes[0]? = some t) (ht : P.underlying t = some (.slice e)) (hn : sizOf P e = some esz)
    (hx : VR μ x (ρ' xo)) (hy : VR μ y (ρ' yo)) (hla : lenV x = some a) (hlb : lenV y = some b) (hxs : elemsOf h esz (Nat.min b a) y = some xs)
    (hr : (x = .nils ∧ h' = h) ∨ ∃ og g off len cap, x = .slice og g off len cap ∧ writeCells h og g off xs = some h') {o : Oper} (ho : o.op = .call c) : Res P K w0 μ ((execOp ρ' o).run P w) (.int .i64 (Nat.min b a : Nat)) h' := by
  obtain ⟨cs, he⟩ := exec_builtin (ρ' := ρ') ho hb
  rw [args_two ha] at he
  obtain ⟨ns, q1, q2⟩ := elems_run (P := P) R hy hlb (Nat.min_le_left _ _) hxs
  have hrun : ∀ base len sc, ρ' xo = .slice base len sc → len = a → ∀ w', (match base with | some ad => (storeCells ad ns).run P w = .ok () w' | none => w' = w) →
      (Builtin.copy_ c.argTypes o.type #[ρ' xo, ρ' yo]).run P w = .ok (goInt (Nat.min b a)) w' := by
    intro base len sc hxo hl w' hw'
    subst hl
    unfold Builtin.copy_
    simp only [ht0, hxo, List.getElem?_toArray, List.getElem?_cons_zero, List.getElem?_cons_succ, Sem.run_bind, run_und ht, Result.andThen_ok, lenV_run hy hlb, run_sizeOf hn, q2 w rfl]
    cases base with
    | none => subst hw'; rfl
    | some ad => simp only [Sem.run_bind, hw', Result.andThen_ok]; rfl
  rcases hr with ⟨rfl, rfl⟩ | ⟨og, g, off, len, cap, rfl, hw⟩
  · have hx' : ρ' xo = .slice none 0 0 := by generalize ρ' xo = x' at hx; cases hx; rfl
    have ha0 : a = 0 := by simp [lenV] at hla; omega
    subst ha0
    exact (Res'.same (x := goInt (Nat.min b 0)) (hrun none 0 0 hx' rfl w rfl) R (.int ..)).call he rfl
  · have hal : len = a := by simpa [lenV] using hla
    subst hal
    obtain ⟨ad, w', ⟨sc, hx'⟩, hs, hR⟩ := R.writeAt hx hw q1 (fun h0 => by
      subst h0
      rw [show Nat.min b 0 = 0 from Nat.min_eq_right (Nat.zero_le _)] at hxs
      exact elemsOf_zero hxs)
    have : Res' P K w0 μ ((Builtin.copy_ c.argTypes o.type #[ρ' xo, ρ' yo]).run P w) (.int .i64 (Nat.min b len : Nat)) h' := ⟨μ, _, w', hrun (some ad) len sc hx' rfl w' hs, Mu.le_refl μ, hR, .int ..⟩
    exact this.call he rfl

theorem op_clear (R : Rel P K w0 μ h w) {c : Call} {xo : Operand} {t e : TypeId} {z x : V} (hb : c.callee = .builtin .clear) (ha : c.args.toList = [xo]) (ht0 : c.argTypes[0]? = some t) (ht : P.underlying t = some (.slice e)) (hz : zeroOf P e = some z) (hzp : 0 < z.cellsOf.length)
    (hx : VR μ x (ρ' xo)) (hr : (x = .nils ∧ h' = h) ∨ (∃ og g off cap, x = .slice og g off 0 cap ∧ h' = h) ∨ ∃ og g off len cap, x = .slice og g off (len + 1) cap ∧ writeCells h og g off (repl (len + 1) z.cellsOf) = some h') {o : Oper} (ho : o.op = .call c) :
    Res P K w0 μ ((execOp ρ' o).run P w) .undef h' := by
  obtain ⟨cs, he⟩ := exec_builtin (ρ' := ρ') ho hb
  rw [args_one ha] at he
  obtain ⟨i, zx, hi, hzx, hzv⟩ := zeroOf_some hz
  rcases hr with ⟨rfl, rfl⟩ | ⟨og, g, off, cap, rfl, rfl⟩ | ⟨og, g, off, len, cap, rfl, hw⟩
  · have hx' : ρ' xo = .slice none 0 0 := by generalize ρ' xo = x' at hx; cases hx; rfl
    rw [hx'] at he
    refine (Res'.same (x := .tuple #[]) (r := (Builtin.clear_ c.argTypes o.type #[.slice none 0 0]).run P w) ?_ R (VR.undef μ)).call he rfl
    simp [Builtin.clear_, ht0, run_und ht]
  · have hx' : ∃ a sc, ρ' xo = .slice (some a) 0 sc := by generalize ρ' xo = x' at hx; cases hx <;> exact ⟨_, _, rfl⟩
    obtain ⟨a, sc, hx'⟩ := hx'
    rw [hx'] at he
    refine (Res'.same (x := .tuple #[]) (r := (Builtin.clear_ c.argTypes o.type #[.slice (some a) 0 sc]).run P w) ?_ R (VR.undef μ)).call he rfl
    simp [Builtin.clear_, ht0, run_und ht]
  · have hzc := (hzv μ).cells.repl (len + 1)
    have hzpos : 0 < zx.cells.size := by have := (hzv μ).cells.length; simp only [Array.length_toList] at this; omega
    have hzl := map_range_mod zx.cells (len + 1) (.inl hzpos)
    obtain ⟨ad, w', ⟨sc, hx'⟩, hs, hR⟩ := R.writeAt hx hw hzc (fun h0 => by cases h0)
    rw [hx'] at he
    have : Res' P K w0 μ ((Builtin.clear_ c.argTypes o.type #[.slice (some ad) (len + 1) sc]).run P w) .undef h' := by
      refine ⟨μ, undef, w', ?_, Mu.le_refl μ, hR, VR.undef μ⟩
      unfold Builtin.clear_
      simp only [ht0, List.getElem?_toArray, List.getElem?_cons_zero, Sem.run_bind, run_und ht, Result.andThen_ok, run_zeroValue hi hzx, Builtin.zeroCells, hzl, hs]
      rfl
    exact this.call he rfl
end
end Go.Xr
