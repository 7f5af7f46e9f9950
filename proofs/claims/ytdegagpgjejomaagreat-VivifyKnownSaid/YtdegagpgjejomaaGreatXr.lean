/- X's builtin functions are the machine's; and all operations together. -/
import Derived.Test.YtdegagpgjejomaaGreatXo
namespace Go.Xr
open Go.RowKit
section
variable [RoLim] {P : Program} {K : Nat → Prop} {w0 : World} {μ μ' : Mu} {h h' : Heap} {w w' : World} {ρ : Rd} {ρ' : Operand → Value}

def constB : Operand → Bool
  | .const _ => true
  | _ => false

omit [RoLim] in
theorem exec_builtin {o : Oper} {c : Call} {b : Builtin} (ho : o.op = .call c) (hb : c.callee = .builtin b) : ∃ cs, execOp ρ' o = builtin b c.argTypes o.type cs (c.args.map ρ') := by
  refine ⟨c.args.map fun | .const _ => true | _ => false, ?_⟩
  unfold execOp
  rw [ho]
  simp only [resolve, hb, pure_bind, invoke]
  rfl

theorem Res'.call {r : Result Value} {v : V} (hr : Res' P K w0 μ r v h') {o : Oper} {f : Sem Value} (he : execOp ρ' o = do pure (.value (← f))) (hf : f.run P w = r) : Res P K w0 μ ((execOp ρ' o).run P w) v h' :=
  hr.res fun x w' e => by rw [he, Sem.run_bind, hf, e]; rfl

theorem Res'.same {v : V} {x : Value} {r : Result Value} (hr : r = .ok x w) (R : Rel P K w0 μ h w) (hv : VR μ v x) : Res' P K w0 μ r v h := ⟨μ, x, w, hr, Mu.le_refl μ, R, hv⟩

omit [RoLim] in
theorem args_two {c : Call} {xo yo : Operand} (ha : c.args.toList = [xo, yo]) : c.args.map ρ' = #[ρ' xo, ρ' yo] := by
  apply Array.ext'
  simp [ha]
omit [RoLim] in
theorem args_one {c : Call} {xo : Operand} (ha : c.args.toList = [xo]) : c.args.map ρ' = #[ρ' xo] := by
  apply Array.ext'
  simp [ha]

theorem op_len_slice (R : Rel P K w0 μ h w) {c : Call} {xo : Operand} {t e : TypeId} {x : V} (hb : c.callee = .builtin .len) (ha : c.args.toList = [xo]) (ht : c.argTypes[0]? = some t) (hd : P.underlying t = some (.slice e)) (hx : VR μ x (ρ' xo)) {n : Nat}
    (hn : (x = .nils ∧ n = 0) ∨ ∃ o g off cap, x = .slice o g off n cap) {o : Oper} (ho : o.op = .call c) : Res P K w0 μ ((execOp ρ' o).run P w) (.int .i64 (n : Int)) h := by
  obtain ⟨cs, he⟩ := exec_builtin (ρ' := ρ') ho hb
  rw [args_one ha] at he
  refine (Res'.same (x := goInt n) (r := (Builtin.len_ c.argTypes o.type #[ρ' xo]).run P w) ?_ R (.int ..)).call he rfl
  generalize ρ' xo = x' at hx
  unfold Builtin.len_
  rcases hn with ⟨rfl, rfl⟩ | ⟨og, g, off, cap, rfl⟩ <;> cases hx <;> simp [ht, run_und hd]

theorem op_len_str (R : Rel P K w0 μ h w) {c : Call} {xo : Operand} {t : TypeId} {s : ByteArray} (hb : c.callee = .builtin .len) (ha : c.args.toList = [xo]) (ht : c.argTypes[0]? = some t) (hd : P.underlying t = some .string) (hx : VR μ (.str s) (ρ' xo)) {o : Oper} (ho : o.op = .call c) :
    Res P K w0 μ ((execOp ρ' o).run P w) (.int .i64 (s.size : Int)) h := by
  obtain ⟨cs, he⟩ := exec_builtin (ρ' := ρ') ho hb
  rw [args_one ha] at he
  refine (Res'.same (x := goInt s.size) (r := (Builtin.len_ c.argTypes o.type #[ρ' xo]).run P w) ?_ R (.int ..)).call he rfl
  generalize ρ' xo = x' at hx
  cases hx
  simp [Builtin.len_, ht, run_und hd]

theorem op_len_map (R : Rel P K w0 μ h w) {c : Call} {xo : Operand} {t k e : TypeId} {x : V} (hb : c.callee = .builtin .len) (ha : c.args.toList = [xo]) (ht : c.argTypes[0]? = some t) (hd : P.underlying t = some (.map k e)) (hx : VR μ x (ρ' xo)) {n : Nat}
    (hn : (x = .nilm ∧ n = 0) ∨ ∃ o kd es ins, x = .map o ∧ h.get o = some (.map kd es ins) ∧ n = es.length) {o : Oper} (ho : o.op = .call c) : Res P K w0 μ ((execOp ρ' o).run P w) (.int .i64 (n : Int)) h := by
  obtain ⟨cs, he⟩ := exec_builtin (ρ' := ρ') ho hb
  rw [args_one ha] at he
  refine (Res'.same (x := goInt n) (r := (Builtin.len_ c.argTypes o.type #[ρ' xo]).run P w) ?_ R (.int ..)).call he rfl
  generalize ρ' xo = x' at hx
  rcases hn with ⟨rfl, rfl⟩ | ⟨om, kd, es, ins, rfl, hg, rfl⟩
  · cases hx
    simp [Builtin.len_, ht, run_und hd]
  · obtain ⟨l, es', clock, hl, hbk, hmr⟩ := R.mapAt hg
    cases hx with
    | @map _ l2 hl2 =>
      rw [hl] at hl2
      cases hl2
      have hobj := run_getObj (P := P) hbk (fun _ _ _ q => by cases q)
      have := hmr.size
      simp at this
      simp [Builtin.len_, ht, run_und hd, hobj, this]

theorem op_cap (R : Rel P K w0 μ h w) {c : Call} {xo : Operand} {t e : TypeId} {x : V} (hb : c.callee = .builtin .cap) (ha : c.args.toList = [xo]) (ht : c.argTypes[0]? = some t) (hd : P.underlying t = some (.slice e))
    (hx : VR μ x (ρ' xo)) {n : Nat} (hn : (x = .nils ∧ n = 0) ∨ ∃ o g off len, x = .slice o g off len (.exact n)) {o : Oper} (ho : o.op = .call c) : Res P K w0 μ ((execOp ρ' o).run P w) (.int .i64 (n : Int)) h := by
  obtain ⟨cs, he⟩ := exec_builtin (ρ' := ρ') ho hb
  rw [args_one ha] at he
  refine (Res'.same (x := goInt n) (r := (Builtin.cap_ c.argTypes o.type #[ρ' xo]).run P w) ?_ R (.int ..)).call he rfl
  generalize ρ' xo = x' at hx
  unfold Builtin.cap_
  rcases hn with ⟨rfl, rfl⟩ | ⟨og, g, off, len, rfl⟩ <;> cases hx <;> simp [ht, run_und hd]

omit [RoLim] in
theorem slice_of_append {esz bytes n : Nat} {x : V} {xs : List V} {v : V} (hv : appendV h esz bytes x xs n = some (v, h')) {x' : Value} (hx : VR μ x x') : ∃ base sLen sCap, x' = .slice base sLen sCap := by
  unfold appendV at hv
  cases n with
  | zero =>
    simp only at hv
    split at hv
    · cases hx; exact ⟨_, _, _, rfl⟩
    · cases hx <;> exact ⟨_, _, _, rfl⟩
    · cases hv
  | succ n =>
    simp only at hv
    split at hv
    · cases hx; exact ⟨_, _, _, rfl⟩
    · cases hx <;> exact ⟨_, _, _, rfl⟩
    · cases hv

omit [RoLim] in
theorem argTypes_two {c : Call} {t u : TypeId} (ht0 : c.argTypes[0]? = some t) (hu0 : c.argTypes[1]? = some u) {ty : TypeId} {xs : Array Value} : Builtin.append_ c.argTypes ty xs = Builtin.append_ #[t, u] ty xs := by
  unfold Builtin.append_
  rw [ht0, hu0]
  rfl

theorem op_append (R : Rel P K w0 μ h w) {c : Call} {xo yo : Operand} {t u e : TypeId} {d : TypeDesc} {z : V} {esz bytes n : Nat} {x y : V} {xs : List V} (hb : c.callee = .builtin .append) (ha : c.args.toList = [xo, yo]) (ht0 : c.argTypes[0]? = some t) (hu0 : c.argTypes[1]? = some u)
    (ht : P.underlying t = some (.slice e)) (hu : P.underlying u = some d) (hd : (∃ e', d = .slice e') ∨ d = .string) (hz : zeroOf P e = some z) (hn : sizOf P e = some esz) (hby : bytOf P e = some bytes) (hpos : 0 < bytes) (hzl : z.cellsOf.length = esz)
    (hx : VR μ x (ρ' xo)) (hy : VR μ y (ρ' yo)) (hly : lenV y = some n) (hxs : elemsOf h esz n y = some xs) (hxl : xs.length = n * esz) {v : V} (hv : appendV h esz bytes x xs n = some (v, h')) {o : Oper} (ho : o.op = .call c) : Res P K w0 μ ((execOp ρ' o).run P w) v h' := by
  obtain ⟨cs, he⟩ := exec_builtin (ρ' := ρ') ho hb
  rw [args_two ha] at he
  obtain ⟨i, zx, hi, hzx, hzv⟩ := zeroOf_some hz
  have hin : i.size = esz := by unfold sizOf at hn; simpa [hi] using hn
  have hib : i.bytes = bytes := by unfold bytOf at hby; simpa [hi] using hby
  obtain ⟨ns, q1, q2⟩ := elems_run (P := P) R hy hly (Nat.le_refl _) hxs
  have hzs : zx.cells.size = esz := by have := (hzv μ).cells.length; simp only [Array.length_toList] at this; omega
  obtain ⟨base, sLen, sCap, hsl⟩ := slice_of_append hv hx
  rw [hsl] at hx he
  have spec := app_slice (P := P) (w := w) (ty := o.type) (x := ρ' yo) (base := base) (sLen := sLen) (sCap := sCap) (m := n) (ns := ns) ht hu hd hi hzx (by omega) (lenV_run hy hly) (by rw [hin]; exact q2)
  rw [hin, hib] at spec
  exact (appendV_ok R hx q1 hxl hzs spec hv).call (f := Builtin.append_ c.argTypes o.type #[.slice base sLen sCap, ρ' yo]) he (by rw [argTypes_two ht0 hu0])

theorem op_appendZ (R : Rel P K w0 μ h w) {c : Call} {xo yo : Operand} {t u e : TypeId} {k : IntKind} {z : V} {esz bytes n : Nat} {x y : V} (hb : c.callee = .builtin .append) (ha : c.args.toList = [xo, yo]) (ht0 : c.argTypes[0]? = some t) (hu0 : c.argTypes[1]? = some u)
    (ht : P.underlying t = some (.slice e)) (hu : P.underlying u = some (.int k)) (hz : zeroOf P e = some z) (hn : sizOf P e = some esz) (hby : bytOf P e = some bytes) (hpos : 0 < bytes) (hzl : z.cellsOf.length = esz)
    (hx : VR μ x (ρ' xo)) (hy : VR μ y (ρ' yo)) (hly : asNat y = some n) (hlim : n * bytes ≤ 140737488355328) {v : V} (hv : appendV h esz bytes x (repl n z.cellsOf) n = some (v, h')) {o : Oper} (ho : o.op = .call c) : Res P K w0 μ ((execOp ρ' o).run P w) v h' := by
  obtain ⟨cs, he⟩ := exec_builtin (ρ' := ρ') ho hb
  rw [args_two ha] at he
  obtain ⟨i, zx, hi, hzx, hzv⟩ := zeroOf_some hz
  have hin : i.size = esz := by unfold sizOf at hn; simpa [hi] using hn
  have hib : i.bytes = bytes := by unfold bytOf at hby; simpa [hi] using hby
  have hzs : zx.cells.size = esz := by have := (hzv μ).cells.length; simp only [Array.length_toList] at this; omega
  obtain ⟨base, sLen, sCap, hsl⟩ := slice_of_append hv hx
  obtain ⟨k', hk'⟩ := asNat_VR hy hly
  rw [hsl] at hx he
  rw [hk'] at he
  have spec := app_zero (P := P) (w := w) (ty := o.type) (k' := k') (base := base) (sLen := sLen) (sCap := sCap) (m := n) ht hu hi hzx (by omega) (by omega) (by rw [hib]; exact hlim)
  rw [hin, hib] at spec
  have hrl : (repl n z.cellsOf).length = n * esz := by unfold repl; rw [List.length_flatten]; simp [hzl]
  exact (appendV_ok R hx ((hzv μ).cells.repl n) hrl hzs spec hv).call (f := Builtin.append_ c.argTypes o.type #[.slice base sLen sCap, .int k' (n : Int)]) he (by rw [argTypes_two ht0 hu0])

theorem op_delete (R : Rel P K w0 μ h w) {c : Call} {xo yo : Operand} {t e : TypeId} {kd k : IntKind} {n : Int} {x : V} (hb : c.callee = .builtin .delete) (ha : c.args.toList = [xo, yo]) (ht0 : c.argTypes[0]? = some t) (hm : mapOf P t = some (kd, e))
    (hx : VR μ x (ρ' xo)) (hy : VR μ (.int k n) (ρ' yo)) {h' : Heap} (hr : (x = .nilm ∧ h' = h) ∨ ∃ om es ins, x = .map om ∧ h.get om = some (.map k es ins) ∧ h' = h.put om (.map k (dropKey n es) ins)) {o : Oper} (ho : o.op = .call c) :
    Res P K w0 μ ((execOp ρ' o).run P w) .undef h' := by
  obtain ⟨cs, he⟩ := exec_builtin (ρ' := ρ') ho hb
  rw [args_two ha] at he
  have hy' : ρ' yo = .int k n := by generalize ρ' yo = y' at hy; cases hy; rfl
  rw [hy'] at he
  have hat : ∀ xs, Builtin.delete_ c.argTypes o.type xs = Builtin.delete_ #[t, t] o.type xs := by intro xs; unfold Builtin.delete_; rw [ht0]; rfl
  rcases hr with ⟨rfl, rfl⟩ | ⟨om, es, ins, rfl, hg, rfl⟩
  · have hx' : ρ' xo = .map none := by generalize ρ' xo = x' at hx; cases hx; rfl
    rw [hx'] at he
    obtain ⟨kt, h1, h2⟩ := mapOf_some hm
    refine (Res'.same (x := .tuple #[]) (r := (Builtin.delete_ #[t, t] o.type #[.map none, .int k n]).run P w) ?_ R (VR.undef μ)).call he (by rw [hat])
    unfold Builtin.delete_
    simp only [List.getElem?_toArray, List.getElem?_cons_zero, List.getElem?_cons_succ, Sem.run_bind, run_und h1, Result.andThen_ok, run_checkKey h2]
    rfl
  · exact (run_delete (u := t) (ty := o.type) (n := n) R hm hx hg).call he (by rw [hat])

theorem op_clearM (R : Rel P K w0 μ h w) {c : Call} {xo : Operand} {t k e : TypeId} {x : V} (hb : c.callee = .builtin .clear) (ha : c.args.toList = [xo]) (ht0 : c.argTypes[0]? = some t) (hd : P.underlying t = some (.map k e)) (hx : VR μ x (ρ' xo)) {h' : Heap}
    (hr : (x = .nilm ∧ h' = h) ∨ ∃ om kd es ins, x = .map om ∧ h.get om = some (.map kd es ins) ∧ h' = h.put om (.map kd [] ins)) {o : Oper} (ho : o.op = .call c) : Res P K w0 μ ((execOp ρ' o).run P w) .undef h' := by
  obtain ⟨cs, he⟩ := exec_builtin (ρ' := ρ') ho hb
  rw [args_one ha] at he
  rcases hr with ⟨rfl, rfl⟩ | ⟨om, kd, es, ins, rfl, hg, rfl⟩
  · have hx' : ρ' xo = .map none := by generalize ρ' xo = x' at hx; cases hx; rfl
    rw [hx'] at he
    refine (Res'.same (x := .tuple #[]) (r := (Builtin.clear_ c.argTypes o.type #[.map none]).run P w) ?_ R (VR.undef μ)).call he rfl
    simp [Builtin.clear_, ht0, run_und hd]
  · obtain ⟨l, es', clock, hl, hbk, hmr⟩ := R.mapAt hg
    have hx' : ρ' xo = .map (some l.blk) := by
      generalize ρ' xo = x' at hx
      cases hx with
      | @map _ l2 hl2 => rw [hl] at hl2; cases hl2; rfl
    rw [hx'] at he
    have hobj := run_getObj (P := P) hbk (fun _ _ _ q => by cases q)
    have hset := run_setObj (P := P) (o' := .map #[] clock) hbk (fun _ _ _ q => by cases q)
    have : Res' P K w0 μ ((Builtin.clear_ c.argTypes o.type #[.map (some l.blk)]).run P w) .undef (h.put om (.map kd [] ins)) := by
      refine ⟨μ, undef, _, ?_, Mu.le_refl μ, R.turnMap (es1' := #[]) (clock1 := clock) hg hl hbk ⟨by simp, fun n v q => by simp [hasKey] at q, rfl, by simp, by simp, by simp, by simp, by simp⟩ (.inr ⟨rfl, rfl, by simp⟩), VR.undef μ⟩
      unfold Builtin.clear_
      simp only [ht0, List.getElem?_toArray, List.getElem?_cons_zero, Sem.run_bind, run_und hd, Result.andThen_ok, hobj, hset]
      rfl
    exact this.call he rfl

theorem op_minmax (R : Rel P K w0 μ h w) {c : Call} {xo yo : Operand} {b : Bool} {k k' : IntKind} {m n : Int} (hb : c.callee = .builtin (if b then .min else .max)) (ha : c.args.toList = [xo, yo]) (hx : VR μ (.int k m) (ρ' xo)) (hy : VR μ (.int k' n) (ρ' yo))
    {o : Oper} (ho : o.op = .call c) : Res P K w0 μ ((execOp ρ' o).run P w) (.int k (match b with | true => (if n < m then n else m) | false => (if n > m then n else m))) h := by
  obtain ⟨cs, he⟩ := exec_builtin (ρ' := ρ') ho hb
  rw [args_two ha] at he
  have hx' : ρ' xo = .int k m := by generalize ρ' xo = x' at hx; cases hx; rfl
  have hy' : ρ' yo = .int k' n := by generalize ρ' yo = y' at hy; cases hy; rfl
  rw [hx', hy'] at he
  cases b with
  | true =>
    refine (Res'.same (x := .int k (if n < m then n else m)) (r := (Builtin.min_ c.argTypes o.type #[.int k m, .int k' n]).run P w) ?_ R (.int ..)).call he rfl
    simp [Builtin.min_, Builtin.min2]
  | false =>
    refine (Res'.same (x := .int k (if n > m then n else m)) (r := (Builtin.max_ c.argTypes o.type #[.int k m, .int k' n]).run P w) ?_ R (.int ..)).call he rfl
    simp [Builtin.max_, Builtin.max2]
end
end Go.Xr
