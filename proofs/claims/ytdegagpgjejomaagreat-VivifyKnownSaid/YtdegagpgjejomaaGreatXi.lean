/- X's operations are the machine's: what is built, cut, appended. -/
import Derived.Test.YtdegagpgjejomaaGreatXh
import Derived.Laws.AppendOwn
import Derived.Laws.MakeOwn
import Derived.Laws.Wrap64
namespace Go.Xr
open Go.RowKit
section
variable [RoLim] {P : Program} {K : Nat → Prop} {w0 : World} {μ μ' : Mu} {h h' : Heap} {w w' : World} {ρ : Rd} {ρ' : Operand → Value}

/-! ### Parts -/
omit [RoLim] in
theorem foldl_set {off : Nat} : ∀ (vs : List Value) (i : Nat) (cells : Array Value),
    ((vs.zipIdx i).foldl (fun cs p => cs.setIfInBounds (off + p.2) p.1) cells).size = cells.size ∧
    ∀ j : Nat, ((vs.zipIdx i).foldl (fun cs p => cs.setIfInBounds (off + p.2) p.1) cells)[j]? = if off + i ≤ j ∧ j < off + i + vs.length ∧ j < cells.size then vs[j - (off + i)]? else cells[j]?
  | [], i, cells => ⟨rfl, fun j => by rw [if_neg (by simp; omega)]; rfl⟩
  | v :: vs, i, cells => by
    obtain ⟨h1, h2⟩ := foldl_set (off := off) vs (i + 1) (cells.setIfInBounds (off + i) v)
    refine ⟨by simpa [List.zipIdx_cons] using h1, fun j => ?_⟩
    have := h2 j
    simp only [List.zipIdx_cons, List.foldl_cons]
    rw [this]
    simp only [Array.size_setIfInBounds, List.length_cons]
    by_cases e : off + (i + 1) ≤ j ∧ j < off + (i + 1) + vs.length ∧ j < cells.size
    · rw [if_pos e, if_pos (by omega), show j - (off + i) = (j - (off + (i + 1))) + 1 from by omega, List.getElem?_cons_succ]
    · rw [if_neg e]
      by_cases e2 : j = off + i ∧ j < cells.size
      · obtain ⟨rfl, e3⟩ := e2
        rw [if_pos (by omega)]
        simp [e3]
      · rw [if_neg (by omega), Array.getElem?_setIfInBounds]
        by_cases e4 : off + i = j
        · rw [if_pos e4, if_neg (by omega), Array.getElem?_eq_none (by omega)]
        · rw [if_neg e4]

omit [RoLim] in
theorem VRs.over {cs ws : List V} {cells : Array Value} {vs : Array Value} {off : Nat} (hc : VRs μ cs cells.toList) (hw : VRs μ ws vs.toList) (hle : off + ws.length ≤ cs.length) :
    VRs μ (Xr.over cs off ws) (vs.zipIdx.foldl (fun cs p => cs.setIfInBounds (off + p.2) p.1) cells).toList := by
  have h1 := hc.length
  have h2 := hw.length
  simp only [Array.length_toList] at h1 h2
  have e : vs.zipIdx.foldl (fun cs p => cs.setIfInBounds (off + p.2) p.1) cells = (vs.toList.zipIdx 0).foldl (fun cs p => cs.setIfInBounds (off + p.2) p.1) cells := by
    rw [← Array.foldl_toList]; simp
  rw [e]
  obtain ⟨h3, h4⟩ := foldl_set (off := off) vs.toList 0 cells
  refine VRs.of_get _ _ (by rw [over_length, h1, ← h3]; exact Array.length_toList.symm) fun i v x hv hx => ?_
  rw [Array.getElem?_toList, h4 i] at hx
  rw [over_get _ _ _ _ hle] at hv
  by_cases e : off ≤ i ∧ i < off + ws.length
  · rw [if_pos e] at hv
    rw [if_pos (by simp; omega)] at hx
    obtain ⟨y, hy, hr⟩ := hw.get hv
    simp only [Nat.add_zero] at hx
    rw [hy] at hx
    cases hx
    exact hr
  · rw [if_neg e] at hv
    rw [if_neg (by simp; omega)] at hx
    obtain ⟨y, hy, hr⟩ := hc.get hv
    rw [Array.getElem?_toList, hx] at hy
    cases hy
    exact hr

inductive PR (μ : Mu) (place : Nat → Option (Nat × Nat)) : List (Nat × Nat × V) → List (Nat × Value) → Prop
  | nil : PR μ place [] []
  | cons {i off n : Nat} {v : V} {x : Value} {a : List (Nat × Nat × V)} {b : List (Nat × Value)} (hp : place i = some (off, n)) (hv : VR μ v x) (hr : PR μ place a b) : PR μ place ((off, n, v) :: a) ((i, x) :: b)

omit [RoLim] in
theorem fill_VRs {place : Nat → Option (Nat × Nat)} : ∀ {ps : List (Nat × Nat × V)} {ps' : List (Nat × Value)} (_ : PR μ place ps ps') {cs cs' : List V} {cells : Array Value} (_ : VRs μ cs cells.toList) (_ : fillV cs ps = some cs'),
    ∃ cells', Instr.fill place cells ps' = some cells' ∧ VRs μ cs' cells'.toList
  | _, _, .nil, cs, cs', cells, hc, hf => by simp [fillV] at hf; subst hf; exact ⟨cells, rfl, hc⟩
  | (off, n, v) :: a, (i, x) :: b, .cons hp hv hr, cs, cs', cells, hc, hf => by
    simp only [fillV] at hf
    cases h1 : Nat.beq v.cellsOf.length n <;> cases h2 : Nat.ble (off + n) cs.length <;> simp only [h1, h2] at hf <;> try (cases hf; done)
    have h1 := Nat.eq_of_beq_eq_true h1
    have h2 := Nat.le_of_ble_eq_true h2
    have h3 := hv.cells.length
    have h4 := hc.length
    simp only [Array.length_toList] at h3 h4
    obtain ⟨cells', h5, h6⟩ := fill_VRs hr (hc.over hv.cells (by omega)) hf
    refine ⟨cells', ?_, h6⟩
    simp only [Instr.fill, hp]
    rw [if_neg (by simp; omega)]
    exact h5

omit [RoLim] in
theorem run_places : ∀ {fs : List Field} {pl : List (Nat × Nat)} (_ : placesOf P fs = some pl), (fs.mapM (m := Sem) fun f => do pure (f.offset, ← sizeOf f.type)).run P w = .ok pl w
  | [], pl, hp => by simp [placesOf] at hp; subst hp; rfl
  | f :: fs, pl, hp => by
    simp only [placesOf] at hp
    split at hp <;> try (cases hp; done)
    rename_i n r h1 h2
    injection hp with hp
    subst hp
    have ih := run_places h2
    simp at ih
    simp [run_sizeOf h1, ih]

theorem op_build_struct (R : Rel P K w0 μ h w) {t : TypeId} {fs : Array Field} {z : V} {pl : List (Nat × Nat)} {ps' : Array (Nat × Operand)} {ps : List (Nat × Nat × V)} {cs : List V} (ht : P.underlying t = some (.struct fs)) (hz : zeroOf P t = some z)
    (hpl : placesOf P fs.toList = some pl) (hps : PR μ (fun (i : Nat) => pl[i]?) ps (ps'.map fun (i, x) => (i, ρ' x)).toList) (hf : fillV z.cellsOf ps = some cs) {o : Oper} (ho : o.op = .build t ps') : Res P K w0 μ ((execOp ρ' o).run P w) (.agg cs) h := by
  obtain ⟨i, x, hi, hx, hv⟩ := zeroOf_some hz
  obtain ⟨cells, h1, h2⟩ := fill_VRs hps (hv μ).cells hf
  refine Res.same (x := .agg cells) ?_ R (by simpa using VR.agg h2)
  unfold execOp
  rw [ho]
  simp only [Instr.build, Sem.run_bind, run_zeroValue hi hx, run_und ht, Result.andThen_ok]
  rw [Array.mapM_eq_mapM_toList]
  simp only [Sem.run_map, run_places hpl, Result.andThen_ok]
  have e : (fun (i : Nat) => (pl.toArray)[i]?) = (fun (i : Nat) => pl[i]?) := by funext i; simp
  rw [e, h1]
  rfl

theorem op_build_array (R : Rel P K w0 μ h w) {t e : TypeId} {len n : Nat} {z : V} {ps' : Array (Nat × Operand)} {ps : List (Nat × Nat × V)} {cs : List V} (ht : P.underlying t = some (.array len e)) (hz : zeroOf P t = some z) (hn : sizOf P e = some n)
    (hps : PR μ (fun i => some (i * n, n)) ps (ps'.map fun (i, x) => (i, ρ' x)).toList) (hf : fillV z.cellsOf ps = some cs) {o : Oper} (ho : o.op = .build t ps') : Res P K w0 μ ((execOp ρ' o).run P w) (.agg cs) h := by
  obtain ⟨i, x, hi, hx, hv⟩ := zeroOf_some hz
  obtain ⟨cells, h1, h2⟩ := fill_VRs hps (hv μ).cells hf
  refine Res.same (x := .agg cells) ?_ R (by simpa using VR.agg h2)
  unfold execOp
  rw [ho]
  simp only [Instr.build, Sem.run_bind, run_zeroValue hi hx, run_und ht, Result.andThen_ok, run_sizeOf hn]
  rw [h1]
  rfl

omit [RoLim] in
theorem map_range_mod (z : Array Value) (n : Nat) (hz : 0 < z.size ∨ n = 0) : ((Array.range (n * z.size)).map (z[· % z.size]!)).toList = (List.replicate n z.toList).flatten := by
  apply List.ext_getElem?
  intro j
  by_cases hj : j < n * z.size
  · have hzp : 0 < z.size := by
      rcases hz with h | h
      · exact h
      · subst h; simp at hj
    have h1 : j % z.size < z.size := Nat.mod_lt _ hzp
    have h2 : j / z.size < n := Nat.div_lt_of_lt_mul (by rwa [Nat.mul_comm])
    rw [Array.getElem?_toList]
    simp only [Array.getElem?_map, Array.getElem?_range, hj, if_true, Option.map_some]
    have : ∀ (m : Nat) (j : Nat), j < m * z.size → ((List.replicate m z.toList).flatten)[j]? = z[j % z.size]? := by
      intro m
      induction m with
      | zero => intro j hj; simp at hj
      | succ m ih =>
        intro j hj
        simp only [List.replicate_succ, List.flatten_cons]
        by_cases hlt : j < z.size
        · rw [List.getElem?_append_left (by simpa using hlt), Nat.mod_eq_of_lt hlt, Array.getElem?_toList]
        · rw [List.getElem?_append_right (by simpa using hlt), ih _ (by simp [Nat.succ_mul] at hj ⊢; omega), Array.length_toList, ← Nat.mod_eq_sub_mod (by omega)]
    rw [this n j hj]
    simp [h1]
  · rw [List.getElem?_eq_none (by simp; omega), List.getElem?_eq_none]
    rw [List.length_flatten]
    simp
    omega

theorem op_bslice (R : Rel P K w0 μ h w) {t e : TypeId} {len n : Nat} {z : V} {ps' : Array (Nat × Operand)} {ps : List (Nat × Nat × V)} {cs : List V} (ht : P.underlying t = some (.slice e)) (hz : zeroOf P e = some z) (hn : sizOf P e = some n)
    (hzn : z.cellsOf.length = n) (hlim : len * n ≤ 16777216) (hpos : 0 < n)
    (hps : PR μ (fun i => some (i * n, n)) ps (ps'.map fun (i, x) => (i, ρ' x)).toList) (hf : fillV (repl len z.cellsOf) ps = some cs) {o : Oper} (ho : o.op = .buildSlice t len ps') :
    Res P K w0 μ ((execOp ρ' o).run P w) (.slice h.next 0 0 len (.exact len)) (newCells h cs n false) := by
  obtain ⟨i, x, hi, hx, hv⟩ := zeroOf_some hz
  have hxs := (hv μ).cells
  have hsz : x.cells.size = n := by have := hxs.length; simp only [Array.length_toList] at this; omega
  have hrow : VRs μ (repl len z.cellsOf) ((Array.range (len * n)).map (x.cells[· % x.cells.size]!)).toList := by
    rw [← hsz, map_range_mod _ _ (by omega)]
    exact hxs.repl len
  obtain ⟨cells, h1, h2⟩ := fill_VRs hps hrow hf
  refine ⟨_, .slice (some ⟨w.heap.size, 0, none⟩) len len, w.alloc (.cells cells e), _, ?_, .inl rfl, Mu.le_put _ (R.fresh 0), R.pushCells (w' := w.alloc (.cells cells e)) cs n 0 false cells e rfl rfl rfl rfl (fun i v hg => ?_) (fun q => by cases q), VR.exact (Mu.put_same ..) _ (.inl rfl) (Nat.le_refl _)⟩
  · unfold execOp
    rw [ho]
    simp only [Instr.buildSlice, Sem.run_bind, run_und ht, Result.andThen_ok, run_sizeOf hn]
    rw [if_neg (by omega)]
    by_cases h0 : len * n = 0
    · rw [if_pos h0]
      have e1 : ∀ f : Nat → Value, (Array.range (len * n)).map f = #[] := fun f => by rw [h0]; simp
      rw [e1] at h1
      simp only [pure_bind]
      rw [e1, h1]
      simp [newRow]
    · rw [if_neg h0]
      simp only [Sem.run_bind, run_zeroValue hi hx, Result.andThen_ok, Sem.run_pure]
      rw [h1]
      simp [newRow]
  · obtain ⟨y, h3, h4⟩ := h2.get hg
    exact ⟨y, by simpa using h3, h4⟩

theorem op_mkslice (R : Rel P K w0 μ h w) {t e : TypeId} {n b : Nat} {z : V} {l c : Nat} {lv cv : V} {lo co : Operand} (ht : P.underlying t = some (.slice e)) (hz : zeroOf P e = some z) (hn : sizOf P e = some n) (hb : bytOf P e = some b)
    (hzn : z.cellsOf.length = n) (hpos : 0 < n) (hbp : 0 < b) (hl : VR μ lv (ρ' lo)) (hc : VR μ cv (ρ' co)) (hln : asNat lv = some l) (hcn : asNat cv = some c) (hlc : l ≤ c) (hlim : c * b ≤ 140737488355328) {o : Oper} (ho : o.op = .makeSlice t lo co) :
    Res P K w0 μ ((execOp ρ' o).run P w) (.slice h.next 0 0 l (.exact c)) (newCells h (repl c z.cellsOf) z.cellsOf.length false) := by
  obtain ⟨i, x, hi, hx, hv⟩ := zeroOf_some hz
  obtain ⟨k1, e1⟩ := asNat_VR hl hln
  obtain ⟨k2, e2⟩ := asNat_VR hc hcn
  have hxs := (hv μ).cells
  have hsz : x.cells.size = n := by have := hxs.length; simp only [Array.length_toList] at this; omega
  have hin : i.size = n := by unfold sizOf at hn; simpa [hi] using hn
  have hib : i.bytes = b := by unfold bytOf at hb; simpa [hi] using hb
  have hle : c ≤ c * b := Nat.le_mul_of_pos_right c hbp
  have hb2 : (i.bytes : Int) * (c : Int) ≤ 281474976710656 := by
    rw [hib]
    have : ((b * c : Nat) : Int) ≤ 281474976710656 := by rw [Nat.mul_comm]; omega
    rwa [Int.natCast_mul] at this
  have hr := run_make (P := P) w t e i x ht hi hx k1 k2 l c (by omega) (by omega) hb2 (by omega)
  simp only [Int.toNat_natCast] at hr
  have hrow : VRs μ (repl c z.cellsOf) (madeCells x.cells (c * i.size)).toList := by
    rw [hin, ← hsz]
    show VRs μ _ ((Array.range (c * x.cells.size)).map (x.cells[· % x.cells.size]!)).toList
    rw [map_range_mod _ _ (by omega)]
    exact hxs.repl c
  refine ⟨_, .slice (some ⟨w.heap.size, 0, none⟩) l c, w.alloc (.cells (madeCells x.cells (c * i.size)) e), _, ?_, .inl rfl, Mu.le_put _ (R.fresh 0),
    R.pushCells (w' := w.alloc (.cells (madeCells x.cells (c * i.size)) e)) (repl c z.cellsOf) z.cellsOf.length 0 false (madeCells x.cells (c * i.size)) e rfl rfl rfl rfl (fun j v hg => ?_) (fun q => by cases q), VR.exact (Mu.put_same ..) _ (.inl rfl) hlc⟩
  · unfold execOp
    rw [ho]
    simp only [e1, e2, Sem.run_bind, hr, Result.andThen_ok]
    rfl
  · obtain ⟨y, h3, h4⟩ := hrow.get hg
    exact ⟨y, by simpa using h3, h4⟩

/-! ### Elements -/
omit [RoLim] in
theorem lenV_run {v : V} {x : Value} (hv : VR μ v x) {n : Nat} (hl : lenV v = some n) : ∀ w : World, (Builtin.lenOf x).run P w = .ok n w := by
  intro w
  cases hv <;> simp [lenV] at hl <;> subst hl <;> simp [Builtin.lenOf]

omit [RoLim] in
theorem cell_heap {w w' : World} (hh : w'.heap = w.heap) (a : Addr) : w'.cell? a = w.cell? a := by simp [World.cell?, hh]

theorem elems_run (R : Rel P K w0 μ h w) {v : V} {x : Value} (hv : VR μ v x) {esz n m : Nat} {xs : List V} (hl : lenV v = some m) (hnm : n ≤ m) (he : elemsOf h esz n v = some xs) :
    ∃ ns, VRs μ xs ns ∧ ∀ w' : World, w'.heap = w.heap → (Builtin.firstCells esz n x).run P w' = .ok ns.toArray w' := by
  have slice : ∀ (o g off : Nat) (l : Loc) (cap len : Nat), μ o g = some l → readCells h o g off (n * esz) = some xs →
      ∃ ns, VRs μ xs ns ∧ ∀ w' : World, w'.heap = w.heap → (Builtin.firstCells esz n (.slice (some ⟨l.blk, l.base + off, none⟩) len cap)).run P w' = .ok ns.toArray w' := by
    intro o g off l cap len hm hr
    obtain ⟨ns, h1, h2, h3, h4⟩ := R.read hr hm
    refine ⟨ns, h1, fun w' hh => ?_⟩
    have := run_loadCells_read (P := P) (w := w') (xs := ns) (b := l.blk) (off := l.base + off) (fun j y hy => by rw [cell_heap hh]; exact h4 j y hy)
    rw [h3] at this
    simpa [Builtin.firstCells] using this
  cases hv <;> simp only [lenV, Option.some.injEq, reduceCtorEq] at hl <;> simp only [elemsOf, Option.some.injEq] at he
  · rename_i s
    subst he
    refine ⟨(s.data.toList.take n).map fun b => Value.int .u8 (b.toNat : Int), ?_, fun w' _ => ?_⟩
    · generalize s.data.toList.take n = l
      induction l with
      | nil => exact .nil
      | cons b l ih => exact .cons (.int ..) ih
    · simp only [Builtin.firstCells, Sem.run_pure]
      congr 1
      apply Array.ext'
      simp
  · subst he
    exact ⟨[], .nil, fun w' _ => by simp [Builtin.firstCells]⟩
  · rename_i o g off len c l hm a ha hlc
    rcases ha with rfl | ⟨h0, _⟩
    · exact slice o g off l _ _ hm he
    · have hn0 : n = 0 := by omega
      subst hn0
      obtain ⟨ns, h1, h2, h3, h4⟩ := R.read he hm
      simp only [Nat.zero_mul] at h2 h3
      have : ns = [] := List.eq_nil_of_length_eq_zero h3
      subst this
      exact ⟨[], h1, fun w' _ => by simp [Builtin.firstCells, loadCells, loadCellsFrom]⟩
  · rename_i o g off len k e0 l hm a ha hc hoff he0
    rcases ha with rfl | ⟨h0, _⟩
    · exact slice o g off l _ _ hm he
    · have hn0 : n = 0 := by omega
      subst hn0
      obtain ⟨ns, h1, h2, h3, h4⟩ := R.read he hm
      simp only [Nat.zero_mul] at h2 h3
      have : ns = [] := List.eq_nil_of_length_eq_zero h3
      subst this
      exact ⟨[], h1, fun w' _ => by simp [Builtin.firstCells, loadCells, loadCellsFrom]⟩
end
end Go.Xr
