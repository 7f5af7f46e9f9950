/- What makes may be done ahead of its turn: the block is put aside, and taken up when X comes to it. -/
import Derived.Test.YtdegagpgjejomaaGreatYa
namespace Go.Xr
open Go.RowKit

mutual
theorem VR.closed {μ μ2 : Mu} : ∀ (v : V) {x : Value}, closedV v = true → VR μ v x → VR μ2 v x
  | .int k n, _, _, h => by cases h; exact .int ..
  | .bool b, _, _, h => by cases h; exact .bool ..
  | .str s, _, _, h => by cases h; exact .str ..
  | .nilp, _, _, h => by cases h; exact .nilp
  | .nils, _, _, h => by cases h; exact .nils
  | .nilm, _, _, h => by cases h; exact .nilm
  | .nilf, _, _, h => by cases h; exact .nilf
  | .nili, _, _, h => by cases h; exact .nili
  | .func f a b, _, hc, h => by
    simp only [closedV, Bool.and_eq_true] at hc
    cases h with
    | func h h' => exact .func (VRs.closed a hc.1 h) (VRs.closed b hc.2 h')
  | .iface t v, _, hc, h => by
    simp only [closedV] at hc
    cases h with
    | iface h => exact .iface (VR.closed v hc h)
  | .agg vs, _, hc, h => by
    simp only [closedV] at hc
    cases h with
    | agg h => exact .agg (VRs.closed vs hc h)
  | .tup vs, _, hc, h => by
    simp only [closedV] at hc
    cases h with
    | tup h => exact .tup (VRs.closed vs hc h)
  | .ptr .., _, hc, _ => by simp [closedV] at hc
  | .slice .., _, hc, _ => by simp [closedV] at hc
  | .map _, _, hc, _ => by simp [closedV] at hc
  | .yield _, _, hc, _ => by simp [closedV] at hc
  | .iter _, _, hc, _ => by simp [closedV] at hc
  | .any, _, hc, _ => by simp [closedV] at hc
  | .hole _, _, hc, _ => by simp [closedV] at hc
  | .stamp _, _, hc, _ => by simp [closedV] at hc
theorem VRs.closed {μ μ2 : Mu} : ∀ (vs : List V) {xs : List Value}, closedVs vs = true → VRs μ vs xs → VRs μ2 vs xs
  | [], _, _, h => by cases h; exact .nil
  | v :: vs, _, hc, h => by
    simp only [closedVs, Bool.and_eq_true] at hc
    cases h with
    | cons h h' => exact .cons (VR.closed v hc.1 h) (VRs.closed vs hc.2 h')
end

mutual
theorem VR.down {μ μ' : Mu} (hle : μ.le μ') : ∀ {v : V} {x0 : Value}, VR μ v x0 → ∀ {x : Value}, VR μ' v x → VR μ v x
  | _, _, .int k n, _, h => by cases h; exact .int ..
  | _, _, .bool b, _, h => by cases h; exact .bool ..
  | _, _, .str s, _, h => by cases h; exact .str ..
  | _, _, .nilp, _, h => by cases h; exact .nilp
  | _, _, .ptr h0, _, h => by
    cases h with
    | ptr h1 => have := hle _ _ _ h0; rw [h1] at this; cases this; exact .ptr h0
  | _, _, .nils, _, h => by cases h; exact .nils
  | _, _, .exact h0 _ _ _, _, h => by
    cases h with
    | exact h1 a ha hc => have := hle _ _ _ h0; rw [h1] at this; cases this; exact .exact h0 a ha hc
  | _, _, .rest h0 _ _ _ _ _, _, h => by
    cases h with
    | rest h1 a ha hn ho he => have := hle _ _ _ h0; rw [h1] at this; cases this; exact .rest h0 a ha hn ho he
  | _, _, .nilm, _, h => by cases h; exact .nilm
  | _, _, .map h0, _, h => by
    cases h with
    | map h1 => have := hle _ _ _ h0; rw [h1] at this; cases this; exact .map h0
  | _, _, .nilf, _, h => by cases h; exact .nilf
  | _, _, .func a b, _, h => by
    cases h with
    | func a1 b1 => exact .func (VRs.down hle a a1) (VRs.down hle b b1)
  | _, _, .yield h0, _, h => by
    cases h with
    | yield h1 => have := hle _ _ _ h0; rw [h1] at this; cases this; exact .yield h0
  | _, _, .nili, _, h => by cases h; exact .nili
  | _, _, .iface h0, _, h => by
    cases h with
    | iface h1 => exact .iface (VR.down hle h0 h1)
  | _, _, .iter h0, _, h => by
    cases h with
    | iter h1 => have := hle _ _ _ h0; rw [h1] at this; cases this; exact .iter h0
  | _, _, .hole _, _, h => by
    cases h with
    | hole h1 => exact .hole h1
  | _, _, .stamp h0, _, h => by
    cases h with
    | stamp h1 => have := hle _ _ _ h0; rw [h1] at this; cases this; exact .stamp h0
  | _, _, .agg a, _, h => by
    cases h with
    | agg a1 => exact .agg (VRs.down hle a a1)
  | _, _, .tup a, _, h => by
    cases h with
    | tup a1 => exact .tup (VRs.down hle a a1)
  | _, _, .any _, _, h => by
    cases h with
    | any hx => exact .any hx
theorem VRs.down {μ μ' : Mu} (hle : μ.le μ') : ∀ {v : List V} {x0 : List Value}, VRs μ v x0 → ∀ {x : List Value}, VRs μ' v x → VRs μ v x
  | _, _, .nil, _, h => by cases h; exact .nil
  | _, _, .cons a b, _, h => by
    cases h with
    | cons a1 b1 => exact .cons (VR.down hle a a1) (VRs.down hle b b1)
end

theorem DRs.down {μ μ' : Mu} (hle : μ.le μ') {D : List XDef} {ds0 : List Deferred} (h0 : DRs μ D ds0) : ∀ {ds : List Deferred}, DRs μ' D ds → DRs μ D ds := by
  induction h0 with
  | nil => intro ds h; cases h; exact .nil
  | call h _ ih => intro ds h'; cases h' with
    | call h1 hr1 => exact .call (h.down hle h1) (ih hr1)
  | coll h _ ih => intro ds h'; cases h' with
    | coll h1 hr1 => have := hle _ _ _ h; rw [h1] at this; cases this; exact .coll h (ih hr1)

/-- What it names was there already. -/
def Sup (μ : Mu) (v : V) : Prop := closedV v = true ∨ ∃ x, VR μ v x

theorem Sup.lift {μ μ' μ2 : Mu} {v : V} {x : Value} (hs : Sup μ v) (h1 : μ.le μ') (h2 : μ.le μ2) (hv : VR μ' v x) : VR μ2 v x := by
  rcases hs with hc | ⟨x0, h0⟩
  · exact hv.closed v hc
  · exact (h0.down h1 hv).mono h2

theorem closedVs_mem : ∀ {vs : List V}, closedVs vs = true → ∀ v ∈ vs, closedV v = true
  | [], _, v, hv => by cases hv
  | a :: vs, h, v, hv => by
    simp only [closedVs, Bool.and_eq_true] at h
    rcases List.mem_cons.1 hv with rfl | hv
    · exact h.1
    · exact closedVs_mem h.2 v hv

theorem closedV_cells {v : V} (h : closedV v = true) : ∀ c ∈ v.cellsOf, closedV c = true := by
  intro c hc
  cases v with
  | agg vs => simp only [closedV] at h; exact closedVs_mem h c hc
  | _ => simp only [V.cellsOf, List.mem_singleton] at hc; subst hc; exact h

theorem VRs.mem {μ : Mu} : ∀ {vs : List V} {xs : List Value}, VRs μ vs xs → ∀ v ∈ vs, ∃ x, VR μ v x
  | _, _, .nil, v, hv => by cases hv
  | _, _, .cons a b, v, hv => by
    rcases List.mem_cons.1 hv with rfl | hv
    · exact ⟨_, a⟩
    · exact VRs.mem b v hv

theorem mem_over {c : V} : ∀ {cs : List V} {i : Nat} {vs : List V}, c ∈ over cs i vs → c ∈ cs ∨ c ∈ vs
  | cs, i, [], h => by rw [over_nil] at h; exact .inl h
  | [], i, v :: vs, h => by simp [over] at h
  | a :: cs, 0, v :: vs, h => by
    simp only [over] at h
    rcases List.mem_cons.1 h with rfl | h
    · exact .inr (List.mem_cons_self ..)
    · exact (mem_over h).imp (List.mem_cons_of_mem _) (List.mem_cons_of_mem _)
  | a :: cs, i + 1, v :: vs, h => by
    simp only [over] at h
    rcases List.mem_cons.1 h with rfl | h
    · exact .inl (List.mem_cons_self ..)
    · exact (mem_over h).imp (List.mem_cons_of_mem _) id

theorem mem_fillV {c : V} : ∀ {ps : List (Nat × Nat × V)} {cs out : List V}, fillV cs ps = some out → c ∈ out → c ∈ cs ∨ ∃ p ∈ ps, c ∈ p.2.2.cellsOf
  | [], cs, out, h, hc => by simp only [fillV, Option.some.injEq] at h; subst h; exact .inl hc
  | (off, n, v) :: ps, cs, out, h, hc => by
    simp only [fillV] at h
    split at h <;> try (cases h; done)
    rcases mem_fillV h hc with h1 | ⟨p, hp, h1⟩
    · rcases mem_over h1 with h2 | h2
      · exact .inl h2
      · exact .inr ⟨_, List.mem_cons_self .., h2⟩
    · exact .inr ⟨p, List.mem_cons_of_mem _ hp, h1⟩

/-! ## What is made -/
def newObj (cs : List V) (esz : Nat) : XObj := .cells ⟨cs, 0, [cs.length], false, esz, false⟩

def makeOf (op : XOp) (ρ : Rd) : Option ((Nat → V) × XObj) :=
  match op with
  | .alloc zs => some (fun o => .ptr o 0 0, newObj zs 1)
  | .box x => some (fun o => .ptr o 0 0, newObj (ρ x).cellsOf 1)
  | .bslice esz zs ps n => match fillV zs (parts ρ ps) with
    | some cs => some (fun o => .slice o 0 0 n (.exact n), newObj cs esz)
    | none => none
  | .mkmap kd => some (fun o => .map o, .map kd [] 0)
  | .mkslice zs bytes l c => match asNat (ρ l), asNat (ρ c) with
    | some l, some c => match Nat.ble l c, Nat.ble (c * bytes) 140737488355328 with
      | true, true => some (fun o => .slice o 0 0 l (.exact c), newObj (repl c zs) zs.length)
      | _, _ => none
    | _, _ => none
  | _ => none

theorem ev_makeOf {op : XOp} {ρ : Rd} {f : Nat → V} {xo : XObj} (hm : makeOf op ρ = some (f, xo)) (h : Heap) : opEv op ρ h = some (f h.next, h.push xo) := by
  cases op <;> simp only [makeOf] at hm <;> try (cases hm; done)
  case alloc => simp only [Option.some.injEq, Prod.mk.injEq] at hm; obtain ⟨rfl, rfl⟩ := hm; rfl
  case box => simp only [Option.some.injEq, Prod.mk.injEq] at hm; obtain ⟨rfl, rfl⟩ := hm; rfl
  case mkmap => simp only [Option.some.injEq, Prod.mk.injEq] at hm; obtain ⟨rfl, rfl⟩ := hm; rfl
  case bslice =>
    split at hm <;> simp at hm
    rename_i cs hf
    obtain ⟨rfl, rfl⟩ := hm
    simp only [opEv, hf]
    rfl
  case mkslice =>
    split at hm <;> try (simp at hm; done)
    rename_i l c h1 h2
    split at hm <;> simp at hm
    rename_i h3 h4
    obtain ⟨rfl, rfl⟩ := hm
    simp only [opEv, h1, h2, h3, h4]
    rfl

theorem makeOf_ev {i : Info} (hk : okMake i = true) {ρ : Rd} {h h1 : Heap} {v : V} (he : opEv i.step.op ρ h = some (v, h1)) : ∃ f xo, makeOf i.step.op ρ = some (f, xo) := by
  unfold okMake at hk
  cases hop : i.step.op <;> rw [hop] at hk he <;> simp only at hk <;> try (cases hk; done)
  case alloc => exact ⟨_, _, rfl⟩
  case box => exact ⟨_, _, rfl⟩
  case mkmap => exact ⟨_, _, rfl⟩
  case bslice =>
    simp only [opEv] at he
    split at he <;> simp at he
    rename_i cs hf
    exact ⟨_, _, by simp only [makeOf, hf]; rfl⟩
  case mkslice =>
    simp only [opEv] at he
    split at he <;> try (simp at he; done)
    rename_i l c h1 h2
    split at he <;> simp at he
    rename_i h3 h4
    exact ⟨_, _, by simp only [makeOf, h1, h2, h3, h4]; rfl⟩

theorem opd_agree {ns : List Nat} {t t' : Tr V} (h : ∀ y ∈ ns, slotOf t' y = slotOf t y) {x : Opd} (hx : opdOk ns x = true) : rd t' x = rd t x := by
  cases x with
  | slot i => exact h i (by simpa [opdOk] using hx)
  | const v => rfl

theorem makeOf_agree {i : Info} (hk : okMake i = true) {t t' : Tr V} (h : ∀ y ∈ i.names, slotOf t' y = slotOf t y) : makeOf i.step.op (rd t') = makeOf i.step.op (rd t) := by
  unfold okMake at hk
  cases hop : i.step.op <;> rw [hop] at hk <;> simp only at hk <;> try (cases hk; done)
  case alloc => rfl
  case mkmap => rfl
  case box x => simp only [makeOf, opd_agree h hk]
  case bslice esz zs ps n =>
    simp only [Bool.and_eq_true, List.all_eq_true] at hk
    have : parts (rd t') ps = parts (rd t) ps := by
      unfold parts
      refine List.map_congr_left fun p hp => ?_
      obtain ⟨a, b, x⟩ := p
      have := opd_agree h (hk.2 _ hp)
      simp only at this ⊢
      rw [this]
    simp only [makeOf, this]
  case mkslice zs b l c =>
    simp only [Bool.and_eq_true] at hk
    simp only [makeOf, opd_agree h hk.2.1, opd_agree h hk.2.2]

theorem opd_sup {μ : Mu} {ns : List Nat} {t : Tr V} (h : ∀ y ∈ ns, ∃ x, VR μ (slotOf t y) x) {x : Opd} (hx : opdOk ns x = true) : ∀ c ∈ (rd t x).cellsOf, Sup μ c := by
  intro c hc
  cases x with
  | slot i =>
    obtain ⟨y, hy⟩ := h i (by simpa [opdOk] using hx)
    exact .inr (hy.cells.mem c hc)
  | const v => exact .inl (closedV_cells hx c hc)

theorem repl_mem {c : V} {n : Nat} {zs : List V} (h : c ∈ repl n zs) : c ∈ zs := by
  unfold repl at h
  obtain ⟨l, hl, hc⟩ := List.mem_flatten.1 h
  rw [(List.mem_replicate.1 hl).2] at hc
  exact hc

theorem make_form {i : Info} (hk : okMake i = true) {μ : Mu} {t : Tr V} (h : ∀ y ∈ i.names, ∃ x, VR μ (slotOf t y) x) {f : Nat → V} {xo : XObj} (hm : makeOf i.step.op (rd t) = some (f, xo)) :
    (∃ cs esz, xo = newObj cs esz ∧ (∀ c ∈ cs, Sup μ c) ∧ ((f = fun o => .ptr o 0 0) ∨ ∃ l c, f = fun o => .slice o 0 0 l (.exact c))) ∨ (∃ kd, xo = .map kd [] 0 ∧ f = fun o => .map o) := by
  unfold okMake at hk
  cases hop : i.step.op <;> rw [hop] at hk hm <;> simp only at hk <;> try (cases hk; done)
  case alloc zs =>
    simp only [makeOf, Option.some.injEq, Prod.mk.injEq] at hm
    obtain ⟨rfl, rfl⟩ := hm
    exact .inl ⟨_, _, rfl, fun c hc => .inl (closedVs_mem hk c hc), .inl rfl⟩
  case box x =>
    simp only [makeOf, Option.some.injEq, Prod.mk.injEq] at hm
    obtain ⟨rfl, rfl⟩ := hm
    exact .inl ⟨_, _, rfl, opd_sup h hk, .inl rfl⟩
  case mkmap kd =>
    simp only [makeOf, Option.some.injEq, Prod.mk.injEq] at hm
    obtain ⟨rfl, rfl⟩ := hm
    exact .inr ⟨_, rfl, rfl⟩
  case bslice esz zs ps n =>
    simp only [Bool.and_eq_true, List.all_eq_true] at hk
    simp only [makeOf] at hm
    split at hm <;> simp at hm
    rename_i cs hf
    obtain ⟨rfl, rfl⟩ := hm
    refine .inl ⟨_, _, rfl, fun c hc => ?_, .inr ⟨_, _, rfl⟩⟩
    rcases mem_fillV hf hc with h1 | ⟨p, hp, h1⟩
    · exact .inl (closedVs_mem hk.1 c h1)
    · unfold parts at hp
      obtain ⟨q, hq, rfl⟩ := List.mem_map.1 hp
      exact opd_sup h (hk.2 q hq) c h1
  case mkslice zs b l c =>
    simp only [Bool.and_eq_true] at hk
    simp only [makeOf] at hm
    split at hm <;> try (simp at hm; done)
    split at hm <;> simp at hm
    obtain ⟨rfl, rfl⟩ := hm
    exact .inl ⟨_, _, rfl, fun c hc => .inl (closedVs_mem hk.1 c (repl_mem hc)), .inr ⟨_, _, rfl⟩⟩

section
variable [RoLim] {P : Program}

/-- Nothing in X's heap turns. -/
theorem Rel.below {K : Nat → Prop} {w0 w w' : World} {μ : Mu} {h : Heap} (R : Rel P K w0 μ h w) (hb : Below w.heap.size w w') : Rel P K w0 μ h w' := by
  have hsame : ∀ o g l, μ o g = some l → w'.heap[l.blk]? = w.heap[l.blk]? := fun o g l hm => hb.block _ (R.dom o g l hm).2
  refine ⟨fun o g l hm => ⟨(R.dom o g l hm).1, Nat.lt_of_lt_of_le (R.dom o g l hm).2 hb.size⟩, R.gens, fun o x hx => ⟨(R.obj o x hx).1, (R.obj o x hx).2.frame (Mu.le_refl μ) fun g l _ hm => hsame o g l hm⟩, fun o mo ins seen cur kd es ins' h1 h2 => ?_, R.apart, R.own,
    fun b hK => ⟨(R.kept b hK).1, (hb.block b (Nat.lt_of_lt_of_le (R.kept b hK).1 R.size)).trans (R.kept b hK).2⟩, hb.os.trans R.os, hb.tape.trans R.tape, hb.output.trans R.output, Nat.le_trans R.size hb.size, R.low⟩
  obtain ⟨i1, i2⟩ := R.iters o mo ins seen cur kd es ins' h1 h2
  refine ⟨i1, fun e => ?_⟩
  intro lm l es' clock hm hl hw
  rw [hsame _ _ _ hm] at hw
  obtain ⟨seen', a, b⟩ := i2 e lm l es' clock hm hl hw
  exact ⟨seen', (hsame _ _ _ hl).trans a, b⟩

/-- With nothing told of any object. -/
theorem Rel.bare {K : Nat → Prop} {w0 w : World} {μ : Mu} {h : Heap} (R : Rel P K w0 μ h w) : Rel P (fun c => c < w.heap.size) w μ ⟨.lf, h.next⟩ w := by
  have hn : ∀ o, (⟨.lf, h.next⟩ : Heap).get o = none := fun o => Tr.get_lf o
  have hl : ∀ o g, ¬ Live (⟨.lf, h.next⟩ : Heap) o g := fun o g ⟨x, e, _⟩ => by rw [hn] at e; cases e
  exact ⟨R.dom, (fun o g l x _ e => by rw [hn] at e; cases e), (fun o x e => by rw [hn] at e; cases e), (fun o mo ins seen cur kd es ins' e => by rw [hn] at e; cases e), (fun o g l o' g' l' e => absurd e (hl o g)),
    (fun o g l e => absurd e (hl o g)), (fun b hb => ⟨hb, rfl⟩), rfl, rfl, rfl, Nat.le_refl _, Nat.le_trans R.low R.size⟩

theorem Rel.weaker {K K' : Nat → Prop} {w0 w : World} {μ : Mu} {h : Heap} (R : Rel P K w0 μ h w) (hK : ∀ b, K' b → K b) : Rel P K' w0 μ h w :=
  ⟨R.dom, R.gens, R.obj, R.iters, R.apart, fun o g l hl hm => (R.own o g l hl hm).imp id fun hk hb => hk (hK _ hb), fun b hb => R.kept b (hK b hb), R.os, R.tape, R.output, R.size, R.low⟩

/-- A block that was put aside is taken up as a new object. -/
theorem Rel.adopt {KK : Nat → Prop} {W w wE : World} {μ μ' μ2 : Mu} {h : Heap} (R : Rel P KK W μ2 h w) {o : Nat} {l : Loc} {xo : XObj} (h1 : μ.le μ') (h2 : μ.le μ2) (hlim : RoLim.lim ≤ l.blk) (hK : KK l.blk) (hW : W.heap[l.blk]? = wE.heap[l.blk]?)
    (hl : μ' o 0 = some l) (hor : OR P μ' wE o xo) (hform : (∃ cs esz, xo = newObj cs esz ∧ ∀ c ∈ cs, Sup μ c) ∨ ∃ kd, xo = .map kd [] 0) : Rel P (fun c => KK c ∧ c ≠ l.blk) W (μ2.put h.next 0 l) (h.push xo) w := by
  have hkept := R.kept _ hK
  have hblk : w.heap[l.blk]? = wE.heap[l.blk]? := hkept.2.trans hW
  have hlt : l.blk < w.heap.size := Nat.lt_of_lt_of_le hkept.1 R.size
  have R3 : Rel P (fun c => KK c ∧ c ≠ l.blk) W μ2 h w := R.weaker fun b hb => hb.1
  have hle : μ2.le (μ2.put h.next 0 l) := Mu.le_put _ (R.fresh 0)
  have hle2 : μ.le (μ2.put h.next 0 l) := Mu.le_trans h2 hle
  have hno : ∀ o' g' l', (μ2.put h.next 0 l) o' g' = some l' → μ2 o' g' = some l' ∨ (o' = h.next ∧ g' = 0 ∧ l' = l) := by
    intro o' g' l' hm
    by_cases e : o' = h.next ∧ g' = 0
    · obtain ⟨rfl, rfl⟩ := e
      rw [Mu.put_same] at hm
      cases hm
      exact .inr ⟨rfl, rfl, rfl⟩
    · rw [Mu.put_other _ _ e] at hm
      exact .inl hm
  have hmine : Mine (fun c => KK c ∧ c ≠ l.blk) μ2 h h.next l.blk := ⟨fun hb => hb.2 rfl, fun o' g' l' _ hlv hm e => by
    rcases R.own o' g' l' hlv hm with ⟨_, hr⟩ | hk
    · omega
    · rw [e] at hk; exact hk hK⟩
  have hgen0 : genX xo 0 := by
    rcases hform with ⟨cs, esz, rfl, _⟩ | ⟨kd, rfl⟩
    · exact Nat.le_refl 0
    · rfl
  refine R3.step h.next xo hle (fun o' => Heap.get_push ..) (Nat.le_succ _) (Nat.lt_succ_self _) (Nat.le_refl _) (fun b _ => .inl rfl) (fun o' g' l' hm => ?_) (fun g' l' _ hm => ?_) (fun g' l' hm => ?_) ?_ (fun oi mo ins seen cur kd es ins' q1 q2 q3 => ?_) rfl rfl rfl
  · rcases hno _ _ _ hm with h1 | ⟨rfl, _, rfl⟩
    · exact .inl h1
    · exact .inr ⟨rfl, hlt⟩
  · rcases hno _ _ _ hm with h1 | ⟨_, _, rfl⟩
    · rw [R.fresh] at h1; cases h1
    · exact hmine
  · rcases hno _ _ _ hm with h1 | ⟨_, rfl, rfl⟩
    · rw [R.fresh] at h1; cases h1
    · exact hgen0
  · rcases hform with ⟨cs, esz, rfl, hsup⟩ | ⟨kd, rfl⟩
    · obtain ⟨a1, a2, _⟩ := hor
      refine ⟨fun g' L hL => ?_, by simp, fun g1 g2 M M' l1 l2 hM hM' m1 m2 _ => ?_⟩
      · obtain ⟨rfl, rfl⟩ := lenOf_only rfl hL
        obtain ⟨l', arr, et, fz, q1, q2, q3, q4, q5, q6, q7⟩ := a1 0 cs.length hL
        rw [hl] at q1
        cases q1
        refine ⟨l, arr, et, fz, Mu.put_same .., q2, hblk.trans q3, q4, q5, fun i v hi hv => ?_, q7⟩
        obtain ⟨x, x1, x2⟩ := q6 i v hi hv
        exact ⟨x, x1, (hsup v (List.mem_of_getElem? hv)).lift h1 hle2 x2⟩
      · obtain ⟨rfl, rfl⟩ := lenOf_only rfl hM
        obtain ⟨rfl, rfl⟩ := lenOf_only rfl hM'
        rw [m1] at m2
        cases m2
        rfl
    · obtain ⟨l', es', clock, q1, q2, q3⟩ := hor
      rw [hl] at q1
      cases q1
      have he : es' = #[] := by
        have := q3.size
        simp at this
        first | exact this | (exact Array.eq_empty_of_size_eq_zero this.symm) | (exact Array.eq_empty_of_size_eq_zero this)
      subst he
      exact ⟨l, #[], clock, Mu.put_same .., hblk.trans q2, ⟨by simp, fun n v q => by simp [hasKey] at q, rfl, by simp, by simp, by simp, by simp, by simp⟩⟩
  · rw [Heap.get_push] at q1 q2
    rcases hform with ⟨cs, esz, rfl, _⟩ | ⟨kd', rfl⟩
    · rcases q3 with rfl | rfl
      · rw [if_pos rfl] at q1; cases q1
      · rw [if_pos rfl] at q2; cases q2
    · rcases q3 with rfl | rfl
      · rw [if_pos rfl] at q1; cases q1
      · by_cases e : oi = h.next
        · rw [if_pos e] at q1; cases q1
        · rw [if_neg e] at q1
          obtain ⟨l1, hl1, lm, hlm, _⟩ := (R.obj oi _ q1).2
          rw [R.fresh] at hlm
          cases hlm

/-- What is so of an operation that was done ahead of X's turn. -/
def Later (P : Program) (ih : Task → Option Out) (rnd : Option Nat) (I : Info) (v : V) (B : Nat → Prop) (μ : Mu) (wE : World) (x : Value) (ts : Tr V) : Prop :=
  ∀ (t' : Tr V) (d' : List XDef) (h' : Heap) (d1 : List XDef) (h1 : Heap), (∀ y ∈ I.names, slotOf t' y = slotOf ts y) → runStep ih I.step rnd t' d' h' = some (v, d1, h1) →
  ∀ (KK : Nat → Prop) (W : World) (μ2 : Mu) (w : World), μ.le μ2 → (∀ c, B c → KK c ∧ W.heap[c]? = wE.heap[c]?) → Rel P KK W μ2 h' w →
    ∃ μ3, μ2.le μ3 ∧ d1 = d' ∧ Rel P (fun c => KK c ∧ ¬ B c) W μ3 h1 w ∧ VR μ3 v x

theorem Later.mono {ih : Task → Option Out} {rnd : Option Nat} {I : Info} {v : V} {B : Nat → Prop} {μ μ' : Mu} {wE : World} {x : Value} {ts : Tr V} (h : Later P ih rnd I v B μ wE x ts) (hle : μ.le μ') : Later P ih rnd I v B μ' wE x ts :=
  fun t' d' h' d1 h1 ha hr KK W μ2 w hm => h t' d' h' d1 h1 ha hr KK W μ2 w (Mu.le_trans hle hm)

omit [RoLim] in
theorem run_made {ih : Task → Option Out} {rnd : Option Nat} {i : Info} (hk : okMake i = true) {t : Tr V} {d d1 : List XDef} {h h1 : Heap} {v : V} (hr : runStep ih i.step rnd t d h = some (v, d1, h1)) :
    d1 = d ∧ ((wantedV t i.step.guard = some false ∧ v = .undef ∧ h1 = h) ∨ (wantedV t i.step.guard = some true ∧ opEv i.step.op (rd t) h = some (v, h1))) := by
  unfold runStep at hr
  split at hr
  · cases hr
  · rename_i hw
    simp only [Option.some.injEq, Prod.mk.injEq] at hr
    obtain ⟨rfl, rfl, rfl⟩ := hr
    exact ⟨rfl, .inl ⟨hw, rfl, rfl⟩⟩
  · rename_i hw
    have main : (match opEv i.step.op (rd t) h with | some (v, h) => some (v, d, h) | none => none) = some (v, d1, h1) → d1 = d ∧ ((wantedV t i.step.guard = some false ∧ v = .undef ∧ h1 = h) ∨ (wantedV t i.step.guard = some true ∧ opEv i.step.op (rd t) h = some (v, h1))) := by
      intro hr
      split at hr <;> simp at hr
      rename_i v' h' he
      obtain ⟨rfl, rfl, rfl⟩ := hr
      exact ⟨rfl, .inr ⟨hw, he⟩⟩
    simp only at hr
    split at hr
    · rename_i f args e; simp [okMake, e] at hk
    · rename_i f args e; simp [okMake, e] at hk
    · rename_i it e; simp [okMake, e] at hk
    · rename_i x rows args e; simp [okMake, e] at hk
    · exact main hr

/-- AHEAD OF ITS TURN. -/
theorem early {n : Nat} {ops : Array Oper} {ih : Task → Option Out} {rnd : Option Nat} {I : Info} {op : Oper} (hop : Of P n ops I op) (hk : okMake I = true) {ts : Tr V} {dm d1 : List XDef} {hm h1 : Heap} {v : V} (hrun : runStep ih I.step rnd ts dm hm = some (v, d1, h1))
    {KK : Nat → Prop} {W w : World} {μ : Mu} {h : Heap} (R : Rel P KK W μ h w) {b' : Frame} {a : Act} {k : List Item} {cs : List Frame} {rest : List Nat} {d : List XDef} (hr : RndR μ rnd b'.roundOf) (hnames : ∀ x ∈ names ops op, VR μ (slotOf ts x) (a.tmps.getD x undef)) (hd : DRs μ d a.defers) :
    ∃ (B : Nat → Prop) (wE : World) (x : Value) (ds : List Deferred), Steps P (lone (fat b' a (.inRegion ops (I.n :: rest) :: k)) cs w) (lone (fat b' (({ a with defers := ds } : Act).put op.dst x) (.inRegion ops rest :: k)) cs wE) ∧ DRs μ d ds ∧
      (∀ c, B c → w.heap.size ≤ c ∧ c < wE.heap.size) ∧ Below w.heap.size w wE ∧ Rel P (fun c => KK c ∨ B c) wE μ h wE ∧ Later P ih rnd I v B μ wE x ts := by
  have R0 := R.bare
  have keepB : ∀ (B : Nat → Prop) (wE : World), (∀ c, B c → w.heap.size ≤ c ∧ c < wE.heap.size) → Below w.heap.size w wE → Rel P (fun c => KK c ∨ B c) wE μ h wE := by
    intro B wE hB hb
    refine (R.below hb).keep _ (fun c hc => ?_) (fun o g l hl hm' => ?_)
    · rcases hc with hc | hc
      · have := (R.kept c hc).1; have := R.size; have := hb.size; omega
      · exact (hB c hc).2
    · refine (R.own o g l hl hm').imp id fun hnk hc => ?_
      rcases hc with hc | hc
      · exact hnk hc
      · have := (hB _ hc).1; have := (R.dom o g l hm').2; omega
  obtain ⟨rfl, hcase⟩ := run_made hk hrun
  rcases hcase with ⟨hw, rfl, rfl⟩ | ⟨hw, he⟩
  · -- it is skipped
    have hs : StepWP P I.step rnd ts d ⟨.lf, h.next⟩ fun v' d' h' => v' = .undef ∧ d' = d ∧ h' = ⟨.lf, h.next⟩ := step_skipped hw ⟨rfl, rfl, rfl⟩
    obtain ⟨v', d', h', μ', ds, x, wE, ⟨rfl, rfl, rfl⟩, r1, r2, r3⟩ := hs _ w μ w b' a k cs ops I.n rest op n hop.comp hop.at_ hr R0 hnames hd
    have hb : Below w.heap.size w wE := ⟨r1.rel.os, r1.rel.tape, r1.rel.output, r1.rel.size, fun c hc => (r1.rel.kept c hc).2⟩
    refine ⟨fun _ => False, wE, x, ds, r3, hd.down r1.le r2, fun c hc => hc.elim, hb, (keepB _ wE (fun c hc => hc.elim) hb), ?_⟩
    intro t' d' h' d1 h1 hag hrun' KK2 W2 μ2 w2 hle hB R2
    obtain ⟨rfl, hcase⟩ := run_made hk hrun'
    have hww := wanted_agree hop hag
    rcases hcase with ⟨_, _, rfl⟩ | ⟨hw', _⟩
    · exact ⟨μ2, Mu.le_refl _, rfl, R2.weaker fun b hb => hb.1, by have := r1.val; cases this with | tup q => cases q; exact .tup .nil⟩
    · rw [hww, hw] at hw'; cases hw'
  · obtain ⟨f, xo, hmk⟩ := makeOf_ev hk he
    have hv : v = f hm.next := by
      have := ev_makeOf hmk hm
      rw [he] at this
      simp only [Option.some.injEq, Prod.mk.injEq] at this
      exact this.1
    have hs : StepWP P I.step rnd ts d ⟨.lf, h.next⟩ fun v' d' h' => v' = f h.next ∧ d' = d ∧ h' = (⟨.lf, h.next⟩ : Heap).push xo := step_op hw (ev_makeOf hmk _) ⟨rfl, rfl, rfl⟩
    obtain ⟨v', d', h', μ', ds, x, wE, ⟨rfl, rfl, rfl⟩, r1, r2, r3⟩ := hs _ w μ w b' a k cs ops I.n rest op n hop.comp hop.at_ hr R0 hnames hd
    have hb : Below w.heap.size w wE := ⟨r1.rel.os, r1.rel.tape, r1.rel.output, r1.rel.size, fun c hc => (r1.rel.kept c hc).2⟩
    have hsup : ∀ y ∈ I.names, ∃ x, VR μ (slotOf ts y) x := fun y hy => ⟨_, hnames y (by rw [← hop.names]; exact hy)⟩
    have hform := make_form hk hsup hmk
    have hgx : ((⟨.lf, h.next⟩ : Heap).push xo).get h.next = some xo := by rw [Heap.get_push]; exact if_pos rfl
    -- where it lies
    have hloc : ∃ l, μ' h.next 0 = some l ∧ ∀ (μ3 : Mu) (o : Nat), μ3 o 0 = some l → VR μ3 (f o) x := by
      have hval := r1.val
      rcases hform with ⟨cs', esz, _, _, hf | ⟨l0, c0, hf⟩⟩ | ⟨kd, _, hf⟩
      · subst hf
        cases hval with
        | ptr hl => exact ⟨_, hl, fun μ3 o h3 => .ptr h3⟩
      · subst hf
        cases hval with
        | exact hl a' ha hc => exact ⟨_, hl, fun μ3 o h3 => .exact h3 a' ha hc⟩
      · subst hf
        cases hval with
        | map hl => exact ⟨_, hl, fun μ3 o h3 => .map h3⟩
    obtain ⟨l, hl, hval⟩ := hloc
    have hlive : Live ((⟨.lf, h.next⟩ : Heap).push xo) h.next 0 := by
      refine ⟨xo, hgx, ?_⟩
      rcases hform with ⟨cs', esz, rfl, _⟩ | ⟨kd, rfl, _⟩
      · exact ⟨cs'.length, rfl⟩
      · rfl
    have hge : w.heap.size ≤ l.blk := by
      rcases r1.rel.own _ _ _ hlive hl with ⟨⟨x, hx, hr⟩, _⟩ | hk'
      · rw [hgx] at hx
        cases hx
        rcases hform with ⟨cs', esz, rfl, _⟩ | ⟨kd, rfl, _⟩
        · exact Bool.noConfusion (show false = true from hr)
        · exact hr.elim
      · exact Nat.le_of_not_lt hk'
    have hltE := (r1.rel.dom _ _ _ hl).2
    have hB : ∀ c, c = l.blk → w.heap.size ≤ c ∧ c < wE.heap.size := fun c hc => by subst hc; exact ⟨hge, hltE⟩
    refine ⟨fun c => c = l.blk, wE, x, ds, r3, hd.down r1.le r2, hB, hb, keepB _ wE hB hb, ?_⟩
    intro t' d' h' d1 h1 hag hrun' KK2 W2 μ2 w2 hle hKB R2
    obtain ⟨rfl, hcase⟩ := run_made hk hrun'
    have hww := wanted_agree hop hag
    rcases hcase with ⟨hw', _, _⟩ | ⟨_, he'⟩
    · rw [hww, hw] at hw'; cases hw'
    · have hmk' : makeOf I.step.op (rd t') = some (f, xo) := (makeOf_agree hk hag).trans hmk
      have := ev_makeOf hmk' h'
      rw [he'] at this
      simp only [Option.some.injEq, Prod.mk.injEq] at this
      obtain ⟨e1, e2⟩ := this
      subst e2
      have hKB := hKB l.blk rfl
      refine ⟨μ2.put h'.next 0 l, Mu.le_put _ (R2.fresh 0), rfl, R2.adopt r1.le hle (Nat.le_trans (Nat.le_trans R.low R.size) hge) hKB.1 hKB.2 hl (r1.rel.obj _ _ hgx).2 ?_, ?_⟩
      · rcases hform with ⟨cs', esz, q1, q2, _⟩ | ⟨kd, q1, _⟩
        · exact .inl ⟨cs', esz, q1, q2⟩
        · exact .inr ⟨kd, q1⟩
      · rw [e1]
        exact hval _ _ (Mu.put_same ..)
end
end Go.Xr
