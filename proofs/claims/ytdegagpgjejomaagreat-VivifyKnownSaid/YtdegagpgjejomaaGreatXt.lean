/- Each of X's operations is the machine's. -/
import Derived.Test.YtdegagpgjejomaaGreatXs
namespace Go.Xr
open Go.RowKit
section
variable [RoLim] {P : Program} {K : Nat → Prop} {w0 : World} {μ μ' : Mu} {h h' : Heap} {w w' : World} {ρ : Rd} {ρ' : Operand → Value}

omit [RoLim] in
theorem partsAt_PR {pl : List (Nat × Nat)} : ∀ {ps' : List (Nat × Operand)} {ps : List (Nat × Nat × Opd)}, partsAt pl ps' = some ps → (∀ x' ∈ ps'.map (·.2), Op2 μ ρ ρ' x') →
    PR μ (fun (i : Nat) => pl[i]?) (parts ρ ps) (ps'.map fun (i, x) => (i, ρ' x))
  | [], ps, hp, _ => by simp [partsAt] at hp; subst hp; exact .nil
  | (i, x) :: r, ps, hp, ho => by
    simp only [partsAt] at hp
    split at hp <;> simp at hp
    rename_i off n x1 r1 h1 h2 h3
    subst hp
    exact .cons h1 (ho x (by simp) _ h2) (partsAt_PR h3 fun y hy => ho y (by simp only [List.map_cons, List.mem_cons]; exact .inr hy))

omit [RoLim] in
theorem partsBy_PR {n : Nat} : ∀ {ps' : List (Nat × Operand)} {ps : List (Nat × Nat × Opd)}, partsBy n ps' = some ps → (∀ x' ∈ ps'.map (·.2), Op2 μ ρ ρ' x') →
    PR μ (fun i => some (i * n, n)) (parts ρ ps) (ps'.map fun (i, x) => (i, ρ' x))
  | [], ps, hp, _ => by simp [partsBy] at hp; subst hp; exact .nil
  | (i, x) :: r, ps, hp, ho => by
    simp only [partsBy] at hp
    split at hp <;> simp at hp
    rename_i x1 r1 h2 h3
    subst hp
    exact .cons rfl (ho x (by simp) _ h2) (partsBy_PR h3 fun y hy => ho y (by simp only [List.map_cons, List.mem_cons]; exact .inr hy))

omit [RoLim] in
theorem map_toList (ps' : Array (Nat × Operand)) : (ps'.map fun (i, x) => (i, ρ' x)).toList = ps'.toList.map fun (i, x) => (i, ρ' x) := by simp

omit [RoLim] in
theorem opt_OVR {x' : Option Operand} {x : Option Opd} {m : Option Nat} (hx : opt x' = some x) (ho : ∀ y ∈ x'.toList, Op2 μ ρ ρ' y) (hm : optNat ρ x = some m) : OVR m (x'.map ρ') := by
  cases x' with
  | none => simp [opt] at hx; subst hx; simp [optNat] at hm; subst hm; trivial
  | some y =>
    simp only [opt] at hx
    split at hx <;> simp at hx
    rename_i y1 h1
    subst hx
    simp only [optNat] at hm
    split at hm <;> simp at hm
    rename_i n h2
    subst hm
    exact asNat_VR (ho y (by simp) _ h1) h2

def SoundAt (P : Program) (o : Oper) : Prop :=
  ∀ {K : Nat → Prop} {w0 : World} {μ : Mu} {h h' : Heap} {w : World} {ρ : Rd} {ρ' : Operand → Value} {op : XOp} {v : V}, compOp P o = some op → (∀ x' ∈ o.op.operands.toList, Op2 μ ρ ρ' x') → (∀ v, ρ' (.const v) = v) →
    Rel P K w0 μ h w → opEv op ρ h = some (v, h') → Res P K w0 μ ((execOp ρ' o).run P w) v h'

variable {o : Oper}

theorem snd_move {x' : Operand} (hop : o.op = .move x' ∨ o.op = .assign x') : SoundAt P o := by
  intro K w0 μ h h' w ρ ρ' op v hc hρ hk R he
  have hx : ∃ x, opd x' = some x ∧ op = .mv x := by
    rcases hop with hop | hop <;> (unfold compOp at hc; rw [hop] at hc; simp only at hc; split at hc <;> simp at hc; exact ⟨_, by assumption, hc.symm⟩)
  obtain ⟨x, h1, rfl⟩ := hx
  simp only [opEv, Option.some.injEq, Prod.mk.injEq] at he
  obtain ⟨rfl, rfl⟩ := he
  have hv : VR μ (ρ x) (ρ' x') := hρ x' (by rcases hop with hop | hop <;> simp [hop, Op.operands]) x h1
  refine Res.same (x := ρ' x') ?_ R hv
  rcases hop with hop | hop <;> simp [execOp, hop]

theorem snd_pick {c a b : Operand} (hop : o.op = .pick c a b) : SoundAt P o := by
  intro K w0 μ h h' w ρ ρ' op v hc hρ hk R he
  unfold compOp at hc
  rw [hop] at hc hρ
  simp only at hc
  split at hc <;> simp at hc
  rename_i c1 a1 b1 h1 h2 h3
  subst hc
  have q1 := hρ c (by simp [Op.operands]) _ h1
  have q2 := hρ a (by simp [Op.operands]) _ h2
  have q3 := hρ b (by simp [Op.operands]) _ h3
  simp only [opEv] at he
  split at he <;> simp at he
  · rename_i hb
    obtain ⟨rfl, rfl⟩ := he
    rw [hb] at q1
    exact op_pick R q1 (by simpa using q2) hop
  · rename_i hb
    obtain ⟨rfl, rfl⟩ := he
    rw [hb] at q1
    exact op_pick R q1 (by simpa using q3) hop

theorem snd_alloc {e : TypeId} (hop : o.op = .alloc e) : SoundAt P o := by
  intro K w0 μ h h' w ρ ρ' op v hc hρ hk R he
  unfold compOp at hc
  rw [hop] at hc
  simp only at hc
  split at hc <;> simp at hc
  rename_i z h1
  subst hc
  simp only [opEv, Option.some.injEq, Prod.mk.injEq] at he
  obtain ⟨rfl, rfl⟩ := he
  exact op_alloc R h1 hop

theorem snd_box {e : TypeId} {x' : Operand} (hop : o.op = .box e x') : SoundAt P o := by
  intro K w0 μ h h' w ρ ρ' op v hc hρ hk R he
  unfold compOp at hc
  rw [hop] at hc hρ
  simp only at hc
  split at hc <;> simp at hc
  rename_i x h1
  subst hc
  simp only [opEv, Option.some.injEq, Prod.mk.injEq] at he
  obtain ⟨rfl, rfl⟩ := he
  exact op_box R (hρ x' (by simp [Op.operands]) _ h1) hop

theorem snd_build {t : TypeId} {ps' : Array (Nat × Operand)} (hop : o.op = .build t ps') : SoundAt P o := by
  intro K w0 μ h h' w ρ ρ' op v hc hρ hk R he
  unfold compOp at hc
  rw [hop] at hc hρ
  have hρ' : ∀ x' ∈ ps'.toList.map (·.2), Op2 μ ρ ρ' x' := fun x' hx => hρ x' (by simpa [Op.operands] using hx)
  simp only at hc
  split at hc
  · rename_i fs z h1 h2
    split at hc <;> try (simp at hc; done)
    rename_i pl h3
    split at hc <;> simp at hc
    rename_i ps h4
    subst hc
    simp only [opEv] at he
    split at he <;> simp at he
    rename_i cs h5
    obtain ⟨rfl, rfl⟩ := he
    exact op_build_struct R h1 h2 h3 (by rw [map_toList]; exact partsAt_PR h4 hρ') h5 hop
  · rename_i len e z h1 h2
    split at hc <;> try (simp at hc; done)
    rename_i n h3
    split at hc <;> simp at hc
    rename_i ps h4
    subst hc
    simp only [opEv] at he
    split at he <;> simp at he
    rename_i cs h5
    obtain ⟨rfl, rfl⟩ := he
    exact op_build_array R h1 h2 h3 (by rw [map_toList]; exact partsBy_PR h4 hρ') h5 hop
  · simp at hc

theorem snd_bslice {t : TypeId} {len : Nat} {ps' : Array (Nat × Operand)} (hop : o.op = .buildSlice t len ps') : SoundAt P o := by
  intro K w0 μ h h' w ρ ρ' op v hc hρ hk R he
  unfold compOp at hc
  rw [hop] at hc hρ
  have hρ' : ∀ x' ∈ ps'.toList.map (·.2), Op2 μ ρ ρ' x' := fun x' hx => hρ x' (by simpa [Op.operands] using hx)
  simp only at hc
  split at hc <;> try (simp at hc; done)
  rename_i e h1
  split at hc <;> try (simp at hc; done)
  rename_i n z h2 h3
  split at hc <;> simp at hc
  rename_i ps h4 h5
  subst hc
  simp only [Bool.and_eq_true] at h5
  obtain ⟨⟨q1, q2⟩, q3⟩ := h5
  simp only [opEv] at he
  split at he <;> simp at he
  rename_i cs h6
  obtain ⟨rfl, rfl⟩ := he
  exact op_bslice R (elemOfSlice_some h1) h3 h2 (Nat.eq_of_beq_eq_true q1) (Nat.le_of_ble_eq_true q2) (Nat.le_of_ble_eq_true q3) (by rw [map_toList]; exact partsBy_PR h4 hρ') h6 hop

theorem snd_load {t : TypeId} {a : Operand} (hop : o.op = .load t a) : SoundAt P o := by
  intro K w0 μ h h' w ρ ρ' op v hc hρ hk R he
  unfold compOp at hc
  rw [hop] at hc hρ
  simp only at hc
  split at hc <;> simp at hc
  rename_i g n x h1 h2 h3
  subst hc
  have hx := hρ a (by simp [Op.operands]) _ h3
  simp only [opEv] at he
  split at he <;> try (simp at he; done)
  rename_i o1 g1 off hp
  rw [hp] at hx
  split at he <;> simp at he
  · rename_i vs q1
    obtain ⟨rfl, rfl⟩ := he
    exact op_load (g := true) R h1 h2 hx q1 rfl hop
  · rename_i v1 q1
    obtain ⟨rfl, rfl⟩ := he
    exact op_load (g := false) R h1 h2 hx q1 rfl hop

theorem snd_store {t : TypeId} {a y : Operand} (hop : o.op = .store t a y) : SoundAt P o := by
  intro K w0 μ h h' w ρ ρ' op v hc hρ hk R he
  unfold compOp at hc
  rw [hop] at hc hρ
  simp only at hc
  split at hc <;> simp at hc
  rename_i n x y1 h1 h2 h3
  subst hc
  have hx := hρ a (by simp [Op.operands]) _ h2
  have hy := hρ y (by simp [Op.operands]) _ h3
  simp only [opEv] at he
  split at he <;> try (simp at he; done)
  rename_i o1 g1 off hp hl
  rw [hp] at hx
  split at he <;> simp at he
  rename_i h1' q1
  obtain ⟨rfl, rfl⟩ := he
  exact op_store R h1 hx hy (Nat.eq_of_beq_eq_true hl) q1 hop

theorem snd_nilCheck {x' : Operand} (hop : o.op = .nilCheck x') : SoundAt P o := by
  intro K w0 μ h h' w ρ ρ' op v hc hρ hk R he
  unfold compOp at hc
  rw [hop] at hc hρ
  simp only at hc
  split at hc <;> simp at hc
  rename_i x h1
  subst hc
  have hx := hρ x' (by simp [Op.operands]) _ h1
  simp only [opEv] at he
  split at he <;> simp at he
  rename_i q1 q2 q3 q4 q5 q6 q7
  obtain ⟨rfl, rfl⟩ := he
  exact op_nilCheck R hx ⟨q1, q2, q3, q5, q6⟩ hop

omit [RoLim] in
theorem isIface_cls {t : TypeId} (hc : clsOf P t = some .iface) : isIface P t = true := by
  unfold clsOf at hc
  split at hc <;> simp at hc
  rename_i m hm
  simp [isIface, hm]

theorem snd_bin {op0 : BinOp} {t u : TypeId} {x' y' : Operand} (hop : o.op = .binOp op0 t x' y' u) : SoundAt P o := by
  intro K w0 μ h h' w ρ ρ' op v hc hρ hk R he
  unfold compOp at hc
  rw [hop] at hc hρ
  simp only at hc
  split at hc <;> try (simp at hc; done)
  rename_i c x y h1 h2 h3
  split at hc <;> simp at hc
  rename_i hif
  subst hc
  have hx := hρ x' (by simp [Op.operands]) _ h2
  have hy := hρ y' (by simp [Op.operands]) _ h3
  simp only [opEv] at he
  split at he <;> simp at he
  rename_i v1 q1
  obtain ⟨rfl, rfl⟩ := he
  refine op_bin R h1 hx hy (fun hci => ?_) q1 hop
  subst hci
  rw [isIface_cls h1] at hif
  simp at hif
  cases hcx : isConst x' with
  | true => rfl
  | false => simp [hif hcx]

theorem snd_un {op0 : UnOp} {t : TypeId} {x' : Operand} (hop : o.op = .unOp op0 t x') : SoundAt P o := by
  intro K w0 μ h h' w ρ ρ' op v hc hρ hk R he
  unfold compOp at hc
  rw [hop] at hc hρ
  simp only at hc
  split at hc <;> simp at hc
  rename_i x h1
  subst hc
  have hx := hρ x' (by simp [Op.operands]) _ h1
  simp only [opEv] at he
  split at he <;> simp at he
  rename_i v1 q1
  obtain ⟨rfl, rfl⟩ := he
  exact op_un R hx q1 hop

theorem snd_convert {s d : TypeId} {x' : Operand} (hop : o.op = .convert s d x') : SoundAt P o := by
  intro K w0 μ h h' w ρ ρ' op v hc hρ hk R he
  unfold compOp at hc
  rw [hop] at hc hρ
  simp only at hc
  split at hc <;> simp at hc
  rename_i sd k x h1 h2 h3
  subst hc
  have hx := hρ x' (by simp [Op.operands]) _ h3
  simp only [opEv] at he
  split at he <;> simp at he
  rename_i k0 n q1
  obtain ⟨rfl, rfl⟩ := he
  rw [q1] at hx
  exact op_conv R h1 h2 hx hop

theorem snd_makeInterface {t : TypeId} {x' : Operand} (hop : o.op = .makeInterface t x') : SoundAt P o := by
  intro K w0 μ h h' w ρ ρ' op v hc hρ hk R he
  unfold compOp at hc
  rw [hop] at hc hρ
  simp only at hc
  split at hc <;> simp at hc
  rename_i d x hn h1 h2
  subst hc
  have hx := hρ x' (by simp [Op.operands]) _ h2
  simp only [opEv, Option.some.injEq, Prod.mk.injEq] at he
  obtain ⟨rfl, rfl⟩ := he
  exact op_mkif R h1 (fun m e => hn m e) hx hop

theorem snd_makeFunc {f : Fn} {fs cs : Array Operand} (hop : o.op = .makeFunc f fs cs) : SoundAt P o := by
  intro K w0 μ h h' w ρ ρ' op v hc hρ hk R he
  unfold compOp at hc
  rw [hop] at hc hρ
  cases f <;> simp only at hc <;> try (simp at hc; done)
  split at hc <;> simp at hc
  rename_i f a b h1 h2
  subst hc
  simp only [opEv, Option.some.injEq, Prod.mk.injEq] at he
  obtain ⟨rfl, rfl⟩ := he
  exact op_mkfunc R (opds_VRs h1 fun x' hx => hρ x' (by simp [Op.operands]; exact .inl (by simpa using hx))) (opds_VRs h2 fun x' hx => hρ x' (by simp [Op.operands]; exact .inr (by simpa using hx))) hop

theorem snd_makeMap {t : TypeId} {r : Option Operand} (hop : o.op = .makeMap t r) : SoundAt P o := by
  intro K w0 μ h h' w ρ ρ' op v hc hρ hk R he
  unfold compOp at hc
  rw [hop] at hc hρ
  simp only at hc
  split at hc <;> simp at hc
  · rename_i kd e h1
    subst hc
    simp only [opEv, Option.some.injEq, Prod.mk.injEq] at he
    obtain ⟨rfl, rfl⟩ := he
    exact op_mkmap R h1 (.inl rfl) hk hop
  · rename_i kd e k n h1
    subst hc
    simp only [opEv, Option.some.injEq, Prod.mk.injEq] at he
    obtain ⟨rfl, rfl⟩ := he
    exact op_mkmap R h1 (.inr ⟨_, _, rfl⟩) hk hop

theorem snd_makeSlice {t : TypeId} {l c : Operand} (hop : o.op = .makeSlice t l c) : SoundAt P o := by
  intro K w0 μ h h' w ρ ρ' op v hc hρ hk R he
  unfold compOp at hc
  rw [hop] at hc hρ
  simp only at hc
  split at hc <;> try (simp at hc; done)
  rename_i e h1
  split at hc <;> try (simp at hc; done)
  rename_i n z b l1 c1 h2 h3 h4 h5 h6
  split at hc <;> simp at hc
  rename_i hq
  simp only [Bool.and_eq_true] at hq
  obtain ⟨⟨q1, q2⟩, q3⟩ := hq
  subst hc
  have hl := hρ l (by simp [Op.operands]) _ h5
  have hcv := hρ c (by simp [Op.operands]) _ h6
  simp only [opEv] at he
  split at he <;> try (simp at he; done)
  rename_i ln cn r1 r2
  split at he <;> simp at he
  rename_i r3 r4
  obtain ⟨rfl, rfl⟩ := he
  exact op_mkslice R (elemOfSlice_some h1) h3 h2 h4 (Nat.eq_of_beq_eq_true q1) (Nat.le_of_ble_eq_true q2) (Nat.le_of_ble_eq_true q3) hl hcv r1 r2 (Nat.le_of_ble_eq_true r3) (Nat.le_of_ble_eq_true r4) hop

theorem snd_slice {t : TypeId} {x' : Operand} {lo hi mx : Option Operand} (hop : o.op = .slice t x' lo hi mx) : SoundAt P o := by
  intro K w0 μ h h' w ρ ρ' op v hc hρ hk R he
  unfold compOp at hc
  rw [hop] at hc hρ
  simp only at hc
  split at hc <;> try (simp at hc; done)
  rename_i e x lo1 hi1 mx1 h1 h2 h3 h4 h5
  split at hc <;> simp at hc
  rename_i n h6 h7
  subst hc
  have hx := hρ x' (by simp [Op.operands]) _ h2
  simp only [opEv] at he
  split at he <;> try (simp at he; done)
  rename_i a b c r1 r2 r3
  split at he <;> simp at he
  rename_i v1 r4
  obtain ⟨rfl, rfl⟩ := he
  have q1 := opt_OVR h3 (fun y hy => hρ y (by simp [Op.operands]; simp at hy; simp [hy])) r1
  have q2 := opt_OVR h4 (fun y hy => hρ y (by simp [Op.operands]; simp at hy; simp [hy])) r2
  have q3 := opt_OVR h5 (fun y hy => hρ y (by simp [Op.operands]; simp at hy; simp [hy])) r3
  refine op_slc R (elemOfSlice_some h1) h6 hx q1 q2 q3 (fun hs => ?_) r4 hop
  cases mx1 with
  | none => simp [optNat] at r3; subst r3; simp at hs
  | some m =>
    cases hi1 with
    | none => simp at h7
    | some hi1 => simp only [optNat] at r2; split at r2 <;> simp at r2; subst r2; rfl

theorem snd_fieldAddr {s : TypeId} {x' : Operand} {f : Nat} (hop : o.op = .fieldAddr s x' f) : SoundAt P o := by
  intro K w0 μ h h' w ρ ρ' op v hc hρ hk R he
  unfold compOp at hc
  rw [hop] at hc hρ
  simp only at hc
  split at hc <;> try (simp at hc; done)
  rename_i fs x h1 h2
  split at hc <;> try (simp at hc; done)
  rename_i fd h3
  split at hc <;> simp at hc
  rename_i n h4
  subst hc
  have hx := hρ x' (by simp [Op.operands]) _ h2
  simp only [opEv] at he
  split at he <;> simp at he
  rename_i o1 g1 a q1
  obtain ⟨rfl, rfl⟩ := he
  rw [q1] at hx
  exact op_faddr R h1 h3 h4 hx hop

theorem snd_field {s : TypeId} {x' : Operand} {f : Nat} (hop : o.op = .field s x' f) : SoundAt P o := by
  intro K w0 μ h h' w ρ ρ' op v hc hρ hk R he
  unfold compOp at hc
  rw [hop] at hc hρ
  simp only at hc
  split at hc <;> try (simp at hc; done)
  rename_i fs x h1 h2
  split at hc <;> try (simp at hc; done)
  rename_i fd h3
  split at hc <;> simp at hc
  rename_i n g h4 h5
  subst hc
  have hx := hρ x' (by simp [Op.operands]) _ h2
  simp only [opEv] at he
  split at he <;> try (simp at he; done)
  rename_i cs q1
  rw [q1] at hx
  split at he <;> try (simp at he; done)
  · split at he <;> simp at he
    rename_i q2
    obtain ⟨rfl, rfl⟩ := he
    exact op_fld (g := true) R h1 h3 h4 h5 hx ⟨fun _ => ⟨Nat.le_of_ble_eq_true q2, rfl⟩, fun q => by simp at q⟩ hop
  · rename_i v1 q2
    simp at he
    obtain ⟨rfl, rfl⟩ := he
    exact op_fld (g := false) R h1 h3 h4 h5 hx ⟨fun q => by simp at q, fun _ => q2⟩ hop

theorem snd_indexAddr {t : TypeId} {x' i' : Operand} (hop : o.op = .indexAddr t x' i') : SoundAt P o := by
  intro K w0 μ h h' w ρ ρ' op v hc hρ hk R he
  unfold compOp at hc
  rw [hop] at hc hρ
  simp only at hc
  split at hc <;> try (simp at hc; done)
  · rename_i e x i h1 h2 h3
    split at hc <;> simp at hc
    rename_i n h4
    subst hc
    have hx := hρ x' (by simp [Op.operands]) _ h2
    have hi := hρ i' (by simp [Op.operands]) _ h3
    simp only [opEv] at he
    split at he <;> try (simp at he; done)
    rename_i o1 g1 off len cap i1 q1 q2
    split at he <;> simp at he
    rename_i q3
    obtain ⟨rfl, rfl⟩ := he
    rw [q1] at hx
    exact op_iaddr R h1 h4 hx hi q2 (Nat.le_of_ble_eq_true q3) hop
  · rename_i len e x i h1 h2 h3
    split at hc <;> simp at hc
    rename_i n h4
    subst hc
    have hx := hρ x' (by simp [Op.operands]) _ h2
    have hi := hρ i' (by simp [Op.operands]) _ h3
    simp only [opEv] at he
    split at he <;> try (simp at he; done)
    rename_i o1 g1 off i1 q1 q2
    split at he <;> simp at he
    rename_i q3
    obtain ⟨rfl, rfl⟩ := he
    rw [q1] at hx
    exact op_iaddrA R h1 h4 hx hi q2 (Nat.le_of_ble_eq_true q3) hop

theorem snd_index {t : TypeId} {x' i' : Operand} (hop : o.op = .index t x' i') : SoundAt P o := by
  intro K w0 μ h h' w ρ ρ' op v hc hρ hk R he
  unfold compOp at hc
  rw [hop] at hc hρ
  simp only at hc
  split at hc <;> simp at hc
  rename_i x i h1 h2 h3
  subst hc
  have hx := hρ x' (by simp [Op.operands]) _ h2
  have hi := hρ i' (by simp [Op.operands]) _ h3
  simp only [opEv] at he
  split at he <;> try (simp at he; done)
  rename_i s i1 q1 q2
  split at he <;> simp at he
  rename_i b q3
  obtain ⟨rfl, rfl⟩ := he
  rw [q1] at hx
  exact op_sidx R h1 hx hi q2 q3 hop

theorem snd_lookup {t : TypeId} {x' i' : Operand} {ok : Bool} (hop : o.op = .lookup t x' i' ok) : SoundAt P o := by
  intro K w0 μ h h' w ρ ρ' op v hc hρ hk R he
  unfold compOp at hc
  rw [hop] at hc hρ
  simp only at hc
  split at hc <;> try (simp at hc; done)
  rename_i kd e x i h1 h2 h3
  split at hc <;> simp at hc
  rename_i z h4
  subst hc
  have hx := hρ x' (by simp [Op.operands]) _ h2
  have hi := hρ i' (by simp [Op.operands]) _ h3
  simp only [opEv] at he
  split at he <;> try (simp at he; done)
  · rename_i k n q1 q2
    split at he <;> simp at he
    obtain ⟨rfl, rfl⟩ := he
    rw [q2] at hi
    exact op_lookup R h1 h4 hi hx (.inl ⟨q1, rfl⟩) hop
  · rename_i om k n q1 q2
    split at he <;> try (simp at he; done)
    rename_i kd' es ins q3
    split at he <;> simp at he
    rename_i q4
    have q4 := kindEq_eq q4
    subst q4
    obtain ⟨rfl, rfl⟩ := he
    rw [q2] at hi
    exact op_lookup R h1 h4 hi hx (.inr ⟨_, _, _, q1, q3, rfl⟩) hop

theorem snd_mapup {t : TypeId} {m' k' v' : Operand} (hop : o.op = .mapUpdate t m' k' v' ∨ o.op = .insert t m' k' v') : SoundAt P o := by
  intro K w0 μ h h' w ρ ρ' op v hc hρ hk R he
  have hx : ∃ kd e m k v, mapOf P t = some (kd, e) ∧ opd m' = some m ∧ opd k' = some k ∧ opd v' = some v ∧ op = .mapup kd m k v := by
    rcases hop with hop | hop <;> (unfold compOp at hc; rw [hop] at hc; simp only at hc; split at hc <;> simp at hc; exact ⟨_, _, _, _, _, by assumption, by assumption, by assumption, by assumption, hc.symm⟩)
  obtain ⟨kd, e, m, k, v1, h1, h2, h3, h4, rfl⟩ := hx
  have hm := hρ m' (by rcases hop with hop | hop <;> simp [hop, Op.operands]) _ h2
  have hkk := hρ k' (by rcases hop with hop | hop <;> simp [hop, Op.operands]) _ h3
  have hv := hρ v' (by rcases hop with hop | hop <;> simp [hop, Op.operands]) _ h4
  simp only [opEv] at he
  split at he <;> try (simp at he; done)
  rename_i om k n q1 q2
  split at he <;> try (simp at he; done)
  rename_i kd' es ins q3
  split at he <;> try (simp at he; done)
  rename_i q4
  rw [Bool.and_eq_true] at q4
  obtain ⟨q4, q5⟩ := q4
  have q4 := kindEq_eq q4
  subst q4
  simp only [Option.some.injEq, Prod.mk.injEq] at he
  obtain ⟨rfl, rfl⟩ := he
  rw [q1] at hm
  rw [q2] at hkk
  exact op_mapup R h1 hm hkk hv q3 q5 hop

theorem snd_mentry {t : TypeId} {m' k' : Operand} (hop : o.op = .mapEntry t m' k') : SoundAt P o := by
  intro K w0 μ h h' w ρ ρ' op v hc hρ hk R he
  have hx : ∃ kd e m k z, mapOf P t = some (kd, e) ∧ opd m' = some m ∧ opd k' = some k ∧ zeroOf P e = some z ∧ op = .mentry z m k := by
    unfold compOp at hc
    rw [hop] at hc
    simp only at hc
    split at hc <;> try (simp at hc; done)
    split at hc <;> simp at hc
    exact ⟨_, _, _, _, _, by assumption, by assumption, by assumption, by assumption, hc.symm⟩
  obtain ⟨kd, e, m, k, z, h1, h2, h3, h4, rfl⟩ := hx
  have hm := hρ m' (by simp [hop, Op.operands]) _ h2
  have hkk := hρ k' (by simp [hop, Op.operands]) _ h3
  simp only [opEv] at he
  split at he <;> try (simp at he; done)
  rename_i om k n q1 q2
  split at he <;> try (simp at he; done)
  rename_i kd' es ins q3
  split at he <;> try (simp at he; done)
  · rename_i v0 q4 q5
    have q4 := kindEq_eq q4
    subst q4
    split at he <;> try (cases he; done)
    rename_i q6
    simp only [Option.some.injEq, Prod.mk.injEq] at he
    obtain ⟨rfl, rfl⟩ := he
    rw [q1] at hm
    rw [q2] at hkk
    exact op_mentry R h1 h4 hm hkk q3 (.inl ⟨q5, rfl⟩) q6 hop
  · rename_i q4 q5
    have q4 := kindEq_eq q4
    subst q4
    split at he <;> try (cases he; done)
    rename_i q6
    simp only [Option.some.injEq, Prod.mk.injEq] at he
    obtain ⟨rfl, rfl⟩ := he
    rw [q1] at hm
    rw [q2] at hkk
    exact op_mentry R h1 h4 hm hkk q3 (.inr ⟨q5, rfl, rfl⟩) q6 hop

theorem snd_estore {t : TypeId} {m' s' v' : Operand} (hop : o.op = .entryStore t m' s' v') : SoundAt P o := by
  intro K w0 μ h h' w ρ ρ' op v hc hρ hk R he
  have hx : ∃ m s v, opd m' = some m ∧ opd s' = some s ∧ opd v' = some v ∧ op = .estore m s v := by
    unfold compOp at hc
    rw [hop] at hc
    simp only at hc
    split at hc <;> simp at hc
    exact ⟨_, _, _, by assumption, by assumption, by assumption, hc.symm⟩
  obtain ⟨m, s, v1, h1, h2, h3, rfl⟩ := hx
  have hm := hρ m' (by simp [hop, Op.operands]) _ h1
  have hs := hρ s' (by simp [hop, Op.operands]) _ h2
  have hv := hρ v' (by simp [hop, Op.operands]) _ h3
  simp only [opEv] at he
  split at he <;> try (simp at he; done)
  rename_i om o2 q1 q2
  split at he <;> try (simp at he; done)
  rename_i kd es ins q3
  split at he <;> try (simp at he; done)
  rename_i k q4 q5
  simp only [Option.some.injEq, Prod.mk.injEq] at he
  obtain ⟨rfl, rfl⟩ := he
  rw [q1] at hm
  rw [q2] at hs
  exact op_estore R hm hs hv q3 q4 q5 hop

theorem snd_range {t : TypeId} {x' : Operand} (hop : o.op = .range t x') : SoundAt P o := by
  intro K w0 μ h h' w ρ ρ' op v hc hρ hk R he
  unfold compOp at hc
  rw [hop] at hc hρ
  simp only at hc
  split at hc <;> simp at hc
  rename_i kd e x h1 h2
  subst hc
  have hx := hρ x' (by simp [Op.operands]) _ h2
  simp only [opEv] at he
  split at he <;> try (simp at he; done)
  · rename_i q1
    simp at he
    obtain ⟨rfl, rfl⟩ := he
    rw [q1] at hx
    exact op_range_nil R h1 hx hop
  · rename_i om q1
    split at he <;> simp at he
    rename_i kd' es ins q2
    obtain ⟨rfl, rfl⟩ := he
    rw [q1] at hx
    exact op_range R h1 hx q2 hop

theorem snd_entry {x' : Operand} (hop : o.op = .entry x') : SoundAt P o := by
  intro K w0 μ h h' w ρ ρ' op v hc hρ hk R he
  unfold compOp at hc
  rw [hop] at hc hρ
  simp only at hc
  split at hc <;> simp at hc
  rename_i x h1
  subst hc
  have hx := hρ x' (by simp [Op.operands]) _ h1
  simp only [opEv] at he
  split at he <;> try (simp at he; done)
  rename_i oi q1
  split at he <;> try (simp at he; done)
  rename_i m ins k q2 q3
  split at he <;> try (simp at he; done)
  rename_i kd es ins' q4
  split at he <;> simp at he
  rename_i v1 q5 q6
  obtain ⟨rfl, rfl⟩ := he
  rw [q1] at hx
  have q5 := Nat.eq_of_beq_eq_true q5
  subst q5
  exact op_entry R hx q3 q4 q6 hop

theorem snd_typeAssert {x' : Operand} {xt t : TypeId} {ok : Bool} (hop : o.op = .typeAssert x' xt t ok) : SoundAt P o := by
  intro K w0 μ h h' w ρ ρ' op v hc hρ hk R he
  unfold compOp at hc
  rw [hop] at hc hρ
  simp only at hc
  split at hc <;> simp at hc
  rename_i d x z hn h1 h2 h3
  subst hc
  have hx := hρ x' (by simp [Op.operands]) _ h2
  simp only [opEv] at he
  split at he <;> try (simp at he; done)
  · rename_i t' y q1
    split at he <;> simp at he
    all_goals (obtain ⟨rfl, rfl⟩ := he)
    · rename_i q2
      exact op_tassert R h1 (fun m e => hn m e) h3 hx (.inl ⟨_, _, q1, .inl ⟨Nat.eq_of_beq_eq_true q2, rfl⟩⟩) hop
    · rename_i q2
      exact op_tassert R h1 (fun m e => hn m e) h3 hx (.inl ⟨_, _, q1, .inl ⟨Nat.eq_of_beq_eq_true q2, rfl⟩⟩) hop
    · rename_i q2
      exact op_tassert R h1 (fun m e => hn m e) h3 hx (.inl ⟨_, _, q1, .inr ⟨fun e => (by rw [e, Nat.beq_refl] at q2; cases q2), rfl, rfl⟩⟩) hop
  · rename_i q1
    split at he <;> simp at he
    obtain ⟨rfl, rfl⟩ := he
    exact op_tassert R h1 (fun m e => hn m e) h3 hx (.inr ⟨q1, rfl, rfl⟩) hop

theorem snd_extract {x' : Operand} {i : Nat} (hop : o.op = .extract x' i) : SoundAt P o := by
  intro K w0 μ h h' w ρ ρ' op v hc hρ hk R he
  unfold compOp at hc
  rw [hop] at hc hρ
  simp only at hc
  split at hc <;> simp at hc
  rename_i x h1
  subst hc
  have hx := hρ x' (by simp [Op.operands]) _ h1
  simp only [opEv] at he
  split at he <;> try (simp at he; done)
  rename_i vs q1
  split at he <;> simp at he
  rename_i v1 q2
  obtain ⟨rfl, rfl⟩ := he
  rw [q1] at hx
  exact op_extract R hx q2 hop
end
end Go.Xr
