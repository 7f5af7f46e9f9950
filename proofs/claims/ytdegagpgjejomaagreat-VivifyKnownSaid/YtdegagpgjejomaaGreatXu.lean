/- Each of X's operations is the machine's: calls of builtin functions; all together. -/
import Derived.Test.YtdegagpgjejomaaGreatXt
namespace Go.Xr
open Go.RowKit
section
variable [RoLim] {P : Program} {o : Oper}

omit [RoLim] in
theorem call_mem {c : Call} {x' : Operand} {b : Builtin} (hb : c.callee = .builtin b) (hx : x' ∈ c.args.toList) : x' ∈ c.operands.toList := by
  simp [Call.operands, hb]
  simpa using hx

omit [RoLim] in
theorem len_slice_inv {ρ : Rd} {h h' : Heap} {x : Opd} {v : V} (he : opEv (.len .slice x) ρ h = some (v, h')) : h' = h ∧ ∃ n : Nat, v = .int .i64 (n : Int) ∧ ((ρ x = .nils ∧ n = 0) ∨ ∃ o g off cap, ρ x = .slice o g off n cap) := by
  simp only [opEv] at he
  cases hx : ρ x <;> rw [hx] at he <;> simp at he
  · obtain ⟨rfl, rfl⟩ := he; exact ⟨rfl, 0, rfl, .inl ⟨rfl, rfl⟩⟩
  · obtain ⟨rfl, rfl⟩ := he; exact ⟨rfl, _, rfl, .inr ⟨_, _, _, _, rfl⟩⟩

omit [RoLim] in
theorem len_str_inv {ρ : Rd} {h h' : Heap} {x : Opd} {v : V} (he : opEv (.len .str x) ρ h = some (v, h')) : h' = h ∧ ∃ s : ByteArray, v = .int .i64 (s.size : Int) ∧ ρ x = .str s := by
  simp only [opEv] at he
  cases hx : ρ x <;> rw [hx] at he <;> simp at he
  obtain ⟨rfl, rfl⟩ := he; exact ⟨rfl, _, rfl, rfl⟩

omit [RoLim] in
theorem len_map_inv {ρ : Rd} {h h' : Heap} {x : Opd} {v : V} (he : opEv (.len .map x) ρ h = some (v, h')) :
    h' = h ∧ ∃ n : Nat, v = .int .i64 (n : Int) ∧ ((ρ x = .nilm ∧ n = 0) ∨ ∃ o kd es ins, ρ x = .map o ∧ h.get o = some (.map kd es ins) ∧ n = es.length) := by
  simp only [opEv] at he
  cases hx : ρ x <;> rw [hx] at he <;> try (simp at he; done)
  · simp at he; obtain ⟨rfl, rfl⟩ := he; exact ⟨rfl, 0, rfl, .inl ⟨rfl, rfl⟩⟩
  · rename_i om
    simp only at he
    split at he <;> simp at he
    obtain ⟨rfl, rfl⟩ := he
    exact ⟨rfl, _, rfl, .inr ⟨_, _, _, _, rfl, by assumption, rfl⟩⟩

theorem snd_call {c : Call} (hop : o.op = .call c) : SoundAt P o := by
  intro K w0 μ h h' w ρ ρ' op v hc hρ hk R he
  unfold compOp at hc
  rw [hop] at hc hρ
  simp only [Op.operands] at hc hρ
  unfold compCall at hc
  split at hc
  · split at hc <;> simp at hc; subst hc; simp [opEv] at he
  · split at hc <;> simp at hc; subst hc; simp [opEv] at he
  · -- len
    rename_i x' hb ha
    split at hc <;> try (simp at hc; done)
    rename_i x t h1 h2
    have hx := hρ x' (call_mem hb (by rw [ha]; simp)) _ h1
    split at hc <;> simp at hc <;> subst hc
    · rename_i e h3
      obtain ⟨rfl, n, rfl, hn⟩ := len_slice_inv he
      exact op_len_slice R hb ha h2 h3 hx hn hop
    · rename_i h3
      obtain ⟨rfl, s, rfl, hn⟩ := len_str_inv he
      rw [hn] at hx
      exact op_len_str R hb ha h2 h3 hx hop
    · rename_i k e h3
      obtain ⟨rfl, n, rfl, hn⟩ := len_map_inv he
      exact op_len_map R hb ha h2 h3 hx hn hop
  · -- cap
    rename_i x' hb ha
    split at hc <;> try (simp at hc; done)
    rename_i x t h1 h2
    have hx := hρ x' (call_mem hb (by rw [ha]; simp)) _ h1
    split at hc <;> simp at hc
    rename_i e h3
    subst hc
    simp only [opEv] at he
    split at he <;> simp at he
    · obtain ⟨rfl, rfl⟩ := he
      exact op_cap R hb ha h2 h3 hx (.inl ⟨by assumption, rfl⟩) hop
    · obtain ⟨rfl, rfl⟩ := he
      exact op_cap R hb ha h2 h3 hx (.inr ⟨_, _, _, _, by assumption⟩) hop
  · -- append
    rename_i x' y' hb ha
    split at hc <;> try (simp at hc; done)
    rename_i x y t h1 h2 h3
    have hx := hρ x' (call_mem hb (by rw [ha]; simp)) _ h1
    have hy := hρ y' (call_mem hb (by rw [ha]; simp)) _ h2
    split at hc <;> try (simp at hc; done)
    rename_i e h4
    split at hc <;> try (simp at hc; done)
    rename_i n b u h5 h6 h7
    have h4 := elemOfSlice_some h4
    have app : ∀ (d : TypeDesc) (z : V), P.underlying u = some d → ((∃ e', d = .slice e') ∨ d = .string) → zeroOf P e = some z → Nat.blt 0 b = true → z.cellsOf.length = n → op = .append n b x y → Res P K w0 μ ((execOp ρ' o).run P w) v h' := by
      intro d z hu hd hz hb0 hzl hopx
      subst hopx
      simp only [opEv] at he
      split at he <;> try (simp at he; done)
      rename_i m r1
      split at he <;> try (simp at he; done)
      rename_i xs r2
      split at he <;> try (simp at he; done)
      rename_i r3
      exact op_append R hb ha h3 h7 h4 hu hd hz h5 h6 (Nat.le_of_ble_eq_true hb0) hzl hx hy r1 r2 (Nat.eq_of_beq_eq_true r3) he hop
    split at hc <;> try (simp at hc; done)
    · rename_i k z h8 h9
      split at hc <;> simp at hc
      rename_i hq
      simp only [Bool.and_eq_true] at hq
      subst hc
      simp only [opEv] at he
      split at he <;> try (simp at he; done)
      rename_i m r1
      split at he <;> try (simp at he; done)
      rename_i r2
      exact op_appendZ R hb ha h3 h7 h4 h8 h9 h5 h6 (Nat.le_of_ble_eq_true hq.2) (Nat.eq_of_beq_eq_true hq.1) hx hy r1 (Nat.le_of_ble_eq_true r2) he hop
    · rename_i e' z h8 h9
      split at hc <;> simp at hc
      rename_i hq
      simp only [Bool.and_eq_true] at hq
      exact app _ z h8 (.inl ⟨_, rfl⟩) h9 hq.2 (Nat.eq_of_beq_eq_true hq.1) hc.symm
    · rename_i z h8 h9
      split at hc <;> simp at hc
      rename_i hq
      simp only [Bool.and_eq_true] at hq
      exact app _ z h8 (.inr rfl) h9 hq.2 (Nat.eq_of_beq_eq_true hq.1) hc.symm
  · -- copy
    rename_i x' y' hb ha
    split at hc <;> try (simp at hc; done)
    rename_i x y t h1 h2 h3
    have hx := hρ x' (call_mem hb (by rw [ha]; simp)) _ h1
    have hy := hρ y' (call_mem hb (by rw [ha]; simp)) _ h2
    split at hc <;> try (simp at hc; done)
    rename_i e h4
    split at hc <;> simp at hc
    rename_i n h5
    subst hc
    simp only [opEv] at he
    split at he <;> try (simp at he; done)
    rename_i a b r1 r2
    split at he <;> try (simp at he; done)
    · rename_i xs r3 r4
      simp at he
      obtain ⟨rfl, rfl⟩ := he
      exact op_copy R hb ha h3 (elemOfSlice_some h4) h5 hx hy r1 r2 r3 (.inl ⟨r4, rfl⟩) hop
    · rename_i xs og g off len cap r3 r4
      split at he <;> simp at he
      rename_i h1' r5
      obtain ⟨rfl, rfl⟩ := he
      exact op_copy R hb ha h3 (elemOfSlice_some h4) h5 hx hy r1 r2 r3 (.inr ⟨_, _, _, _, _, r4, r5⟩) hop
  · -- clear
    rename_i x' hb ha
    split at hc <;> try (simp at hc; done)
    rename_i x t h1 h2
    have hx := hρ x' (call_mem hb (by rw [ha]; simp)) _ h1
    split at hc <;> try (simp at hc; done)
    · rename_i e h3
      split at hc <;> try (simp at hc; done)
      rename_i n z h4 h5
      split at hc <;> simp at hc
      rename_i hq
      simp only [Bool.and_eq_true] at hq
      have hzp : 0 < z.cellsOf.length := by rw [Nat.eq_of_beq_eq_true hq.1]; exact Nat.le_of_ble_eq_true hq.2
      subst hc
      simp only [opEv] at he
      split at he <;> try (simp at he; done)
      · simp at he
        obtain ⟨rfl, rfl⟩ := he
        exact op_clear R hb ha h2 h3 h5 hzp hx (.inl ⟨by assumption, rfl⟩) hop
      · rename_i og g off len cap r1
        split at he
        · simp at he
          obtain ⟨rfl, rfl⟩ := he
          exact op_clear R hb ha h2 h3 h5 hzp hx (.inr (.inl ⟨_, _, _, _, r1, rfl⟩)) hop
        · split at he <;> simp at he
          rename_i h1' r5
          obtain ⟨rfl, rfl⟩ := he
          exact op_clear R hb ha h2 h3 h5 hzp hx (.inr (.inr ⟨_, _, _, _, _, r1, r5⟩)) hop
    · rename_i k e h3
      simp at hc
      subst hc
      simp only [opEv] at he
      split at he <;> try (simp at he; done)
      · simp at he
        obtain ⟨rfl, rfl⟩ := he
        exact op_clearM R hb ha h2 h3 hx (.inl ⟨by assumption, rfl⟩) hop
      · split at he <;> simp at he
        obtain ⟨rfl, rfl⟩ := he
        exact op_clearM R hb ha h2 h3 hx (.inr ⟨_, _, _, _, by assumption, by assumption, rfl⟩) hop
  · -- delete
    rename_i x' y' hb ha
    split at hc <;> try (simp at hc; done)
    rename_i x y t h1 h2 h3
    have hx := hρ x' (call_mem hb (by rw [ha]; simp)) _ h1
    have hy := hρ y' (call_mem hb (by rw [ha]; simp)) _ h2
    split at hc <;> simp at hc
    rename_i kd e h4
    subst hc
    simp only [opEv] at he
    split at he <;> try (simp at he; done)
    · rename_i k n r1 r2
      simp at he
      obtain ⟨rfl, rfl⟩ := he
      rw [r2] at hy
      exact op_delete R hb ha h3 h4 hx hy (.inl ⟨r1, rfl⟩) hop
    · rename_i om k n r1 r2
      split at he <;> try (simp at he; done)
      rename_i kd' es ins r3
      split at he <;> simp at he
      rename_i r4
      have r4 := kindEq_eq r4
      subst r4
      obtain ⟨rfl, rfl⟩ := he
      rw [r2] at hy
      exact op_delete R hb ha h3 h4 hx hy (.inr ⟨_, _, _, r1, r3, rfl⟩) hop
  · rename_i x' y' hb ha
    split at hc <;> simp at hc
    rename_i x y h1 h2
    subst hc
    have hx := hρ x' (call_mem hb (by rw [ha]; simp)) _ h1
    have hy := hρ y' (call_mem hb (by rw [ha]; simp)) _ h2
    simp only [opEv] at he
    split at he <;> try (simp at he; done)
    rename_i k a k' b r1 r2
    split at he <;> try (simp at he; done)
    simp only [Option.some.injEq, Prod.mk.injEq] at he
    obtain ⟨rfl, rfl⟩ := he
    rw [r1] at hx
    rw [r2] at hy
    exact op_minmax (b := true) R hb ha hx hy hop
  · rename_i x' y' hb ha
    split at hc <;> simp at hc
    rename_i x y h1 h2
    subst hc
    have hx := hρ x' (call_mem hb (by rw [ha]; simp)) _ h1
    have hy := hρ y' (call_mem hb (by rw [ha]; simp)) _ h2
    simp only [opEv] at he
    split at he <;> try (simp at he; done)
    rename_i k a k' b r1 r2
    split at he <;> try (simp at he; done)
    simp only [Option.some.injEq, Prod.mk.injEq] at he
    obtain ⟨rfl, rfl⟩ := he
    rw [r1] at hx
    rw [r2] at hy
    exact op_minmax (b := false) R hb ha hx hy hop
  · simp at hc

/-- AN OPERATION THAT X RECKONS IS THE MACHINE'S. -/
theorem op_sound (P : Program) (o : Oper) : SoundAt P o := by
  intro K w0 μ h h' w ρ ρ' op v hc hρ hk R he
  cases hop : o.op
  case move x => exact snd_move (.inl hop) hc hρ hk R he
  case assign x => exact snd_move (.inr hop) hc hρ hk R he
  case pick => exact snd_pick hop hc hρ hk R he
  case alloc => exact snd_alloc hop hc hρ hk R he
  case box => exact snd_box hop hc hρ hk R he
  case build => exact snd_build hop hc hρ hk R he
  case buildSlice => exact snd_bslice hop hc hρ hk R he
  case load => exact snd_load hop hc hρ hk R he
  case store => exact snd_store hop hc hρ hk R he
  case nilCheck => exact snd_nilCheck hop hc hρ hk R he
  case binOp => exact snd_bin hop hc hρ hk R he
  case unOp => exact snd_un hop hc hρ hk R he
  case convert => exact snd_convert hop hc hρ hk R he
  case makeInterface => exact snd_makeInterface hop hc hρ hk R he
  case makeFunc => exact snd_makeFunc hop hc hρ hk R he
  case makeMap => exact snd_makeMap hop hc hρ hk R he
  case makeSlice => exact snd_makeSlice hop hc hρ hk R he
  case slice => exact snd_slice hop hc hρ hk R he
  case fieldAddr => exact snd_fieldAddr hop hc hρ hk R he
  case field => exact snd_field hop hc hρ hk R he
  case indexAddr => exact snd_indexAddr hop hc hρ hk R he
  case index => exact snd_index hop hc hρ hk R he
  case lookup => exact snd_lookup hop hc hρ hk R he
  case mapUpdate => exact snd_mapup (.inl hop) hc hρ hk R he
  case insert => exact snd_mapup (.inr hop) hc hρ hk R he
  case mapEntry => exact snd_mentry hop hc hρ hk R he
  case entryStore => exact snd_estore hop hc hρ hk R he
  case range => exact snd_range hop hc hρ hk R he
  case entry => exact snd_entry hop hc hρ hk R he
  case typeAssert => exact snd_typeAssert hop hc hρ hk R he
  case extract => exact snd_extract hop hc hρ hk R he
  case call => exact snd_call hop hc hρ hk R he
  case next x b =>
    unfold compOp at hc
    rw [hop] at hc
    cases b <;> simp only at hc <;> try (simp at hc; done)
    split at hc <;> simp at hc
    subst hc
    simp [opEv] at he
  case defer c =>
    unfold compOp at hc
    rw [hop] at hc
    simp only at hc
    split at hc <;> try (simp at hc; done)
    split at hc <;> simp at hc
    subst hc
    simp [opEv] at he
  all_goals (unfold compOp at hc; rw [hop] at hc; simp at hc)
end
end Go.Xr
