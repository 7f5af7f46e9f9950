/- X's bounds, lengths, copies and assertions are the machine's. -/
import Derived.Test.YtdegagpgjejomaaGreatXn
namespace Go.Xr
open Go.RowKit
section
variable [RoLim] {P : Program} {K : Nat → Prop} {w0 : World} {μ μ' : Mu} {h h' : Heap} {w w' : World} {ρ : Rd} {ρ' : Operand → Value}

def OVR : Option Nat → Option Value → Prop
  | none, none => True
  | some n, some v => ∃ k, v = .int k (n : Int)
  | _, _ => False

omit [RoLim] in
theorem run_bound {k : IntKind} {n y : Nat} {code : BoundsCode} (hle : n ≤ y) : (Instr.sliceBound (.int k (n : Int)) y code).run P w = .ok n w := by
  have : (0 : Int) ≤ (n : Int) ∧ (n : Int) ≤ (y : Int) := by omega
  simp [Instr.sliceBound, asIntOf, hle]

omit [RoLim] in
theorem run_bounds {len cap : Nat} {lo hi mx : Option Nat} {lo' hi' mx' : Option Value} (h1 : OVR lo lo') (h2 : OVR hi hi') (h3 : OVR mx mx') (hm : mx.getD cap ≤ cap) (he : hi.isSome → hi.getD len ≤ mx.getD cap) (hb : lo.getD 0 ≤ hi.getD len) (hq : mx.isSome → hi.isSome) :
    (Instr.sliceBounds true len cap lo' hi' mx').run P w = .ok (lo.getD 0, hi.getD len, mx.getD cap) w := by
  unfold Instr.sliceBounds
  cases mx with
  | none =>
    cases mx' <;> simp only [OVR] at h3
    cases hi with
    | none =>
      cases hi' <;> simp only [OVR] at h2
      cases lo with
      | none => cases lo' <;> simp only [OVR] at h1; simp
      | some b =>
        cases lo' <;> simp only [OVR] at h1
        obtain ⟨k, rfl⟩ := h1
        simp at hb
        simp [run_bound hb]
    | some e =>
      cases hi' <;> simp only [OVR] at h2
      obtain ⟨k2, rfl⟩ := h2
      have he := he rfl
      simp at he
      cases lo with
      | none => cases lo' <;> simp only [OVR] at h1; simp [run_bound he]
      | some b =>
        cases lo' <;> simp only [OVR] at h1
        obtain ⟨k, rfl⟩ := h1
        simp at hb
        simp [run_bound he, run_bound hb]
  | some m =>
    cases mx' <;> simp only [OVR] at h3
    obtain ⟨k3, rfl⟩ := h3
    cases hi with
    | none => simp at hq
    | some e =>
      cases hi' <;> simp only [OVR] at h2
      obtain ⟨k2, rfl⟩ := h2
      have he := he rfl
      simp at he hm
      cases lo with
      | none => cases lo' <;> simp only [OVR] at h1; simp [run_bound he, run_bound hm]
      | some b =>
        cases lo' <;> simp only [OVR] at h1
        obtain ⟨k, rfl⟩ := h1
        simp at hb
        simp [run_bound he, run_bound hb, run_bound hm]

omit [RoLim] in
theorem run_slice {t e : TypeId} {n : Nat} (ht : P.underlying t = some (.slice e)) (hn : sizOf P e = some n) {a : Option Addr} {len cap : Nat} {lo' hi' mx' : Option Value} {b e' m : Nat} (hb : (Instr.sliceBounds true len cap lo' hi' mx').run P w = .ok (b, e', m) w) :
    (Instr.sliceAt t (.slice a len cap) lo' hi' mx').run P w = .ok (.slice (if m = b then a else a.map (·.add (b * n))) (e' - b) (m - b)) w := by
  unfold Instr.sliceAt
  simp only [Sem.run_bind, run_und ht, Result.andThen_ok]
  unfold Instr.slice
  simp only [Sem.run_bind, run_und ht, Result.andThen_ok, hb, run_sizeOf hn, Sem.run_pure]

omit [RoLim] in
theorem cellsOf_get {o : Nat} {c : Cells} (hcells : h.cells? o = some c) : h.get o = some (.cells c) := by
  unfold Heap.cells? at hcells
  split at hcells <;> try (cases hcells; done)
  injection hcells with hcells
  subst hcells
  assumption

theorem op_slc (R : Rel P K w0 μ h w) {t e : TypeId} {n : Nat} (ht : P.underlying t = some (.slice e)) (hn : sizOf P e = some (n + 1)) {x : V} {xo : Operand} {lo hi mx : Option Nat} {lo' hi' mx' : Option Operand} (hx : VR μ x (ρ' xo))
    (h1 : OVR lo (lo'.map ρ')) (h2 : OVR hi (hi'.map ρ')) (h3 : OVR mx (mx'.map ρ')) (hq : mx.isSome → hi.isSome) {v : V} (hv : sliceV h (n + 1) x lo hi mx = some v) {o : Oper} (ho : o.op = .slice t xo lo' hi' mx') : Res P K w0 μ ((execOp ρ' o).run P w) v h := by
  generalize hx' : ρ' xo = x' at hx
  have fin : ∀ y, (Instr.sliceAt t x' (lo'.map ρ') (hi'.map ρ') (mx'.map ρ')).run P w = .ok y w → VR μ v y → Res P K w0 μ ((execOp ρ' o).run P w) v h := by
    intro y q1 q2
    exact Res.same (x := y) (by unfold execOp; rw [ho]; simp only [hx', Sem.run_bind, q1]; rfl) R q2
  unfold sliceV at hv
  split at hv
  · -- nil
    cases hx
    split at hv <;> try (cases hv; done)
    rename_i q1 q2 q3
    injection hv with hv
    subst hv
    have hb := run_bounds (P := P) (w := w) (len := 0) (cap := 0) h1 h2 h3 (by omega) (fun _ => by omega) (by omega) hq
    exact fin _ (run_slice ht hn hb) (by rw [q1, q2, q3]; exact .nils)
  · rename_i og gg off len c
    split at hv <;> try (cases hv; done)
    rename_i q1
    injection hv with hv
    simp only [Bool.and_eq_true] at q1
    obtain ⟨⟨p1, p2⟩, p3⟩ := q1
    have p1 := Nat.le_of_ble_eq_true p1
    have p2 := Nat.le_of_ble_eq_true p2
    have p3 := Nat.le_of_ble_eq_true p3
    cases hx with
    | @exact _ _ _ _ _ l hm a ha hlc =>
      have hb := run_bounds (P := P) (w := w) (len := len) (cap := c) h1 h2 h3 p1 (fun _ => p2) p3 hq
      refine fin _ (run_slice ht hn hb) ?_
      rw [← hv]
      by_cases hmb : mx.getD c = lo.getD 0
      · rw [if_pos hmb]
        have hbq : Nat.beq (mx.getD c) (lo.getD 0) = true := by rw [Nat.beq_eq]; exact hmb
        rw [hbq]
        refine .exact hm a ?_ (by omega)
        rcases ha with q | ⟨q1, q2⟩
        · exact .inl q
        · right; constructor <;> omega
      · rw [if_neg hmb]
        have hbq : Nat.beq (mx.getD c) (lo.getD 0) = false := by
          cases hc : Nat.beq (mx.getD c) (lo.getD 0) with
          | false => rfl
          | true => exact absurd (Nat.eq_of_beq_eq_true hc) hmb
        rw [hbq]
        have hnorm : a = ⟨l.blk, l.base + off, none⟩ := by
          rcases ha with q | ⟨q1, q2⟩
          · exact q
          · omega
        subst hnorm
        simp only [Option.map_some, addr_add]
        rw [Nat.add_assoc]
        exact .exact hm _ (.inl rfl) (by omega)
  · rename_i og gg off len k ek
    cases hx with
    | @rest _ _ _ _ _ _ l hm a ha hlen hoff hek =>
      rw [hek] at hoff
      split at hv
      · -- no third bound
        rename_i q0
        simp only [Bool.and_eq_true] at q0
        obtain ⟨p0, p2⟩ := q0
        have p0 := Nat.eq_of_beq_eq_true p0
        have p2 := Nat.le_of_ble_eq_true p2
        subst p0
        split at hv <;> try (cases hv; done)
        rename_i p1
        injection hv with hv
        have hfit : hi.getD len + k ≤ l.kap := by
          rw [Bool.or_eq_true] at p1
          rcases p1 with p1 | p1
          · have := Nat.le_of_ble_eq_true p1; omega
          · split at p1 <;> try (cases p1; done)
            rename_i c hcells
            have hg := cellsOf_get hcells
            rw [Bool.and_eq_true] at p1
            obtain ⟨p3, p4⟩ := p1
            split at p4 <;> try (cases p4; done)
            rename_i L hL
            rw [Bool.and_eq_true] at p4
            have p5 := Nat.eq_of_beq_eq_true p4.1
            have p6 := Nat.le_of_ble_eq_true p4.2
            obtain ⟨l1, arr, et, fz, e1, e2, e3, e4, e5, e6, e7⟩ := R.cellsAt hg hL
            rw [hm] at e1
            cases e1
            obtain ⟨e8, e9, e10⟩ := e7.1 p5 p3
            rw [hek] at e8
            have : (k + hi.getD len) * (n + 1) ≤ l.kap * (n + 1) := by rw [Nat.add_mul]; omega
            have := Nat.le_of_mul_le_mul_right this (Nat.succ_pos _)
            omega
        have hb := run_bounds (P := P) (w := w) (len := len) (cap := l.kap - k) (mx := none) h1 h2 h3 (Nat.le_refl _) (fun _ => by simp; omega) p2 (by simp)
        refine fin _ (run_slice ht hn hb) ?_
        rw [← hv]
        have hle : hi.getD len - lo.getD 0 + (k + lo.getD 0) ≤ l.kap := by omega
        have hoff2 : off + lo.getD 0 * (n + 1) = (k + lo.getD 0) * (n + 1) := by rw [Nat.add_mul]; omega
        have hcap : (none : Option Nat).getD (l.kap - k) - lo.getD 0 = l.kap - (k + lo.getD 0) := by simp; omega
        rw [hcap]
        by_cases hmb : (none : Option Nat).getD (l.kap - k) = lo.getD 0
        · rw [if_pos hmb]
          simp only [Option.getD_none] at hmb
          exact VR.rest hm a (.inr ⟨by omega, by omega⟩) hle (by rw [hek]; exact hoff2) hek
        · rw [if_neg hmb]
          simp only [Option.map_some]
          refine VR.rest hm _ ?_ hle (by rw [hek]; exact hoff2) hek
          rcases ha with rfl | ⟨z1, z2⟩
          · left; rw [addr_add, Nat.add_assoc]
          · right; constructor <;> omega
      · rename_i m q0
        simp only [Bool.and_eq_true] at q0
        obtain ⟨p0, p2⟩ := q0
        have p0 := Nat.eq_of_beq_eq_true p0
        have p2 := Nat.le_of_ble_eq_true p2
        subst p0
        split at hv <;> try (cases hv; done)
        rename_i p1
        injection hv with hv
        rw [Bool.and_eq_true] at p1
        have p3 := Nat.le_of_ble_eq_true p1.1
        have p4 := Nat.le_of_ble_eq_true p1.2
        have hb := run_bounds (P := P) (w := w) (len := len) (cap := l.kap - k) (mx := some m) h1 h2 h3 (by simp; omega) (fun _ => by simpa using p3) p2 hq
        refine fin _ (run_slice ht hn hb) ?_
        rw [← hv]
        simp only [Option.getD_some]
        by_cases hmb : m = lo.getD 0
        · rw [if_pos hmb]
          have hbq : Nat.beq m (lo.getD 0) = true := by rw [Nat.beq_eq]; exact hmb
          rw [hbq]
          refine .exact hm a ?_ (by omega)
          rcases ha with q | ⟨q1, q2⟩
          · exact .inl q
          · right; constructor <;> omega
        · rw [if_neg hmb]
          have hbq : Nat.beq m (lo.getD 0) = false := by
            cases hc : Nat.beq m (lo.getD 0) with
            | false => rfl
            | true => exact absurd (Nat.eq_of_beq_eq_true hc) hmb
          rw [hbq]
          have hnorm : a = ⟨l.blk, l.base + off, none⟩ := by
            rcases ha with q | ⟨q1, q2⟩
            · exact q
            · omega
          subst hnorm
          simp only [Option.map_some, addr_add]
          rw [Nat.add_assoc]
          exact .exact hm _ (.inl rfl) (by omega)
      · cases hv
  · cases hv
end
end Go.Xr
