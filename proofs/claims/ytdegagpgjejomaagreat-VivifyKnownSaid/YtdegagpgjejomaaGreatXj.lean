/- X's append is the machine's. -/
import Derived.Test.YtdegagpgjejomaaGreatXi
namespace Go.Xr
open Go.RowKit
section
variable [RoLim] {P : Program} {K : Nat → Prop} {w0 : World} {μ μ' : Mu} {h h' : Heap} {w w' : World} {ρ : Rd} {ρ' : Operand → Value}

/-- What a run of an append does. -/
structure AppSpec (P : Program) (f : Result Value) (w : World) (e esz bytes : Nat) (base : Option Addr) (sLen sCap m : Nat) (ns : List Value) (zc : Array Value) : Prop where
  room : sLen + m ≤ sCap → ∀ w', (match base with | some a => (storeCells (a.add (sLen * esz)) ns).run P w | none => .ok () w) = .ok () w' → f = .ok (.slice base (sLen + m) sCap) w'
  grow : sCap < sLen + m → (sLen + m) * bytes ≤ 140737488355328 → ∀ olds : List Value, (Builtin.firstCells esz sLen (.slice base sLen sCap)).run P w.drew = .ok olds.toArray w.drew →
    ∃ cap', sLen + m ≤ cap' ∧ f = .ok (.slice (some ⟨w.heap.size, 0, none⟩) (sLen + m) cap') (w.drew.alloc (.cells (olds.toArray ++ ns.toArray ++ Builtin.zeroCells zc (cap' - (sLen + m))) e))

omit [RoLim] in
theorem app_slice {t u e ty : TypeId} {d : TypeDesc} {i : TypeInfo} {z x : Value} {base : Option Addr} {sLen sCap m : Nat} {ns : List Value} (ht : P.underlying t = some (.slice e)) (hu : P.underlying u = some d) (hd : (∃ e', d = .slice e') ∨ d = .string) (hi : P.info? e = some i) (hz : i.zero = some z) (hb : 0 < i.bytes)
    (hl : ∀ w, (Builtin.lenOf x).run P w = .ok m w) (hf : ∀ w', w'.heap = w.heap → (Builtin.firstCells i.size m x).run P w' = .ok ns.toArray w') :
    AppSpec P ((Builtin.append_ #[t, u] ty #[.slice base sLen sCap, x]).run P w) w e i.size i.bytes base sLen sCap m ns z.cells := by
  have hf0 := hf w rfl
  have hf1 := hf w.drew rfl
  refine ⟨fun hr w' hs => ?_, fun hg hlim olds ho => ?_⟩
  · cases base with
    | none =>
      cases hs
      rcases hd with ⟨e', rfl⟩ | rfl <;> simp [Builtin.append_, run_und ht, run_und hu, sizeOf, typeInfo, hi, hl, hr, hf0]
    | some a =>
      simp only at hs
      rcases hd with ⟨e', rfl⟩ | rfl <;> simp [Builtin.append_, run_und ht, run_und hu, sizeOf, typeInfo, hi, hl, hr, hf0, hs]
  · refine ⟨grownCap w (sLen + m) sCap e, grownCap_ge .., ?_⟩
    have hle : sLen + m ≤ (sLen + m) * i.bytes := Nat.le_mul_of_pos_right _ hb
    have hn : ¬ (sLen + m ≤ sCap) := by omega
    have h63' : ¬ (9223372036854775807 < ((sLen : Int) + (m : Int))) := by omega
    have h48' : ¬ (281474976710656 < Builtin.nextslicecap (sLen + m) sCap * i.bytes) := by have := growslice_fits (bytes := i.bytes) hg hlim; omega
    rcases hd with ⟨e', rfl⟩ | rfl <;> simp [Builtin.append_, run_und ht, run_und hu, sizeOf, typeInfo, hi, hl, hn, h63', h48', Question.forced, hf1, ho, newRow, zeroValue, hz, grownCap]
    all_goals (congr 2; apply Array.ext'; simp [List.append_assoc])

omit [RoLim] in
theorem app_zero {t u e ty : TypeId} {k k' : IntKind} {i : TypeInfo} {z : Value} {base : Option Addr} {sLen sCap m : Nat} (ht : P.underlying t = some (.slice e)) (hu : P.underlying u = some (.int k)) (hi : P.info? e = some i) (hz : i.zero = some z) (hb : 0 < i.bytes) (hsz : z.cells.size = i.size)
    (hm : m * i.bytes ≤ 140737488355328) :
    AppSpec P ((Builtin.append_ #[t, u] ty #[.slice base sLen sCap, .int k' (m : Int)]).run P w) w e i.size i.bytes base sLen sCap m ((List.replicate m z.cells.toList).flatten) z.cells := by
  have hle : m ≤ m * i.bytes := Nat.le_mul_of_pos_right _ hb
  have hw : IntKind.i64.wrap (m : Int) = (m : Int) := by rw [IntKind.wrap_i64]; omega
  have hneg : ¬ ((m : Int) < 0) := by omega
  have hbig : ¬ (281474976710656 < (m : Int) * (i.bytes : Int)) := by
    have : ((m * i.bytes : Nat) : Int) ≤ 140737488355328 := by omega
    rw [Int.natCast_mul] at this
    omega
  have hzc : ∀ n, Builtin.zeroCells z.cells n = ((List.replicate n z.cells.toList).flatten).toArray := by
    intro n
    apply Array.ext'
    by_cases h0 : z.cells.size = 0
    · have e1 : z.cells = #[] := Array.eq_empty_of_size_eq_zero h0
      simp [Builtin.zeroCells, e1]
    · exact map_range_mod z.cells n (by omega)
  have hnil : m * i.size = 0 → (List.replicate m z.cells.toList).flatten = [] := by
    intro h0
    apply List.eq_nil_of_length_eq_zero
    rw [List.length_flatten]
    simp [hsz]
    rcases Nat.mul_eq_zero.1 h0 with h | h <;> simp [h]
  refine ⟨fun hr w' hs => ?_, fun hg hlim olds ho => ?_⟩
  · cases base with
    | none =>
      cases hs
      by_cases h0 : m * i.size = 0
      · simp [Builtin.append_, run_und ht, run_und hu, sizeOf, typeInfo, hi, asInt, asIntOf, hw, hneg, hbig, hr, h0]
      · simp [Builtin.append_, run_und ht, run_und hu, sizeOf, typeInfo, hi, asInt, asIntOf, hw, hneg, hbig, hr, zeroValue, hz]
    | some a =>
      simp only at hs
      by_cases h0 : m * i.size = 0
      · rw [hnil h0] at hs
        simp [Builtin.append_, run_und ht, run_und hu, sizeOf, typeInfo, hi, asInt, asIntOf, hw, hneg, hbig, hr, h0, hs]
      · simp [Builtin.append_, run_und ht, run_und hu, sizeOf, typeInfo, hi, asInt, asIntOf, hw, hneg, hbig, hr, h0, zeroValue, hz, hzc, hs]
  · refine ⟨grownCap w (sLen + m) sCap e, grownCap_ge .., ?_⟩
    have hle : sLen + m ≤ (sLen + m) * i.bytes := Nat.le_mul_of_pos_right _ hb
    have hn : ¬ (sLen + m ≤ sCap) := by omega
    have h63' : ¬ (9223372036854775807 < ((sLen : Int) + (m : Int))) := by omega
    have h48' : ¬ (281474976710656 < Builtin.nextslicecap (sLen + m) sCap * i.bytes) := by have := growslice_fits (bytes := i.bytes) hg hlim; omega
    by_cases h0 : m * i.size = 0
    · rw [hnil h0]
      simp [Builtin.append_, run_und ht, run_und hu, sizeOf, typeInfo, hi, asInt, asIntOf, hw, hneg, hbig, hn, h63', h48', Question.forced, ho, newRow, zeroValue, hz, grownCap, h0]
      all_goals (congr 2; apply Array.ext'; simp [List.append_assoc])
    · simp [Builtin.append_, run_und ht, run_und hu, sizeOf, typeInfo, hi, asInt, asIntOf, hw, hneg, hbig, hn, h63', h48', Question.forced, ho, newRow, zeroValue, hz, grownCap, h0, hzc]
      all_goals (congr 2; apply Array.ext'; simp [List.append_assoc])
end
end Go.Xr
