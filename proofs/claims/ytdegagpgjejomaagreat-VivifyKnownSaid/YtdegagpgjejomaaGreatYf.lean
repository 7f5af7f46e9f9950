/- Objects that are forgotten, and maps under a range that are put aside. -/
import Derived.Test.YtdegagpgjejomaaGreatYe
namespace Go.Xr
open Go.RowKit
section
variable [RoLim] {P : Program} {K : Nat → Prop} {w0 : World} {μ μ2 : Mu} {h h2 : Heap} {w w2 : World}

theorem Rel.forget (R : Rel P K w0 μ h w) {o : Nat} {x : XObj} (hg : h.get o = some x) (many : Bool) (hm : many = false → ∀ g, genX x g → g = 0) : Rel P K w0 μ (h.put o (.dead many)) w := by
  refine R.step o (.dead many) (Mu.le_refl μ) (fun o' => Heap.get_put ..) (Nat.le_refl _) (R.obj o x hg).1 (Nat.le_refl _) (fun b _ => .inl rfl) (fun o' g l hm => .inl hm) (fun g l hl => hl.elim) (fun g l hml => ?_) trivial
    (fun oi mo ins seen cur kd es ins' e1 e2 e3 => ?_) rfl rfl rfl
  · cases many with
    | true => trivial
    | false => exact hm rfl g (R.gens o g l x hml hg)
  · rw [Heap.get_put] at e1 e2
    rcases e3 with rfl | rfl
    · simp at e1
    · simp at e2

/-- A map under a range, and the range's place, are taken up again as they were put aside. -/
theorem Rel.unhide (R1 : Rel P K w0 μ h w) {oi mo ins insN : Nat} {seen : List Int} {cur : Option Int} {kd : IntKind} {es : List (Int × V)} {li lm : Loc} (hgi : h.get oi = some (.miter (some mo) ins seen cur)) (hgm : h.get mo = some (.map kd es ins))
    (hli : μ oi 0 = some li) (hlm : μ mo 0 = some lm) (R2 : Rel P (fun b => K b ∨ b = li.blk ∨ b = lm.blk) w μ2 h2 w2) (hle : μ.le μ2) (hdi : h2.get oi = some (.dead false)) (hdm : h2.get mo = some (.dead false))
    (hnew : ∀ o ins1 seen1 cur1, h2.get o = some (.miter (some mo) ins1 seen1 cur1) → ins1 < insN) :
    Rel P K w0 μ2 ((h2.put oi (.miter (some mo) insN seen cur)).put mo (.map kd es insN)) w2 := by
  have hne : oi ≠ mo := fun e => by rw [e, hgm] at hgi; cases hgi
  have hget : ∀ o, ((h2.put oi (.miter (some mo) insN seen cur)).put mo (.map kd es insN)).get o = if o = mo then some (.map kd es insN) else if o = oi then some (.miter (some mo) insN seen cur) else h2.get o := fun o => by rw [Heap.get_put, Heap.get_put]
  have hli2 := hle _ _ _ hli
  have hlm2 := hle _ _ _ hlm
  have kb : ∀ b, (b = li.blk ∨ b = lm.blk) → w2.heap[b]? = w.heap[b]? := fun b hb => (R2.kept b (.inr hb)).2
  obtain ⟨lm', es', clock, q1, q2, q3⟩ := (R1.obj mo _ hgm).2
  rw [hlm] at q1
  cases q1
  obtain ⟨li', p1, lm', p2, s, se, st, p3⟩ := (R1.obj oi _ hgi).2
  rw [hli] at p1
  cases p1
  rw [hlm] at p2
  cases p2
  have hblk : li.blk ≠ lm.blk := by
    intro e
    rcases R1.apart oi 0 li mo 0 lm ⟨_, hgi, rfl⟩ ⟨_, hgm, rfl⟩ hli hlm e with e2 | ⟨e2, _⟩
    · exact hne e2
    · obtain ⟨x, hx, hr⟩ := e2
      rw [hgi] at hx
      cases hx
      exact hr
  have hlive : ∀ o g, o ≠ mo → o ≠ oi → Live ((h2.put oi (.miter (some mo) insN seen cur)).put mo (.map kd es insN)) o g → Live h2 o g := fun o g e1 e2 ⟨x, hx, hl⟩ => ⟨x, by rw [hget, if_neg e1, if_neg e2] at hx; exact hx, hl⟩
  have hroi : ∀ o, o ≠ mo → o ≠ oi → (isRo ((h2.put oi (.miter (some mo) insN seen cur)).put mo (.map kd es insN)) o ↔ isRo h2 o) := fun o e1 e2 => by unfold isRo; rw [hget, if_neg e1, if_neg e2]
  have g0m : ∀ g l, μ2 mo g = some l → g = 0 := fun g l hm => R2.gens mo g l _ hm hdm
  have g0i : ∀ g l, μ2 oi g = some l → g = 0 := fun g l hm => R2.gens oi g l _ hm hdi
  -- another live object lies in neither block
  have off : ∀ o g l, Live h2 o g → μ2 o g = some l → l.blk ≠ li.blk ∧ l.blk ≠ lm.blk := by
    intro o g l hl hm
    rcases R2.own o g l hl hm with hro | hk
    · obtain ⟨⟨x, hx, hr⟩, _⟩ := hro
      obtain ⟨y, hy, hly⟩ := hl
      rw [hx] at hy
      cases hy
      cases x with
      | cells c =>
        obtain ⟨L, hL⟩ := hly
        obtain ⟨l', arr, et, fz, m1, _, m3, _⟩ := (R2.obj o _ hx).2.1 g L hL
        rw [hm] at m1
        cases m1
        refine ⟨fun e => ?_, fun e => ?_⟩
        · rw [e, kb _ (.inl rfl), p3] at m3; cases m3
        · rw [e, kb _ (.inr rfl), q2] at m3; cases m3
      | _ => exact hr.elim
    · exact ⟨fun e => hk (.inr (.inl e)), fun e => hk (.inr (.inr e))⟩
  refine ⟨fun o g l hm => R2.dom o g l hm, fun o g l x hm hx => ?_, fun o x hx => ?_, fun oi' mo' ins1 seen1 cur1 kd1 es1 ins2 e1 e2 => ?_, fun oa ga la ob gb lb hla hlb hma hmb e => ?_, fun o g l hl hm => ?_, fun b hb => ?_,
    R2.os.trans R1.os, R2.tape.trans R1.tape, R2.output.trans R1.output, Nat.le_trans R1.size R2.size, R1.low⟩
  · rw [hget] at hx
    by_cases e1 : o = mo
    · subst e1
      rw [if_pos rfl] at hx
      cases hx
      exact g0m g l hm
    · rw [if_neg e1] at hx
      by_cases e2 : o = oi
      · subst e2
        rw [if_pos rfl] at hx
        cases hx
        exact g0i g l hm
      · rw [if_neg e2] at hx
        exact R2.gens o g l x hm hx
  · rw [hget] at hx
    by_cases e1 : o = mo
    · subst e1
      rw [if_pos rfl] at hx
      cases hx
      exact ⟨(R2.obj o _ hdm).1, lm, es', clock, hlm2, (kb _ (.inr rfl)).trans q2, q3.mono hle⟩
    · rw [if_neg e1] at hx
      by_cases e2 : o = oi
      · subst e2
        rw [if_pos rfl] at hx
        cases hx
        exact ⟨(R2.obj o _ hdi).1, li, hli2, lm, hlm2, s, se, st, (kb _ (.inl rfl)).trans p3⟩
      · rw [if_neg e2] at hx
        exact R2.obj o x hx
  · rw [hget] at e1 e2
    by_cases f1 : mo' = mo
    · subst f1
      rw [if_pos rfl] at e2
      cases e2
      by_cases f2 : oi' = mo'
      · rw [if_pos f2] at e1; cases e1
      · rw [if_neg f2] at e1
        by_cases f3 : oi' = oi
        · subst f3
          rw [if_pos rfl] at e1
          cases e1
          refine ⟨Nat.le_refl _, fun _ => ?_⟩
          have hit := (R1.iters _ _ _ _ _ _ _ _ hgi hgm).2 rfl
          intro l1 l2 es2 clock2 m1 m2 m3
          rw [hlm2] at m1
          cases m1
          rw [hli2] at m2
          cases m2
          rw [kb _ (.inr rfl)] at m3
          obtain ⟨seen', a, b⟩ := hit lm li es2 clock2 hlm hli m3
          exact ⟨seen', (kb _ (.inl rfl)).trans a, b⟩
        · rw [if_neg f3] at e1
          have := hnew _ _ _ _ e1
          exact ⟨by omega, fun e => by omega⟩
    · rw [if_neg f1] at e2
      by_cases f2 : oi' = mo
      · rw [if_pos f2] at e1; cases e1
      · rw [if_neg f2] at e1
        by_cases f3 : oi' = oi
        · rw [if_pos f3] at e1
          cases e1
          exact absurd rfl f1
        · rw [if_neg f3] at e1
          by_cases f4 : mo' = oi
          · rw [if_pos f4] at e2; cases e2
          · rw [if_neg f4] at e2
            exact R2.iters _ _ _ _ _ _ _ _ e1 e2
  · by_cases ea : oa = mo
    · subst ea
      have := g0m _ _ hma; subst this
      rw [hlm2] at hma; cases hma
      by_cases eb : ob = oa
      · exact .inl eb.symm
      · by_cases eb2 : ob = oi
        · subst eb2
          have := g0i _ _ hmb; subst this
          rw [hli2] at hmb; cases hmb
          exact absurd e.symm hblk
        · exact absurd e.symm (off ob gb lb (hlive ob gb eb eb2 hlb) hmb).2
    · by_cases ea2 : oa = oi
      · subst ea2
        have := g0i _ _ hma; subst this
        rw [hli2] at hma; cases hma
        by_cases eb : ob = mo
        · subst eb
          have := g0m _ _ hmb; subst this
          rw [hlm2] at hmb; cases hmb
          exact absurd e hblk
        · by_cases eb2 : ob = oa
          · exact .inl eb2.symm
          · exact absurd e.symm (off ob gb lb (hlive ob gb eb eb2 hlb) hmb).1
      · by_cases eb : ob = mo
        · subst eb
          have := g0m _ _ hmb; subst this
          rw [hlm2] at hmb; cases hmb
          exact absurd e (off oa ga la (hlive oa ga ea ea2 hla) hma).2
        · by_cases eb2 : ob = oi
          · subst eb2
            have := g0i _ _ hmb; subst this
            rw [hli2] at hmb; cases hmb
            exact absurd e (off oa ga la (hlive oa ga ea ea2 hla) hma).1
          · rw [hroi _ ea ea2, hroi _ eb eb2]
            exact R2.apart oa ga la ob gb lb (hlive oa ga ea ea2 hla) (hlive ob gb eb eb2 hlb) hma hmb e
  · by_cases e1 : o = mo
    · subst e1
      have := g0m _ _ hm; subst this
      rw [hlm2] at hm; cases hm
      rcases R1.own o 0 lm ⟨_, hgm, rfl⟩ hlm with hr | hk
      · obtain ⟨⟨x, hx, hr⟩, _⟩ := hr; rw [hgm] at hx; cases hx; exact hr.elim
      · exact .inr hk
    · by_cases e2 : o = oi
      · subst e2
        have := g0i _ _ hm; subst this
        rw [hli2] at hm; cases hm
        rcases R1.own o 0 li ⟨_, hgi, rfl⟩ hli with hr | hk
        · obtain ⟨⟨x, hx, hr⟩, _⟩ := hr; rw [hgi] at hx; cases hx; exact hr.elim
        · exact .inr hk
      · rw [hroi _ e1 e2]
        exact (R2.own o g l (hlive o g e1 e2 hl) hm).imp id fun hk hK => hk (.inl hK)
  · obtain ⟨a1, a2⟩ := R1.kept b hb
    exact ⟨a1, ((R2.kept b (.inl hb)).2).trans a2⟩
end
end Go.Xr
