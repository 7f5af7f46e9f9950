/- CheckImplies: a clause that follows without groups is true wherever all clauses that stand are: the statement 'Rows.CheckImpliesSaid'. No conditions. -/
import Derived.Test.YtmkbnbpblhoekaaRows
import Derived.Test.YtmkbnbpblhoekaaVDi
import Derived.Test.YtmkbnbpblhoekaaW3
import Derived.WalkKit
import Derived.ProofKit
import Derived.OpenShut
import Derived.ReadAgain
import Derived.HandedShaped
set_option linter.unusedSimpArgs false
set_option linter.unusedVariables false
set_option linter.unusedSectionVars false
namespace Go.Proofs.Ytmkbnbpblhoekaa.checkImplies
open Go.ChangeShapes Go.WideShapes Go.ChangeAt Go.RowKit Go.Xr Go.Chk

theorem own : ownKnob Try.prog.godebug = none := by kernel_rfl
theorem kids : Kids Try.prog (· < Try.prog.types.size) := kids_rows (by kernel_rfl) (by kernel_rfl)
theorem full : ∀ t e, t < Try.prog.types.size → Try.prog.underlying t = some (.slice e) → 0 < Try.prog.cellsOf e := slices_full_of Try.prog (by kernel_rfl)
theorem cells2 : Try.prog.cellsOf 2 = 1 := by kernel_rfl
theorem cells3 : Try.prog.cellsOf 3 = 1 := by kernel_rfl
theorem cells22 : Try.prog.cellsOf 22 = 1 := by kernel_rfl
theorem cells32 : Try.prog.cellsOf 32 = 1 := by kernel_rfl
theorem cells33 : Try.prog.cellsOf 33 = 1 := by kernel_rfl
theorem cells57 : Try.prog.cellsOf 57 = 1 := by kernel_rfl
theorem cells24 : Try.prog.cellsOf 24 = 2 := by kernel_rfl

/-- There is something in any world. -/
theorem size_pos {W : World} (h : W.ShapedOpen Try.prog) : 0 < W.heap.size := by
  have hk : Try.prog.globals.size < (begin Try.prog (fun _ _ => 0) default).world.heap.size := of_decide_eq_true (by kernel_rfl)
  obtain ⟨o, _, h1, _⟩ := h.2 _ (Nat.le_refl _) hk
  have := (Array.getElem?_eq_some_iff.1 h1).1
  omega

theorem carried {H : Type} {enc : TypeId × Value → H} {W W' : World} (hb : Below W.heap.size W W') : ∀ {ts : List TypeId} {vs : List Value} {ds : List (DataW H)} {ps : List MemPlace},
    DataW.TrodAll enc Try.prog W 0 (fun _ => true) true ts vs ds ps → DataW.TrodAll enc Try.prog W' 0 (fun _ => true) true ts vs ds ps
  | [], [], [], _, h => h
  | _ :: _, _ :: _, _ :: _, _, ⟨p, q, ⟨n, h1⟩, h2, e⟩ => by
    refine ⟨p, q, ⟨n, DataW.trod_carry n _ _ _ h1 fun x hx => hb.same ?_⟩, carried hb h2, e⟩
    exact DataW.TrodAll.lt (ts := [_]) (vs := [_]) (ds := [_]) (ps := p) ⟨p, [], ⟨n, h1⟩, rfl, (List.append_nil p).symm⟩ x hx

section
variable {H : Type} {enc : TypeId × Value → H} {W : World}
theorem slice_form {base : Nat} {sp : Nat → Bool} {held : Bool} {m : Nat} {t e : TypeId} {c : Value} {y : DataW H × List MemPlace} (hsp : ∀ b, sp b = true) (ht : Try.prog.underlying t = some (.slice e)) (h : DataW.trod enc Try.prog W base sp held m t [c] = some y) : c = .slice none 0 0 ∨ ∃ a len cap, c = .slice (some a) len cap := by
  obtain ⟨d, ps⟩ := y
  rcases trod_slice hsp ht h with rfl | ⟨a, len, cap, _, rfl, _⟩
  · exact .inl rfl
  · exact .inr ⟨a, len, cap, rfl⟩
/-- The clauses. -/
theorem clauses_of {base m : Nat} {c : Value} {y : DataW H × List MemPlace} (h : DataW.trod enc Try.prog W base (fun _ => true) true m 22 [c] = some y) : ∃ cs : List (List Int), Cls (first W) (tr W.heap.size c) cs ∧ ∀ c ∈ cs, ∀ x ∈ c, I32ok x := by
  obtain ⟨d, ps⟩ := y
  obtain ⟨xs, h1, h2, h3⟩ := first_slice (fun _ => rfl) Try.underlying22 cells32 h
  have hall : ∀ x ∈ xs, ∃ ns : List Int, Sl (first W) (tr W.heap.size x) (ns.map (.int .i32)) ∧ ∀ n ∈ ns, I32ok n := fun x hx => by
    obtain ⟨m', ⟨d', ps'⟩, q⟩ := h3 x hx
    obtain ⟨ns, s1, _, s3⟩ := first_ints (fun _ => rfl) Try.underlying32 cells57 Try.underlying57 q
    exact ⟨ns, s1, fun n hn => bounds_i32 (s3 n hn)⟩
  obtain ⟨cs, e1, e2⟩ := choose_all hall
  refine ⟨cs, ⟨xs.map (tr W.heap.size), h1, by simp [e1], fun i hi => ?_⟩, fun c hc => ?_⟩
  · have := (e2 i (by omega) hi).1
    rw [show (xs.map (tr W.heap.size)).getD i .nils = tr W.heap.size (xs[i]'(by omega)) by simp [show i < xs.length by omega]]
    exact this
  · obtain ⟨i, hi, rfl⟩ := List.getElem_of_mem hc
    exact (e2 i (by omega) hi).2
/-- A row of literals, or of hints. -/
theorem intRow_of {base m : Nat} {t e : TypeId} {k : IntKind} {c : Value} {y : DataW H × List MemPlace} (hpos : 0 < W.heap.size) (ht : Try.prog.underlying t = some (.slice e)) (hc : Try.prog.cellsOf e = 1) (he : Try.prog.underlying e = some (.int k)) (h : DataW.trod enc Try.prog W base (fun _ => true) true m t [c] = some y) : ∃ ns : List Int, Sw (first W) (tr W.heap.size c) (ns.map (.int k)) ∧ ∀ n ∈ ns, (Lit.int k n).wf = true := by
  obtain ⟨d, ps⟩ := y
  obtain ⟨ns, s1, _, s3⟩ := first_ints (fun _ => rfl) ht hc he h
  exact ⟨ns, sw_of_sl (slice_form (fun _ => rfl) ht h) hpos s1, fun n hn => (s3 n hn)⟩
end

set_option maxRecDepth 100000 in
theorem walk {H : Type} {enc : TypeId × Value → H} {W : World} {base : Nat} {v0 v1 v2 : Value} {d0 d1 d2 : DataW H} {p0 p1 p2 : List MemPlace} (hpos : 0 < W.heap.size)
    (hv : Value.okWide Try.prog W .any base 24 v0) (hv1 : Value.okWide Try.prog W .any base 32 v1) (hv2 : Value.okWide Try.prog W .any base 33 v2)
    (h0 : DataW.Trod enc Try.prog W 0 (fun _ => true) true 24 v0 d0 p0) (h1 : DataW.Trod enc Try.prog W 0 (fun _ => true) true 32 v1 d1 p1) (h2 : DataW.Trod enc Try.prog W 0 (fun _ => true) true 33 v2 d2 p2) :
    Calls Try.prog 4 #[v0, v1, v2] W fun e w' => e = .returned (.bool true) ∧ Below W.heap.size W w' := by
  simp only [Value.okWide, Try.underlying24] at hv
  obtain ⟨cs, rfl, hcs, _⟩ := hv
  rw [cells24] at hcs
  obtain ⟨n0, h0⟩ := h0
  obtain ⟨a1, l1, k1, rfl⟩ := okWide_slice Try.underlying32 hv1
  obtain ⟨n1, h1⟩ := h1
  obtain ⟨a2, l2, k2, rfl⟩ := okWide_slice Try.underlying33 hv2
  obtain ⟨n2, h2⟩ := h2
  have hcs' : ∃ c0 c1, cs = #[c0, c1] := by
    obtain ⟨l⟩ := cs
    match l, hcs with
    | [a, b], _ => exact ⟨a, b, rfl⟩
  obtain ⟨c0, c1, rfl⟩ := hcs'
  obtain ⟨_, _, f0⟩ := trod_field Try.underlying24 h0 0 rfl cells3 (c := c0) rfl
  obtain ⟨_, _, f1⟩ := trod_field Try.underlying24 h0 1 rfl cells22 (c := c1) rfl
  obtain ⟨kk, rfl, _⟩ := trod_int Try.underlying3 f0
  obtain ⟨cl, s1, s2⟩ := clauses_of f1
  obtain ⟨ls, s3, s4⟩ := intRow_of hpos Try.underlying32 cells57 Try.underlying57 h1
  obtain ⟨hs, s5, _⟩ := intRow_of hpos Try.underlying33 cells2 Try.underlying2 h2
  letI : RoLim := ⟨W.heap.size⟩
  obtain ⟨m, v, h', he, rfl, _⟩ := implies_ok (vars := kk) s1 s3 s5 s2 fun x hx => bounds_i32 (s4 x hx)
  have hw : CallWP Try.prog false 4 _ (first W) fun v1 h1 => v1 = .bool true ∧ h1 = h' := ev_sound (by kernel_rfl) xprog_ok H0_ok m _ _ he
  refine (CallWP.calls (args' := #[.agg #[.int .i64 kk, c1], .slice a1 l1 k1, .slice a2 l2 k2]) hw (first_rel W rfl) (.cons (VR.agg (.cons (.int ..) (.cons (tr_VR hpos c1) .nil))) (.cons (tr_VR hpos _) (.cons (tr_VR hpos _) .nil)))).mono ?_
  rintro e w' ⟨v, h1, μ', x, ⟨rfl, rfl⟩, r, rfl⟩
  have hv := r.val
  cases hv
  exact ⟨rfl, r.rel.os, r.rel.tape, r.rel.output, r.rel.size, fun b hb => (r.rel.kept b hb).2⟩

set_option maxRecDepth 100000 in
theorem lifted (os : Os) (started : os.Started) (H : Type) (enc : TypeId × Value → H) :
    ReturnsInHanded {} Try.checked os 4 .any (Rows.checkImpliesSpec.pre6 enc Try.prog Try.f4 Rows.checkImpliesRow.domain false) (Rows.checkImpliesSpec.post enc Try.prog Try.f4 false true false false) := by
  refine returnsInHanded_of_change_shaped (C := Try.checked) own started (by kernel_rfl) Try.func4
    (ChangeSpec.witness6 (enc := enc) (C := Try.checked) false ⟨#[], #[.agg #[.int .i64 0, .slice none 0 0], .slice none 0 0, .slice none 0 0], []⟩ 8 (by kernel_rfl) (by kernel_rfl) (by kernel_rfl) (by kernel_rfl)) ?_
  intro W base args ds gs before hval0 hW hcnd _ hsh _
  have hval : ∀ (j : Nat) t v, Try.f4.params[j]? = some t → args[j]? = some v → Value.okWide Try.prog W .any base t v := hval0
  have hW' := hW
  obtain ⟨p, q, hA0, hV, rfl, hfz, hnd⟩ := hW
  have hA : DataW.TrodAll enc Try.prog W 0 (fun _ => true) true Try.f4.params.toList args.toList ds p := hA0
  have hA2 := hA
  rw [Try.params4] at hA hval
  obtain ⟨v0, v1, v2, d0, d1, d2, p0, p1, p2, rfl, rfl, rfl, h0, h1, h2⟩ := trodAll_three hA
  obtain ⟨rfl, rfl⟩ := trodVars_none hV
  clear hA0 hval0
  simp only [List.append_nil] at hW'
  refine (walk (size_pos hsh) (hval 0 24 _ rfl rfl) (hval 1 32 _ rfl rfl) (hval 2 33 _ rfl rfl) h0 h1 h2).mono fun e W' ⟨he, hg⟩ => ?_
  subst he
  exact ⟨_, rfl, ⟨_, _, _, [], _, [], hW', (trodAll_cons_mk (shut_bool Try.underlying4 _) trodAll_mk0), DataW.TrodAll.respare kids full (by rw [Try.params4]; decide) (carried hg hA2) (fun p hp => decide_eq_true (hA2.lt p hp)), rfl, hg.frame _, fun h => by cases h⟩⟩

theorem over : Rows.checkImpliesRow.holds Try.pinned (OpenSpec.ofChange Rows.checkImpliesSpec) :=
  OpenClaim.holds_of_wide 4 Try.f4 rfl rfl rfl rfl rfl rfl rfl ⟨rfl, rfl, rfl, rfl, rfl⟩ rfl rfl rfl rfl rfl (by kernel_rfl) Try.func4 (by kernel_rfl)
    (of_decide_eq_true (by kernel_rfl)) (by unfold Func.isWrapper; first | (rw [if_pos (by decide +kernel)]; kernel_rfl) | (rw [if_neg (by decide +kernel)]; exact ⟨rfl, rfl⟩))
    (fun os started H enc _ => lifted os started H enc)

theorem proved : Rows.CheckImpliesSaid :=
  over
end Go.Proofs.Ytmkbnbpblhoekaa.checkImplies
