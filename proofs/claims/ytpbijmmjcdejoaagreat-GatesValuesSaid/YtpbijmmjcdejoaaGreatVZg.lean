/- GatesValues: what a gate is worth in a model is what the document says, whatever the gate and the model: the statement 'Rows.GatesValuesSaid'. No conditions. -/
import Derived.Test.YtpbijmmjcdejoaaGreatRows
import Derived.Test.YtpbijmmjcdejoaaGreatVGa2
import Derived.Test.YtpbijmmjcdejoaaGreatW4
import Derived.Test.YtpbijmmjcdejoaaGreatVZk
import Derived.WalkKit
import Derived.ProofKit
import Derived.OpenShut
import Derived.ReadAgain
import Derived.HandedShaped
namespace Go.Proofs.YtpbijmmjcdejoaaGreat.gatesValues
open Go.ChangeShapes Go.WideShapes Go.ChangeAt Go.RowKit Go.Xr

theorem own : ownKnob Tryz.prog.godebug = none := by kernel_rfl
theorem kids : Kids Tryz.prog (· < Tryz.prog.types.size) := kids_rows (by kernel_rfl) (by kernel_rfl)
theorem full : ∀ t e, t < Tryz.prog.types.size → Tryz.prog.underlying t = some (.slice e) → 0 < Tryz.prog.cellsOf e := slices_full_of Tryz.prog (by kernel_rfl)
theorem cells5 : Tryz.prog.cellsOf 5 = 1 := by kernel_rfl
theorem cells22 : Tryz.prog.cellsOf 22 = 1 := by kernel_rfl
theorem cells24 : Tryz.prog.cellsOf 24 = 1 := by kernel_rfl
theorem cells25 : Tryz.prog.cellsOf 25 = 1 := by kernel_rfl
theorem cells4 : Tryz.prog.cellsOf 4 = 1 := by kernel_rfl
theorem cells27 : Tryz.prog.cellsOf 27 = 4 := by kernel_rfl

theorem H0_ok [RoLim] : HookOk Tryz.prog H0 := orElse_sound (worksHook_sound Tryz.func4 ⟨fun e => absurd (beq_iff_eq.2 e) (by decide), rfl⟩ told_true) baseHook_ok

/-- There is something in any world. -/
theorem size_pos {W : World} (h : W.ShapedOpen Tryz.prog) : 0 < W.heap.size := by
  have hk : Tryz.prog.globals.size < (begin Tryz.prog (fun _ _ => 0) default).world.heap.size := of_decide_eq_true (by kernel_rfl)
  obtain ⟨o, _, h1, _⟩ := h.2 _ (Nat.le_refl _) hk
  have := (Array.getElem?_eq_some_iff.1 h1).1
  omega

theorem carried {H : Type} {enc : TypeId × Value → H} {W W' : World} (hb : Below W.heap.size W W') : ∀ {ts : List TypeId} {vs : List Value} {ds : List (DataW H)} {ps : List MemPlace},
    DataW.TrodAll enc Tryz.prog W 0 (fun _ => true) true ts vs ds ps → DataW.TrodAll enc Tryz.prog W' 0 (fun _ => true) true ts vs ds ps
  | [], [], [], _, h => h
  | _ :: _, _ :: _, _ :: _, _, ⟨p, q, ⟨n, h1⟩, h2, e⟩ => by
    refine ⟨p, q, ⟨n, DataW.trod_carry n _ _ _ h1 fun x hx => hb.same ?_⟩, carried hb h2, e⟩
    exact DataW.TrodAll.lt (ts := [_]) (vs := [_]) (ds := [_]) (ps := p) ⟨p, [], ⟨n, h1⟩, rfl, (List.append_nil p).symm⟩ x hx

set_option maxRecDepth 100000 in
theorem walk {H : Type} {enc : TypeId × Value → H} {W : World} {base : Nat} {v0 v1 : Value} {d0 d1 : DataW H} {p0 p1 : List MemPlace} (hpos : 0 < W.heap.size)
    (hv : Value.okWide Tryz.prog W .any base 27 v0) (hv1 : Value.okWide Tryz.prog W .any base 29 v1)
    (h0 : DataW.Trod enc Tryz.prog W 0 (fun _ => true) true 27 v0 d0 p0) (h1 : DataW.Trod enc Tryz.prog W 0 (fun _ => true) true 29 v1 d1 p1) :
    Calls Tryz.prog 3 #[v0, v1] W fun e w' => e = .returned (.bool true) ∧ Below W.heap.size W w' := by
  simp only [Value.okWide, Tryz.underlying27] at hv
  obtain ⟨cs, rfl, hcs, _⟩ := hv
  rw [cells27] at hcs
  obtain ⟨n0, h0⟩ := h0
  obtain ⟨a1, l1, k1, rfl⟩ := okWide_slice Tryz.underlying29 hv1
  obtain ⟨n1, h1⟩ := h1
  have hcs' : ∃ c0 c1 c2 c3, cs = #[c0, c1, c2, c3] := by
    obtain ⟨l⟩ := cs
    match l, hcs with
    | [a, b, c, d], _ => exact ⟨a, b, c, d, rfl⟩
  obtain ⟨c0, c1, c2, c3, rfl⟩ := hcs'
  obtain ⟨_, _, f0⟩ := trod_field Tryz.underlying27 h0 0 rfl cells5 (c := c0) rfl
  obtain ⟨_, _, f1⟩ := trod_field Tryz.underlying27 h0 1 rfl cells22 (c := c1) rfl
  obtain ⟨_, _, f2⟩ := trod_field Tryz.underlying27 h0 2 rfl cells24 (c := c2) rfl
  obtain ⟨kk, rfl, _⟩ := trod_int Tryz.underlying5 f0
  obtain ⟨oo, rfl, _⟩ := trod_int Tryz.underlying22 f1
  obtain ⟨ns, s2, _, s3⟩ := first_ints (fun _ => rfl) Tryz.underlying24 cells22 Tryz.underlying22 f2
  obtain ⟨bs, s4, _⟩ := first_bools (fun _ => rfl) Tryz.underlying29 cells4 Tryz.underlying4 h1
  letI : RoLim := ⟨W.heap.size⟩
  obtain ⟨m, v, h', he, rfl⟩ := f3 (k := kk) (out := oo) (ids := tr W.heap.size c3) s2 s4 fun x hx => bounds_i32 (s3 x hx)
  have hw : CallWP Tryz.prog false 3 _ (first W) fun v1 h1 => v1 = .bool true ∧ h1 = h' := ev_sound (by kernel_rfl) xprog_ok H0_ok m _ _ he
  refine (CallWP.calls (args' := #[.agg #[.int .u8 kk, .int .i32 oo, c2, c3], .slice a1 l1 k1]) hw (first_rel W rfl) (.cons (VR.agg (.cons (.int ..) (.cons (.int ..) (.cons (tr_VR hpos c2) (.cons (tr_VR hpos c3) .nil))))) (.cons (tr_VR hpos _) .nil))).mono ?_
  rintro e w' ⟨v, h1, μ', x, ⟨rfl, rfl⟩, r, rfl⟩
  have hv := r.val
  cases hv
  exact ⟨rfl, r.rel.os, r.rel.tape, r.rel.output, r.rel.size, fun b hb => (r.rel.kept b hb).2⟩

set_option maxRecDepth 100000 in
theorem lifted (os : Os) (started : os.Started) (H : Type) (enc : TypeId × Value → H) :
    ReturnsInHanded {} Tryz.checked os 3 .any (Rows.gatesValuesSpec.pre6 enc Tryz.prog Tryz.f3 Rows.gatesValuesRow.domain false) (Rows.gatesValuesSpec.post enc Tryz.prog Tryz.f3 false true false false) := by
  refine returnsInHanded_of_change_shaped (C := Tryz.checked) own started (by kernel_rfl) Tryz.func3
    (ChangeSpec.witness6 (enc := enc) (C := Tryz.checked) false ⟨#[], #[.agg #[.int .u8 0, .int .i32 0, .slice none 0 0, .slice none 0 0], .slice none 0 0], []⟩ 8 (by kernel_rfl) (by kernel_rfl) (by kernel_rfl) (by kernel_rfl)) ?_
  intro W base args ds gs before hval0 hW hcnd _ hsh _
  have hval : ∀ (j : Nat) t v, Tryz.f3.params[j]? = some t → args[j]? = some v → Value.okWide Tryz.prog W .any base t v := hval0
  have hW' := hW
  obtain ⟨p, q, hA0, hV, rfl, hfz, hnd⟩ := hW
  have hA : DataW.TrodAll enc Tryz.prog W 0 (fun _ => true) true Tryz.f3.params.toList args.toList ds p := hA0
  have hA2 := hA
  rw [Tryz.params3] at hA hval
  obtain ⟨v0, v1, d0, d1, p0, p1, rfl, rfl, rfl, h0, h1⟩ := trodAll_two hA
  obtain ⟨rfl, rfl⟩ := trodVars_none hV
  clear hA0 hval0
  simp only [List.append_nil] at hW'
  refine (walk (size_pos hsh) (hval 0 27 _ rfl rfl) (hval 1 29 _ rfl rfl) h0 h1).mono fun e W' ⟨he, hg⟩ => ?_
  subst he
  exact ⟨_, rfl, ⟨_, _, _, [], _, [], hW', (trodAll_cons_mk (shut_bool Tryz.underlying4 _) trodAll_mk0), DataW.TrodAll.respare kids full (by rw [Tryz.params3]; decide) (carried hg hA2) (fun p hp => decide_eq_true (hA2.lt p hp)), rfl, hg.frame _, fun h => by cases h⟩⟩

theorem over : Rows.gatesValuesRow.holds Tryz.pinned (OpenSpec.ofChange Rows.gatesValuesSpec) :=
  OpenClaim.holds_of_wide 3 Tryz.f3 rfl rfl rfl rfl rfl rfl rfl ⟨rfl, rfl, rfl, rfl, rfl⟩ rfl rfl rfl rfl rfl (by kernel_rfl) Tryz.func3 (by kernel_rfl)
    (of_decide_eq_true (by kernel_rfl)) (by unfold Func.isWrapper; first | (rw [if_pos (by decide +kernel)]; kernel_rfl) | (rw [if_neg (by decide +kernel)]; exact ⟨rfl, rfl⟩))
    (fun os started H enc _ => lifted os started H enc)

theorem proved : Rows.GatesValuesSaid :=
  over
end Go.Proofs.YtpbijmmjcdejoaaGreat.gatesValues
