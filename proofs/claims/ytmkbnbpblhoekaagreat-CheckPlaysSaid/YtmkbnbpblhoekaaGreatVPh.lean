/- CheckPlays: a checker of any formula answers any row of steps as the document says, and holds the clauses that it says: the statement 'Rows.CheckPlaysSaid'. No conditions. -/
import Derived.Test.YtmkbnbpblhoekaaGreatRows
import Derived.Test.YtmkbnbpblhoekaaGreatU17
import Derived.Test.YtmkbnbpblhoekaaGreatW3
import Derived.WalkKit
import Derived.ProofKit
import Derived.OpenShut
import Derived.ReadAgain
import Derived.HandedShaped
set_option linter.unusedSimpArgs false
set_option linter.unusedVariables false
set_option linter.unusedSectionVars false
namespace Go.Proofs.YtmkbnbpblhoekaaGreat.checkPlays
open Go.ChangeShapes Go.WideShapes Go.ChangeAt Go.RowKit Go.Xr Go.Chk
theorem own : ownKnob Tryz.prog.godebug = none := by kernel_rfl
theorem kids : Kids Tryz.prog (· < Tryz.prog.types.size) := kids_rows (by kernel_rfl) (by kernel_rfl)
theorem full : ∀ t e,t < Tryz.prog.types.size -> Tryz.prog.underlying t = some (.slice e) -> 0 < Tryz.prog.cellsOf e := slices_full_of Tryz.prog (by kernel_rfl)
theorem cells2 : Tryz.prog.cellsOf 2 = 1 := by kernel_rfl
theorem cells3 : Tryz.prog.cellsOf 3 = 1 := by kernel_rfl
theorem cells5 : Tryz.prog.cellsOf 5 = 1 := by kernel_rfl
theorem cells22 : Tryz.prog.cellsOf 22 = 1 := by kernel_rfl
theorem cells39 : Tryz.prog.cellsOf 39 = 1 := by kernel_rfl
theorem cells42 : Tryz.prog.cellsOf 42 = 1 := by kernel_rfl
theorem cells40 : Tryz.prog.cellsOf 40 = 1 := by kernel_rfl
theorem cells24 : Tryz.prog.cellsOf 24 = 2 := by kernel_rfl
theorem cells44 : Tryz.prog.cellsOf 44 = 4 := by kernel_rfl
theorem size_pos {W : World} (h : W.ShapedOpen Tryz.prog) : 0 < W.heap.size := by
 have hk : Tryz.prog.globals.size < (begin Tryz.prog (fun _ _ => 0) default).world.heap.size := of_decide_eq_true (by kernel_rfl)
 obtain ⟨o,_,h1,_⟩ := h.2 _ (Nat.le_refl _) hk
 have := (Array.getElem?_eq_some_iff.1 h1).1
 omega
theorem carried {H : Type} {enc : TypeId × Value -> H} {W W' : World} (hb : Below W.heap.size W W') : ∀ {ts : List TypeId} {vs : List Value} {ds : List (DataW H)} {ps : List MemPlace},
  DataW.TrodAll enc Tryz.prog W 0 (fun _ => true) true ts vs ds ps -> DataW.TrodAll enc Tryz.prog W' 0 (fun _ => true) true ts vs ds ps
 | [],[],[],_,h => h
 | _ :: _,_ :: _,_ :: _,_,⟨p,q,⟨n,h1⟩,h2,e⟩ => by
  refine ⟨p,q,⟨n,DataW.trod_carry n _ _ _ h1 fun x hx => hb.same ?_⟩,carried hb h2,e⟩
  exact DataW.TrodAll.lt (ts := [_]) (vs := [_]) (ds := [_]) (ps := p) ⟨p,[],⟨n,h1⟩,rfl,(List.append_nil p).symm⟩ x hx
section
variable {H : Type} {enc : TypeId × Value -> H} {W : World}
theorem slice_form {base : Nat} {sp : Nat -> Bool} {held : Bool} {m : Nat} {t e : TypeId} {c : Value} {y : DataW H × List MemPlace} (hsp : ∀ b,sp b = true) (ht : Tryz.prog.underlying t = some (.slice e)) (h : DataW.trod enc Tryz.prog W base sp held m t [c] = some y) : c = .slice none 0 0 \/ ∃ a len cap,c = .slice (some a) len cap := by
 obtain ⟨d,ps⟩ := y
 rcases trod_slice hsp ht h with rfl | ⟨a,len,cap,_,rfl,_⟩
 ·exact .inl rfl
 ·exact .inr ⟨a,len,cap,rfl⟩
theorem clauses_of {base m : Nat} {c : Value} {y : DataW H × List MemPlace} (h : DataW.trod enc Tryz.prog W base (fun _ => true) true m 22 [c] = some y) : ∃ cs : List (List Int),Cls (first W) (tr W.heap.size c) cs /\ ∀ c ∈ cs, ∀ x ∈ c,I32ok x := by
 obtain ⟨d,ps⟩ := y
 obtain ⟨xs,h1,h2,h3⟩ := first_slice (fun _ => rfl) Tryz.underlying22 cells39 h
 have hall : ∀ x ∈ xs, ∃ ns : List Int,Sl (first W) (tr W.heap.size x) (ns.map (.int .i32)) /\ ∀ n ∈ ns,I32ok n := fun x hx => by
  obtain ⟨m',⟨d',ps'⟩,q⟩ := h3 x hx
  obtain ⟨ns,s1,_,s3⟩ := first_ints (fun _ => rfl) Tryz.underlying39 cells40 Tryz.underlying40 q
  exact ⟨ns,s1,fun n hn => bounds_i32 (s3 n hn)⟩
 obtain ⟨cs,e1,e2⟩ := choose_all hall
 refine ⟨cs,⟨xs.map (tr W.heap.size),h1,by simp [e1],fun i hi => ?_⟩,fun c hc => ?_⟩
 ·have := (e2 i (by omega) hi).1
  rw [show (xs.map (tr W.heap.size)).getD i .nils = tr W.heap.size (xs[i]'(by omega)) by simp [show i < xs.length by omega]]
  exact this
 ·obtain ⟨i,hi,rfl⟩ := List.getElem_of_mem hc
  exact (e2 i (by omega) hi).2
theorem steps_of {base m : Nat} {c : Value} {y : DataW H × List MemPlace} (hpos : 0 < W.heap.size) (h : DataW.trod enc Tryz.prog W base (fun _ => true) true m 25 [c] = some y) : ∃ l : List StV,Stps (first W) (tr W.heap.size c) l /\ (∀ s ∈ l, ∀ x,rOb s.hv = some x -> x < (first W).next) /\ ∀ s ∈ l,(Lit.int .i64 s.s.id).wf = true := by
 obtain ⟨d,ps⟩ := y
 obtain ⟨xss,h1,h2⟩ := first_sliceE (fun _ => rfl) Tryz.underlying25 cells44 (by decide) h
 have hall : ∀ xs ∈ xss, ∃ s : StV,xs.map (tr W.heap.size) = s.cells /\ Sw (first W) s.lv (s.s.lits.map (.int .i32)) /\ Sw (first W) s.hv (s.s.hints.map (.int .i64)) /\ (∀ x,rOb s.hv = some x -> x < (first W).next) /\ (Lit.int .i64 s.s.id).wf = true := fun xs hx => by
  obtain ⟨g1,m',y',g2⟩ := h2 xs hx
  obtain ⟨c0,c1,c2,c3,rfl⟩ : ∃ c0 c1 c2 c3,xs = [c0,c1,c2,c3] := by
   match xs,g1 with
   | [a,b,c,d],_ => exact ⟨a,b,c,d,rfl⟩
  obtain ⟨_,_,f0⟩ := trod_field Tryz.underlying44 g2 0 rfl cells5 (c := c0) rfl
  obtain ⟨_,_,f1⟩ := trod_field Tryz.underlying44 g2 1 rfl cells2 (c := c1) rfl
  obtain ⟨_,⟨_,_⟩,f2⟩ := trod_field Tryz.underlying44 g2 2 rfl cells39 (c := c2) rfl
  obtain ⟨_,⟨_,_⟩,f3⟩ := trod_field Tryz.underlying44 g2 3 rfl cells42 (c := c3) rfl
  obtain ⟨kk,rfl,_⟩ := trod_int Tryz.underlying5 f0
  obtain ⟨id,rfl,hidw⟩ := trod_int Tryz.underlying2 f1
  obtain ⟨ls,s1,_,_⟩ := first_ints (fun _ => rfl) Tryz.underlying39 cells40 Tryz.underlying40 f2
  obtain ⟨hs,s2,_,_⟩ := first_ints (fun _ => rfl) Tryz.underlying42 cells2 Tryz.underlying2 f3
  refine ⟨⟨⟨kk,id,ls,hs⟩,tr W.heap.size c2,tr W.heap.size c3⟩,by simp [StV.cells,tr],sw_of_sl (slice_form (fun _ => rfl) Tryz.underlying39 f2) hpos s1,sw_of_sl (slice_form (fun _ => rfl) Tryz.underlying42 f3) hpos s2,fun x hx => ?_,hidw⟩
  rw [first_next]
  exact tr_row (slice_form (fun _ => rfl) Tryz.underlying42 f3) hpos hx
 obtain ⟨l,e1,e2⟩ := choose_all hall
 have hcells : (xss.map fun xs => xs.map (tr W.heap.size)) = l.map StV.cells := by
  apply List.ext_getElem (by simp [e1])
  intro i q1 q2
  simp only [List.getElem_map]
  exact (e2 i (by simpa using q1) (by simpa using q2)).1
 rw [hcells] at h1
 refine ⟨l,⟨h1,fun s hs => ?_,fun s hs => ?_⟩,fun s hs => ?_,fun s hs => ?_⟩
 all_goals
  obtain ⟨i,hi,rfl⟩ := List.getElem_of_mem hs
  have := e2 i (by omega) hi
 ·exact this.2.1
 ·exact this.2.2.1
 ·exact this.2.2.2.1
 ·exact this.2.2.2.2
end
set_option maxRecDepth 100000 in
theorem walk {H : Type} {enc : TypeId × Value -> H} {W : World} {base : Nat} {v0 v1 : Value} {d0 d1 : DataW H} {p0 p1 : List MemPlace} (hpos : 0 < W.heap.size)
  (hv : Value.okWide Tryz.prog W .any base 24 v0) (hv1 : Value.okWide Tryz.prog W .any base 25 v1)
  (h0 : DataW.Trod enc Tryz.prog W 0 (fun _ => true) true 24 v0 d0 p0) (h1 : DataW.Trod enc Tryz.prog W 0 (fun _ => true) true 25 v1 d1 p1) :
  Calls Tryz.prog 3 #[v0,v1] W fun e w' => e = .returned (.bool true) /\ Below W.heap.size W w' := by
 simp only [Value.okWide,Tryz.underlying24] at hv
 obtain ⟨cs,rfl,hcs,_⟩ := hv
 rw [cells24] at hcs
 obtain ⟨n0,h0⟩ := h0
 obtain ⟨a1,l1,k1,rfl⟩ := okWide_slice Tryz.underlying25 hv1
 obtain ⟨n1,h1⟩ := h1
 have hcs' : ∃ c0 c1,cs = #[c0,c1] := by
  obtain ⟨l⟩ := cs
  match l,hcs with
  | [a,b],_ => exact ⟨a,b,rfl⟩
 obtain ⟨c0,c1,rfl⟩ := hcs'
 obtain ⟨_,_,f0⟩ := trod_field Tryz.underlying24 h0 0 rfl cells3 (c := c0) rfl
 obtain ⟨_,_,f1⟩ := trod_field Tryz.underlying24 h0 1 rfl cells22 (c := c1) rfl
 obtain ⟨kk,rfl,_⟩ := trod_int Tryz.underlying3 f0
 obtain ⟨cl,s1,s2⟩ := clauses_of f1
 obtain ⟨st,s3,s4,s5⟩ := steps_of hpos h1
 letI : RoLim := ⟨W.heap.size⟩
 obtain ⟨m,v,h',he,rfl,_⟩ := plays_ok (vars := kk) s1 s3 s4 s2 s5
 have hw : CallWP Tryz.prog false 3 _ (first W) fun v1 h1 => v1 = .bool true /\ h1 = h' := ev_sound (by kernel_rfl) xprog_ok H0_ok m _ _ he
 refine (CallWP.calls (args' := #[.agg #[.int .i64 kk,c1],.slice a1 l1 k1]) hw (first_rel W rfl) (.cons (VR.agg (.cons (.int ..) (.cons (tr_VR hpos c1) .nil))) (.cons (tr_VR hpos _) .nil))).mono ?_
 rintro e w' ⟨v,h1,μ',x,⟨rfl,rfl⟩,r,rfl⟩
 have hv := r.val
 cases hv
 exact ⟨rfl,r.rel.os,r.rel.tape,r.rel.output,r.rel.size,fun b hb => (r.rel.kept b hb).2⟩
set_option maxRecDepth 100000 in
theorem lifted (os : Os) (started : os.Started) (H : Type) (enc : TypeId × Value -> H) :
  ReturnsInHanded {} Tryz.checked os 3 .any (Rows.checkPlaysSpec.pre6 enc Tryz.prog Tryz.f3 Rows.checkPlaysRow.domain false) (Rows.checkPlaysSpec.post enc Tryz.prog Tryz.f3 false true false false) := by
 refine returnsInHanded_of_change_shaped (C := Tryz.checked) own started (by kernel_rfl) Tryz.func3
  (ChangeSpec.witness6 (enc := enc) (C := Tryz.checked) false ⟨#[], #[.agg #[.int .i64 0,.slice none 0 0],.slice none 0 0],[]⟩ 8 (by kernel_rfl) (by kernel_rfl) (by kernel_rfl) (by kernel_rfl)) ?_
 intro W base args ds gs before hval0 hW hcnd _ hsh _
 have hval : ∀ (j : Nat) t v,Tryz.f3.params[j]? = some t -> args[j]? = some v -> Value.okWide Tryz.prog W .any base t v := hval0
 have hW' := hW
 obtain ⟨p,q,hA0,hV,rfl,hfz,hnd⟩ := hW
 have hA : DataW.TrodAll enc Tryz.prog W 0 (fun _ => true) true Tryz.f3.params.toList args.toList ds p := hA0
 have hA2 := hA
 rw [Tryz.params3] at hA hval
 obtain ⟨v0,v1,d0,d1,p0,p1,rfl,rfl,rfl,h0,h1⟩ := trodAll_two hA
 obtain ⟨rfl,rfl⟩ := trodVars_none hV
 clear hA0 hval0
 simp only [List.append_nil] at hW'
 refine (walk (size_pos hsh) (hval 0 24 _ rfl rfl) (hval 1 25 _ rfl rfl) h0 h1).mono fun e W' ⟨he,hg⟩ => ?_
 subst he
 exact ⟨_,rfl,⟨_,_,_,[],_,[],hW',(trodAll_cons_mk (shut_bool Tryz.underlying4 _) trodAll_mk0),DataW.TrodAll.respare kids full (by rw [Tryz.params3]; decide) (carried hg hA2) (fun p hp => decide_eq_true (hA2.lt p hp)),rfl,hg.frame _,fun h => by cases h⟩⟩
theorem over : Rows.checkPlaysRow.holds Tryz.pinned (OpenSpec.ofChange Rows.checkPlaysSpec) :=
 OpenClaim.holds_of_wide 3 Tryz.f3 rfl rfl rfl rfl rfl rfl rfl ⟨rfl,rfl,rfl,rfl,rfl⟩ rfl rfl rfl rfl rfl (by kernel_rfl) Tryz.func3 (by kernel_rfl)
  (of_decide_eq_true (by kernel_rfl)) (by unfold Func.isWrapper; first | (rw [if_pos (by decide +kernel)]; kernel_rfl) | (rw [if_neg (by decide +kernel)]; exact ⟨rfl,rfl⟩))
  (fun os started H enc _ => lifted os started H enc)
theorem proved : Rows.CheckPlaysSaid :=
 over
end Go.Proofs.YtmkbnbpblhoekaaGreat.checkPlays
