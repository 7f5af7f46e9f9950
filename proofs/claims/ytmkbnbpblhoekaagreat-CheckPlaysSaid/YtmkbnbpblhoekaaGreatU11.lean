/- Part of a proof for X's executor: what the program's functions answer. -/
import Derived.Test.YtmkbnbpblhoekaaGreatU10
set_option linter.unusedSimpArgs false
set_option linter.unusedVariables false
set_option linter.unusedSectionVars false
namespace Go.Proofs.YtmkbnbpblhoekaaGreat
open Go.Xr Go.Chk
theorem Tk.rest {b : Nat} {h : Heap} {v : V} {xs : List V} (hv : Tk b h v xs) {k : IntKind} {i : Int} {K : V -> Heap -> Prop} (h0 : 0 <= i) (h1 : i <= xs.length) (hk : ∀ r,Sl h r (xs.drop i.toNat) -> (∀ x,rOb r = some x -> rOb v = some x) -> K r h) : XSlc h 1 v (some (.int k i)) none none K := by
 rcases hv with ⟨rfl,rfl⟩ | ⟨o,g,r,cs,h2,h3,rfl,hg,ht,hle⟩
 ·have : i = 0 := by simp at h1; omega
  subst this
  exact slc_eq (lo := some 0) (hi := none) (k' := k) (fun x hx => by cases hx; omega) (fun x hx => by cases hx) (r := .nils) rfl (hk _ (.inl ⟨rfl,by simp⟩) fun x hx => by cases hx)
 ·refine x_slc_lo h0 h1 (hk _ (.inr ⟨o,g,_,_,by rw [List.length_drop],fun hp => ⟨h3,?_⟩⟩) fun x hx => hx)
  have hr : rCs h o g 0 xs.length = some xs := by rw [readCells_grown hg (by omega),List.drop_zero,ht]
  rw [List.length_drop] at hp ⊢
  rw [readCells_part hr (by omega),List.take_of_length_le (by simp)]
set_option maxHeartbeats 8000000 in
theorem back_ok {b : Nat} {h : Heap} {o : Nat} {es : List (Int × List Int)} {last : Int} {ov : Bool} {tr : List Int} (hc : ChkP b h o es last ov tr) {n : Nat} (hn : n <= tr.length) (htl : tr.length <= 100000000) (hfl : ∀ x ∈ tr, -1048576 <= x /\ x <= 1048576) : EvCall xprog H0 38 [.ptr o 0 0,.int .i64 (n : Nat)] h fun v h' => ChkP b h' o es last ov (tr.take n) /\ Chg o h h' := by
 refine s_call (fn := xf38) rfl (free _ rfl ..) ?_
 obtain ⟨vs,mo,ces,ins,vv,tv,hm,hg⟩ := hc
 obtain ⟨r4,r5,q1,q2,q3,q4⟩ := hm.reads
 simp -implicitDefEqProofs only [xf38,argsFrom_cons,argsFrom_nil]
 repeat' ((first | refine Z0 rfl ?_ | refine Z1 rfl ?_ | refine Z2 ?_ | refine Z3 ?_ | refine Z4 ?_ | refine Z5 ?_ | refine Z6 ?_ | refine Z7 ?_ | refine Z8 ?_ | refine Z9 (fun hif => ?_) (fun hif => ?_) | refine Za (fun hif => ?_) (fun hif => ?_) | refine Zb (fun hif => ?_) (fun hif => ?_) | (refine Zc ?_ ?_; omega) | (refine Zd ?_ ?_; omega) | (refine Ze ?_ ?_; omega) | refine Zf rfl ?_ | (refine And.intro (a := stays _ _ _ = true) ?_ ?_; focus (simp -implicitDefEqProofs (disch := first | assumption | omega) only [sx,sb,sd,se,xwS,xwO,xwI,oEv,xres,o1f,Nat.reduceAdd,Nat.reduceEqDiff,Nat.reduceSub, ↓reduceIte,reduceCtorEq,stays,wantedV,V.same_refl,Bool.and_self,Bool.and_true,beq_self_eq_true,Bool.true_beq,Bool.false_beq,wrap_i64,Int.toNat_natCast, *]; done)) | ((refine Tk.rest hm.trl (by omega) (by simp; omega) ?_; intro rv k1 k2; rw [Int.toNat_natCast, <- List.map_drop] at k1; have kl := k1.len; have kr := k1.row; simp only [List.length_map,List.length_drop] at kl))) <;>
  (try simp -implicitDefEqProofs (disch := first | assumption | omega) only [sx,sb,sd,se,xwS,xwO,xwI,oEv,xres,o1f,Nat.reduceAdd,Nat.reduceEqDiff,Nat.reduceSub, ↓reduceIte,reduceCtorEq,wrap_i64,Int.toNat_natCast, *]))
 refine s_while (fun m t d g => ∃ (i : Nat) (vs' : List Int),i + m = tr.length - n /\ sO t 13 = .int .i64 i /\ sO t 12 = .int .i64 (tr.length - n : Nat) /\ sO t 11 = rv /\ sO t 0 = .ptr o 0 0 /\ sO t 1 = .int .i64 n /\ d = [] /\ Chg o h g /\ ChkM b g o es last ov vs' tr mo ces ins vv tv /\ Taken vs' tr n i /\ vs'.length = vs.length /\ Sl g rv ((tr.drop n).map (.int .i32))) (fun _ _ _ => frC ..) (tr.length - n) ⟨0,vs,by omega,by simp [sSe],by simp [sSe],by simp [sSe],by simp [sSe],by simp [sSe],rfl,Chg.refl _ _,hm,hg.taken n,rfl,k1⟩ ?_
 clear r4 r5 q1 q2 q3 q4 k1 hm
 rintro m t d g ⟨i,vs',a1,a2,a3,a4,a5,a6,rfl,hch,hm,ht,hvl,k1⟩
 obtain ⟨r4,r5,q1,q2,q3,q4⟩ := hm.reads
 have rx : ∀ (hi : n + i < tr.length),rCs g (objS rv) (genS rv) (offS rv + i) 1 = some [.int .i32 (tr[n + i])] := fun hi => k1.at (by simp [hi])
 refine s_cut1 (fun t d g1 => sO t 13 = .int .i64 i /\ sO t 12 = .int .i64 (tr.length - n : Nat) /\ sO t 11 = rv /\ sO t 0 = .ptr o 0 0 /\ sO t 1 = .int .i64 n /\ sO t 14 = .bool (decide (i < tr.length - n)) /\ d = [] /\ g1 = g) ?_ ?_
 ·repeat' ((first | refine Z0 rfl ?_ | refine Z1 rfl ?_ | refine Z2 ?_ | refine Z3 ?_ | refine Z4 ?_ | refine Z5 ?_ | refine Z6 ?_ | refine Z7 ?_ | refine Z8 ?_ | refine Z9 (fun hif => ?_) (fun hif => ?_) | refine Za (fun hif => ?_) (fun hif => ?_) | refine Zb (fun hif => ?_) (fun hif => ?_) | (refine Zc ?_ ?_; omega) | (refine Zd ?_ ?_; omega) | (refine Ze ?_ ?_; omega) | refine Zf rfl ?_ | (refine And.intro (a := stays _ _ _ = true) ?_ ?_; focus (simp -implicitDefEqProofs (disch := first | assumption | omega) only [sx,sb,sd,se,xwS,xwO,xwI,oEv,xres,o1f,Nat.reduceAdd,Nat.reduceEqDiff,Nat.reduceSub, ↓reduceIte,reduceCtorEq,stays,wantedV,V.same_refl,Bool.and_self,Bool.and_true,beq_self_eq_true,Bool.true_beq,Bool.false_beq, *]; done))) <;>
   (try simp -implicitDefEqProofs (disch := first | assumption | omega) only [sx,sb,sd,se,xwS,xwO,xwI,oEv,xres,o1f,Nat.reduceAdd,Nat.reduceEqDiff,Nat.reduceSub, ↓reduceIte,reduceCtorEq, *]))
  exact congrArg V.bool (decide_eq_decide.2 (by omega))
 clear a2 a3 a4 a5 a6 t
 rintro t d g ⟨a2,a3,a4,a5,a6,a7,rfl,rfl⟩
 by_cases hi : n + i < tr.length
 ·replace rx := rx hi
  have hlt := hg.lt _ (List.getElem_mem hi)
  have hfx := hfl _ (List.getElem_mem hi)
  have hvar := Var_ok tr[n + i] (by omega) (by omega) g
  have hnx := ht.next hi
  obtain ⟨x,hx⟩ : ∃ x,x = tr[n + i] := ⟨_,rfl⟩
  rw [<- hx] at rx hlt hfx hvar hnx
  clear hx
  rw [litVar_abs] at hvar
  rw [decide_eq_true (by omega)] at a7
  obtain ⟨g3,w1,w2,w3,w4⟩ := hm.val.write (k := x.natAbs) (y := .int .i8 0) (by simp; omega) rfl
  repeat' ((first | refine Z0 rfl ?_ | refine Z1 rfl ?_ | refine Z2 ?_ | refine Z3 ?_ | refine Z4 ?_ | refine Z5 ?_ | refine Z6 ?_ | refine Z7 ?_ | refine Z8 ?_ | refine Z9 (fun hif => ?_) (fun hif => ?_) | refine Za (fun hif => ?_) (fun hif => ?_) | refine Zb (fun hif => ?_) (fun hif => ?_) | (refine Zc ?_ ?_; omega) | (refine Zd ?_ ?_; omega) | (refine Ze ?_ ?_; omega) | refine Zf rfl ?_ | (refine And.intro (a := stays _ _ _ = true) ?_ ?_; focus (simp -implicitDefEqProofs (disch := first | assumption | omega) only [sx,sb,sd,se,xwS,xwO,xwI,oEv,xres,o1f,Nat.reduceAdd,Nat.reduceEqDiff,Nat.reduceSub, ↓reduceIte,reduceCtorEq,stays,wantedV,V.same_refl,Bool.and_self,Bool.and_true,beq_self_eq_true,Bool.true_beq,Bool.false_beq,si,wrap_i64,Int.toNat_natCast, *]; done)) | (refine (eCi hvar).2 ?_)) <;>
   (try simp -implicitDefEqProofs (disch := first | assumption | omega) only [sx,sb,sd,se,xwS,xwO,xwI,oEv,xres,o1f,Nat.reduceAdd,Nat.reduceEqDiff,Nat.reduceSub, ↓reduceIte,reduceCtorEq,si,wrap_i64,Int.toNat_natCast, *]))
  have go3 := (w3.get o hm.ho fun q => (hm.voff o q).1 rfl).trans hm.get
  obtain ⟨c1,c2⟩ := chk_next (vs' := vs'.set x.natAbs 0) (tr' := tr) hm (by omega) (fun y y1 y2 y3 y4 => w3.get y y1 y3) go3 (by rw [List.map_set]; exact w2) (hm.trl.frame (by omega) fun y hy => w3.get y (hm.trl.lt hy).2 fun q => hm.two y q hy) (fun _ q => .inl q) (fun _ q => .inl q) hm.two
  exact ⟨m - 1,by omega,i + 1,_,by omega,by simp,hch.trans c2,c1,hnx,by simpa using hvl,k1.stay (by omega) fun y hy hyl => w3.get y hyl fun q => hm.two y q (k2 y hy)⟩
 ·rw [decide_eq_false (by omega)] at a7
  have hcut : ∀ {K : V -> Heap -> Prop},(∀ r,Tk b g r ((tr.take n).map (.int .i32)) -> rOb r = rOb tv -> K r g) -> XSlc g 1 tv none (some (.int .i64 (n : Int))) none K := fun hk => Tk.cut hm.trl (by omega) (by simp; omega) fun r q1 q2 => hk r (by rw [List.map_take]; exact q1) q2
  have go1 := hm.get
  repeat' ((first | refine Z0 rfl ?_ | refine Z1 rfl ?_ | refine Z2 ?_ | refine Z3 ?_ | refine Z4 ?_ | refine Z5 ?_ | refine Z6 ?_ | refine Z7 ?_ | refine Z8 ?_ | refine Z9 (fun hif => ?_) (fun hif => ?_) | refine Za (fun hif => ?_) (fun hif => ?_) | refine Zb (fun hif => ?_) (fun hif => ?_) | (refine Zc ?_ ?_; omega) | (refine Zd ?_ ?_; omega) | (refine Ze ?_ ?_; omega) | refine Zf rfl ?_ | (refine And.intro (a := stays _ _ _ = true) ?_ ?_; focus (simp -implicitDefEqProofs (disch := first | assumption | omega) only [sx,sb,sd,se,xwS,xwO,xwI,oEv,xres,o1f,Nat.reduceAdd,Nat.reduceEqDiff,Nat.reduceSub, ↓reduceIte,reduceCtorEq,stays,wantedV,V.same_refl,Bool.and_self,Bool.and_true,beq_self_eq_true,Bool.true_beq,Bool.false_beq,si,wrap_i64,Int.toNat_natCast, *]; done)) | ((refine hcut ?_; intro t1 k3 k4; have t1r := k3.row)) | ((refine st_step go1 (by simp) (one_row t1r) ?_; intro g3 go3 n3 f3))) <;>
   (try simp -implicitDefEqProofs (disch := first | assumption | omega) only [sx,sb,sd,se,xwS,xwO,xwI,oEv,xres,o1f,Nat.reduceAdd,Nat.reduceEqDiff,Nat.reduceSub, ↓reduceIte,reduceCtorEq,si,wrap_i64,Int.toNat_natCast, *]))
  have hie : i = tr.length - n := by omega
  subst hie
  have ho1 : ∀ x,rOb t1 = some x -> x ≠ o := fun x hx => (hm.toff x (k4 ▸ hx)).1
  obtain ⟨c1,c2⟩ := chk_next (vs' := vs') (tr' := tr.take n) hm (by omega) (fun y y1 y2 y3 y4 => f3 y y2) go3 (hm.val.frame (by omega) fun y hy => f3 y (hm.voff y hy).1) (k3.frame (by omega) fun y hy => f3 y (ho1 y hy)) (fun _ q => .inl q) (fun y q => .inl (k4 ▸ q)) (fun y q q' => hm.two y q (k4 ▸ q'))
  exact ⟨⟨_,mo,ces,ins,vv,t1,c1,ht.good hg hvl⟩,hch.trans c2⟩
open Go.Xr Go.Chk
structure Cell (h : Heap) (o bo : Nat) (v : V) : Prop where
 get : h.get bo = some (arr [v] 1 false)
 lt : bo < h.next
 off : ¬ Mut h o bo
theorem Cell.chg {h h' : Heap} {o bo : Nat} {v : V} (hc : Cell h o bo v) (c : Chg o h h') : Cell h' o bo v := ⟨(c.but.get _ hc.lt hc.off).trans hc.get,Nat.lt_of_lt_of_le hc.lt c.but.next,fun q => hc.off (c.back _ hc.lt q)⟩
theorem lenNrm (l : List Int) : (nrm l).length <= l.length := by
 have h1 := cpt_len (sortLits l) (sortLits l).length
 have h2 := (sortLits_perm l).length_eq
 exact Nat.le_trans h1 (Nat.le_of_eq h2)
theorem litVal_cases (tr : List Int) (x : Int) : (x ∈ tr /\ litVal tr x = 1) \/ (x ∉ tr /\ -x ∈ tr /\ litVal tr x = -1) \/ (x ∉ tr /\ -x ∉ tr /\ litVal tr x = 0) := by
 unfold litVal
 by_cases h1 : x ∈ tr
 ·exact .inl ⟨h1,if_pos h1⟩
 ·by_cases h2 : -x ∈ tr
  ·exact .inr (.inl ⟨h1,h2,by rw [if_neg h1,if_pos h2]⟩)
  ·exact .inr (.inr ⟨h1,h2,by rw [if_neg h1,if_neg h2]⟩)
set_option maxHeartbeats 8000000 in
theorem one_ok {b : Nat} {h : Heap} {o bo : Nat} {es : List (Int × List Int)} {last : Int} {ov : Bool} {tr : List Int} (hc : ChkP b h o es last ov tr) (hbo : Cell h o bo (.ptr o 0 0)) (hf : ∀ e ∈ es,Fine e.2 /\ e.2.length <= 1000000) (htl : tr.length <= 10000000) (id : Int) :
  EvCall xprog H0 58 [.int .i64 id,.ptr bo 0 0] h fun v h' => v = .int .i64 ((thr es tr [id]).2 : Nat) /\ ChkP b h' o es last ov (thr es tr [id]).1 /\ Chg o h h' := by
 refine s_call (fn := xf58) rfl (free _ rfl ..) ?_
 have hcp := hc
 obtain ⟨vs,mo,ces,ins,vv,tv,hm,hg⟩ := hc
 have rb := rCl (off := 0) hbo.get rfl
 have r0 := rCl (off := 0) hm.get rfl
 have gm := hm.map
 rcases hm.held id with ⟨e1,e2⟩ | ⟨l,ho,lv,sv,e1,e2,hh⟩
 ·have e : thr es tr [id] = (tr,2) := by
   unfold thr
   rw [e1]
  rw [e]
  simp -implicitDefEqProofs only [xf58,argsFrom_cons,argsFrom_nil]
  repeat' ((first | refine Z0 rfl ?_ | refine Z1 rfl ?_ | refine Z2 ?_ | refine Z3 ?_ | refine Z4 ?_ | refine Z5 ?_ | refine Z6 ?_ | refine Z7 ?_ | refine Z8 ?_ | refine Z9 (fun hif => ?_) (fun hif => ?_) | refine Za (fun hif => ?_) (fun hif => ?_) | refine Zb (fun hif => ?_) (fun hif => ?_) | (refine Zc ?_ ?_; omega) | (refine Zd ?_ ?_; omega) | (refine Ze ?_ ?_; omega)) <;>
   (try simp -implicitDefEqProofs (disch := first | assumption | omega) only [sx,sb,sd,se,xwS,xwO,xwI,oEv,xres,o1f,Nat.reduceAdd,Nat.reduceEqDiff,Nat.reduceSub, ↓reduceIte,reduceCtorEq,sg,kindEq,tellV, *]))
  exact Chg.refl _ _
 have r1 := rCl (off := 1) hh.get rfl
 have hfl := hf (id,l) (find_some e1)
 have hnl := lenNrm l
 simp only at hfl
 have sl := hh.set.1.len
 have sr := hh.set.1.row
 simp only [List.length_map] at sl
 have hnf : Fine (nrm l) := fun x hx => hfl.1 x (nrm_mem hx)
 have hnod := nrm_nodup l
 have hst : stepOf tr (nrm l) = stepOf tr l := stepOf_alike (Eqs.refl _) (nrm_alike l)
 have hthr : thr es tr [id] = match stepOf tr (nrm l) with | .wrong => (tr,2) | .conflict => (tr,1) | .unit x => (tr ++ [x],0) := by
  unfold thr
  rw [e1,hst]
  simp only
  cases stepOf tr l <;> rfl
 rw [hthr]
 have hrx : ∀ (i : Nat) (hi : i < (nrm l).length),rCs h (objS sv) (genS sv) (offS sv + i) 1 = some [.int .i32 ((nrm l)[i])] := fun i hi => hh.set.1.at (by simp [hi])
 have hnl2 : (nrm l).length <= 1000000 := by omega
 clear hthr hst hnl hh hm
 simp -implicitDefEqProofs only [xf58,argsFrom_cons,argsFrom_nil]
 repeat' ((first | refine Z0 rfl ?_ | refine Z1 rfl ?_ | refine Z2 ?_ | refine Z3 ?_ | refine Z4 ?_ | refine Z5 ?_ | refine Z6 ?_ | refine Z7 ?_ | refine Z8 ?_ | refine Z9 (fun hif => ?_) (fun hif => ?_) | refine Za (fun hif => ?_) (fun hif => ?_) | refine Zb (fun hif => ?_) (fun hif => ?_) | (refine Zc ?_ ?_; omega) | (refine Zd ?_ ?_; omega) | (refine Ze ?_ ?_; omega)) <;>
  (try simp -implicitDefEqProofs (disch := first | assumption | omega) only [sx,sb,sd,se,xwS,xwO,xwI,oEv,xres,o1f,Nat.reduceAdd,Nat.reduceEqDiff,Nat.reduceSub, ↓reduceIte,reduceCtorEq,sg,kindEq,tellV, *]))
 generalize nrm l = ns at *
 refine s_while (fun n t d g => ∃ (i : Nat) (left : Int),i + n = ns.length /\ sO t 26 = .int .i64 i /\ sO t 25 = .int .i64 ns.length /\ sO t 24 = sv /\ sO t 6 = .int .i32 left /\ sO t 1 = .ptr bo 0 0 /\ d = [] /\ g = h /\ (∀ x ∈ ns.take i,x ∉ tr) /\ (left = 0 -> ∀ x ∈ ns.take i, -x ∈ tr) /\ Kept (left ≠ 0 -> left ∈ ns.take i /\ -left ∉ tr /\ ∀ x ∈ ns.take i, -x ∉ tr -> x = left)) (fun _ _ _ => frC ..) ns.length ⟨0,0,by omega,by simp [sSe],by simp [sSe],by simp [sSe],by simp [sSe],by simp [sSe],rfl,rfl,by simp,by simp,fun q => absurd rfl q⟩ ?_
 rintro n t d g ⟨i,left,a1,a2,a3,a4,a5,a6,rfl,rfl,a7,a8,a9⟩
 by_cases hi : i < ns.length
 ·have rx := hrx i hi
  have hfx := hnf _ (List.getElem_mem hi)
  have hof := of_ok hcp (l := ns[i]) ⟨hfx.2.1,hfx.2.2⟩
  have et : ns.take (i + 1) = ns.take i ++ [ns[i]] := take_at hi
  have hmi : ns[i] ∈ ns := List.getElem_mem hi
  have hnt : ns[i] ∉ ns.take i := fun q => by
   obtain ⟨j,hj,e⟩ := List.getElem_of_mem q
   rw [List.length_take] at hj
   rw [List.getElem_take] at e
   have := (List.getElem_inj hnod).1 e
   omega
  obtain ⟨x,hx⟩ : ∃ x,x = ns[i] := ⟨_,rfl⟩
  rw [<- hx] at rx hfx hof et hmi hnt
  clear hx hrx
  rcases litVal_cases tr x with ⟨hv,hlv⟩ | ⟨hv,hv2,hlv⟩ | ⟨hv,hv2,hlv⟩
  all_goals rw [hlv] at hof
  ·repeat' ((first | refine Z0 rfl ?_ | refine Z1 rfl ?_ | refine Z2 ?_ | refine Z3 ?_ | refine Z4 ?_ | refine Z5 ?_ | refine Z6 ?_ | refine Z7 ?_ | refine Z8 ?_ | refine Z9 (fun hif => ?_) (fun hif => ?_) | refine Za (fun hif => ?_) (fun hif => ?_) | refine Zb (fun hif => ?_) (fun hif => ?_) | (refine Zc ?_ ?_; omega) | (refine Zd ?_ ?_; omega) | (refine Ze ?_ ?_; omega) | (refine (eCi hof).2 ?_)) <;>
    (try simp -implicitDefEqProofs (disch := first | assumption | omega) only [sx,sb,sd,se,xwS,xwO,xwI,oEv,xres,o1f,Nat.reduceAdd,Nat.reduceEqDiff,Nat.reduceSub, ↓reduceIte,reduceCtorEq,wrap_i64,Nat.zero_add,Int.toNat_natCast, *]))
   all_goals first
    | (exfalso; omega)
    | skip
   rw [stepOf_wrong1 hmi hv]
   exact ⟨rfl,hcp,Chg.refl _ _⟩
  ·repeat' ((first | refine Z0 rfl ?_ | refine Z1 rfl ?_ | refine Z2 ?_ | refine Z3 ?_ | refine Z4 ?_ | refine Z5 ?_ | refine Z6 ?_ | refine Z7 ?_ | refine Z8 ?_ | refine Z9 (fun hif => ?_) (fun hif => ?_) | refine Za (fun hif => ?_) (fun hif => ?_) | refine Zb (fun hif => ?_) (fun hif => ?_) | (refine Zc ?_ ?_; omega) | (refine Zd ?_ ?_; omega) | (refine Ze ?_ ?_; omega) | (refine (eCi hof).2 ?_)) <;>
    (try simp -implicitDefEqProofs (disch := first | assumption | omega) only [sx,sb,sd,se,xwS,xwO,xwI,oEv,xres,o1f,Nat.reduceAdd,Nat.reduceEqDiff,Nat.reduceSub, ↓reduceIte,reduceCtorEq,wrap_i64,Nat.zero_add,Int.toNat_natCast, *]))
   all_goals first
    | (exfalso; omega)
    | skip
   refine ⟨n - 1,by omega,i + 1,left,by omega,by simp,rfl,fun z hz => ?_,fun h0 z hz => ?_,fun h0 => ?_⟩
   ·rw [et,List.mem_append,List.mem_singleton] at hz
    rcases hz with hz | rfl
    ·exact a7 z hz
    ·exact hv
   ·rw [et,List.mem_append,List.mem_singleton] at hz
    rcases hz with hz | rfl
    ·exact a8 h0 z hz
    ·exact hv2
   ·obtain ⟨b1,b2,b3⟩ := a9 h0
    rw [et]
    refine ⟨List.mem_append_left _ b1,b2,fun z hz hn => ?_⟩
    rw [List.mem_append,List.mem_singleton] at hz
    rcases hz with hz | rfl
    ·exact b3 z hz hn
    ·exact absurd hv2 hn
  ·repeat' ((first | refine Z0 rfl ?_ | refine Z1 rfl ?_ | refine Z2 ?_ | refine Z3 ?_ | refine Z4 ?_ | refine Z5 ?_ | refine Z6 ?_ | refine Z7 ?_ | refine Z8 ?_ | refine Z9 (fun hif => ?_) (fun hif => ?_) | refine Za (fun hif => ?_) (fun hif => ?_) | refine Zb (fun hif => ?_) (fun hif => ?_) | (refine Zc ?_ ?_; omega) | (refine Zd ?_ ?_; omega) | (refine Ze ?_ ?_; omega) | (refine (eCi hof).2 ?_)) <;>
    (try simp -implicitDefEqProofs (disch := first | assumption | omega) only [sx,sb,sd,se,xwS,xwO,xwI,oEv,xres,o1f,Nat.reduceAdd,Nat.reduceEqDiff,Nat.reduceSub, ↓reduceIte,reduceCtorEq,wrap_i64,Nat.zero_add,Int.toNat_natCast, *]))
   all_goals first
    | (exfalso; omega)
    | skip
   ·have h0 : left ≠ 0 := by simpa using ‹(!decide (left = 0)) = true›
    obtain ⟨b1,b2,b3⟩ := a9 h0
    rw [stepOf_wrong2 hmi (List.mem_of_mem_take b1) (fun e => hnt (e ▸ b1)) hv2 b2]
    exact ⟨rfl,hcp,Chg.refl _ _⟩
   ·have h0 : left = 0 := by simpa using ‹(!decide (left = 0)) = false›
    refine ⟨n - 1,by omega,i + 1,x,by omega,by simp,rfl,fun z hz => ?_,fun h0 => absurd h0 hfx.1,fun _ => ?_⟩
    ·rw [et,List.mem_append,List.mem_singleton] at hz
     rcases hz with hz | rfl
     ·exact a7 z hz
     ·exact hv
    ·rw [et]
     refine ⟨List.mem_append_right _ (by simp),hv2,fun z hz hn => ?_⟩
     rw [List.mem_append,List.mem_singleton] at hz
     rcases hz with hz | rfl
     ·exact absurd (a8 h0 z hz) hn
     ·rfl
 have hie : i = ns.length := by omega
 subst hie
 rw [List.take_length] at a7 a8 a9
 by_cases h0 : left = 0
 ·repeat' ((first | refine Z0 rfl ?_ | refine Z1 rfl ?_ | refine Z2 ?_ | refine Z3 ?_ | refine Z4 ?_ | refine Z5 ?_ | refine Z6 ?_ | refine Z7 ?_ | refine Z8 ?_ | refine Z9 (fun hif => ?_) (fun hif => ?_) | refine Za (fun hif => ?_) (fun hif => ?_) | refine Zb (fun hif => ?_) (fun hif => ?_) | (refine Zc ?_ ?_; omega) | (refine Zd ?_ ?_; omega) | (refine Ze ?_ ?_; omega)) <;>
   (try simp -implicitDefEqProofs (disch := first | assumption | omega) only [sx,sb,sd,se,xwS,xwO,xwI,oEv,xres,o1f,Nat.reduceAdd,Nat.reduceEqDiff,Nat.reduceSub, ↓reduceIte,reduceCtorEq,wrap_i64,Nat.zero_add,Int.toNat_natCast, *]))
  all_goals first
   | (exfalso; omega)
   | skip
  rw [stepOf_conflict fun x hx => ⟨a7 x hx,a8 h0 x hx⟩]
  exact ⟨rfl,hcp,Chg.refl _ _⟩
 ·obtain ⟨b1,b2,b3⟩ := a9 h0
  have hst := stepOf_unit a7 b1 b2 b3
  have hset := set_ok hcp h0 (hnf left b1).2 (a7 left b1) b2 (by omega)
  clear b3 a9
  repeat' ((first | refine Z0 rfl ?_ | refine Z1 rfl ?_ | refine Z2 ?_ | refine Z3 ?_ | refine Z4 ?_ | refine Z5 ?_ | refine Z6 ?_ | refine Z7 ?_ | refine Z8 ?_ | refine Z9 (fun hif => ?_) (fun hif => ?_) | refine Za (fun hif => ?_) (fun hif => ?_) | refine Zb (fun hif => ?_) (fun hif => ?_) | (refine Zc ?_ ?_; omega) | (refine Zd ?_ ?_; omega) | (refine Ze ?_ ?_; omega) | ((refine eAc hset ?_; rintro _ g1 ⟨k1,k2⟩))) <;>
   (try simp -implicitDefEqProofs (disch := first | assumption | omega) only [sx,sb,sd,se,xwS,xwO,xwI,oEv,xres,o1f,Nat.reduceAdd,Nat.reduceEqDiff,Nat.reduceSub, ↓reduceIte,reduceCtorEq,wrap_i64,Nat.zero_add,Int.toNat_natCast, *]))
  all_goals first
   | (exfalso; omega)
   | exact ⟨k1,k2⟩
open Go.Xr Go.Chk
theorem thr_one (es : List (Int × List Int)) (yes : List Int) (id : Int) : thr es yes [id] = match find es id with | none => (yes,2) | some l => match stepOf yes l with | .wrong => (yes,2) | .conflict => (yes,1) | .unit x => (yes ++ [x],0) := by
 rw [thr]
 cases find es id with
 | none => rfl
 | some l =>
  simp only
  cases stepOf yes l <;> rfl
theorem thr_cons (es : List (Int × List Int)) (yes : List Int) (id : Int) (r : List Int) : thr es yes (id :: r) = if (thr es yes [id]).2 = 0 then thr es (thr es yes [id]).1 r else thr es yes [id] := by
 rw [thr_one,thr]
 cases find es id with
 | none => rfl
 | some l =>
  simp only
  cases stepOf yes l <;> rfl
theorem thr_len (es : List (Int × List Int)) : ∀ (hints yes : List Int),(thr es yes hints).1.length <= yes.length + hints.length
 | [],yes => Nat.le_refl _
 | id :: r,yes => by
  unfold thr
  cases find es id with
  | none => simp
  | some l =>
   simp only
   cases stepOf yes l with
   | wrong => simp
   | conflict => simp
   | unit x =>
    have := thr_len es r (yes ++ [x])
    simp at this ⊢
    omega
theorem evApply_cap {X : XProg} {hook : Task -> Option Out} {f : Nat} {args caps : List V} {h : Heap} {Q K : V -> Heap -> Prop} (hc : EvCall X hook f (args ++ caps) h Q) (hk : ∀ v h',Q v h' -> K v h') : EvApply X hook (.func f [] caps) args h K :=
 evApply_func (by simpa using hc.mono hk)
theorem ChkP.lt {b : Nat} {h : Heap} {o : Nat} {es : List (Int × List Int)} {last : Int} {ov : Bool} {tr : List Int} (hc : ChkP b h o es last ov tr) : o < h.next /\ ∀ x,Mut h o x -> x < h.next := by
 obtain ⟨vs,mo,ces,ins,vv,tv,hm,hg⟩ := hc
 refine ⟨hm.ho,fun x hx => ?_⟩
 rcases (mut_iff hm.get).1 hx with rfl | rfl | q | q
 ·exact hm.ho
 ·exact hm.hm
 ·exact (hm.val.lt q).2
 ·exact (hm.trl.lt q).2
theorem Cell.new {b : Nat} {h : Heap} {o : Nat} {es : List (Int × List Int)} {last : Int} {ov : Bool} {tr : List Int} (hc : ChkP b h o es last ov tr) (v : V) : Cell (nCs h [v] 1 false) o h.next v :=
 ⟨get_new ..,by simp,fun q => by
  have := hc.lt.2 h.next ((Mut.ext (Ext.new ..) hc.lt.1).1 q)
  omega⟩
set_option maxHeartbeats 8000000 in
theorem through_ok {b : Nat} {h : Heap} {o : Nat} {es : List (Int × List Int)} {last : Int} {ov : Bool} {tr hints : List Int} {hv : V} (hc : ChkP b h o es last ov tr) (hf : ∀ e ∈ es,Fine e.2 /\ e.2.length <= 1000000) (hh : SlO .i64 h o hv hints) (htl : tr.length + hints.length <= 10000000) :
  EvCall xprog H0 41 [.ptr o 0 0,hv] h fun v h' => v = .int .i64 ((thr es tr hints).2 : Nat) /\ ChkP b h' o es last ov (thr es tr hints).1 /\ Chg o h h' := by
 refine s_call (fn := xf41) rfl (free _ rfl ..) ?_
 have el := hh.1.len
 have er := hh.1.row
 simp only [List.length_map] at el
 have hbo := Cell.new hc (.ptr o 0 0)
 have c0 : Chg o h (nCs h [.ptr o 0 0] 1 false) := Chg.ext (Ext.new ..) hc.lt.1
 have hc0 := hc.ext (Ext.new h [.ptr o 0 0] 1 false)
 generalize hbn : h.next = bo at *
 generalize hH : nCs h [.ptr o 0 0] 1 false = H at *
 simp -implicitDefEqProofs only [xf41,argsFrom_cons,argsFrom_nil]
 repeat' ((first | refine Z0 rfl ?_ | refine Z1 rfl ?_ | refine Z2 ?_ | refine Z3 ?_ | refine Z4 ?_ | refine Z5 ?_ | refine Z6 ?_ | refine Z7 ?_ | refine Z8 ?_ | refine Z9 (fun hif => ?_) (fun hif => ?_) | refine Za (fun hif => ?_) (fun hif => ?_) | refine Zb (fun hif => ?_) (fun hif => ?_) | (refine Zc ?_ ?_; omega) | (refine Zd ?_ ?_; omega) | (refine Ze ?_ ?_; omega)) <;>
  (try simp -implicitDefEqProofs (disch := first | assumption | omega) only [sx,sb,sd,se,xwS,xwO,xwI,oEv,xres,o1f,Nat.reduceAdd,Nat.reduceEqDiff,Nat.reduceSub, ↓reduceIte,reduceCtorEq, *]))
 refine s_while (fun n t d g => ∃ (i : Nat) (tr' : List Int),i + n = hints.length /\ sO t 12 = .int .i64 i /\ sO t 11 = .int .i64 hints.length /\ sO t 10 = hv /\ sO t 5 = .func 58 [] [.ptr bo 0 0] /\ d = [] /\ Chg o h g /\ ChkP b g o es last ov tr' /\ Cell g o bo (.ptr o 0 0) /\ thr es tr' (hints.drop i) = thr es tr hints /\ tr'.length <= tr.length + i) (fun _ _ _ => frC ..) hints.length ⟨0,tr,by omega,by simp [sSe],by simp [sSe],by simp [sSe],by simp [sSe],rfl,c0,hc0,hbo,by simp,by omega⟩ ?_
 clear hc0 c0 hbo hH hc H
 rintro n t d g ⟨i,tr',a1,a2,a3,a4,a5,rfl,c1,k1,k2,k3,k4⟩
 by_cases hi : i < hints.length
 ·have rx : rCs g (objS hv) (genS hv) (offS hv + i) 1 = some [.int .i64 (hints[i])] := (hh.chg c1).1.at (by simp [hi])
  have hone := one_ok k1 k2 hf (by omega) hints[i]
  rw [drop_at hi,thr_cons] at k3
  have hlen := thr_len es [hints[i]] tr'
  have hle := thr_le es [hints[i]] tr'
  generalize hints[i] = id at *
  generalize thr es tr' [id] = r at *
  repeat' ((first | refine Z0 rfl ?_ | refine Z1 rfl ?_ | refine Z2 ?_ | refine Z3 ?_ | refine Z4 ?_ | refine Z5 ?_ | refine Z6 ?_ | refine Z7 ?_ | refine Z8 ?_ | refine Z9 (fun hif => ?_) (fun hif => ?_) | refine Za (fun hif => ?_) (fun hif => ?_) | refine Zb (fun hif => ?_) (fun hif => ?_) | (refine Zc ?_ ?_; omega) | (refine Zd ?_ ?_; omega) | (refine Ze ?_ ?_; omega) | ((refine evApply_cap hone ?_; rintro _ g2 ⟨rfl,k5,k6⟩))) <;>
   (try simp -implicitDefEqProofs (disch := first | assumption | omega) only [sx,sb,sd,se,xwS,xwO,xwI,oEv,xres,o1f,Nat.reduceAdd,Nat.reduceEqDiff,Nat.reduceSub, ↓reduceIte,reduceCtorEq,wrap_i64,Nat.zero_add,Int.toNat_natCast, *]))
  all_goals first
   | (exfalso; omega)
   | skip
  ·have hz : ¬ r.2 = 0 := by simpa using hif
   rw [if_neg hz] at k3
   rw [<- k3]
   exact ⟨rfl,k5,c1.trans k6⟩
  ·have hz : r.2 = 0 := by simpa using hif
   rw [if_pos hz] at k3
   simp only [List.length_cons,List.length_nil] at hlen
   exact ⟨n - 1,by omega,i + 1,r.1,by omega,by simp,c1.trans k6,k5,k2.chg k6,k3,by omega⟩
 ·rw [List.drop_eq_nil_of_le (by omega)] at k3
  repeat' ((first | refine Z0 rfl ?_ | refine Z1 rfl ?_ | refine Z2 ?_ | refine Z3 ?_ | refine Z4 ?_ | refine Z5 ?_ | refine Z6 ?_ | refine Z7 ?_ | refine Z8 ?_ | refine Z9 (fun hif => ?_) (fun hif => ?_) | refine Za (fun hif => ?_) (fun hif => ?_) | refine Zb (fun hif => ?_) (fun hif => ?_) | (refine Zc ?_ ?_; omega) | (refine Zd ?_ ?_; omega) | (refine Ze ?_ ?_; omega)) <;>
   (try simp -implicitDefEqProofs (disch := first | assumption | omega) only [sx,sb,sd,se,xwS,xwO,xwI,oEv,xres,o1f,Nat.reduceAdd,Nat.reduceEqDiff,Nat.reduceSub, ↓reduceIte,reduceCtorEq,wrap_i64,Nat.zero_add,Int.toNat_natCast, *]))
  all_goals first
   | (exfalso; omega)
   | skip
  rw [thr] at k3
  rw [<- k3]
  exact ⟨rfl,k1⟩
theorem ChkP.fine {b : Nat} {h : Heap} {o : Nat} {es : List (Int × List Int)} {last : Int} {ov : Bool} {tr : List Int} (hc : ChkP b h o es last ov tr) : Fine tr := by
 obtain ⟨vs,mo,ces,ins,vv,tv,hm,hg⟩ := hc
 intro x hx
 have h1 := hg.lt x hx
 have h2 := hg.len
 omega
theorem thr_more (es : List (Int × List Int)) : ∀ (hints yes : List Int), ∃ w,(thr es yes hints).1 = yes ++ w
 | [],yes => ⟨[],by simp [thr]⟩
 | id :: r,yes => by
  rw [thr]
  cases find es id with
  | none => exact ⟨[],by simp⟩
  | some l =>
   simp only
   cases stepOf yes l with
   | wrong => exact ⟨[],by simp⟩
   | conflict => exact ⟨[],by simp⟩
   | unit x =>
    obtain ⟨w,e⟩ := thr_more es r (yes ++ [x])
    exact ⟨[x] ++ w,by rw [<- List.append_assoc]; exact e⟩
theorem EvDCall.mono {X : XProg} {hook : Task -> Option Out} {f : Nat} {args : List V} {h : Heap} {Q Q' : Heap -> Prop} (he : EvDCall X hook f args h Q) (hq : ∀ h,Q h -> Q' h) : EvDCall X hook f args h Q' :=
 let ⟨n,v,h',h1,h2⟩ := he
 ⟨n,v,h',h1,hq _ h2⟩
theorem gback_ok {b : Nat} {h : Heap} {o b4 b9 : Nat} {es : List (Int × List Int)} {last : Int} {ov : Bool} {tr : List Int} {n : Nat} (hc : ChkP b h o es last ov tr) (h4 : Cell h o b4 (.ptr o 0 0)) (h9 : Cell h o b9 (.int .i64 n)) (hn : n <= tr.length) (htl : tr.length <= 100000000) :
  EvDCall xprog H0 74 [.ptr b4 0 0,.ptr b9 0 0] h fun h' => ChkP b h' o es last ov (tr.take n) /\ Chg o h h' := by
 refine s_dcall (fn := xf74) rfl (free _ rfl ..) rfl ?_
 have r4 := rCl (off := 0) h4.get rfl
 have r9 := rCl (off := 0) h9.get rfl
 have hb := back_ok hc hn htl fun x hx => (hc.fine x hx).2
 simp -implicitDefEqProofs only [xf74,argsFrom_cons,argsFrom_nil]
 repeat' ((first | refine Z0 rfl ?_ | refine Z1 rfl ?_ | refine Z2 ?_ | refine Z3 ?_ | refine Z4 ?_ | refine Z5 ?_ | refine Z6 ?_ | refine Z7 ?_ | refine Z8 ?_ | refine Z9 (fun hif => ?_) (fun hif => ?_) | refine Za (fun hif => ?_) (fun hif => ?_) | refine Zb (fun hif => ?_) (fun hif => ?_) | (refine Zc ?_ ?_; omega) | (refine Zd ?_ ?_; omega) | (refine Ze ?_ ?_; omega) | ((refine eAc hb ?_; rintro _ g ⟨k1,k2⟩))) <;>
  (try simp -implicitDefEqProofs (disch := first | assumption | omega) only [sx,sb,sd,se,xwS,xwO,xwI,oEv,xres,o1f,Nat.reduceAdd,Nat.reduceEqDiff,Nat.reduceSub, ↓reduceIte,reduceCtorEq, *]))
 all_goals exact ⟨k1,k2⟩
theorem fback_ok {b : Nat} {h : Heap} {o b4 : Nat} {es : List (Int × List Int)} {last : Int} {ov : Bool} {tr : List Int} (hc : ChkP b h o es last ov tr) (h4 : Cell h o b4 (.ptr o 0 0)) (htl : tr.length <= 100000000) :
  EvDCall xprog H0 37 [.ptr b4 0 0] h fun h' => ChkP b h' o es last ov [] /\ Chg o h h' := by
 refine s_dcall (fn := xf37) rfl (free _ rfl ..) rfl ?_
 have r4 := rCl (off := 0) h4.get rfl
 have hb : EvCall xprog H0 38 [.ptr o 0 0,.int .i64 0] h fun v h' => ChkP b h' o es last ov [] /\ Chg o h h' := back_ok (n := 0) hc (Nat.zero_le _) htl fun x hx => (hc.fine x hx).2
 simp -implicitDefEqProofs only [xf37,argsFrom_cons,argsFrom_nil]
 repeat' ((first | refine Z0 rfl ?_ | refine Z1 rfl ?_ | refine Z2 ?_ | refine Z3 ?_ | refine Z4 ?_ | refine Z5 ?_ | refine Z6 ?_ | refine Z7 ?_ | refine Z8 ?_ | refine Z9 (fun hif => ?_) (fun hif => ?_) | refine Za (fun hif => ?_) (fun hif => ?_) | refine Zb (fun hif => ?_) (fun hif => ?_) | (refine Zc ?_ ?_; omega) | (refine Zd ?_ ?_; omega) | (refine Ze ?_ ?_; omega) | ((refine eAc hb ?_; rintro _ g ⟨k1,k2⟩))) <;>
  (try simp -implicitDefEqProofs (disch := first | assumption | omega) only [sx,sb,sd,se,xwS,xwO,xwI,oEv,xres,o1f,Nat.reduceAdd,Nat.reduceEqDiff,Nat.reduceSub, ↓reduceIte,reduceCtorEq, *]))
 all_goals exact ⟨k1,k2⟩
open Go.Xr Go.Chk
theorem Eqs.more {a b c d : List Int} (h : Eqs a (b ++ c)) (h' : ∀ x,x ∈ d ↔ x ∈ c) : Eqs a (b ++ d) := h.trans (Eqs.append (Eqs.refl b) fun x => (h' x).symm)
def negsOf (l : List Int) (p : Int) : List Int := (l.filter fun x => decide (x ≠ -p)).map fun x => -x
theorem mem_negs {l : List Int} {p z : Int} : z ∈ negsOf l p ↔ -z ∈ l /\ -z ≠ -p := by
 unfold negsOf
 rw [List.mem_map]
 constructor
 ·rintro ⟨x,h1,rfl⟩
  rw [List.mem_filter] at h1
  rw [Int.neg_neg]
  exact ⟨h1.1,of_decide_eq_true h1.2⟩
 ·rintro ⟨h1,h2⟩
  exact ⟨-z,List.mem_filter.2 ⟨h1,decide_eq_true h2⟩,Int.neg_neg z⟩
theorem negs_snoc {tk : List Int} {p x z : Int} : z ∈ negsOf (tk ++ [x]) p ↔ z ∈ negsOf tk p \/ (x ≠ -p /\ z = -x) := by
 rw [mem_negs,mem_negs,List.mem_append,List.mem_singleton]
 constructor
 ·rintro ⟨h1 | h1,h2⟩
  ·exact .inl ⟨h1,h2⟩
  ·exact .inr ⟨by omega,by omega⟩
 ·rintro (⟨h1,h2⟩ | ⟨h1,rfl⟩)
  ·exact ⟨.inl h1,h2⟩
  ·exact ⟨.inr (Int.neg_neg x),by rw [Int.neg_neg]; exact h1⟩
theorem negs_skip {tr a tk : List Int} {p x : Int} (h : Eqs a (tr ++ negsOf tk p)) (hx : x = -p \/ -x ∈ a) : Eqs a (tr ++ negsOf (tk ++ [x]) p) := fun z => by
 rw [List.mem_append,negs_snoc,h z,List.mem_append]
 constructor
 ·rintro (q | q)
  ·exact .inl q
  ·exact .inr (.inl q)
 ·rintro (q | q | ⟨q1,q2⟩)
  ·exact .inl q
  ·exact .inr q
  ·rcases hx with hx | hx
   ·exact absurd hx q1
   ·subst q2
    exact List.mem_append.1 ((h _).1 hx)
theorem negs_add {tr w tk : List Int} {p x : Int} (h : Eqs (tr ++ w) (tr ++ negsOf tk p)) (hx : x ≠ -p) : Eqs (tr ++ (w ++ [-x])) (tr ++ negsOf (tk ++ [x]) p) := fun z => by
 have := h z
 rw [List.mem_append,List.mem_append] at this
 rw [List.mem_append,List.mem_append,List.mem_append,negs_snoc,List.mem_singleton, <- or_assoc,this, <- or_assoc]
 simp [hx]
set_option maxHeartbeats 16000000 in
theorem group_ok {b : Nat} {h : Heap} {o ho : Nat} {es : List (Int × List Int)} {last : Int} {ov : Bool} {tr hints l : List Int} {hv lv sv : V} {p : Int} (hc : ChkP b h o es last ov tr) (hf : ∀ e ∈ es,Fine e.2 /\ e.2.length <= 1000000) (hh : SlO .i64 h o hv hints) (hl : HeldAt h o ho lv sv l) (hfl : Fine l) (hll : l.length <= 1000000) (hp : -1048576 <= p /\ p <= 1048576) (htl : tr.length + hints.length <= 1000000) :
  EvCall xprog H0 61 [.ptr o 0 0,.ptr ho 0 0,.int .i32 p,hv] h fun v h' => v = .int .i64 (groupOf es l p tr hints) /\ ChkP b h' o es last ov tr /\ Chg o h h' := by
 refine s_call (fn := xf61) rfl (free _ rfl ..) ?_
 -- the two cells of its own
 have hlt := hc.lt.1
 have h4 := Cell.new hc (.ptr o 0 0)
 have e4 := Ext.new h [.ptr o 0 0] 1 false
 have c4 : Chg o h _ := Chg.ext e4 hlt
 have hc4 := hc.ext e4
 have hl4 := hl.chg c4
 have hh4 := hh.chg c4
 generalize hb4 : h.next = b4 at *
 generalize hH4 : nCs h [.ptr o 0 0] 1 false = H4 at *
 have hlt4 := hc4.lt.1
 have h9 := Cell.new hc4 (.int .i64 0)
 have e9 := Ext.new H4 [.int .i64 0] 1 false
 have c9 : Chg o H4 _ := Chg.ext e9 hlt4
 have hc9 := hc4.ext e9
 have h49 := h4.chg c9
 have hne : b4 ≠ H4.next := by have := h4.lt; omega
 have hc4p := hc4
 obtain ⟨vs,mo,ces,ins,vv,tv,hm,hg⟩ := hc4
 obtain ⟨_,r5,_,_,q3,q4⟩ := hm.reads
 have r4 := rCl (off := 0) h4.get rfl
 have wp : IntKind.i32.wrap (-p) = -p := wneg hp.1 hp.2
 have hnl := lenNrm l
 have hwr := writeCell (off := 0) (v := .int .i64 (tr.length : Nat)) h9.get (by simp) rfl
 generalize hH9 : nCs H4 [.int .i64 0] 1 false = H9 at *
 simp -implicitDefEqProofs only [xf61,argsFrom_cons,argsFrom_nil]
 refine s_cut3 (fun t d g => sO t 1 = .ptr ho 0 0 /\ sO t 2 = .int .i32 p /\ sO t 3 = hv /\ sO t 4 = .ptr b4 0 0 /\ d = [.call 74 [.ptr b4 0 0,.ptr H4.next 0 0]] /\ g = H9.put H4.next (arr ([.int .i64 0].set 0 (.int .i64 (tr.length : Nat))) 1 false)) ?_ ?_
 ·repeat' ((first | refine Z0 rfl ?_ | refine Z1 rfl ?_ | refine Z2 ?_ | refine Z3 ?_ | refine Z4 ?_ | refine Z5 ?_ | refine Z6 ?_ | refine Z7 ?_ | refine Z8 ?_ | refine Z9 (fun hif => ?_) (fun hif => ?_) | refine Za (fun hif => ?_) (fun hif => ?_) | refine Zb (fun hif => ?_) (fun hif => ?_) | (refine Zc ?_ ?_; omega) | (refine Zd ?_ ?_; omega) | (refine Ze ?_ ?_; omega)) <;>
   (try simp -implicitDefEqProofs (disch := first | assumption | omega) only [sx,sb,sd,se,xwS,xwO,xwI,oEv,xres,o1f,Nat.reduceAdd,Nat.reduceEqDiff,Nat.reduceSub, ↓reduceIte,reduceCtorEq,si, *]))
 have eG := e9.put (o := H4.next) (arr ([.int .i64 0].set 0 (.int .i64 (tr.length : Nat))) 1 false) (Nat.le_refl _)
 have gG : (H9.put H4.next (arr ([.int .i64 0].set 0 (.int .i64 (tr.length : Nat))) 1 false)).get H4.next = some (arr [.int .i64 (tr.length : Nat)] 1 false) := by rw [Heap.get_put,if_pos rfl]; rfl
 have lG : H4.next < (H9.put H4.next (arr ([.int .i64 0].set 0 (.int .i64 (tr.length : Nat))) 1 false)).next := by rw [<- hH9]; exact Nat.lt_succ_self _
 generalize H9.put H4.next (arr ([.int .i64 0].set 0 (.int .i64 (tr.length : Nat))) 1 false) = G at *
 have cG := Chg.ext eG hlt4
 have kc := hc4p.ext eG
 have kl := hl4.chg cG
 have kh := hh4.chg cG
 have k4 := h4.chg cG
 have k9 : Cell G o H4.next (.int .i64 (tr.length : Nat)) := ⟨gG,lG,fun q => by have := hc4p.lt.2 H4.next ((Mut.ext eG hlt4).1 q); omega⟩
 have kG := c4.trans cG
 generalize H4.next = b9 at *
 clear hm hg r5 q3 q4 r4 hwr hH9 hH4 gG lG eG cG h49 hc9 c9 e9 h9 hlt4 hh4 hl4 h4 e4 c4 hc4p hne
 have fin : ∀ {t : Tr V} {g : Heap} {w : List Int} {r : Int},sO t 8 = .int .i64 r -> ChkP b g o es last ov (tr ++ w) -> Chg o G g -> r = groupOf es l p tr hints -> tr.length + w.length <= 100000000 -> xfin xprog H0 [.tmp 8] (fun v h' => v = .int .i64 (groupOf es l p tr hints) /\ ChkP b h' o es last ov tr /\ Chg o h h') .ret t [.call 74 [.ptr b4 0 0,.ptr b9 0 0]] g := by
  rintro t g w r e1 e2 e3 e4 e5
  refine xfin_defer (EvDCall.mono (gback_ok e2 (k4.chg e3) (k9.chg e3) (by simp) (by simp; omega)) ?_)
  rintro h' ⟨q1,q2⟩
  rw [List.take_left] at q1
  simp only [xres,e1,o1f]
  exact ⟨by rw [e4],q1,kG.trans (e3.trans q2)⟩
 rintro t d g ⟨a1,a2,a3,a4,rfl,rfl⟩
 have r1 := rCl (off := 1) kl.get rfl
 have r2 := rCl (off := 2) kl.get rfl
 have sl := kl.set.1.len
 have sr := kl.set.1.row
 simp only [List.length_map] at sl
 have rb := rCl (off := 0) k4.get rfl
 have hmn : ∀ x,x ∈ nrm l ↔ x ∈ l := nrm_alike l
 have hcon : ∀ z,EvCall xprog H0 60 [sv,.int .i32 z] g fun v h' => v = .bool (decide (z ∈ l)) /\ h' = g := fun z => (Contains_ok kl.set.1 (by omega) z).mono fun v h' q => by rw [q.1,q.2]; exact ⟨by simp only [hmn],rfl⟩
 repeat' ((first | refine Z0 rfl ?_ | refine Z1 rfl ?_ | refine Z2 ?_ | refine Z3 ?_ | refine Z4 ?_ | refine Z5 ?_ | refine Z6 ?_ | refine Z7 ?_ | refine Z8 ?_ | refine Z9 (fun hif => ?_) (fun hif => ?_) | refine Za (fun hif => ?_) (fun hif => ?_) | refine Zb (fun hif => ?_) (fun hif => ?_) | (refine Zc ?_ ?_; omega) | (refine Zd ?_ ?_; omega) | (refine Ze ?_ ?_; omega)) <;>
  (try simp -implicitDefEqProofs (disch := first | assumption | omega) only [sx,sb,sd,se,xwS,xwO,xwI,oEv,xres,o1f,Nat.reduceAdd,Nat.reduceEqDiff,Nat.reduceSub, ↓reduceIte,reduceCtorEq, *]))
 have hns : (nrm l).length <= 1000000 := by omega
 refine s_while (fun n t d g' => ∃ (i : Nat),i + n = (nrm l).length /\ sO t 25 = .int .i64 i /\ sO t 24 = .int .i64 (nrm l).length /\ sO t 23 = sv /\ sO t 1 = .ptr ho 0 0 /\ sO t 2 = .int .i32 p /\ sO t 3 = hv /\ sO t 4 = .ptr b4 0 0 /\ d = [.call 74 [.ptr b4 0 0,.ptr b9 0 0]] /\ g' = g /\ ∀ x ∈ (nrm l).take i, ¬ (x ≠ -p /\ (x ∈ tr \/ -x ∈ l))) (fun _ _ _ => frC ..) (nrm l).length ⟨0,by omega,by simp [sSe],by simp [sSe],by simp [sSe],by simp [sSe,a1],by simp [sSe,a2],by simp [sSe,a3],by simp [sSe,a4],rfl,rfl,by simp⟩ ?_
 clear a1 a2 a3 a4 t
 rintro n t d g ⟨i,b1,b2,b3,b4',a1,a2,a3,a4,rfl,rfl,b5⟩
 refine s_cut2 (fun t d g' => sO t 25 = .int .i64 i /\ sO t 24 = .int .i64 (nrm l).length /\ sO t 23 = sv /\ sO t 1 = .ptr ho 0 0 /\ sO t 2 = .int .i32 p /\ sO t 3 = hv /\ sO t 4 = .ptr b4 0 0 /\ d = [.call 74 [.ptr b4 0 0,.ptr b9 0 0]] /\ g' = g /\ i < (nrm l).length) ?_ ?_
 ·repeat' ((first | refine Z0 rfl ?_ | refine Z1 rfl ?_ | refine Z2 ?_ | refine Z3 ?_ | refine Z4 ?_ | refine Z5 ?_ | refine Z6 ?_ | refine Z7 ?_ | refine Z8 ?_ | refine Z9 (fun hif => ?_) (fun hif => ?_) | refine Za (fun hif => ?_) (fun hif => ?_) | refine Zb (fun hif => ?_) (fun hif => ?_) | (refine Zc ?_ ?_; omega) | (refine Zd ?_ ?_; omega) | (refine Ze ?_ ?_; omega)) <;>
   (try simp -implicitDefEqProofs (disch := first | assumption | omega) only [sx,sb,sd,se,xwS,xwO,xwI,oEv,xres,o1f,Nat.reduceAdd,Nat.reduceEqDiff,Nat.reduceSub, ↓reduceIte,reduceCtorEq, *]))
  ·omega
  have hie : i = (nrm l).length := by omega
  subst hie
  rw [List.take_length] at b5
  have hall : ∀ x ∈ l, ¬ (x ≠ -p /\ (x ∈ tr \/ -x ∈ l)) := fun x hx => b5 x ((hmn x).2 hx)
  clear hcon b5 rb b1
  refine s_while (fun m t d g' => ∃ (i : Nat) (w : List Int),i + m = (nrm l).length /\ sO t 60 = .int .i64 i /\ sO t 59 = .int .i64 (nrm l).length /\ sO t 58 = sv /\ sO t 2 = .int .i32 p /\ sO t 3 = hv /\ sO t 4 = .ptr b4 0 0 /\ d = [.call 74 [.ptr b4 0 0,.ptr b9 0 0]] /\ ChkP b g' o es last ov (tr ++ w) /\ Chg o g g' /\ Eqs (tr ++ w) (tr ++ negsOf ((nrm l).take i) p) /\ w.length <= i) (fun _ _ _ => frC ..) (nrm l).length ⟨0,[],by omega,by simp [sSe],by simp [sSe],by simp [sSe],by simp [sSe,a2],by simp [sSe,a3],by simp [sSe,a4],rfl,by simpa using kc,Chg.refl _ _,by simpa [negsOf] using Eqs.refl tr,Nat.le_refl _⟩ ?_
  clear b2 b3 b4' a1 a2 a3 a4 t r1 r2
  rintro n t d g' ⟨i,w,b1,b2,b3,b4',a2,a3,a4,rfl,kw,cw,ew,lw⟩
  have rb := rCl (off := 0) (k4.chg cw).get rfl
  refine s_cut2 (fun t d g1 => sO t 60 = .int .i64 i /\ sO t 59 = .int .i64 (nrm l).length /\ sO t 58 = sv /\ sO t 2 = .int .i32 p /\ sO t 3 = hv /\ sO t 4 = .ptr b4 0 0 /\ d = [.call 74 [.ptr b4 0 0,.ptr b9 0 0]] /\ g1 = g' /\ i < (nrm l).length) ?_ ?_
  ·have hth := through_ok kw hf (kh.chg cw) (by simp; omega)
   have hcode : Kept (i = (nrm l).length -> groupOf es l p tr hints = match (thr es (tr ++ w) hints).2 with | 0 => 61 | 1 => 0 | _ => 60) := fun hie => by
    subst hie
    rw [List.take_length] at ew
    have he : Eqs (tr ++ w) (tr ++ negsOf l p) := Eqs.more ew fun z => by rw [mem_negs,mem_negs,hmn]
    rw [group_thr hall,(thr_alike es hints he).1]
    rfl
   have hle := thr_le es hints (tr ++ w)
   have hlen := thr_len es hints (tr ++ w)
   obtain ⟨w2,hw2⟩ := thr_more es hints (tr ++ w)
   rw [hw2,List.append_assoc] at hth
   rw [hw2] at hlen
   simp only [List.length_append] at hlen
   generalize (thr es (tr ++ w) hints).2 = code at *
   clear hw2
   repeat' ((first | refine Z0 rfl ?_ | refine Z1 rfl ?_ | refine Z2 ?_ | refine Z3 ?_ | refine Z4 ?_ | refine Z5 ?_ | refine Z6 ?_ | refine Z7 ?_ | refine Z8 ?_ | refine Z9 (fun hif => ?_) (fun hif => ?_) | refine Za (fun hif => ?_) (fun hif => ?_) | refine Zb (fun hif => ?_) (fun hif => ?_) | (refine Zc ?_ ?_; omega) | (refine Zd ?_ ?_; omega) | (refine Ze ?_ ?_; omega) | ((refine eAc hth ?_; rintro _ g3 ⟨rfl,m1,m2⟩))) <;>
    (try simp -implicitDefEqProofs (disch := first | assumption | omega) only [sx,sb,sd,se,xwS,xwO,xwI,oEv,xres,o1f,Nat.reduceAdd,Nat.reduceEqDiff,Nat.reduceSub, ↓reduceIte,reduceCtorEq, *]))
   ·omega
   all_goals
    have hcode := hcode (by omega)
   ·refine fin (w := w ++ w2) (r := 60) (by simp [sSe]) m1 (cw.trans m2) ?_ (by simp; omega)
    rw [hcode,show code = 2 by omega]
    rfl
   ·refine fin (w := w ++ w2) (r := 61) (by simp [sSe]) m1 (cw.trans m2) ?_ (by simp; omega)
    rw [hcode,show code = 0 by omega]
    rfl
   ·refine fin (w := w ++ w2) (r := 0) (by simp [sSe]) m1 (cw.trans m2) ?_ (by simp; omega)
    rw [hcode,show code = 1 by omega]
    rfl
  clear b2 b3 b4' a2 a3 a4 t
  rintro t d g' ⟨b2,b3,b4',a2,a3,a4,rfl,rfl,hi⟩
  have rx : rCs g' (objS sv) (genS sv) (offS sv + i) 1 = some [.int .i32 ((nrm l)[i])] := (kl.set.chg cw).1.at (by simp [hi])
  have et := take_at hi
  have hxl : (nrm l)[i] ∈ l := (hmn _).1 (List.getElem_mem hi)
  have hfx := hfl _ hxl
  have wn := wneg hfx.2.1 hfx.2.2
  have hof := of_ok kw (l := (nrm l)[i]) hfx.2
  have hsub : ∀ z ∈ (nrm l).take i,z ∈ l := fun z hz => (hmn z).1 (List.mem_of_mem_take hz)
  obtain ⟨x,hx⟩ : ∃ x,x = (nrm l)[i] := ⟨_,rfl⟩
  rw [<- hx] at rx et hxl hfx wn hof
  have hxn : x ≠ -p -> x ∉ tr ++ w := fun hne hm => by
   rcases List.mem_append.1 ((ew x).1 hm) with q | q
   ·exact hall x hxl ⟨hne,.inl q⟩
   ·exact hall x hxl ⟨hne,.inr (hsub _ (mem_negs.1 q).1)⟩
  have hl0 : ¬ x = -p -> (litVal (tr ++ w) x = 0 ↔ -x ∉ tr ++ w) := fun hne => by
   rcases litVal_cases (tr ++ w) x with ⟨q1,q2⟩ | ⟨q1,q3,q2⟩ | ⟨q1,q3,q2⟩
   ·exact absurd q1 (hxn hne)
   ·rw [q2]; simp only [q3,not_true_eq_false,iff_false]; decide
   ·rw [q2]; simp only [q3,not_false_eq_true,iff_true]
  have hset : x ≠ -p -> -x ∉ tr ++ w -> EvCall xprog H0 39 [.ptr o 0 0,.int .i32 (-x)] g' fun v h' => ChkP b h' o es last ov (tr ++ w ++ [-x]) /\ Chg o g' h' := fun h1 h2 => set_ok kw (by omega) (by omega) h2 (by rw [Int.neg_neg]; exact hxn h1) (by simp; omega)
  clear hx hmn hxn hsub
  generalize hyy : tr ++ w = yy at *
  repeat' ((first | refine Z0 rfl ?_ | refine Z1 rfl ?_ | refine Z2 ?_ | refine Z3 ?_ | refine Z4 ?_ | refine Z5 ?_ | refine Z6 ?_ | refine Z7 ?_ | refine Z8 ?_ | refine Z9 (fun hif => ?_) (fun hif => ?_) | refine Za (fun hif => ?_) (fun hif => ?_) | refine Zb (fun hif => ?_) (fun hif => ?_) | (refine Zc ?_ ?_; omega) | (refine Zd ?_ ?_; omega) | (refine Ze ?_ ?_; omega) | (refine (eCi hof).2 ?_) | ((refine eAc (hset (by assumption) (by assumption)) ?_; rintro _ g2 ⟨m1,m2⟩))) <;>
   (try simp -implicitDefEqProofs (disch := first | assumption | omega) only [sx,sb,sd,se,xwS,xwO,xwI,oEv,xres,o1f,Nat.reduceAdd,Nat.reduceEqDiff,Nat.reduceSub, ↓reduceIte,reduceCtorEq,wrap_i64,Nat.zero_add,Int.toNat_natCast, *]))
  all_goals subst hyy
  ·refine ⟨n - 1,by omega,i + 1,w,by omega,by simp,kw,?_,by omega⟩
   rw [et]
   exact negs_skip ew (.inl (by assumption))
  ·have hne : x ≠ -p := by assumption
   refine ⟨n - 1,by omega,i + 1,w ++ [-x],by omega,by simp,by rw [<- List.append_assoc]; exact m1,cw.trans m2,?_,by simp; omega⟩
   rw [et]
   exact negs_add ew hne
  ·have hin : -x ∈ tr ++ w := Classical.not_not.1 (by assumption)
   refine ⟨n - 1,by omega,i + 1,w,by omega,by simp,kw,?_,by omega⟩
   rw [et]
   exact negs_skip ew (.inr hin)
 clear b2 b3 b4' a1 a2 a3 a4 t
 rintro t d g ⟨b2,b3,b4',a1,a2,a3,a4,rfl,rfl,hi⟩
 have rx : rCs g (objS sv) (genS sv) (offS sv + i) 1 = some [.int .i32 ((nrm l)[i])] := kl.set.1.at (by simp [hi])
 have et := take_at hi
 have hxl : (nrm l)[i] ∈ l := (hmn _).1 (List.getElem_mem hi)
 have hfx := hfl _ hxl
 have wn := wneg hfx.2.1 hfx.2.2
 have hof := of_ok kc (l := (nrm l)[i]) hfx.2
 have hlv : litVal tr (nrm l)[i] = 1 ↔ (nrm l)[i] ∈ tr := by
  rcases litVal_cases tr (nrm l)[i] with ⟨q1,q2⟩ | ⟨q1,_,q2⟩ | ⟨q1,_,q2⟩ <;> rw [q2] <;> simp [q1]
 obtain ⟨x,hx⟩ : ∃ x,x = (nrm l)[i] := ⟨_,rfl⟩
 rw [<- hx] at rx et hxl hfx wn hof hlv
 clear hx hmn
 repeat' ((first | refine Z0 rfl ?_ | refine Z1 rfl ?_ | refine Z2 ?_ | refine Z3 ?_ | refine Z4 ?_ | refine Z5 ?_ | refine Z6 ?_ | refine Z7 ?_ | refine Z8 ?_ | refine Z9 (fun hif => ?_) (fun hif => ?_) | refine Za (fun hif => ?_) (fun hif => ?_) | refine Zb (fun hif => ?_) (fun hif => ?_) | (refine Zc ?_ ?_; omega) | (refine Zd ?_ ?_; omega) | (refine Ze ?_ ?_; omega) | (refine (eCi hof).2 ?_) | (refine (eCi (hcon _)).2 ?_)) <;>
  (try simp -implicitDefEqProofs (disch := first | assumption | omega) only [sx,sb,sd,se,xwS,xwO,xwI,oEv,xres,o1f,Nat.reduceAdd,Nat.reduceEqDiff,Nat.reduceSub, ↓reduceIte,reduceCtorEq,wrap_i64,Nat.zero_add,Int.toNat_natCast, *]))
 ·refine ⟨n - 1,by omega,i + 1,by omega,by simp,fun z hz => ?_⟩
  rw [et,List.mem_append,List.mem_singleton] at hz
  rcases hz with hz | rfl
  ·exact b5 z hz
  ·exact fun q => q.1 hif
 ·exact fin (w := []) (r := 0) (by simp [sSe]) (by simpa using kc) (Chg.refl _ _) (group_any hxl (by assumption) (.inl (by assumption))).symm (by simp; omega)
 ·exact fin (w := []) (r := 0) (by simp [sSe]) (by simpa using kc) (Chg.refl _ _) (group_any hxl (by assumption) (.inr (by assumption))).symm (by simp; omega)
 ·refine ⟨n - 1,by omega,i + 1,by omega,by simp,fun z hz => ?_⟩
  rw [et,List.mem_append,List.mem_singleton] at hz
  rcases hz with hz | rfl
  ·exact b5 z hz
  ·rintro ⟨_,q | q⟩
   ·exact absurd q (by assumption)
   ·exact absurd q (by assumption)
 ·have hbt : ¬ both l = true := by assumption
  refine ⟨n - 1,by omega,i + 1,by omega,by simp,fun z hz => ?_⟩
  rw [et,List.mem_append,List.mem_singleton] at hz
  rcases hz with hz | rfl
  ·exact b5 z hz
  ·rintro ⟨_,q | q⟩
   ·exact absurd q (by assumption)
   ·exact hbt (List.any_eq_true.2 ⟨z,hxl,decide_eq_true q⟩)
open Go.Xr Go.Chk
theorem Index_okb {h : Heap} {c : V} {xs : List Int} (hc : Sl h c (xs.map (.int .i32))) (hlen : xs.length <= 9223372036854775806) (l : Int) : EvCall xprog Hb 73 [c,.int .i32 l] h fun v h' => (∃ r : Int,v = .int .i64 r /\ (0 <= r ↔ l ∈ xs)) /\ h' = h := by
 refine s_call (fn := xf73) rfl (freeb _ rfl ..) ?_
 have hl := hc.len
 have hr := hc.row
 simp only [List.length_map] at hl
 simp -implicitDefEqProofs only [xf73,argsFrom_cons,argsFrom_nil]
 repeat' ((first | refine Z0 rfl ?_ | refine Z1 rfl ?_ | refine Z2 ?_ | refine Z3 ?_ | refine Z4 ?_ | refine Z5 ?_ | refine Z6 ?_ | refine Z7 ?_ | refine Z8 ?_ | refine Z9 (fun hif => ?_) (fun hif => ?_) | refine Za (fun hif => ?_) (fun hif => ?_) | refine Zb (fun hif => ?_) (fun hif => ?_) | (refine Zc ?_ ?_; omega) | (refine Zd ?_ ?_; omega) | (refine Ze ?_ ?_; omega)) <;>
  (try simp -implicitDefEqProofs (disch := first | assumption | omega) only [sx,sb,sd,se,xwS,xwO,xwI,oEv,xres,o1f,Nat.reduceAdd,Nat.reduceEqDiff,Nat.reduceSub, ↓reduceIte,reduceCtorEq,wrap_i64, *]))
 refine s_while (fun n t d h' => ∃ i : Nat,i + n = xs.length /\ sO t 8 = .int .i64 i /\ sO t 7 = .int .i64 xs.length /\ sO t 0 = c /\ sO t 1 = .int .i32 l /\ d = [] /\ h' = h /\ ∀ j (hj : j < xs.length),j < i -> xs[j] ≠ l) (fun _ _ _ => freeb_code ..) xs.length ⟨0,by omega,by simp [sSe],by simp [sSe],by simp [sSe],by simp [sSe],rfl,rfl,fun j _ hj => by omega⟩ ?_
 rintro n t d h' ⟨i,a1,a2,a2',a3,a4,rfl,rfl,a5⟩
 have rx : ∀ (hi : i < xs.length),rCs h' (objS c) (genS c) (offS c + i) 1 = some [.int .i32 (xs[i])] := fun hi => Sl.lit hc hi
 repeat' ((first | refine Z0 rfl ?_ | refine Z1 rfl ?_ | refine Z2 ?_ | refine Z3 ?_ | refine Z4 ?_ | refine Z5 ?_ | refine Z6 ?_ | refine Z7 ?_ | refine Z8 ?_ | refine Z9 (fun hif => ?_) (fun hif => ?_) | refine Za (fun hif => ?_) (fun hif => ?_) | refine Zb (fun hif => ?_) (fun hif => ?_) | (refine Zc ?_ ?_; omega) | (refine Zd ?_ ?_; omega) | (refine Ze ?_ ?_; omega)) <;>
  (try simp -implicitDefEqProofs (disch := first | assumption | omega) only [sx,sb,sd,se,xwS,xwO,xwI,oEv,xres,o1f,Nat.reduceAdd,Nat.reduceEqDiff,Nat.reduceSub, ↓reduceIte,reduceCtorEq,wrap_i64,Nat.zero_add,Int.toNat_natCast, *]))
 ·exact ⟨_,rfl,fun _ => by subst hif; exact List.getElem_mem _,fun _ => by omega⟩
 ·refine ⟨n - 1,by omega,i + 1,by omega,by simp,fun j hj hlt => ?_⟩
  rcases Nat.lt_succ_iff_lt_or_eq.1 hlt with h | rfl
  ·exact a5 j hj h
  ·exact fun e => hif e.symm
 ·refine ⟨_,rfl,fun h => by omega,fun hm => ?_⟩
  obtain ⟨j,hj,e⟩ := List.getElem_of_mem hm
  exact absurd e (a5 j hj (by omega))
theorem Contains_okb {h : Heap} {c : V} {xs : List Int} (hc : Sl h c (xs.map (.int .i32))) (hlen : xs.length <= 9223372036854775806) (l : Int) : EvCall xprog Hb 60 [c,.int .i32 l] h fun v h' => v = .bool (decide (l ∈ xs)) /\ h' = h := by
 refine s_call (fn := xf60) rfl (freeb _ rfl ..) ?_
 have hr := hc.row
 simp -implicitDefEqProofs only [xf60,argsFrom_cons,argsFrom_nil]
 repeat' ((first | refine Z0 rfl ?_ | refine Z1 rfl ?_ | refine Z2 ?_ | refine Z3 ?_ | refine Z4 ?_ | refine Z5 ?_ | refine Z6 ?_ | refine Z7 ?_ | refine Z8 ?_ | refine Z9 (fun hif => ?_) (fun hif => ?_) | refine Za (fun hif => ?_) (fun hif => ?_) | refine Zb (fun hif => ?_) (fun hif => ?_) | (refine Zc ?_ ?_; omega) | (refine Zd ?_ ?_; omega) | (refine Ze ?_ ?_; omega) | ((refine eAc (Index_okb hc hlen l) ?_; rintro _ _ ⟨⟨r,rfl,hr⟩,rfl⟩))) <;>
  (try simp -implicitDefEqProofs (disch := first | assumption | omega) only [sx,sb,sd,se,xwS,xwO,xwI,oEv,xres,o1f,Nat.reduceAdd,Nat.reduceEqDiff,Nat.reduceSub, ↓reduceIte,reduceCtorEq, *]))
theorem slotOf_anyAll (l : List Nat) : ∀ (t : Tr V) (i : Nat),sO (anyAll t l) i = if i ∈ l then .any else sO t i := by
 induction l with
 | nil => intro t i; rfl
 | cons a l ih =>
  intro t i
  rw [anyAll,ih,sSe]
  by_cases h1 : i ∈ l
  ·rw [if_pos h1,if_pos (List.mem_cons_of_mem _ h1)]
  ·rw [if_neg h1]
   by_cases h2 : i = a
   ·rw [if_pos h2,if_pos (h2 ▸ List.mem_cons_self)]
   ·rw [if_neg h2,if_neg (by rw [List.mem_cons]; exact fun q => q.elim h2 h1)]
theorem tfits_any {t t' : Tr V} {l : List Nat} (h1 : ∀ i,i ∉ l -> sO t' i = sO t i) (h2 : ∀ i ∈ l,vFits (sO t' i) .any = true) : TFits t' (anyAll t l) := fun i => by
 rw [slotOf_anyAll]
 by_cases h : i ∈ l
 ·rw [if_pos h]; exact h2 i h
 ·rw [if_neg h,h1 i h]; exact vFits_refl _
theorem hfits_dead {g h : Heap} {oi : Nat} (h1 : ∀ x,x ≠ oi -> h.get x = g.get x) (h2 : h.next = g.next) (h3 : oi < g.next) : HFits h (g.put oi (.dead true)) := ⟨by rw [h2]; exact Nat.le_refl _,fun o => by
 by_cases ho : o = oi
 ·subst ho
  exact .inr (.inr ⟨by rw [Heap.get_put,if_pos rfl],h3⟩)
 ·exact .inl (by rw [Heap.get_put,if_neg ho,h1 o ho])⟩
theorem find_mem : ∀ {es : List (Int × List Int)},(es.map Prod.fst).Pairwise (· < ·) -> ∀ {id : Int} {l : List Int},(id,l) ∈ es -> find es id = some l
 | [],_,_,_,h => by cases h
 | (i,k) :: r,hp,id,l,h => by
  rw [List.map_cons,List.pairwise_cons] at hp
  unfold find
  rcases List.mem_cons.1 h with e | h
  ·cases e
   rw [if_pos rfl]
  ·have := hp.1 id (List.mem_map.2 ⟨_,h,rfl⟩)
   simp only at this
   rw [if_neg (by omega)]
   exact find_mem hp.2 h
theorem hasKey_mem : ∀ {ces : List (Int × V)} {k : Int} {v : V},hasKey k ces = some v -> (k,v) ∈ ces
 | [],_,_,h => by cases h
 | (a,x) :: r,k,v,h => by
  unfold hasKey at h
  by_cases e : a = k
  ·rw [decide_eq_true e] at h
   cases h
   subst e
   exact List.mem_cons_self
  ·rw [decide_eq_false e] at h
   exact List.mem_cons_of_mem _ (hasKey_mem h)
end Go.Proofs.YtmkbnbpblhoekaaGreat
