/- Part of a proof for X's executor: what the program's functions answer. -/
import Derived.Test.YtmkbnbpblhoekaaGreatU12
set_option linter.unusedSimpArgs false
set_option linter.unusedVariables false
set_option linter.unusedSectionVars false
namespace Go.Proofs.YtmkbnbpblhoekaaGreat
open Go.Xr Go.Chk
theorem Own.obj {b : Nat} {h : Heap} {v : V} {xs : List V} (hs : Own b h v xs) (hne : xs ≠ []) {x : Nat} (hx : rOb v = some x) : b <= x := by
 rcases hs with ⟨q,_⟩ | ⟨o,g,r,h1,_,rfl,_⟩
 ·exact absurd q hne
 ·cases hx; exact h1
theorem Sl.stayN {h h' : Heap} {v : V} {vs : List V} (hs : Sl h v vs) (hn : h.next <= h'.next) (hg : vs ≠ [] -> ∀ o,rOb v = some o -> o < h.next -> h'.get o = h.get o) : Sl h' v vs := by
 by_cases hne : vs = []
 ·subst hne
  rcases hs with h1 | ⟨o',g,off,cap,h1,_⟩
  ·exact .inl h1
  ·exact .inr ⟨o',g,off,cap,h1,fun q => by simp at q⟩
 ·exact hs.stay hn (hg hne)
theorem mem_addKey {n : Int} {v : V} : ∀ {es : List (Int × V)} {p : Int × V},p ∈ addKey n v es -> p = (n,v) \/ p ∈ es
 | [],p,h => by simpa [addKey] using h
 | (a,x) :: r,p,h => by
  unfold addKey at h
  by_cases h1 : n < a
  ·rw [decide_eq_true h1] at h
   simpa using h
  ·rw [decide_eq_false h1] at h
   simp only at h
   by_cases h2 : a < n
   ·rw [decide_eq_true h2] at h
    rcases List.mem_cons.1 h with e | h
    ·exact .inr (e ▸ List.mem_cons_self)
    ·exact (mem_addKey h).imp (fun q => q) (List.mem_cons_of_mem _)
   ·rw [decide_eq_false h2] at h
    rcases List.mem_cons.1 h with e | h
    ·exact .inl e
    ·exact .inr (List.mem_cons_of_mem _ h)
set_option maxHeartbeats 8000000 in
theorem put_ok {b : Nat} {h : Heap} {o : Nat} {es : List (Int × List Int)} {last : Int} {ov : Bool} {tr : List Int} {lv : V} {l : List Int} {id : Int} (hc : ChkP b h o es last ov tr) (hr : Rise es last) (hid : last < id) (hlv : Sl h lv (l.map (.int .i32))) (hfl : Fine l) (hll : l.length <= 1000000) (htot : Chk.total es <= 1000000000) :
  EvCall xprog H0 21 [.ptr o 0 0,.int .i64 id,lv] h fun v h' => ChkP b h' o (es ++ [(id,l)]) id (ov || l.isEmpty) tr /\ Chg o h h' := by
 refine s_call (fn := xf21) rfl (free _ rfl ..) ?_
 obtain ⟨vs,mo,ces,ins,vv,tv,hm,hg⟩ := hc
 have el := hlv.len
 have er := hlv.row
 simp only [List.length_map] at el
 have hnf : find es id = none := find_none.2 fun e he => by have := (hr.2 e he).1; omega
 have hnk : hasKey id ces = none := by
  rcases hm.held id with ⟨_,q⟩ | ⟨l',_,_,_,q,_⟩
  ·exact q
  ·rw [hnf] at q; cases q
 have hn := Normal2_ok hlv hfl.ok (by omega)
 rw [bothN_nrm fun x hx => (hfl x hx).1] at hn
 have hcl : ∀ {g},Ext h g -> EvCall xprog H0 35 [lv] g fun v h' => Own g.next h' v (l.map (.int .i32)) /\ Ext g h' := fun x => Clone_ok (hlv.ext x) (fun x hx => by obtain ⟨n,_,rfl⟩ := List.mem_map.1 hx; rfl) (by simp; omega)
 have r0 : ∀ {g},Ext h g -> rCs g o 0 0 1 = some [.map mo] := fun x => rCl (off := 0) ((x.get o hm.ho).trans hm.get) rfl
 have gm : ∀ {g},Ext h g -> g.get mo = some (.map .i64 ces ins) := fun x => (x.get mo hm.hm).trans hm.map
 have hoo := hm.ho
 have hmm := hm.hm
 have hom := hm.om
 simp -implicitDefEqProofs only [xf21,argsFrom_cons,argsFrom_nil]
 repeat' ((first | refine Z0 rfl ?_ | refine Z1 rfl ?_ | refine Z2 ?_ | refine Z3 ?_ | refine Z4 ?_ | refine Z5 ?_ | refine Z6 ?_ | refine Z7 ?_ | refine Z8 ?_ | refine Z9 (fun hif => ?_) (fun hif => ?_) | refine Za (fun hif => ?_) (fun hif => ?_) | refine Zb (fun hif => ?_) (fun hif => ?_) | (refine Zc ?_ ?_; omega) | (refine Zd ?_ ?_; omega) | (refine Ze ?_ ?_; omega) | refine Zf rfl ?_ | (refine And.intro (a := stays _ _ _ = true) ?_ ?_; focus (simp -implicitDefEqProofs (disch := first | assumption | omega) only [sx,sb,sd,se,xwS,xwO,xwI,oEv,xres,o1f,Nat.reduceAdd,Nat.reduceEqDiff,Nat.reduceSub, ↓reduceIte,reduceCtorEq,stays,wantedV,V.same_refl,Bool.and_self,Bool.and_true,beq_self_eq_true,Bool.true_beq,Bool.false_beq,si,sh,sg,wrap_i64,kindEq,V.whole,Nat.succ_eq_add_one,fillV,parts,over,Nat.beq_refl,Nat.ble, *]; done)) | ((refine eAc hn ?_; rintro _ g1 ⟨⟨w,rfl,s1,s2⟩,x1⟩; have wr := s1.row)) | ((refine eAc (hcl x1) ?_; rintro lv1 g2 ⟨o1,x2⟩; have x12 := x1.trans x2; have lr := o1.row; have x3 : Ext h (nCs g2 [lv1,w,.bool (both l)] 1 false) := x12.trans (Ext.new ..))) | ((refine st_step (cs := [.map mo,.int .i64 last,.int .i64 (Chk.total es : Nat),.bool ov,vv,tv]) (sp := false) (by rw [Heap.get_put,if_neg (fun e => hom e.symm),x3.get o hoo]; exact hm.get) (by simp) rfl ?_; intro g4 go4 n4 f4; have s42 := rCl (off := 2) go4 rfl)) | ((refine st_step go4 (by simp) rfl ?_; intro g5 go5 n5 f5; have s53 := rCl (off := 3) go5 rfl)) | ((refine st_step go5 (by simp) rfl ?_; intro g6 go6 n6 f6))) <;>
  (try simp -implicitDefEqProofs (disch := first | assumption | omega) only [sx,sb,sd,se,xwS,xwO,xwI,oEv,xres,o1f,Nat.reduceAdd,Nat.reduceEqDiff,Nat.reduceSub, ↓reduceIte,reduceCtorEq,si,sh,sg,wrap_i64,kindEq,V.whole,Nat.succ_eq_add_one,fillV,parts,over,Nat.beq_refl,Nat.ble, *]))
 ·have ht : Chk.total (es ++ [(id,l)]) = Chk.total es + l.length := by
   rw [total_append]
   simp [Chk.total]
  have hem : l.isEmpty = decide ((l.length : Int) = 0) := by
   cases l
   ·rfl
   ·exact (decide_eq_false (by simp; omega)).symm
  have nx2 := x12.next
  have nx1 := x1.next
  have nx2' := x2.next
  have hN : g6.next = g2.next + 1 := by rw [n6,n5,n4]; rfl
  have hP : ∀ x,x ≠ o -> x ≠ mo -> g6.get x = (nCs g2 [lv1,w,.bool (both l)] 1 false).get x := fun x h1 h2 => (f6 x h1).trans ((f5 x h1).trans ((f4 x h1).trans (by rw [Heap.get_put,if_neg h2])))
  have hP2 : ∀ x,x < g2.next -> x ≠ o -> x ≠ mo -> g6.get x = g2.get x := fun x h0 h1 h2 => (hP x h1 h2).trans ((Ext.new ..).get x h0)
  have hget : ∀ x,x < h.next -> x ≠ o -> x ≠ mo -> g6.get x = h.get x := fun x h0 h1 h2 => (hP2 x (by omega) h1 h2).trans (x12.get x h0)
  have hmo : g6.get mo = some (.map .i64 (addKey id (.ptr g2.next 0 0) ces) (ins + 1)) := (f6 mo hom).trans ((f5 mo hom).trans ((f4 mo hom).trans (by rw [Heap.get_put,if_pos rfl])))
  have goo : g6.get o = some (arr [.map mo,.int .i64 id,.int .i64 (Chk.total (es ++ [(id,l)]) : Nat),.bool (false || l.isEmpty),vv,tv] 1 false) := by
   rw [go6,ht,hem]
   simp [List.set]
  have hmut : ∀ x,Mut g6 o x ↔ Mut h o x := fun x => by rw [mut_iff goo,mut_iff hm.get]
  have hml : ∀ x,Mut h o x -> x < h.next := fun x hx => ChkP.lt (b := b) ⟨vs,mo,ces,ins,vv,tv,hm,hg⟩ |>.2 x hx
  have chg : Chg o h g6 := ⟨⟨by omega,fun x h0 h1 => by
   rw [mut_iff hm.get] at h1
   exact hget x h0 (fun e => h1 (.inl e)) fun e => h1 (.inr (.inl e))⟩,fun x _ q => (hmut x).1 q,grows_map hm.get rfl goo rfl hm.map hmo (by omega) (fun x q => (hmut x).1 q) fun k ho q => by
   rcases mem_addKey q with e | q
   ·cases e
    refine .inr ⟨by omega,by omega,fun hs v x r1 r2 r3 r4 => ?_⟩
    rw [(hP g2.next (by omega) (by omega)).trans (get_new ..)] at r1
    rw [<- arr_inj r1] at r2
    simp only [List.mem_cons,List.not_mem_nil,or_false] at r2
    rcases r2 with rfl | rfl | rfl
    ·rw [o1.len] at r3
     have := o1.obj (fun e => r3 (by rw [e]; rfl)) r4
     omega
    ·rw [s1.len] at r3
     have := s2 (fun e => r3 (by rw [e]; rfl)) x r4
     omega
    ·cases r4
   ·have q' := hm.held_off ⟨_,mo,_,ces,ins,k,hm.get,rfl,hm.map,q⟩
    rw [mut_iff hm.get] at q'
    obtain ⟨_,_,_,_,_,_,q3⟩ := hm.hobj ⟨_,mo,_,ces,ins,k,hm.get,rfl,hm.map,q⟩
    exact .inl ⟨⟨k,q⟩,hget ho q3.lt (fun e => q' (.inl e)) fun e => q' (.inr (.inl e))⟩⟩
  have hnew : HeldAt g6 o g2.next lv1 w l := by
   refine ⟨(hP g2.next (by omega) (by omega)).trans (get_new ..),by omega,fun q => by have := hml _ ((hmut _).1 q); omega,⟨Sl.stayN o1.sl (by omega) fun hne x hx hlt => hP2 x hlt (by have := o1.obj hne hx; omega) (by have := o1.obj hne hx; omega),fun hne x hx q => ?_⟩,⟨Sl.stayN s1 (by omega) fun hne x hx hlt => (hP2 x (by omega) (by have := s2 hne x hx; omega) (by have := s2 hne x hx; omega)).trans (x2.get x hlt),fun hne x hx q => ?_⟩⟩
   ·have := o1.obj (by simpa using hne) hx
    have := hml _ ((hmut _).1 q)
    omega
   ·have := s2 (by simpa using hne) x hx
    have := hml _ ((hmut _).1 q)
    omega
  refine ⟨⟨vs,mo,_,_,vv,tv,⟨goo,hm.bo,by omega,hm.bm,by omega,hom,hmo,hm.val.frame (by omega) fun x hx => hget x (hm.val.lt hx).2 (hm.voff x hx).1 (hm.voff x hx).2,hm.trl.frame (by omega) fun x hx => hget x (hm.trl.lt hx).2 (hm.toff x hx).1 (hm.toff x hx).2,hm.voff,hm.toff,hm.two,fun k => ?_,addKey_rise hm.keys⟩,hg⟩,chg⟩
  rw [find_append,hasKey_addKey]
  by_cases hk : k = id
  ·subst hk
   rw [hnf]
   exact .inr ⟨l,g2.next,lv1,w,by simp,by simp,hnew⟩
  ·rw [if_neg hk]
   rcases hm.held k with ⟨q1,q2⟩ | ⟨l',ho,lv',sv',q1,q2,q3⟩
   ·rw [q1]
    exact .inl ⟨if_neg (fun e => hk e.symm),q2⟩
   ·rw [q1]
    exact .inr ⟨l',ho,lv',sv',rfl,q2,q3.chg chg⟩
 ·have ht : Chk.total (es ++ [(id,l)]) = Chk.total es + l.length := by
   rw [total_append]
   simp [Chk.total]
  have hem : l.isEmpty = decide ((l.length : Int) = 0) := by
   cases l
   ·rfl
   ·exact (decide_eq_false (by simp; omega)).symm
  have nx2 := x12.next
  have nx1 := x1.next
  have nx2' := x2.next
  have hN : g6.next = g2.next + 1 := by rw [n6,n5,n4]; rfl
  have hP : ∀ x,x ≠ o -> x ≠ mo -> g6.get x = (nCs g2 [lv1,w,.bool (both l)] 1 false).get x := fun x h1 h2 => (f6 x h1).trans ((f5 x h1).trans ((f4 x h1).trans (by rw [Heap.get_put,if_neg h2])))
  have hP2 : ∀ x,x < g2.next -> x ≠ o -> x ≠ mo -> g6.get x = g2.get x := fun x h0 h1 h2 => (hP x h1 h2).trans ((Ext.new ..).get x h0)
  have hget : ∀ x,x < h.next -> x ≠ o -> x ≠ mo -> g6.get x = h.get x := fun x h0 h1 h2 => (hP2 x (by omega) h1 h2).trans (x12.get x h0)
  have hmo : g6.get mo = some (.map .i64 (addKey id (.ptr g2.next 0 0) ces) (ins + 1)) := (f6 mo hom).trans ((f5 mo hom).trans ((f4 mo hom).trans (by rw [Heap.get_put,if_pos rfl])))
  have goo : g6.get o = some (arr [.map mo,.int .i64 id,.int .i64 (Chk.total (es ++ [(id,l)]) : Nat),.bool (true || l.isEmpty),vv,tv] 1 false) := by
   rw [go6,ht,hem]
   simp [List.set]
  have hmut : ∀ x,Mut g6 o x ↔ Mut h o x := fun x => by rw [mut_iff goo,mut_iff hm.get]
  have hml : ∀ x,Mut h o x -> x < h.next := fun x hx => ChkP.lt (b := b) ⟨vs,mo,ces,ins,vv,tv,hm,hg⟩ |>.2 x hx
  have chg : Chg o h g6 := ⟨⟨by omega,fun x h0 h1 => by
   rw [mut_iff hm.get] at h1
   exact hget x h0 (fun e => h1 (.inl e)) fun e => h1 (.inr (.inl e))⟩,fun x _ q => (hmut x).1 q,grows_map hm.get rfl goo rfl hm.map hmo (by omega) (fun x q => (hmut x).1 q) fun k ho q => by
   rcases mem_addKey q with e | q
   ·cases e
    refine .inr ⟨by omega,by omega,fun hs v x r1 r2 r3 r4 => ?_⟩
    rw [(hP g2.next (by omega) (by omega)).trans (get_new ..)] at r1
    rw [<- arr_inj r1] at r2
    simp only [List.mem_cons,List.not_mem_nil,or_false] at r2
    rcases r2 with rfl | rfl | rfl
    ·rw [o1.len] at r3
     have := o1.obj (fun e => r3 (by rw [e]; rfl)) r4
     omega
    ·rw [s1.len] at r3
     have := s2 (fun e => r3 (by rw [e]; rfl)) x r4
     omega
    ·cases r4
   ·have q' := hm.held_off ⟨_,mo,_,ces,ins,k,hm.get,rfl,hm.map,q⟩
    rw [mut_iff hm.get] at q'
    obtain ⟨_,_,_,_,_,_,q3⟩ := hm.hobj ⟨_,mo,_,ces,ins,k,hm.get,rfl,hm.map,q⟩
    exact .inl ⟨⟨k,q⟩,hget ho q3.lt (fun e => q' (.inl e)) fun e => q' (.inr (.inl e))⟩⟩
  have hnew : HeldAt g6 o g2.next lv1 w l := by
   refine ⟨(hP g2.next (by omega) (by omega)).trans (get_new ..),by omega,fun q => by have := hml _ ((hmut _).1 q); omega,⟨Sl.stayN o1.sl (by omega) fun hne x hx hlt => hP2 x hlt (by have := o1.obj hne hx; omega) (by have := o1.obj hne hx; omega),fun hne x hx q => ?_⟩,⟨Sl.stayN s1 (by omega) fun hne x hx hlt => (hP2 x (by omega) (by have := s2 hne x hx; omega) (by have := s2 hne x hx; omega)).trans (x2.get x hlt),fun hne x hx q => ?_⟩⟩
   ·have := o1.obj (by simpa using hne) hx
    have := hml _ ((hmut _).1 q)
    omega
   ·have := s2 (by simpa using hne) x hx
    have := hml _ ((hmut _).1 q)
    omega
  refine ⟨⟨vs,mo,_,_,vv,tv,⟨goo,hm.bo,by omega,hm.bm,by omega,hom,hmo,hm.val.frame (by omega) fun x hx => hget x (hm.val.lt hx).2 (hm.voff x hx).1 (hm.voff x hx).2,hm.trl.frame (by omega) fun x hx => hget x (hm.trl.lt hx).2 (hm.toff x hx).1 (hm.toff x hx).2,hm.voff,hm.toff,hm.two,fun k => ?_,addKey_rise hm.keys⟩,hg⟩,chg⟩
  rw [find_append,hasKey_addKey]
  by_cases hk : k = id
  ·subst hk
   rw [hnf]
   exact .inr ⟨l,g2.next,lv1,w,by simp,by simp,hnew⟩
  ·rw [if_neg hk]
   rcases hm.held k with ⟨q1,q2⟩ | ⟨l',ho,lv',sv',q1,q2,q3⟩
   ·rw [q1]
    exact .inl ⟨if_neg (fun e => hk e.symm),q2⟩
   ·rw [q1]
    exact .inr ⟨l',ho,lv',sv',rfl,q2,q3.chg chg⟩
open Go.Xr Go.Chk
theorem follows_of {es : List (Int × List Int)} {l hints ys : List Int} (hb : both l = false) (he : Eqs ys (l.map fun x => -x)) : follows es l hints = match (thr es ys (hints.take (headN hints))).2 with
  | 0 => grpOf es l (thr es ys (hints.take (headN hints))).1 (hints.drop (headN hints))
  | 1 => 0
  | _ => 60 := by
 unfold follows
 rw [hb,if_neg (by simp), <- (thr_alike es _ he).1]
 cases (thr es ys (hints.take (headN hints))).2 with
 | zero =>
  cases l with
  | nil => rfl
  | cons p r =>
   simp only [grpOf]
   exact (groups_alike es p (thr_alike es (hints.take (headN hints)) he).2 _ _ _ _ (Nat.le_refl _)).symm
 | succ n => cases n <;> rfl
set_option maxHeartbeats 16000000 in
theorem follows_ok {b : Nat} {h0 h : Heap} {o : Nat} {es : List (Int × List Int)} {last : Int} {ov : Bool} {l hints : List Int} {lv hv : V} (hc : ChkP b h o es last ov []) (hr : Rise es last) (hf : ∀ e ∈ es,Fine e.2 /\ e.2.length <= 1000000) (x0 : Ext h0 h) (hb : h0.next <= b) (hlv : SlO .i32 h o lv l) (hfl : Fine l) (hh : Sw h0 hv (hints.map (.int .i64))) (hz : HFine hints) (hll : l.length <= 100000) (hhl : hints.length <= 100000) :
  EvCall xprog H0 26 [.ptr o 0 0,lv,hv] h fun v h' => v = .int .i64 (follows es l hints) /\ ChkP b h' o es last ov [] /\ Chg o h h' := by
 refine s_call (fn := xf26) rfl (free _ rfl ..) ?_
 have hlt := hc.lt.1
 have h3 := Cell.new hc (.ptr o 0 0)
 have e3 := Ext.new h [.ptr o 0 0] 1 false
 have c3 : Chg o h _ := Chg.ext e3 hlt
 have k3 := hc.ext e3
 have hlv3 := hlv.chg c3
 generalize hb3 : h.next = b3 at *
 generalize hH : nCs h [.ptr o 0 0] 1 false = H at *
 have hn := Normal2_ok hlv3.1 hfl.ok (by omega)
 rw [bothN_nrm fun x hx => (hfl x hx).1] at hn
 have hlt3 := k3.lt.1
 simp -implicitDefEqProofs only [xf26,argsFrom_cons,argsFrom_nil]
 refine s_cut3 (fun t d g => sO t 1 = lv /\ sO t 2 = hv /\ sO t 3 = .ptr b3 0 0 /\ d = [] /\ Ext H g /\ both l = false /\ ∃ w,sO t 7 = w /\ Sl g w ((nrm l).map (.int .i32)) /\ ((nrm l).map (V.int .i32) ≠ [] -> ∀ x,rOb w = some x -> H.next <= x)) ?_ ?_
 ·repeat' ((first | refine Z0 rfl ?_ | refine Z1 rfl ?_ | refine Z2 ?_ | refine Z3 ?_ | refine Z4 ?_ | refine Z5 ?_ | refine Z6 ?_ | refine Z7 ?_ | refine Z8 ?_ | refine Z9 (fun hif => ?_) (fun hif => ?_) | refine Za (fun hif => ?_) (fun hif => ?_) | refine Zb (fun hif => ?_) (fun hif => ?_) | (refine Zc ?_ ?_; omega) | (refine Zd ?_ ?_; omega) | (refine Ze ?_ ?_; omega) | ((refine eAc hn ?_; rintro _ g ⟨⟨w,rfl,s1,s2⟩,x1⟩))) <;>
   (try simp -implicitDefEqProofs (disch := first | assumption | omega) only [sx,sb,sd,se,xwS,xwO,xwI,oEv,xres,o1f,Nat.reduceAdd,Nat.reduceEqDiff,Nat.reduceSub, ↓reduceIte,reduceCtorEq,sg, *]))
  ·refine ⟨?_,k3.ext x1,c3.trans (Chg.ext x1 hlt3)⟩
   unfold follows
   rw [if_pos (by assumption)]
  ·exact s2
 rintro t d g ⟨a1,a2,a3,rfl,xg,hbo,w,a4,s1,s2⟩
 have cg := Chg.ext xg hlt3
 have kc := k3.ext xg
 have kcell := h3.chg cg
 have klv := hlv3.chg cg
 have x0g : Ext h0 g := (x0.trans e3).trans xg
 have kw : SlO .i32 g o w (nrm l) := ⟨s1,fun hne x hx q => by
  have h1 := s2 (by simpa using hne) x hx
  have h2 := k3.lt.2 x ((Mut.ext xg hlt3).1 q)
  omega⟩
 have kG := c3.trans cg
 clear hn hH h3 e3 c3 k3 hlv3 s1 s2 xg cg x0
 have fin : ∀ {t : Tr V} {g' : Heap} {tr' : List Int} {r : Int},sO t 6 = .int .i64 r -> ChkP b g' o es last ov tr' -> Chg o g g' -> r = follows es l hints -> tr'.length <= 100000000 -> xfin xprog H0 [.tmp 6] (fun v h' => v = .int .i64 (follows es l hints) /\ ChkP b h' o es last ov [] /\ Chg o h h') .ret t [.call 37 [.ptr b3 0 0]] g' := by
  rintro t g' tr' r e1 e2 e3 e4 e5
  refine xfin_defer (EvDCall.mono (fback_ok e2 (kcell.chg e3) e5) ?_)
  rintro h' ⟨q1,q2⟩
  simp only [xres,e1,o1f]
  exact ⟨by rw [e4],q1,kG.trans (e3.trans q2)⟩
 have sl := kw.1.len
 have sr := kw.1.row
 simp only [List.length_map] at sl
 have hnl := lenNrm l
 repeat' ((first | refine Z0 rfl ?_ | refine Z1 rfl ?_ | refine Z2 ?_ | refine Z3 ?_ | refine Z4 ?_ | refine Z5 ?_ | refine Z6 ?_ | refine Z7 ?_ | refine Z8 ?_ | refine Z9 (fun hif => ?_) (fun hif => ?_) | refine Za (fun hif => ?_) (fun hif => ?_) | refine Zb (fun hif => ?_) (fun hif => ?_) | (refine Zc ?_ ?_; omega) | (refine Zd ?_ ?_; omega) | (refine Ze ?_ ?_; omega)) <;>
  (try simp -implicitDefEqProofs (disch := first | assumption | omega) only [sx,sb,sd,se,xwS,xwO,xwI,oEv,xres,o1f,Nat.reduceAdd,Nat.reduceEqDiff,Nat.reduceSub, ↓reduceIte,reduceCtorEq, *]))
 refine s_while (fun n t d g' => ∃ (i : Nat),i + n = (nrm l).length /\ sO t 22 = .int .i64 i /\ sO t 21 = .int .i64 (nrm l).length /\ sO t 20 = w /\ sO t 1 = lv /\ sO t 2 = hv /\ sO t 3 = .ptr b3 0 0 /\ d = [.call 37 [.ptr b3 0 0]] /\ ChkP b g' o es last ov (((nrm l).take i).map fun x => -x) /\ Chg o g g') (fun _ _ _ => frC ..) (nrm l).length ⟨0,by omega,by simp [sSe],by simp [sSe],by simp [sSe],by simp [sSe,a1],by simp [sSe,a2],by simp [sSe,a3],rfl,by simpa using kc,Chg.refl _ _⟩ ?_
 clear a1 a2 a3 a4 t
 rintro n t d g' ⟨i,b1,b2,b3',b4,a1,a2,a3,rfl,kt,ct⟩
 have rb := rCl (off := 0) (kcell.chg ct).get rfl
 refine s_cut2 (fun t d g1 => sO t 22 = .int .i64 i /\ sO t 21 = .int .i64 (nrm l).length /\ sO t 20 = w /\ sO t 1 = lv /\ sO t 2 = hv /\ sO t 3 = .ptr b3 0 0 /\ d = [.call 37 [.ptr b3 0 0]] /\ g1 = g' /\ i < (nrm l).length) ?_ ?_
 ·have hE : Kept (i = (nrm l).length -> follows es l hints = match (thr es (((nrm l).take i).map fun x => -x) (hints.take (headN hints))).2 with
    | 0 => grpOf es l (thr es (((nrm l).take i).map fun x => -x) (hints.take (headN hints))).1 (hints.drop (headN hints))
    | 1 => 0
    | _ => 60) := fun hie => by
   subst hie
   rw [List.take_length]
   exact follows_of hbo fun z => by simp only [List.mem_map,nrm_alike l _]
  have x0t := ext_chg kc x0g hb ct
  have hhd := headX_ok hh x0t (by omega) fun x hx => (hz x hx).1
  have hth : ∀ {av : V},Sw h0 av ((hints.take (headN hints)).map (.int .i64)) -> EvCall xprog H0 41 [.ptr o 0 0,av] g' fun v h' => v = .int .i64 ((thr es (((nrm l).take i).map fun x => -x) (hints.take (headN hints))).2 : Nat) /\ ChkP b h' o es last ov (thr es (((nrm l).take i).map fun x => -x) (hints.take (headN hints))).1 /\ Chg o g' h' := fun q => through_ok kt hf (slo_of kt x0t hb q.sl) (by simp; omega)
  have hle := thr_le es (hints.take (headN hints)) (((nrm l).take i).map fun x => -x)
  have hlen := thr_len es (hints.take (headN hints)) (((nrm l).take i).map fun x => -x)
  simp only [List.length_map,List.length_take] at hlen
  generalize thr es (((nrm l).take i).map fun x => -x) (hints.take (headN hints)) = r at *
  have hgr : ∀ {g2 : Heap} {bv : V},ChkP b g2 o es last ov r.1 -> Ext h0 g2 -> Sw h0 bv ((hints.drop (headN hints)).map (.int .i64)) -> 0 < l.length -> EvCall xprog H0 42 [.ptr o 0 0,.int .i32 (l.getD 0 0),bv] g2 fun v h' => v = .int .i64 (grpOf es l r.1 (hints.drop (headN hints))) /\ ChkP b h' o es last ov r.1 /\ Chg o g2 h' := fun q1 q2 q3 q4 => by
   cases l with
   | nil => simp at q4
   | cons p rest =>
    have hp := hfl p List.mem_cons_self
    exact groups_ok q1 hr hf q2 hb q3 (fun z hm => hz z (List.mem_of_mem_drop hm)) (HFine.drop hz) hp.2 (by simp; omega)
  have hl1 := klv.1.len
  have hl2 := klv.1.row
  simp only [List.length_map] at hl1
  have rl : ∀ {g2 : Heap},Chg o g g2 -> 0 < l.length -> rCs g2 (objS lv) (genS lv) (offS lv) 1 = some [.int .i32 (l.getD 0 0)] := fun c q => by
   have := (klv.chg c).1.at (i := 0) (x := .int .i32 (l.getD 0 0)) (by cases l with | nil => simp at q | cons a r => rfl)
   rwa [Nat.add_zero] at this
  repeat' ((first | refine Z0 rfl ?_ | refine Z1 rfl ?_ | refine Z2 ?_ | refine Z3 ?_ | refine Z4 ?_ | refine Z5 ?_ | refine Z6 ?_ | refine Z7 ?_ | refine Z8 ?_ | refine Z9 (fun hif => ?_) (fun hif => ?_) | refine Za (fun hif => ?_) (fun hif => ?_) | refine Zb (fun hif => ?_) (fun hif => ?_) | (refine Zc ?_ ?_; omega) | (refine Zd ?_ ?_; omega) | (refine Ze ?_ ?_; omega) | ((refine eAc hhd ?_; rintro _ g' ⟨⟨av,bv,rfl,q2,q3⟩,rfl⟩)) | ((refine eAc (hth q2) ?_; rintro _ g2 ⟨rfl,m1,m2⟩; have rb2 := rCl (off := 0) (kcell.chg (ct.trans m2)).get rfl; have x02 := ext_chg kt x0t hb m2; have ct2 := ct.trans m2; have rl2 := rl ct2)) | ((refine eAc (hgr m1 x02 q3 (by omega)) ?_; rintro _ g3 ⟨rfl,m3,m4⟩))) <;>
   (try simp -implicitDefEqProofs (disch := first | assumption | omega) only [sx,sb,sd,se,xwS,xwO,xwI,oEv,xres,o1f,Nat.reduceAdd,Nat.reduceEqDiff,Nat.reduceSub, ↓reduceIte,reduceCtorEq,sg,Int.toNat_zero,Nat.add_zero, *]))
  ·omega
  all_goals have hE := hE (by omega)
  ·exact fin (tr' := r.1) (r := 0) (by simp [sSe]) m1 ct2 (by rw [hE,show r.2 = 1 by omega]; rfl) (by omega)
  ·exact fin (tr' := r.1) (r := 60) (by simp [sSe]) m1 ct2 (by rw [hE,show r.2 = 2 by omega]; rfl) (by omega)
  ·refine fin (tr' := r.1) (r := 61) (by simp [sSe]) m1 ct2 ?_ (by omega)
   rw [hE,show r.2 = 0 by omega]
   have : l = [] := List.eq_nil_of_length_eq_zero (by omega)
   subst this
   rfl
  ·exact fin (tr' := r.1) (r := grpOf es l r.1 (hints.drop (headN hints))) (by simp [sSe]) m3 (ct2.trans m4) (by rw [hE,show r.2 = 0 by omega]; rfl) (by omega)
 clear b2 b3' b4 a1 a2 a3 t
 rintro t d g' ⟨b2,b3',b4,a1,a2,a3,rfl,rfl,hi⟩
 have rx : rCs g' (objS w) (genS w) (offS w + i) 1 = some [.int .i32 ((nrm l)[i])] := (kw.chg ct).1.at (by simp [hi])
 have et := take_at hi
 have hxl : (nrm l)[i] ∈ l := nrm_mem (List.getElem_mem hi)
 have hfx := hfl _ hxl
 have wn := wneg hfx.2.1 hfx.2.2
 have hset : EvCall xprog H0 39 [.ptr o 0 0,.int .i32 (-(nrm l)[i])] g' fun v h' => ChkP b h' o es last ov (((nrm l).take i).map (fun x => -x) ++ [-(nrm l)[i]]) /\ Chg o g' h' := by
  refine set_ok kt (by omega) (by omega) (fun q => ?_) (fun q => ?_) (by simp; omega)
  ·obtain ⟨y,hy,e⟩ := List.mem_map.1 q
   have hyx : y = (nrm l)[i] := by omega
   obtain ⟨j,hj,e2⟩ := List.getElem_of_mem hy
   rw [List.length_take] at hj
   rw [List.getElem_take,hyx] at e2
   have := (List.getElem_inj (nrm_nodup l)).1 e2
   omega
  ·obtain ⟨y,hy,e⟩ := List.mem_map.1 q
   have hyl : y ∈ l := nrm_mem (List.mem_of_mem_take hy)
   have : both l = true := List.any_eq_true.2 ⟨y,hyl,decide_eq_true (by rw [show -y = (nrm l)[i] by omega]; exact hxl)⟩
   rw [hbo] at this
   cases this
 rw [show ((nrm l).take i).map (fun x => -x) ++ [-(nrm l)[i]] = ((nrm l).take (i + 1)).map fun x => -x by rw [et,List.map_append]; rfl] at hset
 generalize (nrm l)[i] = x at *
 repeat' ((first | refine Z0 rfl ?_ | refine Z1 rfl ?_ | refine Z2 ?_ | refine Z3 ?_ | refine Z4 ?_ | refine Z5 ?_ | refine Z6 ?_ | refine Z7 ?_ | refine Z8 ?_ | refine Z9 (fun hif => ?_) (fun hif => ?_) | refine Za (fun hif => ?_) (fun hif => ?_) | refine Zb (fun hif => ?_) (fun hif => ?_) | (refine Zc ?_ ?_; omega) | (refine Zd ?_ ?_; omega) | (refine Ze ?_ ?_; omega) | ((refine eAc hset ?_; rintro _ g2 ⟨m1,m2⟩))) <;>
  (try simp -implicitDefEqProofs (disch := first | assumption | omega) only [sx,sb,sd,se,xwS,xwO,xwI,oEv,xres,o1f,Nat.reduceAdd,Nat.reduceEqDiff,Nat.reduceSub, ↓reduceIte,reduceCtorEq,wrap_i64,Nat.zero_add,Int.toNat_natCast, *]))
 exact ⟨n - 1,by omega,i + 1,by omega,by simp,m1,ct.trans m2⟩
open Go.Xr Go.Chk
def mD : MapLoop := ⟨.slot 32,33,34,2,3,r25_11,.seq (.region true r25_12) (.region false r25_13)⟩
theorem dropKey_filter : ∀ {es : List (Int × V)} (k : Int),(es.map Prod.fst).Pairwise (· < ·) -> dropKey k es = es.filter fun p => decide (p.1 ≠ k)
 | [],k,_ => rfl
 | (a,x) :: r,k,h => by
  rw [List.map_cons,List.pairwise_cons] at h
  unfold dropKey
  by_cases e : a = k
  ·subst e
   rw [decide_eq_true rfl,List.filter_cons,if_neg (by simp)]
   simp only
   rw [eq_comm,List.filter_eq_self]
   intro p hp
   have := h.1 p.1 (List.mem_map.2 ⟨p,hp,rfl⟩)
   simp only at this
   exact decide_eq_true (by omega)
  ·rw [decide_eq_false e,List.filter_cons,if_pos (decide_eq_true e)]
   simp only
   rw [dropKey_filter k h.2]
theorem hasKey_filter {q : Int -> Bool} : ∀ {es : List (Int × V)} {k : Int},hasKey k (es.filter fun p => q p.1) = if q k = true then hasKey k es else none
 | [],k => by simp [hasKey]
 | (a,x) :: r,k => by
  rw [List.filter_cons]
  by_cases ha : q a = true
  ·rw [if_pos ha]
   unfold hasKey
   by_cases e : a = k
   ·subst e
    rw [decide_eq_true rfl,if_pos ha]
   ·rw [decide_eq_false e]
    exact hasKey_filter
  ·rw [if_neg ha,hasKey_filter]
   conv => rhs; unfold hasKey
   by_cases e : a = k
   ·subst e
    rw [if_neg ha,if_neg ha]
   ·rw [decide_eq_false e]
theorem filter_rise {es : List (Int × V)} (h : (es.map Prod.fst).Pairwise (· < ·)) (q : Int × V -> Bool) : ((es.filter q).map Prod.fst).Pairwise (· < ·) := h.sublist (List.Sublist.map _ List.filter_sublist)
theorem perm_keys {l l' : List Int} (h1 : l.Nodup) (h2 : l'.Nodup) (h : ∀ x,x ∈ l ↔ x ∈ l') : l.Perm l' := (List.perm_ext_iff_of_nodup h1 h2).2 h
theorem sum_perm {f : Int -> Nat} {l l' : List Int} (h : l.Perm l') : (l.map f).sum = (l'.map f).sum := (h.map f).sum_nat
def lenOf (es : List (Int × List Int)) (k : Int) : Nat := match find es k with
 | some l => l.length
 | none => 0
theorem find_idx : ∀ {es : List (Int × List Int)} {id : Int} {l : List Int},find es id = some l -> ∃ p : Nat,es[p]? = some (id,l)
 | es,id,l,h => by
  obtain ⟨p,hp,e⟩ := List.getElem_of_mem (find_some h)
  exact ⟨p,by rw [List.getElem?_eq_getElem hp,e]⟩
theorem total_drop {es : List (Int × List Int)} (hr : (es.map Prod.fst).Pairwise (· < ·)) : ∀ (ids : List Int),ids.Nodup -> (∀ id ∈ ids,find es id ≠ none) -> Chk.total es = Chk.total (es.filter fun e => decide (e.1 ∉ ids)) + (ids.map (lenOf es)).sum
 | [],_,_ => by
  rw [show es.filter (fun e => decide (e.1 ∉ ([] : List Int))) = es by rw [List.filter_eq_self]; intro x _; simp]
  simp
 | id :: r,hn,hf => by
  rw [List.nodup_cons] at hn
  have ih := total_drop hr r hn.2 fun x hx => hf x (List.mem_cons_of_mem _ hx)
  have e1 : es.filter (fun e => decide (e.1 ∉ id :: r)) = (es.filter fun e => decide (e.1 ∉ r)).filter fun e => decide (e.1 ≠ id) := by
   rw [List.filter_filter]
   congr 1
   funext e
   rw [Bool.eq_iff_iff,Bool.and_eq_true,decide_eq_true_eq,decide_eq_true_eq,decide_eq_true_eq,List.mem_cons,not_or]
  have hf1 := find_filter (es := es) (id := id) (fun k => decide (k ∉ r))
  rw [if_pos (decide_eq_true hn.1)] at hf1
  cases hfi : find es id with
  | none => exact absurd hfi (hf id List.mem_cons_self)
  | some l =>
   rw [hfi] at hf1
   obtain ⟨p,hp⟩ := find_idx hf1
   have hr1 : ((es.filter fun e => decide (e.1 ∉ r)).map Prod.fst).Pairwise (· < ·) := hr.sublist (List.Sublist.map _ List.filter_sublist)
   have e2 := filt_erase hr1 hp
   have e3 := total_split hp
   rw [<- e2, <- e1] at e3
   rw [List.map_cons,List.sum_cons,show lenOf es id = l.length by unfold lenOf; rw [hfi]]
   omega
open Go.Xr Go.Chk
theorem inD {i : Nat} (h : i ∈ slotsD) : i = 8 \/ (33 <= i /\ i <= 58) := by
 simp only [slotsD,List.mem_cons,List.not_mem_nil,or_false] at h
 omega
theorem notD {i : Nat} (h : i ∉ slotsD) : i ≠ 8 /\ (i < 33 \/ 58 < i) := by
 simp only [slotsD,List.mem_cons,List.not_mem_nil,or_false,not_or] at h
 omega
set_option maxHeartbeats 8000000 in
theorem drange {b : Nat} {g0 : Heap} {o : Nat} {es : List (Int × List Int)} {last : Int} {ov : Bool} {vs tr : List Int} {mo : Nat} {ces : List (Int × V)} {ins : Nat} {vv tv : V} (hm : ChkM b g0 o es last ov vs tr mo ces ins vv tv) (hf : ∀ e ∈ es,e.2.length <= 1000000) (htot : Chk.total es <= 1000000000) {mm : Nat} {mes : List (Int × V)} {mins : Nat}
  (hmm : g0.get mm = some (.map .i64 mes mins)) (hml : mm < g0.next) (hmo : mm ≠ o /\ mm ≠ mo) (hks : (mes.map Prod.fst).Pairwise (· < ·)) (hkf : ∀ k ∈ mes.map Prod.fst,find es k ≠ none) (hlen : mes.length <= 1000000) {t : Tr V} {d : List XDef} (h32 : sO t 32 = .iter g0.next) (ht0 : sO t 0 = .ptr o 0 0) (hu : ∀ i ∈ slotsD,vFits (sO t i) .any = true)
  {hM : Heap} (hM1 : hM.get g0.next = some (.dead true)) (hM2 : hM.get o = some (arr [.map mo,.int .i64 last,.int .i64 ((Chk.total es : Nat) - (((mes.map Prod.fst).map (lenOf es)).sum : Nat) : Int),.bool ov,vv,tv] 1 false)) (hM3 : hM.get mo = some (.map .i64 (ces.filter fun p => !decide (p.1 ∈ mes.map Prod.fst)) ins)) (hM4 : ∀ x,x ≠ g0.next -> x ≠ o -> x ≠ mo -> hM.get x = (g0.push (.miter (some mm) mins [] none)).get x) (hM5 : hM.next = g0.next + 1) :
  ∃ n,AllTo xprog Hb mD none (.exit 2) (anyAll t slotsD) d hM n t d (g0.push (.miter (some mm) mins [] none)) := by
 have hoo := hm.ho
 have hmmo := hm.hm
 have hom := hm.om
 have hpg : ∀ x,x < g0.next -> (g0.push (.miter (some mm) mins [] none)).get x = g0.get x := fun x hx => (Ext.push _ _).get x hx
 refine ⟨mes.length + 1,allTo_of (ins := mins) (kd := .i64) (es := mes) (oi := g0.next) (mo := mm) (fun seen t' d' h => sO t' 32 = .iter g0.next /\ sO t' 0 = .ptr o 0 0 /\ (∃ cur,h.get g0.next = some (.miter (some mm) mins seen cur)) /\
   h.get o = some (arr [.map mo,.int .i64 last,.int .i64 ((Chk.total es : Nat) - ((seen.map (lenOf es)).sum : Nat) : Int),.bool ov,vv,tv] 1 false) /\ h.get mo = some (.map .i64 (ces.filter fun p => !decide (p.1 ∈ seen)) ins) /\ Kept (∀ x,x ≠ g0.next -> x ≠ o -> x ≠ mo -> h.get x = (g0.push (.miter (some mm) mins [] none)).get x) /\ h.next = g0.next + 1 /\ d' = d /\ (∀ i,i ∉ slotsD -> sO t' i = sO t i) /\ (∀ i ∈ slotsD,vFits (sO t' i) .any = true) /\ seen.Nodup /\ (∀ k ∈ seen,k ∈ mes.map Prod.fst) /\ (seen.map (lenOf es)).sum + (Xr.leftOf seen mes).length * 1000000 <= mes.length * 1000000) ?_ ?_ ?_ _ [] t d _ (Nat.lt_succ_of_le (leftOf_le _)) ⟨h32,ht0,⟨none,by rw [Heap.get_push,if_pos rfl]⟩,?_,?_,fun _ _ _ _ => rfl,rfl,rfl,fun _ _ => rfl,hu,List.nodup_nil,(fun k hk => by cases hk),?_⟩⟩
 ·rintro seen t' d' h ⟨q1,q2,q3,q4,q5,q6,q7,q8⟩
  exact ⟨q1,q3,(q6 mm (by omega) hmo.1 hmo.2).trans ((hpg mm hml).trans hmm)⟩
 ·rintro seen t' d' h ⟨q1,q2,q3,q4,q5,q6,q7,q8,q9,q10,q11,q12,q13⟩ hall
  have hsk : ∀ k,k ∈ seen ↔ k ∈ mes.map Prod.fst := fun k => ⟨q12 k,fun hk => by
   obtain ⟨p,hp,rfl⟩ := List.mem_map.1 hk
   exact hall p hp⟩
  have hperm := perm_keys q11 (keysND hks) hsk
  refine ⟨rfl,tfits_any (fun i hi => ?_) fun i hi => ?_,q8,⟨by omega,fun x => ?_⟩⟩
  ·have := notD hi
   simp only [mD,sSe]
   rw [if_neg (by omega),if_neg (by omega)]
   exact q9 i hi
  ·simp only [mD,sSe]
   split
   ·rfl
   ·split
    ·rfl
    ·exact q10 i hi
  ·by_cases hx1 : x = g0.next
   ·subst hx1
    exact .inr (.inr ⟨hM1,by omega⟩)
   ·by_cases hx2 : x = o
    ·subst hx2
     rw [hM2,q4,sum_perm hperm]
     exact .inl rfl
    ·by_cases hx3 : x = mo
     ·subst hx3
      rw [hM3,q5]
      refine .inl ?_
      congr 3
      funext p
      simp only [hsk]
     ·rw [hM4 x hx1 hx2 hx3,q6 x hx1 hx2 hx3]
      exact .inl rfl
 ·rintro seen t' d' h k v ⟨q1,q2,q3,q4,q5,q6,q7,q8,q9,q10,q11,q12,q13⟩ hk hns
  have hkm : k ∈ mes.map Prod.fst := List.mem_map.2 ⟨_,hk,rfl⟩
  obtain ⟨l,ho,lv,sv,f1,f2,hh⟩ : ∃ l ho lv sv,find es k = some l /\ hasKey k ces = some (.ptr ho 0 0) /\ HeldAt g0 o ho lv sv l := (hm.held k).elim (fun q => absurd q.1 (hkf k hkm)) fun q => q
  have hoff := hh.off
  rw [mut_iff hm.get] at hoff
  have hholt := hh.lt
  have hlt2 := leftOf_lt (leftOf_mem.2 ⟨hk,hns⟩)
  have hfl : l.length <= 1000000 := hf _ (find_some f1)
  have hlo : lenOf es k = l.length := by unfold lenOf; rw [f1]
  have hH2 : (h.put g0.next (.miter (some mm) mins (k :: seen) (some k))).get g0.next = some (.miter (some mm) mins (k :: seen) (some k)) := by rw [Heap.get_put,if_pos rfl]
  have hH1 : ∀ x,x ≠ g0.next -> (h.put g0.next (.miter (some mm) mins (k :: seen) (some k))).get x = h.get x := fun x hx => by rw [Heap.get_put,if_neg hx]
  have hH3 : (h.put g0.next (.miter (some mm) mins (k :: seen) (some k))).next = g0.next + 1 := q7
  generalize h.put g0.next (.miter (some mm) mins (k :: seen) (some k)) = H at *
  have go := (hH1 o (by omega)).trans q4
  have gm := (hH1 mo (by omega)).trans q5
  have gmm := (hH1 mm (by omega)).trans ((q6 mm (by omega) hmo.1 hmo.2).trans ((hpg mm hml).trans hmm))
  have gho := (hH1 ho (by omega)).trans ((q6 ho (by omega) (fun e => hoff (.inl e)) (fun e => hoff (.inr (.inl e)))).trans ((hpg ho hholt).trans hh.get))
  have r0 := rCl (off := 0) go rfl
  have r2 := rCl (off := 2) go rfl
  have rl := rCl (off := 0) gho rfl
  have ll := hh.lits.1.len
  have lr := hh.lits.1.row
  simp only [List.length_map] at ll
  have hkk : hasKey k (ces.filter fun p => !decide (p.1 ∈ seen)) = some (.ptr ho 0 0) := by
   rw [hasKey_filter (q := fun x => !decide (x ∈ seen)),if_pos (by simp [hns]),f2]
  have hmk := mem_hasKey (keysND hks) hk
  have hdk : dropKey k (ces.filter fun p => !decide (p.1 ∈ seen)) = ces.filter fun p => !decide (p.1 ∈ k :: seen) := by
   rw [dropKey_filter k (filter_rise hm.keys _),List.filter_filter]
   congr 1
   funext p
   rw [Bool.eq_iff_iff]
   simp [not_or]
  have hI6 : Kept (∀ x,x ≠ g0.next -> x ≠ o -> x ≠ mo -> H.get x = (g0.push (.miter (some mm) mins [] none)).get x) := fun x h1 h2 h3 => (hH1 x h1).trans (q6 x h1 h2 h3)
  have hsum : ((k :: seen).map (lenOf es)).sum = (seen.map (lenOf es)).sum + l.length := by rw [List.map_cons,List.sum_cons,hlo]; omega
  generalize (seen.map (lenOf es)).sum = s at *
  clear hH1 q3 q4 q5 q6 q7 hh hM1 hM2 hM3 hM4 hM5 hkf hpg hu hoff
  unfold MapLoop.rest
  simp only [mD]
  repeat' ((first | refine Z0 rfl ?_ | refine Z1 rfl ?_ | refine Z2 ?_ | refine Z3 ?_ | refine Z4 ?_ | refine Z5 ?_ | refine Z6 ?_ | refine Z7 ?_ | refine Z8 ?_ | refine Z9 (fun hif => ?_) (fun hif => ?_) | refine Za (fun hif => ?_) (fun hif => ?_) | refine Zb (fun hif => ?_) (fun hif => ?_) | (refine Zc ?_ ?_; omega) | (refine Zd ?_ ?_; omega) | (refine Ze ?_ ?_; omega) | refine Zf rfl ?_ | (refine And.intro (a := stays _ _ _ = true) ?_ ?_; focus (simp -implicitDefEqProofs (disch := first | assumption | omega) only [sx,sb,sd,se,xwS,xwO,xwI,oEv,xres,o1f,Nat.reduceAdd,Nat.reduceEqDiff,Nat.reduceSub, ↓reduceIte,reduceCtorEq,stays,wantedV,V.same_refl,Bool.and_self,Bool.and_true,beq_self_eq_true,Bool.true_beq,Bool.false_beq,si,sg,wrap_i64,kindEq,tellV,Nat.beq_refl, *]; done)) | ((refine st_step go (by simp) rfl ?_; intro H2 go2 n2 f2'; have gm2 := (f2' mo hom).trans gm; have r02 := rCl (off := 0) go2 rfl))) <;>
   (try simp -implicitDefEqProofs (disch := first | assumption | omega) only [sx,sb,sd,se,xwS,xwO,xwI,oEv,xres,o1f,Nat.reduceAdd,Nat.reduceEqDiff,Nat.reduceSub, ↓reduceIte,reduceCtorEq,si,sg,wrap_i64,kindEq,tellV,Nat.beq_refl, *]))
  refine ⟨by simp [sSe,q1],by simp [sSe,q2],⟨some k,?_⟩,?_,?_,fun x h1 h2 h3 => ?_,?_,by first | exact q8 | trivial,fun i hi => ?_,fun i hi => ?_,?_,?_,?_⟩
  ·rw [Heap.get_put,if_neg (by omega),f2' _ (by omega)]
   exact hH2
  ·rw [Heap.get_put,if_neg (fun e => hom e.symm),go2,show ((Chk.total es : Nat) : Int) - ((s + l.length : Nat) : Int) = (Chk.total es : Nat) - (s : Nat) - (l.length : Nat) by omega]
   simp [List.set]
  ·rw [Heap.get_put,if_pos rfl]
  ·rw [Heap.get_put,if_neg h3,f2' x h2]
   exact hI6 x h1 h2 h3
  ·exact n2.trans hH3
  ·have := notD hi
   simp only [sSe]
   repeat rw [if_neg (by omega)]
   exact q9 i hi
  ·revert hi
   revert i
   simp [slotsD,sSe,vFits,V.undef]
   all_goals (cases lv <;> first | rfl | cases lr)
  ·rw [List.nodup_cons]
   exact ⟨hns,q11⟩
  ·intro x hx
   rcases List.mem_cons.1 hx with rfl | hx
   ·exact hkm
   ·exact q12 x hx
  ·omega
 ·rw [hpg o hoo]
  simpa using hm.get
 ·rw [hpg mo hmmo,hm.map]
  congr 2
  rw [eq_comm,List.filter_eq_self]
  intro x _
  simp
 ·have := leftOf_le (seen := []) mes
  simp
  omega
open Go.Xr Go.Chk
theorem w06_d {t : Tr V} {d : List XDef} {h hM : Heap} {oi mm mins : Nat} {v : V} (h32 : sO t 32 = .iter oi) {s c} (hg : h.get oi = some (.miter (some mm) mins s c)) (h0 : sO t 0 = v) (hd : dropOut h oi mm v = hM) : W06 mD none t d h = [(.exit 2,anyAll t slotsD,d,hM)] := by
 unfold W06
 have : rd t mD.it = .iter oi := h32
 rw [this]
 show (match h.get oi with | some (.miter (some mo) _ _ _) => [(XExit.exit 2,anyAll t slotsD,d,dropOut h oi mo (sO t 0))] | _ => []) = _
 rw [hg,h0, <- hd]
theorem addKey_len {n : Int} {v : V} : ∀ (es : List (Int × V)),(addKey n v es).length <= es.length + 1
 | [] => Nat.le_refl _
 | (a,x) :: r => by
  have ih := addKey_len (n := n) (v := v) r
  unfold addKey
  cases decide (n < a)
  ·cases decide (a < n)
   ·simp
   ·simp; omega
  ·simp
theorem dropOut_eq {G : Heap} {o mm mo oi : Nat} {mes ces : List (Int × V)} {mins ins : Nat} {last T : Int} {ov : Bool} {vv tv : V} (h1 : G.get mm = some (.map .i64 mes mins)) (h2 : G.get o = some (arr [.map mo,.int .i64 last,.int .i64 T,.bool ov,vv,tv] 1 false)) (h3 : G.get mo = some (.map .i64 ces ins)) :
  dropOut G oi mm (.ptr o 0 0) = ((G.put o (arr [.map mo,.int .i64 last,.int .i64 (T - ((mes.map fun p => lenAt G ces p.1).sum : Nat)),.bool ov,vv,tv] 1 false)).put mo (.map .i64 (ces.filter fun p => (hasKey p.1 mes).isNone) ins)).put oi (.dead true) := by
 unfold dropOut
 simp only [h1,h2,arr,List.getD_cons_zero,List.getD_cons_succ,h3]
 rfl
set_option maxHeartbeats 16000000 in
theorem drop_ok {b : Nat} {h0 h : Heap} {o : Nat} {es : List (Int × List Int)} {last : Int} {ov : Bool} {ids : List Int} {hv : V} (hc : ChkP b h o es last ov []) (hr : Rise es last) (hf : ∀ e ∈ es,e.2.length <= 1000000) (htot : Chk.total es <= 1000000000) (x0 : Ext h0 h) (hb : h0.next <= b) (hh : Sl h0 hv (ids.map (.int .i64))) (hhl : ids.length <= 1000000) :
  EvCall xprog H0 25 [.ptr o 0 0,hv] h fun v h' => v = .int .i64 (if none5 es ids = true then 5 else 0) /\ ChkP b h' o (if none5 es ids = true then es else es.filter fun e => decide (e.1 ∉ ids)) last ov [] /\ Chg o h h' := by
 refine s_call (fn := xf25) rfl (free _ rfl ..) ?_
 have el := hh.len
 have er := hh.row
 simp only [List.length_map] at el
 have hlt := hc.lt.1
 have hmut := hc.lt.2
 have hbn : b <= h.next := by
  obtain ⟨vs,mo,ces,ins,vv,tv,hm,hg⟩ := hc
  have := hm.bo; have := hm.ho
  omega
 have hbad1 : ∀ (k : Nat) (hk : k < ids.length),find es ids[k] = none -> none5 es ids = true := fun k hk q => by
  unfold none5
  rw [Bool.or_eq_true,List.any_eq_true]
  exact .inl ⟨_,List.getElem_mem hk,by rw [q]; rfl⟩
 have hbad2 : ¬ ids.Nodup -> none5 es ids = true := fun q => by
  unfold none5
  rw [Bool.or_eq_true]
  exact .inr (by simp [q])
 have hgood : (∀ (k : Nat) (hk : k < ids.length),find es ids[k] ≠ none) -> ids.Nodup -> none5 es ids = false := fun q1 q2 => by
  unfold none5
  rw [Bool.or_eq_false_iff,List.any_eq_false]
  refine ⟨fun x hx => ?_,by simp [q2]⟩
  obtain ⟨k,hk,rfl⟩ := List.getElem_of_mem hx
  have := q1 k hk
  cases hfx : find es ids[k] with
  | none => exact absurd hfx this
  | some l => simp
 have e1 := Ext.push h (.map .i64 [] 0)
 have hmm : (h.push (.map .i64 [] 0)).get h.next = some (.map .i64 [] 0) := by rw [Heap.get_push,if_pos rfl]
 have hml : h.next < (h.push (.map .i64 [] 0)).next := Nat.lt_succ_self _
 have k1 := hc.ext e1
 have hoff : ¬ Mut (h.push (.map .i64 [] 0)) o h.next := fun q => by have := hmut _ ((Mut.ext e1 hlt).1 q); omega
 generalize hH : h.push (.map .i64 [] 0) = H at *
 simp -implicitDefEqProofs only [xf25,argsFrom_cons,argsFrom_nil]
 repeat' ((first | refine Z0 rfl ?_ | refine Z1 rfl ?_ | refine Z2 ?_ | refine Z3 ?_ | refine Z4 ?_ | refine Z5 ?_ | refine Z6 ?_ | refine Z7 ?_ | refine Z8 ?_ | refine Z9 (fun hif => ?_) (fun hif => ?_) | refine Za (fun hif => ?_) (fun hif => ?_) | refine Zb (fun hif => ?_) (fun hif => ?_) | (refine Zc ?_ ?_; omega) | (refine Zd ?_ ?_; omega) | (refine Ze ?_ ?_; omega)) <;>
  (try simp -implicitDefEqProofs (disch := first | assumption | omega) only [sx,sb,sd,se,xwS,xwO,xwI,oEv,xres,o1f,Nat.reduceAdd,Nat.reduceEqDiff,Nat.reduceSub, ↓reduceIte,reduceCtorEq, *]))
 refine s_while (fun n t d g => ∃ (i : Nat) (mes : List (Int × V)) (mins : Nat),i + n = ids.length /\ sO t 12 = .int .i64 i /\ sO t 11 = .int .i64 ids.length /\ sO t 10 = hv /\ sO t 0 = .ptr o 0 0 /\ sO t 5 = .map h.next /\ d = [] /\ Ext h g /\ ChkP b g o es last ov [] /\ g.get h.next = some (.map .i64 mes mins) /\ h.next < g.next /\ ¬ Mut g o h.next /\ (∀ k,hasKey k mes = if k ∈ ids.take i then some (.bool true) else none) /\ (mes.map Prod.fst).Pairwise (· < ·) /\ (∀ k ∈ mes.map Prod.fst,k ∈ ids.take i) /\ mes.length <= i /\ (∀ (k : Nat) (hk : k < ids.length),k < i -> find es ids[k] ≠ none) /\ (ids.take i).Nodup /\ (∀ i ∈ slotsD,vFits (sO t i) .any = true)) (fun _ _ _ => frC ..) ids.length ⟨0,[],0,by omega,by simp [sSe],by simp [sSe],by simp [sSe],by simp [sSe],by simp [sSe],rfl,e1,k1,hmm,hml,hoff,fun k => by simp [hasKey],.nil,by simp,Nat.le_refl _,fun k _ hk => by omega,by simp,by simp [slotsD,sSe,vFits,V.undef]⟩ ?_
 clear e1 hmm hml k1 hoff hH H
 rintro n t d g ⟨i,mes,mins,b1,a1,a2,a3,a4,a5,rfl,xg,k1,hmm,hml,hoff,hmk,hks,hki,hmle,hall,hnd,hsl⟩
 have rx : ∀ (hi : i < ids.length),rCs g (objS hv) (genS hv) (offS hv + i) 1 = some [.int .i64 (ids[i])] := fun hi => (hh.ext (x0.trans xg)).at (by simp [hi])
 have kk := k1
 obtain ⟨vs,mo,ces,ins,vv,tv,hm,hg⟩ := k1
 have r0 := rCl (off := 0) hm.get rfl
 have gm := hm.map
 by_cases hi : i < ids.length
 ·replace rx := rx hi
  have et := take_at hi
  have hidm := List.getElem_mem hi
  have hbi := hbad1 i hi
  rcases hm.held ids[i] with ⟨f1,f2⟩ | ⟨l,ho,lv,sv,f1,f2,hhd⟩
  ·have hb5 := hbi f1
   generalize ids[i] = id at *
   repeat' ((first | refine Z0 rfl ?_ | refine Z1 rfl ?_ | refine Z2 ?_ | refine Z3 ?_ | refine Z4 ?_ | refine Z5 ?_ | refine Z6 ?_ | refine Z7 ?_ | refine Z8 ?_ | refine Z9 (fun hif => ?_) (fun hif => ?_) | refine Za (fun hif => ?_) (fun hif => ?_) | refine Zb (fun hif => ?_) (fun hif => ?_) | (refine Zc ?_ ?_; omega) | (refine Zd ?_ ?_; omega) | (refine Ze ?_ ?_; omega)) <;>
    (try simp -implicitDefEqProofs (disch := first | assumption | omega) only [sx,sb,sd,se,xwS,xwO,xwI,oEv,xres,o1f,Nat.reduceAdd,Nat.reduceEqDiff,Nat.reduceSub, ↓reduceIte,reduceCtorEq,sg,Int.toNat_natCast,kindEq,tellV,binV,nilCmp,nilOf, *]))
   all_goals first
    | (exfalso; omega)
    | skip
   all_goals exact Chg.ext xg hlt
  ·by_cases hdup : ids[i] ∈ ids.take i
   ·have hb5 : none5 es ids = true := hbad2 fun q => by
     obtain ⟨j,hj,e⟩ := List.getElem_of_mem hdup
     rw [List.length_take] at hj
     rw [List.getElem_take] at e
     have := (List.getElem_inj q).1 e
     omega
    have hmki := hmk ids[i]
    rw [if_pos hdup] at hmki
    generalize ids[i] = id at *
    repeat' ((first | refine Z0 rfl ?_ | refine Z1 rfl ?_ | refine Z2 ?_ | refine Z3 ?_ | refine Z4 ?_ | refine Z5 ?_ | refine Z6 ?_ | refine Z7 ?_ | refine Z8 ?_ | refine Z9 (fun hif => ?_) (fun hif => ?_) | refine Za (fun hif => ?_) (fun hif => ?_) | refine Zb (fun hif => ?_) (fun hif => ?_) | (refine Zc ?_ ?_; omega) | (refine Zd ?_ ?_; omega) | (refine Ze ?_ ?_; omega)) <;>
     (try simp -implicitDefEqProofs (disch := first | assumption | omega) only [sx,sb,sd,se,xwS,xwO,xwI,oEv,xres,o1f,Nat.reduceAdd,Nat.reduceEqDiff,Nat.reduceSub, ↓reduceIte,reduceCtorEq,sg,Int.toNat_natCast,kindEq,tellV,binV,nilCmp,nilOf, *]))
    all_goals first
     | (exfalso; omega)
     | skip
    all_goals exact Chg.ext xg hlt
   ·have hmki := hmk ids[i]
    rw [if_neg hdup] at hmki
    have hnn : find es ids[i] ≠ none := by rw [f1]; simp
    obtain ⟨id,hid⟩ : ∃ id,id = ids[i] := ⟨_,rfl⟩
    rw [<- hid] at rx et hidm f1 f2 hdup hmki
    have hidk : Kept (id = ids[i]) := hid
    clear hid
    repeat' ((first | refine Z0 rfl ?_ | refine Z1 rfl ?_ | refine Z2 ?_ | refine Z3 ?_ | refine Z4 ?_ | refine Z5 ?_ | refine Z6 ?_ | refine Z7 ?_ | refine Z8 ?_ | refine Z9 (fun hif => ?_) (fun hif => ?_) | refine Za (fun hif => ?_) (fun hif => ?_) | refine Zb (fun hif => ?_) (fun hif => ?_) | (refine Zc ?_ ?_; omega) | (refine Zd ?_ ?_; omega) | (refine Ze ?_ ?_; omega)) <;>
     (try simp -implicitDefEqProofs (disch := first | assumption | omega) only [sx,sb,sd,se,xwS,xwO,xwI,oEv,xres,o1f,Nat.reduceAdd,Nat.reduceEqDiff,Nat.reduceSub, ↓reduceIte,reduceCtorEq,sg,wrap_i64,Int.toNat_natCast,kindEq,tellV,V.whole,binV,nilCmp,nilOf, *]))
    all_goals first
     | (exfalso; omega)
     | skip
    have hidk : id = ids[i] := hidk
    refine ⟨n - 1,by omega,i + 1,_,_,by omega,by simp [sSe],by simp [sSe,a2],by simp [sSe,a3],by simp [sSe,a4],by simp [sSe,a5],rfl,⟨xg.next,fun y hy => ?_⟩,chk_mapput kk hmm hoff hml _,by rw [Heap.get_put,if_pos rfl],hml,fun q => hoff ((mut_put (by omega)).1 q),fun k => ?_,addKey_rise hks,fun k hk => ?_,?_,fun k hk hlt => ?_,?_,fun j hj => ?_⟩
    ·rw [Heap.get_put,if_neg (by omega)]
     exact xg.get y hy
    ·rw [hasKey_addKey,et]
     by_cases hk : k = id
     ·rw [if_pos hk,if_pos (List.mem_append_right _ (by simp [hk]))]
     ·rw [if_neg hk,hmk k]
      by_cases hkm : k ∈ ids.take i
      ·rw [if_pos hkm,if_pos (List.mem_append_left _ hkm)]
      ·rw [if_neg hkm,if_neg (by rw [List.mem_append,List.mem_singleton]; exact fun q => q.elim hkm hk)]
    ·rw [et,List.mem_append,List.mem_singleton]
     rcases addKey_mem hk with q | q
     ·exact .inr q
     ·exact .inl (hki k q)
    ·have := addKey_len (n := id) (v := .bool true) mes
     omega
    ·rcases Nat.lt_succ_iff_lt_or_eq.1 hlt with q | rfl
     ·exact hall k hk q
     ·exact hnn
    ·rw [et,List.nodup_append]
     refine ⟨hnd,by simp,fun x hx y hy => ?_⟩
     rw [List.mem_singleton] at hy
     subst hy
     rintro rfl
     exact hdup hx
    ·have hj2 := inD hj
     have hsj := hsl j hj
     clear hsl
     simp only [sSe]
     repeat rw [if_neg (by omega)]
     exact hsj
 ·have hie : i = ids.length := by omega
  subst hie
  rw [List.take_length] at hnd
  simp only [List.take_length] at hmk hki
  have hnone := hgood (fun k hk => hall k hk hk) hnd
  rw [hnone]
  simp only [Bool.false_eq_true,if_false]
  have hkey : ∀ k,k ∈ mes.map Prod.fst ↔ k ∈ ids := fun k => ⟨hki k,fun q => by
   have := hmk k
   rw [if_pos q] at this
   exact List.mem_map.2 ⟨_,hasKey_mem this,rfl⟩⟩
  have hfound : ∀ id ∈ ids,find es id ≠ none := fun id q => by
   obtain ⟨j,hj,rfl⟩ := List.getElem_of_mem q
   exact hall j hj hj
  have hperm := perm_keys (keysND hks) hnd hkey
  have htd := total_drop hr.1 ids hnd hfound
  rw [<- sum_perm hperm] at htd
  clear rx hbad1 hbad2 hgood
  repeat' ((first | refine Z0 rfl ?_ | refine Z1 rfl ?_ | refine Z2 ?_ | refine Z3 ?_ | refine Z4 ?_ | refine Z5 ?_ | refine Z6 ?_ | refine Z7 ?_ | refine Z8 ?_ | refine Z9 (fun hif => ?_) (fun hif => ?_) | refine Za (fun hif => ?_) (fun hif => ?_) | refine Zb (fun hif => ?_) (fun hif => ?_) | (refine Zc ?_ ?_; omega) | (refine Zd ?_ ?_; omega) | (refine Ze ?_ ?_; omega)) <;>
   (try simp -implicitDefEqProofs (disch := first | assumption | omega) only [sx,sb,sd,se,xwS,xwO,xwI,oEv,xres,o1f,Nat.reduceAdd,Nat.reduceEqDiff,Nat.reduceSub, ↓reduceIte,reduceCtorEq,kindEq, *]))
  all_goals first
   | (exfalso; omega)
   | skip
  have hsl2 : ∀ (t' : Tr V),(∀ i,i ≠ 13 -> i ≠ 31 -> i ≠ 32 -> sO t' i = sO t i) -> ∀ i ∈ slotsD,vFits (sO t' i) .any = true := fun t' q i hi => by
   have := inD hi
   rw [q i (by omega) (by omega) (by omega)]
   exact hsl i hi
  have hmoo : h.next ≠ o /\ h.next ≠ mo := by
   rw [mut_iff hm.get] at hoff
   exact ⟨fun e => hoff (.inl e),fun e => hoff (.inr (.inl e))⟩
  have hpg : ∀ x,x < g.next -> (g.push (.miter (some h.next) mins [] none)).get x = g.get x := fun x hx => (Ext.push _ _).get x hx
  have hla : ∀ k ∈ mes.map Prod.fst,lenAt (g.push (.miter (some h.next) mins [] none)) ces k = lenOf es k := fun k hk => by
   rcases hm.held k with ⟨f1,_⟩ | ⟨l,ho,lv,sv,f1,f2,hh⟩
   ·exact absurd f1 (hfound k ((hkey k).1 hk))
   ·unfold lenAt lenOf
    rw [f1,f2]
    simp only [heldLen,Heap.cells?]
    rw [hpg ho hh.lt,hh.get]
    simp only [arr,List.getD_cons_zero]
    rw [hh.lits.1.len,List.length_map]
  have hdo := dropOut_eq (oi := g.next) ((hpg _ hml).trans hmm) ((hpg o hm.ho).trans hm.get) ((hpg mo hm.hm).trans hm.map)
  rw [show (mes.map fun p => lenAt (g.push (.miter (some h.next) mins [] none)) ces p.1) = (mes.map Prod.fst).map (lenOf es) by rw [List.map_map]; exact List.map_congr_left fun p hp => hla p.1 (List.mem_map.2 ⟨p,hp,rfl⟩)] at hdo
  have hces : (ces.filter fun p => (hasKey p.1 mes).isNone) = ces.filter fun p => !decide (p.1 ∈ mes.map Prod.fst) := by
   congr 1
   funext p
   rw [hmk p.1,Bool.eq_iff_iff]
   simp only [hkey]
   by_cases q : p.1 ∈ ids
   ·rw [if_pos q]; simp [q]
   ·rw [if_neg q]; simp [q]
  rw [hces] at hdo
  have hoo := hm.ho
  have hmmo := hm.hm
  have hom := hm.om
  have hoi : (g.push (.miter (some h.next) mins [] none)).get g.next = some (.miter (some h.next) mins [] none) := by rw [Heap.get_push,if_pos rfl]
  obtain ⟨HM,hHM⟩ : ∃ HM,HM = (((g.push (.miter (some h.next) mins [] none)).put o (arr [.map mo,.int .i64 last,.int .i64 ((Chk.total es : Nat) - (((mes.map Prod.fst).map (lenOf es)).sum : Nat) : Int),.bool ov,vv,tv] 1 false)).put mo (.map .i64 (ces.filter fun p => !decide (p.1 ∈ mes.map Prod.fst)) ins)).put g.next (.dead true) := ⟨_,rfl⟩
  rw [<- hHM] at hdo
  have hM1 : HM.get g.next = some (.dead true) := by rw [hHM,Heap.get_put,if_pos rfl]
  have hM2 : HM.get o = some (arr [.map mo,.int .i64 last,.int .i64 ((Chk.total es : Nat) - (((mes.map Prod.fst).map (lenOf es)).sum : Nat) : Int),.bool ov,vv,tv] 1 false) := by rw [hHM,Heap.get_put,if_neg (by omega),Heap.get_put,if_neg (fun e => hom e.symm),Heap.get_put,if_pos rfl]
  have hM3 : HM.get mo = some (.map .i64 (ces.filter fun p => !decide (p.1 ∈ mes.map Prod.fst)) ins) := by rw [hHM,Heap.get_put,if_neg (by omega),Heap.get_put,if_pos rfl]
  have hM4 : ∀ x,x ≠ g.next -> x ≠ o -> x ≠ mo -> HM.get x = (g.push (.miter (some h.next) mins [] none)).get x := fun x q1 q2 q3 => by rw [hHM,Heap.get_put,if_neg q1,Heap.get_put,if_neg q3,Heap.get_put,if_neg q2]
  have hM5 : HM.next = g.next + 1 := by rw [hHM]; rfl
  have hMg : ∀ x,x < g.next -> x ≠ o -> x ≠ mo -> HM.get x = g.get x := fun x q1 q2 q3 => (hM4 x (by omega) q2 q3).trans (hpg x q1)
  have hM6 := hM2
  rw [show ((Chk.total es : Nat) : Int) - (((mes.map Prod.fst).map (lenOf es)).sum : Nat) = (Chk.total (es.filter fun e => decide (e.1 ∉ ids)) : Nat) by omega] at hM6
  have hmut2 : ∀ x,Mut HM o x ↔ Mut g o x := fun x => by rw [mut_iff hM6,mut_iff hm.get]
  have chg : Chg o g HM := ⟨⟨by omega,fun x q1 q2 => by
   rw [mut_iff hm.get] at q2
   exact hMg x q1 (fun e => q2 (.inl e)) fun e => q2 (.inr (.inl e))⟩,fun x _ q => (hmut2 x).1 q,grows_map hm.get rfl hM6 rfl hm.map hM3 (by omega) (fun x q => (hmut2 x).1 q) fun k ho q => by
   have q := (List.mem_filter.1 q).1
   have q' := hm.held_off ⟨_,mo,_,ces,ins,k,hm.get,rfl,hm.map,q⟩
   rw [mut_iff hm.get] at q'
   obtain ⟨_,_,_,_,_,_,q3⟩ := hm.hobj ⟨_,mo,_,ces,ins,k,hm.get,rfl,hm.map,q⟩
   exact .inl ⟨⟨k,q⟩,hMg ho q3.lt (fun e => q' (.inl e)) fun e => q' (.inr (.inl e))⟩⟩
  have k5 : ChkP b HM o (es.filter fun e => decide (e.1 ∉ ids)) last ov [] := by
   refine ⟨vs,mo,_,ins,vv,tv,⟨hM6,hm.bo,by omega,hm.bm,by omega,hom,hM3,hm.val.frame (by omega) fun x hx => hMg x (hm.val.lt hx).2 (hm.voff x hx).1 (hm.voff x hx).2,hm.trl.frame (by omega) fun x hx => hMg x (hm.trl.lt hx).2 (hm.toff x hx).1 (hm.toff x hx).2,hm.voff,hm.toff,hm.two,fun k => ?_,filter_rise hm.keys _⟩,hg⟩
   have e1 := find_filter (es := es) (id := k) (fun k => decide (k ∉ ids))
   have e2 := hasKey_filter (es := ces) (k := k) (q := fun x => !decide (x ∈ mes.map Prod.fst))
   rw [e1,e2]
   by_cases q : k ∈ ids
   ·rw [if_neg (by simp [q]),if_neg (by simp only [hkey]; simp [q])]
    exact .inl ⟨rfl,rfl⟩
   ·rw [if_pos (by simp [q]),if_pos (by simp only [hkey]; simp [q])]
    exact (hm.held k).imp (fun q => q) fun ⟨l,ho,lv,sv,f1,f2,f3⟩ => ⟨l,ho,lv,sv,f1,f2,f3.chg chg⟩
  have c5 : Chg o h HM := (Chg.ext xg hlt).trans chg
  refine s_pick (m := mD) (W := W06) (.exit 2) _ [] _ (pick_code ..) rfl (by rw [w06_d (oi := g.next) (v := .ptr o 0 0) (by simp [sSe]) hoi (by simp [sSe,a4]) hdo]; exact List.mem_cons_self) (fun q hq e => by rw [w06_d (oi := g.next) (v := .ptr o 0 0) (by simp [sSe]) hoi (by simp [sSe,a4]) hdo] at hq; exact List.mem_singleton.1 hq) (drange hm hf htot hmm hml hmoo hks (fun k hk => hfound k ((hkey k).1 hk)) (by omega) (by simp [sSe]) (by simp [sSe,a4]) (hsl2 _ fun i q1 q2 q3 => by simp [sSe,q1,q2,q3]) hM1 hM2 hM3 hM4 hM5) ?_
  simp only [outOf_exit,if_true,andThen_normal]
  generalize anyAll _ slotsD = T at *
  clear hM1 hM2 hM3 hM4 hM6 hMg hdo hHM
  repeat' ((first | refine Z0 rfl ?_ | refine Z1 rfl ?_ | refine Z2 ?_ | refine Z3 ?_ | refine Z4 ?_ | refine Z5 ?_ | refine Z6 ?_ | refine Z7 ?_ | refine Z8 ?_ | refine Z9 (fun hif => ?_) (fun hif => ?_) | refine Za (fun hif => ?_) (fun hif => ?_) | refine Zb (fun hif => ?_) (fun hif => ?_) | (refine Zc ?_ ?_; omega) | (refine Zd ?_ ?_; omega) | (refine Ze ?_ ?_; omega)) <;>
   (try simp -implicitDefEqProofs (disch := first | assumption | omega) only [sx,sb,sd,se,xwS,xwO,xwI,oEv,xres,o1f,Nat.reduceAdd,Nat.reduceEqDiff,Nat.reduceSub, ↓reduceIte,reduceCtorEq, *]))
  try exact ⟨k5,c5⟩
end Go.Proofs.YtmkbnbpblhoekaaGreat
