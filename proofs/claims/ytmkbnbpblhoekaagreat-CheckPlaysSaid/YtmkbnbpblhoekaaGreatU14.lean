/- Part of a proof for X's executor: what the program's functions answer. -/
import Derived.Test.YtmkbnbpblhoekaaGreatU13
import Derived.Test.YtmkbnbpblhoekaaGreatU9
set_option linter.unusedSimpArgs false
set_option linter.unusedVariables false
set_option linter.unusedSectionVars false
namespace Go.Proofs.YtmkbnbpblhoekaaGreat
open Go.Xr Go.Chk
theorem chg_but {b : Nat} {h h' : Heap} {o : Nat} {es : List (Int × List Int)} {last : Int} {ov : Bool} {tr : List Int} (hc : ChkP b h o es last ov tr) (c : Chg o h h') : But (fun x => b <= x) h h' := c.but.mono fun x _ q => Mut.low hc q
theorem ChkP.wf {b : Nat} {h : Heap} {o : Nat} {es : List (Int × List Int)} {last : Int} {ov : Bool} {tr : List Int} (hc : ChkP b h o es last ov tr) : WFo h o :=
 let ⟨_,_,_,_,_,_,hm,_⟩ := hc
 hm.wf
theorem begun_last : ∀ (cs : List (List Int)) (s : Chs) (n : Int),s.last < n -> (Chk.start cs s n).last < n + cs.length
 | [],s,n,h => by simpa [Chk.start] using h
 | c :: r,s,n,h => by
  have := begun_last r (s.put n c) (n + 1) (by show n < n + 1; omega)
  rw [Chk.start,List.length_cons]
  omega
set_option maxHeartbeats 8000000 in
theorem NewF_ok {h : Heap} {vars : Int} {cv : V} {cs : List (List Int)} (hc : Cls h cv cs) (hx : ∀ c ∈ cs, ∀ x ∈ c,I32ok x) (hb : done cs cs.length <= 3000) (hcl : cs.length <= 1000) :
  EvCall xprog H0 8 [.agg [.int .i64 vars,cv]] h fun v h' => ((rightOf vars cs ≠ 0 /\ v = .tup [.nilp,.int .i64 (rightOf vars cs)]) \/ (rightOf vars cs = 0 /\ ∃ o b,v = .tup [.ptr o 0 0,.int .i64 0] /\ h.next <= b /\ ChkP b h' o (Chk.start cs ⟨[],0,false⟩ 1).es (Chk.start cs ⟨[],0,false⟩ 1).last (Chk.start cs ⟨[],0,false⟩ 1).over [] /\ ∀ x,Foot h' o x -> h.next <= x)) /\ Ext h h' := by
 refine s_call (fn := xf8) rfl (free _ rfl ..) ?_
 generalize hH1 : nCs h [.int .i64 vars,cv] 1 false = H1
 have x1 : Ext h H1 := hH1 ▸ Ext.new ..
 have g1 : H1.get h.next = some (arr [.int .i64 vars,cv] 1 false) := by rw [<- hH1]; exact get_new ..
 have r0 : rCs H1 h.next 0 0 2 = some [.int .i64 vars,cv] := readCells_arr g1 (by simp)
 have r1 : ∀ {g},Ext H1 g -> rCs g h.next 0 1 1 = some [cv] := fun x => rCl (off := 1) ((x.get h.next (by rw [<- hH1]; simp)).trans g1) rfl
 have hr := Right_ok (vars := vars) (hc.ext x1) hx (by omega) (by omega)
 obtain ⟨vs,hs,hvl,hcs⟩ := hc
 have hl := hs.len
 have hr' := hs.row
 rw [hvl] at hl
 simp -implicitDefEqProofs only [xf8,argsFrom_cons,argsFrom_nil]
 refine s_cut2 (fun t d g => sO t 1 = .ptr h.next 0 0 /\ d = [] /\ Ext H1 g /\ rightOf vars cs = 0) ?_ ?_
 ·repeat' ((first | refine Z0 rfl ?_ | refine Z1 rfl ?_ | refine Z2 ?_ | refine Z3 ?_ | refine Z4 ?_ | refine Z5 ?_ | refine Z6 ?_ | refine Z7 ?_ | refine Z8 ?_ | refine Z9 (fun hif => ?_) (fun hif => ?_) | refine Za (fun hif => ?_) (fun hif => ?_) | refine Zb (fun hif => ?_) (fun hif => ?_) | (refine Zc ?_ ?_; omega) | (refine Zd ?_ ?_; omega) | (refine Ze ?_ ?_; omega) | ((refine eAc hr ?_; rintro _ g2 ⟨rfl,x2⟩))) <;>
   (try simp -implicitDefEqProofs (disch := first | assumption | omega) only [sx,sb,sd,se,xwS,xwO,xwI,oEv,xres,o1f,Nat.reduceAdd,Nat.reduceEqDiff,Nat.reduceSub, ↓reduceIte,reduceCtorEq,wrap_i64, *]))
  ·exact ⟨.inl (by simpa using hif),x1.trans x2⟩
  ·simpa using hif
 rintro t d g2 ⟨a0,rfl,x2,hright⟩
 have hri : ∀ i,Right6 H1.next (Chk.start (cs.take i) ⟨[],0,false⟩ 1) (0 + (cs.take i).length) := fun i => begun_right _ _ _ 0 ⟨⟨.nil,fun e he => by cases he⟩,(fun e he => by cases he),Nat.le_refl _,Nat.le_refl _⟩ (fun c hm => ⟨right_fine hright c (List.mem_of_mem_take hm),Nat.le_trans (done_mem (List.mem_of_mem_take hm)) hb⟩) (by decide) (by decide)
 have e0 : ChkP H1.next (nCs (g2.push (.map .i64 [] 0)) [.map g2.next,.int .i64 0,.int .i64 0,.bool false,.nils,.nils] 1 false) (g2.next + 1) [] 0 false [] := by
  have n2 := x2.next
  refine ⟨[],g2.next,[],0,.nils,.nils,⟨get_new ..,by omega,by simp [Heap.push],by omega,by simp [Heap.push]; omega,by omega,?_,Tk.nil _ _,Tk.nil _ _,(fun x hx => by cases hx),(fun x hx => by cases hx),(fun x hx => by cases hx),fun id => .inl ⟨rfl,rfl⟩,.nil⟩,⟨fun v hv => by simp at hv,(fun x hx => by cases hx),(fun x hx => by cases hx),.nil,by simp⟩⟩
  rw [(Ext.new ..).get g2.next (Nat.lt_succ_self _),Heap.get_push,if_pos rfl]
 have f0 : ∀ x,Foot (nCs (g2.push (.map .i64 [] 0)) [.map g2.next,.int .i64 0,.int .i64 0,.bool false,.nils,.nils] 1 false) (g2.next + 1) x -> H1.next <= x := fun x q => by
  have n2 := x2.next
  obtain ⟨vs0,mo0,ces0,ins0,vv0,tv0,hm0,_⟩ := id e0
  rcases q with q | ⟨ho,q,_⟩
  ·rcases (mut_iff (get_new (g2.push (.map .i64 [] 0)) [.map g2.next,.int .i64 0,.int .i64 0,.bool false,.nils,.nils] 1 false)).1 q with q | q | q | q
   ·subst q; show H1.next <= g2.next + 1; omega
   ·subst q; exact n2
   ·cases q
   ·cases q
  ·obtain ⟨_,_,_,_,q,_⟩ := hm0.hobj q
   cases q
 have xe : Ext H1 (nCs (g2.push (.map .i64 [] 0)) [.map g2.next,.int .i64 0,.int .i64 0,.bool false,.nils,.nils] 1 false) := x2.trans ((Ext.push _ _).trans (Ext.new ..))
 have r12 := r1 xe
 generalize hE : nCs (g2.push (.map .i64 [] 0)) [.map g2.next,.int .i64 0,.int .i64 0,.bool false,.nils,.nils] 1 false = E at *
 have hpn : (g2.push (.map .i64 [] 0)).next = g2.next + 1 := rfl
 repeat' ((first | refine Z0 rfl ?_ | refine Z1 rfl ?_ | refine Z2 ?_ | refine Z3 ?_ | refine Z4 ?_ | refine Z5 ?_ | refine Z6 ?_ | refine Z7 ?_ | refine Z8 ?_ | refine Z9 (fun hif => ?_) (fun hif => ?_) | refine Za (fun hif => ?_) (fun hif => ?_) | refine Zb (fun hif => ?_) (fun hif => ?_) | (refine Zc ?_ ?_; omega) | (refine Zd ?_ ?_; omega) | (refine Ze ?_ ?_; omega)) <;>
  (try simp -implicitDefEqProofs (disch := first | assumption | omega) only [sx,sb,sd,se,xwS,xwO,xwI,oEv,xres,o1f,Nat.reduceAdd,Nat.reduceEqDiff,Nat.reduceSub, ↓reduceIte,reduceCtorEq,si,sh,wrap_i64,fillV,parts,over,Nat.beq_refl,Nat.ble,hE,hpn, *]))
 refine s_while (fun n t d g => ∃ (i : Nat),i + n = cs.length /\ sO t 19 = .int .i64 i /\ sO t 18 = .int .i64 cs.length /\ sO t 17 = cv /\ sO t 5 = .ptr (g2.next + 1) 0 0 /\ d = [] /\ Ext H1 g /\ ChkP H1.next g (g2.next + 1) (Chk.start (cs.take i) ⟨[],0,false⟩ 1).es (Chk.start (cs.take i) ⟨[],0,false⟩ 1).last (Chk.start (cs.take i) ⟨[],0,false⟩ 1).over [] /\ ∀ x,Foot g (g2.next + 1) x -> H1.next <= x) (fun _ _ _ => frC ..) cs.length ⟨0,by omega,by simp [sSe],by simp [sSe],by simp [sSe],by simp [sSe],rfl,xe,e0,f0⟩ ?_
 clear e0 f0 xe r12 hE E
 rintro n t d g ⟨i,b1,a1,a2,a3,a4,rfl,xg,k1,f1⟩
 have f1 : Kept (∀ x,Foot g (g2.next + 1) x -> H1.next <= x) := f1
 have rc : i < cs.length -> rCs g (objS cv) (genS cv) (offS cv + i) 1 = some [vs.getD i .nils] := fun hi => (hs.ext (x1.trans xg)).at (by simp [show i < vs.length by omega])
 have hput : ∀ (hi : i < cs.length),EvCall xprog H0 21 [.ptr (g2.next + 1) 0 0,.int .i64 ((i : Int) + 1),vs.getD i .nils] g fun v h' => ChkP H1.next h' (g2.next + 1) (Chk.start (cs.take (i + 1)) ⟨[],0,false⟩ 1).es (Chk.start (cs.take (i + 1)) ⟨[],0,false⟩ 1).last (Chk.start (cs.take (i + 1)) ⟨[],0,false⟩ 1).over [] /\ Chg (g2.next + 1) g h' := fun hi => by
  have et : cs.take (i + 1) = cs.take i ++ [cs[i]] := by
   rw [List.take_add_one,List.getElem?_eq_getElem hi]
   rfl
  have hm := List.getElem_mem hi
  have hri := hri i
  have hla := begun_last (cs.take i) ⟨[],0,false⟩ 1 (by decide)
  have htl : (cs.take i).length = i := by rw [List.length_take]; omega
  rw [htl] at hri hla
  have htt := hri.tot
  rw [et,begun_snoc,htl,Int.add_comm 1]
  exact (put_ok k1 hri.rise (by omega) ((hcs i hi).ext (x1.trans xg)) (right_fine hright _ hm) (by have := done_mem hm; omega) (by omega))
 repeat' ((first | refine Z0 rfl ?_ | refine Z1 rfl ?_ | refine Z2 ?_ | refine Z3 ?_ | refine Z4 ?_ | refine Z5 ?_ | refine Z6 ?_ | refine Z7 ?_ | refine Z8 ?_ | refine Z9 (fun hif => ?_) (fun hif => ?_) | refine Za (fun hif => ?_) (fun hif => ?_) | refine Zb (fun hif => ?_) (fun hif => ?_) | (refine Zc ?_ ?_; omega) | (refine Zd ?_ ?_; omega) | (refine Ze ?_ ?_; omega) | ((refine eAc (hput (by omega)) ?_; rintro _ g3 ⟨k2,y2⟩))) <;>
  (try simp -implicitDefEqProofs (disch := first | assumption | omega) only [sx,sb,sd,se,xwS,xwO,xwI,oEv,xres,o1f,Nat.reduceAdd,Nat.reduceEqDiff,Nat.reduceSub, ↓reduceIte,reduceCtorEq,sf,Int.toNat_zero, *]))
 ·exact ⟨n - 1,by omega,i + 1,by omega,by simp,xg.butI (chg_but k1 y2) (fun o ho q => by omega),k2,fun x q => ((y2.foot k1.wf).2 x q).elim ((show ∀ x,Foot g (g2.next + 1) x -> H1.next <= x from f1) x) fun q => Nat.le_trans xg.next q⟩
 ·have hi : i = cs.length := by omega
  subst hi
  rw [List.take_length] at k1
  exact ⟨.inr ⟨_,H1.next,rfl,x1.next,k1,fun x q => Nat.le_trans x1.next ((show ∀ x,Foot g (g2.next + 1) x -> H1.next <= x from f1) x q)⟩,x1.trans xg⟩
theorem New_ok {h : Heap} {vars : Int} {cv : V} {cs : List (List Int)} (hc : Cls h cv cs) (hx : ∀ c ∈ cs, ∀ x ∈ c,I32ok x) (hb : done cs cs.length <= 3000) (hcl : cs.length <= 1000) :
  EvCall xprog H0 8 [.agg [.int .i64 vars,cv]] h fun v h' => ((rightOf vars cs ≠ 0 /\ v = .tup [.nilp,.int .i64 (rightOf vars cs)]) \/ (rightOf vars cs = 0 /\ ∃ o b,v = .tup [.ptr o 0 0,.int .i64 0] /\ h.next <= b /\ ChkP b h' o (Chk.start cs ⟨[],0,false⟩ 1).es (Chk.start cs ⟨[],0,false⟩ 1).last (Chk.start cs ⟨[],0,false⟩ 1).over [])) /\ Ext h h' :=
 (NewF_ok hc hx hb hcl).mono fun _ _ ⟨q1,q2⟩ => ⟨q1.imp id fun ⟨h1,o,b,e,h2,h3,_⟩ => ⟨h1,o,b,e,h2,h3⟩,q2⟩
open Go.Xr Go.Chk
theorem ChkP.reads {b : Nat} {h : Heap} {o : Nat} {es : List (Int × List Int)} {last : Int} {ov : Bool} {tr : List Int} (hc : ChkP b h o es last ov tr) : rCs h o 0 1 1 = some [.int .i64 last] /\ rCs h o 0 2 1 = some [.int .i64 (Chk.total es : Nat)] /\ rCs h o 0 3 1 = some [.bool ov] :=
 let ⟨_,_,_,_,_,_,hm,_⟩ := hc
 ⟨rCl (off := 1) hm.get rfl,rCl (off := 2) hm.get rfl,rCl (off := 3) hm.get rfl⟩
set_option maxHeartbeats 8000000 in
theorem Step_ok {b : Nat} {h0 h : Heap} {o : Nat} {s : Chs} {N : Nat} {kind id : Int} {lv hv : V} {lits hints : List Int} (hc : ChkP b h o s.es s.last s.over []) (hs : Right6 b s N) (hN : N <= 5000) (x0 : Ext h0 h) (hb : h0.next <= b) (hl : SlO .i32 h o lv lits) (hh : Sw h0 hv (hints.map (.int .i64))) (h1 : lits.length <= 3000) (h2 : hints.length <= 3000) :
  EvCall xprog H0 11 [.ptr o 0 0,.agg [.int .u8 kind,.int .i64 id,lv,hv]] h fun v h' => v = .int .i64 (s.step (mayOf kind id lits hints) kind id lits hints).1 /\ ChkP b h' o (s.step (mayOf kind id lits hints) kind id lits hints).2.es (s.step (mayOf kind id lits hints) kind id lits hints).2.last (s.step (mayOf kind id lits hints) kind id lits hints).2.over [] /\ Chg o h h' := by
 refine s_call (fn := xf11) rfl (free _ rfl ..) ?_
 have hlt := hc.lt.1
 generalize hH1 : nCs h [.int .u8 kind,.int .i64 id,lv,hv] 1 false = H1
 have x1 : Ext h H1 := hH1 ▸ Ext.new ..
 have g1 : H1.get h.next = some (arr [.int .u8 kind,.int .i64 id,lv,hv] 1 false) := by rw [<- hH1]; exact get_new ..
 have rA : rCs H1 h.next 0 0 4 = some [.int .u8 kind,.int .i64 id,lv,hv] := readCells_arr g1 (by simp)
 have hhs : ∀ {g},Ext h g -> Sl g hv (hints.map (.int .i64)) := fun x => hh.sl.ext (x0.trans x)
 have hmay := may_ok (kind := kind) (id := id) (hl.1.ext x1) (hhs x1) (by omega) (by omega)
 have hx : ∀ {g},Ext h g -> Chg o h g := fun x => Chg.ext x hlt
 have c1 : Chg o h H1 := Chg.ext x1 hlt
 cases hm : mayOf kind id lits hints with
 | false =>
  rw [hm] at hmay
  simp -implicitDefEqProofs only [xf11,argsFrom_cons,argsFrom_nil]
  repeat' ((first | refine Z0 rfl ?_ | refine Z1 rfl ?_ | refine Z2 ?_ | refine Z3 ?_ | refine Z4 ?_ | refine Z5 ?_ | refine Z6 ?_ | refine Z7 ?_ | refine Z8 ?_ | refine Z9 (fun hif => ?_) (fun hif => ?_) | refine Za (fun hif => ?_) (fun hif => ?_) | refine Zb (fun hif => ?_) (fun hif => ?_) | (refine Zc ?_ ?_; omega) | (refine Zd ?_ ?_; omega) | (refine Ze ?_ ?_; omega) | ((refine eAc hmay ?_; rintro _ g2 ⟨rfl,x2⟩))) <;>
   (try simp -implicitDefEqProofs (disch := first | assumption | omega) only [sx,sb,sd,se,xwS,xwO,xwI,oEv,xres,o1f,Nat.reduceAdd,Nat.reduceEqDiff,Nat.reduceSub, ↓reduceIte,reduceCtorEq,wrap_i64,Nat.zero_add,Nat.add_zero,binV,nilCmp,nilOf, *]))
  exact ⟨rfl,hc.ext (x1.trans x2),hx (x1.trans x2)⟩
 | true =>
  rw [hm] at hmay
  obtain ⟨hfl,hfh,hk⟩ := may_fine hm
  have hb2 : h.next <= H1.next := x1.next
  have hH1n : h.next < H1.next := by rw [<- hH1]; simp
  have rd : ∀ {g},g.get h.next = some (arr [.int .u8 kind,.int .i64 id,lv,hv] 1 false) -> rCs g h.next 0 0 1 = some [.int .u8 kind] /\ rCs g h.next 0 1 1 = some [.int .i64 id] /\ rCs g h.next 0 2 1 = some [lv] /\ rCs g h.next 0 3 1 = some [hv] := fun g1' =>
   ⟨rCl (off := 0) g1' rfl,rCl (off := 1) g1' rfl,rCl (off := 2) g1' rfl,rCl (off := 3) g1' rfl⟩
  have el := hl.1.len
  have er := hl.1.row
  simp only [List.length_map] at el
  rcases hk with rfl | ⟨rfl,hid⟩
  ·have hst : s.step true 2 id lits hints = if none5 s.es hints = true then (5,s) else (0, { s with es := s.es.filter fun e => decide (e.1 ∉ hints) }) := by
    unfold Chs.step
    rw [if_neg (by simp),if_pos rfl]
   have hdr : ∀ {g},Ext h g -> EvCall xprog H0 25 [.ptr o 0 0,hv] g fun v h' => v = .int .i64 (if none5 s.es hints = true then 5 else 0) /\ ChkP b h' o (if none5 s.es hints = true then s.es else s.es.filter fun e => decide (e.1 ∉ hints)) s.last s.over [] /\ Chg o g h' := fun x => drop_ok (hc.ext x) hs.rise (fun e he => by have := (hs.fine e he).2; omega) (by have := hs.tot; omega) (x0.trans x) hb hh.sl (by omega)
   rw [hst]
   clear hst
   cases hn : none5 s.es hints
   all_goals
    simp only [hn,if_true,if_false,Bool.false_eq_true] at hdr ⊢
    simp -implicitDefEqProofs only [xf11,argsFrom_cons,argsFrom_nil]
    repeat' ((first | refine Z0 rfl ?_ | refine Z1 rfl ?_ | refine Z2 ?_ | refine Z3 ?_ | refine Z4 ?_ | refine Z5 ?_ | refine Z6 ?_ | refine Z7 ?_ | refine Z8 ?_ | refine Z9 (fun hif => ?_) (fun hif => ?_) | refine Za (fun hif => ?_) (fun hif => ?_) | refine Zb (fun hif => ?_) (fun hif => ?_) | (refine Zc ?_ ?_; omega) | (refine Zd ?_ ?_; omega) | (refine Ze ?_ ?_; omega) | ((refine eAc hmay ?_; rintro _ g2 ⟨rfl,x2⟩; obtain ⟨d0,d1,d2,d3⟩ := rd ((x2.get _ hH1n).trans g1))) | ((refine eAc (hdr (x1.trans x2)) ?_; rintro _ g3 ⟨rfl,k1,k2⟩))) <;>
     (try simp -implicitDefEqProofs (disch := first | assumption | omega) only [sx,sb,sd,se,xwS,xwO,xwI,oEv,xres,o1f,Nat.reduceAdd,Nat.reduceEqDiff,Nat.reduceSub, ↓reduceIte,reduceCtorEq,wrap_i64,Nat.zero_add,Nat.add_zero,binV,nilCmp,nilOf, *]))
    first
     | exact ⟨k1,(hx (x1.trans x2)).trans k2⟩
     | exact (hx (x1.trans x2)).trans k2
  ·have hfo : ∀ {g},Ext h g -> EvCall xprog H0 26 [.ptr o 0 0,lv,hv] g fun v h' => v = .int .i64 (follows s.es lits hints) /\ ChkP b h' o s.es s.last s.over [] /\ Chg o g h' := fun x => follows_ok (hc.ext x) hs.rise (fun e he => ⟨(hs.fine e he).1,by have := (hs.fine e he).2; omega⟩) (x0.trans x) hb (hl.ext x hlt) hfl hh hfh (by omega) (by omega)
   have hpu : ∀ {g},ChkP b g o s.es s.last s.over [] -> SlO .i32 g o lv lits -> s.last < id -> EvCall xprog H0 21 [.ptr o 0 0,.int .i64 id,lv] g fun v h' => ChkP b h' o (s.es ++ [(id,lits)]) id (s.over || lits.isEmpty) [] /\ Chg o g h' := fun q1 q2 q3 => put_ok q1 hs.rise q3 q2.1 hfl (by omega) (by have := hs.tot; omega)
   have htt := hs.tot
   have hst : s.step true 1 id lits hints = if id <= s.last then (62,s) else if follows s.es lits hints ≠ 0 then (follows s.es lits hints,s) else if 16777216 < Chk.total s.es + lits.length then (3,s) else (0,s.put id lits) := by
    unfold Chs.step
    rw [if_neg (by simp),if_neg (by decide)]
   have hmu : ∀ {g},Ext H1 g -> ¬ Mut g o h.next := fun x q => by
    have := hc.lt.2 h.next ((Mut.ext (x1.trans x) hlt).1 q)
    omega
   simp -implicitDefEqProofs only [xf11,argsFrom_cons,argsFrom_nil]
   repeat' ((first | refine Z0 rfl ?_ | refine Z1 rfl ?_ | refine Z2 ?_ | refine Z3 ?_ | refine Z4 ?_ | refine Z5 ?_ | refine Z6 ?_ | refine Z7 ?_ | refine Z8 ?_ | refine Z9 (fun hif => ?_) (fun hif => ?_) | refine Za (fun hif => ?_) (fun hif => ?_) | refine Zb (fun hif => ?_) (fun hif => ?_) | (refine Zc ?_ ?_; omega) | (refine Zd ?_ ?_; omega) | (refine Ze ?_ ?_; omega) | ((refine eAc hmay ?_; rintro _ g2 ⟨rfl,x2⟩; obtain ⟨d0,d1,d2,d3⟩ := rd ((x2.get _ hH1n).trans g1); obtain ⟨c1',c2,c3⟩ := (hc.ext (x1.trans x2)).reads)) | ((refine eAc (hfo (x1.trans x2)) ?_; rintro _ g3 ⟨rfl,k3,x3⟩; obtain ⟨d0,d1,d2,d3⟩ := rd ((x3.but.get _ (Nat.lt_of_lt_of_le hH1n x2.next) (hmu x2)).trans ((x2.get _ hH1n).trans g1)); obtain ⟨c1',c2,c3⟩ := k3.reads; have k4 := (hl.ext (x1.trans x2) hlt).chg x3)) | ((refine eAc (hpu k3 k4 (by omega)) ?_; rintro _ g4 ⟨k1,k2⟩))) <;>
    (try simp -implicitDefEqProofs (disch := first | assumption | omega) only [sx,sb,sd,se,xwS,xwO,xwI,oEv,xres,o1f,Nat.reduceAdd,Nat.reduceEqDiff,Nat.reduceSub, ↓reduceIte,reduceCtorEq,wrap_i64,Nat.zero_add,Nat.add_zero,binV,nilCmp,nilOf, *]))
   ·exact ⟨hc.ext (x1.trans x2),hx (x1.trans x2)⟩
   ·have hz : ¬ follows s.es lits hints = 0 := by simpa using hif
    rw [if_neg hz]
    exact ⟨rfl,k3,(hx (x1.trans x2)).trans x3⟩
   ·exfalso; omega
   ·have hz : follows s.es lits hints = 0 := by simpa using ‹(!decide (follows s.es lits hints = 0)) = false›
    rw [if_pos hz,if_neg (by omega)]
    exact ⟨rfl,k1,((hx (x1.trans x2)).trans x3).trans k2⟩
open Go.Xr Go.Chk
theorem Done_ok {b : Nat} {h : Heap} {o : Nat} {es : List (Int × List Int)} {last : Int} {ov : Bool} {tr : List Int} (hc : ChkP b h o es last ov tr) : EvCall xprog H0 31 [.ptr o 0 0] h fun v h' => v = .bool ov /\ h' = h := by
 refine s_call (fn := xf31) rfl (free _ rfl ..) ?_
 obtain ⟨_,_,r3⟩ := hc.reads
 simp -implicitDefEqProofs only [xf31,argsFrom_cons,argsFrom_nil]
 repeat' ((first | refine Z0 rfl ?_ | refine Z1 rfl ?_ | refine Z2 ?_ | refine Z3 ?_ | refine Z4 ?_ | refine Z5 ?_ | refine Z6 ?_ | refine Z7 ?_ | refine Z8 ?_ | refine Z9 (fun hif => ?_) (fun hif => ?_) | refine Za (fun hif => ?_) (fun hif => ?_) | refine Zb (fun hif => ?_) (fun hif => ?_) | (refine Zc ?_ ?_; omega) | (refine Zd ?_ ?_; omega) | (refine Ze ?_ ?_; omega)) <;>
  (try simp -implicitDefEqProofs (disch := first | assumption | omega) only [sx,sb,sd,se,xwS,xwO,xwI,oEv,xres,o1f,Nat.reduceAdd,Nat.reduceEqDiff,Nat.reduceSub, ↓reduceIte,reduceCtorEq,binV,nilCmp,nilOf,Nat.zero_add,Nat.add_zero, *]))
theorem Get_ok {b : Nat} {h : Heap} {o : Nat} {es : List (Int × List Int)} {last : Int} {ov : Bool} {tr : List Int} (hc : ChkP b h o es last ov tr) {id : Int} {l : List Int} (hf : find es id = some l) (hl : l.length <= 1000000) : EvCall xprog H0 32 [.ptr o 0 0,.int .i64 id] h fun v h' => (∃ w,v = .tup [w,.bool true] /\ Own h.next h' w (l.map (.int .i32))) /\ Ext h h' := by
 refine s_call (fn := xf32) rfl (free _ rfl ..) ?_
 obtain ⟨vs,mo,ces,ins,vv,tv,hm,_⟩ := hc
 have r0 := rCl (off := 0) hm.get rfl
 have gm := hm.map
 obtain ⟨ho,lv,sv,hk,hh⟩ : ∃ ho lv sv,hasKey id ces = some (.ptr ho 0 0) /\ HeldAt h o ho lv sv l := by
  rcases hm.held id with ⟨q,_⟩ | ⟨k,ho,lv,sv,q1,q2,q3⟩
  ·rw [hf] at q; cases q
  ·rw [hf] at q1; cases q1
   exact ⟨ho,lv,sv,q2,q3⟩
 have rl := rCl (off := 0) hh.get rfl
 have hcl := Clone_ok hh.lits.1 (fun x hx => by obtain ⟨n,_,rfl⟩ := List.mem_map.1 hx; rfl) (by simp; omega)
 simp -implicitDefEqProofs only [xf32,argsFrom_cons,argsFrom_nil]
 repeat' ((first | refine Z0 rfl ?_ | refine Z1 rfl ?_ | refine Z2 ?_ | refine Z3 ?_ | refine Z4 ?_ | refine Z5 ?_ | refine Z6 ?_ | refine Z7 ?_ | refine Z8 ?_ | refine Z9 (fun hif => ?_) (fun hif => ?_) | refine Za (fun hif => ?_) (fun hif => ?_) | refine Zb (fun hif => ?_) (fun hif => ?_) | (refine Zc ?_ ?_; omega) | (refine Zd ?_ ?_; omega) | (refine Ze ?_ ?_; omega) | ((refine eAc hcl ?_; rintro w g1 ⟨w1,x1⟩))) <;>
  (try simp -implicitDefEqProofs (disch := first | assumption | omega) only [sx,sb,sd,se,xwS,xwO,xwI,oEv,xres,o1f,Nat.reduceAdd,Nat.reduceEqDiff,Nat.reduceSub, ↓reduceIte,reduceCtorEq,sg,binV,nilCmp,nilOf,Nat.zero_add,Nat.add_zero,kindEq,tellV, *]))
 exact ⟨w,rfl,w1⟩
theorem sorted_ext : ∀ {l l' : List Int},l.Pairwise (· < ·) -> l'.Pairwise (· < ·) -> (∀ x,x ∈ l ↔ x ∈ l') -> l = l'
 | [],[],_,_,_ => rfl
 | [],b :: r',_,_,h => absurd ((h b).2 List.mem_cons_self) (by simp)
 | a :: r,[],_,_,h => absurd ((h a).1 List.mem_cons_self) (by simp)
 | a :: r,b :: r',h1,h2,h => by
  rw [List.pairwise_cons] at h1 h2
  have e : a = b := by
   rcases List.mem_cons.1 ((h a).1 List.mem_cons_self) with q | q
   ·exact q
   ·rcases List.mem_cons.1 ((h b).2 List.mem_cons_self) with q' | q'
    ·exact q'.symm
    ·have := h1.1 b q'
     have := h2.1 a q
     omega
  subst e
  rw [sorted_ext h1.2 h2.2 fun x => ⟨fun q => ?_,fun q => ?_⟩]
  ·rcases List.mem_cons.1 ((h x).1 (List.mem_cons_of_mem _ q)) with e | e
   ·subst e
    have := h1.1 x q
    omega
   ·exact e
  ·rcases List.mem_cons.1 ((h x).2 (List.mem_cons_of_mem _ q)) with e | e
   ·subst e
    have := h2.1 x q
    omega
   ·exact e
theorem hasKey_nil {k : Int} : ∀ {ces : List (Int × V)},hasKey k ces = none -> k ∉ ces.map Prod.fst
 | [],_,q => by cases q
 | (a,x) :: r,h,q => by
  unfold hasKey at h
  split at h
  ·cases h
  ·rename_i e
   rcases List.mem_cons.1 q with q | q
   ·exact of_decide_eq_false e q.symm
   ·exact hasKey_nil h q
theorem keys_eq {h : Heap} {o : Nat} {es : List (Int × List Int)} {ces : List (Int × V)} {last : Int} (hh : HeldAll h o es ces) (hr : Rise es last) (hk : (ces.map Prod.fst).Pairwise (· < ·)) : ces.map Prod.fst = es.map Prod.fst := by
 refine sorted_ext hk hr.1 fun x => ?_
 rcases hh x with ⟨q1,q2⟩ | ⟨l,ho,lv,sv,q1,q2,_⟩
 ·refine ⟨fun q => absurd q (hasKey_nil q2),fun q => ?_⟩
  obtain ⟨e,he,rfl⟩ := List.mem_map.1 q
  exact absurd rfl (find_none.1 q1 e he)
 ·exact ⟨fun _ => List.mem_map.2 ⟨_,find_some q1,rfl⟩,fun _ => List.mem_map.2 ⟨_,hasKey_mem q2,rfl⟩⟩
theorem Keys_ok (h : Heap) (mo : Nat) : EvCall xprog H0 50 [.map mo] h fun v h' => v = .func 67 [] [.ptr h.next 0 0] /\ h' = nCs h [.map mo] 1 false := by
 refine s_call (fn := xf50) rfl (free _ rfl ..) ?_
 simp -implicitDefEqProofs only [xf50,argsFrom_cons,argsFrom_nil]
 repeat' ((first | refine Z0 rfl ?_ | refine Z1 rfl ?_ | refine Z2 ?_ | refine Z3 ?_ | refine Z4 ?_ | refine Z5 ?_ | refine Z6 ?_ | refine Z7 ?_ | refine Z8 ?_ | refine Z9 (fun hif => ?_) (fun hif => ?_) | refine Za (fun hif => ?_) (fun hif => ?_) | refine Zb (fun hif => ?_) (fun hif => ?_) | (refine Zc ?_ ?_; omega) | (refine Zd ?_ ?_; omega) | (refine Ze ?_ ?_; omega)) <;>
  (try simp -implicitDefEqProofs (disch := first | assumption | omega) only [sx,sb,sd,se,xwS,xwO,xwI,oEv,xres,o1f,Nat.reduceAdd,Nat.reduceEqDiff,Nat.reduceSub, ↓reduceIte,reduceCtorEq, *]))
open Go.Xr Go.Chk
theorem keysOut_sl (es : List (Int × V)) (h : Heap) : Sl (keysOut es h).2 (keysOut es h).1 ((es.map Prod.fst).map (.int .i64)) /\ Ext h (keysOut es h).2 /\ ∀ x,rOb (keysOut es h).1 = some x -> h.next <= x /\ x < (keysOut es h).2.next := by
 cases es with
 | nil => exact ⟨.inl ⟨rfl,rfl⟩,Ext.refl _,fun x q => by cases q⟩
 | cons a r =>
  refine ⟨.inr ⟨h.next,0,0,.rest 0 1,by simp [keysOut],fun _ => ⟨Nat.lt_succ_self _,?_⟩⟩,Ext.new ..,fun x q => by cases q; exact ⟨Nat.le_refl _,Nat.lt_succ_self _⟩⟩
  show rCs (nCs h ((a :: r).map fun p => .int .i64 p.1) 1 true) h.next 0 0 _ = _
  rw [readCells_arr (get_new ..) (by simp),List.drop_zero,List.take_of_length_le (by simp),List.map_map]
  rfl
theorem keysWf_all : ∀ {es : List (Int × V)},(∀ k ∈ es.map Prod.fst,(Lit.int .i64 k).wf = true) -> keysWf es = true
 | [],_ => rfl
 | (k,_) :: r,h => by
  unfold keysWf
  rw [h k List.mem_cons_self,keysWf_all fun x hx => h x (List.mem_cons_of_mem _ hx)]
  rfl
theorem wf_i64 {k : Int} (h1 : 0 < k) (h2 : k <= 1000000) : (Lit.int .i64 k).wf = true := by
 have e1 : IntKind.i64.min = -9223372036854775808 := by decide
 have e2 : IntKind.i64.max = 9223372036854775807 := by decide
 simp only [Lit.wf,e1,e2,Bool.and_eq_true,decide_eq_true_eq]
 omega
theorem SortedW_ok {h : Heap} {p mo ins : Nat} {ces : List (Int × V)} (hp : h.get p = some (arr [.map mo] 1 false)) (hm : h.get mo = some (.map .i64 ces ins)) (hw : keysWf ces = true) (hl : ces.length <= 1000000) :
  EvCall xprog H0 49 [.func 67 [] [.ptr p 0 0]] h fun v h' => v = (keysOut ces h).1 /\ h' = (keysOut ces h).2 := by
 have hr : rCs h p 0 0 1 = some [.map mo] := readCells_arr hp (by simp)
 have e4 : sortedHook 49 67 (.call false 49 [.func 67 [] [.ptr p 0 0]] h) = some (.call (keysOut ces h).1 (keysOut ces h).2) := by
  unfold sortedHook
  have c1 : (Nat.beq 49 49 && Nat.beq 67 67) = true := rfl
  have c2 : (keysWf ces && Nat.ble (ces.length * 8) 140737488355328) = true := by
   rw [hw,Bool.true_and]
   exact Nat.ble_eq_true_of_le (by omega)
  simp only [c1,hp,arr,hr,hm,c2]
 have this : H0 (.call false 49 [.func 67 [] [.ptr p 0 0]] h) = some (.call (keysOut ces h).1 (keysOut ces h).2) := by
  refine H0_some ?_
  unfold Hb orElse
  have e2 : sortHook 68 53 (.call false 49 [.func 67 [] [.ptr p 0 0]] h) = none := rfl
  have e3 : bitsHook 69 (.call false 49 [.func 67 [] [.ptr p 0 0]] h) = none := rfl
  rw [e2]
  simp only
  rw [e3]
  simp only
  exact e4
 refine ⟨1,_,_,?_,rfl,rfl⟩
 simp only [ev,evStep,this]
theorem LiveW_ok {b : Nat} {h : Heap} {o : Nat} {es : List (Int × List Int)} {last : Int} {ov : Bool} {tr : List Int} (hc : ChkP b h o es last ov tr) (hr : Rise es last) (hw : ∀ e ∈ es,(Lit.int .i64 e.1).wf = true) (hl : es.length <= 1000000) : EvCall xprog H0 30 [.ptr o 0 0] h fun v h' => ∃ ces H,ces.map Prod.fst = es.map Prod.fst /\ Ext h H /\ v = (keysOut ces H).1 /\ h' = (keysOut ces H).2 := by
 refine s_call (fn := xf30) rfl (free _ rfl ..) ?_
 obtain ⟨vs,mo,ces,ins,vv,tv,hm,_⟩ := hc
 have r0 := rCl (off := 0) hm.get rfl
 have hk := keys_eq hm.held hr hm.keys
 have hlen : ces.length = es.length := by rw [<- List.length_map (f := Prod.fst),hk,List.length_map]
 have hs := SortedW_ok (h := nCs h [.map mo] 1 false) (mo := mo) (get_new ..) (((Ext.new ..).get mo hm.hm).trans hm.map) (keysWf_all fun k q => by rw [hk] at q; obtain ⟨e,he,rfl⟩ := List.mem_map.1 q; exact hw e he) (by omega)
 simp -implicitDefEqProofs only [xf30,argsFrom_cons,argsFrom_nil]
 repeat' ((first | refine Z0 rfl ?_ | refine Z1 rfl ?_ | refine Z2 ?_ | refine Z3 ?_ | refine Z4 ?_ | refine Z5 ?_ | refine Z6 ?_ | refine Z7 ?_ | refine Z8 ?_ | refine Z9 (fun hif => ?_) (fun hif => ?_) | refine Za (fun hif => ?_) (fun hif => ?_) | refine Zb (fun hif => ?_) (fun hif => ?_) | (refine Zc ?_ ?_; omega) | (refine Zd ?_ ?_; omega) | (refine Ze ?_ ?_; omega) | ((refine eAc (Keys_ok _ _) ?_; rintro _ g1 ⟨rfl,rfl⟩)) | ((refine eAc hs ?_; rintro w g2 ⟨rfl,rfl⟩))) <;>
  (try simp -implicitDefEqProofs (disch := first | assumption | omega) only [sx,sb,sd,se,xwS,xwO,xwI,oEv,xres,o1f,Nat.reduceAdd,Nat.reduceEqDiff,Nat.reduceSub, ↓reduceIte,reduceCtorEq,binV,nilCmp,nilOf,Nat.zero_add,Nat.add_zero, *]))
 exact ⟨ces,_,hk,Ext.new ..,rfl,rfl⟩
open Go.Xr Go.Chk
theorem foot_stay {o : Nat} {h h' : Heap} (hg : ∀ x,Foot h o x -> h'.get x = h.get x) : ∀ x,Foot h' o x -> Foot h o x := by
 have go : h'.get o = h.get o := hg o (.inl (.inl rfl))
 have hob : ∀ ho,HObj h' o ho -> HObj h o ho := by
  rintro ho ⟨cs,mo,kd,ces,ins,id,q1,q2,q3,q4⟩
  rw [go] at q1
  have gm : h'.get mo = h.get mo := hg mo (.inl (.inr ⟨cs,q1,.inl q2⟩))
  rw [gm] at q3
  exact ⟨cs,mo,kd,ces,ins,id,q1,q2,q3,q4⟩
 rintro x (q | ⟨ho,q,r⟩)
 ·refine .inl ?_
  unfold Mut at q ⊢
  rw [go] at q
  exact q
 ·have q' := hob ho q
  have gh : h'.get ho = h.get ho := hg ho (.inr ⟨ho,q',.inl rfl⟩)
  rw [gh] at r
  exact .inr ⟨ho,q',r⟩
theorem ChkP.stay {b : Nat} {h h' : Heap} {o : Nat} {es : List (Int × List Int)} {last : Int} {ov : Bool} {tr : List Int} (hc : ChkP b h o es last ov tr) (hn : h.next <= h'.next) (hg : ∀ x,Foot h o x -> h'.get x = h.get x) : ChkP b h' o es last ov tr := by
 obtain ⟨vs,mo,ces,ins,vv,tv,hm,hgd⟩ := hc
 have hmu : ∀ x,Mut h o x -> h'.get x = h.get x := fun x q => hg x (.inl q)
 have go := hmu o (.inl rfl)
 have hmut' : ∀ x,Mut h' o x ↔ Mut h o x := fun x => by unfold Mut; rw [go]
 refine ⟨vs,mo,ces,ins,vv,tv,⟨go.trans hm.get,hm.bo,Nat.lt_of_lt_of_le hm.ho hn,hm.bm,Nat.lt_of_lt_of_le hm.hm hn,hm.om,(hmu mo ((mut_iff hm.get).2 (.inr (.inl rfl)))).trans hm.map,hm.val.frame hn fun x q => hmu x ((mut_iff hm.get).2 (.inr (.inr (.inl q)))),hm.trl.frame hn fun x q => hmu x ((mut_iff hm.get).2 (.inr (.inr (.inr q)))),hm.voff,hm.toff,hm.two,fun id => (hm.held id).imp (fun q => q) ?_,hm.keys⟩,hgd⟩
 rintro ⟨l,ho,lv,sv,h1,h2,h3⟩
 have hob : HObj h o ho := ⟨_,mo,_,ces,ins,id,hm.get,rfl,hm.map,hasKey_mem h2⟩
 have gh := hg ho (.inr ⟨ho,hob,.inl rfl⟩)
 have sl : ∀ {v : V} {xs : List Int},v ∈ [lv,sv,.bool (both l)] -> SlO .i32 h o v xs -> SlO .i32 h' o v xs := fun hv hs => ⟨Sl.stayN hs.1 hn fun hne x hx _ => hg x (.inr ⟨ho,hob,.inr ⟨_,_,h3.get,hv,by
  rw [hs.1.len]
  intro e
  exact hne (List.length_eq_zero_iff.1 e),hx⟩⟩),fun hne x hx q => hs.2 hne x hx ((hmut' x).1 q)⟩
 exact ⟨l,ho,lv,sv,h1,h2,⟨gh.trans h3.get,Nat.lt_of_lt_of_le h3.lt hn,fun q => h3.off ((hmut' ho).1 q),sl (by simp) h3.lits,sl (by simp) h3.set⟩⟩
theorem ChkP.foot_lt {b : Nat} {h : Heap} {o x : Nat} {es : List (Int × List Int)} {last : Int} {ov : Bool} {tr : List Int} (hc : ChkP b h o es last ov tr) (q : Foot h o x) : x < h.next := by
 rcases q with q | ⟨ho,q,r⟩
 ·exact hc.lt.2 x q
 ·obtain ⟨vs,mo,ces,ins,vv,tv,hm,_⟩ := hc
  obtain ⟨id,lv,sv,l,_,_,hh⟩ := hm.hobj q
  rcases r with rfl | ⟨hs,v,e,hv,hl,hx⟩
  ·exact hh.lt
  ·rw [hh.get] at e
   rw [<- arr_inj e] at hv
   simp only [List.mem_cons,List.not_mem_nil,or_false] at hv
   rcases hv with rfl | rfl | rfl
   ·refine hh.lits.lt (fun e => hl ?_) hx
    rw [hh.lits.1.len,e]
    rfl
   ·refine hh.set.lt (fun e => hl ?_) hx
    rw [hh.set.1.len,e]
    rfl
   ·cases hx
def Sep (h : Heap) (o o' : Nat) : Prop := ∀ x,Foot h o x -> ¬ Foot h o' x
theorem Sep.symm {h : Heap} {o o' : Nat} (hs : Sep h o o') : Sep h o' o := fun x q q' => hs x q' q
theorem Sep.chg {b b' : Nat} {h h' : Heap} {o o' : Nat} {es es' : List (Int × List Int)} {last last' : Int} {ov ov' : Bool} {tr tr' : List Int} (hs : Sep h o o') (hc : ChkP b h o es last ov tr) (hc' : ChkP b' h o' es' last' ov' tr') (c : Chg o h h') : ChkP b' h' o' es' last' ov' tr' /\ Sep h' o o' := by
 have hg : ∀ x,Foot h o' x -> h'.get x = h.get x := fun x q => c.but.get x (hc'.foot_lt q) fun m => hs x (.inl m) q
 refine ⟨hc'.stay c.but.next hg,fun x q q' => ?_⟩
 have q'' := foot_stay hg x q'
 rcases (c.foot hc.wf).2 x q with r | r
 ·exact hs x r q''
 ·have := hc'.foot_lt q''
  omega
theorem Sep.ext {b b' : Nat} {h h' : Heap} {o o' : Nat} {es es' : List (Int × List Int)} {last last' : Int} {ov ov' : Bool} {tr tr' : List Int} (hs : Sep h o o') (hc : ChkP b h o es last ov tr) (hc' : ChkP b' h o' es' last' ov' tr') (x : Ext h h') : Sep h' o o' :=
 fun y q q' => hs y (foot_stay (fun z r => x.get z (hc.foot_lt r)) y q) (foot_stay (fun z r => x.get z (hc'.foot_lt r)) y q')
open Go.Xr Go.Chk
set_option maxHeartbeats 8000000 in
theorem rthrough_ok {b : Nat} {h0 h : Heap} {o : Nat} {es : List (Int × List Int)} {last : Int} {ov : Bool} {yv hv : V} {ys hints : List Int} (hc : RChk b h0 o es last ov) (hl : es.length <= 1000000) (hf : ∀ e ∈ es,Fine e.2 /\ e.2.length <= 1000000) (x0 : Ext h0 h) (hy : Tk h0.next h yv (ys.map (.int .i32)))
  (hh : Sl h0 hv (hints.map (.int .i64))) (hn : ys.length + hints.length <= 100000000) :
  EvCall xprog H0 47 [.ptr o 0 0,yv,hv] h fun v h' => (∃ yv',v = .tup [yv',.bool (decide ((thr es ys hints).2 = 1)),.bool (decide ((thr es ys hints).2 = 2))] /\ Tk h0.next h' yv' ((thr es ys hints).1.map (.int .i32)) /\ (thr es ys hints).1.length <= ys.length + hints.length) /\ Ext h0 h' := by
 refine s_call (fn := xf47) rfl (free _ rfl ..) ?_
 have el := hh.len
 have er := hh.row
 simp only [List.length_map] at el
 simp -implicitDefEqProofs only [xf47,argsFrom_cons,argsFrom_nil]
 repeat' ((first | refine Z0 rfl ?_ | refine Z1 rfl ?_ | refine Z2 ?_ | refine Z3 ?_ | refine Z4 ?_ | refine Z5 ?_ | refine Z6 ?_ | refine Z7 ?_ | refine Z8 ?_ | refine Z9 (fun hif => ?_) (fun hif => ?_) | refine Za (fun hif => ?_) (fun hif => ?_) | refine Zb (fun hif => ?_) (fun hif => ?_) | (refine Zc ?_ ?_; omega) | (refine Zd ?_ ?_; omega) | (refine Ze ?_ ?_; omega)) <;>
  (try simp -implicitDefEqProofs (disch := first | assumption | omega) only [sx,sb,sd,se,xwS,xwO,xwI,oEv,xres,o1f,Nat.reduceAdd,Nat.reduceEqDiff,Nat.reduceSub, ↓reduceIte,reduceCtorEq, *]))
 refine s_while (fun n t d g => ∃ (i : Nat) (yv' : V) (ys' : List Int),i + n = hints.length /\ sO t 9 = .int .i64 i /\ sO t 0 = .ptr o 0 0 /\ sO t 1 = yv' /\ sO t 2 = hv /\ d = [] /\ Ext h0 g /\ Tk h0.next g yv' (ys'.map (.int .i32)) /\ thr es ys' (hints.drop i) = thr es ys hints /\ ys'.length <= ys.length + i) (fun _ _ _ => frC ..) hints.length ⟨0,yv,ys,by omega,by simp [sSe],by simp [sSe],by simp [sSe],by simp [sSe],rfl,x0,hy,by simp,by omega⟩ ?_
 rintro n t d g ⟨i,yv',ys',a1,a2,a3,a4,a5,rfl,a6,a7,a8,a9⟩
 have rx : ∀ (hi : i < hints.length),rCs g (objS hv) (genS hv) (offS hv + i) 1 = some [.int .i64 (hints[i])] := fun hi => (hh.ext a6).at (by simp [hi])
 obtain ⟨Lv,k2,k3,k1,k4⟩ := hc.clause
 replace k1 := k1 g a6
 have hfind : ∀ id,EvCall xprog H0 44 [.ptr o 0 0,.int .i64 id] g fun v h' => (∃ r : Int,v = .int .i64 r /\ ((r < 0 /\ find es id = none) \/ ∃ (i : Nat) (l : List Int),r = i /\ es[i]? = some (id,l) /\ find es id = some l)) /\ h' = g := fun id => rFind_ok (hc.ext a6) hl id
 have ylen := a7.len
 have yrow := a7.row
 simp only [List.length_map] at ylen
 refine s_cut1 (fun t d g1 => sO t 9 = .int .i64 i /\ sO t 0 = .ptr o 0 0 /\ sO t 1 = yv' /\ sO t 2 = hv /\ d = [] /\ g1 = g /\ i < hints.length) ?_ ?_
 ·repeat' ((first | refine Z0 rfl ?_ | refine Z1 rfl ?_ | refine Z2 ?_ | refine Z3 ?_ | refine Z4 ?_ | refine Z5 ?_ | refine Z6 ?_ | refine Z7 ?_ | refine Z8 ?_ | refine Z9 (fun hif => ?_) (fun hif => ?_) | refine Za (fun hif => ?_) (fun hif => ?_) | refine Zb (fun hif => ?_) (fun hif => ?_) | (refine Zc ?_ ?_; omega) | (refine Zd ?_ ?_; omega) | (refine Ze ?_ ?_; omega)) <;>
   (try simp -implicitDefEqProofs (disch := first | assumption | omega) only [sx,sb,sd,se,xwS,xwO,xwI,oEv,xres,o1f,Nat.reduceAdd,Nat.reduceEqDiff,Nat.reduceSub, ↓reduceIte,reduceCtorEq,sf, *]))
  ·omega
  ·rw [List.drop_eq_nil_of_le (by omega)] at a8
   rw [<- a8]
   exact ⟨yv',by simp [thr],a7,by simp [thr]; omega⟩
 clear a2 a3 a4 a5 t
 rintro t d g ⟨a2,a3,a4,a5,rfl,rfl,hi⟩
 replace rx := rx hi
 rw [drop_at hi] at a8
 generalize hints[i] = id at *
 repeat' ((first | refine Z0 rfl ?_ | refine Z1 rfl ?_ | refine Z2 ?_ | refine Z3 ?_ | refine Z4 ?_ | refine Z5 ?_ | refine Z6 ?_ | refine Z7 ?_ | refine Z8 ?_ | refine Z9 (fun hif => ?_) (fun hif => ?_) | refine Za (fun hif => ?_) (fun hif => ?_) | refine Zb (fun hif => ?_) (fun hif => ?_) | (refine Zc ?_ ?_; omega) | (refine Zd ?_ ?_; omega) | (refine Ze ?_ ?_; omega) | ((refine eAc (hfind _) ?_; rintro _ g ⟨⟨r,rfl,⟨hr,hnone⟩ | ⟨p,l,rfl,hat,hsome⟩⟩,rfl⟩; rotate_left; (have hp := (List.getElem?_eq_some_iff.1 hat).1; have hpe := (List.getElem?_eq_some_iff.1 hat).2; obtain ⟨lv,k7,k5⟩ := k4 p hp; obtain ⟨k5,k6⟩ := k5 g a6; rw [hpe] at k7; have hfl := hf (id,l) (List.mem_of_getElem? hat); have ll := k7.len; have lr := k7.row; simp only [List.length_map] at ll hfl); rotate_left))) <;>
  (try simp -implicitDefEqProofs (disch := first | assumption | omega) only [sx,sb,sd,se,xwS,xwO,xwI,oEv,xres,o1f,Nat.reduceAdd,Nat.reduceEqDiff,Nat.reduceSub, ↓reduceIte,reduceCtorEq,sf, *]))
 ·have e : thr es ys hints = (ys',2) := by
   rw [<- a8]
   unfold thr
   rw [hnone]
  rw [e]
  exact ⟨yv',rfl,a7,by simp; omega⟩
 clear rx hfind k1 k2 k3 k4 k5 k6
 have xg := a6
 have hfx : ∀ x ∈ l, -1048576 <= x /\ x <= 1048576 := fun x hx => (hfl.1 x hx).2
 refine s_while (fun m t d g => ∃ (k : Nat) (pv : V) (op : List Int),k + m = l.length /\ sO t 13 = .int .i64 k /\ sO t 12 = lv /\ sO t 11 = pv /\ sO t 9 = .int .i64 i /\ sO t 0 = .ptr o 0 0 /\ sO t 1 = yv' /\ sO t 2 = hv /\ d = [] /\ Ext h0 g /\ Tk h0.next g yv' (ys'.map (.int .i32)) /\ Tk h0.next g pv (op.map (.int .i32)) /\ (∀ x,rOb pv = some x -> rOb yv' ≠ some x) /\ (∀ z,z ∈ op ↔ z ∈ l.take k /\ -z ∉ ys') /\ op.Nodup /\ op.length <= k /\ (∀ z ∈ l.take k,z ∉ ys')) (fun _ _ _ => frC ..) l.length ⟨0,.nils,[],by omega,by simp [sSe],by simp [sSe],by simp [sSe],by simp [sSe,a2],by simp [sSe,a3],by simp [sSe,a4],by simp [sSe,a5],rfl,a6,a7,Tk.nil _ _,(fun x hx => by cases hx),by simp,by simp,Nat.le_refl _,by simp⟩ ?_
 clear a2 a3 a4 a5 a6 a7 t xg
 rintro m t d g ⟨k,pv,op,c1,c2,c3,c4,a2,a3,a4,a5,rfl,a6,a7,c5,c6,c7,c8,c9,c10⟩
 have plen := c5.len
 have prow := c5.row
 simp only [List.length_map] at plen
 have hasY : ∀ x,EvCall xprog H0 63 [yv',.int .i32 x] g fun v h' => v = .bool (decide (x ∈ ys')) /\ h' = g := fun x => Has_ok a7.sl (by omega) x
 have hasP : ∀ x,EvCall xprog H0 63 [pv,.int .i32 x] g fun v h' => v = .bool (decide (x ∈ op)) /\ h' = g := fun x => Has_ok c5.sl (by omega) x
 have rl : ∀ (hk : k < l.length),rCs g (objS lv) (genS lv) (offS lv + k) 1 = some [.int .i32 (l[k])] := fun hk => (k7.ext a6).at (by simp [hk])
 have rp : ∀ (hk : 0 < op.length),rCs g (objS pv) (genS pv) (offS pv) 1 = some [.int .i32 (op[0])] := fun hk => by
  have := c5.sl.at (i := 0) (x := .int .i32 (op[0])) (by simp [hk])
  rwa [Nat.add_zero] at this
 have wn : ∀ (hk : k < l.length),IntKind.i32.wrap (-(l[k])) = -(l[k]) := fun hk => wneg (hfx _ (List.getElem_mem hk)).1 (hfx _ (List.getElem_mem hk)).2
 repeat' ((first | refine Z0 rfl ?_ | refine Z1 rfl ?_ | refine Z2 ?_ | refine Z3 ?_ | refine Z4 ?_ | refine Z5 ?_ | refine Z6 ?_ | refine Z7 ?_ | refine Z8 ?_ | refine Z9 (fun hif => ?_) (fun hif => ?_) | refine Za (fun hif => ?_) (fun hif => ?_) | refine Zb (fun hif => ?_) (fun hif => ?_) | (refine Zc ?_ ?_; omega) | (refine Zd ?_ ?_; omega) | (refine Ze ?_ ?_; omega) | (refine (eCi (hasY _)).2 ?_) | (refine (eCi (hasP _)).2 ?_) | ((refine x_append_tk (c5.ext (Ext.new ..)) (Nat.le_succ_of_le a6.next) (sl_new (get_new ..) (by simp)) rfl (by simp; omega) ?_; rintro pv1 g1 u1 u2 u3)) | ((refine x_append_tk (a7.ext (Ext.new ..)) (Nat.le_succ_of_le a6.next) (sl_new (get_new ..) (by simp)) rfl (by simp; omega) ?_; rintro yv1 g1 u1 u2 u3))) <;>
  (try simp -implicitDefEqProofs (disch := first | assumption | omega) only [sx,sb,sd,se,xwS,xwO,xwI,oEv,xres,o1f,Nat.reduceAdd,Nat.reduceEqDiff,Nat.reduceSub, ↓reduceIte,reduceCtorEq,si,sh,sf,Int.toNat_zero,fillV,parts,over,Nat.beq_refl,Nat.ble, *]))
 ·have hk : k < l.length := by omega
  have e : thr es ys hints = (ys',2) := by
   rw [<- a8]
   unfold thr
   rw [hsome]
   simp only [stepOf_wrong1 (List.getElem_mem hk) (by assumption)]
  rw [e]
  exact ⟨yv',rfl,a7,by simp; omega⟩
 ·have hk : k < l.length := by omega
  refine ⟨m - 1,by omega,k + 1,pv,op,by omega,by simp,rfl,c5,c6,fun z => ?_,c8,by omega,fun z hz => ?_⟩
  ·rw [take_at hk,c7,List.mem_append,List.mem_singleton]
   constructor
   ·rintro ⟨q1,q2⟩; exact ⟨.inl q1,q2⟩
   ·rintro ⟨q1 | rfl,q2⟩
    ·exact ⟨q1,q2⟩
    ·first
      | exact (c7 _).1 (by assumption)
      | exact absurd (by assumption) q2
      | exact ⟨by simpa using hif,q2⟩
  ·rw [take_at hk,List.mem_append,List.mem_singleton] at hz
   rcases hz with hz | rfl
   ·exact c10 z hz
   ·assumption
 ·have hk : k < l.length := by omega
  have hn1 : l[k] ∉ op := fun q => by have := (c7 _).1 q; simp_all
  have hn2 : -l[k] ∉ ys' := by assumption
  refine ⟨m - 1,by omega,k + 1,pv1,op ++ [l[k]],by omega,by simp,rfl,(a6.trans (Ext.new ..)).butI u2 (fun o ho q => by have := c5.lt q; omega),(a7.ext (Ext.new ..)).frame u2.next (fun x hx => u2.get x (Nat.lt_succ_of_lt (a7.lt hx).2) fun q => c6 x q hx),by rw [List.map_append]; exact u1,fun x hx => ?_,fun z => ?_,?_,by simp; omega,fun z hz => ?_⟩
  ·rcases u3 with rfl | e | e
   ·exact c6 x hx
   ·exact c6 x (e ▸ hx)
   ·rw [hx] at e
    cases e
    intro q
    have := a7.lt q
    simp at this
    omega
  ·rw [take_at hk,List.mem_append,List.mem_append,List.mem_singleton,c7]
   constructor
   ·rintro (⟨q1,q2⟩ | rfl)
    ·exact ⟨.inl q1,q2⟩
    ·exact ⟨.inr rfl,hn2⟩
   ·rintro ⟨q1 | rfl,q2⟩
    ·exact .inl ⟨q1,q2⟩
    ·exact .inr rfl
  ·rw [List.nodup_append]
   refine ⟨c8,by simp,fun x hx y hy => ?_⟩
   rw [List.mem_singleton] at hy
   subst hy
   rintro rfl
   exact hn1 hx
  ·rw [take_at hk,List.mem_append,List.mem_singleton] at hz
   rcases hz with hz | rfl
   ·exact c10 z hz
   ·assumption
 ·have hk : k < l.length := by omega
  refine ⟨m - 1,by omega,k + 1,pv,op,by omega,by simp,rfl,c5,c6,fun z => ?_,c8,by omega,fun z hz => ?_⟩
  ·rw [take_at hk,c7,List.mem_append,List.mem_singleton]
   constructor
   ·rintro ⟨q1,q2⟩; exact ⟨.inl q1,q2⟩
   ·rintro ⟨q1 | rfl,q2⟩
    ·exact ⟨q1,q2⟩
    ·first
      | exact (c7 _).1 (by assumption)
      | exact absurd (by assumption) q2
      | exact ⟨by simpa using hif,q2⟩
  ·rw [take_at hk,List.mem_append,List.mem_singleton] at hz
   rcases hz with hz | rfl
   ·exact c10 z hz
   ·assumption
 all_goals
  have hk : k = l.length := by omega
  subst hk
  rw [List.take_length] at c10
  simp only [List.take_length] at c7
 ·have e : thr es ys hints = (ys',1) := by
   rw [<- a8]
   unfold thr
   rw [hsome]
   have : op = [] := List.eq_nil_of_length_eq_zero (by omega)
   subst this
   simp only [stepOf_conflict fun x hx => ⟨c10 x hx,Classical.byContradiction fun hn => by have := (c7 x).2 ⟨hx,hn⟩; cases this⟩]
  rw [e]
  exact ⟨yv',rfl,a7,by simp; omega⟩
 ·have e : thr es ys hints = (ys',2) := by
   rw [<- a8]
   unfold thr
   rw [hsome]
   have h1 : 1 < op.length := by omega
   have m0 := (c7 _).1 (List.getElem_mem (show 0 < op.length by omega))
   have m1 := (c7 _).1 (List.getElem_mem h1)
   simp only [stepOf_wrong2 m0.1 m1.1 (fun e => by have := (List.getElem_inj c8).1 e; omega) m0.2 m1.2]
  rw [e]
  exact ⟨yv',rfl,a7,by simp; omega⟩
 ·have h1 : op.length = 1 := by omega
  have m0 := (c7 _).1 (List.getElem_mem (show 0 < op.length by omega))
  have hall : ∀ z ∈ op,z = op[0] := fun z hz => by
   obtain ⟨j,hj,rfl⟩ := List.getElem_of_mem hz
   have : j = 0 := by omega
   subst this
   rfl
  have e : thr es (ys' ++ [op[0]]) (hints.drop (i + 1)) = thr es ys hints := by
   rw [<- a8]
   conv => rhs; unfold thr
   rw [hsome]
   simp only [stepOf_unit c10 m0.1 m0.2 fun y hy hn => hall y ((c7 y).2 ⟨hy,hn⟩)]
  refine ⟨n - 1,by omega,i + 1,yv1,ys' ++ [op[0]],by omega,by simp,rfl,(a6.trans (Ext.new ..)).butI u2 (fun o ho q => by have := a7.lt q; omega),by rw [List.map_append]; exact u1,e,by simp; omega⟩
open Go.Xr Go.Chk
set_option maxHeartbeats 8000000 in
theorem rgroup_ok {b : Nat} {h : Heap} {o : Nat} {es : List (Int × List Int)} {last : Int} {ov : Bool} {lv yv hv : V} {l ys hints : List Int} {p : Int} (hc : RChk b h o es last ov) (hl : es.length <= 1000000) (hf : ∀ e ∈ es,Fine e.2 /\ e.2.length <= 1000000) (hlv : Sl h lv (l.map (.int .i32))) (hfl : Fine l) (hll : l.length <= 1000000) (hp : -1048576 <= p /\ p <= 1048576) (hy : Sl h yv (ys.map (.int .i32)))
  (hh : Sl h hv (hints.map (.int .i64))) (hn : ys.length + hints.length <= 10000000) :
  EvCall xprog H0 64 [.ptr o 0 0,lv,.int .i32 p,yv,hv] h fun v h' => v = .int .i64 (groupOf es l p ys hints) /\ Ext h h' := by
 refine s_call (fn := xf64) rfl (free _ rfl ..) ?_
 have el := hlv.len
 have er := hlv.row
 simp only [List.length_map] at el
 have wp : IntKind.i32.wrap (-p) = -p := wneg hp.1 hp.2
 simp -implicitDefEqProofs only [xf64,argsFrom_cons,argsFrom_nil]
 repeat' ((first | refine Z0 rfl ?_ | refine Z1 rfl ?_ | refine Z2 ?_ | refine Z3 ?_ | refine Z4 ?_ | refine Z5 ?_ | refine Z6 ?_ | refine Z7 ?_ | refine Z8 ?_ | refine Z9 (fun hif => ?_) (fun hif => ?_) | refine Za (fun hif => ?_) (fun hif => ?_) | refine Zb (fun hif => ?_) (fun hif => ?_) | (refine Zc ?_ ?_; omega) | (refine Zd ?_ ?_; omega) | (refine Ze ?_ ?_; omega) | ((refine x_append_tk (Tk.nil h.next h) (Nat.le_refl _) hy (one_map _ _) (by simp; omega) ?_; rintro nv0 g0 u1 u2 u3; have y0 : Ext h g0 := (Ext.refl h).butI u2 (fun o ho q => by cases q)))) <;>
  (try simp -implicitDefEqProofs (disch := first | assumption | omega) only [sx,sb,sd,se,xwS,xwO,xwI,oEv,xres,o1f,Nat.reduceAdd,Nat.reduceEqDiff,Nat.reduceSub, ↓reduceIte,reduceCtorEq, *]))
 refine s_while (fun n t d g => ∃ (i : Nat) (nv : V),i + n = l.length /\ sO t 12 = .int .i64 i /\ sO t 11 = nv /\ sO t 0 = .ptr o 0 0 /\ sO t 1 = lv /\ sO t 2 = .int .i32 p /\ sO t 3 = yv /\ sO t 4 = hv /\ d = [] /\ Ext h g /\ Tk h.next g nv ((ys ++ ((l.take i).filter fun x => decide (x ≠ -p)).map fun x => -x).map (.int .i32)) /\ ∀ x ∈ l.take i, ¬ (x ≠ -p /\ (x ∈ ys \/ -x ∈ l))) (fun _ _ _ => frC ..) l.length ⟨0,nv0,by omega,by simp [sSe],by simp [sSe],by simp [sSe],by simp [sSe],by simp [sSe],by simp [sSe],by simp [sSe],rfl,y0,by simpa using u1,by simp⟩ ?_
 rintro n t d g ⟨i,nv,a1,a2,a3,a4,a5,a6,a7,a8,rfl,xg,k1,k2⟩
 have rl : ∀ (hi : i < l.length),rCs g (objS lv) (genS lv) (offS lv + i) 1 = some [.int .i32 (l[i])] := fun hi => (hlv.ext xg).at (by simp [hi])
 have hasY : ∀ x,EvCall xprog H0 63 [yv,.int .i32 x] g fun v h' => v = .bool (decide (x ∈ ys)) /\ h' = g := fun x => Has_ok (hy.ext xg) (by omega) x
 have hasL : ∀ x,EvCall xprog H0 63 [lv,.int .i32 x] g fun v h' => v = .bool (decide (x ∈ l)) /\ h' = g := fun x => Has_ok (hlv.ext xg) (by omega) x
 have wn : ∀ (hi : i < l.length),IntKind.i32.wrap (-(l[i])) = -(l[i]) := fun hi => wneg (hfl _ (List.getElem_mem hi)).2.1 (hfl _ (List.getElem_mem hi)).2.2
 have hth : ∀ {nv : V} {now : List Int},Tk h.next g nv (now.map (.int .i32)) -> now.length <= 20000000 -> EvCall xprog H0 47 [.ptr o 0 0,nv,hv] g fun v h' => (∃ yv',v = .tup [yv',.bool (decide ((thr es now hints).2 = 1)),.bool (decide ((thr es now hints).2 = 2))] /\ Tk h.next h' yv' ((thr es now hints).1.map (.int .i32)) /\ (thr es now hints).1.length <= now.length + hints.length) /\ Ext h h' := fun k hk => rthrough_ok hc hl hf xg k hh (by omega)
 have hnl : (ys ++ ((l.take i).filter fun x => decide (x ≠ -p)).map fun x => -x).length <= ys.length + i := by
  rw [List.length_append,List.length_map]
  have := List.length_filter_le (fun x => decide (x ≠ -p)) (l.take i)
  rw [List.length_take] at this
  omega
 repeat' ((first | refine Z0 rfl ?_ | refine Z1 rfl ?_ | refine Z2 ?_ | refine Z3 ?_ | refine Z4 ?_ | refine Z5 ?_ | refine Z6 ?_ | refine Z7 ?_ | refine Z8 ?_ | refine Z9 (fun hif => ?_) (fun hif => ?_) | refine Za (fun hif => ?_) (fun hif => ?_) | refine Zb (fun hif => ?_) (fun hif => ?_) | (refine Zc ?_ ?_; omega) | (refine Zd ?_ ?_; omega) | (refine Ze ?_ ?_; omega) | (refine (eCi (hasY _)).2 ?_) | (refine (eCi (hasL _)).2 ?_) | ((refine x_append_tk (k1.ext (Ext.new ..)) (Nat.le_succ_of_le xg.next) (sl_new (get_new ..) (by simp)) rfl (by simp only [List.length_map,List.length_cons,List.length_nil]; omega) ?_; rintro nv1 g1 u1 u2 u3)) | ((refine eAc (hth k1 (by omega)) ?_; rintro _ g1 ⟨⟨rv,rfl,_,_⟩,x2⟩))) <;>
  (try simp -implicitDefEqProofs (disch := first | assumption | omega) only [sx,sb,sd,se,xwS,xwO,xwI,oEv,xres,o1f,Nat.reduceAdd,Nat.reduceEqDiff,Nat.reduceSub, ↓reduceIte,reduceCtorEq,si,sh,sg,sf,Int.toNat_zero,fillV,parts,over,Nat.beq_refl,Nat.ble, *]))
 ·have hi : i < l.length := by omega
  refine ⟨n - 1,by omega,i + 1,nv,by omega,by simp,rfl,?_,fun x hx => ?_⟩
  ·rw [take_at hi,List.filter_append,List.filter_cons,if_neg (by simp [hif]),List.filter_nil,List.append_nil]
   exact k1
  ·rw [take_at hi,List.mem_append,List.mem_singleton] at hx
   rcases hx with hx | rfl
   ·exact k2 x hx
   ·exact fun q => q.1 hif
 ·rw [group_any (List.getElem_mem (show i < l.length by omega)) (by assumption) (.inl (by assumption))]
 ·rw [group_any (List.getElem_mem (show i < l.length by omega)) (by assumption) (.inr (by assumption))]
 ·have hi : i < l.length := by omega
  have hne : l[i] ≠ -p := by assumption
  have hny : l[i] ∉ ys := by assumption
  have hnl : -l[i] ∉ l := by assumption
  refine ⟨n - 1,by omega,i + 1,nv1,by omega,by simp,rfl,(xg.trans (Ext.new ..)).butI u2 (fun o ho q => by have := k1.lt q; omega),?_,fun x hx => ?_⟩
  ·rw [take_at hi,List.filter_append,List.filter_cons,if_pos (decide_eq_true hne),List.filter_nil]
   simpa using u1
  ·rw [take_at hi,List.mem_append,List.mem_singleton] at hx
   rcases hx with hx | rfl
   ·exact k2 x hx
   ·exact fun q => q.2.elim hny hnl
 all_goals
  have hi : i = l.length := by omega
  subst hi
  rw [List.take_length] at k2
  rw [group_thr k2]
  have hle := thr_le es hints (ys ++ (l.filter fun x => decide (x ≠ -p)).map (fun x => -x))
  simp only [List.take_length] at *
  generalize (thr es (ys ++ (l.filter fun x => decide (x ≠ -p)).map (fun x => -x)) hints).2 = code at *
 ·subst hif; rfl
 ·have : code = 0 := by simp at hif; omega
  subst this; rfl
 ·have : code = 1 := by simpa using hif
  subst this; rfl
end Go.Proofs.YtmkbnbpblhoekaaGreat
