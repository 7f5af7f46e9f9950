/- Part of a proof for X's executor: what the program's functions answer. -/
import Derived.Test.YtmkbnbpblhoekaaGreatU10
import Derived.Test.YtmkbnbpblhoekaaGreatU16
import Derived.Test.YtmkbnbpblhoekaaGreatU15
set_option linter.unusedSimpArgs false
set_option linter.unusedVariables false
set_option linter.unusedSectionVars false
namespace Go.Proofs.YtmkbnbpblhoekaaGreat
open Go.Xr Go.Chk
theorem four_of {cs : List V} {k : Nat} {x0 x1 x2 x3 : V} (h0 : cs[k]? = some x0) (h1 : cs[k + 1]? = some x1) (h2 : cs[k + 2]? = some x2) (h3 : cs[k + 3]? = some x3) : (cs.drop k).take 4 = [x0,x1,x2,x3] := by
 apply List.ext_getElem?
 intro j
 rw [List.getElem?_take]
 by_cases hj : j < 4
 ·rw [if_pos hj,List.getElem?_drop]
  have : j = 0 \/ j = 1 \/ j = 2 \/ j = 3 := by omega
  rcases this with rfl | rfl | rfl | rfl
  ·simpa using h0
  ·simpa using h1
  ·simpa using h2
  ·simpa using h3
 ·rw [if_neg hj,List.getElem?_eq_none (by simp; omega)]
theorem GrN.cell4 {b : Nat} {h : Heap} {v : V} {cs : List V} {n i : Nat} (hs : GrN 4 b h v cs n) (hi : i < n) {x0 x1 x2 x3 : V} (h0 : cs[i * 4]? = some x0) (h1 : cs[i * 4 + 1]? = some x1) (h2 : cs[i * 4 + 2]? = some x2) (h3 : cs[i * 4 + 3]? = some x3) : rCs h (objS v) (genS v) (offS v + i * 4) 4 = some [x0,x1,x2,x3] := by
 rcases hs with ⟨_,_,rfl⟩ | ⟨o,g,r,_,_,rfl,hl,hg⟩
 ·omega
 ·show rCs h o g (0 + i * 4) 4 = _
  rw [Nat.zero_add,readCells_grownE hg (by omega),four_of h0 h1 h2 h3]
theorem slc_one {b : Nat} {h : Heap} {v : V} {cs : List V} {n i : Nat} {K : V -> Heap -> Prop} (hs : GrN 4 b h v cs n) (hi : i < n) (hk : ∀ ov gn r cap,v = .slice ov gn 0 n (.rest 0 4) -> h.get ov = some (grownObj cs gn r 4) -> ov < h.next -> K (.slice ov gn (i * 4) 1 cap) h) : XSlc h 4 v (some (.int .i64 (i : Int))) (some (.int .i64 ((i : Int) + 1))) none K := by
 rcases hs with ⟨_,_,rfl⟩ | ⟨o,g,r,_,h2,rfl,hl,hg⟩
 ·omega
 ·refine slcE_eq (lo := some (i : Int)) (hi := some ((i : Int) + 1)) (k := .i64) (k' := .i64) (fun x hx => by cases hx; omega) (fun x hx => by cases hx; omega) (r := .slice o g (i * 4) 1 (.rest (0 + i) 4)) ?_ (hk o g r _ rfl hg h2)
  have e1 : ((i : Int) + 1).toNat = i + 1 := by omega
  have e2 : Nat.ble i (i + 1) = true := Nat.ble_eq_true_of_le (Nat.le_succ _)
  have e3 : Nat.ble (i + 1) n = true := Nat.ble_eq_true_of_le hi
  simp only [Option.map_some,Int.toNat_natCast,e1]
  unfold sliceV
  simp only [Option.getD_some,Nat.beq_refl,e2,e3,Bool.true_and,Bool.true_or,Nat.zero_add,Nat.add_sub_cancel_left]
theorem Tk.cutH {b m : Nat} {h : Heap} {v : V} {xs : List V} (hs : Tk b h v xs) (hx : ∀ x,rOb v = some x -> x < m) : Tk b { h with next := m } v xs := by
 rcases hs with ⟨rfl,rfl⟩ | ⟨o,g,r,cs,h1,h2,rfl,h4,h5⟩
 ·exact .inl ⟨rfl,rfl⟩
 ·exact .inr ⟨o,g,r,cs,h1,hx o rfl,rfl,h4,h5⟩
theorem cut_ext {m : Nat} {h : Heap} (hm : m <= h.next) : Ext { h with next := m } h := ⟨hm,fun _ _ => rfl⟩
theorem LentS.get {b T : Nat} {h : Heap} {v : V} {l : List Stp} {i : Nat} (hs : LentS b T h v l i) (hi : i < l.length) : ∃ lv hv,rCs h (objS v) (genS v) (offS v + i * 4) 4 = some [.int .u8 (l[i]).kind,.int .i64 (l[i]).id,lv,hv] /\ Tk b h lv ((l[i]).lits.map (.int .i32)) /\ Tk b h hv ((l[i]).hints.map (.int .i64)) /\ (∀ x,rOb lv = some x -> x < T) /\ (∀ x,rOb hv = some x -> x < T) /\ rowS v = true /\ lenS v = l.length := by
 obtain ⟨cs,ls,hs,h1,h2,h3,h4,h5,h6,h7⟩ := hs
 obtain ⟨q1,q2,q3,q4,q5,q6⟩ := h2 i hi (Nat.le_refl _)
 exact ⟨_,_,GrN.cell4 h1 hi q1 q2 q3 q4,q5,q6,fun x hx => h7 i x hi (.inl hx),fun x hx => h7 i x hi (.inr hx),h1.row,h1.len⟩
theorem LentS.spoil {b T : Nat} {h : Heap} {v : V} {l : List Stp} {i : Nat} {K : V -> Heap -> Prop} (hs : LentS b T h v l i) (hi : i < l.length) (hl : (l[i]).lits.length <= 1000000) (hh : (l[i]).hints.length <= 1000000)
  (hk : ∀ w,(EvCall xprog H0 14 [w] h fun _ h' => LentS b T h' v l (i + 1) /\ h'.next = h.next /\ ∀ x,x < h.next -> T <= x \/ x < b -> h'.get x = h.get x) -> K w h) : XSlc h 4 v (some (.int .i64 (i : Int))) (some (.int .i64 ((i : Int) + 1))) none K := by
 obtain ⟨cs,ls,hs,h1,h2,h3,h4,h5,h6,h7⟩ := hs
 obtain ⟨q1,q2,q3,q4,q5,q6⟩ := h2 i hi (Nat.le_refl _)
 have hsz := h1.size
 refine slc_one h1 hi fun ov gn r cap e hg hov => hk _ ?_
 have ho : rOb v = some ov := by rw [e]; rfl
 refine (Spoil_ok rfl hov hg (by omega) q3 q4 q5 q6 (fun x hx e => h3 i x hi (.inl hx) (e ▸ ho)) (fun x hx e => h3 i x hi (.inr hx) (e ▸ ho)) (fun x hx => h5 i x hi hx) hl hh).mono fun _ h' ⟨w1,w2,w3⟩ => ?_
 refine ⟨⟨cs.set (i * 4 + 1) (.int .i64 99),ls,hs,.inr ⟨ov,gn,[],(h1.lt ho).1,by omega,e,by rw [List.length_set]; exact hsz,w1⟩,fun j hj hij => ?_,h3,h4,h5,h6,h7⟩,w2,fun x hx q => ?_⟩
 ·obtain ⟨p1,p2,p3,p4,p5,p6⟩ := h2 j hj (by omega)
  rw [List.getElem?_set_ne (by omega),List.getElem?_set_ne (by omega),List.getElem?_set_ne (by omega),List.getElem?_set_ne (by omega)]
  refine ⟨p1,p2,p3,p4,p5.frame (by omega) fun x hx => w3 x (p5.lt hx).2 (fun e => h3 j x hj (.inl hx) (e ▸ ho)) (fun e => h4 i j x (by omega) hj (.inl e) (.inl hx)) (fun e => h4 i j x (by omega) hj (.inr e) (.inl hx)),p6.frame (by omega) fun x hx => w3 x (p6.lt hx).2 (fun e => h3 j x hj (.inr hx) (e ▸ ho)) (fun e => h4 i j x (by omega) hj (.inl e) (.inr hx)) (fun e => h4 i j x (by omega) hj (.inr e) (.inr hx))⟩
 ·have b1 := h1.lt ho
  have b2 := h6 ov ho
  exact w3 x hx (fun e => by subst e; omega) (fun e => by have := q5.lt e; have := h7 i x hi (.inl e); omega) (fun e => by have := q6.lt e; have := h7 i x hi (.inr e); omega)
open Go.Xr Go.Chk
structure Side (T b : Nat) (g : Heap) (o om : Nat) (s : Chs) : Prop where
 chk : ChkP b g o s.es s.last s.over []
 foot : ∀ x,Foot g o x -> T <= x
 doc : ∃ F,RChkF F T g om s.es s.last s.over /\ (∀ x,F x -> T <= x /\ x < g.next /\ ¬ Foot g o x)
theorem Side.ext {T b : Nat} {g g' : Heap} {o om : Nat} {s : Chs} (h : Side T b g o om s) (x : Ext g g') : Side T b g' o om s := by
 have hf := foot_stay (fun z r => x.get z (h.chk.foot_lt r))
 obtain ⟨F,q1,q2⟩ := h.doc
 exact ⟨h.chk.ext x,fun y q => h.foot y (hf y q),F,q1.ext x,fun y q => ⟨(q2 y q).1,Nat.lt_of_lt_of_le (q2 y q).2.1 x.next,fun r => (q2 y q).2.2 (hf y r)⟩⟩
theorem Side.old {T b : Nat} {g g' : Heap} {o om : Nat} {s : Chs} (h : Side T b g o om s) (hn : g'.next = g.next) (hg : ∀ x,x < g.next -> T <= x -> g'.get x = g.get x) : Side T b g' o om s := by
 have hf' : ∀ z,Foot g o z -> g'.get z = g.get z := fun z r => hg z (h.chk.foot_lt r) (h.foot z r)
 have hf := foot_stay hf'
 obtain ⟨F,q1,q2⟩ := h.doc
 exact ⟨h.chk.stay (by omega) hf',fun y q => h.foot y (hf y q),F,q1.stay (by omega) fun y q r => hg y r (q2 y q).1,fun y q => ⟨(q2 y q).1,by have := (q2 y q).2.1; omega,fun r => (q2 y q).2.2 (hf y r)⟩⟩
theorem Side.step {T b : Nat} {g g2 g3 : Heap} {o om : Nat} {s s' : Chs} {F : Nat -> Prop} (h : Side T b g o om s) (hT : T <= g.next) (c : Chg o g g2) (k : ChkP b g2 o s'.es s'.last s'.over [])
  (q2 : ∀ x,F x -> T <= x /\ x < g.next /\ ¬ Foot g o x) (d : RChkF (fun x => F x \/ g2.next <= x) T g3 om s'.es s'.last s'.over) (bF : But F g2 g3) : Side T b g3 o om s' := by
 have hn := c.but.next
 have f2 : ∀ x,Foot g2 o x -> T <= x /\ ¬ F x := fun x q => by
  rcases (c.foot h.chk.wf).2 x q with r | r
  ·exact ⟨h.foot x r,fun e => (q2 x e).2.2 r⟩
  ·exact ⟨by omega,fun e => by have := q2 x e; omega⟩
 have hf' : ∀ z,Foot g2 o z -> g3.get z = g2.get z := fun z r => bF.get z (k.foot_lt r) (f2 z r).2
 have hf := foot_stay hf'
 refine ⟨k.stay bF.next hf',fun x q => (f2 x (hf x q)).1,_,d.lt,fun x q => ⟨q.1.elim (fun e => (q2 x e).1) fun e => by omega,q.2,fun r => ?_⟩⟩
 have r' := hf x r
 rcases q.1 with e | e
 ·exact (f2 x r').2 e
 ·have := k.foot_lt r'
  omega
theorem step_idsP {P : Int -> Prop} {s : Chs} {may : Bool} {kind id : Int} {l hints : List Int} (h : ∀ e ∈ s.es,P e.1) (hid : P id) : ∀ e ∈ (s.step may kind id l hints).2.es,P e.1 := by
 unfold Chs.step
 repeat' split
 all_goals first
  | exact h
  | exact fun e he => h e (List.mem_filter.1 he).1
  | exact fun e he => (List.mem_append.1 he).elim (h e) fun he => by rw [List.mem_singleton.1 he]; exact hid
theorem LentC.row {b : Nat} {h : Heap} {v : V} {cs : List (List Int)} (hc : LentC b h v cs) : rowS v = true :=
 let ⟨_,h1,_⟩ := hc
 h1.row
set_option maxHeartbeats 8000000 in
theorem plays_ok {h : Heap} {vars : Int} {cv sv : V} {cs : List (List Int)} {l : List StV} (hc : Cls h cv cs) (hs : Stps h sv l) (hobj : ∀ s ∈ l, ∀ x,rOb s.hv = some x -> x < h.next) (hx : ∀ c ∈ cs, ∀ x ∈ c,I32ok x) (hids : ∀ s ∈ l,(Lit.int .i64 s.s.id).wf = true) :
  EvCall xprog H0 3 [.agg [.int .i64 vars,cv],sv] h fun v h' => v = .bool true /\ Ext h h' := by
 refine s_call (fn := xf3) rfl (free _ rfl ..) ?_
 generalize hH1 : nCs h [.int .i64 vars,cv] 1 false = H1
 have x1 : Ext h H1 := hH1 ▸ Ext.new ..
 have g1 : H1.get h.next = some (arr [.int .i64 vars,cv] 1 false) := by rw [<- hH1]; exact get_new ..
 have hlt1 : h.next < H1.next := by rw [<- hH1]; simp
 have rA : ∀ {g},Ext H1 g -> rCs g h.next 0 0 2 = some [.int .i64 vars,cv] /\ rCs g h.next 0 0 1 = some [.int .i64 vars] /\ rCs g h.next 0 1 1 = some [cv] := fun x =>
  have q := (x.get h.next hlt1).trans g1
  ⟨readCells_arr q (by simp),rCl (off := 0) q rfl,rCl (off := 1) q rfl⟩
 obtain ⟨rA0,rA1,rA2⟩ := rA (Ext.refl H1)
 have el := hs.len
 have er := hs.sl.row
 have hla := large2_ok (vars := vars) (hc.ext x1) (hs.ext x1)
 simp -implicitDefEqProofs only [xf3,argsFrom_cons,argsFrom_nil]
 refine s_cut2 (fun t d g' => sO t 2 = .ptr h.next 0 0 /\ sO t 1 = sv /\ d = [] /\ Ext H1 g' /\ cs.length <= 200 /\ done cs cs.length <= 1500 /\ l.length <= 1500 /\ ∀ s ∈ l,s.s.lits.length <= 1500 /\ s.s.hints.length <= 1500) ?_ ?_
 ·repeat' ((first | refine Z0 rfl ?_ | refine Z1 rfl ?_ | refine Z2 ?_ | refine Z3 ?_ | refine Z4 ?_ | refine Z5 ?_ | refine Z6 ?_ | refine Z7 ?_ | refine Z8 ?_ | refine Z9 (fun hif => ?_) (fun hif => ?_) | refine Za (fun hif => ?_) (fun hif => ?_) | refine Zb (fun hif => ?_) (fun hif => ?_) | (refine Zc ?_ ?_; omega) | (refine Zd ?_ ?_; omega) | (refine Ze ?_ ?_; omega) | refine Zf rfl ?_ | (refine And.intro (a := stays _ _ _ = true) ?_ ?_; focus (simp -implicitDefEqProofs (disch := first | assumption | omega) only [sx,sb,sd,se,xwS,xwO,xwI,oEv,xres,o1f,Nat.reduceAdd,Nat.reduceEqDiff,Nat.reduceSub, ↓reduceIte,reduceCtorEq,stays,wantedV,V.same_refl,Bool.and_self,Bool.and_true,beq_self_eq_true,Bool.true_beq,Bool.false_beq,wrap_i64,Nat.zero_add,Nat.add_zero, *]; done)) | ((refine eAc hla ?_; rintro _ g2 ⟨⟨bl,rfl,hbl⟩,x2⟩; obtain ⟨rB0,rB1,rB2⟩ := rA x2; cases bl)) | ((refine eAc (works_ok _) ?_; rintro _ gw ⟨rfl,xw⟩))) <;>
   (try simp -implicitDefEqProofs (disch := first | assumption | omega) only [sx,sb,sd,se,xwS,xwO,xwI,oEv,xres,o1f,Nat.reduceAdd,Nat.reduceEqDiff,Nat.reduceSub, ↓reduceIte,reduceCtorEq,wrap_i64,Nat.zero_add,Nat.add_zero, *]))
  ·exact hbl rfl
  ·exact x1.trans (x2.trans xw)
 clear rA0 rA1 rA2 hla
 rintro t d g ⟨a2,a1,rfl,xg,hcl,hdn,hl15,hll'⟩
 have hll : Kept (∀ s ∈ l,s.s.lits.length <= 1500 /\ s.s.hints.length <= 1500) := hll'
 have hidk : Kept (∀ s ∈ l,(Lit.int .i64 s.s.id).wf = true) := hids
 have hobk : Kept (∀ s ∈ l, ∀ x,rOb s.hv = some x -> x < h.next) := hobj
 have hLent : ∀ {g2},Ext H1 g2 -> EvCall xprog H0 7 [sv] g2 fun v h' => LentS g2.next h'.next h' v (l.map StV.s) 0 /\ Ext g2 h' := fun x => Lent_ok (hs.ext (x1.trans x)) (by omega) fun s hm => by have := hll' s hm; omega
 clear hll' hids hobj
 obtain ⟨rA0,rA1,rA2⟩ := rA xg
 have hlent := lent_ok (vars := vars) ((hc.ext x1).ext xg) (by omega) fun c hm => by have := done_mem hm; omega
 refine s_cut1 (fun t d G => sO t 2 = .ptr h.next 0 0 /\ sO t 1 = sv /\ d = [] /\ ∃ g2 dv wv q,sO t 5 = .ptr q 0 0 /\ sO t 6 = wv /\ Ext g g2 /\ LentC g.next g2 dv cs /\ Ext g2 G /\ g2.next <= q /\ q < G.next /\ G.get q = some (arr [.int .i64 vars,dv] 1 false) /\ LentS g2.next G.next G wv (l.map StV.s) 0) ?_ ?_
 ·repeat' ((first | refine Z0 rfl ?_ | refine Z1 rfl ?_ | refine Z2 ?_ | refine Z3 ?_ | refine Z4 ?_ | refine Z5 ?_ | refine Z6 ?_ | refine Z7 ?_ | refine Z8 ?_ | refine Z9 (fun hif => ?_) (fun hif => ?_) | refine Za (fun hif => ?_) (fun hif => ?_) | refine Zb (fun hif => ?_) (fun hif => ?_) | (refine Zc ?_ ?_; omega) | (refine Zd ?_ ?_; omega) | (refine Ze ?_ ?_; omega) | refine Zf rfl ?_ | (refine And.intro (a := stays _ _ _ = true) ?_ ?_; focus (simp -implicitDefEqProofs (disch := first | assumption | omega) only [sx,sb,sd,se,xwS,xwO,xwI,oEv,xres,o1f,Nat.reduceAdd,Nat.reduceEqDiff,Nat.reduceSub, ↓reduceIte,reduceCtorEq,stays,wantedV,V.same_refl,Bool.and_self,Bool.and_true,beq_self_eq_true,Bool.true_beq,Bool.false_beq,si,sh,wrap_i64,Nat.zero_add,Nat.add_zero,cellsOf_slice,fillV,parts,over,Nat.beq_refl,Nat.ble, *]; done)) | ((refine eAc hlent ?_; rintro _ g2 ⟨⟨dv,rfl,lc⟩,x2⟩; have wdv := lc.row)) | ((refine eAc (hLent (xg.trans x2)) ?_; rintro wv g3 ⟨ls,x3⟩)) | ((refine ⟨_,writeAll (o := g3.next) (cs := [.int .i64 0,.nils]) (get_new ..) rfl (by rw [List.all_cons,List.all_cons,one_row wdv]; rfl),?_⟩))) <;>
   (try simp -implicitDefEqProofs (disch := first | assumption | omega) only [sx,sb,sd,se,xwS,xwO,xwI,oEv,xres,o1f,Nat.reduceAdd,Nat.reduceEqDiff,Nat.reduceSub, ↓reduceIte,reduceCtorEq,si,sh,wrap_i64,Nat.zero_add,Nat.add_zero,cellsOf_slice,fillV,parts,over,Nat.beq_refl,Nat.ble, *]))
  have xp : Ext g3 ((nCs g3 [.int .i64 0,.nils] 1 false).put g3.next (arr [.int .i64 vars,dv] 1 false)) := (Ext.new ..).put _ (Nat.le_refl _)
  exact ⟨g2,dv,wv,g3.next,rfl,rfl,x2,lc,x3.trans xp,x3.next,Nat.lt_succ_self _,by rw [Heap.get_put,if_pos rfl],(ls.stay xp.next fun x _ q => xp.get x q).up xp.next⟩
 clear hlent hLent a1 a2 t rA0 rA1 rA2
 rintro t d G ⟨a2,a1,rfl,g2,dv,wv,q,a5,a6,x2,lc,xG,hq1,hq2,gq,ls⟩
 have xG1 := xg.trans (x2.trans xG)
 obtain ⟨rA0,rA1,rA2⟩ := rA xG1
 have rq := readCells_arr (off := 0) (n := 2) gq (by simp)
 have hnA := NewF_ok (vars := vars) (lc.cls.ext xG) hx (by omega) (by omega)
 have hnB : ∀ {g4},Ext G g4 -> _ := fun {g4} x => rNew_ok (vars := vars) ((hc.ext x1).ext (xG1.trans x)) hx (by omega) (by omega)
 by_cases hr : rightOf vars cs = 0
 ·have hrA : Right6 0 (Chk.start cs ⟨[],0,false⟩ 1) 200 := by
   have := begun_right (b := 0) cs ⟨[],0,false⟩ 1 0 ⟨⟨.nil,fun e he => by cases he⟩,(fun e he => by cases he),Nat.le_refl _,Nat.le_refl _⟩ (fun c hm => ⟨right_fine hr c hm,by have := done_mem hm; omega⟩) (by decide) (by decide)
   exact ⟨this.rise,this.fine,by have := this.len; omega,Nat.le_trans this.tot (Nat.mul_le_mul_right _ (by omega))⟩
  have hla := begun_last cs ⟨[],0,false⟩ 1 (by decide)
  have hidA : ∀ e ∈ (Chk.start cs ⟨[],0,false⟩ 1).es,(Lit.int .i64 e.1).wf = true := fun e he => by
   have := hrA.rise.2 e he
   exact wf_i64 this.2 (by omega)
  generalize Chk.start cs ⟨[],0,false⟩ 1 = sA at *
  clear hla
  have hnA : EvCall xprog H0 8 [.agg [.int .i64 vars,dv]] G fun v h' => (∃ o b,v = .tup [.ptr o 0 0,.int .i64 0] /\ G.next <= b /\ ChkP b h' o sA.es sA.last sA.over [] /\ ∀ x,Foot h' o x -> G.next <= x) /\ Ext G h' := hnA.mono fun v g ⟨q1,q2⟩ => ⟨q1.elim (fun q => absurd hr q.1) fun q => q.2,q2⟩
  have hnB : ∀ {g4},Ext G g4 -> EvCall xprog H0 9 [.agg [.int .i64 vars,cv]] g4 fun v h' => (∃ o,v = .tup [.ptr o 0 0,.int .i64 0] /\ RChkF (fun x => g4.next <= x) g4.next h' o sA.es sA.last sA.over) /\ Ext g4 h' := fun x => (hnB x).mono fun v g ⟨q1,q2⟩ => ⟨q1.elim (fun q => absurd hr q.1) fun q => q.2,q2⟩
  refine s_cut2 (fun t d g' => sO t 2 = .ptr h.next 0 0 /\ sO t 1 = sv /\ sO t 5 = .ptr q 0 0 /\ sO t 6 = wv /\ sO t 8 = .int .i64 0 /\ sO t 10 = .int .i64 0 /\ d = [] /\ ∃ o om b,sO t 7 = .ptr o 0 0 /\ sO t 9 = .ptr om 0 0 /\ G.next <= b /\ Ext G g' /\ Side G.next b g' o om sA) ?_ ?_
  ·repeat' ((first | refine Z0 rfl ?_ | refine Z1 rfl ?_ | refine Z2 ?_ | refine Z3 ?_ | refine Z4 ?_ | refine Z5 ?_ | refine Z6 ?_ | refine Z7 ?_ | refine Z8 ?_ | refine Z9 (fun hif => ?_) (fun hif => ?_) | refine Za (fun hif => ?_) (fun hif => ?_) | refine Zb (fun hif => ?_) (fun hif => ?_) | (refine Zc ?_ ?_; omega) | (refine Zd ?_ ?_; omega) | (refine Ze ?_ ?_; omega) | refine Zf rfl ?_ | (refine And.intro (a := stays _ _ _ = true) ?_ ?_; focus (simp -implicitDefEqProofs (disch := first | assumption | omega) only [sx,sb,sd,se,xwS,xwO,xwI,oEv,xres,o1f,Nat.reduceAdd,Nat.reduceEqDiff,Nat.reduceSub, ↓reduceIte,reduceCtorEq,stays,wantedV,V.same_refl,Bool.and_self,Bool.and_true,beq_self_eq_true,Bool.true_beq,Bool.false_beq,sg,wrap_i64,Nat.zero_add,Nat.add_zero, *]; done)) | ((refine eAc hnA ?_; rintro _ g4 ⟨⟨o,b,rfl,hb1,k1,f1⟩,x4⟩; have f1 : Kept (∀ x,Foot g4 o x -> G.next <= x) := f1; obtain ⟨rD0,rD1,rD2⟩ := rA (xG1.trans x4))) | ((refine eAc (hnB x4) ?_; rintro _ g5 ⟨⟨om,rfl,k2⟩,x5⟩))) <;>
    (try simp -implicitDefEqProofs (disch := first | assumption | omega) only [sx,sb,sd,se,xwS,xwO,xwI,oEv,xres,o1f,Nat.reduceAdd,Nat.reduceEqDiff,Nat.reduceSub, ↓reduceIte,reduceCtorEq,sg,wrap_i64,Nat.zero_add,Nat.add_zero, *]))
   have hf := foot_stay (fun z r => x5.get z (k1.foot_lt r))
   exact ⟨o,om,b,rfl,rfl,hb1,x4.trans x5,k1.ext x5,fun x q => (show ∀ x,Foot g4 o x -> G.next <= x from f1) x (hf x q),_,(k2.low x4.next).lt,fun x q => ⟨Nat.le_trans x4.next q.1,q.2,fun r => by have := k1.foot_lt (hf x r); have := q.1; omega⟩⟩
  clear hnA hnB a1 a2 a5 a6 t rA0 rA1 rA2 rq
  rintro t d g4 ⟨a2,a1,a5,a6,a8,a10,rfl,o,om,b,a7,a9,hb,x4,sid⟩
  obtain ⟨vs,t1,t2,t3,t4⟩ := lc
  have t3k : Kept (∀ j (hj : j < cs.length),Tk g.next g2 (vs.getD j .nils) ((cs[j]).map (.int .i32)) /\ ∀ x,rOb (vs.getD j .nils) = some x -> rOb dv ≠ some x) := t3
  have t4k : Kept (∀ i j x,i < j -> j < cs.length -> rOb (vs.getD i .nils) = some x -> rOb (vs.getD j .nils) ≠ some x) := t4
  have tb : Kept (∀ j x,j < cs.length -> rOb (vs.getD j .nils) = some x -> g.next <= x /\ x < g2.next) := fun j x hj hx => (t3 j hj).1.lt hx
  have x24 : Ext g2 g4 := xG.trans x4
  have hH1g := xg.next
  obtain ⟨us,hu,hul,hus⟩ := hc.ext x1
  have ecv := hu.len
  have ercv := hu.row
  rw [hul] at ecv
  have edv := t1.len
  have wdv := t1.row
  clear t3 t4
  refine s_cut2 (fun t d g' => sO t 2 = .ptr h.next 0 0 /\ sO t 1 = sv /\ sO t 5 = .ptr q 0 0 /\ sO t 6 = wv /\ sO t 7 = .ptr o 0 0 /\ sO t 9 = .ptr om 0 0 /\ d = [] /\ g' = g4) ?_ ?_
  ·repeat' ((first | refine Z0 rfl ?_ | refine Z1 rfl ?_ | refine Z2 ?_ | refine Z3 ?_ | refine Z4 ?_ | refine Z5 ?_ | refine Z6 ?_ | refine Z7 ?_ | refine Z8 ?_ | refine Z9 (fun hif => ?_) (fun hif => ?_) | refine Za (fun hif => ?_) (fun hif => ?_) | refine Zb (fun hif => ?_) (fun hif => ?_) | (refine Zc ?_ ?_; omega) | (refine Zd ?_ ?_; omega) | (refine Ze ?_ ?_; omega) | refine Zf rfl ?_ | (refine And.intro (a := stays _ _ _ = true) ?_ ?_; focus (simp -implicitDefEqProofs (disch := first | assumption | omega) only [sx,sb,sd,se,xwS,xwO,xwI,oEv,xres,o1f,Nat.reduceAdd,Nat.reduceEqDiff,Nat.reduceSub, ↓reduceIte,reduceCtorEq,stays,wantedV,V.same_refl,Bool.and_self,Bool.and_true,beq_self_eq_true,Bool.true_beq,Bool.false_beq,Nat.zero_add,Nat.add_zero,binV,nilCmp,nilOf,bne_self_eq_false, *]; done))) <;>
    (try simp -implicitDefEqProofs (disch := first | assumption | omega) only [sx,sb,sd,se,xwS,xwO,xwI,oEv,xres,o1f,Nat.reduceAdd,Nat.reduceEqDiff,Nat.reduceSub, ↓reduceIte,reduceCtorEq,Nat.zero_add,Nat.add_zero,binV,nilCmp,nilOf,bne_self_eq_false, *]))
  clear a1 a2 a5 a6 a7 a8 a9 a10 t
  rintro t d g4 ⟨a2,a1,a5,a6,a7,a9,rfl,rfl⟩
  refine s_cut1 (fun t d g' => sO t 1 = sv /\ sO t 6 = wv /\ sO t 7 = .ptr o 0 0 /\ sO t 9 = .ptr om 0 0 /\ d = [] /\ g'.next = g4.next /\ Kept (∀ x,x < g4.next -> (x < g.next \/ g2.next <= x) -> g'.get x = g4.get x)) ?_ ?_
  ·repeat' ((first | refine Z0 rfl ?_ | refine Z1 rfl ?_ | refine Z2 ?_ | refine Z3 ?_ | refine Z4 ?_ | refine Z5 ?_ | refine Z6 ?_ | refine Z7 ?_ | refine Z8 ?_ | refine Z9 (fun hif => ?_) (fun hif => ?_) | refine Za (fun hif => ?_) (fun hif => ?_) | refine Zb (fun hif => ?_) (fun hif => ?_) | (refine Zc ?_ ?_; omega) | (refine Zd ?_ ?_; omega) | (refine Ze ?_ ?_; omega) | refine Zf rfl ?_ | (refine And.intro (a := stays _ _ _ = true) ?_ ?_; focus (simp -implicitDefEqProofs (disch := first | assumption | omega) only [sx,sb,sd,se,xwS,xwO,xwI,oEv,xres,o1f,Nat.reduceAdd,Nat.reduceEqDiff,Nat.reduceSub, ↓reduceIte,reduceCtorEq,stays,wantedV,V.same_refl,Bool.and_self,Bool.and_true,beq_self_eq_true,Bool.true_beq,Bool.false_beq,wrap_i64, *]; done))) <;>
    (try simp -implicitDefEqProofs (disch := first | assumption | omega) only [sx,sb,sd,se,xwS,xwO,xwI,oEv,xres,o1f,Nat.reduceAdd,Nat.reduceEqDiff,Nat.reduceSub, ↓reduceIte,reduceCtorEq,wrap_i64, *]))
   refine s_while (fun n t d g5 => ∃ i : Nat,i + n = cs.length /\ sO t 11 = .int .i64 i /\ sO t 2 = .ptr h.next 0 0 /\ sO t 1 = sv /\ sO t 5 = .ptr q 0 0 /\ sO t 6 = wv /\ sO t 7 = .ptr o 0 0 /\ sO t 9 = .ptr om 0 0 /\ d = [] /\ g5.next = g4.next /\ Kept (∀ x,x < g4.next -> (∀ j,j < i -> rOb (vs.getD j .nils) ≠ some x) -> g5.get x = g4.get x)) (fun _ _ _ => frC ..) cs.length ⟨0,by omega,by simp [sSe],by simp [sSe,a2],by simp [sSe,a1],by simp [sSe,a5],by simp [sSe,a6],by simp [sSe,a7],by simp [sSe,a9],rfl,rfl,fun _ _ _ => rfl⟩ ?_
   clear a1 a2 a5 a6 a7 a9 t
   rintro n t d g5 ⟨i,b1,a11,a2,a1,a5,a6,a7,a9,rfl,n5,f5⟩
   have f5' : ∀ x,x < g4.next -> (∀ j,j < i -> rOb (vs.getD j .nils) ≠ some x) -> g5.get x = g4.get x := f5
   have tb' : ∀ j x,j < cs.length -> rOb (vs.getD j .nils) = some x -> g.next <= x /\ x < g2.next := tb
   have n24 := x24.next
   have xg5 : Ext H1 g5 := ⟨by have := x2.next; omega,fun y hy => (f5' y (by have := x2.next; omega) fun j hj e => by have := tb' j y (by omega) e; omega).trans ((xG1.trans x4).get y hy)⟩
   have gq5 : g5.get q = some (arr [.int .i64 vars,dv] 1 false) := (f5' q (by have := x4.next; omega) fun j hj e => by have := tb' j q (by omega) e; omega).trans ((x4.get q hq2).trans gq)
   have t1' : Tk g.next g5 dv vs := (t1.ext x24).frame (by omega) fun x hx => f5' x (by have := t1.lt hx; omega) fun j hj e => (show ∀ j (hj : j < cs.length),Tk g.next g2 (vs.getD j .nils) ((cs[j]).map (.int .i32)) /\ ∀ x,rOb (vs.getD j .nils) = some x -> rOb dv ≠ some x from t3k) j (by omega) |>.2 x e hx
   obtain ⟨rA0,rA1,rA2⟩ := rA xg5
   have rq := rCl (off := 1) gq5 rfl
   have rdv : ∀ (hi : i < cs.length),rCs g5 (objS dv) (genS dv) (offS dv + i) 1 = some [vs.getD i .nils] := fun hi => t1'.sl.at (by simp [show i < vs.length by omega])
   have rcv : ∀ (hi : i < cs.length),rCs g5 (objS cv) (genS cv) (offS cv + i) 1 = some [us.getD i .nils] := fun hi => (hu.ext xg5).at (by simp [show i < us.length by omega])
   refine s_cut1 (fun t d g' => sO t 11 = .int .i64 i /\ sO t 2 = .ptr h.next 0 0 /\ sO t 1 = sv /\ sO t 5 = .ptr q 0 0 /\ sO t 6 = wv /\ sO t 7 = .ptr o 0 0 /\ sO t 9 = .ptr om 0 0 /\ d = [] /\ g' = g5 /\ i < cs.length) ?_ ?_
   ·repeat' ((first | refine Z0 rfl ?_ | refine Z1 rfl ?_ | refine Z2 ?_ | refine Z3 ?_ | refine Z4 ?_ | refine Z5 ?_ | refine Z6 ?_ | refine Z7 ?_ | refine Z8 ?_ | refine Z9 (fun hif => ?_) (fun hif => ?_) | refine Za (fun hif => ?_) (fun hif => ?_) | refine Zb (fun hif => ?_) (fun hif => ?_) | (refine Zc ?_ ?_; omega) | (refine Zd ?_ ?_; omega) | (refine Ze ?_ ?_; omega) | refine Zf rfl ?_ | (refine And.intro (a := stays _ _ _ = true) ?_ ?_; focus (simp -implicitDefEqProofs (disch := first | assumption | omega) only [sx,sb,sd,se,xwS,xwO,xwI,oEv,xres,o1f,Nat.reduceAdd,Nat.reduceEqDiff,Nat.reduceSub, ↓reduceIte,reduceCtorEq,stays,wantedV,V.same_refl,Bool.and_self,Bool.and_true,beq_self_eq_true,Bool.true_beq,Bool.false_beq,sf, *]; done))) <;>
     (try simp -implicitDefEqProofs (disch := first | assumption | omega) only [sx,sb,sd,se,xwS,xwO,xwI,oEv,xres,o1f,Nat.reduceAdd,Nat.reduceEqDiff,Nat.reduceSub, ↓reduceIte,reduceCtorEq,sf, *]))
    ·omega
    ·unfold Kept
     exact fun x hx q => f5' x hx fun j hj e => by have := tb' j x (by omega) e; omega
   clear a1 a2 a5 a6 a7 a9 a11 t
   rintro t d g5 ⟨a11,a2,a1,a5,a6,a7,a9,rfl,rfl,hi⟩
   have t3i : Tk g.next g5 (vs.getD i .nils) ((cs[i]).map (.int .i32)) := ((show ∀ j (hj : j < cs.length),Tk g.next g2 (vs.getD j .nils) ((cs[j]).map (.int .i32)) /\ ∀ x,rOb (vs.getD j .nils) = some x -> rOb dv ≠ some x from t3k) i hi).1.ext x24 |>.frame (by omega) fun x hx => f5' x (by have := tb' i x hi hx; omega) fun j hj e => (show ∀ i j x,i < j -> j < cs.length -> rOb (vs.getD i .nils) = some x -> rOb (vs.getD j .nils) ≠ some x from t4k) j i x hj hi e hx
   have hnd : ∀ x,rOb (vs.getD i .nils) = some x -> rOb dv ≠ some x := ((show ∀ j (hj : j < cs.length),Tk g.next g2 (vs.getD j .nils) ((cs[j]).map (.int .i32)) /\ ∀ x,rOb (vs.getD j .nils) = some x -> rOb dv ≠ some x from t3k) i hi).2
   have hlc : (cs[i]).length <= 1000000 := by have := done_mem (List.getElem_mem hi); omega
   have hrow := row_ok t3i.sl ((hus i hi).ext xg5) hlc
   have hbi : ∀ x,rOb (vs.getD i .nils) = some x -> g.next <= x /\ x < g2.next := fun x hx => tb' i x hi hx
   replace rdv := rdv hi
   replace rcv := rcv hi
   have hvs : i < vs.length := by omega
   refine s_seq ?_
   refine s_block ?_
   refine s_cut1 (fun t d g' => sO t 11 = .int .i64 i /\ sO t 2 = .ptr h.next 0 0 /\ sO t 1 = sv /\ sO t 5 = .ptr q 0 0 /\ sO t 6 = wv /\ sO t 7 = .ptr o 0 0 /\ sO t 9 = .ptr om 0 0 /\ d = [] /\ g' = g5) ?_ ?_
   ·repeat' ((first | refine Z0 rfl ?_ | refine Z1 rfl ?_ | refine Z2 ?_ | refine Z3 ?_ | refine Z4 ?_ | refine Z5 ?_ | refine Z6 ?_ | refine Z7 ?_ | refine Z8 ?_ | refine Z9 (fun hif => ?_) (fun hif => ?_) | refine Za (fun hif => ?_) (fun hif => ?_) | refine Zb (fun hif => ?_) (fun hif => ?_) | (refine Zc ?_ ?_; omega) | (refine Zd ?_ ?_; omega) | (refine Ze ?_ ?_; omega) | refine Zf rfl ?_ | (refine And.intro (a := stays _ _ _ = true) ?_ ?_; focus (simp -implicitDefEqProofs (disch := first | assumption | omega) only [sx,sb,sd,se,xwS,xwO,xwI,oEv,xres,o1f,Nat.reduceAdd,Nat.reduceEqDiff,Nat.reduceSub, ↓reduceIte,reduceCtorEq,stays,wantedV,V.same_refl,Bool.and_self,Bool.and_true,beq_self_eq_true,Bool.true_beq,Bool.false_beq,sf, *]; done)) | ((refine (eCi hrow).2 ?_))) <;>
     (try simp -implicitDefEqProofs (disch := first | assumption | omega) only [sx,sb,sd,se,xwS,xwO,xwI,oEv,xres,o1f,Nat.reduceAdd,Nat.reduceEqDiff,Nat.reduceSub, ↓reduceIte,reduceCtorEq,sf, *]))
   clear a1 a2 a5 a6 a7 a9 a11 t hrow
   rintro t d g5 ⟨a11,a2,a1,a5,a6,a7,a9,rfl,rfl⟩
   have wlen := t3i.len
   have wrow := t3i.row
   rw [List.length_map] at wlen
   generalize hwv : vs.getD i .nils = w at t3i hnd hbi rdv wlen wrow
   generalize cs[i] = c at *
   repeat' ((first | refine Z0 rfl ?_ | refine Z1 rfl ?_ | refine Z2 ?_ | refine Z3 ?_ | refine Z4 ?_ | refine Z5 ?_ | refine Z6 ?_ | refine Z7 ?_ | refine Z8 ?_ | refine Z9 (fun hif => ?_) (fun hif => ?_) | refine Za (fun hif => ?_) (fun hif => ?_) | refine Zb (fun hif => ?_) (fun hif => ?_) | (refine Zc ?_ ?_; omega) | (refine Zd ?_ ?_; omega) | (refine Ze ?_ ?_; omega) | refine Zf rfl ?_ | (refine And.intro (a := stays _ _ _ = true) ?_ ?_; focus (simp -implicitDefEqProofs (disch := first | assumption | omega) only [sx,sb,sd,se,xwS,xwO,xwI,oEv,xres,o1f,Nat.reduceAdd,Nat.reduceEqDiff,Nat.reduceSub, ↓reduceIte,reduceCtorEq,stays,wantedV,V.same_refl,Bool.and_self,Bool.and_true,beq_self_eq_true,Bool.true_beq,Bool.false_beq,wrap_i64, *]; done))) <;>
    (try simp -implicitDefEqProofs (disch := first | assumption | omega) only [sx,sb,sd,se,xwS,xwO,xwI,oEv,xres,o1f,Nat.reduceAdd,Nat.reduceEqDiff,Nat.reduceSub, ↓reduceIte,reduceCtorEq,wrap_i64, *]))
   refine s_while (fun n2 t d g' => ∃ (k : Nat) (ys : List V),k + n2 = c.length /\ sO t 12 = .int .i64 k /\ sO t 11 = .int .i64 i /\ sO t 2 = .ptr h.next 0 0 /\ sO t 1 = sv /\ sO t 5 = .ptr q 0 0 /\ sO t 6 = wv /\ sO t 7 = .ptr o 0 0 /\ sO t 9 = .ptr om 0 0 /\ d = [] /\ ys.length = c.length /\ Tk g.next g' w ys /\ g'.next = g5.next /\ Kept (∀ x,x < g5.next -> rOb w ≠ some x -> g'.get x = g5.get x)) (fun _ _ _ => frC ..) c.length ⟨0,_,by omega,by simp [sSe],by simp [sSe,a11],by simp [sSe,a2],by simp [sSe,a1],by simp [sSe,a5],by simp [sSe,a6],by simp [sSe,a7],by simp [sSe,a9],rfl,by rw [List.length_map],t3i,rfl,fun _ _ _ => rfl⟩ ?_
   clear a1 a2 a5 a6 a7 a9 a11 t
   rintro n2 t d g' ⟨k,ys,c1,a12,a11,a2,a1,a5,a6,a7,a9,rfl,hys,tk,n',f'⟩
   have f'' : ∀ x,x < g5.next -> rOb w ≠ some x -> g'.get x = g5.get x := f'
   have gq' := (f'' q (by have := x4.next; omega) fun e => by have := hbi q e; omega).trans gq5
   have rq' := rCl (off := 1) gq' rfl
   have rdv' : rCs g' (objS dv) (genS dv) (offS dv + i) 1 = some [w] := by
    rw [<- rdv]
    rcases t1' with ⟨rfl,e⟩ | ⟨od,_,_,_,_,hod,rfl,_⟩
    ·rw [e] at hvs; simp at hvs
    ·exact readCells_get (f'' od hod fun e => hnd od e rfl)
   have klen := tk.len
   have fin : g'.next = g4.next /\ Kept (∀ x,x < g4.next -> (∀ j,j < i + 1 -> rOb (vs.getD j .nils) ≠ some x) -> g'.get x = g4.get x) := by
    refine ⟨by omega,?_⟩
    unfold Kept
    intro x hx r
    have := r i (by omega)
    rw [hwv] at this
    exact (f'' x (by omega) this).trans (f5' x hx fun j hj => r j (by omega))
   clear f''
   by_cases hk : k < c.length
   ·obtain ⟨g6,v1,v2,v3,v4⟩ := tk.write (k := k) (y := .int .i32 9999) (by omega) rfl
    repeat' ((first | refine Z0 rfl ?_ | refine Z1 rfl ?_ | refine Z2 ?_ | refine Z3 ?_ | refine Z4 ?_ | refine Z5 ?_ | refine Z6 ?_ | refine Z7 ?_ | refine Z8 ?_ | refine Z9 (fun hif => ?_) (fun hif => ?_) | refine Za (fun hif => ?_) (fun hif => ?_) | refine Zb (fun hif => ?_) (fun hif => ?_) | (refine Zc ?_ ?_; omega) | (refine Zd ?_ ?_; omega) | (refine Ze ?_ ?_; omega) | refine Zf rfl ?_ | (refine And.intro (a := stays _ _ _ = true) ?_ ?_; focus (simp -implicitDefEqProofs (disch := first | assumption | omega) only [sx,sb,sd,se,xwS,xwO,xwI,oEv,xres,o1f,Nat.reduceAdd,Nat.reduceEqDiff,Nat.reduceSub, ↓reduceIte,reduceCtorEq,stays,wantedV,V.same_refl,Bool.and_self,Bool.and_true,beq_self_eq_true,Bool.true_beq,Bool.false_beq,si,sf, *]; done))) <;>
     (try simp -implicitDefEqProofs (disch := first | assumption | omega) only [sx,sb,sd,se,xwS,xwO,xwI,oEv,xres,o1f,Nat.reduceAdd,Nat.reduceEqDiff,Nat.reduceSub, ↓reduceIte,reduceCtorEq,si,sf, *]))
    ·refine ⟨n2 - 1,by omega,k + 1,_,by omega,by simp,by rw [List.length_set]; exact hys,v2,?_⟩
     unfold Kept at f' ⊢
     intro x q1 q2
     exact (v3.get x (by omega) q2).trans (f' x (by omega) q2)
    ·exfalso; omega
   ·repeat' ((first | refine Z0 rfl ?_ | refine Z1 rfl ?_ | refine Z2 ?_ | refine Z3 ?_ | refine Z4 ?_ | refine Z5 ?_ | refine Z6 ?_ | refine Z7 ?_ | refine Z8 ?_ | refine Z9 (fun hif => ?_) (fun hif => ?_) | refine Za (fun hif => ?_) (fun hif => ?_) | refine Zb (fun hif => ?_) (fun hif => ?_) | (refine Zc ?_ ?_; omega) | (refine Zd ?_ ?_; omega) | (refine Ze ?_ ?_; omega) | refine Zf rfl ?_ | (refine And.intro (a := stays _ _ _ = true) ?_ ?_; focus (simp -implicitDefEqProofs (disch := first | assumption | omega) only [sx,sb,sd,se,xwS,xwO,xwI,oEv,xres,o1f,Nat.reduceAdd,Nat.reduceEqDiff,Nat.reduceSub, ↓reduceIte,reduceCtorEq,stays,wantedV,V.same_refl,Bool.and_self,Bool.and_true,beq_self_eq_true,Bool.true_beq,Bool.false_beq,si,sf, *]; done))) <;>
     (try simp -implicitDefEqProofs (disch := first | assumption | omega) only [sx,sb,sd,se,xwS,xwO,xwI,oEv,xres,o1f,Nat.reduceAdd,Nat.reduceEqDiff,Nat.reduceSub, ↓reduceIte,reduceCtorEq,si,sf, *]))
    ·exfalso; omega
    ·exact ⟨n - 1,by omega,i + 1,by omega,by simp,fin.2⟩
  clear a1 a2 a5 a6 a7 a9 t
  rintro t d g6 ⟨a1,a6,a7,a9,rfl,n6,f6⟩
  have f6' : ∀ x,x < g4.next -> (x < g.next \/ g2.next <= x) -> g6.get x = g4.get x := f6
  have nG2 := xG.next
  have n4 := x4.next
  have sid6 : Side G.next b g6 o om sA := sid.old n6 fun x q r => f6' x q (.inr (by omega))
  have ls6 : LentS g2.next G.next g6 wv (l.map StV.s) 0 := ls.stay (by omega) fun x q1 q2 => (f6' x (by omega) (.inr q1)).trans (x4.get x q2)
  have xg6 : Ext H1 g6 := ⟨by have := (xG1.trans x4).next; omega,fun y hy => (f6' y (by have := (xG1.trans x4).next; omega) (.inl (by omega))).trans ((xG1.trans x4).get y hy)⟩
  have hTg : G.next <= g6.next := by omega
  have hH2 : H1.next <= g2.next := by have := x2.next; omega
  have hHG := xG1.next
  obtain ⟨wlen,wrow⟩ : lenS wv = l.length /\ rowS wv = true := by
   obtain ⟨_,_,_,gr,_⟩ := id ls6
   exact ⟨by rw [gr.len,List.length_map],gr.row⟩
  clear f6 f6' sid ls x24 x4 tb t4k t3k t1 t2 n6 hu hus gq hq1 hq2
  repeat' ((first | refine Z0 rfl ?_ | refine Z1 rfl ?_ | refine Z2 ?_ | refine Z3 ?_ | refine Z4 ?_ | refine Z5 ?_ | refine Z6 ?_ | refine Z7 ?_ | refine Z8 ?_ | refine Z9 (fun hif => ?_) (fun hif => ?_) | refine Za (fun hif => ?_) (fun hif => ?_) | refine Zb (fun hif => ?_) (fun hif => ?_) | (refine Zc ?_ ?_; omega) | (refine Zd ?_ ?_; omega) | (refine Ze ?_ ?_; omega) | refine Zf rfl ?_ | (refine And.intro (a := stays _ _ _ = true) ?_ ?_; focus (simp -implicitDefEqProofs (disch := first | assumption | omega) only [sx,sb,sd,se,xwS,xwO,xwI,oEv,xres,o1f,Nat.reduceAdd,Nat.reduceEqDiff,Nat.reduceSub, ↓reduceIte,reduceCtorEq,stays,wantedV,V.same_refl,Bool.and_self,Bool.and_true,beq_self_eq_true,Bool.true_beq,Bool.false_beq,wrap_i64, *]; done))) <;>
   (try simp -implicitDefEqProofs (disch := first | assumption | omega) only [sx,sb,sd,se,xwS,xwO,xwI,oEv,xres,o1f,Nat.reduceAdd,Nat.reduceEqDiff,Nat.reduceSub, ↓reduceIte,reduceCtorEq,wrap_i64, *]))
  refine s_while (fun n t d g7 => ∃ (i : Nat) (s : Chs),i + n = l.length /\ sO t 13 = .int .i64 i /\ sO t 1 = sv /\ sO t 6 = wv /\ sO t 7 = .ptr o 0 0 /\ sO t 9 = .ptr om 0 0 /\ d = [] /\ Ext H1 g7 /\ G.next <= g7.next /\ Side G.next b g7 o om s /\ LentS g2.next G.next g7 wv (l.map StV.s) i /\ Right6 0 s (200 + i) /\ Kept (∀ e ∈ s.es,(Lit.int .i64 e.1).wf = true)) (fun _ _ _ => frC ..) l.length ⟨0,sA,by omega,by simp [sSe],by simp [sSe,a1],by simp [sSe,a6],by simp [sSe,a7],by simp [sSe,a9],rfl,xg6,hTg,sid6,ls6,hrA,hidA⟩ ?_
  clear a1 a6 a7 a9 t sid6 ls6 xg6 hTg hrA hidA
  rintro n t d g7 ⟨i,s,b1,a13,a1,a6,a7,a9,rfl,xg7,hT7,sid7,ls7,r6,hidS⟩
  have hlen := r6.len
  have hfl : ∀ e ∈ s.es,e.2.length <= 1000000 := fun e he => by have := (r6.fine e he).2; omega
  obtain ⟨F,dF,hF⟩ := id sid7.doc
  have hsame : EvCall xprog H0 15 [.ptr o 0 0,.ptr om 0 0] g7 fun v h' => v = .bool true /\ Ext g7 h' := same_ok sid7.chk dF r6.rise hidS (by omega) hfl
  clear hfl
  refine s_cut1 (fun t d g' => sO t 13 = .int .i64 i /\ sO t 1 = sv /\ sO t 6 = wv /\ sO t 7 = .ptr o 0 0 /\ sO t 9 = .ptr om 0 0 /\ d = [] /\ g' = g7 /\ i < l.length) ?_ ?_
  ·repeat' ((first | refine Z0 rfl ?_ | refine Z1 rfl ?_ | refine Z2 ?_ | refine Z3 ?_ | refine Z4 ?_ | refine Z5 ?_ | refine Z6 ?_ | refine Z7 ?_ | refine Z8 ?_ | refine Z9 (fun hif => ?_) (fun hif => ?_) | refine Za (fun hif => ?_) (fun hif => ?_) | refine Zb (fun hif => ?_) (fun hif => ?_) | (refine Zc ?_ ?_; omega) | (refine Zd ?_ ?_; omega) | (refine Ze ?_ ?_; omega) | refine Zf rfl ?_ | (refine And.intro (a := stays _ _ _ = true) ?_ ?_; focus (simp -implicitDefEqProofs (disch := first | assumption | omega) only [sx,sb,sd,se,xwS,xwO,xwI,oEv,xres,o1f,Nat.reduceAdd,Nat.reduceEqDiff,Nat.reduceSub, ↓reduceIte,reduceCtorEq,stays,wantedV,V.same_refl,Bool.and_self,Bool.and_true,beq_self_eq_true,Bool.true_beq,Bool.false_beq,sf, *]; done)) | ((refine eAc hsame ?_; rintro _ g8 ⟨rfl,x8⟩)) | ((refine eAc (works_ok _) ?_; rintro _ gw ⟨rfl,xw⟩))) <;>
    (try simp -implicitDefEqProofs (disch := first | assumption | omega) only [sx,sb,sd,se,xwS,xwO,xwI,oEv,xres,o1f,Nat.reduceAdd,Nat.reduceEqDiff,Nat.reduceSub, ↓reduceIte,reduceCtorEq,sf, *]))
   ·omega
   ·exact x1.trans (xg7.trans (x8.trans xw))
  clear a1 a6 a7 a9 a13 t hsame
  rintro t d g7 ⟨a13,a1,a6,a7,a9,rfl,rfl,hi⟩
  have hm := List.getElem_mem hi
  have hq := (show ∀ s ∈ l,s.s.lits.length <= 1500 /\ s.s.hints.length <= 1500 from hll) _ hm
  have hiw := (show ∀ s ∈ l,(Lit.int .i64 s.s.id).wf = true from hidk) _ hm
  have hob := (show ∀ s ∈ l, ∀ x,rOb s.hv = some x -> x < h.next from hobk) _ hm
  obtain ⟨lv,hv,r4,tl,th,bl,bh,_,_⟩ := ls7.get (by rw [List.length_map]; exact hi)
  have hsp : ∀ {g8 : Heap} {K : V -> Heap -> Prop},LentS g2.next G.next g8 wv (l.map StV.s) i -> (∀ w,(EvCall xprog H0 14 [w] g8 fun _ h' => LentS g2.next G.next h' wv (l.map StV.s) (i + 1) /\ h'.next = g8.next /\ ∀ x,x < g8.next -> G.next <= x \/ x < g2.next -> h'.get x = g8.get x) -> K w g8) -> XSlc g8 4 wv (some (.int .i64 (i : Int))) (some (.int .i64 ((i : Int) + 1))) none K := fun q k => q.spoil (by rw [List.length_map]; exact hi) (by rw [List.getElem_map]; omega) (by rw [List.getElem_map]; omega) k
  simp only [List.getElem_map] at r4 tl th
  have rs : ∀ {g2},Ext H1 g2 -> rCs g2 (objS sv) (genS sv) (offS sv + i * 4) 4 = some [.int .u8 (l[i]).s.kind,.int .i64 (l[i]).s.id,(l[i]).lv,(l[i]).hv] := fun x => (hs.ext (x1.trans x)).elem hi
  have hlit := (hs.lits _ hm).ext x1
  have hhin := (hs.hints _ hm).ext x1
  generalize hst : l[i] = st at *
  have rs0 := rs xg7
  have k1 := sid7.chk
  have hb2 : b <= g7.next := by obtain ⟨_,_,_,_,_,_,q,_⟩ := id k1; have := q.bo; have := q.ho; omega
  have hmT : ∀ x,Mut g7 o x -> G.next <= x := fun x q => sid7.foot x (.inl q)
  have hstA := Step_ok (b := b) (h0 := { g7 with next := b }) (kind := st.s.kind) (id := st.s.id) k1 (N := 200 + i) ⟨r6.rise,r6.fine,r6.len,r6.tot⟩ (by omega) (cut_ext hb2) (Nat.le_refl _) ⟨tl.sl,fun _ x hx q => by have := bl x hx; have := hmT x q; omega⟩ (Tk.cutH th fun x hx => by have := bh x hx; omega).sw (by omega) (by omega)
  have hr6 := step_right (kind := st.s.kind) (id := st.s.id) (lits := st.s.lits) (hints := st.s.hints) r6 (by omega)
  have hid2 : Kept (∀ e ∈ (s.step (mayOf st.s.kind st.s.id st.s.lits st.s.hints) st.s.kind st.s.id st.s.lits st.s.hints).2.es,(Lit.int .i64 e.1).wf = true) := step_idsP (P := fun k => (Lit.int .i64 k).wf = true) hidS hiw
  have hB : ∀ {g8 : Heap},Chg o g7 g8 -> Ext H1 g8 /\ EvCall xprog H0 12 [.ptr om 0 0,.agg [.int .u8 st.s.kind,.int .i64 st.s.id,st.lv,st.hv]] g8 fun v h' => v = .int .i64 (s.step (mayOf st.s.kind st.s.id st.s.lits st.s.hints) st.s.kind st.s.id st.s.lits st.s.hints).1 /\ RChkF (fun x => F x \/ g8.next <= x) G.next h' om (s.step (mayOf st.s.kind st.s.id st.s.lits st.s.hints) st.s.kind st.s.id st.s.lits st.s.hints).2.es (s.step (mayOf st.s.kind st.s.id st.s.lits st.s.hints) st.s.kind st.s.id st.s.lits st.s.hints).2.last (s.step (mayOf st.s.kind st.s.id st.s.lits st.s.hints) st.s.kind st.s.id st.s.lits st.s.hints).2.over /\ But (fun x => G.next <= x) g8 h' /\ But F g8 h' := fun {g8} c => by
   have xg8 : Ext H1 g8 := xg7.butI c.but fun x hx q => by have := hmT x q; omega
   exact ⟨xg8,rStep_ok (dF.stay c.but.next fun x q r => c.but.get x r fun m => (hF x q).2.2 (.inl m)) (N := 200 + i) ⟨r6.rise,r6.fine,r6.len,r6.tot⟩ (by omega) (hlit.sl.ext xg8) (hhin.ext xg8) (by omega) (by omega) fun x hx => by have := hob x hx; have := x1.next; omega⟩
  generalize hS : s.step (mayOf st.s.kind st.s.id st.s.lits st.s.hints) st.s.kind st.s.id st.s.lits st.s.hints = S at *
  refine s_seq ?_
  refine s_block ?_
  refine s_cut1 (fun t d g9 => sO t 13 = .int .i64 i /\ sO t 1 = sv /\ sO t 6 = wv /\ sO t 7 = .ptr o 0 0 /\ sO t 9 = .ptr om 0 0 /\ sO t 14 = .int .i64 S.1 /\ sO t 15 = .int .i64 S.1 /\ d = [] /\ Side G.next b g9 o om S.2 /\ g7.next <= g9.next /\ Kept (∀ x,x < G.next -> g9.get x = g7.get x)) ?_ ?_
  ·repeat' ((first | refine Z0 rfl ?_ | refine Z1 rfl ?_ | refine Z2 ?_ | refine Z3 ?_ | refine Z4 ?_ | refine Z5 ?_ | refine Z6 ?_ | refine Z7 ?_ | refine Z8 ?_ | refine Z9 (fun hif => ?_) (fun hif => ?_) | refine Za (fun hif => ?_) (fun hif => ?_) | refine Zb (fun hif => ?_) (fun hif => ?_) | (refine Zc ?_ ?_; omega) | (refine Zd ?_ ?_; omega) | (refine Ze ?_ ?_; omega) | refine Zf rfl ?_ | (refine And.intro (a := stays _ _ _ = true) ?_ ?_; focus (simp -implicitDefEqProofs (disch := first | assumption | omega) only [sx,sb,sd,se,xwS,xwO,xwI,oEv,xres,o1f,Nat.reduceAdd,Nat.reduceEqDiff,Nat.reduceSub, ↓reduceIte,reduceCtorEq,stays,wantedV,V.same_refl,Bool.and_self,Bool.and_true,beq_self_eq_true,Bool.true_beq,Bool.false_beq,sf, *]; done)) | ((refine eAc hstA ?_; rintro _ g8 ⟨rfl,kA,cA⟩; obtain ⟨xg8,hB2⟩ := hB cA; have rs8 := rs xg8)) | ((refine eAc hB2 ?_; rintro _ g9 ⟨rfl,kB,bB,cB⟩))) <;>
    (try simp -implicitDefEqProofs (disch := first | assumption | omega) only [sx,sb,sd,se,xwS,xwO,xwI,oEv,xres,o1f,Nat.reduceAdd,Nat.reduceEqDiff,Nat.reduceSub, ↓reduceIte,reduceCtorEq,sf, *]))
   refine ⟨sid7.step hT7 cA kA hF kB cB,Nat.le_trans cA.but.next cB.next,?_⟩
   unfold Kept
   exact fun x q => (bB.get x (by have := cA.but.next; omega) (by omega)).trans (cA.but.get x (by omega) fun m => by have := hmT x m; omega)
  clear a1 a6 a7 a9 a13 t hstA hB r4 tl th bl bh rs0 lv hv
  rintro t d g9 ⟨a13,a1,a6,a7,a9,a14,a15,rfl,sid9,n9,f9⟩
  have f9' : ∀ x,x < G.next -> g9.get x = g7.get x := f9
  have xg9 : Ext H1 g9 := ⟨by have := xg7.next; omega,fun y hy => (f9' y (by omega)).trans (xg7.get y hy)⟩
  have ls9 := ls7.stay n9 fun x _ q => f9' x q
  clear f9 f9'
  obtain ⟨lv,hv,r4,tl,th,_,_,_,_⟩ := ls9.get (by rw [List.length_map]; exact hi)
  have est : (l.map StV.s)[i]'(by rw [List.length_map]; exact hi) = st.s := by rw [List.getElem_map,hst]
  rw [est] at r4 tl th
  have rs9 := rs xg9
  have hSS := SameStep_ok (kind := st.s.kind) (id := st.s.id) tl.sl th.sl (hlit.sl.ext xg9) (hhin.sl.ext xg9) (by omega) (by omega)
  refine s_cut1 (fun t d g' => sO t 13 = .int .i64 i /\ sO t 1 = sv /\ sO t 6 = wv /\ sO t 7 = .ptr o 0 0 /\ sO t 9 = .ptr om 0 0 /\ d = [] /\ Ext g9 g') ?_ ?_
  ·repeat' ((first | refine Z0 rfl ?_ | refine Z1 rfl ?_ | refine Z2 ?_ | refine Z3 ?_ | refine Z4 ?_ | refine Z5 ?_ | refine Z6 ?_ | refine Z7 ?_ | refine Z8 ?_ | refine Z9 (fun hif => ?_) (fun hif => ?_) | refine Za (fun hif => ?_) (fun hif => ?_) | refine Zb (fun hif => ?_) (fun hif => ?_) | (refine Zc ?_ ?_; omega) | (refine Zd ?_ ?_; omega) | (refine Ze ?_ ?_; omega) | refine Zf rfl ?_ | (refine And.intro (a := stays _ _ _ = true) ?_ ?_; focus (simp -implicitDefEqProofs (disch := first | assumption | omega) only [sx,sb,sd,se,xwS,xwO,xwI,oEv,xres,o1f,Nat.reduceAdd,Nat.reduceEqDiff,Nat.reduceSub, ↓reduceIte,reduceCtorEq,stays,wantedV,V.same_refl,Bool.and_self,Bool.and_true,beq_self_eq_true,Bool.true_beq,Bool.false_beq,sf, *]; done)) | ((refine eAc hSS ?_; rintro _ g10 ⟨rfl,x10⟩))) <;>
    (try simp -implicitDefEqProofs (disch := first | assumption | omega) only [sx,sb,sd,se,xwS,xwO,xwI,oEv,xres,o1f,Nat.reduceAdd,Nat.reduceEqDiff,Nat.reduceSub, ↓reduceIte,reduceCtorEq,sf, *]))
  clear a1 a6 a7 a9 a13 a14 a15 t hSS r4 tl th rs9
  rintro t d g10 ⟨a13,a1,a6,a7,a9,rfl,x10⟩
  have n10 := x10.next
  have ls10 := ls9.stay n10 fun x _ q => x10.get x (by omega)
  refine s_cut1 (fun t d g' => sO t 13 = .int .i64 i /\ sO t 1 = sv /\ sO t 6 = wv /\ sO t 7 = .ptr o 0 0 /\ sO t 9 = .ptr om 0 0 /\ d = [] /\ g'.next = g10.next /\ LentS g2.next G.next g' wv (l.map StV.s) (i + 1) /\ Kept (∀ x,x < g10.next -> G.next <= x \/ x < g2.next -> g'.get x = g10.get x)) ?_ ?_
  ·repeat' ((first | refine Z0 rfl ?_ | refine Z1 rfl ?_ | refine Z2 ?_ | refine Z3 ?_ | refine Z4 ?_ | refine Z5 ?_ | refine Z6 ?_ | refine Z7 ?_ | refine Z8 ?_ | refine Z9 (fun hif => ?_) (fun hif => ?_) | refine Za (fun hif => ?_) (fun hif => ?_) | refine Zb (fun hif => ?_) (fun hif => ?_) | (refine Zc ?_ ?_; omega) | (refine Zd ?_ ?_; omega) | (refine Ze ?_ ?_; omega) | refine Zf rfl ?_ | (refine And.intro (a := stays _ _ _ = true) ?_ ?_; focus (simp -implicitDefEqProofs (disch := first | assumption | omega) only [sx,sb,sd,se,xwS,xwO,xwI,oEv,xres,o1f,Nat.reduceAdd,Nat.reduceEqDiff,Nat.reduceSub, ↓reduceIte,reduceCtorEq,stays,wantedV,V.same_refl,Bool.and_self,Bool.and_true,beq_self_eq_true,Bool.true_beq,Bool.false_beq,sf, *]; done)) | ((refine hsp ls10 ?_; intro w hw)) | ((refine eAc hw ?_; rintro _ g11 ⟨l1,n11,f11⟩; have f11 : Kept (∀ x,x < g10.next -> G.next <= x \/ x < g2.next -> g11.get x = g10.get x) := f11))) <;>
    (try simp -implicitDefEqProofs (disch := first | assumption | omega) only [sx,sb,sd,se,xwS,xwO,xwI,oEv,xres,o1f,Nat.reduceAdd,Nat.reduceEqDiff,Nat.reduceSub, ↓reduceIte,reduceCtorEq,sf, *]))
  clear a1 a6 a7 a9 a13 t hsp
  rintro t d g11 ⟨a13,a1,a6,a7,a9,rfl,n11,ls11,f11⟩
  have f11' : ∀ x,x < g10.next -> G.next <= x \/ x < g2.next -> g11.get x = g10.get x := f11
  have sid11 := (sid9.ext x10).old n11 fun x q r => f11' x q (.inl r)
  have xg11 : Ext H1 g11 := ⟨by have := xg9.next; omega,fun y hy => (f11' y (by have := xg9.next; omega) (.inr (by omega))).trans ((x10.get y (by have := xg9.next; omega)).trans (xg9.get y hy))⟩
  obtain ⟨F',dF',_⟩ := id sid11.doc
  have hsame : EvCall xprog H0 15 [.ptr o 0 0,.ptr om 0 0] g11 fun v h' => v = .bool true /\ Ext g11 h' := same_ok sid11.chk dF' hr6.rise hid2 (by have := hr6.len; omega) fun e he => by have := (hr6.fine e he).2; omega
  clear f11 f11'
  repeat' ((first | refine Z0 rfl ?_ | refine Z1 rfl ?_ | refine Z2 ?_ | refine Z3 ?_ | refine Z4 ?_ | refine Z5 ?_ | refine Z6 ?_ | refine Z7 ?_ | refine Z8 ?_ | refine Z9 (fun hif => ?_) (fun hif => ?_) | refine Za (fun hif => ?_) (fun hif => ?_) | refine Zb (fun hif => ?_) (fun hif => ?_) | (refine Zc ?_ ?_; omega) | (refine Zd ?_ ?_; omega) | (refine Ze ?_ ?_; omega) | refine Zf rfl ?_ | (refine And.intro (a := stays _ _ _ = true) ?_ ?_; focus (simp -implicitDefEqProofs (disch := first | assumption | omega) only [sx,sb,sd,se,xwS,xwO,xwI,oEv,xres,o1f,Nat.reduceAdd,Nat.reduceEqDiff,Nat.reduceSub, ↓reduceIte,reduceCtorEq,stays,wantedV,V.same_refl,Bool.and_self,Bool.and_true,beq_self_eq_true,Bool.true_beq,Bool.false_beq,sf, *]; done)) | ((refine eAc hsame ?_; rintro _ g12 ⟨rfl,x12⟩))) <;>
   (try simp -implicitDefEqProofs (disch := first | assumption | omega) only [sx,sb,sd,se,xwS,xwO,xwI,oEv,xres,o1f,Nat.reduceAdd,Nat.reduceEqDiff,Nat.reduceSub, ↓reduceIte,reduceCtorEq,sf, *]))
  exact ⟨n - 1,by omega,i + 1,S.2,by omega,by simp,xg11.trans x12,by have := x12.next; omega,sid11.ext x12,ls11.stay x12.next fun x _ q => x12.get x (by omega),hr6,hid2⟩
 ·have hnA : EvCall xprog H0 8 [.agg [.int .i64 vars,dv]] G fun v h' => v = .tup [.nilp,.int .i64 (rightOf vars cs)] /\ Ext G h' := hnA.mono fun v g ⟨q1,q2⟩ => ⟨q1.elim (fun q => q.2) fun q => absurd q.1 hr,q2⟩
  have hnB : ∀ {g4},Ext G g4 -> EvCall xprog H0 9 [.agg [.int .i64 vars,cv]] g4 fun v h' => v = .tup [.nilp,.int .i64 (rightOf vars cs)] /\ Ext g4 h' := fun x => (hnB x).mono fun v g ⟨q1,q2⟩ => ⟨q1.elim (fun q => q.2) fun q => absurd q.1 hr,q2⟩
  generalize rightOf vars cs = r at *
  repeat' ((first | refine Z0 rfl ?_ | refine Z1 rfl ?_ | refine Z2 ?_ | refine Z3 ?_ | refine Z4 ?_ | refine Z5 ?_ | refine Z6 ?_ | refine Z7 ?_ | refine Z8 ?_ | refine Z9 (fun hif => ?_) (fun hif => ?_) | refine Za (fun hif => ?_) (fun hif => ?_) | refine Zb (fun hif => ?_) (fun hif => ?_) | (refine Zc ?_ ?_; omega) | (refine Zd ?_ ?_; omega) | (refine Ze ?_ ?_; omega) | refine Zf rfl ?_ | (refine And.intro (a := stays _ _ _ = true) ?_ ?_; focus (simp -implicitDefEqProofs (disch := first | assumption | omega) only [sx,sb,sd,se,xwS,xwO,xwI,oEv,xres,o1f,Nat.reduceAdd,Nat.reduceEqDiff,Nat.reduceSub, ↓reduceIte,reduceCtorEq,stays,wantedV,V.same_refl,Bool.and_self,Bool.and_true,beq_self_eq_true,Bool.true_beq,Bool.false_beq,sg,wrap_i64,Nat.zero_add,Nat.add_zero,binV,nilCmp,nilOf, *]; done)) | ((refine eAc hnA ?_; rintro _ g4 ⟨rfl,x4⟩; obtain ⟨rD0,rD1,rD2⟩ := rA (xG1.trans x4))) | ((refine eAc (hnB x4) ?_; rintro _ g5 ⟨rfl,x5⟩)) | ((refine eAc (works_ok _) ?_; rintro _ gw ⟨rfl,xw⟩))) <;>
   (try simp -implicitDefEqProofs (disch := first | assumption | omega) only [sx,sb,sd,se,xwS,xwO,xwI,oEv,xres,o1f,Nat.reduceAdd,Nat.reduceEqDiff,Nat.reduceSub, ↓reduceIte,reduceCtorEq,sg,wrap_i64,Nat.zero_add,Nat.add_zero,binV,nilCmp,nilOf, *]))
  exact x1.trans (xG1.trans (x4.trans (x5.trans xw)))
end Go.Proofs.YtmkbnbpblhoekaaGreat
