/- Part of a proof for X's executor: what the program's functions answer. -/
import Derived.Test.YtmkbnbpblhoekaaGreatU9
import Derived.Test.YtmkbnbpblhoekaaGreatU8
import Derived.Test.YtmkbnbpblhoekaaGreatW3
set_option linter.unusedSimpArgs false
set_option linter.unusedVariables false
set_option linter.unusedSectionVars false
namespace Go.Proofs.YtmkbnbpblhoekaaGreat
open Go.Xr Go.Chk
def rowsOf (ls hs : List V) (j x : Nat) : Prop := rOb (ls.getD j .nils) = some x \/ rOb (hs.getD j .nils) = some x
def LentS (b T : Nat) (h : Heap) (v : V) (l : List Stp) (i : Nat) : Prop := ∃ cs ls hs : List V,GrN 4 b h v cs l.length /\ (∀ j (hj : j < l.length),i <= j -> cs[j * 4]? = some (.int .u8 (l[j]).kind) /\ cs[j * 4 + 1]? = some (.int .i64 (l[j]).id) /\ cs[j * 4 + 2]? = some (ls.getD j .nils) /\ cs[j * 4 + 3]? = some (hs.getD j .nils) /\ Tk b h (ls.getD j .nils) ((l[j]).lits.map (.int .i32)) /\ Tk b h (hs.getD j .nils) ((l[j]).hints.map (.int .i64))) /\
 (∀ j x,j < l.length -> rowsOf ls hs j x -> rOb v ≠ some x) /\ (∀ j k x,j < k -> k < l.length -> rowsOf ls hs j x -> ¬ rowsOf ls hs k x) /\ (∀ j x,j < l.length -> rOb (ls.getD j .nils) = some x -> rOb (hs.getD j .nils) ≠ some x) /\ (∀ x,rOb v = some x -> x < T) /\ ∀ j x,j < l.length -> rowsOf ls hs j x -> x < T
theorem LentS.stay {b T : Nat} {h h' : Heap} {v : V} {l : List Stp} {i : Nat} (hs : LentS b T h v l i) (hn : h.next <= h'.next) (hg : ∀ x,b <= x -> x < T -> h'.get x = h.get x) : LentS b T h' v l i := by
 obtain ⟨cs,ls,hs,h1,h2,h3,h4,h5,h6,h7⟩ := hs
 refine ⟨cs,ls,hs,h1.frame hn fun x hx => hg x (h1.lt hx).1 (h6 x hx),fun j hj hij => ?_,h3,h4,h5,h6,h7⟩
 obtain ⟨q1,q2,q3,q4,q5,q6⟩ := h2 j hj hij
 exact ⟨q1,q2,q3,q4,q5.frame hn fun x hx => hg x (q5.lt hx).1 (h7 j x hj (.inl hx)),q6.frame hn fun x hx => hg x (q6.lt hx).1 (h7 j x hj (.inr hx))⟩
theorem LentS.up {b T T' : Nat} {h : Heap} {v : V} {l : List Stp} {i : Nat} (hs : LentS b T h v l i) (hT : T <= T') : LentS b T' h v l i := by
 obtain ⟨cs,ls,hs,h1,h2,h3,h4,h5,h6,h7⟩ := hs
 exact ⟨cs,ls,hs,h1,h2,h3,h4,h5,fun x hx => Nat.lt_of_lt_of_le (h6 x hx) hT,fun j x hj hx => Nat.lt_of_lt_of_le (h7 j x hj hx) hT⟩
set_option maxHeartbeats 8000000 in
theorem Lent_ok {h : Heap} {sv : V} {l : List StV} (hs : Stps h sv l) (hl : l.length <= 1000000) (hll : ∀ s ∈ l,s.s.lits.length <= 1000000 /\ s.s.hints.length <= 1000000) :
  EvCall xprog H0 7 [sv] h fun v h' => LentS h.next h'.next h' v (l.map StV.s) 0 /\ Ext h h' := by
 refine s_call (fn := xf7) rfl (free _ rfl ..) ?_
 have el := hs.len
 have er := hs.sl.row
 simp -implicitDefEqProofs only [xf7,argsFrom_cons,argsFrom_nil]
 repeat' ((first | refine Z0 rfl ?_ | refine Z1 rfl ?_ | refine Z2 ?_ | refine Z3 ?_ | refine Z4 ?_ | refine Z5 ?_ | refine Z6 ?_ | refine Z7 ?_ | refine Z8 ?_ | refine Z9 (fun hif => ?_) (fun hif => ?_) | refine Za (fun hif => ?_) (fun hif => ?_) | refine Zb (fun hif => ?_) (fun hif => ?_) | (refine Zc ?_ ?_; omega) | (refine Zd ?_ ?_; omega) | (refine Ze ?_ ?_; omega)) <;>
  (try simp -implicitDefEqProofs (disch := first | assumption | omega) only [sx,sb,sd,se,xwS,xwO,xwI,oEv,xres,o1f,Nat.reduceAdd,Nat.reduceEqDiff,Nat.reduceSub, ↓reduceIte,reduceCtorEq,wrap_i64, *]))
 refine s_while (fun n t d g => ∃ (i : Nat) (dv : V) (cs ls hs : List V),i + n = l.length /\ sO t 4 = .int .i64 i /\ sO t 3 = dv /\ sO t 0 = sv /\ d = [] /\ Ext h g /\ GrN 4 h.next g dv cs i /\ ls.length = i /\ hs.length = i /\ (∀ j (hj : j < l.length),j < i -> cs[j * 4]? = some (.int .u8 (l[j]).s.kind) /\ cs[j * 4 + 1]? = some (.int .i64 (l[j]).s.id) /\ cs[j * 4 + 2]? = some (ls.getD j .nils) /\ cs[j * 4 + 3]? = some (hs.getD j .nils) /\ Tk h.next g (ls.getD j .nils) ((l[j]).s.lits.map (.int .i32)) /\ Tk h.next g (hs.getD j .nils) ((l[j]).s.hints.map (.int .i64))) /\ (∀ j x,j < i -> rowsOf ls hs j x -> rOb dv ≠ some x) /\ (∀ j k x,j < k -> k < i -> rowsOf ls hs j x -> ¬ rowsOf ls hs k x) /\ ∀ j x,j < i -> rOb (ls.getD j .nils) = some x -> rOb (hs.getD j .nils) ≠ some x) (fun _ _ _ => frC ..) l.length ⟨0,.nils,[],[],[],by omega,by simp [sSe],by simp [sSe],by simp [sSe],rfl,Ext.refl _,.inl ⟨rfl,rfl,rfl⟩,rfl,rfl,fun j _ hj => by omega,fun j x hj => by omega,fun j k x _ hj => by omega,fun j x hj => by omega⟩ ?_
 rintro n t d g ⟨i,dv,cs,ls,hs',b1,a4,a3,a0,rfl,xg,gr,hls,hhs,p1',p2',p3',p4'⟩
 have p1 : Kept (∀ j (hj : j < l.length),j < i -> cs[j * 4]? = some (.int .u8 (l[j]).s.kind) /\ cs[j * 4 + 1]? = some (.int .i64 (l[j]).s.id) /\ cs[j * 4 + 2]? = some (ls.getD j .nils) /\ cs[j * 4 + 3]? = some (hs'.getD j .nils) /\ Tk h.next g (ls.getD j .nils) ((l[j]).s.lits.map (.int .i32)) /\ Tk h.next g (hs'.getD j .nils) ((l[j]).s.hints.map (.int .i64))) := p1'
 have p2 : Kept (∀ j x,j < i -> rowsOf ls hs' j x -> rOb dv ≠ some x) := p2'
 have p3 : Kept (∀ j k x,j < k -> k < i -> rowsOf ls hs' j x -> ¬ rowsOf ls hs' k x) := p3'
 have p4 : Kept (∀ j x,j < i -> rOb (ls.getD j .nils) = some x -> rOb (hs'.getD j .nils) ≠ some x) := p4'
 clear p1' p2' p3' p4'
 refine s_cut1 (fun t d g1 => sO t 4 = .int .i64 i /\ sO t 3 = dv /\ sO t 0 = sv /\ d = [] /\ g1 = g /\ i < l.length) ?_ ?_
 ·repeat' ((first | refine Z0 rfl ?_ | refine Z1 rfl ?_ | refine Z2 ?_ | refine Z3 ?_ | refine Z4 ?_ | refine Z5 ?_ | refine Z6 ?_ | refine Z7 ?_ | refine Z8 ?_ | refine Z9 (fun hif => ?_) (fun hif => ?_) | refine Za (fun hif => ?_) (fun hif => ?_) | refine Zb (fun hif => ?_) (fun hif => ?_) | (refine Zc ?_ ?_; omega) | (refine Zd ?_ ?_; omega) | (refine Ze ?_ ?_; omega)) <;>
   (try simp -implicitDefEqProofs (disch := first | assumption | omega) only [sx,sb,sd,se,xwS,xwO,xwI,oEv,xres,o1f,Nat.reduceAdd,Nat.reduceEqDiff,Nat.reduceSub, ↓reduceIte,reduceCtorEq,sf, *]))
  ·omega
  ·have hi : i = l.length := by omega
   subst hi
   unfold Kept at p1 p2 p3 p4
   have hml : (l.map StV.s).length = l.length := List.length_map _
   refine ⟨cs,ls,hs',by rw [hml]; exact gr,fun j hj _ => ?_,fun j x hj => p2 j x (by omega),fun j k x h1 h2 => p3 j k x h1 (by omega),fun j x hj => p4 j x (by omega),fun x hx => (gr.lt hx).2,fun j x hj hx => ?_⟩
   ·rw [List.getElem_map]
    exact p1 j (by omega) (by omega)
   ·obtain ⟨_,_,_,_,q5,q6⟩ := p1 j (by omega) (by omega)
    exact hx.elim (fun q => (q5.lt q).2) fun q => (q6.lt q).2
 clear a0 a3 a4 t
 rintro t d g ⟨a4,a3,a0,rfl,rfl,hi⟩
 have hm := List.getElem_mem hi
 have hq := hll _ hm
 have rs : rCs g (objS sv) (genS sv) (offS sv + i * 4) 4 = some [.int .u8 (l[i]).s.kind,.int .i64 (l[i]).s.id,(l[i]).lv,(l[i]).hv] := (hs.ext xg).elem hi
 have hlit := ((hs.lits _ hm).ext xg).sl
 have hhin := ((hs.hints _ hm).ext xg).sl
 have keep : Kept (l[i] = l[i]) := rfl
 obtain ⟨st,hst⟩ : ∃ st,st = l[i] := ⟨_,rfl⟩
 rw [<- hst] at hq rs hlit hhin
 have hstk : Kept (st = l[i]) := hst
 clear hst keep hll
 have erl := hlit.row
 have erh := hhin.row
 have xG : Ext g ((nCs g [.int .u8 0,.int .i64 0,.nils,.nils] 1 false).put g.next (arr [.int .u8 st.s.kind,.int .i64 st.s.id,st.lv,st.hv] 1 false)) := (Ext.new ..).put _ (Nat.le_refl _)
 have gG : ((nCs g [.int .u8 0,.int .i64 0,.nils,.nils] 1 false).put g.next (arr [.int .u8 st.s.kind,.int .i64 st.s.id,st.lv,st.hv] 1 false)).get g.next = some (arr [.int .u8 st.s.kind,.int .i64 st.s.id,st.lv,st.hv] 1 false) := by rw [Heap.get_put,if_pos rfl]
 have nG : ((nCs g [.int .u8 0,.int .i64 0,.nils,.nils] 1 false).put g.next (arr [.int .u8 st.s.kind,.int .i64 st.s.id,st.lv,st.hv] 1 false)).next = g.next + 1 := rfl
 have rG := rCl (off := 2) gG rfl
 have sl1 := hlit.ext xG
 have sl2 := hhin.ext xG
 repeat' ((first | refine Z0 rfl ?_ | refine Z1 rfl ?_ | refine Z2 ?_ | refine Z3 ?_ | refine Z4 ?_ | refine Z5 ?_ | refine Z6 ?_ | refine Z7 ?_ | refine Z8 ?_ | refine Z9 (fun hif => ?_) (fun hif => ?_) | refine Za (fun hif => ?_) (fun hif => ?_) | refine Zb (fun hif => ?_) (fun hif => ?_) | (refine Zc ?_ ?_; omega) | (refine Zd ?_ ?_; omega) | (refine Ze ?_ ?_; omega) | ((refine ⟨_,writeAll (o := g.next) (cs := [.int .u8 0,.int .i64 0,.nils,.nils]) (get_new ..) rfl (by rw [List.all_cons,List.all_cons,List.all_cons,List.all_cons,one_row erl,one_row erh]; rfl),?_⟩)) | ((refine x_append_tk (Tk.nil _ _) (Nat.le_refl _) sl1 (one_map _ _) (by simp; omega) ?_; rintro w1 g3 k1 u1 e1; have y3 := (Ext.refl _).butI u1 (fun o _ q => by cases q); have g3p := (y3.get g.next (by rw [nG]; omega)).trans gG; have rG3 := rCl (off := 3) g3p rfl; have kr1 := k1.row; have sl3 := sl2.ext y3)) | ((refine x_append_tk (Tk.nil _ _) (Nat.le_refl _) sl3 (one_map _ _) (by simp; omega) ?_; rintro w2 g4 k2 u2 e2; have y4 := (Ext.refl _).butI u2 (fun o _ q => by cases q); have g4p := (y4.get g.next (by have := y3.next; rw [nG] at this; omega)).trans g3p; have kr2 := k2.row)) | ((refine st_step (cs := [.int .u8 st.s.kind,.int .i64 st.s.id,st.lv,st.hv]) (sp := false) g4p (by simp) (one_row kr1) ?_; intro g5 g5p n5 f5)) | ((refine st_step (cs := [.int .u8 st.s.kind,.int .i64 st.s.id,w1,st.hv]) (sp := false) g5p (by simp) (one_row kr2) ?_; intro g6 g6p n6 f6; have rp6 : rCs g6 g.next 0 0 4 = some [.int .u8 st.s.kind,.int .i64 st.s.id,w1,w2] := readCells_arr g6p (by simp)))) <;>
  (try simp -implicitDefEqProofs (disch := first | assumption | omega) only [sx,sb,sd,se,xwS,xwO,xwI,oEv,xres,o1f,Nat.reduceAdd,Nat.reduceEqDiff,Nat.reduceSub, ↓reduceIte,reduceCtorEq,si,sh,sf,cellsOf_slice,fillV,parts,over,Nat.beq_refl,Nat.ble, *]))
 have hn3 : g.next + 1 <= g3.next := by have := y3.next; rw [nG] at this; exact this
 have hn4 := y4.next
 have x6 : Ext g g6 := ⟨by omega,fun x q => (f6 x (by omega)).trans ((f5 x (by omega)).trans ((y4.get x (by omega)).trans ((y3.get x (by rw [nG]; omega)).trans (xG.get x q))))⟩
 refine x_append_grn (b := h.next) (ys := [.int .u8 st.s.kind,.int .i64 st.s.id,w1,w2]) (by decide) ((gr.ext x6).ext (Ext.new ..)) (by have := xg.next; rw [next_new]; omega) (El.new (o := g4.next) (by rw [show g4.next = g6.next by omega]; exact get_new ..) rfl) (by rw [List.all_cons,List.all_cons,List.all_cons,List.all_cons,one_row kr1,one_row kr2]; rfl) (by omega) ?_
 rintro dv2 g7 gr7 u7 e7
 repeat' ((first | refine Z0 rfl ?_ | refine Z1 rfl ?_ | refine Z2 ?_ | refine Z3 ?_ | refine Z4 ?_ | refine Z5 ?_ | refine Z6 ?_ | refine Z7 ?_ | refine Z8 ?_ | refine Z9 (fun hif => ?_) (fun hif => ?_) | refine Za (fun hif => ?_) (fun hif => ?_) | refine Zb (fun hif => ?_) (fun hif => ?_) | (refine Zc ?_ ?_; omega) | (refine Zd ?_ ?_; omega) | (refine Ze ?_ ?_; omega)) <;>
  (try simp -implicitDefEqProofs (disch := first | assumption | omega) only [sx,sb,sd,se,xwS,xwO,xwI,oEv,xres,o1f,Nat.reduceAdd,Nat.reduceEqDiff,Nat.reduceSub, ↓reduceIte,reduceCtorEq,sf, *]))
 unfold Kept at p1 p2 p3 p4 hstk
 have un := u7.next
 rw [next_new] at un
 have csl := gr.size
 have l1 : ∀ x,rOb w1 = some x -> g.next + 1 <= x /\ x < g3.next := fun x hx => by have := k1.lt hx; rw [nG] at this; exact this
 have l2 : ∀ x,rOb w2 = some x -> g3.next <= x /\ x < g4.next := fun x hx => k2.lt hx
 have ld : ∀ x,rOb dv = some x -> x < g.next := fun x hx => (gr.lt hx).2
 have lo : ∀ j x,j < i -> rowsOf ls hs' j x -> x < g.next := fun j x hj q => by
  obtain ⟨_,_,_,_,q5,q6⟩ := p1 j (by omega) hj
  exact q.elim (fun q => (q5.lt q).2) fun q => (q6.lt q).2
 have hG7 : ∀ x,x < g6.next -> rOb dv ≠ some x -> g7.get x = g6.get x := fun x q1 q2 => (u7.get x (by rw [next_new]; omega) q2).trans ((Ext.new ..).get x q1)
 have hnr : ∀ x,x < g6.next -> rOb dv ≠ some x -> rOb dv2 ≠ some x := fun x q1 q2 q3 => by
  rcases e7 with e | e
  ·exact q2 (e ▸ q3)
  ·rw [q3] at e
   cases e
   rw [next_new] at q1
   omega
 have ndv : ∀ x,g.next <= x -> rOb dv ≠ some x := fun x q e => by have := ld x e; omega
 have o1 : ∀ j,j < i -> (ls ++ [w1]).getD j .nils = ls.getD j .nils := fun j hj => by simp [List.getD_eq_getElem?_getD,List.getElem?_append_left (show j < ls.length by omega)]
 have o2 : ∀ j,j < i -> (hs' ++ [w2]).getD j .nils = hs'.getD j .nils := fun j hj => by simp [List.getD_eq_getElem?_getD,List.getElem?_append_left (show j < hs'.length by omega)]
 have m1 : (ls ++ [w1]).getD i .nils = w1 := by simp [List.getD_eq_getElem?_getD, <- hls]
 have m2 : (hs' ++ [w2]).getD i .nils = w2 := by simp [List.getD_eq_getElem?_getD, <- hhs]
 have ro : ∀ j x,j < i -> (rowsOf (ls ++ [w1]) (hs' ++ [w2]) j x ↔ rowsOf ls hs' j x) := fun j x hj => by unfold rowsOf; rw [o1 j hj,o2 j hj]
 have rn : ∀ x,rowsOf (ls ++ [w1]) (hs' ++ [w2]) i x -> g.next + 1 <= x /\ x < g6.next := fun x q => by
  unfold rowsOf at q
  rw [m1,m2] at q
  rcases q with q | q
  ·have := l1 x q; omega
  ·have := l2 x q; omega
 refine ⟨n - 1,by omega,i + 1,dv2,_,ls ++ [w1],hs' ++ [w2],by omega,by simp,rfl,(xg.trans (x6.trans (Ext.new ..))).butI u7 (fun o ho q => by have := gr.lt q; omega),gr7,by simp; omega,by simp; omega,fun j hj hlt => ?_,fun j x hlt q => ?_,fun j k x hjk hlt q q' => ?_,fun j x hlt q => ?_⟩
 ·rcases Nat.lt_succ_iff_lt_or_eq.1 hlt with hji | rfl
  ·rw [o1 j hji,o2 j hji,List.getElem?_append_left (by omega),List.getElem?_append_left (by omega),List.getElem?_append_left (by omega),List.getElem?_append_left (by omega)]
   obtain ⟨q1,q2,q3,q4,q5,q6⟩ := p1 j hj hji
   exact ⟨q1,q2,q3,q4,(q5.ext x6).frame (by omega) fun x hx => hG7 x (by have := q5.lt hx; omega) (p2 j x hji (.inl hx)),(q6.ext x6).frame (by omega) fun x hx => hG7 x (by have := q6.lt hx; omega) (p2 j x hji (.inr hx))⟩
  ·rw [m1,m2,List.getElem?_append_right (by omega),List.getElem?_append_right (by omega),List.getElem?_append_right (by omega),List.getElem?_append_right (by omega),show j * 4 - cs.length = 0 by omega,show j * 4 + 1 - cs.length = 1 by omega,show j * 4 + 2 - cs.length = 2 by omega,show j * 4 + 3 - cs.length = 3 by omega, <- hstk]
   have xgn := xg.next
   have k1' : Tk h.next g3 w1 (st.s.lits.map (.int .i32)) := (k1.low (by rw [nG]; omega) : Tk h.next g3 w1 ([] ++ st.s.lits.map (.int .i32)))
   have k2' : Tk h.next g4 w2 (st.s.hints.map (.int .i64)) := (k2.low (by omega) : Tk h.next g4 w2 ([] ++ st.s.hints.map (.int .i64)))
   exact ⟨rfl,rfl,rfl,rfl,k1'.frame (by omega) fun x hx => (hG7 x (by have := l1 x hx; omega) (ndv x (by have := l1 x hx; omega))).trans ((f6 x (by have := l1 x hx; omega)).trans ((f5 x (by have := l1 x hx; omega)).trans (y4.get x (l1 x hx).2))),k2'.frame (by omega) fun x hx => (hG7 x (by have := l2 x hx; omega) (ndv x (by have := l2 x hx; omega))).trans ((f6 x (by have := l2 x hx; omega)).trans (f5 x (by have := l2 x hx; omega)))⟩
 ·rcases Nat.lt_succ_iff_lt_or_eq.1 hlt with hji | rfl
  ·rw [ro j x hji] at q
   exact hnr x (by have := lo j x hji q; omega) (p2 j x hji q)
  ·have := rn x q
   exact hnr x (by omega) (ndv x (by omega))
 ·rw [ro j x (by omega)] at q
  rcases Nat.lt_succ_iff_lt_or_eq.1 hlt with hki | rfl
  ·rw [ro k x hki] at q'
   exact p3 j k x hjk hki q q'
  ·have := lo j x hjk q
   have := rn x q'
   omega
 ·rcases Nat.lt_succ_iff_lt_or_eq.1 hlt with hji | rfl
  ·rw [o1 j hji] at q
   rw [o2 j hji]
   exact p4 j x hji q
  ·rw [m1] at q
   rw [m2]
   intro e
   have := l1 x q
   have := l2 x e
   omega
open Go.Xr Go.Chk
theorem writeCell_grownE {e : Nat} {h : Heap} {o g : Nat} {r : List Nat} {cs : List V} (hg : h.get o = some (grownObj cs g r e)) {k : Nat} {v : V} (hk : k < cs.length) (h1 : v.one = true) : writeCells h o g k [v] = some (h.put o (grownObj (cs.set k v) g [] e)) := by
 unfold writeCells Heap.cells?
 rw [hg]
 simp only [grownObj,Nat.beq_refl]
 have : (Nat.ble (k + [v].length) cs.length && [v].all V.one) = true := by
  rw [show [v].all V.one = true by simp [h1],Bool.and_true]
  exact Nat.ble_eq_true_of_le (by simp; omega)
 simp only [this,over_one hk,List.length_set]
set_option maxHeartbeats 8000000 in
theorem Spoil_ok {v : V} {b : Nat} {h : Heap} {ov gn i : Nat} {cap : Cap} {r : List Nat} {cs : List V} {lv hv : V} {lits hints : List Int} (hv0 : v = .slice ov gn (i * 4) 1 cap) (hov : ov < h.next) (hg : h.get ov = some (grownObj cs gn r 4)) (hi : i * 4 + 3 < cs.length) (h2 : cs[i * 4 + 2]? = some lv) (h3 : cs[i * 4 + 3]? = some hv) (t2 : Tk b h lv (lits.map (.int .i32))) (t3 : Tk b h hv (hints.map (.int .i64)))
  (d1 : ∀ x,rOb lv = some x -> x ≠ ov) (d2 : ∀ x,rOb hv = some x -> x ≠ ov) (d3 : ∀ x,rOb lv = some x -> rOb hv ≠ some x) (hl : lits.length <= 1000000) (hh : hints.length <= 1000000) :
  EvCall xprog H0 14 [v] h fun _ h' => h'.get ov = some (grownObj (cs.set (i * 4 + 1) (.int .i64 99)) gn [] 4) /\ h'.next = h.next /\ ∀ x,x < h.next -> x ≠ ov -> rOb lv ≠ some x -> rOb hv ≠ some x -> h'.get x = h.get x := by
 refine s_call (fn := xf14) rfl (free _ rfl ..) ?_
 have rd : ∀ {g : Heap},g.get ov = some (grownObj cs gn r 4) -> rCs g ov gn (i * 4 + 2) 1 = some [lv] /\ rCs g ov gn (i * 4 + 3) 1 = some [hv] := fun q => by
  obtain ⟨q2,e2⟩ := List.getElem?_eq_some_iff.1 h2
  obtain ⟨q3,e3⟩ := List.getElem?_eq_some_iff.1 h3
  constructor
  ·rw [readCells_grownE q (by omega),List.drop_eq_getElem_cons q2,e2]
   rfl
  ·rw [readCells_grownE q (by omega),List.drop_eq_getElem_cons q3,e3]
   rfl
 obtain ⟨r2,r3⟩ := rd hg
 have y1 : rowS v = true := by rw [hv0]; rfl
 have y2 : lenS v = 1 := by rw [hv0]; rfl
 have y3 : objS v = ov := by rw [hv0]; rfl
 have y4 : genS v = gn := by rw [hv0]; rfl
 have y5 : offS v = i * 4 := by rw [hv0]; rfl
 clear hv0
 have e2 := t2.len
 have e3 := t3.len
 have w2 := t2.row
 have w3 := t3.row
 rw [List.length_map] at e2 e3
 have hd1 : Kept (∀ x,rOb lv = some x -> x ≠ ov) := d1
 have hd2 : Kept (∀ x,rOb hv = some x -> x ≠ ov) := d2
 have hd3 : Kept (∀ x,rOb lv = some x -> rOb hv ≠ some x) := d3
 clear d1 d2 d3 h2 h3
 simp -implicitDefEqProofs only [xf14,argsFrom_cons,argsFrom_nil]
 repeat' ((first | refine Z0 rfl ?_ | refine Z1 rfl ?_ | refine Z2 ?_ | refine Z3 ?_ | refine Z4 ?_ | refine Z5 ?_ | refine Z6 ?_ | refine Z7 ?_ | refine Z8 ?_ | refine Z9 (fun hif => ?_) (fun hif => ?_) | refine Za (fun hif => ?_) (fun hif => ?_) | refine Zb (fun hif => ?_) (fun hif => ?_) | (refine Zc ?_ ?_; omega) | (refine Zd ?_ ?_; omega) | (refine Ze ?_ ?_; omega)) <;>
  (try simp -implicitDefEqProofs (disch := first | assumption | omega) only [sx,sb,sd,se,xwS,xwO,xwI,oEv,xres,o1f,Nat.reduceAdd,Nat.reduceEqDiff,Nat.reduceSub, ↓reduceIte,reduceCtorEq,wrap_i64, *]))
 refine s_while (fun m t d g => sO t 0 = v /\ d = [] /\ ((m = 1 /\ sO t 2 = .int .i64 0 /\ g = h) \/ (m = 0 /\ sO t 2 = .int .i64 1 /\ g.get ov = some (grownObj (cs.set (i * 4 + 1) (.int .i64 99)) gn [] 4) /\ g.next = h.next /\ Kept (∀ x,x < h.next -> x ≠ ov -> rOb lv ≠ some x -> rOb hv ≠ some x -> g.get x = h.get x)))) (fun _ _ _ => frC ..) 1 ⟨by simp [sSe],rfl,.inl ⟨rfl,by simp [sSe],rfl⟩⟩ ?_
 rintro m t d g ⟨a0,rfl,⟨rfl,a2,rfl⟩ | ⟨rfl,a2,q1,q2,q3⟩⟩
 ·refine s_cut1 (fun t d g1 => sO t 0 = v /\ sO t 2 = .int .i64 0 /\ d = [] /\ g1 = g) ?_ ?_
  ·repeat' ((first | refine Z0 rfl ?_ | refine Z1 rfl ?_ | refine Z2 ?_ | refine Z3 ?_ | refine Z4 ?_ | refine Z5 ?_ | refine Z6 ?_ | refine Z7 ?_ | refine Z8 ?_ | refine Z9 (fun hif => ?_) (fun hif => ?_) | refine Za (fun hif => ?_) (fun hif => ?_) | refine Zb (fun hif => ?_) (fun hif => ?_) | (refine Zc ?_ ?_; omega) | (refine Zd ?_ ?_; omega) | (refine Ze ?_ ?_; omega)) <;>
    (try simp -implicitDefEqProofs (disch := first | assumption | omega) only [sx,sb,sd,se,xwS,xwO,xwI,oEv,xres,o1f,Nat.reduceAdd,Nat.reduceEqDiff,Nat.reduceSub, ↓reduceIte,reduceCtorEq,wrap_i64,Nat.zero_add,Nat.add_zero,Int.toNat_zero,Nat.zero_mul, *]))
  clear a0 a2 t
  rintro t d g ⟨a0,a2,rfl,rfl⟩
  refine s_seq ?_
  refine s_block ?_
  refine s_cut1 (fun t d g1 => sO t 0 = v /\ sO t 2 = .int .i64 0 /\ d = [] /\ g1.next = g.next /\ Kept (∀ x,x < g.next -> rOb lv ≠ some x -> g1.get x = g.get x)) ?_ ?_
  ·repeat' ((first | refine Z0 rfl ?_ | refine Z1 rfl ?_ | refine Z2 ?_ | refine Z3 ?_ | refine Z4 ?_ | refine Z5 ?_ | refine Z6 ?_ | refine Z7 ?_ | refine Z8 ?_ | refine Z9 (fun hif => ?_) (fun hif => ?_) | refine Za (fun hif => ?_) (fun hif => ?_) | refine Zb (fun hif => ?_) (fun hif => ?_) | (refine Zc ?_ ?_; omega) | (refine Zd ?_ ?_; omega) | (refine Ze ?_ ?_; omega)) <;>
    (try simp -implicitDefEqProofs (disch := first | assumption | omega) only [sx,sb,sd,se,xwS,xwO,xwI,oEv,xres,o1f,Nat.reduceAdd,Nat.reduceEqDiff,Nat.reduceSub, ↓reduceIte,reduceCtorEq,wrap_i64,Nat.zero_add,Nat.add_zero,Int.toNat_zero,Nat.zero_mul, *]))
   refine s_while (fun n t d g2 => ∃ (k : Nat) (ys : List V),k + n = lits.length /\ sO t 3 = .int .i64 k /\ sO t 2 = .int .i64 0 /\ sO t 0 = v /\ d = [] /\ ys.length = lits.length /\ Tk b g2 lv ys /\ g2.next = g.next /\ Kept (∀ x,x < g.next -> rOb lv ≠ some x -> g2.get x = g.get x)) (fun _ _ _ => frC ..) lits.length ⟨0,_,by omega,by simp [sSe],by simp [sSe,a2],by simp [sSe,a0],rfl,by rw [List.length_map],t2,rfl,fun _ _ _ => rfl⟩ ?_
   clear a0 a2 t
   rintro n t d g2 ⟨k,ys,b1,a3,a2,a0,rfl,hys,tk,m1,f2⟩
   have f2' : (∀ x,x < g.next -> rOb lv ≠ some x -> g2.get x = g.get x) := f2
   have go2 : g2.get ov = some (grownObj cs gn r 4) := (f2' ov hov (fun e => (show ∀ x,rOb lv = some x -> x ≠ ov from hd1) ov e rfl)).trans hg
   obtain ⟨r12,r13⟩ := rd go2
   clear f2'
   by_cases hk : k < lits.length
   ·obtain ⟨g3,v1,v2,v3,v4⟩ := tk.write (k := k) (y := .int .i32 99) (by omega) rfl
    repeat' ((first | refine Z0 rfl ?_ | refine Z1 rfl ?_ | refine Z2 ?_ | refine Z3 ?_ | refine Z4 ?_ | refine Z5 ?_ | refine Z6 ?_ | refine Z7 ?_ | refine Z8 ?_ | refine Z9 (fun hif => ?_) (fun hif => ?_) | refine Za (fun hif => ?_) (fun hif => ?_) | refine Zb (fun hif => ?_) (fun hif => ?_) | (refine Zc ?_ ?_; omega) | (refine Zd ?_ ?_; omega) | (refine Ze ?_ ?_; omega)) <;>
     (try simp -implicitDefEqProofs (disch := first | assumption | omega) only [sx,sb,sd,se,xwS,xwO,xwI,oEv,xres,o1f,Nat.reduceAdd,Nat.reduceEqDiff,Nat.reduceSub, ↓reduceIte,reduceCtorEq,si,sf,Int.toNat_zero,Nat.zero_mul, *]))
    ·refine ⟨n - 1,by omega,k + 1,_,by omega,by simp,by rw [List.length_set]; exact hys,v2,?_⟩
     unfold Kept at f2 ⊢
     first
      | exact fun x q1 q2 => (v3.get x (by omega) q2).trans (f2 x q1 q2)
      | exact fun x q1 q2 q3 => (v3.get x (by omega) q3).trans (f2 x q1 q2 q3)
   ·repeat' ((first | refine Z0 rfl ?_ | refine Z1 rfl ?_ | refine Z2 ?_ | refine Z3 ?_ | refine Z4 ?_ | refine Z5 ?_ | refine Z6 ?_ | refine Z7 ?_ | refine Z8 ?_ | refine Z9 (fun hif => ?_) (fun hif => ?_) | refine Za (fun hif => ?_) (fun hif => ?_) | refine Zb (fun hif => ?_) (fun hif => ?_) | (refine Zc ?_ ?_; omega) | (refine Zd ?_ ?_; omega) | (refine Ze ?_ ?_; omega)) <;>
     (try simp -implicitDefEqProofs (disch := first | assumption | omega) only [sx,sb,sd,se,xwS,xwO,xwI,oEv,xres,o1f,Nat.reduceAdd,Nat.reduceEqDiff,Nat.reduceSub, ↓reduceIte,reduceCtorEq,sf,Int.toNat_zero,Nat.zero_mul, *]))
    all_goals (exfalso; omega)
  clear a0 a2 t
  rintro t d g1 ⟨a0,a2,rfl,n1,f1⟩
  have f1' : ∀ x,x < g.next -> rOb lv ≠ some x -> g1.get x = g.get x := f1
  have t31 : Tk b g1 hv (hints.map (.int .i64)) := t3.frame (by omega) fun x hx => f1' x (t3.lt hx).2 fun e => (show ∀ x,rOb lv = some x -> rOb hv ≠ some x from hd3) x e hx
  have go1 : g1.get ov = some (grownObj cs gn r 4) := (f1' ov hov fun e => (show ∀ x,rOb lv = some x -> x ≠ ov from hd1) ov e rfl).trans hg
  obtain ⟨r12,r13⟩ := rd go1
  clear f1'
  refine s_cut1 (fun t d g1 => sO t 0 = v /\ sO t 2 = .int .i64 0 /\ d = [] /\ g1.next = g.next /\ Kept (∀ x,x < g.next -> rOb lv ≠ some x -> rOb hv ≠ some x -> g1.get x = g.get x)) ?_ ?_
  ·repeat' ((first | refine Z0 rfl ?_ | refine Z1 rfl ?_ | refine Z2 ?_ | refine Z3 ?_ | refine Z4 ?_ | refine Z5 ?_ | refine Z6 ?_ | refine Z7 ?_ | refine Z8 ?_ | refine Z9 (fun hif => ?_) (fun hif => ?_) | refine Za (fun hif => ?_) (fun hif => ?_) | refine Zb (fun hif => ?_) (fun hif => ?_) | (refine Zc ?_ ?_; omega) | (refine Zd ?_ ?_; omega) | (refine Ze ?_ ?_; omega)) <;>
    (try simp -implicitDefEqProofs (disch := first | assumption | omega) only [sx,sb,sd,se,xwS,xwO,xwI,oEv,xres,o1f,Nat.reduceAdd,Nat.reduceEqDiff,Nat.reduceSub, ↓reduceIte,reduceCtorEq,wrap_i64,Nat.zero_add,Nat.add_zero,Int.toNat_zero,Nat.zero_mul, *]))
   refine s_while (fun n t d g2 => ∃ (k : Nat) (ys : List V),k + n = hints.length /\ sO t 4 = .int .i64 k /\ sO t 2 = .int .i64 0 /\ sO t 0 = v /\ d = [] /\ ys.length = hints.length /\ Tk b g2 hv ys /\ g2.next = g.next /\ Kept (∀ x,x < g.next -> rOb lv ≠ some x -> rOb hv ≠ some x -> g2.get x = g.get x)) (fun _ _ _ => frC ..) hints.length ⟨0,_,by omega,by simp [sSe],by simp [sSe,a2],by simp [sSe,a0],rfl,by rw [List.length_map],t31,n1,fun x q1 q2 _ => (show ∀ x,x < g.next -> rOb lv ≠ some x -> g1.get x = g.get x from f1) x q1 q2⟩ ?_
   clear a0 a2 t
   rintro n t d g2 ⟨k,ys,b1,a3,a2,a0,rfl,hys,tk,m1,f2⟩
   have f2' : (∀ x,x < g.next -> rOb lv ≠ some x -> rOb hv ≠ some x -> g2.get x = g.get x) := f2
   have go2 : g2.get ov = some (grownObj cs gn r 4) := (f2' ov hov (fun e => (show ∀ x,rOb lv = some x -> x ≠ ov from hd1) ov e rfl) (fun e => (show ∀ x,rOb hv = some x -> x ≠ ov from hd2) ov e rfl)).trans hg
   obtain ⟨r12,r13⟩ := rd go2
   clear f2'
   by_cases hk : k < hints.length
   ·obtain ⟨g3,v1,v2,v3,v4⟩ := tk.write (k := k) (y := .int .i64 99) (by omega) rfl
    repeat' ((first | refine Z0 rfl ?_ | refine Z1 rfl ?_ | refine Z2 ?_ | refine Z3 ?_ | refine Z4 ?_ | refine Z5 ?_ | refine Z6 ?_ | refine Z7 ?_ | refine Z8 ?_ | refine Z9 (fun hif => ?_) (fun hif => ?_) | refine Za (fun hif => ?_) (fun hif => ?_) | refine Zb (fun hif => ?_) (fun hif => ?_) | (refine Zc ?_ ?_; omega) | (refine Zd ?_ ?_; omega) | (refine Ze ?_ ?_; omega)) <;>
     (try simp -implicitDefEqProofs (disch := first | assumption | omega) only [sx,sb,sd,se,xwS,xwO,xwI,oEv,xres,o1f,Nat.reduceAdd,Nat.reduceEqDiff,Nat.reduceSub, ↓reduceIte,reduceCtorEq,si,sf,Int.toNat_zero,Nat.zero_mul, *]))
    ·refine ⟨n - 1,by omega,k + 1,_,by omega,by simp,by rw [List.length_set]; exact hys,v2,?_⟩
     unfold Kept at f2 ⊢
     first
      | exact fun x q1 q2 => (v3.get x (by omega) q2).trans (f2 x q1 q2)
      | exact fun x q1 q2 q3 => (v3.get x (by omega) q3).trans (f2 x q1 q2 q3)
   ·repeat' ((first | refine Z0 rfl ?_ | refine Z1 rfl ?_ | refine Z2 ?_ | refine Z3 ?_ | refine Z4 ?_ | refine Z5 ?_ | refine Z6 ?_ | refine Z7 ?_ | refine Z8 ?_ | refine Z9 (fun hif => ?_) (fun hif => ?_) | refine Za (fun hif => ?_) (fun hif => ?_) | refine Zb (fun hif => ?_) (fun hif => ?_) | (refine Zc ?_ ?_; omega) | (refine Zd ?_ ?_; omega) | (refine Ze ?_ ?_; omega)) <;>
     (try simp -implicitDefEqProofs (disch := first | assumption | omega) only [sx,sb,sd,se,xwS,xwO,xwI,oEv,xres,o1f,Nat.reduceAdd,Nat.reduceEqDiff,Nat.reduceSub, ↓reduceIte,reduceCtorEq,sf,Int.toNat_zero,Nat.zero_mul, *]))
    all_goals (exfalso; omega)
  clear a0 a2 t go1 r12 r13 t31 f1 n1 g1
  rintro t d g1 ⟨a0,a2,rfl,n1,f1⟩
  have go1 : g1.get ov = some (grownObj cs gn r 4) := ((show ∀ x,x < g.next -> rOb lv ≠ some x -> rOb hv ≠ some x -> g1.get x = g.get x from f1) ov hov (fun e => (show ∀ x,rOb lv = some x -> x ≠ ov from hd1) ov e rfl) (fun e => (show ∀ x,rOb hv = some x -> x ≠ ov from hd2) ov e rfl)).trans hg
  have wr := writeCell_grownE go1 (k := i * 4 + 1) (v := .int .i64 99) (by omega) rfl
  repeat' ((first | refine Z0 rfl ?_ | refine Z1 rfl ?_ | refine Z2 ?_ | refine Z3 ?_ | refine Z4 ?_ | refine Z5 ?_ | refine Z6 ?_ | refine Z7 ?_ | refine Z8 ?_ | refine Z9 (fun hif => ?_) (fun hif => ?_) | refine Za (fun hif => ?_) (fun hif => ?_) | refine Zb (fun hif => ?_) (fun hif => ?_) | (refine Zc ?_ ?_; omega) | (refine Zd ?_ ?_; omega) | (refine Ze ?_ ?_; omega)) <;>
   (try simp -implicitDefEqProofs (disch := first | assumption | omega) only [sx,sb,sd,se,xwS,xwO,xwI,oEv,xres,o1f,Nat.reduceAdd,Nat.reduceEqDiff,Nat.reduceSub, ↓reduceIte,reduceCtorEq,si,wrap_i64,Nat.zero_add,Nat.add_zero,Int.toNat_zero,Nat.zero_mul, *]))
  refine ⟨0,by omega,.inr ⟨rfl,rfl,by rw [Heap.get_put,if_pos rfl],n1,?_⟩⟩
  unfold Kept at f1 ⊢
  intro x q1 q2 q3 q4
  rw [Heap.get_put,if_neg q2]
  exact f1 x q1 q3 q4
 ·repeat' ((first | refine Z0 rfl ?_ | refine Z1 rfl ?_ | refine Z2 ?_ | refine Z3 ?_ | refine Z4 ?_ | refine Z5 ?_ | refine Z6 ?_ | refine Z7 ?_ | refine Z8 ?_ | refine Z9 (fun hif => ?_) (fun hif => ?_) | refine Za (fun hif => ?_) (fun hif => ?_) | refine Zb (fun hif => ?_) (fun hif => ?_) | (refine Zc ?_ ?_; omega) | (refine Zd ?_ ?_; omega) | (refine Ze ?_ ?_; omega)) <;>
   (try simp -implicitDefEqProofs (disch := first | assumption | omega) only [sx,sb,sd,se,xwS,xwO,xwI,oEv,xres,o1f,Nat.reduceAdd,Nat.reduceEqDiff,Nat.reduceSub, ↓reduceIte,reduceCtorEq,wrap_i64,Nat.zero_add,Nat.add_zero, *]))
  unfold Kept at q3
  exact q3
open Go.Xr Go.Chk
theorem repl_one (n : Nat) (v : V) : repl n [v] = List.replicate n v := by
 unfold repl
 induction n with
 | zero => rfl
 | succ n ih => rw [List.replicate_succ,List.flatten_cons,ih,List.replicate_succ]; rfl
theorem appendZ_tk {b : Nat} {h : Heap} {v : V} {xs : List V} {n : Nat} {z : V} (hv : Tk b h v xs) (hn : b <= h.next) (h1 : z.one = true) (hb : xs.length + n <= 140737488355328) :
  ∃ v' h',appendV h 1 1 v (repl n [z]) n = some (v',h') /\ Tk b h' v' (xs ++ List.replicate n z) /\ But (fun o => rOb v = some o) h h' /\ (v' = v \/ rOb v' = rOb v \/ rOb v' = some h.next) := by
 obtain ⟨v',h',e,a1,a2,a3⟩ := append_tk (bytes := 1) (ys := List.replicate n z) hv hn (by rw [List.all_eq_true]; intro x hx; rw [List.eq_of_mem_replicate hx]; exact h1) (by rw [List.length_replicate,Nat.mul_one]; exact hb)
 rw [List.length_replicate] at e
 exact ⟨v',h',by rw [repl_one]; exact e,a1,a2,a3⟩
def Mut (h : Heap) (o x : Nat) : Prop := x = o \/ ∃ cs,h.get o = some (arr cs 1 false) /\ (cs[0]? = some (.map x) \/ ∃ v,(cs[4]? = some v \/ cs[5]? = some v) /\ rOb v = some x)
theorem arr_inj {cs cs' : List V} (h : some (arr cs 1 false) = some (arr cs' 1 false)) : cs = cs' := by
 have := Option.some.inj h
 unfold arr at this
 cases this
 rfl
theorem mut_iff {h : Heap} {o mo x : Nat} {a b c vv tv : V} (hg : h.get o = some (arr [.map mo,a,b,c,vv,tv] 1 false)) : Mut h o x ↔ x = o \/ x = mo \/ rOb vv = some x \/ rOb tv = some x := by
 unfold Mut
 constructor
 ·rintro (q | ⟨cs,q1,q2⟩)
  ·exact .inl q
  ·rw [hg] at q1
   have := arr_inj q1
   subst this
   rcases q2 with q2 | ⟨v,q2 | q2,q3⟩
   ·cases q2; exact .inr (.inl rfl)
   ·cases q2; exact .inr (.inr (.inl q3))
   ·cases q2; exact .inr (.inr (.inr q3))
 ·rintro (q | rfl | q | q)
  ·exact .inl q
  ·exact .inr ⟨_,hg,.inl rfl⟩
  ·exact .inr ⟨_,hg,.inr ⟨_,.inl rfl,q⟩⟩
  ·exact .inr ⟨_,hg,.inr ⟨_,.inr rfl,q⟩⟩
def HObj (h : Heap) (o ho : Nat) : Prop := ∃ cs mo kd ces ins id,h.get o = some (arr cs 1 false) /\ cs[0]? = some (.map mo) /\ h.get mo = some (.map kd ces ins) /\ (id,V.ptr ho 0 0) ∈ ces
def Foot (h : Heap) (o x : Nat) : Prop := Mut h o x \/ ∃ ho,HObj h o ho /\ (x = ho \/ ∃ hs v,h.get ho = some (arr hs 1 false) /\ v ∈ hs /\ lenS v ≠ 0 /\ rOb v = some x)
def WFo (h : Heap) (o : Nat) : Prop := (∀ cs mo,h.get o = some (arr cs 1 false) -> cs[0]? = some (.map mo) -> mo < h.next) /\ ∀ ho,HObj h o ho -> ho < h.next
def Grows (o : Nat) (h h' : Heap) : Prop := WFo h o -> WFo h' o /\ ∀ x,Foot h' o x -> Foot h o x \/ h.next <= x
structure Chg (o : Nat) (h h' : Heap) : Prop where
 but : But (Mut h o) h h'
 back : ∀ x,x < h.next -> Mut h' o x -> Mut h o x
 foot : Grows o h h'
theorem Chg.refl (o : Nat) (h : Heap) : Chg o h h := ⟨But.refl _ _,fun _ _ q => q,fun w => ⟨w,fun _ q => .inl q⟩⟩
theorem Chg.trans {o : Nat} {a b c : Heap} (h1 : Chg o a b) (h2 : Chg o b c) : Chg o a c :=
 ⟨⟨Nat.le_trans h1.but.next h2.but.next,fun x hx hm => (h2.but.get x (Nat.lt_of_lt_of_le hx h1.but.next) fun q => hm (h1.back x hx q)).trans (h1.but.get x hx hm)⟩,fun x hx q => h1.back x hx (h2.back x (Nat.lt_of_lt_of_le hx h1.but.next) q),
  fun w => ⟨(h2.foot (h1.foot w).1).1,fun x q => ((h2.foot (h1.foot w).1).2 x q).elim (fun q => (h1.foot w).2 x q) fun q => .inr (Nat.le_trans h1.but.next q)⟩⟩
theorem Mut.ext {h h' : Heap} {o x : Nat} (e : Ext h h') (ho : o < h.next) : Mut h' o x ↔ Mut h o x := by
 unfold Mut
 rw [e.get o ho]
theorem foot_same {o : Nat} {h h' : Heap} (w : WFo h o) (hn : h.next <= h'.next) (hm : ∀ x,Mut h' o x -> Mut h o x \/ h.next <= x) (h0 : ∀ cs mo,h'.get o = some (arr cs 1 false) -> cs[0]? = some (.map mo) -> ∃ cs',h.get o = some (arr cs' 1 false) /\ cs'[0]? = some (.map mo))
  (h1 : ∀ mo cs,h.get o = some (arr cs 1 false) -> cs[0]? = some (.map mo) -> h'.get mo = h.get mo) (h2 : ∀ ho,HObj h o ho -> h'.get ho = h.get ho) : WFo h' o /\ ∀ x,Foot h' o x -> Foot h o x \/ h.next <= x := by
 have hh : ∀ ho,HObj h' o ho -> HObj h o ho := by
  rintro ho ⟨cs,mo,kd,ces,ins,id,q1,q2,q3,q4⟩
  obtain ⟨cs',q5,q6⟩ := h0 cs mo q1 q2
  exact ⟨cs',mo,kd,ces,ins,id,q5,q6,by rw [<- h1 mo cs' q5 q6]; exact q3,q4⟩
 refine ⟨⟨fun cs mo q1 q2 => ?_,fun ho q => Nat.lt_of_lt_of_le (w.2 ho (hh ho q)) hn⟩,?_⟩
 ·obtain ⟨cs',q5,q6⟩ := h0 cs mo q1 q2
  exact Nat.lt_of_lt_of_le (w.1 cs' mo q5 q6) hn
 ·rintro x (q | ⟨ho,q1,q2⟩)
  ·exact (hm x q).imp .inl id
  ·have q3 := hh ho q1
   refine .inl (.inr ⟨ho,q3,q2.imp id ?_⟩)
   rintro ⟨hs,v,e,r⟩
   exact ⟨hs,v,by rw [<- h2 ho q3]; exact e,r⟩
theorem Chg.ext {o : Nat} {h h' : Heap} (e : Ext h h') (ho : o < h.next) : Chg o h h' := ⟨e.but _,fun x hx q => (Mut.ext e ho).1 q,fun w => foot_same w e.next (fun x q => .inl ((Mut.ext e ho).1 q)) (fun cs mo q1 q2 => ⟨cs,by rw [<- e.get o ho]; exact q1,q2⟩) (fun mo cs q1 q2 => e.get mo (w.1 cs mo q1 q2)) fun x q => e.get x (w.2 x q)⟩
def SlO (k : IntKind) (h : Heap) (o : Nat) (v : V) (xs : List Int) : Prop := Sl h v (xs.map (.int k)) /\ (xs ≠ [] -> ∀ x,rOb v = some x -> ¬ Mut h o x)
theorem SlO.lt {k : IntKind} {h : Heap} {o : Nat} {v : V} {xs : List Int} (hs : SlO k h o v xs) (hne : xs ≠ []) {x : Nat} (hx : rOb v = some x) : x < h.next := by
 rcases hs.1 with ⟨rfl,_⟩ | ⟨o',g,off,cap,rfl,h2⟩
 ·cases hx
 ·cases hx
  exact (h2 (by simp; exact List.length_pos_iff.2 hne)).1
theorem SlO.chg {k : IntKind} {h h' : Heap} {o : Nat} {v : V} {xs : List Int} (hs : SlO k h o v xs) (c : Chg o h h') : SlO k h' o v xs := by
 by_cases hne : xs = []
 ·subst hne
  refine ⟨?_,fun q => absurd rfl q⟩
  rcases hs.1 with h1 | ⟨o',g,off,cap,h1,_⟩
  ·exact .inl h1
  ·exact .inr ⟨o',g,off,cap,h1,fun q => by simp at q⟩
 ·exact ⟨hs.1.stay c.but.next fun x hx hlt => c.but.get x hlt (hs.2 hne x hx),fun _ x hx q => hs.2 hne x hx (c.back x (hs.lt hne hx) q)⟩
theorem SlO.ext {k : IntKind} {h h' : Heap} {o : Nat} {v : V} {xs : List Int} (hs : SlO k h o v xs) (e : Ext h h') (ho : o < h.next) : SlO k h' o v xs := hs.chg (Chg.ext e ho)
structure HeldAt (h : Heap) (o ho : Nat) (lv sv : V) (l : List Int) : Prop where
 get : h.get ho = some (arr [lv,sv,.bool (both l)] 1 false)
 lt : ho < h.next
 off : ¬ Mut h o ho
 lits : SlO .i32 h o lv l
 set : SlO .i32 h o sv (nrm l)
theorem HeldAt.chg {h h' : Heap} {o ho : Nat} {lv sv : V} {l : List Int} (hh : HeldAt h o ho lv sv l) (c : Chg o h h') : HeldAt h' o ho lv sv l :=
 ⟨(c.but.get _ hh.lt hh.off).trans hh.get,Nat.lt_of_lt_of_le hh.lt c.but.next,fun q => hh.off (c.back _ hh.lt q),hh.lits.chg c,hh.set.chg c⟩
def HeldAll (h : Heap) (o : Nat) (es : List (Int × List Int)) (ces : List (Int × V)) : Prop := ∀ id,(find es id = none /\ hasKey id ces = none) \/ ∃ l ho lv sv,find es id = some l /\ hasKey id ces = some (.ptr ho 0 0) /\ HeldAt h o ho lv sv l
theorem HeldAll.chg {h h' : Heap} {o : Nat} {es : List (Int × List Int)} {ces : List (Int × V)} (hh : HeldAll h o es ces) (c : Chg o h h') : HeldAll h' o es ces := fun id =>
 (hh id).imp (fun q => q) fun ⟨l,ho,lv,sv,h1,h2,h3⟩ => ⟨l,ho,lv,sv,h1,h2,h3.chg c⟩
structure ChkM (b : Nat) (h : Heap) (o : Nat) (es : List (Int × List Int)) (last : Int) (ov : Bool) (vs tr : List Int) (mo : Nat) (ces : List (Int × V)) (ins : Nat) (vv tv : V) : Prop where
 get : h.get o = some (arr [.map mo,.int .i64 last,.int .i64 (Chk.total es : Nat),.bool ov,vv,tv] 1 false)
 bo : b <= o
 ho : o < h.next
 bm : b <= mo
 hm : mo < h.next
 om : mo ≠ o
 map : h.get mo = some (.map .i64 ces ins)
 val : Tk b h vv (vs.map (.int .i8))
 trl : Tk b h tv (tr.map (.int .i32))
 voff : ∀ x,rOb vv = some x -> x ≠ o /\ x ≠ mo
 toff : ∀ x,rOb tv = some x -> x ≠ o /\ x ≠ mo
 two : ∀ x,rOb vv = some x -> rOb tv ≠ some x
 held : HeldAll h o es ces
 keys : (ces.map Prod.fst).Pairwise (· < ·)
def ChkP (b : Nat) (h : Heap) (o : Nat) (es : List (Int × List Int)) (last : Int) (ov : Bool) (tr : List Int) : Prop := ∃ vs mo ces ins vv tv,ChkM b h o es last ov vs tr mo ces ins vv tv /\ Goodly vs tr
theorem mem_hasKey : ∀ {ces : List (Int × V)} {k : Int} {v : V},(ces.map Prod.fst).Nodup -> (k,v) ∈ ces -> hasKey k ces = some v
 | [],_,_,_,h => by cases h
 | (a,x) :: r,k,v,hn,h => by
  rw [List.map_cons,List.nodup_cons] at hn
  unfold hasKey
  rcases List.mem_cons.1 h with e | h
  ·cases e
   rw [decide_eq_true rfl]
  ·rw [decide_eq_false]
   ·exact mem_hasKey hn.2 h
   ·rintro rfl
    exact hn.1 (List.mem_map.2 ⟨_,h,rfl⟩)
theorem keysND {l : List Int} (h : l.Pairwise (· < ·)) : l.Nodup := h.imp fun {a b} h e => by omega
theorem ChkM.hobj {b : Nat} {h : Heap} {o ho : Nat} {es : List (Int × List Int)} {last : Int} {ov : Bool} {vs tr : List Int} {mo : Nat} {ces : List (Int × V)} {ins : Nat} {vv tv : V} (hc : ChkM b h o es last ov vs tr mo ces ins vv tv) (q : HObj h o ho) : ∃ id lv sv l,find es id = some l /\ hasKey id ces = some (.ptr ho 0 0) /\ HeldAt h o ho lv sv l := by
 obtain ⟨cs,mo',kd,ces',ins',id,q1,q2,q3,q4⟩ := q
 rw [hc.get] at q1
 rw [<- arr_inj q1] at q2
 cases q2
 rw [hc.map] at q3
 cases q3
 have hk := mem_hasKey (keysND hc.keys) q4
 rcases hc.held id with ⟨_,e⟩ | ⟨l,ho',lv,sv,e1,e2,e3⟩
 ·rw [hk] at e; cases e
 ·rw [hk] at e2
  cases e2
  exact ⟨id,lv,sv,l,e1,hk,e3⟩
theorem ChkM.held_off {b : Nat} {h : Heap} {o ho : Nat} {es : List (Int × List Int)} {last : Int} {ov : Bool} {vs tr : List Int} {mo : Nat} {ces : List (Int × V)} {ins : Nat} {vv tv : V} (hc : ChkM b h o es last ov vs tr mo ces ins vv tv) (q : HObj h o ho) : ¬ Mut h o ho :=
 let ⟨_,_,_,_,_,_,e⟩ := hc.hobj q
 e.off
theorem ChkM.wf {b : Nat} {h : Heap} {o : Nat} {es : List (Int × List Int)} {last : Int} {ov : Bool} {vs tr : List Int} {mo : Nat} {ces : List (Int × V)} {ins : Nat} {vv tv : V} (hc : ChkM b h o es last ov vs tr mo ces ins vv tv) : WFo h o :=
 ⟨fun cs mo' q1 q2 => by
  rw [hc.get] at q1
  rw [<- arr_inj q1] at q2
  cases q2
  exact hc.hm,fun ho q => let ⟨_,_,_,_,_,_,e⟩ := hc.hobj q; e.lt⟩
theorem chk_next {b : Nat} {g g' : Heap} {o : Nat} {es : List (Int × List Int)} {last : Int} {ov : Bool} {vs tr vs' tr' : List Int} {mo : Nat} {ces : List (Int × V)} {ins : Nat} {vv tv vv' tv' : V} (hc : ChkM b g o es last ov vs tr mo ces ins vv tv) (hn : g.next <= g'.next)
  (hg : ∀ x,x < g.next -> x ≠ o -> rOb vv ≠ some x -> rOb tv ≠ some x -> g'.get x = g.get x) (ho : g'.get o = some (arr [.map mo,.int .i64 last,.int .i64 (Chk.total es : Nat),.bool ov,vv',tv'] 1 false)) (hv : Tk b g' vv' (vs'.map (.int .i8))) (ht : Tk b g' tv' (tr'.map (.int .i32)))
  (h1 : ∀ x,rOb vv' = some x -> rOb vv = some x \/ g.next <= x) (h2 : ∀ x,rOb tv' = some x -> rOb tv = some x \/ g.next <= x) (h3 : ∀ x,rOb vv' = some x -> rOb tv' ≠ some x) : ChkM b g' o es last ov vs' tr' mo ces ins vv' tv' /\ Chg o g g' := by
 have hmm := hc.hm
 have hoo := hc.ho
 have chg : Chg o g g' := by
  refine ⟨⟨hn,fun x hx hm => ?_⟩,fun x hx q => ?_,?_⟩
  ·rw [mut_iff hc.get] at hm
   exact hg x hx (fun e => hm (.inl e)) (fun e => hm (.inr (.inr (.inl e)))) fun e => hm (.inr (.inr (.inr e)))
  ·rw [mut_iff hc.get]
   rcases (mut_iff ho).1 q with q | q | q | q
   ·exact .inl q
   ·exact .inr (.inl q)
   ·rcases h1 x q with q | q
    ·exact .inr (.inr (.inl q))
    ·omega
   ·rcases h2 x q with q | q
    ·exact .inr (.inr (.inr q))
    ·omega
  ·refine fun w => foot_same w hn (fun x q => ?_) (fun cs mo' q1 q2 => ?_) (fun mo' cs q1 q2 => ?_) fun x q => ?_
   ·rw [mut_iff hc.get]
    rcases (mut_iff ho).1 q with q | q | q | q
    ·exact .inl (.inl q)
    ·exact .inl (.inr (.inl q))
    ·exact (h1 x q).imp (fun q => .inr (.inr (.inl q))) fun q => q
    ·exact (h2 x q).imp (fun q => .inr (.inr (.inr q))) fun q => q
   ·rw [ho] at q1
    rw [<- arr_inj q1] at q2
    exact ⟨_,hc.get,q2⟩
   ·rw [hc.get] at q1
    rw [<- arr_inj q1] at q2
    cases q2
    exact hg mo hmm hc.om (fun q => (hc.voff _ q).2 rfl) fun q => (hc.toff _ q).2 rfl
   ·have q' := hc.held_off q
    rw [mut_iff hc.get] at q'
    exact hg x (w.2 x q) (fun e => q' (.inl e)) (fun e => q' (.inr (.inr (.inl e)))) fun e => q' (.inr (.inr (.inr e)))
 refine ⟨⟨ho,hc.bo,by omega,hc.bm,by omega,hc.om,?_,hv,ht,fun x hx => ?_,fun x hx => ?_,h3,hc.held.chg chg,hc.keys⟩,chg⟩
 ·rw [hg mo hmm hc.om (fun q => (hc.voff _ q).2 rfl) fun q => (hc.toff _ q).2 rfl]
  exact hc.map
 ·rcases h1 x hx with q | q
  ·exact hc.voff x q
  ·exact ⟨by omega,by omega⟩
 ·rcases h2 x hx with q | q
  ·exact hc.toff x q
  ·exact ⟨by omega,by omega⟩
theorem ChkM.ext {b : Nat} {h h' : Heap} {o : Nat} {es : List (Int × List Int)} {last : Int} {ov : Bool} {vs tr : List Int} {mo : Nat} {ces : List (Int × V)} {ins : Nat} {vv tv : V} (hc : ChkM b h o es last ov vs tr mo ces ins vv tv) (x : Ext h h') : ChkM b h' o es last ov vs tr mo ces ins vv tv :=
 (chk_next hc x.next (fun y hy _ _ _ => x.get y hy) ((x.get o hc.ho).trans hc.get) (hc.val.ext x) (hc.trl.ext x) (fun _ q => .inl q) (fun _ q => .inl q) hc.two).1
theorem ChkP.ext {b : Nat} {h h' : Heap} {o : Nat} {es : List (Int × List Int)} {last : Int} {ov : Bool} {tr : List Int} (hc : ChkP b h o es last ov tr) (x : Ext h h') : ChkP b h' o es last ov tr :=
 let ⟨vs,mo,ces,ins,vv,tv,h1,h2⟩ := hc
 ⟨vs,mo,ces,ins,vv,tv,h1.ext x,h2⟩
theorem litVar_abs (l : Int) : litVar l = (l.natAbs : Int) := by
 unfold litVar
 split <;> omega
theorem of_ok {b : Nat} {h : Heap} {o : Nat} {es : List (Int × List Int)} {last : Int} {ov : Bool} {tr : List Int} (hc : ChkP b h o es last ov tr) {l : Int} (hl : -1048576 <= l /\ l <= 1048576) : EvCall xprog H0 59 [.ptr o 0 0,.int .i32 l] h fun v h' => v = .int .i8 (litVal tr l) /\ h' = h := by
 refine s_call (fn := xf59) rfl (free _ rfl ..) ?_
 obtain ⟨vs,mo,ces,ins,vv,tv,hm,hg⟩ := hc
 have r4 := rCl (off := 4) hm.get rfl
 have el := hm.val.len
 have er := hm.val.row
 simp only [List.length_map] at el
 have hvar := Var_ok l (by omega) (by omega) h
 rw [litVar_abs] at hvar
 have rv : ∀ (hi : l.natAbs < vs.length),rCs h (objS vv) (genS vv) (offS vv + l.natAbs) 1 = some [.int .i8 (vs[l.natAbs])] := fun hi => hm.val.sl.at (by simp [hi])
 simp -implicitDefEqProofs only [xf59,argsFrom_cons,argsFrom_nil]
 repeat' ((first | refine Z0 rfl ?_ | refine Z1 rfl ?_ | refine Z2 ?_ | refine Z3 ?_ | refine Z4 ?_ | refine Z5 ?_ | refine Z6 ?_ | refine Z7 ?_ | refine Z8 ?_ | refine Z9 (fun hif => ?_) (fun hif => ?_) | refine Za (fun hif => ?_) (fun hif => ?_) | refine Zb (fun hif => ?_) (fun hif => ?_) | (refine Zc ?_ ?_; omega) | (refine Zd ?_ ?_; omega) | (refine Ze ?_ ?_; omega) | (refine (eCi hvar).2 ?_)) <;>
  (try simp -implicitDefEqProofs (disch := first | assumption | omega) only [sx,sb,sd,se,xwS,xwO,xwI,oEv,xres,o1f,Nat.reduceAdd,Nat.reduceEqDiff,Nat.reduceSub, ↓reduceIte,reduceCtorEq,Int.toNat_natCast, *]))
 ·rw [hg.none (by omega)]
 ·rw [hg.neg (by assumption) (by omega)]
  refine congrArg (V.int .i8) ?_
  unfold litVal
  split
  ·decide
  ·split <;> decide
 ·rw [hg.pos (by omega) (by omega)]
theorem ChkM.reads {b : Nat} {h : Heap} {o : Nat} {es : List (Int × List Int)} {last : Int} {ov : Bool} {vs tr : List Int} {mo : Nat} {ces : List (Int × V)} {ins : Nat} {vv tv : V} (hm : ChkM b h o es last ov vs tr mo ces ins vv tv) : rCs h o 0 4 1 = some [vv] /\ rCs h o 0 5 1 = some [tv] /\ rowS vv = true /\ lenS vv = vs.length /\ rowS tv = true /\ lenS tv = tr.length :=
 ⟨rCl (off := 4) hm.get rfl,rCl (off := 5) hm.get rfl,hm.val.row,by rw [hm.val.len,List.length_map],hm.trl.row,by rw [hm.trl.len,List.length_map]⟩
set_option maxHeartbeats 8000000 in
theorem set_ok {b : Nat} {h : Heap} {o : Nat} {es : List (Int × List Int)} {last : Int} {ov : Bool} {tr : List Int} (hc : ChkP b h o es last ov tr) {l : Int} (h0 : l ≠ 0) (hl : -1048576 <= l /\ l <= 1048576) (h1 : l ∉ tr) (h2 : -l ∉ tr) (htl : tr.length <= 100000000) : EvCall xprog H0 39 [.ptr o 0 0,.int .i32 l] h fun v h' => ChkP b h' o es last ov (tr ++ [l]) /\ Chg o h h' := by
 refine s_call (fn := xf39) rfl (free _ rfl ..) ?_
 obtain ⟨vs,mo,ces,ins,vv,tv,hm,hg⟩ := hc
 have hvar := Var_ok l (by omega) (by omega) h
 rw [litVar_abs] at hvar
 have hvl := hg.len
 have hbn : b <= h.next := Nat.le_trans hm.bo (Nat.le_of_lt hm.ho)
 obtain ⟨r4,r5,q1,q2,q3,q4⟩ := hm.reads
 simp -implicitDefEqProofs only [xf39,argsFrom_cons,argsFrom_nil]
 refine s_cut2 (fun t d g => sO t 0 = .ptr o 0 0 /\ sO t 1 = .int .i32 l /\ sO t 4 = .int .i64 (l.natAbs : Nat) /\ d = [] /\ Chg o h g /\ ∃ vs vv,ChkM b g o es last ov vs tr mo ces ins vv tv /\ Goodly vs tr /\ l.natAbs < vs.length) ?_ ?_
 ·by_cases hcase : vs.length <= l.natAbs
  ·obtain ⟨v1,g1,e1,k1,k2,k3⟩ := appendZ_tk (z := .int .i8 0) (n := l.natAbs + 1 - vs.length) hm.val hbn rfl (by simp; omega)
   have e2 : asNat (.int .i64 ((l.natAbs : Int) + 1 - vs.length)) = some (l.natAbs + 1 - vs.length) := by
    rw [asNat_int (by omega)]
    congr 1
    omega
   have e3 : Nat.ble (l.natAbs + 1 - vs.length) 140737488355328 = true := Nat.ble_eq_true_of_le (by omega)
   have go1 := (k2.get o hm.ho fun q => (hm.voff o q).1 rfl).trans hm.get
   have kr := k1.row
   repeat' ((first | refine Z0 rfl ?_ | refine Z1 rfl ?_ | refine Z2 ?_ | refine Z3 ?_ | refine Z4 ?_ | refine Z5 ?_ | refine Z6 ?_ | refine Z7 ?_ | refine Z8 ?_ | refine Z9 (fun hif => ?_) (fun hif => ?_) | refine Za (fun hif => ?_) (fun hif => ?_) | refine Zb (fun hif => ?_) (fun hif => ?_) | (refine Zc ?_ ?_; omega) | (refine Zd ?_ ?_; omega) | (refine Ze ?_ ?_; omega) | (refine (eCi hvar).2 ?_) | ((refine st_step go1 (by simp) (one_row kr) ?_; intro g2 go2 n2 f2))) <;>
    (try simp -implicitDefEqProofs (disch := first | assumption | omega) only [sx,sb,sd,se,xwS,xwO,xwI,oEv,xres,o1f,Nat.reduceAdd,Nat.reduceEqDiff,Nat.reduceSub, ↓reduceIte,reduceCtorEq,si,wrap_i64,Int.toNat_natCast, *]))
   ·have hv1 : ∀ x,rOb v1 = some x -> rOb vv = some x \/ h.next <= x := fun x hx => by
     rcases k3 with rfl | e | e
     ·exact .inl hx
     ·exact .inl (e ▸ hx)
     ·rw [hx] at e
      cases e
      exact .inr (Nat.le_refl _)
    have hvo : ∀ x,rOb v1 = some x -> x ≠ o := fun x hx e => by
     have := hm.ho
     rcases hv1 x hx with q | q
     ·exact (hm.voff x q).1 e
     ·omega
    have hto : ∀ x,rOb tv = some x -> g2.get x = h.get x := fun x hx => (f2 x (hm.toff x hx).1).trans (k2.get x (hm.trl.lt hx).2 fun q => hm.two x q hx)
    obtain ⟨c1,c2⟩ := chk_next (vs' := vs ++ List.replicate (l.natAbs + 1 - vs.length) 0) (tr' := tr) hm (by have := k2.next; omega) (fun x q1 q2 q3 q4 => (f2 x q2).trans (k2.get x q1 q3)) go2 ((k1.frame (by omega) fun x hx => f2 x (hvo x hx)) |> fun q => by simpa using q) (hm.trl.frame (by have := k2.next; omega) hto) hv1 (fun _ q => .inl q) (fun x hx q => (hv1 x hx).elim (fun e => hm.two x e q) fun e => by have := (hm.trl.lt q).2; omega)
    exact ⟨c2,_,_,c1,hg.grow (by omega),by simp; omega⟩
   ·exfalso; omega
  ·repeat' ((first | refine Z0 rfl ?_ | refine Z1 rfl ?_ | refine Z2 ?_ | refine Z3 ?_ | refine Z4 ?_ | refine Z5 ?_ | refine Z6 ?_ | refine Z7 ?_ | refine Z8 ?_ | refine Z9 (fun hif => ?_) (fun hif => ?_) | refine Za (fun hif => ?_) (fun hif => ?_) | refine Zb (fun hif => ?_) (fun hif => ?_) | (refine Zc ?_ ?_; omega) | (refine Zd ?_ ?_; omega) | (refine Ze ?_ ?_; omega) | (refine (eCi hvar).2 ?_)) <;>
    (try simp -implicitDefEqProofs (disch := first | assumption | omega) only [sx,sb,sd,se,xwS,xwO,xwI,oEv,xres,o1f,Nat.reduceAdd,Nat.reduceEqDiff,Nat.reduceSub, ↓reduceIte,reduceCtorEq,wrap_i64,Int.toNat_natCast, *]))
   ·exfalso; omega
   exact ⟨Chg.refl _ _,vs,vv,hm,hg,by omega⟩
 clear r4 r5 q1 q2 hm hg hvl hvar
 rintro t d g ⟨a1,a2,a3,rfl,hch,vs,vv,hm,hg,hlt⟩
 obtain ⟨r4,r5,q1,q2,_,_⟩ := hm.reads
 obtain ⟨g3,w1,w2,w3,w4⟩ := hm.val.write (k := l.natAbs) (y := .int .i8 1) (by simp; exact hlt) rfl
 have go3 := (w3.get o hm.ho fun q => (hm.voff o q).1 rfl).trans hm.get
 have s4 := rCl (off := 4) go3 rfl
 have s5 := rCl (off := 5) go3 rfl
 obtain ⟨g4,w5,w6,w7,w8⟩ := w2.write (k := l.natAbs) (y := .int .i8 (Int.negSucc 0)) (by simp; exact hlt) rfl
 have go4 := (w7.get o (by have := hm.ho; omega) fun q => (hm.voff o q).1 rfl).trans go3
 have u5 := rCl (off := 5) go4 rfl
 refine s_cut2 (fun t d g' => sO t 0 = .ptr o 0 0 /\ sO t 1 = .int .i32 l /\ d = [] /\ (g.next <= g'.next /\ g'.next <= g.next) /\ (∀ x,x < g.next -> rOb vv ≠ some x -> g'.get x = g.get x) /\ Tk b g' vv ((vs.set l.natAbs (if l < 0 then -1 else 1)).map (.int .i8))) ?_ ?_
 ·repeat' ((first | refine Z0 rfl ?_ | refine Z1 rfl ?_ | refine Z2 ?_ | refine Z3 ?_ | refine Z4 ?_ | refine Z5 ?_ | refine Z6 ?_ | refine Z7 ?_ | refine Z8 ?_ | refine Z9 (fun hif => ?_) (fun hif => ?_) | refine Za (fun hif => ?_) (fun hif => ?_) | refine Zb (fun hif => ?_) (fun hif => ?_) | (refine Zc ?_ ?_; omega) | (refine Zd ?_ ?_; omega) | (refine Ze ?_ ?_; omega)) <;>
   (try simp -implicitDefEqProofs (disch := first | assumption | omega) only [sx,sb,sd,se,xwS,xwO,xwI,oEv,xres,o1f,Nat.reduceAdd,Nat.reduceEqDiff,Nat.reduceSub, ↓reduceIte,reduceCtorEq,si,wrap_i64,Int.toNat_natCast, *]))
  ·refine ⟨by omega,fun x q1 q2 => (w7.get x (by omega) q2).trans (w3.get x q1 q2),?_⟩
   have := w6
   rw [List.set_set] at this
   rw [List.map_set]
   exact this
  ·refine ⟨by omega,fun x q1 q2 => w3.get x q1 q2,?_⟩
   rw [List.map_set]
   exact w2
 clear a1 a2 a3 t r4 r5 q1 q2 w1 w2 w3 w4 w5 w6 w7 w8 go3 go4 s4 s5 u5
 rintro t d g5 ⟨a1,a2,rfl,⟨n5,n5'⟩,f5,k5⟩
 have hoo := hm.ho
 have go5 := (f5 o hoo fun q => (hm.voff o q).1 rfl).trans hm.get
 have s5 := rCl (off := 5) go5 rfl
 have t5 : Tk b g5 tv (tr.map (.int .i32)) := hm.trl.frame (by omega) fun x hx => f5 x (hm.trl.lt hx).2 fun q => hm.two x q hx
 have hbo := hm.bo
 repeat' ((first | refine Z0 rfl ?_ | refine Z1 rfl ?_ | refine Z2 ?_ | refine Z3 ?_ | refine Z4 ?_ | refine Z5 ?_ | refine Z6 ?_ | refine Z7 ?_ | refine Z8 ?_ | refine Z9 (fun hif => ?_) (fun hif => ?_) | refine Za (fun hif => ?_) (fun hif => ?_) | refine Zb (fun hif => ?_) (fun hif => ?_) | (refine Zc ?_ ?_; omega) | (refine Zd ?_ ?_; omega) | (refine Ze ?_ ?_; omega) | ((refine x_append_tk (t5.ext (Ext.new ..)) (by simp; omega) (sl_new (get_new ..) (by simp)) rfl (by simp; omega) ?_; rintro tv1 g6 m1 m2 m3; have go6 := (m2.get o (by simp; omega) fun q => (hm.toff o q).1 rfl).trans (((Ext.new ..).get o (by omega)).trans go5); have rt := m1.row)) | ((refine st_step go6 (by simp) (one_row rt) ?_; intro g7 go7 n7 f7))) <;>
  (try simp -implicitDefEqProofs (disch := first | assumption | omega) only [sx,sb,sd,se,xwS,xwO,xwI,oEv,xres,o1f,Nat.reduceAdd,Nat.reduceEqDiff,Nat.reduceSub, ↓reduceIte,reduceCtorEq,si,sh,sf,fillV,parts,over,Nat.beq_refl,Nat.ble, *]))
 have n6 := m2.next
 rw [next_new] at n6 m3
 have ht1 : ∀ x,rOb tv1 = some x -> rOb tv = some x \/ g.next <= x := fun x hx => by
  rcases m3 with rfl | e | e
  ·exact .inl hx
  ·exact .inl (e ▸ hx)
  ·rw [hx] at e
   cases e
   exact .inr (by omega)
 have hto : ∀ x,rOb tv1 = some x -> x ≠ o := fun x hx e => by
  rcases ht1 x hx with q | q
  ·exact (hm.toff x q).1 e
  ·omega
 have hget : ∀ x,x < g.next -> x ≠ o -> rOb tv ≠ some x -> g7.get x = g5.get x := fun x h1 h2 h3 => (f7 x h2).trans ((m2.get x (by simp; omega) h3).trans ((Ext.new ..).get x (by omega)))
 obtain ⟨c1,c2⟩ := chk_next (vs' := vs.set l.natAbs (if l < 0 then -1 else 1)) (tr' := tr ++ [l]) hm (by omega) (fun x q1 q2 q3 q4 => (hget x q1 q2 q4).trans (f5 x q1 q3)) go7 (k5.frame (by omega) fun x hx => hget x (hm.val.lt hx).2 (hm.voff x hx).1 (hm.two x hx)) (by rw [List.map_append]; exact m1.frame (by omega) fun x hx => f7 x (hto x hx)) (fun _ q => .inl q) ht1 (fun x hx q => (ht1 x q).elim (fun e => hm.two x hx e) fun e => by have := (hm.val.lt hx).2; omega)
 exact ⟨⟨_,mo,ces,ins,vv,tv1,c1,hg.set h0 hlt h1 h2⟩,hch.trans c2⟩
end Go.Proofs.YtmkbnbpblhoekaaGreat
