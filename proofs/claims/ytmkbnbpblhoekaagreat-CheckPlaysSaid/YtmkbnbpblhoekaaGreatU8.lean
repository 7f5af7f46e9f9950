/- Part of a proof for X's executor: what the program's functions answer. -/
import Derived.Test.YtmkbnbpblhoekaaGreatU7
import Derived.Test.YtmkbnbpblhoekaaGreatW3
set_option linter.unusedSimpArgs false
set_option linter.unusedVariables false
set_option linter.unusedSectionVars false
namespace Go.Proofs.YtmkbnbpblhoekaaGreat
open Go.Xr
def Cls (h : Heap) (v : V) (cs : List (List Int)) : Prop := ∃ vs : List V,Sl h v vs /\ vs.length = cs.length /\ ∀ i (hi : i < cs.length),Sl h (vs.getD i .nils) ((cs[i]).map (.int .i32))
theorem Cls.ext {h h' : Heap} {v : V} {cs : List (List Int)} (hc : Cls h v cs) (x : Ext h h') : Cls h' v cs := let ⟨vs,h1,h2,h3⟩ := hc; ⟨vs,h1.ext x,h2,fun i hi => (h3 i hi).ext x⟩
def bad (vars l : Int) : Bool := decide (l = 0 \/ vars < litVar l)
def rightOf (vars : Int) (cs : List (List Int)) : Int := if vars < 0 \/ 1048576 < vars then 2 else if (cs.any fun c => c.any (bad vars)) = true then 4 else 0
def done (cs : List (List Int)) (i : Nat) : Nat := ((cs.take i).map List.length).sum
theorem done_succ {cs : List (List Int)} {i : Nat} (hi : i < cs.length) : done cs (i + 1) = done cs i + (cs[i]).length := by
 unfold done
 have e : cs.take (i + 1) = cs.take i ++ [cs[i]] := by
  rw [List.take_add_one,List.getElem?_eq_getElem hi]
  rfl
 rw [e,List.map_append,List.sum_append]
 rfl
theorem done_le (cs : List (List Int)) (i : Nat) : done cs i <= done cs cs.length := by
 unfold done
 rw [List.take_length]
 conv => rhs; rw [<- List.take_append_drop i cs]
 rw [List.map_append,List.sum_append]
 omega
set_option maxHeartbeats 4000000 in
theorem Right_ok {h : Heap} {vars : Int} {cv : V} {cs : List (List Int)} (hc : Cls h cv cs) (hx : ∀ c ∈ cs, ∀ x ∈ c,I32ok x) (hb : done cs cs.length <= 1000000) (hcl : cs.length <= 1000000) :
  EvCall xprog H0 20 [.agg [.int .i64 vars,cv]] h fun v h' => v = .int .i64 (rightOf vars cs) /\ Ext h h' := by
 refine s_call (fn := xf20) rfl (free _ rfl ..) ?_
 generalize hH1 : nCs h [.int .i64 vars,cv] 1 false = H1
 have x1 : Ext h H1 := hH1 ▸ Ext.new ..
 have g1 : H1.get h.next = some (arr [.int .i64 vars,cv] 1 false) := by rw [<- hH1]; exact get_new ..
 have r0 := rCl (off := 0) g1 rfl
 have r1 := rCl (off := 1) g1 rfl
 obtain ⟨vs,hs,hvl,hcs⟩ := hc.ext x1
 have hl := hs.len
 have hr := hs.row
 rw [hvl] at hl
 clear hc g1
 simp -implicitDefEqProofs only [xf20,argsFrom_cons,argsFrom_nil]
 repeat' ((first | refine Z0 rfl ?_ | refine Z1 rfl ?_ | refine Z2 ?_ | refine Z3 ?_ | refine Z4 ?_ | refine Z5 ?_ | refine Z6 ?_ | refine Z7 ?_ | refine Z8 ?_ | refine Z9 (fun hif => ?_) (fun hif => ?_) | refine Za (fun hif => ?_) (fun hif => ?_) | refine Zb (fun hif => ?_) (fun hif => ?_) | (refine Zc ?_ ?_; omega) | (refine Zd ?_ ?_; omega) | (refine Ze ?_ ?_; omega) | refine Zf rfl ?_ | (refine And.intro (a := stays _ _ _ = true) ?_ ?_; focus (simp -implicitDefEqProofs (disch := first | assumption | omega) only [sx,sb,sd,se,xwS,xwO,xwI,oEv,xres,o1f,Nat.reduceAdd,Nat.reduceEqDiff,Nat.reduceSub, ↓reduceIte,reduceCtorEq,stays,wantedV,V.same_refl,Bool.and_self,Bool.and_true,beq_self_eq_true,Bool.true_beq,Bool.false_beq,wrap_i64,Nat.zero_add, *]; done))) <;>
  (try simp -implicitDefEqProofs (disch := first | assumption | omega) only [sx,sb,sd,se,xwS,xwO,xwI,oEv,xres,o1f,Nat.reduceAdd,Nat.reduceEqDiff,Nat.reduceSub, ↓reduceIte,reduceCtorEq,wrap_i64,Nat.zero_add, *]))
 ·rw [rightOf,if_pos (.inl (by assumption))]
 ·rw [rightOf,if_pos (.inr (by assumption))]
 ·exfalso; omega
 refine s_while (fun n t d h' => ∃ i : Nat,i + n = cs.length /\ sO t 23 = .int .i64 i /\ sO t 22 = .int .i64 cs.length /\ sO t 21 = cv /\ sO t 1 = .ptr h.next 0 0 /\ sO t 3 = .int .i64 (16777216 - (done cs i : Nat)) /\ d = [] /\ h' = H1 /\ ∀ j (hj : j < cs.length),j < i -> (cs[j]).any (bad vars) = false) (fun _ _ _ => frC ..) cs.length ⟨0,by omega,by simp [sSe],by simp [sSe],by simp [sSe],by simp [sSe],by simp [sSe,done],rfl,rfl,fun j _ hj => by omega⟩ ?_
 rintro n t d h' ⟨i,a1,a2,a3,a4,a5,a6,rfl,rfl,a7⟩
 have rc : i < cs.length -> rCs h' (objS cv) (genS cv) (offS cv + i) 1 = some [vs.getD i .nils] := fun hi => hs.at (by simp [show i < vs.length by omega])
 have hlc : ∀ (hi : i < cs.length),lenS (vs.getD i .nils) = (cs[i]).length := fun hi => by rw [(hcs i hi).len,List.length_map]
 have hrc : i < cs.length -> rowS (vs.getD i .nils) = true := fun hi => (hcs i hi).row
 repeat' ((first | refine Z0 rfl ?_ | refine Z1 rfl ?_ | refine Z2 ?_ | refine Z3 ?_ | refine Z4 ?_ | refine Z5 ?_ | refine Z6 ?_ | refine Z7 ?_ | refine Z8 ?_ | refine Z9 (fun hif => ?_) (fun hif => ?_) | refine Za (fun hif => ?_) (fun hif => ?_) | refine Zb (fun hif => ?_) (fun hif => ?_) | (refine Zc ?_ ?_; omega) | (refine Zd ?_ ?_; omega) | (refine Ze ?_ ?_; omega) | refine Zf rfl ?_ | (refine And.intro (a := stays _ _ _ = true) ?_ ?_; focus (simp -implicitDefEqProofs (disch := first | assumption | omega) only [sx,sb,sd,se,xwS,xwO,xwI,oEv,xres,o1f,Nat.reduceAdd,Nat.reduceEqDiff,Nat.reduceSub, ↓reduceIte,reduceCtorEq,stays,wantedV,V.same_refl,Bool.and_self,Bool.and_true,beq_self_eq_true,Bool.true_beq,Bool.false_beq,wrap_i64,Nat.zero_add,Int.toNat_natCast, *]; done))) <;>
  (try simp -implicitDefEqProofs (disch := first | assumption | omega) only [sx,sb,sd,se,xwS,xwO,xwI,oEv,xres,o1f,Nat.reduceAdd,Nat.reduceEqDiff,Nat.reduceSub, ↓reduceIte,reduceCtorEq,wrap_i64,Nat.zero_add,Int.toNat_natCast, *]))
 ·have hi : i < cs.length := by omega
  have hcx : ∀ x ∈ cs[i],I32ok x := hx _ (List.getElem_mem hi)
  have hd1 : done cs i + (cs[i]).length <= 1000000 := by rw [<- done_succ hi]; exact Nat.le_trans (done_le cs (i + 1)) hb
  have hrl : ∀ (k : Nat),k < (cs[i]).length -> rCs h' (objS (vs.getD i .nils)) (genS (vs.getD i .nils)) (offS (vs.getD i .nils) + k) 1 = some [.int .i32 ((cs[i]).getD k 0)] := fun k hk => by
   have := (hcs i hi).at (i := k) (x := .int .i32 (cs[i][k])) (by simp [hk])
   rw [this]
   simp [hk]
  have hkx : ∀ (k : Nat),k < (cs[i]).length -> I32ok ((cs[i]).getD k 0) := fun k hk => by
   have := hcx _ (List.getElem_mem hk)
   simpa [hk] using this
  have hlw := hlc hi
  have hrw := hrc hi
  have hany : ∀ k (hk : k < (cs[i]).length),bad vars ((cs[i]).getD k 0) = true -> (cs.any fun c => c.any (bad vars)) = true := fun k hk hbk => by
   rw [List.any_eq_true]
   refine ⟨_,List.getElem_mem hi,?_⟩
   rw [List.any_eq_true]
   exact ⟨_,List.getElem_mem hk,by simpa [hk] using hbk⟩
  have hdone := done_succ hi
  generalize hw : vs.getD i .nils = w at *
  generalize hc' : cs[i] = c at *
  clear rc hlc hrc hcs hs
  refine s_while (fun n2 t d h2 => ∃ k : Nat,k + n2 = c.length /\ sO t 29 = .int .i64 k /\ sO t 28 = .int .i64 c.length /\ sO t 27 = w /\ sO t 23 = .int .i64 i /\ sO t 22 = .int .i64 cs.length /\ sO t 21 = cv /\ sO t 1 = .ptr h.next 0 0 /\ sO t 3 = .int .i64 (16777216 - ((done cs i + k : Nat) : Int)) /\ d = [] /\ h2 = h' /\ ∀ j,j < c.length -> j < k -> bad vars (c.getD j 0) = false) (fun _ _ _ => frC ..) c.length ⟨0,by omega,by simp [sSe],by simp [sSe],by simp [sSe],by simp [sSe,a2],by simp [sSe,a3],by simp [sSe,a4],by simp [sSe,a5],by simp [sSe,a6],rfl,rfl,fun j _ hj => by omega⟩ ?_
  rintro n2 t2 d2 h2 ⟨k,b1,b2,b3,b4,b5,b6,b7,b8,b9,rfl,rfl,b10⟩
  have rl := hrl k
  have kx := hkx k
  clear a2 a3 a4 a5 a6 hx hcx
  repeat' ((first | refine Z0 rfl ?_ | refine Z1 rfl ?_ | refine Z2 ?_ | refine Z3 ?_ | refine Z4 ?_ | refine Z5 ?_ | refine Z6 ?_ | refine Z7 ?_ | refine Z8 ?_ | refine Z9 (fun hif => ?_) (fun hif => ?_) | refine Za (fun hif => ?_) (fun hif => ?_) | refine Zb (fun hif => ?_) (fun hif => ?_) | (refine Zc ?_ ?_; omega) | (refine Zd ?_ ?_; omega) | (refine Ze ?_ ?_; omega) | refine Zf rfl ?_ | (refine And.intro (a := stays _ _ _ = true) ?_ ?_; focus (simp -implicitDefEqProofs (disch := first | assumption | omega) only [sx,sb,sd,se,xwS,xwO,xwI,oEv,xres,o1f,Nat.reduceAdd,Nat.reduceEqDiff,Nat.reduceSub, ↓reduceIte,reduceCtorEq,stays,wantedV,V.same_refl,Bool.and_self,Bool.and_true,beq_self_eq_true,Bool.true_beq,Bool.false_beq,wrap_i64,Nat.zero_add,Int.toNat_natCast, *]; done)) | (refine (eCi (Var_ok _ (kx (by omega)).1 (kx (by omega)).2 _)).2 ?_)) <;>
   (try simp -implicitDefEqProofs (disch := first | assumption | omega) only [sx,sb,sd,se,xwS,xwO,xwI,oEv,xres,o1f,Nat.reduceAdd,Nat.reduceEqDiff,Nat.reduceSub, ↓reduceIte,reduceCtorEq,wrap_i64,Nat.zero_add,Int.toNat_natCast, *]))
  ·exfalso; omega
  ·rw [rightOf,if_neg (by omega),if_pos (hany k (by omega) (decide_eq_true (.inl (by assumption))))]
  ·rw [rightOf,if_neg (by omega),if_pos (hany k (by omega) (decide_eq_true (.inr (by assumption))))]
  ·refine ⟨n2 - 1,by omega,k + 1,by omega,by simp,congrArg (V.int .i64) (by omega),fun j hj hlt => ?_⟩
   rcases Nat.lt_succ_iff_lt_or_eq.1 hlt with h | rfl
   ·exact b10 j hj h
   ·refine decide_eq_false ?_
    rintro (q | q)
    ·exact absurd q (by assumption)
    ·exact absurd q (by assumption)
  ·have hk : k = c.length := by omega
   refine ⟨n - 1,by omega,i + 1,by omega,by simp,congrArg (V.int .i64) (by rw [hdone,hk]),fun j hj hlt => ?_⟩
   rcases Nat.lt_succ_iff_lt_or_eq.1 hlt with h | rfl
   ·exact a7 j hj h
   ·rw [hc',List.any_eq_false]
    intro x hx
    obtain ⟨p,hp,rfl⟩ := List.getElem_of_mem hx
    have := b10 p hp (by omega)
    simpa [hp] using this
 ·rw [rightOf,if_neg (by omega),if_neg]
  rw [List.any_eq_true]
  rintro ⟨c,hcm,hcb⟩
  obtain ⟨j,hj,rfl⟩ := List.getElem_of_mem hcm
  rw [a7 j hj (by omega)] at hcb
  cases hcb
open Go.Xr
set_option maxHeartbeats 8000000 in
theorem rRight_ok {h : Heap} {vars : Int} {cv : V} {cs : List (List Int)} (hc : Cls h cv cs) (hx : ∀ c ∈ cs, ∀ x ∈ c,I32ok x) (hb : done cs cs.length <= 1000000) (hcl : cs.length <= 1000000) :
  EvCall xprog H0 22 [.agg [.int .i64 vars,cv]] h fun v h' => v = .int .i64 (rightOf vars cs) /\ Ext h h' := by
 refine s_call (fn := xf22) rfl (free _ rfl ..) ?_
 generalize hH1 : nCs h [.int .i64 vars,cv] 1 false = H1
 have x1 : Ext h H1 := hH1 ▸ Ext.new ..
 have g1 : H1.get h.next = some (arr [.int .i64 vars,cv] 1 false) := by rw [<- hH1]; exact get_new ..
 have r0 := rCl (off := 0) g1 rfl
 have r1 := rCl (off := 1) g1 rfl
 obtain ⟨vs,hs,hvl,hcs⟩ := hc.ext x1
 have hl := hs.len
 have hr := hs.row
 rw [hvl] at hl
 clear hc g1
 simp -implicitDefEqProofs only [xf22,argsFrom_cons,argsFrom_nil]
 repeat' ((first | refine Z0 rfl ?_ | refine Z1 rfl ?_ | refine Z2 ?_ | refine Z3 ?_ | refine Z4 ?_ | refine Z5 ?_ | refine Z6 ?_ | refine Z7 ?_ | refine Z8 ?_ | refine Z9 (fun hif => ?_) (fun hif => ?_) | refine Za (fun hif => ?_) (fun hif => ?_) | refine Zb (fun hif => ?_) (fun hif => ?_) | (refine Zc ?_ ?_; omega) | (refine Zd ?_ ?_; omega) | (refine Ze ?_ ?_; omega) | refine Zf rfl ?_ | (refine And.intro (a := stays _ _ _ = true) ?_ ?_; focus (simp -implicitDefEqProofs (disch := first | assumption | omega) only [sx,sb,sd,se,xwS,xwO,xwI,oEv,xres,o1f,Nat.reduceAdd,Nat.reduceEqDiff,Nat.reduceSub, ↓reduceIte,reduceCtorEq,stays,wantedV,V.same_refl,Bool.and_self,Bool.and_true,beq_self_eq_true,Bool.true_beq,Bool.false_beq,wrap_i64,Nat.zero_add, *]; done))) <;>
  (try simp -implicitDefEqProofs (disch := first | assumption | omega) only [sx,sb,sd,se,xwS,xwO,xwI,oEv,xres,o1f,Nat.reduceAdd,Nat.reduceEqDiff,Nat.reduceSub, ↓reduceIte,reduceCtorEq,wrap_i64,Nat.zero_add, *]))
 ·rw [rightOf,if_pos (.inl (by assumption))]
 ·rw [rightOf,if_pos (.inr (by assumption))]
 ·exfalso; omega
 refine s_while (fun n t d h' => ∃ i : Nat,i + n = cs.length /\ sO t 4 = .int .i64 i /\ sO t 1 = .ptr h.next 0 0 /\ sO t 3 = .int .i64 (done cs i : Nat) /\ d = [] /\ h' = H1 /\ ∀ j (hj : j < cs.length),j < i -> (cs[j]).any (bad vars) = false) (fun _ _ _ => frC ..) cs.length ⟨0,by omega,by simp [sSe],by simp [sSe],by simp [sSe,done],rfl,rfl,fun j _ hj => by omega⟩ ?_
 rintro n t d h' ⟨i,a1,a2,a5,a6,rfl,rfl,a7⟩
 have rc : i < cs.length -> rCs h' (objS cv) (genS cv) (offS cv + i) 1 = some [vs.getD i .nils] := fun hi => hs.at (by simp [show i < vs.length by omega])
 have hlc : ∀ (hi : i < cs.length),lenS (vs.getD i .nils) = (cs[i]).length := fun hi => by rw [(hcs i hi).len,List.length_map]
 have hrc : i < cs.length -> rowS (vs.getD i .nils) = true := fun hi => (hcs i hi).row
 repeat' ((first | refine Z0 rfl ?_ | refine Z1 rfl ?_ | refine Z2 ?_ | refine Z3 ?_ | refine Z4 ?_ | refine Z5 ?_ | refine Z6 ?_ | refine Z7 ?_ | refine Z8 ?_ | refine Z9 (fun hif => ?_) (fun hif => ?_) | refine Za (fun hif => ?_) (fun hif => ?_) | refine Zb (fun hif => ?_) (fun hif => ?_) | (refine Zc ?_ ?_; omega) | (refine Zd ?_ ?_; omega) | (refine Ze ?_ ?_; omega) | refine Zf rfl ?_ | (refine And.intro (a := stays _ _ _ = true) ?_ ?_; focus (simp -implicitDefEqProofs (disch := first | assumption | omega) only [sx,sb,sd,se,xwS,xwO,xwI,oEv,xres,o1f,Nat.reduceAdd,Nat.reduceEqDiff,Nat.reduceSub, ↓reduceIte,reduceCtorEq,stays,wantedV,V.same_refl,Bool.and_self,Bool.and_true,beq_self_eq_true,Bool.true_beq,Bool.false_beq,wrap_i64,Nat.zero_add,Int.toNat_natCast, *]; done))) <;>
  (try simp -implicitDefEqProofs (disch := first | assumption | omega) only [sx,sb,sd,se,xwS,xwO,xwI,oEv,xres,o1f,Nat.reduceAdd,Nat.reduceEqDiff,Nat.reduceSub, ↓reduceIte,reduceCtorEq,wrap_i64,Nat.zero_add,Int.toNat_natCast, *]))
 ·have hi : i < cs.length := by omega
  have hcx : ∀ x ∈ cs[i],I32ok x := hx _ (List.getElem_mem hi)
  have hd1 : done cs i + (cs[i]).length <= 1000000 := by rw [<- done_succ hi]; exact Nat.le_trans (done_le cs (i + 1)) hb
  have hrl : ∀ (k : Nat),k < (cs[i]).length -> rCs h' (objS (vs.getD i .nils)) (genS (vs.getD i .nils)) (offS (vs.getD i .nils) + k) 1 = some [.int .i32 ((cs[i]).getD k 0)] := fun k hk => by
   have := (hcs i hi).at (i := k) (x := .int .i32 (cs[i][k])) (by simp [hk])
   rw [this]
   simp [hk]
  have hkx : ∀ (k : Nat),k < (cs[i]).length -> I32ok ((cs[i]).getD k 0) := fun k hk => by
   have := hcx _ (List.getElem_mem hk)
   simpa [hk] using this
  have hlw := hlc hi
  have hrw := hrc hi
  have hrcw := rc hi
  have hany : ∀ k (hk : k < (cs[i]).length),bad vars ((cs[i]).getD k 0) = true -> (cs.any fun c => c.any (bad vars)) = true := fun k hk hbk => by
   rw [List.any_eq_true]
   refine ⟨_,List.getElem_mem hi,?_⟩
   rw [List.any_eq_true]
   exact ⟨_,List.getElem_mem hk,by simpa [hk] using hbk⟩
  have hdone := done_succ hi
  generalize hw : vs.getD i .nils = w at *
  generalize hc' : cs[i] = c at *
  clear rc hlc hrc hcs hs
  refine s_while (fun n2 t d h2 => ∃ k : Nat,k + n2 = c.length /\ sO t 5 = .int .i64 k /\ sO t 4 = .int .i64 i /\ sO t 1 = .ptr h.next 0 0 /\ sO t 3 = .int .i64 ((done cs i + k : Nat) : Int) /\ d = [] /\ h2 = h' /\ ∀ j,j < c.length -> j < k -> bad vars (c.getD j 0) = false) (fun _ _ _ => frC ..) c.length ⟨0,by omega,by simp [sSe],by simp [sSe,a2],by simp [sSe,a5],by simp [sSe,a6],rfl,rfl,fun j _ hj => by omega⟩ ?_
  rintro n2 t2 d2 h2 ⟨k,b1,b2,b5,b8,b9,rfl,rfl,b10⟩
  have rl := hrl k
  have kx := hkx k
  clear a2 a5 a6 hx hcx
  repeat' ((first | refine Z0 rfl ?_ | refine Z1 rfl ?_ | refine Z2 ?_ | refine Z3 ?_ | refine Z4 ?_ | refine Z5 ?_ | refine Z6 ?_ | refine Z7 ?_ | refine Z8 ?_ | refine Z9 (fun hif => ?_) (fun hif => ?_) | refine Za (fun hif => ?_) (fun hif => ?_) | refine Zb (fun hif => ?_) (fun hif => ?_) | (refine Zc ?_ ?_; omega) | (refine Zd ?_ ?_; omega) | (refine Ze ?_ ?_; omega) | refine Zf rfl ?_ | (refine And.intro (a := stays _ _ _ = true) ?_ ?_; focus (simp -implicitDefEqProofs (disch := first | assumption | omega) only [sx,sb,sd,se,xwS,xwO,xwI,oEv,xres,o1f,Nat.reduceAdd,Nat.reduceEqDiff,Nat.reduceSub, ↓reduceIte,reduceCtorEq,stays,wantedV,V.same_refl,Bool.and_self,Bool.and_true,beq_self_eq_true,Bool.true_beq,Bool.false_beq,wrap_i64,Nat.zero_add,Int.toNat_natCast, *]; done)) | (refine (eCi (rVar_ok _ (kx (by omega)).1 (kx (by omega)).2 _)).2 ?_)) <;>
   (try simp -implicitDefEqProofs (disch := first | assumption | omega) only [sx,sb,sd,se,xwS,xwO,xwI,oEv,xres,o1f,Nat.reduceAdd,Nat.reduceEqDiff,Nat.reduceSub, ↓reduceIte,reduceCtorEq,wrap_i64,Nat.zero_add,Int.toNat_natCast, *]))
  ·exfalso; omega
  ·rw [rightOf,if_neg (by omega),if_pos (hany k (by omega) (decide_eq_true (.inl (by assumption))))]
  ·rw [rightOf,if_neg (by omega),if_pos (hany k (by omega) (decide_eq_true (.inr (by assumption))))]
  ·refine ⟨n2 - 1,by omega,k + 1,by omega,by simp,congrArg (V.int .i64) (by omega),fun j hj hlt => ?_⟩
   rcases Nat.lt_succ_iff_lt_or_eq.1 hlt with h | rfl
   ·exact b10 j hj h
   ·refine decide_eq_false ?_
    rintro (q | q)
    ·exact absurd q (by assumption)
    ·exact absurd q (by assumption)
  ·have hk : k = c.length := by omega
   refine ⟨n - 1,by omega,i + 1,by omega,by simp,congrArg (V.int .i64) (by rw [hdone,hk]),fun j hj hlt => ?_⟩
   rcases Nat.lt_succ_iff_lt_or_eq.1 hlt with h | rfl
   ·exact a7 j hj h
   ·rw [hc',List.any_eq_false]
    intro x hx
    obtain ⟨p,hp,rfl⟩ := List.getElem_of_mem hx
    have := b10 p hp (by omega)
    simpa [hp] using this
 ·rw [rightOf,if_neg (by omega),if_neg]
  rw [List.any_eq_true]
  rintro ⟨c,hcm,hcb⟩
  obtain ⟨j,hj,rfl⟩ := List.getElem_of_mem hcm
  rw [a7 j hj (by omega)] at hcb
  cases hcb
open Go.Xr
def hintFine (kind h : Int) : Bool := decide (h ≠ 0 /\ -4611686018427387903 <= h /\ h <= 4611686018427387903 /\ ¬(h < 0 /\ kind = 2))
def tailFine (kind id : Int) (n : Nat) : Bool := if kind = 1 then decide (1 <= id /\ id <= 4611686018427387903) else if kind = 2 then decide (0 <= id /\ id <= 4611686018427387903 /\ n = 0) else false
def mayOf (kind id : Int) (lits hints : List Int) : Bool := lits.all litFine && hints.all (hintFine kind) && tailFine kind id lits.length
set_option maxHeartbeats 8000000 in
theorem may_ok {h : Heap} {kind id : Int} {lv hv : V} {lits hints : List Int} (hl : Sl h lv (lits.map (.int .i32))) (hh : Sl h hv (hints.map (.int .i64))) (h1 : lits.length <= 1000000) (h2 : hints.length <= 1000000) :
  EvCall xprog H0 24 [.agg [.int .u8 kind,.int .i64 id,lv,hv]] h fun v h' => v = .bool (mayOf kind id lits hints) /\ Ext h h' := by
 refine s_call (fn := xf24) rfl (free _ rfl ..) ?_
 generalize hH1 : nCs h [.int .u8 kind,.int .i64 id,lv,hv] 1 false = H1
 have x1 : Ext h H1 := hH1 ▸ Ext.new ..
 have g1 : H1.get h.next = some (arr [.int .u8 kind,.int .i64 id,lv,hv] 1 false) := by rw [<- hH1]; exact get_new ..
 have r0 := rCl (off := 0) g1 rfl
 have r1 := rCl (off := 1) g1 rfl
 have r2 := rCl (off := 2) g1 rfl
 have r3 := rCl (off := 3) g1 rfl
 have el := hl.len
 have rl := hl.row
 have eh := hh.len
 have rh := hh.row
 simp only [List.length_map] at el eh
 have hrl : ∀ (k : Nat),k < lits.length -> rCs H1 (objS lv) (genS lv) (offS lv + k) 1 = some [.int .i32 (lits.getD k 0)] := fun k hk => (hl.ext x1).at (by simp [hk])
 have hrh : ∀ (k : Nat),k < hints.length -> rCs H1 (objS hv) (genS hv) (offS hv + k) 1 = some [.int .i64 (hints.getD k 0)] := fun k hk => (hh.ext x1).at (by simp [hk])
 clear hl hh g1
 simp -implicitDefEqProofs only [xf24,argsFrom_cons,argsFrom_nil]
 repeat' ((first | refine Z0 rfl ?_ | refine Z1 rfl ?_ | refine Z2 ?_ | refine Z3 ?_ | refine Z4 ?_ | refine Z5 ?_ | refine Z6 ?_ | refine Z7 ?_ | refine Z8 ?_ | refine Z9 (fun hif => ?_) (fun hif => ?_) | refine Za (fun hif => ?_) (fun hif => ?_) | refine Zb (fun hif => ?_) (fun hif => ?_) | (refine Zc ?_ ?_; omega) | (refine Zd ?_ ?_; omega) | (refine Ze ?_ ?_; omega)) <;>
  (try simp -implicitDefEqProofs (disch := first | assumption | omega) only [sx,sb,sd,se,xwS,xwO,xwI,oEv,xres,o1f,Nat.reduceAdd,Nat.reduceEqDiff,Nat.reduceSub, ↓reduceIte,reduceCtorEq,wrap_i64,Nat.zero_add, *]))
 refine s_while (fun n t d h' => ∃ i : Nat,i + n = lits.length /\ sO t 10 = .int .i64 i /\ sO t 9 = .int .i64 lits.length /\ sO t 8 = lv /\ sO t 1 = .ptr h.next 0 0 /\ d = [] /\ h' = H1 /\ ∀ j,j < lits.length -> j < i -> litFine (lits.getD j 0) = true) (fun _ _ _ => frC ..) lits.length ⟨0,by omega,by simp [sSe],by simp [sSe],by simp [sSe],by simp [sSe],rfl,rfl,fun j _ hj => by omega⟩ ?_
 rintro n t d h' ⟨i,a1,a2,a3,a4,a5,rfl,rfl,a7⟩
 have rx := hrl i
 have hno : i < lits.length -> litFine (lits.getD i 0) = false -> mayOf kind id lits hints = false := fun hi hf => by
  have : lits.all litFine = false := by
   rw [List.all_eq_false]
   exact ⟨_,List.getElem_mem hi,by simpa [hi] using hf⟩
  simp [mayOf,this]
 repeat' ((first | refine Z0 rfl ?_ | refine Z1 rfl ?_ | refine Z2 ?_ | refine Z3 ?_ | refine Z4 ?_ | refine Z5 ?_ | refine Z6 ?_ | refine Z7 ?_ | refine Z8 ?_ | refine Z9 (fun hif => ?_) (fun hif => ?_) | refine Za (fun hif => ?_) (fun hif => ?_) | refine Zb (fun hif => ?_) (fun hif => ?_) | (refine Zc ?_ ?_; omega) | (refine Zd ?_ ?_; omega) | (refine Ze ?_ ?_; omega)) <;>
  (try simp -implicitDefEqProofs (disch := first | assumption | omega) only [sx,sb,sd,se,xwS,xwO,xwI,oEv,xres,o1f,Nat.reduceAdd,Nat.reduceEqDiff,Nat.reduceSub, ↓reduceIte,reduceCtorEq,wrap_i64,Nat.zero_add,Int.toNat_natCast, *]))
 ·rw [hno (by omega) (decide_eq_false (by omega))]
 ·rw [hno (by omega) (decide_eq_false (by simp only [Int.negSucc_eq] at *; omega))]
 ·rw [hno (by omega) (decide_eq_false (by omega))]
 ·refine ⟨n - 1,by omega,i + 1,by omega,by simp,fun j hj hlt => ?_⟩
  rcases Nat.lt_succ_iff_lt_or_eq.1 hlt with h | rfl
  ·exact a7 j hj h
  ·exact decide_eq_true (by simp only [Int.negSucc_eq] at *; omega)
 have hi : i = lits.length := by omega
 have hall : lits.all litFine = true := by
  rw [List.all_eq_true]
  intro x hx
  obtain ⟨j,hj,rfl⟩ := List.getElem_of_mem hx
  have := a7 j hj (by omega)
  simpa [hj] using this
 clear hno rx hrl a2 a3 a4 a7
 refine s_while (fun n2 t d h2 => ∃ k : Nat,k + n2 = hints.length /\ sO t 28 = .int .i64 k /\ sO t 27 = .int .i64 hints.length /\ sO t 26 = hv /\ sO t 1 = .ptr h.next 0 0 /\ d = [] /\ h2 = h' /\ ∀ j,j < hints.length -> j < k -> hintFine kind (hints.getD j 0) = true) (fun _ _ _ => frC ..) hints.length ⟨0,by omega,by simp [sSe],by simp [sSe],by simp [sSe],by simp [sSe,a5],rfl,rfl,fun j _ hj => by omega⟩ ?_
 rintro n2 t2 d2 h2 ⟨k,b1,b2,b3,b4,b5,rfl,rfl,b7⟩
 have rx := hrh k
 have hno : k < hints.length -> hintFine kind (hints.getD k 0) = false -> mayOf kind id lits hints = false := fun hi hf => by
  have : hints.all (hintFine kind) = false := by
   rw [List.all_eq_false]
   exact ⟨_,List.getElem_mem hi,by simpa [hi] using hf⟩
  simp [mayOf,this]
 clear hrh a5 a1
 repeat' ((first | refine Z0 rfl ?_ | refine Z1 rfl ?_ | refine Z2 ?_ | refine Z3 ?_ | refine Z4 ?_ | refine Z5 ?_ | refine Z6 ?_ | refine Z7 ?_ | refine Z8 ?_ | refine Z9 (fun hif => ?_) (fun hif => ?_) | refine Za (fun hif => ?_) (fun hif => ?_) | refine Zb (fun hif => ?_) (fun hif => ?_) | (refine Zc ?_ ?_; omega) | (refine Zd ?_ ?_; omega) | (refine Ze ?_ ?_; omega)) <;>
  (try simp -implicitDefEqProofs (disch := first | assumption | omega) only [sx,sb,sd,se,xwS,xwO,xwI,oEv,xres,o1f,Nat.reduceAdd,Nat.reduceEqDiff,Nat.reduceSub, ↓reduceIte,reduceCtorEq,wrap_i64,Nat.zero_add,Int.toNat_natCast, *]))
 ·rw [hno (by omega) (decide_eq_false (by omega))]
 ·rw [hno (by omega) (decide_eq_false (by simp only [Int.negSucc_eq] at *; omega))]
 ·rw [hno (by omega) (decide_eq_false (by omega))]
 ·subst hif
  rw [hno (by omega) (decide_eq_false (by omega))]
 ·refine ⟨n2 - 1,by omega,k + 1,by omega,by simp,fun j hj hlt => ?_⟩
  rcases Nat.lt_succ_iff_lt_or_eq.1 hlt with h | rfl
  ·exact b7 j hj h
  ·exact decide_eq_true (by simp only [Int.negSucc_eq] at *; omega)
 ·refine ⟨n2 - 1,by omega,k + 1,by omega,by simp,fun j hj hlt => ?_⟩
  rcases Nat.lt_succ_iff_lt_or_eq.1 hlt with h | rfl
  ·exact b7 j hj h
  ·exact decide_eq_true (by simp only [Int.negSucc_eq] at *; omega)
 all_goals
  have hallh : hints.all (hintFine kind) = true := by
   rw [List.all_eq_true]
   intro x hx
   obtain ⟨j,hj,rfl⟩ := List.getElem_of_mem hx
   have := b7 j hj (by omega)
   simpa [hj] using this
  subst_vars
  simp only [mayOf,hall,hallh,tailFine,Bool.true_and]
  simp [*]
  try omega
open Go.Xr
set_option maxHeartbeats 8000000 in
theorem rMay_ok {h : Heap} {kind id : Int} {lv hv : V} {lits hints : List Int} (hl : Sl h lv (lits.map (.int .i32))) (hh : Sl h hv (hints.map (.int .i64))) (h1 : lits.length <= 1000000) (h2 : hints.length <= 1000000) :
  EvCall xprog H0 27 [.agg [.int .u8 kind,.int .i64 id,lv,hv]] h fun v h' => v = .bool (mayOf kind id lits hints) /\ Ext h h' := by
 refine s_call (fn := xf27) rfl (free _ rfl ..) ?_
 generalize hH1 : nCs h [.int .u8 kind,.int .i64 id,lv,hv] 1 false = H1
 have x1 : Ext h H1 := hH1 ▸ Ext.new ..
 have g1 : H1.get h.next = some (arr [.int .u8 kind,.int .i64 id,lv,hv] 1 false) := by rw [<- hH1]; exact get_new ..
 have r0 := rCl (off := 0) g1 rfl
 have r1 := rCl (off := 1) g1 rfl
 have r2 := rCl (off := 2) g1 rfl
 have r3 := rCl (off := 3) g1 rfl
 have el := hl.len
 have rl := hl.row
 have eh := hh.len
 have rh := hh.row
 simp only [List.length_map] at el eh
 have hrl : ∀ (k : Nat),k < lits.length -> rCs H1 (objS lv) (genS lv) (offS lv + k) 1 = some [.int .i32 (lits.getD k 0)] := fun k hk => (hl.ext x1).at (by simp [hk])
 have hrh : ∀ (k : Nat),k < hints.length -> rCs H1 (objS hv) (genS hv) (offS hv + k) 1 = some [.int .i64 (hints.getD k 0)] := fun k hk => (hh.ext x1).at (by simp [hk])
 clear hl hh g1
 simp -implicitDefEqProofs only [xf27,argsFrom_cons,argsFrom_nil]
 refine s_cut3 (fun t d g => sO t 1 = .ptr h.next 0 0 /\ (∃ least : Int,sO t 3 = .int .i64 least /\ tailFine kind id lits.length = decide (least <= id /\ id <= 4611686018427387903)) /\ d = [] /\ g = H1) ?_ ?_
 ·repeat' ((first | refine Z0 rfl ?_ | refine Z1 rfl ?_ | refine Z2 ?_ | refine Z3 ?_ | refine Z4 ?_ | refine Z5 ?_ | refine Z6 ?_ | refine Z7 ?_ | refine Z8 ?_ | refine Z9 (fun hif => ?_) (fun hif => ?_) | refine Za (fun hif => ?_) (fun hif => ?_) | refine Zb (fun hif => ?_) (fun hif => ?_) | (refine Zc ?_ ?_; omega) | (refine Zd ?_ ?_; omega) | (refine Ze ?_ ?_; omega)) <;>
   (try simp -implicitDefEqProofs (disch := first | assumption | omega) only [sx,sb,sd,se,xwS,xwO,xwI,oEv,xres,o1f,Nat.reduceAdd,Nat.reduceEqDiff,Nat.reduceSub, ↓reduceIte,reduceCtorEq,wrap_i64,Nat.zero_add, *]))
  ·exact ⟨1,by simp,by simp [tailFine, *]⟩
  ·simp [mayOf,tailFine, *,show ¬ (lits.length = 0) by omega]
  ·exact ⟨0,by simp,by simp [tailFine, *,show lits.length = 0 by omega]⟩
  ·simp [mayOf,tailFine, *]
 rintro t d H1 ⟨c1,⟨least,c2,c3⟩,rfl,rfl⟩
 refine s_cut1 (fun t d g => sO t 1 = .ptr h.next 0 0 /\ tailFine kind id lits.length = true /\ d = [] /\ g = H1) ?_ ?_
 ·repeat' ((first | refine Z0 rfl ?_ | refine Z1 rfl ?_ | refine Z2 ?_ | refine Z3 ?_ | refine Z4 ?_ | refine Z5 ?_ | refine Z6 ?_ | refine Z7 ?_ | refine Z8 ?_ | refine Z9 (fun hif => ?_) (fun hif => ?_) | refine Za (fun hif => ?_) (fun hif => ?_) | refine Zb (fun hif => ?_) (fun hif => ?_) | (refine Zc ?_ ?_; omega) | (refine Zd ?_ ?_; omega) | (refine Ze ?_ ?_; omega)) <;>
   (try simp -implicitDefEqProofs (disch := first | assumption | omega) only [sx,sb,sd,se,xwS,xwO,xwI,oEv,xres,o1f,Nat.reduceAdd,Nat.reduceEqDiff,Nat.reduceSub, ↓reduceIte,reduceCtorEq,wrap_i64,Nat.zero_add, *]))
  ·have : tailFine kind id lits.length = false := by rw [c3]; exact decide_eq_false (by omega)
   simp [mayOf,this]
  ·have : tailFine kind id lits.length = false := by rw [c3]; exact decide_eq_false (by omega)
   simp [mayOf,this]
  ·(first | (rw [c3]; exact decide_eq_true (by omega)) | exact ⟨by omega,by omega⟩ | omega)
 clear c1 c2 c3
 rintro t d H1 ⟨c1,c2,rfl,rfl⟩
 refine s_cut1 (fun t d g => sO t 1 = .ptr h.next 0 0 /\ lits.all litFine = true /\ d = [] /\ g = H1) ?_ ?_
 ·repeat' ((first | refine Z0 rfl ?_ | refine Z1 rfl ?_ | refine Z2 ?_ | refine Z3 ?_ | refine Z4 ?_ | refine Z5 ?_ | refine Z6 ?_ | refine Z7 ?_ | refine Z8 ?_ | refine Z9 (fun hif => ?_) (fun hif => ?_) | refine Za (fun hif => ?_) (fun hif => ?_) | refine Zb (fun hif => ?_) (fun hif => ?_) | (refine Zc ?_ ?_; omega) | (refine Zd ?_ ?_; omega) | (refine Ze ?_ ?_; omega)) <;>
   (try simp -implicitDefEqProofs (disch := first | assumption | omega) only [sx,sb,sd,se,xwS,xwO,xwI,oEv,xres,o1f,Nat.reduceAdd,Nat.reduceEqDiff,Nat.reduceSub, ↓reduceIte,reduceCtorEq,wrap_i64,Nat.zero_add, *]))
  refine s_while (fun n t d g => ∃ i : Nat,i + n = lits.length /\ sO t 4 = .int .i64 i /\ sO t 1 = .ptr h.next 0 0 /\ d = [] /\ g = H1 /\ ∀ j,j < lits.length -> j < i -> litFine (lits.getD j 0) = true) (fun _ _ _ => frC ..) lits.length ⟨0,by omega,by simp [sSe],by simp [sSe,c1],rfl,rfl,fun j _ hj => by omega⟩ ?_
  rintro n t d H1 ⟨i,a1,a2,a5,rfl,rfl,a7⟩
  have rx := hrl i
  repeat' ((first | refine Z0 rfl ?_ | refine Z1 rfl ?_ | refine Z2 ?_ | refine Z3 ?_ | refine Z4 ?_ | refine Z5 ?_ | refine Z6 ?_ | refine Z7 ?_ | refine Z8 ?_ | refine Z9 (fun hif => ?_) (fun hif => ?_) | refine Za (fun hif => ?_) (fun hif => ?_) | refine Zb (fun hif => ?_) (fun hif => ?_) | (refine Zc ?_ ?_; omega) | (refine Zd ?_ ?_; omega) | (refine Ze ?_ ?_; omega) | (refine (eCi (Lit_ok _ _)).2 ?_)) <;>
   (try simp -implicitDefEqProofs (disch := first | assumption | omega) only [sx,sb,sd,se,xwS,xwO,xwI,oEv,xres,o1f,Nat.reduceAdd,Nat.reduceEqDiff,Nat.reduceSub, ↓reduceIte,reduceCtorEq,wrap_i64,Nat.zero_add,Int.toNat_natCast, *]))
  ·have : lits.all litFine = false := by
    rw [List.all_eq_false]
    refine ⟨_,List.getElem_mem (show i < lits.length by omega),?_⟩
    simpa [show i < lits.length by omega] using hif
   simp [mayOf,this]
  ·refine ⟨n - 1,by omega,i + 1,by omega,by simp,fun j hj hlt => ?_⟩
   rcases Nat.lt_succ_iff_lt_or_eq.1 hlt with h | rfl
   ·exact a7 j hj h
   ·simpa using hif
  ·rw [List.all_eq_true]
   intro x hx
   obtain ⟨j,hj,rfl⟩ := List.getElem_of_mem hx
   have := a7 j hj (by omega)
   simpa [hj] using this
 clear c1 t
 rintro t d H1 ⟨c1,c3,rfl,rfl⟩
 repeat' ((first | refine Z0 rfl ?_ | refine Z1 rfl ?_ | refine Z2 ?_ | refine Z3 ?_ | refine Z4 ?_ | refine Z5 ?_ | refine Z6 ?_ | refine Z7 ?_ | refine Z8 ?_ | refine Z9 (fun hif => ?_) (fun hif => ?_) | refine Za (fun hif => ?_) (fun hif => ?_) | refine Zb (fun hif => ?_) (fun hif => ?_) | (refine Zc ?_ ?_; omega) | (refine Zd ?_ ?_; omega) | (refine Ze ?_ ?_; omega)) <;>
  (try simp -implicitDefEqProofs (disch := first | assumption | omega) only [sx,sb,sd,se,xwS,xwO,xwI,oEv,xres,o1f,Nat.reduceAdd,Nat.reduceEqDiff,Nat.reduceSub, ↓reduceIte,reduceCtorEq,wrap_i64,Nat.zero_add, *]))
 refine s_while (fun n t d g => ∃ i : Nat,i + n = hints.length /\ sO t 5 = .int .i64 i /\ sO t 1 = .ptr h.next 0 0 /\ d = [] /\ g = H1 /\ ∀ j,j < hints.length -> j < i -> hintFine kind (hints.getD j 0) = true) (fun _ _ _ => frC ..) hints.length ⟨0,by omega,by simp [sSe],by simp [sSe,c1],rfl,rfl,fun j _ hj => by omega⟩ ?_
 rintro n t d H1 ⟨i,a1,a2,a5,rfl,rfl,a7⟩
 have rx := hrh i
 have hno : i < hints.length -> hintFine kind (hints.getD i 0) = false -> mayOf kind id lits hints = false := fun hi hf => by
  have : hints.all (hintFine kind) = false := by
   rw [List.all_eq_false]
   exact ⟨_,List.getElem_mem hi,by simpa [hi] using hf⟩
  simp [mayOf,this]
 repeat' ((first | refine Z0 rfl ?_ | refine Z1 rfl ?_ | refine Z2 ?_ | refine Z3 ?_ | refine Z4 ?_ | refine Z5 ?_ | refine Z6 ?_ | refine Z7 ?_ | refine Z8 ?_ | refine Z9 (fun hif => ?_) (fun hif => ?_) | refine Za (fun hif => ?_) (fun hif => ?_) | refine Zb (fun hif => ?_) (fun hif => ?_) | (refine Zc ?_ ?_; omega) | (refine Zd ?_ ?_; omega) | (refine Ze ?_ ?_; omega)) <;>
  (try simp -implicitDefEqProofs (disch := first | assumption | omega) only [sx,sb,sd,se,xwS,xwO,xwI,oEv,xres,o1f,Nat.reduceAdd,Nat.reduceEqDiff,Nat.reduceSub, ↓reduceIte,reduceCtorEq,wrap_i64,Nat.zero_add,Int.toNat_natCast, *]))
 ·rw [hno (by omega) (decide_eq_false (by omega))]
 ·rw [hno (by omega) (decide_eq_false (by omega))]
 ·rw [hno (by omega) (decide_eq_false (by simp only [Int.negSucc_eq] at *; omega))]
 ·subst hif
  rw [hno (by omega) (decide_eq_false (by omega))]
 ·refine ⟨n - 1,by omega,i + 1,by omega,by simp,fun j hj hlt => ?_⟩
  rcases Nat.lt_succ_iff_lt_or_eq.1 hlt with h | rfl
  ·exact a7 j hj h
  ·exact decide_eq_true (by simp only [Int.negSucc_eq] at *; omega)
 ·refine ⟨n - 1,by omega,i + 1,by omega,by simp,fun j hj hlt => ?_⟩
  rcases Nat.lt_succ_iff_lt_or_eq.1 hlt with h | rfl
  ·exact a7 j hj h
  ·exact decide_eq_true (by simp only [Int.negSucc_eq] at *; omega)
 ·have hallh : hints.all (hintFine kind) = true := by
   rw [List.all_eq_true]
   intro x hx
   obtain ⟨j,hj,rfl⟩ := List.getElem_of_mem hx
   have := a7 j hj (by omega)
   simpa [hj] using this
  simp only [mayOf,c2,c3,hallh,Bool.and_self]
open Go.Xr Go.Chk
theorem cpt_last {xs : List Int} : ∀ {p : Nat},0 < p -> p <= xs.length -> xs.getD (p - 1) 0 ∈ cpt xs p
 | 0,h,_ => absurd h (Nat.lt_irrefl _)
 | p + 1,_,hp => by
  unfold cpt
  split
  ·rename_i h
   rw [Nat.add_sub_cancel,h.2]
   exact cpt_last (by omega) (by omega)
  ·exact List.mem_append_right _ (by simp)
theorem cpt_all {xs : List Int} : ∀ {p i : Nat},i < p -> p <= xs.length -> xs.getD i 0 ∈ cpt xs p
 | 0,_,h,_ => absurd h (Nat.not_lt_zero _)
 | p + 1,i,hi,hp => by
  by_cases h : i = p
  ·subst h
   exact cpt_last (p := i + 1) (by omega) hp
  ·have := cpt_all (xs := xs) (p := p) (i := i) (by omega) (by omega)
   unfold cpt
   split
   ·exact this
   ·exact List.mem_append_left _ this
theorem nrm_alike (xs : List Int) : Eqs (nrm xs) xs := fun x => ⟨nrm_mem,fun h => by
 have h := (sortLits_perm xs).mem_iff.2 h
 obtain ⟨i,hi,rfl⟩ := List.getElem_of_mem h
 have := cpt_all (xs := sortLits xs) hi (Nat.le_refl _)
 rw [List.getD_eq_getElem?_getD,List.getElem?_eq_getElem hi] at this
 exact this⟩
theorem cpt_rising {xs : List Int} (hr : Rising xs) : ∀ {p : Nat},p <= xs.length -> (cpt xs p).Pairwise (fun a b => litBefore a b = true)
 | 0,_ => .nil
 | p + 1,hp => by
  have ih := cpt_rising hr (p := p) (by omega)
  unfold cpt
  split
  ·exact ih
  ·rename_i hn
   rw [List.pairwise_append]
   refine ⟨ih,by simp,fun a ha b hb => ?_⟩
   rw [List.mem_singleton] at hb
   subst hb
   have key : ∀ {q : Nat},q <= p -> ∀ a ∈ cpt xs q, ∃ i,i < q /\ a = xs.getD i 0 := by
    intro q
    induction q with
    | zero => intro _ a ha; cases ha
    | succ q ih =>
     intro hq a ha
     unfold cpt at ha
     split at ha
     ·obtain ⟨i,h1,h2⟩ := ih (by omega) a ha
      exact ⟨i,by omega,h2⟩
     ·rcases List.mem_append.1 ha with ha | ha
      ·obtain ⟨i,h1,h2⟩ := ih (by omega) a ha
       exact ⟨i,by omega,h2⟩
      ·exact ⟨q,by omega,by simpa using ha⟩
   obtain ⟨i,hi,rfl⟩ := key (Nat.le_refl _) a ha
   have pw := List.pairwise_iff_getElem.1 hr
   have g : ∀ (j k : Nat),j < k -> k <= p -> litBefore (xs.getD k 0) (xs.getD j 0) = false := fun j k h1 h2 => by
    have := pw j k (by omega) (by omega) h1
    rw [List.getD_eq_getElem?_getD,List.getD_eq_getElem?_getD,List.getElem?_eq_getElem (by omega),List.getElem?_eq_getElem (by omega)]
    exact this
   have hp0 : p ≠ 0 := by omega
   have hne : xs.getD p 0 ≠ xs.getD (p - 1) 0 := fun e => hn ⟨hp0,e⟩
   rcases litBefore_total (xs.getD i 0) (xs.getD p 0) with h | h | h
   ·exact h
   ·by_cases hip : i = p - 1
    ·subst hip; exact absurd h.symm hne
    ·have g1 := g i (p - 1) (by omega) (by omega)
     have g2 := g (p - 1) p (by omega) (by omega)
     rcases litBefore_total (xs.getD (p - 1) 0) (xs.getD p 0) with q | q | q
     ·rw [<- h] at q; rw [q] at g1; cases g1
     ·exact absurd q.symm hne
     ·rw [q] at g2; cases g2
   ·rw [g i p hi (Nat.le_refl _)] at h; cases h
theorem nrm_rising (xs : List Int) : (nrm xs).Pairwise (fun a b => litBefore a b = true) := cpt_rising (sortLits_rising xs) (Nat.le_refl _)
theorem nrm_nodup (xs : List Int) : (nrm xs).Nodup := (nrm_rising xs).imp fun {a b} h e => by subst e; rw [litBefore_irrefl] at h; cases h
theorem lb {a b : Int} (h : litBefore a b = true) : litVar a < litVar b \/ (litVar a = litVar b /\ a < b) := of_decide_eq_true h
theorem lv (l : Int) : (0 <= l /\ litVar l = l) \/ (l < 0 /\ litVar l = -l) := by
 unfold litVar
 split <;> omega
theorem bothN_nrm {xs : List Int} (h0 : ∀ x ∈ xs,x ≠ 0) : bothN (nrm xs) (nrm xs).length = both xs := by
 rw [<- both_alike (nrm_alike xs)]
 have hr := nrm_rising xs
 have h0 : ∀ x ∈ nrm xs,x ≠ 0 := fun x hx => h0 x (nrm_mem hx)
 generalize nrm xs = ys at *
 rw [Bool.eq_iff_iff]
 unfold bothN both
 rw [List.any_eq_true,List.any_eq_true]
 have pw := List.pairwise_iff_getElem.1 hr
 constructor
 ·rintro ⟨i,hi,hb⟩
  rw [List.mem_range] at hi
  unfold bothAt at hb
  obtain ⟨b1,b2,b3⟩ := of_decide_eq_true hb
  rw [List.getD_eq_getElem?_getD,List.getD_eq_getElem?_getD,List.getElem?_eq_getElem (by omega),List.getElem?_eq_getElem (by omega)] at b3
  simp only [Option.getD_some] at b3
  refine ⟨ys[i],List.getElem_mem _,decide_eq_true ?_⟩
  rw [b3,Int.neg_neg]
  exact List.getElem_mem _
 ·rintro ⟨x,hx,hn⟩
  have hn := of_decide_eq_true hn
  obtain ⟨x,hp,hx,hn⟩ : ∃ x,0 < x /\ x ∈ ys /\ -x ∈ ys := by
   by_cases h : 0 < x
   ·exact ⟨x,h,hx,hn⟩
   ·have := h0 x hx
    exact ⟨-x,by omega,hn,by rw [Int.neg_neg]; exact hx⟩
  obtain ⟨i,hi,rfl⟩ := List.getElem_of_mem hx
  obtain ⟨j,hj,ej⟩ := List.getElem_of_mem hn
  have hji : j < i := by
   rcases Nat.lt_trichotomy j i with h | h | h
   ·exact h
   ·subst h; omega
   ·have := pw i j hi hj h
    rw [ej] at this
    have := lb this
    have := lv ys[i]
    have := lv (-ys[i])
    omega
  have hj1 : j = i - 1 := by
   rcases Nat.lt_or_ge j (i - 1) with h | h
   ·have q1 := pw j (i - 1) hj (by omega) h
    have q2 := pw (i - 1) i (by omega) hi (by omega)
    rw [ej] at q1
    have := lb q1
    have := lb q2
    have := lv ys[i]
    have := lv (-ys[i])
    have := lv ys[i - 1]
    omega
   ·omega
  subst hj1
  refine ⟨i,List.mem_range.2 hi,decide_eq_true ⟨by omega,?_,?_⟩⟩
  ·rw [List.getD_eq_getElem?_getD,List.getElem?_eq_getElem hi]; exact hp
  ·rw [List.getD_eq_getElem?_getD,List.getD_eq_getElem?_getD,List.getElem?_eq_getElem hi,List.getElem?_eq_getElem hj]
   simp only [Option.getD_some]
   omega
open Go.Xr Go.Chk
structure StV where
 s : Stp
 lv : V
 hv : V
def StV.cells (s : StV) : List V := [.int .u8 s.s.kind,.int .i64 s.s.id,s.lv,s.hv]
structure Stps (h : Heap) (v : V) (l : List StV) : Prop where
 sl : SlE 4 h v (l.map StV.cells)
 lits : ∀ s ∈ l,Sw h s.lv (s.s.lits.map (.int .i32))
 hints : ∀ s ∈ l,Sw h s.hv (s.s.hints.map (.int .i64))
theorem Stps.ext {h h' : Heap} {v : V} {l : List StV} (hs : Stps h v l) (x : Ext h h') : Stps h' v l := ⟨hs.sl.ext x,fun s hm => (hs.lits s hm).ext x,fun s hm => (hs.hints s hm).ext x⟩
theorem Stps.at {h : Heap} {v : V} {l : List StV} (hs : Stps h v l) {i j : Nat} (hi : i < l.length) {x : V} (hx : (l[i]).cells[j]? = some x) : rCs h (objS v) (genS v) (offS v + i * 4 + j) 1 = some [x] :=
 hs.sl.at (i := i) (vs := (l[i]).cells) (by simp [hi]) hx
theorem Stps.len {h : Heap} {v : V} {l : List StV} (hs : Stps h v l) : lenS v = l.length := by rw [hs.sl.len,List.length_map]
open Go.Xr Go.Chk
theorem below_ok (l : Int) (h : Heap) : EvCall xprog H0 57 [.int .i64 l] h fun v h' => v = .bool (decide (l < 0)) /\ h' = h := by
 refine s_call (fn := xf57) rfl (free _ rfl ..) ?_
 simp -implicitDefEqProofs only [xf57,argsFrom_cons,argsFrom_nil]
 repeat' ((first | refine Z0 rfl ?_ | refine Z1 rfl ?_ | refine Z2 ?_ | refine Z3 ?_ | refine Z4 ?_ | refine Z5 ?_ | refine Z6 ?_ | refine Z7 ?_ | refine Z8 ?_ | refine Z9 (fun hif => ?_) (fun hif => ?_) | refine Za (fun hif => ?_) (fun hif => ?_) | refine Zb (fun hif => ?_) (fun hif => ?_) | (refine Zc ?_ ?_; omega) | (refine Zd ?_ ?_; omega) | (refine Ze ?_ ?_; omega)) <;>
  (try simp -implicitDefEqProofs (disch := first | assumption | omega) only [sx,sb,sd,se,xwS,xwO,xwI,oEv,xres,o1f,Nat.reduceAdd,Nat.reduceEqDiff,Nat.reduceSub, ↓reduceIte,reduceCtorEq, *]))
theorem IndexFunc_ok {h : Heap} {c : V} {xs : List Int} (hc : Sl h c (xs.map (.int .i64))) (hlen : xs.length <= 9223372036854775806) (hx : ∀ x ∈ xs,x ≠ 0) : EvCall xprog H0 56 [c,.func 57 [] []] h fun v h' => v = .int .i64 (if headN xs < xs.length then (headN xs : Int) else -1) /\ h' = h := by
 refine s_call (fn := xf56) rfl (free _ rfl ..) ?_
 have hl := hc.len
 have hr := hc.row
 simp only [List.length_map] at hl
 simp -implicitDefEqProofs only [xf56,argsFrom_cons,argsFrom_nil]
 repeat' ((first | refine Z0 rfl ?_ | refine Z1 rfl ?_ | refine Z2 ?_ | refine Z3 ?_ | refine Z4 ?_ | refine Z5 ?_ | refine Z6 ?_ | refine Z7 ?_ | refine Z8 ?_ | refine Z9 (fun hif => ?_) (fun hif => ?_) | refine Za (fun hif => ?_) (fun hif => ?_) | refine Zb (fun hif => ?_) (fun hif => ?_) | (refine Zc ?_ ?_; omega) | (refine Zd ?_ ?_; omega) | (refine Ze ?_ ?_; omega)) <;>
  (try simp -implicitDefEqProofs (disch := first | assumption | omega) only [sx,sb,sd,se,xwS,xwO,xwI,oEv,xres,o1f,Nat.reduceAdd,Nat.reduceEqDiff,Nat.reduceSub, ↓reduceIte,reduceCtorEq,wrap_i64, *]))
 refine s_while (fun n t d h' => ∃ i : Nat,i + n = xs.length /\ sO t 8 = .int .i64 i /\ sO t 7 = .int .i64 xs.length /\ sO t 0 = c /\ sO t 1 = .func 57 [] [] /\ d = [] /\ h' = h /\ ∀ j (hj : j < xs.length),j < i -> 0 < xs[j]) (fun _ _ _ => frC ..) xs.length ⟨0,by omega,by simp [sSe],by simp [sSe],by simp [sSe],by simp [sSe],rfl,rfl,fun j _ hj => by omega⟩ ?_
 rintro n t d h' ⟨i,a1,a2,a2',a3,a4,rfl,rfl,a5⟩
 have rx : ∀ (hi : i < xs.length),rCs h' (objS c) (genS c) (offS c + i) 1 = some [.int .i64 (xs[i])] := fun hi => hc.at (by simp [hi])
 repeat' ((first | refine Z0 rfl ?_ | refine Z1 rfl ?_ | refine Z2 ?_ | refine Z3 ?_ | refine Z4 ?_ | refine Z5 ?_ | refine Z6 ?_ | refine Z7 ?_ | refine Z8 ?_ | refine Z9 (fun hif => ?_) (fun hif => ?_) | refine Za (fun hif => ?_) (fun hif => ?_) | refine Zb (fun hif => ?_) (fun hif => ?_) | (refine Zc ?_ ?_; omega) | (refine Zd ?_ ?_; omega) | (refine Ze ?_ ?_; omega) | (refine (eCi (below_ok _ _)).2 ?_)) <;>
  (try simp -implicitDefEqProofs (disch := first | assumption | omega) only [sx,sb,sd,se,xwS,xwO,xwI,oEv,xres,o1f,Nat.reduceAdd,Nat.reduceEqDiff,Nat.reduceSub, ↓reduceIte,reduceCtorEq,wrap_i64,Nat.zero_add,Int.toNat_natCast, *]))
 ·have : headN xs = i := headN_eq (by omega) a5 fun hj => by omega
  rw [this,if_pos (by omega)]
 ·refine ⟨n - 1,by omega,i + 1,by omega,by simp,fun j hj hlt => ?_⟩
  rcases Nat.lt_succ_iff_lt_or_eq.1 hlt with h | rfl
  ·exact a5 j hj h
  ·have := hx _ (List.getElem_mem hj)
   omega
 ·have : headN xs = xs.length := headN_eq (Nat.le_refl _) (fun j hj _ => a5 j hj (by omega)) fun hj => by omega
  rw [this,if_neg (by omega)]
  rfl
theorem rhead_ok {h : Heap} {c : V} {xs : List Int} (hc : Sl h c (xs.map (.int .i64))) (hlen : xs.length <= 9223372036854775806) : EvCall xprog H0 46 [c] h fun v h' => v = .int .i64 (headN xs : Nat) /\ h' = h := by
 refine s_call (fn := xf46) rfl (free _ rfl ..) ?_
 have hl := hc.len
 have hr := hc.row
 simp only [List.length_map] at hl
 simp -implicitDefEqProofs only [xf46,argsFrom_cons,argsFrom_nil]
 repeat' ((first | refine Z0 rfl ?_ | refine Z1 rfl ?_ | refine Z2 ?_ | refine Z3 ?_ | refine Z4 ?_ | refine Z5 ?_ | refine Z6 ?_ | refine Z7 ?_ | refine Z8 ?_ | refine Z9 (fun hif => ?_) (fun hif => ?_) | refine Za (fun hif => ?_) (fun hif => ?_) | refine Zb (fun hif => ?_) (fun hif => ?_) | (refine Zc ?_ ?_; omega) | (refine Zd ?_ ?_; omega) | (refine Ze ?_ ?_; omega)) <;>
  (try simp -implicitDefEqProofs (disch := first | assumption | omega) only [sx,sb,sd,se,xwS,xwO,xwI,oEv,xres,o1f,Nat.reduceAdd,Nat.reduceEqDiff,Nat.reduceSub, ↓reduceIte,reduceCtorEq,wrap_i64, *]))
 refine s_while (fun n t d h' => ∃ i : Nat,i + n = xs.length /\ sO t 3 = .int .i64 i /\ sO t 0 = c /\ d = [] /\ h' = h /\ ∀ j (hj : j < xs.length),j < i -> 0 < xs[j]) (fun _ _ _ => frC ..) xs.length ⟨0,by omega,by simp [sSe],by simp [sSe],rfl,rfl,fun j _ hj => by omega⟩ ?_
 rintro n t d h' ⟨i,a1,a2,a3,rfl,rfl,a5⟩
 have rx : ∀ (hi : i < xs.length),rCs h' (objS c) (genS c) (offS c + i) 1 = some [.int .i64 (xs[i])] := fun hi => hc.at (by simp [hi])
 repeat' ((first | refine Z0 rfl ?_ | refine Z1 rfl ?_ | refine Z2 ?_ | refine Z3 ?_ | refine Z4 ?_ | refine Z5 ?_ | refine Z6 ?_ | refine Z7 ?_ | refine Z8 ?_ | refine Z9 (fun hif => ?_) (fun hif => ?_) | refine Za (fun hif => ?_) (fun hif => ?_) | refine Zb (fun hif => ?_) (fun hif => ?_) | (refine Zc ?_ ?_; omega) | (refine Zd ?_ ?_; omega) | (refine Ze ?_ ?_; omega)) <;>
  (try simp -implicitDefEqProofs (disch := first | assumption | omega) only [sx,sb,sd,se,xwS,xwO,xwI,oEv,xres,o1f,Nat.reduceAdd,Nat.reduceEqDiff,Nat.reduceSub, ↓reduceIte,reduceCtorEq,wrap_i64,Nat.zero_add,Int.toNat_natCast, *]))
 ·refine ⟨n - 1,by omega,i + 1,by omega,by simp,fun j hj hlt => ?_⟩
  rcases Nat.lt_succ_iff_lt_or_eq.1 hlt with h | rfl
  ·exact a5 j hj h
  ·assumption
 ·rw [headN_eq (by omega) a5 fun hj => by assumption]
 ·rw [headN_eq (by omega) a5 fun hj => by omega]
end Go.Proofs.YtmkbnbpblhoekaaGreat
