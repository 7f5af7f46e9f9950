/- Part of a proof for X's executor: what the program's functions answer. -/
import Derived.Test.YtmkbnbpblhoekaaGreatU8
import Derived.Test.YtmkbnbpblhoekaaGreatW3
set_option linter.unusedSimpArgs false
set_option linter.unusedVariables false
set_option linter.unusedSectionVars false
namespace Go.Proofs.YtmkbnbpblhoekaaGreat
open Go.Xr Go.Chk
def Fine (l : List Int) : Prop := ∀ x ∈ l,x ≠ 0 /\ -1048576 <= x /\ x <= 1048576
theorem Fine.ok {l : List Int} (h : Fine l) : ∀ x ∈ l,I32ok x := fun x hx => by have := h x hx; exact ⟨by omega,by omega⟩
theorem wneg {x : Int} (h1 : -1048576 <= x) (h2 : x <= 1048576) : IntKind.i32.wrap (-x) = -x := wrap_i32 (by omega) (by omega)
theorem one_map (k : IntKind) (xs : List Int) : (xs.map (V.int k)).all V.one = true := by
 rw [List.all_eq_true]
 intro x hx
 obtain ⟨n,_,rfl⟩ := List.mem_map.1 hx
 rfl
set_option maxHeartbeats 8000000 in
theorem rNormal_ok {h : Heap} {c : V} {xs : List Int} (hc : Sl h c (xs.map (.int .i32))) (hx : Fine xs) (hlen : xs.length <= 1000000) : EvCall xprog H0 62 [c] h fun v h' => (∃ w,v = .tup [w,.bool (both xs)]) /\ Ext h h' := by
 refine s_call (fn := xf62) rfl (free _ rfl ..) ?_
 have hl := hc.len
 have hr := hc.row
 simp only [List.length_map] at hl
 simp -implicitDefEqProofs only [xf62,argsFrom_cons,argsFrom_nil]
 repeat' ((first | refine Z0 rfl ?_ | refine Z1 rfl ?_ | refine Z2 ?_ | refine Z3 ?_ | refine Z4 ?_ | refine Z5 ?_ | refine Z6 ?_ | refine Z7 ?_ | refine Z8 ?_ | refine Z9 (fun hif => ?_) (fun hif => ?_) | refine Za (fun hif => ?_) (fun hif => ?_) | refine Zb (fun hif => ?_) (fun hif => ?_) | (refine Zc ?_ ?_; omega) | (refine Zd ?_ ?_; omega) | (refine Ze ?_ ?_; omega)) <;>
  (try simp -implicitDefEqProofs (disch := first | assumption | omega) only [sx,sb,sd,se,xwS,xwO,xwI,oEv,xres,o1f,Nat.reduceAdd,Nat.reduceEqDiff,Nat.reduceSub, ↓reduceIte,reduceCtorEq,wrap_i64, *]))
 refine s_while (fun n t d g => ∃ (i : Nat) (ov : V) (ys : List Int) (B : Bool),i + n = xs.length /\ sO t 6 = .int .i64 i /\ sO t 0 = c /\ sO t 4 = ov /\ sO t 5 = .bool B /\ d = [] /\ Ext h g /\ Tk h.next g ov (ys.map (.int .i32)) /\ Eqs ys (xs.take i) /\ ys.length <= i /\ (B = true ↔ ∃ x ∈ xs.take i,0 < x /\ -x ∈ xs)) (fun _ _ _ => frC ..) xs.length ⟨0,.nils,[],false,by omega,by simp [sSe],by simp [sSe],by simp [sSe],by simp [sSe],rfl,Ext.refl _,Tk.nil _ _,by simp [Eqs.refl],Nat.le_refl _,by simp⟩ ?_
 rintro n t d g ⟨i,ov,ys,B,a1,a2,a3,a4,a5,rfl,a6,a7,a8,a9,a10⟩
 have rx : ∀ (hi : i < xs.length),rCs g (objS c) (genS c) (offS c + i) 1 = some [.int .i32 (xs[i])] := fun hi => (hc.ext a6).at (by simp [hi])
 have ol := a7.len
 have orow := a7.row
 simp only [List.length_map] at ol
 have hasO : ∀ x,EvCall xprog H0 63 [ov,.int .i32 x] g fun v h' => v = .bool (decide (x ∈ ys)) /\ h' = g := fun x => Has_ok a7.sl (by omega) x
 have hasC : ∀ x,EvCall xprog H0 63 [c,.int .i32 x] g fun v h' => v = .bool (decide (x ∈ xs)) /\ h' = g := fun x => Has_ok (hc.ext a6) (by omega) x
 have wn : ∀ (hi : i < xs.length),IntKind.i32.wrap (-(xs[i])) = -(xs[i]) := fun hi => by
  have := hx _ (List.getElem_mem hi)
  exact wneg (by omega) (by omega)
 refine s_cut1 (fun t d g1 => sO t 6 = .int .i64 i /\ sO t 0 = c /\ sO t 4 = ov /\ sO t 5 = .bool B /\ d = [] /\ g1 = g /\ i < xs.length) ?_ ?_
 ·repeat' ((first | refine Z0 rfl ?_ | refine Z1 rfl ?_ | refine Z2 ?_ | refine Z3 ?_ | refine Z4 ?_ | refine Z5 ?_ | refine Z6 ?_ | refine Z7 ?_ | refine Z8 ?_ | refine Z9 (fun hif => ?_) (fun hif => ?_) | refine Za (fun hif => ?_) (fun hif => ?_) | refine Zb (fun hif => ?_) (fun hif => ?_) | (refine Zc ?_ ?_; omega) | (refine Zd ?_ ?_; omega) | (refine Ze ?_ ?_; omega)) <;>
   (try simp -implicitDefEqProofs (disch := first | assumption | omega) only [sx,sb,sd,se,xwS,xwO,xwI,oEv,xres,o1f,Nat.reduceAdd,Nat.reduceEqDiff,Nat.reduceSub, ↓reduceIte,reduceCtorEq,wrap_i64,Nat.zero_add,Int.toNat_natCast, *]))
  ·omega
  ·have hi : i = xs.length := by omega
   subst hi
   rw [List.take_length] at a10
   refine ⟨ov,?_⟩
   rw [show B = both xs from ?_]
   rw [Bool.eq_iff_iff,a10]
   unfold both
   rw [List.any_eq_true]
   constructor
   ·rintro ⟨x,q1,q2,q3⟩
    exact ⟨x,q1,decide_eq_true q3⟩
   ·rintro ⟨x,q1,q2⟩
    have q2 := of_decide_eq_true q2
    have q3 := hx x q1
    by_cases q4 : 0 < x
    ·exact ⟨x,q1,q4,q2⟩
    ·exact ⟨-x,q2,by omega,by rw [Int.neg_neg]; exact q1⟩
 clear a2 a3 a4 a5 t
 rintro t d g ⟨a2,a3,a4,a5,rfl,rfl,hi⟩
 replace rx := rx hi
 replace wn := wn hi
 have hxi := hx _ (List.getElem_mem hi)
 have etake : xs.take (i + 1) = xs.take i ++ [xs[i]] := by
  rw [List.take_add_one,List.getElem?_eq_getElem hi]
  rfl
 have hxm : xs[i] ∈ xs := List.getElem_mem hi
 have hrx : ∀ {g' : Heap},Ext h g' -> rCs g' (objS c) (genS c) (offS c + i) 1 = some [.int .i32 (xs[i])] := fun x1 => (hc.ext x1).at (by simp [hi])
 generalize xs[i] = x at *
 refine s_seq ?_
 refine s_block ?_
 refine s_cut2 (fun t d g1 => sO t 6 = .int .i64 i /\ sO t 0 = c /\ sO t 4 = ov /\ sO t 5 = .bool (B || (decide (0 < x) && decide (-x ∈ xs))) /\ d = [] /\ g1 = g /\ x ∉ ys) ?_ ?_
 ·repeat' ((first | refine Z0 rfl ?_ | refine Z1 rfl ?_ | refine Z2 ?_ | refine Z3 ?_ | refine Z4 ?_ | refine Z5 ?_ | refine Z6 ?_ | refine Z7 ?_ | refine Z8 ?_ | refine Z9 (fun hif => ?_) (fun hif => ?_) | refine Za (fun hif => ?_) (fun hif => ?_) | refine Zb (fun hif => ?_) (fun hif => ?_) | (refine Zc ?_ ?_; omega) | (refine Zd ?_ ?_; omega) | (refine Ze ?_ ?_; omega) | (refine (eCi (hasO _)).2 ?_) | (refine (eCi (hasC _)).2 ?_)) <;>
   (try simp -implicitDefEqProofs (disch := first | assumption | omega) only [sx,sb,sd,se,xwS,xwO,xwI,oEv,xres,o1f,Nat.reduceAdd,Nat.reduceEqDiff,Nat.reduceSub, ↓reduceIte,reduceCtorEq,wrap_i64,Nat.zero_add,Int.toNat_natCast, *]))
  ·have hyt : x ∈ xs.take i := (a8 x).1 (by assumption)
   refine ⟨n - 1,by omega,i + 1,ov,ys,B,by omega,by simp,rfl,rfl,a7,?_,by omega,?_⟩
   ·rw [etake]
    intro z
    rw [a8 z,List.mem_append,List.mem_singleton]
    exact ⟨.inl,fun q => q.elim id fun e => e ▸ hyt⟩
   ·rw [a10,etake]
    constructor
    ·rintro ⟨z,q1,q2⟩
     exact ⟨z,List.mem_append_left _ q1,q2⟩
    ·rintro ⟨z,q1,q2⟩
     rcases List.mem_append.1 q1 with q1 | q1
     ·exact ⟨z,q1,q2⟩
     ·rw [List.mem_singleton] at q1
      subst q1
      exact ⟨z,hyt,q2⟩
  ·simp
  ·simp
  ·simp
 clear a2 a3 a4 a5 t
 rintro t d g ⟨a2,a3,a4,a5,rfl,rfl,hny⟩
 repeat' ((first | refine Z0 rfl ?_ | refine Z1 rfl ?_ | refine Z2 ?_ | refine Z3 ?_ | refine Z4 ?_ | refine Z5 ?_ | refine Z6 ?_ | refine Z7 ?_ | refine Z8 ?_ | refine Z9 (fun hif => ?_) (fun hif => ?_) | refine Za (fun hif => ?_) (fun hif => ?_) | refine Zb (fun hif => ?_) (fun hif => ?_) | (refine Zc ?_ ?_; omega) | (refine Zd ?_ ?_; omega) | (refine Ze ?_ ?_; omega)) <;>
  (try simp -implicitDefEqProofs (disch := first | assumption | omega) only [sx,sb,sd,se,xwS,xwO,xwI,oEv,xres,o1f,Nat.reduceAdd,Nat.reduceEqDiff,Nat.reduceSub, ↓reduceIte,reduceCtorEq,wrap_i64,Nat.zero_add,Int.toNat_natCast, *]))
 refine s_while (fun m t d g1 => ∃ k : Nat,k + m = ys.length /\ sO t 7 = .int .i64 k /\ sO t 6 = .int .i64 i /\ sO t 0 = c /\ sO t 4 = ov /\ sO t 5 = .bool (B || (decide (0 < x) && decide (-x ∈ xs))) /\ d = [] /\ g1 = g) (fun _ _ _ => frC ..) ys.length ⟨0,by omega,by simp [sSe],by simp [sSe,a2],by simp [sSe,a3],by simp [sSe,a4],by simp [sSe,a5],rfl,rfl⟩ ?_
 clear a2 a3 a4 a5 t
 rintro m t d g ⟨k,b1,b2,a2,a3,a4,a5,rfl,rfl⟩
 have ry : ∀ (hk : k < ys.length),rCs g (objS ov) (genS ov) (offS ov + k) 1 = some [.int .i32 (ys[k])] := fun hk => a7.sl.at (by simp [hk])
 have hbf : ∀ (hk : k < ys.length),EvCall xprog H0 75 [.int .i32 (ys[k]),.int .i32 x] g fun v h' => v = .bool (litBefore (ys[k]) x) /\ h' = g := fun hk => before_ok _ _ (hx.ok _ (List.mem_of_mem_take ((a8 _).1 (List.getElem_mem hk)))) (hx.ok _ hxm) g
 repeat' ((first | refine Z0 rfl ?_ | refine Z1 rfl ?_ | refine Z2 ?_ | refine Z3 ?_ | refine Z4 ?_ | refine Z5 ?_ | refine Z6 ?_ | refine Z7 ?_ | refine Z8 ?_ | refine Z9 (fun hif => ?_) (fun hif => ?_) | refine Za (fun hif => ?_) (fun hif => ?_) | refine Zb (fun hif => ?_) (fun hif => ?_) | (refine Zc ?_ ?_; omega) | (refine Zd ?_ ?_; omega) | (refine Ze ?_ ?_; omega) | (refine (eCi (hbf (by omega))).2 ?_) | ((refine x_sw_hi a7.sw (by omega) (by simp; omega) ?_; intro r1 q1)) | ((refine x_append_tk (Tk.nil h.next g) a6.next q1.sl (by rw [<- List.map_take]; exact one_map _ _) (by simp; omega) ?_; rintro v1 g1 k1 u1 e1; have y1 : Ext g g1 := (Ext.refl g).butI u1 (fun o _ q => by cases q); have z1 : Ext h g1 := a6.trans y1; have rx1 := hrx z1)) | ((refine x_append_tk (k1.ext (Ext.new ..)) (Nat.le_succ_of_le z1.next) (sl_new (get_new ..) (by simp)) rfl (by simp; omega) ?_; rintro v2 g2 k2 u2 e2; have y2 : Ext g g2 := (y1.trans (Ext.new ..)).butI u2 (fun o ho q => by rcases e1 with rfl | e1 | e1 <;> simp_all [rOb]); have z2 : Ext h g2 := a6.trans y2)) | ((refine x_sw_lo (a7.sw.ext y2) (by omega) (by simp; omega) ?_; intro r3 q3)) | ((refine x_append_tk k2 z2.next q3.sl (by rw [<- List.map_drop]; exact one_map _ _) (by simp; omega) ?_; rintro v3 g3 k3 u3 e3))) <;>
  (try simp -implicitDefEqProofs (disch := first | assumption | omega) only [sx,sb,sd,se,xwS,xwO,xwI,oEv,xres,o1f,Nat.reduceAdd,Nat.reduceEqDiff,Nat.reduceSub, ↓reduceIte,reduceCtorEq,si,sh,sf,fillV,parts,over,Nat.beq_refl,Nat.ble, *]))
 ·exact ⟨m - 1,by omega,k + 1,by omega,by simp⟩
 all_goals
  have z3 : Ext h g3 := z2.butI u3 (fun o ho q => by have := k2.lt q; omega)
  have el : (((([] ++ (ys.map (V.int .i32)).take (k : Int).toNat) ++ [.int .i32 x]) ++ (ys.map (V.int .i32)).drop (k : Int).toNat)) = ((ys.take k ++ [x]) ++ ys.drop k).map (V.int .i32) := by simp
  rw [el] at k3
  refine ⟨n - 1,by omega,i + 1,v3,_,_,by omega,by simp,rfl,rfl,z3,k3,?_,by simp; omega,?_⟩
  ·rw [etake]
   intro z
   have ez : z ∈ ys ↔ z ∈ ys.take k \/ z ∈ ys.drop k := by
    conv => lhs; rw [<- List.take_append_drop k ys]
    exact List.mem_append
   simp only [List.mem_append,List.mem_singleton, <- a8 z,ez]
   constructor
   ·rintro ((q | q) | q)
    ·exact .inl (.inl q)
    ·exact .inr q
    ·exact .inl (.inr q)
   ·rintro ((q | q) | q)
    ·exact .inl (.inl q)
    ·exact .inr q
    ·exact .inl (.inr q)
  ·rw [etake,Bool.or_eq_true,a10,Bool.and_eq_true]
   constructor
   ·rintro (⟨z,q1,q2⟩ | ⟨q1,q2⟩)
    ·exact ⟨z,List.mem_append_left _ q1,q2⟩
    ·exact ⟨x,List.mem_append_right _ (by simp),of_decide_eq_true q1,of_decide_eq_true q2⟩
   ·rintro ⟨z,q1,q2,q3⟩
    rcases List.mem_append.1 q1 with q1 | q1
    ·exact .inl ⟨z,q1,q2,q3⟩
    ·rw [List.mem_singleton] at q1
     subst q1
     exact .inr ⟨decide_eq_true q2,decide_eq_true q3⟩
theorem rboth_ok {h : Heap} {c : V} {xs : List Int} (hc : Sl h c (xs.map (.int .i32))) (hx : Fine xs) (hlen : xs.length <= 1000000) : EvCall xprog H0 45 [c] h fun v h' => v = .bool (both xs) /\ Ext h h' := by
 refine s_call (fn := xf45) rfl (free _ rfl ..) ?_
 simp -implicitDefEqProofs only [xf45,argsFrom_cons,argsFrom_nil]
 repeat' ((first | refine Z0 rfl ?_ | refine Z1 rfl ?_ | refine Z2 ?_ | refine Z3 ?_ | refine Z4 ?_ | refine Z5 ?_ | refine Z6 ?_ | refine Z7 ?_ | refine Z8 ?_ | refine Z9 (fun hif => ?_) (fun hif => ?_) | refine Za (fun hif => ?_) (fun hif => ?_) | refine Zb (fun hif => ?_) (fun hif => ?_) | (refine Zc ?_ ?_; omega) | (refine Zd ?_ ?_; omega) | (refine Ze ?_ ?_; omega) | ((refine eAc (rNormal_ok hc hx hlen) ?_; rintro _ g ⟨⟨w,rfl⟩,x1⟩))) <;>
  (try simp -implicitDefEqProofs (disch := first | assumption | omega) only [sx,sb,sd,se,xwS,xwO,xwI,oEv,xres,o1f,Nat.reduceAdd,Nat.reduceEqDiff,Nat.reduceSub, ↓reduceIte,reduceCtorEq,sg, *]))
open Go.Xr Go.Chk
theorem drop_at {l : List Int} {i : Nat} (hi : i < l.length) : l.drop i = l[i] :: l.drop (i + 1) := List.drop_eq_getElem_cons hi
theorem take_at {l : List Int} {i : Nat} (hi : i < l.length) : l.take (i + 1) = l.take i ++ [l[i]] := by
 rw [List.take_add_one,List.getElem?_eq_getElem hi]
 rfl
theorem thr_le (es : List (Int × List Int)) : ∀ (hints yes : List Int),(thr es yes hints).2 <= 2
 | [],_ => Nat.zero_le _
 | id :: r,yes => by
  unfold thr
  cases find es id with
  | none => exact Nat.le_refl _
  | some l =>
   simp only
   cases stepOf yes l with
   | wrong => exact Nat.le_refl _
   | conflict => exact Nat.le_succ _
   | unit x => exact thr_le es r _
theorem group_any {es : List (Int × List Int)} {l : List Int} {p : Int} {ys hints : List Int} {x : Int} (hx : x ∈ l) (h1 : x ≠ -p) (h2 : x ∈ ys \/ -x ∈ l) : groupOf es l p ys hints = 0 := by
 unfold groupOf
 rw [if_pos]
 rw [List.any_eq_true]
 exact ⟨x,hx,decide_eq_true ⟨h1,h2⟩⟩
theorem group_thr {es : List (Int × List Int)} {l : List Int} {p : Int} {ys hints : List Int} (h : ∀ x ∈ l, ¬ (x ≠ -p /\ (x ∈ ys \/ -x ∈ l))) : groupOf es l p ys hints = match (thr es (ys ++ (l.filter fun x => decide (x ≠ -p)).map (fun x => -x)) hints).2 with | 0 => 61 | 1 => 0 | _ => 60 := by
 unfold groupOf
 exact if_neg (by
  rw [List.any_eq_true]
  rintro ⟨x,h1,h2⟩
  exact h x h1 (of_decide_eq_true h2))
theorem headN_drop : ∀ {l : List Int} {x : Int} {r : List Int},l.drop (headN l) = x :: r -> ¬ 0 < x
 | [],_,_,h => by simp at h
 | a :: l,x,r,h => by
  unfold headN at h
  split at h
  ·rw [List.drop_succ_cons] at h
   exact headN_drop h
  ·rw [List.drop_zero] at h
   cases h
   assumption
def HFine (hints : List Int) : Prop := ∀ x ∈ hints,x ≠ 0 /\ -4611686018427387904 <= x /\ x <= 4611686018427387904
theorem HFine.drop {l : List Int} (h : HFine l) : ∀ x r,l.drop (headN l) = x :: r -> x < 0 := fun x r e => by
 have h1 := headN_drop e
 have h2 := h x (List.mem_of_mem_drop (e ▸ List.mem_cons_self))
 omega
def grpOf (es : List (Int × List Int)) (l ys hints : List Int) : Int := match l with
 | [] => 61
 | p :: _ => groups es p ys hints 0 []
theorem begun_snoc : ∀ (cs : List (List Int)) (c : List Int) (s : Chs) (n : Int),Chk.start (cs ++ [c]) s n = (Chk.start cs s n).put (n + cs.length) c
 | [],c,s,n => by simp [Chk.start]
 | a :: r,c,s,n => by
  rw [List.cons_append,Chk.start,begun_snoc r c,Chk.start]
  congr 1
  simp
  omega
theorem split_at {es : List (Int × List Int)} {p : Nat} {e : Int × List Int} (hp : es[p]? = some e) : es = es.take p ++ e :: es.drop (p + 1) := by
 obtain ⟨hlt,rfl⟩ := List.getElem?_eq_some_iff.1 hp
 conv => lhs; rw [<- List.take_append_drop p es,List.drop_eq_getElem_cons hlt]
theorem filt_erase {es : List (Int × List Int)} {p : Nat} {id : Int} {l : List Int} (hr : (es.map Prod.fst).Pairwise (· < ·)) (hp : es[p]? = some (id,l)) : es.filter (fun e => decide (e.1 ≠ id)) = es.take p ++ es.drop (p + 1) := by
 have hs := split_at hp
 generalize es.take p = a at *
 generalize es.drop (p + 1) = c at *
 subst hs
 rw [List.map_append,List.pairwise_append,List.map_cons,List.pairwise_cons] at hr
 obtain ⟨_,⟨h1,_⟩,h2⟩ := hr
 rw [List.filter_append,List.filter_cons,if_neg (by simp)]
 congr 1
 ·rw [List.filter_eq_self]
  intro x hx
  have := h2 x.1 (List.mem_map.2 ⟨x,hx,rfl⟩) id List.mem_cons_self
  exact decide_eq_true (by omega)
 ·rw [List.filter_eq_self]
  intro x hx
  have := h1 x.1 (List.mem_map.2 ⟨x,hx,rfl⟩)
  exact decide_eq_true (by omega)
theorem total_split {es : List (Int × List Int)} {p : Nat} {id : Int} {l : List Int} (hp : es[p]? = some (id,l)) : Chk.total es = Chk.total (es.take p ++ es.drop (p + 1)) + l.length := by
 conv => lhs; rw [split_at hp]
 rw [total_append,total_append]
 show _ + (l.length + Chk.total _) = _
 omega
structure Right6 (b : Nat) (s : Chs) (N : Nat) : Prop where
 rise : Rise s.es s.last
 fine : ∀ e ∈ s.es,Fine e.2 /\ e.2.length <= 3000
 len : s.es.length <= N
 tot : Chk.total s.es <= N * 3000
theorem may_fine {kind id : Int} {lits hints : List Int} (h : mayOf kind id lits hints = true) : Fine lits /\ HFine hints /\ (kind = 2 \/ (kind = 1 /\ 1 <= id)) := by
 unfold mayOf at h
 rw [Bool.and_eq_true,Bool.and_eq_true,List.all_eq_true,List.all_eq_true] at h
 obtain ⟨⟨h1,h2⟩,h3⟩ := h
 refine ⟨fun x hx => ?_,fun x hx => ?_,?_⟩
 ·have := of_decide_eq_true (h1 x hx)
  exact this
 ·have := of_decide_eq_true (h2 x hx)
  exact ⟨this.1,by omega,by omega⟩
 ·unfold tailFine at h3
  split at h3
  ·rename_i e
   have := of_decide_eq_true h3
   exact .inr ⟨e,this.1⟩
  ·split at h3
   ·rename_i e
    exact .inl e
   ·cases h3
theorem step_right {b : Nat} {s : Chs} {N : Nat} {kind id : Int} {lits hints : List Int} (hs : Right6 b s N) (h1 : lits.length <= 3000) : Right6 b (s.step (mayOf kind id lits hints) kind id lits hints).2 (N + 1) := by
 have up : Right6 b s (N + 1) := ⟨hs.rise,hs.fine,Nat.le_succ_of_le hs.len,Nat.le_trans hs.tot (Nat.mul_le_mul_right _ (Nat.le_succ _))⟩
 unfold Chs.step
 cases hm : mayOf kind id lits hints with
 | false => exact up
 | true =>
  obtain ⟨hfl,hfh,hk⟩ := may_fine hm
  rw [if_neg (by simp)]
  split
  ·split
   ·exact up
   ·exact ⟨up.rise.filter _,fun e he => up.fine e (List.mem_filter.1 he).1,Nat.le_trans (List.length_filter_le _ _) up.len,Nat.le_trans (total_filter_le _ _) up.tot⟩
  ·rename_i hk2
   split
   ·exact up
   ·split
    ·exact up
    ·split
     ·exact up
     ·rename_i hid _ _
      have hid0 : 0 < id := by
       rcases hk with e | ⟨_,e⟩
       ·exact absurd e hk2
       ·omega
      refine ⟨hs.rise.put (by omega) hid0 _,fun e he => ?_,?_,?_⟩
      ·rcases List.mem_append.1 he with he | he
       ·exact hs.fine e he
       ·rw [List.mem_singleton] at he
        subst he
        exact ⟨hfl,h1⟩
      ·have := hs.len
       simp [Chs.put]
       omega
      ·have := hs.tot
       have ht : Chk.total (s.es ++ [(id,lits)]) = Chk.total s.es + lits.length := by
        rw [total_append]
        simp [Chk.total]
       show Chk.total (s.es ++ [(id,lits)]) <= _
       rw [ht,Nat.add_mul]
       omega
theorem right_fine {vars : Int} {cs : List (List Int)} (h : rightOf vars cs = 0) : ∀ c ∈ cs,Fine c := by
 unfold rightOf at h
 split at h
 ·cases h
 ·rename_i hv
  split at h
  ·cases h
  ·rename_i ha
   intro c hc x hx
   rw [List.any_eq_true] at ha
   have hb : bad vars x = false := by
    cases hb : bad vars x with
    | false => rfl
    | true => exact absurd ⟨c,hc,List.any_eq_true.2 ⟨x,hx,hb⟩⟩ ha
   have hb := of_decide_eq_false hb
   have := lv x
   omega
theorem begun_right {b : Nat} : ∀ (cs : List (List Int)) (s : Chs) (n : Int) (N : Nat),Right6 b s N -> (∀ c ∈ cs,Fine c /\ c.length <= 3000) -> s.last < n -> 0 < n -> Right6 b (Chk.start cs s n) (N + cs.length)
 | [],s,n,N,hs,_,_,_ => hs
 | c :: r,s,n,N,hs,hc,hn,h0 => by
  rw [Chk.start,List.length_cons,show N + (r.length + 1) = (N + 1) + r.length by omega]
  refine begun_right r (s.put n c) (n + 1) (N + 1) ?_ (fun x hx => hc x (List.mem_cons_of_mem _ hx)) (by show n < n + 1; omega) (by omega)
  have hcc := hc c List.mem_cons_self
  refine ⟨hs.rise.put hn h0 _,fun e he => ?_,?_,?_⟩
  ·rcases List.mem_append.1 he with he | he
   ·exact hs.fine e he
   ·rw [List.mem_singleton] at he
    subst he
    exact hcc
  ·have := hs.len
   simp [Chs.put]
   omega
  ·have := hs.tot
   have ht : Chk.total (s.es ++ [(n,c)]) = Chk.total s.es + c.length := by
    rw [total_append]
    simp [Chk.total]
   show Chk.total (s.es ++ [(n,c)]) <= _
   rw [ht,Nat.add_mul]
   have := hcc.2
   omega
def mayS (x : Stp) : Bool := mayOf x.kind x.id x.lits x.hints
def runAll (vars : Int) (cs : List (List Int)) (l : List Stp) : Bool × Int × Int := if rightOf vars cs ≠ 0 then (false,0,rightOf vars cs) else runOf mayS (Chk.start cs ⟨[],0,false⟩ 1) l 0
theorem runOf_over {may : Stp -> Bool} {s : Chs} (h : s.over = true) : ∀ (l : List Stp) (n : Int),runOf may s l n = (true,n,0)
 | [],n => by rw [runOf,h]
 | x :: r,n => by rw [runOf,if_pos h]
def tripV (r : Bool × Int × Int) : V := .tup [.bool r.1,.int .i64 r.2.1,.int .i64 r.2.2]
theorem done_mem {cs : List (List Int)} {c : List Int} (h : c ∈ cs) : c.length <= done cs cs.length := by
 obtain ⟨i,hi,rfl⟩ := List.getElem_of_mem h
 have := done_succ hi
 have := done_le cs (i + 1)
 omega
theorem Stps.elem {h : Heap} {v : V} {l : List StV} (hs : Stps h v l) {i : Nat} (hi : i < l.length) : rCs h (objS v) (genS v) (offS v + i * 4) 4 = some (l[i]).cells := by
 have := (hs.sl.elem i (by simpa using hi)).2.2
 simpa using this
open Go.Xr Go.Chk
def RRows (h : Heap) (o : Nat) (Lv : V) (cs : List V) (es : List (Int × List Int)) : Prop :=
 ∀ i (hi : i < es.length),cs[i * 2]? = some (.int .i64 (es[i]).1) /\ ∃ lv,cs[i * 2 + 1]? = some lv /\ Sl h lv ((es[i]).2.map (.int .i32)) /\ ∀ x,rOb lv = some x -> x ≠ o /\ rOb Lv ≠ some x /\ x < h.next
def RChk (b : Nat) (h : Heap) (o : Nat) (es : List (Int × List Int)) (last : Int) (ov : Bool) : Prop :=
 ∃ Lv cs,h.get o = some (arr [Lv,.int .i64 last,.bool ov,.int .i64 (total es : Nat)] 1 false) /\ b <= o /\ o < h.next /\ GrN 2 b h Lv cs es.length /\ rOb Lv ≠ some o /\ RRows h o Lv cs es /\ cs.all V.one = true
theorem RRows.ext {h h' : Heap} {o : Nat} {Lv : V} {cs : List V} {es : List (Int × List Int)} (hr : RRows h o Lv cs es) (x : Ext h h') : RRows h' o Lv cs es := fun i hi =>
 let ⟨h1,lv,h2,h3,h4⟩ := hr i hi
 ⟨h1,lv,h2,h3.ext x,fun y hy => let ⟨q1,q2,q3⟩ := h4 y hy; ⟨q1,q2,Nat.lt_of_lt_of_le q3 x.next⟩⟩
theorem RChk.ext {b : Nat} {h h' : Heap} {o : Nat} {es : List (Int × List Int)} {last : Int} {ov : Bool} (hr : RChk b h o es last ov) (x : Ext h h') : RChk b h' o es last ov :=
 let ⟨Lv,cs,h1,h2,h3,h4,h5,h6,h7⟩ := hr
 ⟨Lv,cs,by rw [x.get o h3]; exact h1,h2,Nat.lt_of_lt_of_le h3 x.next,h4.ext x,h5,h6.ext x,h7⟩
def RChkF (F : Nat -> Prop) (b : Nat) (h : Heap) (o : Nat) (es : List (Int × List Int)) (last : Int) (ov : Bool) : Prop :=
 ∃ Lv cs,(h.get o = some (arr [Lv,.int .i64 last,.bool ov,.int .i64 (total es : Nat)] 1 false) /\ b <= o /\ o < h.next /\ GrN 2 b h Lv cs es.length /\ rOb Lv ≠ some o /\ RRows h o Lv cs es /\ cs.all V.one = true) /\ F o /\ (∀ x,rOb Lv = some x -> F x) /\ ∀ v ∈ cs, ∀ x,rOb v = some x -> F x
theorem RChkF.chk {F : Nat -> Prop} {b : Nat} {h : Heap} {o : Nat} {es : List (Int × List Int)} {last : Int} {ov : Bool} (hr : RChkF F b h o es last ov) : RChk b h o es last ov :=
 let ⟨Lv,cs,q,_⟩ := hr
 ⟨Lv,cs,q⟩
theorem RChkF.ext {F : Nat -> Prop} {b : Nat} {h h' : Heap} {o : Nat} {es : List (Int × List Int)} {last : Int} {ov : Bool} (hr : RChkF F b h o es last ov) (x : Ext h h') : RChkF F b h' o es last ov :=
 let ⟨Lv,cs,⟨h1,h2,h3,h4,h5,h6,h7⟩,q⟩ := hr
 ⟨Lv,cs,⟨by rw [x.get o h3]; exact h1,h2,Nat.lt_of_lt_of_le h3 x.next,h4.ext x,h5,h6.ext x,h7⟩,q⟩
theorem RChkF.mono {F F' : Nat -> Prop} {b : Nat} {h : Heap} {o : Nat} {es : List (Int × List Int)} {last : Int} {ov : Bool} (hr : RChkF F b h o es last ov) (hF : ∀ x,F x -> F' x) : RChkF F' b h o es last ov :=
 let ⟨Lv,cs,q,q1,q2,q3⟩ := hr
 ⟨Lv,cs,q,hF _ q1,fun x hx => hF x (q2 x hx),fun v hv x hx => hF x (q3 v hv x hx)⟩
theorem RChkF.lt {F : Nat -> Prop} {b : Nat} {h : Heap} {o : Nat} {es : List (Int × List Int)} {last : Int} {ov : Bool} (hr : RChkF F b h o es last ov) : RChkF (fun x => F x /\ x < h.next) b h o es last ov := by
 obtain ⟨Lv,cs,⟨h1,h2,h3,h4,h5,h6,h7⟩,q1,q2,q3⟩ := hr
 refine ⟨Lv,cs,⟨h1,h2,h3,h4,h5,h6,h7⟩,⟨q1,h3⟩,fun x hx => ⟨q2 x hx,(h4.lt hx).2⟩,fun v hv x hx => ⟨q3 v hv x hx,?_⟩⟩
 obtain ⟨j,hj,rfl⟩ := List.getElem_of_mem hv
 have hsz := h4.size
 obtain ⟨e1,lv,e2,_,e4⟩ := h6 (j / 2) (by omega)
 rcases Nat.mod_two_eq_zero_or_one j with hm | hm
 ·rw [show j / 2 * 2 = j by omega,List.getElem?_eq_getElem hj,Option.some.injEq] at e1
  rw [e1] at hx
  cases hx
 ·rw [show j / 2 * 2 + 1 = j by omega,List.getElem?_eq_getElem hj,Option.some.injEq] at e2
  rw [e2] at hx
  exact (e4 x hx).2.2
theorem RChkF.stay {F : Nat -> Prop} {b : Nat} {h h' : Heap} {o : Nat} {es : List (Int × List Int)} {last : Int} {ov : Bool} (hr : RChkF F b h o es last ov) (hn : h.next <= h'.next) (hg : ∀ x,F x -> x < h.next -> h'.get x = h.get x) : RChkF F b h' o es last ov := by
 obtain ⟨Lv,cs,⟨h1,h2,h3,h4,h5,h6,h7⟩,q1,q2,q3⟩ := hr
 refine ⟨Lv,cs,⟨(hg o q1 h3).trans h1,h2,by omega,h4.frame hn fun x hx => hg x (q2 x hx) (h4.lt hx).2,h5,fun i hi => ?_,h7⟩,q1,q2,q3⟩
 obtain ⟨e1,lv,e2,e3,e4⟩ := h6 i hi
 exact ⟨e1,lv,e2,e3.stay hn fun x hx hlt => hg x (q3 lv (List.mem_of_getElem? e2) x hx) hlt,fun x hx => let ⟨r1,r2,r3⟩ := e4 x hx; ⟨r1,r2,Nat.lt_of_lt_of_le r3 hn⟩⟩
set_option maxHeartbeats 4000000 in
theorem rFind_ok {b : Nat} {h : Heap} {o : Nat} {es : List (Int × List Int)} {last : Int} {ov : Bool} (hc : RChk b h o es last ov) (hl : es.length <= 1000000) (id : Int) : EvCall xprog H0 44 [.ptr o 0 0,.int .i64 id] h fun v h' => (∃ r : Int,v = .int .i64 r /\ ((r < 0 /\ find es id = none) \/ ∃ (i : Nat) (l : List Int),r = i /\ es[i]? = some (id,l) /\ find es id = some l)) /\ h' = h := by
 refine s_call (fn := xf44) rfl (free _ rfl ..) ?_
 obtain ⟨Lv,cs,g1,_,_,q1,_,q2,_⟩ := hc
 have r0 := rCl (off := 0) g1 rfl
 have el := q1.len
 have er := q1.row
 simp -implicitDefEqProofs only [xf44,argsFrom_cons,argsFrom_nil]
 repeat' ((first | refine Z0 rfl ?_ | refine Z1 rfl ?_ | refine Z2 ?_ | refine Z3 ?_ | refine Z4 ?_ | refine Z5 ?_ | refine Z6 ?_ | refine Z7 ?_ | refine Z8 ?_ | refine Z9 (fun hif => ?_) (fun hif => ?_) | refine Za (fun hif => ?_) (fun hif => ?_) | refine Zb (fun hif => ?_) (fun hif => ?_) | (refine Zc ?_ ?_; omega) | (refine Zd ?_ ?_; omega) | (refine Ze ?_ ?_; omega)) <;>
  (try simp -implicitDefEqProofs (disch := first | assumption | omega) only [sx,sb,sd,se,xwS,xwO,xwI,oEv,xres,o1f,Nat.reduceAdd,Nat.reduceEqDiff,Nat.reduceSub, ↓reduceIte,reduceCtorEq, *]))
 refine s_while (fun n t d g => ∃ i : Nat,i + n = es.length /\ sO t 5 = .int .i64 i /\ sO t 0 = .ptr o 0 0 /\ sO t 1 = .int .i64 id /\ d = [] /\ g = h /\ ∀ j (hj : j < es.length),j < i -> (es[j]).1 ≠ id) (fun _ _ _ => frC ..) es.length ⟨0,by omega,by simp [sSe],by simp [sSe],by simp [sSe],rfl,rfl,fun j _ hj => by omega⟩ ?_
 rintro n t d g ⟨i,a1,a2,a3,a4,rfl,rfl,a5⟩
 have rx : ∀ (hi : i < es.length),rCs g (objS Lv) (genS Lv) (offS Lv + i * 2) 1 = some [.int .i64 (es[i]).1] := fun hi => by
  have := q1.at (j := 0) hi (q2 i hi).1
  rwa [Nat.add_zero] at this
 repeat' ((first | refine Z0 rfl ?_ | refine Z1 rfl ?_ | refine Z2 ?_ | refine Z3 ?_ | refine Z4 ?_ | refine Z5 ?_ | refine Z6 ?_ | refine Z7 ?_ | refine Z8 ?_ | refine Z9 (fun hif => ?_) (fun hif => ?_) | refine Za (fun hif => ?_) (fun hif => ?_) | refine Zb (fun hif => ?_) (fun hif => ?_) | (refine Zc ?_ ?_; omega) | (refine Zd ?_ ?_; omega) | (refine Ze ?_ ?_; omega)) <;>
  (try simp -implicitDefEqProofs (disch := first | assumption | omega) only [sx,sb,sd,se,xwS,xwO,xwI,oEv,xres,o1f,Nat.reduceAdd,Nat.reduceEqDiff,Nat.reduceSub, ↓reduceIte,reduceCtorEq,sf, *]))
 ·exact ⟨i,rfl,.inr ⟨i,(es[i]).2,rfl,by rw [List.getElem?_eq_getElem (by omega), <- hif],find_at (by omega) a5 hif⟩⟩
 ·refine ⟨n - 1,by omega,i + 1,by omega,by simp,fun j hj hlt => ?_⟩
  rcases Nat.lt_succ_iff_lt_or_eq.1 hlt with h | rfl
  ·exact a5 j hj h
  ·exact hif
 ·refine ⟨_,rfl,.inl ⟨by decide,find_none.2 fun e he => ?_⟩⟩
  obtain ⟨j,hj,rfl⟩ := List.getElem_of_mem he
  exact a5 j hj (by omega)
theorem RChk.clause {b : Nat} {h : Heap} {o : Nat} {es : List (Int × List Int)} {last : Int} {ov : Bool} (hc : RChk b h o es last ov) : ∃ Lv,rowS Lv = true /\ lenS Lv = es.length /\ (∀ g,Ext h g -> rCs g o 0 0 1 = some [Lv]) /\ ∀ (i : Nat) (hi : i < es.length), ∃ lv,Sl h lv ((es[i]).2.map (.int .i32)) /\ ∀ g,Ext h g -> rCs g (objS Lv) (genS Lv) (offS Lv + i * 2) 1 = some [.int .i64 (es[i]).1] /\ rCs g (objS Lv) (genS Lv) (offS Lv + i * 2 + 1) 1 = some [lv] := by
 obtain ⟨Lv,cs,g1,_,hlt,q1,_,q2,_⟩ := hc
 refine ⟨Lv,q1.row,q1.len,fun g x => rCl (off := 0) (by rw [x.get o hlt]; exact g1) rfl,fun i hi => ?_⟩
 obtain ⟨h1,lv,h2,h3,_⟩ := q2 i hi
 refine ⟨lv,h3,fun g x => ?_⟩
 have := (q1.ext x).at (j := 0) hi h1
 rw [Nat.add_zero] at this
 exact ⟨this,(q1.ext x).at hi h2⟩
open Go.Xr Go.Chk
theorem writeAll {h : Heap} {o : Nat} {cs vs : List V} {sp : Bool} (hg : h.get o = some (arr cs 1 sp)) (hl : cs.length = vs.length) (h1 : vs.all V.one = true) : writeCells h o 0 0 vs = some (h.put o (arr vs 1 sp)) := by
 unfold writeCells Heap.cells?
 rw [hg]
 simp only [arr,Nat.beq_refl]
 have : (Nat.ble (0 + vs.length) cs.length && vs.all V.one) = true := by
  rw [h1,Bool.and_true]
  exact Nat.ble_eq_true_of_le (by omega)
 simp only [hl] at this ⊢
 simp only [this,over_all hl]
theorem sw_new {h : Heap} {o n : Nat} {vs : List V} {sp : Bool} (hg : h.get o = some (arr vs 1 sp)) (ho : o < h.next) (hn : n = vs.length) : Sw h (.slice o 0 0 n (.exact n)) vs := .inr ⟨o,0,0,.exact n,by rw [hn],by rw [hn]; exact Nat.le_refl _,fun _ => ⟨ho,by rw [readCells_arr hg (by omega),List.drop_zero,List.take_length]⟩⟩
theorem cellsOf_slice (o g a n : Nat) (c : Cap) : (V.slice o g a n c).cellsOf = [.slice o g a n c] := rfl
def fourCs : List (List Int) := [[1,2],[1, -2],[-1,2],[-1, -2]]
set_option maxHeartbeats 4000000 in
theorem four_ok (h : Heap) : EvCall xprog H0 18 [] h fun v h' => (∃ cv,v = .agg [.int .i64 2,cv] /\ Cls h' cv fourCs) /\ Ext h h' := by
 refine s_call (fn := xf18) rfl (free _ rfl ..) ?_
 simp -implicitDefEqProofs only [xf18,argsFrom_cons,argsFrom_nil]
 repeat' ((first | refine Z0 rfl ?_ | refine Z1 rfl ?_ | refine Z2 ?_ | refine Z3 ?_ | refine Z4 ?_ | refine Z5 ?_ | refine Z6 ?_ | refine Z7 ?_ | refine Z8 ?_ | refine Z9 (fun hif => ?_) (fun hif => ?_) | refine Za (fun hif => ?_) (fun hif => ?_) | refine Zb (fun hif => ?_) (fun hif => ?_) | (refine Zc ?_ ?_; omega) | (refine Zd ?_ ?_; omega) | (refine Ze ?_ ?_; omega) | ((refine ⟨_,writeAll (o := h.next) (cs := [.int .i64 0,.nils]) (by repeat (first | exact get_new .. | (rw [newCells_eq,Heap.get_push,if_neg (by simp only [next_new]; omega)]))) rfl rfl,?_⟩))) <;>
  (try simp -implicitDefEqProofs (disch := first | assumption | omega) only [sx,sb,sd,se,xwS,xwO,xwI,oEv,xres,o1f,Nat.reduceAdd,Nat.reduceEqDiff,Nat.reduceSub, ↓reduceIte,reduceCtorEq,si,sh,cellsOf_slice,fillV,parts,over,Nat.beq_refl,Nat.ble, *]))
 refine ⟨_,readCells_arr (by rw [Heap.get_put,if_pos rfl]) (by simp),⟨_,rfl,⟨_,(sw_new (vs := [.slice (h.next + 1) 0 0 2 (.exact 2),.slice (h.next + 1 + 1) 0 0 2 (.exact 2),.slice (h.next + 1 + 1 + 1) 0 0 2 (.exact 2),.slice (h.next + 1 + 1 + 1 + 1) 0 0 2 (.exact 2)]) (sp := false) (by rw [Heap.get_put,if_neg (by omega)]; repeat (first | exact get_new .. | (rw [newCells_eq,Heap.get_push,if_neg (by simp only [next_new]; omega)]))) (by simp only [Heap.put,next_new]; omega) rfl).sl,rfl,fun i hi => ?_⟩⟩,((((((Ext.new ..).trans (Ext.new ..)).trans (Ext.new ..)).trans (Ext.new ..)).trans (Ext.new ..)).trans (Ext.new ..)).put _ (Nat.le_refl _)⟩
 have hi4 : i = 0 \/ i = 1 \/ i = 2 \/ i = 3 := by simp [fourCs] at hi; omega
 rcases hi4 with rfl | rfl | rfl | rfl
 ·exact (sw_new (o := h.next + 1) (vs := [.int .i32 1,.int .i32 2]) (sp := false) (by rw [Heap.get_put,if_neg (by omega)]; repeat (first | exact get_new .. | (rw [newCells_eq,Heap.get_push,if_neg (by simp only [next_new]; omega)]))) (by simp only [Heap.put,next_new]; omega) rfl).sl
 ·exact (sw_new (o := h.next + 1 + 1) (vs := [.int .i32 1,.int .i32 (-2)]) (sp := false) (by rw [Heap.get_put,if_neg (by omega)]; repeat (first | exact get_new .. | (rw [newCells_eq,Heap.get_push,if_neg (by simp only [next_new]; omega)]))) (by simp only [Heap.put,next_new]; omega) rfl).sl
 ·exact (sw_new (o := h.next + 1 + 1 + 1) (vs := [.int .i32 (-1),.int .i32 2]) (sp := false) (by rw [Heap.get_put,if_neg (by omega)]; repeat (first | exact get_new .. | (rw [newCells_eq,Heap.get_push,if_neg (by simp only [next_new]; omega)]))) (by simp only [Heap.put,next_new]; omega) rfl).sl
 ·exact (sw_new (o := h.next + 1 + 1 + 1 + 1) (vs := [.int .i32 (-1),.int .i32 (-2)]) (sp := false) (by rw [Heap.get_put,if_neg (by omega)]; repeat (first | exact get_new .. | (rw [newCells_eq,Heap.get_push,if_neg (by simp only [next_new]; omega)]))) (by simp only [Heap.put,next_new]; omega) rfl).sl
theorem add_ok {h : Heap} (id : Int) (lv hv : V) (hl : rowS lv = true) (hh : rowS hv = true) : EvCall xprog H0 19 [.int .i64 id,lv,hv] h fun v h' => v = .agg [.int .u8 1,.int .i64 id,lv,hv] /\ Ext h h' := by
 refine s_call (fn := xf19) rfl (free _ rfl ..) ?_
 simp -implicitDefEqProofs only [xf19,argsFrom_cons,argsFrom_nil]
 repeat' ((first | refine Z0 rfl ?_ | refine Z1 rfl ?_ | refine Z2 ?_ | refine Z3 ?_ | refine Z4 ?_ | refine Z5 ?_ | refine Z6 ?_ | refine Z7 ?_ | refine Z8 ?_ | refine Z9 (fun hif => ?_) (fun hif => ?_) | refine Za (fun hif => ?_) (fun hif => ?_) | refine Zb (fun hif => ?_) (fun hif => ?_) | (refine Zc ?_ ?_; omega) | (refine Zd ?_ ?_; omega) | (refine Ze ?_ ?_; omega) | ((refine ⟨_,writeAll (o := h.next) (cs := [.int .u8 0,.int .i64 0,.nils,.nils]) (by repeat (first | exact get_new .. | (rw [newCells_eq,Heap.get_push,if_neg (by simp only [next_new]; omega)]))) rfl (by rw [List.all_cons,List.all_cons,List.all_cons,List.all_cons,one_row hl,one_row hh]; rfl),?_⟩))) <;>
  (try simp -implicitDefEqProofs (disch := first | assumption | omega) only [sx,sb,sd,se,xwS,xwO,xwI,oEv,xres,o1f,Nat.reduceAdd,Nat.reduceEqDiff,Nat.reduceSub, ↓reduceIte,reduceCtorEq,si,sh,cellsOf_slice,fillV,parts,over,Nat.beq_refl,Nat.ble, *]))
 exact ⟨_,readCells_arr (by rw [Heap.get_put,if_pos rfl]) (by simp),rfl,(Ext.new ..).put _ (Nat.le_refl _)⟩
open Go.Xr Go.Chk
def LentC (b : Nat) (h : Heap) (v : V) (cs : List (List Int)) : Prop := ∃ vs : List V,Tk b h v vs /\ vs.length = cs.length /\ (∀ j (hj : j < cs.length),Tk b h (vs.getD j .nils) ((cs[j]).map (.int .i32)) /\ ∀ x,rOb (vs.getD j .nils) = some x -> rOb v ≠ some x) /\ ∀ i j x,i < j -> j < cs.length -> rOb (vs.getD i .nils) = some x -> rOb (vs.getD j .nils) ≠ some x
theorem LentC.cls {b : Nat} {h : Heap} {v : V} {cs : List (List Int)} (hc : LentC b h v cs) : Cls h v cs :=
 let ⟨vs,h1,h2,h3,_⟩ := hc
 ⟨vs,h1.sl,h2,fun i hi => (h3 i hi).1.sl⟩
theorem LentC.ext {b : Nat} {h h' : Heap} {v : V} {cs : List (List Int)} (hc : LentC b h v cs) (x : Ext h h') : LentC b h' v cs :=
 let ⟨vs,h1,h2,h3,h4⟩ := hc
 ⟨vs,h1.ext x,h2,fun i hi => ⟨(h3 i hi).1.ext x,(h3 i hi).2⟩,h4⟩
set_option maxHeartbeats 8000000 in
theorem lent_ok {h : Heap} {vars : Int} {cv : V} {cs : List (List Int)} (hc : Cls h cv cs) (hcl : cs.length <= 1000000) (hll : ∀ c ∈ cs,c.length <= 1000000) :
  EvCall xprog H0 6 [.agg [.int .i64 vars,cv]] h fun v h' => (∃ dv,v = .agg [.int .i64 vars,dv] /\ LentC h.next h' dv cs) /\ Ext h h' := by
 refine s_call (fn := xf6) rfl (free _ rfl ..) ?_
 generalize hH1 : nCs h [.int .i64 vars,cv] 1 false = H1
 have x1 : Ext h H1 := hH1 ▸ Ext.new ..
 have n1 : H1.next = h.next + 1 := by rw [<- hH1]; rfl
 have g1 : H1.get h.next = some (arr [.int .i64 vars,cv] 1 false) := by rw [<- hH1]; exact get_new ..
 generalize hH2 : nCs H1 [.int .i64 0,.nils] 1 false = H2
 have x2 : Ext H1 H2 := hH2 ▸ Ext.new ..
 have n2 : H2.next = h.next + 2 := by rw [<- hH2]; show H1.next + 1 = _; omega
 have g2 : H2.get (h.next + 1) = some (arr [.int .i64 0,.nils] 1 false) := by rw [<- hH2, <- n1]; exact get_new ..
 have g12 : H2.get h.next = some (arr [.int .i64 vars,cv] 1 false) := (x2.get h.next (by omega)).trans g1
 have xh := x1.trans x2
 obtain ⟨vs,hs,hvl,hcs⟩ := hc
 have ecv := hs.len
 have ercv := hs.row
 rw [hvl] at ecv
 clear g1
 simp -implicitDefEqProofs only [xf6,argsFrom_cons,argsFrom_nil]
 repeat' ((first | refine Z0 rfl ?_ | refine Z1 rfl ?_ | refine Z2 ?_ | refine Z3 ?_ | refine Z4 ?_ | refine Z5 ?_ | refine Z6 ?_ | refine Z7 ?_ | refine Z8 ?_ | refine Z9 (fun hif => ?_) (fun hif => ?_) | refine Za (fun hif => ?_) (fun hif => ?_) | refine Zb (fun hif => ?_) (fun hif => ?_) | (refine Zc ?_ ?_; omega) | (refine Zd ?_ ?_; omega) | (refine Ze ?_ ?_; omega)) <;>
  (try simp -implicitDefEqProofs (disch := first | assumption | omega) only [sx,sb,sd,se,xwS,xwO,xwI,oEv,xres,o1f,Nat.reduceAdd,Nat.reduceEqDiff,Nat.reduceSub, ↓reduceIte,reduceCtorEq,wrap_i64,n1,hH2, *]))
 refine s_while (fun n t d g => ∃ (i : Nat) (dv : V) (xs : List V),i + n = cs.length /\ sO t 4 = .int .i64 i /\ sO t 3 = dv /\ sO t 1 = .ptr h.next 0 0 /\ sO t 2 = .ptr (h.next + 1) 0 0 /\ d = [] /\ Ext H2 g /\ Tk (h.next + 2) g dv xs /\ xs.length = i /\ (∀ j (hj : j < cs.length),j < i -> Tk (h.next + 2) g (xs.getD j .nils) ((cs[j]).map (.int .i32)) /\ ∀ x,rOb (xs.getD j .nils) = some x -> rOb dv ≠ some x) /\ ∀ k j x,k < j -> j < i -> rOb (xs.getD k .nils) = some x -> rOb (xs.getD j .nils) ≠ some x) (fun _ _ _ => frC ..) cs.length ⟨0,.nils,[],by omega,by simp [sSe],by simp [sSe],by simp [sSe],by simp [sSe],rfl,Ext.refl _,Tk.nil _ _,rfl,fun j _ hj => by omega,fun k j x _ hj => by omega⟩ ?_
 rintro n t d g ⟨i,dv,xs,b1,a4,a3,a1,a2,rfl,xg,tk,hxl,hall',hdis'⟩
 have hall : Kept (∀ j (hj : j < cs.length),j < i -> Tk (h.next + 2) g (xs.getD j .nils) ((cs[j]).map (.int .i32)) /\ ∀ x,rOb (xs.getD j .nils) = some x -> rOb dv ≠ some x) := hall'
 have hdis : Kept (∀ k j x,k < j -> j < i -> rOb (xs.getD k .nils) = some x -> rOb (xs.getD j .nils) ≠ some x) := hdis'
 clear hall' hdis'
 have wdv := tk.row
 have gg1 := (xg.get h.next (by omega)).trans g12
 have gg2 := (xg.get (h.next + 1) (by omega)).trans g2
 have rq0 : rCs g h.next 0 0 2 = some [.int .i64 vars,cv] := readCells_arr gg1 (by simp)
 have rq := rCl (off := 1) gg1 rfl
 have rc : i < cs.length -> rCs g (objS cv) (genS cv) (offS cv + i) 1 = some [vs.getD i .nils] := fun hi => (hs.ext (xh.trans xg)).at (by simp [show i < vs.length by omega])
 have hsi : ∀ (hi : i < cs.length),Sl g (vs.getD i .nils) ((cs[i]).map (.int .i32)) := fun hi => (hcs i hi).ext (xh.trans xg)
 have hli : ∀ (hi : i < cs.length),(cs[i]).length <= 1000000 := fun hi => hll _ (List.getElem_mem hi)
 repeat' ((first | refine Z0 rfl ?_ | refine Z1 rfl ?_ | refine Z2 ?_ | refine Z3 ?_ | refine Z4 ?_ | refine Z5 ?_ | refine Z6 ?_ | refine Z7 ?_ | refine Z8 ?_ | refine Z9 (fun hif => ?_) (fun hif => ?_) | refine Za (fun hif => ?_) (fun hif => ?_) | refine Zb (fun hif => ?_) (fun hif => ?_) | (refine Zc ?_ ?_; omega) | (refine Zd ?_ ?_; omega) | (refine Ze ?_ ?_; omega) | ((refine x_append_tk (Tk.nil g.next g) (Nat.le_refl _) (hsi (by omega)) (one_map _ _) (by have := hli (by omega); simp; omega) ?_; rintro w g3 w1 u1 e1; have y3 : Ext g g3 := (Ext.refl g).butI u1 (fun o _ q => by cases q); have wr := w1.row)) | ((refine x_append_tk ((tk.ext y3).ext (Ext.new ..)) (by have := y3.next; have := xg.next; simp only [next_new]; omega) (sl_new (get_new ..) (by simp)) (by simp [one_row wr]) (by simp; omega) ?_; rintro ov2 g4 k2 u2 e2)) | ((refine st_step (cs := [.int .i64 vars,cv]) (sp := false) gg1 (by simp) (one_row tk.row) ?_; intro g5 gq5 n5 f5; have rq5 : rCs g5 h.next 0 0 2 = some [.int .i64 vars,dv] := readCells_arr gq5 (by simp))) | ((refine ⟨_,writeAll (o := h.next + 1) (cs := [.int .i64 0,.nils]) ((f5 (h.next + 1) (by omega)).trans gg2) rfl (by rw [List.all_cons,List.all_cons,one_row tk.row]; rfl),?_⟩))) <;>
  (try simp -implicitDefEqProofs (disch := first | assumption | omega) only [sx,sb,sd,se,xwS,xwO,xwI,oEv,xres,o1f,Nat.reduceAdd,Nat.reduceEqDiff,Nat.reduceSub, ↓reduceIte,reduceCtorEq,si,sh,sf,cellsOf_slice,fillV,parts,over,Nat.beq_refl,Nat.ble, *]))
 all_goals
  have hall : ∀ j (hj : j < cs.length),j < i -> Tk (h.next + 2) g (xs.getD j .nils) ((cs[j]).map (.int .i32)) /\ ∀ x,rOb (xs.getD j .nils) = some x -> rOb dv ≠ some x := hall
  have hdis : ∀ k j x,k < j -> j < i -> rOb (xs.getD k .nils) = some x -> rOb (xs.getD j .nils) ≠ some x := hdis
 ·have un := u2.next
  rw [next_new] at un
  have yn := y3.next
  have xn := xg.next
  have hG : ∀ y,y < g3.next -> rOb dv ≠ some y -> g4.get y = g3.get y := fun y q1 q3 => (u2.get y (by rw [next_new]; omega) q3).trans ((Ext.new ..).get y q1)
  have hnr : ∀ x,x < g3.next -> rOb dv ≠ some x -> rOb ov2 ≠ some x := fun x q1 q2 q3 => by
   rcases e2 with e | e | e
   ·exact q2 (e ▸ q3)
   ·exact q2 (e ▸ q3)
   ·rw [q3] at e
    cases e
    rw [next_new] at q1
    omega
  have old : ∀ j,j < xs.length -> (xs ++ [w]).getD j .nils = xs.getD j .nils := fun j hj => by simp [List.getD_eq_getElem?_getD,List.getElem?_append_left hj]
  have new : (xs ++ [w]).getD i .nils = w := by simp [List.getD_eq_getElem?_getD, <- hxl]
  refine ⟨n - 1,by omega,i + 1,ov2,xs ++ [w],by omega,by simp,rfl,(xg.trans (y3.trans (Ext.new ..))).butI u2 (fun o ho q => by have := tk.lt q; omega),k2,by simp; omega,fun j hj hlt => ?_,fun k j x hkj hlt hx => ?_⟩
  ·rcases Nat.lt_succ_iff_lt_or_eq.1 hlt with hji | rfl
   ·rw [old j (by omega)]
    obtain ⟨q1,q2⟩ := hall j hj hji
    exact ⟨(q1.ext y3).frame (by omega) fun x hx => hG x (by have := q1.lt hx; omega) (q2 x hx),fun x hx => hnr x (by have := q1.lt hx; omega) (q2 x hx)⟩
   ·rw [new]
    have w1' : Tk (h.next + 2) g3 w ((cs[j]).map (.int .i32)) := (w1.low (by omega) : Tk (h.next + 2) g3 w ([] ++ (cs[j]).map (.int .i32)))
    refine ⟨w1'.frame (by omega) fun x hx => hG x (w1.lt hx).2 fun e => by have := tk.lt e; have := w1.lt hx; omega,fun x hx => hnr x (w1.lt hx).2 fun e => by have := tk.lt e; have := w1.lt hx; omega⟩
  ·rw [old k (by omega)] at hx
   rcases Nat.lt_succ_iff_lt_or_eq.1 hlt with hji | rfl
   ·rw [old j (by omega)]
    exact hdis k j x hkj hji hx
   ·rw [new]
    intro e
    have := (hall k (by omega) (by omega)).1.lt hx
    have := w1.lt e
    omega
 ·have hi : i = cs.length := by omega
  have hp : ∀ x,x ≠ h.next -> x ≠ h.next + 1 -> (g5.put (h.next + 1) (arr [.int .i64 vars,dv] 1 false)).get x = g.get x := fun x q1 q2 => by
   rw [Heap.get_put,if_neg q2]
   exact f5 x q1
  have hn : (g5.put (h.next + 1) (arr [.int .i64 vars,dv] 1 false)).next = g.next := n5
  have hfr : ∀ {v : V} {ys : List V},Tk (h.next + 2) g v ys -> Tk h.next (g5.put (h.next + 1) (arr [.int .i64 vars,dv] 1 false)) v ys := fun q => (q.frame (by omega) fun x hx => hp x (by have := q.lt hx; omega) (by have := q.lt hx; omega)).low (by omega)
  refine ⟨_,readCells_arr (by rw [Heap.get_put,if_pos rfl]) (by simp),⟨dv,rfl,xs,hfr tk,by omega,fun j hj => ⟨hfr (hall j hj (by omega)).1,(hall j hj (by omega)).2⟩,fun k j x h1 h2 h3 => hdis k j x h1 (by omega) h3⟩,⟨by have := xg.next; have := xh.next; omega,fun y hy => (hp y (by omega) (by omega)).trans ((xg.get y (by have := xh.next; omega)).trans (xh.get y hy))⟩⟩
end Go.Proofs.YtmkbnbpblhoekaaGreat
